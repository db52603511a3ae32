import Derived.Test.YtnpeakahiedeoaaGreatDoorQL0
import Derived.Test.YtnpeakahiedeoaaGreatDoorQM3
import Derived.Deep.Cut
import Derived.Deep.LoopGhost
import Derived.Deep.DeepCutAuto
namespace Go.Proofs.YtnpeakahiedeoaaGreatDoor
open Go.RowKit Go BigFrame
set_option maxRecDepth 100000
set_option linter.unusedSimpArgs false
set_option linter.unusedVariables false

/-! law10.sane. -/
theorem szq {r : Rat} (h : r.num.natAbs < 1073741824 ∧ r.den < 1073741824) : Sz r 1 := ⟨by rw [Nat.pow_one]; exact h.1, by rw [Nat.pow_one]; exact h.2⟩
theorem saneT4 : textR (Rat.divInt 4 1) = ⟨#[52]⟩ := by
  unfold textR
  rw [if_pos (by decide +kernel), show (Rat.divInt 4 1).num = 4 by decide, text_read (z := 4) (l := [52]) (by decide +kernel)]
theorem saneT3 : textR (Rat.divInt 6 (-4)) = ⟨#[45, 51, 47, 50]⟩ := by
  unfold textR
  rw [if_neg (by decide +kernel), show (Rat.divInt 6 (-4)).num = -3 by decide, show (((Rat.divInt 6 (-4)).den : Nat) : Int) = 2 by decide, text_read (z := -3) (l := [45, 51]) (by decide +kernel), text_read (z := 2) (l := [50]) (by decide +kernel)]
  rfl
theorem saneL {r : Rat} (a b : List UInt8) (h1 : readL a = some r.num) (h2 : readL b = some (r.den : Int)) (h3 : a.length ≤ 1000 ∧ b.length ≤ 1000) : (txtL r.num).length ≤ 1000 ∧ (txtL (r.den : Int)).length ≤ 1000 := by
  rw [text_read h1, text_read h2]; exact h3
theorem chk_zero (W : World) : Calls Tryz.prog 18 #[zeroRat] W fun e w' => e = .returned (.int .i64 100) ∧ Ext W w' := by
  have hn : Ints W none 0 [] := ⟨Nat.le_refl _, by omega, fun _ => rfl, fun A hA => by cases hA⟩
  exact ratio_Check false false none none 0 0 [] [] W hn hn
theorem ratio_check_val {v : Value} {r : Rat} {w : World} (hv : RatV w v r) (l1 : Len r.num) (l2 : Len (r.den : Int)) : Calls Tryz.prog 18 #[v] w fun e w' => e = .returned (.int .i64 0) ∧ Ext w w' := by
  obtain ⟨nx, ax, qx, cx, bx, kx, dx, rfl⟩ := hv.form
  obtain ⟨l, rfl, hi, hb⟩ := hv.num.parts
  obtain ⟨m, rfl, hj, hc⟩ := hv.den.parts
  have := ratio_Check nx false ax bx cx dx l m w hi hj
  rw [big_okR hb hc l1 l2] at this
  exact this
def badT : List ByteArray := [⟨#[52, 47, 50]⟩, ⟨#[50, 47, 49]⟩, ⟨#[49, 47, 45, 50]⟩, ⟨#[]⟩, ⟨#[49, 47]⟩, ⟨#[47, 50]⟩]
theorem badT_none : ∀ s ∈ badT, s.size ≤ 1000 ∧ readR s.data.toList = none := by
  intro s hs
  simp only [badT, List.mem_cons, List.not_mem_nil, or_false] at hs
  rcases hs with rfl | rfl | rfl | rfl | rfl | rfl <;> exact ⟨by decide, by decide⟩
set_option maxHeartbeats 8000000 in
theorem law10_sane (w : World) : Calls Tryz.prog 10 #[] w fun e w' => e = .returned (.bool true) ∧ Ext w w' := by
  have hx : Ext w w := Ext.refl w
  go_enter Tryz.func10, Tryz.ntmps10
  go_upto_region 1 with fail
  have hs0 := hx.size
  have hsz := hx.size
  go_wp2_with fail
  with_reducible refine (law_small 1 2 _ (by omega) (by omega) (by decide +kernel)).mono ?_
  rintro e x1 ⟨v, rfl, hv, hy⟩
  replace hx := hx.trans hy
  clear hy
  obtain ⟨nh, ah, qh, ch, bh, kh, dh, rfl, hv', hf', hg'⟩ := hv
  have Vh := Lib.hid hv'
  have Fh := Lib.hid (fun A hA => Nat.le_trans hsz (hf' A hA))
  have Gh := Lib.hid (fun A hA => Nat.le_trans hsz (hg' A hA))
  clear hv' hf' hg' hsz
  clear Fh Gh
  go_upto_region 2 with fail
  have hl := Ext.alloc x1 (.cells #[.bool nh, .slice ah qh ch, .bool false, .slice bh kh dh] 26)
  have hph : w.heap.size ≤ x1.heap.size := hx.size
  replace hx := hx.trans hl
  replace Vh := Lib.hid (Vh.out.ext hl)
  have Kh := Lib.hid (Blk.new0 x1 #[.bool nh, .slice ah qh ch, .bool false, .slice bh kh dh] 26)
  clear hl
  generalize x1.alloc (.cells #[.bool nh, .slice ah qh ch, .bool false, .slice bh kh dh] 26) = x2 at *
  generalize x1.heap.size = ph at *
  have hsz := hx.size
  go_wp2_with fail
  with_reducible refine (law_small 1 3 _ (by omega) (by omega) (by decide +kernel)).mono ?_
  rintro e x3 ⟨v, rfl, hv, hy⟩
  replace hx := hx.trans hy
  replace Kh := kE Kh hy
  replace Vh := Lib.hid (Vh.out.ext hy)
  clear hy
  obtain ⟨nu, au, qu, cu, bu, ku, du, rfl, hv', hf', hg'⟩ := hv
  have Vu := Lib.hid hv'
  have Fu := Lib.hid (fun A hA => Nat.le_trans hsz (hf' A hA))
  have Gu := Lib.hid (fun A hA => Nat.le_trans hsz (hg' A hA))
  clear hv' hf' hg' hsz
  clear Fu Gu
  go_upto_region 3 with fail
  have hl := Ext.alloc x3 (.cells #[.bool nu, .slice au qu cu, .bool false, .slice bu ku du] 26)
  have lhu : ph < x3.heap.size := Kh.out.lt
  have hpu : w.heap.size ≤ x3.heap.size := hx.size
  replace hx := hx.trans hl
  replace Kh := kE Kh hl
  replace Vh := Lib.hid (Vh.out.ext hl)
  replace Vu := Lib.hid (Vu.out.ext hl)
  have Ku := Lib.hid (Blk.new0 x3 #[.bool nu, .slice au qu cu, .bool false, .slice bu ku du] 26)
  clear hl
  generalize x3.alloc (.cells #[.bool nu, .slice au qu cu, .bool false, .slice bu ku du] 26) = x4 at *
  generalize x3.heap.size = pu at *
  have hsz := hx.size
  go_wp2_with fail
  with_reducible refine (law_small 0 5 _ (by omega) (by omega) (by decide +kernel)).mono ?_
  rintro e x5 ⟨v, rfl, hv, hy⟩
  replace hx := hx.trans hy
  replace Kh := kE Kh hy
  replace Ku := kE Ku hy
  replace Vh := Lib.hid (Vh.out.ext hy)
  replace Vu := Lib.hid (Vu.out.ext hy)
  clear hy
  rw [show Rat.divInt 0 5 = 0 by decide +kernel] at hv
  obtain ⟨nz, az, qz, cz, bz, kz, dz, rfl, hv', hf', hg'⟩ := hv
  have Vz := Lib.hid hv'
  have Fz := Lib.hid (fun A hA => Nat.le_trans hsz (hf' A hA))
  have Gz := Lib.hid (fun A hA => Nat.le_trans hsz (hg' A hA))
  clear hv' hf' hg' hsz
  clear Fz Gz
  go_upto_region 4 with fail
  have hl := Ext.alloc x5 (.cells #[.bool nz, .slice az qz cz, .bool false, .slice bz kz dz] 26)
  have lhz : ph < x5.heap.size := Kh.out.lt
  have luz : pu < x5.heap.size := Ku.out.lt
  have hpz : w.heap.size ≤ x5.heap.size := hx.size
  replace hx := hx.trans hl
  replace Kh := kE Kh hl
  replace Ku := kE Ku hl
  replace Vh := Lib.hid (Vh.out.ext hl)
  replace Vu := Lib.hid (Vu.out.ext hl)
  replace Vz := Lib.hid (Vz.out.ext hl)
  have Kz := Lib.hid (Blk.new0 x5 #[.bool nz, .slice az qz cz, .bool false, .slice bz kz dz] 26)
  clear hl
  generalize x5.alloc (.cells #[.bool nz, .slice az qz cz, .bool false, .slice bz kz dz] 26) = x6 at *
  generalize x5.heap.size = pz at *
  have hsz := hx.size
  go_wp2_with fail
  with_reducible refine (ratio_Make 6 (-4) _ (by omega) (by omega) (by decide +kernel)).mono ?_
  rintro e x7 ⟨v, rfl, hv, hy⟩
  replace hx := hx.trans hy
  replace Kh := kE Kh hy
  replace Ku := kE Ku hy
  replace Kz := kE Kz hy
  replace Vh := Lib.hid (Vh.out.ext hy)
  replace Vu := Lib.hid (Vu.out.ext hy)
  replace Vz := Lib.hid (Vz.out.ext hy)
  clear hy
  obtain ⟨nx, ax, qx, cx, bx, kx, dx, rfl, hv', hf', hg'⟩ := hv
  have Vx := Lib.hid hv'
  have Fx := Lib.hid (fun A hA => Nat.le_trans hsz (hf' A hA))
  have Gx := Lib.hid (fun A hA => Nat.le_trans hsz (hg' A hA))
  clear hv' hf' hg' hsz
  clear Fx Gx
  go_upto_region 5 with fail
  have hl := Ext.alloc x7 (.cells #[.bool nx, .slice ax qx cx, .bool false, .slice bx kx dx] 26)
  have lhx : ph < x7.heap.size := Kh.out.lt
  have lux : pu < x7.heap.size := Ku.out.lt
  have lzx : pz < x7.heap.size := Kz.out.lt
  have hpx : w.heap.size ≤ x7.heap.size := hx.size
  replace hx := hx.trans hl
  replace Kh := kE Kh hl
  replace Ku := kE Ku hl
  replace Kz := kE Kz hl
  replace Vh := Lib.hid (Vh.out.ext hl)
  replace Vu := Lib.hid (Vu.out.ext hl)
  replace Vz := Lib.hid (Vz.out.ext hl)
  replace Vx := Lib.hid (Vx.out.ext hl)
  have Kx := Lib.hid (Blk.new0 x7 #[.bool nx, .slice ax qx cx, .bool false, .slice bx kx dx] 26)
  clear hl
  generalize x7.alloc (.cells #[.bool nx, .slice ax qx cx, .bool false, .slice bx kx dx] 26) = x8 at *
  generalize x7.heap.size = px at *
  go_wp2_with fail
  with_reducible refine (ratio_Make_zero 1 _ (by omega)).mono ?_
  rintro e x9 ⟨rfl, hy⟩
  replace hx := hx.trans hy
  replace Kh := kE Kh hy
  replace Ku := kE Ku hy
  replace Kz := kE Kz hy
  replace Kx := kE Kx hy
  replace Vh := Lib.hid (Vh.out.ext hy)
  replace Vu := Lib.hid (Vu.out.ext hy)
  replace Vz := Lib.hid (Vz.out.ext hy)
  replace Vx := Lib.hid (Vx.out.ext hy)
  clear hy
  go_upto_region 6 with fail
  have hl := Ext.alloc x9 (.cells #[.bool false, .slice none 0 0, .bool false, .slice none 0 0] 26)
  have lhk : ph < x9.heap.size := Kh.out.lt
  have luk : pu < x9.heap.size := Ku.out.lt
  have lzk : pz < x9.heap.size := Kz.out.lt
  have lxk : px < x9.heap.size := Kx.out.lt
  have hpk : w.heap.size ≤ x9.heap.size := hx.size
  replace hx := hx.trans hl
  replace Kh := kE Kh hl
  replace Ku := kE Ku hl
  replace Kz := kE Kz hl
  replace Kx := kE Kx hl
  replace Vh := Lib.hid (Vh.out.ext hl)
  replace Vu := Lib.hid (Vu.out.ext hl)
  replace Vz := Lib.hid (Vz.out.ext hl)
  replace Vx := Lib.hid (Vx.out.ext hl)
  have Kk := Lib.hid (Blk.new0 x9 #[.bool false, .slice none 0 0, .bool false, .slice none 0 0] 26)
  clear hl
  generalize x9.alloc (.cells #[.bool false, .slice none 0 0, .bool false, .slice none 0 0] 26) = x10 at *
  generalize x9.heap.size = pk at *
  clear Kk
  obtain ⟨ch0, ch1, ch2, ch3⟩ := bk4 Kh
  obtain ⟨cu0, cu1, cu2, cu3⟩ := bk4 Ku
  have hsz := hx.size
  go_wp2_with fail
  with_reducible refine (ratio_Add Vh.out Vu.out (szq (r := Rat.divInt 1 2) (by decide +kernel)) (szq (r := Rat.divInt 1 3) (by decide +kernel)) (by omega)).mono ?_
  clear ch0 ch1 ch2 ch3 cu0 cu1 cu2 cu3
  rintro e x11 ⟨v, rfl, hv, hy⟩
  replace hx := hx.trans hy
  replace Kh := kE Kh hy
  replace Ku := kE Ku hy
  replace Kz := kE Kz hy
  replace Kx := kE Kx hy
  replace Vh := Lib.hid (Vh.out.ext hy)
  replace Vu := Lib.hid (Vu.out.ext hy)
  replace Vz := Lib.hid (Vz.out.ext hy)
  replace Vx := Lib.hid (Vx.out.ext hy)
  clear hy
  obtain ⟨nj, aj, qj, cj, bj, kj, dj, rfl, hv', hf', hg'⟩ := hv
  have Vj := Lib.hid hv'
  have Fj := Lib.hid (fun A hA => Nat.le_trans hsz (hf' A hA))
  have Gj := Lib.hid (fun A hA => Nat.le_trans hsz (hg' A hA))
  clear hv' hf' hg' hsz
  clear Fj Gj
  go_upto_region 7 with fail
  have hl := Ext.alloc x11 (.cells #[.bool nj, .slice aj qj cj, .bool false, .slice bj kj dj] 26)
  have lhj : ph < x11.heap.size := Kh.out.lt
  have luj : pu < x11.heap.size := Ku.out.lt
  have lzj : pz < x11.heap.size := Kz.out.lt
  have lxj : px < x11.heap.size := Kx.out.lt
  have hpj : w.heap.size ≤ x11.heap.size := hx.size
  replace hx := hx.trans hl
  replace Kh := kE Kh hl
  replace Ku := kE Ku hl
  replace Kz := kE Kz hl
  replace Kx := kE Kx hl
  replace Vh := Lib.hid (Vh.out.ext hl)
  replace Vu := Lib.hid (Vu.out.ext hl)
  replace Vz := Lib.hid (Vz.out.ext hl)
  replace Vx := Lib.hid (Vx.out.ext hl)
  replace Vj := Lib.hid (Vj.out.ext hl)
  have Kj := Lib.hid (Blk.new0 x11 #[.bool nj, .slice aj qj cj, .bool false, .slice bj kj dj] 26)
  clear hl
  generalize x11.alloc (.cells #[.bool nj, .slice aj qj cj, .bool false, .slice bj kj dj] 26) = x12 at *
  generalize x11.heap.size = pj at *
  obtain ⟨ch0, ch1, ch2, ch3⟩ := bk4 Kh
  obtain ⟨cu0, cu1, cu2, cu3⟩ := bk4 Ku
  have hsz := hx.size
  go_wp2_with fail
  with_reducible refine (ratio_Sub Vu.out Vh.out (szq (r := Rat.divInt 1 3) (by decide +kernel)) (szq (r := Rat.divInt 1 2) (by decide +kernel)) (by omega)).mono ?_
  clear ch0 ch1 ch2 ch3 cu0 cu1 cu2 cu3
  rintro e x13 ⟨v, rfl, hv, hy⟩
  replace hx := hx.trans hy
  replace Kh := kE Kh hy
  replace Ku := kE Ku hy
  replace Kz := kE Kz hy
  replace Kx := kE Kx hy
  replace Kj := kE Kj hy
  replace Vh := Lib.hid (Vh.out.ext hy)
  replace Vu := Lib.hid (Vu.out.ext hy)
  replace Vz := Lib.hid (Vz.out.ext hy)
  replace Vx := Lib.hid (Vx.out.ext hy)
  replace Vj := Lib.hid (Vj.out.ext hy)
  clear hy
  obtain ⟨nl, al, ql, cl, bl, kl, dl, rfl, hv', hf', hg'⟩ := hv
  have Vl := Lib.hid hv'
  have Fl := Lib.hid (fun A hA => Nat.le_trans hsz (hf' A hA))
  have Gl := Lib.hid (fun A hA => Nat.le_trans hsz (hg' A hA))
  clear hv' hf' hg' hsz
  clear Fl Gl
  go_upto_region 8 with fail
  have hl := Ext.alloc x13 (.cells #[.bool nl, .slice al ql cl, .bool false, .slice bl kl dl] 26)
  have lhl : ph < x13.heap.size := Kh.out.lt
  have lul : pu < x13.heap.size := Ku.out.lt
  have lzl : pz < x13.heap.size := Kz.out.lt
  have lxl : px < x13.heap.size := Kx.out.lt
  have ljl : pj < x13.heap.size := Kj.out.lt
  have hpl : w.heap.size ≤ x13.heap.size := hx.size
  replace hx := hx.trans hl
  replace Kh := kE Kh hl
  replace Ku := kE Ku hl
  replace Kz := kE Kz hl
  replace Kx := kE Kx hl
  replace Kj := kE Kj hl
  replace Vh := Lib.hid (Vh.out.ext hl)
  replace Vu := Lib.hid (Vu.out.ext hl)
  replace Vz := Lib.hid (Vz.out.ext hl)
  replace Vx := Lib.hid (Vx.out.ext hl)
  replace Vj := Lib.hid (Vj.out.ext hl)
  replace Vl := Lib.hid (Vl.out.ext hl)
  have Kl := Lib.hid (Blk.new0 x13 #[.bool nl, .slice al ql cl, .bool false, .slice bl kl dl] 26)
  clear hl
  generalize x13.alloc (.cells #[.bool nl, .slice al ql cl, .bool false, .slice bl kl dl] 26) = x14 at *
  generalize x13.heap.size = pl at *
  obtain ⟨ch0, ch1, ch2, ch3⟩ := bk4 Kh
  obtain ⟨cz0, cz1, cz2, cz3⟩ := bk4 Kz
  go_wp2_with fail
  with_reducible refine (ratio_Quo_arg Vh.out Vz.out ((szq (r := Rat.divInt 1 2) (by decide +kernel)).lenN (by omega)) ((szq (r := Rat.divInt 1 2) (by decide +kernel)).lenD (by omega))).mono ?_
  clear ch0 ch1 ch2 ch3 cz0 cz1 cz2 cz3
  rintro e x15 ⟨rfl, hy⟩
  replace hx := hx.trans hy
  replace Kh := kE Kh hy
  replace Ku := kE Ku hy
  replace Kz := kE Kz hy
  replace Kx := kE Kx hy
  replace Kj := kE Kj hy
  replace Kl := kE Kl hy
  replace Vh := Lib.hid (Vh.out.ext hy)
  replace Vu := Lib.hid (Vu.out.ext hy)
  replace Vz := Lib.hid (Vz.out.ext hy)
  replace Vx := Lib.hid (Vx.out.ext hy)
  replace Vj := Lib.hid (Vj.out.ext hy)
  replace Vl := Lib.hid (Vl.out.ext hy)
  clear hy
  go_upto_region 9 with fail
  have hl := Ext.alloc x15 (.cells #[.bool false, .slice none 0 0, .bool false, .slice none 0 0] 26)
  have lhm : ph < x15.heap.size := Kh.out.lt
  have lum : pu < x15.heap.size := Ku.out.lt
  have lzm : pz < x15.heap.size := Kz.out.lt
  have lxm : px < x15.heap.size := Kx.out.lt
  have ljm : pj < x15.heap.size := Kj.out.lt
  have llm : pl < x15.heap.size := Kl.out.lt
  have hpm : w.heap.size ≤ x15.heap.size := hx.size
  replace hx := hx.trans hl
  replace Kh := kE Kh hl
  replace Ku := kE Ku hl
  replace Kz := kE Kz hl
  replace Kx := kE Kx hl
  replace Kj := kE Kj hl
  replace Kl := kE Kl hl
  replace Vh := Lib.hid (Vh.out.ext hl)
  replace Vu := Lib.hid (Vu.out.ext hl)
  replace Vz := Lib.hid (Vz.out.ext hl)
  replace Vx := Lib.hid (Vx.out.ext hl)
  replace Vj := Lib.hid (Vj.out.ext hl)
  replace Vl := Lib.hid (Vl.out.ext hl)
  have Km := Lib.hid (Blk.new0 x15 #[.bool false, .slice none 0 0, .bool false, .slice none 0 0] 26)
  clear hl
  generalize x15.alloc (.cells #[.bool false, .slice none 0 0, .bool false, .slice none 0 0] 26) = x16 at *
  generalize x15.heap.size = pm at *
  clear Km
  obtain ⟨cu0, cu1, cu2, cu3⟩ := bk4 Ku
  obtain ⟨ch0, ch1, ch2, ch3⟩ := bk4 Kh
  go_wp2_with fail
  with_reducible refine (ratio_Cmp Vu.out Vh.out (szq (r := Rat.divInt 1 3) (by decide +kernel)) (szq (r := Rat.divInt 1 2) (by decide +kernel)) (by omega)).mono ?_
  clear cu0 cu1 cu2 cu3 ch0 ch1 ch2 ch3
  rintro e x17 ⟨rfl, hy⟩
  replace hx := hx.trans hy
  replace Kh := kE Kh hy
  replace Ku := kE Ku hy
  replace Kz := kE Kz hy
  replace Kx := kE Kx hy
  replace Kj := kE Kj hy
  replace Kl := kE Kl hy
  replace Vh := Lib.hid (Vh.out.ext hy)
  replace Vu := Lib.hid (Vu.out.ext hy)
  replace Vz := Lib.hid (Vz.out.ext hy)
  replace Vx := Lib.hid (Vx.out.ext hy)
  replace Vj := Lib.hid (Vj.out.ext hy)
  replace Vl := Lib.hid (Vl.out.ext hy)
  clear hy
  rw [show cmpR (Rat.divInt 1 3) (Rat.divInt 1 2) = -1 by decide +kernel]
  go_upto_region 10 with fail
  have hsz := hx.size
  go_wp2_with fail
  with_reducible refine (ratio_Make 4 1 _ (by omega) (by omega) (by decide +kernel)).mono ?_
  rintro e x18 ⟨v, rfl, hv, hy⟩
  replace hx := hx.trans hy
  replace Kh := kE Kh hy
  replace Ku := kE Ku hy
  replace Kz := kE Kz hy
  replace Kx := kE Kx hy
  replace Kj := kE Kj hy
  replace Kl := kE Kl hy
  replace Vh := Lib.hid (Vh.out.ext hy)
  replace Vu := Lib.hid (Vu.out.ext hy)
  replace Vz := Lib.hid (Vz.out.ext hy)
  replace Vx := Lib.hid (Vx.out.ext hy)
  replace Vj := Lib.hid (Vj.out.ext hy)
  replace Vl := Lib.hid (Vl.out.ext hy)
  clear hy
  obtain ⟨nf, af, qf, cf, bf, kf, df, rfl, hv', hf', hg'⟩ := hv
  have Vf := Lib.hid hv'
  have Ff := Lib.hid (fun A hA => Nat.le_trans hsz (hf' A hA))
  have Gf := Lib.hid (fun A hA => Nat.le_trans hsz (hg' A hA))
  clear hv' hf' hg' hsz
  clear Ff Gf
  go_upto_region 11 with fail
  have hl := Ext.alloc x18 (.cells #[.bool nf, .slice af qf cf, .bool false, .slice bf kf df] 26)
  have lhf : ph < x18.heap.size := Kh.out.lt
  have luf : pu < x18.heap.size := Ku.out.lt
  have lzf : pz < x18.heap.size := Kz.out.lt
  have lxf : px < x18.heap.size := Kx.out.lt
  have ljf : pj < x18.heap.size := Kj.out.lt
  have llf : pl < x18.heap.size := Kl.out.lt
  have hpf : w.heap.size ≤ x18.heap.size := hx.size
  replace hx := hx.trans hl
  replace Kh := kE Kh hl
  replace Ku := kE Ku hl
  replace Kz := kE Kz hl
  replace Kx := kE Kx hl
  replace Kj := kE Kj hl
  replace Kl := kE Kl hl
  replace Vh := Lib.hid (Vh.out.ext hl)
  replace Vu := Lib.hid (Vu.out.ext hl)
  replace Vz := Lib.hid (Vz.out.ext hl)
  replace Vx := Lib.hid (Vx.out.ext hl)
  replace Vj := Lib.hid (Vj.out.ext hl)
  replace Vl := Lib.hid (Vl.out.ext hl)
  replace Vf := Lib.hid (Vf.out.ext hl)
  have Kf := Lib.hid (Blk.new0 x18 #[.bool nf, .slice af qf cf, .bool false, .slice bf kf df] 26)
  clear hl
  generalize x18.alloc (.cells #[.bool nf, .slice af qf cf, .bool false, .slice bf kf df] 26) = x19 at *
  generalize x18.heap.size = pf at *
  obtain ⟨cf0, cf1, cf2, cf3⟩ := bk4 Kf
  go_wp2_with fail
  with_reducible refine (ratio_Text Vf.out (len_small (by decide +kernel)) (len_small (by decide +kernel)) (saneL [52] [49] (by decide +kernel) (by decide +kernel) (by decide +kernel))).mono ?_
  clear cf0 cf1 cf2 cf3
  rintro e x20 ⟨rfl, hy⟩
  replace hx := hx.trans hy
  replace Kh := kE Kh hy
  replace Ku := kE Ku hy
  replace Kz := kE Kz hy
  replace Kx := kE Kx hy
  replace Kj := kE Kj hy
  replace Kl := kE Kl hy
  replace Kf := kE Kf hy
  replace Vh := Lib.hid (Vh.out.ext hy)
  replace Vu := Lib.hid (Vu.out.ext hy)
  replace Vz := Lib.hid (Vz.out.ext hy)
  replace Vx := Lib.hid (Vx.out.ext hy)
  replace Vj := Lib.hid (Vj.out.ext hy)
  replace Vl := Lib.hid (Vl.out.ext hy)
  replace Vf := Lib.hid (Vf.out.ext hy)
  clear hy
  rw [saneT4]
  go_upto_region 12 with fail
  clear Vf Vu
  clear Kf Ku
  obtain ⟨cx0, cx1, cx2, cx3⟩ := bk4 Kx
  go_wp2_with fail
  with_reducible refine (ratio_Text Vx.out (len_small (by decide +kernel)) (len_small (by decide +kernel)) (saneL [45, 51] [50] (by decide +kernel) (by decide +kernel) (by decide +kernel))).mono ?_
  clear cx0 cx1 cx2 cx3
  rintro e x21 ⟨rfl, hy⟩
  replace hx := hx.trans hy
  replace Kh := kE Kh hy
  replace Kz := kE Kz hy
  replace Kx := kE Kx hy
  replace Kj := kE Kj hy
  replace Kl := kE Kl hy
  replace Vh := Lib.hid (Vh.out.ext hy)
  replace Vz := Lib.hid (Vz.out.ext hy)
  replace Vx := Lib.hid (Vx.out.ext hy)
  replace Vj := Lib.hid (Vj.out.ext hy)
  replace Vl := Lib.hid (Vl.out.ext hy)
  clear hy
  rw [saneT3]
  go_upto_region 13 with fail
  have HRD := Lib.hid (fun W => show Calls Tryz.prog 22 #[.string ⟨#[45, 51, 47, 50]⟩] W (RatP (Rat.divInt (-3) 2) W) from (ratio_Read ⟨#[45, 51, 47, 50]⟩ W (by decide +kernel)).mono fun e w' h => h.2 _ (by decide +kernel))
  have hsz := hx.size
  go_wp2_with fail
  with_reducible refine (HRD.out _).mono ?_
  rintro e x22 ⟨v, rfl, hv, hy⟩
  replace hx := hx.trans hy
  replace Kh := kE Kh hy
  replace Kz := kE Kz hy
  replace Kx := kE Kx hy
  replace Kj := kE Kj hy
  replace Kl := kE Kl hy
  replace Vh := Lib.hid (Vh.out.ext hy)
  replace Vz := Lib.hid (Vz.out.ext hy)
  replace Vx := Lib.hid (Vx.out.ext hy)
  replace Vj := Lib.hid (Vj.out.ext hy)
  replace Vl := Lib.hid (Vl.out.ext hy)
  clear hy
  obtain ⟨nv, av, qv, cv, bv, kv, dv, rfl, hv', hf', hg'⟩ := hv
  have Vv := Lib.hid hv'
  have Fv := Lib.hid (fun A hA => Nat.le_trans hsz (hf' A hA))
  have Gv := Lib.hid (fun A hA => Nat.le_trans hsz (hg' A hA))
  clear hv' hf' hg' hsz
  clear Fv Gv
  go_upto_region 14 with fail
  have hl := Ext.alloc x22 (.cells #[.bool nv, .slice av qv cv, .bool false, .slice bv kv dv] 26)
  have lhv : ph < x22.heap.size := Kh.out.lt
  have lzv : pz < x22.heap.size := Kz.out.lt
  have lxv : px < x22.heap.size := Kx.out.lt
  have ljv : pj < x22.heap.size := Kj.out.lt
  have llv : pl < x22.heap.size := Kl.out.lt
  have hpv : w.heap.size ≤ x22.heap.size := hx.size
  replace hx := hx.trans hl
  replace Kh := kE Kh hl
  replace Kz := kE Kz hl
  replace Kx := kE Kx hl
  replace Kj := kE Kj hl
  replace Kl := kE Kl hl
  replace Vh := Lib.hid (Vh.out.ext hl)
  replace Vz := Lib.hid (Vz.out.ext hl)
  replace Vx := Lib.hid (Vx.out.ext hl)
  replace Vj := Lib.hid (Vj.out.ext hl)
  replace Vl := Lib.hid (Vl.out.ext hl)
  replace Vv := Lib.hid (Vv.out.ext hl)
  have Kv := Lib.hid (Blk.new0 x22 #[.bool nv, .slice av qv cv, .bool false, .slice bv kv dv] 26)
  clear hl
  generalize x22.alloc (.cells #[.bool nv, .slice av qv cv, .bool false, .slice bv kv dv] 26) = x23 at *
  generalize x22.heap.size = pv at *
  obtain ⟨cl0, cl1, cl2, cl3⟩ := bk4 Kl
  have hsz := hx.size
  go_wp2_with fail
  with_reducible refine (ratio_Floor Vl.out (Sz.sub (szq (r := Rat.divInt 1 3) (by decide +kernel)) (szq (r := Rat.divInt 1 2) (by decide +kernel))) (by omega)).mono ?_
  clear cl0 cl1 cl2 cl3
  rintro e x24 ⟨v, rfl, hv, hy⟩
  replace hx := hx.trans hy
  replace Kh := kE Kh hy
  replace Kz := kE Kz hy
  replace Kx := kE Kx hy
  replace Kj := kE Kj hy
  replace Kl := kE Kl hy
  replace Kv := kE Kv hy
  replace Vh := Lib.hid (Vh.out.ext hy)
  replace Vz := Lib.hid (Vz.out.ext hy)
  replace Vx := Lib.hid (Vx.out.ext hy)
  replace Vj := Lib.hid (Vj.out.ext hy)
  replace Vl := Lib.hid (Vl.out.ext hy)
  replace Vv := Lib.hid (Vv.out.ext hy)
  clear hy
  rw [show (Rat.divInt 1 3 - Rat.divInt 1 2).num / (((Rat.divInt 1 3 - Rat.divInt 1 2).den : Nat) : Int) = -1 by decide +kernel] at hv
  obtain ⟨no, ao, qo, co, rfl, hv', hf'⟩ := hv.two
  have Vo := Lib.hid hv'
  have Fo := Lib.hid (fun A hA => Nat.le_trans hsz (hf' A hA))
  clear hv' hf' hsz
  clear Fo
  go_upto_region 15 with fail
  have hl := Ext.alloc x24 (.cells #[.bool no, .slice ao qo co] 24)
  have lho : ph < x24.heap.size := Kh.out.lt
  have lzo : pz < x24.heap.size := Kz.out.lt
  have lxo : px < x24.heap.size := Kx.out.lt
  have ljo : pj < x24.heap.size := Kj.out.lt
  have llo : pl < x24.heap.size := Kl.out.lt
  have lvo : pv < x24.heap.size := Kv.out.lt
  have hpo : w.heap.size ≤ x24.heap.size := hx.size
  replace hx := hx.trans hl
  replace Kh := kE Kh hl
  replace Kz := kE Kz hl
  replace Kx := kE Kx hl
  replace Kj := kE Kj hl
  replace Kl := kE Kl hl
  replace Kv := kE Kv hl
  replace Vh := Lib.hid (Vh.out.ext hl)
  replace Vz := Lib.hid (Vz.out.ext hl)
  replace Vx := Lib.hid (Vx.out.ext hl)
  replace Vj := Lib.hid (Vj.out.ext hl)
  replace Vl := Lib.hid (Vl.out.ext hl)
  replace Vv := Lib.hid (Vv.out.ext hl)
  replace Vo := Lib.hid (Vo.out.ext hl)
  have Ko := Lib.hid (Blk.new0 x24 #[.bool no, .slice ao qo co] 24)
  clear hl
  generalize x24.alloc (.cells #[.bool no, .slice ao qo co] 24) = x25 at *
  generalize x24.heap.size = po at *
  go_upto_region 17 with fail
  go_wp2_with fail
  have hl := Ext.alloc x25 (.cells #[.string ⟨#[52, 47, 50]⟩, .string ⟨#[50, 47, 49]⟩, .string ⟨#[49, 47, 45, 50]⟩, .string ⟨#[]⟩, .string ⟨#[49, 47]⟩, .string ⟨#[47, 50]⟩] 9)
  have lhS : ph < x25.heap.size := Kh.out.lt
  have lzS : pz < x25.heap.size := Kz.out.lt
  have lxS : px < x25.heap.size := Kx.out.lt
  have ljS : pj < x25.heap.size := Kj.out.lt
  have llS : pl < x25.heap.size := Kl.out.lt
  have lvS : pv < x25.heap.size := Kv.out.lt
  have loS : po < x25.heap.size := Ko.out.lt
  have hpS : w.heap.size ≤ x25.heap.size := hx.size
  replace hx := hx.trans hl
  replace Kh := kE Kh hl
  replace Kz := kE Kz hl
  replace Kx := kE Kx hl
  replace Kj := kE Kj hl
  replace Kl := kE Kl hl
  replace Kv := kE Kv hl
  replace Ko := kE Ko hl
  replace Vh := Lib.hid (Vh.out.ext hl)
  replace Vz := Lib.hid (Vz.out.ext hl)
  replace Vx := Lib.hid (Vx.out.ext hl)
  replace Vj := Lib.hid (Vj.out.ext hl)
  replace Vl := Lib.hid (Vl.out.ext hl)
  replace Vv := Lib.hid (Vv.out.ext hl)
  replace Vo := Lib.hid (Vo.out.ext hl)
  have KS := Lib.hid (Blk.new0 x25 #[.string ⟨#[52, 47, 50]⟩, .string ⟨#[50, 47, 49]⟩, .string ⟨#[49, 47, 45, 50]⟩, .string ⟨#[]⟩, .string ⟨#[49, 47]⟩, .string ⟨#[47, 50]⟩] 9)
  clear hl
  generalize x25.alloc (.cells #[.string ⟨#[52, 47, 50]⟩, .string ⟨#[50, 47, 49]⟩, .string ⟨#[49, 47, 45, 50]⟩, .string ⟨#[]⟩, .string ⟨#[49, 47]⟩, .string ⟨#[47, 50]⟩] 9) = x26 at *
  generalize x25.heap.size = pS at *
  go_loopw [141] (fun i wr => ∃ k : Nat, k ≤ 6 ∧ i = .int .i64 k ∧ Ext x26 wr) (fun i _ => 6 - (intOf i).toNat)
  case atStart => exact ⟨0, by omega, rfl, Ext.refl _⟩
  case round =>
    obtain ⟨k, hk6, rfl, hxr⟩ := hrel
    by_cases hkn : k < 6
    · obtain ⟨s, hs1, hs2⟩ : ∃ s, wr.cell? ⟨pS, k, none⟩ = some (.string s) ∧ s ∈ badT := by
        have hB := KS.out.ext hxr
        match k, hkn with
        | 0, _ => exact ⟨_, hB.cell rfl, by simp [badT]⟩
        | 1, _ => exact ⟨_, hB.cell rfl, by simp [badT]⟩
        | 2, _ => exact ⟨_, hB.cell rfl, by simp [badT]⟩
        | 3, _ => exact ⟨_, hB.cell rfl, by simp [badT]⟩
        | 4, _ => exact ⟨_, hB.cell rfl, by simp [badT]⟩
        | 5, _ => exact ⟨_, hB.cell rfl, by simp [badT]⟩
      obtain ⟨hz, hn⟩ := badT_none s hs2
      have HRD := Lib.hid (fun W => show Calls Tryz.prog 22 #[.string s] W (RatE 100 W) from (ratio_Read s W hz).mono fun e w' h => h.1 hn)
      have g1 : (0 : Int) ≤ (k : Int) := by omega
      have g2 : (k : Int) < 6 := by omega
      clear hz hn hs2
      go_wp2_with fail
      with_reducible refine (HRD.out _).mono ?_
      rintro e x0 ⟨rfl, hy⟩
      go_wp2_with fail
      go_roundw
      case rel => exact ⟨k + 1, by omega, by go_num, (hxr.trans hy).alloc' _⟩
      case measure => simp [intOf]; omega
    · obtain rfl : k = 6 := by omega
      clear hkn
      clear KS
      replace hx := hx.trans hxr
      replace Kh := kE Kh hxr
      replace Kz := kE Kz hxr
      replace Kx := kE Kx hxr
      replace Kj := kE Kj hxr
      replace Kl := kE Kl hxr
      replace Kv := kE Kv hxr
      replace Ko := kE Ko hxr
      replace Vh := Lib.hid (Vh.out.ext hxr)
      replace Vz := Lib.hid (Vz.out.ext hxr)
      replace Vx := Lib.hid (Vx.out.ext hxr)
      replace Vj := Lib.hid (Vj.out.ext hxr)
      replace Vl := Lib.hid (Vl.out.ext hxr)
      replace Vv := Lib.hid (Vv.out.ext hxr)
      replace Vo := Lib.hid (Vo.out.ext hxr)
      clear hxr
      go_upto_region 24 with fail
      go_cut [33] (fun s33 wx => s33 = .bool true ∧ Ext wr wx)
      case first =>
        have s0 : World.cell? wr ⟨px, 0, none⟩ = some (.bool nx) := Kx.out.cell (i := 0) rfl
        have s1 : World.cell? wr ⟨px, 1, none⟩ = some (.slice ax qx cx) := Kx.out.cell (i := 1) rfl
        have s2 : World.cell? wr ⟨px, 2, none⟩ = some (.bool false) := Kx.out.cell (i := 2) rfl
        have s3 : World.cell? wr ⟨px, 3, none⟩ = some (.slice bx kx dx) := Kx.out.cell (i := 3) rfl
        have s4 : World.cell? wr ⟨pj, 0, none⟩ = some (.bool nj) := Kj.out.cell (i := 0) rfl
        have s5 : World.cell? wr ⟨pj, 1, none⟩ = some (.slice aj qj cj) := Kj.out.cell (i := 1) rfl
        have s6 : World.cell? wr ⟨pj, 2, none⟩ = some (.bool false) := Kj.out.cell (i := 2) rfl
        have s7 : World.cell? wr ⟨pj, 3, none⟩ = some (.slice bj kj dj) := Kj.out.cell (i := 3) rfl
        have s8 : World.cell? wr ⟨pl, 0, none⟩ = some (.bool nl) := Kl.out.cell (i := 0) rfl
        have s9 : World.cell? wr ⟨pl, 1, none⟩ = some (.slice al ql cl) := Kl.out.cell (i := 1) rfl
        have s10 : World.cell? wr ⟨pl, 2, none⟩ = some (.bool false) := Kl.out.cell (i := 2) rfl
        have s11 : World.cell? wr ⟨pl, 3, none⟩ = some (.slice bl kl dl) := Kl.out.cell (i := 3) rfl
        have s12 : World.cell? wr ⟨pv, 0, none⟩ = some (.bool nv) := Kv.out.cell (i := 0) rfl
        have s13 : World.cell? wr ⟨pv, 1, none⟩ = some (.slice av qv cv) := Kv.out.cell (i := 1) rfl
        have s14 : World.cell? wr ⟨pv, 2, none⟩ = some (.bool false) := Kv.out.cell (i := 2) rfl
        have s15 : World.cell? wr ⟨pv, 3, none⟩ = some (.slice bv kv dv) := Kv.out.cell (i := 3) rfl
        have s16 : World.cell? wr ⟨po, 0, none⟩ = some (.bool no) := Ko.out.cell (i := 0) rfl
        have s17 : World.cell? wr ⟨po, 1, none⟩ = some (.slice ao qo co) := Ko.out.cell (i := 1) rfl
        have hE : Ext wr (World.drew wr) := (Ext.refl _).drew
        have hyd : Ext wr (World.drew wr) := (Ext.refl _).drew
        replace hx := hx.trans hyd
        replace Kh := kE Kh hyd
        replace Kz := kE Kz hyd
        replace Kx := kE Kx hyd
        replace Kj := kE Kj hyd
        replace Kl := kE Kl hyd
        replace Kv := kE Kv hyd
        replace Ko := kE Ko hyd
        replace Vh := Lib.hid (Vh.out.ext hyd)
        replace Vz := Lib.hid (Vz.out.ext hyd)
        replace Vx := Lib.hid (Vx.out.ext hyd)
        replace Vj := Lib.hid (Vj.out.ext hyd)
        replace Vl := Lib.hid (Vl.out.ext hyd)
        replace Vv := Lib.hid (Vv.out.ext hyd)
        replace Vo := Lib.hid (Vo.out.ext hyd)
        clear hyd
        replace s0 : World.cell? (World.drew wr) ⟨px, 0, none⟩ = some (.bool nx) := s0
        replace s1 : World.cell? (World.drew wr) ⟨px, 1, none⟩ = some (.slice ax qx cx) := s1
        replace s2 : World.cell? (World.drew wr) ⟨px, 2, none⟩ = some (.bool false) := s2
        replace s3 : World.cell? (World.drew wr) ⟨px, 3, none⟩ = some (.slice bx kx dx) := s3
        replace s4 : World.cell? (World.drew wr) ⟨pj, 0, none⟩ = some (.bool nj) := s4
        replace s5 : World.cell? (World.drew wr) ⟨pj, 1, none⟩ = some (.slice aj qj cj) := s5
        replace s6 : World.cell? (World.drew wr) ⟨pj, 2, none⟩ = some (.bool false) := s6
        replace s7 : World.cell? (World.drew wr) ⟨pj, 3, none⟩ = some (.slice bj kj dj) := s7
        replace s8 : World.cell? (World.drew wr) ⟨pl, 0, none⟩ = some (.bool nl) := s8
        replace s9 : World.cell? (World.drew wr) ⟨pl, 1, none⟩ = some (.slice al ql cl) := s9
        replace s10 : World.cell? (World.drew wr) ⟨pl, 2, none⟩ = some (.bool false) := s10
        replace s11 : World.cell? (World.drew wr) ⟨pl, 3, none⟩ = some (.slice bl kl dl) := s11
        replace s12 : World.cell? (World.drew wr) ⟨pv, 0, none⟩ = some (.bool nv) := s12
        replace s13 : World.cell? (World.drew wr) ⟨pv, 1, none⟩ = some (.slice av qv cv) := s13
        replace s14 : World.cell? (World.drew wr) ⟨pv, 2, none⟩ = some (.bool false) := s14
        replace s15 : World.cell? (World.drew wr) ⟨pv, 3, none⟩ = some (.slice bv kv dv) := s15
        replace s16 : World.cell? (World.drew wr) ⟨po, 0, none⟩ = some (.bool no) := s16
        replace s17 : World.cell? (World.drew wr) ⟨po, 1, none⟩ = some (.slice ao qo co) := s17
        refine wp_region_held_drew (S := (fun w' => World.cell? w' ⟨px, 0, none⟩ = some (.bool nx) ∧ World.cell? w' ⟨px, 1, none⟩ = some (.slice ax qx cx) ∧ World.cell? w' ⟨px, 2, none⟩ = some (.bool false) ∧ World.cell? w' ⟨px, 3, none⟩ = some (.slice bx kx dx) ∧ World.cell? w' ⟨pj, 0, none⟩ = some (.bool nj) ∧ World.cell? w' ⟨pj, 1, none⟩ = some (.slice aj qj cj) ∧ World.cell? w' ⟨pj, 2, none⟩ = some (.bool false) ∧ World.cell? w' ⟨pj, 3, none⟩ = some (.slice bj kj dj) ∧ World.cell? w' ⟨pl, 0, none⟩ = some (.bool nl) ∧ World.cell? w' ⟨pl, 1, none⟩ = some (.slice al ql cl) ∧ World.cell? w' ⟨pl, 2, none⟩ = some (.bool false) ∧ World.cell? w' ⟨pl, 3, none⟩ = some (.slice bl kl dl) ∧ World.cell? w' ⟨pv, 0, none⟩ = some (.bool nv) ∧ World.cell? w' ⟨pv, 1, none⟩ = some (.slice av qv cv) ∧ World.cell? w' ⟨pv, 2, none⟩ = some (.bool false) ∧ World.cell? w' ⟨pv, 3, none⟩ = some (.slice bv kv dv) ∧ World.cell? w' ⟨po, 0, none⟩ = some (.bool no) ∧ World.cell? w' ⟨po, 1, none⟩ = some (.slice ao qo co))) (by kernel_rfl) ?_ (fun hHeld => ?_)
        · exact ⟨s0, s1, s2, s3, s4, s5, s6, s7, s8, s9, s10, s11, s12, s13, s14, s15, s16, s17⟩
        (try simp only [← List.toArray_replicate, List.size_toArray, List.length_cons, List.length_nil, Nat.reduceAdd, List.replicate_succ, List.replicate_zero])
        generalize World.drew wr = x27 at *
        refine wpAnyH_take (i := 0) (oi := _) (v := ?_) rfl (by kernel_rfl) (by kernel_rfl) (by kernel_rfl) (fun _ _ _ h => h) (Or.inl ⟨by rfl, ?_⟩) (by assumption) ?_
        rotate_left
        · (intro w hSw; (try dsimp only at hSw); (try go_simp); (try with_reducible rfl))
        (try simp only [Act.put, List.getElem_toArray, List.getElem_cons_succ, List.getElem_cons_zero, List.setIfInBounds_toArray, List.set_cons_zero, List.set_cons_succ])
        refine wpAnyH_take (i := 1) (oi := _) (v := ?_) rfl (by kernel_rfl) (by kernel_rfl) (by kernel_rfl) (fun _ _ _ h => h) (Or.inl ⟨by rfl, ?_⟩) (by assumption) ?_
        rotate_left
        · (intro w hSw; (try dsimp only at hSw); (try go_simp); (try with_reducible rfl))
        (try simp only [Act.put, List.getElem_toArray, List.getElem_cons_succ, List.getElem_cons_zero, List.setIfInBounds_toArray, List.set_cons_zero, List.set_cons_succ])
        refine wpAnyH_ready (rs := [2]) (by kernel_rfl) (by simp) ?_
        refine AllReadyH.cons (o := _) rfl (fun K hK => ?_) ?_
        · go_simp
          (with_reducible refine (law_is (-3) 2 Vx.out (by decide +kernel) (by decide +kernel) (by decide +kernel)).mono ?_); rintro e x28 ⟨rfl, hy⟩; replace hE := hE.trans hy; replace hx := hx.trans hy; replace s0 := cell_exQ hy s0; replace s1 := cell_exQ hy s1; replace s2 := cell_exQ hy s2; replace s3 := cell_exQ hy s3; replace s4 := cell_exQ hy s4; replace s5 := cell_exQ hy s5; replace s6 := cell_exQ hy s6; replace s7 := cell_exQ hy s7; replace s8 := cell_exQ hy s8; replace s9 := cell_exQ hy s9; replace s10 := cell_exQ hy s10; replace s11 := cell_exQ hy s11; replace s12 := cell_exQ hy s12; replace s13 := cell_exQ hy s13; replace s14 := cell_exQ hy s14; replace s15 := cell_exQ hy s15; replace s16 := cell_exQ hy s16; replace s17 := cell_exQ hy s17; replace Kh := kE Kh hy; replace Kz := kE Kz hy; replace Kx := kE Kx hy; replace Kj := kE Kj hy; replace Kl := kE Kl hy; replace Kv := kE Kv hy; replace Ko := kE Ko hy; replace Vh := Lib.hid (Vh.out.ext hy); replace Vz := Lib.hid (Vz.out.ext hy); replace Vx := Lib.hid (Vx.out.ext hy); replace Vj := Lib.hid (Vj.out.ext hy); replace Vl := Lib.hid (Vl.out.ext hy); replace Vv := Lib.hid (Vv.out.ext hy); replace Vo := Lib.hid (Vo.out.ext hy); clear hy
          refine hK.out _ _ ?_ (fun hHeld2 => ?_)
          · exact ⟨s0, s1, s2, s3, s4, s5, s6, s7, s8, s9, s10, s11, s12, s13, s14, s15, s16, s17⟩
          clear hK K hHeld
          have hHeld := hHeld2
          clear hHeld2
          (try simp only [Act.put, List.getElem_toArray, List.getElem_cons_succ, List.getElem_cons_zero, List.setIfInBounds_toArray, List.set_cons_zero, List.set_cons_succ])
          refine wpAnyH_take (i := 3) (oi := _) (v := ?_) rfl (by kernel_rfl) (by kernel_rfl) (by kernel_rfl) (fun _ _ _ h => h) (Or.inl ⟨by rfl, ?_⟩) (by assumption) ?_
          rotate_left
          · (intro w hSw; (try dsimp only at hSw); (try go_simp); (try with_reducible rfl))
          (try simp only [Act.put, List.getElem_toArray, List.getElem_cons_succ, List.getElem_cons_zero, List.setIfInBounds_toArray, List.set_cons_zero, List.set_cons_succ])
          refine wpAnyH_take (i := 4) (oi := _) (v := ?_) rfl (by kernel_rfl) (by kernel_rfl) (by kernel_rfl) (fun _ _ _ h => h) (Or.inl ⟨by rfl, ?_⟩) (by assumption) ?_
          rotate_left
          · (intro w hSw; (try dsimp only at hSw); (try go_simp); (try with_reducible rfl))
          (try simp only [Act.put, List.getElem_toArray, List.getElem_cons_succ, List.getElem_cons_zero, List.setIfInBounds_toArray, List.set_cons_zero, List.set_cons_succ])
          refine wpAnyH_take (i := 5) (oi := _) (v := ?_) rfl (by kernel_rfl) (by kernel_rfl) (by kernel_rfl) (fun _ _ _ h => h) (Or.inl ⟨by rfl, ?_⟩) (by assumption) ?_
          rotate_left
          · (intro w hSw; (try dsimp only at hSw); (try go_simp); (try with_reducible rfl))
          (try simp only [Act.put, List.getElem_toArray, List.getElem_cons_succ, List.getElem_cons_zero, List.setIfInBounds_toArray, List.set_cons_zero, List.set_cons_succ])
          refine wpAnyH_ready (rs := [6]) (by kernel_rfl) (by simp) ?_
          refine AllReadyH.cons (o := _) rfl (fun K hK => ?_) ?_
          · go_simp
            (with_reducible refine (law_is 5 6 Vj.out (by decide +kernel) (by decide +kernel) (by decide +kernel)).mono ?_); rintro e x29 ⟨rfl, hy⟩; replace hE := hE.trans hy; replace hx := hx.trans hy; replace s0 := cell_exQ hy s0; replace s1 := cell_exQ hy s1; replace s2 := cell_exQ hy s2; replace s3 := cell_exQ hy s3; replace s4 := cell_exQ hy s4; replace s5 := cell_exQ hy s5; replace s6 := cell_exQ hy s6; replace s7 := cell_exQ hy s7; replace s8 := cell_exQ hy s8; replace s9 := cell_exQ hy s9; replace s10 := cell_exQ hy s10; replace s11 := cell_exQ hy s11; replace s12 := cell_exQ hy s12; replace s13 := cell_exQ hy s13; replace s14 := cell_exQ hy s14; replace s15 := cell_exQ hy s15; replace s16 := cell_exQ hy s16; replace s17 := cell_exQ hy s17; replace Kh := kE Kh hy; replace Kz := kE Kz hy; replace Kx := kE Kx hy; replace Kj := kE Kj hy; replace Kl := kE Kl hy; replace Kv := kE Kv hy; replace Ko := kE Ko hy; replace Vh := Lib.hid (Vh.out.ext hy); replace Vz := Lib.hid (Vz.out.ext hy); replace Vx := Lib.hid (Vx.out.ext hy); replace Vj := Lib.hid (Vj.out.ext hy); replace Vl := Lib.hid (Vl.out.ext hy); replace Vv := Lib.hid (Vv.out.ext hy); replace Vo := Lib.hid (Vo.out.ext hy); clear hy
            refine hK.out _ _ ?_ (fun hHeld2 => ?_)
            · exact ⟨s0, s1, s2, s3, s4, s5, s6, s7, s8, s9, s10, s11, s12, s13, s14, s15, s16, s17⟩
            clear hK K hHeld
            have hHeld := hHeld2
            clear hHeld2
            (try simp only [Act.put, List.getElem_toArray, List.getElem_cons_succ, List.getElem_cons_zero, List.setIfInBounds_toArray, List.set_cons_zero, List.set_cons_succ])
            refine wpAnyH_take (i := 7) (oi := _) (v := ?_) rfl (by kernel_rfl) (by kernel_rfl) (by kernel_rfl) (fun _ _ _ h => h) (Or.inl ⟨by rfl, ?_⟩) (by assumption) ?_
            rotate_left
            · (intro w hSw; (try dsimp only at hSw); (try go_simp); (try with_reducible rfl))
            (try simp only [Act.put, List.getElem_toArray, List.getElem_cons_succ, List.getElem_cons_zero, List.setIfInBounds_toArray, List.set_cons_zero, List.set_cons_succ])
            refine wpAnyH_take (i := 8) (oi := _) (v := ?_) rfl (by kernel_rfl) (by kernel_rfl) (by kernel_rfl) (fun _ _ _ h => h) (Or.inl ⟨by rfl, ?_⟩) (by assumption) ?_
            rotate_left
            · (intro w hSw; (try dsimp only at hSw); (try go_simp); (try with_reducible rfl))
            (try simp only [Act.put, List.getElem_toArray, List.getElem_cons_succ, List.getElem_cons_zero, List.setIfInBounds_toArray, List.set_cons_zero, List.set_cons_succ])
            refine wpAnyH_take (i := 9) (oi := _) (v := ?_) rfl (by kernel_rfl) (by kernel_rfl) (by kernel_rfl) (fun _ _ _ h => h) (Or.inl ⟨by rfl, ?_⟩) (by assumption) ?_
            rotate_left
            · (intro w hSw; (try dsimp only at hSw); (try go_simp); (try with_reducible rfl))
            (try simp only [Act.put, List.getElem_toArray, List.getElem_cons_succ, List.getElem_cons_zero, List.setIfInBounds_toArray, List.set_cons_zero, List.set_cons_succ])
            refine wpAnyH_take (i := 10) (oi := _) (v := ?_) rfl (by kernel_rfl) (by kernel_rfl) (by kernel_rfl) (fun _ _ _ h => h) (Or.inl ⟨by rfl, ?_⟩) (by assumption) ?_
            rotate_left
            · (intro w hSw; (try dsimp only at hSw); (try go_simp); (try with_reducible rfl))
            (try simp only [Act.put, List.getElem_toArray, List.getElem_cons_succ, List.getElem_cons_zero, List.setIfInBounds_toArray, List.set_cons_zero, List.set_cons_succ])
            refine wpAnyH_ready (rs := [11]) (by kernel_rfl) (by simp) ?_
            refine AllReadyH.cons (o := _) rfl (fun K hK => ?_) ?_
            · go_simp
              (with_reducible refine (law_is (-1) 6 Vl.out (by decide +kernel) (by decide +kernel) (by decide +kernel)).mono ?_); rintro e x30 ⟨rfl, hy⟩; replace hE := hE.trans hy; replace hx := hx.trans hy; replace s0 := cell_exQ hy s0; replace s1 := cell_exQ hy s1; replace s2 := cell_exQ hy s2; replace s3 := cell_exQ hy s3; replace s4 := cell_exQ hy s4; replace s5 := cell_exQ hy s5; replace s6 := cell_exQ hy s6; replace s7 := cell_exQ hy s7; replace s8 := cell_exQ hy s8; replace s9 := cell_exQ hy s9; replace s10 := cell_exQ hy s10; replace s11 := cell_exQ hy s11; replace s12 := cell_exQ hy s12; replace s13 := cell_exQ hy s13; replace s14 := cell_exQ hy s14; replace s15 := cell_exQ hy s15; replace s16 := cell_exQ hy s16; replace s17 := cell_exQ hy s17; replace Kh := kE Kh hy; replace Kz := kE Kz hy; replace Kx := kE Kx hy; replace Kj := kE Kj hy; replace Kl := kE Kl hy; replace Kv := kE Kv hy; replace Ko := kE Ko hy; replace Vh := Lib.hid (Vh.out.ext hy); replace Vz := Lib.hid (Vz.out.ext hy); replace Vx := Lib.hid (Vx.out.ext hy); replace Vj := Lib.hid (Vj.out.ext hy); replace Vl := Lib.hid (Vl.out.ext hy); replace Vv := Lib.hid (Vv.out.ext hy); replace Vo := Lib.hid (Vo.out.ext hy); clear hy
              refine hK.out _ _ ?_ (fun hHeld2 => ?_)
              · exact ⟨s0, s1, s2, s3, s4, s5, s6, s7, s8, s9, s10, s11, s12, s13, s14, s15, s16, s17⟩
              clear hK K hHeld
              have hHeld := hHeld2
              clear hHeld2
              (try simp only [Act.put, List.getElem_toArray, List.getElem_cons_succ, List.getElem_cons_zero, List.setIfInBounds_toArray, List.set_cons_zero, List.set_cons_succ])
              refine wpAnyH_take (i := 12) (oi := _) (v := ?_) rfl (by kernel_rfl) (by kernel_rfl) (by kernel_rfl) (fun _ _ _ h => h) (Or.inl ⟨by rfl, ?_⟩) (by assumption) ?_
              rotate_left
              · (intro w hSw; (try dsimp only at hSw); (try go_simp); (try with_reducible rfl))
              (try simp only [Act.put, List.getElem_toArray, List.getElem_cons_succ, List.getElem_cons_zero, List.setIfInBounds_toArray, List.set_cons_zero, List.set_cons_succ])
              refine wpAnyH_take (i := 13) (oi := _) (v := ?_) rfl (by kernel_rfl) (by kernel_rfl) (by kernel_rfl) (fun _ _ _ h => h) (Or.inl ⟨by rfl, ?_⟩) (by assumption) ?_
              rotate_left
              · (intro w hSw; (try dsimp only at hSw); (try go_simp); (try with_reducible rfl))
              (try simp only [Act.put, List.getElem_toArray, List.getElem_cons_succ, List.getElem_cons_zero, List.setIfInBounds_toArray, List.set_cons_zero, List.set_cons_succ])
              refine wpAnyH_take (i := 14) (oi := _) (v := ?_) rfl (by kernel_rfl) (by kernel_rfl) (by kernel_rfl) (fun _ _ _ h => h) (Or.inl ⟨by rfl, ?_⟩) (by assumption) ?_
              rotate_left
              · (intro w hSw; (try dsimp only at hSw); (try go_simp); (try with_reducible rfl))
              (try simp only [Act.put, List.getElem_toArray, List.getElem_cons_succ, List.getElem_cons_zero, List.setIfInBounds_toArray, List.set_cons_zero, List.set_cons_succ])
              refine wpAnyH_take (i := 15) (oi := _) (v := ?_) rfl (by kernel_rfl) (by kernel_rfl) (by kernel_rfl) (fun _ _ _ h => h) (Or.inl ⟨by rfl, ?_⟩) (by assumption) ?_
              rotate_left
              · (intro w hSw; (try dsimp only at hSw); (try go_simp); (try with_reducible rfl))
              (try simp only [Act.put, List.getElem_toArray, List.getElem_cons_succ, List.getElem_cons_zero, List.setIfInBounds_toArray, List.set_cons_zero, List.set_cons_succ])
              refine wpAnyH_take (i := 16) (oi := _) (v := ?_) rfl (by kernel_rfl) (by kernel_rfl) (by kernel_rfl) (fun _ _ _ h => h) (Or.inl ⟨by rfl, ?_⟩) (by assumption) ?_
              rotate_left
              · (intro w hSw; (try dsimp only at hSw); (try go_simp); (try with_reducible rfl))
              (try simp only [Act.put, List.getElem_toArray, List.getElem_cons_succ, List.getElem_cons_zero, List.setIfInBounds_toArray, List.set_cons_zero, List.set_cons_succ])
              refine wpAnyH_take (i := 17) (oi := _) (v := ?_) rfl (by kernel_rfl) (by kernel_rfl) (by kernel_rfl) (fun _ _ _ h => h) (Or.inl ⟨by rfl, ?_⟩) (by assumption) ?_
              rotate_left
              · (intro w hSw; (try dsimp only at hSw); (try go_simp); (try with_reducible rfl))
              (try simp only [Act.put, List.getElem_toArray, List.getElem_cons_succ, List.getElem_cons_zero, List.setIfInBounds_toArray, List.set_cons_zero, List.set_cons_succ])
              refine wpAnyH_take (i := 18) (oi := _) (v := ?_) rfl (by kernel_rfl) (by kernel_rfl) (by kernel_rfl) (fun _ _ _ h => h) (Or.inl ⟨by rfl, ?_⟩) (by assumption) ?_
              rotate_left
              · (intro w hSw; (try dsimp only at hSw); (try go_simp); (try with_reducible rfl))
              (try simp only [Act.put, List.getElem_toArray, List.getElem_cons_succ, List.getElem_cons_zero, List.setIfInBounds_toArray, List.set_cons_zero, List.set_cons_succ])
              refine wpAnyH_take (i := 19) (oi := _) (v := ?_) rfl (by kernel_rfl) (by kernel_rfl) (by kernel_rfl) (fun _ _ _ h => h) (Or.inl ⟨by rfl, ?_⟩) (by assumption) ?_
              rotate_left
              · (intro w hSw; (try dsimp only at hSw); (try go_simp); (try with_reducible rfl))
              (try simp only [Act.put, List.getElem_toArray, List.getElem_cons_succ, List.getElem_cons_zero, List.setIfInBounds_toArray, List.set_cons_zero, List.set_cons_succ])
              refine wpAnyH_take (i := 20) (oi := _) (v := ?_) rfl (by kernel_rfl) (by kernel_rfl) (by kernel_rfl) (fun _ _ _ h => h) (Or.inl ⟨by rfl, ?_⟩) (by assumption) ?_
              rotate_left
              · (intro w hSw; (try dsimp only at hSw); (try go_simp); (try with_reducible rfl))
              (try simp only [Act.put, List.getElem_toArray, List.getElem_cons_succ, List.getElem_cons_zero, List.setIfInBounds_toArray, List.set_cons_zero, List.set_cons_succ])
              refine wpAnyH_take (i := 21) (oi := _) (v := ?_) rfl (by kernel_rfl) (by kernel_rfl) (by kernel_rfl) (fun _ _ _ h => h) (Or.inl ⟨by rfl, ?_⟩) (by assumption) ?_
              rotate_left
              · (intro w hSw; (try dsimp only at hSw); (try go_simp); (try with_reducible rfl))
              (try simp only [Act.put, List.getElem_toArray, List.getElem_cons_succ, List.getElem_cons_zero, List.setIfInBounds_toArray, List.set_cons_zero, List.set_cons_succ])
              refine wpAnyH_take (i := 22) (oi := _) (v := ?_) rfl (by kernel_rfl) (by kernel_rfl) (by kernel_rfl) (fun _ _ _ h => h) (Or.inl ⟨by rfl, ?_⟩) (by assumption) ?_
              rotate_left
              · (intro w hSw; (try dsimp only at hSw); (try go_simp); (try with_reducible rfl))
              (try simp only [Act.put, List.getElem_toArray, List.getElem_cons_succ, List.getElem_cons_zero, List.setIfInBounds_toArray, List.set_cons_zero, List.set_cons_succ])
              refine wpAnyH_take (i := 23) (oi := _) (v := ?_) rfl (by kernel_rfl) (by kernel_rfl) (by kernel_rfl) (fun _ _ _ h => h) (Or.inl ⟨by rfl, ?_⟩) (by assumption) ?_
              rotate_left
              · (intro w hSw; (try dsimp only at hSw); (try go_simp); (try with_reducible rfl))
              (try simp only [Act.put, List.getElem_toArray, List.getElem_cons_succ, List.getElem_cons_zero, List.setIfInBounds_toArray, List.set_cons_zero, List.set_cons_succ])
              refine wpAnyH_take (i := 24) (oi := _) (v := ?_) rfl (by kernel_rfl) (by kernel_rfl) (by kernel_rfl) (fun _ _ _ h => h) (Or.inl ⟨by rfl, ?_⟩) (by assumption) ?_
              rotate_left
              · (intro w hSw; (try dsimp only at hSw); (try go_simp); (try with_reducible rfl))
              (try simp only [Act.put, List.getElem_toArray, List.getElem_cons_succ, List.getElem_cons_zero, List.setIfInBounds_toArray, List.set_cons_zero, List.set_cons_succ])
              refine wpAnyH_take (i := 25) (oi := _) (v := ?_) rfl (by kernel_rfl) (by kernel_rfl) (by kernel_rfl) (fun _ _ _ h => h) (Or.inl ⟨by rfl, ?_⟩) (by assumption) ?_
              rotate_left
              · (intro w hSw; (try dsimp only at hSw); (try go_simp); (try with_reducible rfl))
              (try simp only [Act.put, List.getElem_toArray, List.getElem_cons_succ, List.getElem_cons_zero, List.setIfInBounds_toArray, List.set_cons_zero, List.set_cons_succ])
              refine wpAnyH_take (i := 26) (oi := _) (v := ?_) rfl (by kernel_rfl) (by kernel_rfl) (by kernel_rfl) (fun _ _ _ h => h) (Or.inl ⟨by rfl, ?_⟩) (by assumption) ?_
              rotate_left
              · (intro w hSw; (try dsimp only at hSw); (try go_simp); (try with_reducible rfl))
              (try simp only [Act.put, List.getElem_toArray, List.getElem_cons_succ, List.getElem_cons_zero, List.setIfInBounds_toArray, List.set_cons_zero, List.set_cons_succ])
              refine wpAnyH_take (i := 27) (oi := _) (v := ?_) rfl (by kernel_rfl) (by kernel_rfl) (by kernel_rfl) (fun _ _ _ h => h) (Or.inl ⟨by rfl, ?_⟩) (by assumption) ?_
              rotate_left
              · (intro w hSw; (try dsimp only at hSw); (try go_simp); (try with_reducible rfl))
              (try simp only [Act.put, List.getElem_toArray, List.getElem_cons_succ, List.getElem_cons_zero, List.setIfInBounds_toArray, List.set_cons_zero, List.set_cons_succ])
              refine wpAnyH_ready (rs := [28]) (by kernel_rfl) (by simp) ?_
              refine AllReadyH.cons (o := _) rfl (fun K hK => ?_) ?_
              · go_simp
                (with_reducible refine (law_is (-3) 2 Vv.out (by decide +kernel) (by decide +kernel) (by decide +kernel)).mono ?_); rintro e x31 ⟨rfl, hy⟩; replace hE := hE.trans hy; replace hx := hx.trans hy; replace s0 := cell_exQ hy s0; replace s1 := cell_exQ hy s1; replace s2 := cell_exQ hy s2; replace s3 := cell_exQ hy s3; replace s4 := cell_exQ hy s4; replace s5 := cell_exQ hy s5; replace s6 := cell_exQ hy s6; replace s7 := cell_exQ hy s7; replace s8 := cell_exQ hy s8; replace s9 := cell_exQ hy s9; replace s10 := cell_exQ hy s10; replace s11 := cell_exQ hy s11; replace s12 := cell_exQ hy s12; replace s13 := cell_exQ hy s13; replace s14 := cell_exQ hy s14; replace s15 := cell_exQ hy s15; replace s16 := cell_exQ hy s16; replace s17 := cell_exQ hy s17; replace Kh := kE Kh hy; replace Kz := kE Kz hy; replace Kx := kE Kx hy; replace Kj := kE Kj hy; replace Kl := kE Kl hy; replace Kv := kE Kv hy; replace Ko := kE Ko hy; replace Vh := Lib.hid (Vh.out.ext hy); replace Vz := Lib.hid (Vz.out.ext hy); replace Vx := Lib.hid (Vx.out.ext hy); replace Vj := Lib.hid (Vj.out.ext hy); replace Vl := Lib.hid (Vl.out.ext hy); replace Vv := Lib.hid (Vv.out.ext hy); replace Vo := Lib.hid (Vo.out.ext hy); clear hy
                refine hK.out _ _ ?_ (fun hHeld2 => ?_)
                · exact ⟨s0, s1, s2, s3, s4, s5, s6, s7, s8, s9, s10, s11, s12, s13, s14, s15, s16, s17⟩
                clear hK K hHeld
                have hHeld := hHeld2
                clear hHeld2
                (try simp only [Act.put, List.getElem_toArray, List.getElem_cons_succ, List.getElem_cons_zero, List.setIfInBounds_toArray, List.set_cons_zero, List.set_cons_succ])
                refine wpAnyH_take (i := 29) (oi := _) (v := ?_) rfl (by kernel_rfl) (by kernel_rfl) (by kernel_rfl) (fun _ _ _ h => h) (Or.inl ⟨by rfl, ?_⟩) (by assumption) ?_
                rotate_left
                · (intro w hSw; (try dsimp only at hSw); (try go_simp); (try with_reducible rfl))
                (try simp only [Act.put, List.getElem_toArray, List.getElem_cons_succ, List.getElem_cons_zero, List.setIfInBounds_toArray, List.set_cons_zero, List.set_cons_succ])
                refine wpAnyH_take (i := 30) (oi := _) (v := ?_) rfl (by kernel_rfl) (by kernel_rfl) (by kernel_rfl) (fun _ _ _ h => h) (Or.inl ⟨by rfl, ?_⟩) (by assumption) ?_
                rotate_left
                · (intro w hSw; (try dsimp only at hSw); (try go_simp); (try with_reducible rfl))
                (try simp only [Act.put, List.getElem_toArray, List.getElem_cons_succ, List.getElem_cons_zero, List.setIfInBounds_toArray, List.set_cons_zero, List.set_cons_succ])
                refine wpAnyH_take (i := 31) (oi := _) (v := ?_) rfl (by kernel_rfl) (by kernel_rfl) (by kernel_rfl) (fun _ _ _ h => h) (Or.inl ⟨by rfl, ?_⟩) (by assumption) ?_
                rotate_left
                · (intro w hSw; (try dsimp only at hSw); (try go_simp); (try with_reducible rfl))
                (try simp only [Act.put, List.getElem_toArray, List.getElem_cons_succ, List.getElem_cons_zero, List.setIfInBounds_toArray, List.set_cons_zero, List.set_cons_succ])
                refine wpAnyH_ready (rs := [32]) (by kernel_rfl) (by simp) ?_
                refine AllReadyH.cons (o := _) rfl (fun K hK => ?_) ?_
                · go_simp
                  (with_reducible refine (law_big (-1) _ (by decide +kernel)).mono ?_); rintro e x32 ⟨v, rfl, hv, hy⟩; replace hE := hE.trans hy; replace hx := hx.trans hy; replace s0 := cell_exQ hy s0; replace s1 := cell_exQ hy s1; replace s2 := cell_exQ hy s2; replace s3 := cell_exQ hy s3; replace s4 := cell_exQ hy s4; replace s5 := cell_exQ hy s5; replace s6 := cell_exQ hy s6; replace s7 := cell_exQ hy s7; replace s8 := cell_exQ hy s8; replace s9 := cell_exQ hy s9; replace s10 := cell_exQ hy s10; replace s11 := cell_exQ hy s11; replace s12 := cell_exQ hy s12; replace s13 := cell_exQ hy s13; replace s14 := cell_exQ hy s14; replace s15 := cell_exQ hy s15; replace s16 := cell_exQ hy s16; replace s17 := cell_exQ hy s17; replace Kh := kE Kh hy; replace Kz := kE Kz hy; replace Kx := kE Kx hy; replace Kj := kE Kj hy; replace Kl := kE Kl hy; replace Kv := kE Kv hy; replace Ko := kE Ko hy; replace Vh := Lib.hid (Vh.out.ext hy); replace Vz := Lib.hid (Vz.out.ext hy); replace Vx := Lib.hid (Vx.out.ext hy); replace Vj := Lib.hid (Vj.out.ext hy); replace Vl := Lib.hid (Vl.out.ext hy); replace Vv := Lib.hid (Vv.out.ext hy); replace Vo := Lib.hid (Vo.out.ext hy); clear hy; obtain ⟨np, ap, qp, cp, rfl⟩ := hv.form; have Vp := Lib.hid hv; clear hv
                  refine hK.out _ _ ?_ (fun hHeld2 => ?_)
                  · exact ⟨s0, s1, s2, s3, s4, s5, s6, s7, s8, s9, s10, s11, s12, s13, s14, s15, s16, s17⟩
                  clear hK K hHeld
                  have hHeld := hHeld2
                  clear hHeld2
                  (try simp only [Act.put, List.getElem_toArray, List.getElem_cons_succ, List.getElem_cons_zero, List.setIfInBounds_toArray, List.set_cons_zero, List.set_cons_succ])
                  refine wpAnyH_ready (rs := [33]) (by kernel_rfl) (by simp) ?_
                  refine AllReadyH.cons (o := _) rfl (fun K hK => ?_) ?_
                  · go_simp
                    (with_reducible refine (sameBig_val Vo.out Vp.out).mono ?_); rintro e x33 ⟨rfl, hy⟩; replace hE := hE.trans hy; replace hx := hx.trans hy; replace s0 := cell_exQ hy s0; replace s1 := cell_exQ hy s1; replace s2 := cell_exQ hy s2; replace s3 := cell_exQ hy s3; replace s4 := cell_exQ hy s4; replace s5 := cell_exQ hy s5; replace s6 := cell_exQ hy s6; replace s7 := cell_exQ hy s7; replace s8 := cell_exQ hy s8; replace s9 := cell_exQ hy s9; replace s10 := cell_exQ hy s10; replace s11 := cell_exQ hy s11; replace s12 := cell_exQ hy s12; replace s13 := cell_exQ hy s13; replace s14 := cell_exQ hy s14; replace s15 := cell_exQ hy s15; replace s16 := cell_exQ hy s16; replace s17 := cell_exQ hy s17; replace Kh := kE Kh hy; replace Kz := kE Kz hy; replace Kx := kE Kx hy; replace Kj := kE Kj hy; replace Kl := kE Kl hy; replace Kv := kE Kv hy; replace Ko := kE Ko hy; replace Vh := Lib.hid (Vh.out.ext hy); replace Vz := Lib.hid (Vz.out.ext hy); replace Vx := Lib.hid (Vx.out.ext hy); replace Vj := Lib.hid (Vj.out.ext hy); replace Vl := Lib.hid (Vl.out.ext hy); replace Vv := Lib.hid (Vv.out.ext hy); replace Vo := Lib.hid (Vo.out.ext hy); replace Vp := Lib.hid (Vp.out.ext hy); clear hy; rw [show decide ((-1 : Int) = -1) = true by decide +kernel]
                    refine hK.out _ _ ?_ (fun hHeld2 => ?_)
                    · exact ⟨s0, s1, s2, s3, s4, s5, s6, s7, s8, s9, s10, s11, s12, s13, s14, s15, s16, s17⟩
                    clear hK K hHeld
                    have hHeld := hHeld2
                    clear hHeld2
                    (try simp only [Act.put, List.getElem_toArray, List.getElem_cons_succ, List.getElem_cons_zero, List.setIfInBounds_toArray, List.set_cons_zero, List.set_cons_succ])
                    refine wpAnyH_take (i := 34) (oi := _) (v := ?_) rfl (by kernel_rfl) (by kernel_rfl) (by kernel_rfl) (fun _ _ _ h => h) (Or.inl ⟨by rfl, ?_⟩) (by assumption) ?_
                    rotate_left
                    · (intro w hSw; (try dsimp only at hSw); (try go_simp); (try with_reducible rfl))
                    (try simp only [Act.put, List.getElem_toArray, List.getElem_cons_succ, List.getElem_cons_zero, List.setIfInBounds_toArray, List.set_cons_zero, List.set_cons_succ])
                    refine wpAnyH_take (i := 35) (oi := _) (v := ?_) rfl (by kernel_rfl) (by kernel_rfl) (by kernel_rfl) (fun _ _ _ h => h) (Or.inl ⟨by rfl, ?_⟩) (by assumption) ?_
                    rotate_left
                    · (intro w hSw; (try dsimp only at hSw); (try go_simp); (try with_reducible rfl))
                    (try simp only [Act.put, List.getElem_toArray, List.getElem_cons_succ, List.getElem_cons_zero, List.setIfInBounds_toArray, List.set_cons_zero, List.set_cons_succ])
                    refine wpAnyH_done (by kernel_rfl) ?_ _
                    go_wp2_with fail
                    go_meet
                    exact ⟨rfl, hE⟩
                  exact AllReadyH.nil
                exact AllReadyH.nil
              exact AllReadyH.nil
            exact AllReadyH.nil
          exact AllReadyH.nil
        exact AllReadyH.nil
      case rest =>
      obtain ⟨rfl, hy⟩ := hcut
      replace hx := hx.trans hy
      replace Kh := kE Kh hy
      replace Kz := kE Kz hy
      replace Kx := kE Kx hy
      replace Kj := kE Kj hy
      replace Kl := kE Kl hy
      replace Kv := kE Kv hy
      replace Ko := kE Ko hy
      replace Vh := Lib.hid (Vh.out.ext hy)
      replace Vz := Lib.hid (Vz.out.ext hy)
      replace Vx := Lib.hid (Vx.out.ext hy)
      replace Vj := Lib.hid (Vj.out.ext hy)
      replace Vl := Lib.hid (Vl.out.ext hy)
      replace Vv := Lib.hid (Vv.out.ext hy)
      replace Vo := Lib.hid (Vo.out.ext hy)
      clear hy
      clear Kx
      clear Vx
      clear Kj
      clear Vj
      clear Kl
      clear Vl
      clear Kv
      clear Vv
      clear Ko
      clear Vo
      go_upto_region 25 with fail
      have s0 : World.cell? wc ⟨pz, 0, none⟩ = some (.bool nz) := Kz.out.cell (i := 0) rfl
      have s1 : World.cell? wc ⟨pz, 1, none⟩ = some (.slice az qz cz) := Kz.out.cell (i := 1) rfl
      have s2 : World.cell? wc ⟨pz, 2, none⟩ = some (.bool false) := Kz.out.cell (i := 2) rfl
      have s3 : World.cell? wc ⟨pz, 3, none⟩ = some (.slice bz kz dz) := Kz.out.cell (i := 3) rfl
      have s4 : World.cell? wc ⟨ph, 0, none⟩ = some (.bool nh) := Kh.out.cell (i := 0) rfl
      have s5 : World.cell? wc ⟨ph, 1, none⟩ = some (.slice ah qh ch) := Kh.out.cell (i := 1) rfl
      have s6 : World.cell? wc ⟨ph, 2, none⟩ = some (.bool false) := Kh.out.cell (i := 2) rfl
      have s7 : World.cell? wc ⟨ph, 3, none⟩ = some (.slice bh kh dh) := Kh.out.cell (i := 3) rfl
      have hE : Ext wc (World.drew wc) := (Ext.refl _).drew
      have hyd : Ext wc (World.drew wc) := (Ext.refl _).drew
      replace hx := hx.trans hyd
      replace Kh := kE Kh hyd
      replace Kz := kE Kz hyd
      replace Vh := Lib.hid (Vh.out.ext hyd)
      replace Vz := Lib.hid (Vz.out.ext hyd)
      clear hyd
      replace s0 : World.cell? (World.drew wc) ⟨pz, 0, none⟩ = some (.bool nz) := s0
      replace s1 : World.cell? (World.drew wc) ⟨pz, 1, none⟩ = some (.slice az qz cz) := s1
      replace s2 : World.cell? (World.drew wc) ⟨pz, 2, none⟩ = some (.bool false) := s2
      replace s3 : World.cell? (World.drew wc) ⟨pz, 3, none⟩ = some (.slice bz kz dz) := s3
      replace s4 : World.cell? (World.drew wc) ⟨ph, 0, none⟩ = some (.bool nh) := s4
      replace s5 : World.cell? (World.drew wc) ⟨ph, 1, none⟩ = some (.slice ah qh ch) := s5
      replace s6 : World.cell? (World.drew wc) ⟨ph, 2, none⟩ = some (.bool false) := s6
      replace s7 : World.cell? (World.drew wc) ⟨ph, 3, none⟩ = some (.slice bh kh dh) := s7
      refine wp_region_held_drew (S := (fun w' => World.cell? w' ⟨pz, 0, none⟩ = some (.bool nz) ∧ World.cell? w' ⟨pz, 1, none⟩ = some (.slice az qz cz) ∧ World.cell? w' ⟨pz, 2, none⟩ = some (.bool false) ∧ World.cell? w' ⟨pz, 3, none⟩ = some (.slice bz kz dz) ∧ World.cell? w' ⟨ph, 0, none⟩ = some (.bool nh) ∧ World.cell? w' ⟨ph, 1, none⟩ = some (.slice ah qh ch) ∧ World.cell? w' ⟨ph, 2, none⟩ = some (.bool false) ∧ World.cell? w' ⟨ph, 3, none⟩ = some (.slice bh kh dh))) (by kernel_rfl) ?_ (fun hHeld => ?_)
      · exact ⟨s0, s1, s2, s3, s4, s5, s6, s7⟩
      (try simp only [← List.toArray_replicate, List.size_toArray, List.length_cons, List.length_nil, Nat.reduceAdd, List.replicate_succ, List.replicate_zero])
      generalize World.drew wc = x27 at *
      refine wpAnyH_take (i := 0) (oi := _) (v := ?_) rfl (by kernel_rfl) (by kernel_rfl) (by kernel_rfl) (fun _ _ _ h => h) (Or.inl ⟨by rfl, ?_⟩) (by assumption) ?_
      rotate_left
      · (intro w hSw; (try dsimp only at hSw); (try go_simp); (try with_reducible rfl))
      (try simp only [Act.put, List.getElem_toArray, List.getElem_cons_succ, List.getElem_cons_zero, List.setIfInBounds_toArray, List.set_cons_zero, List.set_cons_succ])
      refine wpAnyH_take (i := 1) (oi := _) (v := ?_) rfl (by kernel_rfl) (by kernel_rfl) (by kernel_rfl) (fun _ _ _ h => h) (Or.inl ⟨by rfl, ?_⟩) (by assumption) ?_
      rotate_left
      · (intro w hSw; (try dsimp only at hSw); (try go_simp); (try with_reducible rfl))
      (try simp only [Act.put, List.getElem_toArray, List.getElem_cons_succ, List.getElem_cons_zero, List.setIfInBounds_toArray, List.set_cons_zero, List.set_cons_succ])
      refine wpAnyH_take (i := 2) (oi := _) (v := ?_) rfl (by kernel_rfl) (by kernel_rfl) (by kernel_rfl) (fun _ _ _ h => h) (Or.inl ⟨by rfl, ?_⟩) (by assumption) ?_
      rotate_left
      · (intro w hSw; (try dsimp only at hSw); (try go_simp); (try with_reducible rfl))
      (try simp only [Act.put, List.getElem_toArray, List.getElem_cons_succ, List.getElem_cons_zero, List.setIfInBounds_toArray, List.set_cons_zero, List.set_cons_succ])
      refine wpAnyH_ready (rs := [3]) (by kernel_rfl) (by simp) ?_
      refine AllReadyH.cons (o := _) rfl (fun K hK => ?_) ?_
      · go_simp
        (with_reducible refine (law_big 0 _ (by omega)).mono ?_); rintro e x28 ⟨v, rfl, hv, hy⟩; replace hE := hE.trans hy; replace hx := hx.trans hy; replace s0 := cell_exQ hy s0; replace s1 := cell_exQ hy s1; replace s2 := cell_exQ hy s2; replace s3 := cell_exQ hy s3; replace s4 := cell_exQ hy s4; replace s5 := cell_exQ hy s5; replace s6 := cell_exQ hy s6; replace s7 := cell_exQ hy s7; replace Kh := kE Kh hy; replace Kz := kE Kz hy; replace Vh := Lib.hid (Vh.out.ext hy); replace Vz := Lib.hid (Vz.out.ext hy); clear hy; obtain ⟨np, ap, qp, cp, rfl⟩ := hv.form; have Vp := Lib.hid hv; clear hv
        refine hK.out _ _ ?_ (fun hHeld2 => ?_)
        · exact ⟨s0, s1, s2, s3, s4, s5, s6, s7⟩
        clear hK K hHeld
        have hHeld := hHeld2
        clear hHeld2
        (try simp only [Act.put, List.getElem_toArray, List.getElem_cons_succ, List.getElem_cons_zero, List.setIfInBounds_toArray, List.set_cons_zero, List.set_cons_succ])
        refine wpAnyH_ready (rs := [4]) (by kernel_rfl) (by simp) ?_
        refine AllReadyH.cons (o := _) rfl (fun K hK => ?_) ?_
        · go_simp
          (with_reducible refine (law_big 1 _ (by omega)).mono ?_); rintro e x29 ⟨v, rfl, hv, hy⟩; replace hE := hE.trans hy; replace hx := hx.trans hy; replace s0 := cell_exQ hy s0; replace s1 := cell_exQ hy s1; replace s2 := cell_exQ hy s2; replace s3 := cell_exQ hy s3; replace s4 := cell_exQ hy s4; replace s5 := cell_exQ hy s5; replace s6 := cell_exQ hy s6; replace s7 := cell_exQ hy s7; replace Kh := kE Kh hy; replace Kz := kE Kz hy; replace Vh := Lib.hid (Vh.out.ext hy); replace Vz := Lib.hid (Vz.out.ext hy); replace Vp := Lib.hid (Vp.out.ext hy); clear hy; obtain ⟨nq, aq, qq, cq, rfl⟩ := hv.form; have Vq := Lib.hid hv; clear hv
          refine hK.out _ _ ?_ (fun hHeld2 => ?_)
          · exact ⟨s0, s1, s2, s3, s4, s5, s6, s7⟩
          clear hK K hHeld
          have hHeld := hHeld2
          clear hHeld2
          (try simp only [Act.put, List.getElem_toArray, List.getElem_cons_succ, List.getElem_cons_zero, List.setIfInBounds_toArray, List.set_cons_zero, List.set_cons_succ])
          refine wpAnyH_take (i := 5) (oi := _) (v := ?_) rfl (by kernel_rfl) (by kernel_rfl) (by kernel_rfl) (fun _ _ _ h => h) (Or.inl ⟨by rfl, ?_⟩) (by assumption) ?_
          rotate_left
          · (intro w hSw; (try dsimp only at hSw); (try go_simp); (try with_reducible rfl))
          (try simp only [Act.put, List.getElem_toArray, List.getElem_cons_succ, List.getElem_cons_zero, List.setIfInBounds_toArray, List.set_cons_zero, List.set_cons_succ])
          refine wpAnyH_ready (rs := [6]) (by kernel_rfl) (by simp) ?_
          refine AllReadyH.cons (o := _) rfl (fun K hK => ?_) ?_
          · go_simp
            (with_reducible refine (same_val Vz.out.num Vz.out.den Vp.out Vq.out).mono ?_); rintro e x30 ⟨rfl, hy⟩; replace hE := hE.trans hy; replace hx := hx.trans hy; replace s0 := cell_exQ hy s0; replace s1 := cell_exQ hy s1; replace s2 := cell_exQ hy s2; replace s3 := cell_exQ hy s3; replace s4 := cell_exQ hy s4; replace s5 := cell_exQ hy s5; replace s6 := cell_exQ hy s6; replace s7 := cell_exQ hy s7; replace Kh := kE Kh hy; replace Kz := kE Kz hy; replace Vh := Lib.hid (Vh.out.ext hy); replace Vz := Lib.hid (Vz.out.ext hy); replace Vp := Lib.hid (Vp.out.ext hy); replace Vq := Lib.hid (Vq.out.ext hy); clear hy; rw [show decide ((0 : Rat).num = 0 ∧ (((0 : Rat).den : Nat) : Int) = 1) = true by decide +kernel]
            refine hK.out _ _ ?_ (fun hHeld2 => ?_)
            · exact ⟨s0, s1, s2, s3, s4, s5, s6, s7⟩
            clear hK K hHeld
            have hHeld := hHeld2
            clear hHeld2
            (try simp only [Act.put, List.getElem_toArray, List.getElem_cons_succ, List.getElem_cons_zero, List.setIfInBounds_toArray, List.set_cons_zero, List.set_cons_succ])
            refine wpAnyH_take (i := 7) (oi := _) (v := ?_) rfl (by kernel_rfl) (by kernel_rfl) (by kernel_rfl) (fun _ _ _ h => h) (Or.inl ⟨by rfl, ?_⟩) (by assumption) ?_
            rotate_left
            · (intro w hSw; (try dsimp only at hSw); (try go_simp); (try with_reducible rfl))
            (try simp only [Act.put, List.getElem_toArray, List.getElem_cons_succ, List.getElem_cons_zero, List.setIfInBounds_toArray, List.set_cons_zero, List.set_cons_succ])
            refine wpAnyH_take (i := 8) (oi := _) (v := ?_) rfl (by kernel_rfl) (by kernel_rfl) (by kernel_rfl) (fun _ _ _ h => h) (Or.inl ⟨by rfl, ?_⟩) (by assumption) ?_
            rotate_left
            · (intro w hSw; (try dsimp only at hSw); (try go_simp); (try with_reducible rfl))
            (try simp only [Act.put, List.getElem_toArray, List.getElem_cons_succ, List.getElem_cons_zero, List.setIfInBounds_toArray, List.set_cons_zero, List.set_cons_succ])
            refine wpAnyH_take (i := 9) (oi := _) (v := ?_) rfl (by kernel_rfl) (by kernel_rfl) (by kernel_rfl) (fun _ _ _ h => h) (Or.inl ⟨by rfl, ?_⟩) (by assumption) ?_
            rotate_left
            · (intro w hSw; (try dsimp only at hSw); (try go_simp); (try with_reducible rfl))
            (try simp only [Act.put, List.getElem_toArray, List.getElem_cons_succ, List.getElem_cons_zero, List.setIfInBounds_toArray, List.set_cons_zero, List.set_cons_succ])
            refine wpAnyH_ready (rs := [10]) (by kernel_rfl) (by simp) ?_
            refine AllReadyH.cons (o := _) rfl (fun K hK => ?_) ?_
            · go_simp
              (with_reducible refine (chk_zero _).mono ?_); rintro e x31 ⟨rfl, hy⟩; replace hE := hE.trans hy; replace hx := hx.trans hy; replace s0 := cell_exQ hy s0; replace s1 := cell_exQ hy s1; replace s2 := cell_exQ hy s2; replace s3 := cell_exQ hy s3; replace s4 := cell_exQ hy s4; replace s5 := cell_exQ hy s5; replace s6 := cell_exQ hy s6; replace s7 := cell_exQ hy s7; replace Kh := kE Kh hy; replace Kz := kE Kz hy; replace Vh := Lib.hid (Vh.out.ext hy); replace Vz := Lib.hid (Vz.out.ext hy); replace Vp := Lib.hid (Vp.out.ext hy); replace Vq := Lib.hid (Vq.out.ext hy); clear hy
              refine hK.out _ _ ?_ (fun hHeld2 => ?_)
              · exact ⟨s0, s1, s2, s3, s4, s5, s6, s7⟩
              clear hK K hHeld
              have hHeld := hHeld2
              clear hHeld2
              (try simp only [Act.put, List.getElem_toArray, List.getElem_cons_succ, List.getElem_cons_zero, List.setIfInBounds_toArray, List.set_cons_zero, List.set_cons_succ])
              refine wpAnyH_take (i := 11) (oi := _) (v := ?_) rfl (by kernel_rfl) (by kernel_rfl) (by kernel_rfl) (fun _ _ _ h => h) (Or.inl ⟨by rfl, ?_⟩) (by assumption) ?_
              rotate_left
              · (intro w hSw; (try dsimp only at hSw); (try go_simp); (try with_reducible rfl))
              (try simp only [Act.put, List.getElem_toArray, List.getElem_cons_succ, List.getElem_cons_zero, List.setIfInBounds_toArray, List.set_cons_zero, List.set_cons_succ])
              refine wpAnyH_take (i := 12) (oi := _) (v := ?_) rfl (by kernel_rfl) (by kernel_rfl) (by kernel_rfl) (fun _ _ _ h => h) (Or.inl ⟨by rfl, ?_⟩) (by assumption) ?_
              rotate_left
              · (intro w hSw; (try dsimp only at hSw); (try go_simp); (try with_reducible rfl))
              (try simp only [Act.put, List.getElem_toArray, List.getElem_cons_succ, List.getElem_cons_zero, List.setIfInBounds_toArray, List.set_cons_zero, List.set_cons_succ])
              refine wpAnyH_take (i := 13) (oi := _) (v := ?_) rfl (by kernel_rfl) (by kernel_rfl) (by kernel_rfl) (fun _ _ _ h => h) (Or.inl ⟨by rfl, ?_⟩) (by assumption) ?_
              rotate_left
              · (intro w hSw; (try dsimp only at hSw); (try go_simp); (try with_reducible rfl))
              (try simp only [Act.put, List.getElem_toArray, List.getElem_cons_succ, List.getElem_cons_zero, List.setIfInBounds_toArray, List.set_cons_zero, List.set_cons_succ])
              refine wpAnyH_take (i := 14) (oi := _) (v := ?_) rfl (by kernel_rfl) (by kernel_rfl) (by kernel_rfl) (fun _ _ _ h => h) (Or.inl ⟨by rfl, ?_⟩) (by assumption) ?_
              rotate_left
              · (intro w hSw; (try dsimp only at hSw); (try go_simp); (try with_reducible rfl))
              (try simp only [Act.put, List.getElem_toArray, List.getElem_cons_succ, List.getElem_cons_zero, List.setIfInBounds_toArray, List.set_cons_zero, List.set_cons_succ])
              refine wpAnyH_ready (rs := [15]) (by kernel_rfl) (by simp) ?_
              refine AllReadyH.cons (o := _) rfl (fun K hK => ?_) ?_
              · go_simp
                (with_reducible refine (ratio_check_val Vh.out ((szq (r := Rat.divInt 1 2) (by decide +kernel)).lenN (by omega)) ((szq (r := Rat.divInt 1 2) (by decide +kernel)).lenD (by omega))).mono ?_); rintro e x32 ⟨rfl, hy⟩; replace hE := hE.trans hy; replace hx := hx.trans hy; replace s0 := cell_exQ hy s0; replace s1 := cell_exQ hy s1; replace s2 := cell_exQ hy s2; replace s3 := cell_exQ hy s3; replace s4 := cell_exQ hy s4; replace s5 := cell_exQ hy s5; replace s6 := cell_exQ hy s6; replace s7 := cell_exQ hy s7; replace Kh := kE Kh hy; replace Kz := kE Kz hy; replace Vh := Lib.hid (Vh.out.ext hy); replace Vz := Lib.hid (Vz.out.ext hy); replace Vp := Lib.hid (Vp.out.ext hy); replace Vq := Lib.hid (Vq.out.ext hy); clear hy
                refine hK.out _ _ ?_ (fun hHeld2 => ?_)
                · exact ⟨s0, s1, s2, s3, s4, s5, s6, s7⟩
                clear hK K hHeld
                have hHeld := hHeld2
                clear hHeld2
                (try simp only [Act.put, List.getElem_toArray, List.getElem_cons_succ, List.getElem_cons_zero, List.setIfInBounds_toArray, List.set_cons_zero, List.set_cons_succ])
                refine wpAnyH_take (i := 16) (oi := _) (v := ?_) rfl (by kernel_rfl) (by kernel_rfl) (by kernel_rfl) (fun _ _ _ h => h) (Or.inl ⟨by rfl, ?_⟩) (by assumption) ?_
                rotate_left
                · (intro w hSw; (try dsimp only at hSw); (try go_simp); (try with_reducible rfl))
                (try simp only [Act.put, List.getElem_toArray, List.getElem_cons_succ, List.getElem_cons_zero, List.setIfInBounds_toArray, List.set_cons_zero, List.set_cons_succ])
                refine wpAnyH_take (i := 17) (oi := _) (v := ?_) rfl (by kernel_rfl) (by kernel_rfl) (by kernel_rfl) (fun _ _ _ h => h) (Or.inl ⟨by rfl, ?_⟩) (by assumption) ?_
                rotate_left
                · (intro w hSw; (try dsimp only at hSw); (try go_simp); (try with_reducible rfl))
                (try simp only [Act.put, List.getElem_toArray, List.getElem_cons_succ, List.getElem_cons_zero, List.setIfInBounds_toArray, List.set_cons_zero, List.set_cons_succ])
                refine wpAnyH_take (i := 18) (oi := _) (v := ?_) rfl (by kernel_rfl) (by kernel_rfl) (by kernel_rfl) (fun _ _ _ h => h) (Or.inl ⟨by rfl, ?_⟩) (by assumption) ?_
                rotate_left
                · (intro w hSw; (try dsimp only at hSw); (try go_simp); (try with_reducible rfl))
                (try simp only [Act.put, List.getElem_toArray, List.getElem_cons_succ, List.getElem_cons_zero, List.setIfInBounds_toArray, List.set_cons_zero, List.set_cons_succ])
                refine wpAnyH_done (by kernel_rfl) ?_ _
                go_wp2_with fail
                go_ret
                exact ⟨rfl, hx⟩
              exact AllReadyH.nil
            exact AllReadyH.nil
          exact AllReadyH.nil
        exact AllReadyH.nil
      exact AllReadyH.nil
end Go.Proofs.YtnpeakahiedeoaaGreatDoor
