/- RatioField: the Go law returns true at every input, and its arguments read as before; the tied card. -/
import Derived.Test.YtnpeakahiedeoaaGreatDoorRows
import Derived.Test.YtnpeakahiedeoaaGreatDoorCards
import Derived.Test.YtnpeakahiedeoaaGreatDoorTie
import Derived.Test.YtnpeakahiedeoaaGreatDoorQOpen
import Derived.Test.YtnpeakahiedeoaaGreatDoorQL6
import Derived.ProofKit
import Derived.OpenShut
import Derived.LaidMore
import Derived.Lay
import Derived.SevenTiedAt
import Derived.Stop.Joined
import Derived.ShutString
import Derived.ChangeOld
import Derived.Below
namespace Go.Proofs.YtnpeakahiedeoaaGreatDoor
open Go.RowKit Go BigFrame
set_option maxRecDepth 100000
set_option linter.unusedSimpArgs false
set_option linter.unusedVariables false

theorem wp_codeQ {P : Program} {c c' : Code} {Q : Exit → Act → World → Prop} {a : Act} {w : World} (h : c = c') (k : Code.wp P c' Q a w) : Code.wp P c Q a w := h ▸ k
set_option maxHeartbeats 8000000 in
theorem law_Field_ok {nx ny nz : Bool} {ax bx ay by_ az bz : Option Addr} {qx cx kx dx qy cy ky dy qz cz kz dz : Nat} {r s t : Rat} {w : World} (hx1 : RatV w (.agg #[.bool nx, .slice ax qx cx, .bool false, .slice bx kx dx]) r) (hy1 : RatV w (.agg #[.bool ny, .slice ay qy cy, .bool false, .slice by_ ky dy]) s) (hz1 : RatV w (.agg #[.bool nz, .slice az qz cz, .bool false, .slice bz kz dz]) t) (s1 : Sz r 6) (s2 : Sz s 6) (s3 : Sz t 6)
    (hf : ∀ W gg ty, Ext w W → Blk W gg #[.bool nx, .slice ax qx cx, .bool false, .slice bx kx dx, .bool ny, .slice ay qy cy, .bool false, .slice by_ ky dy, .bool nz, .slice az qz cz, .bool false, .slice bz kz dz] ty → Calls Tryz.prog 24 #[.slice (some ⟨gg, 0, none⟩) 3 3] W fun e w' => e = .returned (.bool true) ∧ Ext W w') :
    Calls Tryz.prog 8 #[.agg #[.bool nx, .slice ax qx cx, .bool false, .slice bx kx dx], .agg #[.bool ny, .slice ay qy cy, .bool false, .slice by_ ky dy], .agg #[.bool nz, .slice az qz cz, .bool false, .slice bz kz dz]] w fun e w' => e = .returned (.bool true) ∧ Ext w w' := by
  have HFW := Lib.hid hf
  have Tx := Lib.hid s1
  have Ty := Lib.hid s2
  have Tz := Lib.hid s3
  have C1 := Lib.hid (cmpR_add r s t)
  have C2 := Lib.hid (cmpR_swap r s)
  have C3 := Lib.hid (fun h => cmpR_mul r s (t := t) h)
  have ho := cmpR_le r s
  obtain ⟨o, hor⟩ : ∃ o, o = cmpR r s := ⟨_, rfl⟩
  rw [← hor] at C1 C2 C3 ho
  have C0 := Lib.hid hor.symm
  have HWr : Hid ((o == IntKind.i64.wrap o) = true) := Lib.hid (by rcases (show o = -1 ∨ o = 0 ∨ o = 1 by omega) with h | h | h <;> rw [h] <;> decide)
  have Q1 := Lib.hid hy1.num_len
  have Q2 := Lib.hid hz1.num_len
  have Q3 := Lib.hid hz1.neg_iff
  have Vx := Lib.hid hx1
  have Vy := Lib.hid hy1
  have Vz := Lib.hid hz1
  clear hf s1 s2 s3 hx1 hy1 hz1 hor
  obtain ⟨x1, hw, hx, Kx, Ky, Kz⟩ := boxQ3 w #[.bool nx, .slice ax qx cx, .bool false, .slice bx kx dx] 26 #[.bool ny, .slice ay qy cy, .bool false, .slice by_ ky dy] 26 #[.bool nz, .slice az qz cz, .bool false, .slice bz kz dz] 26
  replace hw := Lib.hid hw
  have Vx := Lib.hid (Vx.out.ext hx)
  have Vy := Lib.hid (Vy.out.ext hx)
  have Vz := Lib.hid (Vz.out.ext hx)
  go_enter Tryz.func8, Tryz.ntmps8
  go_upto_region 1 with fail
  try simp only [Nat.add_assoc, Nat.reduceAdd, Nat.add_zero]
  rw [hw.out]
  clear hw
  have hs0 := hx.size
  obtain ⟨cx0, cx1, cx2, cx3⟩ := bk4 Kx
  obtain ⟨cy0, cy1, cy2, cy3⟩ := bk4 Ky
  obtain ⟨cz0, cz1, cz2, cz3⟩ := bk4 Kz
  go_wp2_with fail
  with_reducible refine (law10_sane _).mono ?_
  clear cx0 cx1 cx2 cx3 cy0 cy1 cy2 cy3 cz0 cz1 cz2 cz3
  rintro e x2 ⟨rfl, hy⟩
  replace hx := hx.trans hy
  replace Kx := kE Kx hy
  replace Ky := kE Ky hy
  replace Kz := kE Kz hy
  replace Vx := Lib.hid (Vx.out.ext hy)
  replace Vy := Lib.hid (Vy.out.ext hy)
  replace Vz := Lib.hid (Vz.out.ext hy)
  clear hy
  obtain ⟨cx0, cx1, cx2, cx3⟩ := bk4 Kx
  obtain ⟨cy0, cy1, cy2, cy3⟩ := bk4 Ky
  obtain ⟨cz0, cz1, cz2, cz3⟩ := bk4 Kz
  have hl := Ext.alloc x2 (.cells #[.bool nx, .slice ax qx cx, .bool false, .slice bx kx dx, .bool ny, .slice ay qy cy, .bool false, .slice by_ ky dy, .bool nz, .slice az qz cz, .bool false, .slice bz kz dz] 26)
  have hKK := Blk.new0 x2 #[.bool nx, .slice ax qx cx, .bool false, .slice bx kx dx, .bool ny, .slice ay qy cy, .bool false, .slice by_ ky dy, .bool nz, .slice az qz cz, .bool false, .slice bz kz dz] 26
  have hlx := hx.trans hl
  have HTT := Lib.hid (HFW.out _ _ _ hlx hKK)
  clear hKK hlx
  go_wp2_with fail
  with_reducible refine (HTT.out).mono ?_
  clear cx0 cx1 cx2 cx3 cy0 cy1 cy2 cy3 cz0 cz1 cz2 cz3
  rintro e x3 ⟨rfl, hy⟩
  replace hy := hl.trans hy
  replace hx := hx.trans hy
  replace Kx := kE Kx hy
  replace Ky := kE Ky hy
  replace Kz := kE Kz hy
  replace Vx := Lib.hid (Vx.out.ext hy)
  replace Vy := Lib.hid (Vy.out.ext hy)
  replace Vz := Lib.hid (Vz.out.ext hy)
  clear hy HTT hl
  go_upto_region 6 with fail
  have hl := Ext.alloc x3 (.cells #[.int .i64 0] 53)
  have lxe : w.heap.size < x3.heap.size := Kx.out.lt
  have lye : w.heap.size + 1 < x3.heap.size := Ky.out.lt
  have lze : w.heap.size + 2 < x3.heap.size := Kz.out.lt
  have hpe : w.heap.size ≤ x3.heap.size := hx.size
  replace hx := hx.trans hl
  replace Kx := kE Kx hl
  replace Ky := kE Ky hl
  replace Kz := kE Kz hl
  replace Vx := Lib.hid (Vx.out.ext hl)
  replace Vy := Lib.hid (Vy.out.ext hl)
  replace Vz := Lib.hid (Vz.out.ext hl)
  have Ke := Lib.hid (Blk.new0 x3 #[.int .i64 0] 53)
  clear hl
  generalize x3.alloc (.cells #[.int .i64 0] 53) = x4 at *
  generalize x3.heap.size = pe at *
  go_upto_region 7 with fail
  go_cut [10] (fun s1 wx => s1 = .bool true ∧ Ext x4 wx)
  case first =>
    rename_i J1 K1 hJ1 hK1
    refine wp_codeQ (c' := ((Tryz.f8.body.bind (findReg 7)).getD .skip)) (by kernel_rfl) ?_
    apply field_r7 (o := 0) Kx Ky Kz Ke Vx Vy Vz Tx Ty Tz 
    intros
    rename_i hE
    refine hK1 _ _ ?_
    go_meet
    exact ⟨rfl, hE⟩
  case rest =>
  obtain ⟨rfl, hy⟩ := hcut
  replace hx := hx.trans hy
  replace Kx := kE Kx hy
  replace Ky := kE Ky hy
  replace Kz := kE Kz hy
  replace Ke := kE Ke hy
  replace Vx := Lib.hid (Vx.out.ext hy)
  replace Vy := Lib.hid (Vy.out.ext hy)
  replace Vz := Lib.hid (Vz.out.ext hy)
  clear hy
  go_upto_region 8 with fail
  go_cut [10] (fun s1 wx => s1 = .bool true ∧ Ext wc wx)
  case first =>
    rename_i J1 K1 hJ1 hK1
    refine wp_codeQ (c' := ((Tryz.f8.body.bind (findReg 8)).getD .skip)) (by kernel_rfl) ?_
    apply field_r8 (o := 0) Kx Ky Kz Ke Vx Vy Vz Tx Ty Tz 
    intros
    rename_i hE
    refine hK1 _ _ ?_
    go_meet
    exact ⟨rfl, hE⟩
  case rest =>
  obtain ⟨rfl, hy⟩ := hcut
  replace hx := hx.trans hy
  replace Kx := kE Kx hy
  replace Ky := kE Ky hy
  replace Kz := kE Kz hy
  replace Ke := kE Ke hy
  replace Vx := Lib.hid (Vx.out.ext hy)
  replace Vy := Lib.hid (Vy.out.ext hy)
  replace Vz := Lib.hid (Vz.out.ext hy)
  clear hy
  go_upto_region 9 with fail
  go_cut [10] (fun s1 wx => s1 = .bool true ∧ Ext wc wx)
  case first =>
    rename_i J1 K1 hJ1 hK1
    refine wp_codeQ (c' := ((Tryz.f8.body.bind (findReg 9)).getD .skip)) (by kernel_rfl) ?_
    apply field_r9 (o := 0) Kx Ky Kz Ke Vx Vy Vz Tx Ty Tz 
    intros
    rename_i hE
    refine hK1 _ _ ?_
    go_meet
    exact ⟨rfl, hE⟩
  case rest =>
  obtain ⟨rfl, hy⟩ := hcut
  replace hx := hx.trans hy
  replace Kx := kE Kx hy
  replace Ky := kE Ky hy
  replace Kz := kE Kz hy
  replace Ke := kE Ke hy
  replace Vx := Lib.hid (Vx.out.ext hy)
  replace Vy := Lib.hid (Vy.out.ext hy)
  replace Vz := Lib.hid (Vz.out.ext hy)
  clear hy
  go_upto_region 10 with fail
  go_cut [10] (fun s1 wx => s1 = .bool true ∧ Ext wc wx)
  case first =>
    rename_i J1 K1 hJ1 hK1
    refine wp_codeQ (c' := ((Tryz.f8.body.bind (findReg 10)).getD .skip)) (by kernel_rfl) ?_
    apply field_r10 (o := 0) Kx Ky Kz Ke Vx Vy Vz Tx Ty Tz 
    intros
    rename_i hE
    refine hK1 _ _ ?_
    go_meet
    exact ⟨rfl, hE⟩
  case rest =>
  obtain ⟨rfl, hy⟩ := hcut
  replace hx := hx.trans hy
  replace Kx := kE Kx hy
  replace Ky := kE Ky hy
  replace Kz := kE Kz hy
  replace Ke := kE Ke hy
  replace Vx := Lib.hid (Vx.out.ext hy)
  replace Vy := Lib.hid (Vy.out.ext hy)
  replace Vz := Lib.hid (Vz.out.ext hy)
  clear hy
  go_upto_region 11 with fail
  go_cut [10] (fun s1 wx => s1 = .bool true ∧ Ext wc wx)
  case first =>
    rename_i J1 K1 hJ1 hK1
    refine wp_codeQ (c' := ((Tryz.f8.body.bind (findReg 11)).getD .skip)) (by kernel_rfl) ?_
    apply field_r11 (o := 0) Kx Ky Kz Ke Vx Vy Vz Tx Ty Tz 
    intros
    rename_i hE
    refine hK1 _ _ ?_
    go_meet
    exact ⟨rfl, hE⟩
  case rest =>
  obtain ⟨rfl, hy⟩ := hcut
  replace hx := hx.trans hy
  replace Kx := kE Kx hy
  replace Ky := kE Ky hy
  replace Kz := kE Kz hy
  replace Ke := kE Ke hy
  replace Vx := Lib.hid (Vx.out.ext hy)
  replace Vy := Lib.hid (Vy.out.ext hy)
  replace Vz := Lib.hid (Vz.out.ext hy)
  clear hy
  go_upto_region 12 with fail
  obtain ⟨cy0, cy1, cy2, cy3⟩ := bk4 Ky
  go_upto_if 112 with fail
  clear cy0 cy1 cy2 cy3
  go_cut [10] (fun s1 wx => s1 = .bool true ∧ Ext wc wx)
  case first =>
    rename_i J1 K1 hJ1 hK1
    by_cases hs : s = 0
    · have hq : ¬ (0 < (qy : Int)) := by have := Q1.out.2 hs; omega
      go_wp2_with fail
      go_meet
      exact ⟨rfl, Ext.refl _⟩
    · have hq : (0 < (qy : Int)) := by have := mt Q1.out.1 hs; omega
      have HS := Lib.hid hs
      clear hs
      go_upto_region 13 with fail
      refine wp_codeQ (c' := ((Tryz.f8.body.bind (findReg 13)).getD .skip)) (by kernel_rfl) ?_
      apply field_r13 (o := 0) Kx Ky Kz Ke Vx Vy Vz Tx Ty Tz HS
      intros
      rename_i hE
      refine hK1 _ _ ?_
      go_meet
      exact ⟨rfl, hE⟩
  case rest =>
  obtain ⟨rfl, hy⟩ := hcut
  replace hx := hx.trans hy
  replace Kx := kE Kx hy
  replace Ky := kE Ky hy
  replace Kz := kE Kz hy
  replace Ke := kE Ke hy
  replace Vx := Lib.hid (Vx.out.ext hy)
  replace Vy := Lib.hid (Vy.out.ext hy)
  replace Vz := Lib.hid (Vz.out.ext hy)
  clear hy
  go_upto_region 14 with fail
  obtain ⟨cx0, cx1, cx2, cx3⟩ := bk4 Kx
  obtain ⟨cy0, cy1, cy2, cy3⟩ := bk4 Ky
  go_wp2_with fail
  with_reducible refine (calc_cmp Ke.out Vx.out Vy.out Tx.out Ty.out (by omega) C0.out).mono ?_
  clear cx0 cx1 cx2 cx3 cy0 cy1 cy2 cy3
  rintro e x5 ⟨rfl, hy⟩
  replace hx := hx.trans hy
  replace Kx := kE Kx hy
  replace Ky := kE Ky hy
  replace Kz := kE Kz hy
  replace Ke := kE Ke hy
  replace Vx := Lib.hid (Vx.out.ext hy)
  replace Vy := Lib.hid (Vy.out.ext hy)
  replace Vz := Lib.hid (Vz.out.ext hy)
  clear hy
  go_upto_region 15 with fail
  go_cut [10] (fun s1 wx => s1 = .bool true ∧ Ext x5 wx)
  case first =>
    rename_i J1 K1 hJ1 hK1
    refine wp_codeQ (c' := ((Tryz.f8.body.bind (findReg 15)).getD .skip)) (by kernel_rfl) ?_
    apply field_r15 (o := o) Kx Ky Kz Ke Vx Vy Vz Tx Ty Tz ho HWr C1 C2
    intros
    rename_i hE
    refine hK1 _ _ ?_
    go_meet
    exact ⟨rfl, hE⟩
  case rest =>
  obtain ⟨rfl, hy⟩ := hcut
  replace hx := hx.trans hy
  replace Kx := kE Kx hy
  replace Ky := kE Ky hy
  replace Kz := kE Kz hy
  replace Ke := kE Ke hy
  replace Vx := Lib.hid (Vx.out.ext hy)
  replace Vy := Lib.hid (Vy.out.ext hy)
  replace Vz := Lib.hid (Vz.out.ext hy)
  clear hy
  go_upto_region 16 with fail
  by_cases ht0 : t = 0
  · have hq : ¬ (0 < (qz : Int)) := by have := Q2.out.2 ht0; omega
    have hqn : ¬ 0 < qz := by omega
    clear ht0
    obtain ⟨cz0, cz1, cz2, cz3⟩ := bk4 Kz
    have ce0 := bk1 Ke
    go_wp2_with fail
    go_ret
    exact ⟨rfl, hx⟩
  · have hq : (0 < (qz : Int)) := by have := mt Q2.out.1 ht0; omega
    have hqn : 0 < qz := by omega
    by_cases ht1 : t < 0
    · obtain rfl : nz = true := by rw [Q3.out]; exact decide_eq_true ht1
      clear ht0 ht1
      obtain ⟨cz0, cz1, cz2, cz3⟩ := bk4 Kz
      have ce0 := bk1 Ke
      go_wp2_with fail
      go_ret
      exact ⟨rfl, hx⟩
    · obtain rfl : nz = false := by rw [Q3.out]; exact decide_eq_false ht1
      have C4 := Lib.hid (C3.out (Rat.lt_of_le_of_ne (Rat.not_lt.1 ht1) (fun e => ht0 e.symm)))
      clear ht0 ht1
      obtain ⟨cz0, cz1, cz2, cz3⟩ := bk4 Kz
      go_upto_if 159 with fail
      clear cz0 cz1 cz2 cz3
      go_upto_region 17 with fail
      refine wp_codeQ (c' := ((Tryz.f8.body.bind (findReg 17)).getD .skip)) (by kernel_rfl) ?_
      apply field_r17 (o := o) Kx Ky Kz Ke Vx Vy Vz Tx Ty Tz ho C4
      intros
      rename_i hE
      replace hx := hx.trans hE
      replace Ke := kE Ke hE
      have ce0 := bk1 Ke
      go_wp2_with fail
      go_ret
      exact ⟨rfl, hx⟩
theorem law_Field (x y z : RatA) (w : World) (hx1 : RatI w x) (hy1 : RatI w y) (hz1 : RatI w z) : Calls Tryz.prog 8 #[x.val, y.val, z.val] w fun e w' => e = .returned (.bool true) ∧ Ext w w' := by
  cases f0 : (fewL x && (fewL y && fewL z))
  · exact law_Field_no x y z w hx1 hy1 hz1 f0
  · have HFW := fun (W : World) (gg : Nat) (t : TypeId) (hE : Ext w W) (h : Blk W gg #[.bool x.n, .slice x.a x.l.length x.c, .bool x.n2, .slice x.b x.m.length x.d, .bool y.n, .slice y.a y.l.length y.c, .bool y.n2, .slice y.b y.m.length y.d, .bool z.n, .slice z.a z.l.length z.c, .bool z.n2, .slice z.b z.m.length z.d] t) => law_few3 h (hx1.ext hE) (hy1.ext hE) (hz1.ext hE)
    rw [f0] at HFW
    simp only [Bool.and_eq_true] at f0
    obtain ⟨r, S1, hr⟩ := fewL_szF f0.1
    obtain ⟨s, S2, hs⟩ := fewL_szF f0.2.1
    obtain ⟨t, S3, ht⟩ := fewL_szF f0.2.2
    have V1 := hr w hx1
    have V2 := hs w hy1
    have V3 := ht w hz1
    clear hr hs ht hx1 hy1 hz1 f0
    obtain ⟨nx, ax, cx, lx, mx, bx, dx, kx⟩ := x
    obtain ⟨ny, ay, cy, ly, my, by_, dy, ky⟩ := y
    obtain ⟨nz, az, cz, lz, mz, bz, dz, kz⟩ := z
    dsimp only [RatA.val] at *
    obtain rfl := ratV_false V1
    obtain rfl := ratV_false V2
    obtain rfl := ratV_false V3
    exact law_Field_ok V1 V2 V3 S1 S2 S3 HFW
end Go.Proofs.YtnpeakahiedeoaaGreatDoor

namespace Go.Proofs.YtnpeakahiedeoaaGreatDoor
open Go.ChangeShapes Go.WideShapes Go.ChangeAt Go.RowKit
set_option linter.unusedVariables false
set_option maxRecDepth 100000

theorem ownRatioField : ownKnob Tryz.prog.godebug = none := by kernel_rfl
theorem laidOutRatioField : laidOutB Tryz.prog = true := by kernel_rfl

theorem liftedRatioField (os : Os) (started : os.Started) (H : Type) (enc : TypeId × Value → H) :
    ReturnsInHanded {} Tryz.checked os 8 .any (fun w args => (Rows.ratioFieldSpec.pre enc Tryz.prog Tryz.f8 [] false w args ∧ laidMetH Tryz.prog Rows.ratioFieldRow.laid w) ∧ sizedMet enc Tryz.prog Tryz.f8 (OpenSpec.ofChange Rows.ratioFieldSpec) false w args)
      (Rows.ratioFieldSpec.post enc Tryz.prog Tryz.f8 false true false false) := by
  refine returnsInHanded_of_change_and (C := Tryz.checked) (X := fun w _ => laidMetH Tryz.prog Rows.ratioFieldRow.laid w) (fun _ _ _ hh h => h.of_heap hh) ownRatioField started (by kernel_rfl) Tryz.func8
    (ChangeSpec.witness_shaped (enc := enc) (C := Tryz.checked) (os := os) (X := fun w _ => laidMetH Tryz.prog Rows.ratioFieldRow.laid w) false (World.laidAll Tryz.prog os Rows.ratioFieldRow.laid) #[.agg #[.bool false, .slice none 0 0, .bool false, .slice none 0 0], .agg #[.bool false, .slice none 0 0, .bool false, .slice none 0 0], .agg #[.bool false, .slice none 0 0, .bool false, .slice none 0 0]] 8 (World.laidAll_os _ _ _)
      (World.shaped_of_ZipB (by kernel_rfl) (by kernel_rfl)) (by kernel_rfl) (by kernel_rfl) (by kernel_rfl)
      (by rw [MakeChecks.laidMetH_plain _ _ _ (by kernel_rfl)]; exact laidMet_laidAll _ (by kernel_rfl) (by kernel_rfl))) ?_
  intro W base args ds gs before hval0 hW _ _ hL _
  have hval : ∀ (j : Nat) t v, Tryz.f8.params[j]? = some t → args[j]? = some v → Value.okWide Tryz.prog W .any base t v := hval0
  have hW' := hW
  obtain ⟨p, q, hA0, hV, rfl, hfz, hnd⟩ := hW
  have hA : DataW.TrodAll enc Tryz.prog W 0 (fun _ => true) true Tryz.f8.params.toList args.toList ds p := hA0
  rw [Tryz.params8] at hA hval
  obtain ⟨v0, vs0, d0, ds0, p0, q0, hargs, rfl, rfl, h0, r0⟩ := trodAll_cons hA
  obtain ⟨v1, vs1, d1, ds1, p1, q1, rfl, rfl, rfl, h1, r1⟩ := trodAll_cons r0
  obtain ⟨v2, vs2, d2, ds2, p2, q2, rfl, rfl, rfl, h2, r2⟩ := trodAll_cons r1
  obtain ⟨rfl, rfl, rfl⟩ := trodAll_nil r2
  obtain rfl : args = #[v0, v1, v2] := by cases args; simp_all
  obtain ⟨rfl, rfl⟩ := trodVars_none hV
  have k0 := h0
  have lt0 : ∀ x ∈ p0, x.block < W.heap.size := by obtain ⟨m, hm⟩ := k0; exact DataW.trod_lt m _ _ _ hm
  have k1 := h1
  have lt1 : ∀ x ∈ p1, x.block < W.heap.size := by obtain ⟨m, hm⟩ := k1; exact DataW.trod_lt m _ _ _ hm
  have k2 := h2
  have lt2 : ∀ x ∈ p2, x.block < W.heap.size := by obtain ⟨m, hm⟩ := k2; exact DataW.trod_lt m _ _ _ hm
  obtain ⟨x0, rfl, w0⟩ := open_rat (hval 0 26 v0 rfl rfl) h0
  obtain ⟨x1, rfl, w1⟩ := open_rat (hval 1 26 v1 rfl rfl) h1
  obtain ⟨x2, rfl, w2⟩ := open_rat (hval 2 26 v2 rfl rfl) h2
  clear hA0 hval0 hL
  refine (law_Field x0 x1 x2 W w0 w1 w2).mono fun e W' ⟨he, bel⟩ => ?_
  subst he
  exact ⟨_, rfl, _, _, _, [], _, [], hW', trodAll_mk1 (shut_bool Tryz.underlying4 _), (trodAll_cons_mk (Below.trod laidOutRatioField (by kernel_rfl) (of_decide_eq_true (by kernel_rfl)) k0 bel lt0) (trodAll_cons_mk (Below.trod laidOutRatioField (by kernel_rfl) (of_decide_eq_true (by kernel_rfl)) k1 bel lt1) (trodAll_cons_mk (Below.trod laidOutRatioField (by kernel_rfl) (of_decide_eq_true (by kernel_rfl)) k2 bel lt2) trodAll_mk0))), rfl, bel.frame _, fun h => by cases h⟩

theorem ratioField_row : Rows.RatioFieldSaid :=
  OpenClaim.holds_of_wide 8 Tryz.f8 rfl rfl rfl rfl rfl rfl rfl ⟨rfl, rfl, rfl, rfl, rfl⟩ rfl rfl rfl rfl rfl (by kernel_rfl) Tryz.func8 (by kernel_rfl)
    (of_decide_eq_true (by kernel_rfl)) (by unfold Func.isWrapper; rw [if_neg (of_decide_eq_false (by kernel_rfl))]; exact ⟨rfl, rfl⟩)
    (fun os started H enc _ => liftedRatioField os started H enc)
theorem ratioField_holds : Rows.RatioFieldCardSaid :=
  Claim7.holds_tied_plain_at .later [] [.data, .pinned] true (true, "c9699e65e6934fe35cd3ec2aff4e45b52a3c715e77c50a88570d36f2513a0942") true ratioField_row (fun _ h => by cases h) (by kernel_rfl) (fun _ h => by cases h) ratioField_row_tie rfl ⟨rfl, rfl⟩ (by kernel_rfl) rfl
    (fun f fn hf hfn => by
      obtain rfl : f = 8 := Option.some.inj ((show Tryz.prog.funcNamed "podium/podiumlaw10.RatioField" = some 8 by kernel_rfl).symm.trans hf) |>.symm
      obtain rfl : fn = Tryz.f8 := (Option.some.inj (Tryz.func8.symm.trans hfn)).symm
      exact ⟨by kernel_rfl, fun j t ht => by
        rw [Tryz.params8] at ht
        have hm : t ∈ [26, 26, 26] := by simpa using Array.mem_of_getElem? ht
        have hall : ([26, 26, 26].all fun u => !Tryz.prog.wantsStandIn u) = true := by kernel_rfl
        exact (show Tryz.prog.wantsStandIn t = false by simpa using List.all_eq_true.1 hall t hm)⟩)
    (by kernel_rfl)

#print axioms ratioField_holds
end Go.Proofs.YtnpeakahiedeoaaGreatDoor
