import Derived.Test.YtnpeakahiedeoaaGreatDoorPRefD
import Derived.Test.YtnpeakahiedeoaaGreatDoorPRefB
import Derived.Test.YtnpeakahiedeoaaGreatDoorPGcd
namespace Go.Proofs.YtnpeakahiedeoaaGreatDoor
open Go.RowKit Go BigFrame Go.Shelf
set_option maxRecDepth 100000
set_option linter.unusedSimpArgs false

/-! ref.Gcd. -/
set_option maxHeartbeats 2000000 in
theorem ref_Gcd_ok (n1 n2 : Bool) (a b : Option Addr) (ca cb : Nat) (l m : List Int) (w : World) (h : Ints w a ca l) (k : Ints w b cb m) (h1 : chkB n1 l = true) (h2 : chkB n2 m = true) :
    Calls Tryz.prog 55 #[.agg #[.bool n1, .slice a l.length ca], .agg #[.bool n2, .slice b m.length cb]] w (GcdP (Nat.gcd (dval l).toNat (dval m).toNat : Nat) w) := by
  obtain ⟨w3, hw3⟩ : ∃ w3, (((w.alloc (.cells #[.bool n1, .slice a l.length ca] 24)).alloc (.cells #[.bool n2, .slice b m.length cb] 24)).alloc (.cells #[.bool false, .slice none 0 0] 24)) = w3 := ⟨_, rfl⟩
  have B1 := ((Blk.new0 w #[.bool n1, .slice a l.length ca] 24).alloc (.cells #[.bool n2, .slice b m.length cb] 24)).alloc (.cells #[.bool false, .slice none 0 0] 24)
  have B2 := (Blk.new1 w (.cells #[.bool n1, .slice a l.length ca] 24) #[.bool n2, .slice b m.length cb] 24).alloc (.cells #[.bool false, .slice none 0 0] 24)
  have B3 := Blk.new2 w (.cells #[.bool n1, .slice a l.length ca] 24) (.cells #[.bool n2, .slice b m.length cb] 24) #[.bool false, .slice none 0 0] 24
  have hx : Ext w w3 := by rw [← hw3]; exact (by repeat (first | with_reducible exact Ext.refl _ | with_reducible assumption | with_reducible refine Ext.drewN ?_ _ | with_reducible refine Ext.drew ?_ | with_reducible refine Ext.alloc' ?_ _ | with_reducible refine Ext.set ?_ (by dsimp only; omega) _))
  rw [hw3] at B1 B2 B3
  have c0 := B1.cell (i := 0) (v := .bool n1) rfl
  have c1 := B1.cell (i := 1) (v := .slice a l.length ca) rfl
  have c2 := B2.cell (i := 0) (v := .bool n2) rfl
  have c3 := B2.cell (i := 1) (v := .slice b m.length cb) rfl
  have H1 := Lib.hid B1
  have H2 := Lib.hid B2
  have H3 := Lib.hid B3
  have HW := Lib.hid hw3
  have HT := ref_two n1 n2 a b ca cb l m w3 (h.ext hx) (k.ext hx)
  rw [h1, h2] at HT
  have HT := Lib.hid (show Calls Tryz.prog 86 _ w3 fun e w' => e = .returned (.int .i64 0) ∧ Ext w3 w' from HT)
  obtain ⟨z1, y1⟩ := of_chk h1
  obtain ⟨z2, y2⟩ := of_chk h2
  have HZ1 := Lib.hid z1.1
  have HZ2 := Lib.hid z2.1
  have HI := Lib.hid (h.ext hx)
  have HJ := Lib.hid (k.ext hx)
  have HA : Hid (∀ (L : List Int) (c : Option Addr) (cc : Nat), Ints w c cc L → 0 < L.length → ∀ A, c = some A → A.block < w.heap.size) := Lib.hid (fun L c cc hI hp A hA => by
    obtain ⟨b0, o0, e0⟩ := hI.head hp
    rw [e0] at hA hI
    cases hA
    exact lt_of_cell (hI.cell (i := 0) hp).1)
  have HI0 := Lib.hid h
  have HJ0 := Lib.hid k
  have HLL := Lib.hid (And.intro y1 y2)
  clear z1 z2 y1 y2 h1 h2 h k B1 B2 B3 hw3
  go_enter Tryz.func55, Tryz.ntmps55
  go_upto_region 1 with fail
  rw [HW.out]
  simp only [Nat.add_assoc, Nat.reduceAdd]
  go_wp2_with fail
  refine HT.out.mono ?_
  rintro e w5 ⟨rfl, hy⟩
  have H5 := Lib.hid (H3.out.ext hy)
  have hx5 := hx.trans hy
  clear c0 c1 c2 c3
  have c1 := (H1.out.ext hy).cell (i := 1) (v := .slice a l.length ca) rfl
  have c3 := (H2.out.ext hy).cell (i := 1) (v := .slice b m.length cb) rfl
  have hs6 : w.heap.size + 3 ≤ w5.heap.size := H5.out.lt
  have HY := Lib.hid hy
  obtain ⟨X0, hX0⟩ : ∃ X0, (dval l).toNat = X0 := ⟨_, rfl⟩
  obtain ⟨Y0, hY0⟩ : ∃ Y0, (dval m).toNat = Y0 := ⟨_, rfl⟩
  have HL1 := Lib.hid (show digs X0 = l by rw [← hX0]; exact digs_of HZ1.out)
  have HL2 := Lib.hid (show digs Y0 = m by rw [← hY0]; exact digs_of HZ2.out)
  obtain ⟨G, hG⟩ : ∃ G, Nat.gcd X0 Y0 = G := ⟨_, rfl⟩
  have HG := Lib.hid hG
  have HGG := Lib.hid (show Nat.gcd (dval l).toNat (dval m).toNat = G by rw [hX0, hY0]; exact hG)
  clear hG hX0 hY0 H1 H2 H3 HT HW hy
  go_wp2_with fail
  clear c1 c3
  go_loopg [7, 8] Y0 (fun k vm vn wr => ∃ (X : Nat) (am an : Option Addr) (cm cn L1 L2 : Nat), vm = .slice am L1 cm ∧ vn = .slice an L2 cn ∧ L1 = (digs X).length ∧ L2 = (digs k).length ∧ Ints wr am cm (digs X) ∧ Ints wr an cn (digs k) ∧
    L1 ≤ 2048 ∧ L2 ≤ 2048 ∧ Nat.gcd X k = G ∧ (0 < L1 → ∀ A, am = some A → A.block ≠ w.heap.size + 2) ∧ (0 < L2 → ∀ A, an = some A → A.block ≠ w.heap.size + 2) ∧ Ext w5 wr)
  case atStart =>
    refine ⟨X0, a, b, ca, cb, l.length, m.length, rfl, rfl, by rw [HL1.out], by rw [HL2.out], ?_, ?_, HLL.out.1, HLL.out.2, HG.out, ?_, ?_, Ext.refl _⟩
    · rw [HL1.out]; exact HI.out.ext HY.out
    · rw [HL2.out]; exact HJ.out.ext HY.out
    · exact fun hp A hA => by have := HA.out l a ca HI0.out hp A hA; omega
    · exact fun hp A hA => by have := HA.out m b cb HJ0.out hp A hA; omega
  case round =>
    clear HL1 HL2 HI HJ HA HLL HG HZ1 HZ2 HI0 HJ0
    obtain ⟨X, am, an, cm, cn, L1, L2, rfl, rfl, hL1, hL2, hi, hj, k1, k2, hg, ha, hb, hxr⟩ := hrel
    by_cases hk : gk = 0
    · subst hk
      rw [digs_zero] at hL2
      obtain rfl : L2 = 0 := by simpa using hL2
      have hG2 : X = G := by rw [← hg]; exact (Nat.gcd_zero_right X).symm
      have hB := ref_of_ok false am cm (digs X) wr hi (by rw [trim_id (digs_norm _), ← hL1]; omega)
      rw [trim_id (digs_norm _), ← hL1, Bool.false_and] at hB
      have HB := Lib.hid hB
      have K5 := Lib.hid (H5.out.ext hxr)
      have HIX := Lib.hid hi
      have HH := Lib.hid (And.intro hL1 (And.intro hG2 ha))
      have hx7 := Lib.hid (hx5.trans hxr)
      clear hB hi hj hL1 hL2 hg ha hb hG2 H5
      go_wp2_with fail
      refine HB.out.mono ?_
      rintro e w8 ⟨rfl, hy8⟩
      have F5 := K5.out.ext hy8
      have d0 := F5.cell (i := 0) (v := .bool false) rfl
      have d1 := (F5.set 0 (.bool false)).cell (i := 1) (v := .slice none 0 0) rfl
      have f0 := F5.free 0
      have f1 := (F5.set 0 (.bool false)).free 1
      have M5 := Lib.hid ((F5.set 0 (.bool false)).set 1 (.slice am L1 cm))
      have HX8 := Lib.hid (((hx7.out.trans hy8).set (p := ⟨w.heap.size + 2, 0, none⟩) (by dsimp only; omega) (.bool false)).set (p := ⟨w.heap.size + 2, 1, none⟩) (by dsimp only; omega) (.slice am L1 cm))
      have HY8 := Lib.hid hy8
      clear F5 hy8 HB
      go_wp2_with fail
      have e0 := M5.out.cell (i := 0) (v := .bool false) rfl
      have e1 := M5.out.cell (i := 1) (v := .slice am L1 cm) rfl
      obtain ⟨hL1, hG2, ha⟩ := HH.out
      have I1 := ((HIX.out.ext HY8.out).putS (p := ⟨w.heap.size + 2, 0, none⟩) (fun hp A hA => ha (by omega) A hA) (.bool false)).putS (p := ⟨w.heap.size + 2, 1, none⟩) (fun hp A hA => ha (by omega) A hA) (.slice am L1 cm)
      have hbo := big_of false X
      rw [Bool.false_and] at hbo
      have hfin : GcdP ((Nat.gcd (dval l).toNat (dval m).toNat : Nat) : Int) w (.returned (.tuple #[.agg #[.bool false, .slice am L1 cm], .int .i64 0])) ((w8.setCell ⟨w.heap.size + 2, 0, none⟩ (.bool false)).setCell ⟨w.heap.size + 2, 1, none⟩ (.slice am L1 cm)) := by
        rw [HGG.out]
        refine ⟨_, rfl, ⟨false, digs X, ⟨am, cm, by rw [hL1], I1⟩, ?_⟩, HX8.out⟩
        rw [← hG2]; exact hbo
      exact bodyPost_ret (v := .tuple #[.agg #[.bool false, .slice am L1 cm], .int .i64 0]) (by simp [results, Tryz.results55, go_sem, e0, e1]) rfl hfin
    · have hp : 0 < L2 := by rw [hL2, digs_pos (by omega)]; simp
      have hD := ref_divide am an cm cn L1 L2 (L1 + 1 - L2) (digs X) (digs gk) wr hi hj (digs_norm _).digs (digs_norm _) hp hL2.symm hL1.symm rfl (by omega) (by omega)
      have HD := Lib.hid hD
      have hr : (dval (digs X) % dval (digs gk)).toNat = X % gk := by rw [digs_val, digs_val, ← Int.natCast_emod, Int.toNat_natCast]
      have HR := Lib.hid hr
      have HIX := Lib.hid hi
      have HJX := Lib.hid hj
      have HH := Lib.hid (And.intro hL1 (And.intro hL2 (And.intro k1 (And.intro k2 (And.intro hg (And.intro ha hb))))))
      have d1 : decide (0 < L2) = true := by simpa using hp
      have d2 : decide ((0 : Int) < (L2 : Int)) = true := by simp only [decide_eq_true_eq]; omega
      have HP := Lib.hid (And.intro hp hk)
      have hsr := hxr.size
      clear hD hr hi hj hL1 hL2 hg ha hb hk
      go_wp2_with fail
      refine HD.out.mono ?_
      rintro e w8 ⟨aq, cq, ar, cr, rfl, hiq, hir, hbq, hbr, hy8⟩
      rw [HR.out] at hir ⊢
      have HIR := Lib.hid hir
      have HBR := Lib.hid hbr
      have HY8 := Lib.hid hy8
      clear hiq hir hbq hbr hy8 HD
      go_wp2_with fail
      go_roundg (X % gk)
      case measure => exact Nat.mod_lt _ (by have := HP.out.2; omega)
      case rel =>
        obtain ⟨hL1, hL2, k1, k2, hg, ha, hb⟩ := HH.out
        have hmod : X % gk < gk := Nat.mod_lt _ (by have := HP.out.2; omega)
        refine ⟨gk, an, ar, cn, cr, L2, (digs (X % gk)).length, rfl, rfl, hL2, rfl, HJX.out.ext HY8.out, HIR.out, k2, ?_, ?_, hb, ?_, hxr.trans HY8.out⟩
        · have := digs_mono (u := X % gk) (v := gk) (by omega); omega
        · rw [← hg, Nat.gcd_comm X gk, Nat.gcd_rec gk X, Nat.gcd_comm]
        · intro hp2 A hA
          have := HBR.out A hA
          omega
theorem rGcd_val {v u : Value} {z y : Int} {w : World} (hv : BigV w v z) (hu : BigV w u y) (hz : Len z) (hy : Len y) : Calls Tryz.prog 55 #[v, u] w (GcdP (Int.gcd z y : Nat) w) := by
  obtain ⟨n1, l, ⟨a, ca, rfl, hi⟩, hb⟩ := hv
  obtain ⟨n2, m, ⟨b, cb, rfl, hj⟩, hc⟩ := hu
  have := ref_Gcd_ok n1 n2 a b ca cb l m w hi hj (hb.chk hz) (hc.chk hy)
  have e1 : (dval l).toNat = z.natAbs := by
    have := dval_nonneg hb.1.digs
    rw [hb.sgn]; unfold sgn; split <;> omega
  have e2 : (dval m).toNat = y.natAbs := by
    have := dval_nonneg hc.1.digs
    rw [hc.sgn]; unfold sgn; split <;> omega
  rw [e1, e2] at this
  exact this
end Go.Proofs.YtnpeakahiedeoaaGreatDoor
