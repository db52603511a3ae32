import Derived.Test.YtokffagbdfhnnaaGreatUH
import Derived.OwnWalk
import Derived.Deep.QuietTactic
import Derived.Deep.Cut
namespace Go.Proofs.YtokffagbdfhnnaaGreat
open Go.RowKit Go BigFrame Go.Shelf
set_option maxRecDepth 100000
set_option linter.unusedSimpArgs false
set_option linter.unusedVariables false
attribute [local go_sem] Oper.semAt_some

/-! Layer 11: the law's solves and refutes. -/
theorem sz01 : Sz 0 1 := ⟨by decide, by decide⟩
theorem sz11 : Sz 1 1 := ⟨by decide, by decide⟩
def solvesB (m N : Nat) (M : Mx) (x : Nat → Option Rat) (b : Nat → Rat) : Bool := (List.range m).all fun r => decide (dotM (fun c => some (M r c)) x N = some (b r))
theorem solvesB_iff {m N : Nat} {M : Mx} {x : Nat → Option Rat} {b : Nat → Rat} : solvesB m N M x b = true ↔ ∀ r, r < m → dotM (fun c => some (M r c)) x N = some (b r) := by
  unfold solvesB
  simp only [List.all_eq_true, List.mem_range, decide_eq_true_eq]
theorem solvesB_false {m N : Nat} {M : Mx} {x : Nat → Option Rat} {b : Nat → Rat} {r : Nat} (hr : r < m) (h : dotM (fun c => some (M r c)) x N ≠ some (b r)) : solvesB m N M x b = false := by
  rw [Bool.eq_false_iff]; exact fun e => h (solvesB_iff.1 e r hr)
set_option maxHeartbeats 8000000 in
theorem law11_solves (a : Option Addr) (cap m N : Nat) (V : Nat → Nat → RatC) (M : Mx) (s : Option Addr) (sc : Nat) (U : Nat → RatC) (x : Nat → Option Rat) (t : Option Addr) (tc : Nat) (Y : Nat → RatC) (b : Nat → Rat) (q : Nat) (w : World)
    (h : MatR w a cap m N V M) (hs : RatsM w s sc N U x) (ht : RowR w t tc m Y b) (hsz : ∀ r, r < m → ∀ c, c < N → Sz (M r c) 2) (hsx : ∀ c, c < N → ∀ y, x c = some y → Sz y q) (hsb : ∀ r, r < m → Sz (b r) 2) (hN : 1 + (2 + q + 1) * N + 2 ≤ 2048) :
    Calls Tryz.prog 22 #[.slice a m cap, .slice s N sc, .slice t m tc] w fun e w' => e = .returned (.bool (solvesB m N M x b)) ∧ Ext w w' := by
  have hle := h.le
  have hmx := h.mx
  have sle := hs.le
  have smx := hs.mx
  have tle := ht.le
  have tmx := ht.mx
  have HH := Lib.hid h
  have HS := Lib.hid hs
  have HT := Lib.hid ht
  have HZ := Lib.hid (And.intro hsz (And.intro hsx hsb))
  have HN := Lib.hid hN
  clear h hs ht hsz hsx hsb hN
  go_enter Tryz.func22, Tryz.ntmps22
  go_wp2_with fail
  go_loopw [7] (fun v wr => ∃ i : Nat, i ≤ m ∧ v = .int .i64 i ∧ (∀ r, r < i → dotM (fun c => some (M r c)) x N = some (b r)) ∧ Ext w wr) (fun v _ => m - (intOf v).toNat)
  case atStart => exact ⟨0, Nat.zero_le _, rfl, fun r hr => by omega, Ext.refl _⟩
  case round =>
    obtain ⟨i, hi, rfl, hal, hx⟩ := hrel
    have i0 : (0 : Int) ≤ (i : Int) := by omega
    by_cases him : i < m
    · have i1 : (i : Int) < (m : Int) := by omega
      have hw1 : IntKind.i64.wrap ((i : Int) + 1) = (i : Int) + 1 := IntWalk.i64_in _ (by omega)
      obtain ⟨ba, oa, rfl⟩ := HH.out.head him
      obtain ⟨bt, ot, rfl⟩ := HT.out.head him
      obtain ⟨_, ar, cr, c0, hrw⟩ := (HH.out.ext hx).cells _ rfl i him
      have HRW := Lib.hid hrw
      have rle := hrw.le
      have rmx := hrw.mx
      have HAL := Lib.hid hal
      have hNN : (2 + q + 1) * N ≤ 2045 := by have := HN.out; omega
      have HC := Lib.hid (law11_sum ar cr N (V i) (fun c => some (M i c)) s sc U x 2 q wr hrw.toM (HS.out.ext hx) (fun c hc => ⟨fun r e => by cases e; exact HZ.out.1 i him c hc, HZ.out.2.1 c hc⟩) (by omega))
      have HDZ : Hid (∀ y, dotM (fun c => some (M i c)) x N = some y → Sz y (1 + (2 + q + 1) * N)) := Lib.hid fun y hy => dotM_sz (p := 2) (q := q) (n := N) (fun c hc => ⟨fun r e => by cases e; exact HZ.out.1 i him c hc, HZ.out.2.1 c hc⟩) hy
      clear hal hrw hNN
      go_wp2_with fail
      refine HC.out.mono ?_
      rintro e x1 ⟨n0, a0, q0, c0', b0, k0, d0, rfl, hv, hy⟩
      replace hx := hx.trans hy
      replace c0 := cell_exQ hy c0
      clear hy HC
      have hy := Ext.alloc x1 (.cells #[.bool n0, .slice a0 q0 c0', .bool false, .slice b0 k0 d0] 44)
      have Kb := Lib.hid (Blk.new0 x1 #[.bool n0, .slice a0 q0 c0', .bool false, .slice b0 k0 d0] 44)
      have HX := Lib.hid (hx.trans hy)
      replace c0 := cell_exQ hy c0
      have HV := Lib.hid (fun y (e : dotM (fun c => some (M i c)) x N = some y) => RatV.ext (hv y e) hy)
      clear hx hy hv HRW
      cases hd : dotM (fun c => some (M i c)) x N with
      | none =>
        have HE : Hid (solvesB m N M x b = false) := Lib.hid (solvesB_false him (by rw [hd]; exact fun e => by cases e))
        clear HV HDZ hd
        go_upto_region 5 with fail
        generalize x1.alloc (.cells #[.bool n0, .slice a0 q0 c0', .bool false, .slice b0 k0 d0] 44) = x2 at *
        generalize x1.heap.size = pb at *
        clear c0 Kb
        refine wp_region_later (by kernel_rfl) (by kernel_rfl) ?_; repeat (go_big_quiet_step (fail))
        refine wpQuiet_nil ?_; rintro _ ⟨⟨W1, HW1⟩, rfl⟩; (try dsimp only)
        have HX2 := Lib.hid (HX.out.trans HW1)
        clear HW1
        go_wp2_with fail
        go_ret
        exact ⟨by rw [HE.out]; rfl, HX2.out⟩
      | some y =>
        have VY := Lib.hid (HV.out y hd)
        have ZY := Lib.hid (HDZ.out y hd)
        have HD := Lib.hid hd
        clear HV HDZ hd
        go_upto_region 5 with fail
        generalize x1.alloc (.cells #[.bool n0, .slice a0 q0 c0', .bool false, .slice b0 k0 d0] 44) = x2 at *
        generalize x1.heap.size = pb at *
        obtain ⟨_, d0', d1, d2, d3⟩ := (HT.out.ext HX.out).cells _ rfl i him
        have vb := (HT.out.ext HX.out).val i him
        generalize Y i = yc at *
        obtain ⟨ny, ay, qy, cy, my, by_, ky, dy⟩ := yc
        dsimp only [RatC.val] at d0' d1 d2 d3 vb
        have CQ := Lib.hid (fun W : Later x2 => later_call (W := W) (law11_equal (VY.out.ext W.2) (vb.ext W.2) ZY.out (HZ.out.2.2 i him) HN.out))
        obtain ⟨B, hB⟩ : ∃ B, decide (y = b i) = B := ⟨_, rfl⟩
        rw [hB] at CQ
        have HBB := Lib.hid hB
        obtain ⟨k0', k1, k2, k3⟩ := bk4 Kb
        have L0 := later_cell d0'
        have L1 := later_cell d1
        have L2 := later_cell d2
        have L3 := later_cell d3
        have L4 := later_cell k0'
        have L5 := later_cell k1
        have L6 := later_cell k2
        have L7 := later_cell k3
        have L8 := later_cell c0
        have d9 : ((N : Int) != (N : Int)) = false := by simp
        clear vb hB d0' d1 d2 d3 k0' k1 k2 k3 c0 Kb VY ZY
        refine wp_region_later (by kernel_rfl) (by kernel_rfl) ?_; repeat (go_big_quiet_step ((go_at_call 48; exact CQ.out _)))
        refine wpQuiet_nil ?_; rintro _ ⟨⟨W1, HW1⟩, rfl⟩; (try dsimp only)
        have HX2 := Lib.hid (HX.out.trans HW1)
        clear HW1
        cases B
        · have HE : Hid (solvesB m N M x b = false) := Lib.hid (solvesB_false him (by rw [HD.out]; exact fun e => of_decide_eq_false HBB.out (Option.some.inj e)))
          go_wp2_with fail
          go_ret
          exact ⟨by rw [HE.out]; rfl, HX2.out⟩
        · have HE : Hid (dotM (fun c => some (M i c)) x N = some (b i)) := Lib.hid (by rw [HD.out, of_decide_eq_true HBB.out])
          go_wp2_with fail
          go_roundw
          case rel => exact ⟨i + 1, by omega, by go_num, fun r hr => (by
            by_cases e : r = i
            · rw [e]; exact HE.out
            · exact HAL.out r (by omega)), HX2.out⟩
          case measure => simp [intOf]; omega
    · have i1 : ¬ (i : Int) < (m : Int) := by omega
      have HE : Hid (solvesB m N M x b = true) := Lib.hid (solvesB_iff.2 fun r hr => hal r (by omega))
      have HX := Lib.hid hx
      have d9 : ((m : Int) == (m : Int)) = true := by simp
      clear hal hx
      go_wp2_with fail
      go_ret
      exact ⟨by rw [HE.out]; rfl, HX.out⟩
def refutesB (m N L : Nat) (M : Mx) (y : Nat → Option Rat) (b : Nat → Rat) : Bool :=
  decide (L = m) && ((List.range N).all (fun k => decide (dotM (fun r => some (M r k)) y m = some 0)) && decide (dotM (fun r => some (b r)) y m = some 1))
theorem refutesB_iff {m N L : Nat} {M : Mx} {y : Nat → Option Rat} {b : Nat → Rat} : refutesB m N L M y b = true ↔ L = m ∧ (∀ k, k < N → dotM (fun r => some (M r k)) y m = some 0) ∧ dotM (fun r => some (b r)) y m = some 1 := by
  unfold refutesB
  simp only [Bool.and_eq_true, List.all_eq_true, List.mem_range, decide_eq_true_eq]
theorem refutesB_false {m N L : Nat} {M : Mx} {y : Nat → Option Rat} {b : Nat → Rat} (h : ¬ (L = m ∧ (∀ k, k < N → dotM (fun r => some (M r k)) y m = some 0) ∧ dotM (fun r => some (b r)) y m = some 1)) : refutesB m N L M y b = false := by
  rw [Bool.eq_false_iff]; exact fun e => h (refutesB_iff.1 e)
set_option maxHeartbeats 8000000 in
theorem law11_refutes (a : Option Addr) (cap m N : Nat) (V : Nat → Nat → RatC) (M : Mx) (s : Option Addr) (sc L : Nat) (U : Nat → RatC) (y : Nat → Option Rat) (t : Option Addr) (tc : Nat) (Y : Nat → RatC) (b : Nat → Rat) (q : Nat) (w : World)
    (h : MatR w a cap m N V M) (hN0 : m = 0 → N = 0) (hs : RatsM w s sc L U y) (ht : RowR w t tc m Y b) (hsz : ∀ r, r < m → ∀ c, c < N → Sz (M r c) 2) (hsy : L = m → ∀ c, c < L → ∀ z, y c = some z → Sz z q) (hsb : ∀ r, r < m → Sz (b r) 2) (hN : L = m → 1 + (2 + q + 1) * m + 2 ≤ 2048) (hb1 : m ≤ 1000) (hb2 : N ≤ 1000) :
    Calls Tryz.prog 20 #[.slice a m cap, .slice s L sc, .slice t m tc] w fun e w' => e = .returned (.bool (refutesB m N L M y b)) ∧ Ext w w' := by
  have hle := h.le
  have hmx := h.mx
  have sle := hs.le
  have smx := hs.mx
  have tle := ht.le
  have tmx := ht.mx
  by_cases hL : L = m
  · subst hL
    replace hsy := hsy rfl
    replace hN := hN rfl
    have HH := Lib.hid h
    have HS := Lib.hid hs
    have HT := Lib.hid ht
    have HZ := Lib.hid (And.intro hsz (And.intro hsy hsb))
    have HN := Lib.hid hN
    have HN0 : Hid ((if L = 0 then 0 else (N : Int)) = (N : Int)) := Lib.hid (if e : L = 0 then (by rw [if_pos e, hN0 e]; rfl) else (if_neg e))
    have d8 : ((L : Int) != (L : Int)) = false := by simp
    clear h hs ht hsz hsy hsb hN hN0
    go_enter Tryz.func20, Tryz.ntmps20
    go_wp2_with fail
    go_loopw [7] (fun v wr => ∃ i : Nat, i ≤ N ∧ v = .int .i64 i ∧ (∀ k, k < i → dotM (fun r => some (M r k)) y L = some 0) ∧ Ext w wr) (fun v _ => N - (intOf v).toNat)
    case atStart => exact ⟨0, Nat.zero_le _, rfl, fun r hr => by omega, Ext.refl _⟩
    case round =>
      obtain ⟨i, hi, rfl, hal, hx⟩ := hrel
      have i0 : (0 : Int) ≤ (i : Int) := by omega
      have HWD := Lib.hid ((HH.out.ext hx).wid)
      have HAL := Lib.hid hal
      have HX := Lib.hid hx
      clear hal hx
      go_wp2_with fail
      refine (ref_Columns a cap L N wr HWD.out).mono ?_
      rintro e x0 ⟨rfl, rfl⟩
      rw [HN0.out]
      by_cases hiN : i < N
      · have i1 : (i : Int) < (N : Int) := by omega
        have hw1 : IntKind.i64.wrap ((i : Int) + 1) = (i : Int) + 1 := IntWalk.i64_in _ (by omega)
        go_wp2_with fail
        refine (ref_Column a cap L N V M i wr (HH.out.ext HX.out) hiN hb1 hb2).mono ?_
        rintro e x1 ⟨ac, cc, VC, rfl, hrw, hy⟩
        replace HX := Lib.hid (HX.out.trans hy)
        have HRW := Lib.hid hrw
        have rle := hrw.le
        have rmx := hrw.mx
        clear hrw hy HWD
        have HC := Lib.hid (law11_sum ac cc L VC (fun r => some (M r i)) s sc U y 2 q x1 HRW.out.toM (HS.out.ext HX.out) (fun c hc => ⟨fun r e => by cases e; exact HZ.out.1 c hc i hiN, HZ.out.2.1 c hc⟩) (by have := HN.out; omega))
        have HDZ : Hid (∀ z, dotM (fun r => some (M r i)) y L = some z → Sz z (1 + (2 + q + 1) * L)) := Lib.hid fun z hz => dotM_sz (p := 2) (q := q) (n := L) (fun c hc => ⟨fun r e => by cases e; exact HZ.out.1 c hc i hiN, HZ.out.2.1 c hc⟩) hz
        go_wp2_with fail
        refine HC.out.mono ?_
        rintro e x2 ⟨n0, a0, q0, c0, b0, k0, d0, rfl, hv, hy⟩
        replace HX := Lib.hid (HX.out.trans hy)
        clear hy HC HRW
        have hy := Ext.alloc x2 (.cells #[.bool n0, .slice a0 q0 c0, .bool false, .slice b0 k0 d0] 44)
        have Kb := Lib.hid (Blk.new0 x2 #[.bool n0, .slice a0 q0 c0, .bool false, .slice b0 k0 d0] 44)
        replace HX := Lib.hid (HX.out.trans hy)
        have HV := Lib.hid (fun z (e : dotM (fun r => some (M r i)) y L = some z) => RatV.ext (hv z e) hy)
        clear hy hv
        cases hd : dotM (fun r => some (M r i)) y L with
        | none =>
          have HE : Hid (refutesB L N L M y b = false) := Lib.hid (refutesB_false fun hh => by have := hh.2.1 i hiN; rw [hd] at this; cases this)
          clear HV HDZ hd
          go_upto_region 7 with fail
          generalize x2.alloc (.cells #[.bool n0, .slice a0 q0 c0, .bool false, .slice b0 k0 d0] 44) = x3 at *
          generalize x2.heap.size = pb at *
          clear Kb
          refine wp_region_later (by kernel_rfl) (by kernel_rfl) ?_; repeat (go_big_quiet_step (fail))
          refine wpQuiet_nil ?_; rintro _ ⟨⟨W1, HW1⟩, rfl⟩; (try dsimp only)
          have HX2 := Lib.hid (HX.out.trans HW1)
          clear HW1
          go_wp2_with fail
          go_ret
          exact ⟨by rw [HE.out]; rfl, HX2.out⟩
        | some z =>
          have VY := Lib.hid (HV.out z hd)
          have ZY := Lib.hid (HDZ.out z hd)
          have HD := Lib.hid hd
          clear HV HDZ hd
          go_upto_region 7 with fail
          generalize x2.alloc (.cells #[.bool n0, .slice a0 q0 c0, .bool false, .slice b0 k0 d0] 44) = x3 at *
          generalize x2.heap.size = pb at *
          have hx := HX.out
          clear HX
          go_cut [45] (fun s wx => s = .bool (!(decide (z = 0))) ∧ Ext w wx)
          case first =>
              have s0 : World.cell? x3 ⟨pb, 0, none⟩ = some (.bool n0) := Kb.out.cell (i := 0) (v := .bool n0) rfl
              have s1 : World.cell? x3 ⟨pb, 1, none⟩ = some (.slice a0 q0 c0) := Kb.out.cell (i := 1) (v := .slice a0 q0 c0) rfl
              have s2 : World.cell? x3 ⟨pb, 2, none⟩ = some (.bool false) := Kb.out.cell (i := 2) (v := .bool false) rfl
              have s3 : World.cell? x3 ⟨pb, 3, none⟩ = some (.slice b0 k0 d0) := Kb.out.cell (i := 3) (v := .slice b0 k0 d0) rfl
              have hE : Ext x3 (World.drew x3) := (Ext.refl _).drew
              have hyd : Ext x3 (World.drew x3) := (Ext.refl _).drew
              replace hx := hx.trans hyd
              replace Kb := kE Kb hyd
              replace VY := Lib.hid (VY.out.ext hyd)
              clear hyd
              replace s0 : World.cell? (World.drew x3) ⟨pb, 0, none⟩ = some (.bool n0) := s0
              replace s1 : World.cell? (World.drew x3) ⟨pb, 1, none⟩ = some (.slice a0 q0 c0) := s1
              replace s2 : World.cell? (World.drew x3) ⟨pb, 2, none⟩ = some (.bool false) := s2
              replace s3 : World.cell? (World.drew x3) ⟨pb, 3, none⟩ = some (.slice b0 k0 d0) := s3
              refine wp_region_held_drew (S := (fun w' => World.cell? w' ⟨pb, 0, none⟩ = some (.bool n0) ∧ World.cell? w' ⟨pb, 1, none⟩ = some (.slice a0 q0 c0) ∧ World.cell? w' ⟨pb, 2, none⟩ = some (.bool false) ∧ World.cell? w' ⟨pb, 3, none⟩ = some (.slice b0 k0 d0))) (by kernel_rfl) ?_ (fun hHeld => ?_)
              · exact ⟨s0, s1, s2, s3⟩
              (try simp only [pur, Nat.reduceAdd])
              generalize World.drew x3 = x21 at *
              refine tk (v := ?_) 0 rfl (by kernel_rfl) (fun _ _ _ h => h) (by rfl) ?_ (by assumption) ?_
              rotate_left
              · (intro w hSw; (try dsimp only at hSw); (try go_simp); (try with_reducible rfl))
              (try simp only [Act.put, pus])
              refine tk (v := ?_) 1 rfl (by kernel_rfl) (fun _ _ _ h => h) (by rfl) ?_ (by assumption) ?_
              rotate_left
              · (intro w hSw; (try dsimp only at hSw); (try go_simp); (try with_reducible rfl))
              (try simp only [Act.put, pus])
              refine tk (v := ?_) 2 rfl (by kernel_rfl) (fun _ _ _ h => h) (by rfl) ?_ (by assumption) ?_
              rotate_left
              · (intro w hSw; (try dsimp only at hSw); (try go_simp); (try with_reducible rfl))
              (try simp only [Act.put, pus])
              refine tk (v := ?_) 3 rfl (by kernel_rfl) (fun _ _ _ h => h) (by rfl) ?_ (by assumption) ?_
              rotate_left
              · (intro w hSw; (try dsimp only at hSw); (try go_simp); (try with_reducible rfl))
              (try simp only [Act.put, pus])
              refine wpAnyH_ready (rs := [4]) (by kernel_rfl) (by simp) ?_
              refine AllReadyH.cons (o := _) rfl (fun K hK => ?_) ?_
              · go_simp
                (with_reducible refine (law11_num 0 1 _ (by omega) (by omega) (by omega)).mono ?_); rintro e x22 ⟨v1, rfl, hv, hy⟩; replace hE := hE.trans hy; replace hx := hx.trans hy; replace s0 := cell_exQ hy s0; replace s1 := cell_exQ hy s1; replace s2 := cell_exQ hy s2; replace s3 := cell_exQ hy s3; replace Kb := kE Kb hy; replace VY := Lib.hid (VY.out.ext hy); clear hy; obtain ⟨nt, at1, qt, ct, bt, kt, dt, rfl, hv', -, -⟩ := hv; rw [show Rat.divInt 0 1 = 0 from by decide +kernel] at hv'; have Vt := Lib.hid hv'; clear hv'
                refine hK.out _ _ ?_ (fun hHeld2 => ?_)
                · exact ⟨s0, s1, s2, s3⟩
                clear hK K hHeld
                have hHeld := hHeld2
                clear hHeld2
                (try simp only [Act.put, pus])
                refine wpAnyH_ready (rs := [5]) (by kernel_rfl) (by simp) ?_
                refine AllReadyH.cons (o := _) rfl (fun K hK => ?_) ?_
                · go_simp
                  (with_reducible refine (law11_equal VY.out Vt.out ZY.out (j := 1) sz01 (by have := HN.out; omega)).mono ?_); rintro e x23 ⟨rfl, hy⟩; replace hE := hE.trans hy; replace hx := hx.trans hy; replace s0 := cell_exQ hy s0; replace s1 := cell_exQ hy s1; replace s2 := cell_exQ hy s2; replace s3 := cell_exQ hy s3; replace Kb := kE Kb hy; replace VY := Lib.hid (VY.out.ext hy); replace Vt := Lib.hid (Vt.out.ext hy); clear hy
                  refine hK.out _ _ ?_ (fun hHeld2 => ?_)
                  · exact ⟨s0, s1, s2, s3⟩
                  clear hK K hHeld
                  have hHeld := hHeld2
                  clear hHeld2
                  (try simp only [Act.put, pus])
                  refine tk (v := ?_) 6 rfl (by kernel_rfl) (fun _ _ _ h => h) (by rfl) ?_ (by assumption) ?_
                  rotate_left
                  · (intro w hSw; (try dsimp only at hSw); (try go_simp); (try with_reducible rfl))
                  (try simp only [Act.put, pus])
                  refine tk (v := ?_) 7 rfl (by kernel_rfl) (fun _ _ _ h => h) (by rfl) ?_ (by assumption) ?_
                  rotate_left
                  · (intro w hSw; (try dsimp only at hSw); (try go_simp); (try with_reducible rfl))
                  (try simp only [Act.put, pus])
                  refine wpAnyH_done (by kernel_rfl) ?_ _
                  go_wp2_with fail; go_meet; exact ⟨rfl, hx⟩
                exact AllReadyH.nil
              exact AllReadyH.nil
          case rest =>
            obtain ⟨rfl, hy⟩ := hcut
            have HX := Lib.hid hy
            clear hy hx Kb VY ZY
            by_cases hz : z = 0
            · have HE : Hid (dotM (fun r => some (M r i)) y L = some 0) := Lib.hid (by rw [HD.out, hz])
              rw [decide_eq_true hz]
              clear hz HD
              go_wp2_with fail
              go_roundw
              case rel => exact ⟨i + 1, by omega, by go_num, fun r hr => (by
                by_cases e : r = i
                · rw [e]; exact HE.out
                · exact HAL.out r (by omega)), HX.out⟩
              case measure => simp [intOf]; omega
            · have HE : Hid (refutesB L N L M y b = false) := Lib.hid (refutesB_false fun hh => by have := hh.2.1 i hiN; rw [HD.out] at this; exact hz (Option.some.inj this))
              rw [decide_eq_false hz]
              clear hz HD
              go_wp2_with fail
              go_ret
              exact ⟨by rw [HE.out]; rfl, HX.out⟩
      · have i1 : ¬ (i : Int) < (N : Int) := by omega
        have HC := Lib.hid (law11_sum t tc L Y (fun r => some (b r)) s sc U y 2 q wr (HT.out.ext HX.out).toM (HS.out.ext HX.out) (fun c hc => ⟨fun r e => by cases e; exact HZ.out.2.2 c hc, HZ.out.2.1 c hc⟩) (by have := HN.out; omega))
        have HDZ : Hid (∀ z, dotM (fun r => some (b r)) y L = some z → Sz z (1 + (2 + q + 1) * L)) := Lib.hid fun z hz => dotM_sz (p := 2) (q := q) (n := L) (fun c hc => ⟨fun r e => by cases e; exact HZ.out.2.2 c hc, HZ.out.2.1 c hc⟩) hz
        have HAL2 : Hid (∀ k, k < N → dotM (fun r => some (M r k)) y L = some 0) := Lib.hid fun k hk => HAL.out k (by omega)
        go_wp2_with fail
        refine HC.out.mono ?_
        rintro e x2 ⟨n0, a0, q0, c0, b0, k0, d0, rfl, hv, hy⟩
        replace HX := Lib.hid (HX.out.trans hy)
        clear hy HC HWD HAL
        have hy := Ext.alloc x2 (.cells #[.bool n0, .slice a0 q0 c0, .bool false, .slice b0 k0 d0] 44)
        have Kb := Lib.hid (Blk.new0 x2 #[.bool n0, .slice a0 q0 c0, .bool false, .slice b0 k0 d0] 44)
        replace HX := Lib.hid (HX.out.trans hy)
        have HV := Lib.hid (fun z (e : dotM (fun r => some (b r)) y L = some z) => RatV.ext (hv z e) hy)
        clear hy hv
        cases hd : dotM (fun r => some (b r)) y L with
        | none =>
          have HE : Hid (refutesB L N L M y b = false) := Lib.hid (refutesB_false fun hh => by have := hh.2.2; rw [hd] at this; cases this)
          clear HV HDZ hd
          go_upto_region 10 with fail
          generalize x2.alloc (.cells #[.bool n0, .slice a0 q0 c0, .bool false, .slice b0 k0 d0] 44) = x3 at *
          generalize x2.heap.size = pb at *
          clear Kb
          refine wp_region_later (by kernel_rfl) (by kernel_rfl) ?_; repeat (go_big_quiet_step (fail))
          refine wpQuiet_nil ?_; rintro _ ⟨⟨W1, HW1⟩, rfl⟩; (try dsimp only)
          have HX2 := Lib.hid (HX.out.trans HW1)
          clear HW1
          go_wp2_with fail
          go_ret
          exact ⟨by rw [HE.out]; rfl, HX2.out⟩
        | some z =>
          have VY := Lib.hid (HV.out z hd)
          have ZY := Lib.hid (HDZ.out z hd)
          have HE : Hid (refutesB L N L M y b = decide (z = 1)) := Lib.hid (by
            rw [Bool.eq_iff_iff, refutesB_iff, decide_eq_true_eq]
            exact ⟨fun hh => Option.some.inj (hd.symm.trans hh.2.2), fun e => ⟨rfl, HAL2.out, by rw [hd, e]⟩⟩)
          clear HV HDZ hd
          go_upto_region 10 with fail
          generalize x2.alloc (.cells #[.bool n0, .slice a0 q0 c0, .bool false, .slice b0 k0 d0] 44) = x3 at *
          generalize x2.heap.size = pb at *
          have hx := HX.out
          clear HX
          go_cut [6] (fun s wx => s = .bool (decide (z = 1)) ∧ Ext w wx)
          case first =>
              have s0 : World.cell? x3 ⟨pb, 0, none⟩ = some (.bool n0) := Kb.out.cell (i := 0) (v := .bool n0) rfl
              have s1 : World.cell? x3 ⟨pb, 1, none⟩ = some (.slice a0 q0 c0) := Kb.out.cell (i := 1) (v := .slice a0 q0 c0) rfl
              have s2 : World.cell? x3 ⟨pb, 2, none⟩ = some (.bool false) := Kb.out.cell (i := 2) (v := .bool false) rfl
              have s3 : World.cell? x3 ⟨pb, 3, none⟩ = some (.slice b0 k0 d0) := Kb.out.cell (i := 3) (v := .slice b0 k0 d0) rfl
              have hE : Ext x3 (World.drew x3) := (Ext.refl _).drew
              have hyd : Ext x3 (World.drew x3) := (Ext.refl _).drew
              replace hx := hx.trans hyd
              replace Kb := kE Kb hyd
              replace VY := Lib.hid (VY.out.ext hyd)
              clear hyd
              replace s0 : World.cell? (World.drew x3) ⟨pb, 0, none⟩ = some (.bool n0) := s0
              replace s1 : World.cell? (World.drew x3) ⟨pb, 1, none⟩ = some (.slice a0 q0 c0) := s1
              replace s2 : World.cell? (World.drew x3) ⟨pb, 2, none⟩ = some (.bool false) := s2
              replace s3 : World.cell? (World.drew x3) ⟨pb, 3, none⟩ = some (.slice b0 k0 d0) := s3
              refine wp_region_held_drew (S := (fun w' => World.cell? w' ⟨pb, 0, none⟩ = some (.bool n0) ∧ World.cell? w' ⟨pb, 1, none⟩ = some (.slice a0 q0 c0) ∧ World.cell? w' ⟨pb, 2, none⟩ = some (.bool false) ∧ World.cell? w' ⟨pb, 3, none⟩ = some (.slice b0 k0 d0))) (by kernel_rfl) ?_ (fun hHeld => ?_)
              · exact ⟨s0, s1, s2, s3⟩
              (try simp only [pur, Nat.reduceAdd])
              generalize World.drew x3 = x21 at *
              refine tk (v := ?_) 0 rfl (by kernel_rfl) (fun _ _ _ h => h) (by rfl) ?_ (by assumption) ?_
              rotate_left
              · (intro w hSw; (try dsimp only at hSw); (try go_simp); (try with_reducible rfl))
              (try simp only [Act.put, pus])
              refine tk (v := ?_) 1 rfl (by kernel_rfl) (fun _ _ _ h => h) (by rfl) ?_ (by assumption) ?_
              rotate_left
              · (intro w hSw; (try dsimp only at hSw); (try go_simp); (try with_reducible rfl))
              (try simp only [Act.put, pus])
              refine tk (v := ?_) 2 rfl (by kernel_rfl) (fun _ _ _ h => h) (by rfl) ?_ (by assumption) ?_
              rotate_left
              · (intro w hSw; (try dsimp only at hSw); (try go_simp); (try with_reducible rfl))
              (try simp only [Act.put, pus])
              refine wpAnyH_ready (rs := [3]) (by kernel_rfl) (by simp) ?_
              refine AllReadyH.cons (o := _) rfl (fun K hK => ?_) ?_
              · go_simp
                (with_reducible refine (law11_num 1 1 _ (by omega) (by omega) (by omega)).mono ?_); rintro e x22 ⟨v1, rfl, hv, hy⟩; replace hE := hE.trans hy; replace hx := hx.trans hy; replace s0 := cell_exQ hy s0; replace s1 := cell_exQ hy s1; replace s2 := cell_exQ hy s2; replace s3 := cell_exQ hy s3; replace Kb := kE Kb hy; replace VY := Lib.hid (VY.out.ext hy); clear hy; obtain ⟨nt, at1, qt, ct, bt, kt, dt, rfl, hv', -, -⟩ := hv; rw [show Rat.divInt 1 1 = 1 from by decide +kernel] at hv'; have Vt := Lib.hid hv'; clear hv'
                refine hK.out _ _ ?_ (fun hHeld2 => ?_)
                · exact ⟨s0, s1, s2, s3⟩
                clear hK K hHeld
                have hHeld := hHeld2
                clear hHeld2
                (try simp only [Act.put, pus])
                refine wpAnyH_ready (rs := [4]) (by kernel_rfl) (by simp) ?_
                refine AllReadyH.cons (o := _) rfl (fun K hK => ?_) ?_
                · go_simp
                  (with_reducible refine (law11_equal VY.out Vt.out ZY.out (j := 1) sz11 (by have := HN.out; omega)).mono ?_); rintro e x23 ⟨rfl, hy⟩; replace hE := hE.trans hy; replace hx := hx.trans hy; replace s0 := cell_exQ hy s0; replace s1 := cell_exQ hy s1; replace s2 := cell_exQ hy s2; replace s3 := cell_exQ hy s3; replace Kb := kE Kb hy; replace VY := Lib.hid (VY.out.ext hy); replace Vt := Lib.hid (Vt.out.ext hy); clear hy
                  refine hK.out _ _ ?_ (fun hHeld2 => ?_)
                  · exact ⟨s0, s1, s2, s3⟩
                  clear hK K hHeld
                  have hHeld := hHeld2
                  clear hHeld2
                  (try simp only [Act.put, pus])
                  refine tk (v := ?_) 5 rfl (by kernel_rfl) (fun _ _ _ h => h) (by rfl) ?_ (by assumption) ?_
                  rotate_left
                  · (intro w hSw; (try dsimp only at hSw); (try go_simp); (try with_reducible rfl))
                  (try simp only [Act.put, pus])
                  refine tk (v := ?_) 6 rfl (by kernel_rfl) (fun _ _ _ h => h) (by rfl) ?_ (by assumption) ?_
                  rotate_left
                  · (intro w hSw; (try dsimp only at hSw); (try go_simp); (try with_reducible rfl))
                  (try simp only [Act.put, pus])
                  refine wpAnyH_done (by kernel_rfl) ?_ _
                  go_wp2_with fail; go_meet; exact ⟨rfl, hx⟩
                exact AllReadyH.nil
              exact AllReadyH.nil
          case rest =>
            obtain ⟨rfl, hy⟩ := hcut
            have HX := Lib.hid hy
            clear hy hx Kb VY ZY
            go_wp2_with fail
            go_ret
            exact ⟨by rw [HE.out]; rfl, HX.out⟩
  · have HE : Hid (refutesB m N L M y b = false) := Lib.hid (refutesB_false fun hh => hL hh.1)
    have d8 : ((L : Int) != (m : Int)) = true := by simp; omega
    clear h hs ht hsz hsy hsb hN hN0
    go_enter Tryz.func20, Tryz.ntmps20
    go_wp2_with fail
    go_ret
    exact ⟨by rw [HE.out]; rfl, Ext.refl _⟩
end Go.Proofs.YtokffagbdfhnnaaGreat
