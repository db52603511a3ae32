import Derived.Test.YtmkleegfbapakaaDMeas
namespace Go.Proofs.Ytmkleegfbapakaa
open Go.RowKit Go D28 BigFrame
set_option maxRecDepth 100000

theorem slot_bd (ps : List (List Int)) (x : Int) (m : Nat) : -(ps.length : Int) ≤ dSlot ps x m ∧ dSlot ps x m ≤ ps.length := by
  have h1 := lo_lead_bd ps x m m
  have h2 := hi_lead_bd ps x m m
  have e : dCnts ps x m = lead ps x m m := rfl
  unfold dSlot
  rw [e]
  omega

def slotsTo (ps : List (List Int)) (m k : Nat) : List Int := (List.range k).map fun (j : Nat) => dSlot ps (j : Int) m

set_option maxHeartbeats 2000000 in
theorem refMeasure_ok (Jn : Nat) (S N : Int) (m : Nat) (a : Option Addr) (cap : Nat) (bad : List (List Bool)) (a2 : Option Addr) (cap2 : Nat) (ps : List (List Int)) (w : World) (h : BRows w a cap bad) (h2 : Rows w a2 cap2 ps)
    (he : checkE Jn S N bad ps = 0) (hm1 : 1 ≤ m) (hm2 : m ≤ 16) :
    Calls Try.prog 18 #[.agg #[.int .i64 Jn, .int .i64 S, .int .i64 N, .slice a bad.length cap], .slice a2 ps.length cap2, .int .i64 m] w fun r w' =>
      r = .returned (.tuple #[.agg #[.int .i64 (dLo ps.length (dLoads ps Jn)), .int .i64 (dHi 0 (dLoads ps Jn)), .int .i64 (dLo S (dCommons ps)), .int .i64 (dSlotMax ps Jn m)], .int .i64 0]) ∧ Ext w w' := by
  have hle := h.le
  have hmx := h.mx
  have hle2 := h2.le
  have hmx2 := h2.mx
  have hb0 := h.ext (Ext.alloc w (.cells #[.int .i64 Jn, .int .i64 S, .int .i64 N, .slice a bad.length cap] 24))
  have hp0 := h2.ext (Ext.alloc w (.cells #[.int .i64 Jn, .int .i64 S, .int .i64 N, .slice a bad.length cap] 24))
  obtain ⟨hr, hl, _⟩ := checkE_zero he
  obtain ⟨_, r1, r2, r3, r4, r5⟩ := right_rows hr
  have hn : ps.length ≤ 4096 := by omega
  have HE := Lib.hid he
  clear he hr hl
  go_enter Try.func18, Try.ntmps18
  go_wp2_with fail
  refine (refCheck _ _ _ _ _ _ _ _ _ _ (hb0.ext (Ext.alloc _ _)) (hp0.ext (Ext.alloc _ _))).mono ?_
  rw [HE.out]
  rintro e' w1 ⟨rfl, hx⟩
  have KR := Lib.hid ((Blk.new1 w (.cells #[.int .i64 Jn, .int .i64 S, .int .i64 N, .slice a bad.length cap] 24) #[.int .i64 0, .int .i64 0, .int .i64 0, .int .i64 0] 29).ext hx)
  have kb := ((Blk.new0 w #[.int .i64 Jn, .int .i64 S, .int .i64 N, .slice a bad.length cap] 24).alloc (.cells #[.int .i64 0, .int .i64 0, .int .i64 0, .int .i64 0] 29)).ext hx
  have hxw : Ext w w1 := ((Ext.alloc _ _).alloc' _).trans hx
  have b1 := kb.cell (i := 1) (v := .int .i64 S) rfl
  have KB := Lib.hid kb
  clear kb hx
  go_upto_region 7 with fail
  have kt := Blk.new0 w1 #[.int .i64 ps.length, .int .i64 0, .int .i64 S, .int .i64 0] 29
  have kr := KR.out.alloc (.cells #[.int .i64 ps.length, .int .i64 0, .int .i64 S, .int .i64 0] 29)
  have kb := KB.out.alloc (.cells #[.int .i64 ps.length, .int .i64 0, .int .i64 S, .int .i64 0] 29)
  have hx2 : Ext w (w1.alloc (.cells #[.int .i64 ps.length, .int .i64 0, .int .i64 S, .int .i64 0] 29)) := hxw.alloc' _
  have hBlt : w.heap.size + 1 < w1.heap.size := KR.out.lt
  clear b1 KR KB
  generalize (w1.alloc (.cells #[.int .i64 ps.length, .int .i64 0, .int .i64 S, .int .i64 0] 29)) = w2 at *
  clear hxw
  generalize w1.heap.size = B at *
  have KT := Lib.hid kt
  have KR := Lib.hid kr
  have KB := Lib.hid kb
  clear kt kr kb
  go_wp2_with fail
  go_loopw [10] (fun i wr => ∃ k : Nat, k ≤ Jn ∧ i = .int .i64 k ∧ Ext w wr ∧ Blk wr w.heap.size #[.int .i64 Jn, .int .i64 S, .int .i64 N, .slice a bad.length cap] 24 ∧ Blk wr (w.heap.size + 1) #[.int .i64 0, .int .i64 0, .int .i64 0, .int .i64 0] 29 ∧
    Blk wr B #[.int .i64 (dLo ps.length (dLoads ps k)), .int .i64 (dHi 0 (dLoads ps k)), .int .i64 S, .int .i64 (dHi 0 (slotsTo ps m k))] 29) (fun i _ => Jn - (intOf i).toNat)
  case atStart => exact ⟨0, Nat.zero_le _, rfl, hx2, KB.out, KR.out, KT.out⟩
  case round =>
    obtain ⟨k, hk, rfl, hxr, kb, kr, kt⟩ := hrel
    clear KB KR KT hx2
    have hpr := h2.ext hxr
    have b0 := kb.cell (i := 0) (v := .int .i64 Jn) rfl
    by_cases hlt : k < Jn
    · have hsb := slot_bd ps k m
      obtain ⟨hsb1, hsb2⟩ := hsb
      have hll := load_le ps (k : Int)
      have E0 := Lib.hid (by show dLo ps.length (dLoads ps (k + 1)) = _; rw [dLoads, map_range_succ, lo_snoc]; rfl : dLo ps.length (dLoads ps (k + 1)) = if (dLoad ps (k : Int) : Int) < dLo ps.length (dLoads ps k) then (dLoad ps (k : Int) : Int) else dLo ps.length (dLoads ps k))
      have E1 := Lib.hid (by show dHi 0 (dLoads ps (k + 1)) = _; rw [dLoads, map_range_succ, hi_snoc]; rfl : dHi 0 (dLoads ps (k + 1)) = if dHi 0 (dLoads ps k) < (dLoad ps (k : Int) : Int) then (dLoad ps (k : Int) : Int) else dHi 0 (dLoads ps k))
      have E3 := Lib.hid (by show dHi 0 (slotsTo ps m (k + 1)) = _; rw [slotsTo, map_range_succ, hi_snoc]; rfl : dHi 0 (slotsTo ps m (k + 1)) = if dHi 0 (slotsTo ps m k) < dSlot ps (k : Int) m then dSlot ps (k : Int) m else dHi 0 (slotsTo ps m k))
      generalize dLo ps.length (dLoads ps k) = L at *
      generalize dHi 0 (dLoads ps k) = H at *
      generalize dHi 0 (slotsTo ps m k) = Z at *
      obtain ⟨L', hL'⟩ : ∃ L' : Int, (if (dLoad ps (k : Int) : Int) < L then (dLoad ps (k : Int) : Int) else L) = L' := ⟨_, rfl⟩
      obtain ⟨H', hH'⟩ : ∃ H' : Int, (if H < (dLoad ps (k : Int) : Int) then (dLoad ps (k : Int) : Int) else H) = H' := ⟨_, rfl⟩
      have t0 := kt.cell (i := 0) (v := .int .i64 L) rfl
      have t1 := kt.cell (i := 1) (v := .int .i64 H) rfl
      have g0 := kt.free 0
      have g1 := kt.free 1
      have KB := Lib.hid kb
      have KR := Lib.hid kr
      have KT := Lib.hid kt
      clear kb kr kt
      go_upto_region 13 with (go_at_call 24; refine (refLoad _ _ _ _ _ hpr).mono ?_; rintro e w' ⟨rfl, rfl⟩)
      have kt := (KT.out.set 0 (.int .i64 L')).set 1 (.int .i64 H')
      have kr := (KR.out.other (p := ⟨B, 0, none⟩) (by dsimp only; omega) (.int .i64 L')).other (p := ⟨B, 1, none⟩) (by dsimp only; omega) (.int .i64 H')
      have kb := (KB.out.other (p := ⟨B, 0, none⟩) (by dsimp only; omega) (.int .i64 L')).other (p := ⟨B, 1, none⟩) (by dsimp only; omega) (.int .i64 H')
      have hx3 : Ext w ((wr.setCell ⟨B, 0, none⟩ (.int .i64 L')).setCell ⟨B, 1, none⟩ (.int .i64 H')) := (by repeat (first | with_reducible exact Ext.refl _ | with_reducible assumption | with_reducible refine Ext.drewN ?_ _ | with_reducible refine Ext.drew ?_ | with_reducible refine Ext.alloc' ?_ _ | with_reducible refine Ext.set ?_ (by dsimp only; omega) _))
      clear KT KR KB hpr b0 t0 t1 g0 g1
      generalize ((wr.setCell ⟨B, 0, none⟩ (.int .i64 L')).setCell ⟨B, 1, none⟩ (.int .i64 H')) = w3 at *
      have L3 := later_cell (kt.cell (i := 3) (v := .int .i64 Z) rfl)
      obtain ⟨sv, hsv⟩ : ∃ sv, dSlot ps (k : Int) m = sv := ⟨_, rfl⟩
      have hp3 := h2.ext hx3
      have CS := Lib.hid (fun W : Later w3 => later_same (W := W) (by have := refSlot a2 cap2 ps (k : Int) m W.1 (hp3.ext W.2) hm1 hm2 (by omega); rwa [hsv] at this))
      rw [hsv] at hsb1 hsb2 E3
      have HS := Lib.hid hsv
      clear hsv
      refine wp_region_later_tail 8 (by kernel_rfl) (by kernel_rfl) ?_; simp only [List.take_succ_cons, List.take_zero, List.drop_succ_cons, List.drop_zero]; repeat (go_big_quiet_step ((go_at_call 48; exact CS.out _)))
      refine wpQuiet_nil ?_; rintro _ ⟨⟨W1, HW1⟩, rfl⟩; (try dsimp only)
      obtain ⟨Z', hZ'⟩ : ∃ Z' : Int, (if Z < sv then sv else Z) = Z' := ⟨_, rfl⟩
      have kt3 := kt.ext HW1
      have kr3 := kr.ext HW1
      have kb3 := kb.ext HW1
      have hx4 := hx3.trans HW1
      have t3 := kt3.cell (i := 3) (v := .int .i64 Z) rfl
      have g3 := kt3.free 3
      clear kt kr kb hx3 L3 hp3
      have KT := Lib.hid kt3
      have KR := Lib.hid kr3
      have KB := Lib.hid kb3
      clear kt3 kr3 kb3
      go_wp2_with fail
      go_roundw
      case rel => exact ⟨k + 1, by omega, by go_num, (by repeat (first | with_reducible exact Ext.refl _ | with_reducible assumption | with_reducible refine Ext.drewN ?_ _ | with_reducible refine Ext.drew ?_ | with_reducible refine Ext.alloc' ?_ _ | with_reducible refine Ext.set ?_ (by dsimp only; omega) _)), KB.out.other (p := ⟨B, 3, none⟩) (by dsimp only; omega) _, KR.out.other (p := ⟨B, 3, none⟩) (by dsimp only; omega) _, by
        have := KT.out.set 3 (.int .i64 Z')
        rw [E0.out, E1.out, E3.out, hL', hH', hZ']
        exact this⟩
      case measure => simp [intOf]; omega
    · obtain rfl : k = Jn := by omega
      have KB := Lib.hid kb
      have KR := Lib.hid kr
      generalize hL : dLo ps.length (dLoads ps k) = L at *
      generalize hH : dHi 0 (dLoads ps k) = H at *
      generalize hZ : dHi 0 (slotsTo ps m k) = Z at *
      have HLHZ := Lib.hid (And.intro hL (And.intro hH hZ))
      have KT := Lib.hid kt
      clear kb kr kt hL hH hZ
      go_wp2_with fail
      go_loopw [12] (fun i wx => ∃ q : Nat, q ≤ ps.length ∧ i = .int .i64 q ∧ Ext w wx ∧ Blk wx (w.heap.size + 1) #[.int .i64 0, .int .i64 0, .int .i64 0, .int .i64 0] 29 ∧
        Blk wx B #[.int .i64 L, .int .i64 H, .int .i64 (dLo S (commonsTo ps q 0)), .int .i64 Z] 29) (fun i _ => ps.length - (intOf i).toNat)
      case atStart => exact ⟨0, Nat.zero_le _, rfl, hxr, KR.out, KT.out⟩
      case round =>
        obtain ⟨q, hq, rfl, hxq, krq, ktq⟩ := hrel
        clear KB KR KT hpr hxr b0
        by_cases hqn : q < ps.length
        · obtain ⟨pb, po, rfl⟩ := h2.head hqn
          have KR := Lib.hid krq
          have KT := Lib.hid ktq
          clear krq ktq
          go_wp2_with fail
          have hqd : q ≤ ps.length := hq
          go_loopw [13] (fun i wy => ∃ p : Nat, p ≤ q ∧ i = .int .i64 p ∧ Ext w wy ∧ Blk wy (w.heap.size + 1) #[.int .i64 0, .int .i64 0, .int .i64 0, .int .i64 0] 29 ∧
            Blk wy B #[.int .i64 L, .int .i64 H, .int .i64 (dLo S (commonsTo ps q p)), .int .i64 Z] 29) (fun i _ => q - (intOf i).toNat)
          case atStart => exact ⟨0, Nat.zero_le _, rfl, hxq, KR.out, KT.out⟩
          case round =>
            obtain ⟨p, hp, rfl, hxp, krp, ktp⟩ := hrel
            clear KR KT hxq
            by_cases hpq : p < q
            · have hpp := h2.ext hxp
              obtain ⟨rq, aq, cq, hrq, hcq, hrowq⟩ := Rows.get hpp hqn
              obtain ⟨rp, ap, cp, hrp, hcp, hrowp⟩ := Rows.get hpp (i := p) (by omega)
              obtain ⟨cv, hcv⟩ : ∃ cv : Int, (dCommon rq rp : Int) = cv := ⟨_, rfl⟩
              have E2 := Lib.hid (by rw [commonsTo_succ, lo_snoc, show ps.getD q [] = rq by simp [List.getD, hrq], show ps.getD p [] = rp by simp [List.getD, hrp], hcv] : dLo S (commonsTo ps q (p + 1)) = if cv < dLo S (commonsTo ps q p) then cv else dLo S (commonsTo ps q p))
              generalize dLo S (commonsTo ps q p) = M at *
              have i1 : (0 : Int) ≤ (q : Int) := by omega
              have i2 : (q : Int) < (ps.length : Int) := by omega
              have i3 : (0 : Int) ≤ (p : Int) := by omega
              have i4 : (p : Int) < (ps.length : Int) := by omega
              have CC := Lib.hid (fun W : Later wr => later_same (W := W) (by have := refCommon aq ap cq cp rq rp W.1 (hrowq.ext W.2) (hrowp.ext W.2); rwa [hcv] at this))
              have LQ := later_cell hcq
              have LP := later_cell hcp
              have LM := later_cell (ktp.cell (i := 2) (v := .int .i64 M) rfl)
              have KR := Lib.hid krp
              have KT := Lib.hid ktp
              clear krp ktp hpp hrq hrp hcv
              go_upto_region 20 with fail
              refine wp_region_later_tail 13 (by kernel_rfl) (by kernel_rfl) ?_; simp only [List.take_succ_cons, List.take_zero, List.drop_succ_cons, List.drop_zero]; repeat (go_big_quiet_step ((go_at_call 25; exact CC.out _)))
              refine wpQuiet_nil ?_; rintro _ ⟨⟨W1, HW1⟩, rfl⟩; (try dsimp only)
              obtain ⟨M', hM'⟩ : ∃ M' : Int, (if cv < M then cv else M) = M' := ⟨_, rfl⟩
              have kt3 := KT.out.ext HW1
              have kr3 := KR.out.ext HW1
              have hx4 := hxp.trans HW1
              have t2 := kt3.cell (i := 2) (v := .int .i64 M) rfl
              have g2 := kt3.free 2
              clear KT KR LQ LP LM hcq hcp hrowq hrowp
              have KT := Lib.hid kt3
              have KR := Lib.hid kr3
              clear kt3 kr3
              go_wp2_with fail
              go_roundw
              case rel => exact ⟨p + 1, by omega, by go_num, (by repeat (first | with_reducible exact Ext.refl _ | with_reducible assumption | with_reducible refine Ext.drewN ?_ _ | with_reducible refine Ext.drew ?_ | with_reducible refine Ext.alloc' ?_ _ | with_reducible refine Ext.set ?_ (by dsimp only; omega) _)), KR.out.other (p := ⟨B, 2, none⟩) (by dsimp only; omega) _, by
                have := KT.out.set 2 (.int .i64 M')
                rw [E2.out, hM']
                exact this⟩
              case measure => simp [intOf]; omega
            · obtain rfl : p = q := by omega
              have KR := Lib.hid krp
              have KT := Lib.hid ktp
              clear krp ktp
              go_wp2_with fail
              go_roundw
              case rel => exact ⟨p + 1, by omega, by go_num, hxp, KR.out, by rw [← commonsTo_next]; exact KT.out⟩
              case measure => simp [intOf]; omega
        · obtain rfl : q = ps.length := by omega
          have E2 := Lib.hid (congrArg (dLo S) (commonsTo_all ps))
          generalize dLo S (commonsTo ps ps.length 0) = M at *
          have t0 := ktq.cell (i := 0) (v := .int .i64 L) rfl
          have t1 := ktq.cell (i := 1) (v := .int .i64 H) rfl
          have t2 := ktq.cell (i := 2) (v := .int .i64 M) rfl
          have t3 := ktq.cell (i := 3) (v := .int .i64 Z) rfl
          have k0 := krq.cell (i := 0) (v := .int .i64 0) rfl
          have k1 := krq.cell (i := 1) (v := .int .i64 0) rfl
          have k2 := krq.cell (i := 2) (v := .int .i64 0) rfl
          have k3 := krq.cell (i := 3) (v := .int .i64 0) rfl
          have f0 := krq.free 0
          have f1 := krq.free 1
          have f2 := krq.free 2
          have f3 := krq.free 3
          clear krq ktq
          go_wp2_with fail
          refine bodyPost_ret (v := .tuple #[.agg #[.int .i64 L, .int .i64 H, .int .i64 M, .int .i64 Z], .int .i64 0]) (by simp [results, Try.results18, go_sem, k0, k1, k2, k3]) rfl ⟨?_, (by repeat (first | with_reducible exact Ext.refl _ | with_reducible assumption | with_reducible refine Ext.drewN ?_ _ | with_reducible refine Ext.drew ?_ | with_reducible refine Ext.alloc' ?_ _ | with_reducible refine Ext.set ?_ (by dsimp only; omega) _))⟩
          obtain ⟨z1, z2, z3⟩ := HLHZ.out
          rw [z1, z2, E2.out]
          show _ = Ending.returned (.tuple #[.agg #[_, _, _, .int .i64 (dHi 0 (slotsTo ps m k))], _])
          rw [z3]
end Go.Proofs.Ytmkleegfbapakaa
