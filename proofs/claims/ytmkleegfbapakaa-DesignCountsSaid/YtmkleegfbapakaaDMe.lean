import Derived.Test.YtmkleegfbapakaaDMeR
import Derived.Test.YtmkleegfbapakaaDCnt
import Derived.Test.YtmkleegfbapakaaArr
import Derived.Test.YtmkleegfbapakaaDMeas2
import Derived.Deep.Cut
import Derived.IntWalk
namespace Go.Proofs.Ytmkleegfbapakaa
open Go.RowKit Go D28
set_option maxRecDepth 100000
attribute [local go_sem] Oper.semAt_some

theorem slots_snoc (ps : List (List Int)) (m j : Nat) : slotsTo ps m (j + 1) = slotsTo ps m j ++ [dSlot ps (j : Int) m] := by
  unfold slotsTo; rw [List.range_succ, List.map_append]; rfl
theorem slots_bd (ps : List (List Int)) (m j : Nat) : 0 ≤ dHi 0 (slotsTo ps m j) ∧ dHi 0 (slotsTo ps m j) ≤ ps.length := by
  induction j with
  | zero => simp [slotsTo, dHi]
  | succ j ih =>
    rw [slots_snoc, hi_snoc]
    have := slot_bd ps (j : Int) m
    split <;> omega



set_option maxHeartbeats 1000000 in
theorem desMeasure_ok (S N : Int) (Jn m : Nat) (a : Option Addr) (cap : Nat) (bad : List (List Bool)) (a2 : Option Addr) (cap2 : Nat) (ps : List (List Int)) (w : World) (h : BRows w a cap bad) (h2 : Rows w a2 cap2 ps)
    (he : checkE Jn S N bad ps = 0) (hm1 : 1 ≤ m) (hm2 : m ≤ 16) :
    Calls Try.prog 17 #[.agg #[.int .i64 (Jn : Int), .int .i64 S, .int .i64 N, .slice a bad.length cap], .slice a2 ps.length cap2, .int .i64 (m : Int)] w fun r w' => r = .returned (.tuple #[.agg #[.int .i64 (dLo ps.length (dLoads ps Jn)), .int .i64 (dHi 0 (dLoads ps Jn)), .int .i64 (dLo S (dCommons ps)), .int .i64 (dSlotMax ps Jn m)], .int .i64 0]) ∧ Ext w w' := by
  have hle := h.le
  have hmx := h.mx
  have hb0 := h.ext (Ext.alloc w (.cells #[.int .i64 (Jn : Int), .int .i64 S, .int .i64 N, .slice a bad.length cap] 24))
  have hp0 := h2.ext (Ext.alloc w (.cells #[.int .i64 (Jn : Int), .int .i64 S, .int .i64 N, .slice a bad.length cap] 24))
  have HE := Lib.hid he
  refine (callsIn_wide (n := 5)).1 ?_
  refine callsIn_of_wp_marks Try.func17 rfl trivial ?_ rfl
  simp only [Try.ntmps17, List.size_toArray, List.length_cons, List.length_nil, Nat.reduceAdd, Nat.reduceSub, Array.replicate_succ, Array.replicate_zero, List.push_toArray, List.append_toArray, List.nil_append, List.cons_append]
  clear he
  refine wpIn_wide.2 ?_
  go_wp2_with fail
  refine (desCheck _ _ _ _ _ _ _ _ _ _ (hb0.ext (Ext.alloc _ _)) (hp0.ext (Ext.alloc _ _))).mono ?_
  rw [HE.out]
  rintro e' w1 ⟨rfl, hx⟩
  have kr := (Blk.new1 w (.cells #[.int .i64 Jn, .int .i64 S, .int .i64 N, .slice a bad.length cap] 24) _ _).ext hx
  have kw := (Blk.new0 w #[.int .i64 Jn, .int .i64 S, .int .i64 N, .slice a bad.length cap] 24).ext ((Ext.alloc _ _).trans hx)
  have hxw : Ext w w1 := ((Ext.alloc _ _).alloc' _).trans hx
  have i1 : (1 : Int) ≤ (m : Int) := by omega
  have i2 : (m : Int) ≤ 16 := by omega
  clear hb0 hp0
  go_upto_region 8 with fail
  have A1 := Arr.zero (N := 4096) (Blk.new0 w1 Try.zeroCells65 65) (by kernel_rfl)
  have A1 := A1.ext (Ext.alloc _ (.cells Try.zeroCells66 66))
  have A2 := Arr.zero (N := 256) (Blk.new1 w1 (.cells Try.zeroCells65 65) Try.zeroCells66 66) (by kernel_rfl)
  have A1 := A1.congr (g := cArr ps m 0 0) (fun i _ => (cArr_zero ps m i).symm)
  have A2 := A2.congr (g := lArr ps 0 0) (fun i _ => (lArr_zero ps i).symm)
  have hB := kr.lt
  have kr := (kr.alloc (.cells Try.zeroCells65 65)).alloc (.cells Try.zeroCells66 66)
  have kw := (kw.alloc (.cells Try.zeroCells65 65)).alloc (.cells Try.zeroCells66 66)
  have hxw : Ext w ((w1.alloc (.cells Try.zeroCells65 65)).alloc (.cells Try.zeroCells66 66)) := (by repeat (first | with_reducible exact Ext.refl _ | with_reducible assumption | with_reducible refine Ext.drewN ?_ _ | with_reducible refine Ext.drew ?_ | with_reducible refine Ext.alloc' ?_ _ | with_reducible refine Ext.set ?_ (by dsimp only; omega) _))
  generalize ((w1.alloc (.cells Try.zeroCells65 65)).alloc (.cells Try.zeroCells66 66)) = w2 at *
  clear hx
  generalize hBn : w1.heap.size = B at *
  clear hBn
  have hp2 := h2.ext hxw
  have hle2 := h2.le
  have hmx2 := h2.mx
  obtain ⟨-, hn4, -, hJ2, hS1, hS2, hrows⟩ := rows_ok HE.out
  have KR := Lib.hid kr
  have KW := Lib.hid kw
  have X1 := Lib.hid A1
  have X2 := Lib.hid A2
  clear kr kw A1 A2
  go_wp2_with fail
  go_loopw [34] (fun i wr => ∃ q : Nat, q ≤ ps.length ∧ i = .int .i64 q ∧ Ext w wr ∧ Blk wr (w.heap.size + 1) #[.int .i64 0, .int .i64 0, .int .i64 0, .int .i64 0] 29 ∧
    Blk wr w.heap.size #[.int .i64 Jn, .int .i64 S, .int .i64 N, .slice a bad.length cap] 24 ∧ Arr wr B 65 4096 (cArr ps m q 0) ∧ Arr wr (B + 1) 66 256 (lArr ps q 0)) (fun i _ => ps.length - (intOf i).toNat)
  case atStart => exact ⟨0, Nat.zero_le _, rfl, hxw, KR.out, KW.out, X1.out, X2.out⟩
  case round =>
    obtain ⟨q, hq, rfl, hxq, krq, kwq, a1q, a2q⟩ := hrel
    clear KR KW X1 X2 hp2
    by_cases hqn : q < ps.length
    · obtain ⟨pb, po, rfl⟩ := h2.head hqn
      obtain ⟨row, ra, rc, hrow, hrc0, hri⟩ := Rows.get h2 hqn
      have hrc := (hxq.cell (p := ⟨pb, po + q, none⟩) (lt_of_cell hrc0)).trans hrc0
      have hrowD : ps.getD q [] = row := by simp [List.getD, hrow]
      obtain ⟨hrl, hinc, hmem⟩ := hrows q hqn
      rw [hrowD] at hrl hinc hmem
      have HRL := Lib.hid hrl
      clear hrl
      have hrle := hri.le
      have hrmx := hri.mx
      have KR := Lib.hid krq
      have KW := Lib.hid kwq
      have X1 := Lib.hid a1q
      have X2 := Lib.hid a2q
      clear krq kwq a1q a2q
      go_wp2_with fail
      go_loopw [41] (fun i wy => ∃ p : Nat, p ≤ row.length ∧ i = .int .i64 p ∧ Ext w wy ∧ Blk wy (w.heap.size + 1) #[.int .i64 0, .int .i64 0, .int .i64 0, .int .i64 0] 29 ∧
        Blk wy w.heap.size #[.int .i64 Jn, .int .i64 S, .int .i64 N, .slice a bad.length cap] 24 ∧ Arr wy B 65 4096 (cArr ps m q p) ∧ Arr wy (B + 1) 66 256 (lArr ps q p)) (fun i _ => row.length - (intOf i).toNat)
      case atStart => exact ⟨0, Nat.zero_le _, rfl, hxq, KR.out, KW.out, X1.out, X2.out⟩
      case round =>
        obtain ⟨p, hp, rfl, hxp, krp, kwp, a1p, a2p⟩ := hrel
        clear KR KW X1 X2 hrc0 hrc
        by_cases hpr : p < row.length
        · have hrp := hri.ext hxp
          obtain ⟨eb, eo, rfl⟩ := hrp.head hpr
          obtain ⟨x, hx, hxc, hx1, hx2⟩ := Ints.get hrp hpr
          obtain ⟨hm1', hm2'⟩ := hmem x (List.mem_of_getElem? hx)
          obtain ⟨j, rfl⟩ : ∃ j : Nat, x = (j : Int) := ⟨x.toNat, by omega⟩
          have hj : j < 256 := by omega
          have hqm : q % m < m := Nat.mod_lt _ (by omega)
          have hc1 := a1p.cell (i := j * 16 + q % m) (by omega)
          have hc2 := a2p.cell (i := j) (by omega)
          have j1 : (0 : Int) ≤ (j : Int) := by omega
          have j2 : (j : Int) < 256 := by omega
          have KR := Lib.hid krp
          have KW := Lib.hid kwp
          have X1 := Lib.hid a1p
          have X2 := Lib.hid a2p
          clear krp kwp a1p a2p
          go_upto_region 14 with fail
          have E1 := Lib.hid (fun i => cArr_step (ps := ps) (m := m) (q := q) (p := p) (i := i) (j := j) (by rw [hrowD]; exact hinc) (by rw [hrowD]; exact hx) hm2 hm1)
          have E2 := Lib.hid (fun i => lArr_step (ps := ps) (q := q) (p := p) (i := i) (j := j) (by rw [hrowD]; exact hinc) (by rw [hrowD]; exact hx))
          obtain ⟨cv, hcv⟩ : ∃ cv, cArr ps m q p (j * 16 + q % m) = cv := ⟨_, rfl⟩
          obtain ⟨lv, hlv⟩ : ∃ lv, lArr ps q p j = lv := ⟨_, rfl⟩
          have bc := cArr_bd ps m q p (j * 16 + q % m)
          have bl := lArr_bd ps q p j
          rw [hcv] at hc1 bc
          rw [hlv] at hc2 bl
          obtain ⟨bc1, bc2⟩ := bc
          obtain ⟨bl1, bl2⟩ := bl
          have L1 := later_cell hc1
          have HV := Lib.hid (And.intro hcv hlv)
          clear hc1 hcv hlv hxc
          refine wp_region_later_tail 10 (by kernel_rfl) (by kernel_rfl) ?_; simp only [List.take_succ_cons, List.take_zero, List.drop_succ_cons, List.drop_zero]; repeat (go_big_quiet_step (fail))
          refine wpQuiet_nil ?_; rintro _ ⟨⟨W1, HW1⟩, rfl⟩; (try dsimp only)
          have X1 := Lib.hid (X1.out.ext HW1)
          have X2 := Lib.hid (X2.out.ext HW1)
          have KR := Lib.hid (KR.out.ext HW1)
          have KW := Lib.hid (KW.out.ext HW1)
          have hx4 := hxp.trans HW1
          have g1 := X1.out.free (j * 16 + q % m)
          have g2 := X2.out.free j
          have hc2 := X2.out.cell (i := j) (by omega)
          have hc1 := X1.out.cell (i := j * 16 + q % m) (by omega)
          rw [HV.out.1] at hc1
          rw [HV.out.2] at hc2
          clear L1
          go_wp2_with fail
          go_roundw
          case rel => exact ⟨p + 1, by omega, by go_num, (by repeat (first | with_reducible exact Ext.refl _ | with_reducible assumption | with_reducible refine Ext.drewN ?_ _ | with_reducible refine Ext.drew ?_ | with_reducible refine Ext.alloc' ?_ _ | with_reducible refine Ext.set ?_ (by dsimp only; omega) _)),
            (KR.out.other (p := ⟨B, j * 16 + q % m, none⟩) (by dsimp only; omega) _).other (p := ⟨B + 1, j, none⟩) (by dsimp only; omega) _,
            (KW.out.other (p := ⟨B, j * 16 + q % m, none⟩) (by dsimp only; omega) _).other (p := ⟨B + 1, j, none⟩) (by dsimp only; omega) _,
            ((X1.out.set (i := j * 16 + q % m) (by omega) (cv + 1)).other (p := ⟨B + 1, j, none⟩) (by dsimp only; omega) _).congr (fun i _ => by rw [E1.out i, ← HV.out.1]; split <;> simp_all),
            ((X2.out.other (p := ⟨B, j * 16 + q % m, none⟩) (by dsimp only; omega) _).set (i := j) (by omega) (lv + 1)).congr (fun i _ => by rw [E2.out i, ← HV.out.2]; split <;> simp_all)⟩
          case measure => simp [intOf]; omega
        · obtain rfl : p = row.length := by omega
          have KR := Lib.hid krp
          have KW := Lib.hid kwp
          have X1 := Lib.hid a1p
          have X2 := Lib.hid a2p
          clear krp kwp a1p a2p
          go_wp2_with fail
          go_roundw
          case rel => exact ⟨q + 1, by omega, by go_num, hxp, KR.out, KW.out, by rw [← hrowD] at X1; exact X1.out.congr (fun i _ => cArr_next ps m q i), by rw [← hrowD] at X2; exact X2.out.congr (fun i _ => lArr_next ps q i hqn)⟩
          case measure => simp [intOf]; omega
    · obtain rfl : q = ps.length := by omega
      have a1q := a1q.congr (g := fun i => (dCnt ps ((i / 16 : Nat) : Int) m (i % 16) : Int)) (fun i _ => by have := cArr_all ps m (i / 16) (i % 16) (by omega); rwa [show i / 16 * 16 + i % 16 = i by omega] at this)
      have a2q := a2q.congr (g := fun i => (dLoad ps (i : Int) : Int)) (fun i _ => lArr_all ps i)
      have IL : Ints wr (some ⟨B + 1, 0, none⟩) 256 (dLoads ps Jn) := by
        have := a2q.ints 0 Jn 256 (by omega) (by omega) (by omega) (fun k _ => by have := load_le ps ((0 + k : Nat) : Int); omega)
        simpa [dLoads] using this
      have hll : (dLoads ps Jn).length = Jn := by simp [dLoads]
      have j2 : (Jn : Int) ≤ 256 := by omega
      have j1 : (0 : Int) ≤ (Jn : Int) := by omega
      obtain ⟨L, hL⟩ : ∃ L, dLo ps.length (dLoads ps Jn) = L := ⟨_, rfl⟩
      obtain ⟨H, hH⟩ : ∃ H, dHi 0 (dLoads ps Jn) = H := ⟨_, rfl⟩
      have CL := Lib.hid (fun W : Later wr => later_same (W := W) (by have := lowest_any ps.length (some ⟨B + 1, 0, none⟩) 256 (dLoads ps Jn) W.1 (by omega) (IL.ext W.2); rwa [hll, hL] at this))
      have CH := Lib.hid (fun W : Later wr => later_same (W := W) (by have := highest_any 0 (some ⟨B + 1, 0, none⟩) 256 (dLoads ps Jn) W.1 (by omega) (IL.ext W.2); rwa [hll, hH] at this))
      have L0 := later_cell (kwq.cell (i := 0) (v := .int .i64 Jn) rfl)
      have L1 := later_cell (kwq.cell (i := 1) (v := .int .i64 S) rfl)
      have KR := Lib.hid krq
      have KW := Lib.hid kwq
      have X1 := Lib.hid a1q
      have X2 := Lib.hid a2q
      have HLH := Lib.hid (And.intro hL hH)
      clear krq kwq a1q a2q hll hL hH IL
      go_upto_region 18 with fail
      refine wp_region_later_tail 13 (by kernel_rfl) (by kernel_rfl) ?_; simp only [List.take_succ_cons, List.take_zero, List.drop_succ_cons, List.drop_zero]; repeat (go_big_quiet_step ((first | (go_at_call 44; exact CL.out _) | (go_at_call 45; exact CH.out _))))
      refine wpQuiet_nil ?_; rintro w4 ⟨⟨W1, HW1⟩, rfl⟩; (try dsimp only)
      have X1 := Lib.hid (X1.out.ext HW1)
      have X2 := Lib.hid (X2.out.ext HW1)
      have hx4 := hxq.trans HW1
      have kr := KR.out.ext HW1
      have kw := KW.out.ext HW1
      have k0 := kr.cell (i := 0) (v := .int .i64 0) rfl
      have k1 := kr.cell (i := 1) (v := .int .i64 0) rfl
      have k2 := kr.cell (i := 2) (v := .int .i64 0) rfl
      have k3 := kr.cell (i := 3) (v := .int .i64 0) rfl
      have f0 := kr.free 0
      have f1 := kr.free 1
      have f2 := kr.free 2
      have f3 := kr.free 3
      have KR := Lib.hid kr
      have KW := Lib.hid kw
      clear L0 L1 CL CH kr kw
      go_upto_region 19 with fail
      have KT := Lib.hid ((((KR.out.set 0 (.int .i64 L)).set 1 (.int .i64 H)).set 2 (.int .i64 S)).set 3 (.int .i64 0))
      have X1 := Lib.hid ((((X1.out.other (p := ⟨w.heap.size + 1, 0, none⟩) (by dsimp only; omega) (.int .i64 L)).other (p := ⟨w.heap.size + 1, 1, none⟩) (by dsimp only; omega) (.int .i64 H)).other (p := ⟨w.heap.size + 1, 2, none⟩) (by dsimp only; omega) (.int .i64 S)).other (p := ⟨w.heap.size + 1, 3, none⟩) (by dsimp only; omega) (.int .i64 0))
      have KW := Lib.hid ((((KW.out.other (p := ⟨w.heap.size + 1, 0, none⟩) (by dsimp only; omega) (.int .i64 L)).other (p := ⟨w.heap.size + 1, 1, none⟩) (by dsimp only; omega) (.int .i64 H)).other (p := ⟨w.heap.size + 1, 2, none⟩) (by dsimp only; omega) (.int .i64 S)).other (p := ⟨w.heap.size + 1, 3, none⟩) (by dsimp only; omega) (.int .i64 0))
      have hx5 : Ext w ((((w4.setCell ⟨w.heap.size + 1, 0, none⟩ (.int .i64 L)).setCell ⟨w.heap.size + 1, 1, none⟩ (.int .i64 H)).setCell ⟨w.heap.size + 1, 2, none⟩ (.int .i64 S)).setCell ⟨w.heap.size + 1, 3, none⟩ (.int .i64 0)) := (by repeat (first | with_reducible exact Ext.refl _ | with_reducible assumption | with_reducible refine Ext.drewN ?_ _ | with_reducible refine Ext.drew ?_ | with_reducible refine Ext.alloc' ?_ _ | with_reducible refine Ext.set ?_ (by dsimp only; omega) _))
      clear KR X2 k0 k1 k2 k3 f0 f1 f2 f3
      generalize ((((w4.setCell ⟨w.heap.size + 1, 0, none⟩ (.int .i64 L)).setCell ⟨w.heap.size + 1, 1, none⟩ (.int .i64 H)).setCell ⟨w.heap.size + 1, 2, none⟩ (.int .i64 S)).setCell ⟨w.heap.size + 1, 3, none⟩ (.int .i64 0)) = w5 at *
      have k0 := KW.out.cell (i := 0) (v := .int .i64 Jn) rfl
      go_wp2_with fail
      clear k0
      go_loopw [79] (fun i wr => ∃ j : Nat, j ≤ Jn ∧ i = .int .i64 j ∧ Ext w wr ∧ Blk wr (w.heap.size + 1) #[.int .i64 L, .int .i64 H, .int .i64 S, .int .i64 (dHi 0 (slotsTo ps m j))] 29 ∧
        Arr wr B 65 4096 (fun i => (dCnt ps ((i / 16 : Nat) : Int) m (i % 16) : Int))) (fun i _ => Jn - (intOf i).toNat)
      case atStart => exact ⟨0, Nat.zero_le _, rfl, hx5, KT.out, X1.out⟩
      case round =>
        obtain ⟨j, hj, rfl, hxj, krj, a1j⟩ := hrel
        clear KT KW X1 hx5 hx4
        by_cases hjn : j < Jn
        · skip
          have c0 := a1j.cell (i := j * 16) (by omega)
          have c1 := a1j.cell (i := j * 16 + 1) (by omega)
          have c2 := a1j.cell (i := j * 16 + 2) (by omega)
          have c3 := a1j.cell (i := j * 16 + 3) (by omega)
          have c4 := a1j.cell (i := j * 16 + 4) (by omega)
          have c5 := a1j.cell (i := j * 16 + 5) (by omega)
          have c6 := a1j.cell (i := j * 16 + 6) (by omega)
          have c7 := a1j.cell (i := j * 16 + 7) (by omega)
          have c8 := a1j.cell (i := j * 16 + 8) (by omega)
          have c9 := a1j.cell (i := j * 16 + 9) (by omega)
          have c10 := a1j.cell (i := j * 16 + 10) (by omega)
          have c11 := a1j.cell (i := j * 16 + 11) (by omega)
          have c12 := a1j.cell (i := j * 16 + 12) (by omega)
          have c13 := a1j.cell (i := j * 16 + 13) (by omega)
          have c14 := a1j.cell (i := j * 16 + 14) (by omega)
          have c15 := a1j.cell (i := j * 16 + 15) (by omega)
          rw [show j * 16 / 16 = j by omega, show j * 16 % 16 = 0 by omega] at c0
          rw [show (j * 16 + 1) / 16 = j by omega, show (j * 16 + 1) % 16 = 1 by omega] at c1
          rw [show (j * 16 + 2) / 16 = j by omega, show (j * 16 + 2) % 16 = 2 by omega] at c2
          rw [show (j * 16 + 3) / 16 = j by omega, show (j * 16 + 3) % 16 = 3 by omega] at c3
          rw [show (j * 16 + 4) / 16 = j by omega, show (j * 16 + 4) % 16 = 4 by omega] at c4
          rw [show (j * 16 + 5) / 16 = j by omega, show (j * 16 + 5) % 16 = 5 by omega] at c5
          rw [show (j * 16 + 6) / 16 = j by omega, show (j * 16 + 6) % 16 = 6 by omega] at c6
          rw [show (j * 16 + 7) / 16 = j by omega, show (j * 16 + 7) % 16 = 7 by omega] at c7
          rw [show (j * 16 + 8) / 16 = j by omega, show (j * 16 + 8) % 16 = 8 by omega] at c8
          rw [show (j * 16 + 9) / 16 = j by omega, show (j * 16 + 9) % 16 = 9 by omega] at c9
          rw [show (j * 16 + 10) / 16 = j by omega, show (j * 16 + 10) % 16 = 10 by omega] at c10
          rw [show (j * 16 + 11) / 16 = j by omega, show (j * 16 + 11) % 16 = 11 by omega] at c11
          rw [show (j * 16 + 12) / 16 = j by omega, show (j * 16 + 12) % 16 = 12 by omega] at c12
          rw [show (j * 16 + 13) / 16 = j by omega, show (j * 16 + 13) % 16 = 13 by omega] at c13
          rw [show (j * 16 + 14) / 16 = j by omega, show (j * 16 + 14) % 16 = 14 by omega] at c14
          rw [show (j * 16 + 15) / 16 = j by omega, show (j * 16 + 15) % 16 = 15 by omega] at c15
          have KT := Lib.hid krj
          have X1 := Lib.hid a1j
          clear krj a1j
          go_upto_region 22 with fail
          generalize ho6 : Obj.cells #[.int .i64 (dCnt ps (j : Int) m 0 : Int), .int .i64 (dCnt ps (j : Int) m 1 : Int), .int .i64 (dCnt ps (j : Int) m 2 : Int), .int .i64 (dCnt ps (j : Int) m 3 : Int), .int .i64 (dCnt ps (j : Int) m 4 : Int), .int .i64 (dCnt ps (j : Int) m 5 : Int), .int .i64 (dCnt ps (j : Int) m 6 : Int), .int .i64 (dCnt ps (j : Int) m 7 : Int), .int .i64 (dCnt ps (j : Int) m 8 : Int), .int .i64 (dCnt ps (j : Int) m 9 : Int), .int .i64 (dCnt ps (j : Int) m 10 : Int), .int .i64 (dCnt ps (j : Int) m 11 : Int), .int .i64 (dCnt ps (j : Int) m 12 : Int), .int .i64 (dCnt ps (j : Int) m 13 : Int), .int .i64 (dCnt ps (j : Int) m 14 : Int), .int .i64 (dCnt ps (j : Int) m 15 : Int)] 64 = o6
          have NB : Arr (wr.alloc o6) wr.heap.size 64 16 (fun k => (dCnt ps (j : Int) m k : Int)) := by subst ho6; exact Arr.new16 wr (fun k => (dCnt ps (j : Int) m k : Int)) _
          clear ho6
          have X1 := Lib.hid (X1.out.ext (Ext.alloc _ o6))
          have kt := KT.out.alloc o6
          have hx6 : Ext w (wr.alloc o6) := hxj.alloc' _
          clear KT hxj c0 c1 c2 c3 c4 c5 c6 c7 c8 c9 c10 c11 c12 c13 c14 c15
          generalize wr.alloc o6 = w6 at *
          generalize wr.heap.size = Bn at *
          have IL : Ints w6 (some ⟨Bn, 0, none⟩) 16 (dCnts ps (j : Int) m) := by
            have := NB.ints 0 m 16 (by omega) (by omega) (by omega) (fun k _ => by have := dCnt_le ps (j : Int) m (0 + k); omega)
            simpa [dCnts] using this
          have hll : (dCnts ps (j : Int) m).length = m := by simp [dCnts]
          have bL := lo_lead_bd ps (j : Int) m m
          have bH := hi_lead_bd ps (j : Int) m m
          have bS := slots_bd ps m j
          obtain ⟨Lj, hLj⟩ : ∃ L, dLo ps.length (dCnts ps (j : Int) m) = L := ⟨_, rfl⟩
          obtain ⟨Hj, hHj⟩ : ∃ H, dHi 0 (dCnts ps (j : Int) m) = H := ⟨_, rfl⟩
          obtain ⟨Sj, hSj⟩ : ∃ S, dHi 0 (slotsTo ps m j) = S := ⟨_, rfl⟩
          rw [show lead ps (j : Int) m m = dCnts ps (j : Int) m from rfl, hLj] at bL
          rw [show lead ps (j : Int) m m = dCnts ps (j : Int) m from rfl, hHj] at bH
          rw [hSj] at bS kt
          obtain ⟨bL1, bL2⟩ := bL
          obtain ⟨bH1, bH2⟩ := bH
          obtain ⟨bS1, bS2⟩ := bS
          have CL := Lib.hid (fun W : Later w6 => later_same (W := W) (by have := lowest_any ps.length (some ⟨Bn, 0, none⟩) 16 (dCnts ps (j : Int) m) W.1 (by omega) (IL.ext W.2); rwa [hll, hLj] at this))
          have CH := Lib.hid (fun W : Later w6 => later_same (W := W) (by have := highest_any 0 (some ⟨Bn, 0, none⟩) 16 (dCnts ps (j : Int) m) W.1 (by omega) (IL.ext W.2); rwa [hll, hHj] at this))
          have hsl : dHi 0 (slotsTo ps m (j + 1)) = if Sj < Hj - Lj then Hj - Lj else Sj := by
            rw [slots_snoc, hi_snoc, hSj, ← hHj, ← hLj]; rfl
          have HSL := Lib.hid hsl
          have L3 := later_cell (kt.cell (i := 3) (v := .int .i64 Sj) rfl)
          have hwr : IntKind.i64.wrap (Hj - Lj) = Hj - Lj := IntWalk.i64_in _ (by omega)
          have KT := Lib.hid kt
          clear hLj hHj hSj hsl kt IL NB hll
          refine wp_region_later_tail 13 (by kernel_rfl) (by kernel_rfl) ?_; simp only [List.take_succ_cons, List.take_zero, List.drop_succ_cons, List.drop_zero]; repeat (go_big_quiet_step ((first | (go_at_call 44; exact CL.out _) | (go_at_call 45; exact CH.out _))))
          refine wpQuiet_nil ?_; rintro w7 ⟨⟨W1, HW1⟩, rfl⟩; (try dsimp only)
          have X1 := Lib.hid (X1.out.ext HW1)
          have hx7 := hx6.trans HW1
          have kt := KT.out.ext HW1
          have k3 := kt.cell (i := 3) (v := .int .i64 Sj) rfl
          have f3 := kt.free 3
          have KT := Lib.hid kt
          clear kt L3 hwr CL CH
          go_wp2_with fail
          go_roundw
          case rel => exact ⟨j + 1, by omega, by go_num, (by repeat (first | with_reducible exact Ext.refl _ | with_reducible assumption | with_reducible refine Ext.drewN ?_ _ | with_reducible refine Ext.drew ?_ | with_reducible refine Ext.alloc' ?_ _ | with_reducible refine Ext.set ?_ (by dsimp only; omega) _)), by rw [HSL.out]; exact KT.out.set 3 _, X1.out.other (p := ⟨w.heap.size + 1, 3, none⟩) (by dsimp only; omega) _⟩
          case measure => simp [intOf]; omega
        · obtain rfl : j = Jn := by omega
          obtain ⟨V, hV1, hV2⟩ := Rows.vals2 h2
          have KT := Lib.hid krj
          have HV := Lib.hid hV2
          have HVa := Lib.hid hV1
          have HR := Lib.hid hrows
          clear krj a1j hV2 hV1 hjn
          go_wp2_with (go_at_call 46; refine (callsIn_wide.1 (twos_in 1 _ _ ⟨_, _, _, rfl⟩)).mono ?_; rintro e7 w7 ⟨rfl, rfl⟩)
          refine (wpIn_wide (n := 5)).1 ?_
          have KT2 := KT.out.alloc (.cells #[.slice a2 ps.length cap2] 25)
          have hB2 := Blk.new0 wr #[.slice a2 ps.length cap2] 25
          have hx8 : Ext w (wr.alloc (.cells #[.slice a2 ps.length cap2] 25)) := hxj.alloc' _
          have hlt8 : w.heap.size + 1 < wr.heap.size := KT.out.lt
          have hsz8 : (wr.alloc (.cells #[.slice a2 ps.length cap2] 25)).heap.size = wr.heap.size + 1 := by simp
          refine wpIn_rangeFunc_ownF rfl (by omega) (gf := 79) (lb := #[.pointer (some ⟨wr.heap.size, 0, none⟩)]) rfl trivial (enters_of Try.func79 (by kernel_rfl) rfl)
            (twos_stops 4 (by omega) wr.heap.size w.heap.size a2 cap2 ps _ w hx8 h2 rfl V HVa.out hB2) (fun h k => KpT.trans h k) (kpT_b (by omega)) (Below.refl _ _) (fun _ => rfl)
            (fun pre W => Blk W (w.heap.size + 1) #[.int .i64 L, .int .i64 H, .int .i64 (dLo S (cmap ps pre)), .int .i64 (dHi 0 (slotsTo ps m j))] 29 ∧ Below w.heap.size w W)
            (fun _ _ _ => False)
            (OwnFrom.and (Own.from (blk_own _ _ _) _) (ownFrom_below (Nat.le_refl _) (by omega)))
            (fun _ _ _ _ _ hs _ _ => hs)
            ⟨KT2, hx8⟩ ?a1 ?assign ?body ?done ?stop
          case assign =>
            intro l x W K hK
            gi_wp2
            exact hK
          case body =>
            rintro l pre x W ⟨hT, hB⟩ hlen
            obtain ⟨p, q⟩ := x
            dsimp only
            obtain ⟨a5, c5, e5, i5⟩ := HV.out p
            obtain ⟨a6, c6, e6, i6⟩ := HV.out q
            rw [e5, e6]
            have I5 := Inc.getD HR.out p
            have I6 := Inc.getD HR.out q
            have i5 := i5.ext hB
            have i6 := i6.ext hB
            obtain ⟨cm, hcm⟩ : ∃ cm : Int, (dCommon (ps.getD p []) (ps.getD q []) : Int) = cm := ⟨_, rfl⟩
            have hcm0 : 0 ≤ cm := by omega
            have CC := Lib.hid (fun W' : Later W => later_drewN (W := W') (by have := desCommon a5 a6 c5 c6 _ _ W'.1 (i5.ext W'.2) (i6.ext W'.2) I5 I6; rwa [hcm] at this))
            have HCM := Lib.hid (cmap_snoc ps pre (p, q))
            have bP := cmap_bd ps S (by omega) pre
            obtain ⟨P, hP⟩ : ∃ P, dLo S (cmap ps pre) = P := ⟨_, rfl⟩
            rw [hP] at hT bP
            obtain ⟨bP1, bP2⟩ := bP
            have HP := Lib.hid hP
            have HC := Lib.hid hcm
            have L2 := later_cell (hT.cell (i := 2) (v := .int .i64 P) rfl)
            have KT := Lib.hid hT
            clear e5 e6 i5 i6 I5 I6 hP hcm hT
            gi_wp2_with fail
            refine wpIn_region_later_tail 7 (by kernel_rfl) (by kernel_rfl) ?_; simp only [List.take_succ_cons, List.take_zero, List.drop_succ_cons, List.drop_zero]; repeat (go_big_quiet_step ((go_at_call 47; exact CC.out _)))
            refine wpQuiet_nil ?_; rintro w7 ⟨⟨W1, HW1⟩, rfl⟩; (try dsimp only)
            have kt := KT.out.ext HW1
            have k2 := kt.cell (i := 2) (v := .int .i64 P) rfl
            have f2 := kt.free 2
            have KT := Lib.hid kt
            clear kt L2
            generalize hM : (if cm < P then cm else P) = M
            have HM := Lib.hid hM
            clear hM
            gi_wp2_with fail
            refine ⟨HW1.others.trans (KeepsOthers.setCell _ _ _), ⟨(HW1.mono hB.size).setCell (p := ⟨w.heap.size + 1, 2, none⟩) (by dsimp only; omega) _, fun hX => (hX.ext HW1).other (p := ⟨w.heap.size + 1, 2, none⟩) (by dsimp only; omega) _⟩, ?_, (hB.trans (HW1.mono hB.size)).setCell (p := ⟨w.heap.size + 1, 2, none⟩) (by dsimp only; omega) _⟩
            rw [HCM.out, lo_snoc, HP.out, HC.out, HM.out]
            exact KT.out.set 2 _
          case done =>
            rintro D ys W hD rfl ⟨hT, hB⟩ hK
            have hK0 := Lib.hid hK
            have KT := Lib.hid hT
            obtain ⟨P, hP⟩ : ∃ P, dLo S (cmap ps (prs ps.length 0)) = P := ⟨_, rfl⟩
            obtain ⟨M, hM⟩ : ∃ M, dHi 0 (slotsTo ps m j) = M := ⟨_, rfl⟩
            rw [hP, hM] at hT
            have k0 := hT.cell (i := 0) (v := .int .i64 L) rfl
            have k1 := hT.cell (i := 1) (v := .int .i64 H) rfl
            have k2 := hT.cell (i := 2) (v := .int .i64 P) rfl
            have k3 := hT.cell (i := 3) (v := .int .i64 M) rfl
            have f0 := hT.free 0
            have f1 := hT.free 1
            have f2 := hT.free 2
            have f3 := hT.free 3
            have hP' := Lib.hid hP
            have hM' := Lib.hid hM
            have KT := Lib.hid hT
            clear hK hP hM hT
            go_wp2_with fail
            have KT := (((KT.out.set 0 (.int .i64 L)).set 1 (.int .i64 H)).set 2 (.int .i64 P)).set 3 (.int .i64 M)
            have hx9 : Ext w ((((W.setCell ⟨w.heap.size + 1, 0, none⟩ (.int .i64 L)).setCell ⟨w.heap.size + 1, 1, none⟩ (.int .i64 H)).setCell ⟨w.heap.size + 1, 2, none⟩ (.int .i64 P)).setCell ⟨w.heap.size + 1, 3, none⟩ (.int .i64 M)) := (by repeat (first | with_reducible exact Ext.refl _ | with_reducible assumption | with_reducible refine Ext.drewN ?_ _ | with_reducible refine Ext.drew ?_ | with_reducible refine Ext.alloc' ?_ _ | with_reducible refine Ext.set ?_ (by dsimp only; omega) _))
            have hK' := (((((KeepsOthers.setCell W ⟨w.heap.size + 1, 0, none⟩ (.int .i64 L)).trans (KeepsOthers.setCell _ ⟨w.heap.size + 1, 1, none⟩ (.int .i64 H))).trans (KeepsOthers.setCell _ ⟨w.heap.size + 1, 2, none⟩ (.int .i64 P))).trans (KeepsOthers.setCell _ ⟨w.heap.size + 1, 3, none⟩ (.int .i64 M)))).same D _ hK0.out rfl
            clear k0 k1 k2 k3 f0 f1 f2 f3
            generalize ((((W.setCell ⟨w.heap.size + 1, 0, none⟩ (.int .i64 L)).setCell ⟨w.heap.size + 1, 1, none⟩ (.int .i64 H)).setCell ⟨w.heap.size + 1, 2, none⟩ (.int .i64 P)).setCell ⟨w.heap.size + 1, 3, none⟩ (.int .i64 M)) = W8 at *
            refine ⟨by simp, .inl ⟨_, _, rfl, run_takeDeferred hK', ?_⟩⟩
            have kt := KT.put hK' rfl (.deferred none)
            have k0 := kt.cell (i := 0) (v := .int .i64 L) rfl
            have k1 := kt.cell (i := 1) (v := .int .i64 H) rfl
            have k2 := kt.cell (i := 2) (v := .int .i64 P) rfl
            have k3 := kt.cell (i := 3) (v := .int .i64 M) rfl
            refine ⟨.tuple #[.agg #[.int .i64 L, .int .i64 H, .int .i64 P, .int .i64 M], .int .i64 0], by simp [results, Try.results17, go_sem, k0, k1, k2, k3], ?_, Below.trans hx9 (belowK_b (n₀ := w.heap.size) (w := w) (Nat.le_refl _) W8 D _ _ (by omega) hK' rfl rfl)⟩
            rw [HLH.out.1, HLH.out.2, ← cmap_all, hP'.out, show dSlotMax ps j m = M from hM'.out]
          case stop =>
            rintro D c pre W _ _ h _
            exact h.elim
end Go.Proofs.Ytmkleegfbapakaa
