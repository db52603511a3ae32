import Derived.Test.YtmkleegfbapakaaESub3
import Derived.Test.YtmkleegfbapakaaESub4
import Derived.Test.YtmkleegfbapakaaNMake2
import Derived.Test.YtmkleegfbapakaaEMany4
namespace Go.Proofs.Ytmkleegfbapakaa
open Go.RowKit Go BigFrame Go.Shelf
set_option maxRecDepth 100000
set_option linter.unusedSimpArgs false

theorem ref_Subsets_limit (a : Option Addr) (cap n : Nat) (k sum : Int) (w : World) (hn : 64 < n) :
    Calls Try.prog 29 #[.slice a n cap, .int .i64 k, .int .i64 sum] w (SubE 2 w) := by
  have d1 : decide (64 < (n : Int)) = true := by simp; omega
  have d2 : decide (64 < n) = true := by simp; omega
  have hx : Ext w (w.alloc (.cells #[.bool false, .slice none 0 0] 42)) := (by repeat (first | with_reducible exact Ext.refl _ | with_reducible assumption | with_reducible refine Ext.drewN ?_ _ | with_reducible refine Ext.drew ?_ | with_reducible refine Ext.alloc' ?_ _ | with_reducible refine Ext.set ?_ (by dsimp only; omega) _))
  go_enter Try.func29, Try.ntmps29
  go_wp2_with fail
  refine bodyPost_ret (v := .tuple #[.agg #[.bool false, .slice none 0 0], .int .i64 2]) (by simp [results, Try.results29, go_sem]) rfl ⟨rfl, hx⟩
set_option maxHeartbeats 1000000 in
theorem ref_Subsets_arg (a : Option Addr) (cap : Nat) (k : Int) (l : List Int) (sum : Int) (w : World) (h : Ints w a cap l) (hn : l.length ≤ 64) (hb : l.any outB = true ∨ (l.any outB = false ∧ (k < 0 ∨ (0 ≤ k ∧ (l.length : Int) < k)))) :
    Calls Try.prog 29 #[.slice a l.length cap, .int .i64 k, .int .i64 sum] w (SubE 1 w) := by
  have d1 : decide (64 < (l.length : Int)) = false := by simp; omega
  have d2 : decide (64 < l.length) = false := by simp; omega
  have hx : Ext w (w.alloc (.cells #[.bool false, .slice none 0 0] 42)) := (by repeat (first | with_reducible exact Ext.refl _ | with_reducible assumption | with_reducible refine Ext.drewN ?_ _ | with_reducible refine Ext.drew ?_ | with_reducible refine Ext.alloc' ?_ _ | with_reducible refine Ext.set ?_ (by dsimp only; omega) _))
  have hi := ref_inside a cap l _ (h.ext hx)
  clear h
  rcases hb with ho | ⟨ho, hk | ⟨h0, hk⟩⟩
  · rw [ho] at hi
    have HI := Lib.hid hi
    clear hi ho
    go_enter Try.func29, Try.ntmps29
    go_wp2_with fail
    with_reducible refine HI.out.mono ?_
    rintro e w1 ⟨rfl, rfl⟩
    go_wp2_with fail
    refine bodyPost_ret (v := .tuple #[.agg #[.bool false, .slice none 0 0], .int .i64 1]) (by simp [results, Try.results29, go_sem]) rfl ⟨rfl, hx⟩
  · rw [ho] at hi
    have HI := Lib.hid hi
    have d3 : decide (k < 0) = true := by simpa using hk
    clear hi ho hk
    go_enter Try.func29, Try.ntmps29
    go_wp2_with fail
    with_reducible refine HI.out.mono ?_
    rintro e w1 ⟨rfl, rfl⟩
    go_wp2_with fail
    refine bodyPost_ret (v := .tuple #[.agg #[.bool false, .slice none 0 0], .int .i64 1]) (by simp [results, Try.results29, go_sem]) rfl ⟨rfl, hx⟩
  · rw [ho] at hi
    have HI := Lib.hid hi
    have d3 : decide (k < 0) = false := by simpa using h0
    have d4 : decide ((l.length : Int) < k) = true := by simpa using hk
    clear hi ho hk h0
    go_enter Try.func29, Try.ntmps29
    go_wp2_with fail
    with_reducible refine HI.out.mono ?_
    rintro e w1 ⟨rfl, rfl⟩
    go_wp2_with fail
    refine bodyPost_ret (v := .tuple #[.agg #[.bool false, .slice none 0 0], .int .i64 1]) (by simp [results, Try.results29, go_sem]) rfl ⟨rfl, hx⟩

set_option maxHeartbeats 4000000 in
theorem ref_Subsets_ok (a : Option Addr) (cap k : Nat) (l : List Int) (sum : Int) (w : World) (h : Ints w a cap l) (hn : l.length ≤ 20) (ho : l.any outB = false) (hk : k ≤ l.length) :
    Calls Try.prog 29 #[.slice a l.length cap, .int .i64 k, .int .i64 sum] w (SubP (cs sum k l 0) w) := by
  have d1 : decide (64 < (l.length : Int)) = false := by simp; omega
  have d2 : decide (64 < l.length) = false := by simp; omega
  have d4 : decide ((l.length : Int) < (k : Int)) = false := by simp; omega
  have d5 : decide (l.length < k) = false := by simp; omega
  have d0 : (0 : Int) ≤ (k : Int) := by omega
  have hle := h.le
  have hmx := h.mx
  have hx : Ext w (w.alloc (.cells #[.bool false, .slice none 0 0] 42)) := (by repeat (first | with_reducible exact Ext.refl _ | with_reducible assumption | with_reducible refine Ext.drewN ?_ _ | with_reducible refine Ext.drew ?_ | with_reducible refine Ext.alloc' ?_ _ | with_reducible refine Ext.set ?_ (by dsimp only; omega) _))
  have k0 := Lib.hid (Blk.new0 w #[.bool false, .slice none 0 0] 42)
  have hi := ref_inside a cap l _ (h.ext hx)
  rw [ho] at hi
  have HIN := Lib.hid hi
  have HI := Lib.hid (h.ext hx)
  have hRL := refL_le l.length k [] 0
  have hRB : (refL k [] 0 l.length).length ≤ 1048576 := by
    have : (2 : Nat) ^ (l.length - 0) ≤ 2 ^ 20 := Nat.pow_le_pow_right (by omega) (by omega)
    have h8 : (2 : Nat) ^ 20 = 1048576 := by decide
    omega
  have HL := Lib.hid (ref_Lists_all l.length k hn hk)
  have HOK := Lib.hid (refL_ok l.length k [] 0 (by simp))
  have HCN := Lib.hid (cnt_refL_all l sum k)
  have HBD := Lib.hid (out_bd ho)
  clear h hi ho hRL
  generalize refL k [] 0 l.length = L at *
  go_enter Try.func29, Try.ntmps29
  go_wp2_with fail
  with_reducible refine HIN.out.mono ?_
  rintro e w1 ⟨rfl, rfl⟩
  go_wp2_with fail
  generalize w.alloc (.cells #[.bool false, .slice none 0 0] 42) = w1 at *
  with_reducible refine (HL.out _).mono ?_
  rintro e w2 ⟨v, rfl, hR, hy⟩
  obtain ⟨g, cp, rfl, hg1, hg2, hg3, hg4⟩ := hR.form
  have HRW := Lib.hid hR.rows
  have K0 := Lib.hid (k0.out.ext hy)
  have HI2 := Lib.hid (HI.out.ext hy)
  have hx2 := hx.trans hy
  clear hR HL HIN k0 HI hx hy d4 d5
  go_wp2_with fail
  go_loopw [9, 10] (fun n i wr => ∃ q : Nat, q ≤ L.length ∧ i = .int .i64 q ∧ n = .int .i64 (cntV l k sum (L.take q)) ∧ Ext w2 wr) (fun _ i _ => L.length - (intOf i).toNat)
  case atStart => exact ⟨0, Nat.zero_le _, rfl, rfl, Ext.refl _⟩
  case round =>
    obtain ⟨q, hq, rfl, rfl, hxr⟩ := hrel
    have hcl : cntV l k sum (L.take q) ≤ q := Nat.le_trans List.countP_le_length (List.length_take_le _ _)
    by_cases hqn : q < L.length
    · have hCT := cntV_take l k sum L q hqn
      have hok := HOK.out _ (mem_getD hqn)
      obtain ⟨x, a3, c3, hx3, hc3, hi3⟩ := Rows.get (HRW.out.ext hxr) hqn
      rw [getD_of_get hx3] at hok hCT
      have hxl : x.length = k := by have := hok.1; simpa using this
      rw [hxl] at hc3
      have HCT := Lib.hid hCT
      have HXL := Lib.hid hxl
      have HO2 := Lib.hid hok.2
      have HI3 := Lib.hid hi3
      have HC3 := Lib.hid hc3
      clear hCT hok hi3 hc3 hx3 hxl
      generalize cntV l k sum (L.take q) = c at *
      go_wp2_with fail
      obtain ⟨wo, rfl⟩ : ∃ wo : World, wo = wr := ⟨_, rfl⟩
      go_loopw [11, 12] (fun s i wq => ∃ j : Nat, j ≤ k ∧ i = .int .i64 j ∧ s = .int .i64 (pv l x j) ∧ Ext wo wq) (fun _ i _ => k - (intOf i).toNat)
      case atStart => exact ⟨0, Nat.zero_le _, rfl, rfl, Ext.refl _⟩
      case round =>
        obtain ⟨j, hj, rfl, rfl, hxq⟩ := hrel
        obtain ⟨s1, s2⟩ := pv_bd x HBD.out j
        by_cases hjn : j < k
        · have hps := pv_succ l x j
          obtain ⟨o1, o2⟩ := HO2.out (x.getD j 0) (by simp only [List.getD, List.getElem?_eq_getElem (show j < x.length by have := HXL.out; omega), Option.getD_some]; exact List.getElem_mem _)
          obtain ⟨z, hz⟩ : ∃ z : Nat, x.getD j 0 = (z : Int) := ⟨(x.getD j 0).toNat, by omega⟩
          rw [hz] at o2 hps
          rw [show ((z : Nat) : Int).toNat = z by omega] at hps
          have hzn : z < l.length := by omega
          obtain ⟨b2, q2, rfl, hb⟩ := (HI2.out.ext (hxr.trans hxq)).at rfl hzn
          obtain ⟨b3, q3, rfl, hc⟩ := (HI3.out.ext hxq).at HXL.out hjn
          have eb := hb z hzn
          have ec := hc j hjn
          rw [hz] at ec
          have er := (hxq.cell (p := ⟨g, 0 + q, none⟩) (lt_of_cell HC3.out)).trans HC3.out
          rw [Nat.zero_add] at er
          obtain ⟨v1, v2⟩ := HBD.out z
          have g1 : (0 : Int) ≤ (q : Int) := by omega
          have g2 : (q : Int) < (L.length : Int) := by omega
          have g3 : (0 : Int) ≤ (j : Int) := by omega
          have g4 : (j : Int) < (k : Int) := by omega
          have g5 : (0 : Int) ≤ (z : Int) := by omega
          have g6 : (z : Int) < (l.length : Int) := by omega
          have HPS := Lib.hid hps
          clear hb hc hps hz o1 o2
          generalize pv l x j = s at *
          generalize l.getD z 0 = x2 at *
          go_wp2_with fail
          go_roundw
          case rel => exact ⟨j + 1, by omega, by go_num, by rw [HPS.out], hxq⟩
          case measure => simp [intOf]; omega
        · obtain rfl : j = k := by omega
          generalize pv l x j = s at *
          by_cases hge : sum ≤ s
          · have hst := HCT.out
            rw [if_pos hge] at hst
            have HST := Lib.hid hst
            have t1 : decide (sum ≤ s) = true := by simpa using hge
            clear hst
            go_wp2_with fail
            go_roundw
            case rel => exact ⟨q + 1, by omega, by go_num, by rw [HST.out]; go_num, hxr.trans hxq⟩
            case measure => simp [intOf]; omega
          · have hst := HCT.out
            rw [if_neg hge] at hst
            have HST := Lib.hid hst
            have t1 : decide (sum ≤ s) = false := by simpa using hge
            clear hst
            go_wp2_with fail
            go_roundw
            case rel => exact ⟨q + 1, by omega, by go_num, by rw [HST.out]; simp, hxr.trans hxq⟩
            case measure => simp [intOf]; omega
    · obtain rfl : q = L.length := by omega
      have hC := HCN.out
      rw [← List.take_length (l := L)] at hC
      have HCN := Lib.hid hC
      clear hC
      generalize cntV l k sum (L.take L.length) = c at *
      have HMK := Lib.hid (ref_Make (c : Int) wr (by omega))
      go_wp2_with fail
      refine HMK.out.mono ?_
      rintro e w5 ⟨v, rfl, ⟨neg, a5, cap5, L5, rfl, hi5, hbig5, hfr5⟩, hx5⟩
      have hlw2 : w.heap.size < wr.heap.size := (K0.out.ext hxr).lt
      have K0 := Lib.hid (K0.out.ext (hxr.trans hx5))
      have HFR := Lib.hid hfr5
      have HI5 := Lib.hid hi5
      have HB5 := Lib.hid hbig5
      have hxq := (hx2.trans hxr).trans hx5
      clear hi5 hbig5 hx5 hfr5
      have hLm := HI5.out.le
      have hcm := HI5.out.mx
      obtain ⟨q5, hq5⟩ : ∃ q, L5.length = q := ⟨_, rfl⟩
      rw [hq5] at hLm ⊢
      have HQ5 := Lib.hid hq5
      clear hq5
      have c0 := K0.out.cell (i := 0) (v := .bool false) rfl
      have c1 := K0.out.cell (i := 1) (v := .slice none 0 0) rfl
      have f0 := K0.out.free 0
      have f1 := K0.out.free 1
      go_wp2_with fail
      have k2 := Lib.hid ((K0.out.set 0 (.bool neg)).set 1 (.slice a5 q5 cap5))
      clear c0 c1 f0 f1
      have e0 := k2.out.cell (i := 0) (v := .bool neg) rfl
      have e1 := k2.out.cell (i := 1) (v := .slice a5 q5 cap5) rfl
      have hxf : Ext w ((w5.setCell ⟨w.heap.size, 0, none⟩ (.bool neg)).setCell ⟨w.heap.size, 1, none⟩ (.slice a5 q5 cap5)) := (by repeat (first | with_reducible exact Ext.refl _ | with_reducible assumption | with_reducible refine Ext.drewN ?_ _ | with_reducible refine Ext.drew ?_ | with_reducible refine Ext.alloc' ?_ _ | with_reducible refine Ext.set ?_ (by dsimp only; omega) _))
      have hif : Ints ((w5.setCell ⟨w.heap.size, 0, none⟩ (.bool neg)).setCell ⟨w.heap.size, 1, none⟩ (.slice a5 q5 cap5)) a5 cap5 L5 := by
        have hi := HI5.out
        cases a5 with
        | none => exact ⟨hi.le, hi.mx, hi.nil, fun A hA => by cases hA⟩
        | some A =>
          obtain ⟨bA, oA, sA⟩ := A
          have hA := HFR.out _ rfl
          dsimp only at hA
          refine ⟨hi.le, hi.mx, hi.nil, fun A hA' i hii => ?_⟩
          cases hA'
          obtain ⟨h1, u, hu, hr⟩ := hi.cells _ rfl i hii
          refine ⟨h1, u, ?_, hr⟩
          rw [← hu]
          simp only [World.cell?, Below.heap_setCell _ _ _ _ (show bA ≠ (⟨w.heap.size, 0, none⟩ : Addr).block by dsimp only; omega), Below.heap_setCell _ _ _ _ (show bA ≠ (⟨w.heap.size, 1, none⟩ : Addr).block by dsimp only; omega)]
      refine bodyPost_ret (v := .tuple #[.agg #[.bool neg, .slice a5 q5 cap5], .int .i64 0]) (by simp [results, Try.results29, go_sem, e0, e1]) rfl ?_
      exact ⟨_, rfl, ⟨neg, a5, cap5, L5, by rw [HQ5.out], hif, by rw [← HCN.out]; exact HB5.out, fun A hA => by have := HFR.out A hA; omega⟩, hxf⟩
end Go.Proofs.Ytmkleegfbapakaa
