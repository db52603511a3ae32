import Derived.Test.YtmkleegfbapakaaEMany4
namespace Go.Proofs.Ytmkleegfbapakaa
open Go.RowKit Go BigFrame Go.Shelf
set_option maxRecDepth 100000
set_option linter.unusedSimpArgs false

set_option maxHeartbeats 4000000 in
theorem ref_Orders_ok (nn : Nat) (a a2 : Option Addr) (cap cap2 : Nat) (l m : List Int) (least : Int) (w : World) (h : Ints w a cap l) (h2 : Ints w a2 cap2 m) (hl : l.length = nn) (hm : m.length = nn) (hn : nn ≤ 8) (hoa : l.any outB = false) (hob : m.any outB = false) :
    Calls Try.prog 33 #[.slice a nn cap, .slice a2 nn cap2, .int .i64 least] w fun e w' => e = .returned (.tuple #[.int .i64 (cntG mulP l m least), .int .i64 0]) ∧ Ext w w' := by
  have HL := Lib.hid (ref_lists a a2 nn nn cap cap2 w)
  have hE : listsE nn nn = 0 := by unfold listsE; rw [if_neg (by omega), if_neg (by omega)]
  rw [hE] at HL
  have HA := Lib.hid (ref_all nn hn w)
  have hi1 := ref_inside a cap l w h
  have hi2 := ref_inside a2 cap2 m w h2
  rw [hl, hoa] at hi1
  rw [hm, hob] at hi2
  have H1 := Lib.hid hi1
  have H2 := Lib.hid hi2
  have HB := Lib.hid (fun (i j : Nat) (_ : i < l.length) (_ : j < m.length) => mul_bd _ _ (out_bd hoa i) (out_bd hob j))
  have HOA := Lib.hid hoa
  have HOB := Lib.hid hob
  clear hi1 hi2 hoa hob
  have hlc := h.le
  have hmx := h.mx
  have hlc2 := h2.le
  have hmx2 := h2.mx
  have hRL := refgen_le hn nn []
  have hRB : (refgen nn [] nn).length ≤ 16777216 := by
    have : 8 ^ nn ≤ 8 ^ 8 := Nat.pow_le_pow_right (by omega) hn
    have h8 : (8 : Nat) ^ 8 = 16777216 := by decide
    omega
  have HO := Lib.hid (refgen_ok nn)
  have hC := cntL_refgen mulP l m least
  rw [hl] at hC
  rw [hl] at hlc
  rw [hm] at hlc2
  have HCN := Lib.hid hC
  have HLN := Lib.hid hl
  have HMN := Lib.hid hm
  have HI := Lib.hid h
  have HI2 := Lib.hid h2
  clear hE hRL hC hl hm h h2
  generalize refgen nn [] nn = L at *
  go_enter Try.func33, Try.ntmps33
  go_wp2_with fail
  refine HL.out.mono ?_
  rintro e w0 ⟨rfl, rfl⟩
  go_wp2_with fail
  refine H1.out.mono ?_
  rintro e w0 ⟨rfl, rfl⟩
  go_wp2_with fail
  refine H2.out.mono ?_
  rintro e w0 ⟨rfl, rfl⟩
  go_wp2_with fail
  refine HA.out.mono ?_
  rintro e w1 ⟨v, rfl, hR, hx⟩
  obtain ⟨g, cp, rfl, hg1, hg2, hg3, hg4⟩ := hR.form
  have HRW := Lib.hid hR.rows
  clear hR HL HA
  go_wp2_with fail
  go_loopw [10, 11] (fun n i wr => ∃ k : Nat, k ≤ L.length ∧ i = .int .i64 k ∧ n = .int .i64 (cntL mulP l m least (L.take k)) ∧ Ext w1 wr) (fun _ i _ => L.length - (intOf i).toNat)
  case atStart => exact ⟨0, Nat.zero_le _, rfl, rfl, Ext.refl _⟩
  case round =>
    obtain ⟨k, hk, rfl, rfl, hxr⟩ := hrel
    by_cases hkn : k < L.length
    · have hCT := cntL_take mulP l m least L k hkn
      have hcl := cntL_le mulP l m least (L.take k)
      have hcl2 : (L.take k).length ≤ k := List.length_take_le _ _
      have hok := HO.out _ (mem_getD hkn)
      obtain ⟨x, a3, c3, hx3, hc3, hi3⟩ := Rows.get (HRW.out.ext hxr) hkn
      rw [getD_of_get hx3] at hok hCT
      rw [hok.1] at hc3
      rw [HLN.out] at hCT
      have HCT := Lib.hid hCT
      have HOK := Lib.hid hok
      have HI3 := Lib.hid hi3
      have HC3 := Lib.hid hc3
      clear hCT hok hi3 hc3 hx3
      generalize cntL mulP l m least (L.take k) = c at *
      go_wp2_with fail
      obtain ⟨wo, rfl⟩ : ∃ wo : World, wo = wr := ⟨_, rfl⟩
      go_loopw [12, 13] (fun s i wq => ∃ j : Nat, j ≤ nn ∧ i = .int .i64 j ∧ s = .int .i64 (psum mulP l m x j) ∧ Ext wo wq) (fun _ i _ => nn - (intOf i).toNat)
      case atStart => exact ⟨0, Nat.zero_le _, rfl, rfl, Ext.refl _⟩
      case round =>
        obtain ⟨j, hj, rfl, rfl, hxq⟩ := hrel
        obtain ⟨hs1, hs2⟩ := psum_bd (pt := mulP) (l := l) (m := m) (p := x) HB.out (by rw [HMN.out]; exact HOK.out) (by rw [HLN.out, HMN.out]) j (by rw [HLN.out]; exact hj)
        by_cases hjn : j < nn
        · have hps := psum_succ mulP l m x j
          obtain ⟨o1, o2⟩ := HOK.out.2 j hjn
          obtain ⟨q, hq⟩ : ∃ q : Nat, x.getD j 0 = (q : Int) := ⟨(x.getD j 0).toNat, by omega⟩
          rw [hq] at o2 hps
          rw [show ((q : Nat) : Int).toNat = q by omega] at hps
          have hqn : q < nn := by omega
          obtain ⟨b1, q1, rfl, ha⟩ := (HI.out.ext (hx.trans (hxr.trans hxq))).at HLN.out hjn
          obtain ⟨b2, q2, rfl, hb⟩ := (HI2.out.ext (hx.trans (hxr.trans hxq))).at HMN.out hqn
          obtain ⟨b3, q3, rfl, hc⟩ := (HI3.out.ext hxq).at HOK.out.1 hjn
          have ea := ha j hjn
          have eb := hb q hqn
          have ec := hc j hjn
          rw [hq] at ec
          have er := (hxq.cell (p := ⟨g, 0 + k, none⟩) (lt_of_cell HC3.out)).trans HC3.out
          rw [Nat.zero_add] at er
          have g1 : (0 : Int) ≤ (k : Int) := by omega
          have g2 : (k : Int) < (L.length : Int) := by omega
          have g3 : (0 : Int) ≤ (j : Int) := by omega
          have g4 : (j : Int) < (nn : Int) := by omega
          have g5 : (0 : Int) ≤ (q : Int) := by omega
          have g6 : (q : Int) < (nn : Int) := by omega
          have HPS := Lib.hid hps
          clear ha hb hc hps hq o1 o2
          generalize psum mulP l m x j = s at *
          obtain ⟨m1, m2⟩ := mul_bd _ _ (out_bd HOA.out j) (out_bd HOB.out q)
          have hmp : mulP (l.getD j 0) (m.getD q 0) = l.getD j 0 * m.getD q 0 := rfl
          rw [hmp] at HPS
          clear hmp
          generalize l.getD j 0 = x1 at *
          generalize m.getD q 0 = x2 at *
          have hwm : IntKind.i64.wrap (x1 * x2) = x1 * x2 := IntWalk.i64_in _ (by omega)
          have hwr : IntKind.i64.wrap (s + x1 * x2) = s + x1 * x2 := IntWalk.i64_in _ (by omega)
          go_wp2_with fail
          go_quiet (fail)
          clear hwm hwr
          go_wp2_with fail
          go_roundw
          case rel => exact ⟨j + 1, by omega, by go_num, by rw [HPS.out], hxq.drewN _⟩
          case measure => simp [intOf]; omega
        · obtain rfl : j = nn := by omega
          generalize psum mulP l m x j = s at *
          by_cases hge : least ≤ s
          · have hst := HCT.out
            rw [if_pos hge] at hst
            have HST := Lib.hid hst
            have t1 : decide (least ≤ s) = true := by simpa using hge
            clear hst
            go_wp2_with fail
            go_roundw
            case rel => exact ⟨k + 1, by omega, by go_num, by rw [HST.out]; go_num, hxr.trans hxq⟩
            case measure => simp [intOf]; omega
          · have hst := HCT.out
            rw [if_neg hge] at hst
            have HST := Lib.hid hst
            have t1 : decide (least ≤ s) = false := by simpa using hge
            clear hst
            go_wp2_with fail
            go_roundw
            case rel => exact ⟨k + 1, by omega, by go_num, by rw [HST.out]; simp, hxr.trans hxq⟩
            case measure => simp [intOf]; omega
    · obtain rfl : k = L.length := by omega
      have hC := HCN.out
      rw [← List.take_length (l := L)] at hC
      have HCN := Lib.hid hC
      clear hC
      generalize cntL mulP l m least (L.take L.length) = c at *
      go_wp2_with fail
      refine bodyPost_ret (v := .tuple #[.int .i64 c, .int .i64 0]) (by simp [results, Try.results33, go_sem]) rfl ⟨by rw [HCN.out], hx.trans hxr⟩
end Go.Proofs.Ytmkleegfbapakaa
