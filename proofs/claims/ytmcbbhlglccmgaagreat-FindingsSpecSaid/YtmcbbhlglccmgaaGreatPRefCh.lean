import Derived.Test.YtmcbbhlglccmgaaGreatPRefD
import Derived.Test.YtmcbbhlglccmgaaGreatPRefB
import Derived.Test.YtmcbbhlglccmgaaGreatNCh
import Derived.Test.YtmcbbhlglccmgaaGreatNMake2
import Derived.Deep.Cut
import Derived.OwnWalk
import Derived.Deep.RegionHeld3
import Derived.Deep.LoopGhost
import Derived.BigFrame
import Derived.Deep.DeepCutAuto
namespace Go.Proofs.YtmcbbhlglccmgaaGreat
open Go.RowKit Go BigFrame Go.Shelf
set_option maxRecDepth 100000
set_option linter.unusedSimpArgs false

/-! ref.Choose alone, for seats that hold little else of layer 09. -/
/-- An integer and an error. -/
def PairP (z E : Int) (w : World) (e : Ending) (w' : World) : Prop := ∃ v, e = .returned (.tuple #[v, .int .i64 E]) ∧ BigV w' v z ∧ Ext w w'
theorem PairP.zero {E : Int} {w w' : World} {e : Ending} (h : e = .returned (.tuple #[zeroBig, .int .i64 E]) ∧ Ext w w') : PairP 0 E w e w' := ⟨_, h.1, BigV.zero _, h.2⟩
def binZ (n : Nat) (k : Int) : Int := if 0 ≤ k then (bin n k.toNat : Nat) else 0
set_option maxHeartbeats 1000000 in
theorem ref_Choose_none (n k : Int) (w : World) (hn0 : 0 ≤ n ∧ n ≤ 4096) (hn : k < 0 ∨ n < k) :
    Calls Tryz.prog 31 #[.int .i64 n, .int .i64 k] w (PairP 0 0 w) := by
  have B1 := Blk.new0 w #[.bool false, .slice none 0 0] 32
  have hx : Ext w (w.alloc (.cells #[.bool false, .slice none 0 0] 32)) := (by repeat (first | with_reducible exact Ext.refl _ | with_reducible assumption | with_reducible refine Ext.drewN ?_ _ | with_reducible refine Ext.drew ?_ | with_reducible refine Ext.alloc' ?_ _ | with_reducible refine Ext.set ?_ (by dsimp only; omega) _))
  obtain ⟨w1, hw1⟩ : ∃ w1, w.alloc (.cells #[.bool false, .slice none 0 0] 32) = w1 := ⟨_, rfl⟩
  rw [hw1] at B1 hx
  have c0 := B1.cell (i := 0) (v := .bool false) rfl
  have c1 := B1.cell (i := 1) (v := .slice none 0 0) rfl
  have f0 := B1.free 0
  have f1 := B1.free 1
  have HF := Lib.hid ((B1.set 0 (.bool false)).set 1 (.slice none 0 0))
  have HX := Lib.hid ((hx.set (p := ⟨w.heap.size, 0, none⟩) (by dsimp only; omega) (.bool false)).set (p := ⟨w.heap.size, 1, none⟩) (by dsimp only; omega) (.slice none 0 0))
  have HW := Lib.hid hw1
  have d1 : decide (n < 0) = false := by simp only [decide_eq_false_iff_not]; omega
  have d2 : decide (4096 < n) = false := by simp only [decide_eq_false_iff_not]; omega
  clear hx B1 hw1
  by_cases hn1 : k < 0
  case' pos => have d3 : decide (k < 0) = true := by simpa using hn1
  case' neg =>
    have d3 : decide (k < 0) = false := by simpa using hn1
    have d4 : decide (n < k) = true := by simp only [decide_eq_true_eq]; omega
  all_goals
    clear hn hn1
    go_enter Tryz.func31, Tryz.ntmps31
    go_upto_region 1 with fail
    rw [HW.out]
    go_wp2_with fail
    have e0 := HF.out.cell (i := 0) (v := .bool false) rfl
    have e1 := HF.out.cell (i := 1) (v := .slice none 0 0) rfl
    exact bodyPost_ret (v := .tuple #[zeroBig, .int .i64 0]) (by simp [results, Tryz.results31, go_sem, e0, e1]) rfl (PairP.zero ⟨rfl, HX.out⟩)
set_option maxHeartbeats 2000000 in
theorem ref_Choose_K (n k K : Nat) (w : World) (hn : n ≤ 4096) (hk : k ≤ n) (hK : (n - k < k ∧ K = n - k) ∨ (¬ n - k < k ∧ K = k)) :
    Calls Tryz.prog 31 #[.int .i64 n, .int .i64 k] w (PairP (bin n k : Nat) 0 w) := by
  have B1 := Blk.new0 w #[.bool false, .slice none 0 0] 32
  have hx : Ext w (w.alloc (.cells #[.bool false, .slice none 0 0] 32)) := (by repeat (first | with_reducible exact Ext.refl _ | with_reducible assumption | with_reducible refine Ext.drewN ?_ _ | with_reducible refine Ext.drew ?_ | with_reducible refine Ext.alloc' ?_ _ | with_reducible refine Ext.set ?_ (by dsimp only; omega) _))
  obtain ⟨w1, hw1⟩ : ∃ w1, w.alloc (.cells #[.bool false, .slice none 0 0] 32) = w1 := ⟨_, rfl⟩
  have hs1 : w1.heap.size = w.heap.size + 1 := by rw [← hw1]; simp
  rw [hw1] at B1 hx
  have H1 := Lib.hid (B1.alloc (.cells #[.int .i64 1] 3))
  have HW := Lib.hid hw1
  have hI1 : Ints (w1.alloc (.cells #[.int .i64 1] 3)) (some ⟨w1.heap.size, 0, none⟩) 1 [1] := IB.ints (g := w1.heap.size) (L := [1]) (Blk.new0 w1 #[.int .i64 1] 3) (fun x hx => by obtain rfl := List.mem_singleton.1 hx; omega) (by simp)
  have hx2 := Lib.hid (hx.alloc' (.cells #[.int .i64 1] 3))
  have d1 : decide ((n : Int) < 0) = false := by simp only [decide_eq_false_iff_not]; omega
  have d2 : decide (4096 < (n : Int)) = false := by simp only [decide_eq_false_iff_not]; omega
  have d3 : decide ((k : Int) < 0) = false := by simp only [decide_eq_false_iff_not]; omega
  have d4 : decide ((n : Int) < (k : Int)) = false := by simp only [decide_eq_false_iff_not]; omega
  have d5 : decide (n < k) = false := by simp only [decide_eq_false_iff_not]; omega
  have d6 : decide (4096 < n) = false := by simp only [decide_eq_false_iff_not]; omega
  have hbin : bin n K = bin n k := by
    rcases hK with ⟨_, rfl⟩ | ⟨_, rfl⟩
    · exact (bin_symm hk).symm
    · rfl
  have HBIN := Lib.hid hbin
  have HKK := Lib.hid hK
  have hKn : K ≤ n := by omega
  clear B1 hw1 hx hbin hK
  go_enter Tryz.func31, Tryz.ntmps31
  go_upto_region 1 with fail
  rw [HW.out]
  go_upto_region 6 with fail
  rw [hs1] at hI1
  generalize w1.alloc (.cells #[.int .i64 1] 3) = w2 at *
  have hI1 : Ints w2 (some ⟨w.heap.size + 1, 0, none⟩) 1 (digs (bin n 0)) := by rw [bin_zero, digs_one]; exact hI1
  have hl1 : (digs (bin n 0)).length = 1 := by rw [bin_zero, digs_one]; rfl
  have HL1 := Lib.hid hl1
  have HI1 := Lib.hid hI1
  clear hI1 hl1
  go_wp2_with fail
  go_loopw [6, 7] (fun m i wr => ∃ (q : Nat) (a : Option Addr) (c L : Nat), q ≤ K ∧ i = .int .i64 ((q : Int) + 1) ∧ L = (digs (bin n q)).length ∧ m = .slice a L c ∧ Ints wr a c (digs (bin n q)) ∧ (∀ A, a = some A → w.heap.size + 1 ≤ A.block) ∧
    Blk wr w.heap.size #[.bool false, .slice none 0 0] 32 ∧ Ext w wr) (fun _ i _ => K + 1 - (intOf i).toNat)
  case atStart => exact ⟨0, _, 1, 1, Nat.zero_le _, rfl, HL1.out.symm, rfl, HI1.out, fun A hA => by cases hA; exact Nat.le_refl _, H1.out, hx2.out⟩
  case round =>
    clear HL1 HI1 H1 hx2 HW
    obtain ⟨q, a, c, L, hq, rfl, rfl, rfl, hI, hA, hB1, hxr⟩ := hrel
    by_cases hqK : q < K
    · have t1 : decide ((q : Int) + 1 ≤ (k : Int)) = true := by have := HKK.out; simp only [decide_eq_true_eq]; omega
      have t2 : decide ((q : Int) + 1 ≤ (n : Int) - (k : Int)) = true := by have := HKK.out; simp only [decide_eq_true_eq]; omega
      have t1' : decide (q + 1 ≤ k) = true := by have := HKK.out; simp only [decide_eq_true_eq]; omega
      have hdn : (n : Int) - ((q : Int) + 1) + 1 = ((n - q : Nat) : Int) := by omega
      obtain ⟨d, hd⟩ : ∃ d : Int, ((n - q : Nat) : Int) = d := ⟨_, rfl⟩
      rw [hd] at hdn
      have hd1 : 0 < d := by omega
      have hd2 : d < 1073741824 := by omega
      obtain ⟨nd, vd⟩ := digs_small hd1 hd2
      have hID : Ints (wr.alloc (.cells #[.int .i64 d] 3)) (some ⟨wr.heap.size, 0, none⟩) 1 [d] := IB.ints (g := wr.heap.size) (L := [d]) (Blk.new0 wr #[.int .i64 d] 3) (fun x hx => by obtain rfl := List.mem_singleton.1 hx; omega) (by simp)
      have hlen := bin_len (i := q) hn
      have hM := ref_times a (some ⟨wr.heap.size, 0, none⟩) c 1 (digs (bin n q)) [d] _ (hI.ext (Ext.alloc wr (.cells #[.int .i64 d] 3))) hID (digs_norm _).digs nd.digs (by simp; omega)
      have hv : (dval (digs (bin n q)) * dval [d]).toNat = bin n q * (n - q) := by
        rw [digs_val, vd, ← hd, ← Int.natCast_mul]; rfl
      rw [hv] at hM
      have hlen2 : (digs (bin n q * (n - q))).length ≤ 1000 := by
        rw [← bin_mul]
        have hh : bin n (q + 1) * (q + 1) < 1073741824 ^ 200 := by
          have h1 : bin n (q + 1) * (q + 1) ≤ 2 ^ n * 2 ^ 13 := Nat.mul_le_mul (bin_le _ _) (by omega)
          rw [← Nat.pow_add] at h1
          exact Nat.lt_of_le_of_lt h1 (pow_two_lt (by omega))
        have := digs_len hh
        omega
      have hq1 : (0 : Int) < (q : Int) + 1 := by omega
      obtain ⟨nq, vq⟩ := digs_small (d := (q : Int) + 1) hq1 (by omega)
      have hv2 : (dval (digs (bin n q * (n - q))) / dval [(q : Int) + 1]).toNat = bin n (q + 1) := by
        rw [digs_val, vq, ← bin_step]
        have : ((bin n q * (n - q) : Nat) : Int) / ((q : Int) + 1) = ((bin n q * (n - q) / (q + 1) : Nat) : Int) := by
          rw [Int.natCast_ediv]; rfl
        rw [this]; rfl
      have HM := Lib.hid hM
      have HV := Lib.hid hv2
      have HL2 := Lib.hid hlen2
      have HA := Lib.hid hA
      have HB1 := Lib.hid hB1
      have HXR := Lib.hid hxr
      have HD := Lib.hid hd
      have HNQ := Lib.hid nq
      have hdig := Lib.hid (digs_norm (bin n q * (n - q))).digs
      clear hM hv hv2 hlen hlen2 hA hB1 hID hI nd vd hd nq vq
      generalize bin n q * (n - q) = P at *
      generalize digs (bin n q) = D at *
      go_wp2_with fail
      refine HM.out.mono ?_
      rintro e w3 ⟨v, rfl, hO, hy⟩
      obtain ⟨a3, c3, rfl, hi3, _⟩ := hO.form0 hdig.out
      have hID3 : Ints (w3.alloc (.cells #[.int .i64 ((q : Int) + 1)] 3)) (some ⟨w3.heap.size, 0, none⟩) 1 [(q : Int) + 1] := IB.ints (g := w3.heap.size) (L := [(q : Int) + 1]) (Blk.new0 w3 #[.int .i64 ((q : Int) + 1)] 3) (fun x hx => by obtain rfl := List.mem_singleton.1 hx; omega) (by simp)
      have hS := ref_divide a3 (some ⟨w3.heap.size, 0, none⟩) c3 1 (digs P).length 1 _ (digs P) [(q : Int) + 1] _ (hi3.ext (Ext.alloc _ _)) hID3 hdig.out HNQ.out (by omega) rfl rfl rfl (by have := HL2.out; omega) (by omega)
      have HS := Lib.hid hS
      have hy3 := Lib.hid (((Ext.alloc wr (.cells #[.int .i64 d] 3)).trans hy).alloc' (.cells #[.int .i64 ((q : Int) + 1)] 3))
      clear hS hO hi3 hy HM hID3
      go_wp2_with fail
      refine HS.out.mono ?_
      rintro e w4 ⟨aq, cq, ar, cr, rfl, hiq, _, hbq, _, hy⟩
      rw [HV.out] at hiq ⊢
      have hy4 := hy3.out.trans hy
      have hs3 := hy3.out.size
      have hsr := hxr.size
      have hsb := HB1.out.lt
      clear HS
      go_wp2_with fail
      go_roundw
      case rel => exact ⟨q + 1, aq, cq, _, by omega, by go_num, rfl, rfl, hiq, fun A hA => by have := hbq A hA; omega, HB1.out.ext hy4, HXR.out.trans hy4⟩
      case measure => simp [intOf]; omega
    · obtain rfl : q = K := by omega
      have hG := ref_of_ok false a c (digs (bin n q)) wr hI (by rw [trim_id (digs_norm _)]; have := bin_len (i := q) hn; omega)
      rw [trim_id (digs_norm _), Bool.false_and] at hG
      have hbo := big_of false (bin n q)
      have hz : sgn false ((bin n q : Nat) : Int) = ((bin n k : Nat) : Int) := by rw [HBIN.out]; rfl
      rw [hz] at hbo
      rw [Bool.false_and] at hbo
      have HBO := Lib.hid hbo
      have HG := Lib.hid hG
      have HI3 := Lib.hid hI
      have HA3 := Lib.hid hA
      have HB1 := Lib.hid hB1
      have HX3 := Lib.hid hxr
      have hsb := hB1.lt
      clear hG hbo hz hI hA hB1 hxr
      generalize digs (bin n q) = D at *
      have key : (decide ((q : Int) + 1 ≤ (k : Int)) = true ∧ decide ((q : Int) + 1 ≤ (n : Int) - (k : Int)) = false) ∨ decide ((q : Int) + 1 ≤ (k : Int)) = false := by
        rcases HKK.out with ⟨h1, h2⟩ | ⟨h1, h2⟩
        · left; constructor
          · simp only [decide_eq_true_eq]; omega
          · simp only [decide_eq_false_iff_not]; omega
        · right; simp only [decide_eq_false_iff_not]; omega
      rcases key with ⟨t1, t2⟩ | t1
      case' inl => have t1' : decide (q + 1 ≤ k) = true := by simp only [decide_eq_true_eq] at t1 ⊢; omega
      case' inr => have t1' : decide (q + 1 ≤ k) = false := by simp only [decide_eq_false_iff_not] at t1 ⊢; omega
      all_goals
        go_wp2_with fail
        refine HG.out.mono ?_
        rintro e w8 ⟨rfl, hy8⟩
        have F5 := HB1.out.ext hy8
        have d0 := F5.cell (i := 0) (v := .bool false) rfl
        have d1 := (F5.set 0 (.bool false)).cell (i := 1) (v := .slice none 0 0) rfl
        have f0 := F5.free 0
        have f1 := (F5.set 0 (.bool false)).free 1
        have M5 := Lib.hid ((F5.set 0 (.bool false)).set 1 (.slice a D.length c))
        have HX8 := Lib.hid (((HX3.out.trans hy8).set (p := ⟨w.heap.size, 0, none⟩) (by dsimp only; omega) (.bool false)).set (p := ⟨w.heap.size, 1, none⟩) (by dsimp only; omega) (.slice a D.length c))
        have HY8 := Lib.hid hy8
        clear F5 hy8
        go_wp2_with fail
        have e0 := M5.out.cell (i := 0) (v := .bool false) rfl
        have e1 := M5.out.cell (i := 1) (v := .slice a D.length c) rfl
        have hne : ∀ A, a = some A → A.block ≠ w.heap.size := fun A hA => by have := HA3.out A hA; omega
        refine bodyPost_ret (v := .tuple #[.agg #[.bool false, .slice a D.length c], .int .i64 0]) (by simp [results, Tryz.results31, go_sem, e0, e1]) rfl ?_
        exact ⟨_, rfl, ⟨false, D, ⟨a, c, rfl, (((HI3.out.ext HY8.out).putO (p := ⟨w.heap.size, 0, none⟩) hne _).putO (p := ⟨w.heap.size, 1, none⟩) hne _)⟩, HBO.out⟩, HX8.out⟩
theorem rChoose_any (n : Nat) (k : Int) (w : World) (hn : n ≤ 4096) : Calls Tryz.prog 31 #[.int .i64 n, .int .i64 k] w (PairP (binZ n k) 0 w) := by
  unfold binZ
  by_cases h0 : 0 ≤ k
  · rw [if_pos h0]
    by_cases hk : k ≤ n
    · obtain ⟨kn, rfl⟩ : ∃ kn : Nat, k = kn := ⟨k.toNat, by omega⟩
      rw [Int.toNat_natCast]
      by_cases h : n - kn < kn
      · exact ref_Choose_K n kn (n - kn) w hn (by omega) (.inl ⟨h, rfl⟩)
      · exact ref_Choose_K n kn kn w hn (by omega) (.inr ⟨h, rfl⟩)
    · rw [bin_gt (by omega)]
      exact ref_Choose_none n k w ⟨by omega, by omega⟩ (.inr (by omega))
  · rw [if_neg h0]
    exact ref_Choose_none n k w ⟨by omega, by omega⟩ (.inl (by omega))
end Go.Proofs.YtmcbbhlglccmgaaGreat
