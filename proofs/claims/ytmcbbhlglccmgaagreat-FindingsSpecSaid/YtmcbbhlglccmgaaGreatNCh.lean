import Derived.Test.YtmcbbhlglccmgaaGreatND
namespace Go.Proofs.YtmcbbhlglccmgaaGreat
open Go.RowKit Go BigFrame Go.Shelf
set_option maxRecDepth 100000
set_option linter.unusedSimpArgs false

set_option maxHeartbeats 4000000 in
theorem nat_Choose_K (n k K : Nat) (w : World) (hn : n ≤ 4096) (hk : k ≤ n) (hK : (n - k < k ∧ K = n - k) ∨ (¬ n - k < k ∧ K = k)) :
    Calls Tryz.prog 29 #[.int .i64 n, .int .i64 k] w (OneP (bin n k : Nat) w) := by
  obtain ⟨i0, hi0, hz0, hz1, hz2⟩ := info_parts infoI
  have B1 := (Blk.new0 w #[.bool false, .slice none 0 0] 32).alloc (.cells #[.int .i64 0] 28)
  have B2 := Blk.new1 w (.cells #[.bool false, .slice none 0 0] 32) #[.int .i64 0] 28
  have hx : Ext w ((w.alloc (.cells #[.bool false, .slice none 0 0] 32)).alloc (.cells #[.int .i64 0] 28)) := (by repeat (first | with_reducible exact Ext.refl _ | with_reducible assumption | with_reducible refine Ext.drewN ?_ _ | with_reducible refine Ext.drew ?_ | with_reducible refine Ext.alloc' ?_ _ | with_reducible refine Ext.set ?_ (by dsimp only; omega) _))
  obtain ⟨w1, hw1⟩ : ∃ w1, (w.alloc (.cells #[.bool false, .slice none 0 0] 32)).alloc (.cells #[.int .i64 0] 28) = w1 := ⟨_, rfl⟩
  have hs1 : w1.heap.size = w.heap.size + 2 := by rw [← hw1]; simp
  rw [hw1] at B1 B2 hx
  have H1 := Lib.hid (B1.alloc (.cells #[.int .i64 1] 3))
  have H2 := Lib.hid (B2.alloc (.cells #[.int .i64 1] 3))
  have HW := Lib.hid hw1
  have hI1 : Ints (w1.alloc (.cells #[.int .i64 1] 3)) (some ⟨w1.heap.size, 0, none⟩) 1 [1] := IB.ints (g := w1.heap.size) (L := [1]) (Blk.new0 w1 #[.int .i64 1] 3) (fun x hx => by obtain rfl := List.mem_singleton.1 hx; omega) (by simp)
  have hx2 := hx.alloc' (.cells #[.int .i64 1] 3)
  have d1 : decide ((n : Int) < 0) = false := by simp only [decide_eq_false_iff_not]; omega
  have d2 : decide (4096 < (n : Int)) = false := by simp only [decide_eq_false_iff_not]; omega
  have d3 : decide ((k : Int) < 0) = false := by simp only [decide_eq_false_iff_not]; omega
  have d4 : decide ((n : Int) < (k : Int)) = false := by simp only [decide_eq_false_iff_not]; omega
  have d5 : decide (n < k) = false := by simp only [decide_eq_false_iff_not]; omega
  have d6 : decide (4096 < n) = false := by simp only [decide_eq_false_iff_not]; omega
  have hbin : bin n K = bin n k := by
    rcases hK with ⟨_, rfl⟩ | ⟨_, rfl⟩
    · exact (bin_symm hk).symm
    · rfl
  have HBIN := Lib.hid hbin
  have hKn : K ≤ n := by omega
  have hKm : (if (n : Int) - (k : Int) < (k : Int) then (n : Int) - (k : Int) else (k : Int)) = (K : Int) := by
    rcases hK with ⟨h1, rfl⟩ | ⟨h1, rfl⟩
    · rw [if_pos (by omega)]; omega
    · rw [if_neg (by omega)]
  clear B1 B2 hw1 hx hbin hK
  go_enter_defers Tryz.func29, Tryz.ntmps29
  go_upto_region 1 with fail
  rw [HW.out]
  go_upto_region 7 with fail
  rw [hs1] at hI1
  generalize w1.alloc (.cells #[.int .i64 1] 3) = w2 at *
  have hI1 : Ints w2 (some ⟨w.heap.size + 2, 0, none⟩) 1 (digs (bin n 0)) := by rw [bin_zero, digs_one]; exact hI1
  have hl1 : (digs (bin n 0)).length = 1 := by rw [bin_zero, digs_one]; rfl
  have HL1 := Lib.hid hl1
  have HI1 := Lib.hid hI1
  clear hI1 hl1
  go_wp2_with fail
  clear hKm
  go_loopw [6, 29] (fun m i wr => ∃ (q : Nat) (a : Option Addr) (c L : Nat), q ≤ K ∧ i = .int .i64 q ∧ L = (digs (bin n q)).length ∧ m = .slice a L c ∧ Ints wr a c (digs (bin n q)) ∧ (∀ A, a = some A → w.heap.size + 2 ≤ A.block) ∧
    Blk wr w.heap.size #[.bool false, .slice none 0 0] 32 ∧ Blk wr (w.heap.size + 1) #[.int .i64 0] 28 ∧ Ext w wr ∧ w.heap.size + 2 ≤ wr.heap.size) (fun _ i _ => K - (intOf i).toNat)
  case atStart => exact ⟨0, _, 1, 1, Nat.zero_le _, rfl, HL1.out.symm, rfl, HI1.out, fun A hA => by cases hA; exact Nat.le_refl _, H1.out, H2.out, hx2, by have := H2.out.lt; omega⟩
  case round =>
    clear HL1 HI1 H1 H2 hx2 HW
    obtain ⟨q, a, c, L, hq, rfl, rfl, rfl, hI, hA, hB1, hB2, hxr, hsz⟩ := hrel
    by_cases hqK : q < K
    · have hdn : (n : Int) - (q : Int) = ((n - q : Nat) : Int) := by omega
      obtain ⟨d, hd⟩ : ∃ d : Int, ((n - q : Nat) : Int) = d := ⟨_, rfl⟩
      rw [hd] at hdn
      have hd1 : 0 < d := by omega
      have hd2 : d < 1073741824 := by omega
      obtain ⟨nd, vd⟩ := digs_small hd1 hd2
      have hID : Ints (wr.alloc (.cells #[.int .i64 d] 3)) (some ⟨wr.heap.size, 0, none⟩) 1 [d] := IB.ints (g := wr.heap.size) (L := [d]) (Blk.new0 wr #[.int .i64 d] 3) (fun x hx => by obtain rfl := List.mem_singleton.1 hx; omega) (by simp)
      have hlen := bin_len (i := q) hn
      have hM := nat_mul a (some ⟨wr.heap.size, 0, none⟩) c 1 (digs (bin n q)) [d] _ (hI.ext (Ext.alloc wr (.cells #[.int .i64 d] 3))) hID (digs_norm _).digs nd.digs (by simp; omega)
      have hv : (dval (digs (bin n q)) * dval [d]).toNat = bin n q * (n - q) := by
        rw [digs_val, vd, ← hd, ← Int.natCast_mul]; rfl
      rw [hv] at hM
      have hlen2 : (digs (bin n q * (n - q))).length ≤ 1000 := by
        rw [← bin_mul]
        have hh : bin n (q + 1) * (q + 1) < 1073741824 ^ 200 := by
          have h1 : bin n (q + 1) * (q + 1) ≤ 2 ^ n * 2 ^ 13 := Nat.mul_le_mul (bin_le _ _) (by omega)
          rw [← Nat.pow_add] at h1
          exact Nat.lt_of_le_of_lt h1 (pow_two_lt (by omega))
        have := digs_len hh
        omega
      have hv2 : (dval (digs (bin n q * (n - q))) / ((q : Int) + 1)).toNat = bin n (q + 1) := by
        rw [digs_val, ← bin_step]
        have : ((bin n q * (n - q) : Nat) : Int) / ((q : Int) + 1) = ((bin n q * (n - q) / (q + 1) : Nat) : Int) := by
          rw [Int.natCast_ediv]; rfl
        rw [this]; rfl
      have HM := Lib.hid hM
      have HV := Lib.hid hv2
      have HL2 := Lib.hid hlen2
      have HA := Lib.hid hA
      have HB1 := Lib.hid hB1
      have HB2 := Lib.hid hB2
      have HXR := Lib.hid hxr
      have HD := Lib.hid hd
      have hdig := Lib.hid (digs_norm (bin n q * (n - q))).digs
      clear hM hv hv2 hlen hlen2 hA hB1 hB2 hID hI nd vd hd
      generalize bin n q * (n - q) = P at *
      generalize digs (bin n q) = D at *
      go_wp2_with fail
      refine HM.out.mono ?_
      rintro e w3 ⟨v, rfl, hO, hy⟩
      obtain ⟨a3, c3, rfl, hi3, _⟩ := hO.form0 hdig.out
      have hS := nat_short a3 c3 (digs P) ((q : Int) + 1) w3 hi3 hdig.out (by have := HL2.out; omega) (by omega) (by omega)
      have HS := Lib.hid hS
      have hy3 := Lib.hid ((Ext.alloc wr (.cells #[.int .i64 d] 3)).trans hy)
      clear hS hO hi3 hy HM
      go_wp2_with fail
      refine HS.out.mono ?_
      rintro e w4 ⟨v, rfl, hO, hy⟩
      rw [HV.out] at hO
      obtain ⟨a4, c4, rfl, hi4, hb4⟩ := hO.form0 (digs_norm _).digs
      have hy4 := hy3.out.trans hy
      have hs3 := hy3.out.size
      clear HS
      go_wp2_with fail
      go_roundw
      case rel => exact ⟨q + 1, a4, c4, _, by omega, by go_num, rfl, rfl, hi4, fun A hA => by have := hb4 A hA; omega, HB1.out.ext hy4, HB2.out.ext hy4, HXR.out.trans hy4, by have := hy4.size; omega⟩
      case measure => simp [intOf]; omega
    · obtain rfl : q = K := by omega
      have hG := nat_big false a c (digs (bin n q)) wr hI
      rw [trim_id (digs_norm _)] at hG
      have hlen := bin_len (i := q) hn
      have hbo := big_of false (bin n q)
      have hz : sgn false ((bin n q : Nat) : Int) = ((bin n k : Nat) : Int) := by rw [HBIN.out]; rfl
      rw [hz] at hbo
      rw [Bool.false_and] at hbo
      have HBO := Lib.hid hbo
      have HG := Lib.hid hG
      have HI := Lib.hid hI
      have HA := Lib.hid hA
      have HB1 := Lib.hid hB1
      have HB2 := Lib.hid hB2
      have HXR := Lib.hid hxr
      clear hG hI hA hB1 hB2 hxr hbo hz
      generalize digs (bin n q) = D at *
      generalize ((bin n k : Nat) : Int) = Z at *
      go_wp2_with fail
      refine HG.out.mono ?_
      rintro e w3 (⟨hl3, rfl, hy⟩ | ⟨hl3, rfl, hy⟩)
      · have K1 := HB1.out.ext hy
        have K2 := HB2.out.ext hy
        have c0 := K1.cell (i := 0) (v := .bool false) rfl
        have c1 := K1.cell (i := 1) (v := .slice none 0 0) rfl
        have c2 := K2.cell (i := 0) (v := .int .i64 0) rfl
        have f0 := K1.free 0
        have f1 := K1.free 1
        have f2 := K2.free 0
        have J1 := Lib.hid K1
        have J2 := Lib.hid K2
        have hx3 := HXR.out.trans hy
        have HI3 := Lib.hid (HI.out.ext hy)
        clear K1 K2 hy HI HG
        go_wp2_with fail
        refine leaves_cons (f := 69) (args := #[.pointer (some ⟨w.heap.size + 1, 0, none⟩)]) (by simp) (by simp [go_sem]) ?_
        refine (nat_caught_idle ⟨w.heap.size + 1, 0, none⟩ _).mono ?_
        rintro e u' w'' ⟨rfl, rfl, rfl⟩
        have L1 := ((J1.out.set 0 (.bool false)).set 1 (.slice a D.length c)).other (p := ⟨w.heap.size + 1, 0, none⟩) (by dsimp only; omega) (.int .i64 0)
        have L2 := ((J2.out.other (p := ⟨w.heap.size, 0, none⟩) (by dsimp only; omega) (.bool false)).other (p := ⟨w.heap.size, 1, none⟩) (by dsimp only; omega) (.slice a D.length c)).set 0 (.int .i64 0)
        have e0 := L1.cell (i := 0) (v := .bool false) rfl
        have e1 := L1.cell (i := 1) (v := .slice a D.length c) rfl
        have e2 := L2.cell (i := 0) (v := .int .i64 0) rfl
        have hne : ∀ A, a = some A → A.block ≠ w.heap.size ∧ A.block ≠ w.heap.size + 1 := fun A hA => by have := HA.out A hA; omega
        have hfin : OneP Z w (.returned (.tuple #[.agg #[.bool false, .slice a D.length c], .int .i64 0])) (((w3.setCell ⟨w.heap.size, 0, none⟩ (.bool false)).setCell ⟨w.heap.size, 1, none⟩ (.slice a D.length c)).setCell ⟨w.heap.size + 1, 0, none⟩ (.int .i64 0)) :=
          ⟨_, rfl, ⟨false, a, c, D, rfl, ((HI3.out.putO (p := ⟨w.heap.size, 0, none⟩) (fun A hA => (hne A hA).1) _).putO (p := ⟨w.heap.size, 1, none⟩) (fun A hA => (hne A hA).1) _).putO (p := ⟨w.heap.size + 1, 0, none⟩) (fun A hA => (hne A hA).2) _, HBO.out, fun A hA => by have := HA.out A hA; omega⟩,
            ((hx3.set (p := ⟨w.heap.size, 0, none⟩) (by dsimp only; omega) _).set (p := ⟨w.heap.size, 1, none⟩) (by dsimp only; omega) _).set (p := ⟨w.heap.size + 1, 0, none⟩) (by dsimp only; omega) _⟩
        simp [Leaves, settle, results, Tryz.results29, go_sem, e0, e1, e2]
        exact hfin
      · omega
theorem nat_Choose (n k : Nat) (w : World) (hn : n ≤ 4096) (hk : k ≤ n) : Calls Tryz.prog 29 #[.int .i64 n, .int .i64 k] w (OneP (bin n k : Nat) w) := by
  by_cases h : n - k < k
  · exact nat_Choose_K n k (n - k) w hn hk (.inl ⟨h, rfl⟩)
  · exact nat_Choose_K n k k w hn hk (.inr ⟨h, rfl⟩)
end Go.Proofs.YtmcbbhlglccmgaaGreat
