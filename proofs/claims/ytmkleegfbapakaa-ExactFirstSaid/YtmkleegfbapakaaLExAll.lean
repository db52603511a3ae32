import Derived.Test.YtmkleegfbapakaaESubN
import Derived.Test.YtmkleegfbapakaaND
import Derived.Test.YtmkleegfbapakaaELaw0
import Derived.Test.YtmkleegfbapakaaENeg
namespace Go.Proofs.Ytmkleegfbapakaa
open Go.RowKit Go BigFrame Go.Shelf
set_option maxRecDepth 100000
set_option linter.unusedSimpArgs false

def nearB (n : Int) : Bool := decide (-1099511627776 ≤ n) && decide (n ≤ 1099511627776)
theorem law_near (n : Int) (w : World) : Calls Try.prog 38 #[.int .i64 n] w fun e w' => e = .returned (.bool (nearB n)) ∧ w = w' := by
  unfold nearB
  by_cases h1 : -1099511627776 ≤ n
  · have d1 : decide (-1099511627776 ≤ n) = true := by simpa using h1
    go_enter Try.func38, Try.ntmps38
    go_wp2_with fail
    go_ret
    exact ⟨ret_bool (by first | rfl | (rw [d1]; rfl)), rfl⟩
  · have d1 : decide (-1099511627776 ≤ n) = false := by simpa using h1
    go_enter Try.func38, Try.ntmps38
    go_wp2_with fail
    go_ret
    exact ⟨ret_bool (by first | rfl | (rw [d1]; rfl)), rfl⟩

theorem out_neg2 {l : List Int} (h : l.any outB = false) : (l.map fun x => -x).any outB = false := by
  rw [List.any_eq_false]
  intro x hx
  obtain ⟨y, hy, rfl⟩ := List.mem_map.1 hx
  have := List.any_eq_false.1 h y hy
  simp only [outB, Bool.or_eq_true, decide_eq_true_eq, not_or] at this ⊢
  omega
theorem bin14 {n k : Nat} (h : n ≤ 14) : bin n k ≤ 16384 := by
  have h1 := bin_le n k
  have h2 : 2 ^ n ≤ 2 ^ 14 := Nat.pow_le_pow_right (by decide) h
  omega

set_option maxHeartbeats 4000000 in
theorem lawExactAll (a : Option Addr) (cap : Nat) (l : List Int) (k sum : Int) (w : World) (h : Ints w a cap l) (hk : -9223372036854775808 ≤ k ∧ k ≤ 9223372036854775807) (hs : -9223372036854775808 ≤ sum ∧ sum ≤ 9223372036854775807) :
    Calls Try.prog 13 #[.slice a l.length cap, .int .i64 k, .int .i64 sum] w fun e w' => e = .returned (.bool true) ∧ Ext w w' := by
  have hle := h.le
  have hmx := h.mx
  obtain ⟨hk1, hk2⟩ := hk
  obtain ⟨hs1, hs2⟩ := hs
  go_enter Try.func13, Try.ntmps13
  go_wp2_with fail
  with_reducible refine (law41Sane _).mono ?_
  rintro e w1 ⟨rfl, hy⟩
  have HI := Lib.hid (h.ext hy)
  have hx := hy
  clear h hy
  by_cases b1 : 14 < l.length
  · have d1 : decide (14 < (l.length : Int)) = true := by simp; omega
    have d1' : decide (14 < l.length) = true := by simp; omega
    go_wp2_with fail
    go_ret
    exact ⟨rfl, hx⟩
  have d1 : decide (14 < (l.length : Int)) = false := by simp; omega
  have d1' : decide (14 < l.length) = false := by simp; omega
  have hN := law_near sum w1
  cases hnb : nearB sum with
  | false =>
    rw [hnb] at hN
    have HN := Lib.hid hN
    clear hN hnb
    go_wp2_with fail
    refine HN.out.mono ?_
    rintro e w2 ⟨rfl, rfl⟩
    go_wp2_with fail
    go_ret
    exact ⟨rfl, hx⟩
  | true =>
    rw [hnb] at hN
    have HN := Lib.hid hN
    unfold nearB at hnb
    simp only [Bool.and_eq_true, decide_eq_true_eq] at hnb
    obtain ⟨s1, s2⟩ := hnb
    have hS := exact_Subsets_any a cap k l sum w1 HI.out (.inl (by omega))
    by_cases hE : eS l k = 0
    case neg =>
      have hz : zS l k sum = 0 := if_neg hE
      rw [hz] at hS
      generalize eS l k = E at *
      have t1 : (E != 0) = true := by simpa using hE
      have HS := Lib.hid hS
      clear hN hE hz hS
      go_wp2_with fail
      refine HN.out.mono ?_
      rintro e w2 ⟨rfl, rfl⟩
      go_wp2_with fail
      refine HS.out.mono ?_
      rintro e w3 ⟨v, rfl, hv, hy⟩
      obtain ⟨neg, av, cv, lv, rfl⟩ := hv.form
      have hb := Blk.new0 w3 #[.bool neg, .slice av lv cv] 42
      have hy2 := Ext.alloc w3 (.cells #[.bool neg, .slice av lv cv] 42)
      have hv2 := hv.val.ext hy2
      have HR := Lib.hid (ref_Same_val hv2 (BigV.zero _))
      have c0 := hb.cell (i := 0) (v := .bool neg) rfl
      have c1 := hb.cell (i := 1) (v := .slice av lv cv) rfl
      clear HS HN hv hv2 hb
      go_upto_region 7 with fail
      generalize w3.alloc (.cells #[.bool neg, .slice av lv cv] 42) = w4 at *
      go_wp2_with fail
      with_reducible refine HR.out.mono ?_
      rintro e w5 ⟨rfl, hy5⟩
      go_wp2_with fail
      go_ret
      exact ⟨by simp, hx.trans (hy.trans (hy2.trans hy5))⟩
    case pos =>
      have hz : zS l k sum = ((cs sum k.toNat l 0 : Nat) : Int) := if_pos hE
      have hfacts : l.any outB = false ∧ 0 ≤ k ∧ k ≤ (l.length : Int) := by
        unfold eS at hE
        rw [if_neg (by omega)] at hE
        by_cases h2 : l.any outB = true
        · rw [if_pos h2] at hE; omega
        · rw [if_neg h2] at hE
          refine ⟨by simpa using h2, ?_⟩
          by_cases h3 : k < 0
          · rw [if_pos h3] at hE; omega
          · rw [if_neg h3] at hE
            by_cases h4 : (l.length : Int) < k
            · rw [if_pos h4] at hE; omega
            · omega
      obtain ⟨ho, k0, k1⟩ := hfacts
      rw [hz, hE] at hS
      obtain ⟨K, rfl⟩ : ∃ K : Nat, k = (K : Int) := ⟨k.toNat, by omega⟩
      rw [show ((K : Nat) : Int).toNat = K by omega] at hS
      have hKl : K ≤ l.length := by omega
      have hneg := law_negative a cap l
      have hvals : ∀ x ∈ l, -1048576 ≤ x ∧ x ≤ 1048576 := fun x hx => by
        have := List.any_eq_false.1 ho x hx
        simp only [outB, Bool.or_eq_true, decide_eq_true_eq, not_or] at this
        omega
      have HNEG := Lib.hid (fun W (hW : Ext w1 W) => law_negative a cap l W (HI.out.ext hW) (by omega) hvals)
      have hlm : (l.map fun x => -x).length = l.length := by simp
      have hSub2 := fun (a2 : Option Addr) (c2 : Nat) (W : World) (h2 : Ints W a2 c2 (l.map fun x => -x)) => exact_Subsets_ok a2 c2 K (l.map fun x => -x) (1 - sum) W h2 (by rw [hlm]; omega) (out_neg2 ho) (by rw [hlm]; exact hKl)
      rw [hlm] at hSub2
      have hboth := cs_bin sum K l
      have hA14 := bin14 (n := l.length) (k := K) (by omega)
      have HCH := Lib.hid (fun W => nat_Choose l.length K W (by omega) hKl)
      have HSB := Lib.hid hSub2
      have hb1 : cs sum K l 0 ≤ 16384 := by omega
      have hb2 : cs (1 - sum) K (l.map fun x => -x) 0 ≤ 16384 := by omega
      generalize cs sum K l 0 = A at *
      generalize cs (1 - sum) K (l.map fun x => -x) 0 = B at *
      generalize hbn : bin l.length K = C at *
      have hAB : (A : Int) + (B : Int) = (C : Int) := by omega
      have LA : Len (A : Int) := len_small (by omega)
      have LB' : Len (B : Int) := len_small (by omega)
      have LC : Len ((A : Int) + (B : Int)) := len_small (by omega)
      have HAB := Lib.hid hAB
      have HS := Lib.hid hS
      clear hN hS hE hz ho hvals hlm hSub2 hboth hbn hAB hneg hA14 hb1 hb2
      go_wp2_with fail
      refine HN.out.mono ?_
      rintro e w2 ⟨rfl, rfl⟩
      go_wp2_with fail
      refine HS.out.mono ?_
      rintro e w3 ⟨v, rfl, hv, hy⟩
      obtain ⟨neg, av, cv, lv, rfl⟩ := hv.form
      have hb := Blk.new0 w3 #[.bool neg, .slice av lv cv] 42
      have hy2 := Ext.alloc w3 (.cells #[.bool neg, .slice av lv cv] 42)
      have V1 := Lib.hid (hv.val.ext hy2)
      have Y4 := hx.trans (hy.trans hy2)
      have hyy := hy.trans hy2
      have HB1 := Lib.hid hb
      clear HS HN hv hb hy hy2
      go_upto_region 8 with fail
      generalize hbs : w3.heap.size = p1 at *
      generalize w3.alloc (.cells #[.bool neg, .slice av lv cv] 42) = w4 at *
      go_wp2_with fail
      refine (HNEG.out w4 hyy).mono ?_
      rintro e w5 ⟨a2, c2, rfl, hi2, hy5⟩
      have hS2 := HSB.out a2 c2 w5 hi2
      go_wp2_with fail
      refine hS2.mono ?_
      rintro e w6 ⟨v, rfl, hv, hy6⟩
      obtain ⟨neg2, av2, cv2, lv2, rfl⟩ := hv.form
      have hb2 := Blk.new0 w6 #[.bool neg2, .slice av2 lv2 cv2] 42
      have h67 := Ext.alloc w6 (.cells #[.bool neg2, .slice av2 lv2 cv2] 42)
      have V2 := hv.val.ext h67
      have h47 := hy5.trans (hy6.trans h67)
      have HB2 := Lib.hid hb2
      have HB1 := Lib.hid (HB1.out.ext h47)
      have V1 := V1.out.ext h47
      have Y7 := Y4.trans h47
      have HADD := Lib.hid (add_one V1 V2 LA LB' LC)
      clear hS2 hv hb2 hy5 hy6 h67 h47 V1 V2 Y4 hyy HSB HNEG
      go_upto_region 9 with fail
      generalize hbs2 : w6.heap.size = p2 at *
      generalize w6.alloc (.cells #[.bool neg2, .slice av2 lv2 cv2] 42) = w7 at *
      have c0 := HB1.out.cell (i := 0) (v := .bool neg) rfl
      have c1 := HB1.out.cell (i := 1) (v := .slice av lv cv) rfl
      have c2' := HB2.out.cell (i := 0) (v := .bool neg2) rfl
      have c3 := HB2.out.cell (i := 1) (v := .slice av2 lv2 cv2) rfl
      go_wp2_with fail
      refine HADD.out.mono ?_
      rintro e w8 ⟨v, rfl, hv, hy8⟩
      obtain ⟨neg3, av3, cv3, lv3, rfl⟩ := hv.form
      have hb3 := Blk.new0 w8 #[.bool neg3, .slice av3 lv3 cv3] 42
      have h89 := Ext.alloc w8 (.cells #[.bool neg3, .slice av3 lv3 cv3] 42)
      have V3 := Lib.hid (hv.val.ext h89)
      have HB3 := Lib.hid hb3
      have Y9 := Y7.trans (hy8.trans h89)
      clear c0 c1 c2' c3 hv hb3 hy8 h89 HADD HB1 HB2 Y7
      go_upto_region 10 with fail
      generalize hbs3 : w8.heap.size = p3 at *
      generalize w8.alloc (.cells #[.bool neg3, .slice av3 lv3 cv3] 42) = w9 at *
      go_wp2_with fail
      refine (HCH.out w9).mono ?_
      rintro e w10 ⟨v, rfl, hv, hy10⟩
      obtain ⟨neg4, av4, cv4, lv4, rfl⟩ := hv.form
      have hb4 := Blk.new0 w10 #[.bool neg4, .slice av4 lv4 cv4] 42
      have h1011 := Ext.alloc w10 (.cells #[.bool neg4, .slice av4 lv4 cv4] 42)
      have V4 := hv.val.ext h1011
      have V3 := V3.out.ext (hy10.trans h1011)
      have HB4 := Lib.hid hb4
      have HB3 := Lib.hid (HB3.out.ext (hy10.trans h1011))
      have Y11 := Y9.trans (hy10.trans h1011)
      have hsame := ref_Same_val V3 V4
      rw [HAB.out, decide_eq_true rfl] at hsame
      have HSM := Lib.hid hsame
      clear hv hb4 hy10 h1011 V4 V3 hsame HCH Y9
      go_upto_region 11 with fail
      generalize hbs4 : w10.heap.size = p4 at *
      generalize w10.alloc (.cells #[.bool neg4, .slice av4 lv4 cv4] 42) = w11 at *
      have c0 := HB3.out.cell (i := 0) (v := .bool neg3) rfl
      have c1 := HB3.out.cell (i := 1) (v := .slice av3 lv3 cv3) rfl
      have c2' := HB4.out.cell (i := 0) (v := .bool neg4) rfl
      have c3 := HB4.out.cell (i := 1) (v := .slice av4 lv4 cv4) rfl
      go_wp2_with fail
      with_reducible refine HSM.out.mono ?_
      rintro e w12 ⟨rfl, hy12⟩
      go_wp2_with fail
      go_ret
      exact ⟨rfl, Y11.trans hy12⟩
end Go.Proofs.Ytmkleegfbapakaa
