import Derived.Test.YtmkleegfbapakaaLBest
import Derived.Deep.LoopGhost
namespace Go.Proofs.Ytmkleegfbapakaa
open Go.RowKit Go D28
set_option maxRecDepth 100000

set_option maxHeartbeats 4000000 in
theorem lawSlots (J S N : Int) (a : Option Addr) (cap : Nat) (bad : List (List Bool)) (a2 : Option Addr) (cap2 : Nat) (ps : List (List Int)) (w : World) (h : BRows w a cap bad) (h2 : Rows w a2 cap2 ps) :
    Calls Try.prog 7 #[.agg #[.int .i64 J, .int .i64 S, .int .i64 N, .slice a bad.length cap], .slice a2 ps.length cap2] w fun e w' => e = .returned (.bool true) ∧ Ext w w' := by
  have hle := h2.le
  have hmx := h2.mx
  have hx := Ext.alloc w (.cells #[.int .i64 J, .int .i64 S, .int .i64 N, .slice a bad.length cap] 24)
  have hb := h.ext hx
  have hp := h2.ext hx
  have k := Lib.hid (Blk.new0 w #[.int .i64 J, .int .i64 S, .int .i64 N, .slice a bad.length cap] 24)
  go_enter Try.func7, Try.ntmps7
  go_wp2_with fail
  generalize w.alloc (.cells #[.int .i64 J, .int .i64 S, .int .i64 N, .slice a bad.length cap] 24) = w1 at *
  refine (lawSane _).mono ?_
  rintro e0 w2 ⟨rfl, hy⟩
  have hb := hb.ext hy
  have hp := hp.ext hy
  have hx := hx.trans hy
  have k := Lib.hid (k.out.ext hy)
  clear hy
  have c0 := k.out.cell (i := 0) (v := .int .i64 J) rfl
  have c1 := k.out.cell (i := 1) (v := .int .i64 S) rfl
  have c2 := k.out.cell (i := 2) (v := .int .i64 N) rfl
  have c3 := k.out.cell (i := 3) (v := .slice a bad.length cap) rfl
  go_wp2_with fail
  refine (lawFits J S N a cap bad a2 cap2 ps _ hb hp).mono ?_
  rintro e0 w3 ⟨rfl, hy⟩
  have hb := hb.ext hy
  have hp := hp.ext hy
  have hx := hx.trans hy
  have k := Lib.hid (k.out.ext hy)
  clear hy c0 c1 c2 c3
  cases hf : fitsB J S N bad ps with
  | false =>
    clear hf
    go_wp2_with fail
    go_ret
    exact ⟨rfl, hx⟩
  | true =>
    obtain ⟨Jn, rfl, hc, hJ20, hn12, hr⟩ := fits_yes hf
    clear hf
    obtain ⟨hG, hlen, hJ1, hS1⟩ := good_of_check hc
    have hc := Lib.hid hc
    have hpl := Lib.hid hlen
    clear hr hG hlen
    go_upto_region 5 with fail
    go_wp2_with fail
    go_loopw [5] (fun i wr => ∃ q : Nat, 1 ≤ q ∧ q ≤ 17 ∧ i = .int .i64 q ∧ Ext w3 wr) (fun i _ => 17 - (intOf i).toNat)
    case atStart => exact ⟨1, by omega, by omega, rfl, Ext.refl _⟩
    case round =>
      obtain ⟨q, hq1, hq2, rfl, hxr⟩ := hrel
      have hb := hb.ext hxr
      have hp := hp.ext hxr
      have hx := hx.trans hxr
      have k := Lib.hid (k.out.ext hxr)
      by_cases hq : q ≤ 16
      · obtain ⟨L, hL⟩ : ∃ L, dLo ps.length (dLoads ps Jn) = L := ⟨_, rfl⟩
        obtain ⟨H, hH⟩ : ∃ H, dHi 0 (dLoads ps Jn) = H := ⟨_, rfl⟩
        obtain ⟨P, hP⟩ : ∃ P, dLo S (dCommons ps) = P := ⟨_, rfl⟩
        obtain ⟨T, hT⟩ : ∃ T, dSlotMax ps Jn q = T := ⟨_, rfl⟩
        have hD := Lib.hid (desMeasure_at hc.out q (by omega) (by omega) hL hH hP hT)
        obtain ⟨s1, s2, s3, s4⟩ := slot_law (ps := ps) (J := Jn) q
        rw [hT] at s1 s2 s3 s4
        rw [hH] at s2
        have s3 := Lib.hid s3
        have s4 := Lib.hid s4
        clear hL hH hP hT
        have c0 := k.out.cell (i := 0) (v := .int .i64 (Jn : Int)) rfl
        have c1 := k.out.cell (i := 1) (v := .int .i64 S) rfl
        have c2 := k.out.cell (i := 2) (v := .int .i64 N) rfl
        have c3 := k.out.cell (i := 3) (v := .slice a bad.length cap) rfl
        go_wp2_with fail
        refine (hD.out a cap a2 cap2 _ hb hp).mono ?_
        rintro e0 w4 ⟨rfl, hy⟩
        have hx := hx.trans hy
        have hxr := hxr.trans hy
        clear hy c0 c1 c2 c3 k hb hp
        go_upto_region 9 with fail
        have k4 := Lib.hid (Blk.new0 w4 #[.int .i64 L, .int .i64 H, .int .i64 P, .int .i64 T] 29)
        have hx := hx.alloc' (.cells #[.int .i64 L, .int .i64 H, .int .i64 P, .int .i64 T] 29)
        have hxr := hxr.alloc' (.cells #[.int .i64 L, .int .i64 H, .int .i64 P, .int .i64 T] 29)
        generalize w4.alloc (.cells #[.int .i64 L, .int .i64 H, .int .i64 P, .int .i64 T] 29) = w5 at *
        generalize w4.heap.size = p4 at *
        have g1 := k4.out.cell (i := 1) (v := .int .i64 H) rfl
        have g3 := k4.out.cell (i := 3) (v := .int .i64 T) rfl
        have t1 : decide (T < 0) = false := by simpa using s1
        have t2 : decide (H < T) = false := by simpa using s2
        by_cases q1 : q = 1
        · subst q1
          have := s3.out rfl
          subst this
          by_cases hn : ps.length ≤ 1
          · skip
            have n1 : decide (ps.length ≤ 1) = true := by simpa using hn
            have n2 : decide ((ps.length : Int) ≤ 1) = true := by simp; omega
            have hn := Lib.hid hn
            go_wp2_with fail
            go_roundw
            case rel => exact ⟨2, by omega, by omega, rfl, hxr⟩
            case measure => simp [intOf]
          · skip
            have n1 : decide (ps.length ≤ 1) = false := by simpa using hn
            have n2 : decide ((ps.length : Int) ≤ 1) = false := by simp; omega
            have hn := Lib.hid hn
            go_wp2_with fail
            go_roundw
            case rel => exact ⟨2, by omega, by omega, rfl, hxr⟩
            case measure => simp [intOf]
        · have u1 : ((q : Int) == 1) = false := by simpa using (show ¬ (q : Int) = 1 by omega)
          have q1 := Lib.hid q1
          by_cases hn : ps.length ≤ q
          · have t4 : decide (1 < T) = false := by simpa using s4.out hn
            have n1 : decide (ps.length ≤ q) = true := by simpa using hn
            have n2 : decide ((ps.length : Int) ≤ (q : Int)) = true := by simpa using hn
            have hn := Lib.hid hn
            go_wp2_with fail
            go_roundw
            case rel => exact ⟨q + 1, by omega, by omega, by go_num, hxr⟩
            case measure => simp [intOf]; omega
          · skip
            have n1 : decide (ps.length ≤ q) = false := by simpa using hn
            have n2 : decide ((ps.length : Int) ≤ (q : Int)) = false := by simpa using hn
            have hn := Lib.hid hn
            go_wp2_with fail
            go_roundw
            case rel => exact ⟨q + 1, by omega, by omega, by go_num, hxr⟩
            case measure => simp [intOf]; omega
      · obtain rfl : q = 17 := by omega
        go_wp2_with fail
        go_ret
        exact ⟨rfl, hx⟩
end Go.Proofs.Ytmkleegfbapakaa
