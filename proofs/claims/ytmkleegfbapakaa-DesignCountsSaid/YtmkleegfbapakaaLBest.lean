import Derived.Test.YtmkleegfbapakaaDSane
import Derived.Test.YtmkleegfbapakaaDFitsL
import Derived.Test.YtmkleegfbapakaaDMath2
namespace Go.Proofs.Ytmkleegfbapakaa
open Go.RowKit Go D28
set_option maxRecDepth 100000

theorem fits_yes {J S N : Int} {bad : List (List Bool)} {ps : List (List Int)} (h : fitsB J S N bad ps = true) : ∃ Jn : Nat, J = Jn ∧ checkE Jn S N bad ps = 0 ∧ Jn ≤ 20 ∧ ps.length ≤ 12 ∧ rightB Jn S N bad = true := by
  simp only [fitsB, Bool.and_eq_true, decide_eq_true_eq] at h
  obtain ⟨h1, h2⟩ := h
  obtain ⟨f1, f2, f3⟩ := fewB_yes h1
  obtain ⟨r1, _, r2, r3, _⟩ := rows_ok h2
  obtain ⟨Jn, rfl⟩ : ∃ Jn : Nat, J = (Jn : Int) := ⟨J.toNat, by omega⟩
  exact ⟨Jn, rfl, h2, by omega, by omega, (checkE_zero h2).1⟩

theorem desMeasure_at {Jn : Nat} {S N : Int} {bad : List (List Bool)} {ps : List (List Int)} (he : checkE Jn S N bad ps = 0) {L H P T : Int} (m : Nat) (hm1 : 1 ≤ m) (hm2 : m ≤ 16) (hL : dLo ps.length (dLoads ps Jn) = L) (hH : dHi 0 (dLoads ps Jn) = H) (hP : dLo S (dCommons ps) = P) (hT : dSlotMax ps Jn m = T)
    (a : Option Addr) (cap : Nat) (a2 : Option Addr) (cap2 : Nat) (w : World) (h : BRows w a cap bad) (h2 : Rows w a2 cap2 ps) :
    Calls Try.prog 17 #[.agg #[.int .i64 (Jn : Int), .int .i64 S, .int .i64 N, .slice a bad.length cap], .slice a2 ps.length cap2, .int .i64 (m : Int)] w fun r w' => r = .returned (.tuple #[.agg #[.int .i64 L, .int .i64 H, .int .i64 P, .int .i64 T], .int .i64 0]) ∧ Ext w w' := by
  subst hL hH hP hT
  exact desMeasure_ok S N Jn m a cap bad a2 cap2 ps w h h2 he hm1 hm2

set_option maxHeartbeats 4000000 in
theorem lawBest (J S N : Int) (a : Option Addr) (cap : Nat) (bad : List (List Bool)) (a2 : Option Addr) (cap2 : Nat) (ps : List (List Int)) (w : World) (h : BRows w a cap bad) (h2 : Rows w a2 cap2 ps) :
    Calls Try.prog 6 #[.agg #[.int .i64 J, .int .i64 S, .int .i64 N, .slice a bad.length cap], .slice a2 ps.length cap2] w fun e w' => e = .returned (.bool true) ∧ Ext w w' := by
  have hle := h2.le
  have hmx := h2.mx
  have hx := Ext.alloc w (.cells #[.int .i64 J, .int .i64 S, .int .i64 N, .slice a bad.length cap] 24)
  have hb := h.ext hx
  have hp := h2.ext hx
  have k := Lib.hid (Blk.new0 w #[.int .i64 J, .int .i64 S, .int .i64 N, .slice a bad.length cap] 24)
  go_enter Try.func6, Try.ntmps6
  go_wp2_with fail
  generalize w.alloc (.cells #[.int .i64 J, .int .i64 S, .int .i64 N, .slice a bad.length cap] 24) = w1 at *
  refine (lawSane _).mono ?_
  rintro e0 w2 ⟨rfl, hy⟩
  have hb := hb.ext hy
  have hp := hp.ext hy
  have hx := hx.trans hy
  have k := Lib.hid (k.out.ext hy)
  clear hy
  have c0 := k.out.cell (i := 0) (v := .int .i64 J) rfl
  have c1 := k.out.cell (i := 1) (v := .int .i64 S) rfl
  have c2 := k.out.cell (i := 2) (v := .int .i64 N) rfl
  have c3 := k.out.cell (i := 3) (v := .slice a bad.length cap) rfl
  go_wp2_with fail
  refine (lawFits J S N a cap bad a2 cap2 ps _ hb hp).mono ?_
  rintro e0 w3 ⟨rfl, hy⟩
  have hb := hb.ext hy
  have hp := hp.ext hy
  have hx := hx.trans hy
  have k := Lib.hid (k.out.ext hy)
  clear hy c0 c1 c2 c3
  cases hf : fitsB J S N bad ps with
  | false =>
    clear hf
    go_wp2_with fail
    go_ret
    exact ⟨rfl, hx⟩
  | true =>
    obtain ⟨Jn, rfl, hc, hJ20, hn12, hr⟩ := fits_yes hf
    clear hf
    obtain ⟨hG, hlen, hJ1, hS1⟩ := good_of_check hc
    have HBst := best_law hG hJ1
    have hDB : ∀ w4, BRows w4 a cap bad → Calls Try.prog 21 #[.agg #[.int .i64 (Jn : Int), .int .i64 S, .int .i64 N, .slice a bad.length cap]] w4 fun e w' => e = .returned (.tuple #[.agg #[.int .i64 (bLeast Jn S ps.length), .int .i64 (bMost Jn S ps.length), .int .i64 (bPair Jn S ps.length), .int .i64 0], .int .i64 0]) ∧ Ext w4 w' := fun w4 h4 => by
      rw [hlen]; exact desBound_yes Jn S N a cap bad w4 h4 hr
    obtain ⟨L, hL⟩ : ∃ L, dLo ps.length (dLoads ps Jn) = L := ⟨_, rfl⟩
    obtain ⟨H, hH⟩ : ∃ H, dHi 0 (dLoads ps Jn) = H := ⟨_, rfl⟩
    obtain ⟨P, hP⟩ : ∃ P, dLo S (dCommons ps) = P := ⟨_, rfl⟩
    obtain ⟨T, hT⟩ : ∃ T, dSlotMax ps Jn 1 = T := ⟨_, rfl⟩
    have bnd : -100 ≤ L ∧ L ≤ 100 ∧ -100 ≤ H ∧ H ≤ 100 := by
      obtain ⟨j1, _, e1⟩ := lo_attained (ps := ps) hJ1
      obtain ⟨j2, _, e2⟩ := hi_attained (ps := ps) hJ1
      have := load_le ps (j1 : Int)
      have := load_le ps (j2 : Int)
      omega
    have hD := Lib.hid (desMeasure_at hc 1 (by omega) (by omega) hL hH hP hT)
    obtain ⟨bL, hbL⟩ : ∃ x, bLeast Jn S ps.length = x := ⟨_, rfl⟩
    obtain ⟨bM, hbM⟩ : ∃ x, bMost Jn S ps.length = x := ⟨_, rfl⟩
    obtain ⟨bP, hbP⟩ : ∃ x, bPair Jn S ps.length = x := ⟨_, rfl⟩
    rw [hL, hH, hP, hbL, hbM, hbP] at HBst
    rw [hbL, hbM, hbP] at hDB
    obtain ⟨q1, q2, q3⟩ := HBst
    have hDB := Lib.hid hDB
    obtain ⟨bd1, bd2, bd3, bd4⟩ := bnd
    have q3 := Lib.hid q3
    clear hL hH hP hT hbL hbM hbP hc hr hG hlen
    have c0 := k.out.cell (i := 0) (v := .int .i64 (Jn : Int)) rfl
    have c1 := k.out.cell (i := 1) (v := .int .i64 S) rfl
    have c2 := k.out.cell (i := 2) (v := .int .i64 N) rfl
    have c3 := k.out.cell (i := 3) (v := .slice a bad.length cap) rfl
    go_wp2_with fail
    refine (hD.out a cap a2 cap2 _ hb hp).mono ?_
    rintro e0 w4 ⟨rfl, hy⟩
    have hb := hb.ext hy
    have hx := hx.trans hy
    have k := Lib.hid (k.out.ext hy)
    clear hy c0 c1 c2 c3
    go_upto_region 6 with fail
    have k3 := Lib.hid (Blk.new0 w4 #[.int .i64 L, .int .i64 H, .int .i64 P, .int .i64 T] 29)
    have hb := hb.ext (Ext.alloc _ (.cells #[.int .i64 L, .int .i64 H, .int .i64 P, .int .i64 T] 29))
    have hx := hx.alloc' (.cells #[.int .i64 L, .int .i64 H, .int .i64 P, .int .i64 T] 29)
    have k := Lib.hid (k.out.alloc (.cells #[.int .i64 L, .int .i64 H, .int .i64 P, .int .i64 T] 29))
    generalize w4.alloc (.cells #[.int .i64 L, .int .i64 H, .int .i64 P, .int .i64 T] 29) = w5 at *
    generalize w4.heap.size = p3 at *
    have c0 := k.out.cell (i := 0) (v := .int .i64 (Jn : Int)) rfl
    have c1 := k.out.cell (i := 1) (v := .int .i64 S) rfl
    have c2 := k.out.cell (i := 2) (v := .int .i64 N) rfl
    have c3 := k.out.cell (i := 3) (v := .slice a bad.length cap) rfl
    go_wp2_with fail
    refine (hDB.out _ hb).mono ?_
    rintro e0 w6 ⟨rfl, hy⟩
    have hx := hx.trans hy
    have k3 := Lib.hid (k3.out.ext hy)
    clear hy c0 c1 c2 c3 k
    go_upto_region 7 with fail
    have k4 := Lib.hid (Blk.new0 w6 #[.int .i64 bL, .int .i64 bM, .int .i64 bP, .int .i64 0] 29)
    have hx := hx.alloc' (.cells #[.int .i64 bL, .int .i64 bM, .int .i64 bP, .int .i64 0] 29)
    have k3 := Lib.hid (k3.out.alloc (.cells #[.int .i64 bL, .int .i64 bM, .int .i64 bP, .int .i64 0] 29))
    generalize w6.alloc (.cells #[.int .i64 bL, .int .i64 bM, .int .i64 bP, .int .i64 0] 29) = w7 at *
    generalize w6.heap.size = p4 at *
    have d0 := k3.out.cell (i := 0) (v := .int .i64 L) rfl
    have d1 := k3.out.cell (i := 1) (v := .int .i64 H) rfl
    have d2 := k3.out.cell (i := 2) (v := .int .i64 P) rfl
    have g0 := k4.out.cell (i := 0) (v := .int .i64 bL) rfl
    have g1 := k4.out.cell (i := 1) (v := .int .i64 bM) rfl
    have g2 := k4.out.cell (i := 2) (v := .int .i64 bP) rfl
    have t1 : decide (bL < L) = false := by simpa using q1
    have t2 : decide (H < bM) = false := by simpa using q2
    by_cases hd : 1 < H - L
    · have t3 : decide (1 < H - L) = true := by simpa using hd
      clear q3
      go_wp2_with fail
      go_ret
      exact ⟨rfl, hx⟩
    · have t3 : decide (1 < H - L) = false := by simpa using hd
      obtain ⟨z1, z2, z3⟩ := q3.out (by omega)
      subst z2 z3
      have t4 : decide (P ≤ bP) = true := by simpa using z1
      clear q3
      go_wp2_with fail
      go_ret
      exact ⟨by simp, hx⟩
end Go.Proofs.Ytmkleegfbapakaa
