import Derived.Test.YtmkleegfbapakaaLBest
import Derived.Deep.LoopGhost
namespace Go.Proofs.Ytmkleegfbapakaa
open Go.RowKit Go D28
set_option maxRecDepth 100000

theorem sm_pairs_bd (ps : List (List Int)) (j : Nat) (h : ps.length ≤ 12) : 0 ≤ sm j (fun j => (dLoad ps (j : Int) : Int)) ∧ sm j (fun j => (dLoad ps (j : Int) : Int)) ≤ 12 * j ∧ 0 ≤ sm j (fun j => pairsI (dLoad ps (j : Int))) ∧ sm j (fun j => pairsI (dLoad ps (j : Int))) ≤ 66 * j := by
  have a (x : Int) (h0 : 0 ≤ x) (h1 : x ≤ 12) : 0 ≤ pairsI x ∧ pairsI x ≤ 66 := by
    have hx : ∀ n : Nat, n ≤ 12 → 0 ≤ pairsI n ∧ pairsI n ≤ 66 := by decide
    have := hx x.toNat (by omega)
    rwa [show ((x.toNat : Nat) : Int) = x by omega] at this
  induction j with
  | zero => simp [sm]
  | succ j ih =>
    have hl := load_le ps (j : Int)
    have := a (dLoad ps (j : Int)) (by omega) (by omega)
    simp only [sm]
    omega
/-- Some f i is x, i < n. -/
def hit (n : Nat) (f : Nat → Int) (x : Int) : Bool := (List.range n).any (fun j => decide (f j = x))
theorem hit_zero (f : Nat → Int) (x : Int) : hit 0 f x = false := rfl
theorem hit_succ (n : Nat) (f : Nat → Int) (x : Int) : hit (n + 1) f x = (hit n f x || decide (f n = x)) := by simp [hit, List.range_succ]
theorem hit_yes {n : Nat} {f : Nat → Int} {x : Int} (h : ∃ j, j < n ∧ f j = x) : hit n f x = true := by
  obtain ⟨j, h1, h2⟩ := h
  simp only [hit, List.any_eq_true, List.mem_range, decide_eq_true_eq]
  exact ⟨j, h1, h2⟩
theorem sum_bd {l : List Int} (h : ∀ x ∈ l, 0 ≤ x ∧ x ≤ 20) : 0 ≤ l.sum ∧ l.sum ≤ 20 * l.length := by
  induction l with
  | nil => simp
  | cons x l ih =>
    have := ih (fun y hy => h y (by simp [hy]))
    have := h x (by simp)
    simp only [List.sum_cons, List.length_cons]
    omega
theorem commonsTo_bd {ps : List (List Int)} {J : Nat} {S : Int} (hG : Good ps J S) (hS : S ≤ 20) (hn : ps.length ≤ 12) {i k : Nat} (hi : i < ps.length) (hk : k ≤ i) : 0 ≤ (commonsTo ps i k).sum ∧ (commonsTo ps i k).sum ≤ 2000 := by
  have h1 : ∀ x ∈ commonsTo ps i k, 0 ≤ x ∧ x ≤ 20 := by
    intro x hx
    unfold commonsTo at hx
    simp only [List.mem_append, List.mem_flatMap, List.mem_map, List.mem_range] at hx
    rcases hx with ⟨a, ha, b, _, rfl⟩ | ⟨b, _, rfl⟩
    · have := common_le (ps.getD a []) (ps.getD b [])
      have := (hG a (by omega)).1
      omega
    · have := common_le (ps.getD i []) (ps.getD b [])
      have := (hG i (by omega)).1
      omega
  have h2 := sum_bd h1
  have h3 : (commonsTo ps i k).length = (commonsTo ps i 0).length + k := by simp [commonsTo]
  have h4 := commons_length ps i
  have hx : ∀ n : Nat, n ≤ 12 → 0 ≤ pairsI n ∧ pairsI n ≤ 66 := by decide
  have := hx i (by omega)
  omega
/-- A pair has been met with P common judges (or there is none). -/
def pb (ps : List (List Int)) (P : Int) (i k : Nat) : Bool := decide (ps.length < 2) || (commonsTo ps i k).any fun x => decide (x = P)
theorem pb_zero (ps : List (List Int)) (P : Int) : pb ps P 0 0 = decide (ps.length < 2) := by simp [pb, commonsTo]
theorem pb_succ (ps : List (List Int)) (P : Int) (i k : Nat) : pb ps P i (k + 1) = (pb ps P i k || decide ((dCommon (ps.getD i []) (ps.getD k []) : Int) = P)) := by
  simp [pb, commonsTo_succ, Bool.or_assoc]
theorem pb_next (ps : List (List Int)) (P : Int) (i : Nat) : pb ps P i i = pb ps P (i + 1) 0 := by simp only [pb, commonsTo_next]
theorem pb_all {ps : List (List Int)} {P : Int} (h : 2 ≤ ps.length → ∃ i, i < ps.length ∧ ∃ k, k < i ∧ (dCommon (ps.getD i []) (ps.getD k []) : Int) = P) : pb ps P ps.length 0 = true := by
  unfold pb
  rw [commonsTo_all]
  by_cases hn : ps.length < 2
  · simp [hn]
  · have := mem_commons.2 (h (by omega))
    rw [Bool.or_eq_true, List.any_eq_true]
    exact .inr ⟨P, this, by simp⟩
theorem commonsTo_sum (ps : List (List Int)) (i k : Nat) : (commonsTo ps i (k + 1)).sum = (commonsTo ps i k).sum + (dCommon (ps.getD i []) (ps.getD k []) : Int) := by rw [commonsTo_succ]; simp

set_option maxHeartbeats 2500000 in
theorem lawCounts (J S N : Int) (a : Option Addr) (cap : Nat) (bad : List (List Bool)) (a2 : Option Addr) (cap2 : Nat) (ps : List (List Int)) (w : World) (h : BRows w a cap bad) (h2 : Rows w a2 cap2 ps) :
    Calls Try.prog 5 #[.agg #[.int .i64 J, .int .i64 S, .int .i64 N, .slice a bad.length cap], .slice a2 ps.length cap2] w fun e w' => e = .returned (.bool true) ∧ Ext w w' := by
  have hle := h2.le
  have hmx := h2.mx
  have hx := Ext.alloc w (.cells #[.int .i64 J, .int .i64 S, .int .i64 N, .slice a bad.length cap] 24)
  have hb := h.ext hx
  have hp := h2.ext hx
  have k := Lib.hid (Blk.new0 w #[.int .i64 J, .int .i64 S, .int .i64 N, .slice a bad.length cap] 24)
  go_enter Try.func5, Try.ntmps5
  go_wp2_with fail
  generalize w.alloc (.cells #[.int .i64 J, .int .i64 S, .int .i64 N, .slice a bad.length cap] 24) = w1 at *
  refine (lawSane _).mono ?_
  rintro e0 w2 ⟨rfl, hy⟩
  have hb := hb.ext hy
  have hp := hp.ext hy
  have hx := hx.trans hy
  have k := Lib.hid (k.out.ext hy)
  clear hy
  have c0 := k.out.cell (i := 0) (v := .int .i64 J) rfl
  have c1 := k.out.cell (i := 1) (v := .int .i64 S) rfl
  have c2 := k.out.cell (i := 2) (v := .int .i64 N) rfl
  have c3 := k.out.cell (i := 3) (v := .slice a bad.length cap) rfl
  go_wp2_with fail
  refine (lawFits J S N a cap bad a2 cap2 ps _ hb hp).mono ?_
  rintro e0 w3 ⟨rfl, hy⟩
  have hb := hb.ext hy
  have hp := hp.ext hy
  have hx := hx.trans hy
  have k := Lib.hid (k.out.ext hy)
  clear hy c0 c1 c2 c3
  cases hf : fitsB J S N bad ps with
  | false =>
    clear hf
    go_wp2_with fail
    go_ret
    exact ⟨rfl, hx⟩
  | true =>
    obtain ⟨Jn, rfl, hc, hJ20, hn12, hr⟩ := fits_yes hf
    clear hf
    obtain ⟨hG, hlen, hJ1, hS1⟩ := good_of_check hc
    obtain ⟨L, hL⟩ : ∃ L, dLo ps.length (dLoads ps Jn) = L := ⟨_, rfl⟩
    obtain ⟨H, hH⟩ : ∃ H, dHi 0 (dLoads ps Jn) = H := ⟨_, rfl⟩
    obtain ⟨P, hP⟩ : ∃ P, dLo S (dCommons ps) = P := ⟨_, rfl⟩
    obtain ⟨T, hT⟩ : ∃ T, dSlotMax ps Jn 1 = T := ⟨_, rfl⟩
    have hD := Lib.hid (desMeasure_at hc 1 (by omega) (by omega) hL hH hP hT)
    have HLd := Lib.hid (fun (j : Nat) (hj : j < Jn) => And.intro (by have := lo_le_load (ps := ps) (J := Jn) j hj; rwa [hL] at this) (by have := load_le_hi (ps := ps) (J := Jn) j hj; rwa [hH] at this) : ∀ (j : Nat), j < Jn → L ≤ (dLoad ps (j : Int) : Int) ∧ (dLoad ps (j : Int) : Int) ≤ H)
    have HLa := Lib.hid (lo_attained (ps := ps) hJ1)
    have HHa := Lib.hid (hi_attained (ps := ps) hJ1)
    rw [hL] at HLa
    rw [hH] at HHa
    have HS := Lib.hid (sum_loads hG)
    have HT := Lib.hid (sum_twos hG)
    have HP := Lib.hid ((lo_spec S (dCommons ps)).2.1)
    rw [hP] at HP
    have HPf := Lib.hid (fun (hn : ps.length < 2) => pair_few (S := S) (ps := ps) hn)
    rw [hP] at HPf
    have HPa := Lib.hid (pair_attained hG)
    rw [hP] at HPa
    have HG := Lib.hid hG
    have Hc := Lib.hid hc
    clear hL hH hP hT hr hG hlen hc
    have c0 := k.out.cell (i := 0) (v := .int .i64 (Jn : Int)) rfl
    have c1 := k.out.cell (i := 1) (v := .int .i64 S) rfl
    have c2 := k.out.cell (i := 2) (v := .int .i64 N) rfl
    have c3 := k.out.cell (i := 3) (v := .slice a bad.length cap) rfl
    go_wp2_with fail
    refine (hD.out a cap a2 cap2 _ hb hp).mono ?_
    rintro e0 w4 ⟨rfl, hy⟩
    have hp := hp.ext hy
    have hx := hx.trans hy
    have k := Lib.hid (k.out.ext hy)
    clear hy c0 c1 c2 c3 hb
    go_upto_region 6 with fail
    have k3 := Lib.hid (Blk.new0 w4 #[.int .i64 L, .int .i64 H, .int .i64 P, .int .i64 T] 29)
    have hp := hp.ext (Ext.alloc _ (.cells #[.int .i64 L, .int .i64 H, .int .i64 P, .int .i64 T] 29))
    have hx := hx.alloc' (.cells #[.int .i64 L, .int .i64 H, .int .i64 P, .int .i64 T] 29)
    have k := Lib.hid (k.out.alloc (.cells #[.int .i64 L, .int .i64 H, .int .i64 P, .int .i64 T] 29))
    generalize w4.alloc (.cells #[.int .i64 L, .int .i64 H, .int .i64 P, .int .i64 T] 29) = w5 at *
    generalize w4.heap.size = p3 at *
    have c0 := k.out.cell (i := 0) (v := .int .i64 (Jn : Int)) rfl
    go_wp2_with fail
    clear c0
    go_loopw [7, 8, 10, 11, 34] (fun a7 a8 a10 a11 i wr => ∃ j : Nat, j ≤ Jn ∧ i = .int .i64 j ∧ a7 = .int .i64 (sm j (fun j => (dLoad ps (j : Int) : Int))) ∧ a8 = .int .i64 (sm j (fun j => pairsI (dLoad ps (j : Int)))) ∧
      a10 = .bool (hit j (fun j => (dLoad ps (j : Int) : Int)) L) ∧ a11 = .bool (hit j (fun j => (dLoad ps (j : Int) : Int)) H) ∧ Ext w5 wr) (fun _ _ _ _ i _ => Jn - (intOf i).toNat)
    case atStart => exact ⟨0, Nat.zero_le _, rfl, rfl, rfl, rfl, rfl, Ext.refl _⟩
    case round =>
      obtain ⟨j, hj, rfl, rfl, rfl, rfl, rfl, hxr⟩ := hrel
      have hp := hp.ext hxr
      have hx := hx.trans hxr
      have k := Lib.hid (k.out.ext hxr)
      have k3 := Lib.hid (k3.out.ext hxr)
      obtain ⟨b1, b2, b3, b4⟩ := sm_pairs_bd ps j hn12
      have e1 := Lib.hid (show sm (j + 1) (fun j => (dLoad ps (j : Int) : Int)) = sm j (fun j => (dLoad ps (j : Int) : Int)) + (dLoad ps (j : Int) : Int) from rfl)
      have e2 := Lib.hid (show sm (j + 1) (fun j => pairsI (dLoad ps (j : Int))) = sm j (fun j => pairsI (dLoad ps (j : Int))) + pairsI (dLoad ps (j : Int)) from rfl)
      have e3 := Lib.hid (show hit (j + 1) (fun j => (dLoad ps (j : Int) : Int)) L = (hit j (fun j => (dLoad ps (j : Int) : Int)) L || decide ((dLoad ps (j : Int) : Int) = L)) from hit_succ j _ L)
      have e4 := Lib.hid (show hit (j + 1) (fun j => (dLoad ps (j : Int) : Int)) H = (hit j (fun j => (dLoad ps (j : Int) : Int)) H || decide ((dLoad ps (j : Int) : Int) = H)) from hit_succ j _ H)
      by_cases hjn : j < Jn
      · obtain ⟨q1, q2⟩ := HLd.out j hjn
        have hl12 := load_le ps (j : Int)
        have hLoad := refLoad a2 cap2 ps (j : Int) wr hp
        generalize hX : sm j (fun j => (dLoad ps (j : Int) : Int)) = X at *
        generalize hY : sm j (fun j => pairsI (dLoad ps (j : Int))) = Y at *
        generalize hA : hit j (fun j => (dLoad ps (j : Int) : Int)) L = A at *
        generalize hB : hit j (fun j => (dLoad ps (j : Int) : Int)) H = B at *
        have hl12' : ((dLoad ps (j : Int) : Nat) : Int) ≤ 12 := by omega
        have hl0 : 0 ≤ ((dLoad ps (j : Int) : Nat) : Int) := by omega
        clear hl12
        generalize hxe : ((dLoad ps (j : Int) : Nat) : Int) = x at *
        obtain ⟨z2, z3⟩ := pairsI_bd x hl0 (by omega)
        have t1 : decide (x < L) = false := by simpa using q1
        have t2 : decide (H < x) = false := by simpa using q2
        have d0 := k3.out.cell (i := 0) (v := .int .i64 L) rfl
        have d1 := k3.out.cell (i := 1) (v := .int .i64 H) rfl
        have hxe := Lib.hid hxe
        have hLoad := Lib.hid hLoad
        clear hX hY hA hB
        go_wp2_with fail
        refine (hLoad.out).mono ?_
        rintro e0 w6 ⟨rfl, rfl⟩
        go_upto_region 16 with fail
        cases A <;> cases B
        all_goals
          go_quiet (fail)
          go_wp2_with fail
          go_roundw
          case rel =>
            refine ⟨j + 1, by omega, by go_num, by rw [e1.out], by rw [e2.out]; rfl, ?_, ?_, (by repeat (first | with_reducible exact Ext.refl _ | with_reducible assumption | with_reducible refine Ext.drewN ?_ _ | with_reducible refine Ext.drew ?_ | with_reducible refine Ext.alloc' ?_ _ | with_reducible refine Ext.set ?_ (by dsimp only; omega) _))⟩
            · rw [e3.out]; first | rfl | simp [BEq.beq]
            · rw [e4.out]; first | rfl | simp [BEq.beq]
          case measure => simp [intOf]; omega
      · obtain rfl : j = Jn := by omega
        have hAll := hit_yes HLa.out
        have hBll := hit_yes HHa.out
        rw [hAll, hBll, HS.out, HT.out]
        have nS : 0 ≤ (ps.length : Int) * S ∧ (ps.length : Int) * S ≤ 12 * j := by rw [← HS.out]; exact ⟨b1, b2⟩
        obtain ⟨nS0, nS1⟩ := nS
        have hc0 := k.out.cell (i := 1) (v := .int .i64 S) rfl
        have d2 := k3.out.cell (i := 2) (v := .int .i64 P) rfl
        have hS20 : S ≤ 20 := by obtain ⟨_, _, _, _, _, h6, _⟩ := rows_ok Hc.out; omega
        obtain ⟨V, hV1, hV2⟩ := Rows.vals2 hp
        have HV := Lib.hid hV2
        have HVa := Lib.hid hV1
        have HPall := Lib.hid (pb_all HPa.out)
        have HCall := Lib.hid (show (commonsTo ps ps.length 0).sum = (dCommons ps).sum by rw [commonsTo_all])
        generalize hDC : (dCommons ps).sum = DC at *
        clear hAll hBll b1 b2 b3 b4 e1 e2 e3 e4 hDC hV1 hV2
        have hs1 := k.out.cell (i := 1) (v := .int .i64 S) rfl
        by_cases hn2 : ps.length < 2
        all_goals
          have hz : pb ps P 0 0 = decide (ps.length < 2) := pb_zero ps P
          first
            | (have hPS := HPf.out hn2
               have n1 : decide ((ps.length : Int) < 2) = true := by simp; omega
               rw [decide_eq_true hn2] at hz
               have Hz := Lib.hid hz
               clear hz hn2
               go_upto_region 20 with fail
               clear hPS)
            | (have n1 : decide ((ps.length : Int) < 2) = false := by simp; omega
               rw [decide_eq_false hn2] at hz
               have Hz := Lib.hid hz
               clear hz hn2
               go_upto_region 20 with fail)
          clear n1 hs1 d2
          obtain ⟨wo, hwo⟩ : ∃ wo, wo = wr := ⟨_, rfl⟩
          subst hwo
          go_wp2_with fail
          go_loopw [9, 14, 87] (fun a9 a14 i wz => ∃ q : Nat, q ≤ ps.length ∧ i = .int .i64 q ∧ a9 = .int .i64 (commonsTo ps q 0).sum ∧ a14 = .bool (pb ps P q 0) ∧ Ext wo wz) (fun _ _ i _ => ps.length - (intOf i).toNat)
          case atStart => exact ⟨0, Nat.zero_le _, rfl, rfl, by rw [Hz.out], Ext.refl _⟩
          case round =>
            obtain ⟨q, hq, rfl, rfl, rfl, hxq⟩ := hrel
            obtain ⟨wq, hwq⟩ : ∃ wq, wq = wr := ⟨_, rfl⟩
            subst hwq
            by_cases hqn : q < ps.length
            · obtain ⟨pb1, po, hae, hc1⟩ := HVa.out q hqn
              subst hae
              obtain ⟨va, vc, ve, vi⟩ := HV.out q
              rw [ve] at hc1
              go_wp2_with fail
              go_loopw [9, 14, 91] (fun a9 a14 i wz => ∃ p : Nat, p ≤ q ∧ i = .int .i64 p ∧ a9 = .int .i64 (commonsTo ps q p).sum ∧ a14 = .bool (pb ps P q p) ∧ Ext wo wz) (fun _ _ i _ => q - (intOf i).toNat)
              case atStart => exact ⟨0, Nat.zero_le _, rfl, rfl, rfl, hxq⟩
              case round =>
                obtain ⟨p, hpq, rfl, rfl, rfl, hxp⟩ := hrel
                by_cases hpn : p < q
                · obtain ⟨pb2, po2, hae2, hc2⟩ := HVa.out p (by omega)
                  simp only [Option.some.injEq, Addr.mk.injEq, and_true] at hae2
                  obtain ⟨e7, e8⟩ := hae2
                  subst e7 e8
                  obtain ⟨va2, vc2, ve2, vi2⟩ := HV.out p
                  rw [ve2] at hc2
                  have E1 := Lib.hid (commonsTo_sum ps q p)
                  have E2 := Lib.hid (pb_succ ps P q p)
                  obtain ⟨y0, y1⟩ := commonsTo_bd HG.out hS20 hn12 hqn hpq
                  have hcl := common_le (ps.getD q []) (ps.getD p [])
                  have hgl := (HG.out q hqn).1
                  have hPc := HP.out _ (mem_commons.2 ⟨q, hqn, p, hpn, rfl⟩)
                  have hC1 := (hxp.cell (p := ⟨pb1, po + q, none⟩) (lt_of_cell hc1)).trans hc1
                  have hC2 := (hxp.cell (p := ⟨pb1, po + p, none⟩) (lt_of_cell hc2)).trans hc2
                  have I1 := vi.ext hxp
                  have I2 := vi2.ext hxp
                  have k3p := k3.out.ext hxp
                  have cc1 : ((dCommon (ps.getD q []) (ps.getD p []) : Nat) : Int) ≤ 20 := by omega
                  have cc0 : 0 ≤ ((dCommon (ps.getD q []) (ps.getD p []) : Nat) : Int) := by omega
                  have CC := Lib.hid (fun W : Later wr => later_same (W := W) (refCommon va va2 vc vc2 _ _ W.1 (I1.ext W.2) (I2.ext W.2)))
                  clear hcl hgl
                  generalize ((dCommon (ps.getD q []) (ps.getD p []) : Nat) : Int) = c at *
                  generalize (commonsTo ps q p).sum = X at *
                  generalize pb ps P q p = A at *
                  have d2 := k3p.cell (i := 2) (v := .int .i64 P) rfl
                  have t1 : decide (c < P) = false := by simpa using hPc
                  have L1 := later_cell hC1
                  have L2 := later_cell hC2
                  have g1 : (0 : Int) ≤ (q : Int) := by omega
                  have g2 : (0 : Int) ≤ (p : Int) := by omega
                  have g3 : (q : Int) < (ps.length : Int) := by omega
                  have g4 : (p : Int) < (ps.length : Int) := by omega
                  clear hc1 hc2 hC1 hC2 hPc ve ve2 I1 I2 vi vi2 k3p
                  generalize ps.getD q [] = r1 at *
                  generalize ps.getD p [] = r2 at *
                  go_upto_region 26 with fail
                  refine wp_region_later (by kernel_rfl) (by kernel_rfl) ?_; repeat (go_big_quiet_step ((go_at_call 25; exact CC.out _)))
                  refine wpQuiet_nil ?_; rintro _ ⟨⟨W1, HW1⟩, rfl⟩; (try dsimp only)
                  have d2 := (HW1.cell (p := ⟨p3, 2, none⟩) (lt_of_cell d2)).trans d2
                  have hxp := hxp.trans HW1
                  clear L1 L2 CC
                  cases A
                  all_goals
                    go_wp2_with fail
                    go_roundw
                    case rel =>
                      refine ⟨p + 1, by omega, by go_num, by rw [E1.out], ?_, (by repeat (first | with_reducible exact Ext.refl _ | with_reducible assumption | with_reducible refine Ext.drewN ?_ _ | with_reducible refine Ext.drew ?_ | with_reducible refine Ext.alloc' ?_ _ | with_reducible refine Ext.set ?_ (by dsimp only; omega) _))⟩
                      rw [E2.out]; first | rfl | simp [BEq.beq]
                    case measure => simp [intOf]; omega
                · obtain rfl : p = q := by omega
                  go_wp2_with fail
                  go_roundw
                  case rel => exact ⟨p + 1, by omega, by go_num, by rw [← commonsTo_next], by rw [← pb_next], (by repeat (first | with_reducible exact Ext.refl _ | with_reducible assumption | with_reducible refine Ext.drewN ?_ _ | with_reducible refine Ext.drew ?_ | with_reducible refine Ext.alloc' ?_ _ | with_reducible refine Ext.set ?_ (by dsimp only; omega) _))⟩
                  case measure => simp [intOf]; omega
            · obtain rfl : q = ps.length := by omega
              rw [HPall.out, HCall.out]
              have hs1 := (hxq.cell (p := ⟨w.heap.size, 1, none⟩) (lt_of_cell hc0)).trans hc0
              go_wp2_with fail
              go_ret
              exact ⟨by simp, hx.trans hxq⟩
end Go.Proofs.Ytmkleegfbapakaa
