import Derived.Test.YtmkleegfbapakaaENeg
namespace Go.Proofs.Ytmkleegfbapakaa
open Go.RowKit Go BigFrame Go.Shelf
set_option maxRecDepth 100000
set_option linter.unusedSimpArgs false

theorem out_neg {l : List Int} (h : l.any outB = false) : (l.map fun x => -x).any outB = false := by
  rw [List.any_eq_false]
  intro x hx
  obtain ⟨y, hy, rfl⟩ := List.mem_map.1 hx
  have := List.any_eq_false.1 h y hy
  simp only [outB, Bool.or_eq_true, decide_eq_true_eq, not_or] at this ⊢
  omega
theorem mulP_flip : (fun x y => mulP y x) = mulP := by funext x y; exact Int.mul_comm _ _
theorem Ints.put1 {w : World} {g cap : Nat} {l : List Int} (h : Ints w (some ⟨g, 0, none⟩) cap l) {i : Nat} {u : Int} (hu : -9223372036854775808 ≤ u ∧ u ≤ 9223372036854775807) : Ints (w.setCell ⟨g, i, none⟩ (.int .i64 u)) (some ⟨g, 0, none⟩) cap (l.set i u) := by
  refine ⟨by simpa using h.le, h.mx, h.nil, fun A hA j hj => ?_⟩
  cases hA
  simp only [List.length_set] at hj
  obtain ⟨h1, v, hv, rfl, hr⟩ := h.cells _ rfl j hj
  dsimp only at hv ⊢
  simp only [Nat.zero_add] at hv ⊢
  by_cases e : i = j
  · subst e
    refine ⟨by trivial, .int .i64 u, ?_, by simp [IsInt, hu]⟩
    exact World.cell?_setCell_same' _ _ _ (by rw [hv]; rfl)
  · refine ⟨by trivial, .int .i64 l[j], ?_, by simp [IsInt, List.getElem_set, e, hr]⟩
    rw [World.cell?_setCell_other _ _ _ _ (fun e2 => e (by injection e2))]; exact hv

theorem OwnI.free {w : World} {B g n cap : Nat} {L : List Int} (h : OwnI w B (.slice (some ⟨g, 0, none⟩) n cap) L) (i : Nat) : w.frozen? ⟨g, i, none⟩ = false := by
  rcases h.own.2 with ⟨e, _⟩ | ⟨g', cap', cur, e, _, hg, _⟩
  · exact absurd e h.nn
  · simp only [Value.slice.injEq, Option.some.injEq, Addr.mk.injEq, and_true, true_and] at e
    obtain ⟨rfl, rfl, rfl⟩ := e
    exact Blk.free hg i

set_option maxHeartbeats 4000000 in
theorem lawExactOrders (a a2 : Option Addr) (cap cap2 : Nat) (l m : List Int) (sum c d more : Int) (w : World) (h : Ints w a cap l) (h2 : Ints w a2 cap2 m) (hs : -9223372036854775808 ≤ sum ∧ sum ≤ 9223372036854775807)
    (hc : 0 ≤ c ∧ c ≤ 255) (hd : 0 ≤ d ∧ d ≤ 255) (hmo : 0 ≤ more ∧ more ≤ 255) :
    Calls Try.prog 10 #[.slice a l.length cap, .slice a2 m.length cap2, .int .i64 sum, .int .u8 c, .int .u8 d, .int .u8 more] w fun e w' => e = .returned (.bool true) ∧ Ext w w' := by
  have hle := h.le
  have hmx := h.mx
  have hle2 := h2.le
  have hmx2 := h2.mx
  obtain ⟨hc1, hc2⟩ := hc
  obtain ⟨hd1, hd2⟩ := hd
  obtain ⟨hm1, hm2⟩ := hmo
  obtain ⟨i0, hi0, hz0, hz1, hz2⟩ := info_parts infoI
  go_enter Try.func10, Try.ntmps10
  go_wp2_with fail
  with_reducible refine (law41Sane _).mono ?_
  rintro e w1 ⟨rfl, hy⟩
  have HI := Lib.hid (h.ext hy)
  have HI2 := Lib.hid (h2.ext hy)
  have hx := hy
  have HS := Lib.hid hs
  clear h h2 hy hs
  by_cases b1 : 6 < l.length
  · have d1 : decide (6 < (l.length : Int)) = true := by simp; omega
    have d1' : decide (6 < l.length) = true := by simp; omega
    go_wp2_with fail
    go_ret
    exact ⟨rfl, hx⟩
  have d1 : decide (6 < (l.length : Int)) = false := by simp; omega
  have d1' : decide (6 < l.length) = false := by simp; omega
  by_cases b2 : 6 < m.length
  · have d2 : decide (6 < (m.length : Int)) = true := by simp; omega
    have d2' : decide (6 < m.length) = true := by simp; omega
    go_wp2_with fail
    go_ret
    exact ⟨rfl, hx⟩
  have d2 : decide (6 < (m.length : Int)) = false := by simp; omega
  have d2' : decide (6 < m.length) = false := by simp; omega
  by_cases b3 : sum < -1125899906842624
  · have d3 : decide (sum < -1125899906842624) = true := by simp; omega
    go_wp2_with fail
    go_ret
    exact ⟨rfl, hx⟩
  have d3 : decide (sum < -1125899906842624) = false := by simp; omega
  by_cases b4 : 1125899906842624 < sum
  · have d4 : decide (1125899906842624 < sum) = true := by simp; omega
    go_wp2_with fail
    go_ret
    exact ⟨rfl, hx⟩
  have d4 : decide (1125899906842624 < sum) = false := by simp; omega
  have s1 : -1125899906842624 ≤ sum := by omega
  have s2 : sum ≤ 1125899906842624 := by omega
  have H1 := exact_Orders_any a a2 cap cap2 l m sum _ HI.out HI2.out HS.out
  by_cases hE : oE l m = 0
  case neg =>
    have hZ : oZ l m sum = 0 := by unfold oZ; rw [if_neg hE]
    rw [hZ] at H1
    generalize oE l m = E at *
    have dE : (E != 0) = true := by simpa using hE
    have dE2 : (E == 0) = false := by simpa using hE
    have H1 := Lib.hid H1
    clear hE hZ b1 b2 b3 b4
    go_wp2_with fail
    with_reducible refine H1.out.mono ?_
    rintro e w2 ⟨rfl, hy⟩
    go_wp2_with fail
    go_ret
    exact ⟨rfl, hx.trans hy⟩
  case pos =>
    have hz : oZ l m sum = (cntG mulP l m sum : Int) := by unfold oZ; rw [if_pos hE]
    have hlen : l.length = m.length := by
      unfold oE at hE
      by_cases h1 : listsE l.length m.length ≠ 0
      · rw [if_pos h1] at hE; exact absurd hE h1
      · exact (listsE_ok (by simpa using h1)).1
    have hout : l.any outB = false ∧ m.any outB = false := by
      unfold oE at hE
      by_cases h1 : listsE l.length m.length ≠ 0
      · rw [if_pos h1] at hE; exact absurd hE h1
      · rw [if_neg h1] at hE
        by_cases h3 : (l.any outB || m.any outB) = true
        · rw [if_pos h3] at hE; omega
        · simpa using h3
    rw [hz, hE] at H1
    have H2 := fun (w' : World) (a3 : Option Addr) (cap3 : Nat) (h3 : Ints w' a3 cap3 (l.map fun x => -x)) (hy : Ext w1 w') => exact_Orders_ok l.length a3 a2 cap3 cap2 (l.map fun x => -x) m (1 - sum) w' h3 (HI2.out.ext hy) (by simp) hlen.symm (by omega) (out_neg hout.1) hout.2 (by omega)
    have H3 := fun (w' : World) (hy : Ext w1 w') => exact_Orders_ok l.length a2 a cap2 cap m l sum w' (HI2.out.ext hy) (HI.out.ext hy) hlen.symm rfl (by omega) hout.2 hout.1 HS.out
    have H4 := fun (w' : World) (hy : Ext w1 w') => exact_Orders_ok l.length a a2 cap cap2 l m (sum + more) w' (HI.out.ext hy) (HI2.out.ext hy) rfl hlen.symm (by omega) hout.1 hout.2 (by omega)
    have H5 := fun (w' : World) (a3 : Option Addr) (cap3 i j : Nat) (hi : i < m.length) (hj : j < m.length) (h3 : Ints w' a3 cap3 (swp m i j)) (hy : Ext w1 w') => exact_Orders_ok l.length a a3 cap cap3 l (swp m i j) sum w' (HI.out.ext hy) h3 rfl (by rw [swp_length, hlen]) (by omega) hout.1 (by
      rw [List.any_eq_false]; intro x hx; exact List.any_eq_false.1 hout.2 x ((swp_mem hi hj).mem_iff.1 hx)) HS.out
    have HN := fun (w' : World) (hy : Ext w1 w') => law_negative a cap l w' (HI.out.ext hy) (by omega) (out_mem hout.1)
    have q1 := cntG_neg l m sum
    have q2 := cntG_flip mulP m l sum hlen.symm
    rw [mulP_flip] at q2
    have q3 := cntG_mono mulP l m (s := sum) (t := sum + more) (by omega)
    have q4 := cntG_le mulP l m sum
    have q5 := fact_bd (n := l.length) (by omega)
    have q6 := fun (i j : Nat) (hi : i < m.length) (hj : j < m.length) => cntG_swp mulP l m sum hlen hi hj
    rw [← q2] at H3
    generalize cntG mulP l m sum = Z at *
    generalize cntG mulP (l.map fun x => -x) m (1 - sum) = M at *
    generalize cntG mulP l m (sum + more) = Y at *
    have HF := Lib.hid (fun w => law_factorial l.length w (by omega))
    generalize hf : fact l.length = F at *
    obtain ⟨n, hn⟩ : ∃ n, l.length = n := ⟨_, rfl⟩
    have hm : m.length = n := by omega
    rw [hn] at H1 H2 H3 H4 H5 HN HF d1 d1' hle ⊢
    rw [hm] at H1 d2 d2' hle2 ⊢
    have Z1 : Z ≤ 40320 := by omega
    have M1 : M ≤ 40320 := by omega
    have Y1 : Y ≤ 40320 := by omega
    have t1 : ((Z : Int) + (M : Int) != (F : Int)) = false := by simp; omega
    have t2 : decide ((Z : Int) < (Y : Int)) = false := by simp; omega
    have t2' : decide (Z < Y) = false := by simp; omega
    have n6 : n ≤ 6 := by omega
    have H1 := Lib.hid H1
    have H2 := Lib.hid H2
    have H3 := Lib.hid H3
    have H4 := Lib.hid H4
    have H5 := Lib.hid H5
    have Hn := Lib.hid HN
    have Q6 := Lib.hid q6
    have HLn := Lib.hid hn
    have HMn := Lib.hid hm
    clear HN q1 q2 q3 q4 q5 q6 hf hn hm hz hE hlen hout b1 b2 b3 b4
    go_wp2_with fail
    with_reducible refine H1.out.mono ?_
    rintro e w2 ⟨rfl, hy⟩
    go_wp2_with fail
    with_reducible refine (Hn.out _ hy).mono ?_
    rintro e w3 ⟨a3, cap3, rfl, hi3, hy2⟩
    have hy := hy.trans hy2
    rw [HLn.out]
    have hle3 := hi3.le
    have hmx3 := hi3.mx
    rw [List.length_map, HLn.out] at hle3
    clear hy2
    go_wp2_with fail
    with_reducible refine (H2.out _ a3 cap3 hi3 hy).mono ?_
    rintro e w4 ⟨rfl, hy2⟩
    have hy := hy.trans hy2
    clear hy2 hi3
    go_wp2_with fail
    with_reducible refine (H3.out _ hy).mono ?_
    rintro e w5 ⟨rfl, hy2⟩
    have hy := hy.trans hy2
    clear hy2
    go_wp2_with fail
    with_reducible refine (H4.out _ hy).mono ?_
    rintro e w6 ⟨rfl, hy2⟩
    have hy := hy.trans hy2
    clear hy2
    go_wp2_with fail
    with_reducible refine (HF.out _).mono ?_
    rintro e w7 ⟨rfl, rfl⟩
    by_cases hn0 : n = 0
    · have t3 : ((n : Int) == 0) = true := by simp; omega
      clear hn0
      go_wp2_with fail
      go_ret
      exact ⟨rfl, hx.trans hy⟩
    · have t3 : ((n : Int) == 0) = false := by simp; omega
      have npos : 0 < n := by omega
      clear hn0
      have hI6 := HI2.out.ext hy
      have hrng := hI6.range
      obtain ⟨bb, bo, rfl⟩ := hI6.head (i := 0) (by rw [HMn.out]; exact npos)
      have hI6a := Lib.hid (hI6.ext (Ext.alloc w6 (.cells #[] 3)))
      have hown0 := (OwnI.new w6).own
      have HRG := Lib.hid hrng
      clear hI6 hrng
      go_wp2_with (at_builtin; refine wpList_append_own_at _ rfl (.tmp 113) (.tmp 114) 39 rfl w6.heap.size 3 i0 (.int .i64 0) 1 8 Try.underlying39 hi0 hz0 hz1 hz2 rfl (by decide) (.slice (some ⟨w6.heap.size, 0, none⟩) 0 0) 0 [] rfl hown0 ⟨bb, bo, none⟩ n cap2 (m.map (Value.int .i64)) rfl (by rw [List.length_map, Nat.mul_one]; exact HMn.out) (hI6a.out.news) (fun u hu => by obtain ⟨z, _, rfl⟩ := List.mem_map.1 hu; rfl) (by unfold maxLen; omega) (by omega) (by simp) ?_; intro v1 w8 hown1 hgrow1 hnil1 hat1)
      have hO : OwnI w8 w6.heap.size v1 m := ⟨fun e => by have := (hnil1.1 e).2; omega, by rw [HMn.out]; simpa using hown1⟩
      have hy8 : Ext w1 w8 := Below.grown (hy.alloc' (.cells #[] 3)) hgrow1 (by have := hy.size; simp; omega) (fun j e => by simp only [Value.ownBlock, Option.some.injEq] at e; have := hy.size; omega)
      obtain ⟨g, cp, rfl, hg1, hg2, hg3, hg4⟩ := hO.form
      rw [HMn.out]
      rw [HMn.out] at hg3 hO
      have hI8 := (hO.ints HRG.out).2
      have f := Lib.hid hO.free
      clear hown1 hgrow1 hnil1 hat1 hown0 hO
      go_upto_region 16 with fail
      obtain ⟨i, hi⟩ : ∃ i : Nat, c % (n : Int) = (i : Int) := ⟨(c % (n : Int)).toNat, by have := Int.emod_nonneg c (b := (n : Int)) (by omega); omega⟩
      obtain ⟨j, hj⟩ : ∃ j : Nat, d % (n : Int) = (j : Int) := ⟨(d % (n : Int)).toNat, by have := Int.emod_nonneg d (b := (n : Int)) (by omega); omega⟩
      have hin : i < n := by have := Int.emod_lt_of_pos c (b := (n : Int)) (by omega); omega
      have hjn : j < n := by have := Int.emod_lt_of_pos d (b := (n : Int)) (by omega); omega
      have hi2 : c.tmod (n : Int) = (i : Int) := by rw [Int.tmod_eq_emod_of_nonneg hc1, hi]
      have hj2 : d.tmod (n : Int) = (j : Int) := by rw [Int.tmod_eq_emod_of_nonneg hd1, hj]
      have t4 : ((n : Int) != 0) = true := by simp; omega
      go_quiet (fail)
      clear hi hj hi2 hj2
      obtain ⟨x, ex⟩ : ∃ x, m.getD i 0 = x := ⟨_, rfl⟩
      obtain ⟨y, ey⟩ : ∃ y, m.getD j 0 = y := ⟨_, rfl⟩
      have HX := Lib.hid ex
      have HY := Lib.hid ey
      go_upto_region 17 with fail
      have hI9 : Ints (w8.drewN nq) (some ⟨g, 0, none⟩) cp m := hI8.ext ((Ext.refl w8).drewN nq)
      have f9 : Hid (∀ i : Nat, (w8.drewN nq).frozen? ⟨g, i, none⟩ = false) := Lib.hid (fun i => f.out i)
      have hy9 : Ext w1 (w8.drewN nq) := hy8.drewN nq
      have hg8 : w6.heap.size ≤ g := hg1
      have hs6 := hy.size
      clear hI8 f hy8
      generalize w8.drewN nq = w9 at *
      have e1 : w9.cell? ⟨g, i, none⟩ = some (.int .i64 x) := by
        have := (hI9.cell (i := i) (by rw [HMn.out]; exact hin)).1
        rw [Nat.zero_add] at this
        rw [this, ← ex]; simp [List.getD, show i < m.length by rw [HMn.out]; exact hin]
      have e2 : w9.cell? ⟨g, j, none⟩ = some (.int .i64 y) := by
        have := (hI9.cell (i := j) (by rw [HMn.out]; exact hjn)).1
        rw [Nat.zero_add] at this
        rw [this, ← ey]; simp [List.getD, show j < m.length by rw [HMn.out]; exact hjn]
      have e3 : (w9.setCell ⟨g, i, none⟩ (.int .i64 y)).cell? ⟨g, j, none⟩ = some (.int .i64 y) := by
        by_cases hij : i = j
        · subst hij; exact World.cell?_setCell_same' _ _ _ (by rw [e1]; rfl)
        · rw [World.cell?_setCell_other _ _ _ _ (fun e => hij (by injection e))]; exact e2
      have f1 := f9.out i
      have f2 := f9.out j
      have r1 := HRG.out x (by rw [← ex]; simp only [List.getD, List.getElem?_eq_getElem (show i < m.length by rw [HMn.out]; exact hin), Option.getD_some]; exact List.getElem_mem _)
      have r2 := HRG.out y (by rw [← ey]; simp only [List.getD, List.getElem?_eq_getElem (show j < m.length by rw [HMn.out]; exact hjn), Option.getD_some]; exact List.getElem_mem _)
      have hIf : Ints ((w9.setCell ⟨g, i, none⟩ (.int .i64 y)).setCell ⟨g, j, none⟩ (.int .i64 x)) (some ⟨g, 0, none⟩) cp (swp m i j) := by
        have := (hI9.put1 (i := i) r2).put1 (i := j) r1
        unfold swp
        rw [ex, ey]; exact this
      have hHI := Lib.hid hIf
      have hyf : Ext w1 ((w9.setCell ⟨g, i, none⟩ (.int .i64 y)).setCell ⟨g, j, none⟩ (.int .i64 x)) := (hy9.set (p := ⟨g, i, none⟩) (by dsimp only; omega) _).set (p := ⟨g, j, none⟩) (by dsimp only; omega) _
      have HYF := Lib.hid hyf
      have b1 : (0 : Int) ≤ (i : Int) := by omega
      have b2 : (i : Int) < (n : Int) := by omega
      have b3 : (0 : Int) ≤ (j : Int) := by omega
      have b4 : (j : Int) < (n : Int) := by omega
      clear hI9 hIf hyf ex ey r1 r2 hy9
      refine of_imp (A := ?A9) ?region9 ?cont9
      case region9 =>
        intro hFin
        refine wp_region_held_drew (S := (fun _ => True)) (by kernel_rfl) ?_ (fun hHeld => ?_)
        · trivial
        refine wpAnyH_take (i := 0) (oi := _) (v := ?_) rfl (by kernel_rfl) (by kernel_rfl) (by kernel_rfl) (fun _ _ _ h => h) (Or.inl ⟨by rfl, ?_⟩) (by assumption) ?_
        rotate_left
        · (intro w hSw; (try dsimp only at hSw); (try go_simp); (try with_reducible rfl))
        (try simp only [Act.put, List.setIfInBounds_toArray, List.set_cons_zero, List.set_cons_succ])
        refine wpAnyH_take (i := 1) (oi := _) (v := ?_) rfl (by kernel_rfl) (by kernel_rfl) (by kernel_rfl) (fun _ _ _ h => h) (Or.inl ⟨by rfl, ?_⟩) (by assumption) ?_
        rotate_left
        · (intro w hSw; (try dsimp only at hSw); (try go_simp); (try with_reducible rfl))
        (try simp only [Act.put, List.setIfInBounds_toArray, List.set_cons_zero, List.set_cons_succ])
        refine wpAnyH_take (i := 2) (oi := _) (v := ?_) rfl (by kernel_rfl) (by kernel_rfl) (by kernel_rfl) (fun _ _ _ h => h) (Or.inl ⟨by rfl, ?_⟩) (by assumption) ?_
        rotate_left
        · (intro w hSw; (try dsimp only at hSw); (try go_simp); (try with_reducible rfl))
        (try simp only [Act.put, List.setIfInBounds_toArray, List.set_cons_zero, List.set_cons_succ])
        refine wpAnyH_take (i := 3) (oi := _) (v := ?_) rfl (by kernel_rfl) (by kernel_rfl) (by kernel_rfl) (fun _ _ _ h => h) (Or.inl ⟨by rfl, ?_⟩) (by assumption) ?_
        rotate_left
        · (intro w hSw; (try dsimp only at hSw); (try go_simp); (try with_reducible rfl))
        (try simp only [Act.put, List.setIfInBounds_toArray, List.set_cons_zero, List.set_cons_succ])
        refine wpAnyH_take (i := 4) (oi := _) (v := ?_) rfl (by kernel_rfl) (by kernel_rfl) (by kernel_rfl) (fun _ _ _ h => h) (Or.inl ⟨by rfl, ?_⟩) (by assumption) ?_
        rotate_left
        · (intro w hSw; (try dsimp only at hSw); (try go_simp); (try with_reducible rfl))
        (try simp only [Act.put, List.setIfInBounds_toArray, List.set_cons_zero, List.set_cons_succ])
        refine wpAnyH_take (i := 5) (oi := _) (v := ?_) rfl (by kernel_rfl) (by kernel_rfl) (by kernel_rfl) (fun _ _ _ h => h) (Or.inl ⟨by rfl, ?_⟩) (by assumption) ?_
        rotate_left
        · (intro w hSw; (try dsimp only at hSw); (try go_simp); (try with_reducible rfl))
        (try simp only [Act.put, List.setIfInBounds_toArray, List.set_cons_zero, List.set_cons_succ])
        refine wpAnyH_take (i := 6) (oi := _) (v := ?_) rfl (by kernel_rfl) (by kernel_rfl) (by kernel_rfl) (fun _ _ _ h => h) (Or.inl ⟨by rfl, ?_⟩) (by assumption) ?_
        rotate_left
        · (intro w hSw; (try dsimp only at hSw); (try go_simp); (try with_reducible rfl))
        (try simp only [Act.put, List.setIfInBounds_toArray, List.set_cons_zero, List.set_cons_succ])
        refine wpAnyH_take (i := 8) (oi := _) (v := ?_) rfl (by kernel_rfl) (by kernel_rfl) (by kernel_rfl) (fun _ _ _ h => h) (Or.inl ⟨by rfl, ?_⟩) (by assumption) ?_
        rotate_left
        · (intro w hSw; (try dsimp only at hSw); (try go_simp); (try with_reducible rfl))
        (try simp only [Act.put, List.setIfInBounds_toArray, List.set_cons_zero, List.set_cons_succ])
        refine wpAnyH_take (i := 9) (oi := _) (v := ?_) rfl (by kernel_rfl) (by kernel_rfl) (by kernel_rfl) (fun _ _ _ h => h) (Or.inl ⟨by rfl, ?_⟩) (by assumption) ?_
        rotate_left
        · (intro w hSw; (try dsimp only at hSw); (try go_simp); (try with_reducible rfl))
        (try simp only [Act.put, List.setIfInBounds_toArray, List.set_cons_zero, List.set_cons_succ])
        refine wpAnyH_take (i := 10) (oi := _) (v := ?_) rfl (by kernel_rfl) (by kernel_rfl) (by kernel_rfl) (fun _ _ _ h => h) (Or.inl ⟨by rfl, ?_⟩) (by assumption) ?_
        rotate_left
        · (intro w hSw; (try dsimp only at hSw); (try go_simp); (try with_reducible rfl))
        (try simp only [Act.put, List.setIfInBounds_toArray, List.set_cons_zero, List.set_cons_succ])
        refine wpAnyH_ready (rs := [7, 11]) (by kernel_rfl) (by simp) ?_
        refine AllReadyH.cons (o := _) rfl (fun K hK => ?_) ?_
        · go_simp
          refine hK.out _ _ ?_ (fun hHeld2 => ?_)
          · trivial
          clear hK K hHeld
          have hHeld := hHeld2
          clear hHeld2
          (try simp only [Act.put, List.setIfInBounds_toArray, List.set_cons_zero, List.set_cons_succ])
          refine wpAnyH_ready (rs := [11]) (by kernel_rfl) (by simp) ?_
          refine AllReadyH.cons (o := _) rfl (fun K hK => ?_) ?_
          · go_simp
            refine hK.out _ _ ?_ (fun hHeld2 => ?_)
            · trivial
            clear hK K hHeld
            have hHeld := hHeld2
            clear hHeld2
            (try simp only [Act.put, List.setIfInBounds_toArray, List.set_cons_zero, List.set_cons_succ])
            refine wpAnyH_take (i := 12) (oi := _) (v := ?_) rfl (by kernel_rfl) (by kernel_rfl) (by kernel_rfl) (fun _ _ _ h => h) (Or.inl ⟨by rfl, ?_⟩) (by assumption) ?_
            rotate_left
            · (intro w hSw; (try dsimp only at hSw); (try go_simp); (try with_reducible rfl))
            (try simp only [Act.put, List.setIfInBounds_toArray, List.set_cons_zero, List.set_cons_succ])
            refine wpAnyH_ready (rs := [13]) (by kernel_rfl) (by simp) ?_
            refine AllReadyH.cons (o := _) rfl (fun K hK => ?_) ?_
            · go_simp
              refine hK.out _ _ ?_ (fun hHeld2 => ?_)
              · trivial
              clear hK K hHeld
              have hHeld := hHeld2
              clear hHeld2
              (try simp only [Act.put, List.setIfInBounds_toArray, List.set_cons_zero, List.set_cons_succ])
              refine wpAnyH_take (i := 14) (oi := _) (v := ?_) rfl (by kernel_rfl) (by kernel_rfl) (by kernel_rfl) (fun _ _ _ h => h) (Or.inl ⟨by rfl, ?_⟩) (by assumption) ?_
              rotate_left
              · (intro w hSw; (try dsimp only at hSw); (try go_simp); (try with_reducible rfl))
              (try simp only [Act.put, List.setIfInBounds_toArray, List.set_cons_zero, List.set_cons_succ])
              refine wpAnyH_ready (rs := [15]) (by kernel_rfl) (by simp) ?_
              refine AllReadyH.cons (o := _) rfl (fun K hK => ?_) ?_
              · go_simp
                refine hK.out _ _ ?_ (fun hHeld2 => ?_)
                · trivial
                clear hK K hHeld
                have hHeld := hHeld2
                clear hHeld2
                (try simp only [Act.put, List.setIfInBounds_toArray, List.set_cons_zero, List.set_cons_succ])
                refine wpAnyH_done (by kernel_rfl) ?_ _
                exact hFin
              exact AllReadyH.nil
            exact AllReadyH.nil
          exact AllReadyH.nil
        refine AllReadyH.cons (o := _) rfl (fun K hK => ?_) ?_
        · go_simp
          refine hK.out _ _ ?_ (fun hHeld2 => ?_)
          · trivial
          clear hK K hHeld
          have hHeld := hHeld2
          clear hHeld2
          (try simp only [Act.put, List.setIfInBounds_toArray, List.set_cons_zero, List.set_cons_succ])
          refine wpAnyH_ready (rs := [7]) (by kernel_rfl) (by simp) ?_
          refine AllReadyH.cons (o := _) rfl (fun K hK => ?_) ?_
          · go_simp
            refine hK.out _ _ ?_ (fun hHeld2 => ?_)
            · trivial
            clear hK K hHeld
            have hHeld := hHeld2
            clear hHeld2
            (try simp only [Act.put, List.setIfInBounds_toArray, List.set_cons_zero, List.set_cons_succ])
            refine wpAnyH_take (i := 12) (oi := _) (v := ?_) rfl (by kernel_rfl) (by kernel_rfl) (by kernel_rfl) (fun _ _ _ h => h) (Or.inl ⟨by rfl, ?_⟩) (by assumption) ?_
            rotate_left
            · (intro w hSw; (try dsimp only at hSw); (try go_simp); (try with_reducible rfl))
            (try simp only [Act.put, List.setIfInBounds_toArray, List.set_cons_zero, List.set_cons_succ])
            refine wpAnyH_ready (rs := [13]) (by kernel_rfl) (by simp) ?_
            refine AllReadyH.cons (o := _) rfl (fun K hK => ?_) ?_
            · go_simp
              refine hK.out _ _ ?_ (fun hHeld2 => ?_)
              · trivial
              clear hK K hHeld
              have hHeld := hHeld2
              clear hHeld2
              (try simp only [Act.put, List.setIfInBounds_toArray, List.set_cons_zero, List.set_cons_succ])
              refine wpAnyH_take (i := 14) (oi := _) (v := ?_) rfl (by kernel_rfl) (by kernel_rfl) (by kernel_rfl) (fun _ _ _ h => h) (Or.inl ⟨by rfl, ?_⟩) (by assumption) ?_
              rotate_left
              · (intro w hSw; (try dsimp only at hSw); (try go_simp); (try with_reducible rfl))
              (try simp only [Act.put, List.setIfInBounds_toArray, List.set_cons_zero, List.set_cons_succ])
              refine wpAnyH_ready (rs := [15]) (by kernel_rfl) (by simp) ?_
              refine AllReadyH.cons (o := _) rfl (fun K hK => ?_) ?_
              · go_simp
                refine hK.out _ _ ?_ (fun hHeld2 => ?_)
                · trivial
                clear hK K hHeld
                have hHeld := hHeld2
                clear hHeld2
                (try simp only [Act.put, List.setIfInBounds_toArray, List.set_cons_zero, List.set_cons_succ])
                refine wpAnyH_done (by kernel_rfl) ?_ _
                exact hFin
              exact AllReadyH.nil
            exact AllReadyH.nil
          exact AllReadyH.nil
        exact AllReadyH.nil
      have hIf := hHI.out
      have hyf := HYF.out
      have HIF : Hid (Ints ((w9.setCell ⟨g, i, none⟩ (.int .i64 y)).setCell ⟨g, j, none⟩ (.int .i64 x)).drew (some ⟨g, 0, none⟩) cp (swp m i j)) := Lib.hid (hIf.ext (Ext.refl _).drew)
      have hyd := hyf.drew
      clear e1 e2 e3 f1 f2 hIf hyf hHI HYF
      go_upto_region 18 with fail
      generalize ((w9.setCell ⟨g, i, none⟩ (.int .i64 y)).setCell ⟨g, j, none⟩ (.int .i64 x)).drew = w10 at *
      have hq := Q6.out i j (by rw [HMn.out]; exact hin) (by rw [HMn.out]; exact hjn)
      have H5' := Lib.hid (H5.out w10 _ cp i j (by rw [HMn.out]; exact hin) (by rw [HMn.out]; exact hjn) HIF.out hyd)
      rw [hq] at H5'
      clear hq
      go_wp2_with fail
      with_reducible refine H5'.out.mono ?_
      rintro e w11 ⟨rfl, hy2⟩
      go_wp2_with fail
      go_ret
      exact ⟨rfl, (hx.trans hyd).trans hy2⟩
end Go.Proofs.Ytmkleegfbapakaa
