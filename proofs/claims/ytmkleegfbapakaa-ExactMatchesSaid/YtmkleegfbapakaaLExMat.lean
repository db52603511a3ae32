import Derived.Test.YtmkleegfbapakaaLExOrd
import Derived.Test.YtmkleegfbapakaaEMatM2
import Derived.Deep.DeepCutAuto
namespace Go.Proofs.Ytmkleegfbapakaa
open Go.RowKit Go BigFrame Go.Shelf
set_option maxRecDepth 100000
set_option linter.unusedSimpArgs false

theorem wantF_le (l m : List Int) {k : Nat} (h : k ≤ l.length) : wantF l m k ≤ fact l.length := by
  unfold wantF
  split
  · exact prodF_le l h
  · omega
theorem want_s1 (l m : List Int) (k : Nat) {x : Int} (hx : l.getD k 0 = x) (h : l.count x = m.count x) (h0 : (l.take k).count x = 0) : wantF l m (k + 1) = wantF l m k * fact (l.count x) := by
  unfold wantF
  rw [evenF_succ, hx, decide_eq_true h, Bool.and_true]
  simp only [prodF, hx]
  rw [if_pos h0]
  split
  · rfl
  · simp
theorem want_s2 (l m : List Int) (k : Nat) {x : Int} (hx : l.getD k 0 = x) (h : l.count x = m.count x) (h0 : (l.take k).count x ≠ 0) : wantF l m (k + 1) = wantF l m k := by
  unfold wantF
  rw [evenF_succ, hx, decide_eq_true h, Bool.and_true]
  simp only [prodF, hx]
  rw [if_neg h0]
theorem want_s3 (l m : List Int) (k : Nat) {x : Int} (hx : l.getD k 0 = x) (h : l.count x ≠ m.count x) : wantF l m (k + 1) = 0 := by
  unfold wantF
  rw [evenF_succ, hx, decide_eq_false h, Bool.and_false]
  simp
theorem count_take (l : List Int) {j : Nat} (hj : j < l.length) (x : Int) : (l.take (j + 1)).count x = (l.take j).count x + if l.getD j 0 = x then 1 else 0 := by
  rw [take_snoc hj, List.count_append]
  congr 1
  by_cases h : l.getD j 0 = x
  · rw [if_pos h, h]; simp
  · rw [if_neg h]; exact List.count_eq_zero.2 (fun hm => h ((List.mem_singleton.1 hm).symm))

set_option maxHeartbeats 40000000 in
theorem lawExactMatches (a a2 : Option Addr) (cap cap2 : Nat) (l m : List Int) (many c d : Int) (w : World) (h : Ints w a cap l) (h2 : Ints w a2 cap2 m) (hs : -9223372036854775808 ≤ many ∧ many ≤ 9223372036854775807)
    (hc : 0 ≤ c ∧ c ≤ 255) (hd : 0 ≤ d ∧ d ≤ 255) :
    Calls Try.prog 11 #[.slice a l.length cap, .slice a2 m.length cap2, .int .i64 many, .int .u8 c, .int .u8 d] w fun e w' => e = .returned (.bool true) ∧ Ext w w' := by
  have hle := h.le
  have hmx := h.mx
  have hle2 := h2.le
  have hmx2 := h2.mx
  obtain ⟨hc1, hc2⟩ := hc
  obtain ⟨hd1, hd2⟩ := hd
  obtain ⟨i0, hi0, hz0, hz1, hz2⟩ := info_parts infoI
  go_enter Try.func11, Try.ntmps11
  go_wp2_with fail
  with_reducible refine (law41Sane _).mono ?_
  rintro e w1 ⟨rfl, hy⟩
  have HI := Lib.hid (h.ext hy)
  have HI2 := Lib.hid (h2.ext hy)
  have hx := hy
  have HS := Lib.hid hs
  clear h h2 hy hs
  by_cases b1 : 6 < l.length
  · have d1 : decide (6 < (l.length : Int)) = true := by simp; omega
    have d1' : decide (6 < l.length) = true := by simp; omega
    go_wp2_with fail
    go_ret
    exact ⟨rfl, hx⟩
  have d1 : decide (6 < (l.length : Int)) = false := by simp; omega
  have d1' : decide (6 < l.length) = false := by simp; omega
  by_cases b2 : 6 < m.length
  · have d2 : decide (6 < (m.length : Int)) = true := by simp; omega
    have d2' : decide (6 < m.length) = true := by simp; omega
    go_wp2_with fail
    go_ret
    exact ⟨rfl, hx⟩
  have d2 : decide (6 < (m.length : Int)) = false := by simp; omega
  have d2' : decide (6 < m.length) = false := by simp; omega
  by_cases b3 : l.length = m.length
  case neg =>
    have d3 : ((l.length : Int) != (m.length : Int)) = true := by simp; omega
    have d3' : ((l.length : Int) == (m.length : Int)) = false := by simp; omega
    clear b3
    go_wp2_with fail
    go_ret
    exact ⟨rfl, hx⟩
  case pos =>
    obtain ⟨n, hn⟩ : ∃ n, l.length = n := ⟨_, rfl⟩
    have hm : m.length = n := by omega
    have n6 : n ≤ 6 := by omega
    have H1 := fun (w' : World) (hy : Ext w1 w') => exact_Matches_ok n a a2 cap cap2 l m many w' (HI.out.ext hy) (HI2.out.ext hy) hn hm (by omega) HS.out
    have H2 := fun (w' : World) (hy : Ext w1 w') => exact_Matches_ok n a2 a cap2 cap m l many w' (HI2.out.ext hy) (HI.out.ext hy) hm hn (by omega) HS.out
    have H3 := fun (w' : World) (hy : Ext w1 w') => exact_Matches_ok n a a2 cap cap2 l m 0 w' (HI.out.ext hy) (HI2.out.ext hy) hn hm (by omega) (by omega)
    have H4 := fun (w' : World) (hy : Ext w1 w') => exact_Matches_ok n a a2 cap cap2 l m ((n : Int) + 1) w' (HI.out.ext hy) (HI2.out.ext hy) hn hm (by omega) (by omega)
    have H5 := fun (w' : World) (hy : Ext w1 w') => exact_Matches_ok n a a2 cap cap2 l m (n : Int) w' (HI.out.ext hy) (HI2.out.ext hy) hn hm (by omega) (by omega)
    have H6 := fun (w' : World) (hy : Ext w1 w') (h0 : 0 < many) => exact_Matches_ok n a a2 cap cap2 l m (many - 1) w' (HI.out.ext hy) (HI2.out.ext hy) hn hm (by omega) (by have := HS.out; omega)
    have H7 := fun (w' : World) (a3 : Option Addr) (cap3 i j : Nat) (_ : i < n) (_ : j < n) (h3 : Ints w' a3 cap3 (swp l i j)) (hy : Ext w1 w') => exact_Matches_ok n a3 a2 cap3 cap2 (swp l i j) m many w' h3 (HI2.out.ext hy) (by rw [swp_length, hn]) hm (by omega) HS.out
    have q2 := cntG_flip eqP l m many b3
    rw [eqP_flip] at q2
    have q3 := cntM_all l m (s := 0) (by omega)
    have q4 := cntM_none l m (s := (n : Int) + 1) (by omega)
    have q5 := cntG_le eqP l m many
    have q6 := cntG_mono eqP l m (s := many - 1) (t := many) (by omega)
    have q7 := fun (i j : Nat) (hi : i < n) (hj : j < n) => show cntG eqP (swp l i j) m many = cntG eqP l m many from by
      have e1 := cntG_flip eqP (swp l i j) m many (by rw [swp_length]; exact b3)
      rw [eqP_flip] at e1
      rw [← e1, cntG_swp eqP m l many b3.symm (by omega) (by omega), q2]
    have q8 := want_all l m b3
    have q9 : many ≤ 0 → cntG eqP l m many = fact l.length := fun h => cntM_all l m h
    have q10 : (n : Int) < many → cntG eqP l m many = 0 := fun h => cntM_none l m (by omega)
    have q11 := fun (k : Nat) (hk : k ≤ l.length) => wantF_le l m hk
    have q12 := fact_bd (n := l.length) (by omega)
    have HF := Lib.hid (fun (k : Nat) (hk : k ≤ 8) (w : World) => law_factorial k w hk)
    rw [q2] at H2
    rw [q3] at H3
    rw [q4] at H4
    rw [hn] at q8
    rw [← q8] at H5
    rw [hn] at H3 q5 q9 q11 q12
    rw [hn] at d1 d1' hle ⊢
    rw [hm] at d2 d2' hle2 ⊢
    generalize cntG eqP l m many = T at *
    generalize cntG eqP l m (many - 1) = Y at *
    generalize hfn : fact n = F at *
    have T1 : T ≤ 40320 := by omega
    have H1 := Lib.hid H1
    have H2 := Lib.hid H2
    have H3 := Lib.hid H3
    have H4 := Lib.hid H4
    have H5 := Lib.hid H5
    have H6 := Lib.hid H6
    have H7 := Lib.hid H7
    have Q6 := Lib.hid q6
    have Q7 := Lib.hid q7
    have Q9 := Lib.hid q9
    have Q10 := Lib.hid q10
    have Q11 := Lib.hid q11
    have HLn := Lib.hid hn
    have HMn := Lib.hid hm
    have HFN := Lib.hid hfn
    obtain ⟨WN, hWN⟩ : ∃ x, wantF l m n = x := ⟨_, rfl⟩
    have HWN := Lib.hid hWN
    rw [hWN] at H5
    have hWb : WN ≤ F := by rw [← hWN]; exact q11 n (Nat.le_refl _)
    clear q2 q3 q4 q6 q7 q8 q9 q10 q11 hn hm hfn b1 b2 b3 hWN
    go_wp2_with fail
    with_reducible refine (H1.out _ (Ext.refl _)).mono ?_
    rintro e w2 ⟨rfl, hy⟩
    go_wp2_with fail
    with_reducible refine (H2.out _ hy).mono ?_
    rintro e w3 ⟨rfl, hy2⟩
    have hy := hy.trans hy2
    clear hy2
    go_wp2_with fail
    with_reducible refine (H3.out _ hy).mono ?_
    rintro e w4 ⟨rfl, hy2⟩
    have hy := hy.trans hy2
    clear hy2
    go_wp2_with fail
    with_reducible refine (H4.out _ hy).mono ?_
    rintro e w5 ⟨rfl, hy2⟩
    have hy := hy.trans hy2
    clear hy2
    go_wp2_with fail
    with_reducible refine (H5.out _ hy).mono ?_
    rintro e w6 ⟨rfl, hy2⟩
    have hy := hy.trans hy2
    clear hy2
    go_upto_region 11 with fail
    have t1 : decide ((F : Int) < (T : Int)) = false := by simp; omega
    have t1' : decide (F < T) = false := by simp; omega
    have t1'' : decide ((T : Int) < 0) = false := by simp
    go_cut [149] (fun s149 wx => s149 = .bool false ∧ wx = w6)
    case first => as_aux_lemma =>
      by_cases hA : many ≤ 0
      · have u1 : decide (many ≤ 0) = true := by simpa using hA
        have e1 : T = F := Q9.out hA
        subst e1
        by_cases hC : (n : Int) < many
        · omega
        · have u2 : decide ((n : Int) < many) = false := by simpa using hC
          clear hA hC
          go_wp2_with fail
          with_reducible refine (HF.out n (by omega) _).mono ?_
          rintro e w7 ⟨rfl, rfl⟩
          rw [HFN.out]
          go_wp2_with fail
          go_meet
          exact ⟨rfl, rfl⟩
      · have u1 : decide (many ≤ 0) = false := by simpa using hA
        by_cases hC : (n : Int) < many
        · have u2 : decide ((n : Int) < many) = true := by simpa using hC
          have e1 : T = 0 := Q10.out hC
          subst e1
          clear hA hC
          go_wp2_with fail
          with_reducible refine (HF.out n (by omega) _).mono ?_
          rintro e w7 ⟨rfl, rfl⟩
          rw [HFN.out]
          go_wp2_with fail
          go_meet
          exact ⟨rfl, rfl⟩
        · have u2 : decide ((n : Int) < many) = false := by simpa using hC
          clear hA hC
          go_wp2_with fail
          with_reducible refine (HF.out n (by omega) _).mono ?_
          rintro e w7 ⟨rfl, rfl⟩
          rw [HFN.out]
          go_wp2_with fail
          go_meet
          exact ⟨rfl, rfl⟩
    case rest =>
      obtain ⟨rfl, rfl⟩ := hcut
      clear t1 t1' t1''
      obtain ⟨B, hB⟩ : ∃ B, decide (0 < many) = B := ⟨_, rfl⟩
      go_upto_if 151 with fail
      have HB := Lib.hid hB
      clear hB
      go_cut [22, 23] (fun s22 s23 wx => Ext w1 wx)
      case first => as_aux_lemma =>
        cases B with
        | true =>
          have hA : 0 < many := by simpa using HB.out
          have u3 : decide ((Y : Int) < (T : Int)) = false := by have := Q6.out; simp; omega
          have u3' : decide (Y < T) = false := by have := Q6.out; simp; omega
          have H6' := Lib.hid (H6.out _ hy hA)
          have s1 : -9223372036854775808 ≤ many - 1 := by omega
          have s2 : many ≤ 9223372036854775807 := HS.out.2
          clear hA
          go_wp2_with fail
          with_reducible refine H6'.out.mono ?_
          rintro e w7 ⟨rfl, hy2⟩
          go_wp2_with fail
          go_meet
          exact hy.trans hy2
        | false =>
          go_wp2_with fail
          go_meet
          exact hy
      case rest =>
        have hy := hcut
        clear hcut
        obtain ⟨B2, hB2⟩ : ∃ B, decide (0 < n) = B := ⟨_, rfl⟩
        have hB3 : decide (0 < (n : Int)) = B2 := by rw [← hB2]; exact decide_eq_decide.2 (by omega)
        go_upto_if 168 with fail
        have HB2 := Lib.hid hB2
        clear hB2 hB3
        go_cut [24, 25, 26, 27, 28] (fun s24 s25 s26 s27 s28 wx => Ext w1 wx)
        case first =>
          cases B2 with
          | false =>
            go_wp2_with fail
            go_meet
            exact hy
          | true =>
            have npos : 0 < n := by simpa using HB2.out
            have t3 : ((n : Int) == 0) = false := by simp; omega
            have hI6 := HI.out.ext hy
            have hrng := hI6.range
            obtain ⟨bb, bo, rfl⟩ := hI6.head (i := 0) (by rw [HLn.out]; exact npos)
            have hI6a := Lib.hid (hI6.ext (Ext.alloc wc (.cells #[] 3)))
            have hown0 := (OwnI.new wc).own
            have HRG := Lib.hid hrng
            clear hI6 hrng
            go_wp2_with (at_builtin; refine wpList_append_own_at _ rfl (.tmp 169) (.tmp 170) 39 rfl wc.heap.size 3 i0 (.int .i64 0) 1 8 Try.underlying39 hi0 hz0 hz1 hz2 rfl (by decide) (.slice (some ⟨wc.heap.size, 0, none⟩) 0 0) 0 [] rfl hown0 ⟨bb, bo, none⟩ n cap (l.map (Value.int .i64)) rfl (by rw [List.length_map, Nat.mul_one]; exact HLn.out) (hI6a.out.news) (fun u hu => by obtain ⟨z, _, rfl⟩ := List.mem_map.1 hu; rfl) (by unfold maxLen; omega) (by omega) (by simp) ?_; intro v1 w8 hown1 hgrow1 hnil1 hat1)
            have hO : OwnI w8 wc.heap.size v1 l := ⟨fun e => by have := (hnil1.1 e).2; omega, by rw [HLn.out]; simpa using hown1⟩
            have hy8 : Ext w1 w8 := Below.grown (hy.alloc' (.cells #[] 3)) hgrow1 (by have := hy.size; simp; omega) (fun j e => by simp only [Value.ownBlock, Option.some.injEq] at e; have := hy.size; omega)
            obtain ⟨g, cp, rfl, hg1, hg2, hg3, hg4⟩ := hO.form
            rw [HLn.out]
            rw [HLn.out] at hg3 hO
            have hI8 := (hO.ints HRG.out).2
            have f := Lib.hid hO.free
            clear hown1 hgrow1 hnil1 hat1 hown0 hO
            go_upto_region 19 with fail
            obtain ⟨i, hi⟩ : ∃ i : Nat, c % (n : Int) = (i : Int) := ⟨(c % (n : Int)).toNat, by have := Int.emod_nonneg c (b := (n : Int)) (by omega); omega⟩
            obtain ⟨j, hj⟩ : ∃ j : Nat, d % (n : Int) = (j : Int) := ⟨(d % (n : Int)).toNat, by have := Int.emod_nonneg d (b := (n : Int)) (by omega); omega⟩
            have hin : i < n := by have := Int.emod_lt_of_pos c (b := (n : Int)) (by omega); omega
            have hjn : j < n := by have := Int.emod_lt_of_pos d (b := (n : Int)) (by omega); omega
            have hi2 : c.tmod (n : Int) = (i : Int) := by rw [Int.tmod_eq_emod_of_nonneg hc1, hi]
            have hj2 : d.tmod (n : Int) = (j : Int) := by rw [Int.tmod_eq_emod_of_nonneg hd1, hj]
            have t4 : ((n : Int) != 0) = true := by simp; omega
            go_quiet (fail)
            clear hi hj hi2 hj2
            obtain ⟨x, ex⟩ : ∃ x, l.getD i 0 = x := ⟨_, rfl⟩
            obtain ⟨y, ey⟩ : ∃ y, l.getD j 0 = y := ⟨_, rfl⟩
            have HX := Lib.hid ex
            have HY := Lib.hid ey
            go_upto_region 20 with fail
            have hI9 : Ints (w8.drewN nq) (some ⟨g, 0, none⟩) cp l := hI8.ext ((Ext.refl w8).drewN nq)
            have f9 : Hid (∀ i : Nat, (w8.drewN nq).frozen? ⟨g, i, none⟩ = false) := Lib.hid (fun i => f.out i)
            have hy9 : Ext w1 (w8.drewN nq) := hy8.drewN nq
            have hg8 : wc.heap.size ≤ g := hg1
            have hs6 := hy.size
            clear hI8 f hy8
            generalize w8.drewN nq = w9 at *
            have e1 : w9.cell? ⟨g, i, none⟩ = some (.int .i64 x) := by
              have := (hI9.cell (i := i) (by rw [HLn.out]; exact hin)).1
              rw [Nat.zero_add] at this
              rw [this, ← ex]; simp [List.getD, show i < l.length by rw [HLn.out]; exact hin]
            have e2 : w9.cell? ⟨g, j, none⟩ = some (.int .i64 y) := by
              have := (hI9.cell (i := j) (by rw [HLn.out]; exact hjn)).1
              rw [Nat.zero_add] at this
              rw [this, ← ey]; simp [List.getD, show j < l.length by rw [HLn.out]; exact hjn]
            have e3 : (w9.setCell ⟨g, i, none⟩ (.int .i64 y)).cell? ⟨g, j, none⟩ = some (.int .i64 y) := by
              by_cases hij : i = j
              · subst hij; exact World.cell?_setCell_same' _ _ _ (by rw [e1]; rfl)
              · rw [World.cell?_setCell_other _ _ _ _ (fun e => hij (by injection e))]; exact e2
            have f1 := f9.out i
            have f2 := f9.out j
            have r1 := HRG.out x (by rw [← ex]; simp only [List.getD, List.getElem?_eq_getElem (show i < l.length by rw [HLn.out]; exact hin), Option.getD_some]; exact List.getElem_mem _)
            have r2 := HRG.out y (by rw [← ey]; simp only [List.getD, List.getElem?_eq_getElem (show j < l.length by rw [HLn.out]; exact hjn), Option.getD_some]; exact List.getElem_mem _)
            have hIf : Ints ((w9.setCell ⟨g, i, none⟩ (.int .i64 y)).setCell ⟨g, j, none⟩ (.int .i64 x)) (some ⟨g, 0, none⟩) cp (swp l i j) := by
              have := (hI9.put1 (i := i) r2).put1 (i := j) r1
              unfold swp
              rw [ex, ey]; exact this
            have hHI := Lib.hid hIf
            have hyf : Ext w1 ((w9.setCell ⟨g, i, none⟩ (.int .i64 y)).setCell ⟨g, j, none⟩ (.int .i64 x)) := (hy9.set (p := ⟨g, i, none⟩) (by dsimp only; omega) _).set (p := ⟨g, j, none⟩) (by dsimp only; omega) _
            have HYF := Lib.hid hyf
            have b1 : (0 : Int) ≤ (i : Int) := by omega
            have b2 : (i : Int) < (n : Int) := by omega
            have b3 : (0 : Int) ≤ (j : Int) := by omega
            have b4 : (j : Int) < (n : Int) := by omega
            clear hI9 hIf hyf ex ey r1 r2 hy9
            refine of_imp (A := ?A8) ?region8 ?cont8
            case region8 =>
              intro hFin
              refine wp_region_held_drew (S := (fun _ => True)) (by kernel_rfl) ?_ (fun hHeld => ?_)
              · trivial
              refine wpAnyH_take (i := 0) (oi := _) (v := ?_) rfl (by kernel_rfl) (by kernel_rfl) (by kernel_rfl) (fun _ _ _ h => h) (Or.inl ⟨by rfl, ?_⟩) (by assumption) ?_
              rotate_left
              · (intro w hSw; (try dsimp only at hSw); (try go_simp); (try with_reducible rfl))
              (try simp only [Act.put, List.setIfInBounds_toArray, List.set_cons_zero, List.set_cons_succ])
              refine wpAnyH_take (i := 1) (oi := _) (v := ?_) rfl (by kernel_rfl) (by kernel_rfl) (by kernel_rfl) (fun _ _ _ h => h) (Or.inl ⟨by rfl, ?_⟩) (by assumption) ?_
              rotate_left
              · (intro w hSw; (try dsimp only at hSw); (try go_simp); (try with_reducible rfl))
              (try simp only [Act.put, List.setIfInBounds_toArray, List.set_cons_zero, List.set_cons_succ])
              refine wpAnyH_take (i := 2) (oi := _) (v := ?_) rfl (by kernel_rfl) (by kernel_rfl) (by kernel_rfl) (fun _ _ _ h => h) (Or.inl ⟨by rfl, ?_⟩) (by assumption) ?_
              rotate_left
              · (intro w hSw; (try dsimp only at hSw); (try go_simp); (try with_reducible rfl))
              (try simp only [Act.put, List.setIfInBounds_toArray, List.set_cons_zero, List.set_cons_succ])
              refine wpAnyH_take (i := 3) (oi := _) (v := ?_) rfl (by kernel_rfl) (by kernel_rfl) (by kernel_rfl) (fun _ _ _ h => h) (Or.inl ⟨by rfl, ?_⟩) (by assumption) ?_
              rotate_left
              · (intro w hSw; (try dsimp only at hSw); (try go_simp); (try with_reducible rfl))
              (try simp only [Act.put, List.setIfInBounds_toArray, List.set_cons_zero, List.set_cons_succ])
              refine wpAnyH_take (i := 4) (oi := _) (v := ?_) rfl (by kernel_rfl) (by kernel_rfl) (by kernel_rfl) (fun _ _ _ h => h) (Or.inl ⟨by rfl, ?_⟩) (by assumption) ?_
              rotate_left
              · (intro w hSw; (try dsimp only at hSw); (try go_simp); (try with_reducible rfl))
              (try simp only [Act.put, List.setIfInBounds_toArray, List.set_cons_zero, List.set_cons_succ])
              refine wpAnyH_take (i := 5) (oi := _) (v := ?_) rfl (by kernel_rfl) (by kernel_rfl) (by kernel_rfl) (fun _ _ _ h => h) (Or.inl ⟨by rfl, ?_⟩) (by assumption) ?_
              rotate_left
              · (intro w hSw; (try dsimp only at hSw); (try go_simp); (try with_reducible rfl))
              (try simp only [Act.put, List.setIfInBounds_toArray, List.set_cons_zero, List.set_cons_succ])
              refine wpAnyH_take (i := 6) (oi := _) (v := ?_) rfl (by kernel_rfl) (by kernel_rfl) (by kernel_rfl) (fun _ _ _ h => h) (Or.inl ⟨by rfl, ?_⟩) (by assumption) ?_
              rotate_left
              · (intro w hSw; (try dsimp only at hSw); (try go_simp); (try with_reducible rfl))
              (try simp only [Act.put, List.setIfInBounds_toArray, List.set_cons_zero, List.set_cons_succ])
              refine wpAnyH_take (i := 8) (oi := _) (v := ?_) rfl (by kernel_rfl) (by kernel_rfl) (by kernel_rfl) (fun _ _ _ h => h) (Or.inl ⟨by rfl, ?_⟩) (by assumption) ?_
              rotate_left
              · (intro w hSw; (try dsimp only at hSw); (try go_simp); (try with_reducible rfl))
              (try simp only [Act.put, List.setIfInBounds_toArray, List.set_cons_zero, List.set_cons_succ])
              refine wpAnyH_take (i := 9) (oi := _) (v := ?_) rfl (by kernel_rfl) (by kernel_rfl) (by kernel_rfl) (fun _ _ _ h => h) (Or.inl ⟨by rfl, ?_⟩) (by assumption) ?_
              rotate_left
              · (intro w hSw; (try dsimp only at hSw); (try go_simp); (try with_reducible rfl))
              (try simp only [Act.put, List.setIfInBounds_toArray, List.set_cons_zero, List.set_cons_succ])
              refine wpAnyH_take (i := 10) (oi := _) (v := ?_) rfl (by kernel_rfl) (by kernel_rfl) (by kernel_rfl) (fun _ _ _ h => h) (Or.inl ⟨by rfl, ?_⟩) (by assumption) ?_
              rotate_left
              · (intro w hSw; (try dsimp only at hSw); (try go_simp); (try with_reducible rfl))
              (try simp only [Act.put, List.setIfInBounds_toArray, List.set_cons_zero, List.set_cons_succ])
              refine wpAnyH_ready (rs := [7, 11]) (by kernel_rfl) (by simp) ?_
              refine AllReadyH.cons (o := _) rfl (fun K hK => ?_) ?_
              · go_simp
                refine hK.out _ _ ?_ (fun hHeld2 => ?_)
                · trivial
                clear hK K hHeld
                have hHeld := hHeld2
                clear hHeld2
                (try simp only [Act.put, List.setIfInBounds_toArray, List.set_cons_zero, List.set_cons_succ])
                refine wpAnyH_ready (rs := [11]) (by kernel_rfl) (by simp) ?_
                refine AllReadyH.cons (o := _) rfl (fun K hK => ?_) ?_
                · go_simp
                  refine hK.out _ _ ?_ (fun hHeld2 => ?_)
                  · trivial
                  clear hK K hHeld
                  have hHeld := hHeld2
                  clear hHeld2
                  (try simp only [Act.put, List.setIfInBounds_toArray, List.set_cons_zero, List.set_cons_succ])
                  refine wpAnyH_take (i := 12) (oi := _) (v := ?_) rfl (by kernel_rfl) (by kernel_rfl) (by kernel_rfl) (fun _ _ _ h => h) (Or.inl ⟨by rfl, ?_⟩) (by assumption) ?_
                  rotate_left
                  · (intro w hSw; (try dsimp only at hSw); (try go_simp); (try with_reducible rfl))
                  (try simp only [Act.put, List.setIfInBounds_toArray, List.set_cons_zero, List.set_cons_succ])
                  refine wpAnyH_ready (rs := [13]) (by kernel_rfl) (by simp) ?_
                  refine AllReadyH.cons (o := _) rfl (fun K hK => ?_) ?_
                  · go_simp
                    refine hK.out _ _ ?_ (fun hHeld2 => ?_)
                    · trivial
                    clear hK K hHeld
                    have hHeld := hHeld2
                    clear hHeld2
                    (try simp only [Act.put, List.setIfInBounds_toArray, List.set_cons_zero, List.set_cons_succ])
                    refine wpAnyH_take (i := 14) (oi := _) (v := ?_) rfl (by kernel_rfl) (by kernel_rfl) (by kernel_rfl) (fun _ _ _ h => h) (Or.inl ⟨by rfl, ?_⟩) (by assumption) ?_
                    rotate_left
                    · (intro w hSw; (try dsimp only at hSw); (try go_simp); (try with_reducible rfl))
                    (try simp only [Act.put, List.setIfInBounds_toArray, List.set_cons_zero, List.set_cons_succ])
                    refine wpAnyH_ready (rs := [15]) (by kernel_rfl) (by simp) ?_
                    refine AllReadyH.cons (o := _) rfl (fun K hK => ?_) ?_
                    · go_simp
                      refine hK.out _ _ ?_ (fun hHeld2 => ?_)
                      · trivial
                      clear hK K hHeld
                      have hHeld := hHeld2
                      clear hHeld2
                      (try simp only [Act.put, List.setIfInBounds_toArray, List.set_cons_zero, List.set_cons_succ])
                      refine wpAnyH_done (by kernel_rfl) ?_ _
                      exact hFin
                    exact AllReadyH.nil
                  exact AllReadyH.nil
                exact AllReadyH.nil
              refine AllReadyH.cons (o := _) rfl (fun K hK => ?_) ?_
              · go_simp
                refine hK.out _ _ ?_ (fun hHeld2 => ?_)
                · trivial
                clear hK K hHeld
                have hHeld := hHeld2
                clear hHeld2
                (try simp only [Act.put, List.setIfInBounds_toArray, List.set_cons_zero, List.set_cons_succ])
                refine wpAnyH_ready (rs := [7]) (by kernel_rfl) (by simp) ?_
                refine AllReadyH.cons (o := _) rfl (fun K hK => ?_) ?_
                · go_simp
                  refine hK.out _ _ ?_ (fun hHeld2 => ?_)
                  · trivial
                  clear hK K hHeld
                  have hHeld := hHeld2
                  clear hHeld2
                  (try simp only [Act.put, List.setIfInBounds_toArray, List.set_cons_zero, List.set_cons_succ])
                  refine wpAnyH_take (i := 12) (oi := _) (v := ?_) rfl (by kernel_rfl) (by kernel_rfl) (by kernel_rfl) (fun _ _ _ h => h) (Or.inl ⟨by rfl, ?_⟩) (by assumption) ?_
                  rotate_left
                  · (intro w hSw; (try dsimp only at hSw); (try go_simp); (try with_reducible rfl))
                  (try simp only [Act.put, List.setIfInBounds_toArray, List.set_cons_zero, List.set_cons_succ])
                  refine wpAnyH_ready (rs := [13]) (by kernel_rfl) (by simp) ?_
                  refine AllReadyH.cons (o := _) rfl (fun K hK => ?_) ?_
                  · go_simp
                    refine hK.out _ _ ?_ (fun hHeld2 => ?_)
                    · trivial
                    clear hK K hHeld
                    have hHeld := hHeld2
                    clear hHeld2
                    (try simp only [Act.put, List.setIfInBounds_toArray, List.set_cons_zero, List.set_cons_succ])
                    refine wpAnyH_take (i := 14) (oi := _) (v := ?_) rfl (by kernel_rfl) (by kernel_rfl) (by kernel_rfl) (fun _ _ _ h => h) (Or.inl ⟨by rfl, ?_⟩) (by assumption) ?_
                    rotate_left
                    · (intro w hSw; (try dsimp only at hSw); (try go_simp); (try with_reducible rfl))
                    (try simp only [Act.put, List.setIfInBounds_toArray, List.set_cons_zero, List.set_cons_succ])
                    refine wpAnyH_ready (rs := [15]) (by kernel_rfl) (by simp) ?_
                    refine AllReadyH.cons (o := _) rfl (fun K hK => ?_) ?_
                    · go_simp
                      refine hK.out _ _ ?_ (fun hHeld2 => ?_)
                      · trivial
                      clear hK K hHeld
                      have hHeld := hHeld2
                      clear hHeld2
                      (try simp only [Act.put, List.setIfInBounds_toArray, List.set_cons_zero, List.set_cons_succ])
                      refine wpAnyH_done (by kernel_rfl) ?_ _
                      exact hFin
                    exact AllReadyH.nil
                  exact AllReadyH.nil
                exact AllReadyH.nil
              exact AllReadyH.nil
            have hIf := hHI.out
            have hyf := HYF.out
            have HIF : Hid (Ints ((w9.setCell ⟨g, i, none⟩ (.int .i64 y)).setCell ⟨g, j, none⟩ (.int .i64 x)).drew (some ⟨g, 0, none⟩) cp (swp l i j)) := Lib.hid (hIf.ext (Ext.refl _).drew)
            have hyd := hyf.drew
            clear e1 e2 e3 f1 f2 hIf hyf hHI HYF
            go_upto_region 21 with fail
            generalize ((w9.setCell ⟨g, i, none⟩ (.int .i64 y)).setCell ⟨g, j, none⟩ (.int .i64 x)).drew = w10 at *
            have hq := Q7.out i j hin hjn
            have H7' := Lib.hid (H7.out w10 _ cp i j hin hjn HIF.out hyd)
            rw [hq] at H7'
            clear hq
            go_wp2_with fail
            with_reducible refine H7'.out.mono ?_
            rintro e w11 ⟨rfl, hy2⟩
            go_wp2_with fail
            go_meet
            exact hyd.trans hy2
        case rest =>
          have hy := hcut
          clear hcut
          go_wp2_with fail
          clear HB HB2
          generalize wc = wd at *
          go_loop [29, 210] (fun wv i => ∃ k : Nat, k ≤ n ∧ i = .int .i64 k ∧ wv = .int .i64 (wantF l m k)) (fun _ i => n - (intOf i).toNat)
          case atStart => exact ⟨0, Nat.zero_le _, rfl, rfl⟩
          case round =>
            obtain ⟨k, hk, rfl, rfl⟩ := hrel
            have hwb := Q11.out k hk
            by_cases hkn : k < n
            · obtain ⟨b, o, rfl, hca⟩ := (HI.out.ext hy).at0 HLn.out hkn
              obtain ⟨b', o', rfl, hcb⟩ := (HI2.out.ext hy).at0 HMn.out hkn
              obtain ⟨x, hxx⟩ : ∃ x, l.getD k 0 = x := ⟨_, rfl⟩
              have ec := hca k hkn
              rw [hxx] at ec
              have HCA := Lib.hid hca
              have HCB := Lib.hid hcb
              have HXX := Lib.hid hxx
              have hwb2 := Q11.out (k + 1) (by omega)
              have HW2 := Lib.hid hwb2
              generalize hW : wantF l m k = W at *
              have HW := Lib.hid hW
              have g1 : (0 : Int) ≤ (k : Int) := by omega
              have g2 : (k : Int) < (n : Int) := by omega
              clear hca hcb hxx hW hwb2
              go_wp2_with fail
              clear ec
              go_loop [32, 33, 34, 217] (fun ia ib bf j => ∃ q : Nat, q ≤ n ∧ j = .int .i64 q ∧ ia = .int .i64 ((l.take q).count x) ∧ ib = .int .i64 ((m.take q).count x) ∧ bf = .int .i64 ((l.take (min q k)).count x)) (fun _ _ _ j => n - (intOf j).toNat)
              case atStart => exact ⟨0, Nat.zero_le _, rfl, by simp, by simp, by simp⟩
              case round =>
                obtain ⟨q, hq, rfl, rfl, rfl, rfl⟩ := hrel
                have c1 : (l.take q).count x ≤ q := Nat.le_trans List.count_le_length (List.length_take_le _ _)
                have c2 : (m.take q).count x ≤ q := Nat.le_trans List.count_le_length (List.length_take_le _ _)
                have c3 : (l.take (min q k)).count x ≤ q := Nat.le_trans List.count_le_length (Nat.le_trans (List.length_take_le _ _) (Nat.min_le_left _ _))
                by_cases hqn : q < n
                · have ea := HCA.out q hqn
                  have eb := HCB.out q hqn
                  have ka := count_take l (j := q) (by rw [HLn.out]; exact hqn) x
                  have kb := count_take m (j := q) (by rw [HMn.out]; exact hqn) x
                  have kc : (l.take (min (q + 1) k)).count x = (l.take (min q k)).count x + if q < k ∧ l.getD q 0 = x then 1 else 0 := by
                    by_cases hqk : q < k
                    · rw [Nat.min_eq_left (by omega), Nat.min_eq_left (by omega), ka]
                      by_cases hv : l.getD q 0 = x
                      · rw [if_pos hv, if_pos ⟨hqk, hv⟩]
                      · rw [if_neg hv, if_neg (fun h => hv h.2)]
                    · rw [Nat.min_eq_right (by omega), Nat.min_eq_right (by omega), if_neg (fun h => hqk h.1), Nat.add_zero]
                  obtain ⟨y, hyy⟩ : ∃ y, l.getD q 0 = y := ⟨_, rfl⟩
                  obtain ⟨z, hzz⟩ : ∃ z, m.getD q 0 = z := ⟨_, rfl⟩
                  rw [hyy] at ea ka kc
                  rw [hzz] at eb kb
                  have KA := Lib.hid ka
                  have KB := Lib.hid kb
                  have KC := Lib.hid kc
                  have g3 : (0 : Int) ≤ (q : Int) := by omega
                  have g4 : (q : Int) < (n : Int) := by omega
                  generalize (l.take q).count x = A at *
                  generalize (m.take q).count x = B at *
                  generalize (l.take (min q k)).count x = C at *
                  clear ka kb kc hyy hzz
                  by_cases h1 : y = x
                  · as_aux_lemma =>
                    have v1 : (y == x) = true := by simpa using h1
                    by_cases h3 : q < k
                    · have v3 : decide ((q : Int) < (k : Int)) = true := by simp; omega
                      have v3' : decide (q < k) = true := by simp; omega
                      by_cases h2 : z = x
                      · have v2 : (z == x) = true := by simpa using h2
                        have e1 := KA.out; have e2 := KB.out; have e3 := KC.out
                        rw [if_pos h1] at e1; rw [if_pos h2] at e2; rw [if_pos ⟨h3, h1⟩] at e3
                        have E1 := Lib.hid e1
                        have E2 := Lib.hid e2
                        have E3 := Lib.hid e3
                        clear e1 e2 e3 h1 h2
                        go_wp2_with fail
                        go_round
                        case rel => exact ⟨q + 1, by omega, by go_num, by rw [E1.out]; first | rfl | go_num, by rw [E2.out]; first | rfl | go_num, by rw [E3.out]; first | rfl | go_num⟩
                        case measure => simp [intOf]; omega
                      · have v2 : (z == x) = false := by simpa using h2
                        have e1 := KA.out; have e2 := KB.out; have e3 := KC.out
                        rw [if_pos h1] at e1; rw [if_neg h2] at e2; rw [if_pos ⟨h3, h1⟩] at e3
                        have E1 := Lib.hid e1
                        have E2 := Lib.hid e2
                        have E3 := Lib.hid e3
                        clear e1 e2 e3 h1 h2
                        go_wp2_with fail
                        go_round
                        case rel => exact ⟨q + 1, by omega, by go_num, by rw [E1.out]; first | rfl | go_num, by rw [E2.out]; first | rfl | go_num, by rw [E3.out]; first | rfl | go_num⟩
                        case measure => simp [intOf]; omega
                    · have v3 : decide ((q : Int) < (k : Int)) = false := by simp; omega
                      have v3' : decide (q < k) = false := by simp; omega
                      by_cases h2 : z = x
                      · have v2 : (z == x) = true := by simpa using h2
                        have e1 := KA.out; have e2 := KB.out; have e3 := KC.out
                        rw [if_pos h1] at e1; rw [if_pos h2] at e2; rw [if_neg (fun h => h3 h.1)] at e3
                        have E1 := Lib.hid e1
                        have E2 := Lib.hid e2
                        have E3 := Lib.hid e3
                        clear e1 e2 e3 h1 h2
                        go_wp2_with fail
                        go_round
                        case rel => exact ⟨q + 1, by omega, by go_num, by rw [E1.out]; first | rfl | go_num, by rw [E2.out]; first | rfl | go_num, by rw [E3.out]; first | rfl | go_num⟩
                        case measure => simp [intOf]; omega
                      · have v2 : (z == x) = false := by simpa using h2
                        have e1 := KA.out; have e2 := KB.out; have e3 := KC.out
                        rw [if_pos h1] at e1; rw [if_neg h2] at e2; rw [if_neg (fun h => h3 h.1)] at e3
                        have E1 := Lib.hid e1
                        have E2 := Lib.hid e2
                        have E3 := Lib.hid e3
                        clear e1 e2 e3 h1 h2
                        go_wp2_with fail
                        go_round
                        case rel => exact ⟨q + 1, by omega, by go_num, by rw [E1.out]; first | rfl | go_num, by rw [E2.out]; first | rfl | go_num, by rw [E3.out]; first | rfl | go_num⟩
                        case measure => simp [intOf]; omega
                  · as_aux_lemma =>
                    have v1 : (y == x) = false := by simpa using h1
                    by_cases h2 : z = x
                    · have v2 : (z == x) = true := by simpa using h2
                      have e1 := KA.out; have e2 := KB.out; have e3 := KC.out
                      rw [if_neg h1] at e1; rw [if_pos h2] at e2; rw [if_neg (fun h => h1 h.2)] at e3
                      have E1 := Lib.hid e1
                      have E2 := Lib.hid e2
                      have E3 := Lib.hid e3
                      clear e1 e2 e3 h1 h2
                      go_wp2_with fail
                      go_round
                      case rel => exact ⟨q + 1, by omega, by go_num, by rw [E1.out]; first | rfl | go_num, by rw [E2.out]; first | rfl | go_num, by rw [E3.out]; first | rfl | go_num⟩
                      case measure => simp [intOf]; omega
                    · have v2 : (z == x) = false := by simpa using h2
                      have e1 := KA.out; have e2 := KB.out; have e3 := KC.out
                      rw [if_neg h1] at e1; rw [if_neg h2] at e2; rw [if_neg (fun h => h1 h.2)] at e3
                      have E1 := Lib.hid e1
                      have E2 := Lib.hid e2
                      have E3 := Lib.hid e3
                      clear e1 e2 e3 h1 h2
                      go_wp2_with fail
                      go_round
                      case rel => exact ⟨q + 1, by omega, by go_num, by rw [E1.out]; first | rfl | go_num, by rw [E2.out]; first | rfl | go_num, by rw [E3.out]; first | rfl | go_num⟩
                      case measure => simp [intOf]; omega
                · as_aux_lemma =>
                  obtain rfl : q = n := by omega
                  have w1' : l.take q = l := List.take_of_length_le (by rw [HLn.out]; exact Nat.le_refl _)
                  have w2' : m.take q = m := List.take_of_length_le (by rw [HMn.out]; exact Nat.le_refl _)
                  have w3' : min q k = k := Nat.min_eq_right hk
                  rw [w3'] at c3 ⊢
                  rw [w1', w2']
                  rw [w1'] at c1
                  rw [w2'] at c2
                  have s1 := want_s1 l m k HXX.out
                  have s2 := want_s2 l m k HXX.out
                  have s3 := want_s3 l m k HXX.out
                  rw [HW.out] at s1 s2
                  have HW3 := HW2.out
                  generalize l.count x = A at *
                  generalize m.count x = B at *
                  generalize (l.take k).count x = C at *
                  have S1 := Lib.hid s1
                  have S2 := Lib.hid s2
                  have S3 := Lib.hid s3
                  have HFA := Lib.hid (fun w => HF.out A (by omega) w)
                  have fb := fact_bd (n := A) (by omega)
                  obtain ⟨fA, hfA⟩ : ∃ f, fact A = f := ⟨_, rfl⟩
                  rw [hfA] at HFA fb
                  obtain ⟨f1, f2⟩ := fb
                  have HFAE := Lib.hid hfA
                  clear s1 s2 s3 hfA w1' w2' w3'
                  by_cases hAB : A = B
                  · have v1 : ((A : Int) != (B : Int)) = false := by simp; omega
                    by_cases hC : C = 0
                    · have v2 : ((C : Int) == 0) = true := by simp; omega
                      have hp := S1.out hAB hC
                      rw [HFAE.out] at hp
                      have hp2 : (W : Int) * (fA : Int) = ((wantF l m (k + 1) : Nat) : Int) := by rw [hp]; simp
                      have b1 : (-9223372036854775808 : Int) ≤ (W : Int) * (fA : Int) := by rw [hp2]; omega
                      have b2 : (W : Int) * (fA : Int) ≤ 9223372036854775807 := by rw [hp2]; omega
                      have HP := Lib.hid hp2
                      clear hp hp2 hAB hC HW3
                      go_wp2_with fail
                      with_reducible refine (HFA.out _).mono ?_
                      rintro e w7 ⟨rfl, rfl⟩
                      go_wp2_with fail
                      go_round
                      case rel => exact ⟨k + 1, by omega, by go_num, by rw [HP.out]⟩
                      case measure => simp [intOf]; omega
                    · have v2 : ((C : Int) == 0) = false := by simp; omega
                      have HP := Lib.hid (S2.out hAB hC)
                      clear hAB hC HW3
                      go_wp2_with fail
                      go_round
                      case rel => exact ⟨k + 1, by omega, by go_num, by rw [HP.out]⟩
                      case measure => simp [intOf]; omega
                  · have v1 : ((A : Int) != (B : Int)) = true := by simp; omega
                    have HP := Lib.hid (S3.out hAB)
                    by_cases hC : C = 0
                    · have v2 : ((C : Int) == 0) = true := by simp; omega
                      clear hAB hC HW3
                      go_wp2_with fail
                      with_reducible refine (HFA.out _).mono ?_
                      rintro e w7 ⟨rfl, rfl⟩
                      go_wp2_with fail
                      go_round
                      case rel => exact ⟨k + 1, by omega, by go_num, by rw [HP.out]; simp⟩
                      case measure => simp [intOf]; omega
                    · have v2 : ((C : Int) == 0) = false := by simp; omega
                      clear hAB hC HW3
                      go_wp2_with fail
                      go_round
                      case rel => exact ⟨k + 1, by omega, by go_num, by rw [HP.out]; rfl⟩
                      case measure => simp [intOf]; omega
            · obtain rfl : k = n := by omega
              have he := HWN.out
              rw [he]
              clear he hwb
              go_wp2_with fail
              go_ret
              exact ⟨rfl, hx.trans hy⟩
end Go.Proofs.Ytmkleegfbapakaa
