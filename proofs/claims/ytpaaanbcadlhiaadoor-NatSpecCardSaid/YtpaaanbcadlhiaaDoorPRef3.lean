import Derived.Test.YtpaaanbcadlhiaaDoorPRef2
namespace Go.Proofs.YtpaaanbcadlhiaaDoor
open Go.RowKit Go BigFrame Go.Shelf
set_option maxRecDepth 100000
set_option linter.unusedSimpArgs false

/-- Digits of one's own, of the value z, at most L of them. -/
def ValP (z : Int) (L : Nat) (w : World) (e : Ending) (w' : World) : Prop := ∃ v R, e = .returned v ∧ OwnI w' w.heap.size v R ∧ Digs R ∧ dval R = z ∧ R.length ≤ L ∧ Ext w w'
theorem carry01 {l m : List Int} (hl : Digs l) (hm : Digs m) : ∀ k, 0 ≤ carryC (fun i => l.getD i 0 + m.getD i 0) k ∧ carryC (fun i => l.getD i 0 + m.getD i 0) k ≤ 1
  | 0 => by simp [carryC]
  | k + 1 => by
    have ih := carry01 hl hm k
    have h1 := hl.getD k
    have h2 := hm.getD k
    simp only [carryC]
    omega
theorem plus_val {l m : List Int} {k : Nat} (h1 : l.length ≤ k) (h2 : m.length ≤ k) (hc : carryC (fun i => l.getD i 0 + m.getD i 0) k = 0) : dval (carryL (fun i => l.getD i 0 + m.getD i 0) k) = dval l + dval m := by
  have := carry_val (fun i => l.getD i 0 + m.getD i 0) k
  rw [hc, Int.mul_zero, Int.add_zero, sval_add, sval_list l _ h1, sval_list m _ h2] at this
  exact this

set_option maxHeartbeats 4000000 in
theorem ref_plus (a b : Option Addr) (ca cb : Nat) (l m : List Int) (w : World) (h : Ints w a ca l) (k : Ints w b cb m) (hl : Digs l) (hm : Digs m) (N : Nat) (h1 : l.length ≤ N) (h2 : m.length ≤ N) (hN : N ≤ 99998) :
    Calls Tryd.prog 55 #[.slice a l.length ca, .slice b m.length cb] w (ValP (dval l + dval m) (N + 1) w) := by
  obtain ⟨i0, hi0, hz0, hz1, hz2⟩ := info_parts infoI
  have HI := Lib.hid h
  have HI2 := Lib.hid k
  have HC := Lib.hid (carry01 hl hm)
  have HV := Lib.hid (fun k h1 h2 hc => plus_val (l := l) (m := m) (k := k) h1 h2 hc)
  have hD1 := hl
  have hD2 := hm
  have HD1 := Lib.hid hl
  have HD2 := Lib.hid hm
  have o0 := Lib.hid (OwnI.new w)
  have hx0 : Ext w (w.alloc (.cells #[] 3)) := (by repeat (first | with_reducible exact Ext.refl _ | with_reducible assumption | with_reducible refine Ext.drewN ?_ _ | with_reducible refine Ext.drew ?_ | with_reducible refine Ext.alloc' ?_ _ | with_reducible refine Ext.set ?_ (by dsimp only; omega) _))
  obtain ⟨s, hs⟩ : ∃ s : Nat → Int, (fun i => l.getD i 0 + m.getD i 0) = s := ⟨_, rfl⟩
  rw [hs] at HC HV
  have HS := Lib.hid (fun i => show l.getD i 0 + m.getD i 0 = s i by rw [← hs])
  clear h k hl hm hD1 hD2 hs
  go_enter Tryd.func55, Tryd.ntmps55
  go_wp2_with fail
  generalize w.alloc (.cells #[] 3) = w1 at *
  go_loopw [5, 6, 7] (fun v o i wr => ∃ k : Nat, k ≤ N + 1 ∧ i = .int .i64 k ∧ o = .int .i64 (carryC s k) ∧ OwnI wr w.heap.size v (carryL s k) ∧ Ext w wr) (fun _ _ i _ => N + 2 - (intOf i).toNat)
  case atStart => exact ⟨0, Nat.zero_le _, rfl, rfl, o0.out, hx0⟩
  case round =>
    clear o0 hx0
    obtain ⟨k, hk, rfl, rfl, hO, hxr⟩ := hrel
    obtain ⟨g, cp, rfl, hg1, hg2, hg3, hg4⟩ := hO.form
    have hll := carryL_len s k
    rw [hll] at hg3
    obtain ⟨q1, q2⟩ := HC.out k
    obtain ⟨r1, r2⟩ := HC.out (k + 1)
    have hcs : carryC s (k + 1) = (s k + carryC s k) / 1073741824 := rfl
    have hls : carryL s (k + 1) = carryL s k ++ [(s k + carryC s k) % 1073741824] := rfl
    have D1 := ref_digit a ca l k wr (HI.out.ext hxr)
    have D2 := ref_digit b cb m k wr (HI2.out.ext hxr)
    have x1 := HD1.out.getD k
    have x2 := HD2.out.getD k
    have hsk := HS.out k
    have hlast : k = N + 1 → carryC s k = 0 := fun e => by
      subst e
      have h0 : s N = 0 := by rw [← HS.out N, getD_off (by omega), getD_off (by omega)]; rfl
      have hc := HC.out N
      show (s N + carryC s N) / 1073741824 = 0
      omega
    by_cases hgo : k < l.length ∨ k < m.length ∨ 0 < carryC s k
    · have hkN : k ≤ N := by
        rcases hgo with h | h | h
        · omega
        · omega
        · rcases Nat.lt_or_ge N k with h3 | h3
          · have := hlast (by omega); omega
          · exact h3
      have HLS := Lib.hid hls
      have HCS := Lib.hid hcs
      generalize carryC s k = c at *
      generalize hck : carryL s k = CL at *
      generalize l.getD k 0 = x at *
      generalize m.getD k 0 = y at *
      generalize s k = t at *
      subst hsk
      have HLL := Lib.hid hll
      have HD1' := Lib.hid D1
      have HD2' := Lib.hid D2
      have HOO := Lib.hid hO
      have hm0 : (0 : Int) ≤ (x + y + c) % 1073741824 := by omega
      clear hls hcs hll D1 D2 hlast r1 r2 hck
      by_cases c1 : k < l.length
      case' pos => have t1 : decide ((k : Int) < (l.length : Int)) = true := by simp only [decide_eq_true_eq]; omega
      case' neg =>
        have t1 : decide ((k : Int) < (l.length : Int)) = false := by simp only [decide_eq_false_iff_not]; omega
        by_cases c2 : k < m.length
        case' pos => have t2 : decide ((k : Int) < (m.length : Int)) = true := by simp only [decide_eq_true_eq]; omega
        case' neg =>
          have t2 : decide ((k : Int) < (m.length : Int)) = false := by simp only [decide_eq_false_iff_not]; omega
          have t3 : decide (0 < c) = true := by simp only [decide_eq_true_eq]; omega
      all_goals
        clear hgo
        go_wp2_with fail
        refine HD1'.out.mono ?_
        rintro e w2 ⟨rfl, rfl⟩
        go_wp2_with fail
        refine HD2'.out.mono ?_
        rintro e w2 ⟨rfl, rfl⟩
        have hown := HOO.out.own
        rw [HLL.out] at hown ⊢
        go_wp2_with (at_builtin; refine wpList_append_own_at _ rfl (.tmp 35) (.tmp 38) 22 rfl w.heap.size 3 i0 (.int .i64 0) 1 8 Tryd.underlying22 hi0 hz0 hz1 hz2 rfl (by decide) _ _ _ rfl (hown.alloc _) ⟨wr.heap.size, 0, none⟩ 1 1 [.int .i64 ((x + y + c) % 1073741824)] rfl rfl (World.news_of_block (cs := #[.int .i64 ((x + y + c) % 1073741824)]) (t := 3) (fr := (0, 0)) (heap_alloc_new wr _)) (by simp [Value.oneCell']) (by unfold maxLen; omega) (by omega) (by have := hxr.size; simp; omega) ?_; intro v2 w3 hown2 hgrow2 hnil2 hat2)
        have hE : Ext w w3 := Below.grown (hxr.alloc' (.cells #[.int .i64 ((x + y + c) % 1073741824)] 3)) hgrow2 (by have := hxr.size; simp; omega) (fun j e => own_base HOO.out.own e)
        have hO2 : OwnI w3 w.heap.size v2 (CL ++ [(x + y + c) % 1073741824]) := ⟨fun e => absurd (hnil2.1 e).2 (by omega), by rw [List.length_append, HLL.out, List.map_append]; exact hown2⟩
        clear hown2 hgrow2 hnil2 hat2 hown
        go_wp2_with fail
        go_roundw
        case rel => exact ⟨k + 1, by omega, by go_num, by rw [HCS.out], by rw [HLS.out]; exact hO2, hE⟩
        case measure => simp [intOf]; omega
    · have c1 : ¬ k < l.length := fun h => hgo (.inl h)
      have c2 : ¬ k < m.length := fun h => hgo (.inr (.inl h))
      have c3 : ¬ 0 < carryC s k := fun h => hgo (.inr (.inr h))
      have t1 : decide ((k : Int) < (l.length : Int)) = false := by simp only [decide_eq_false_iff_not]; omega
      have t2 : decide ((k : Int) < (m.length : Int)) = false := by simp only [decide_eq_false_iff_not]; omega
      have t3 : decide (0 < carryC s k) = false := by simpa using c3
      have hval := HV.out k (by omega) (by omega) (by omega)
      have hdg := carryL_digs s k
      have HRET := Lib.hid (show ValP (dval l + dval m) (N + 1) w (.returned (.slice (some ⟨g, 0, none⟩) (carryL s k).length cp)) wr from ⟨_, _, rfl, hO, hdg, hval, by rw [hll]; exact hk, hxr⟩)
      clear hval hdg hO D1 D2 hlast hsk hls hcs hgo
      generalize carryC s k = c at *
      go_wp2_with fail
      go_ret
      have hfin := HRET.out
      rw [hll] at hfin
      exact hfin

theorem OwnI.takeO {w : World} {B g n cp : Nat} {L : List Int} (h : OwnI w B (.slice (some ⟨g, 0, none⟩) n cp) L) {k : Nat} (hk : k ≤ L.length) : OwnI w B (.slice (some ⟨g, 0, none⟩) k cp) (L.take k) := by
  obtain ⟨hn, h1, h2⟩ := h
  refine ⟨by simp, by simp, ?_⟩
  rcases h2 with ⟨e, _⟩ | ⟨g', cap', cur, e, hb, hg, hn', hm', hs', ht'⟩
  · exact absurd e (by simp)
  · simp only [Value.slice.injEq, Option.some.injEq, Addr.mk.injEq, and_true, true_and] at e
    obtain ⟨rfl, e1, rfl⟩ := e
    refine .inr ⟨g, cp, cur, by simp; omega, hb, hg, by simp; omega, hm', hs', ?_⟩
    rw [List.map_take, ← ht', List.take_take]
    congr 1
    simp
/-! A less b. -/
def subS (l m : List Int) (i : Nat) : Int := l.getD i 0 - m.getD i 0
theorem carryS_bd {l m : List Int} (hl : Digs l) (hm : Digs m) : ∀ k, -1 ≤ carryC (subS l m) k ∧ carryC (subS l m) k ≤ 0
  | 0 => by simp [carryC]
  | k + 1 => by
    have ih := carryS_bd hl hm k
    have h1 := hl.getD k
    have h2 := hm.getD k
    simp only [carryC, subS] at ih ⊢
    omega
set_option maxHeartbeats 4000000 in
theorem ref_less (a b : Option Addr) (ca cb : Nat) (l m : List Int) (w : World) (h : Ints w a ca l) (k : Ints w b cb m) (hl : Digs l) (hm : Norm m) (h1 : l.length ≤ 99998) (hge : dval m ≤ dval l) :
    Calls Tryd.prog 56 #[.slice a l.length ca, .slice b m.length cb] w (DigP (digs (dval l - dval m).toNat) w) := by
  obtain ⟨i0, hi0, hz0, hz1, hz2⟩ := info_parts infoI
  have hle1 := h.le
  have hmx1 := h.mx
  have HI := Lib.hid h
  have HI2 := Lib.hid k
  have HC := Lib.hid (carryS_bd hl hm.digs)
  have HFIT := Lib.hid (sub_fits hl hm hge)
  have HD1 := Lib.hid hl
  have HD2 := Lib.hid hm.digs
  have o0 := Lib.hid (OwnI.new w)
  have hx0 : Ext w (w.alloc (.cells #[] 3)) := (by repeat (first | with_reducible exact Ext.refl _ | with_reducible assumption | with_reducible refine Ext.drewN ?_ _ | with_reducible refine Ext.drew ?_ | with_reducible refine Ext.alloc' ?_ _ | with_reducible refine Ext.set ?_ (by dsimp only; omega) _))
  clear h k hl hm hge
  go_enter Tryd.func56, Tryd.ntmps56
  go_wp2_with fail
  generalize w.alloc (.cells #[] 3) = w1 at *
  go_loopw [5, 6, 7] (fun v o i wr => ∃ k : Nat, k ≤ l.length ∧ i = .int .i64 k ∧ o = .int .i64 (- carryC (subS l m) k) ∧ OwnI wr w.heap.size v (carryL (subS l m) k) ∧ Ext w wr) (fun _ _ i _ => l.length - (intOf i).toNat)
  case atStart => exact ⟨0, Nat.zero_le _, rfl, rfl, o0.out, hx0⟩
  case round =>
    clear o0 hx0
    obtain ⟨k, hk, rfl, rfl, hO, hxr⟩ := hrel
    obtain ⟨g, cp, rfl, hg1, hg2, hg3, hg4⟩ := hO.form
    have hll := carryL_len (subS l m) k
    rw [hll] at hg3
    obtain ⟨q1, q2⟩ := HC.out k
    by_cases hgo : k < l.length
    · have hcs : carryC (subS l m) (k + 1) = (subS l m k + carryC (subS l m) k) / 1073741824 := rfl
      have hls : carryL (subS l m) (k + 1) = carryL (subS l m) k ++ [(subS l m k + carryC (subS l m) k) % 1073741824] := rfl
      obtain ⟨b1, o1, rfl, ha⟩ := HI.out.atN rfl hgo
      have ha := ha k hgo
      have C2 := Lib.hid (fun W : Later wr => later_same (W := W) (ref_digit b cb m k W.1 (HI2.out.ext (hxr.trans W.2))))
      have L1 := later_cell ((hxr.cell (p := ⟨b1, o1 + k, none⟩) (lt_of_cell ha)).trans ha)
      obtain ⟨x1, x2⟩ := HD1.out.getD k
      obtain ⟨y1, y2⟩ := HD2.out.getD k
      have hss : subS l m k = l.getD k 0 - m.getD k 0 := rfl
      generalize carryC (subS l m) k = c at *
      generalize hck : carryL (subS l m) k = CL at *
      generalize l.getD k 0 = x at *
      generalize m.getD k 0 = y at *
      generalize subS l m k = t at *
      subst hss
      have HLS := Lib.hid hls
      have HCS := Lib.hid hcs
      have HLL := Lib.hid hll
      have HOO := Lib.hid hO
      have hw1 : IntKind.i64.wrap (x - y) = x - y := IntWalk.i64_in _ (by omega)
      have hw2 : IntKind.i64.wrap (x - y - -c) = x - y + c := by rw [show x - y - -c = x - y + c by omega]; exact IntWalk.i64_in _ (by omega)
      have g1 : (0 : Int) ≤ (k : Int) := by omega
      have g2 : (k : Int) < (l.length : Int) := by omega
      clear hls hcs hll ha hck
      go_upto_region 6 with fail
      refine wp_region_later (by kernel_rfl) (by kernel_rfl) ?_; repeat (go_big_quiet_step ((go_at_call 63; with_reducible exact C2.out _)))
      refine wpQuiet_nil ?_; rintro w7 ⟨⟨W2, HW2⟩, rfl⟩; (try dsimp only)
      clear L1 C2 hw1 hw2
      have hown := (HOO.out.ext HW2).own
      rw [HLL.out] at hown ⊢
      obtain ⟨D, hD⟩ : ∃ D, x - y + c = D := ⟨_, rfl⟩
      rw [hD] at HLS HCS ⊢
      by_cases hneg : D < 0
      · have t1 : decide (D < 0) = true := by simpa using hneg
        obtain ⟨E, hE0⟩ : ∃ E, D + 1073741824 = E := ⟨_, rfl⟩
        have HE := Lib.hid (show D % 1073741824 = E by omega)
        have HF := Lib.hid (show -(D / 1073741824) = 1 by omega)
        go_wp2_with (at_builtin; refine wpList_append_own_at _ rfl (.tmp 30) (.tmp 32) 22 rfl w.heap.size 3 i0 (.int .i64 0) 1 8 Tryd.underlying22 hi0 hz0 hz1 hz2 rfl (by decide) _ _ _ rfl (hown.alloc _) ⟨w7.heap.size, 0, none⟩ 1 1 [.int .i64 E] rfl rfl (World.news_of_block (cs := #[.int .i64 E]) (t := 3) (fr := (0, 0)) (heap_alloc_new w7 _)) (by simp [Value.oneCell']) (by unfold maxLen; omega) (by omega) (by have := hxr.size; have := HW2.size; simp; omega) ?_; intro v2 w3 hown2 hgrow2 hnil2 hat2)
        have hE : Ext w w3 := Below.grown ((hxr.trans HW2).alloc' (.cells #[.int .i64 E] 3)) hgrow2 (by have := hxr.size; have := HW2.size; simp; omega) (fun j e => own_base HOO.out.own e)
        have hO2 : OwnI w3 w.heap.size v2 (CL ++ [E]) := ⟨fun e => absurd (hnil2.1 e).2 (by omega), by rw [List.length_append, HLL.out, List.map_append]; exact hown2⟩
        clear hown2 hgrow2 hnil2 hat2 hown
        go_wp2_with fail
        go_roundw
        case rel => exact ⟨k + 1, by omega, by go_num, by rw [HCS.out, HF.out], by rw [HLS.out, HE.out]; exact hO2, hE⟩
        case measure => simp [intOf]; omega
      · have t1 : decide (D < 0) = false := by simpa using hneg
        obtain ⟨E, hE0⟩ : ∃ E, D = E := ⟨_, rfl⟩
        subst hE0
        have HE := Lib.hid (show D % 1073741824 = D by omega)
        have HF := Lib.hid (show -(D / 1073741824) = 0 by omega)
        go_wp2_with (at_builtin; refine wpList_append_own_at _ rfl (.tmp 30) (.tmp 32) 22 rfl w.heap.size 3 i0 (.int .i64 0) 1 8 Tryd.underlying22 hi0 hz0 hz1 hz2 rfl (by decide) _ _ _ rfl (hown.alloc _) ⟨w7.heap.size, 0, none⟩ 1 1 [.int .i64 D] rfl rfl (World.news_of_block (cs := #[.int .i64 D]) (t := 3) (fr := (0, 0)) (heap_alloc_new w7 _)) (by simp [Value.oneCell']) (by unfold maxLen; omega) (by omega) (by have := hxr.size; have := HW2.size; simp; omega) ?_; intro v2 w3 hown2 hgrow2 hnil2 hat2)
        have hE : Ext w w3 := Below.grown ((hxr.trans HW2).alloc' (.cells #[.int .i64 D] 3)) hgrow2 (by have := hxr.size; have := HW2.size; simp; omega) (fun j e => own_base HOO.out.own e)
        have hO2 : OwnI w3 w.heap.size v2 (CL ++ [D]) := ⟨fun e => absurd (hnil2.1 e).2 (by omega), by rw [List.length_append, HLL.out, List.map_append]; exact hown2⟩
        clear hown2 hgrow2 hnil2 hat2 hown
        go_wp2_with fail
        go_roundw
        case rel => exact ⟨k + 1, by omega, by go_num, by rw [HCS.out, HF.out], by rw [HLS.out, HE.out]; exact hO2, hE⟩
        case measure => simp [intOf]; omega
    · obtain rfl : k = l.length := by omega
      have hdg := carryL_digs (subS l m) l.length
      have hI := (hO.ints (fun x hx => by have := hdg x hx; omega)).2
      have hT := ref_trim _ _ _ wr hI
      have hfit : trimL (carryL (subS l m) l.length) = digs (dval l - dval m).toNat := HFIT.out
      have hfin := hO.takeO (k := (trimL (carryL (subS l m) l.length)).length) (trim_len _)
      rw [← trim_take] at hfin
      rw [hfit] at hT hfin
      have HT := Lib.hid hT
      have HFIN := Lib.hid hfin
      clear hT hfin hI hO hdg hfit
      rw [hll] at HT ⊢
      go_wp2_with fail
      refine HT.out.mono ?_
      rintro e w4 ⟨rfl, rfl⟩
      go_wp2_with fail
      go_ret
      exact ⟨_, rfl, HFIN.out, hxr⟩
end Go.Proofs.YtpaaanbcadlhiaaDoor
