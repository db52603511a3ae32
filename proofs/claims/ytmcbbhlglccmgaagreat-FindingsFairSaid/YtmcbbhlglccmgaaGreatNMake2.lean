import Derived.Test.YtmcbbhlglccmgaaGreatNMake
namespace Go.Proofs.YtmcbbhlglccmgaaGreat
open Go.RowKit Go BigFrame
set_option maxRecDepth 100000
set_option linter.unusedSimpArgs false

set_option maxHeartbeats 1000000 in
theorem ref_Make (n : Int) (w : World) (hn : -9223372036854775808 ≤ n ∧ n ≤ 9223372036854775807) : Calls Tryz.prog 33 #[.int .i64 n] w (BigP n w) := by
  obtain ⟨h1, h2⟩ := hn
  obtain ⟨i0, hi0, hz0, hz1, hz2⟩ := info_parts infoI
  have k0 := Lib.hid ((Blk.new0 w #[.bool false, .slice none 0 0] 32).alloc (.cells #[] 3))
  have o0 := Lib.hid (OwnI.new (w.alloc (.cells #[.bool false, .slice none 0 0] 32)))
  have hx0 : Ext w ((w.alloc (.cells #[.bool false, .slice none 0 0] 32)).alloc (.cells #[] 3)) := (by repeat (first | with_reducible exact Ext.refl _ | with_reducible assumption | with_reducible refine Ext.drewN ?_ _ | with_reducible refine Ext.drew ?_ | with_reducible refine Ext.alloc' ?_ _ | with_reducible refine Ext.set ?_ (by dsimp only; omega) _))
  have hbig := Big.of n
  have HB := Lib.hid hbig
  have hlen : (digs n.natAbs).length ≤ 3 := digs_len (by have : (1073741824 : Nat) ^ 3 = 1237940039285380274899124224 := by decide
                                                         omega)
  have hdig := (digs_norm n.natAbs).digs
  have HD := Lib.hid hdig
  have H1 := Lib.hid (And.intro h1 h2)
  clear hbig hdig
  go_enter Tryz.func33, Tryz.ntmps33
  go_wp2_with fail
  clear h1 h2
  simp only [World.size_alloc] at o0
  generalize (w.alloc (.cells #[.bool false, .slice none 0 0] 32)).alloc (.cells #[] 3) = w1 at *
  go_loopw [3, 4] (fun m u wr => ∃ (L : List Int) (K : Int), u = .int .i64 K ∧ Hid (K.natAbs ≤ n.natAbs) ∧ L ++ digs K.natAbs = digs n.natAbs ∧ OwnI wr (w.heap.size + 1) m L ∧ Blk wr w.heap.size #[.bool false, .slice none 0 0] 32 ∧ Ext w wr) (fun _ u _ => (intOf u).natAbs)
  case atStart => exact ⟨[], n, rfl, Lib.hid (Nat.le_refl _), rfl, o0.out, k0.out, hx0⟩
  case round =>
    clear k0 o0 hx0
    obtain ⟨L, K, rfl, hUN, hL, hown, hb0, hxr⟩ := hrel
    obtain ⟨g, cp, rfl, hg1, hg2, hg3, hg4⟩ := hown.form
    have K0 := Lib.hid hb0
    have HL := Lib.hid hL
    clear hb0 hL
    by_cases hU : K = 0
    · subst hU
      have c0 := K0.out.cell (i := 0) (v := .bool false) rfl
      have c1 := K0.out.cell (i := 1) (v := .slice none 0 0) rfl
      have f0 := K0.out.free 0
      have f1 := K0.out.free 1
      clear hUN
      have hLN : L = digs n.natAbs := by have := HL.out; rw [Int.natAbs_zero, digs_zero, List.append_nil] at this; exact this
      subst hLN
      have hO := Lib.hid hown
      clear hown
      obtain ⟨s, hs⟩ : ∃ s, decide (n < 0) = s := ⟨_, rfl⟩
      rw [hs] at HB
      go_wp2_with fail
      have k2 := (K0.out.set 0 (.bool s)).set 1 (.slice (some ⟨g, 0, none⟩) (digs n.natAbs).length cp)
      have e0 := k2.cell (i := 0) (v := .bool s) rfl
      have e1 := k2.cell (i := 1) (v := .slice (some ⟨g, 0, none⟩) (digs n.natAbs).length cp) rfl
      clear c0 c1 f0 f1
      refine bodyPost_ret (v := .agg #[.bool s, .slice (some ⟨g, 0, none⟩) (digs n.natAbs).length cp]) (by simp [results, Tryz.results33, go_sem, e0, e1]) rfl ?_
      have hi := (hO.out.ints (fun x hx => by have := HD.out x hx; omega)).2
      exact ⟨_, rfl, ⟨_, _, cp, digs n.natAbs, rfl, (hi.put (p := ⟨w.heap.size, 0, none⟩) (by dsimp only; omega) _).put (p := ⟨w.heap.size, 1, none⟩) (by dsimp only; omega) _, HB.out, fun A hA => by cases hA; dsimp only; omega⟩, (by repeat (first | with_reducible exact Ext.refl _ | with_reducible assumption | with_reducible refine Ext.drewN ?_ _ | with_reducible refine Ext.drew ?_ | with_reducible refine Ext.alloc' ?_ _ | with_reducible refine Ext.set ?_ (by dsimp only; omega) _))⟩
    · have t1 : (K != 0) = true := by simpa using hU
      have t2 : (K == 0) = false := by simpa using hU
      obtain ⟨R, hR⟩ : ∃ R, K.tmod 1073741824 = R := ⟨_, rfl⟩
      obtain ⟨Q, hQ⟩ : ∃ Q, K.tdiv 1073741824 = Q := ⟨_, rfl⟩
      have hRn : R.natAbs = K.natAbs % 1073741824 := by rw [← hR, Int.natAbs_tmod]; rfl
      have hQn : Q.natAbs = K.natAbs / 1073741824 := by rw [← hQ, Int.natAbs_tdiv]; rfl
      have hdL := digs_pos (u := K.natAbs) (by omega)
      have HQ := Lib.hid hQn
      have hLl : L.length ≤ 3 := by have := congrArg List.length HL.out; rw [List.length_append] at this; omega
      by_cases hneg : R < 0
      · have d1 : decide (R < 0) = true := by simpa using hneg
        have b1 : -1073741824 < R := by omega
        have e1 : ((K.natAbs % 1073741824 : Nat) : Int) = -R := by omega
        rw [e1] at hdL
        have HDL := Lib.hid hdL
        have hq1 : -1000000000000 < Q ∧ Q < 1000000000000 := by have := hUN.out; have := H1.out; omega
        obtain ⟨q1, q2⟩ := hq1
        clear hRn hQn hdL e1
        go_wp2_with (at_builtin; refine wpList_append_own_at _ rfl (.tmp 18) (.tmp 20) 27 rfl (w.heap.size + 1) 3 i0 (.int .i64 0) 1 8 Tryz.underlying27 hi0 hz0 hz1 hz2 rfl (by decide) _ _ _ rfl (hown.own.alloc _) ⟨wr.heap.size, 0, none⟩ 1 1 [.int .i64 (-R)] rfl rfl (World.news_of_block (cs := #[.int .i64 (-R)]) (t := 3) (fr := (0, 0)) (heap_alloc_new wr _)) (by simp [Value.oneCell']) (by unfold maxLen; omega) (by omega) (by simp; omega) ?_; intro v2 w3 hown2 hgrow2 hnil2 hat2)
        have hE : Ext w w3 := Below.grown (hxr.alloc' (.cells #[.int .i64 ((-R))] 3)) hgrow2 (by have := hxr.size; simp; omega) (fun j e => by have := own_base hown.own e; omega)
        have hO : OwnI w3 (w.heap.size + 1) v2 (L ++ [(-R)]) := ⟨fun e => absurd (hnil2.1 e).2 (by omega), by simpa using hown2⟩
        have K0 := Lib.hid (Blk.own2 (K0.out.alloc (.cells #[.int .i64 ((-R))] 3)) hgrow2 (fun e => by have := own_base hown.own e; omega))
        clear hown2 hgrow2 hnil2 hat2 hown
        go_wp2_with fail
        go_roundw
        case rel => exact ⟨L ++ [(-R)], Q, rfl, Lib.hid (by have := hUN.out; rw [HQ.out]; omega), by rw [← HL.out, HDL.out, HQ.out]; simp, hO, K0.out, hE⟩
        case measure => have := HQ.out; simp [intOf]; omega
      · have d1 : decide (R < 0) = false := by simpa using hneg
        have b1 : R < 1073741824 := by omega
        have b0 : 0 ≤ R := by omega
        have e1 : ((K.natAbs % 1073741824 : Nat) : Int) = R := by omega
        rw [e1] at hdL
        have HDL := Lib.hid hdL
        have hq1 : -1000000000000 < Q ∧ Q < 1000000000000 := by have := hUN.out; have := H1.out; omega
        obtain ⟨q1, q2⟩ := hq1
        clear hRn hQn hdL e1
        go_wp2_with (at_builtin; refine wpList_append_own_at _ rfl (.tmp 18) (.tmp 20) 27 rfl (w.heap.size + 1) 3 i0 (.int .i64 0) 1 8 Tryz.underlying27 hi0 hz0 hz1 hz2 rfl (by decide) _ _ _ rfl (hown.own.alloc _) ⟨wr.heap.size, 0, none⟩ 1 1 [.int .i64 R] rfl rfl (World.news_of_block (cs := #[.int .i64 R]) (t := 3) (fr := (0, 0)) (heap_alloc_new wr _)) (by simp [Value.oneCell']) (by unfold maxLen; omega) (by omega) (by simp; omega) ?_; intro v2 w3 hown2 hgrow2 hnil2 hat2)
        have hE : Ext w w3 := Below.grown (hxr.alloc' (.cells #[.int .i64 (R)] 3)) hgrow2 (by have := hxr.size; simp; omega) (fun j e => by have := own_base hown.own e; omega)
        have hO : OwnI w3 (w.heap.size + 1) v2 (L ++ [R]) := ⟨fun e => absurd (hnil2.1 e).2 (by omega), by simpa using hown2⟩
        have K0 := Lib.hid (Blk.own2 (K0.out.alloc (.cells #[.int .i64 (R)] 3)) hgrow2 (fun e => by have := own_base hown.own e; omega))
        clear hown2 hgrow2 hnil2 hat2 hown
        go_wp2_with fail
        go_roundw
        case rel => exact ⟨L ++ [R], Q, rfl, Lib.hid (by have := hUN.out; rw [HQ.out]; omega), by rw [← HL.out, HDL.out, HQ.out]; simp, hO, K0.out, hE⟩
        case measure => have := HQ.out; simp [intOf]; omega
end Go.Proofs.YtmcbbhlglccmgaaGreat
