import Derived.Test.YtnpeakahiedeoaaGreatDoorQ5
import Derived.Test.YtnpeakahiedeoaaGreatDoorQM1
import Derived.Test.YtnpeakahiedeoaaGreatDoorQM2
import Derived.Test.YtnpeakahiedeoaaGreatDoorQS
namespace Go.Proofs.YtnpeakahiedeoaaGreatDoor
open Go.RowKit Go BigFrame
set_option maxRecDepth 100000
set_option linter.unusedSimpArgs false
set_option linter.unusedVariables false

/-! Quo by 0; law10.small, is; what both programs hand back. -/
set_option maxHeartbeats 1000000 in
theorem ratio_Quo_arg {v u : Value} {r : Rat} {w : World} (hv : RatV w v r) (hu : RatV w u 0) (l1 : Len r.num) (l2 : Len (r.den : Int)) : Calls Tryz.prog 39 #[v, u] w (RatE 1 w) := by
  obtain ⟨nx, ax, qx, cx, bx, kx, dx, rfl⟩ := hv.form
  obtain ⟨ny, ay, qy, cy, by_, ky, dy, rfl⟩ := hu.form
  obtain rfl : qy = 0 := hu.num_len.2 rfl
  have Vx := Lib.hid hv
  have Vy := Lib.hid hu
  have L0 := Lib.hid (And.intro l1 (And.intro l2 (And.intro (show Len (0 : Rat).num from len_small (by decide)) (show Len (((0 : Rat).den : Nat) : Int) from len_small (by decide)))))
  clear hv hu l1 l2
  obtain ⟨x1, hw, hx, Kx, Ky, Kr, Ke⟩ := boxQ4 w #[.bool nx, .slice ax qx cx, .bool false, .slice bx kx dx] 26 #[.bool ny, .slice ay 0 cy, .bool false, .slice by_ ky dy] 26 #[.bool false, .slice none 0 0, .bool false, .slice none 0 0] 26 #[.int .i64 0] 30
  replace hw := Lib.hid hw
  have Vx := Lib.hid (Vx.out.ext hx)
  have Vy := Lib.hid (Vy.out.ext hx)
  go_enter_defers Tryz.func39, Tryz.ntmps39
  go_upto_region 1 with fail
  try simp only [Nat.add_assoc, Nat.reduceAdd, Nat.add_zero]
  rw [hw.out]
  clear hw
  have hs0 := hx.size
  obtain ⟨cx0, cx1, cx2, cx3⟩ := bk4 Kx
  obtain ⟨cy0, cy1, cy2, cy3⟩ := bk4 Ky
  obtain ⟨cr0, cr1, cr2, cr3⟩ := bk4 Kr
  have ce0 := bk1 Ke
  have hl := Ext.alloc x1 (.cells #[.bool nx, .slice ax qx cx, .bool false, .slice bx kx dx, .bool ny, .slice ay 0 cy, .bool false, .slice by_ ky dy] 26)
  have hKK := Blk.new0 x1 #[.bool nx, .slice ax qx cx, .bool false, .slice bx kx dx, .bool ny, .slice ay 0 cy, .bool false, .slice by_ ky dy] 26
  have hlx := hx.trans hl
  have HTT := Lib.hid (valid2_val hKK (Vx.out.ext hl) (Vy.out.ext hl) L0.out.1 L0.out.2.1 L0.out.2.2.1 L0.out.2.2.2)
  clear hKK hlx
  go_wp2_with fail
  with_reducible refine (HTT.out).mono ?_
  clear cx0 cx1 cx2 cx3 cy0 cy1 cy2 cy3 cr0 cr1 cr2 cr3 ce0
  rintro e x2 ⟨rfl, hy⟩
  replace hy := hl.trans hy
  replace hx := hx.trans hy
  replace Kx := kE Kx hy
  replace Ky := kE Ky hy
  replace Kr := kE Kr hy
  replace Ke := kE Ke hy
  replace Vx := Lib.hid (Vx.out.ext hy)
  replace Vy := Lib.hid (Vy.out.ext hy)
  clear hy HTT hl
  obtain ⟨cx0, cx1, cx2, cx3⟩ := bk4 Kx
  obtain ⟨cy0, cy1, cy2, cy3⟩ := bk4 Ky
  obtain ⟨cr0, cr1, cr2, cr3⟩ := bk4 Kr
  have ce0 := bk1 Ke
  go_wp2_with fail
  with_reducible refine (ratio_need_no 1 _).mono ?_
  clear cx0 cx1 cx2 cx3 cy0 cy1 cy2 cy3 cr0 cr1 cr2 cr3 ce0
  rintro e x3 ⟨rfl, hy⟩
  replace hx := hx.trans hy
  replace Kx := kE Kx hy
  replace Ky := kE Ky hy
  replace Kr := kE Kr hy
  replace Ke := kE Ke hy
  replace Vx := Lib.hid (Vx.out.ext hy)
  replace Vy := Lib.hid (Vy.out.ext hy)
  clear hy
  clear Vx Vy
  clear Kx Ky
  go_wp2_with fail
  refine leaves_cons (f := 49) (args := #[.pointer (some ⟨w.heap.size + 3, 0, none⟩)]) (by simp) (by simp [go_sem]) ?_
  refine (ratio_caught_panicking ⟨w.heap.size + 3, 0, none⟩ 0 1 [] _ (Ke.out.cell (i := 0) rfl) (Ke.out.free 0)).mono ?_
  rintro e u' w'' ⟨rfl, rfl, rfl⟩
  replace hx := bx1 hx (w.heap.size + 3) (.int .i64 1) (by omega)
  replace Kr := bo1 Kr (w.heap.size + 3) (.int .i64 1) (by omega)
  replace Ke := bs1 Ke (.int .i64 1)
  obtain ⟨cr0, cr1, cr2, cr3⟩ := bk4 Kr
  have ce0 := bk1 Ke
  simp [Leaves, settle, results, Tryz.results39, go_sem, cr0, cr1, cr2, cr3, ce0]
  exact ⟨rfl, hx⟩
set_option maxHeartbeats 1000000 in
theorem law_small (n d : Int) (w : World) (hn : -9223372036854775808 ≤ n ∧ n ≤ 9223372036854775807) (hd : -9223372036854775808 ≤ d ∧ d ≤ 9223372036854775807) (h0 : d ≠ 0) : Calls Tryz.prog 45 #[.int .i64 n, .int .i64 d] w fun e w' => ∃ v, e = .returned (.tuple #[v, .bool true]) ∧ RatN w' v (Rat.divInt n d) w.heap.size ∧ Ext w w' := by
  have HM := Lib.hid (fun W => ratio_Make n d W hn hd h0)
  clear hn hd h0
  obtain ⟨x1, hw, hx, Kr⟩ := boxQ1 w #[.bool false, .slice none 0 0, .bool false, .slice none 0 0] 26
  replace hw := Lib.hid hw
  go_enter Tryz.func45, Tryz.ntmps45
  go_upto_region 1 with fail
  try simp only [Nat.add_assoc, Nat.reduceAdd, Nat.add_zero]
  rw [hw.out]
  clear hw
  have hs0 := hx.size
  obtain ⟨cr0, cr1, cr2, cr3⟩ := bk4 Kr
  have hsz := hx.size
  go_wp2_with fail
  with_reducible refine (HM.out _).mono ?_
  clear cr0 cr1 cr2 cr3
  rintro e x2 ⟨v, rfl, hv, hy⟩
  replace hx := hx.trans hy
  replace Kr := kE Kr hy
  clear hy
  obtain ⟨nv, av, qv, cv, bv, kv, dv, rfl, hv', hf', hg'⟩ := hv
  have Vv := Lib.hid hv'
  have Fv := Lib.hid (fun A hA => Nat.le_trans hsz (hf' A hA))
  have Gv := Lib.hid (fun A hA => Nat.le_trans hsz (hg' A hA))
  clear hv' hf' hg' hsz
  obtain ⟨cr0, cr1, cr2, cr3⟩ := bk4 Kr
  obtain ⟨g0, z0, g1, z1, g2, z2, g3, z3⟩ := bp4 Kr (.bool nv) (.slice av qv cv) (.bool false) (.slice bv kv dv)
  go_upto_region 2 with fail
  clear g0 z0 g1 z1 g2 z2 g3 z3
  clear cr0 cr1 cr2 cr3
  replace Vv := (by first | exact rv4 Vv Kr (.bool nv) (.slice av qv cv) (.bool false) (.slice bv kv dv) rfl rfl rfl rfl | exact bv4 Vv Kr (.bool nv) (.slice av qv cv) (.bool false) (.slice bv kv dv) rfl rfl rfl rfl)
  replace hx := bx4 hx (w.heap.size) (.bool nv) (.slice av qv cv) (.bool false) (.slice bv kv dv) (by omega)
  replace Kr := bs4 Kr (.bool nv) (.slice av qv cv) (.bool false) (.slice bv kv dv)
  generalize ((((x2).setCell ⟨w.heap.size, 0, none⟩ (.bool nv)).setCell ⟨w.heap.size, 1, none⟩ (.slice av qv cv)).setCell ⟨w.heap.size, 2, none⟩ (.bool false)).setCell ⟨w.heap.size, 3, none⟩ (.slice bv kv dv) = x3 at *
  obtain ⟨cr0, cr1, cr2, cr3⟩ := bk4 Kr
  obtain ⟨g0, z0, g1, z1, g2, z2, g3, z3⟩ := bp4 Kr (.bool nv) (.slice av qv cv) (.bool false) (.slice bv kv dv)
  go_wp2_with fail
  clear g0 z0 g1 z1 g2 z2 g3 z3
  clear cr0 cr1 cr2 cr3
  replace Vv := (by first | exact rv4 Vv Kr (.bool nv) (.slice av qv cv) (.bool false) (.slice bv kv dv) rfl rfl rfl rfl | exact bv4 Vv Kr (.bool nv) (.slice av qv cv) (.bool false) (.slice bv kv dv) rfl rfl rfl rfl)
  replace hx := bx4 hx (w.heap.size) (.bool nv) (.slice av qv cv) (.bool false) (.slice bv kv dv) (by omega)
  replace Kr := bs4 Kr (.bool nv) (.slice av qv cv) (.bool false) (.slice bv kv dv)
  generalize ((((x3).setCell ⟨w.heap.size, 0, none⟩ (.bool nv)).setCell ⟨w.heap.size, 1, none⟩ (.slice av qv cv)).setCell ⟨w.heap.size, 2, none⟩ (.bool false)).setCell ⟨w.heap.size, 3, none⟩ (.slice bv kv dv) = x4 at *
  obtain ⟨cr0, cr1, cr2, cr3⟩ := bk4 Kr
  refine bodyPost_ret (v := .tuple #[.agg #[.bool nv, .slice av qv cv, .bool false, .slice bv kv dv], .bool true]) (by simp [results, Tryz.results45, go_sem, cr0, cr1, cr2, cr3]) rfl ?_
  exact ⟨_, rfl, ⟨_, _, _, _, _, _, _, rfl, Vv.out, Fv.out, Gv.out⟩, hx⟩
set_option maxHeartbeats 1000000 in
theorem law_is {v : Value} {r : Rat} {w : World} (n d : Int) (hv : RatV w v r) (hn : r.num = n ∧ (r.den : Int) = d) (h1 : -1073741824 < n ∧ n < 1073741824) (h2 : -1073741824 < d ∧ d < 1073741824) : Calls Tryz.prog 46 #[v, .int .i64 0, .int .i64 n, .int .i64 d] w fun e w' => e = .returned (.bool true) ∧ Ext w w' := by
  obtain ⟨nx, ax, qx, cx, bx, kx, dx, rfl⟩ := hv.form
  have Vx := Lib.hid hv
  have HN := Lib.hid (And.intro hn (And.intro h1 h2))
  clear hv hn h1 h2
  obtain ⟨x1, hw, hx, Kx⟩ := boxQ1 w #[.bool nx, .slice ax qx cx, .bool false, .slice bx kx dx] 26
  replace hw := Lib.hid hw
  have Vx := Lib.hid (Vx.out.ext hx)
  go_enter Tryz.func46, Tryz.ntmps46
  go_upto_region 1 with fail
  try simp only [Nat.add_assoc, Nat.reduceAdd, Nat.add_zero]
  rw [hw.out]
  clear hw
  have hs0 := hx.size
  have s0 : World.cell? x1 ⟨w.heap.size, 0, none⟩ = some (.bool nx) := Kx.out.cell (i := 0) rfl
  have s1 : World.cell? x1 ⟨w.heap.size, 1, none⟩ = some (.slice ax qx cx) := Kx.out.cell (i := 1) rfl
  have s2 : World.cell? x1 ⟨w.heap.size, 2, none⟩ = some (.bool false) := Kx.out.cell (i := 2) rfl
  have s3 : World.cell? x1 ⟨w.heap.size, 3, none⟩ = some (.slice bx kx dx) := Kx.out.cell (i := 3) rfl
  have hE : Ext x1 (World.drew x1) := (Ext.refl _).drew
  have hyd : Ext x1 (World.drew x1) := (Ext.refl _).drew
  replace hx := hx.trans hyd
  replace Kx := kE Kx hyd
  replace Vx := Lib.hid (Vx.out.ext hyd)
  clear hyd
  replace s0 : World.cell? (World.drew x1) ⟨w.heap.size, 0, none⟩ = some (.bool nx) := s0
  replace s1 : World.cell? (World.drew x1) ⟨w.heap.size, 1, none⟩ = some (.slice ax qx cx) := s1
  replace s2 : World.cell? (World.drew x1) ⟨w.heap.size, 2, none⟩ = some (.bool false) := s2
  replace s3 : World.cell? (World.drew x1) ⟨w.heap.size, 3, none⟩ = some (.slice bx kx dx) := s3
  refine wp_region_held_drew (S := (fun w' => World.cell? w' ⟨w.heap.size, 0, none⟩ = some (.bool nx) ∧ World.cell? w' ⟨w.heap.size, 1, none⟩ = some (.slice ax qx cx) ∧ World.cell? w' ⟨w.heap.size, 2, none⟩ = some (.bool false) ∧ World.cell? w' ⟨w.heap.size, 3, none⟩ = some (.slice bx kx dx))) (by kernel_rfl) ?_ (fun hHeld => ?_)
  · exact ⟨s0, s1, s2, s3⟩
  (try simp only [← List.toArray_replicate, List.size_toArray, List.length_cons, List.length_nil, Nat.reduceAdd, List.replicate_succ, List.replicate_zero])
  generalize World.drew x1 = x2 at *
  refine wpAnyH_take (i := 0) (oi := _) (v := ?_) rfl (by kernel_rfl) (by kernel_rfl) (by kernel_rfl) (fun _ _ _ h => h) (Or.inl ⟨by rfl, ?_⟩) (by assumption) ?_
  rotate_left
  · (intro w hSw; (try dsimp only at hSw); (try go_simp); (try with_reducible rfl))
  (try simp only [Act.put, List.getElem_toArray, List.getElem_cons_succ, List.getElem_cons_zero, List.setIfInBounds_toArray, List.set_cons_zero, List.set_cons_succ])
  refine wpAnyH_take (i := 1) (oi := _) (v := ?_) rfl (by kernel_rfl) (by kernel_rfl) (by kernel_rfl) (fun _ _ _ h => h) (Or.inl ⟨by rfl, ?_⟩) (by assumption) ?_
  rotate_left
  · (intro w hSw; (try dsimp only at hSw); (try go_simp); (try with_reducible rfl))
  (try simp only [Act.put, List.getElem_toArray, List.getElem_cons_succ, List.getElem_cons_zero, List.setIfInBounds_toArray, List.set_cons_zero, List.set_cons_succ])
  refine wpAnyH_take (i := 2) (oi := _) (v := ?_) rfl (by kernel_rfl) (by kernel_rfl) (by kernel_rfl) (fun _ _ _ h => h) (Or.inl ⟨by rfl, ?_⟩) (by assumption) ?_
  rotate_left
  · (intro w hSw; (try dsimp only at hSw); (try go_simp); (try with_reducible rfl))
  (try simp only [Act.put, List.getElem_toArray, List.getElem_cons_succ, List.getElem_cons_zero, List.setIfInBounds_toArray, List.set_cons_zero, List.set_cons_succ])
  refine wpAnyH_take (i := 3) (oi := _) (v := ?_) rfl (by kernel_rfl) (by kernel_rfl) (by kernel_rfl) (fun _ _ _ h => h) (Or.inl ⟨by rfl, ?_⟩) (by assumption) ?_
  rotate_left
  · (intro w hSw; (try dsimp only at hSw); (try go_simp); (try with_reducible rfl))
  (try simp only [Act.put, List.getElem_toArray, List.getElem_cons_succ, List.getElem_cons_zero, List.setIfInBounds_toArray, List.set_cons_zero, List.set_cons_succ])
  refine wpAnyH_take (i := 4) (oi := _) (v := ?_) rfl (by kernel_rfl) (by kernel_rfl) (by kernel_rfl) (fun _ _ _ h => h) (Or.inl ⟨by rfl, ?_⟩) (by assumption) ?_
  rotate_left
  · (intro w hSw; (try dsimp only at hSw); (try go_simp); (try with_reducible rfl))
  (try simp only [Act.put, List.getElem_toArray, List.getElem_cons_succ, List.getElem_cons_zero, List.setIfInBounds_toArray, List.set_cons_zero, List.set_cons_succ])
  refine wpAnyH_take (i := 6) (oi := _) (v := ?_) rfl (by kernel_rfl) (by kernel_rfl) (by kernel_rfl) (fun _ _ _ h => h) (Or.inl ⟨by rfl, ?_⟩) (by assumption) ?_
  rotate_left
  · (intro w hSw; (try dsimp only at hSw); (try go_simp); (try with_reducible rfl))
  (try simp only [Act.put, List.getElem_toArray, List.getElem_cons_succ, List.getElem_cons_zero, List.setIfInBounds_toArray, List.set_cons_zero, List.set_cons_succ])
  refine wpAnyH_ready (rs := [5]) (by kernel_rfl) (by simp) ?_
  refine AllReadyH.cons (o := _) rfl (fun K hK => ?_) ?_
  · go_simp
    (with_reducible refine (law_big n _ HN.out.2.1).mono ?_); rintro e x3 ⟨v, rfl, hv, hy⟩; replace hE := hE.trans hy; replace hx := hx.trans hy; replace s0 := cell_exQ hy s0; replace s1 := cell_exQ hy s1; replace s2 := cell_exQ hy s2; replace s3 := cell_exQ hy s3; replace Kx := kE Kx hy; replace Vx := Lib.hid (Vx.out.ext hy); clear hy; obtain ⟨np, ap, qp, cp, rfl⟩ := hv.form; have Vp := Lib.hid hv; clear hv
    refine hK.out _ _ ?_ (fun hHeld2 => ?_)
    · exact ⟨s0, s1, s2, s3⟩
    clear hK K hHeld
    have hHeld := hHeld2
    clear hHeld2
    (try simp only [Act.put, List.getElem_toArray, List.getElem_cons_succ, List.getElem_cons_zero, List.setIfInBounds_toArray, List.set_cons_zero, List.set_cons_succ])
    refine wpAnyH_ready (rs := [7]) (by kernel_rfl) (by simp) ?_
    refine AllReadyH.cons (o := _) rfl (fun K hK => ?_) ?_
    · go_simp
      (with_reducible refine (law_big d _ HN.out.2.2).mono ?_); rintro e x4 ⟨v, rfl, hv, hy⟩; replace hE := hE.trans hy; replace hx := hx.trans hy; replace s0 := cell_exQ hy s0; replace s1 := cell_exQ hy s1; replace s2 := cell_exQ hy s2; replace s3 := cell_exQ hy s3; replace Kx := kE Kx hy; replace Vx := Lib.hid (Vx.out.ext hy); replace Vp := Lib.hid (Vp.out.ext hy); clear hy; obtain ⟨nq, aq, qq, cq, rfl⟩ := hv.form; have Vq := Lib.hid hv; clear hv
      refine hK.out _ _ ?_ (fun hHeld2 => ?_)
      · exact ⟨s0, s1, s2, s3⟩
      clear hK K hHeld
      have hHeld := hHeld2
      clear hHeld2
      (try simp only [Act.put, List.getElem_toArray, List.getElem_cons_succ, List.getElem_cons_zero, List.setIfInBounds_toArray, List.set_cons_zero, List.set_cons_succ])
      refine wpAnyH_take (i := 8) (oi := _) (v := ?_) rfl (by kernel_rfl) (by kernel_rfl) (by kernel_rfl) (fun _ _ _ h => h) (Or.inl ⟨by rfl, ?_⟩) (by assumption) ?_
      rotate_left
      · (intro w hSw; (try dsimp only at hSw); (try go_simp); (try with_reducible rfl))
      (try simp only [Act.put, List.getElem_toArray, List.getElem_cons_succ, List.getElem_cons_zero, List.setIfInBounds_toArray, List.set_cons_zero, List.set_cons_succ])
      refine wpAnyH_ready (rs := [9]) (by kernel_rfl) (by simp) ?_
      refine AllReadyH.cons (o := _) rfl (fun K hK => ?_) ?_
      · go_simp
        (with_reducible refine (same_val Vx.out.num Vx.out.den Vp.out Vq.out).mono ?_); rintro e x5 ⟨rfl, hy⟩; replace hE := hE.trans hy; replace hx := hx.trans hy; replace s0 := cell_exQ hy s0; replace s1 := cell_exQ hy s1; replace s2 := cell_exQ hy s2; replace s3 := cell_exQ hy s3; replace Kx := kE Kx hy; replace Vx := Lib.hid (Vx.out.ext hy); replace Vp := Lib.hid (Vp.out.ext hy); replace Vq := Lib.hid (Vq.out.ext hy); clear hy; rw [decide_eq_true (show r.num = n ∧ (r.den : Int) = d from HN.out.1)]
        refine hK.out _ _ ?_ (fun hHeld2 => ?_)
        · exact ⟨s0, s1, s2, s3⟩
        clear hK K hHeld
        have hHeld := hHeld2
        clear hHeld2
        (try simp only [Act.put, List.getElem_toArray, List.getElem_cons_succ, List.getElem_cons_zero, List.setIfInBounds_toArray, List.set_cons_zero, List.set_cons_succ])
        refine wpAnyH_take (i := 10) (oi := _) (v := ?_) rfl (by kernel_rfl) (by kernel_rfl) (by kernel_rfl) (fun _ _ _ h => h) (Or.inl ⟨by rfl, ?_⟩) (by assumption) ?_
        rotate_left
        · (intro w hSw; (try dsimp only at hSw); (try go_simp); (try with_reducible rfl))
        (try simp only [Act.put, List.getElem_toArray, List.getElem_cons_succ, List.getElem_cons_zero, List.setIfInBounds_toArray, List.set_cons_zero, List.set_cons_succ])
        refine wpAnyH_take (i := 11) (oi := _) (v := ?_) rfl (by kernel_rfl) (by kernel_rfl) (by kernel_rfl) (fun _ _ _ h => h) (Or.inl ⟨by rfl, ?_⟩) (by assumption) ?_
        rotate_left
        · (intro w hSw; (try dsimp only at hSw); (try go_simp); (try with_reducible rfl))
        (try simp only [Act.put, List.getElem_toArray, List.getElem_cons_succ, List.getElem_cons_zero, List.setIfInBounds_toArray, List.set_cons_zero, List.set_cons_succ])
        refine wpAnyH_done (by kernel_rfl) ?_ _
        go_wp2_with fail
        go_ret
        exact ⟨rfl, hx⟩
      exact AllReadyH.nil
    exact AllReadyH.nil
  exact AllReadyH.nil
/-- A result and an error. -/
def ResP (z y E : Int) (w : World) (e : Ending) (w' : World) : Prop := ∃ (n : Bool) (a : Option Addr) (q c : Nat) (m : Bool) (b : Option Addr) (k d : Nat), e = .returned (.tuple #[.agg #[.bool n, .slice a q c, .bool m, .slice b k d], .int .i64 E]) ∧ BigV w' (.agg #[.bool n, .slice a q c]) z ∧ BigV w' (.agg #[.bool m, .slice b k d]) y ∧ Ext w w'
theorem ResP.ok {r : Rat} {w w' : World} {e : Ending} (h : RatP r w e w') : ResP r.num r.den 0 w e w' := by
  obtain ⟨v, he, ⟨n, a, q, c, b, k, d, rfl, hv, _⟩, hx⟩ := h
  exact ⟨n, a, q, c, false, b, k, d, he, hv.num, hv.den, hx⟩
/-- Both programs, from any later world on, hand back the same. -/
def BothR (f g : FuncId) (args : Array Value) (w : World) : Prop := ∃ z y E : Int, ∀ W, Ext w W → Calls Tryz.prog f args W (ResP z y E W) ∧ Calls Tryz.prog g args W (ResP z y E W)
/-- The parts of a ratio, in memory. -/
structure RatI (w : World) (x : RatA) : Prop where
  i : Ints w x.a x.c x.l
  j : Ints w x.b x.d x.m
theorem RatI.ext {w w' : World} {x : RatA} (h : RatI w x) (k : Ext w w') : RatI w' x := ⟨h.i.ext k, h.j.ext k⟩
def fewR (x : RatA) : Bool := fewQ x.l.length 6 && fewQ x.m.length 6
/-- Valid ratios among those: at most 6 digits. -/
theorem few_sz {x : RatA} (ho : x.ok = true) (hf : fewR x = true) : ∃ r : Rat, Sz r 6 ∧ ∀ w, RatI w x → RatV w x.val r := by
  obtain ⟨r, h1, h2, h3, h4, h5, h6⟩ := okR_rat ho
  unfold fewR fewQ at hf
  simp only [Bool.and_eq_true, Bool.or_eq_true, decide_eq_true_eq] at hf
  have m1 : (1073741824 : Nat) ^ x.l.length ≤ 1073741824 ^ 6 := Nat.pow_le_pow_right (by omega) (by omega)
  have m2 : (1073741824 : Nat) ^ x.m.length ≤ 1073741824 ^ 6 := Nat.pow_le_pow_right (by omega) (by omega)
  exact ⟨r, ⟨Nat.lt_of_lt_of_le h3 m1, Nat.lt_of_lt_of_le h4 m2⟩, fun w hi => ok_val hi.i hi.j h1 h2⟩
/-- An integer and an error. -/
def PairQ (z E : Int) (w : World) (e : Ending) (w' : World) : Prop := ∃ (n : Bool) (a : Option Addr) (q c : Nat), e = .returned (.tuple #[.agg #[.bool n, .slice a q c], .int .i64 E]) ∧ BigV w' (.agg #[.bool n, .slice a q c]) z ∧ Ext w w'
theorem PairQ.one {z : Int} {w w' : World} {e : Ending} (h : OneP z w e w') : PairQ z 0 w e w' := by
  obtain ⟨v, he, hv, hx⟩ := h
  obtain ⟨n, a, q, c, rfl, hv, _⟩ := hv.two
  exact ⟨n, a, q, c, he, hv, hx⟩
end Go.Proofs.YtnpeakahiedeoaaGreatDoor
