import Derived.Test.YtpaaanbcadlhiaaDoorPLaw1
namespace Go.Proofs.YtpaaanbcadlhiaaDoor
open Go.RowKit Go BigFrame
set_option maxRecDepth 100000
set_option linter.unusedSimpArgs false
set_option linter.unusedVariables false

set_option maxHeartbeats 1000000 in
theorem law_Choose0 (n k : Int) (w : World) (hn : 0 ≤ n ∧ n ≤ 255) (h2 : 200 < n) : Calls Tryd.prog 8 #[.int .u8 n, .int .u8 k] w fun e w' => e = .returned (.bool true) ∧ Ext w w' := by
  have hx := Ext.refl w
  go_enter Tryd.func8, Tryd.ntmps8
  go_wp2_with fail
  with_reducible refine (law09Sane _).mono ?_
  rintro e x1 ⟨rfl, hy⟩
  have hx := hx.trans hy
  clear hy
  have t1 : decide (200 < n) = true := by simpa using h2
  go_wp2_with fail
  go_ret
  exact ⟨rfl, hx⟩
set_option maxHeartbeats 1000000 in
theorem law_Choose1 (n : Nat) (k : Int) (w : World) (hn : n ≤ 200) (hk : 0 ≤ k ∧ k ≤ 255) : Calls Tryd.prog 8 #[.int .u8 n, .int .u8 k] w fun e w' => e = .returned (.bool true) ∧ Ext w w' := by
  have hx := Ext.refl w
  have HN := Lib.hid hn
  obtain ⟨hk0, hk1⟩ := hk
  have t1 : decide (200 < n) = false := by simp only [decide_eq_false_iff_not]; omega
  have t2 : decide ((200 : Int) < (n : Int)) = false := by simp only [decide_eq_false_iff_not]; omega
  have hnn : (n : Int) ≤ 200 := by omega
  have hw1 : IntKind.i64.wrap (k + 1) = k + 1 := IntWalk.i64_in _ (by omega)
  have hw2 : IntKind.i64.wrap ((n : Int) + 1) = (n : Int) + 1 := IntWalk.i64_in _ (by omega)
  have hw3 : IntKind.i64.wrap ((n : Int) - k) = (n : Int) - k := IntWalk.i64_in _ (by omega)
  go_enter Tryd.func8, Tryd.ntmps8
  go_wp2_with fail
  with_reducible refine (law09Sane _).mono ?_
  rintro e x2 ⟨rfl, hy⟩
  have hx := hx.trans hy
  clear hy
  go_upto_region 6 with fail
  have hl := Ext.alloc x2 (.cells #[.bool false] 49)
  have hx := hx.trans hl
  have KC := Lib.hid (Blk.new0 x2 #[.bool false] 49)
  clear hl
  generalize x2.alloc (.cells #[.bool false] 49) = x3 at *
  generalize x2.heap.size = cb at *
  go_wp2_with fail
  with_reducible refine (choose_any n k _ (by omega)).mono ?_
  rintro e x4 ⟨v, rfl, hv, hy⟩
  have hx := hx.trans hy
  have KC := Lib.hid (KC.out.ext hy)
  clear hy
  obtain ⟨no, ao, qo, co, rfl⟩ := hv.form
  have Vo := Lib.hid hv
  clear hv
  go_wp2_with fail
  with_reducible refine (of_val cb KC.out Vo.out (binZ_len k (by have := HN.out; omega))).mono ?_
  rintro e x5 ⟨rfl, hy⟩
  have hx := hx.trans hy
  have KC := Lib.hid (KC.out.ext hy)
  have Vo := Lib.hid (Vo.out.ext hy)
  clear hy
  go_upto_region 8 with fail
  have hl := Ext.alloc x5 (.cells #[.bool no, .slice ao qo co] 24)
  have hx := hx.trans hl
  have KC := Lib.hid (KC.out.ext hl)
  have Vo := Lib.hid (Vo.out.ext hl)
  have Ko := Lib.hid (Blk.new0 x5 #[.bool no, .slice ao qo co] 24)
  clear hl
  generalize x5.alloc (.cells #[.bool no, .slice ao qo co] 24) = x6 at *
  generalize x5.heap.size = po at *
  go_cut [9] (fun s9 wx => ∃ (p : Nat) (nj : Bool) (aj : Option Addr) (qj cj : Nat), s9 = .pointer (some ⟨p, 0, none⟩) ∧ Blk wx p #[.bool nj, .slice aj qj cj] 24 ∧ BigV wx (.agg #[.bool nj, .slice aj qj cj]) (binZ n k + binZ n (k + 1)) ∧ Ext x6 wx)
  case first =>
    have co0 := Ko.out.cell (i := 0) (v := .bool no) rfl
    have co1 := Ko.out.cell (i := 1) (v := .slice ao qo co) rfl
    have hpo : po < x6.heap.size := Ko.out.lt
    have hE : Ext x6 x6.drew := (Ext.refl _).drew
    refine wp_region_held_drew (S := (fun w' => w'.cell? ⟨po, 0, none⟩ = some (.bool no) ∧ w'.cell? ⟨po, 1, none⟩ = some (.slice ao qo co))) (by kernel_rfl) ?_ (fun hHeld => ?_)
    · (first | exact ⟨cell_ext hE co0, cell_ext hE co1⟩ | exact ⟨cell_ext (hEp.alloc' _) co0, cell_ext (hEp.alloc' _) co1⟩ | exact ⟨co0, co1⟩ | exact hHeld | exact ⟨cell_ext hy hHeld.1, cell_ext hy hHeld.2⟩ | exact ⟨cell_ext (Ext.alloc _ _) hHeld.1, cell_ext (Ext.alloc _ _) hHeld.2⟩ | exact ⟨by (rw [World.cell?_setCell_far _ _ _ _ (by dsimp only; omega), World.cell?_setCell_far _ _ _ _ (by dsimp only; omega)]; exact hHeld.1), by (rw [World.cell?_setCell_far _ _ _ _ (by dsimp only; omega), World.cell?_setCell_far _ _ _ _ (by dsimp only; omega)]; exact hHeld.2)⟩)
    refine wpAnyH_take (i := 0) (oi := _) (v := ?_) rfl (by kernel_rfl) (by kernel_rfl) (by kernel_rfl) (fun _ _ _ h => h) (Or.inl ⟨by rfl, ?_⟩) (by assumption) ?_
    rotate_left
    · (intro w hSw; (try dsimp only at hSw); (try go_simp); (try with_reducible rfl))
    (try simp only [Act.put, List.getElem_toArray, List.getElem_cons_succ, List.getElem_cons_zero, List.setIfInBounds_toArray, List.set_cons_zero, List.set_cons_succ])
    refine wpAnyH_take (i := 1) (oi := _) (v := ?_) rfl (by kernel_rfl) (by kernel_rfl) (by kernel_rfl) (fun _ _ _ h => h) (Or.inl ⟨by rfl, ?_⟩) (by assumption) ?_
    rotate_left
    · (intro w hSw; (try dsimp only at hSw); (try go_simp); (try with_reducible rfl))
    (try simp only [Act.put, List.getElem_toArray, List.getElem_cons_succ, List.getElem_cons_zero, List.setIfInBounds_toArray, List.set_cons_zero, List.set_cons_succ])
    refine wpAnyH_take (i := 2) (oi := _) (v := ?_) rfl (by kernel_rfl) (by kernel_rfl) (by kernel_rfl) (fun _ _ _ h => h) (Or.inl ⟨by rfl, ?_⟩) (by assumption) ?_
    rotate_left
    · (intro w hSw; (try dsimp only at hSw); (try go_simp); (try with_reducible rfl))
    (try simp only [Act.put, List.getElem_toArray, List.getElem_cons_succ, List.getElem_cons_zero, List.setIfInBounds_toArray, List.set_cons_zero, List.set_cons_succ])
    refine wpAnyH_take (i := 3) (oi := _) (v := ?_) rfl (by kernel_rfl) (by kernel_rfl) (by kernel_rfl) (fun _ _ _ h => h) (Or.inl ⟨by rfl, ?_⟩) (by assumption) ?_
    rotate_left
    · (intro w hSw; (try dsimp only at hSw); (try go_simp); (try with_reducible rfl))
    (try simp only [Act.put, List.getElem_toArray, List.getElem_cons_succ, List.getElem_cons_zero, List.setIfInBounds_toArray, List.set_cons_zero, List.set_cons_succ])
    refine wpAnyH_ready (rs := [4, 9]) (by kernel_rfl) (by simp) ?_
    refine AllReadyH.cons (o := _) rfl (fun K hK => ?_) ?_
    · go_simp
      (with_reducible refine (choose_any n (k + 1) _ (by have := HN.out; omega)).mono ?_); rintro e z1 ⟨v1, rfl, hv1, hy⟩; have hE := hE.trans hy; (try have hB9 := hB9.ext hy)
      refine hK.out _ _ ?_ (fun hHeld2 => ?_)
      · (first | exact ⟨cell_ext hE co0, cell_ext hE co1⟩ | exact ⟨cell_ext (hEp.alloc' _) co0, cell_ext (hEp.alloc' _) co1⟩ | exact ⟨co0, co1⟩ | exact hHeld | exact ⟨cell_ext hy hHeld.1, cell_ext hy hHeld.2⟩ | exact ⟨cell_ext (Ext.alloc _ _) hHeld.1, cell_ext (Ext.alloc _ _) hHeld.2⟩ | exact ⟨by (rw [World.cell?_setCell_far _ _ _ _ (by dsimp only; omega), World.cell?_setCell_far _ _ _ _ (by dsimp only; omega)]; exact hHeld.1), by (rw [World.cell?_setCell_far _ _ _ _ (by dsimp only; omega), World.cell?_setCell_far _ _ _ _ (by dsimp only; omega)]; exact hHeld.2)⟩)
      clear hK K hHeld
      have hHeld := hHeld2
      clear hHeld2
      (try simp only [Act.put, List.getElem_toArray, List.getElem_cons_succ, List.getElem_cons_zero, List.setIfInBounds_toArray, List.set_cons_zero, List.set_cons_succ])
      refine wpAnyH_take (i := 5) (oi := _) (v := ?_) rfl (by kernel_rfl) (by kernel_rfl) (by kernel_rfl) (fun _ _ _ h => h) (Or.inl ⟨by rfl, ?_⟩) (by assumption) ?_
      rotate_left
      · (intro w hSw; (try dsimp only at hSw); (try go_simp); (try with_reducible rfl))
      (try simp only [Act.put, List.getElem_toArray, List.getElem_cons_succ, List.getElem_cons_zero, List.setIfInBounds_toArray, List.set_cons_zero, List.set_cons_succ])
      refine wpAnyH_take (i := 6) (oi := _) (v := ?_) rfl (by kernel_rfl) (by kernel_rfl) (by kernel_rfl) (fun _ _ _ h => h) (Or.inl ⟨by rfl, ?_⟩) (by assumption) ?_
      rotate_left
      · (intro w hSw; (try dsimp only at hSw); (try go_simp); (try with_reducible rfl))
      (try simp only [Act.put, List.getElem_toArray, List.getElem_cons_succ, List.getElem_cons_zero, List.setIfInBounds_toArray, List.set_cons_zero, List.set_cons_succ])
      refine wpAnyH_ready (rs := [7, 9]) (by kernel_rfl) (by simp) ?_
      refine AllReadyH.cons (o := _) rfl (fun K hK => ?_) ?_
      · go_simp
        (with_reducible refine (of_val cb (KC.out.ext hE) hv1 (binZ_len _ (by have := HN.out; omega))).mono ?_); rintro e z2 ⟨rfl, hy⟩; have hE := hE.trans hy; (try have hv1 := hv1.ext hy); (try have hB9 := hB9.ext hy)
        refine hK.out _ _ ?_ (fun hHeld2 => ?_)
        · (first | exact ⟨cell_ext hE co0, cell_ext hE co1⟩ | exact ⟨cell_ext (hEp.alloc' _) co0, cell_ext (hEp.alloc' _) co1⟩ | exact ⟨co0, co1⟩ | exact hHeld | exact ⟨cell_ext hy hHeld.1, cell_ext hy hHeld.2⟩ | exact ⟨cell_ext (Ext.alloc _ _) hHeld.1, cell_ext (Ext.alloc _ _) hHeld.2⟩ | exact ⟨by (rw [World.cell?_setCell_far _ _ _ _ (by dsimp only; omega), World.cell?_setCell_far _ _ _ _ (by dsimp only; omega)]; exact hHeld.1), by (rw [World.cell?_setCell_far _ _ _ _ (by dsimp only; omega), World.cell?_setCell_far _ _ _ _ (by dsimp only; omega)]; exact hHeld.2)⟩)
        clear hK K hHeld
        have hHeld := hHeld2
        clear hHeld2
        (try simp only [Act.put, List.getElem_toArray, List.getElem_cons_succ, List.getElem_cons_zero, List.setIfInBounds_toArray, List.set_cons_zero, List.set_cons_succ])
        refine wpAnyH_ready (rs := [8, 9]) (by kernel_rfl) (by simp) ?_
        refine AllReadyH.cons (o := _) rfl (fun K hK => ?_) ?_
        · go_simp
          (try have hlt9 := hB9.lt); (with_reducible refine (calc_add cb _ (KC.out.ext hE) (Vo.out.ext hE) hv1 (binZ_len _ (by have := HN.out; omega)) (binZ_len _ (by have := HN.out; omega)) (by rw [← binZ_succ n hk0]; exact binZ_len _ (by have := HN.out; omega))).mono ?_); rintro e z3 ⟨v3, rfl, hv3, hy⟩; have hE := hE.trans hy; (try have hv1 := hv1.ext hy); (try have hB9 := hB9.ext hy); have hv3o := hv3.val; obtain ⟨nj, aj, qj, cj, rfl⟩ := hv3o.form
          refine hK.out _ _ ?_ (fun hHeld2 => ?_)
          · (first | exact ⟨cell_ext hE co0, cell_ext hE co1⟩ | exact ⟨cell_ext (hEp.alloc' _) co0, cell_ext (hEp.alloc' _) co1⟩ | exact ⟨co0, co1⟩ | exact hHeld | exact ⟨cell_ext hy hHeld.1, cell_ext hy hHeld.2⟩ | exact ⟨cell_ext (Ext.alloc _ _) hHeld.1, cell_ext (Ext.alloc _ _) hHeld.2⟩ | exact ⟨by (rw [World.cell?_setCell_far _ _ _ _ (by dsimp only; omega), World.cell?_setCell_far _ _ _ _ (by dsimp only; omega)]; exact hHeld.1), by (rw [World.cell?_setCell_far _ _ _ _ (by dsimp only; omega), World.cell?_setCell_far _ _ _ _ (by dsimp only; omega)]; exact hHeld.2)⟩)
          clear hK K hHeld
          have hHeld := hHeld2
          clear hHeld2
          (try simp only [Act.put, List.getElem_toArray, List.getElem_cons_succ, List.getElem_cons_zero, List.setIfInBounds_toArray, List.set_cons_zero, List.set_cons_succ])
          refine wpAnyH_ready (rs := [9]) (by kernel_rfl) (by simp) ?_
          refine AllReadyH.cons (o := _) rfl (fun K hK => ?_) ?_
          · go_simp
            have hEp := hE; obtain ⟨hE, hB9, hp9⟩ := alloc_facts hE #[.bool false, .slice none 0 0] 24; (try have hB9 : Blk (World.alloc (World.drew x6) _) x6.heap.size _ _ := hB9); (try have hv1 := hv1.ext (Ext.alloc _ (.cells #[.bool false, .slice none 0 0] 24))); (try have hv3 := hv3.ext (Ext.alloc _ (.cells #[.bool false, .slice none 0 0] 24)))
            refine hK.out _ _ ?_ (fun hHeld2 => ?_)
            · (first | exact ⟨cell_ext hE co0, cell_ext hE co1⟩ | exact ⟨cell_ext (hEp.alloc' _) co0, cell_ext (hEp.alloc' _) co1⟩ | exact ⟨co0, co1⟩ | exact hHeld | exact ⟨cell_ext hy hHeld.1, cell_ext hy hHeld.2⟩ | exact ⟨cell_ext (Ext.alloc _ _) hHeld.1, cell_ext (Ext.alloc _ _) hHeld.2⟩ | exact ⟨by (rw [World.cell?_setCell_far _ _ _ _ (by dsimp only; omega), World.cell?_setCell_far _ _ _ _ (by dsimp only; omega)]; exact hHeld.1), by (rw [World.cell?_setCell_far _ _ _ _ (by dsimp only; omega), World.cell?_setCell_far _ _ _ _ (by dsimp only; omega)]; exact hHeld.2)⟩)
            clear hK K hHeld
            have hHeld := hHeld2
            clear hHeld2
            (try simp only [Act.put, List.getElem_toArray, List.getElem_cons_succ, List.getElem_cons_zero, List.setIfInBounds_toArray, List.set_cons_zero, List.set_cons_succ])
            refine wpAnyH_ready (rs := [10]) (by kernel_rfl) (by simp) ?_
            refine AllReadyH.cons (o := _) rfl (fun K hK => ?_) ?_
            · go_simp
              have g0 := hB9.cell (i := 0) (v := .bool false) rfl; have g1 := (hB9.set 0 (.bool nj)).cell (i := 1) (v := .slice none 0 0) rfl; have q0 := hB9.free 0; have q1 := (hB9.set 0 (.bool nj)).free 1; go_simp
              refine hK.out _ _ ?_ (fun hHeld2 => ?_)
              · (first | exact ⟨cell_ext hE co0, cell_ext hE co1⟩ | exact ⟨cell_ext (hEp.alloc' _) co0, cell_ext (hEp.alloc' _) co1⟩ | exact ⟨co0, co1⟩ | exact hHeld | exact ⟨cell_ext hy hHeld.1, cell_ext hy hHeld.2⟩ | exact ⟨cell_ext (Ext.alloc _ _) hHeld.1, cell_ext (Ext.alloc _ _) hHeld.2⟩ | exact ⟨by (rw [World.cell?_setCell_far _ _ _ _ (by dsimp only; omega), World.cell?_setCell_far _ _ _ _ (by dsimp only; omega)]; exact hHeld.1), by (rw [World.cell?_setCell_far _ _ _ _ (by dsimp only; omega), World.cell?_setCell_far _ _ _ _ (by dsimp only; omega)]; exact hHeld.2)⟩)
              clear hK K hHeld
              have hHeld := hHeld2
              clear hHeld2
              (try simp only [Act.put, List.getElem_toArray, List.getElem_cons_succ, List.getElem_cons_zero, List.setIfInBounds_toArray, List.set_cons_zero, List.set_cons_succ])
              refine wpAnyH_done (by kernel_rfl) ?_ _
              (go_wp2_with fail; go_meet; first | exact ⟨_, nj, aj, qj, cj, rfl, Blk.new0 _ _ _, hv3o.ext (Ext.alloc _ _), hEp.alloc' _⟩ | exact ⟨_, nj, aj, qj, cj, rfl, (hB9.set 0 (.bool nj)).set 1 (.slice aj qj cj), (by first | exact hv3.boxed (Ext.refl _) (by dsimp only; omega) (by dsimp only; omega) _ _ | exact hv3o.later (Ext.alloc _ _) (Nat.le_refl _) (Nat.le_refl _) _ _), (hE.set (p := ⟨_, 0, none⟩) hp9 _).set (p := ⟨_, 1, none⟩) hp9 _⟩)
            exact AllReadyH.nil
          exact AllReadyH.nil
        refine AllReadyH.cons (o := _) rfl (fun K hK => ?_) ?_
        · go_simp
          have hEp := hE; obtain ⟨hE, hB9, hp9⟩ := alloc_facts hE #[.bool false, .slice none 0 0] 24; (try have hB9 : Blk (World.alloc (World.drew x6) _) x6.heap.size _ _ := hB9); (try have hv1 := hv1.ext (Ext.alloc _ (.cells #[.bool false, .slice none 0 0] 24))); (try have hv3 := hv3.ext (Ext.alloc _ (.cells #[.bool false, .slice none 0 0] 24)))
          refine hK.out _ _ ?_ (fun hHeld2 => ?_)
          · (first | exact ⟨cell_ext hE co0, cell_ext hE co1⟩ | exact ⟨cell_ext (hEp.alloc' _) co0, cell_ext (hEp.alloc' _) co1⟩ | exact ⟨co0, co1⟩ | exact hHeld | exact ⟨cell_ext hy hHeld.1, cell_ext hy hHeld.2⟩ | exact ⟨cell_ext (Ext.alloc _ _) hHeld.1, cell_ext (Ext.alloc _ _) hHeld.2⟩ | exact ⟨by (rw [World.cell?_setCell_far _ _ _ _ (by dsimp only; omega), World.cell?_setCell_far _ _ _ _ (by dsimp only; omega)]; exact hHeld.1), by (rw [World.cell?_setCell_far _ _ _ _ (by dsimp only; omega), World.cell?_setCell_far _ _ _ _ (by dsimp only; omega)]; exact hHeld.2)⟩)
          clear hK K hHeld
          have hHeld := hHeld2
          clear hHeld2
          (try simp only [Act.put, List.getElem_toArray, List.getElem_cons_succ, List.getElem_cons_zero, List.setIfInBounds_toArray, List.set_cons_zero, List.set_cons_succ])
          refine wpAnyH_ready (rs := [8]) (by kernel_rfl) (by simp) ?_
          refine AllReadyH.cons (o := _) rfl (fun K hK => ?_) ?_
          · go_simp
            (try have hlt9 := hB9.lt); (with_reducible refine (calc_add cb _ (KC.out.ext hE) (Vo.out.ext hE) hv1 (binZ_len _ (by have := HN.out; omega)) (binZ_len _ (by have := HN.out; omega)) (by rw [← binZ_succ n hk0]; exact binZ_len _ (by have := HN.out; omega))).mono ?_); rintro e z3 ⟨v3, rfl, hv3, hy⟩; have hE := hE.trans hy; (try have hv1 := hv1.ext hy); (try have hB9 := hB9.ext hy); have hv3o := hv3.val; obtain ⟨nj, aj, qj, cj, rfl⟩ := hv3o.form
            refine hK.out _ _ ?_ (fun hHeld2 => ?_)
            · (first | exact ⟨cell_ext hE co0, cell_ext hE co1⟩ | exact ⟨cell_ext (hEp.alloc' _) co0, cell_ext (hEp.alloc' _) co1⟩ | exact ⟨co0, co1⟩ | exact hHeld | exact ⟨cell_ext hy hHeld.1, cell_ext hy hHeld.2⟩ | exact ⟨cell_ext (Ext.alloc _ _) hHeld.1, cell_ext (Ext.alloc _ _) hHeld.2⟩ | exact ⟨by (rw [World.cell?_setCell_far _ _ _ _ (by dsimp only; omega), World.cell?_setCell_far _ _ _ _ (by dsimp only; omega)]; exact hHeld.1), by (rw [World.cell?_setCell_far _ _ _ _ (by dsimp only; omega), World.cell?_setCell_far _ _ _ _ (by dsimp only; omega)]; exact hHeld.2)⟩)
            clear hK K hHeld
            have hHeld := hHeld2
            clear hHeld2
            (try simp only [Act.put, List.getElem_toArray, List.getElem_cons_succ, List.getElem_cons_zero, List.setIfInBounds_toArray, List.set_cons_zero, List.set_cons_succ])
            refine wpAnyH_ready (rs := [10]) (by kernel_rfl) (by simp) ?_
            refine AllReadyH.cons (o := _) rfl (fun K hK => ?_) ?_
            · go_simp
              have g0 := hB9.cell (i := 0) (v := .bool false) rfl; have g1 := (hB9.set 0 (.bool nj)).cell (i := 1) (v := .slice none 0 0) rfl; have q0 := hB9.free 0; have q1 := (hB9.set 0 (.bool nj)).free 1; go_simp
              refine hK.out _ _ ?_ (fun hHeld2 => ?_)
              · (first | exact ⟨cell_ext hE co0, cell_ext hE co1⟩ | exact ⟨cell_ext (hEp.alloc' _) co0, cell_ext (hEp.alloc' _) co1⟩ | exact ⟨co0, co1⟩ | exact hHeld | exact ⟨cell_ext hy hHeld.1, cell_ext hy hHeld.2⟩ | exact ⟨cell_ext (Ext.alloc _ _) hHeld.1, cell_ext (Ext.alloc _ _) hHeld.2⟩ | exact ⟨by (rw [World.cell?_setCell_far _ _ _ _ (by dsimp only; omega), World.cell?_setCell_far _ _ _ _ (by dsimp only; omega)]; exact hHeld.1), by (rw [World.cell?_setCell_far _ _ _ _ (by dsimp only; omega), World.cell?_setCell_far _ _ _ _ (by dsimp only; omega)]; exact hHeld.2)⟩)
              clear hK K hHeld
              have hHeld := hHeld2
              clear hHeld2
              (try simp only [Act.put, List.getElem_toArray, List.getElem_cons_succ, List.getElem_cons_zero, List.setIfInBounds_toArray, List.set_cons_zero, List.set_cons_succ])
              refine wpAnyH_done (by kernel_rfl) ?_ _
              (go_wp2_with fail; go_meet; first | exact ⟨_, nj, aj, qj, cj, rfl, Blk.new0 _ _ _, hv3o.ext (Ext.alloc _ _), hEp.alloc' _⟩ | exact ⟨_, nj, aj, qj, cj, rfl, (hB9.set 0 (.bool nj)).set 1 (.slice aj qj cj), (by first | exact hv3.boxed (Ext.refl _) (by dsimp only; omega) (by dsimp only; omega) _ _ | exact hv3o.later (Ext.alloc _ _) (Nat.le_refl _) (Nat.le_refl _) _ _), (hE.set (p := ⟨_, 0, none⟩) hp9 _).set (p := ⟨_, 1, none⟩) hp9 _⟩)
            exact AllReadyH.nil
          exact AllReadyH.nil
        exact AllReadyH.nil
      refine AllReadyH.cons (o := _) rfl (fun K hK => ?_) ?_
      · go_simp
        have hEp := hE; obtain ⟨hE, hB9, hp9⟩ := alloc_facts hE #[.bool false, .slice none 0 0] 24; (try have hB9 : Blk (World.alloc (World.drew x6) _) x6.heap.size _ _ := hB9); (try have hv1 := hv1.ext (Ext.alloc _ (.cells #[.bool false, .slice none 0 0] 24))); (try have hv3 := hv3.ext (Ext.alloc _ (.cells #[.bool false, .slice none 0 0] 24)))
        refine hK.out _ _ ?_ (fun hHeld2 => ?_)
        · (first | exact ⟨cell_ext hE co0, cell_ext hE co1⟩ | exact ⟨cell_ext (hEp.alloc' _) co0, cell_ext (hEp.alloc' _) co1⟩ | exact ⟨co0, co1⟩ | exact hHeld | exact ⟨cell_ext hy hHeld.1, cell_ext hy hHeld.2⟩ | exact ⟨cell_ext (Ext.alloc _ _) hHeld.1, cell_ext (Ext.alloc _ _) hHeld.2⟩ | exact ⟨by (rw [World.cell?_setCell_far _ _ _ _ (by dsimp only; omega), World.cell?_setCell_far _ _ _ _ (by dsimp only; omega)]; exact hHeld.1), by (rw [World.cell?_setCell_far _ _ _ _ (by dsimp only; omega), World.cell?_setCell_far _ _ _ _ (by dsimp only; omega)]; exact hHeld.2)⟩)
        clear hK K hHeld
        have hHeld := hHeld2
        clear hHeld2
        (try simp only [Act.put, List.getElem_toArray, List.getElem_cons_succ, List.getElem_cons_zero, List.setIfInBounds_toArray, List.set_cons_zero, List.set_cons_succ])
        refine wpAnyH_ready (rs := [7]) (by kernel_rfl) (by simp) ?_
        refine AllReadyH.cons (o := _) rfl (fun K hK => ?_) ?_
        · go_simp
          (with_reducible refine (of_val cb (KC.out.ext hE) hv1 (binZ_len _ (by have := HN.out; omega))).mono ?_); rintro e z2 ⟨rfl, hy⟩; have hE := hE.trans hy; (try have hv1 := hv1.ext hy); (try have hB9 := hB9.ext hy)
          refine hK.out _ _ ?_ (fun hHeld2 => ?_)
          · (first | exact ⟨cell_ext hE co0, cell_ext hE co1⟩ | exact ⟨cell_ext (hEp.alloc' _) co0, cell_ext (hEp.alloc' _) co1⟩ | exact ⟨co0, co1⟩ | exact hHeld | exact ⟨cell_ext hy hHeld.1, cell_ext hy hHeld.2⟩ | exact ⟨cell_ext (Ext.alloc _ _) hHeld.1, cell_ext (Ext.alloc _ _) hHeld.2⟩ | exact ⟨by (rw [World.cell?_setCell_far _ _ _ _ (by dsimp only; omega), World.cell?_setCell_far _ _ _ _ (by dsimp only; omega)]; exact hHeld.1), by (rw [World.cell?_setCell_far _ _ _ _ (by dsimp only; omega), World.cell?_setCell_far _ _ _ _ (by dsimp only; omega)]; exact hHeld.2)⟩)
          clear hK K hHeld
          have hHeld := hHeld2
          clear hHeld2
          (try simp only [Act.put, List.getElem_toArray, List.getElem_cons_succ, List.getElem_cons_zero, List.setIfInBounds_toArray, List.set_cons_zero, List.set_cons_succ])
          refine wpAnyH_ready (rs := [8]) (by kernel_rfl) (by simp) ?_
          refine AllReadyH.cons (o := _) rfl (fun K hK => ?_) ?_
          · go_simp
            (try have hlt9 := hB9.lt); (with_reducible refine (calc_add cb _ (KC.out.ext hE) (Vo.out.ext hE) hv1 (binZ_len _ (by have := HN.out; omega)) (binZ_len _ (by have := HN.out; omega)) (by rw [← binZ_succ n hk0]; exact binZ_len _ (by have := HN.out; omega))).mono ?_); rintro e z3 ⟨v3, rfl, hv3, hy⟩; have hE := hE.trans hy; (try have hv1 := hv1.ext hy); (try have hB9 := hB9.ext hy); have hv3o := hv3.val; obtain ⟨nj, aj, qj, cj, rfl⟩ := hv3o.form
            refine hK.out _ _ ?_ (fun hHeld2 => ?_)
            · (first | exact ⟨cell_ext hE co0, cell_ext hE co1⟩ | exact ⟨cell_ext (hEp.alloc' _) co0, cell_ext (hEp.alloc' _) co1⟩ | exact ⟨co0, co1⟩ | exact hHeld | exact ⟨cell_ext hy hHeld.1, cell_ext hy hHeld.2⟩ | exact ⟨cell_ext (Ext.alloc _ _) hHeld.1, cell_ext (Ext.alloc _ _) hHeld.2⟩ | exact ⟨by (rw [World.cell?_setCell_far _ _ _ _ (by dsimp only; omega), World.cell?_setCell_far _ _ _ _ (by dsimp only; omega)]; exact hHeld.1), by (rw [World.cell?_setCell_far _ _ _ _ (by dsimp only; omega), World.cell?_setCell_far _ _ _ _ (by dsimp only; omega)]; exact hHeld.2)⟩)
            clear hK K hHeld
            have hHeld := hHeld2
            clear hHeld2
            (try simp only [Act.put, List.getElem_toArray, List.getElem_cons_succ, List.getElem_cons_zero, List.setIfInBounds_toArray, List.set_cons_zero, List.set_cons_succ])
            refine wpAnyH_ready (rs := [10]) (by kernel_rfl) (by simp) ?_
            refine AllReadyH.cons (o := _) rfl (fun K hK => ?_) ?_
            · go_simp
              have g0 := hB9.cell (i := 0) (v := .bool false) rfl; have g1 := (hB9.set 0 (.bool nj)).cell (i := 1) (v := .slice none 0 0) rfl; have q0 := hB9.free 0; have q1 := (hB9.set 0 (.bool nj)).free 1; go_simp
              refine hK.out _ _ ?_ (fun hHeld2 => ?_)
              · (first | exact ⟨cell_ext hE co0, cell_ext hE co1⟩ | exact ⟨cell_ext (hEp.alloc' _) co0, cell_ext (hEp.alloc' _) co1⟩ | exact ⟨co0, co1⟩ | exact hHeld | exact ⟨cell_ext hy hHeld.1, cell_ext hy hHeld.2⟩ | exact ⟨cell_ext (Ext.alloc _ _) hHeld.1, cell_ext (Ext.alloc _ _) hHeld.2⟩ | exact ⟨by (rw [World.cell?_setCell_far _ _ _ _ (by dsimp only; omega), World.cell?_setCell_far _ _ _ _ (by dsimp only; omega)]; exact hHeld.1), by (rw [World.cell?_setCell_far _ _ _ _ (by dsimp only; omega), World.cell?_setCell_far _ _ _ _ (by dsimp only; omega)]; exact hHeld.2)⟩)
              clear hK K hHeld
              have hHeld := hHeld2
              clear hHeld2
              (try simp only [Act.put, List.getElem_toArray, List.getElem_cons_succ, List.getElem_cons_zero, List.setIfInBounds_toArray, List.set_cons_zero, List.set_cons_succ])
              refine wpAnyH_done (by kernel_rfl) ?_ _
              (go_wp2_with fail; go_meet; first | exact ⟨_, nj, aj, qj, cj, rfl, Blk.new0 _ _ _, hv3o.ext (Ext.alloc _ _), hEp.alloc' _⟩ | exact ⟨_, nj, aj, qj, cj, rfl, (hB9.set 0 (.bool nj)).set 1 (.slice aj qj cj), (by first | exact hv3.boxed (Ext.refl _) (by dsimp only; omega) (by dsimp only; omega) _ _ | exact hv3o.later (Ext.alloc _ _) (Nat.le_refl _) (Nat.le_refl _) _ _), (hE.set (p := ⟨_, 0, none⟩) hp9 _).set (p := ⟨_, 1, none⟩) hp9 _⟩)
            exact AllReadyH.nil
          exact AllReadyH.nil
        exact AllReadyH.nil
      exact AllReadyH.nil
    refine AllReadyH.cons (o := _) rfl (fun K hK => ?_) ?_
    · go_simp
      have hEp := hE; obtain ⟨hE, hB9, hp9⟩ := alloc_facts hE #[.bool false, .slice none 0 0] 24; (try have hB9 : Blk (World.alloc (World.drew x6) _) x6.heap.size _ _ := hB9); (try have hv1 := hv1.ext (Ext.alloc _ (.cells #[.bool false, .slice none 0 0] 24))); (try have hv3 := hv3.ext (Ext.alloc _ (.cells #[.bool false, .slice none 0 0] 24)))
      refine hK.out _ _ ?_ (fun hHeld2 => ?_)
      · (first | exact ⟨cell_ext hE co0, cell_ext hE co1⟩ | exact ⟨cell_ext (hEp.alloc' _) co0, cell_ext (hEp.alloc' _) co1⟩ | exact ⟨co0, co1⟩ | exact hHeld | exact ⟨cell_ext hy hHeld.1, cell_ext hy hHeld.2⟩ | exact ⟨cell_ext (Ext.alloc _ _) hHeld.1, cell_ext (Ext.alloc _ _) hHeld.2⟩ | exact ⟨by (rw [World.cell?_setCell_far _ _ _ _ (by dsimp only; omega), World.cell?_setCell_far _ _ _ _ (by dsimp only; omega)]; exact hHeld.1), by (rw [World.cell?_setCell_far _ _ _ _ (by dsimp only; omega), World.cell?_setCell_far _ _ _ _ (by dsimp only; omega)]; exact hHeld.2)⟩)
      clear hK K hHeld
      have hHeld := hHeld2
      clear hHeld2
      (try simp only [Act.put, List.getElem_toArray, List.getElem_cons_succ, List.getElem_cons_zero, List.setIfInBounds_toArray, List.set_cons_zero, List.set_cons_succ])
      refine wpAnyH_ready (rs := [4]) (by kernel_rfl) (by simp) ?_
      refine AllReadyH.cons (o := _) rfl (fun K hK => ?_) ?_
      · go_simp
        (with_reducible refine (choose_any n (k + 1) _ (by have := HN.out; omega)).mono ?_); rintro e z1 ⟨v1, rfl, hv1, hy⟩; have hE := hE.trans hy; (try have hB9 := hB9.ext hy)
        refine hK.out _ _ ?_ (fun hHeld2 => ?_)
        · (first | exact ⟨cell_ext hE co0, cell_ext hE co1⟩ | exact ⟨cell_ext (hEp.alloc' _) co0, cell_ext (hEp.alloc' _) co1⟩ | exact ⟨co0, co1⟩ | exact hHeld | exact ⟨cell_ext hy hHeld.1, cell_ext hy hHeld.2⟩ | exact ⟨cell_ext (Ext.alloc _ _) hHeld.1, cell_ext (Ext.alloc _ _) hHeld.2⟩ | exact ⟨by (rw [World.cell?_setCell_far _ _ _ _ (by dsimp only; omega), World.cell?_setCell_far _ _ _ _ (by dsimp only; omega)]; exact hHeld.1), by (rw [World.cell?_setCell_far _ _ _ _ (by dsimp only; omega), World.cell?_setCell_far _ _ _ _ (by dsimp only; omega)]; exact hHeld.2)⟩)
        clear hK K hHeld
        have hHeld := hHeld2
        clear hHeld2
        (try simp only [Act.put, List.getElem_toArray, List.getElem_cons_succ, List.getElem_cons_zero, List.setIfInBounds_toArray, List.set_cons_zero, List.set_cons_succ])
        refine wpAnyH_take (i := 5) (oi := _) (v := ?_) rfl (by kernel_rfl) (by kernel_rfl) (by kernel_rfl) (fun _ _ _ h => h) (Or.inl ⟨by rfl, ?_⟩) (by assumption) ?_
        rotate_left
        · (intro w hSw; (try dsimp only at hSw); (try go_simp); (try with_reducible rfl))
        (try simp only [Act.put, List.getElem_toArray, List.getElem_cons_succ, List.getElem_cons_zero, List.setIfInBounds_toArray, List.set_cons_zero, List.set_cons_succ])
        refine wpAnyH_take (i := 6) (oi := _) (v := ?_) rfl (by kernel_rfl) (by kernel_rfl) (by kernel_rfl) (fun _ _ _ h => h) (Or.inl ⟨by rfl, ?_⟩) (by assumption) ?_
        rotate_left
        · (intro w hSw; (try dsimp only at hSw); (try go_simp); (try with_reducible rfl))
        (try simp only [Act.put, List.getElem_toArray, List.getElem_cons_succ, List.getElem_cons_zero, List.setIfInBounds_toArray, List.set_cons_zero, List.set_cons_succ])
        refine wpAnyH_ready (rs := [7]) (by kernel_rfl) (by simp) ?_
        refine AllReadyH.cons (o := _) rfl (fun K hK => ?_) ?_
        · go_simp
          (with_reducible refine (of_val cb (KC.out.ext hE) hv1 (binZ_len _ (by have := HN.out; omega))).mono ?_); rintro e z2 ⟨rfl, hy⟩; have hE := hE.trans hy; (try have hv1 := hv1.ext hy); (try have hB9 := hB9.ext hy)
          refine hK.out _ _ ?_ (fun hHeld2 => ?_)
          · (first | exact ⟨cell_ext hE co0, cell_ext hE co1⟩ | exact ⟨cell_ext (hEp.alloc' _) co0, cell_ext (hEp.alloc' _) co1⟩ | exact ⟨co0, co1⟩ | exact hHeld | exact ⟨cell_ext hy hHeld.1, cell_ext hy hHeld.2⟩ | exact ⟨cell_ext (Ext.alloc _ _) hHeld.1, cell_ext (Ext.alloc _ _) hHeld.2⟩ | exact ⟨by (rw [World.cell?_setCell_far _ _ _ _ (by dsimp only; omega), World.cell?_setCell_far _ _ _ _ (by dsimp only; omega)]; exact hHeld.1), by (rw [World.cell?_setCell_far _ _ _ _ (by dsimp only; omega), World.cell?_setCell_far _ _ _ _ (by dsimp only; omega)]; exact hHeld.2)⟩)
          clear hK K hHeld
          have hHeld := hHeld2
          clear hHeld2
          (try simp only [Act.put, List.getElem_toArray, List.getElem_cons_succ, List.getElem_cons_zero, List.setIfInBounds_toArray, List.set_cons_zero, List.set_cons_succ])
          refine wpAnyH_ready (rs := [8]) (by kernel_rfl) (by simp) ?_
          refine AllReadyH.cons (o := _) rfl (fun K hK => ?_) ?_
          · go_simp
            (try have hlt9 := hB9.lt); (with_reducible refine (calc_add cb _ (KC.out.ext hE) (Vo.out.ext hE) hv1 (binZ_len _ (by have := HN.out; omega)) (binZ_len _ (by have := HN.out; omega)) (by rw [← binZ_succ n hk0]; exact binZ_len _ (by have := HN.out; omega))).mono ?_); rintro e z3 ⟨v3, rfl, hv3, hy⟩; have hE := hE.trans hy; (try have hv1 := hv1.ext hy); (try have hB9 := hB9.ext hy); have hv3o := hv3.val; obtain ⟨nj, aj, qj, cj, rfl⟩ := hv3o.form
            refine hK.out _ _ ?_ (fun hHeld2 => ?_)
            · (first | exact ⟨cell_ext hE co0, cell_ext hE co1⟩ | exact ⟨cell_ext (hEp.alloc' _) co0, cell_ext (hEp.alloc' _) co1⟩ | exact ⟨co0, co1⟩ | exact hHeld | exact ⟨cell_ext hy hHeld.1, cell_ext hy hHeld.2⟩ | exact ⟨cell_ext (Ext.alloc _ _) hHeld.1, cell_ext (Ext.alloc _ _) hHeld.2⟩ | exact ⟨by (rw [World.cell?_setCell_far _ _ _ _ (by dsimp only; omega), World.cell?_setCell_far _ _ _ _ (by dsimp only; omega)]; exact hHeld.1), by (rw [World.cell?_setCell_far _ _ _ _ (by dsimp only; omega), World.cell?_setCell_far _ _ _ _ (by dsimp only; omega)]; exact hHeld.2)⟩)
            clear hK K hHeld
            have hHeld := hHeld2
            clear hHeld2
            (try simp only [Act.put, List.getElem_toArray, List.getElem_cons_succ, List.getElem_cons_zero, List.setIfInBounds_toArray, List.set_cons_zero, List.set_cons_succ])
            refine wpAnyH_ready (rs := [10]) (by kernel_rfl) (by simp) ?_
            refine AllReadyH.cons (o := _) rfl (fun K hK => ?_) ?_
            · go_simp
              have g0 := hB9.cell (i := 0) (v := .bool false) rfl; have g1 := (hB9.set 0 (.bool nj)).cell (i := 1) (v := .slice none 0 0) rfl; have q0 := hB9.free 0; have q1 := (hB9.set 0 (.bool nj)).free 1; go_simp
              refine hK.out _ _ ?_ (fun hHeld2 => ?_)
              · (first | exact ⟨cell_ext hE co0, cell_ext hE co1⟩ | exact ⟨cell_ext (hEp.alloc' _) co0, cell_ext (hEp.alloc' _) co1⟩ | exact ⟨co0, co1⟩ | exact hHeld | exact ⟨cell_ext hy hHeld.1, cell_ext hy hHeld.2⟩ | exact ⟨cell_ext (Ext.alloc _ _) hHeld.1, cell_ext (Ext.alloc _ _) hHeld.2⟩ | exact ⟨by (rw [World.cell?_setCell_far _ _ _ _ (by dsimp only; omega), World.cell?_setCell_far _ _ _ _ (by dsimp only; omega)]; exact hHeld.1), by (rw [World.cell?_setCell_far _ _ _ _ (by dsimp only; omega), World.cell?_setCell_far _ _ _ _ (by dsimp only; omega)]; exact hHeld.2)⟩)
              clear hK K hHeld
              have hHeld := hHeld2
              clear hHeld2
              (try simp only [Act.put, List.getElem_toArray, List.getElem_cons_succ, List.getElem_cons_zero, List.setIfInBounds_toArray, List.set_cons_zero, List.set_cons_succ])
              refine wpAnyH_done (by kernel_rfl) ?_ _
              (go_wp2_with fail; go_meet; first | exact ⟨_, nj, aj, qj, cj, rfl, Blk.new0 _ _ _, hv3o.ext (Ext.alloc _ _), hEp.alloc' _⟩ | exact ⟨_, nj, aj, qj, cj, rfl, (hB9.set 0 (.bool nj)).set 1 (.slice aj qj cj), (by first | exact hv3.boxed (Ext.refl _) (by dsimp only; omega) (by dsimp only; omega) _ _ | exact hv3o.later (Ext.alloc _ _) (Nat.le_refl _) (Nat.le_refl _) _ _), (hE.set (p := ⟨_, 0, none⟩) hp9 _).set (p := ⟨_, 1, none⟩) hp9 _⟩)
            exact AllReadyH.nil
          exact AllReadyH.nil
        exact AllReadyH.nil
      exact AllReadyH.nil
    exact AllReadyH.nil
  case rest =>
  obtain ⟨pj, nj, aj, qj, cj, rfl, hB, hv, hy⟩ := hcut
  have hx := hx.trans hy
  have KC := Lib.hid (KC.out.ext hy)
  have Vo := Lib.hid (Vo.out.ext hy)
  have Ko := Lib.hid (Ko.out.ext hy)
  have Kj := Lib.hid hB
  have Vj := Lib.hid hv
  clear hB hv hy
  go_upto_region 9 with fail
  have HC1 : Hid (∀ W, Calls Tryd.prog 19 #[.int .i64 ((n : Int) + 1), .int .i64 (k + 1)] W (PairP (binZ (n + 1) (k + 1)) 0 W)) := Lib.hid (fun W => by
    have h := choose_any (n + 1) (k + 1) W (by have := HN.out; omega)
    rw [show ((n + 1 : Nat) : Int) = (n : Int) + 1 by omega] at h
    exact h)
  have co0 := Ko.out.cell (i := 0) (v := .bool no) rfl
  have co1 := Ko.out.cell (i := 1) (v := .slice ao qo co) rfl
  have cj0 := Kj.out.cell (i := 0) (v := .bool nj) rfl
  have cj1 := Kj.out.cell (i := 1) (v := .slice aj qj cj) rfl
  have cc := KC.out.cell (i := 0) (v := .bool false) rfl
  have hE : Ext wc wc.drew := (Ext.refl _).drew
  refine wp_region_held_drew (S := (fun w' => w'.cell? ⟨po, 0, none⟩ = some (.bool no) ∧ w'.cell? ⟨po, 1, none⟩ = some (.slice ao qo co) ∧ w'.cell? ⟨pj, 0, none⟩ = some (.bool nj) ∧ w'.cell? ⟨pj, 1, none⟩ = some (.slice aj qj cj) ∧ w'.cell? ⟨cb, 0, none⟩ = some (.bool false))) (by kernel_rfl) ?_ (fun hHeld => ?_)
  · (first | exact ⟨cell_ext hy hHeld.1, cell_ext hy hHeld.2.1, cell_ext hy hHeld.2.2.1, cell_ext hy hHeld.2.2.2.1, cell_ext hy hHeld.2.2.2.2⟩ | exact ⟨co0, co1, cj0, cj1, cc⟩ | exact hHeld)
  refine wpAnyH_take (i := 0) (oi := _) (v := ?_) rfl (by kernel_rfl) (by kernel_rfl) (by kernel_rfl) (fun _ _ _ h => h) (Or.inl ⟨by rfl, ?_⟩) (by assumption) ?_
  rotate_left
  · (intro w hSw; (try dsimp only at hSw); (try go_simp); (try with_reducible rfl))
  (try simp only [Act.put, List.getElem_toArray, List.getElem_cons_succ, List.getElem_cons_zero, List.setIfInBounds_toArray, List.set_cons_zero, List.set_cons_succ])
  refine wpAnyH_take (i := 1) (oi := _) (v := ?_) rfl (by kernel_rfl) (by kernel_rfl) (by kernel_rfl) (fun _ _ _ h => h) (Or.inl ⟨by rfl, ?_⟩) (by assumption) ?_
  rotate_left
  · (intro w hSw; (try dsimp only at hSw); (try go_simp); (try with_reducible rfl))
  (try simp only [Act.put, List.getElem_toArray, List.getElem_cons_succ, List.getElem_cons_zero, List.setIfInBounds_toArray, List.set_cons_zero, List.set_cons_succ])
  refine wpAnyH_take (i := 2) (oi := _) (v := ?_) rfl (by kernel_rfl) (by kernel_rfl) (by kernel_rfl) (fun _ _ _ h => h) (Or.inl ⟨by rfl, ?_⟩) (by assumption) ?_
  rotate_left
  · (intro w hSw; (try dsimp only at hSw); (try go_simp); (try with_reducible rfl))
  (try simp only [Act.put, List.getElem_toArray, List.getElem_cons_succ, List.getElem_cons_zero, List.setIfInBounds_toArray, List.set_cons_zero, List.set_cons_succ])
  refine wpAnyH_take (i := 3) (oi := _) (v := ?_) rfl (by kernel_rfl) (by kernel_rfl) (by kernel_rfl) (fun _ _ _ h => h) (Or.inl ⟨by rfl, ?_⟩) (by assumption) ?_
  rotate_left
  · (intro w hSw; (try dsimp only at hSw); (try go_simp); (try with_reducible rfl))
  (try simp only [Act.put, List.getElem_toArray, List.getElem_cons_succ, List.getElem_cons_zero, List.setIfInBounds_toArray, List.set_cons_zero, List.set_cons_succ])
  refine wpAnyH_take (i := 8) (oi := _) (v := ?_) rfl (by kernel_rfl) (by kernel_rfl) (by kernel_rfl) (fun _ _ _ h => h) (Or.inl ⟨by rfl, ?_⟩) (by assumption) ?_
  rotate_left
  · (intro w hSw; (try dsimp only at hSw); (try go_simp); (try with_reducible rfl))
  (try simp only [Act.put, List.getElem_toArray, List.getElem_cons_succ, List.getElem_cons_zero, List.setIfInBounds_toArray, List.set_cons_zero, List.set_cons_succ])
  refine wpAnyH_ready (rs := [4]) (by kernel_rfl) (by simp) ?_
  refine AllReadyH.cons (o := _) rfl (fun K hK => ?_) ?_
  · go_simp
    (with_reducible refine (HC1.out _).mono ?_); rintro e z99 ⟨vx, rfl, hvx, hy⟩; have hE := hE.trans hy
    refine hK.out _ _ ?_ (fun hHeld2 => ?_)
    · (first | exact ⟨cell_ext hy hHeld.1, cell_ext hy hHeld.2.1, cell_ext hy hHeld.2.2.1, cell_ext hy hHeld.2.2.2.1, cell_ext hy hHeld.2.2.2.2⟩ | exact ⟨co0, co1, cj0, cj1, cc⟩ | exact hHeld)
    clear hK K hHeld
    have hHeld := hHeld2
    clear hHeld2
    (try simp only [Act.put, List.getElem_toArray, List.getElem_cons_succ, List.getElem_cons_zero, List.setIfInBounds_toArray, List.set_cons_zero, List.set_cons_succ])
    refine wpAnyH_take (i := 5) (oi := _) (v := ?_) rfl (by kernel_rfl) (by kernel_rfl) (by kernel_rfl) (fun _ _ _ h => h) (Or.inl ⟨by rfl, ?_⟩) (by assumption) ?_
    rotate_left
    · (intro w hSw; (try dsimp only at hSw); (try go_simp); (try with_reducible rfl))
    (try simp only [Act.put, List.getElem_toArray, List.getElem_cons_succ, List.getElem_cons_zero, List.setIfInBounds_toArray, List.set_cons_zero, List.set_cons_succ])
    refine wpAnyH_take (i := 6) (oi := _) (v := ?_) rfl (by kernel_rfl) (by kernel_rfl) (by kernel_rfl) (fun _ _ _ h => h) (Or.inl ⟨by rfl, ?_⟩) (by assumption) ?_
    rotate_left
    · (intro w hSw; (try dsimp only at hSw); (try go_simp); (try with_reducible rfl))
    (try simp only [Act.put, List.getElem_toArray, List.getElem_cons_succ, List.getElem_cons_zero, List.setIfInBounds_toArray, List.set_cons_zero, List.set_cons_succ])
    refine wpAnyH_ready (rs := [7]) (by kernel_rfl) (by simp) ?_
    refine AllReadyH.cons (o := _) rfl (fun K hK => ?_) ?_
    · go_simp
      (with_reducible refine (of_val cb (KC.out.ext hE) hvx (binZ_len _ (by have := HN.out; omega))).mono ?_); rintro e z11 ⟨rfl, hy⟩; have hE := hE.trans hy; have hvx := hvx.ext hy
      refine hK.out _ _ ?_ (fun hHeld2 => ?_)
      · (first | exact ⟨cell_ext hy hHeld.1, cell_ext hy hHeld.2.1, cell_ext hy hHeld.2.2.1, cell_ext hy hHeld.2.2.2.1, cell_ext hy hHeld.2.2.2.2⟩ | exact ⟨co0, co1, cj0, cj1, cc⟩ | exact hHeld)
      clear hK K hHeld
      have hHeld := hHeld2
      clear hHeld2
      (try simp only [Act.put, List.getElem_toArray, List.getElem_cons_succ, List.getElem_cons_zero, List.setIfInBounds_toArray, List.set_cons_zero, List.set_cons_succ])
      refine wpAnyH_ready (rs := [9]) (by kernel_rfl) (by simp) ?_
      refine AllReadyH.cons (o := _) rfl (fun K hK => ?_) ?_
      · go_simp
        (with_reducible refine (sameT hvx (Vj.out.ext hE) (binZ_succ n hk0)).mono ?_); rintro e z12 ⟨rfl, hy⟩; have hE := hE.trans hy
        refine hK.out _ _ ?_ (fun hHeld2 => ?_)
        · (first | exact ⟨cell_ext hy hHeld.1, cell_ext hy hHeld.2.1, cell_ext hy hHeld.2.2.1, cell_ext hy hHeld.2.2.2.1, cell_ext hy hHeld.2.2.2.2⟩ | exact ⟨co0, co1, cj0, cj1, cc⟩ | exact hHeld)
        clear hK K hHeld
        have hHeld := hHeld2
        clear hHeld2
        (try simp only [Act.put, List.getElem_toArray, List.getElem_cons_succ, List.getElem_cons_zero, List.setIfInBounds_toArray, List.set_cons_zero, List.set_cons_succ])
        refine wpAnyH_take (i := 10) (oi := _) (v := ?_) rfl (by kernel_rfl) (by kernel_rfl) (by kernel_rfl) (fun _ _ _ h => h) (Or.inl ⟨by rfl, ?_⟩) (by assumption) ?_
        rotate_left
        · (intro w hSw; (try dsimp only at hSw); (try go_simp); (try with_reducible rfl))
        (try simp only [Act.put, List.getElem_toArray, List.getElem_cons_succ, List.getElem_cons_zero, List.setIfInBounds_toArray, List.set_cons_zero, List.set_cons_succ])
        refine wpAnyH_take (i := 11) (oi := _) (v := ?_) rfl (by kernel_rfl) (by kernel_rfl) (by kernel_rfl) (fun _ _ _ h => h) (Or.inl ⟨by rfl, ?_⟩) (by assumption) ?_
        rotate_left
        · (intro w hSw; (try dsimp only at hSw); (try go_simp); (try with_reducible rfl))
        (try simp only [Act.put, List.getElem_toArray, List.getElem_cons_succ, List.getElem_cons_zero, List.setIfInBounds_toArray, List.set_cons_zero, List.set_cons_succ])
        refine wpAnyH_take (i := 12) (oi := _) (v := ?_) rfl (by kernel_rfl) (by kernel_rfl) (by kernel_rfl) (fun _ _ _ h => h) (Or.inl ⟨by rfl, ?_⟩) (by assumption) ?_
        rotate_left
        · (intro w hSw; (try dsimp only at hSw); (try go_simp); (try with_reducible rfl))
        (try simp only [Act.put, List.getElem_toArray, List.getElem_cons_succ, List.getElem_cons_zero, List.setIfInBounds_toArray, List.set_cons_zero, List.set_cons_succ])
        refine wpAnyH_take (i := 13) (oi := _) (v := ?_) rfl (by kernel_rfl) (by kernel_rfl) (by kernel_rfl) (fun _ _ _ h => h) (Or.inl ⟨by rfl, ?_⟩) (by assumption) ?_
        rotate_left
        · (intro w hSw; (try dsimp only at hSw); (try go_simp); (try with_reducible rfl))
        (try simp only [Act.put, List.getElem_toArray, List.getElem_cons_succ, List.getElem_cons_zero, List.setIfInBounds_toArray, List.set_cons_zero, List.set_cons_succ])
        refine wpAnyH_take (i := 14) (oi := _) (v := ?_) rfl (by kernel_rfl) (by kernel_rfl) (by kernel_rfl) (fun _ _ _ h => h) (Or.inl ⟨by rfl, ?_⟩) (by assumption) ?_
        rotate_left
        · (intro w hSw; (try dsimp only at hSw); (try go_simp); (try with_reducible rfl))
        (try simp only [Act.put, List.getElem_toArray, List.getElem_cons_succ, List.getElem_cons_zero, List.setIfInBounds_toArray, List.set_cons_zero, List.set_cons_succ])
        refine wpAnyH_take (i := 15) (oi := _) (v := ?_) rfl (by kernel_rfl) (by kernel_rfl) (by kernel_rfl) (fun _ _ _ h => h) (Or.inl ⟨by rfl, ?_⟩) (by assumption) ?_
        rotate_left
        · (intro w hSw; (try dsimp only at hSw); (try go_simp); (try with_reducible rfl))
        (try simp only [Act.put, List.getElem_toArray, List.getElem_cons_succ, List.getElem_cons_zero, List.setIfInBounds_toArray, List.set_cons_zero, List.set_cons_succ])
        refine wpAnyH_ready (rs := [16]) (by kernel_rfl) (by simp) ?_
        refine AllReadyH.cons (o := _) rfl (fun K hK => ?_) ?_
        · go_simp
          (with_reducible refine (choose_any n ((n : Int) - k) _ (by have := HN.out; omega)).mono ?_); rintro e z13 ⟨vy, rfl, hvy, hy⟩; have hE := hE.trans hy
          refine hK.out _ _ ?_ (fun hHeld2 => ?_)
          · (first | exact ⟨cell_ext hy hHeld.1, cell_ext hy hHeld.2.1, cell_ext hy hHeld.2.2.1, cell_ext hy hHeld.2.2.2.1, cell_ext hy hHeld.2.2.2.2⟩ | exact ⟨co0, co1, cj0, cj1, cc⟩ | exact hHeld)
          clear hK K hHeld
          have hHeld := hHeld2
          clear hHeld2
          (try simp only [Act.put, List.getElem_toArray, List.getElem_cons_succ, List.getElem_cons_zero, List.setIfInBounds_toArray, List.set_cons_zero, List.set_cons_succ])
          refine wpAnyH_take (i := 17) (oi := _) (v := ?_) rfl (by kernel_rfl) (by kernel_rfl) (by kernel_rfl) (fun _ _ _ h => h) (Or.inl ⟨by rfl, ?_⟩) (by assumption) ?_
          rotate_left
          · (intro w hSw; (try dsimp only at hSw); (try go_simp); (try with_reducible rfl))
          (try simp only [Act.put, List.getElem_toArray, List.getElem_cons_succ, List.getElem_cons_zero, List.setIfInBounds_toArray, List.set_cons_zero, List.set_cons_succ])
          refine wpAnyH_take (i := 18) (oi := _) (v := ?_) rfl (by kernel_rfl) (by kernel_rfl) (by kernel_rfl) (fun _ _ _ h => h) (Or.inl ⟨by rfl, ?_⟩) (by assumption) ?_
          rotate_left
          · (intro w hSw; (try dsimp only at hSw); (try go_simp); (try with_reducible rfl))
          (try simp only [Act.put, List.getElem_toArray, List.getElem_cons_succ, List.getElem_cons_zero, List.setIfInBounds_toArray, List.set_cons_zero, List.set_cons_succ])
          refine wpAnyH_ready (rs := [19]) (by kernel_rfl) (by simp) ?_
          refine AllReadyH.cons (o := _) rfl (fun K hK => ?_) ?_
          · go_simp
            (with_reducible refine (of_val cb (KC.out.ext hE) hvy (binZ_len _ (by have := HN.out; omega))).mono ?_); rintro e z14 ⟨rfl, hy⟩; have hE := hE.trans hy; have hvy := hvy.ext hy
            refine hK.out _ _ ?_ (fun hHeld2 => ?_)
            · (first | exact ⟨cell_ext hy hHeld.1, cell_ext hy hHeld.2.1, cell_ext hy hHeld.2.2.1, cell_ext hy hHeld.2.2.2.1, cell_ext hy hHeld.2.2.2.2⟩ | exact ⟨co0, co1, cj0, cj1, cc⟩ | exact hHeld)
            clear hK K hHeld
            have hHeld := hHeld2
            clear hHeld2
            (try simp only [Act.put, List.getElem_toArray, List.getElem_cons_succ, List.getElem_cons_zero, List.setIfInBounds_toArray, List.set_cons_zero, List.set_cons_succ])
            refine wpAnyH_ready (rs := [20]) (by kernel_rfl) (by simp) ?_
            refine AllReadyH.cons (o := _) rfl (fun K hK => ?_) ?_
            · go_simp
              (with_reducible refine (sameT (Vo.out.ext hE) hvy (binZ_symm n hk0)).mono ?_); rintro e z15 ⟨rfl, hy⟩; have hE := hE.trans hy
              refine hK.out _ _ ?_ (fun hHeld2 => ?_)
              · (first | exact ⟨cell_ext hy hHeld.1, cell_ext hy hHeld.2.1, cell_ext hy hHeld.2.2.1, cell_ext hy hHeld.2.2.2.1, cell_ext hy hHeld.2.2.2.2⟩ | exact ⟨co0, co1, cj0, cj1, cc⟩ | exact hHeld)
              clear hK K hHeld
              have hHeld := hHeld2
              clear hHeld2
              (try simp only [Act.put, List.getElem_toArray, List.getElem_cons_succ, List.getElem_cons_zero, List.setIfInBounds_toArray, List.set_cons_zero, List.set_cons_succ])
              refine wpAnyH_take (i := 21) (oi := _) (v := ?_) rfl (by kernel_rfl) (by kernel_rfl) (by kernel_rfl) (fun _ _ _ h => h) (Or.inl ⟨by rfl, ?_⟩) (by assumption) ?_
              rotate_left
              · (intro w hSw; (try dsimp only at hSw); (try go_simp); (try with_reducible rfl))
              (try simp only [Act.put, List.getElem_toArray, List.getElem_cons_succ, List.getElem_cons_zero, List.setIfInBounds_toArray, List.set_cons_zero, List.set_cons_succ])
              refine wpAnyH_take (i := 22) (oi := _) (v := ?_) rfl (by kernel_rfl) (by kernel_rfl) (by kernel_rfl) (fun _ _ _ h => h) (Or.inl ⟨by rfl, ?_⟩) (by assumption) ?_
              rotate_left
              · (intro w hSw; (try dsimp only at hSw); (try go_simp); (try with_reducible rfl))
              (try simp only [Act.put, List.getElem_toArray, List.getElem_cons_succ, List.getElem_cons_zero, List.setIfInBounds_toArray, List.set_cons_zero, List.set_cons_succ])
              refine wpAnyH_take (i := 23) (oi := _) (v := ?_) rfl (by kernel_rfl) (by kernel_rfl) (by kernel_rfl) (fun _ _ _ h => h) (Or.inl ⟨by rfl, ?_⟩) (by assumption) ?_
              rotate_left
              · (intro w hSw; (try dsimp only at hSw); (try go_simp); (try with_reducible rfl))
              (try simp only [Act.put, List.getElem_toArray, List.getElem_cons_succ, List.getElem_cons_zero, List.setIfInBounds_toArray, List.set_cons_zero, List.set_cons_succ])
              refine wpAnyH_ready (rs := [24]) (by kernel_rfl) (by simp) ?_
              refine AllReadyH.cons (o := _) rfl (fun K hK => ?_) ?_
              · go_simp
                (with_reducible refine (choose_any n 0 _ (by have := HN.out; omega)).mono ?_); rintro e z16 ⟨vz, rfl, hvz, hy⟩; have hE := hE.trans hy
                refine hK.out _ _ ?_ (fun hHeld2 => ?_)
                · (first | exact ⟨cell_ext hy hHeld.1, cell_ext hy hHeld.2.1, cell_ext hy hHeld.2.2.1, cell_ext hy hHeld.2.2.2.1, cell_ext hy hHeld.2.2.2.2⟩ | exact ⟨co0, co1, cj0, cj1, cc⟩ | exact hHeld)
                clear hK K hHeld
                have hHeld := hHeld2
                clear hHeld2
                (try simp only [Act.put, List.getElem_toArray, List.getElem_cons_succ, List.getElem_cons_zero, List.setIfInBounds_toArray, List.set_cons_zero, List.set_cons_succ])
                refine wpAnyH_take (i := 25) (oi := _) (v := ?_) rfl (by kernel_rfl) (by kernel_rfl) (by kernel_rfl) (fun _ _ _ h => h) (Or.inl ⟨by rfl, ?_⟩) (by assumption) ?_
                rotate_left
                · (intro w hSw; (try dsimp only at hSw); (try go_simp); (try with_reducible rfl))
                (try simp only [Act.put, List.getElem_toArray, List.getElem_cons_succ, List.getElem_cons_zero, List.setIfInBounds_toArray, List.set_cons_zero, List.set_cons_succ])
                refine wpAnyH_take (i := 26) (oi := _) (v := ?_) rfl (by kernel_rfl) (by kernel_rfl) (by kernel_rfl) (fun _ _ _ h => h) (Or.inl ⟨by rfl, ?_⟩) (by assumption) ?_
                rotate_left
                · (intro w hSw; (try dsimp only at hSw); (try go_simp); (try with_reducible rfl))
                (try simp only [Act.put, List.getElem_toArray, List.getElem_cons_succ, List.getElem_cons_zero, List.setIfInBounds_toArray, List.set_cons_zero, List.set_cons_succ])
                refine wpAnyH_ready (rs := [27]) (by kernel_rfl) (by simp) ?_
                refine AllReadyH.cons (o := _) rfl (fun K hK => ?_) ?_
                · go_simp
                  (with_reducible refine (of_val cb (KC.out.ext hE) hvz (binZ_len _ (by have := HN.out; omega))).mono ?_); rintro e z17 ⟨rfl, hy⟩; have hE := hE.trans hy; have hvz := hvz.ext hy
                  refine hK.out _ _ ?_ (fun hHeld2 => ?_)
                  · (first | exact ⟨cell_ext hy hHeld.1, cell_ext hy hHeld.2.1, cell_ext hy hHeld.2.2.1, cell_ext hy hHeld.2.2.2.1, cell_ext hy hHeld.2.2.2.2⟩ | exact ⟨co0, co1, cj0, cj1, cc⟩ | exact hHeld)
                  clear hK K hHeld
                  have hHeld := hHeld2
                  clear hHeld2
                  (try simp only [Act.put, List.getElem_toArray, List.getElem_cons_succ, List.getElem_cons_zero, List.setIfInBounds_toArray, List.set_cons_zero, List.set_cons_succ])
                  refine wpAnyH_ready (rs := [28]) (by kernel_rfl) (by simp) ?_
                  refine AllReadyH.cons (o := _) rfl (fun K hK => ?_) ?_
                  · go_simp
                    (with_reducible refine (nat_Make (1) _ (by omega)).mono ?_); rintro e z18 ⟨vw, rfl, hv0, hy⟩; have hE := hE.trans hy; have hvw := hv0.val; (try have hvz := hvz.ext hy)
                    refine hK.out _ _ ?_ (fun hHeld2 => ?_)
                    · (first | exact ⟨cell_ext hy hHeld.1, cell_ext hy hHeld.2.1, cell_ext hy hHeld.2.2.1, cell_ext hy hHeld.2.2.2.1, cell_ext hy hHeld.2.2.2.2⟩ | exact ⟨co0, co1, cj0, cj1, cc⟩ | exact hHeld)
                    clear hK K hHeld
                    have hHeld := hHeld2
                    clear hHeld2
                    (try simp only [Act.put, List.getElem_toArray, List.getElem_cons_succ, List.getElem_cons_zero, List.setIfInBounds_toArray, List.set_cons_zero, List.set_cons_succ])
                    refine wpAnyH_ready (rs := [29]) (by kernel_rfl) (by simp) ?_
                    refine AllReadyH.cons (o := _) rfl (fun K hK => ?_) ?_
                    · go_simp
                      (with_reducible refine (sameT hvz hvw (binZ_zero n)).mono ?_); rintro e z19 ⟨rfl, hy⟩; have hE := hE.trans hy
                      refine hK.out _ _ ?_ (fun hHeld2 => ?_)
                      · (first | exact ⟨cell_ext hy hHeld.1, cell_ext hy hHeld.2.1, cell_ext hy hHeld.2.2.1, cell_ext hy hHeld.2.2.2.1, cell_ext hy hHeld.2.2.2.2⟩ | exact ⟨co0, co1, cj0, cj1, cc⟩ | exact hHeld)
                      clear hK K hHeld
                      have hHeld := hHeld2
                      clear hHeld2
                      (try simp only [Act.put, List.getElem_toArray, List.getElem_cons_succ, List.getElem_cons_zero, List.setIfInBounds_toArray, List.set_cons_zero, List.set_cons_succ])
                      refine wpAnyH_take (i := 30) (oi := _) (v := ?_) rfl (by kernel_rfl) (by kernel_rfl) (by kernel_rfl) (fun _ _ _ h => h) (Or.inl ⟨by rfl, ?_⟩) (by assumption) ?_
                      rotate_left
                      · (intro w hSw; (try dsimp only at hSw); (try go_simp); (try with_reducible rfl))
                      (try simp only [Act.put, List.getElem_toArray, List.getElem_cons_succ, List.getElem_cons_zero, List.setIfInBounds_toArray, List.set_cons_zero, List.set_cons_succ])
                      refine wpAnyH_take (i := 31) (oi := _) (v := ?_) rfl (by kernel_rfl) (by kernel_rfl) (by kernel_rfl) (fun _ _ _ h => h) (Or.inl ⟨by rfl, ?_⟩) (by assumption) ?_
                      rotate_left
                      · (intro w hSw; (try dsimp only at hSw); (try go_simp); (try with_reducible rfl))
                      (try simp only [Act.put, List.getElem_toArray, List.getElem_cons_succ, List.getElem_cons_zero, List.setIfInBounds_toArray, List.set_cons_zero, List.set_cons_succ])
                      refine wpAnyH_take (i := 32) (oi := _) (v := ?_) rfl (by kernel_rfl) (by kernel_rfl) (by kernel_rfl) (fun _ _ _ h => h) (Or.inl ⟨by rfl, ?_⟩) (by assumption) ?_
                      rotate_left
                      · (intro w hSw; (try dsimp only at hSw); (try go_simp); (try with_reducible rfl))
                      (try simp only [Act.put, List.getElem_toArray, List.getElem_cons_succ, List.getElem_cons_zero, List.setIfInBounds_toArray, List.set_cons_zero, List.set_cons_succ])
                      refine wpAnyH_take (i := 33) (oi := _) (v := ?_) rfl (by kernel_rfl) (by kernel_rfl) (by kernel_rfl) (fun _ _ _ h => h) (Or.inl ⟨by rfl, ?_⟩) (by assumption) ?_
                      rotate_left
                      · (intro w hSw; (try dsimp only at hSw); (try go_simp); (try with_reducible rfl))
                      (try simp only [Act.put, List.getElem_toArray, List.getElem_cons_succ, List.getElem_cons_zero, List.setIfInBounds_toArray, List.set_cons_zero, List.set_cons_succ])
                      refine wpAnyH_take (i := 34) (oi := _) (v := ?_) rfl (by kernel_rfl) (by kernel_rfl) (by kernel_rfl) (fun _ _ _ h => h) (Or.inl ⟨by rfl, ?_⟩) (by assumption) ?_
                      rotate_left
                      · (intro w hSw; (try dsimp only at hSw); (try go_simp); (try with_reducible rfl))
                      (try simp only [Act.put, List.getElem_toArray, List.getElem_cons_succ, List.getElem_cons_zero, List.setIfInBounds_toArray, List.set_cons_zero, List.set_cons_succ])
                      refine wpAnyH_take (i := 35) (oi := _) (v := ?_) rfl (by kernel_rfl) (by kernel_rfl) (by kernel_rfl) (fun _ _ _ h => h) (Or.inl ⟨by rfl, ?_⟩) (by assumption) ?_
                      rotate_left
                      · (intro w hSw; (try dsimp only at hSw); (try go_simp); (try with_reducible rfl))
                      (try simp only [Act.put, List.getElem_toArray, List.getElem_cons_succ, List.getElem_cons_zero, List.setIfInBounds_toArray, List.set_cons_zero, List.set_cons_succ])
                      refine wpAnyH_take (i := 36) (oi := _) (v := ?_) rfl (by kernel_rfl) (by kernel_rfl) (by kernel_rfl) (fun _ _ _ h => h) (Or.inl ⟨by rfl, ?_⟩) (by assumption) ?_
                      rotate_left
                      · (intro w hSw; (try dsimp only at hSw); (try go_simp); (try with_reducible rfl))
                      (try simp only [Act.put, List.getElem_toArray, List.getElem_cons_succ, List.getElem_cons_zero, List.setIfInBounds_toArray, List.set_cons_zero, List.set_cons_succ])
                      refine wpAnyH_done (by kernel_rfl) ?_ _
                      (go_wp2_with fail; go_ret; exact ⟨rfl, hx.trans hE⟩)
                    exact AllReadyH.nil
                  exact AllReadyH.nil
                exact AllReadyH.nil
              exact AllReadyH.nil
            exact AllReadyH.nil
          exact AllReadyH.nil
        exact AllReadyH.nil
      exact AllReadyH.nil
    exact AllReadyH.nil
  exact AllReadyH.nil
theorem law_Choose (n k : Int) (w : World) (hn : 0 ≤ n ∧ n ≤ 255) (hk : 0 ≤ k ∧ k ≤ 255) : Calls Tryd.prog 8 #[.int .u8 n, .int .u8 k] w fun e w' => e = .returned (.bool true) ∧ Ext w w' := by
  by_cases h : 200 < n
  · exact law_Choose0 n k w hn h
  · have := law_Choose1 n.toNat k w (by omega) hk
    rw [show ((n.toNat : Nat) : Int) = n by omega] at this
    exact this
end Go.Proofs.YtpaaanbcadlhiaaDoor
