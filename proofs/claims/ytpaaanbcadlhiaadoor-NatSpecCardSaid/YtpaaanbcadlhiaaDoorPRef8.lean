import Derived.Test.YtpaaanbcadlhiaaDoorPRef7
namespace Go.Proofs.YtpaaanbcadlhiaaDoor
open Go.RowKit Go BigFrame Go.Shelf
set_option maxRecDepth 100000
set_option linter.unusedSimpArgs false

theorem ref_Neg (neg : Bool) (a : Option Addr) (cap : Nat) (l : List Int) (w : World) :
    Calls Tryd.prog 73 #[.agg #[.bool neg, .slice a l.length cap]] w fun e w' => e = .returned (.agg #[.bool (!neg && decide (0 < l.length)), .slice a l.length cap]) ∧ Ext w w' := by
  have B1 := (Blk.new0 w #[.bool neg, .slice a l.length cap] 24).alloc (.cells #[.bool false, .slice none 0 0] 24)
  have B2 := Blk.new1 w (.cells #[.bool neg, .slice a l.length cap] 24) #[.bool false, .slice none 0 0] 24
  have hx : Ext w ((w.alloc (.cells #[.bool neg, .slice a l.length cap] 24)).alloc (.cells #[.bool false, .slice none 0 0] 24)) := (by repeat (first | with_reducible exact Ext.refl _ | with_reducible assumption | with_reducible refine Ext.drewN ?_ _ | with_reducible refine Ext.drew ?_ | with_reducible refine Ext.alloc' ?_ _ | with_reducible refine Ext.set ?_ (by dsimp only; omega) _))
  obtain ⟨w1, hw1⟩ : ∃ w1, (w.alloc (.cells #[.bool neg, .slice a l.length cap] 24)).alloc (.cells #[.bool false, .slice none 0 0] 24) = w1 := ⟨_, rfl⟩
  rw [hw1] at B1 B2 hx
  have c0 := B1.cell (i := 0) (v := .bool neg) rfl
  have c1 := B1.cell (i := 1) (v := .slice a l.length cap) rfl
  have d0 := B2.cell (i := 0) (v := .bool false) rfl
  have d1 := B2.cell (i := 1) (v := .slice none 0 0) rfl
  have f0 := B2.free 0
  have f1 := B2.free 1
  have H2 := Lib.hid B2
  have HW := Lib.hid hw1
  have hxx := fun v u => (hx.set (p := ⟨w.heap.size + 1, 0, none⟩) (by dsimp only; omega) v).set (p := ⟨w.heap.size + 1, 1, none⟩) (by dsimp only; omega) u
  have HX := Lib.hid hxx
  clear B1 B2 hw1 hxx
  cases neg with
  | true =>
    go_enter Tryd.func73, Tryd.ntmps73
    go_upto_region 1 with fail
    rw [HW.out]
    go_wp2_with fail
    have k2 := (H2.out.set 0 (.bool false)).set 1 (.slice a l.length cap)
    have e0 := k2.cell (i := 0) (v := .bool false) rfl
    have e1 := k2.cell (i := 1) (v := .slice a l.length cap) rfl
    refine bodyPost_ret (v := .agg #[.bool false, .slice a l.length cap]) (by simp [results, Tryd.results73, go_sem, e0, e1]) rfl ?_
    exact ⟨rfl, HX.out _ _⟩
  | false =>
    go_enter Tryd.func73, Tryd.ntmps73
    go_upto_region 1 with fail
    rw [HW.out]
    go_wp2_with fail
    have k2 := (H2.out.set 0 (.bool (decide (0 < l.length)))).set 1 (.slice a l.length cap)
    have e0 := k2.cell (i := 0) (v := .bool (decide (0 < l.length))) rfl
    have e1 := k2.cell (i := 1) (v := .slice a l.length cap) rfl
    refine bodyPost_ret (v := .agg #[.bool (decide (0 < l.length)), .slice a l.length cap]) (by simp [results, Tryd.results73, go_sem, e0, e1]) rfl ?_
    exact ⟨rfl, HX.out _ _⟩
theorem Big.neg {n : Bool} {l : List Int} {z : Int} (h : Big n l z) : Big (!n && decide (0 < l.length)) l (-z) := by
  obtain ⟨h1, h2, h3⟩ := h
  cases n with
  | true => exact ⟨h1, fun e => by simp at e, by simp at h3 ⊢; omega⟩
  | false =>
    refine ⟨h1, fun e he => by rw [he] at e; simp at e, ?_⟩
    simp at h3
    by_cases hl : 0 < l.length
    · simp [hl, h3]
    · have : l = [] := List.length_eq_zero_iff.1 (by omega)
      subst this; simp [h3, dval]
set_option maxHeartbeats 2000000 in
theorem ref_Sub_ok (n1 n2 : Bool) (a b : Option Addr) (ca cb : Nat) (l m : List Int) (w : World) (h : Ints w a ca l) (k : Ints w b cb m) (h1 : chkB n1 l = true) (h2 : chkB n2 m = true) (hlen : Len (sgn n1 (dval l) - sgn n2 (dval m))) :
    Calls Tryd.prog 42 #[.agg #[.bool n1, .slice a l.length ca], .agg #[.bool n2, .slice b m.length cb]] w (OneP (sgn n1 (dval l) - sgn n2 (dval m)) w) := by
  skip
  obtain ⟨w3, hw3⟩ : ∃ w3, (((w.alloc (.cells #[.bool n1, .slice a l.length ca] 24)).alloc (.cells #[.bool n2, .slice b m.length cb] 24)).alloc (.cells #[.bool false, .slice none 0 0] 24)) = w3 := ⟨_, rfl⟩
  have B1 := ((Blk.new0 w #[.bool n1, .slice a l.length ca] 24).alloc (.cells #[.bool n2, .slice b m.length cb] 24)).alloc (.cells #[.bool false, .slice none 0 0] 24)
  have B2 := (Blk.new1 w (.cells #[.bool n1, .slice a l.length ca] 24) #[.bool n2, .slice b m.length cb] 24).alloc (.cells #[.bool false, .slice none 0 0] 24)
  have B3 := Blk.new2 w (.cells #[.bool n1, .slice a l.length ca] 24) (.cells #[.bool n2, .slice b m.length cb] 24) #[.bool false, .slice none 0 0] 24
  have hx : Ext w w3 := by rw [← hw3]; exact (by repeat (first | with_reducible exact Ext.refl _ | with_reducible assumption | with_reducible refine Ext.drewN ?_ _ | with_reducible refine Ext.drew ?_ | with_reducible refine Ext.alloc' ?_ _ | with_reducible refine Ext.set ?_ (by dsimp only; omega) _))
  rw [hw3] at B1 B2 B3
  have c0 := B1.cell (i := 0) (v := .bool n1) rfl
  have c1 := B1.cell (i := 1) (v := .slice a l.length ca) rfl
  have c2 := B2.cell (i := 0) (v := .bool n2) rfl
  have c3 := B2.cell (i := 1) (v := .slice b m.length cb) rfl
  have H1 := Lib.hid B1
  have H2 := Lib.hid B2
  have H3 := Lib.hid B3
  have HW := Lib.hid hw3
  have HT := ref_two n1 n2 a b ca cb l m w3 (h.ext hx) (k.ext hx)
  rw [h1, h2] at HT
  have HT := Lib.hid (show Calls Tryd.prog 53 _ w3 fun e w' => e = .returned (.int .i64 0) ∧ Ext w3 w' from HT)
  obtain ⟨z1, y1⟩ := of_chk h1
  obtain ⟨z2, y2⟩ := of_chk h2
  have HN := Lib.hid (fun W => ref_Neg n2 b cb m W)
  have hlz : Len (sgn n1 (dval l)) := by unfold Len; rw [← z1.digs]; exact y1
  have hly : Len (- sgn n2 (dval m)) := by unfold Len; rw [← z2.neg.digs]; exact y2
  have HA := Lib.hid (fun W (hy : Ext w W) => rAdd_val (v := .agg #[.bool n1, .slice a l.length ca]) (u := .agg #[.bool (!n2 && decide (0 < m.length)), .slice b m.length cb]) ⟨n1, l, ⟨a, ca, rfl, h.ext hy⟩, z1⟩ ⟨_, m, ⟨b, cb, rfl, k.ext hy⟩, z2.neg⟩ hlz hly (by rw [show sgn n1 (dval l) + - sgn n2 (dval m) = sgn n1 (dval l) - sgn n2 (dval m) by omega]; exact hlen))
  rw [show sgn n1 (dval l) + - sgn n2 (dval m) = sgn n1 (dval l) - sgn n2 (dval m) by omega] at HA
  generalize sgn n1 (dval l) - sgn n2 (dval m) = z at *
  obtain ⟨nn, hnn⟩ : ∃ nn, (!n2 && decide (0 < m.length)) = nn := ⟨_, rfl⟩
  rw [hnn] at HN HA
  clear z1 z2 y1 y2 h1 h2 h k B1 B2 B3 hw3 hlen hlz hly hnn
  go_enter Tryd.func42, Tryd.ntmps42
  go_upto_region 1 with fail
  rw [HW.out]
  simp only [Nat.add_assoc, Nat.reduceAdd]
  go_wp2_with fail
  refine HT.out.mono ?_
  rintro e w5 ⟨rfl, hy⟩
  have H5 := Lib.hid (H3.out.ext hy)
  have hx5 := hx.trans hy
  clear c0 c1 c2 c3
  have c0 := (H1.out.ext hy).cell (i := 0) (v := .bool n1) rfl
  have c1 := (H1.out.ext hy).cell (i := 1) (v := .slice a l.length ca) rfl
  have c2 := (H2.out.ext hy).cell (i := 0) (v := .bool n2) rfl
  have c3 := (H2.out.ext hy).cell (i := 1) (v := .slice b m.length cb) rfl
  have s0d : w5.drew.cell? ⟨w.heap.size, 0, none⟩ = some (.bool n1) ∧ w5.drew.cell? ⟨w.heap.size, 1, none⟩ = some (.slice a l.length ca) ∧ w5.drew.cell? ⟨w.heap.size + 1, 0, none⟩ = some (.bool n2) ∧ w5.drew.cell? ⟨w.heap.size + 1, 1, none⟩ = some (.slice b m.length cb) := ⟨c0, c1, c2, c3⟩
  have hext : ∀ {A B : World}, Ext A B → (A.cell? ⟨w.heap.size, 0, none⟩ = some (.bool n1) ∧ A.cell? ⟨w.heap.size, 1, none⟩ = some (.slice a l.length ca) ∧ A.cell? ⟨w.heap.size + 1, 0, none⟩ = some (.bool n2) ∧ A.cell? ⟨w.heap.size + 1, 1, none⟩ = some (.slice b m.length cb)) → (B.cell? ⟨w.heap.size, 0, none⟩ = some (.bool n1) ∧ B.cell? ⟨w.heap.size, 1, none⟩ = some (.slice a l.length ca) ∧ B.cell? ⟨w.heap.size + 1, 0, none⟩ = some (.bool n2) ∧ B.cell? ⟨w.heap.size + 1, 1, none⟩ = some (.slice b m.length cb)) := fun hAB h =>
    ⟨(hAB.cell (p := ⟨_, _, none⟩) (lt_of_cell h.1)).trans h.1, (hAB.cell (p := ⟨_, _, none⟩) (lt_of_cell h.2.1)).trans h.2.1, (hAB.cell (p := ⟨_, _, none⟩) (lt_of_cell h.2.2.1)).trans h.2.2.1, (hAB.cell (p := ⟨_, _, none⟩) (lt_of_cell h.2.2.2)).trans h.2.2.2⟩
  have hset1 : ∀ {A : World} (x y : Value), (A.cell? ⟨w.heap.size, 0, none⟩ = some (.bool n1) ∧ A.cell? ⟨w.heap.size, 1, none⟩ = some (.slice a l.length ca) ∧ A.cell? ⟨w.heap.size + 1, 0, none⟩ = some (.bool n2) ∧ A.cell? ⟨w.heap.size + 1, 1, none⟩ = some (.slice b m.length cb)) → (((A.setCell ⟨w.heap.size + 2, 0, none⟩ x).setCell ⟨w.heap.size + 2, 1, none⟩ y).cell? ⟨w.heap.size, 0, none⟩ = some (.bool n1) ∧ ((A.setCell ⟨w.heap.size + 2, 0, none⟩ x).setCell ⟨w.heap.size + 2, 1, none⟩ y).cell? ⟨w.heap.size, 1, none⟩ = some (.slice a l.length ca) ∧ ((A.setCell ⟨w.heap.size + 2, 0, none⟩ x).setCell ⟨w.heap.size + 2, 1, none⟩ y).cell? ⟨w.heap.size + 1, 0, none⟩ = some (.bool n2) ∧ ((A.setCell ⟨w.heap.size + 2, 0, none⟩ x).setCell ⟨w.heap.size + 2, 1, none⟩ y).cell? ⟨w.heap.size + 1, 1, none⟩ = some (.slice b m.length cb)) := fun x y h => by
    refine ⟨?_, ?_, ?_, ?_⟩ <;> rw [World.cell?_setCell_far _ _ _ _ (by dsimp only; omega), World.cell?_setCell_far _ _ _ _ (by dsimp only; omega)]
    · exact h.1
    · exact h.2.1
    · exact h.2.2.1
    · exact h.2.2.2
  clear H1 H2 HT c0 c1 c2 c3 H3 HW
  go_upto_region 4 with fail
  refine wp_region_held_drew (S := (fun w' => w'.cell? ⟨w.heap.size, 0, none⟩ = some (.bool n1) ∧ w'.cell? ⟨w.heap.size, 1, none⟩ = some (.slice a l.length ca) ∧ w'.cell? ⟨w.heap.size + 1, 0, none⟩ = some (.bool n2) ∧ w'.cell? ⟨w.heap.size + 1, 1, none⟩ = some (.slice b m.length cb))) (by kernel_rfl) ?_ (fun hHeld => ?_)
  · (first | with_reducible exact s0d | with_reducible exact hext hy6 hHeld | with_reducible exact hS7 | with_reducible exact hHeld | with_reducible exact hset1 _ _ hHeld)
  refine wpAnyH_take (i := 0) (oi := _) (v := ?_) rfl (by kernel_rfl) (by kernel_rfl) (by kernel_rfl) (fun _ _ _ h => h) (Or.inl ⟨by rfl, ?_⟩) (by assumption) ?_
  rotate_left
  · (intro w hSw; (try dsimp only at hSw); (try go_simp); (try with_reducible rfl))
  (try simp only [Act.put, List.getElem_toArray, List.getElem_cons_succ, List.getElem_cons_zero, List.setIfInBounds_toArray, List.set_cons_zero, List.set_cons_succ])
  refine wpAnyH_take (i := 1) (oi := _) (v := ?_) rfl (by kernel_rfl) (by kernel_rfl) (by kernel_rfl) (fun _ _ _ h => h) (Or.inl ⟨by rfl, ?_⟩) (by assumption) ?_
  rotate_left
  · (intro w hSw; (try dsimp only at hSw); (try go_simp); (try with_reducible rfl))
  (try simp only [Act.put, List.getElem_toArray, List.getElem_cons_succ, List.getElem_cons_zero, List.setIfInBounds_toArray, List.set_cons_zero, List.set_cons_succ])
  refine wpAnyH_ready (rs := [2]) (by kernel_rfl) (by simp) ?_
  refine AllReadyH.cons (o := _) rfl (fun K hK => ?_) ?_
  · go_simp
    refine (HN.out _).mono ?_; rintro e6 w6 ⟨rfl, hy6⟩
    refine hK.out _ _ ?_ (fun hHeld2 => ?_)
    · (first | with_reducible exact s0d | with_reducible exact hext hy6 hHeld | with_reducible exact hS7 | with_reducible exact hHeld | with_reducible exact hset1 _ _ hHeld)
    clear hK K hHeld
    have hHeld := hHeld2
    clear hHeld2
    (try simp only [Act.put, List.getElem_toArray, List.getElem_cons_succ, List.getElem_cons_zero, List.setIfInBounds_toArray, List.set_cons_zero, List.set_cons_succ])
    refine wpAnyH_ready (rs := [3]) (by kernel_rfl) (by simp) ?_
    refine AllReadyH.cons (o := _) rfl (fun K hK => ?_) ?_
    · go_simp
      refine (HA.out w6 (hx5.drew.trans hy6)).mono ?_; rintro e7 w7 ⟨v7, rfl, hv7, hy7⟩; obtain ⟨t, a6, cp6, L6, rfl⟩ := hv7.form; have hyy := hy6.trans hy7; have J5 := (H5.out.drew).ext hyy; have d0 := J5.cell (i := 0) (v := .bool false) rfl; have d1 := J5.cell (i := 1) (v := .slice none 0 0) rfl; have f0 := J5.free 0; have f1 := J5.free 1; have hS7 := hext hyy s0d
      refine hK.out _ _ ?_ (fun hHeld2 => ?_)
      · (first | with_reducible exact s0d | with_reducible exact hext hy6 hHeld | with_reducible exact hS7 | with_reducible exact hHeld | with_reducible exact hset1 _ _ hHeld)
      clear hK K hHeld
      have hHeld := hHeld2
      clear hHeld2
      (try simp only [Act.put, List.getElem_toArray, List.getElem_cons_succ, List.getElem_cons_zero, List.setIfInBounds_toArray, List.set_cons_zero, List.set_cons_succ])
      refine wpAnyH_take (i := 4) (oi := _) (v := ?_) rfl (by kernel_rfl) (by kernel_rfl) (by kernel_rfl) (fun _ _ _ h => h) (Or.inl ⟨by rfl, ?_⟩) (by assumption) ?_
      rotate_left
      · (intro w hSw; (try dsimp only at hSw); (try go_simp); (try with_reducible rfl))
      (try simp only [Act.put, List.getElem_toArray, List.getElem_cons_succ, List.getElem_cons_zero, List.setIfInBounds_toArray, List.set_cons_zero, List.set_cons_succ])
      refine wpAnyH_take (i := 5) (oi := _) (v := ?_) rfl (by kernel_rfl) (by kernel_rfl) (by kernel_rfl) (fun _ _ _ h => h) (Or.inl ⟨by rfl, ?_⟩) (by assumption) ?_
      rotate_left
      · (intro w hSw; (try dsimp only at hSw); (try go_simp); (try with_reducible rfl))
      (try simp only [Act.put, List.getElem_toArray, List.getElem_cons_succ, List.getElem_cons_zero, List.setIfInBounds_toArray, List.set_cons_zero, List.set_cons_succ])
      refine wpAnyH_ready (rs := [6]) (by kernel_rfl) (by simp) ?_
      refine AllReadyH.cons (o := _) rfl (fun K hK => ?_) ?_
      · go_simp
        refine hK.out _ _ ?_ (fun hHeld2 => ?_)
        · (first | with_reducible exact s0d | with_reducible exact hext hy6 hHeld | with_reducible exact hS7 | with_reducible exact hHeld | with_reducible exact hset1 _ _ hHeld)
        clear hK K hHeld
        have hHeld := hHeld2
        clear hHeld2
        (try simp only [Act.put, List.getElem_toArray, List.getElem_cons_succ, List.getElem_cons_zero, List.setIfInBounds_toArray, List.set_cons_zero, List.set_cons_succ])
        refine wpAnyH_ready (rs := [7]) (by kernel_rfl) (by simp) ?_
        refine AllReadyH.cons (o := _) rfl (fun K hK => ?_) ?_
        · go_simp
          refine hK.out _ _ ?_ (fun hHeld2 => ?_)
          · (first | with_reducible exact s0d | with_reducible exact hext hy6 hHeld | with_reducible exact hS7 | with_reducible exact hHeld | with_reducible exact hset1 _ _ hHeld)
          clear hK K hHeld
          have hHeld := hHeld2
          clear hHeld2
          (try simp only [Act.put, List.getElem_toArray, List.getElem_cons_succ, List.getElem_cons_zero, List.setIfInBounds_toArray, List.set_cons_zero, List.set_cons_succ])
          refine wpAnyH_done (by kernel_rfl) ?_ _
          (go_wp2_with fail; have L5 := (J5.set 0 (.bool t)).set 1 (.slice a6 L6 cp6); have e0 := L5.cell (i := 0) (v := .bool t) rfl; have e1 := L5.cell (i := 1) (v := .slice a6 L6 cp6) rfl; have hlt5 := H5.out.lt; have hs56 : w5.heap.size ≤ w6.heap.size := hy6.size; have hs35 := hx5.size; refine bodyPost_ret (v := .tuple #[.agg #[.bool t, .slice a6 L6 cp6], .int .i64 0]) (by simp [results, Tryd.results42, go_sem, e0, e1]) rfl ?_; refine ⟨_, rfl, ((hv7.put (p := ⟨w.heap.size + 2, 0, none⟩) (by dsimp only; omega) _).put (p := ⟨w.heap.size + 2, 1, none⟩) (by dsimp only; omega) _).base (by omega), ((hx5.drew.trans hyy).set (p := ⟨w.heap.size + 2, 0, none⟩) (by dsimp only; omega) _).set (p := ⟨w.heap.size + 2, 1, none⟩) (by dsimp only; omega) _⟩)
        exact AllReadyH.nil
      exact AllReadyH.nil
    exact AllReadyH.nil
  exact AllReadyH.nil
theorem rSub_val {v u : Value} {z y : Int} {w : World} (hv : BigV w v z) (hu : BigV w u y) (hz : Len z) (hy : Len y) (hl : Len (z - y)) : Calls Tryd.prog 42 #[v, u] w (OneP (z - y) w) := by
  obtain ⟨n1, l, ⟨a, ca, rfl, hi⟩, hb⟩ := hv
  obtain ⟨n2, m, ⟨b, cb, rfl, hj⟩, hc⟩ := hu
  have := ref_Sub_ok n1 n2 a b ca cb l m w hi hj (hb.chk hz) (hc.chk hy) (by rw [← hb.sgn, ← hc.sgn]; exact hl)
  rw [← hb.sgn, ← hc.sgn] at this
  exact this
end Go.Proofs.YtpaaanbcadlhiaaDoor
