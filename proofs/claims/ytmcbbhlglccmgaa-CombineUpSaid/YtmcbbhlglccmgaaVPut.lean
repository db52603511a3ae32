import Derived.Test.YtmcbbhlglccmgaaQ4
import Derived.Test.YtmcbbhlglccmgaaPNews
import Derived.Deep.DrawnRows
namespace Go.Proofs.Ytmcbbhlglccmgaa
open Go.RowKit Go BigFrame
set_option maxRecDepth 100000
set_option linter.unusedSimpArgs false
set_option linter.unusedVariables false
attribute [local go_sem ↓] Go.wp_at_zero Go.wp_at_succ

/-! The reference's put: a number comes into its place of an increasing list. -/
theorem run_append_put {a0 w : World} (hx0 : Ext a0 w) {v : Value} {L : List Int} (hown : OwnI w a0.heap.size v L) {A : Addr} {n c : Nat} {l : List Int} (hn : l.length = n) (hI : Ints w (some A) c l) (hlen : L.length + l.length ≤ 1000000) (ty : TypeId) :
    ∃ v' w', (Builtin.append_ #[27, 27] ty #[v, .slice (some A) n c]).run Try.prog w = .ok v' w' ∧ OwnI w' a0.heap.size v' (L ++ l) ∧ Ext a0 w' ∧ (∀ p cs t, Blk w p cs t → v.ownBlock ≠ some p → Blk w' p cs t ∧ v'.ownBlock ≠ some p) := by
  obtain ⟨i0, hi0, hz0, hz1, hz2⟩ := info_parts infoI
  subst hn
  have key : ∃ v' w', (Builtin.append_ #[27, 27] ty #[v, .slice (some A) l.length c]).run Try.prog w = .ok v' w' ∧ w'.ownsRow a0.heap.size 3 1 v' (L.length + l.length) (L.map (Value.int .i64) ++ l.map (Value.int .i64)) ∧ w.grownBy w' v.ownBlock ∧
      (v' = .slice none 0 0 ↔ v = .slice none 0 0 ∧ l.length = 0) ∧ (v'.ownBlock = v.ownBlock ∨ v'.ownBlock = some w.heap.size) := by
    refine run_append_own_at w a0.heap.size 27 ty 3 i0 (.int .i64 0) 1 8 Try.underlying27 hi0 hz0 hz1 hz2 rfl (by decide) v L.length (L.map (Value.int .i64)) hown.own A l.length c (l.map (Value.int .i64)) (by simp) ?_ (fun u hu => by obtain ⟨z, _, rfl⟩ := List.mem_map.1 hu; rfl) (by unfold maxLen; omega) (by omega) hx0.size
    by_cases hl : l = []
    · subst hl; intro j u hu; simp at hu
    · obtain ⟨b, o', e⟩ := hI.head (i := 0) (List.length_pos_iff.2 hl)
      cases e
      exact hI.news0
  obtain ⟨v', w', h0, h1, h2, h3, h4⟩ := key
  obtain ⟨g, cap, rfl, hb, hg, _⟩ := hown.form
  refine ⟨v', w', h0, ⟨fun e => absurd (h3.1 e).1 hown.nn, by simpa using h1⟩, Below.grown hx0 h2 hx0.size (fun k e => by
    simp only [Value.ownBlock, Option.some.injEq] at e
    omega), fun p cs t hp hne => ⟨(h2.block p hp.lt (Ne.symm hne)).trans hp, ?_⟩⟩
  rcases h4 with h4 | h4
  · rw [h4]; exact hne
  · rw [h4]; intro e; have := hp.lt; cases e; omega
/-- Into its place: behind all that are not greater, up to the first greater one. -/
def putL (l : List Int) (n : Int) : List Int := l.takeWhile (fun x => decide (x ≤ n)) ++ n :: l.dropWhile (fun x => decide (x ≤ n))
theorem tw_len {l : List Int} {n : Int} {k : Nat} (hk : k ≤ l.length) (hall : ∀ j, j < k → ∀ x, l[j]? = some x → x ≤ n) (hs : ∀ x, l[k]? = some x → ¬ x ≤ n) : l.takeWhile (fun x => decide (x ≤ n)) = l.take k ∧ l.dropWhile (fun x => decide (x ≤ n)) = l.drop k := by
  induction l generalizing k with
  | nil => simp
  | cons y l ih =>
    cases k with
    | zero => have := hs y rfl; simp [List.takeWhile_cons, List.dropWhile_cons, this]
    | succ k =>
      have hy := hall 0 (by omega) y rfl
      obtain ⟨h1, h2⟩ := ih (k := k) (by simpa using hk) (fun j hj x hx => hall (j + 1) (by omega) x (by simpa using hx)) (fun x hx => hs x (by simpa using hx))
      simp [List.takeWhile_cons, List.dropWhile_cons, hy, h1, h2]
theorem Ints.pre {w : World} {A : Addr} {cap : Nat} {l : List Int} (h : Ints w (some A) cap l) {k : Nat} (hk : k ≤ l.length) : Ints w (some A) cap (l.take k) :=
  ⟨by have := h.le; simp; omega, h.mx, by simp, fun B hB i hi => by
    have hi2 : i < l.length := by simp at hi; omega
    obtain ⟨e, v, hv, r⟩ := h.cells B hB i hi2
    exact ⟨e, v, hv, by simpa using r⟩⟩
theorem step_append_put {ops : Array Oper} {o : Oper} {a : Act} {K : Act → World → Prop} {Q : Exit → Act → World → Prop} {E : Prop} (hgd : o.guard = none) (s x : Operand)
    (ho : o.op = .call { callee := .builtin .append, args := #[s, x], argTypes := #[27, 27] }) {a0 w : World} (hx0 : Ext a0 w) {v : Value} (hs : a.eval s = v) {L : List Int} (hown : OwnI w a0.heap.size v L) {A : Addr} {n c : Nat} {l : List Int}
    (hx : a.eval x = .slice (some A) n c) (hn : l.length = n) (hI : Ints w (some A) c l) (hlen : L.length + l.length ≤ 1000000)
    (h : ∀ v' w', OwnI w' a0.heap.size v' (L ++ l) → Ext a0 w' → (∀ p cs t, Blk w p cs t → v.ownBlock ≠ some p → Blk w' p cs t ∧ v'.ownBlock ≠ some p) → K (a.put o.dst v') w') :
    if Region.wanted o (yielded ops a.tmps) = true then Oper.wp Try.prog o a w K Q else E := by
  have hw : Region.wanted o (yielded ops a.tmps) = true := by simp [Region.wanted, hgd]
  rw [if_pos hw]
  obtain ⟨v', w', hr, h1, h2, h3⟩ := run_append_put hx0 hown hn hI hlen o.type
  unfold Oper.wp execOp
  simp only [ho, resolve, invoke, builtin, Sem.run_bind, Sem.run_pure, Result.andThen_ok, List.map_toArray, List.map_cons, List.map_nil, hs, hx, hr]
  exact h v' w' h1 h2 h3
theorem own_new {a0 y : World} (hE : Ext a0 y) : OwnI (y.alloc (.cells #[] 3)) a0.heap.size (.slice (some ⟨y.heap.size, 0, none⟩) 0 0) [] ∧ Ext a0 (y.alloc (.cells #[] 3)) := by
  refine ⟨?_, hE.alloc' _⟩
  have h := OwnI.new y
  refine ⟨h.nn, h.own.1, ?_⟩
  rcases h.own.2 with h2 | ⟨g, cap, cur, e, hb, r⟩
  · exact .inl h2
  · exact .inr ⟨g, cap, cur, e, Nat.le_trans hE.size hb, r⟩
theorem own_ne {w : World} {B : Nat} {v : Value} {L : List Int} (h : OwnI w B v L) : v.ownBlock ≠ some w.heap.size := by
  obtain ⟨g, cap, rfl, _, hg, _⟩ := h.form
  intro e
  simp only [Value.ownBlock, Option.some.injEq] at e
  omega
theorem int1 {w : World} {g : Nat} {a : Int} {t : TypeId} (h : Blk w g #[.int .i64 a] t) (ha : -9223372036854775808 ≤ a ∧ a ≤ 9223372036854775807) : Ints w (some ⟨g, 0, none⟩) 1 [a] :=
  ⟨by simp, by omega, (by simp), fun A hA i hi => by
    cases hA
    simp only [List.length_cons, List.length_nil] at hi
    match i, hi with
    | 0, _ => exact ⟨rfl, _, h.cell (i := 0) rfl, rfl, ha.1, ha.2⟩⟩
theorem Ints.post {w : World} {b o cap : Nat} {l : List Int} (h : Ints w (some ⟨b, o, none⟩) cap l) {k : Nat} (hk : k ≤ l.length) : Ints w (some ⟨b, o + k, none⟩) (cap - k) (l.drop k) := by
  have hm := h.mx
  have hl := h.le
  refine ⟨by simp; omega, by omega, by simp, fun A hA i hi' => ?_⟩
  cases hA
  have hi2 : k + i < l.length := by simp at hi'; omega
  obtain ⟨e1, e2, e3⟩ := h.cell hi2
  refine ⟨rfl, _, by rw [show o + k + i = o + (k + i) by omega]; exact e1, ?_⟩
  have : (l.drop k)[i] = l[k + i] := by simp
  exact ⟨by rw [this], by rw [this]; exact e2, by rw [this]; exact e3⟩
set_option maxHeartbeats 4000000 in
theorem ref16_put (b o cap : Nat) (l : List Int) (n : Int) (w : World) (h : Ints w (some ⟨b, o, none⟩) cap l) (hl : l.length ≤ 1000) (hn : -9223372036854775808 ≤ n ∧ n ≤ 9223372036854775807) :
    Calls Try.prog 61 #[.slice (some ⟨b, o, none⟩) l.length cap, .int .i64 n] w fun e w' => ∃ v, e = .returned v ∧ OwnI w' w.heap.size v (putL l n) ∧ Ext w w' := by
  have hle := h.le
  have hmx := h.mx
  have HI := Lib.hid h
  have HN := Lib.hid hn
  go_enter Try.func61, Try.ntmps61
  go_wp2_with fail
  go_loop [5] (fun i => ∃ k : Nat, k ≤ l.length ∧ i = .int .i64 k ∧ (∀ j, j < k → ∀ x, l[j]? = some x → x ≤ n)) (fun i => l.length - (intOf i).toNat)
  case atStart => exact ⟨0, Nat.zero_le _, rfl, fun j hj => absurd hj (Nat.not_lt_zero _)⟩
  case round =>
    obtain ⟨k, hk, rfl, hall⟩ := hrel
    have HA := Lib.hid hall
    clear hall
    have g0 : (0 : Int) ≤ (k : Int) := by omega
    by_cases hlt : k < l.length ∧ ∀ x, l[k]? = some x → x ≤ n
    · obtain ⟨hlt, hx⟩ := hlt
      obtain ⟨x, hxk, hc, _, _⟩ := Ints.get h hlt
      have hxn := hx x hxk
      have HX := Lib.hid hxk
      have g2 : (k : Int) < (l.length : Int) := by omega
      clear hx hxk
      go_wp2_with fail
      go_round
      case rel => exact ⟨k + 1, by omega, by go_num, fun j hj y hy => (by
        by_cases hjk : j < k
        · exact HA.out j hjk y hy
        · obtain rfl : j = k := by omega
          rw [HX.out] at hy
          cases hy
          exact hxn)⟩
      case measure => simp [intOf]; omega
    · have hs : ∀ x, l[k]? = some x → ¬ x ≤ n := fun x hx hxn => hlt ⟨(List.getElem?_eq_some_iff.1 hx).1, fun y hy => by rw [hx] at hy; cases hy; exact hxn⟩
      obtain ⟨e1, e2⟩ := tw_len hk HA.out hs
      have HP := Lib.hid (show putL l n = l.take k ++ n :: l.drop k by unfold putL; rw [e1, e2])
      clear hlt HA e1 e2
      by_cases hkl : k < l.length
      · obtain ⟨x, hxk, hc, _, _⟩ := Ints.get h hkl
        have hxn := hs x hxk
        have q1 : decide (x ≤ n) = false := decide_eq_false hxn
        have g2 : (k : Int) < (l.length : Int) := by omega
        clear hs hxk h
        go_upto_region 4 with fail
        have g3 : (k : Int) ≤ (l.length : Int) := by omega
        have g4 : (l.length : Int) ≤ (cap : Int) := by omega
        have g5 : (k : Int) ≤ (cap : Int) := by omega
        clear hc hxn q1
        have hE : Ext w (World.drew w) := (Ext.refl w).drew
        by_cases hkc : k = cap
        · subst hkc
          have hkl2 : l.length = k := by omega
          have hkc2 : l.length - k = 0 := by omega
          have hdk : l.drop k = [] := List.drop_eq_nil_of_le (by omega)
          replace hkl2 := Lib.hid hkl2
          refine wp_region_held_drew (S := (fun _ => True)) (by kernel_rfl) ?_ (fun hHeld => ?_)
          · trivial
          (try simp only [← List.toArray_replicate, List.size_toArray, List.length_cons, List.length_nil, Nat.reduceAdd, List.replicate_succ, List.replicate_zero])
          generalize World.drew w = y0 at *
          refine wpAnyH_take (i := 1) (oi := _) (v := ?_) rfl (by kernel_rfl) (by kernel_rfl) (by kernel_rfl) (fun _ _ _ h => h) (Or.inl ⟨by rfl, ?_⟩) (by assumption) ?_
          rotate_left
          · (intro w hSw; (try dsimp only at hSw); (try go_simp); (try with_reducible rfl))
          (try simp only [Act.put, List.getElem_toArray, List.getElem_cons_succ, List.getElem_cons_zero, List.setIfInBounds_toArray, List.set_cons_zero, List.set_cons_succ])
          refine wpAnyH_take (i := 2) (oi := _) (v := ?_) rfl (by kernel_rfl) (by kernel_rfl) (by kernel_rfl) (fun _ _ _ h => h) (Or.inl ⟨by rfl, ?_⟩) (by assumption) ?_
          rotate_left
          · (intro w hSw; (try dsimp only at hSw); (try go_simp); (try with_reducible rfl))
          (try simp only [Act.put, List.getElem_toArray, List.getElem_cons_succ, List.getElem_cons_zero, List.setIfInBounds_toArray, List.set_cons_zero, List.set_cons_succ])
          refine wpAnyH_take (i := 3) (oi := _) (v := ?_) rfl (by kernel_rfl) (by kernel_rfl) (by kernel_rfl) (fun _ _ _ h => h) (Or.inl ⟨by rfl, ?_⟩) (by assumption) ?_
          rotate_left
          · (intro w hSw; (try dsimp only at hSw); (try go_simp); (try with_reducible rfl))
          (try simp only [Act.put, List.getElem_toArray, List.getElem_cons_succ, List.getElem_cons_zero, List.setIfInBounds_toArray, List.set_cons_zero, List.set_cons_succ])
          refine wpAnyH_take (i := 5) (oi := _) (v := ?_) rfl (by kernel_rfl) (by kernel_rfl) (by kernel_rfl) (fun _ _ _ h => h) (Or.inl ⟨by rfl, ?_⟩) (by assumption) ?_
          rotate_left
          · (intro w hSw; (try dsimp only at hSw); (try go_simp); (try with_reducible rfl))
          (try simp only [Act.put, List.getElem_toArray, List.getElem_cons_succ, List.getElem_cons_zero, List.setIfInBounds_toArray, List.set_cons_zero, List.set_cons_succ])
          refine wpAnyH_take (i := 8) (oi := _) (v := ?_) rfl (by kernel_rfl) (by kernel_rfl) (by kernel_rfl) (fun _ _ _ h => h) (Or.inl ⟨by rfl, ?_⟩) (by assumption) ?_
          rotate_left
          · (intro w hSw; (try dsimp only at hSw); (try go_simp); (try with_reducible rfl))
          (try simp only [Act.put, List.getElem_toArray, List.getElem_cons_succ, List.getElem_cons_zero, List.setIfInBounds_toArray, List.set_cons_zero, List.set_cons_succ])
          refine wpAnyH_take (i := 9) (oi := _) (v := ?_) rfl (by kernel_rfl) (by kernel_rfl) (by kernel_rfl) (fun _ _ _ h => h) (Or.inl ⟨by rfl, ?_⟩) (by assumption) ?_
          rotate_left
          · (intro w hSw; (try dsimp only at hSw); (try go_simp); (try with_reducible rfl))
          (try simp only [Act.put, List.getElem_toArray, List.getElem_cons_succ, List.getElem_cons_zero, List.setIfInBounds_toArray, List.set_cons_zero, List.set_cons_succ])
          refine wpAnyH_take (i := 10) (oi := _) (v := ?_) rfl (by kernel_rfl) (by kernel_rfl) (by kernel_rfl) (fun _ _ _ h => h) (Or.inl ⟨by rfl, ?_⟩) (by assumption) ?_
          rotate_left
          · (intro w hSw; (try dsimp only at hSw); (try go_simp); (try with_reducible rfl))
          (try simp only [Act.put, List.getElem_toArray, List.getElem_cons_succ, List.getElem_cons_zero, List.setIfInBounds_toArray, List.set_cons_zero, List.set_cons_succ])
          refine wpAnyH_ready (rs := [0, 6]) (by kernel_rfl) (by simp) ?_
          refine AllReadyH.cons (o := _) rfl (fun K hK => ?_) ?_
          · go_simp
            obtain ⟨hO, hE2⟩ := own_new hE; have hgl : Array.size (World.heap y0) < Array.size (World.heap (World.alloc y0 (.cells #[] 3))) := (by simp); replace hE := hE2; clear hE2; generalize World.alloc y0 (.cells #[] 3) = y1 at *; generalize Array.size (World.heap y0) = g0 at *; generalize Value.slice (some ⟨g0, 0, none⟩) 0 0 = v0 at *
            refine hK.out _ _ ?_ (fun hHeld2 => ?_)
            · trivial
            clear hK K hHeld
            have hHeld := hHeld2
            clear hHeld2
            (try simp only [Act.put, List.getElem_toArray, List.getElem_cons_succ, List.getElem_cons_zero, List.setIfInBounds_toArray, List.set_cons_zero, List.set_cons_succ])
            refine wpAnyH_ready (rs := [4, 6]) (by kernel_rfl) (by simp) ?_
            refine AllReadyH.cons (o := _) rfl (fun K hK => ?_) ?_
            · refine step_append_put (by rfl) (.tmp 20) (.tmp 23) (by rfl) hE (by rfl) hO (A := ⟨b, o, none⟩) (c := k) (l := l.take k) (n := k) (by rfl) (by simp; omega) ((HI.out.ext hE).pre (by omega)) (by simp; omega) ?_; intro v1 y4 hO1 hE1 hF; have hE := hE1; have hO := hO1
              refine hK.out _ _ ?_ (fun hHeld2 => ?_)
              · trivial
              clear hK K hHeld
              have hHeld := hHeld2
              clear hHeld2
              (try simp only [Act.put, List.getElem_toArray, List.getElem_cons_succ, List.getElem_cons_zero, List.setIfInBounds_toArray, List.set_cons_zero, List.set_cons_succ])
              refine wpAnyH_ready (rs := [6]) (by kernel_rfl) (by simp) ?_
              refine AllReadyH.cons (o := _) rfl (fun K hK => ?_) ?_
              · go_simp
                have hB := Blk.new0 y4 #[.int .i64 n] 3; have hE2 := hE.alloc' (.cells #[.int .i64 n] 3); have hne : v1.ownBlock ≠ some (Array.size (World.heap y4)) := own_ne hO; replace hO := hO.ext (Ext.alloc y4 (.cells #[.int .i64 n] 3)); replace hE := hE2; clear hE2; generalize World.alloc y4 (.cells #[.int .i64 n] 3) = y3 at *; generalize Array.size (World.heap y4) = pn at *
                refine hK.out _ _ ?_ (fun hHeld2 => ?_)
                · trivial
                clear hK K hHeld
                have hHeld := hHeld2
                clear hHeld2
                (try simp only [Act.put, List.getElem_toArray, List.getElem_cons_succ, List.getElem_cons_zero, List.setIfInBounds_toArray, List.set_cons_zero, List.set_cons_succ])
                refine wpAnyH_ready (rs := [7]) (by kernel_rfl) (by simp) ?_
                refine AllReadyH.cons (o := _) rfl (fun K hK => ?_) ?_
                · refine step_append_put (by rfl) (.tmp 24) (.tmp 26) (by rfl) hE (by rfl) hO (A := ⟨pn, 0, none⟩) (c := 1) (l := [n]) (n := 1) (by rfl) rfl (int1 hB HN.out) (by simp; omega) ?_; intro v2 y7 hO2 hE2 hF2; have hE := hE2; have hO := hO2
                  refine hK.out _ _ ?_ (fun hHeld2 => ?_)
                  · trivial
                  clear hK K hHeld
                  have hHeld := hHeld2
                  clear hHeld2
                  (try simp only [Act.put, List.getElem_toArray, List.getElem_cons_succ, List.getElem_cons_zero, List.setIfInBounds_toArray, List.set_cons_zero, List.set_cons_succ])
                  refine wpAnyH_ready (rs := [11]) (by kernel_rfl) (by simp) ?_
                  refine AllReadyH.cons (o := _) rfl (fun K hK => ?_) ?_
                  · refine step_append_put (by rfl) (.tmp 27) (.tmp 30) (by rfl) hE (by rfl) hO (A := ⟨b, o, none⟩) (c := 0) (n := 0) (l := l.drop k) (by rfl) (by first | (simp; done) | (rw [hdk]; rfl)) (by rw [hdk]; exact ⟨by simp, by omega, by simp, fun B hB i hi => by simp at hi⟩) (by simp; omega) ?_; intro v3 y11 hO3 hE3 hF3; have hE := hE3; have hO := hO3
                    refine hK.out _ _ ?_ (fun hHeld2 => ?_)
                    · trivial
                    clear hK K hHeld
                    have hHeld := hHeld2
                    clear hHeld2
                    (try simp only [Act.put, List.getElem_toArray, List.getElem_cons_succ, List.getElem_cons_zero, List.setIfInBounds_toArray, List.set_cons_zero, List.set_cons_succ])
                    refine wpAnyH_take (i := 12) (oi := _) (v := ?_) rfl (by kernel_rfl) (by kernel_rfl) (by kernel_rfl) (fun _ _ _ h => h) (Or.inl ⟨by rfl, ?_⟩) (by assumption) ?_
                    rotate_left
                    · (intro w hSw; (try dsimp only at hSw); (try go_simp); (try with_reducible rfl))
                    (try simp only [Act.put, List.getElem_toArray, List.getElem_cons_succ, List.getElem_cons_zero, List.setIfInBounds_toArray, List.set_cons_zero, List.set_cons_succ])
                    refine wpAnyH_done (by kernel_rfl) ?_ _
                    go_wp2_with fail
                    go_ret
                    exact ⟨_, rfl, by rw [HP.out]; simpa using hO, hE⟩
                  exact AllReadyH.nil
                exact AllReadyH.nil
              exact AllReadyH.nil
            refine AllReadyH.cons (o := _) rfl (fun K hK => ?_) ?_
            · go_simp
              have hB := Blk.new0 y1 #[.int .i64 n] 3; have hE2 := hE.alloc' (.cells #[.int .i64 n] 3); have hne : v0.ownBlock ≠ some (Array.size (World.heap y1)) := own_ne hO; replace hO := hO.ext (Ext.alloc y1 (.cells #[.int .i64 n] 3)); replace hE := hE2; clear hE2; generalize World.alloc y1 (.cells #[.int .i64 n] 3) = y2 at *; generalize Array.size (World.heap y1) = pn at *
              refine hK.out _ _ ?_ (fun hHeld2 => ?_)
              · trivial
              clear hK K hHeld
              have hHeld := hHeld2
              clear hHeld2
              (try simp only [Act.put, List.getElem_toArray, List.getElem_cons_succ, List.getElem_cons_zero, List.setIfInBounds_toArray, List.set_cons_zero, List.set_cons_succ])
              refine wpAnyH_ready (rs := [4]) (by kernel_rfl) (by simp) ?_
              refine AllReadyH.cons (o := _) rfl (fun K hK => ?_) ?_
              · refine step_append_put (by rfl) (.tmp 20) (.tmp 23) (by rfl) hE (by rfl) hO (A := ⟨b, o, none⟩) (c := k) (l := l.take k) (n := k) (by rfl) (by simp; omega) ((HI.out.ext hE).pre (by omega)) (by simp; omega) ?_; intro v1 y4 hO1 hE1 hF; have hE := hE1; have hO := hO1; obtain ⟨hB, hne⟩ := hF _ _ _ hB hne
                refine hK.out _ _ ?_ (fun hHeld2 => ?_)
                · trivial
                clear hK K hHeld
                have hHeld := hHeld2
                clear hHeld2
                (try simp only [Act.put, List.getElem_toArray, List.getElem_cons_succ, List.getElem_cons_zero, List.setIfInBounds_toArray, List.set_cons_zero, List.set_cons_succ])
                refine wpAnyH_ready (rs := [7]) (by kernel_rfl) (by simp) ?_
                refine AllReadyH.cons (o := _) rfl (fun K hK => ?_) ?_
                · refine step_append_put (by rfl) (.tmp 24) (.tmp 26) (by rfl) hE (by rfl) hO (A := ⟨pn, 0, none⟩) (c := 1) (l := [n]) (n := 1) (by rfl) rfl (int1 hB HN.out) (by simp; omega) ?_; intro v2 y7 hO2 hE2 hF2; have hE := hE2; have hO := hO2
                  refine hK.out _ _ ?_ (fun hHeld2 => ?_)
                  · trivial
                  clear hK K hHeld
                  have hHeld := hHeld2
                  clear hHeld2
                  (try simp only [Act.put, List.getElem_toArray, List.getElem_cons_succ, List.getElem_cons_zero, List.setIfInBounds_toArray, List.set_cons_zero, List.set_cons_succ])
                  refine wpAnyH_ready (rs := [11]) (by kernel_rfl) (by simp) ?_
                  refine AllReadyH.cons (o := _) rfl (fun K hK => ?_) ?_
                  · refine step_append_put (by rfl) (.tmp 27) (.tmp 30) (by rfl) hE (by rfl) hO (A := ⟨b, o, none⟩) (c := 0) (n := 0) (l := l.drop k) (by rfl) (by first | (simp; done) | (rw [hdk]; rfl)) (by rw [hdk]; exact ⟨by simp, by omega, by simp, fun B hB i hi => by simp at hi⟩) (by simp; omega) ?_; intro v3 y11 hO3 hE3 hF3; have hE := hE3; have hO := hO3
                    refine hK.out _ _ ?_ (fun hHeld2 => ?_)
                    · trivial
                    clear hK K hHeld
                    have hHeld := hHeld2
                    clear hHeld2
                    (try simp only [Act.put, List.getElem_toArray, List.getElem_cons_succ, List.getElem_cons_zero, List.setIfInBounds_toArray, List.set_cons_zero, List.set_cons_succ])
                    refine wpAnyH_take (i := 12) (oi := _) (v := ?_) rfl (by kernel_rfl) (by kernel_rfl) (by kernel_rfl) (fun _ _ _ h => h) (Or.inl ⟨by rfl, ?_⟩) (by assumption) ?_
                    rotate_left
                    · (intro w hSw; (try dsimp only at hSw); (try go_simp); (try with_reducible rfl))
                    (try simp only [Act.put, List.getElem_toArray, List.getElem_cons_succ, List.getElem_cons_zero, List.setIfInBounds_toArray, List.set_cons_zero, List.set_cons_succ])
                    refine wpAnyH_done (by kernel_rfl) ?_ _
                    go_wp2_with fail
                    go_ret
                    exact ⟨_, rfl, by rw [HP.out]; simpa using hO, hE⟩
                  exact AllReadyH.nil
                exact AllReadyH.nil
              exact AllReadyH.nil
            exact AllReadyH.nil
          refine AllReadyH.cons (o := _) rfl (fun K hK => ?_) ?_
          · go_simp
            have hB := Blk.new0 y0 #[.int .i64 n] 3; have hE2 := hE.alloc' (.cells #[.int .i64 n] 3); replace hE := hE2; clear hE2; generalize World.alloc y0 (.cells #[.int .i64 n] 3) = y4 at *; generalize Array.size (World.heap y0) = pn at *
            refine hK.out _ _ ?_ (fun hHeld2 => ?_)
            · trivial
            clear hK K hHeld
            have hHeld := hHeld2
            clear hHeld2
            (try simp only [Act.put, List.getElem_toArray, List.getElem_cons_succ, List.getElem_cons_zero, List.setIfInBounds_toArray, List.set_cons_zero, List.set_cons_succ])
            refine wpAnyH_ready (rs := [0]) (by kernel_rfl) (by simp) ?_
            refine AllReadyH.cons (o := _) rfl (fun K hK => ?_) ?_
            · go_simp
              obtain ⟨hO, hE2⟩ := own_new hE; have hgl : Array.size (World.heap y4) < Array.size (World.heap (World.alloc y4 (.cells #[] 3))) := (by simp); have hne : Value.ownBlock (.slice (some ⟨Array.size (World.heap y4), 0, none⟩) 0 0) ≠ some pn := (by have h1 := hB.lt; simp only [Value.ownBlock, ne_eq, Option.some.injEq]; omega); replace hB := hB.alloc (.cells #[] 3); replace hE := hE2; clear hE2; generalize World.alloc y4 (.cells #[] 3) = y5 at *; generalize Array.size (World.heap y4) = g0 at *; generalize Value.slice (some ⟨g0, 0, none⟩) 0 0 = v0 at *
              refine hK.out _ _ ?_ (fun hHeld2 => ?_)
              · trivial
              clear hK K hHeld
              have hHeld := hHeld2
              clear hHeld2
              (try simp only [Act.put, List.getElem_toArray, List.getElem_cons_succ, List.getElem_cons_zero, List.setIfInBounds_toArray, List.set_cons_zero, List.set_cons_succ])
              refine wpAnyH_ready (rs := [4]) (by kernel_rfl) (by simp) ?_
              refine AllReadyH.cons (o := _) rfl (fun K hK => ?_) ?_
              · refine step_append_put (by rfl) (.tmp 20) (.tmp 23) (by rfl) hE (by rfl) hO (A := ⟨b, o, none⟩) (c := k) (l := l.take k) (n := k) (by rfl) (by simp; omega) ((HI.out.ext hE).pre (by omega)) (by simp; omega) ?_; intro v1 y4 hO1 hE1 hF; have hE := hE1; have hO := hO1; obtain ⟨hB, hne⟩ := hF _ _ _ hB hne
                refine hK.out _ _ ?_ (fun hHeld2 => ?_)
                · trivial
                clear hK K hHeld
                have hHeld := hHeld2
                clear hHeld2
                (try simp only [Act.put, List.getElem_toArray, List.getElem_cons_succ, List.getElem_cons_zero, List.setIfInBounds_toArray, List.set_cons_zero, List.set_cons_succ])
                refine wpAnyH_ready (rs := [7]) (by kernel_rfl) (by simp) ?_
                refine AllReadyH.cons (o := _) rfl (fun K hK => ?_) ?_
                · refine step_append_put (by rfl) (.tmp 24) (.tmp 26) (by rfl) hE (by rfl) hO (A := ⟨pn, 0, none⟩) (c := 1) (l := [n]) (n := 1) (by rfl) rfl (int1 hB HN.out) (by simp; omega) ?_; intro v2 y7 hO2 hE2 hF2; have hE := hE2; have hO := hO2
                  refine hK.out _ _ ?_ (fun hHeld2 => ?_)
                  · trivial
                  clear hK K hHeld
                  have hHeld := hHeld2
                  clear hHeld2
                  (try simp only [Act.put, List.getElem_toArray, List.getElem_cons_succ, List.getElem_cons_zero, List.setIfInBounds_toArray, List.set_cons_zero, List.set_cons_succ])
                  refine wpAnyH_ready (rs := [11]) (by kernel_rfl) (by simp) ?_
                  refine AllReadyH.cons (o := _) rfl (fun K hK => ?_) ?_
                  · refine step_append_put (by rfl) (.tmp 27) (.tmp 30) (by rfl) hE (by rfl) hO (A := ⟨b, o, none⟩) (c := 0) (n := 0) (l := l.drop k) (by rfl) (by first | (simp; done) | (rw [hdk]; rfl)) (by rw [hdk]; exact ⟨by simp, by omega, by simp, fun B hB i hi => by simp at hi⟩) (by simp; omega) ?_; intro v3 y11 hO3 hE3 hF3; have hE := hE3; have hO := hO3
                    refine hK.out _ _ ?_ (fun hHeld2 => ?_)
                    · trivial
                    clear hK K hHeld
                    have hHeld := hHeld2
                    clear hHeld2
                    (try simp only [Act.put, List.getElem_toArray, List.getElem_cons_succ, List.getElem_cons_zero, List.setIfInBounds_toArray, List.set_cons_zero, List.set_cons_succ])
                    refine wpAnyH_take (i := 12) (oi := _) (v := ?_) rfl (by kernel_rfl) (by kernel_rfl) (by kernel_rfl) (fun _ _ _ h => h) (Or.inl ⟨by rfl, ?_⟩) (by assumption) ?_
                    rotate_left
                    · (intro w hSw; (try dsimp only at hSw); (try go_simp); (try with_reducible rfl))
                    (try simp only [Act.put, List.getElem_toArray, List.getElem_cons_succ, List.getElem_cons_zero, List.setIfInBounds_toArray, List.set_cons_zero, List.set_cons_succ])
                    refine wpAnyH_done (by kernel_rfl) ?_ _
                    go_wp2_with fail
                    go_ret
                    exact ⟨_, rfl, by rw [HP.out]; simpa using hO, hE⟩
                  exact AllReadyH.nil
                exact AllReadyH.nil
              exact AllReadyH.nil
            exact AllReadyH.nil
          exact AllReadyH.nil
        · have hkc3 : ¬ cap = k := by omega
          refine wp_region_held_drew (S := (fun _ => True)) (by kernel_rfl) ?_ (fun hHeld => ?_)
          · trivial
          (try simp only [← List.toArray_replicate, List.size_toArray, List.length_cons, List.length_nil, Nat.reduceAdd, List.replicate_succ, List.replicate_zero])
          generalize World.drew w = y0 at *
          refine wpAnyH_take (i := 1) (oi := _) (v := ?_) rfl (by kernel_rfl) (by kernel_rfl) (by kernel_rfl) (fun _ _ _ h => h) (Or.inl ⟨by rfl, ?_⟩) (by assumption) ?_
          rotate_left
          · (intro w hSw; (try dsimp only at hSw); (try go_simp); (try with_reducible rfl))
          (try simp only [Act.put, List.getElem_toArray, List.getElem_cons_succ, List.getElem_cons_zero, List.setIfInBounds_toArray, List.set_cons_zero, List.set_cons_succ])
          refine wpAnyH_take (i := 2) (oi := _) (v := ?_) rfl (by kernel_rfl) (by kernel_rfl) (by kernel_rfl) (fun _ _ _ h => h) (Or.inl ⟨by rfl, ?_⟩) (by assumption) ?_
          rotate_left
          · (intro w hSw; (try dsimp only at hSw); (try go_simp); (try with_reducible rfl))
          (try simp only [Act.put, List.getElem_toArray, List.getElem_cons_succ, List.getElem_cons_zero, List.setIfInBounds_toArray, List.set_cons_zero, List.set_cons_succ])
          refine wpAnyH_take (i := 3) (oi := _) (v := ?_) rfl (by kernel_rfl) (by kernel_rfl) (by kernel_rfl) (fun _ _ _ h => h) (Or.inl ⟨by rfl, ?_⟩) (by assumption) ?_
          rotate_left
          · (intro w hSw; (try dsimp only at hSw); (try go_simp); (try with_reducible rfl))
          (try simp only [Act.put, List.getElem_toArray, List.getElem_cons_succ, List.getElem_cons_zero, List.setIfInBounds_toArray, List.set_cons_zero, List.set_cons_succ])
          refine wpAnyH_take (i := 5) (oi := _) (v := ?_) rfl (by kernel_rfl) (by kernel_rfl) (by kernel_rfl) (fun _ _ _ h => h) (Or.inl ⟨by rfl, ?_⟩) (by assumption) ?_
          rotate_left
          · (intro w hSw; (try dsimp only at hSw); (try go_simp); (try with_reducible rfl))
          (try simp only [Act.put, List.getElem_toArray, List.getElem_cons_succ, List.getElem_cons_zero, List.setIfInBounds_toArray, List.set_cons_zero, List.set_cons_succ])
          refine wpAnyH_take (i := 8) (oi := _) (v := ?_) rfl (by kernel_rfl) (by kernel_rfl) (by kernel_rfl) (fun _ _ _ h => h) (Or.inl ⟨by rfl, ?_⟩) (by assumption) ?_
          rotate_left
          · (intro w hSw; (try dsimp only at hSw); (try go_simp); (try with_reducible rfl))
          (try simp only [Act.put, List.getElem_toArray, List.getElem_cons_succ, List.getElem_cons_zero, List.setIfInBounds_toArray, List.set_cons_zero, List.set_cons_succ])
          refine wpAnyH_take (i := 9) (oi := _) (v := ?_) rfl (by kernel_rfl) (by kernel_rfl) (by kernel_rfl) (fun _ _ _ h => h) (Or.inl ⟨by rfl, ?_⟩) (by assumption) ?_
          rotate_left
          · (intro w hSw; (try dsimp only at hSw); (try go_simp); (try with_reducible rfl))
          (try simp only [Act.put, List.getElem_toArray, List.getElem_cons_succ, List.getElem_cons_zero, List.setIfInBounds_toArray, List.set_cons_zero, List.set_cons_succ])
          refine wpAnyH_take (i := 10) (oi := _) (v := ?_) rfl (by kernel_rfl) (by kernel_rfl) (by kernel_rfl) (fun _ _ _ h => h) (Or.inl ⟨by rfl, ?_⟩) (by assumption) ?_
          rotate_left
          · (intro w hSw; (try dsimp only at hSw); (try go_simp); (try with_reducible rfl))
          (try simp only [Act.put, List.getElem_toArray, List.getElem_cons_succ, List.getElem_cons_zero, List.setIfInBounds_toArray, List.set_cons_zero, List.set_cons_succ])
          refine wpAnyH_ready (rs := [0, 6]) (by kernel_rfl) (by simp) ?_
          refine AllReadyH.cons (o := _) rfl (fun K hK => ?_) ?_
          · go_simp
            obtain ⟨hO, hE2⟩ := own_new hE; have hgl : Array.size (World.heap y0) < Array.size (World.heap (World.alloc y0 (.cells #[] 3))) := (by simp); replace hE := hE2; clear hE2; generalize World.alloc y0 (.cells #[] 3) = y6 at *; generalize Array.size (World.heap y0) = g0 at *; generalize Value.slice (some ⟨g0, 0, none⟩) 0 0 = v0 at *
            refine hK.out _ _ ?_ (fun hHeld2 => ?_)
            · trivial
            clear hK K hHeld
            have hHeld := hHeld2
            clear hHeld2
            (try simp only [Act.put, List.getElem_toArray, List.getElem_cons_succ, List.getElem_cons_zero, List.setIfInBounds_toArray, List.set_cons_zero, List.set_cons_succ])
            refine wpAnyH_ready (rs := [4, 6]) (by kernel_rfl) (by simp) ?_
            refine AllReadyH.cons (o := _) rfl (fun K hK => ?_) ?_
            · refine step_append_put (by rfl) (.tmp 20) (.tmp 23) (by rfl) hE (by rfl) hO (A := ⟨b, o, none⟩) (c := cap) (l := l.take k) (n := k) (by rfl) (by simp; omega) ((HI.out.ext hE).pre (by omega)) (by simp; omega) ?_; intro v1 y4 hO1 hE1 hF; have hE := hE1; have hO := hO1
              refine hK.out _ _ ?_ (fun hHeld2 => ?_)
              · trivial
              clear hK K hHeld
              have hHeld := hHeld2
              clear hHeld2
              (try simp only [Act.put, List.getElem_toArray, List.getElem_cons_succ, List.getElem_cons_zero, List.setIfInBounds_toArray, List.set_cons_zero, List.set_cons_succ])
              refine wpAnyH_ready (rs := [6]) (by kernel_rfl) (by simp) ?_
              refine AllReadyH.cons (o := _) rfl (fun K hK => ?_) ?_
              · go_simp
                have hB := Blk.new0 y4 #[.int .i64 n] 3; have hE2 := hE.alloc' (.cells #[.int .i64 n] 3); have hne : v1.ownBlock ≠ some (Array.size (World.heap y4)) := own_ne hO; replace hO := hO.ext (Ext.alloc y4 (.cells #[.int .i64 n] 3)); replace hE := hE2; clear hE2; generalize World.alloc y4 (.cells #[.int .i64 n] 3) = y8 at *; generalize Array.size (World.heap y4) = pn at *
                refine hK.out _ _ ?_ (fun hHeld2 => ?_)
                · trivial
                clear hK K hHeld
                have hHeld := hHeld2
                clear hHeld2
                (try simp only [Act.put, List.getElem_toArray, List.getElem_cons_succ, List.getElem_cons_zero, List.setIfInBounds_toArray, List.set_cons_zero, List.set_cons_succ])
                refine wpAnyH_ready (rs := [7]) (by kernel_rfl) (by simp) ?_
                refine AllReadyH.cons (o := _) rfl (fun K hK => ?_) ?_
                · refine step_append_put (by rfl) (.tmp 24) (.tmp 26) (by rfl) hE (by rfl) hO (A := ⟨pn, 0, none⟩) (c := 1) (l := [n]) (n := 1) (by rfl) rfl (int1 hB HN.out) (by simp; omega) ?_; intro v2 y7 hO2 hE2 hF2; have hE := hE2; have hO := hO2
                  refine hK.out _ _ ?_ (fun hHeld2 => ?_)
                  · trivial
                  clear hK K hHeld
                  have hHeld := hHeld2
                  clear hHeld2
                  (try simp only [Act.put, List.getElem_toArray, List.getElem_cons_succ, List.getElem_cons_zero, List.setIfInBounds_toArray, List.set_cons_zero, List.set_cons_succ])
                  refine wpAnyH_ready (rs := [11]) (by kernel_rfl) (by simp) ?_
                  refine AllReadyH.cons (o := _) rfl (fun K hK => ?_) ?_
                  · refine step_append_put (by rfl) (.tmp 27) (.tmp 30) (by rfl) hE (by rfl) hO (A := ⟨b, o + k, none⟩) (c := cap - k) (n := l.length - k) (l := l.drop k) (by rfl) (by first | (simp; done) | (rw [hdk]; rfl)) ((HI.out.ext hE).post (by omega)) (by simp; omega) ?_; intro v3 y11 hO3 hE3 hF3; have hE := hE3; have hO := hO3
                    refine hK.out _ _ ?_ (fun hHeld2 => ?_)
                    · trivial
                    clear hK K hHeld
                    have hHeld := hHeld2
                    clear hHeld2
                    (try simp only [Act.put, List.getElem_toArray, List.getElem_cons_succ, List.getElem_cons_zero, List.setIfInBounds_toArray, List.set_cons_zero, List.set_cons_succ])
                    refine wpAnyH_take (i := 12) (oi := _) (v := ?_) rfl (by kernel_rfl) (by kernel_rfl) (by kernel_rfl) (fun _ _ _ h => h) (Or.inl ⟨by rfl, ?_⟩) (by assumption) ?_
                    rotate_left
                    · (intro w hSw; (try dsimp only at hSw); (try go_simp); (try with_reducible rfl))
                    (try simp only [Act.put, List.getElem_toArray, List.getElem_cons_succ, List.getElem_cons_zero, List.setIfInBounds_toArray, List.set_cons_zero, List.set_cons_succ])
                    refine wpAnyH_done (by kernel_rfl) ?_ _
                    go_wp2_with fail
                    go_ret
                    exact ⟨_, rfl, by rw [HP.out]; simpa using hO, hE⟩
                  exact AllReadyH.nil
                exact AllReadyH.nil
              exact AllReadyH.nil
            refine AllReadyH.cons (o := _) rfl (fun K hK => ?_) ?_
            · go_simp
              have hB := Blk.new0 y6 #[.int .i64 n] 3; have hE2 := hE.alloc' (.cells #[.int .i64 n] 3); have hne : v0.ownBlock ≠ some (Array.size (World.heap y6)) := own_ne hO; replace hO := hO.ext (Ext.alloc y6 (.cells #[.int .i64 n] 3)); replace hE := hE2; clear hE2; generalize World.alloc y6 (.cells #[.int .i64 n] 3) = y7 at *; generalize Array.size (World.heap y6) = pn at *
              refine hK.out _ _ ?_ (fun hHeld2 => ?_)
              · trivial
              clear hK K hHeld
              have hHeld := hHeld2
              clear hHeld2
              (try simp only [Act.put, List.getElem_toArray, List.getElem_cons_succ, List.getElem_cons_zero, List.setIfInBounds_toArray, List.set_cons_zero, List.set_cons_succ])
              refine wpAnyH_ready (rs := [4]) (by kernel_rfl) (by simp) ?_
              refine AllReadyH.cons (o := _) rfl (fun K hK => ?_) ?_
              · refine step_append_put (by rfl) (.tmp 20) (.tmp 23) (by rfl) hE (by rfl) hO (A := ⟨b, o, none⟩) (c := cap) (l := l.take k) (n := k) (by rfl) (by simp; omega) ((HI.out.ext hE).pre (by omega)) (by simp; omega) ?_; intro v1 y4 hO1 hE1 hF; have hE := hE1; have hO := hO1; obtain ⟨hB, hne⟩ := hF _ _ _ hB hne
                refine hK.out _ _ ?_ (fun hHeld2 => ?_)
                · trivial
                clear hK K hHeld
                have hHeld := hHeld2
                clear hHeld2
                (try simp only [Act.put, List.getElem_toArray, List.getElem_cons_succ, List.getElem_cons_zero, List.setIfInBounds_toArray, List.set_cons_zero, List.set_cons_succ])
                refine wpAnyH_ready (rs := [7]) (by kernel_rfl) (by simp) ?_
                refine AllReadyH.cons (o := _) rfl (fun K hK => ?_) ?_
                · refine step_append_put (by rfl) (.tmp 24) (.tmp 26) (by rfl) hE (by rfl) hO (A := ⟨pn, 0, none⟩) (c := 1) (l := [n]) (n := 1) (by rfl) rfl (int1 hB HN.out) (by simp; omega) ?_; intro v2 y7 hO2 hE2 hF2; have hE := hE2; have hO := hO2
                  refine hK.out _ _ ?_ (fun hHeld2 => ?_)
                  · trivial
                  clear hK K hHeld
                  have hHeld := hHeld2
                  clear hHeld2
                  (try simp only [Act.put, List.getElem_toArray, List.getElem_cons_succ, List.getElem_cons_zero, List.setIfInBounds_toArray, List.set_cons_zero, List.set_cons_succ])
                  refine wpAnyH_ready (rs := [11]) (by kernel_rfl) (by simp) ?_
                  refine AllReadyH.cons (o := _) rfl (fun K hK => ?_) ?_
                  · refine step_append_put (by rfl) (.tmp 27) (.tmp 30) (by rfl) hE (by rfl) hO (A := ⟨b, o + k, none⟩) (c := cap - k) (n := l.length - k) (l := l.drop k) (by rfl) (by first | (simp; done) | (rw [hdk]; rfl)) ((HI.out.ext hE).post (by omega)) (by simp; omega) ?_; intro v3 y11 hO3 hE3 hF3; have hE := hE3; have hO := hO3
                    refine hK.out _ _ ?_ (fun hHeld2 => ?_)
                    · trivial
                    clear hK K hHeld
                    have hHeld := hHeld2
                    clear hHeld2
                    (try simp only [Act.put, List.getElem_toArray, List.getElem_cons_succ, List.getElem_cons_zero, List.setIfInBounds_toArray, List.set_cons_zero, List.set_cons_succ])
                    refine wpAnyH_take (i := 12) (oi := _) (v := ?_) rfl (by kernel_rfl) (by kernel_rfl) (by kernel_rfl) (fun _ _ _ h => h) (Or.inl ⟨by rfl, ?_⟩) (by assumption) ?_
                    rotate_left
                    · (intro w hSw; (try dsimp only at hSw); (try go_simp); (try with_reducible rfl))
                    (try simp only [Act.put, List.getElem_toArray, List.getElem_cons_succ, List.getElem_cons_zero, List.setIfInBounds_toArray, List.set_cons_zero, List.set_cons_succ])
                    refine wpAnyH_done (by kernel_rfl) ?_ _
                    go_wp2_with fail
                    go_ret
                    exact ⟨_, rfl, by rw [HP.out]; simpa using hO, hE⟩
                  exact AllReadyH.nil
                exact AllReadyH.nil
              exact AllReadyH.nil
            exact AllReadyH.nil
          refine AllReadyH.cons (o := _) rfl (fun K hK => ?_) ?_
          · go_simp
            have hB := Blk.new0 y0 #[.int .i64 n] 3; have hE2 := hE.alloc' (.cells #[.int .i64 n] 3); replace hE := hE2; clear hE2; generalize World.alloc y0 (.cells #[.int .i64 n] 3) = y9 at *; generalize Array.size (World.heap y0) = pn at *
            refine hK.out _ _ ?_ (fun hHeld2 => ?_)
            · trivial
            clear hK K hHeld
            have hHeld := hHeld2
            clear hHeld2
            (try simp only [Act.put, List.getElem_toArray, List.getElem_cons_succ, List.getElem_cons_zero, List.setIfInBounds_toArray, List.set_cons_zero, List.set_cons_succ])
            refine wpAnyH_ready (rs := [0]) (by kernel_rfl) (by simp) ?_
            refine AllReadyH.cons (o := _) rfl (fun K hK => ?_) ?_
            · go_simp
              obtain ⟨hO, hE2⟩ := own_new hE; have hgl : Array.size (World.heap y9) < Array.size (World.heap (World.alloc y9 (.cells #[] 3))) := (by simp); have hne : Value.ownBlock (.slice (some ⟨Array.size (World.heap y9), 0, none⟩) 0 0) ≠ some pn := (by have h1 := hB.lt; simp only [Value.ownBlock, ne_eq, Option.some.injEq]; omega); replace hB := hB.alloc (.cells #[] 3); replace hE := hE2; clear hE2; generalize World.alloc y9 (.cells #[] 3) = y10 at *; generalize Array.size (World.heap y9) = g0 at *; generalize Value.slice (some ⟨g0, 0, none⟩) 0 0 = v0 at *
              refine hK.out _ _ ?_ (fun hHeld2 => ?_)
              · trivial
              clear hK K hHeld
              have hHeld := hHeld2
              clear hHeld2
              (try simp only [Act.put, List.getElem_toArray, List.getElem_cons_succ, List.getElem_cons_zero, List.setIfInBounds_toArray, List.set_cons_zero, List.set_cons_succ])
              refine wpAnyH_ready (rs := [4]) (by kernel_rfl) (by simp) ?_
              refine AllReadyH.cons (o := _) rfl (fun K hK => ?_) ?_
              · refine step_append_put (by rfl) (.tmp 20) (.tmp 23) (by rfl) hE (by rfl) hO (A := ⟨b, o, none⟩) (c := cap) (l := l.take k) (n := k) (by rfl) (by simp; omega) ((HI.out.ext hE).pre (by omega)) (by simp; omega) ?_; intro v1 y4 hO1 hE1 hF; have hE := hE1; have hO := hO1; obtain ⟨hB, hne⟩ := hF _ _ _ hB hne
                refine hK.out _ _ ?_ (fun hHeld2 => ?_)
                · trivial
                clear hK K hHeld
                have hHeld := hHeld2
                clear hHeld2
                (try simp only [Act.put, List.getElem_toArray, List.getElem_cons_succ, List.getElem_cons_zero, List.setIfInBounds_toArray, List.set_cons_zero, List.set_cons_succ])
                refine wpAnyH_ready (rs := [7]) (by kernel_rfl) (by simp) ?_
                refine AllReadyH.cons (o := _) rfl (fun K hK => ?_) ?_
                · refine step_append_put (by rfl) (.tmp 24) (.tmp 26) (by rfl) hE (by rfl) hO (A := ⟨pn, 0, none⟩) (c := 1) (l := [n]) (n := 1) (by rfl) rfl (int1 hB HN.out) (by simp; omega) ?_; intro v2 y7 hO2 hE2 hF2; have hE := hE2; have hO := hO2
                  refine hK.out _ _ ?_ (fun hHeld2 => ?_)
                  · trivial
                  clear hK K hHeld
                  have hHeld := hHeld2
                  clear hHeld2
                  (try simp only [Act.put, List.getElem_toArray, List.getElem_cons_succ, List.getElem_cons_zero, List.setIfInBounds_toArray, List.set_cons_zero, List.set_cons_succ])
                  refine wpAnyH_ready (rs := [11]) (by kernel_rfl) (by simp) ?_
                  refine AllReadyH.cons (o := _) rfl (fun K hK => ?_) ?_
                  · refine step_append_put (by rfl) (.tmp 27) (.tmp 30) (by rfl) hE (by rfl) hO (A := ⟨b, o + k, none⟩) (c := cap - k) (n := l.length - k) (l := l.drop k) (by rfl) (by first | (simp; done) | (rw [hdk]; rfl)) ((HI.out.ext hE).post (by omega)) (by simp; omega) ?_; intro v3 y11 hO3 hE3 hF3; have hE := hE3; have hO := hO3
                    refine hK.out _ _ ?_ (fun hHeld2 => ?_)
                    · trivial
                    clear hK K hHeld
                    have hHeld := hHeld2
                    clear hHeld2
                    (try simp only [Act.put, List.getElem_toArray, List.getElem_cons_succ, List.getElem_cons_zero, List.setIfInBounds_toArray, List.set_cons_zero, List.set_cons_succ])
                    refine wpAnyH_take (i := 12) (oi := _) (v := ?_) rfl (by kernel_rfl) (by kernel_rfl) (by kernel_rfl) (fun _ _ _ h => h) (Or.inl ⟨by rfl, ?_⟩) (by assumption) ?_
                    rotate_left
                    · (intro w hSw; (try dsimp only at hSw); (try go_simp); (try with_reducible rfl))
                    (try simp only [Act.put, List.getElem_toArray, List.getElem_cons_succ, List.getElem_cons_zero, List.setIfInBounds_toArray, List.set_cons_zero, List.set_cons_succ])
                    refine wpAnyH_done (by kernel_rfl) ?_ _
                    go_wp2_with fail
                    go_ret
                    exact ⟨_, rfl, by rw [HP.out]; simpa using hO, hE⟩
                  exact AllReadyH.nil
                exact AllReadyH.nil
              exact AllReadyH.nil
            exact AllReadyH.nil
          exact AllReadyH.nil
      · have hkq : ¬ ((k : Int) < (l.length : Int)) := by omega
        have q1 : decide ((k : Int) < (l.length : Int)) = false := decide_eq_false hkq
        have q2 : ¬ k < l.length := hkl
        clear hs h
        go_upto_region 4 with fail
        have g3 : (k : Int) ≤ (l.length : Int) := by omega
        have g4 : (l.length : Int) ≤ (cap : Int) := by omega
        have g5 : (k : Int) ≤ (cap : Int) := by omega
        have hE : Ext w (World.drew w) := (Ext.refl w).drew
        by_cases hkc : k = cap
        · subst hkc
          have hkl2 : l.length = k := by omega
          have hkc2 : l.length - k = 0 := by omega
          have hdk : l.drop k = [] := List.drop_eq_nil_of_le (by omega)
          replace hkl2 := Lib.hid hkl2
          refine wp_region_held_drew (S := (fun _ => True)) (by kernel_rfl) ?_ (fun hHeld => ?_)
          · trivial
          (try simp only [← List.toArray_replicate, List.size_toArray, List.length_cons, List.length_nil, Nat.reduceAdd, List.replicate_succ, List.replicate_zero])
          generalize World.drew w = y0 at *
          refine wpAnyH_take (i := 1) (oi := _) (v := ?_) rfl (by kernel_rfl) (by kernel_rfl) (by kernel_rfl) (fun _ _ _ h => h) (Or.inl ⟨by rfl, ?_⟩) (by assumption) ?_
          rotate_left
          · (intro w hSw; (try dsimp only at hSw); (try go_simp); (try with_reducible rfl))
          (try simp only [Act.put, List.getElem_toArray, List.getElem_cons_succ, List.getElem_cons_zero, List.setIfInBounds_toArray, List.set_cons_zero, List.set_cons_succ])
          refine wpAnyH_take (i := 2) (oi := _) (v := ?_) rfl (by kernel_rfl) (by kernel_rfl) (by kernel_rfl) (fun _ _ _ h => h) (Or.inl ⟨by rfl, ?_⟩) (by assumption) ?_
          rotate_left
          · (intro w hSw; (try dsimp only at hSw); (try go_simp); (try with_reducible rfl))
          (try simp only [Act.put, List.getElem_toArray, List.getElem_cons_succ, List.getElem_cons_zero, List.setIfInBounds_toArray, List.set_cons_zero, List.set_cons_succ])
          refine wpAnyH_take (i := 3) (oi := _) (v := ?_) rfl (by kernel_rfl) (by kernel_rfl) (by kernel_rfl) (fun _ _ _ h => h) (Or.inl ⟨by rfl, ?_⟩) (by assumption) ?_
          rotate_left
          · (intro w hSw; (try dsimp only at hSw); (try go_simp); (try with_reducible rfl))
          (try simp only [Act.put, List.getElem_toArray, List.getElem_cons_succ, List.getElem_cons_zero, List.setIfInBounds_toArray, List.set_cons_zero, List.set_cons_succ])
          refine wpAnyH_take (i := 5) (oi := _) (v := ?_) rfl (by kernel_rfl) (by kernel_rfl) (by kernel_rfl) (fun _ _ _ h => h) (Or.inl ⟨by rfl, ?_⟩) (by assumption) ?_
          rotate_left
          · (intro w hSw; (try dsimp only at hSw); (try go_simp); (try with_reducible rfl))
          (try simp only [Act.put, List.getElem_toArray, List.getElem_cons_succ, List.getElem_cons_zero, List.setIfInBounds_toArray, List.set_cons_zero, List.set_cons_succ])
          refine wpAnyH_take (i := 8) (oi := _) (v := ?_) rfl (by kernel_rfl) (by kernel_rfl) (by kernel_rfl) (fun _ _ _ h => h) (Or.inl ⟨by rfl, ?_⟩) (by assumption) ?_
          rotate_left
          · (intro w hSw; (try dsimp only at hSw); (try go_simp); (try with_reducible rfl))
          (try simp only [Act.put, List.getElem_toArray, List.getElem_cons_succ, List.getElem_cons_zero, List.setIfInBounds_toArray, List.set_cons_zero, List.set_cons_succ])
          refine wpAnyH_take (i := 9) (oi := _) (v := ?_) rfl (by kernel_rfl) (by kernel_rfl) (by kernel_rfl) (fun _ _ _ h => h) (Or.inl ⟨by rfl, ?_⟩) (by assumption) ?_
          rotate_left
          · (intro w hSw; (try dsimp only at hSw); (try go_simp); (try with_reducible rfl))
          (try simp only [Act.put, List.getElem_toArray, List.getElem_cons_succ, List.getElem_cons_zero, List.setIfInBounds_toArray, List.set_cons_zero, List.set_cons_succ])
          refine wpAnyH_take (i := 10) (oi := _) (v := ?_) rfl (by kernel_rfl) (by kernel_rfl) (by kernel_rfl) (fun _ _ _ h => h) (Or.inl ⟨by rfl, ?_⟩) (by assumption) ?_
          rotate_left
          · (intro w hSw; (try dsimp only at hSw); (try go_simp); (try with_reducible rfl))
          (try simp only [Act.put, List.getElem_toArray, List.getElem_cons_succ, List.getElem_cons_zero, List.setIfInBounds_toArray, List.set_cons_zero, List.set_cons_succ])
          refine wpAnyH_ready (rs := [0, 6]) (by kernel_rfl) (by simp) ?_
          refine AllReadyH.cons (o := _) rfl (fun K hK => ?_) ?_
          · go_simp
            obtain ⟨hO, hE2⟩ := own_new hE; have hgl : Array.size (World.heap y0) < Array.size (World.heap (World.alloc y0 (.cells #[] 3))) := (by simp); replace hE := hE2; clear hE2; generalize World.alloc y0 (.cells #[] 3) = y11 at *; generalize Array.size (World.heap y0) = g0 at *; generalize Value.slice (some ⟨g0, 0, none⟩) 0 0 = v0 at *
            refine hK.out _ _ ?_ (fun hHeld2 => ?_)
            · trivial
            clear hK K hHeld
            have hHeld := hHeld2
            clear hHeld2
            (try simp only [Act.put, List.getElem_toArray, List.getElem_cons_succ, List.getElem_cons_zero, List.setIfInBounds_toArray, List.set_cons_zero, List.set_cons_succ])
            refine wpAnyH_ready (rs := [4, 6]) (by kernel_rfl) (by simp) ?_
            refine AllReadyH.cons (o := _) rfl (fun K hK => ?_) ?_
            · refine step_append_put (by rfl) (.tmp 20) (.tmp 23) (by rfl) hE (by rfl) hO (A := ⟨b, o, none⟩) (c := k) (l := l.take k) (n := k) (by rfl) (by simp; omega) ((HI.out.ext hE).pre (by omega)) (by simp; omega) ?_; intro v1 y4 hO1 hE1 hF; have hE := hE1; have hO := hO1
              refine hK.out _ _ ?_ (fun hHeld2 => ?_)
              · trivial
              clear hK K hHeld
              have hHeld := hHeld2
              clear hHeld2
              (try simp only [Act.put, List.getElem_toArray, List.getElem_cons_succ, List.getElem_cons_zero, List.setIfInBounds_toArray, List.set_cons_zero, List.set_cons_succ])
              refine wpAnyH_ready (rs := [6]) (by kernel_rfl) (by simp) ?_
              refine AllReadyH.cons (o := _) rfl (fun K hK => ?_) ?_
              · go_simp
                have hB := Blk.new0 y4 #[.int .i64 n] 3; have hE2 := hE.alloc' (.cells #[.int .i64 n] 3); have hne : v1.ownBlock ≠ some (Array.size (World.heap y4)) := own_ne hO; replace hO := hO.ext (Ext.alloc y4 (.cells #[.int .i64 n] 3)); replace hE := hE2; clear hE2; generalize World.alloc y4 (.cells #[.int .i64 n] 3) = y13 at *; generalize Array.size (World.heap y4) = pn at *
                refine hK.out _ _ ?_ (fun hHeld2 => ?_)
                · trivial
                clear hK K hHeld
                have hHeld := hHeld2
                clear hHeld2
                (try simp only [Act.put, List.getElem_toArray, List.getElem_cons_succ, List.getElem_cons_zero, List.setIfInBounds_toArray, List.set_cons_zero, List.set_cons_succ])
                refine wpAnyH_ready (rs := [7]) (by kernel_rfl) (by simp) ?_
                refine AllReadyH.cons (o := _) rfl (fun K hK => ?_) ?_
                · refine step_append_put (by rfl) (.tmp 24) (.tmp 26) (by rfl) hE (by rfl) hO (A := ⟨pn, 0, none⟩) (c := 1) (l := [n]) (n := 1) (by rfl) rfl (int1 hB HN.out) (by simp; omega) ?_; intro v2 y7 hO2 hE2 hF2; have hE := hE2; have hO := hO2
                  refine hK.out _ _ ?_ (fun hHeld2 => ?_)
                  · trivial
                  clear hK K hHeld
                  have hHeld := hHeld2
                  clear hHeld2
                  (try simp only [Act.put, List.getElem_toArray, List.getElem_cons_succ, List.getElem_cons_zero, List.setIfInBounds_toArray, List.set_cons_zero, List.set_cons_succ])
                  refine wpAnyH_ready (rs := [11]) (by kernel_rfl) (by simp) ?_
                  refine AllReadyH.cons (o := _) rfl (fun K hK => ?_) ?_
                  · refine step_append_put (by rfl) (.tmp 27) (.tmp 30) (by rfl) hE (by rfl) hO (A := ⟨b, o, none⟩) (c := 0) (n := 0) (l := l.drop k) (by rfl) (by first | (simp; done) | (rw [hdk]; rfl)) (by rw [hdk]; exact ⟨by simp, by omega, by simp, fun B hB i hi => by simp at hi⟩) (by simp; omega) ?_; intro v3 y11 hO3 hE3 hF3; have hE := hE3; have hO := hO3
                    refine hK.out _ _ ?_ (fun hHeld2 => ?_)
                    · trivial
                    clear hK K hHeld
                    have hHeld := hHeld2
                    clear hHeld2
                    (try simp only [Act.put, List.getElem_toArray, List.getElem_cons_succ, List.getElem_cons_zero, List.setIfInBounds_toArray, List.set_cons_zero, List.set_cons_succ])
                    refine wpAnyH_take (i := 12) (oi := _) (v := ?_) rfl (by kernel_rfl) (by kernel_rfl) (by kernel_rfl) (fun _ _ _ h => h) (Or.inl ⟨by rfl, ?_⟩) (by assumption) ?_
                    rotate_left
                    · (intro w hSw; (try dsimp only at hSw); (try go_simp); (try with_reducible rfl))
                    (try simp only [Act.put, List.getElem_toArray, List.getElem_cons_succ, List.getElem_cons_zero, List.setIfInBounds_toArray, List.set_cons_zero, List.set_cons_succ])
                    refine wpAnyH_done (by kernel_rfl) ?_ _
                    go_wp2_with fail
                    go_ret
                    exact ⟨_, rfl, by rw [HP.out]; simpa using hO, hE⟩
                  exact AllReadyH.nil
                exact AllReadyH.nil
              exact AllReadyH.nil
            refine AllReadyH.cons (o := _) rfl (fun K hK => ?_) ?_
            · go_simp
              have hB := Blk.new0 y11 #[.int .i64 n] 3; have hE2 := hE.alloc' (.cells #[.int .i64 n] 3); have hne : v0.ownBlock ≠ some (Array.size (World.heap y11)) := own_ne hO; replace hO := hO.ext (Ext.alloc y11 (.cells #[.int .i64 n] 3)); replace hE := hE2; clear hE2; generalize World.alloc y11 (.cells #[.int .i64 n] 3) = y12 at *; generalize Array.size (World.heap y11) = pn at *
              refine hK.out _ _ ?_ (fun hHeld2 => ?_)
              · trivial
              clear hK K hHeld
              have hHeld := hHeld2
              clear hHeld2
              (try simp only [Act.put, List.getElem_toArray, List.getElem_cons_succ, List.getElem_cons_zero, List.setIfInBounds_toArray, List.set_cons_zero, List.set_cons_succ])
              refine wpAnyH_ready (rs := [4]) (by kernel_rfl) (by simp) ?_
              refine AllReadyH.cons (o := _) rfl (fun K hK => ?_) ?_
              · refine step_append_put (by rfl) (.tmp 20) (.tmp 23) (by rfl) hE (by rfl) hO (A := ⟨b, o, none⟩) (c := k) (l := l.take k) (n := k) (by rfl) (by simp; omega) ((HI.out.ext hE).pre (by omega)) (by simp; omega) ?_; intro v1 y4 hO1 hE1 hF; have hE := hE1; have hO := hO1; obtain ⟨hB, hne⟩ := hF _ _ _ hB hne
                refine hK.out _ _ ?_ (fun hHeld2 => ?_)
                · trivial
                clear hK K hHeld
                have hHeld := hHeld2
                clear hHeld2
                (try simp only [Act.put, List.getElem_toArray, List.getElem_cons_succ, List.getElem_cons_zero, List.setIfInBounds_toArray, List.set_cons_zero, List.set_cons_succ])
                refine wpAnyH_ready (rs := [7]) (by kernel_rfl) (by simp) ?_
                refine AllReadyH.cons (o := _) rfl (fun K hK => ?_) ?_
                · refine step_append_put (by rfl) (.tmp 24) (.tmp 26) (by rfl) hE (by rfl) hO (A := ⟨pn, 0, none⟩) (c := 1) (l := [n]) (n := 1) (by rfl) rfl (int1 hB HN.out) (by simp; omega) ?_; intro v2 y7 hO2 hE2 hF2; have hE := hE2; have hO := hO2
                  refine hK.out _ _ ?_ (fun hHeld2 => ?_)
                  · trivial
                  clear hK K hHeld
                  have hHeld := hHeld2
                  clear hHeld2
                  (try simp only [Act.put, List.getElem_toArray, List.getElem_cons_succ, List.getElem_cons_zero, List.setIfInBounds_toArray, List.set_cons_zero, List.set_cons_succ])
                  refine wpAnyH_ready (rs := [11]) (by kernel_rfl) (by simp) ?_
                  refine AllReadyH.cons (o := _) rfl (fun K hK => ?_) ?_
                  · refine step_append_put (by rfl) (.tmp 27) (.tmp 30) (by rfl) hE (by rfl) hO (A := ⟨b, o, none⟩) (c := 0) (n := 0) (l := l.drop k) (by rfl) (by first | (simp; done) | (rw [hdk]; rfl)) (by rw [hdk]; exact ⟨by simp, by omega, by simp, fun B hB i hi => by simp at hi⟩) (by simp; omega) ?_; intro v3 y11 hO3 hE3 hF3; have hE := hE3; have hO := hO3
                    refine hK.out _ _ ?_ (fun hHeld2 => ?_)
                    · trivial
                    clear hK K hHeld
                    have hHeld := hHeld2
                    clear hHeld2
                    (try simp only [Act.put, List.getElem_toArray, List.getElem_cons_succ, List.getElem_cons_zero, List.setIfInBounds_toArray, List.set_cons_zero, List.set_cons_succ])
                    refine wpAnyH_take (i := 12) (oi := _) (v := ?_) rfl (by kernel_rfl) (by kernel_rfl) (by kernel_rfl) (fun _ _ _ h => h) (Or.inl ⟨by rfl, ?_⟩) (by assumption) ?_
                    rotate_left
                    · (intro w hSw; (try dsimp only at hSw); (try go_simp); (try with_reducible rfl))
                    (try simp only [Act.put, List.getElem_toArray, List.getElem_cons_succ, List.getElem_cons_zero, List.setIfInBounds_toArray, List.set_cons_zero, List.set_cons_succ])
                    refine wpAnyH_done (by kernel_rfl) ?_ _
                    go_wp2_with fail
                    go_ret
                    exact ⟨_, rfl, by rw [HP.out]; simpa using hO, hE⟩
                  exact AllReadyH.nil
                exact AllReadyH.nil
              exact AllReadyH.nil
            exact AllReadyH.nil
          refine AllReadyH.cons (o := _) rfl (fun K hK => ?_) ?_
          · go_simp
            have hB := Blk.new0 y0 #[.int .i64 n] 3; have hE2 := hE.alloc' (.cells #[.int .i64 n] 3); replace hE := hE2; clear hE2; generalize World.alloc y0 (.cells #[.int .i64 n] 3) = y14 at *; generalize Array.size (World.heap y0) = pn at *
            refine hK.out _ _ ?_ (fun hHeld2 => ?_)
            · trivial
            clear hK K hHeld
            have hHeld := hHeld2
            clear hHeld2
            (try simp only [Act.put, List.getElem_toArray, List.getElem_cons_succ, List.getElem_cons_zero, List.setIfInBounds_toArray, List.set_cons_zero, List.set_cons_succ])
            refine wpAnyH_ready (rs := [0]) (by kernel_rfl) (by simp) ?_
            refine AllReadyH.cons (o := _) rfl (fun K hK => ?_) ?_
            · go_simp
              obtain ⟨hO, hE2⟩ := own_new hE; have hgl : Array.size (World.heap y14) < Array.size (World.heap (World.alloc y14 (.cells #[] 3))) := (by simp); have hne : Value.ownBlock (.slice (some ⟨Array.size (World.heap y14), 0, none⟩) 0 0) ≠ some pn := (by have h1 := hB.lt; simp only [Value.ownBlock, ne_eq, Option.some.injEq]; omega); replace hB := hB.alloc (.cells #[] 3); replace hE := hE2; clear hE2; generalize World.alloc y14 (.cells #[] 3) = y15 at *; generalize Array.size (World.heap y14) = g0 at *; generalize Value.slice (some ⟨g0, 0, none⟩) 0 0 = v0 at *
              refine hK.out _ _ ?_ (fun hHeld2 => ?_)
              · trivial
              clear hK K hHeld
              have hHeld := hHeld2
              clear hHeld2
              (try simp only [Act.put, List.getElem_toArray, List.getElem_cons_succ, List.getElem_cons_zero, List.setIfInBounds_toArray, List.set_cons_zero, List.set_cons_succ])
              refine wpAnyH_ready (rs := [4]) (by kernel_rfl) (by simp) ?_
              refine AllReadyH.cons (o := _) rfl (fun K hK => ?_) ?_
              · refine step_append_put (by rfl) (.tmp 20) (.tmp 23) (by rfl) hE (by rfl) hO (A := ⟨b, o, none⟩) (c := k) (l := l.take k) (n := k) (by rfl) (by simp; omega) ((HI.out.ext hE).pre (by omega)) (by simp; omega) ?_; intro v1 y4 hO1 hE1 hF; have hE := hE1; have hO := hO1; obtain ⟨hB, hne⟩ := hF _ _ _ hB hne
                refine hK.out _ _ ?_ (fun hHeld2 => ?_)
                · trivial
                clear hK K hHeld
                have hHeld := hHeld2
                clear hHeld2
                (try simp only [Act.put, List.getElem_toArray, List.getElem_cons_succ, List.getElem_cons_zero, List.setIfInBounds_toArray, List.set_cons_zero, List.set_cons_succ])
                refine wpAnyH_ready (rs := [7]) (by kernel_rfl) (by simp) ?_
                refine AllReadyH.cons (o := _) rfl (fun K hK => ?_) ?_
                · refine step_append_put (by rfl) (.tmp 24) (.tmp 26) (by rfl) hE (by rfl) hO (A := ⟨pn, 0, none⟩) (c := 1) (l := [n]) (n := 1) (by rfl) rfl (int1 hB HN.out) (by simp; omega) ?_; intro v2 y7 hO2 hE2 hF2; have hE := hE2; have hO := hO2
                  refine hK.out _ _ ?_ (fun hHeld2 => ?_)
                  · trivial
                  clear hK K hHeld
                  have hHeld := hHeld2
                  clear hHeld2
                  (try simp only [Act.put, List.getElem_toArray, List.getElem_cons_succ, List.getElem_cons_zero, List.setIfInBounds_toArray, List.set_cons_zero, List.set_cons_succ])
                  refine wpAnyH_ready (rs := [11]) (by kernel_rfl) (by simp) ?_
                  refine AllReadyH.cons (o := _) rfl (fun K hK => ?_) ?_
                  · refine step_append_put (by rfl) (.tmp 27) (.tmp 30) (by rfl) hE (by rfl) hO (A := ⟨b, o, none⟩) (c := 0) (n := 0) (l := l.drop k) (by rfl) (by first | (simp; done) | (rw [hdk]; rfl)) (by rw [hdk]; exact ⟨by simp, by omega, by simp, fun B hB i hi => by simp at hi⟩) (by simp; omega) ?_; intro v3 y11 hO3 hE3 hF3; have hE := hE3; have hO := hO3
                    refine hK.out _ _ ?_ (fun hHeld2 => ?_)
                    · trivial
                    clear hK K hHeld
                    have hHeld := hHeld2
                    clear hHeld2
                    (try simp only [Act.put, List.getElem_toArray, List.getElem_cons_succ, List.getElem_cons_zero, List.setIfInBounds_toArray, List.set_cons_zero, List.set_cons_succ])
                    refine wpAnyH_take (i := 12) (oi := _) (v := ?_) rfl (by kernel_rfl) (by kernel_rfl) (by kernel_rfl) (fun _ _ _ h => h) (Or.inl ⟨by rfl, ?_⟩) (by assumption) ?_
                    rotate_left
                    · (intro w hSw; (try dsimp only at hSw); (try go_simp); (try with_reducible rfl))
                    (try simp only [Act.put, List.getElem_toArray, List.getElem_cons_succ, List.getElem_cons_zero, List.setIfInBounds_toArray, List.set_cons_zero, List.set_cons_succ])
                    refine wpAnyH_done (by kernel_rfl) ?_ _
                    go_wp2_with fail
                    go_ret
                    exact ⟨_, rfl, by rw [HP.out]; simpa using hO, hE⟩
                  exact AllReadyH.nil
                exact AllReadyH.nil
              exact AllReadyH.nil
            exact AllReadyH.nil
          exact AllReadyH.nil
        · have hkc3 : ¬ cap = k := by omega
          refine wp_region_held_drew (S := (fun _ => True)) (by kernel_rfl) ?_ (fun hHeld => ?_)
          · trivial
          (try simp only [← List.toArray_replicate, List.size_toArray, List.length_cons, List.length_nil, Nat.reduceAdd, List.replicate_succ, List.replicate_zero])
          generalize World.drew w = y0 at *
          refine wpAnyH_take (i := 1) (oi := _) (v := ?_) rfl (by kernel_rfl) (by kernel_rfl) (by kernel_rfl) (fun _ _ _ h => h) (Or.inl ⟨by rfl, ?_⟩) (by assumption) ?_
          rotate_left
          · (intro w hSw; (try dsimp only at hSw); (try go_simp); (try with_reducible rfl))
          (try simp only [Act.put, List.getElem_toArray, List.getElem_cons_succ, List.getElem_cons_zero, List.setIfInBounds_toArray, List.set_cons_zero, List.set_cons_succ])
          refine wpAnyH_take (i := 2) (oi := _) (v := ?_) rfl (by kernel_rfl) (by kernel_rfl) (by kernel_rfl) (fun _ _ _ h => h) (Or.inl ⟨by rfl, ?_⟩) (by assumption) ?_
          rotate_left
          · (intro w hSw; (try dsimp only at hSw); (try go_simp); (try with_reducible rfl))
          (try simp only [Act.put, List.getElem_toArray, List.getElem_cons_succ, List.getElem_cons_zero, List.setIfInBounds_toArray, List.set_cons_zero, List.set_cons_succ])
          refine wpAnyH_take (i := 3) (oi := _) (v := ?_) rfl (by kernel_rfl) (by kernel_rfl) (by kernel_rfl) (fun _ _ _ h => h) (Or.inl ⟨by rfl, ?_⟩) (by assumption) ?_
          rotate_left
          · (intro w hSw; (try dsimp only at hSw); (try go_simp); (try with_reducible rfl))
          (try simp only [Act.put, List.getElem_toArray, List.getElem_cons_succ, List.getElem_cons_zero, List.setIfInBounds_toArray, List.set_cons_zero, List.set_cons_succ])
          refine wpAnyH_take (i := 5) (oi := _) (v := ?_) rfl (by kernel_rfl) (by kernel_rfl) (by kernel_rfl) (fun _ _ _ h => h) (Or.inl ⟨by rfl, ?_⟩) (by assumption) ?_
          rotate_left
          · (intro w hSw; (try dsimp only at hSw); (try go_simp); (try with_reducible rfl))
          (try simp only [Act.put, List.getElem_toArray, List.getElem_cons_succ, List.getElem_cons_zero, List.setIfInBounds_toArray, List.set_cons_zero, List.set_cons_succ])
          refine wpAnyH_take (i := 8) (oi := _) (v := ?_) rfl (by kernel_rfl) (by kernel_rfl) (by kernel_rfl) (fun _ _ _ h => h) (Or.inl ⟨by rfl, ?_⟩) (by assumption) ?_
          rotate_left
          · (intro w hSw; (try dsimp only at hSw); (try go_simp); (try with_reducible rfl))
          (try simp only [Act.put, List.getElem_toArray, List.getElem_cons_succ, List.getElem_cons_zero, List.setIfInBounds_toArray, List.set_cons_zero, List.set_cons_succ])
          refine wpAnyH_take (i := 9) (oi := _) (v := ?_) rfl (by kernel_rfl) (by kernel_rfl) (by kernel_rfl) (fun _ _ _ h => h) (Or.inl ⟨by rfl, ?_⟩) (by assumption) ?_
          rotate_left
          · (intro w hSw; (try dsimp only at hSw); (try go_simp); (try with_reducible rfl))
          (try simp only [Act.put, List.getElem_toArray, List.getElem_cons_succ, List.getElem_cons_zero, List.setIfInBounds_toArray, List.set_cons_zero, List.set_cons_succ])
          refine wpAnyH_take (i := 10) (oi := _) (v := ?_) rfl (by kernel_rfl) (by kernel_rfl) (by kernel_rfl) (fun _ _ _ h => h) (Or.inl ⟨by rfl, ?_⟩) (by assumption) ?_
          rotate_left
          · (intro w hSw; (try dsimp only at hSw); (try go_simp); (try with_reducible rfl))
          (try simp only [Act.put, List.getElem_toArray, List.getElem_cons_succ, List.getElem_cons_zero, List.setIfInBounds_toArray, List.set_cons_zero, List.set_cons_succ])
          refine wpAnyH_ready (rs := [0, 6]) (by kernel_rfl) (by simp) ?_
          refine AllReadyH.cons (o := _) rfl (fun K hK => ?_) ?_
          · go_simp
            obtain ⟨hO, hE2⟩ := own_new hE; have hgl : Array.size (World.heap y0) < Array.size (World.heap (World.alloc y0 (.cells #[] 3))) := (by simp); replace hE := hE2; clear hE2; generalize World.alloc y0 (.cells #[] 3) = y16 at *; generalize Array.size (World.heap y0) = g0 at *; generalize Value.slice (some ⟨g0, 0, none⟩) 0 0 = v0 at *
            refine hK.out _ _ ?_ (fun hHeld2 => ?_)
            · trivial
            clear hK K hHeld
            have hHeld := hHeld2
            clear hHeld2
            (try simp only [Act.put, List.getElem_toArray, List.getElem_cons_succ, List.getElem_cons_zero, List.setIfInBounds_toArray, List.set_cons_zero, List.set_cons_succ])
            refine wpAnyH_ready (rs := [4, 6]) (by kernel_rfl) (by simp) ?_
            refine AllReadyH.cons (o := _) rfl (fun K hK => ?_) ?_
            · refine step_append_put (by rfl) (.tmp 20) (.tmp 23) (by rfl) hE (by rfl) hO (A := ⟨b, o, none⟩) (c := cap) (l := l.take k) (n := k) (by rfl) (by simp; omega) ((HI.out.ext hE).pre (by omega)) (by simp; omega) ?_; intro v1 y4 hO1 hE1 hF; have hE := hE1; have hO := hO1
              refine hK.out _ _ ?_ (fun hHeld2 => ?_)
              · trivial
              clear hK K hHeld
              have hHeld := hHeld2
              clear hHeld2
              (try simp only [Act.put, List.getElem_toArray, List.getElem_cons_succ, List.getElem_cons_zero, List.setIfInBounds_toArray, List.set_cons_zero, List.set_cons_succ])
              refine wpAnyH_ready (rs := [6]) (by kernel_rfl) (by simp) ?_
              refine AllReadyH.cons (o := _) rfl (fun K hK => ?_) ?_
              · go_simp
                have hB := Blk.new0 y4 #[.int .i64 n] 3; have hE2 := hE.alloc' (.cells #[.int .i64 n] 3); have hne : v1.ownBlock ≠ some (Array.size (World.heap y4)) := own_ne hO; replace hO := hO.ext (Ext.alloc y4 (.cells #[.int .i64 n] 3)); replace hE := hE2; clear hE2; generalize World.alloc y4 (.cells #[.int .i64 n] 3) = y18 at *; generalize Array.size (World.heap y4) = pn at *
                refine hK.out _ _ ?_ (fun hHeld2 => ?_)
                · trivial
                clear hK K hHeld
                have hHeld := hHeld2
                clear hHeld2
                (try simp only [Act.put, List.getElem_toArray, List.getElem_cons_succ, List.getElem_cons_zero, List.setIfInBounds_toArray, List.set_cons_zero, List.set_cons_succ])
                refine wpAnyH_ready (rs := [7]) (by kernel_rfl) (by simp) ?_
                refine AllReadyH.cons (o := _) rfl (fun K hK => ?_) ?_
                · refine step_append_put (by rfl) (.tmp 24) (.tmp 26) (by rfl) hE (by rfl) hO (A := ⟨pn, 0, none⟩) (c := 1) (l := [n]) (n := 1) (by rfl) rfl (int1 hB HN.out) (by simp; omega) ?_; intro v2 y7 hO2 hE2 hF2; have hE := hE2; have hO := hO2
                  refine hK.out _ _ ?_ (fun hHeld2 => ?_)
                  · trivial
                  clear hK K hHeld
                  have hHeld := hHeld2
                  clear hHeld2
                  (try simp only [Act.put, List.getElem_toArray, List.getElem_cons_succ, List.getElem_cons_zero, List.setIfInBounds_toArray, List.set_cons_zero, List.set_cons_succ])
                  refine wpAnyH_ready (rs := [11]) (by kernel_rfl) (by simp) ?_
                  refine AllReadyH.cons (o := _) rfl (fun K hK => ?_) ?_
                  · refine step_append_put (by rfl) (.tmp 27) (.tmp 30) (by rfl) hE (by rfl) hO (A := ⟨b, o + k, none⟩) (c := cap - k) (n := l.length - k) (l := l.drop k) (by rfl) (by first | (simp; done) | (rw [hdk]; rfl)) ((HI.out.ext hE).post (by omega)) (by simp; omega) ?_; intro v3 y11 hO3 hE3 hF3; have hE := hE3; have hO := hO3
                    refine hK.out _ _ ?_ (fun hHeld2 => ?_)
                    · trivial
                    clear hK K hHeld
                    have hHeld := hHeld2
                    clear hHeld2
                    (try simp only [Act.put, List.getElem_toArray, List.getElem_cons_succ, List.getElem_cons_zero, List.setIfInBounds_toArray, List.set_cons_zero, List.set_cons_succ])
                    refine wpAnyH_take (i := 12) (oi := _) (v := ?_) rfl (by kernel_rfl) (by kernel_rfl) (by kernel_rfl) (fun _ _ _ h => h) (Or.inl ⟨by rfl, ?_⟩) (by assumption) ?_
                    rotate_left
                    · (intro w hSw; (try dsimp only at hSw); (try go_simp); (try with_reducible rfl))
                    (try simp only [Act.put, List.getElem_toArray, List.getElem_cons_succ, List.getElem_cons_zero, List.setIfInBounds_toArray, List.set_cons_zero, List.set_cons_succ])
                    refine wpAnyH_done (by kernel_rfl) ?_ _
                    go_wp2_with fail
                    go_ret
                    exact ⟨_, rfl, by rw [HP.out]; simpa using hO, hE⟩
                  exact AllReadyH.nil
                exact AllReadyH.nil
              exact AllReadyH.nil
            refine AllReadyH.cons (o := _) rfl (fun K hK => ?_) ?_
            · go_simp
              have hB := Blk.new0 y16 #[.int .i64 n] 3; have hE2 := hE.alloc' (.cells #[.int .i64 n] 3); have hne : v0.ownBlock ≠ some (Array.size (World.heap y16)) := own_ne hO; replace hO := hO.ext (Ext.alloc y16 (.cells #[.int .i64 n] 3)); replace hE := hE2; clear hE2; generalize World.alloc y16 (.cells #[.int .i64 n] 3) = y17 at *; generalize Array.size (World.heap y16) = pn at *
              refine hK.out _ _ ?_ (fun hHeld2 => ?_)
              · trivial
              clear hK K hHeld
              have hHeld := hHeld2
              clear hHeld2
              (try simp only [Act.put, List.getElem_toArray, List.getElem_cons_succ, List.getElem_cons_zero, List.setIfInBounds_toArray, List.set_cons_zero, List.set_cons_succ])
              refine wpAnyH_ready (rs := [4]) (by kernel_rfl) (by simp) ?_
              refine AllReadyH.cons (o := _) rfl (fun K hK => ?_) ?_
              · refine step_append_put (by rfl) (.tmp 20) (.tmp 23) (by rfl) hE (by rfl) hO (A := ⟨b, o, none⟩) (c := cap) (l := l.take k) (n := k) (by rfl) (by simp; omega) ((HI.out.ext hE).pre (by omega)) (by simp; omega) ?_; intro v1 y4 hO1 hE1 hF; have hE := hE1; have hO := hO1; obtain ⟨hB, hne⟩ := hF _ _ _ hB hne
                refine hK.out _ _ ?_ (fun hHeld2 => ?_)
                · trivial
                clear hK K hHeld
                have hHeld := hHeld2
                clear hHeld2
                (try simp only [Act.put, List.getElem_toArray, List.getElem_cons_succ, List.getElem_cons_zero, List.setIfInBounds_toArray, List.set_cons_zero, List.set_cons_succ])
                refine wpAnyH_ready (rs := [7]) (by kernel_rfl) (by simp) ?_
                refine AllReadyH.cons (o := _) rfl (fun K hK => ?_) ?_
                · refine step_append_put (by rfl) (.tmp 24) (.tmp 26) (by rfl) hE (by rfl) hO (A := ⟨pn, 0, none⟩) (c := 1) (l := [n]) (n := 1) (by rfl) rfl (int1 hB HN.out) (by simp; omega) ?_; intro v2 y7 hO2 hE2 hF2; have hE := hE2; have hO := hO2
                  refine hK.out _ _ ?_ (fun hHeld2 => ?_)
                  · trivial
                  clear hK K hHeld
                  have hHeld := hHeld2
                  clear hHeld2
                  (try simp only [Act.put, List.getElem_toArray, List.getElem_cons_succ, List.getElem_cons_zero, List.setIfInBounds_toArray, List.set_cons_zero, List.set_cons_succ])
                  refine wpAnyH_ready (rs := [11]) (by kernel_rfl) (by simp) ?_
                  refine AllReadyH.cons (o := _) rfl (fun K hK => ?_) ?_
                  · refine step_append_put (by rfl) (.tmp 27) (.tmp 30) (by rfl) hE (by rfl) hO (A := ⟨b, o + k, none⟩) (c := cap - k) (n := l.length - k) (l := l.drop k) (by rfl) (by first | (simp; done) | (rw [hdk]; rfl)) ((HI.out.ext hE).post (by omega)) (by simp; omega) ?_; intro v3 y11 hO3 hE3 hF3; have hE := hE3; have hO := hO3
                    refine hK.out _ _ ?_ (fun hHeld2 => ?_)
                    · trivial
                    clear hK K hHeld
                    have hHeld := hHeld2
                    clear hHeld2
                    (try simp only [Act.put, List.getElem_toArray, List.getElem_cons_succ, List.getElem_cons_zero, List.setIfInBounds_toArray, List.set_cons_zero, List.set_cons_succ])
                    refine wpAnyH_take (i := 12) (oi := _) (v := ?_) rfl (by kernel_rfl) (by kernel_rfl) (by kernel_rfl) (fun _ _ _ h => h) (Or.inl ⟨by rfl, ?_⟩) (by assumption) ?_
                    rotate_left
                    · (intro w hSw; (try dsimp only at hSw); (try go_simp); (try with_reducible rfl))
                    (try simp only [Act.put, List.getElem_toArray, List.getElem_cons_succ, List.getElem_cons_zero, List.setIfInBounds_toArray, List.set_cons_zero, List.set_cons_succ])
                    refine wpAnyH_done (by kernel_rfl) ?_ _
                    go_wp2_with fail
                    go_ret
                    exact ⟨_, rfl, by rw [HP.out]; simpa using hO, hE⟩
                  exact AllReadyH.nil
                exact AllReadyH.nil
              exact AllReadyH.nil
            exact AllReadyH.nil
          refine AllReadyH.cons (o := _) rfl (fun K hK => ?_) ?_
          · go_simp
            have hB := Blk.new0 y0 #[.int .i64 n] 3; have hE2 := hE.alloc' (.cells #[.int .i64 n] 3); replace hE := hE2; clear hE2; generalize World.alloc y0 (.cells #[.int .i64 n] 3) = y19 at *; generalize Array.size (World.heap y0) = pn at *
            refine hK.out _ _ ?_ (fun hHeld2 => ?_)
            · trivial
            clear hK K hHeld
            have hHeld := hHeld2
            clear hHeld2
            (try simp only [Act.put, List.getElem_toArray, List.getElem_cons_succ, List.getElem_cons_zero, List.setIfInBounds_toArray, List.set_cons_zero, List.set_cons_succ])
            refine wpAnyH_ready (rs := [0]) (by kernel_rfl) (by simp) ?_
            refine AllReadyH.cons (o := _) rfl (fun K hK => ?_) ?_
            · go_simp
              obtain ⟨hO, hE2⟩ := own_new hE; have hgl : Array.size (World.heap y19) < Array.size (World.heap (World.alloc y19 (.cells #[] 3))) := (by simp); have hne : Value.ownBlock (.slice (some ⟨Array.size (World.heap y19), 0, none⟩) 0 0) ≠ some pn := (by have h1 := hB.lt; simp only [Value.ownBlock, ne_eq, Option.some.injEq]; omega); replace hB := hB.alloc (.cells #[] 3); replace hE := hE2; clear hE2; generalize World.alloc y19 (.cells #[] 3) = y20 at *; generalize Array.size (World.heap y19) = g0 at *; generalize Value.slice (some ⟨g0, 0, none⟩) 0 0 = v0 at *
              refine hK.out _ _ ?_ (fun hHeld2 => ?_)
              · trivial
              clear hK K hHeld
              have hHeld := hHeld2
              clear hHeld2
              (try simp only [Act.put, List.getElem_toArray, List.getElem_cons_succ, List.getElem_cons_zero, List.setIfInBounds_toArray, List.set_cons_zero, List.set_cons_succ])
              refine wpAnyH_ready (rs := [4]) (by kernel_rfl) (by simp) ?_
              refine AllReadyH.cons (o := _) rfl (fun K hK => ?_) ?_
              · refine step_append_put (by rfl) (.tmp 20) (.tmp 23) (by rfl) hE (by rfl) hO (A := ⟨b, o, none⟩) (c := cap) (l := l.take k) (n := k) (by rfl) (by simp; omega) ((HI.out.ext hE).pre (by omega)) (by simp; omega) ?_; intro v1 y4 hO1 hE1 hF; have hE := hE1; have hO := hO1; obtain ⟨hB, hne⟩ := hF _ _ _ hB hne
                refine hK.out _ _ ?_ (fun hHeld2 => ?_)
                · trivial
                clear hK K hHeld
                have hHeld := hHeld2
                clear hHeld2
                (try simp only [Act.put, List.getElem_toArray, List.getElem_cons_succ, List.getElem_cons_zero, List.setIfInBounds_toArray, List.set_cons_zero, List.set_cons_succ])
                refine wpAnyH_ready (rs := [7]) (by kernel_rfl) (by simp) ?_
                refine AllReadyH.cons (o := _) rfl (fun K hK => ?_) ?_
                · refine step_append_put (by rfl) (.tmp 24) (.tmp 26) (by rfl) hE (by rfl) hO (A := ⟨pn, 0, none⟩) (c := 1) (l := [n]) (n := 1) (by rfl) rfl (int1 hB HN.out) (by simp; omega) ?_; intro v2 y7 hO2 hE2 hF2; have hE := hE2; have hO := hO2
                  refine hK.out _ _ ?_ (fun hHeld2 => ?_)
                  · trivial
                  clear hK K hHeld
                  have hHeld := hHeld2
                  clear hHeld2
                  (try simp only [Act.put, List.getElem_toArray, List.getElem_cons_succ, List.getElem_cons_zero, List.setIfInBounds_toArray, List.set_cons_zero, List.set_cons_succ])
                  refine wpAnyH_ready (rs := [11]) (by kernel_rfl) (by simp) ?_
                  refine AllReadyH.cons (o := _) rfl (fun K hK => ?_) ?_
                  · refine step_append_put (by rfl) (.tmp 27) (.tmp 30) (by rfl) hE (by rfl) hO (A := ⟨b, o + k, none⟩) (c := cap - k) (n := l.length - k) (l := l.drop k) (by rfl) (by first | (simp; done) | (rw [hdk]; rfl)) ((HI.out.ext hE).post (by omega)) (by simp; omega) ?_; intro v3 y11 hO3 hE3 hF3; have hE := hE3; have hO := hO3
                    refine hK.out _ _ ?_ (fun hHeld2 => ?_)
                    · trivial
                    clear hK K hHeld
                    have hHeld := hHeld2
                    clear hHeld2
                    (try simp only [Act.put, List.getElem_toArray, List.getElem_cons_succ, List.getElem_cons_zero, List.setIfInBounds_toArray, List.set_cons_zero, List.set_cons_succ])
                    refine wpAnyH_take (i := 12) (oi := _) (v := ?_) rfl (by kernel_rfl) (by kernel_rfl) (by kernel_rfl) (fun _ _ _ h => h) (Or.inl ⟨by rfl, ?_⟩) (by assumption) ?_
                    rotate_left
                    · (intro w hSw; (try dsimp only at hSw); (try go_simp); (try with_reducible rfl))
                    (try simp only [Act.put, List.getElem_toArray, List.getElem_cons_succ, List.getElem_cons_zero, List.setIfInBounds_toArray, List.set_cons_zero, List.set_cons_succ])
                    refine wpAnyH_done (by kernel_rfl) ?_ _
                    go_wp2_with fail
                    go_ret
                    exact ⟨_, rfl, by rw [HP.out]; simpa using hO, hE⟩
                  exact AllReadyH.nil
                exact AllReadyH.nil
              exact AllReadyH.nil
            exact AllReadyH.nil
          exact AllReadyH.nil
end Go.Proofs.Ytmcbbhlglccmgaa
