import Derived.Test.YtmcbbhlglccmgaaV6
import Derived.Test.YtmcbbhlglccmgaaV7
import Derived.Test.YtmcbbhlglccmgaaQM2
import Derived.Deep.DrawnRows
namespace Go.Proofs.Ytmcbbhlglccmgaa
open Go.RowKit Go BigFrame
set_option maxRecDepth 100000
set_option linter.unusedSimpArgs false
set_option linter.unusedVariables false
attribute [local go_sem ↓] Go.wp_at_zero Go.wp_at_succ

/-! ref16.Total. -/
theorem OwnI.lowB {w : World} {B B' : Nat} {v : Value} {L : List Int} (h : OwnI w B v L) (hB : B' ≤ B) : OwnI w B' v L := by
  refine ⟨h.nn, h.own.1, ?_⟩
  rcases h.own.2 with h2 | ⟨g, cap, cur, e, hb, r⟩
  · exact .inl h2
  · exact .inr ⟨g, cap, cur, e, Nat.le_trans hB hb, r⟩
theorem turn_bd {c : CritA} {x : Int} (h : RightC c) (hx : onC c x = true) : 0 ≤ turnC c x ∧ turnC c x ≤ 1000 := by
  obtain ⟨h1, h2, _⟩ := onC_iff.1 hx
  have := h.lo; have := h.mx
  unfold turnC
  split <;> omega
theorem mem_acc {c : CritA} {l : List Int} {k : Nat} (h : RightC c) (hall : ∀ j, j < k → ∀ x, l[j]? = some x → onC c x = true) : ∀ y ∈ accL c l k, 0 ≤ y ∧ y ≤ 1000 := fun y hy => by
  have h1 := (accL_perm c l k).mem_iff.1 hy
  obtain ⟨x, hx, rfl⟩ := List.mem_map.1 h1
  obtain ⟨j, hj, e⟩ := List.getElem_of_mem hx
  rw [List.getElem_take] at e
  exact turn_bd h (hall j (by simp at hj; omega) x (by rw [← e]; simp))
theorem median_eq {S : List Int} {i j : Nat} {u v : Int} (hu : S[i]? = some u) (hv : S[j]? = some v) (h : j = i ∨ j = i + 1) : Rat.divInt ((((S.take (j + 1)).drop i).sum) * 1) ((j + 1 - i : Nat) : Int) = Rat.divInt (u + v) 2 := by
  have hul : i < S.length := (List.getElem?_eq_some_iff.1 hu).1
  have hvl : j < S.length := (List.getElem?_eq_some_iff.1 hv).1
  rcases h with rfl | rfl
  · rw [hu] at hv
    cases hv
    have e : (S.take (j + 1)).drop j = [u] := by
      rw [take_getQ hu, List.drop_append_of_le_length (by simp; omega), List.drop_eq_nil_of_le (by simp; omega)]; rfl
    rw [e, show (j + 1 - j : Nat) = 1 by omega]
    have h1 : Rat.divInt (u * 2) (1 * 2) = Rat.divInt u 1 := Rat.divInt_mul_right (by omega)
    rw [show u + u = u * 2 by omega]
    simpa using h1.symm
  · have e : (S.take (i + 1 + 1)).drop i = [u, v] := by
      rw [take_getQ hv, take_getQ hu, List.append_assoc, List.drop_append_of_le_length (by simp; omega), List.drop_eq_nil_of_le (by simp; omega)]; rfl
    rw [e, show (i + 1 + 1 - i : Nat) = 2 by omega]
    simp

set_option maxHeartbeats 8000000 in
theorem ref16_Total_sum (c : CritA) (hc : c.In) (hr : rightC c = true) (a : Option Addr) (cap : Nat) (l : List Int) (w : World) (h : Ints w a cap l) (hl2 : l.length ≤ 256) (hh : c.how = 1) (hl : 0 < l.length) (hon : ∀ x ∈ l, onC c x = true) :
    Calls Try.prog 25 #[c.val, .slice a l.length cap] w (RatP (Rat.divInt ((srtC c l).sum * (l.length : Int)) (l.length : Int)) w) := by
  have hle := h.le
  have hmx := h.mx
  have hrr := rightC_iff.1 hr
  have HC := Lib.hid (ref16_Right c hc)
  rw [hr] at HC
  have HI := Lib.hid h
  have HRR := Lib.hid hrr
  have HOn := Lib.hid (fun m hm => ref16_On c hc hrr m hm)
  have HTn := Lib.hid (fun m hm => ref16_Turn c hc hrr m hm)
  have tr1 := hrr.tr
  have tr2 := hrr.tm
  have ht0 : c.tr = 0 := hrr.mn.resolve_left (by omega)
  obtain ⟨RR, hRR⟩ : ∃ RR, RR = Rat.divInt ((srtC c l).sum * (l.length : Int)) (l.length : Int) := ⟨_, rfl⟩
  rw [← hRR]
  rw [srtC_acc hon] at hRR
  replace hRR := Lib.hid hRR
  obtain ⟨nm, lo, hi, st, how, tr, rv⟩ := c
  dsimp only [CritA.val, CritA.cells] at *

  subst hh
  subst ht0
  clear h hrr hr hc
  obtain ⟨x1, hw, hx, Kc, Kr⟩ := boxQ2 w #[.string nm, .int .i64 lo, .int .i64 hi, .int .i64 st, .int .i64 1, .int .i64 0, .bool rv] 48 #[.bool false, .slice none 0 0, .bool false, .slice none 0 0] 35
  replace hw := Lib.hid hw
  go_enter Try.func25, Try.ntmps25
  go_upto_region 1 with fail
  try simp only [Nat.add_assoc, Nat.reduceAdd, Nat.add_zero]
  rw [hw.out]
  clear hw
  have hs0 := hx.size
  have cc0 := Kc.out.cell (i := 0) (v := .string nm) rfl
  have cc1 := Kc.out.cell (i := 1) (v := .int .i64 lo) rfl
  have cc2 := Kc.out.cell (i := 2) (v := .int .i64 hi) rfl
  have cc3 := Kc.out.cell (i := 3) (v := .int .i64 st) rfl
  have cc4 := Kc.out.cell (i := 4) (v := .int .i64 1) rfl
  have cc5 := Kc.out.cell (i := 5) (v := .int .i64 0) rfl
  have cc6 := Kc.out.cell (i := 6) (v := .bool rv) rfl
  obtain ⟨cr0, cr1, cr2, cr3⟩ := bk4 Kr
  go_wp2_with fail
  with_reducible refine (HC.out _).mono ?_
  clear cc0 cc1 cc2 cc3 cc4 cc5 cc6 cr0 cr1 cr2 cr3
  rintro e x2 ⟨rfl, hy⟩
  replace hx := hx.trans hy
  replace Kc := kE Kc hy
  replace Kr := kE Kr hy
  clear hy
  clear HC
  have HON := Lib.hid hon
  clear hon
  have t1 : ((l.length : Int) == 0) = false := beq_false_of_ne (by omega)
  have t1n : ¬ l = [] := List.ne_nil_of_length_pos (by omega)
  have cc0 := Kc.out.cell (i := 0) (v := .string nm) rfl
  have cc1 := Kc.out.cell (i := 1) (v := .int .i64 lo) rfl
  have cc2 := Kc.out.cell (i := 2) (v := .int .i64 hi) rfl
  have cc3 := Kc.out.cell (i := 3) (v := .int .i64 st) rfl
  have cc4 := Kc.out.cell (i := 4) (v := .int .i64 1) rfl
  have cc5 := Kc.out.cell (i := 5) (v := .int .i64 0) rfl
  have cc6 := Kc.out.cell (i := 6) (v := .bool rv) rfl
  obtain ⟨cr0, cr1, cr2, cr3⟩ := bk4 Kr
  go_upto_region 9 with fail
  clear cc0 cc1 cc2 cc3 cc4 cc5 cc6 cr0 cr1 cr2 cr3
  have hgz : w.heap.size + 1 < Array.size (World.heap x2) := Kr.out.lt
  obtain ⟨hO, hE2⟩ := own_new (Ext.refl x2)
  clear hE2
  have hy := Ext.alloc x2 (.cells #[] 3)
  replace hx := hx.trans hy
  replace Kc := kE Kc hy
  replace Kr := kE Kr hy
  clear hy
  generalize World.alloc x2 (.cells #[] 3) = x3 at *
  generalize Array.size (World.heap x2) = g0 at *
  go_wp2_with fail
  have HX0 := Lib.hid hx
  have HKc := Kc
  have HKr := Kr
  go_loopw [7, 8] (fun v i wr => ∃ k : Nat, k ≤ l.length ∧ i = .int .i64 k ∧ (∀ j, j < k → ∀ x, l[j]? = some x → onC (⟨nm, lo, hi, st, 1, 0, rv⟩ : CritA) x = true) ∧ OwnI wr g0 v (accL (⟨nm, lo, hi, st, 1, 0, rv⟩ : CritA) l k) ∧ Ext x3 wr) (fun _ i _ => l.length - (intOf i).toNat)
  case atStart => exact ⟨0, Nat.zero_le _, rfl, fun j hj => absurd hj (Nat.not_lt_zero _), by simpa [accL] using hO, Ext.refl _⟩
  case round =>
    obtain ⟨k, hk, rfl, hall, hO2, hxr⟩ := hrel
    clear hO hx Kc Kr
    have hx := HX0.out.trans hxr
    have Kc := kE HKc hxr
    have Kr := kE HKr hxr
    have HA := Lib.hid hall
    obtain ⟨gl, cg, rfl, hIa, hgB⟩ := hO2.look (fun y hy => by have := mem_acc HRR.out HA.out y hy; omega)
    have HMA := Lib.hid (mem_acc HRR.out HA.out)
    have HO := Lib.hid hO2
    have HIa := Lib.hid hIa
    have HLen := Lib.hid (accL_len (⟨nm, lo, hi, st, 1, 0, rv⟩ : CritA) l hk)
    have g0k : (0 : Int) ≤ (k : Int) := by omega
    have hg0 : g0 ≤ Array.size (World.heap wr) := by have := (hO2.form).choose_spec; obtain ⟨_, _, _, h1, h2, _⟩ := hO2.form; omega
    clear hall hO2 hIa HX0 HKc HKr
    by_cases hlt : k < l.length
    · obtain ⟨b, o, rfl⟩ := HI.out.head hlt
      obtain ⟨x, hxk, hcx, hx1, hx2⟩ := Ints.get (HI.out.ext hx) hlt
      have HXK := Lib.hid hxk
      have HCX := Lib.hid hcx
      have g1 : (k : Int) < (l.length : Int) := by omega
      have hle3 := HIa.out.le
      have hmx3 := HIa.out.mx
      clear hxk
      generalize hL : accL (⟨nm, lo, hi, st, 1, 0, rv⟩ : CritA) l k = L at *
      replace hL := Lib.hid hL
      cases ho : onC (⟨nm, lo, hi, st, 1, 0, rv⟩ : CritA) x
      · have HO1 := Lib.hid (HOn.out x ⟨hx1, hx2⟩)
        rw [ho] at HO1
        have HOX := Lib.hid ho
        clear ho
        go_upto_region 12 with fail
        go_cut [45] (fun s wx => s = .bool true ∧ Ext wr wx)
        case first =>
          have hcx := HCX.out
          have s0 : World.cell? wr ⟨w.heap.size, 0, none⟩ = some (.string nm) := Kc.out.cell (i := 0) (v := .string nm) rfl
          have s1 : World.cell? wr ⟨w.heap.size, 1, none⟩ = some (.int .i64 lo) := Kc.out.cell (i := 1) (v := .int .i64 lo) rfl
          have s2 : World.cell? wr ⟨w.heap.size, 2, none⟩ = some (.int .i64 hi) := Kc.out.cell (i := 2) (v := .int .i64 hi) rfl
          have s3 : World.cell? wr ⟨w.heap.size, 3, none⟩ = some (.int .i64 st) := Kc.out.cell (i := 3) (v := .int .i64 st) rfl
          have s4 : World.cell? wr ⟨w.heap.size, 4, none⟩ = some (.int .i64 1) := Kc.out.cell (i := 4) (v := .int .i64 1) rfl
          have s5 : World.cell? wr ⟨w.heap.size, 5, none⟩ = some (.int .i64 0) := Kc.out.cell (i := 5) (v := .int .i64 0) rfl
          have s6 : World.cell? wr ⟨w.heap.size, 6, none⟩ = some (.bool rv) := Kc.out.cell (i := 6) (v := .bool rv) rfl
          have s7 : World.cell? wr ⟨b, o + k, none⟩ = some (.int .i64 x) := hcx
          have hE : Ext wr (World.drew wr) := (Ext.refl _).drew
          have hyd : Ext wr (World.drew wr) := (Ext.refl _).drew
          replace hx := hx.trans hyd
          replace Kc := kE Kc hyd
          replace Kr := kE Kr hyd
          clear hyd
          replace s0 : World.cell? (World.drew wr) ⟨w.heap.size, 0, none⟩ = some (.string nm) := s0
          replace s1 : World.cell? (World.drew wr) ⟨w.heap.size, 1, none⟩ = some (.int .i64 lo) := s1
          replace s2 : World.cell? (World.drew wr) ⟨w.heap.size, 2, none⟩ = some (.int .i64 hi) := s2
          replace s3 : World.cell? (World.drew wr) ⟨w.heap.size, 3, none⟩ = some (.int .i64 st) := s3
          replace s4 : World.cell? (World.drew wr) ⟨w.heap.size, 4, none⟩ = some (.int .i64 1) := s4
          replace s5 : World.cell? (World.drew wr) ⟨w.heap.size, 5, none⟩ = some (.int .i64 0) := s5
          replace s6 : World.cell? (World.drew wr) ⟨w.heap.size, 6, none⟩ = some (.bool rv) := s6
          replace s7 : World.cell? (World.drew wr) ⟨b, o + k, none⟩ = some (.int .i64 x) := s7
          refine wp_region_held_drew (S := (fun w' => World.cell? w' ⟨w.heap.size, 0, none⟩ = some (.string nm) ∧ World.cell? w' ⟨w.heap.size, 1, none⟩ = some (.int .i64 lo) ∧ World.cell? w' ⟨w.heap.size, 2, none⟩ = some (.int .i64 hi) ∧ World.cell? w' ⟨w.heap.size, 3, none⟩ = some (.int .i64 st) ∧ World.cell? w' ⟨w.heap.size, 4, none⟩ = some (.int .i64 1) ∧ World.cell? w' ⟨w.heap.size, 5, none⟩ = some (.int .i64 0) ∧ World.cell? w' ⟨w.heap.size, 6, none⟩ = some (.bool rv) ∧ World.cell? w' ⟨b, o + k, none⟩ = some (.int .i64 x))) (by kernel_rfl) ?_ (fun hHeld => ?_)
          · exact ⟨s0, s1, s2, s3, s4, s5, s6, s7⟩
          (try simp only [← List.toArray_replicate, List.size_toArray, List.length_cons, List.length_nil, Nat.reduceAdd, List.replicate_succ, List.replicate_zero])
          generalize World.drew wr = x4 at *
          refine wpAnyH_take (i := 0) (oi := _) (v := ?_) rfl (by kernel_rfl) (by kernel_rfl) (by kernel_rfl) (fun _ _ _ h => h) (Or.inl ⟨by rfl, ?_⟩) (by assumption) ?_
          rotate_left
          · (intro w hSw; (try dsimp only at hSw); (try go_simp); (try with_reducible rfl))
          (try simp only [Act.put, List.getElem_toArray, List.getElem_cons_succ, List.getElem_cons_zero, List.setIfInBounds_toArray, List.set_cons_zero, List.set_cons_succ])
          refine wpAnyH_take (i := 1) (oi := _) (v := ?_) rfl (by kernel_rfl) (by kernel_rfl) (by kernel_rfl) (fun _ _ _ h => h) (Or.inl ⟨by rfl, ?_⟩) (by assumption) ?_
          rotate_left
          · (intro w hSw; (try dsimp only at hSw); (try go_simp); (try with_reducible rfl))
          (try simp only [Act.put, List.getElem_toArray, List.getElem_cons_succ, List.getElem_cons_zero, List.setIfInBounds_toArray, List.set_cons_zero, List.set_cons_succ])
          refine wpAnyH_take (i := 2) (oi := _) (v := ?_) rfl (by kernel_rfl) (by kernel_rfl) (by kernel_rfl) (fun _ _ _ h => h) (Or.inl ⟨by rfl, ?_⟩) (by assumption) ?_
          rotate_left
          · (intro w hSw; (try dsimp only at hSw); (try go_simp); (try with_reducible rfl))
          (try simp only [Act.put, List.getElem_toArray, List.getElem_cons_succ, List.getElem_cons_zero, List.setIfInBounds_toArray, List.set_cons_zero, List.set_cons_succ])
          refine wpAnyH_take (i := 3) (oi := _) (v := ?_) rfl (by kernel_rfl) (by kernel_rfl) (by kernel_rfl) (fun _ _ _ h => h) (Or.inl ⟨by rfl, ?_⟩) (by assumption) ?_
          rotate_left
          · (intro w hSw; (try dsimp only at hSw); (try go_simp); (try with_reducible rfl))
          (try simp only [Act.put, List.getElem_toArray, List.getElem_cons_succ, List.getElem_cons_zero, List.setIfInBounds_toArray, List.set_cons_zero, List.set_cons_succ])
          refine wpAnyH_take (i := 4) (oi := _) (v := ?_) rfl (by kernel_rfl) (by kernel_rfl) (by kernel_rfl) (fun _ _ _ h => h) (Or.inl ⟨by rfl, ?_⟩) (by assumption) ?_
          rotate_left
          · (intro w hSw; (try dsimp only at hSw); (try go_simp); (try with_reducible rfl))
          (try simp only [Act.put, List.getElem_toArray, List.getElem_cons_succ, List.getElem_cons_zero, List.setIfInBounds_toArray, List.set_cons_zero, List.set_cons_succ])
          refine wpAnyH_ready (rs := [5]) (by kernel_rfl) (by simp) ?_
          refine AllReadyH.cons (o := _) rfl (fun K hK => ?_) ?_
          · go_simp
            (with_reducible refine (HO1.out _).mono ?_); rintro e x5 ⟨rfl, hy⟩; replace hE := hE.trans hy; replace hx := hx.trans hy; replace s0 := cell_exQ hy s0; replace s1 := cell_exQ hy s1; replace s2 := cell_exQ hy s2; replace s3 := cell_exQ hy s3; replace s4 := cell_exQ hy s4; replace s5 := cell_exQ hy s5; replace s6 := cell_exQ hy s6; replace s7 := cell_exQ hy s7; replace Kc := kE Kc hy; replace Kr := kE Kr hy; clear hy
            refine hK.out _ _ ?_ (fun hHeld2 => ?_)
            · exact ⟨s0, s1, s2, s3, s4, s5, s6, s7⟩
            clear hK K hHeld
            have hHeld := hHeld2
            clear hHeld2
            (try simp only [Act.put, List.getElem_toArray, List.getElem_cons_succ, List.getElem_cons_zero, List.setIfInBounds_toArray, List.set_cons_zero, List.set_cons_succ])
            refine wpAnyH_take (i := 6) (oi := _) (v := ?_) rfl (by kernel_rfl) (by kernel_rfl) (by kernel_rfl) (fun _ _ _ h => h) (Or.inl ⟨by rfl, ?_⟩) (by assumption) ?_
            rotate_left
            · (intro w hSw; (try dsimp only at hSw); (try go_simp); (try with_reducible rfl))
            (try simp only [Act.put, List.getElem_toArray, List.getElem_cons_succ, List.getElem_cons_zero, List.setIfInBounds_toArray, List.set_cons_zero, List.set_cons_succ])
            refine wpAnyH_done (by kernel_rfl) ?_ _
            go_wp2_with fail
            go_meet
            exact ⟨rfl, hE⟩
          exact AllReadyH.nil
        case rest =>
        obtain ⟨rfl, hy⟩ := hcut
        have HXR := Lib.hid (hxr.trans hy)
        have hcx := cell_exQ hy HCX.out
        have HO3 := Lib.hid (HO.out.ext hy)
        have HIa3 := Lib.hid (HIa.out.ext hy)
        have hg1 := hy.size
        replace hx := hx.trans hy
        replace Kc := kE Kc hy
        replace Kr := kE Kr hy
        clear hy
        exact absurd HOX.out (by rw [HON.out x (List.mem_of_getElem? HXK.out)]; decide)
      · have HO1 := Lib.hid (HOn.out x ⟨hx1, hx2⟩)
        rw [ho] at HO1
        have HOX := Lib.hid ho
        clear ho
        go_upto_region 12 with fail
        go_cut [45] (fun s wx => s = .bool false ∧ Ext wr wx)
        case first =>
          have hcx := HCX.out
          have s0 : World.cell? wr ⟨w.heap.size, 0, none⟩ = some (.string nm) := Kc.out.cell (i := 0) (v := .string nm) rfl
          have s1 : World.cell? wr ⟨w.heap.size, 1, none⟩ = some (.int .i64 lo) := Kc.out.cell (i := 1) (v := .int .i64 lo) rfl
          have s2 : World.cell? wr ⟨w.heap.size, 2, none⟩ = some (.int .i64 hi) := Kc.out.cell (i := 2) (v := .int .i64 hi) rfl
          have s3 : World.cell? wr ⟨w.heap.size, 3, none⟩ = some (.int .i64 st) := Kc.out.cell (i := 3) (v := .int .i64 st) rfl
          have s4 : World.cell? wr ⟨w.heap.size, 4, none⟩ = some (.int .i64 1) := Kc.out.cell (i := 4) (v := .int .i64 1) rfl
          have s5 : World.cell? wr ⟨w.heap.size, 5, none⟩ = some (.int .i64 0) := Kc.out.cell (i := 5) (v := .int .i64 0) rfl
          have s6 : World.cell? wr ⟨w.heap.size, 6, none⟩ = some (.bool rv) := Kc.out.cell (i := 6) (v := .bool rv) rfl
          have s7 : World.cell? wr ⟨b, o + k, none⟩ = some (.int .i64 x) := hcx
          have hE : Ext wr (World.drew wr) := (Ext.refl _).drew
          have hyd : Ext wr (World.drew wr) := (Ext.refl _).drew
          replace hx := hx.trans hyd
          replace Kc := kE Kc hyd
          replace Kr := kE Kr hyd
          clear hyd
          replace s0 : World.cell? (World.drew wr) ⟨w.heap.size, 0, none⟩ = some (.string nm) := s0
          replace s1 : World.cell? (World.drew wr) ⟨w.heap.size, 1, none⟩ = some (.int .i64 lo) := s1
          replace s2 : World.cell? (World.drew wr) ⟨w.heap.size, 2, none⟩ = some (.int .i64 hi) := s2
          replace s3 : World.cell? (World.drew wr) ⟨w.heap.size, 3, none⟩ = some (.int .i64 st) := s3
          replace s4 : World.cell? (World.drew wr) ⟨w.heap.size, 4, none⟩ = some (.int .i64 1) := s4
          replace s5 : World.cell? (World.drew wr) ⟨w.heap.size, 5, none⟩ = some (.int .i64 0) := s5
          replace s6 : World.cell? (World.drew wr) ⟨w.heap.size, 6, none⟩ = some (.bool rv) := s6
          replace s7 : World.cell? (World.drew wr) ⟨b, o + k, none⟩ = some (.int .i64 x) := s7
          refine wp_region_held_drew (S := (fun w' => World.cell? w' ⟨w.heap.size, 0, none⟩ = some (.string nm) ∧ World.cell? w' ⟨w.heap.size, 1, none⟩ = some (.int .i64 lo) ∧ World.cell? w' ⟨w.heap.size, 2, none⟩ = some (.int .i64 hi) ∧ World.cell? w' ⟨w.heap.size, 3, none⟩ = some (.int .i64 st) ∧ World.cell? w' ⟨w.heap.size, 4, none⟩ = some (.int .i64 1) ∧ World.cell? w' ⟨w.heap.size, 5, none⟩ = some (.int .i64 0) ∧ World.cell? w' ⟨w.heap.size, 6, none⟩ = some (.bool rv) ∧ World.cell? w' ⟨b, o + k, none⟩ = some (.int .i64 x))) (by kernel_rfl) ?_ (fun hHeld => ?_)
          · exact ⟨s0, s1, s2, s3, s4, s5, s6, s7⟩
          (try simp only [← List.toArray_replicate, List.size_toArray, List.length_cons, List.length_nil, Nat.reduceAdd, List.replicate_succ, List.replicate_zero])
          generalize World.drew wr = x4 at *
          refine wpAnyH_take (i := 0) (oi := _) (v := ?_) rfl (by kernel_rfl) (by kernel_rfl) (by kernel_rfl) (fun _ _ _ h => h) (Or.inl ⟨by rfl, ?_⟩) (by assumption) ?_
          rotate_left
          · (intro w hSw; (try dsimp only at hSw); (try go_simp); (try with_reducible rfl))
          (try simp only [Act.put, List.getElem_toArray, List.getElem_cons_succ, List.getElem_cons_zero, List.setIfInBounds_toArray, List.set_cons_zero, List.set_cons_succ])
          refine wpAnyH_take (i := 1) (oi := _) (v := ?_) rfl (by kernel_rfl) (by kernel_rfl) (by kernel_rfl) (fun _ _ _ h => h) (Or.inl ⟨by rfl, ?_⟩) (by assumption) ?_
          rotate_left
          · (intro w hSw; (try dsimp only at hSw); (try go_simp); (try with_reducible rfl))
          (try simp only [Act.put, List.getElem_toArray, List.getElem_cons_succ, List.getElem_cons_zero, List.setIfInBounds_toArray, List.set_cons_zero, List.set_cons_succ])
          refine wpAnyH_take (i := 2) (oi := _) (v := ?_) rfl (by kernel_rfl) (by kernel_rfl) (by kernel_rfl) (fun _ _ _ h => h) (Or.inl ⟨by rfl, ?_⟩) (by assumption) ?_
          rotate_left
          · (intro w hSw; (try dsimp only at hSw); (try go_simp); (try with_reducible rfl))
          (try simp only [Act.put, List.getElem_toArray, List.getElem_cons_succ, List.getElem_cons_zero, List.setIfInBounds_toArray, List.set_cons_zero, List.set_cons_succ])
          refine wpAnyH_take (i := 3) (oi := _) (v := ?_) rfl (by kernel_rfl) (by kernel_rfl) (by kernel_rfl) (fun _ _ _ h => h) (Or.inl ⟨by rfl, ?_⟩) (by assumption) ?_
          rotate_left
          · (intro w hSw; (try dsimp only at hSw); (try go_simp); (try with_reducible rfl))
          (try simp only [Act.put, List.getElem_toArray, List.getElem_cons_succ, List.getElem_cons_zero, List.setIfInBounds_toArray, List.set_cons_zero, List.set_cons_succ])
          refine wpAnyH_take (i := 4) (oi := _) (v := ?_) rfl (by kernel_rfl) (by kernel_rfl) (by kernel_rfl) (fun _ _ _ h => h) (Or.inl ⟨by rfl, ?_⟩) (by assumption) ?_
          rotate_left
          · (intro w hSw; (try dsimp only at hSw); (try go_simp); (try with_reducible rfl))
          (try simp only [Act.put, List.getElem_toArray, List.getElem_cons_succ, List.getElem_cons_zero, List.setIfInBounds_toArray, List.set_cons_zero, List.set_cons_succ])
          refine wpAnyH_ready (rs := [5]) (by kernel_rfl) (by simp) ?_
          refine AllReadyH.cons (o := _) rfl (fun K hK => ?_) ?_
          · go_simp
            (with_reducible refine (HO1.out _).mono ?_); rintro e x5 ⟨rfl, hy⟩; replace hE := hE.trans hy; replace hx := hx.trans hy; replace s0 := cell_exQ hy s0; replace s1 := cell_exQ hy s1; replace s2 := cell_exQ hy s2; replace s3 := cell_exQ hy s3; replace s4 := cell_exQ hy s4; replace s5 := cell_exQ hy s5; replace s6 := cell_exQ hy s6; replace s7 := cell_exQ hy s7; replace Kc := kE Kc hy; replace Kr := kE Kr hy; clear hy
            refine hK.out _ _ ?_ (fun hHeld2 => ?_)
            · exact ⟨s0, s1, s2, s3, s4, s5, s6, s7⟩
            clear hK K hHeld
            have hHeld := hHeld2
            clear hHeld2
            (try simp only [Act.put, List.getElem_toArray, List.getElem_cons_succ, List.getElem_cons_zero, List.setIfInBounds_toArray, List.set_cons_zero, List.set_cons_succ])
            refine wpAnyH_take (i := 6) (oi := _) (v := ?_) rfl (by kernel_rfl) (by kernel_rfl) (by kernel_rfl) (fun _ _ _ h => h) (Or.inl ⟨by rfl, ?_⟩) (by assumption) ?_
            rotate_left
            · (intro w hSw; (try dsimp only at hSw); (try go_simp); (try with_reducible rfl))
            (try simp only [Act.put, List.getElem_toArray, List.getElem_cons_succ, List.getElem_cons_zero, List.setIfInBounds_toArray, List.set_cons_zero, List.set_cons_succ])
            refine wpAnyH_done (by kernel_rfl) ?_ _
            go_wp2_with fail
            go_meet
            exact ⟨rfl, hE⟩
          exact AllReadyH.nil
        case rest =>
        obtain ⟨rfl, hy⟩ := hcut
        have HXR := Lib.hid (hxr.trans hy)
        have hcx := cell_exQ hy HCX.out
        have HO3 := Lib.hid (HO.out.ext hy)
        have HIa3 := Lib.hid (HIa.out.ext hy)
        have hg1 := hy.size
        replace hx := hx.trans hy
        replace Kc := kE Kc hy
        replace Kr := kE Kr hy
        clear hy
        have HT1 := Lib.hid (HTn.out x HOX.out)
        have HTB := Lib.hid (turn_bd HRR.out HOX.out)
        have HAC := Lib.hid ((accL_succ (c := (⟨nm, lo, hi, st, 1, 0, rv⟩ : CritA)) HXK.out).trans (by rw [hL.out]))
        generalize turnC (⟨nm, lo, hi, st, 1, 0, rv⟩ : CritA) x = y at *
        have HALL := Lib.hid (show ∀ j, j < k + 1 → ∀ u, l[j]? = some u → onC (⟨nm, lo, hi, st, 1, 0, rv⟩ : CritA) u = true from fun j hj u hu => by
          by_cases hjk : j < k
          · exact HA.out j hjk u hu
          · obtain rfl : j = k := by omega
            rw [HXK.out] at hu
            cases hu
            exact HOX.out)
        go_upto_region 14 with fail
        have s0 : World.cell? wc ⟨w.heap.size, 0, none⟩ = some (.string nm) := Kc.out.cell (i := 0) (v := .string nm) rfl
        have s1 : World.cell? wc ⟨w.heap.size, 1, none⟩ = some (.int .i64 lo) := Kc.out.cell (i := 1) (v := .int .i64 lo) rfl
        have s2 : World.cell? wc ⟨w.heap.size, 2, none⟩ = some (.int .i64 hi) := Kc.out.cell (i := 2) (v := .int .i64 hi) rfl
        have s3 : World.cell? wc ⟨w.heap.size, 3, none⟩ = some (.int .i64 st) := Kc.out.cell (i := 3) (v := .int .i64 st) rfl
        have s4 : World.cell? wc ⟨w.heap.size, 4, none⟩ = some (.int .i64 1) := Kc.out.cell (i := 4) (v := .int .i64 1) rfl
        have s5 : World.cell? wc ⟨w.heap.size, 5, none⟩ = some (.int .i64 0) := Kc.out.cell (i := 5) (v := .int .i64 0) rfl
        have s6 : World.cell? wc ⟨w.heap.size, 6, none⟩ = some (.bool rv) := Kc.out.cell (i := 6) (v := .bool rv) rfl
        have s7 : World.cell? wc ⟨b, o + k, none⟩ = some (.int .i64 x) := hcx
        have hE : Ext wc (World.drew wc) := (Ext.refl _).drew
        have hyd : Ext wc (World.drew wc) := (Ext.refl _).drew
        replace hx := hx.trans hyd
        replace Kc := kE Kc hyd
        replace Kr := kE Kr hyd
        clear hyd
        replace s0 : World.cell? (World.drew wc) ⟨w.heap.size, 0, none⟩ = some (.string nm) := s0
        replace s1 : World.cell? (World.drew wc) ⟨w.heap.size, 1, none⟩ = some (.int .i64 lo) := s1
        replace s2 : World.cell? (World.drew wc) ⟨w.heap.size, 2, none⟩ = some (.int .i64 hi) := s2
        replace s3 : World.cell? (World.drew wc) ⟨w.heap.size, 3, none⟩ = some (.int .i64 st) := s3
        replace s4 : World.cell? (World.drew wc) ⟨w.heap.size, 4, none⟩ = some (.int .i64 1) := s4
        replace s5 : World.cell? (World.drew wc) ⟨w.heap.size, 5, none⟩ = some (.int .i64 0) := s5
        replace s6 : World.cell? (World.drew wc) ⟨w.heap.size, 6, none⟩ = some (.bool rv) := s6
        replace s7 : World.cell? (World.drew wc) ⟨b, o + k, none⟩ = some (.int .i64 x) := s7
        refine wp_region_held_drew (S := (fun w' => World.cell? w' ⟨w.heap.size, 0, none⟩ = some (.string nm) ∧ World.cell? w' ⟨w.heap.size, 1, none⟩ = some (.int .i64 lo) ∧ World.cell? w' ⟨w.heap.size, 2, none⟩ = some (.int .i64 hi) ∧ World.cell? w' ⟨w.heap.size, 3, none⟩ = some (.int .i64 st) ∧ World.cell? w' ⟨w.heap.size, 4, none⟩ = some (.int .i64 1) ∧ World.cell? w' ⟨w.heap.size, 5, none⟩ = some (.int .i64 0) ∧ World.cell? w' ⟨w.heap.size, 6, none⟩ = some (.bool rv) ∧ World.cell? w' ⟨b, o + k, none⟩ = some (.int .i64 x))) (by kernel_rfl) ?_ (fun hHeld => ?_)
        · exact ⟨s0, s1, s2, s3, s4, s5, s6, s7⟩
        (try simp only [← List.toArray_replicate, List.size_toArray, List.length_cons, List.length_nil, Nat.reduceAdd, List.replicate_succ, List.replicate_zero])
        generalize World.drew wc = x6 at *
        refine wpAnyH_take (i := 0) (oi := _) (v := ?_) rfl (by kernel_rfl) (by kernel_rfl) (by kernel_rfl) (fun _ _ _ h => h) (Or.inl ⟨by rfl, ?_⟩) (by assumption) ?_
        rotate_left
        · (intro w hSw; (try dsimp only at hSw); (try go_simp); (try with_reducible rfl))
        (try simp only [Act.put, List.getElem_toArray, List.getElem_cons_succ, List.getElem_cons_zero, List.setIfInBounds_toArray, List.set_cons_zero, List.set_cons_succ])
        refine wpAnyH_take (i := 1) (oi := _) (v := ?_) rfl (by kernel_rfl) (by kernel_rfl) (by kernel_rfl) (fun _ _ _ h => h) (Or.inl ⟨by rfl, ?_⟩) (by assumption) ?_
        rotate_left
        · (intro w hSw; (try dsimp only at hSw); (try go_simp); (try with_reducible rfl))
        (try simp only [Act.put, List.getElem_toArray, List.getElem_cons_succ, List.getElem_cons_zero, List.setIfInBounds_toArray, List.set_cons_zero, List.set_cons_succ])
        refine wpAnyH_take (i := 2) (oi := _) (v := ?_) rfl (by kernel_rfl) (by kernel_rfl) (by kernel_rfl) (fun _ _ _ h => h) (Or.inl ⟨by rfl, ?_⟩) (by assumption) ?_
        rotate_left
        · (intro w hSw; (try dsimp only at hSw); (try go_simp); (try with_reducible rfl))
        (try simp only [Act.put, List.getElem_toArray, List.getElem_cons_succ, List.getElem_cons_zero, List.setIfInBounds_toArray, List.set_cons_zero, List.set_cons_succ])
        refine wpAnyH_take (i := 3) (oi := _) (v := ?_) rfl (by kernel_rfl) (by kernel_rfl) (by kernel_rfl) (fun _ _ _ h => h) (Or.inl ⟨by rfl, ?_⟩) (by assumption) ?_
        rotate_left
        · (intro w hSw; (try dsimp only at hSw); (try go_simp); (try with_reducible rfl))
        (try simp only [Act.put, List.getElem_toArray, List.getElem_cons_succ, List.getElem_cons_zero, List.setIfInBounds_toArray, List.set_cons_zero, List.set_cons_succ])
        refine wpAnyH_take (i := 4) (oi := _) (v := ?_) rfl (by kernel_rfl) (by kernel_rfl) (by kernel_rfl) (fun _ _ _ h => h) (Or.inl ⟨by rfl, ?_⟩) (by assumption) ?_
        rotate_left
        · (intro w hSw; (try dsimp only at hSw); (try go_simp); (try with_reducible rfl))
        (try simp only [Act.put, List.getElem_toArray, List.getElem_cons_succ, List.getElem_cons_zero, List.setIfInBounds_toArray, List.set_cons_zero, List.set_cons_succ])
        refine wpAnyH_take (i := 5) (oi := _) (v := ?_) rfl (by kernel_rfl) (by kernel_rfl) (by kernel_rfl) (fun _ _ _ h => h) (Or.inl ⟨by rfl, ?_⟩) (by assumption) ?_
        rotate_left
        · (intro w hSw; (try dsimp only at hSw); (try go_simp); (try with_reducible rfl))
        (try simp only [Act.put, List.getElem_toArray, List.getElem_cons_succ, List.getElem_cons_zero, List.setIfInBounds_toArray, List.set_cons_zero, List.set_cons_succ])
        refine wpAnyH_ready (rs := [6]) (by kernel_rfl) (by simp) ?_
        refine AllReadyH.cons (o := _) rfl (fun K hK => ?_) ?_
        · go_simp
          (with_reducible refine (HT1.out _).mono ?_); rintro e x7 ⟨rfl, hy⟩; replace hE := hE.trans hy; replace hx := hx.trans hy; replace s0 := cell_exQ hy s0; replace s1 := cell_exQ hy s1; replace s2 := cell_exQ hy s2; replace s3 := cell_exQ hy s3; replace s4 := cell_exQ hy s4; replace s5 := cell_exQ hy s5; replace s6 := cell_exQ hy s6; replace s7 := cell_exQ hy s7; replace Kc := kE Kc hy; replace Kr := kE Kr hy; clear hy; have hzb := hE.size
          refine hK.out _ _ ?_ (fun hHeld2 => ?_)
          · exact ⟨s0, s1, s2, s3, s4, s5, s6, s7⟩
          clear hK K hHeld
          have hHeld := hHeld2
          clear hHeld2
          (try simp only [Act.put, List.getElem_toArray, List.getElem_cons_succ, List.getElem_cons_zero, List.setIfInBounds_toArray, List.set_cons_zero, List.set_cons_succ])
          refine wpAnyH_ready (rs := [7]) (by kernel_rfl) (by simp) ?_
          refine AllReadyH.cons (o := _) rfl (fun K hK => ?_) ?_
          · go_simp
            (with_reducible refine (ref16_put gl 0 cg L y _ (HIa3.out.ext hE) (by have := HLen.out; omega) (by have := HTB.out; omega)).mono ?_); rintro e x8 ⟨v, rfl, hv, hy⟩; replace hE := hE.trans hy; replace hx := hx.trans hy; replace s0 := cell_exQ hy s0; replace s1 := cell_exQ hy s1; replace s2 := cell_exQ hy s2; replace s3 := cell_exQ hy s3; replace s4 := cell_exQ hy s4; replace s5 := cell_exQ hy s5; replace s6 := cell_exQ hy s6; replace s7 := cell_exQ hy s7; replace Kc := kE Kc hy; replace Kr := kE Kr hy; clear hy; have HNO := Lib.hid (hv.lowB (B' := g0) (by omega)); clear hv
            refine hK.out _ _ ?_ (fun hHeld2 => ?_)
            · exact ⟨s0, s1, s2, s3, s4, s5, s6, s7⟩
            clear hK K hHeld
            have hHeld := hHeld2
            clear hHeld2
            (try simp only [Act.put, List.getElem_toArray, List.getElem_cons_succ, List.getElem_cons_zero, List.setIfInBounds_toArray, List.set_cons_zero, List.set_cons_succ])
            refine wpAnyH_take (i := 8) (oi := _) (v := ?_) rfl (by kernel_rfl) (by kernel_rfl) (by kernel_rfl) (fun _ _ _ h => h) (Or.inl ⟨by rfl, ?_⟩) (by assumption) ?_
            rotate_left
            · (intro w hSw; (try dsimp only at hSw); (try go_simp); (try with_reducible rfl))
            (try simp only [Act.put, List.getElem_toArray, List.getElem_cons_succ, List.getElem_cons_zero, List.setIfInBounds_toArray, List.set_cons_zero, List.set_cons_succ])
            refine wpAnyH_done (by kernel_rfl) ?_ _
            go_wp2_with fail
            go_roundw
            case rel => exact ⟨k + 1, by omega, by go_num, HALL.out, by rw [HAC.out]; exact HNO.out, HXR.out.trans hE⟩
            case measure => simp [intOf]; omega
          exact AllReadyH.nil
        exact AllReadyH.nil
    · obtain rfl : k = l.length := by omega
      generalize hS : accL (⟨nm, lo, hi, st, 1, 0, rv⟩ : CritA) l l.length = S at *
      clear hS hlt HA HON HOn HTn HO g0k
      have hSb := HMA.out
      have hSl := HLen.out
      replace hSl := Lib.hid hSl
      replace hSb := Lib.hid hSb
      have hle3 := HIa.out.le
      have hmx3 := HIa.out.mx
      clear HMA HLen
      have HSm := Lib.hid (ref16_sum (some ⟨gl, 0, none⟩) cg S wr HIa.out (by have := hSl.out; omega) hSb.out)
      have hsb := sum_le hSb.out
      have hsl := hSl.out
      have HM := Lib.hid (rMakeR S.sum 1 wr (by omega) (by omega) (by omega))
      have e1 : Rat.divInt S.sum 1 = RR := by
        have h1 := Rat.divInt_mul_right (n := S.sum) (d := 1) (a := (l.length : Int)) (by omega)
        rw [hRR.out, ← h1, Int.one_mul]
      rw [e1] at HM
      clear e1 hsb hsl
      have cc0 := Kc.out.cell (i := 0) (v := .string nm) rfl
      have cc1 := Kc.out.cell (i := 1) (v := .int .i64 lo) rfl
      have cc2 := Kc.out.cell (i := 2) (v := .int .i64 hi) rfl
      have cc3 := Kc.out.cell (i := 3) (v := .int .i64 st) rfl
      have cc4 := Kc.out.cell (i := 4) (v := .int .i64 1) rfl
      have cc5 := Kc.out.cell (i := 5) (v := .int .i64 0) rfl
      have cc6 := Kc.out.cell (i := 6) (v := .bool rv) rfl
      obtain ⟨cr0, cr1, cr2, cr3⟩ := bk4 Kr
      go_wp2_with fail
      refine HSm.out.mono ?_
      rintro e w2 ⟨rfl, rfl⟩
      have hsz := hx.size
      go_wp2_with fail
      with_reducible refine (HM.out).mono ?_
      clear cc0 cc1 cc2 cc3 cc4 cc5 cc6 cr0 cr1 cr2 cr3
      rintro e x4 ⟨v, rfl, hv, hy⟩
      replace hx := hx.trans hy
      replace Kc := kE Kc hy
      replace Kr := kE Kr hy
      clear hy
      obtain ⟨nv, av, qv, cv, bv, kv, dv, rfl, hv', hf', hg'⟩ := hv
      have Vv := Lib.hid hv'
      have Fv := Lib.hid (fun A hA => Nat.le_trans hsz (hf' A hA))
      have Gv := Lib.hid (fun A hA => Nat.le_trans hsz (hg' A hA))
      clear hv' hf' hg' hsz
      have cc0 := Kc.out.cell (i := 0) (v := .string nm) rfl
      have cc1 := Kc.out.cell (i := 1) (v := .int .i64 lo) rfl
      have cc2 := Kc.out.cell (i := 2) (v := .int .i64 hi) rfl
      have cc3 := Kc.out.cell (i := 3) (v := .int .i64 st) rfl
      have cc4 := Kc.out.cell (i := 4) (v := .int .i64 1) rfl
      have cc5 := Kc.out.cell (i := 5) (v := .int .i64 0) rfl
      have cc6 := Kc.out.cell (i := 6) (v := .bool rv) rfl
      obtain ⟨cr0, cr1, cr2, cr3⟩ := bk4 Kr
      obtain ⟨g0, z0, g1, z1, g2, z2, g3, z3⟩ := bp4 Kr (.bool nv) (.slice av qv cv) (.bool false) (.slice bv kv dv)
      go_wp2_with fail
      clear g0 z0 g1 z1 g2 z2 g3 z3
      clear cc0 cc1 cc2 cc3 cc4 cc5 cc6 cr0 cr1 cr2 cr3
      replace Vv := (by first | exact rv4 Vv Kr (.bool nv) (.slice av qv cv) (.bool false) (.slice bv kv dv) rfl rfl rfl rfl | exact bv4 Vv Kr (.bool nv) (.slice av qv cv) (.bool false) (.slice bv kv dv) rfl rfl rfl rfl)
      replace hx := bx4 hx (w.heap.size + 1) (.bool nv) (.slice av qv cv) (.bool false) (.slice bv kv dv) (by omega)
      replace Kc := bo4 Kc (w.heap.size + 1) (.bool nv) (.slice av qv cv) (.bool false) (.slice bv kv dv) (by omega)
      replace Kr := bs4 Kr (.bool nv) (.slice av qv cv) (.bool false) (.slice bv kv dv)
      generalize ((((x4).setCell ⟨w.heap.size + 1, 0, none⟩ (.bool nv)).setCell ⟨w.heap.size + 1, 1, none⟩ (.slice av qv cv)).setCell ⟨w.heap.size + 1, 2, none⟩ (.bool false)).setCell ⟨w.heap.size + 1, 3, none⟩ (.slice bv kv dv) = x5 at *
      obtain ⟨cr0, cr1, cr2, cr3⟩ := bk4 Kr
      refine bodyPost_ret (v := .tuple #[.agg #[.bool nv, .slice av qv cv, .bool false, .slice bv kv dv], .int .i64 0]) (by simp [results, Try.results25, go_sem, cr0, cr1, cr2, cr3]) rfl ?_
      exact ⟨_, rfl, ⟨_, _, _, _, _, _, _, rfl, Vv.out, Fv.out, Gv.out⟩, hx⟩
set_option maxHeartbeats 8000000 in
theorem ref16_Total_mean (c : CritA) (hc : c.In) (hr : rightC c = true) (a : Option Addr) (cap : Nat) (l : List Int) (w : World) (h : Ints w a cap l) (hl2 : l.length ≤ 256) (hh : c.how = 2) (hl : 2 * c.tr < (l.length : Int)) (hon : ∀ x ∈ l, onC c x = true) :
    Calls Try.prog 25 #[c.val, .slice a l.length cap] w (RatP (Rat.divInt ((((srtC c l).take (l.length - c.tr.toNat)).drop c.tr.toNat).sum * 1) ((l.length - c.tr.toNat - c.tr.toNat : Nat) : Int)) w) := by
  have hle := h.le
  have hmx := h.mx
  have hrr := rightC_iff.1 hr
  have HC := Lib.hid (ref16_Right c hc)
  rw [hr] at HC
  have HI := Lib.hid h
  have HRR := Lib.hid hrr
  have HOn := Lib.hid (fun m hm => ref16_On c hc hrr m hm)
  have HTn := Lib.hid (fun m hm => ref16_Turn c hc hrr m hm)
  have tr1 := hrr.tr
  have tr2 := hrr.tm
  obtain ⟨RR, hRR⟩ : ∃ RR, RR = Rat.divInt ((((srtC c l).take (l.length - c.tr.toNat)).drop c.tr.toNat).sum * 1) ((l.length - c.tr.toNat - c.tr.toNat : Nat) : Int) := ⟨_, rfl⟩
  rw [← hRR]
  rw [srtC_acc hon] at hRR
  replace hRR := Lib.hid hRR
  obtain ⟨tn, htn⟩ : ∃ tn : Nat, c.tr = (tn : Int) := ⟨c.tr.toNat, by omega⟩
  have htn2 : c.tr.toNat = tn := by omega
  rw [htn2] at hRR
  clear htn2
  obtain ⟨nm, lo, hi, st, how, tr, rv⟩ := c
  dsimp only [CritA.val, CritA.cells] at *

  subst hh
  subst htn
  clear h hrr hr hc
  obtain ⟨x1, hw, hx, Kc, Kr⟩ := boxQ2 w #[.string nm, .int .i64 lo, .int .i64 hi, .int .i64 st, .int .i64 2, .int .i64 (tn : Int), .bool rv] 48 #[.bool false, .slice none 0 0, .bool false, .slice none 0 0] 35
  replace hw := Lib.hid hw
  go_enter Try.func25, Try.ntmps25
  go_upto_region 1 with fail
  try simp only [Nat.add_assoc, Nat.reduceAdd, Nat.add_zero]
  rw [hw.out]
  clear hw
  have hs0 := hx.size
  have cc0 := Kc.out.cell (i := 0) (v := .string nm) rfl
  have cc1 := Kc.out.cell (i := 1) (v := .int .i64 lo) rfl
  have cc2 := Kc.out.cell (i := 2) (v := .int .i64 hi) rfl
  have cc3 := Kc.out.cell (i := 3) (v := .int .i64 st) rfl
  have cc4 := Kc.out.cell (i := 4) (v := .int .i64 2) rfl
  have cc5 := Kc.out.cell (i := 5) (v := .int .i64 (tn : Int)) rfl
  have cc6 := Kc.out.cell (i := 6) (v := .bool rv) rfl
  obtain ⟨cr0, cr1, cr2, cr3⟩ := bk4 Kr
  go_wp2_with fail
  with_reducible refine (HC.out _).mono ?_
  clear cc0 cc1 cc2 cc3 cc4 cc5 cc6 cr0 cr1 cr2 cr3
  rintro e x2 ⟨rfl, hy⟩
  replace hx := hx.trans hy
  replace Kc := kE Kc hy
  replace Kr := kE Kr hy
  clear hy
  clear HC
  have HON := Lib.hid hon
  clear hon
  have hl0 : 0 < l.length := by omega
  have t3 : decide ((l.length : Int) ≤ 2 * (tn : Int)) = false := decide_eq_false (by omega)
  have t1 : ((l.length : Int) == 0) = false := beq_false_of_ne (by omega)
  have t1n : ¬ l = [] := List.ne_nil_of_length_pos (by omega)
  have cc0 := Kc.out.cell (i := 0) (v := .string nm) rfl
  have cc1 := Kc.out.cell (i := 1) (v := .int .i64 lo) rfl
  have cc2 := Kc.out.cell (i := 2) (v := .int .i64 hi) rfl
  have cc3 := Kc.out.cell (i := 3) (v := .int .i64 st) rfl
  have cc4 := Kc.out.cell (i := 4) (v := .int .i64 2) rfl
  have cc5 := Kc.out.cell (i := 5) (v := .int .i64 (tn : Int)) rfl
  have cc6 := Kc.out.cell (i := 6) (v := .bool rv) rfl
  obtain ⟨cr0, cr1, cr2, cr3⟩ := bk4 Kr
  go_upto_region 9 with fail
  clear cc0 cc1 cc2 cc3 cc4 cc5 cc6 cr0 cr1 cr2 cr3
  have hgz : w.heap.size + 1 < Array.size (World.heap x2) := Kr.out.lt
  obtain ⟨hO, hE2⟩ := own_new (Ext.refl x2)
  clear hE2
  have hy := Ext.alloc x2 (.cells #[] 3)
  replace hx := hx.trans hy
  replace Kc := kE Kc hy
  replace Kr := kE Kr hy
  clear hy
  generalize World.alloc x2 (.cells #[] 3) = x3 at *
  generalize Array.size (World.heap x2) = g0 at *
  go_wp2_with fail
  have HX0 := Lib.hid hx
  have HKc := Kc
  have HKr := Kr
  go_loopw [7, 8] (fun v i wr => ∃ k : Nat, k ≤ l.length ∧ i = .int .i64 k ∧ (∀ j, j < k → ∀ x, l[j]? = some x → onC (⟨nm, lo, hi, st, 2, (tn : Int), rv⟩ : CritA) x = true) ∧ OwnI wr g0 v (accL (⟨nm, lo, hi, st, 2, (tn : Int), rv⟩ : CritA) l k) ∧ Ext x3 wr) (fun _ i _ => l.length - (intOf i).toNat)
  case atStart => exact ⟨0, Nat.zero_le _, rfl, fun j hj => absurd hj (Nat.not_lt_zero _), by simpa [accL] using hO, Ext.refl _⟩
  case round =>
    obtain ⟨k, hk, rfl, hall, hO2, hxr⟩ := hrel
    clear hO hx Kc Kr
    have hx := HX0.out.trans hxr
    have Kc := kE HKc hxr
    have Kr := kE HKr hxr
    have HA := Lib.hid hall
    obtain ⟨gl, cg, rfl, hIa, hgB⟩ := hO2.look (fun y hy => by have := mem_acc HRR.out HA.out y hy; omega)
    have HMA := Lib.hid (mem_acc HRR.out HA.out)
    have HO := Lib.hid hO2
    have HIa := Lib.hid hIa
    have HLen := Lib.hid (accL_len (⟨nm, lo, hi, st, 2, (tn : Int), rv⟩ : CritA) l hk)
    have g0k : (0 : Int) ≤ (k : Int) := by omega
    have hg0 : g0 ≤ Array.size (World.heap wr) := by have := (hO2.form).choose_spec; obtain ⟨_, _, _, h1, h2, _⟩ := hO2.form; omega
    clear hall hO2 hIa HX0 HKc HKr
    by_cases hlt : k < l.length
    · obtain ⟨b, o, rfl⟩ := HI.out.head hlt
      obtain ⟨x, hxk, hcx, hx1, hx2⟩ := Ints.get (HI.out.ext hx) hlt
      have HXK := Lib.hid hxk
      have HCX := Lib.hid hcx
      have g1 : (k : Int) < (l.length : Int) := by omega
      have hle3 := HIa.out.le
      have hmx3 := HIa.out.mx
      clear hxk
      generalize hL : accL (⟨nm, lo, hi, st, 2, (tn : Int), rv⟩ : CritA) l k = L at *
      replace hL := Lib.hid hL
      cases ho : onC (⟨nm, lo, hi, st, 2, (tn : Int), rv⟩ : CritA) x
      · have HO1 := Lib.hid (HOn.out x ⟨hx1, hx2⟩)
        rw [ho] at HO1
        have HOX := Lib.hid ho
        clear ho
        go_upto_region 12 with fail
        go_cut [45] (fun s wx => s = .bool true ∧ Ext wr wx)
        case first =>
          have hcx := HCX.out
          have s0 : World.cell? wr ⟨w.heap.size, 0, none⟩ = some (.string nm) := Kc.out.cell (i := 0) (v := .string nm) rfl
          have s1 : World.cell? wr ⟨w.heap.size, 1, none⟩ = some (.int .i64 lo) := Kc.out.cell (i := 1) (v := .int .i64 lo) rfl
          have s2 : World.cell? wr ⟨w.heap.size, 2, none⟩ = some (.int .i64 hi) := Kc.out.cell (i := 2) (v := .int .i64 hi) rfl
          have s3 : World.cell? wr ⟨w.heap.size, 3, none⟩ = some (.int .i64 st) := Kc.out.cell (i := 3) (v := .int .i64 st) rfl
          have s4 : World.cell? wr ⟨w.heap.size, 4, none⟩ = some (.int .i64 2) := Kc.out.cell (i := 4) (v := .int .i64 2) rfl
          have s5 : World.cell? wr ⟨w.heap.size, 5, none⟩ = some (.int .i64 (tn : Int)) := Kc.out.cell (i := 5) (v := .int .i64 (tn : Int)) rfl
          have s6 : World.cell? wr ⟨w.heap.size, 6, none⟩ = some (.bool rv) := Kc.out.cell (i := 6) (v := .bool rv) rfl
          have s7 : World.cell? wr ⟨b, o + k, none⟩ = some (.int .i64 x) := hcx
          have hE : Ext wr (World.drew wr) := (Ext.refl _).drew
          have hyd : Ext wr (World.drew wr) := (Ext.refl _).drew
          replace hx := hx.trans hyd
          replace Kc := kE Kc hyd
          replace Kr := kE Kr hyd
          clear hyd
          replace s0 : World.cell? (World.drew wr) ⟨w.heap.size, 0, none⟩ = some (.string nm) := s0
          replace s1 : World.cell? (World.drew wr) ⟨w.heap.size, 1, none⟩ = some (.int .i64 lo) := s1
          replace s2 : World.cell? (World.drew wr) ⟨w.heap.size, 2, none⟩ = some (.int .i64 hi) := s2
          replace s3 : World.cell? (World.drew wr) ⟨w.heap.size, 3, none⟩ = some (.int .i64 st) := s3
          replace s4 : World.cell? (World.drew wr) ⟨w.heap.size, 4, none⟩ = some (.int .i64 2) := s4
          replace s5 : World.cell? (World.drew wr) ⟨w.heap.size, 5, none⟩ = some (.int .i64 (tn : Int)) := s5
          replace s6 : World.cell? (World.drew wr) ⟨w.heap.size, 6, none⟩ = some (.bool rv) := s6
          replace s7 : World.cell? (World.drew wr) ⟨b, o + k, none⟩ = some (.int .i64 x) := s7
          refine wp_region_held_drew (S := (fun w' => World.cell? w' ⟨w.heap.size, 0, none⟩ = some (.string nm) ∧ World.cell? w' ⟨w.heap.size, 1, none⟩ = some (.int .i64 lo) ∧ World.cell? w' ⟨w.heap.size, 2, none⟩ = some (.int .i64 hi) ∧ World.cell? w' ⟨w.heap.size, 3, none⟩ = some (.int .i64 st) ∧ World.cell? w' ⟨w.heap.size, 4, none⟩ = some (.int .i64 2) ∧ World.cell? w' ⟨w.heap.size, 5, none⟩ = some (.int .i64 (tn : Int)) ∧ World.cell? w' ⟨w.heap.size, 6, none⟩ = some (.bool rv) ∧ World.cell? w' ⟨b, o + k, none⟩ = some (.int .i64 x))) (by kernel_rfl) ?_ (fun hHeld => ?_)
          · exact ⟨s0, s1, s2, s3, s4, s5, s6, s7⟩
          (try simp only [← List.toArray_replicate, List.size_toArray, List.length_cons, List.length_nil, Nat.reduceAdd, List.replicate_succ, List.replicate_zero])
          generalize World.drew wr = x4 at *
          refine wpAnyH_take (i := 0) (oi := _) (v := ?_) rfl (by kernel_rfl) (by kernel_rfl) (by kernel_rfl) (fun _ _ _ h => h) (Or.inl ⟨by rfl, ?_⟩) (by assumption) ?_
          rotate_left
          · (intro w hSw; (try dsimp only at hSw); (try go_simp); (try with_reducible rfl))
          (try simp only [Act.put, List.getElem_toArray, List.getElem_cons_succ, List.getElem_cons_zero, List.setIfInBounds_toArray, List.set_cons_zero, List.set_cons_succ])
          refine wpAnyH_take (i := 1) (oi := _) (v := ?_) rfl (by kernel_rfl) (by kernel_rfl) (by kernel_rfl) (fun _ _ _ h => h) (Or.inl ⟨by rfl, ?_⟩) (by assumption) ?_
          rotate_left
          · (intro w hSw; (try dsimp only at hSw); (try go_simp); (try with_reducible rfl))
          (try simp only [Act.put, List.getElem_toArray, List.getElem_cons_succ, List.getElem_cons_zero, List.setIfInBounds_toArray, List.set_cons_zero, List.set_cons_succ])
          refine wpAnyH_take (i := 2) (oi := _) (v := ?_) rfl (by kernel_rfl) (by kernel_rfl) (by kernel_rfl) (fun _ _ _ h => h) (Or.inl ⟨by rfl, ?_⟩) (by assumption) ?_
          rotate_left
          · (intro w hSw; (try dsimp only at hSw); (try go_simp); (try with_reducible rfl))
          (try simp only [Act.put, List.getElem_toArray, List.getElem_cons_succ, List.getElem_cons_zero, List.setIfInBounds_toArray, List.set_cons_zero, List.set_cons_succ])
          refine wpAnyH_take (i := 3) (oi := _) (v := ?_) rfl (by kernel_rfl) (by kernel_rfl) (by kernel_rfl) (fun _ _ _ h => h) (Or.inl ⟨by rfl, ?_⟩) (by assumption) ?_
          rotate_left
          · (intro w hSw; (try dsimp only at hSw); (try go_simp); (try with_reducible rfl))
          (try simp only [Act.put, List.getElem_toArray, List.getElem_cons_succ, List.getElem_cons_zero, List.setIfInBounds_toArray, List.set_cons_zero, List.set_cons_succ])
          refine wpAnyH_take (i := 4) (oi := _) (v := ?_) rfl (by kernel_rfl) (by kernel_rfl) (by kernel_rfl) (fun _ _ _ h => h) (Or.inl ⟨by rfl, ?_⟩) (by assumption) ?_
          rotate_left
          · (intro w hSw; (try dsimp only at hSw); (try go_simp); (try with_reducible rfl))
          (try simp only [Act.put, List.getElem_toArray, List.getElem_cons_succ, List.getElem_cons_zero, List.setIfInBounds_toArray, List.set_cons_zero, List.set_cons_succ])
          refine wpAnyH_ready (rs := [5]) (by kernel_rfl) (by simp) ?_
          refine AllReadyH.cons (o := _) rfl (fun K hK => ?_) ?_
          · go_simp
            (with_reducible refine (HO1.out _).mono ?_); rintro e x5 ⟨rfl, hy⟩; replace hE := hE.trans hy; replace hx := hx.trans hy; replace s0 := cell_exQ hy s0; replace s1 := cell_exQ hy s1; replace s2 := cell_exQ hy s2; replace s3 := cell_exQ hy s3; replace s4 := cell_exQ hy s4; replace s5 := cell_exQ hy s5; replace s6 := cell_exQ hy s6; replace s7 := cell_exQ hy s7; replace Kc := kE Kc hy; replace Kr := kE Kr hy; clear hy
            refine hK.out _ _ ?_ (fun hHeld2 => ?_)
            · exact ⟨s0, s1, s2, s3, s4, s5, s6, s7⟩
            clear hK K hHeld
            have hHeld := hHeld2
            clear hHeld2
            (try simp only [Act.put, List.getElem_toArray, List.getElem_cons_succ, List.getElem_cons_zero, List.setIfInBounds_toArray, List.set_cons_zero, List.set_cons_succ])
            refine wpAnyH_take (i := 6) (oi := _) (v := ?_) rfl (by kernel_rfl) (by kernel_rfl) (by kernel_rfl) (fun _ _ _ h => h) (Or.inl ⟨by rfl, ?_⟩) (by assumption) ?_
            rotate_left
            · (intro w hSw; (try dsimp only at hSw); (try go_simp); (try with_reducible rfl))
            (try simp only [Act.put, List.getElem_toArray, List.getElem_cons_succ, List.getElem_cons_zero, List.setIfInBounds_toArray, List.set_cons_zero, List.set_cons_succ])
            refine wpAnyH_done (by kernel_rfl) ?_ _
            go_wp2_with fail
            go_meet
            exact ⟨rfl, hE⟩
          exact AllReadyH.nil
        case rest =>
        obtain ⟨rfl, hy⟩ := hcut
        have HXR := Lib.hid (hxr.trans hy)
        have hcx := cell_exQ hy HCX.out
        have HO3 := Lib.hid (HO.out.ext hy)
        have HIa3 := Lib.hid (HIa.out.ext hy)
        have hg1 := hy.size
        replace hx := hx.trans hy
        replace Kc := kE Kc hy
        replace Kr := kE Kr hy
        clear hy
        exact absurd HOX.out (by rw [HON.out x (List.mem_of_getElem? HXK.out)]; decide)
      · have HO1 := Lib.hid (HOn.out x ⟨hx1, hx2⟩)
        rw [ho] at HO1
        have HOX := Lib.hid ho
        clear ho
        go_upto_region 12 with fail
        go_cut [45] (fun s wx => s = .bool false ∧ Ext wr wx)
        case first =>
          have hcx := HCX.out
          have s0 : World.cell? wr ⟨w.heap.size, 0, none⟩ = some (.string nm) := Kc.out.cell (i := 0) (v := .string nm) rfl
          have s1 : World.cell? wr ⟨w.heap.size, 1, none⟩ = some (.int .i64 lo) := Kc.out.cell (i := 1) (v := .int .i64 lo) rfl
          have s2 : World.cell? wr ⟨w.heap.size, 2, none⟩ = some (.int .i64 hi) := Kc.out.cell (i := 2) (v := .int .i64 hi) rfl
          have s3 : World.cell? wr ⟨w.heap.size, 3, none⟩ = some (.int .i64 st) := Kc.out.cell (i := 3) (v := .int .i64 st) rfl
          have s4 : World.cell? wr ⟨w.heap.size, 4, none⟩ = some (.int .i64 2) := Kc.out.cell (i := 4) (v := .int .i64 2) rfl
          have s5 : World.cell? wr ⟨w.heap.size, 5, none⟩ = some (.int .i64 (tn : Int)) := Kc.out.cell (i := 5) (v := .int .i64 (tn : Int)) rfl
          have s6 : World.cell? wr ⟨w.heap.size, 6, none⟩ = some (.bool rv) := Kc.out.cell (i := 6) (v := .bool rv) rfl
          have s7 : World.cell? wr ⟨b, o + k, none⟩ = some (.int .i64 x) := hcx
          have hE : Ext wr (World.drew wr) := (Ext.refl _).drew
          have hyd : Ext wr (World.drew wr) := (Ext.refl _).drew
          replace hx := hx.trans hyd
          replace Kc := kE Kc hyd
          replace Kr := kE Kr hyd
          clear hyd
          replace s0 : World.cell? (World.drew wr) ⟨w.heap.size, 0, none⟩ = some (.string nm) := s0
          replace s1 : World.cell? (World.drew wr) ⟨w.heap.size, 1, none⟩ = some (.int .i64 lo) := s1
          replace s2 : World.cell? (World.drew wr) ⟨w.heap.size, 2, none⟩ = some (.int .i64 hi) := s2
          replace s3 : World.cell? (World.drew wr) ⟨w.heap.size, 3, none⟩ = some (.int .i64 st) := s3
          replace s4 : World.cell? (World.drew wr) ⟨w.heap.size, 4, none⟩ = some (.int .i64 2) := s4
          replace s5 : World.cell? (World.drew wr) ⟨w.heap.size, 5, none⟩ = some (.int .i64 (tn : Int)) := s5
          replace s6 : World.cell? (World.drew wr) ⟨w.heap.size, 6, none⟩ = some (.bool rv) := s6
          replace s7 : World.cell? (World.drew wr) ⟨b, o + k, none⟩ = some (.int .i64 x) := s7
          refine wp_region_held_drew (S := (fun w' => World.cell? w' ⟨w.heap.size, 0, none⟩ = some (.string nm) ∧ World.cell? w' ⟨w.heap.size, 1, none⟩ = some (.int .i64 lo) ∧ World.cell? w' ⟨w.heap.size, 2, none⟩ = some (.int .i64 hi) ∧ World.cell? w' ⟨w.heap.size, 3, none⟩ = some (.int .i64 st) ∧ World.cell? w' ⟨w.heap.size, 4, none⟩ = some (.int .i64 2) ∧ World.cell? w' ⟨w.heap.size, 5, none⟩ = some (.int .i64 (tn : Int)) ∧ World.cell? w' ⟨w.heap.size, 6, none⟩ = some (.bool rv) ∧ World.cell? w' ⟨b, o + k, none⟩ = some (.int .i64 x))) (by kernel_rfl) ?_ (fun hHeld => ?_)
          · exact ⟨s0, s1, s2, s3, s4, s5, s6, s7⟩
          (try simp only [← List.toArray_replicate, List.size_toArray, List.length_cons, List.length_nil, Nat.reduceAdd, List.replicate_succ, List.replicate_zero])
          generalize World.drew wr = x4 at *
          refine wpAnyH_take (i := 0) (oi := _) (v := ?_) rfl (by kernel_rfl) (by kernel_rfl) (by kernel_rfl) (fun _ _ _ h => h) (Or.inl ⟨by rfl, ?_⟩) (by assumption) ?_
          rotate_left
          · (intro w hSw; (try dsimp only at hSw); (try go_simp); (try with_reducible rfl))
          (try simp only [Act.put, List.getElem_toArray, List.getElem_cons_succ, List.getElem_cons_zero, List.setIfInBounds_toArray, List.set_cons_zero, List.set_cons_succ])
          refine wpAnyH_take (i := 1) (oi := _) (v := ?_) rfl (by kernel_rfl) (by kernel_rfl) (by kernel_rfl) (fun _ _ _ h => h) (Or.inl ⟨by rfl, ?_⟩) (by assumption) ?_
          rotate_left
          · (intro w hSw; (try dsimp only at hSw); (try go_simp); (try with_reducible rfl))
          (try simp only [Act.put, List.getElem_toArray, List.getElem_cons_succ, List.getElem_cons_zero, List.setIfInBounds_toArray, List.set_cons_zero, List.set_cons_succ])
          refine wpAnyH_take (i := 2) (oi := _) (v := ?_) rfl (by kernel_rfl) (by kernel_rfl) (by kernel_rfl) (fun _ _ _ h => h) (Or.inl ⟨by rfl, ?_⟩) (by assumption) ?_
          rotate_left
          · (intro w hSw; (try dsimp only at hSw); (try go_simp); (try with_reducible rfl))
          (try simp only [Act.put, List.getElem_toArray, List.getElem_cons_succ, List.getElem_cons_zero, List.setIfInBounds_toArray, List.set_cons_zero, List.set_cons_succ])
          refine wpAnyH_take (i := 3) (oi := _) (v := ?_) rfl (by kernel_rfl) (by kernel_rfl) (by kernel_rfl) (fun _ _ _ h => h) (Or.inl ⟨by rfl, ?_⟩) (by assumption) ?_
          rotate_left
          · (intro w hSw; (try dsimp only at hSw); (try go_simp); (try with_reducible rfl))
          (try simp only [Act.put, List.getElem_toArray, List.getElem_cons_succ, List.getElem_cons_zero, List.setIfInBounds_toArray, List.set_cons_zero, List.set_cons_succ])
          refine wpAnyH_take (i := 4) (oi := _) (v := ?_) rfl (by kernel_rfl) (by kernel_rfl) (by kernel_rfl) (fun _ _ _ h => h) (Or.inl ⟨by rfl, ?_⟩) (by assumption) ?_
          rotate_left
          · (intro w hSw; (try dsimp only at hSw); (try go_simp); (try with_reducible rfl))
          (try simp only [Act.put, List.getElem_toArray, List.getElem_cons_succ, List.getElem_cons_zero, List.setIfInBounds_toArray, List.set_cons_zero, List.set_cons_succ])
          refine wpAnyH_ready (rs := [5]) (by kernel_rfl) (by simp) ?_
          refine AllReadyH.cons (o := _) rfl (fun K hK => ?_) ?_
          · go_simp
            (with_reducible refine (HO1.out _).mono ?_); rintro e x5 ⟨rfl, hy⟩; replace hE := hE.trans hy; replace hx := hx.trans hy; replace s0 := cell_exQ hy s0; replace s1 := cell_exQ hy s1; replace s2 := cell_exQ hy s2; replace s3 := cell_exQ hy s3; replace s4 := cell_exQ hy s4; replace s5 := cell_exQ hy s5; replace s6 := cell_exQ hy s6; replace s7 := cell_exQ hy s7; replace Kc := kE Kc hy; replace Kr := kE Kr hy; clear hy
            refine hK.out _ _ ?_ (fun hHeld2 => ?_)
            · exact ⟨s0, s1, s2, s3, s4, s5, s6, s7⟩
            clear hK K hHeld
            have hHeld := hHeld2
            clear hHeld2
            (try simp only [Act.put, List.getElem_toArray, List.getElem_cons_succ, List.getElem_cons_zero, List.setIfInBounds_toArray, List.set_cons_zero, List.set_cons_succ])
            refine wpAnyH_take (i := 6) (oi := _) (v := ?_) rfl (by kernel_rfl) (by kernel_rfl) (by kernel_rfl) (fun _ _ _ h => h) (Or.inl ⟨by rfl, ?_⟩) (by assumption) ?_
            rotate_left
            · (intro w hSw; (try dsimp only at hSw); (try go_simp); (try with_reducible rfl))
            (try simp only [Act.put, List.getElem_toArray, List.getElem_cons_succ, List.getElem_cons_zero, List.setIfInBounds_toArray, List.set_cons_zero, List.set_cons_succ])
            refine wpAnyH_done (by kernel_rfl) ?_ _
            go_wp2_with fail
            go_meet
            exact ⟨rfl, hE⟩
          exact AllReadyH.nil
        case rest =>
        obtain ⟨rfl, hy⟩ := hcut
        have HXR := Lib.hid (hxr.trans hy)
        have hcx := cell_exQ hy HCX.out
        have HO3 := Lib.hid (HO.out.ext hy)
        have HIa3 := Lib.hid (HIa.out.ext hy)
        have hg1 := hy.size
        replace hx := hx.trans hy
        replace Kc := kE Kc hy
        replace Kr := kE Kr hy
        clear hy
        have HT1 := Lib.hid (HTn.out x HOX.out)
        have HTB := Lib.hid (turn_bd HRR.out HOX.out)
        have HAC := Lib.hid ((accL_succ (c := (⟨nm, lo, hi, st, 2, (tn : Int), rv⟩ : CritA)) HXK.out).trans (by rw [hL.out]))
        generalize turnC (⟨nm, lo, hi, st, 2, (tn : Int), rv⟩ : CritA) x = y at *
        have HALL := Lib.hid (show ∀ j, j < k + 1 → ∀ u, l[j]? = some u → onC (⟨nm, lo, hi, st, 2, (tn : Int), rv⟩ : CritA) u = true from fun j hj u hu => by
          by_cases hjk : j < k
          · exact HA.out j hjk u hu
          · obtain rfl : j = k := by omega
            rw [HXK.out] at hu
            cases hu
            exact HOX.out)
        go_upto_region 14 with fail
        have s0 : World.cell? wc ⟨w.heap.size, 0, none⟩ = some (.string nm) := Kc.out.cell (i := 0) (v := .string nm) rfl
        have s1 : World.cell? wc ⟨w.heap.size, 1, none⟩ = some (.int .i64 lo) := Kc.out.cell (i := 1) (v := .int .i64 lo) rfl
        have s2 : World.cell? wc ⟨w.heap.size, 2, none⟩ = some (.int .i64 hi) := Kc.out.cell (i := 2) (v := .int .i64 hi) rfl
        have s3 : World.cell? wc ⟨w.heap.size, 3, none⟩ = some (.int .i64 st) := Kc.out.cell (i := 3) (v := .int .i64 st) rfl
        have s4 : World.cell? wc ⟨w.heap.size, 4, none⟩ = some (.int .i64 2) := Kc.out.cell (i := 4) (v := .int .i64 2) rfl
        have s5 : World.cell? wc ⟨w.heap.size, 5, none⟩ = some (.int .i64 (tn : Int)) := Kc.out.cell (i := 5) (v := .int .i64 (tn : Int)) rfl
        have s6 : World.cell? wc ⟨w.heap.size, 6, none⟩ = some (.bool rv) := Kc.out.cell (i := 6) (v := .bool rv) rfl
        have s7 : World.cell? wc ⟨b, o + k, none⟩ = some (.int .i64 x) := hcx
        have hE : Ext wc (World.drew wc) := (Ext.refl _).drew
        have hyd : Ext wc (World.drew wc) := (Ext.refl _).drew
        replace hx := hx.trans hyd
        replace Kc := kE Kc hyd
        replace Kr := kE Kr hyd
        clear hyd
        replace s0 : World.cell? (World.drew wc) ⟨w.heap.size, 0, none⟩ = some (.string nm) := s0
        replace s1 : World.cell? (World.drew wc) ⟨w.heap.size, 1, none⟩ = some (.int .i64 lo) := s1
        replace s2 : World.cell? (World.drew wc) ⟨w.heap.size, 2, none⟩ = some (.int .i64 hi) := s2
        replace s3 : World.cell? (World.drew wc) ⟨w.heap.size, 3, none⟩ = some (.int .i64 st) := s3
        replace s4 : World.cell? (World.drew wc) ⟨w.heap.size, 4, none⟩ = some (.int .i64 2) := s4
        replace s5 : World.cell? (World.drew wc) ⟨w.heap.size, 5, none⟩ = some (.int .i64 (tn : Int)) := s5
        replace s6 : World.cell? (World.drew wc) ⟨w.heap.size, 6, none⟩ = some (.bool rv) := s6
        replace s7 : World.cell? (World.drew wc) ⟨b, o + k, none⟩ = some (.int .i64 x) := s7
        refine wp_region_held_drew (S := (fun w' => World.cell? w' ⟨w.heap.size, 0, none⟩ = some (.string nm) ∧ World.cell? w' ⟨w.heap.size, 1, none⟩ = some (.int .i64 lo) ∧ World.cell? w' ⟨w.heap.size, 2, none⟩ = some (.int .i64 hi) ∧ World.cell? w' ⟨w.heap.size, 3, none⟩ = some (.int .i64 st) ∧ World.cell? w' ⟨w.heap.size, 4, none⟩ = some (.int .i64 2) ∧ World.cell? w' ⟨w.heap.size, 5, none⟩ = some (.int .i64 (tn : Int)) ∧ World.cell? w' ⟨w.heap.size, 6, none⟩ = some (.bool rv) ∧ World.cell? w' ⟨b, o + k, none⟩ = some (.int .i64 x))) (by kernel_rfl) ?_ (fun hHeld => ?_)
        · exact ⟨s0, s1, s2, s3, s4, s5, s6, s7⟩
        (try simp only [← List.toArray_replicate, List.size_toArray, List.length_cons, List.length_nil, Nat.reduceAdd, List.replicate_succ, List.replicate_zero])
        generalize World.drew wc = x6 at *
        refine wpAnyH_take (i := 0) (oi := _) (v := ?_) rfl (by kernel_rfl) (by kernel_rfl) (by kernel_rfl) (fun _ _ _ h => h) (Or.inl ⟨by rfl, ?_⟩) (by assumption) ?_
        rotate_left
        · (intro w hSw; (try dsimp only at hSw); (try go_simp); (try with_reducible rfl))
        (try simp only [Act.put, List.getElem_toArray, List.getElem_cons_succ, List.getElem_cons_zero, List.setIfInBounds_toArray, List.set_cons_zero, List.set_cons_succ])
        refine wpAnyH_take (i := 1) (oi := _) (v := ?_) rfl (by kernel_rfl) (by kernel_rfl) (by kernel_rfl) (fun _ _ _ h => h) (Or.inl ⟨by rfl, ?_⟩) (by assumption) ?_
        rotate_left
        · (intro w hSw; (try dsimp only at hSw); (try go_simp); (try with_reducible rfl))
        (try simp only [Act.put, List.getElem_toArray, List.getElem_cons_succ, List.getElem_cons_zero, List.setIfInBounds_toArray, List.set_cons_zero, List.set_cons_succ])
        refine wpAnyH_take (i := 2) (oi := _) (v := ?_) rfl (by kernel_rfl) (by kernel_rfl) (by kernel_rfl) (fun _ _ _ h => h) (Or.inl ⟨by rfl, ?_⟩) (by assumption) ?_
        rotate_left
        · (intro w hSw; (try dsimp only at hSw); (try go_simp); (try with_reducible rfl))
        (try simp only [Act.put, List.getElem_toArray, List.getElem_cons_succ, List.getElem_cons_zero, List.setIfInBounds_toArray, List.set_cons_zero, List.set_cons_succ])
        refine wpAnyH_take (i := 3) (oi := _) (v := ?_) rfl (by kernel_rfl) (by kernel_rfl) (by kernel_rfl) (fun _ _ _ h => h) (Or.inl ⟨by rfl, ?_⟩) (by assumption) ?_
        rotate_left
        · (intro w hSw; (try dsimp only at hSw); (try go_simp); (try with_reducible rfl))
        (try simp only [Act.put, List.getElem_toArray, List.getElem_cons_succ, List.getElem_cons_zero, List.setIfInBounds_toArray, List.set_cons_zero, List.set_cons_succ])
        refine wpAnyH_take (i := 4) (oi := _) (v := ?_) rfl (by kernel_rfl) (by kernel_rfl) (by kernel_rfl) (fun _ _ _ h => h) (Or.inl ⟨by rfl, ?_⟩) (by assumption) ?_
        rotate_left
        · (intro w hSw; (try dsimp only at hSw); (try go_simp); (try with_reducible rfl))
        (try simp only [Act.put, List.getElem_toArray, List.getElem_cons_succ, List.getElem_cons_zero, List.setIfInBounds_toArray, List.set_cons_zero, List.set_cons_succ])
        refine wpAnyH_take (i := 5) (oi := _) (v := ?_) rfl (by kernel_rfl) (by kernel_rfl) (by kernel_rfl) (fun _ _ _ h => h) (Or.inl ⟨by rfl, ?_⟩) (by assumption) ?_
        rotate_left
        · (intro w hSw; (try dsimp only at hSw); (try go_simp); (try with_reducible rfl))
        (try simp only [Act.put, List.getElem_toArray, List.getElem_cons_succ, List.getElem_cons_zero, List.setIfInBounds_toArray, List.set_cons_zero, List.set_cons_succ])
        refine wpAnyH_ready (rs := [6]) (by kernel_rfl) (by simp) ?_
        refine AllReadyH.cons (o := _) rfl (fun K hK => ?_) ?_
        · go_simp
          (with_reducible refine (HT1.out _).mono ?_); rintro e x7 ⟨rfl, hy⟩; replace hE := hE.trans hy; replace hx := hx.trans hy; replace s0 := cell_exQ hy s0; replace s1 := cell_exQ hy s1; replace s2 := cell_exQ hy s2; replace s3 := cell_exQ hy s3; replace s4 := cell_exQ hy s4; replace s5 := cell_exQ hy s5; replace s6 := cell_exQ hy s6; replace s7 := cell_exQ hy s7; replace Kc := kE Kc hy; replace Kr := kE Kr hy; clear hy; have hzb := hE.size
          refine hK.out _ _ ?_ (fun hHeld2 => ?_)
          · exact ⟨s0, s1, s2, s3, s4, s5, s6, s7⟩
          clear hK K hHeld
          have hHeld := hHeld2
          clear hHeld2
          (try simp only [Act.put, List.getElem_toArray, List.getElem_cons_succ, List.getElem_cons_zero, List.setIfInBounds_toArray, List.set_cons_zero, List.set_cons_succ])
          refine wpAnyH_ready (rs := [7]) (by kernel_rfl) (by simp) ?_
          refine AllReadyH.cons (o := _) rfl (fun K hK => ?_) ?_
          · go_simp
            (with_reducible refine (ref16_put gl 0 cg L y _ (HIa3.out.ext hE) (by have := HLen.out; omega) (by have := HTB.out; omega)).mono ?_); rintro e x8 ⟨v, rfl, hv, hy⟩; replace hE := hE.trans hy; replace hx := hx.trans hy; replace s0 := cell_exQ hy s0; replace s1 := cell_exQ hy s1; replace s2 := cell_exQ hy s2; replace s3 := cell_exQ hy s3; replace s4 := cell_exQ hy s4; replace s5 := cell_exQ hy s5; replace s6 := cell_exQ hy s6; replace s7 := cell_exQ hy s7; replace Kc := kE Kc hy; replace Kr := kE Kr hy; clear hy; have HNO := Lib.hid (hv.lowB (B' := g0) (by omega)); clear hv
            refine hK.out _ _ ?_ (fun hHeld2 => ?_)
            · exact ⟨s0, s1, s2, s3, s4, s5, s6, s7⟩
            clear hK K hHeld
            have hHeld := hHeld2
            clear hHeld2
            (try simp only [Act.put, List.getElem_toArray, List.getElem_cons_succ, List.getElem_cons_zero, List.setIfInBounds_toArray, List.set_cons_zero, List.set_cons_succ])
            refine wpAnyH_take (i := 8) (oi := _) (v := ?_) rfl (by kernel_rfl) (by kernel_rfl) (by kernel_rfl) (fun _ _ _ h => h) (Or.inl ⟨by rfl, ?_⟩) (by assumption) ?_
            rotate_left
            · (intro w hSw; (try dsimp only at hSw); (try go_simp); (try with_reducible rfl))
            (try simp only [Act.put, List.getElem_toArray, List.getElem_cons_succ, List.getElem_cons_zero, List.setIfInBounds_toArray, List.set_cons_zero, List.set_cons_succ])
            refine wpAnyH_done (by kernel_rfl) ?_ _
            go_wp2_with fail
            go_roundw
            case rel => exact ⟨k + 1, by omega, by go_num, HALL.out, by rw [HAC.out]; exact HNO.out, HXR.out.trans hE⟩
            case measure => simp [intOf]; omega
          exact AllReadyH.nil
        exact AllReadyH.nil
    · obtain rfl : k = l.length := by omega
      generalize hS : accL (⟨nm, lo, hi, st, 2, (tn : Int), rv⟩ : CritA) l l.length = S at *
      clear hS hlt HA HON HOn HTn HO g0k
      have hSb := HMA.out
      have hSl := HLen.out
      replace hSl := Lib.hid hSl
      replace hSb := Lib.hid hSb
      have hle3 := HIa.out.le
      have hmx3 := HIa.out.mx
      clear HMA HLen
      have hsl := hSl.out
      have f1 : (0 : Int) ≤ (tn : Int) := by omega
      have f2 : (tn : Int) ≤ (l.length : Int) - (tn : Int) := by omega
      have f3 : (l.length : Int) - (tn : Int) ≤ (cg : Int) := by omega
      have f4 : ¬ cg = tn := by omega
      have f5 : ((l.length : Int) - (tn : Int)).toNat = l.length - tn := by omega
      have f6 : tn ≤ l.length - tn := by omega
      have f7 : l.length - tn ≤ cg := by omega
      have w1 : IntKind.i64.wrap ((l.length : Int) - (tn : Int)) = (l.length : Int) - (tn : Int) := IntWalk.i64_in _ (by omega)
      have w2 : IntKind.i64.wrap (2 * (tn : Int)) = 2 * (tn : Int) := IntWalk.i64_in _ (by omega)
      have w3 : IntKind.i64.wrap ((l.length : Int) - 2 * (tn : Int)) = (l.length : Int) - 2 * (tn : Int) := IntWalk.i64_in _ (by omega)
      have hw := window_len (S := S) (lo := tn) (hi := l.length - tn) (by omega) (by omega)
      have hwm := window_mem (S := S) (lo := tn) (hi := l.length - tn) hSb.out
      have hsb := sum_le hwm
      rw [hw] at hsb
      have HSm := Lib.hid (fun W (hW : Ext wr W) => show Calls Try.prog 62 #[.slice (some ⟨gl, 0 + tn, none⟩) (l.length - tn - tn) (cg - tn)] W (fun e w' => e = .returned (.int .i64 ((S.take (l.length - tn)).drop tn).sum) ∧ Ext W w') from by rw [← hw]; exact (ref16_sum (some ⟨gl, 0 + tn, none⟩) (cg - tn) ((S.take (l.length - tn)).drop tn) W ((HIa.out.ext hW).window (by omega) (by omega) (by omega) (by omega)) (by omega) hwm).mono fun _ _ h => ⟨h.1, h.2 ▸ Ext.refl _⟩)
      rw [Nat.zero_add] at HSm
      have HM := Lib.hid (fun W => rMakeR (((S.take (l.length - tn)).drop tn).sum) ((l.length : Int) - 2 * (tn : Int)) W (by omega) (by omega) (by omega))
      have e1 : Rat.divInt (((S.take (l.length - tn)).drop tn).sum) ((l.length : Int) - 2 * (tn : Int)) = RR := by
        rw [hRR.out, Int.mul_one]
        congr 1
        omega
      rw [e1] at HM
      generalize (((S.take (l.length - tn)).drop tn).sum) = sm at *
      clear e1 hsb hw hwm
      replace hsl := Lib.hid hsl
      have cc0 := Kc.out.cell (i := 0) (v := .string nm) rfl
      have cc1 := Kc.out.cell (i := 1) (v := .int .i64 lo) rfl
      have cc2 := Kc.out.cell (i := 2) (v := .int .i64 hi) rfl
      have cc3 := Kc.out.cell (i := 3) (v := .int .i64 st) rfl
      have cc4 := Kc.out.cell (i := 4) (v := .int .i64 2) rfl
      have cc5 := Kc.out.cell (i := 5) (v := .int .i64 (tn : Int)) rfl
      have cc6 := Kc.out.cell (i := 6) (v := .bool rv) rfl
      go_upto_region 19 with fail
      clear cc0 cc1 cc2 cc3 cc4 cc5 cc6
      have s0 : World.cell? wr ⟨w.heap.size, 5, none⟩ = some (.int .i64 (tn : Int)) := Kc.out.cell (i := 5) rfl
      have hE : Ext wr (World.drew wr) := (Ext.refl _).drew
      have hyd : Ext wr (World.drew wr) := (Ext.refl _).drew
      replace hx := hx.trans hyd
      replace Kc := kE Kc hyd
      replace Kr := kE Kr hyd
      clear hyd
      replace s0 : World.cell? (World.drew wr) ⟨w.heap.size, 5, none⟩ = some (.int .i64 (tn : Int)) := s0
      refine wp_region_held_drew (S := (fun w' => World.cell? w' ⟨w.heap.size, 5, none⟩ = some (.int .i64 (tn : Int)))) (by kernel_rfl) ?_ (fun hHeld => ?_)
      · exact s0
      (try simp only [← List.toArray_replicate, List.size_toArray, List.length_cons, List.length_nil, Nat.reduceAdd, List.replicate_succ, List.replicate_zero])
      generalize World.drew wr = x4 at *
      refine wpAnyH_take (i := 0) (oi := _) (v := ?_) rfl (by kernel_rfl) (by kernel_rfl) (by kernel_rfl) (fun _ _ _ h => h) (Or.inl ⟨by rfl, ?_⟩) (by assumption) ?_
      rotate_left
      · (intro w hSw; (try dsimp only at hSw); (try go_simp); (try with_reducible rfl))
      (try simp only [Act.put, List.getElem_toArray, List.getElem_cons_succ, List.getElem_cons_zero, List.setIfInBounds_toArray, List.set_cons_zero, List.set_cons_succ])
      refine wpAnyH_take (i := 1) (oi := _) (v := ?_) rfl (by kernel_rfl) (by kernel_rfl) (by kernel_rfl) (fun _ _ _ h => h) (Or.inl ⟨by rfl, ?_⟩) (by assumption) ?_
      rotate_left
      · (intro w hSw; (try dsimp only at hSw); (try go_simp); (try with_reducible rfl))
      (try simp only [Act.put, List.getElem_toArray, List.getElem_cons_succ, List.getElem_cons_zero, List.setIfInBounds_toArray, List.set_cons_zero, List.set_cons_succ])
      refine wpAnyH_take (i := 2) (oi := _) (v := ?_) rfl (by kernel_rfl) (by kernel_rfl) (by kernel_rfl) (fun _ _ _ h => h) (Or.inl ⟨by rfl, ?_⟩) (by assumption) ?_
      rotate_left
      · (intro w hSw; (try dsimp only at hSw); (try go_simp); (try with_reducible rfl))
      (try simp only [Act.put, List.getElem_toArray, List.getElem_cons_succ, List.getElem_cons_zero, List.setIfInBounds_toArray, List.set_cons_zero, List.set_cons_succ])
      refine wpAnyH_take (i := 3) (oi := _) (v := ?_) rfl (by kernel_rfl) (by kernel_rfl) (by kernel_rfl) (fun _ _ _ h => h) (Or.inl ⟨by rfl, ?_⟩) (by assumption) ?_
      rotate_left
      · (intro w hSw; (try dsimp only at hSw); (try go_simp); (try with_reducible rfl))
      (try simp only [Act.put, List.getElem_toArray, List.getElem_cons_succ, List.getElem_cons_zero, List.setIfInBounds_toArray, List.set_cons_zero, List.set_cons_succ])
      refine wpAnyH_take (i := 4) (oi := _) (v := ?_) rfl (by kernel_rfl) (by kernel_rfl) (by kernel_rfl) (fun _ _ _ h => h) (Or.inl ⟨by rfl, ?_⟩) (by assumption) ?_
      rotate_left
      · (intro w hSw; (try dsimp only at hSw); (try go_simp); (try with_reducible rfl))
      (try simp only [Act.put, List.getElem_toArray, List.getElem_cons_succ, List.getElem_cons_zero, List.setIfInBounds_toArray, List.set_cons_zero, List.set_cons_succ])
      refine wpAnyH_take (i := 5) (oi := _) (v := ?_) rfl (by kernel_rfl) (by kernel_rfl) (by kernel_rfl) (fun _ _ _ h => h) (Or.inl ⟨by rfl, ?_⟩) (by assumption) ?_
      rotate_left
      · (intro w hSw; (try dsimp only at hSw); (try go_simp); (try with_reducible rfl))
      (try simp only [Act.put, List.getElem_toArray, List.getElem_cons_succ, List.getElem_cons_zero, List.setIfInBounds_toArray, List.set_cons_zero, List.set_cons_succ])
      refine wpAnyH_take (i := 6) (oi := _) (v := ?_) rfl (by kernel_rfl) (by kernel_rfl) (by kernel_rfl) (fun _ _ _ h => h) (Or.inl ⟨by rfl, ?_⟩) (by assumption) ?_
      rotate_left
      · (intro w hSw; (try dsimp only at hSw); (try go_simp); (try with_reducible rfl))
      (try simp only [Act.put, List.getElem_toArray, List.getElem_cons_succ, List.getElem_cons_zero, List.setIfInBounds_toArray, List.set_cons_zero, List.set_cons_succ])
      refine wpAnyH_take (i := 7) (oi := _) (v := ?_) rfl (by kernel_rfl) (by kernel_rfl) (by kernel_rfl) (fun _ _ _ h => h) (Or.inl ⟨by rfl, ?_⟩) (by assumption) ?_
      rotate_left
      · (intro w hSw; (try dsimp only at hSw); (try go_simp); (try with_reducible rfl))
      (try simp only [Act.put, List.getElem_toArray, List.getElem_cons_succ, List.getElem_cons_zero, List.setIfInBounds_toArray, List.set_cons_zero, List.set_cons_succ])
      refine wpAnyH_take (i := 9) (oi := _) (v := ?_) rfl (by kernel_rfl) (by kernel_rfl) (by kernel_rfl) (fun _ _ _ h => h) (Or.inl ⟨by rfl, ?_⟩) (by assumption) ?_
      rotate_left
      · (intro w hSw; (try dsimp only at hSw); (try go_simp); (try with_reducible rfl))
      (try simp only [Act.put, List.getElem_toArray, List.getElem_cons_succ, List.getElem_cons_zero, List.setIfInBounds_toArray, List.set_cons_zero, List.set_cons_succ])
      refine wpAnyH_take (i := 10) (oi := _) (v := ?_) rfl (by kernel_rfl) (by kernel_rfl) (by kernel_rfl) (fun _ _ _ h => h) (Or.inl ⟨by rfl, ?_⟩) (by assumption) ?_
      rotate_left
      · (intro w hSw; (try dsimp only at hSw); (try go_simp); (try with_reducible rfl))
      (try simp only [Act.put, List.getElem_toArray, List.getElem_cons_succ, List.getElem_cons_zero, List.setIfInBounds_toArray, List.set_cons_zero, List.set_cons_succ])
      refine wpAnyH_take (i := 11) (oi := _) (v := ?_) rfl (by kernel_rfl) (by kernel_rfl) (by kernel_rfl) (fun _ _ _ h => h) (Or.inl ⟨by rfl, ?_⟩) (by assumption) ?_
      rotate_left
      · (intro w hSw; (try dsimp only at hSw); (try go_simp); (try with_reducible rfl))
      (try simp only [Act.put, List.getElem_toArray, List.getElem_cons_succ, List.getElem_cons_zero, List.setIfInBounds_toArray, List.set_cons_zero, List.set_cons_succ])
      refine wpAnyH_take (i := 12) (oi := _) (v := ?_) rfl (by kernel_rfl) (by kernel_rfl) (by kernel_rfl) (fun _ _ _ h => h) (Or.inl ⟨by rfl, ?_⟩) (by assumption) ?_
      rotate_left
      · (intro w hSw; (try dsimp only at hSw); (try go_simp); (try with_reducible rfl))
      (try simp only [Act.put, List.getElem_toArray, List.getElem_cons_succ, List.getElem_cons_zero, List.setIfInBounds_toArray, List.set_cons_zero, List.set_cons_succ])
      refine wpAnyH_take (i := 13) (oi := _) (v := ?_) rfl (by kernel_rfl) (by kernel_rfl) (by kernel_rfl) (fun _ _ _ h => h) (Or.inl ⟨by rfl, ?_⟩) (by assumption) ?_
      rotate_left
      · (intro w hSw; (try dsimp only at hSw); (try go_simp); (try with_reducible rfl))
      (try simp only [Act.put, List.getElem_toArray, List.getElem_cons_succ, List.getElem_cons_zero, List.setIfInBounds_toArray, List.set_cons_zero, List.set_cons_succ])
      refine wpAnyH_ready (rs := [8]) (by kernel_rfl) (by simp) ?_
      refine AllReadyH.cons (o := _) rfl (fun K hK => ?_) ?_
      · go_simp
        (with_reducible refine (HSm.out _ hE).mono ?_); rintro e x5 ⟨rfl, hy⟩; have hzx := hx.size; replace hE := hE.trans hy; replace hx := hx.trans hy; replace s0 := cell_exQ hy s0; replace Kc := kE Kc hy; replace Kr := kE Kr hy; clear hy
        refine hK.out _ _ ?_ (fun hHeld2 => ?_)
        · exact s0
        clear hK K hHeld
        have hHeld := hHeld2
        clear hHeld2
        (try simp only [Act.put, List.getElem_toArray, List.getElem_cons_succ, List.getElem_cons_zero, List.setIfInBounds_toArray, List.set_cons_zero, List.set_cons_succ])
        refine wpAnyH_ready (rs := [14]) (by kernel_rfl) (by simp) ?_
        refine AllReadyH.cons (o := _) rfl (fun K hK => ?_) ?_
        · go_simp
          (with_reducible refine (HM.out _).mono ?_); rintro e x6 ⟨v, rfl, hv, hy⟩; have hzx := hx.size; replace hE := hE.trans hy; replace hx := hx.trans hy; replace s0 := cell_exQ hy s0; replace Kc := kE Kc hy; replace Kr := kE Kr hy; clear hy; obtain ⟨nv, av, qv, cv, bv, kv, dv, rfl, hv', hf', hg'⟩ := hv; have Vv := Lib.hid hv'; have Fv := Lib.hid (fun A hA => Nat.le_trans hzx (hf' A hA)); have Gv := Lib.hid (fun A hA => Nat.le_trans hzx (hg' A hA)); clear hv' hf' hg' hzx
          refine hK.out _ _ ?_ (fun hHeld2 => ?_)
          · exact s0
          clear hK K hHeld
          have hHeld := hHeld2
          clear hHeld2
          (try simp only [Act.put, List.getElem_toArray, List.getElem_cons_succ, List.getElem_cons_zero, List.setIfInBounds_toArray, List.set_cons_zero, List.set_cons_succ])
          refine wpAnyH_take (i := 15) (oi := _) (v := ?_) rfl (by kernel_rfl) (by kernel_rfl) (by kernel_rfl) (fun _ _ _ h => h) (Or.inl ⟨by rfl, ?_⟩) (by assumption) ?_
          rotate_left
          · (intro w hSw; (try dsimp only at hSw); (try go_simp); (try with_reducible rfl))
          (try simp only [Act.put, List.getElem_toArray, List.getElem_cons_succ, List.getElem_cons_zero, List.setIfInBounds_toArray, List.set_cons_zero, List.set_cons_succ])
          refine wpAnyH_take (i := 16) (oi := _) (v := ?_) rfl (by kernel_rfl) (by kernel_rfl) (by kernel_rfl) (fun _ _ _ h => h) (Or.inl ⟨by rfl, ?_⟩) (by assumption) ?_
          rotate_left
          · (intro w hSw; (try dsimp only at hSw); (try go_simp); (try with_reducible rfl))
          (try simp only [Act.put, List.getElem_toArray, List.getElem_cons_succ, List.getElem_cons_zero, List.setIfInBounds_toArray, List.set_cons_zero, List.set_cons_succ])
          refine wpAnyH_ready (rs := [17]) (by kernel_rfl) (by simp) ?_
          refine AllReadyH.cons (o := _) rfl (fun K hK => ?_) ?_
          · obtain ⟨g0, z0, g1, z1, g2, z2, g3, z3⟩ := bp4 Kr (.bool nv) (.slice av qv cv) (.bool false) (.slice bv kv dv); go_simp; clear g0 z0 g1 z1 g2 z2 g3 z3; replace Vv := (by first | exact rv4 Vv Kr (.bool nv) (.slice av qv cv) (.bool false) (.slice bv kv dv) rfl rfl rfl rfl | exact bv4 Vv Kr (.bool nv) (.slice av qv cv) (.bool false) (.slice bv kv dv) rfl rfl rfl rfl); replace hx := bx4 hx (w.heap.size + 1) (.bool nv) (.slice av qv cv) (.bool false) (.slice bv kv dv) (by omega); replace s0 := bf4 s0 (w.heap.size + 1) (.bool nv) (.slice av qv cv) (.bool false) (.slice bv kv dv) (by omega); replace Kc := bo4 Kc (w.heap.size + 1) (.bool nv) (.slice av qv cv) (.bool false) (.slice bv kv dv) (by omega); replace Kr := bs4 Kr (.bool nv) (.slice av qv cv) (.bool false) (.slice bv kv dv); clear hE; generalize (World.setCell (World.setCell (World.setCell (World.setCell x6 ⟨w.heap.size + 1, 0, none⟩ (.bool nv)) ⟨w.heap.size + 1, 1, none⟩ (.slice av qv cv)) ⟨w.heap.size + 1, 2, none⟩ (.bool false)) ⟨w.heap.size + 1, 3, none⟩ (.slice bv kv dv)) = x7 at *; have hE := Ext.refl x7
            refine hK.out _ _ ?_ (fun hHeld2 => ?_)
            · exact s0
            clear hK K hHeld
            have hHeld := hHeld2
            clear hHeld2
            (try simp only [Act.put, List.getElem_toArray, List.getElem_cons_succ, List.getElem_cons_zero, List.setIfInBounds_toArray, List.set_cons_zero, List.set_cons_succ])
            refine wpAnyH_take (i := 18) (oi := _) (v := ?_) rfl (by kernel_rfl) (by kernel_rfl) (by kernel_rfl) (fun _ _ _ h => h) (Or.inl ⟨by rfl, ?_⟩) (by assumption) ?_
            rotate_left
            · (intro w hSw; (try dsimp only at hSw); (try go_simp); (try with_reducible rfl))
            (try simp only [Act.put, List.getElem_toArray, List.getElem_cons_succ, List.getElem_cons_zero, List.setIfInBounds_toArray, List.set_cons_zero, List.set_cons_succ])
            refine wpAnyH_done (by kernel_rfl) ?_ _
            go_wp2_with fail
            obtain ⟨cr0, cr1, cr2, cr3⟩ := bk4 Kr
            refine bodyPost_ret (v := .tuple #[.agg #[.bool nv, .slice av qv cv, .bool false, .slice bv kv dv], .int .i64 0]) (by simp [results, Try.results25, go_sem, cr0, cr1, cr2, cr3]) rfl ?_
            exact ⟨_, rfl, ⟨_, _, _, _, _, _, _, rfl, Vv.out, Fv.out, Gv.out⟩, hx⟩
          exact AllReadyH.nil
        exact AllReadyH.nil
      exact AllReadyH.nil
set_option maxHeartbeats 8000000 in
theorem ref16_Total_median (c : CritA) (hc : c.In) (hr : rightC c = true) (a : Option Addr) (cap : Nat) (l : List Int) (w : World) (h : Ints w a cap l) (hl2 : l.length ≤ 256) (hh : c.how = 3) (hl : 0 < l.length) (hon : ∀ x ∈ l, onC c x = true) :
    Calls Try.prog 25 #[c.val, .slice a l.length cap] w (RatP (Rat.divInt ((((srtC c l).take (l.length / 2 + 1)).drop ((l.length - 1) / 2)).sum * 1) ((l.length / 2 + 1 - (l.length - 1) / 2 : Nat) : Int)) w) := by
  have hle := h.le
  have hmx := h.mx
  have hrr := rightC_iff.1 hr
  have HC := Lib.hid (ref16_Right c hc)
  rw [hr] at HC
  have HI := Lib.hid h
  have HRR := Lib.hid hrr
  have HOn := Lib.hid (fun m hm => ref16_On c hc hrr m hm)
  have HTn := Lib.hid (fun m hm => ref16_Turn c hc hrr m hm)
  have tr1 := hrr.tr
  have tr2 := hrr.tm
  have ht0 : c.tr = 0 := hrr.mn.resolve_left (by omega)
  obtain ⟨RR, hRR⟩ : ∃ RR, RR = Rat.divInt ((((srtC c l).take (l.length / 2 + 1)).drop ((l.length - 1) / 2)).sum * 1) ((l.length / 2 + 1 - (l.length - 1) / 2 : Nat) : Int) := ⟨_, rfl⟩
  rw [← hRR]
  rw [srtC_acc hon] at hRR
  replace hRR := Lib.hid hRR
  obtain ⟨nm, lo, hi, st, how, tr, rv⟩ := c
  dsimp only [CritA.val, CritA.cells] at *

  subst hh
  subst ht0
  clear h hrr hr hc
  obtain ⟨x1, hw, hx, Kc, Kr⟩ := boxQ2 w #[.string nm, .int .i64 lo, .int .i64 hi, .int .i64 st, .int .i64 3, .int .i64 0, .bool rv] 48 #[.bool false, .slice none 0 0, .bool false, .slice none 0 0] 35
  replace hw := Lib.hid hw
  go_enter Try.func25, Try.ntmps25
  go_upto_region 1 with fail
  try simp only [Nat.add_assoc, Nat.reduceAdd, Nat.add_zero]
  rw [hw.out]
  clear hw
  have hs0 := hx.size
  have cc0 := Kc.out.cell (i := 0) (v := .string nm) rfl
  have cc1 := Kc.out.cell (i := 1) (v := .int .i64 lo) rfl
  have cc2 := Kc.out.cell (i := 2) (v := .int .i64 hi) rfl
  have cc3 := Kc.out.cell (i := 3) (v := .int .i64 st) rfl
  have cc4 := Kc.out.cell (i := 4) (v := .int .i64 3) rfl
  have cc5 := Kc.out.cell (i := 5) (v := .int .i64 0) rfl
  have cc6 := Kc.out.cell (i := 6) (v := .bool rv) rfl
  obtain ⟨cr0, cr1, cr2, cr3⟩ := bk4 Kr
  go_wp2_with fail
  with_reducible refine (HC.out _).mono ?_
  clear cc0 cc1 cc2 cc3 cc4 cc5 cc6 cr0 cr1 cr2 cr3
  rintro e x2 ⟨rfl, hy⟩
  replace hx := hx.trans hy
  replace Kc := kE Kc hy
  replace Kr := kE Kr hy
  clear hy
  clear HC
  have HON := Lib.hid hon
  clear hon
  have t1 : ((l.length : Int) == 0) = false := beq_false_of_ne (by omega)
  have t1n : ¬ l = [] := List.ne_nil_of_length_pos (by omega)
  have cc0 := Kc.out.cell (i := 0) (v := .string nm) rfl
  have cc1 := Kc.out.cell (i := 1) (v := .int .i64 lo) rfl
  have cc2 := Kc.out.cell (i := 2) (v := .int .i64 hi) rfl
  have cc3 := Kc.out.cell (i := 3) (v := .int .i64 st) rfl
  have cc4 := Kc.out.cell (i := 4) (v := .int .i64 3) rfl
  have cc5 := Kc.out.cell (i := 5) (v := .int .i64 0) rfl
  have cc6 := Kc.out.cell (i := 6) (v := .bool rv) rfl
  obtain ⟨cr0, cr1, cr2, cr3⟩ := bk4 Kr
  go_upto_region 9 with fail
  clear cc0 cc1 cc2 cc3 cc4 cc5 cc6 cr0 cr1 cr2 cr3
  have hgz : w.heap.size + 1 < Array.size (World.heap x2) := Kr.out.lt
  obtain ⟨hO, hE2⟩ := own_new (Ext.refl x2)
  clear hE2
  have hy := Ext.alloc x2 (.cells #[] 3)
  replace hx := hx.trans hy
  replace Kc := kE Kc hy
  replace Kr := kE Kr hy
  clear hy
  generalize World.alloc x2 (.cells #[] 3) = x3 at *
  generalize Array.size (World.heap x2) = g0 at *
  go_wp2_with fail
  have HX0 := Lib.hid hx
  have HKc := Kc
  have HKr := Kr
  go_loopw [7, 8] (fun v i wr => ∃ k : Nat, k ≤ l.length ∧ i = .int .i64 k ∧ (∀ j, j < k → ∀ x, l[j]? = some x → onC (⟨nm, lo, hi, st, 3, 0, rv⟩ : CritA) x = true) ∧ OwnI wr g0 v (accL (⟨nm, lo, hi, st, 3, 0, rv⟩ : CritA) l k) ∧ Ext x3 wr) (fun _ i _ => l.length - (intOf i).toNat)
  case atStart => exact ⟨0, Nat.zero_le _, rfl, fun j hj => absurd hj (Nat.not_lt_zero _), by simpa [accL] using hO, Ext.refl _⟩
  case round =>
    obtain ⟨k, hk, rfl, hall, hO2, hxr⟩ := hrel
    clear hO hx Kc Kr
    have hx := HX0.out.trans hxr
    have Kc := kE HKc hxr
    have Kr := kE HKr hxr
    have HA := Lib.hid hall
    obtain ⟨gl, cg, rfl, hIa, hgB⟩ := hO2.look (fun y hy => by have := mem_acc HRR.out HA.out y hy; omega)
    have HMA := Lib.hid (mem_acc HRR.out HA.out)
    have HO := Lib.hid hO2
    have HIa := Lib.hid hIa
    have HLen := Lib.hid (accL_len (⟨nm, lo, hi, st, 3, 0, rv⟩ : CritA) l hk)
    have g0k : (0 : Int) ≤ (k : Int) := by omega
    have hg0 : g0 ≤ Array.size (World.heap wr) := by have := (hO2.form).choose_spec; obtain ⟨_, _, _, h1, h2, _⟩ := hO2.form; omega
    clear hall hO2 hIa HX0 HKc HKr
    by_cases hlt : k < l.length
    · obtain ⟨b, o, rfl⟩ := HI.out.head hlt
      obtain ⟨x, hxk, hcx, hx1, hx2⟩ := Ints.get (HI.out.ext hx) hlt
      have HXK := Lib.hid hxk
      have HCX := Lib.hid hcx
      have g1 : (k : Int) < (l.length : Int) := by omega
      have hle3 := HIa.out.le
      have hmx3 := HIa.out.mx
      clear hxk
      generalize hL : accL (⟨nm, lo, hi, st, 3, 0, rv⟩ : CritA) l k = L at *
      replace hL := Lib.hid hL
      cases ho : onC (⟨nm, lo, hi, st, 3, 0, rv⟩ : CritA) x
      · have HO1 := Lib.hid (HOn.out x ⟨hx1, hx2⟩)
        rw [ho] at HO1
        have HOX := Lib.hid ho
        clear ho
        go_upto_region 12 with fail
        go_cut [45] (fun s wx => s = .bool true ∧ Ext wr wx)
        case first =>
          have hcx := HCX.out
          have s0 : World.cell? wr ⟨w.heap.size, 0, none⟩ = some (.string nm) := Kc.out.cell (i := 0) (v := .string nm) rfl
          have s1 : World.cell? wr ⟨w.heap.size, 1, none⟩ = some (.int .i64 lo) := Kc.out.cell (i := 1) (v := .int .i64 lo) rfl
          have s2 : World.cell? wr ⟨w.heap.size, 2, none⟩ = some (.int .i64 hi) := Kc.out.cell (i := 2) (v := .int .i64 hi) rfl
          have s3 : World.cell? wr ⟨w.heap.size, 3, none⟩ = some (.int .i64 st) := Kc.out.cell (i := 3) (v := .int .i64 st) rfl
          have s4 : World.cell? wr ⟨w.heap.size, 4, none⟩ = some (.int .i64 3) := Kc.out.cell (i := 4) (v := .int .i64 3) rfl
          have s5 : World.cell? wr ⟨w.heap.size, 5, none⟩ = some (.int .i64 0) := Kc.out.cell (i := 5) (v := .int .i64 0) rfl
          have s6 : World.cell? wr ⟨w.heap.size, 6, none⟩ = some (.bool rv) := Kc.out.cell (i := 6) (v := .bool rv) rfl
          have s7 : World.cell? wr ⟨b, o + k, none⟩ = some (.int .i64 x) := hcx
          have hE : Ext wr (World.drew wr) := (Ext.refl _).drew
          have hyd : Ext wr (World.drew wr) := (Ext.refl _).drew
          replace hx := hx.trans hyd
          replace Kc := kE Kc hyd
          replace Kr := kE Kr hyd
          clear hyd
          replace s0 : World.cell? (World.drew wr) ⟨w.heap.size, 0, none⟩ = some (.string nm) := s0
          replace s1 : World.cell? (World.drew wr) ⟨w.heap.size, 1, none⟩ = some (.int .i64 lo) := s1
          replace s2 : World.cell? (World.drew wr) ⟨w.heap.size, 2, none⟩ = some (.int .i64 hi) := s2
          replace s3 : World.cell? (World.drew wr) ⟨w.heap.size, 3, none⟩ = some (.int .i64 st) := s3
          replace s4 : World.cell? (World.drew wr) ⟨w.heap.size, 4, none⟩ = some (.int .i64 3) := s4
          replace s5 : World.cell? (World.drew wr) ⟨w.heap.size, 5, none⟩ = some (.int .i64 0) := s5
          replace s6 : World.cell? (World.drew wr) ⟨w.heap.size, 6, none⟩ = some (.bool rv) := s6
          replace s7 : World.cell? (World.drew wr) ⟨b, o + k, none⟩ = some (.int .i64 x) := s7
          refine wp_region_held_drew (S := (fun w' => World.cell? w' ⟨w.heap.size, 0, none⟩ = some (.string nm) ∧ World.cell? w' ⟨w.heap.size, 1, none⟩ = some (.int .i64 lo) ∧ World.cell? w' ⟨w.heap.size, 2, none⟩ = some (.int .i64 hi) ∧ World.cell? w' ⟨w.heap.size, 3, none⟩ = some (.int .i64 st) ∧ World.cell? w' ⟨w.heap.size, 4, none⟩ = some (.int .i64 3) ∧ World.cell? w' ⟨w.heap.size, 5, none⟩ = some (.int .i64 0) ∧ World.cell? w' ⟨w.heap.size, 6, none⟩ = some (.bool rv) ∧ World.cell? w' ⟨b, o + k, none⟩ = some (.int .i64 x))) (by kernel_rfl) ?_ (fun hHeld => ?_)
          · exact ⟨s0, s1, s2, s3, s4, s5, s6, s7⟩
          (try simp only [← List.toArray_replicate, List.size_toArray, List.length_cons, List.length_nil, Nat.reduceAdd, List.replicate_succ, List.replicate_zero])
          generalize World.drew wr = x4 at *
          refine wpAnyH_take (i := 0) (oi := _) (v := ?_) rfl (by kernel_rfl) (by kernel_rfl) (by kernel_rfl) (fun _ _ _ h => h) (Or.inl ⟨by rfl, ?_⟩) (by assumption) ?_
          rotate_left
          · (intro w hSw; (try dsimp only at hSw); (try go_simp); (try with_reducible rfl))
          (try simp only [Act.put, List.getElem_toArray, List.getElem_cons_succ, List.getElem_cons_zero, List.setIfInBounds_toArray, List.set_cons_zero, List.set_cons_succ])
          refine wpAnyH_take (i := 1) (oi := _) (v := ?_) rfl (by kernel_rfl) (by kernel_rfl) (by kernel_rfl) (fun _ _ _ h => h) (Or.inl ⟨by rfl, ?_⟩) (by assumption) ?_
          rotate_left
          · (intro w hSw; (try dsimp only at hSw); (try go_simp); (try with_reducible rfl))
          (try simp only [Act.put, List.getElem_toArray, List.getElem_cons_succ, List.getElem_cons_zero, List.setIfInBounds_toArray, List.set_cons_zero, List.set_cons_succ])
          refine wpAnyH_take (i := 2) (oi := _) (v := ?_) rfl (by kernel_rfl) (by kernel_rfl) (by kernel_rfl) (fun _ _ _ h => h) (Or.inl ⟨by rfl, ?_⟩) (by assumption) ?_
          rotate_left
          · (intro w hSw; (try dsimp only at hSw); (try go_simp); (try with_reducible rfl))
          (try simp only [Act.put, List.getElem_toArray, List.getElem_cons_succ, List.getElem_cons_zero, List.setIfInBounds_toArray, List.set_cons_zero, List.set_cons_succ])
          refine wpAnyH_take (i := 3) (oi := _) (v := ?_) rfl (by kernel_rfl) (by kernel_rfl) (by kernel_rfl) (fun _ _ _ h => h) (Or.inl ⟨by rfl, ?_⟩) (by assumption) ?_
          rotate_left
          · (intro w hSw; (try dsimp only at hSw); (try go_simp); (try with_reducible rfl))
          (try simp only [Act.put, List.getElem_toArray, List.getElem_cons_succ, List.getElem_cons_zero, List.setIfInBounds_toArray, List.set_cons_zero, List.set_cons_succ])
          refine wpAnyH_take (i := 4) (oi := _) (v := ?_) rfl (by kernel_rfl) (by kernel_rfl) (by kernel_rfl) (fun _ _ _ h => h) (Or.inl ⟨by rfl, ?_⟩) (by assumption) ?_
          rotate_left
          · (intro w hSw; (try dsimp only at hSw); (try go_simp); (try with_reducible rfl))
          (try simp only [Act.put, List.getElem_toArray, List.getElem_cons_succ, List.getElem_cons_zero, List.setIfInBounds_toArray, List.set_cons_zero, List.set_cons_succ])
          refine wpAnyH_ready (rs := [5]) (by kernel_rfl) (by simp) ?_
          refine AllReadyH.cons (o := _) rfl (fun K hK => ?_) ?_
          · go_simp
            (with_reducible refine (HO1.out _).mono ?_); rintro e x5 ⟨rfl, hy⟩; replace hE := hE.trans hy; replace hx := hx.trans hy; replace s0 := cell_exQ hy s0; replace s1 := cell_exQ hy s1; replace s2 := cell_exQ hy s2; replace s3 := cell_exQ hy s3; replace s4 := cell_exQ hy s4; replace s5 := cell_exQ hy s5; replace s6 := cell_exQ hy s6; replace s7 := cell_exQ hy s7; replace Kc := kE Kc hy; replace Kr := kE Kr hy; clear hy
            refine hK.out _ _ ?_ (fun hHeld2 => ?_)
            · exact ⟨s0, s1, s2, s3, s4, s5, s6, s7⟩
            clear hK K hHeld
            have hHeld := hHeld2
            clear hHeld2
            (try simp only [Act.put, List.getElem_toArray, List.getElem_cons_succ, List.getElem_cons_zero, List.setIfInBounds_toArray, List.set_cons_zero, List.set_cons_succ])
            refine wpAnyH_take (i := 6) (oi := _) (v := ?_) rfl (by kernel_rfl) (by kernel_rfl) (by kernel_rfl) (fun _ _ _ h => h) (Or.inl ⟨by rfl, ?_⟩) (by assumption) ?_
            rotate_left
            · (intro w hSw; (try dsimp only at hSw); (try go_simp); (try with_reducible rfl))
            (try simp only [Act.put, List.getElem_toArray, List.getElem_cons_succ, List.getElem_cons_zero, List.setIfInBounds_toArray, List.set_cons_zero, List.set_cons_succ])
            refine wpAnyH_done (by kernel_rfl) ?_ _
            go_wp2_with fail
            go_meet
            exact ⟨rfl, hE⟩
          exact AllReadyH.nil
        case rest =>
        obtain ⟨rfl, hy⟩ := hcut
        have HXR := Lib.hid (hxr.trans hy)
        have hcx := cell_exQ hy HCX.out
        have HO3 := Lib.hid (HO.out.ext hy)
        have HIa3 := Lib.hid (HIa.out.ext hy)
        have hg1 := hy.size
        replace hx := hx.trans hy
        replace Kc := kE Kc hy
        replace Kr := kE Kr hy
        clear hy
        exact absurd HOX.out (by rw [HON.out x (List.mem_of_getElem? HXK.out)]; decide)
      · have HO1 := Lib.hid (HOn.out x ⟨hx1, hx2⟩)
        rw [ho] at HO1
        have HOX := Lib.hid ho
        clear ho
        go_upto_region 12 with fail
        go_cut [45] (fun s wx => s = .bool false ∧ Ext wr wx)
        case first =>
          have hcx := HCX.out
          have s0 : World.cell? wr ⟨w.heap.size, 0, none⟩ = some (.string nm) := Kc.out.cell (i := 0) (v := .string nm) rfl
          have s1 : World.cell? wr ⟨w.heap.size, 1, none⟩ = some (.int .i64 lo) := Kc.out.cell (i := 1) (v := .int .i64 lo) rfl
          have s2 : World.cell? wr ⟨w.heap.size, 2, none⟩ = some (.int .i64 hi) := Kc.out.cell (i := 2) (v := .int .i64 hi) rfl
          have s3 : World.cell? wr ⟨w.heap.size, 3, none⟩ = some (.int .i64 st) := Kc.out.cell (i := 3) (v := .int .i64 st) rfl
          have s4 : World.cell? wr ⟨w.heap.size, 4, none⟩ = some (.int .i64 3) := Kc.out.cell (i := 4) (v := .int .i64 3) rfl
          have s5 : World.cell? wr ⟨w.heap.size, 5, none⟩ = some (.int .i64 0) := Kc.out.cell (i := 5) (v := .int .i64 0) rfl
          have s6 : World.cell? wr ⟨w.heap.size, 6, none⟩ = some (.bool rv) := Kc.out.cell (i := 6) (v := .bool rv) rfl
          have s7 : World.cell? wr ⟨b, o + k, none⟩ = some (.int .i64 x) := hcx
          have hE : Ext wr (World.drew wr) := (Ext.refl _).drew
          have hyd : Ext wr (World.drew wr) := (Ext.refl _).drew
          replace hx := hx.trans hyd
          replace Kc := kE Kc hyd
          replace Kr := kE Kr hyd
          clear hyd
          replace s0 : World.cell? (World.drew wr) ⟨w.heap.size, 0, none⟩ = some (.string nm) := s0
          replace s1 : World.cell? (World.drew wr) ⟨w.heap.size, 1, none⟩ = some (.int .i64 lo) := s1
          replace s2 : World.cell? (World.drew wr) ⟨w.heap.size, 2, none⟩ = some (.int .i64 hi) := s2
          replace s3 : World.cell? (World.drew wr) ⟨w.heap.size, 3, none⟩ = some (.int .i64 st) := s3
          replace s4 : World.cell? (World.drew wr) ⟨w.heap.size, 4, none⟩ = some (.int .i64 3) := s4
          replace s5 : World.cell? (World.drew wr) ⟨w.heap.size, 5, none⟩ = some (.int .i64 0) := s5
          replace s6 : World.cell? (World.drew wr) ⟨w.heap.size, 6, none⟩ = some (.bool rv) := s6
          replace s7 : World.cell? (World.drew wr) ⟨b, o + k, none⟩ = some (.int .i64 x) := s7
          refine wp_region_held_drew (S := (fun w' => World.cell? w' ⟨w.heap.size, 0, none⟩ = some (.string nm) ∧ World.cell? w' ⟨w.heap.size, 1, none⟩ = some (.int .i64 lo) ∧ World.cell? w' ⟨w.heap.size, 2, none⟩ = some (.int .i64 hi) ∧ World.cell? w' ⟨w.heap.size, 3, none⟩ = some (.int .i64 st) ∧ World.cell? w' ⟨w.heap.size, 4, none⟩ = some (.int .i64 3) ∧ World.cell? w' ⟨w.heap.size, 5, none⟩ = some (.int .i64 0) ∧ World.cell? w' ⟨w.heap.size, 6, none⟩ = some (.bool rv) ∧ World.cell? w' ⟨b, o + k, none⟩ = some (.int .i64 x))) (by kernel_rfl) ?_ (fun hHeld => ?_)
          · exact ⟨s0, s1, s2, s3, s4, s5, s6, s7⟩
          (try simp only [← List.toArray_replicate, List.size_toArray, List.length_cons, List.length_nil, Nat.reduceAdd, List.replicate_succ, List.replicate_zero])
          generalize World.drew wr = x4 at *
          refine wpAnyH_take (i := 0) (oi := _) (v := ?_) rfl (by kernel_rfl) (by kernel_rfl) (by kernel_rfl) (fun _ _ _ h => h) (Or.inl ⟨by rfl, ?_⟩) (by assumption) ?_
          rotate_left
          · (intro w hSw; (try dsimp only at hSw); (try go_simp); (try with_reducible rfl))
          (try simp only [Act.put, List.getElem_toArray, List.getElem_cons_succ, List.getElem_cons_zero, List.setIfInBounds_toArray, List.set_cons_zero, List.set_cons_succ])
          refine wpAnyH_take (i := 1) (oi := _) (v := ?_) rfl (by kernel_rfl) (by kernel_rfl) (by kernel_rfl) (fun _ _ _ h => h) (Or.inl ⟨by rfl, ?_⟩) (by assumption) ?_
          rotate_left
          · (intro w hSw; (try dsimp only at hSw); (try go_simp); (try with_reducible rfl))
          (try simp only [Act.put, List.getElem_toArray, List.getElem_cons_succ, List.getElem_cons_zero, List.setIfInBounds_toArray, List.set_cons_zero, List.set_cons_succ])
          refine wpAnyH_take (i := 2) (oi := _) (v := ?_) rfl (by kernel_rfl) (by kernel_rfl) (by kernel_rfl) (fun _ _ _ h => h) (Or.inl ⟨by rfl, ?_⟩) (by assumption) ?_
          rotate_left
          · (intro w hSw; (try dsimp only at hSw); (try go_simp); (try with_reducible rfl))
          (try simp only [Act.put, List.getElem_toArray, List.getElem_cons_succ, List.getElem_cons_zero, List.setIfInBounds_toArray, List.set_cons_zero, List.set_cons_succ])
          refine wpAnyH_take (i := 3) (oi := _) (v := ?_) rfl (by kernel_rfl) (by kernel_rfl) (by kernel_rfl) (fun _ _ _ h => h) (Or.inl ⟨by rfl, ?_⟩) (by assumption) ?_
          rotate_left
          · (intro w hSw; (try dsimp only at hSw); (try go_simp); (try with_reducible rfl))
          (try simp only [Act.put, List.getElem_toArray, List.getElem_cons_succ, List.getElem_cons_zero, List.setIfInBounds_toArray, List.set_cons_zero, List.set_cons_succ])
          refine wpAnyH_take (i := 4) (oi := _) (v := ?_) rfl (by kernel_rfl) (by kernel_rfl) (by kernel_rfl) (fun _ _ _ h => h) (Or.inl ⟨by rfl, ?_⟩) (by assumption) ?_
          rotate_left
          · (intro w hSw; (try dsimp only at hSw); (try go_simp); (try with_reducible rfl))
          (try simp only [Act.put, List.getElem_toArray, List.getElem_cons_succ, List.getElem_cons_zero, List.setIfInBounds_toArray, List.set_cons_zero, List.set_cons_succ])
          refine wpAnyH_ready (rs := [5]) (by kernel_rfl) (by simp) ?_
          refine AllReadyH.cons (o := _) rfl (fun K hK => ?_) ?_
          · go_simp
            (with_reducible refine (HO1.out _).mono ?_); rintro e x5 ⟨rfl, hy⟩; replace hE := hE.trans hy; replace hx := hx.trans hy; replace s0 := cell_exQ hy s0; replace s1 := cell_exQ hy s1; replace s2 := cell_exQ hy s2; replace s3 := cell_exQ hy s3; replace s4 := cell_exQ hy s4; replace s5 := cell_exQ hy s5; replace s6 := cell_exQ hy s6; replace s7 := cell_exQ hy s7; replace Kc := kE Kc hy; replace Kr := kE Kr hy; clear hy
            refine hK.out _ _ ?_ (fun hHeld2 => ?_)
            · exact ⟨s0, s1, s2, s3, s4, s5, s6, s7⟩
            clear hK K hHeld
            have hHeld := hHeld2
            clear hHeld2
            (try simp only [Act.put, List.getElem_toArray, List.getElem_cons_succ, List.getElem_cons_zero, List.setIfInBounds_toArray, List.set_cons_zero, List.set_cons_succ])
            refine wpAnyH_take (i := 6) (oi := _) (v := ?_) rfl (by kernel_rfl) (by kernel_rfl) (by kernel_rfl) (fun _ _ _ h => h) (Or.inl ⟨by rfl, ?_⟩) (by assumption) ?_
            rotate_left
            · (intro w hSw; (try dsimp only at hSw); (try go_simp); (try with_reducible rfl))
            (try simp only [Act.put, List.getElem_toArray, List.getElem_cons_succ, List.getElem_cons_zero, List.setIfInBounds_toArray, List.set_cons_zero, List.set_cons_succ])
            refine wpAnyH_done (by kernel_rfl) ?_ _
            go_wp2_with fail
            go_meet
            exact ⟨rfl, hE⟩
          exact AllReadyH.nil
        case rest =>
        obtain ⟨rfl, hy⟩ := hcut
        have HXR := Lib.hid (hxr.trans hy)
        have hcx := cell_exQ hy HCX.out
        have HO3 := Lib.hid (HO.out.ext hy)
        have HIa3 := Lib.hid (HIa.out.ext hy)
        have hg1 := hy.size
        replace hx := hx.trans hy
        replace Kc := kE Kc hy
        replace Kr := kE Kr hy
        clear hy
        have HT1 := Lib.hid (HTn.out x HOX.out)
        have HTB := Lib.hid (turn_bd HRR.out HOX.out)
        have HAC := Lib.hid ((accL_succ (c := (⟨nm, lo, hi, st, 3, 0, rv⟩ : CritA)) HXK.out).trans (by rw [hL.out]))
        generalize turnC (⟨nm, lo, hi, st, 3, 0, rv⟩ : CritA) x = y at *
        have HALL := Lib.hid (show ∀ j, j < k + 1 → ∀ u, l[j]? = some u → onC (⟨nm, lo, hi, st, 3, 0, rv⟩ : CritA) u = true from fun j hj u hu => by
          by_cases hjk : j < k
          · exact HA.out j hjk u hu
          · obtain rfl : j = k := by omega
            rw [HXK.out] at hu
            cases hu
            exact HOX.out)
        go_upto_region 14 with fail
        have s0 : World.cell? wc ⟨w.heap.size, 0, none⟩ = some (.string nm) := Kc.out.cell (i := 0) (v := .string nm) rfl
        have s1 : World.cell? wc ⟨w.heap.size, 1, none⟩ = some (.int .i64 lo) := Kc.out.cell (i := 1) (v := .int .i64 lo) rfl
        have s2 : World.cell? wc ⟨w.heap.size, 2, none⟩ = some (.int .i64 hi) := Kc.out.cell (i := 2) (v := .int .i64 hi) rfl
        have s3 : World.cell? wc ⟨w.heap.size, 3, none⟩ = some (.int .i64 st) := Kc.out.cell (i := 3) (v := .int .i64 st) rfl
        have s4 : World.cell? wc ⟨w.heap.size, 4, none⟩ = some (.int .i64 3) := Kc.out.cell (i := 4) (v := .int .i64 3) rfl
        have s5 : World.cell? wc ⟨w.heap.size, 5, none⟩ = some (.int .i64 0) := Kc.out.cell (i := 5) (v := .int .i64 0) rfl
        have s6 : World.cell? wc ⟨w.heap.size, 6, none⟩ = some (.bool rv) := Kc.out.cell (i := 6) (v := .bool rv) rfl
        have s7 : World.cell? wc ⟨b, o + k, none⟩ = some (.int .i64 x) := hcx
        have hE : Ext wc (World.drew wc) := (Ext.refl _).drew
        have hyd : Ext wc (World.drew wc) := (Ext.refl _).drew
        replace hx := hx.trans hyd
        replace Kc := kE Kc hyd
        replace Kr := kE Kr hyd
        clear hyd
        replace s0 : World.cell? (World.drew wc) ⟨w.heap.size, 0, none⟩ = some (.string nm) := s0
        replace s1 : World.cell? (World.drew wc) ⟨w.heap.size, 1, none⟩ = some (.int .i64 lo) := s1
        replace s2 : World.cell? (World.drew wc) ⟨w.heap.size, 2, none⟩ = some (.int .i64 hi) := s2
        replace s3 : World.cell? (World.drew wc) ⟨w.heap.size, 3, none⟩ = some (.int .i64 st) := s3
        replace s4 : World.cell? (World.drew wc) ⟨w.heap.size, 4, none⟩ = some (.int .i64 3) := s4
        replace s5 : World.cell? (World.drew wc) ⟨w.heap.size, 5, none⟩ = some (.int .i64 0) := s5
        replace s6 : World.cell? (World.drew wc) ⟨w.heap.size, 6, none⟩ = some (.bool rv) := s6
        replace s7 : World.cell? (World.drew wc) ⟨b, o + k, none⟩ = some (.int .i64 x) := s7
        refine wp_region_held_drew (S := (fun w' => World.cell? w' ⟨w.heap.size, 0, none⟩ = some (.string nm) ∧ World.cell? w' ⟨w.heap.size, 1, none⟩ = some (.int .i64 lo) ∧ World.cell? w' ⟨w.heap.size, 2, none⟩ = some (.int .i64 hi) ∧ World.cell? w' ⟨w.heap.size, 3, none⟩ = some (.int .i64 st) ∧ World.cell? w' ⟨w.heap.size, 4, none⟩ = some (.int .i64 3) ∧ World.cell? w' ⟨w.heap.size, 5, none⟩ = some (.int .i64 0) ∧ World.cell? w' ⟨w.heap.size, 6, none⟩ = some (.bool rv) ∧ World.cell? w' ⟨b, o + k, none⟩ = some (.int .i64 x))) (by kernel_rfl) ?_ (fun hHeld => ?_)
        · exact ⟨s0, s1, s2, s3, s4, s5, s6, s7⟩
        (try simp only [← List.toArray_replicate, List.size_toArray, List.length_cons, List.length_nil, Nat.reduceAdd, List.replicate_succ, List.replicate_zero])
        generalize World.drew wc = x6 at *
        refine wpAnyH_take (i := 0) (oi := _) (v := ?_) rfl (by kernel_rfl) (by kernel_rfl) (by kernel_rfl) (fun _ _ _ h => h) (Or.inl ⟨by rfl, ?_⟩) (by assumption) ?_
        rotate_left
        · (intro w hSw; (try dsimp only at hSw); (try go_simp); (try with_reducible rfl))
        (try simp only [Act.put, List.getElem_toArray, List.getElem_cons_succ, List.getElem_cons_zero, List.setIfInBounds_toArray, List.set_cons_zero, List.set_cons_succ])
        refine wpAnyH_take (i := 1) (oi := _) (v := ?_) rfl (by kernel_rfl) (by kernel_rfl) (by kernel_rfl) (fun _ _ _ h => h) (Or.inl ⟨by rfl, ?_⟩) (by assumption) ?_
        rotate_left
        · (intro w hSw; (try dsimp only at hSw); (try go_simp); (try with_reducible rfl))
        (try simp only [Act.put, List.getElem_toArray, List.getElem_cons_succ, List.getElem_cons_zero, List.setIfInBounds_toArray, List.set_cons_zero, List.set_cons_succ])
        refine wpAnyH_take (i := 2) (oi := _) (v := ?_) rfl (by kernel_rfl) (by kernel_rfl) (by kernel_rfl) (fun _ _ _ h => h) (Or.inl ⟨by rfl, ?_⟩) (by assumption) ?_
        rotate_left
        · (intro w hSw; (try dsimp only at hSw); (try go_simp); (try with_reducible rfl))
        (try simp only [Act.put, List.getElem_toArray, List.getElem_cons_succ, List.getElem_cons_zero, List.setIfInBounds_toArray, List.set_cons_zero, List.set_cons_succ])
        refine wpAnyH_take (i := 3) (oi := _) (v := ?_) rfl (by kernel_rfl) (by kernel_rfl) (by kernel_rfl) (fun _ _ _ h => h) (Or.inl ⟨by rfl, ?_⟩) (by assumption) ?_
        rotate_left
        · (intro w hSw; (try dsimp only at hSw); (try go_simp); (try with_reducible rfl))
        (try simp only [Act.put, List.getElem_toArray, List.getElem_cons_succ, List.getElem_cons_zero, List.setIfInBounds_toArray, List.set_cons_zero, List.set_cons_succ])
        refine wpAnyH_take (i := 4) (oi := _) (v := ?_) rfl (by kernel_rfl) (by kernel_rfl) (by kernel_rfl) (fun _ _ _ h => h) (Or.inl ⟨by rfl, ?_⟩) (by assumption) ?_
        rotate_left
        · (intro w hSw; (try dsimp only at hSw); (try go_simp); (try with_reducible rfl))
        (try simp only [Act.put, List.getElem_toArray, List.getElem_cons_succ, List.getElem_cons_zero, List.setIfInBounds_toArray, List.set_cons_zero, List.set_cons_succ])
        refine wpAnyH_take (i := 5) (oi := _) (v := ?_) rfl (by kernel_rfl) (by kernel_rfl) (by kernel_rfl) (fun _ _ _ h => h) (Or.inl ⟨by rfl, ?_⟩) (by assumption) ?_
        rotate_left
        · (intro w hSw; (try dsimp only at hSw); (try go_simp); (try with_reducible rfl))
        (try simp only [Act.put, List.getElem_toArray, List.getElem_cons_succ, List.getElem_cons_zero, List.setIfInBounds_toArray, List.set_cons_zero, List.set_cons_succ])
        refine wpAnyH_ready (rs := [6]) (by kernel_rfl) (by simp) ?_
        refine AllReadyH.cons (o := _) rfl (fun K hK => ?_) ?_
        · go_simp
          (with_reducible refine (HT1.out _).mono ?_); rintro e x7 ⟨rfl, hy⟩; replace hE := hE.trans hy; replace hx := hx.trans hy; replace s0 := cell_exQ hy s0; replace s1 := cell_exQ hy s1; replace s2 := cell_exQ hy s2; replace s3 := cell_exQ hy s3; replace s4 := cell_exQ hy s4; replace s5 := cell_exQ hy s5; replace s6 := cell_exQ hy s6; replace s7 := cell_exQ hy s7; replace Kc := kE Kc hy; replace Kr := kE Kr hy; clear hy; have hzb := hE.size
          refine hK.out _ _ ?_ (fun hHeld2 => ?_)
          · exact ⟨s0, s1, s2, s3, s4, s5, s6, s7⟩
          clear hK K hHeld
          have hHeld := hHeld2
          clear hHeld2
          (try simp only [Act.put, List.getElem_toArray, List.getElem_cons_succ, List.getElem_cons_zero, List.setIfInBounds_toArray, List.set_cons_zero, List.set_cons_succ])
          refine wpAnyH_ready (rs := [7]) (by kernel_rfl) (by simp) ?_
          refine AllReadyH.cons (o := _) rfl (fun K hK => ?_) ?_
          · go_simp
            (with_reducible refine (ref16_put gl 0 cg L y _ (HIa3.out.ext hE) (by have := HLen.out; omega) (by have := HTB.out; omega)).mono ?_); rintro e x8 ⟨v, rfl, hv, hy⟩; replace hE := hE.trans hy; replace hx := hx.trans hy; replace s0 := cell_exQ hy s0; replace s1 := cell_exQ hy s1; replace s2 := cell_exQ hy s2; replace s3 := cell_exQ hy s3; replace s4 := cell_exQ hy s4; replace s5 := cell_exQ hy s5; replace s6 := cell_exQ hy s6; replace s7 := cell_exQ hy s7; replace Kc := kE Kc hy; replace Kr := kE Kr hy; clear hy; have HNO := Lib.hid (hv.lowB (B' := g0) (by omega)); clear hv
            refine hK.out _ _ ?_ (fun hHeld2 => ?_)
            · exact ⟨s0, s1, s2, s3, s4, s5, s6, s7⟩
            clear hK K hHeld
            have hHeld := hHeld2
            clear hHeld2
            (try simp only [Act.put, List.getElem_toArray, List.getElem_cons_succ, List.getElem_cons_zero, List.setIfInBounds_toArray, List.set_cons_zero, List.set_cons_succ])
            refine wpAnyH_take (i := 8) (oi := _) (v := ?_) rfl (by kernel_rfl) (by kernel_rfl) (by kernel_rfl) (fun _ _ _ h => h) (Or.inl ⟨by rfl, ?_⟩) (by assumption) ?_
            rotate_left
            · (intro w hSw; (try dsimp only at hSw); (try go_simp); (try with_reducible rfl))
            (try simp only [Act.put, List.getElem_toArray, List.getElem_cons_succ, List.getElem_cons_zero, List.setIfInBounds_toArray, List.set_cons_zero, List.set_cons_succ])
            refine wpAnyH_done (by kernel_rfl) ?_ _
            go_wp2_with fail
            go_roundw
            case rel => exact ⟨k + 1, by omega, by go_num, HALL.out, by rw [HAC.out]; exact HNO.out, HXR.out.trans hE⟩
            case measure => simp [intOf]; omega
          exact AllReadyH.nil
        exact AllReadyH.nil
    · obtain rfl : k = l.length := by omega
      generalize hS : accL (⟨nm, lo, hi, st, 3, 0, rv⟩ : CritA) l l.length = S at *
      clear hS hlt HA HON HOn HTn HO g0k
      have hSb := HMA.out
      have hSl := HLen.out
      replace hSl := Lib.hid hSl
      replace hSb := Lib.hid hSb
      have hle3 := HIa.out.le
      have hmx3 := HIa.out.mx
      clear HMA HLen
      have hsl := hSl.out
      obtain ⟨i, hii⟩ : ∃ i, i = (l.length - 1) / 2 := ⟨_, rfl⟩
      obtain ⟨j, hjj⟩ : ∃ j, j = l.length / 2 := ⟨_, rfl⟩
      have hi1 : i < S.length := by omega
      have hj1 : j < S.length := by omega
      obtain ⟨u, hu, hcu, _, _⟩ := Ints.get HIa.out hi1
      obtain ⟨v', hv', hcv, _, _⟩ := Ints.get HIa.out hj1
      have hub := hSb.out u (List.mem_of_getElem? hu)
      have hvb := hSb.out v' (List.mem_of_getElem? hv')
      rw [Nat.zero_add] at hcu hcv
      have e1 : ((l.length : Int) - 1).tdiv 2 = (i : Int) := by rw [hii, Int.tdiv_eq_ediv_of_nonneg (by omega)]; omega
      have e2 : (l.length : Int).tdiv 2 = (j : Int) := by rw [hjj, Int.tdiv_eq_ediv_of_nonneg (by omega)]; omega
      have f1 : (0 : Int) ≤ (i : Int) := by omega
      have f2 : (i : Int) < (S.length : Int) := by omega
      have f3 : (0 : Int) ≤ (j : Int) := by omega
      have f4 : (j : Int) < (S.length : Int) := by omega
      have f5 : (i : Int) < (l.length : Int) := by omega
      have f6 : (j : Int) < (l.length : Int) := by omega
      have w1 : IntKind.i64.wrap ((l.length : Int) - 1) = (l.length : Int) - 1 := IntWalk.i64_in _ (by omega)
      have w2 : IntKind.i64.wrap (i : Int) = (i : Int) := IntWalk.i64_in _ (by omega)
      have w4 : IntKind.i64.wrap (u + v') = u + v' := IntWalk.i64_in _ (by omega)
      have w3 : IntKind.i64.wrap (j : Int) = (j : Int) := IntWalk.i64_in _ (by omega)
      have e3 : Rat.divInt (u + v') 2 = RR := by
        rw [hRR.out, ← hii, ← hjj]
        exact (median_eq hu hv' (by omega)).symm
      have HM := Lib.hid (fun W => rMakeR (u + v') 2 W (by omega) (by omega) (by omega))
      rw [e3] at HM
      clear e3 hu hv'
      replace hii := Lib.hid hii
      replace hjj := Lib.hid hjj
      have cc0 := Kc.out.cell (i := 0) (v := .string nm) rfl
      have cc1 := Kc.out.cell (i := 1) (v := .int .i64 lo) rfl
      have cc2 := Kc.out.cell (i := 2) (v := .int .i64 hi) rfl
      have cc3 := Kc.out.cell (i := 3) (v := .int .i64 st) rfl
      have cc4 := Kc.out.cell (i := 4) (v := .int .i64 3) rfl
      have cc5 := Kc.out.cell (i := 5) (v := .int .i64 0) rfl
      have cc6 := Kc.out.cell (i := 6) (v := .bool rv) rfl
      go_upto_region 20 with fail
      clear cc0 cc1 cc2 cc3 cc4 cc5 cc6
      have s0 : World.cell? wr ⟨gl, i, none⟩ = some (.int .i64 u) := hcu
      have s1 : World.cell? wr ⟨gl, j, none⟩ = some (.int .i64 v') := hcv
      have hE : Ext wr (World.drew wr) := (Ext.refl _).drew
      have hyd : Ext wr (World.drew wr) := (Ext.refl _).drew
      replace hx := hx.trans hyd
      replace Kc := kE Kc hyd
      replace Kr := kE Kr hyd
      clear hyd
      replace s0 : World.cell? (World.drew wr) ⟨gl, i, none⟩ = some (.int .i64 u) := s0
      replace s1 : World.cell? (World.drew wr) ⟨gl, j, none⟩ = some (.int .i64 v') := s1
      refine wp_region_held_drew (S := (fun w' => World.cell? w' ⟨gl, i, none⟩ = some (.int .i64 u) ∧ World.cell? w' ⟨gl, j, none⟩ = some (.int .i64 v'))) (by kernel_rfl) ?_ (fun hHeld => ?_)
      · exact ⟨s0, s1⟩
      (try simp only [← List.toArray_replicate, List.size_toArray, List.length_cons, List.length_nil, Nat.reduceAdd, List.replicate_succ, List.replicate_zero])
      generalize World.drew wr = x4 at *
      refine wpAnyH_take (i := 0) (oi := _) (v := ?_) rfl (by kernel_rfl) (by kernel_rfl) (by kernel_rfl) (fun _ _ _ h => h) (Or.inl ⟨by rfl, ?_⟩) (by assumption) ?_
      rotate_left
      · (intro w hSw; (try dsimp only at hSw); (try go_simp); (try with_reducible rfl))
      (try simp only [Act.put, List.getElem_toArray, List.getElem_cons_succ, List.getElem_cons_zero, List.setIfInBounds_toArray, List.set_cons_zero, List.set_cons_succ])
      refine wpAnyH_take (i := 1) (oi := _) (v := ?_) rfl (by kernel_rfl) (by kernel_rfl) (by kernel_rfl) (fun _ _ _ h => h) (Or.inl ⟨by rfl, ?_⟩) (by assumption) ?_
      rotate_left
      · (intro w hSw; (try dsimp only at hSw); (try go_simp); (try with_reducible rfl))
      (try simp only [Act.put, List.getElem_toArray, List.getElem_cons_succ, List.getElem_cons_zero, List.setIfInBounds_toArray, List.set_cons_zero, List.set_cons_succ])
      refine wpAnyH_take (i := 2) (oi := _) (v := ?_) rfl (by kernel_rfl) (by kernel_rfl) (by kernel_rfl) (fun _ _ _ h => h) (Or.inl ⟨by rfl, ?_⟩) (by assumption) ?_
      rotate_left
      · (intro w hSw; (try dsimp only at hSw); (try go_simp); (try with_reducible rfl))
      (try simp only [Act.put, List.getElem_toArray, List.getElem_cons_succ, List.getElem_cons_zero, List.setIfInBounds_toArray, List.set_cons_zero, List.set_cons_succ])
      refine wpAnyH_take (i := 3) (oi := _) (v := ?_) rfl (by kernel_rfl) (by kernel_rfl) (by kernel_rfl) (fun _ _ _ h => h) (Or.inl ⟨by rfl, ?_⟩) (by assumption) ?_
      rotate_left
      · (intro w hSw; (try dsimp only at hSw); (try go_simp); (try with_reducible rfl))
      (try simp only [Act.put, List.getElem_toArray, List.getElem_cons_succ, List.getElem_cons_zero, List.setIfInBounds_toArray, List.set_cons_zero, List.set_cons_succ])
      refine wpAnyH_take (i := 4) (oi := _) (v := ?_) rfl (by kernel_rfl) (by kernel_rfl) (by kernel_rfl) (fun _ _ _ h => h) (Or.inl ⟨by rfl, ?_⟩) (by assumption) ?_
      rotate_left
      · (intro w hSw; (try dsimp only at hSw); (try go_simp); (try with_reducible rfl))
      (try simp only [Act.put, List.getElem_toArray, List.getElem_cons_succ, List.getElem_cons_zero, List.setIfInBounds_toArray, List.set_cons_zero, List.set_cons_succ])
      refine wpAnyH_take (i := 5) (oi := _) (v := ?_) rfl (by kernel_rfl) (by kernel_rfl) (by kernel_rfl) (fun _ _ _ h => h) (Or.inl ⟨by rfl, ?_⟩) (by assumption) ?_
      rotate_left
      · (intro w hSw; (try dsimp only at hSw); (try go_simp); (try with_reducible rfl))
      (try simp only [Act.put, List.getElem_toArray, List.getElem_cons_succ, List.getElem_cons_zero, List.setIfInBounds_toArray, List.set_cons_zero, List.set_cons_succ])
      refine wpAnyH_take (i := 6) (oi := _) (v := ?_) rfl (by kernel_rfl) (by kernel_rfl) (by kernel_rfl) (fun _ _ _ h => h) (Or.inl ⟨by rfl, ?_⟩) (by assumption) ?_
      rotate_left
      · (intro w hSw; (try dsimp only at hSw); (try go_simp); (try with_reducible rfl))
      (try simp only [Act.put, List.getElem_toArray, List.getElem_cons_succ, List.getElem_cons_zero, List.setIfInBounds_toArray, List.set_cons_zero, List.set_cons_succ])
      refine wpAnyH_take (i := 7) (oi := _) (v := ?_) rfl (by kernel_rfl) (by kernel_rfl) (by kernel_rfl) (fun _ _ _ h => h) (Or.inl ⟨by rfl, ?_⟩) (by assumption) ?_
      rotate_left
      · (intro w hSw; (try dsimp only at hSw); (try go_simp); (try with_reducible rfl))
      (try simp only [Act.put, List.getElem_toArray, List.getElem_cons_succ, List.getElem_cons_zero, List.setIfInBounds_toArray, List.set_cons_zero, List.set_cons_succ])
      refine wpAnyH_take (i := 8) (oi := _) (v := ?_) rfl (by kernel_rfl) (by kernel_rfl) (by kernel_rfl) (fun _ _ _ h => h) (Or.inl ⟨by rfl, ?_⟩) (by assumption) ?_
      rotate_left
      · (intro w hSw; (try dsimp only at hSw); (try go_simp); (try with_reducible rfl))
      (try simp only [Act.put, List.getElem_toArray, List.getElem_cons_succ, List.getElem_cons_zero, List.setIfInBounds_toArray, List.set_cons_zero, List.set_cons_succ])
      refine wpAnyH_take (i := 9) (oi := _) (v := ?_) rfl (by kernel_rfl) (by kernel_rfl) (by kernel_rfl) (fun _ _ _ h => h) (Or.inl ⟨by rfl, ?_⟩) (by assumption) ?_
      rotate_left
      · (intro w hSw; (try dsimp only at hSw); (try go_simp); (try with_reducible rfl))
      (try simp only [Act.put, List.getElem_toArray, List.getElem_cons_succ, List.getElem_cons_zero, List.setIfInBounds_toArray, List.set_cons_zero, List.set_cons_succ])
      refine wpAnyH_take (i := 10) (oi := _) (v := ?_) rfl (by kernel_rfl) (by kernel_rfl) (by kernel_rfl) (fun _ _ _ h => h) (Or.inl ⟨by rfl, ?_⟩) (by assumption) ?_
      rotate_left
      · (intro w hSw; (try dsimp only at hSw); (try go_simp); (try with_reducible rfl))
      (try simp only [Act.put, List.getElem_toArray, List.getElem_cons_succ, List.getElem_cons_zero, List.setIfInBounds_toArray, List.set_cons_zero, List.set_cons_succ])
      refine wpAnyH_take (i := 11) (oi := _) (v := ?_) rfl (by kernel_rfl) (by kernel_rfl) (by kernel_rfl) (fun _ _ _ h => h) (Or.inl ⟨by rfl, ?_⟩) (by assumption) ?_
      rotate_left
      · (intro w hSw; (try dsimp only at hSw); (try go_simp); (try with_reducible rfl))
      (try simp only [Act.put, List.getElem_toArray, List.getElem_cons_succ, List.getElem_cons_zero, List.setIfInBounds_toArray, List.set_cons_zero, List.set_cons_succ])
      refine wpAnyH_ready (rs := [12]) (by kernel_rfl) (by simp) ?_
      refine AllReadyH.cons (o := _) rfl (fun K hK => ?_) ?_
      · go_simp
        (with_reducible refine (HM.out _).mono ?_); rintro e x5 ⟨v, rfl, hv, hy⟩; have hzx := hx.size; replace hE := hE.trans hy; replace hx := hx.trans hy; replace s0 := cell_exQ hy s0; replace s1 := cell_exQ hy s1; replace Kc := kE Kc hy; replace Kr := kE Kr hy; clear hy; obtain ⟨nv, av, qv, cv, bv, kv, dv, rfl, hv', hf', hg'⟩ := hv; have Vv := Lib.hid hv'; have Fv := Lib.hid (fun A hA => Nat.le_trans hzx (hf' A hA)); have Gv := Lib.hid (fun A hA => Nat.le_trans hzx (hg' A hA)); clear hv' hf' hg' hzx
        refine hK.out _ _ ?_ (fun hHeld2 => ?_)
        · exact ⟨s0, s1⟩
        clear hK K hHeld
        have hHeld := hHeld2
        clear hHeld2
        (try simp only [Act.put, List.getElem_toArray, List.getElem_cons_succ, List.getElem_cons_zero, List.setIfInBounds_toArray, List.set_cons_zero, List.set_cons_succ])
        refine wpAnyH_take (i := 13) (oi := _) (v := ?_) rfl (by kernel_rfl) (by kernel_rfl) (by kernel_rfl) (fun _ _ _ h => h) (Or.inl ⟨by rfl, ?_⟩) (by assumption) ?_
        rotate_left
        · (intro w hSw; (try dsimp only at hSw); (try go_simp); (try with_reducible rfl))
        (try simp only [Act.put, List.getElem_toArray, List.getElem_cons_succ, List.getElem_cons_zero, List.setIfInBounds_toArray, List.set_cons_zero, List.set_cons_succ])
        refine wpAnyH_take (i := 14) (oi := _) (v := ?_) rfl (by kernel_rfl) (by kernel_rfl) (by kernel_rfl) (fun _ _ _ h => h) (Or.inl ⟨by rfl, ?_⟩) (by assumption) ?_
        rotate_left
        · (intro w hSw; (try dsimp only at hSw); (try go_simp); (try with_reducible rfl))
        (try simp only [Act.put, List.getElem_toArray, List.getElem_cons_succ, List.getElem_cons_zero, List.setIfInBounds_toArray, List.set_cons_zero, List.set_cons_succ])
        refine wpAnyH_ready (rs := [15]) (by kernel_rfl) (by simp) ?_
        refine AllReadyH.cons (o := _) rfl (fun K hK => ?_) ?_
        · obtain ⟨g0, z0, g1, z1, g2, z2, g3, z3⟩ := bp4 Kr (.bool nv) (.slice av qv cv) (.bool false) (.slice bv kv dv); go_simp; clear g0 z0 g1 z1 g2 z2 g3 z3; replace Vv := (by first | exact rv4 Vv Kr (.bool nv) (.slice av qv cv) (.bool false) (.slice bv kv dv) rfl rfl rfl rfl | exact bv4 Vv Kr (.bool nv) (.slice av qv cv) (.bool false) (.slice bv kv dv) rfl rfl rfl rfl); replace hx := bx4 hx (w.heap.size + 1) (.bool nv) (.slice av qv cv) (.bool false) (.slice bv kv dv) (by omega); replace s0 := bf4 s0 (w.heap.size + 1) (.bool nv) (.slice av qv cv) (.bool false) (.slice bv kv dv) (by omega); replace s1 := bf4 s1 (w.heap.size + 1) (.bool nv) (.slice av qv cv) (.bool false) (.slice bv kv dv) (by omega); replace Kc := bo4 Kc (w.heap.size + 1) (.bool nv) (.slice av qv cv) (.bool false) (.slice bv kv dv) (by omega); replace Kr := bs4 Kr (.bool nv) (.slice av qv cv) (.bool false) (.slice bv kv dv); clear hE; generalize (World.setCell (World.setCell (World.setCell (World.setCell x5 ⟨w.heap.size + 1, 0, none⟩ (.bool nv)) ⟨w.heap.size + 1, 1, none⟩ (.slice av qv cv)) ⟨w.heap.size + 1, 2, none⟩ (.bool false)) ⟨w.heap.size + 1, 3, none⟩ (.slice bv kv dv)) = x6 at *; have hE := Ext.refl x6
          refine hK.out _ _ ?_ (fun hHeld2 => ?_)
          · exact ⟨s0, s1⟩
          clear hK K hHeld
          have hHeld := hHeld2
          clear hHeld2
          (try simp only [Act.put, List.getElem_toArray, List.getElem_cons_succ, List.getElem_cons_zero, List.setIfInBounds_toArray, List.set_cons_zero, List.set_cons_succ])
          refine wpAnyH_take (i := 16) (oi := _) (v := ?_) rfl (by kernel_rfl) (by kernel_rfl) (by kernel_rfl) (fun _ _ _ h => h) (Or.inl ⟨by rfl, ?_⟩) (by assumption) ?_
          rotate_left
          · (intro w hSw; (try dsimp only at hSw); (try go_simp); (try with_reducible rfl))
          (try simp only [Act.put, List.getElem_toArray, List.getElem_cons_succ, List.getElem_cons_zero, List.setIfInBounds_toArray, List.set_cons_zero, List.set_cons_succ])
          refine wpAnyH_done (by kernel_rfl) ?_ _
          go_wp2_with fail
          obtain ⟨cr0, cr1, cr2, cr3⟩ := bk4 Kr
          refine bodyPost_ret (v := .tuple #[.agg #[.bool nv, .slice av qv cv, .bool false, .slice bv kv dv], .int .i64 0]) (by simp [results, Try.results25, go_sem, cr0, cr1, cr2, cr3]) rfl ?_
          exact ⟨_, rfl, ⟨_, _, _, _, _, _, _, rfl, Vv.out, Fv.out, Gv.out⟩, hx⟩
        exact AllReadyH.nil
      exact AllReadyH.nil
set_option maxHeartbeats 8000000 in
theorem ref16_Total_off1 (c : CritA) (hc : c.In) (hr : rightC c = true) (a : Option Addr) (cap : Nat) (l : List Int) (w : World) (h : Ints w a cap l) (hl2 : l.length ≤ 256) (hh : c.how = 1) (hl : 0 < l.length) (hon : ¬ ∀ x ∈ l, onC c x = true) :
    Calls Try.prog 25 #[c.val, .slice a l.length cap] w (RatE 160 w) := by
  have hle := h.le
  have hmx := h.mx
  have hrr := rightC_iff.1 hr
  have HC := Lib.hid (ref16_Right c hc)
  rw [hr] at HC
  have HI := Lib.hid h
  have HRR := Lib.hid hrr
  have HOn := Lib.hid (fun m hm => ref16_On c hc hrr m hm)
  have HTn := Lib.hid (fun m hm => ref16_Turn c hc hrr m hm)
  have tr1 := hrr.tr
  have tr2 := hrr.tm
  have ht0 : c.tr = 0 := hrr.mn.resolve_left (by omega)

  obtain ⟨nm, lo, hi, st, how, tr, rv⟩ := c
  dsimp only [CritA.val, CritA.cells] at *

  subst hh
  subst ht0
  clear h hrr hr hc
  obtain ⟨x1, hw, hx, Kc, Kr⟩ := boxQ2 w #[.string nm, .int .i64 lo, .int .i64 hi, .int .i64 st, .int .i64 1, .int .i64 0, .bool rv] 48 #[.bool false, .slice none 0 0, .bool false, .slice none 0 0] 35
  replace hw := Lib.hid hw
  go_enter Try.func25, Try.ntmps25
  go_upto_region 1 with fail
  try simp only [Nat.add_assoc, Nat.reduceAdd, Nat.add_zero]
  rw [hw.out]
  clear hw
  have hs0 := hx.size
  have cc0 := Kc.out.cell (i := 0) (v := .string nm) rfl
  have cc1 := Kc.out.cell (i := 1) (v := .int .i64 lo) rfl
  have cc2 := Kc.out.cell (i := 2) (v := .int .i64 hi) rfl
  have cc3 := Kc.out.cell (i := 3) (v := .int .i64 st) rfl
  have cc4 := Kc.out.cell (i := 4) (v := .int .i64 1) rfl
  have cc5 := Kc.out.cell (i := 5) (v := .int .i64 0) rfl
  have cc6 := Kc.out.cell (i := 6) (v := .bool rv) rfl
  obtain ⟨cr0, cr1, cr2, cr3⟩ := bk4 Kr
  go_wp2_with fail
  with_reducible refine (HC.out _).mono ?_
  clear cc0 cc1 cc2 cc3 cc4 cc5 cc6 cr0 cr1 cr2 cr3
  rintro e x2 ⟨rfl, hy⟩
  replace hx := hx.trans hy
  replace Kc := kE Kc hy
  replace Kr := kE Kr hy
  clear hy
  clear HC
  have HON := Lib.hid hon
  clear hon
  have t1 : ((l.length : Int) == 0) = false := beq_false_of_ne (by omega)
  have t1n : ¬ l = [] := List.ne_nil_of_length_pos (by omega)
  have cc0 := Kc.out.cell (i := 0) (v := .string nm) rfl
  have cc1 := Kc.out.cell (i := 1) (v := .int .i64 lo) rfl
  have cc2 := Kc.out.cell (i := 2) (v := .int .i64 hi) rfl
  have cc3 := Kc.out.cell (i := 3) (v := .int .i64 st) rfl
  have cc4 := Kc.out.cell (i := 4) (v := .int .i64 1) rfl
  have cc5 := Kc.out.cell (i := 5) (v := .int .i64 0) rfl
  have cc6 := Kc.out.cell (i := 6) (v := .bool rv) rfl
  obtain ⟨cr0, cr1, cr2, cr3⟩ := bk4 Kr
  go_upto_region 9 with fail
  clear cc0 cc1 cc2 cc3 cc4 cc5 cc6 cr0 cr1 cr2 cr3
  have hgz : w.heap.size + 1 < Array.size (World.heap x2) := Kr.out.lt
  obtain ⟨hO, hE2⟩ := own_new (Ext.refl x2)
  clear hE2
  have hy := Ext.alloc x2 (.cells #[] 3)
  replace hx := hx.trans hy
  replace Kc := kE Kc hy
  replace Kr := kE Kr hy
  clear hy
  generalize World.alloc x2 (.cells #[] 3) = x3 at *
  generalize Array.size (World.heap x2) = g0 at *
  go_wp2_with fail
  have HX0 := Lib.hid hx
  have HKc := Kc
  have HKr := Kr
  go_loopw [7, 8] (fun v i wr => ∃ k : Nat, k ≤ l.length ∧ i = .int .i64 k ∧ (∀ j, j < k → ∀ x, l[j]? = some x → onC (⟨nm, lo, hi, st, 1, 0, rv⟩ : CritA) x = true) ∧ OwnI wr g0 v (accL (⟨nm, lo, hi, st, 1, 0, rv⟩ : CritA) l k) ∧ Ext x3 wr) (fun _ i _ => l.length - (intOf i).toNat)
  case atStart => exact ⟨0, Nat.zero_le _, rfl, fun j hj => absurd hj (Nat.not_lt_zero _), by simpa [accL] using hO, Ext.refl _⟩
  case round =>
    obtain ⟨k, hk, rfl, hall, hO2, hxr⟩ := hrel
    clear hO hx Kc Kr
    have hx := HX0.out.trans hxr
    have Kc := kE HKc hxr
    have Kr := kE HKr hxr
    have HA := Lib.hid hall
    obtain ⟨gl, cg, rfl, hIa, hgB⟩ := hO2.look (fun y hy => by have := mem_acc HRR.out HA.out y hy; omega)
    have HMA := Lib.hid (mem_acc HRR.out HA.out)
    have HO := Lib.hid hO2
    have HIa := Lib.hid hIa
    have HLen := Lib.hid (accL_len (⟨nm, lo, hi, st, 1, 0, rv⟩ : CritA) l hk)
    have g0k : (0 : Int) ≤ (k : Int) := by omega
    have hg0 : g0 ≤ Array.size (World.heap wr) := by have := (hO2.form).choose_spec; obtain ⟨_, _, _, h1, h2, _⟩ := hO2.form; omega
    clear hall hO2 hIa HX0 HKc HKr
    by_cases hlt : k < l.length
    · obtain ⟨b, o, rfl⟩ := HI.out.head hlt
      obtain ⟨x, hxk, hcx, hx1, hx2⟩ := Ints.get (HI.out.ext hx) hlt
      have HXK := Lib.hid hxk
      have HCX := Lib.hid hcx
      have g1 : (k : Int) < (l.length : Int) := by omega
      have hle3 := HIa.out.le
      have hmx3 := HIa.out.mx
      clear hxk
      generalize hL : accL (⟨nm, lo, hi, st, 1, 0, rv⟩ : CritA) l k = L at *
      replace hL := Lib.hid hL
      cases ho : onC (⟨nm, lo, hi, st, 1, 0, rv⟩ : CritA) x
      · have HO1 := Lib.hid (HOn.out x ⟨hx1, hx2⟩)
        rw [ho] at HO1
        have HOX := Lib.hid ho
        clear ho
        go_upto_region 12 with fail
        go_cut [45] (fun s wx => s = .bool true ∧ Ext wr wx)
        case first =>
          have hcx := HCX.out
          have s0 : World.cell? wr ⟨w.heap.size, 0, none⟩ = some (.string nm) := Kc.out.cell (i := 0) (v := .string nm) rfl
          have s1 : World.cell? wr ⟨w.heap.size, 1, none⟩ = some (.int .i64 lo) := Kc.out.cell (i := 1) (v := .int .i64 lo) rfl
          have s2 : World.cell? wr ⟨w.heap.size, 2, none⟩ = some (.int .i64 hi) := Kc.out.cell (i := 2) (v := .int .i64 hi) rfl
          have s3 : World.cell? wr ⟨w.heap.size, 3, none⟩ = some (.int .i64 st) := Kc.out.cell (i := 3) (v := .int .i64 st) rfl
          have s4 : World.cell? wr ⟨w.heap.size, 4, none⟩ = some (.int .i64 1) := Kc.out.cell (i := 4) (v := .int .i64 1) rfl
          have s5 : World.cell? wr ⟨w.heap.size, 5, none⟩ = some (.int .i64 0) := Kc.out.cell (i := 5) (v := .int .i64 0) rfl
          have s6 : World.cell? wr ⟨w.heap.size, 6, none⟩ = some (.bool rv) := Kc.out.cell (i := 6) (v := .bool rv) rfl
          have s7 : World.cell? wr ⟨b, o + k, none⟩ = some (.int .i64 x) := hcx
          have hE : Ext wr (World.drew wr) := (Ext.refl _).drew
          have hyd : Ext wr (World.drew wr) := (Ext.refl _).drew
          replace hx := hx.trans hyd
          replace Kc := kE Kc hyd
          replace Kr := kE Kr hyd
          clear hyd
          replace s0 : World.cell? (World.drew wr) ⟨w.heap.size, 0, none⟩ = some (.string nm) := s0
          replace s1 : World.cell? (World.drew wr) ⟨w.heap.size, 1, none⟩ = some (.int .i64 lo) := s1
          replace s2 : World.cell? (World.drew wr) ⟨w.heap.size, 2, none⟩ = some (.int .i64 hi) := s2
          replace s3 : World.cell? (World.drew wr) ⟨w.heap.size, 3, none⟩ = some (.int .i64 st) := s3
          replace s4 : World.cell? (World.drew wr) ⟨w.heap.size, 4, none⟩ = some (.int .i64 1) := s4
          replace s5 : World.cell? (World.drew wr) ⟨w.heap.size, 5, none⟩ = some (.int .i64 0) := s5
          replace s6 : World.cell? (World.drew wr) ⟨w.heap.size, 6, none⟩ = some (.bool rv) := s6
          replace s7 : World.cell? (World.drew wr) ⟨b, o + k, none⟩ = some (.int .i64 x) := s7
          refine wp_region_held_drew (S := (fun w' => World.cell? w' ⟨w.heap.size, 0, none⟩ = some (.string nm) ∧ World.cell? w' ⟨w.heap.size, 1, none⟩ = some (.int .i64 lo) ∧ World.cell? w' ⟨w.heap.size, 2, none⟩ = some (.int .i64 hi) ∧ World.cell? w' ⟨w.heap.size, 3, none⟩ = some (.int .i64 st) ∧ World.cell? w' ⟨w.heap.size, 4, none⟩ = some (.int .i64 1) ∧ World.cell? w' ⟨w.heap.size, 5, none⟩ = some (.int .i64 0) ∧ World.cell? w' ⟨w.heap.size, 6, none⟩ = some (.bool rv) ∧ World.cell? w' ⟨b, o + k, none⟩ = some (.int .i64 x))) (by kernel_rfl) ?_ (fun hHeld => ?_)
          · exact ⟨s0, s1, s2, s3, s4, s5, s6, s7⟩
          (try simp only [← List.toArray_replicate, List.size_toArray, List.length_cons, List.length_nil, Nat.reduceAdd, List.replicate_succ, List.replicate_zero])
          generalize World.drew wr = x4 at *
          refine wpAnyH_take (i := 0) (oi := _) (v := ?_) rfl (by kernel_rfl) (by kernel_rfl) (by kernel_rfl) (fun _ _ _ h => h) (Or.inl ⟨by rfl, ?_⟩) (by assumption) ?_
          rotate_left
          · (intro w hSw; (try dsimp only at hSw); (try go_simp); (try with_reducible rfl))
          (try simp only [Act.put, List.getElem_toArray, List.getElem_cons_succ, List.getElem_cons_zero, List.setIfInBounds_toArray, List.set_cons_zero, List.set_cons_succ])
          refine wpAnyH_take (i := 1) (oi := _) (v := ?_) rfl (by kernel_rfl) (by kernel_rfl) (by kernel_rfl) (fun _ _ _ h => h) (Or.inl ⟨by rfl, ?_⟩) (by assumption) ?_
          rotate_left
          · (intro w hSw; (try dsimp only at hSw); (try go_simp); (try with_reducible rfl))
          (try simp only [Act.put, List.getElem_toArray, List.getElem_cons_succ, List.getElem_cons_zero, List.setIfInBounds_toArray, List.set_cons_zero, List.set_cons_succ])
          refine wpAnyH_take (i := 2) (oi := _) (v := ?_) rfl (by kernel_rfl) (by kernel_rfl) (by kernel_rfl) (fun _ _ _ h => h) (Or.inl ⟨by rfl, ?_⟩) (by assumption) ?_
          rotate_left
          · (intro w hSw; (try dsimp only at hSw); (try go_simp); (try with_reducible rfl))
          (try simp only [Act.put, List.getElem_toArray, List.getElem_cons_succ, List.getElem_cons_zero, List.setIfInBounds_toArray, List.set_cons_zero, List.set_cons_succ])
          refine wpAnyH_take (i := 3) (oi := _) (v := ?_) rfl (by kernel_rfl) (by kernel_rfl) (by kernel_rfl) (fun _ _ _ h => h) (Or.inl ⟨by rfl, ?_⟩) (by assumption) ?_
          rotate_left
          · (intro w hSw; (try dsimp only at hSw); (try go_simp); (try with_reducible rfl))
          (try simp only [Act.put, List.getElem_toArray, List.getElem_cons_succ, List.getElem_cons_zero, List.setIfInBounds_toArray, List.set_cons_zero, List.set_cons_succ])
          refine wpAnyH_take (i := 4) (oi := _) (v := ?_) rfl (by kernel_rfl) (by kernel_rfl) (by kernel_rfl) (fun _ _ _ h => h) (Or.inl ⟨by rfl, ?_⟩) (by assumption) ?_
          rotate_left
          · (intro w hSw; (try dsimp only at hSw); (try go_simp); (try with_reducible rfl))
          (try simp only [Act.put, List.getElem_toArray, List.getElem_cons_succ, List.getElem_cons_zero, List.setIfInBounds_toArray, List.set_cons_zero, List.set_cons_succ])
          refine wpAnyH_ready (rs := [5]) (by kernel_rfl) (by simp) ?_
          refine AllReadyH.cons (o := _) rfl (fun K hK => ?_) ?_
          · go_simp
            (with_reducible refine (HO1.out _).mono ?_); rintro e x5 ⟨rfl, hy⟩; replace hE := hE.trans hy; replace hx := hx.trans hy; replace s0 := cell_exQ hy s0; replace s1 := cell_exQ hy s1; replace s2 := cell_exQ hy s2; replace s3 := cell_exQ hy s3; replace s4 := cell_exQ hy s4; replace s5 := cell_exQ hy s5; replace s6 := cell_exQ hy s6; replace s7 := cell_exQ hy s7; replace Kc := kE Kc hy; replace Kr := kE Kr hy; clear hy
            refine hK.out _ _ ?_ (fun hHeld2 => ?_)
            · exact ⟨s0, s1, s2, s3, s4, s5, s6, s7⟩
            clear hK K hHeld
            have hHeld := hHeld2
            clear hHeld2
            (try simp only [Act.put, List.getElem_toArray, List.getElem_cons_succ, List.getElem_cons_zero, List.setIfInBounds_toArray, List.set_cons_zero, List.set_cons_succ])
            refine wpAnyH_take (i := 6) (oi := _) (v := ?_) rfl (by kernel_rfl) (by kernel_rfl) (by kernel_rfl) (fun _ _ _ h => h) (Or.inl ⟨by rfl, ?_⟩) (by assumption) ?_
            rotate_left
            · (intro w hSw; (try dsimp only at hSw); (try go_simp); (try with_reducible rfl))
            (try simp only [Act.put, List.getElem_toArray, List.getElem_cons_succ, List.getElem_cons_zero, List.setIfInBounds_toArray, List.set_cons_zero, List.set_cons_succ])
            refine wpAnyH_done (by kernel_rfl) ?_ _
            go_wp2_with fail
            go_meet
            exact ⟨rfl, hE⟩
          exact AllReadyH.nil
        case rest =>
        obtain ⟨rfl, hy⟩ := hcut
        have HXR := Lib.hid (hxr.trans hy)
        have hcx := cell_exQ hy HCX.out
        have HO3 := Lib.hid (HO.out.ext hy)
        have HIa3 := Lib.hid (HIa.out.ext hy)
        have hg1 := hy.size
        replace hx := hx.trans hy
        replace Kc := kE Kc hy
        replace Kr := kE Kr hy
        clear hy
        have cc0 := Kc.out.cell (i := 0) (v := .string nm) rfl
        have cc1 := Kc.out.cell (i := 1) (v := .int .i64 lo) rfl
        have cc2 := Kc.out.cell (i := 2) (v := .int .i64 hi) rfl
        have cc3 := Kc.out.cell (i := 3) (v := .int .i64 st) rfl
        have cc4 := Kc.out.cell (i := 4) (v := .int .i64 1) rfl
        have cc5 := Kc.out.cell (i := 5) (v := .int .i64 0) rfl
        have cc6 := Kc.out.cell (i := 6) (v := .bool rv) rfl
        obtain ⟨cr0, cr1, cr2, cr3⟩ := bk4 Kr
        obtain ⟨g0, z0, g1, z1, g2, z2, g3, z3⟩ := bp4 Kr (.bool false) (.slice none 0 0) (.bool false) (.slice none 0 0)
        go_wp2_with fail
        clear g0 z0 g1 z1 g2 z2 g3 z3
        clear cc0 cc1 cc2 cc3 cc4 cc5 cc6 cr0 cr1 cr2 cr3
        replace hx := bx4 hx (w.heap.size + 1) (.bool false) (.slice none 0 0) (.bool false) (.slice none 0 0) (by omega)
        replace Kc := bo4 Kc (w.heap.size + 1) (.bool false) (.slice none 0 0) (.bool false) (.slice none 0 0) (by omega)
        replace Kr := bs4 Kr (.bool false) (.slice none 0 0) (.bool false) (.slice none 0 0)
        generalize ((((wc).setCell ⟨w.heap.size + 1, 0, none⟩ (.bool false)).setCell ⟨w.heap.size + 1, 1, none⟩ (.slice none 0 0)).setCell ⟨w.heap.size + 1, 2, none⟩ (.bool false)).setCell ⟨w.heap.size + 1, 3, none⟩ (.slice none 0 0) = x6 at *
        obtain ⟨cr0, cr1, cr2, cr3⟩ := bk4 Kr
        refine bodyPost_ret (v := .tuple #[.agg #[.bool false, .slice none 0 0, .bool false, .slice none 0 0], .int .i64 160]) (by simp [results, Try.results25, go_sem, cr0, cr1, cr2, cr3]) rfl ?_
        exact ⟨rfl, hx⟩
      · have HO1 := Lib.hid (HOn.out x ⟨hx1, hx2⟩)
        rw [ho] at HO1
        have HOX := Lib.hid ho
        clear ho
        go_upto_region 12 with fail
        go_cut [45] (fun s wx => s = .bool false ∧ Ext wr wx)
        case first =>
          have hcx := HCX.out
          have s0 : World.cell? wr ⟨w.heap.size, 0, none⟩ = some (.string nm) := Kc.out.cell (i := 0) (v := .string nm) rfl
          have s1 : World.cell? wr ⟨w.heap.size, 1, none⟩ = some (.int .i64 lo) := Kc.out.cell (i := 1) (v := .int .i64 lo) rfl
          have s2 : World.cell? wr ⟨w.heap.size, 2, none⟩ = some (.int .i64 hi) := Kc.out.cell (i := 2) (v := .int .i64 hi) rfl
          have s3 : World.cell? wr ⟨w.heap.size, 3, none⟩ = some (.int .i64 st) := Kc.out.cell (i := 3) (v := .int .i64 st) rfl
          have s4 : World.cell? wr ⟨w.heap.size, 4, none⟩ = some (.int .i64 1) := Kc.out.cell (i := 4) (v := .int .i64 1) rfl
          have s5 : World.cell? wr ⟨w.heap.size, 5, none⟩ = some (.int .i64 0) := Kc.out.cell (i := 5) (v := .int .i64 0) rfl
          have s6 : World.cell? wr ⟨w.heap.size, 6, none⟩ = some (.bool rv) := Kc.out.cell (i := 6) (v := .bool rv) rfl
          have s7 : World.cell? wr ⟨b, o + k, none⟩ = some (.int .i64 x) := hcx
          have hE : Ext wr (World.drew wr) := (Ext.refl _).drew
          have hyd : Ext wr (World.drew wr) := (Ext.refl _).drew
          replace hx := hx.trans hyd
          replace Kc := kE Kc hyd
          replace Kr := kE Kr hyd
          clear hyd
          replace s0 : World.cell? (World.drew wr) ⟨w.heap.size, 0, none⟩ = some (.string nm) := s0
          replace s1 : World.cell? (World.drew wr) ⟨w.heap.size, 1, none⟩ = some (.int .i64 lo) := s1
          replace s2 : World.cell? (World.drew wr) ⟨w.heap.size, 2, none⟩ = some (.int .i64 hi) := s2
          replace s3 : World.cell? (World.drew wr) ⟨w.heap.size, 3, none⟩ = some (.int .i64 st) := s3
          replace s4 : World.cell? (World.drew wr) ⟨w.heap.size, 4, none⟩ = some (.int .i64 1) := s4
          replace s5 : World.cell? (World.drew wr) ⟨w.heap.size, 5, none⟩ = some (.int .i64 0) := s5
          replace s6 : World.cell? (World.drew wr) ⟨w.heap.size, 6, none⟩ = some (.bool rv) := s6
          replace s7 : World.cell? (World.drew wr) ⟨b, o + k, none⟩ = some (.int .i64 x) := s7
          refine wp_region_held_drew (S := (fun w' => World.cell? w' ⟨w.heap.size, 0, none⟩ = some (.string nm) ∧ World.cell? w' ⟨w.heap.size, 1, none⟩ = some (.int .i64 lo) ∧ World.cell? w' ⟨w.heap.size, 2, none⟩ = some (.int .i64 hi) ∧ World.cell? w' ⟨w.heap.size, 3, none⟩ = some (.int .i64 st) ∧ World.cell? w' ⟨w.heap.size, 4, none⟩ = some (.int .i64 1) ∧ World.cell? w' ⟨w.heap.size, 5, none⟩ = some (.int .i64 0) ∧ World.cell? w' ⟨w.heap.size, 6, none⟩ = some (.bool rv) ∧ World.cell? w' ⟨b, o + k, none⟩ = some (.int .i64 x))) (by kernel_rfl) ?_ (fun hHeld => ?_)
          · exact ⟨s0, s1, s2, s3, s4, s5, s6, s7⟩
          (try simp only [← List.toArray_replicate, List.size_toArray, List.length_cons, List.length_nil, Nat.reduceAdd, List.replicate_succ, List.replicate_zero])
          generalize World.drew wr = x4 at *
          refine wpAnyH_take (i := 0) (oi := _) (v := ?_) rfl (by kernel_rfl) (by kernel_rfl) (by kernel_rfl) (fun _ _ _ h => h) (Or.inl ⟨by rfl, ?_⟩) (by assumption) ?_
          rotate_left
          · (intro w hSw; (try dsimp only at hSw); (try go_simp); (try with_reducible rfl))
          (try simp only [Act.put, List.getElem_toArray, List.getElem_cons_succ, List.getElem_cons_zero, List.setIfInBounds_toArray, List.set_cons_zero, List.set_cons_succ])
          refine wpAnyH_take (i := 1) (oi := _) (v := ?_) rfl (by kernel_rfl) (by kernel_rfl) (by kernel_rfl) (fun _ _ _ h => h) (Or.inl ⟨by rfl, ?_⟩) (by assumption) ?_
          rotate_left
          · (intro w hSw; (try dsimp only at hSw); (try go_simp); (try with_reducible rfl))
          (try simp only [Act.put, List.getElem_toArray, List.getElem_cons_succ, List.getElem_cons_zero, List.setIfInBounds_toArray, List.set_cons_zero, List.set_cons_succ])
          refine wpAnyH_take (i := 2) (oi := _) (v := ?_) rfl (by kernel_rfl) (by kernel_rfl) (by kernel_rfl) (fun _ _ _ h => h) (Or.inl ⟨by rfl, ?_⟩) (by assumption) ?_
          rotate_left
          · (intro w hSw; (try dsimp only at hSw); (try go_simp); (try with_reducible rfl))
          (try simp only [Act.put, List.getElem_toArray, List.getElem_cons_succ, List.getElem_cons_zero, List.setIfInBounds_toArray, List.set_cons_zero, List.set_cons_succ])
          refine wpAnyH_take (i := 3) (oi := _) (v := ?_) rfl (by kernel_rfl) (by kernel_rfl) (by kernel_rfl) (fun _ _ _ h => h) (Or.inl ⟨by rfl, ?_⟩) (by assumption) ?_
          rotate_left
          · (intro w hSw; (try dsimp only at hSw); (try go_simp); (try with_reducible rfl))
          (try simp only [Act.put, List.getElem_toArray, List.getElem_cons_succ, List.getElem_cons_zero, List.setIfInBounds_toArray, List.set_cons_zero, List.set_cons_succ])
          refine wpAnyH_take (i := 4) (oi := _) (v := ?_) rfl (by kernel_rfl) (by kernel_rfl) (by kernel_rfl) (fun _ _ _ h => h) (Or.inl ⟨by rfl, ?_⟩) (by assumption) ?_
          rotate_left
          · (intro w hSw; (try dsimp only at hSw); (try go_simp); (try with_reducible rfl))
          (try simp only [Act.put, List.getElem_toArray, List.getElem_cons_succ, List.getElem_cons_zero, List.setIfInBounds_toArray, List.set_cons_zero, List.set_cons_succ])
          refine wpAnyH_ready (rs := [5]) (by kernel_rfl) (by simp) ?_
          refine AllReadyH.cons (o := _) rfl (fun K hK => ?_) ?_
          · go_simp
            (with_reducible refine (HO1.out _).mono ?_); rintro e x5 ⟨rfl, hy⟩; replace hE := hE.trans hy; replace hx := hx.trans hy; replace s0 := cell_exQ hy s0; replace s1 := cell_exQ hy s1; replace s2 := cell_exQ hy s2; replace s3 := cell_exQ hy s3; replace s4 := cell_exQ hy s4; replace s5 := cell_exQ hy s5; replace s6 := cell_exQ hy s6; replace s7 := cell_exQ hy s7; replace Kc := kE Kc hy; replace Kr := kE Kr hy; clear hy
            refine hK.out _ _ ?_ (fun hHeld2 => ?_)
            · exact ⟨s0, s1, s2, s3, s4, s5, s6, s7⟩
            clear hK K hHeld
            have hHeld := hHeld2
            clear hHeld2
            (try simp only [Act.put, List.getElem_toArray, List.getElem_cons_succ, List.getElem_cons_zero, List.setIfInBounds_toArray, List.set_cons_zero, List.set_cons_succ])
            refine wpAnyH_take (i := 6) (oi := _) (v := ?_) rfl (by kernel_rfl) (by kernel_rfl) (by kernel_rfl) (fun _ _ _ h => h) (Or.inl ⟨by rfl, ?_⟩) (by assumption) ?_
            rotate_left
            · (intro w hSw; (try dsimp only at hSw); (try go_simp); (try with_reducible rfl))
            (try simp only [Act.put, List.getElem_toArray, List.getElem_cons_succ, List.getElem_cons_zero, List.setIfInBounds_toArray, List.set_cons_zero, List.set_cons_succ])
            refine wpAnyH_done (by kernel_rfl) ?_ _
            go_wp2_with fail
            go_meet
            exact ⟨rfl, hE⟩
          exact AllReadyH.nil
        case rest =>
        obtain ⟨rfl, hy⟩ := hcut
        have HXR := Lib.hid (hxr.trans hy)
        have hcx := cell_exQ hy HCX.out
        have HO3 := Lib.hid (HO.out.ext hy)
        have HIa3 := Lib.hid (HIa.out.ext hy)
        have hg1 := hy.size
        replace hx := hx.trans hy
        replace Kc := kE Kc hy
        replace Kr := kE Kr hy
        clear hy
        have HT1 := Lib.hid (HTn.out x HOX.out)
        have HTB := Lib.hid (turn_bd HRR.out HOX.out)
        have HAC := Lib.hid ((accL_succ (c := (⟨nm, lo, hi, st, 1, 0, rv⟩ : CritA)) HXK.out).trans (by rw [hL.out]))
        generalize turnC (⟨nm, lo, hi, st, 1, 0, rv⟩ : CritA) x = y at *
        have HALL := Lib.hid (show ∀ j, j < k + 1 → ∀ u, l[j]? = some u → onC (⟨nm, lo, hi, st, 1, 0, rv⟩ : CritA) u = true from fun j hj u hu => by
          by_cases hjk : j < k
          · exact HA.out j hjk u hu
          · obtain rfl : j = k := by omega
            rw [HXK.out] at hu
            cases hu
            exact HOX.out)
        go_upto_region 14 with fail
        have s0 : World.cell? wc ⟨w.heap.size, 0, none⟩ = some (.string nm) := Kc.out.cell (i := 0) (v := .string nm) rfl
        have s1 : World.cell? wc ⟨w.heap.size, 1, none⟩ = some (.int .i64 lo) := Kc.out.cell (i := 1) (v := .int .i64 lo) rfl
        have s2 : World.cell? wc ⟨w.heap.size, 2, none⟩ = some (.int .i64 hi) := Kc.out.cell (i := 2) (v := .int .i64 hi) rfl
        have s3 : World.cell? wc ⟨w.heap.size, 3, none⟩ = some (.int .i64 st) := Kc.out.cell (i := 3) (v := .int .i64 st) rfl
        have s4 : World.cell? wc ⟨w.heap.size, 4, none⟩ = some (.int .i64 1) := Kc.out.cell (i := 4) (v := .int .i64 1) rfl
        have s5 : World.cell? wc ⟨w.heap.size, 5, none⟩ = some (.int .i64 0) := Kc.out.cell (i := 5) (v := .int .i64 0) rfl
        have s6 : World.cell? wc ⟨w.heap.size, 6, none⟩ = some (.bool rv) := Kc.out.cell (i := 6) (v := .bool rv) rfl
        have s7 : World.cell? wc ⟨b, o + k, none⟩ = some (.int .i64 x) := hcx
        have hE : Ext wc (World.drew wc) := (Ext.refl _).drew
        have hyd : Ext wc (World.drew wc) := (Ext.refl _).drew
        replace hx := hx.trans hyd
        replace Kc := kE Kc hyd
        replace Kr := kE Kr hyd
        clear hyd
        replace s0 : World.cell? (World.drew wc) ⟨w.heap.size, 0, none⟩ = some (.string nm) := s0
        replace s1 : World.cell? (World.drew wc) ⟨w.heap.size, 1, none⟩ = some (.int .i64 lo) := s1
        replace s2 : World.cell? (World.drew wc) ⟨w.heap.size, 2, none⟩ = some (.int .i64 hi) := s2
        replace s3 : World.cell? (World.drew wc) ⟨w.heap.size, 3, none⟩ = some (.int .i64 st) := s3
        replace s4 : World.cell? (World.drew wc) ⟨w.heap.size, 4, none⟩ = some (.int .i64 1) := s4
        replace s5 : World.cell? (World.drew wc) ⟨w.heap.size, 5, none⟩ = some (.int .i64 0) := s5
        replace s6 : World.cell? (World.drew wc) ⟨w.heap.size, 6, none⟩ = some (.bool rv) := s6
        replace s7 : World.cell? (World.drew wc) ⟨b, o + k, none⟩ = some (.int .i64 x) := s7
        refine wp_region_held_drew (S := (fun w' => World.cell? w' ⟨w.heap.size, 0, none⟩ = some (.string nm) ∧ World.cell? w' ⟨w.heap.size, 1, none⟩ = some (.int .i64 lo) ∧ World.cell? w' ⟨w.heap.size, 2, none⟩ = some (.int .i64 hi) ∧ World.cell? w' ⟨w.heap.size, 3, none⟩ = some (.int .i64 st) ∧ World.cell? w' ⟨w.heap.size, 4, none⟩ = some (.int .i64 1) ∧ World.cell? w' ⟨w.heap.size, 5, none⟩ = some (.int .i64 0) ∧ World.cell? w' ⟨w.heap.size, 6, none⟩ = some (.bool rv) ∧ World.cell? w' ⟨b, o + k, none⟩ = some (.int .i64 x))) (by kernel_rfl) ?_ (fun hHeld => ?_)
        · exact ⟨s0, s1, s2, s3, s4, s5, s6, s7⟩
        (try simp only [← List.toArray_replicate, List.size_toArray, List.length_cons, List.length_nil, Nat.reduceAdd, List.replicate_succ, List.replicate_zero])
        generalize World.drew wc = x6 at *
        refine wpAnyH_take (i := 0) (oi := _) (v := ?_) rfl (by kernel_rfl) (by kernel_rfl) (by kernel_rfl) (fun _ _ _ h => h) (Or.inl ⟨by rfl, ?_⟩) (by assumption) ?_
        rotate_left
        · (intro w hSw; (try dsimp only at hSw); (try go_simp); (try with_reducible rfl))
        (try simp only [Act.put, List.getElem_toArray, List.getElem_cons_succ, List.getElem_cons_zero, List.setIfInBounds_toArray, List.set_cons_zero, List.set_cons_succ])
        refine wpAnyH_take (i := 1) (oi := _) (v := ?_) rfl (by kernel_rfl) (by kernel_rfl) (by kernel_rfl) (fun _ _ _ h => h) (Or.inl ⟨by rfl, ?_⟩) (by assumption) ?_
        rotate_left
        · (intro w hSw; (try dsimp only at hSw); (try go_simp); (try with_reducible rfl))
        (try simp only [Act.put, List.getElem_toArray, List.getElem_cons_succ, List.getElem_cons_zero, List.setIfInBounds_toArray, List.set_cons_zero, List.set_cons_succ])
        refine wpAnyH_take (i := 2) (oi := _) (v := ?_) rfl (by kernel_rfl) (by kernel_rfl) (by kernel_rfl) (fun _ _ _ h => h) (Or.inl ⟨by rfl, ?_⟩) (by assumption) ?_
        rotate_left
        · (intro w hSw; (try dsimp only at hSw); (try go_simp); (try with_reducible rfl))
        (try simp only [Act.put, List.getElem_toArray, List.getElem_cons_succ, List.getElem_cons_zero, List.setIfInBounds_toArray, List.set_cons_zero, List.set_cons_succ])
        refine wpAnyH_take (i := 3) (oi := _) (v := ?_) rfl (by kernel_rfl) (by kernel_rfl) (by kernel_rfl) (fun _ _ _ h => h) (Or.inl ⟨by rfl, ?_⟩) (by assumption) ?_
        rotate_left
        · (intro w hSw; (try dsimp only at hSw); (try go_simp); (try with_reducible rfl))
        (try simp only [Act.put, List.getElem_toArray, List.getElem_cons_succ, List.getElem_cons_zero, List.setIfInBounds_toArray, List.set_cons_zero, List.set_cons_succ])
        refine wpAnyH_take (i := 4) (oi := _) (v := ?_) rfl (by kernel_rfl) (by kernel_rfl) (by kernel_rfl) (fun _ _ _ h => h) (Or.inl ⟨by rfl, ?_⟩) (by assumption) ?_
        rotate_left
        · (intro w hSw; (try dsimp only at hSw); (try go_simp); (try with_reducible rfl))
        (try simp only [Act.put, List.getElem_toArray, List.getElem_cons_succ, List.getElem_cons_zero, List.setIfInBounds_toArray, List.set_cons_zero, List.set_cons_succ])
        refine wpAnyH_take (i := 5) (oi := _) (v := ?_) rfl (by kernel_rfl) (by kernel_rfl) (by kernel_rfl) (fun _ _ _ h => h) (Or.inl ⟨by rfl, ?_⟩) (by assumption) ?_
        rotate_left
        · (intro w hSw; (try dsimp only at hSw); (try go_simp); (try with_reducible rfl))
        (try simp only [Act.put, List.getElem_toArray, List.getElem_cons_succ, List.getElem_cons_zero, List.setIfInBounds_toArray, List.set_cons_zero, List.set_cons_succ])
        refine wpAnyH_ready (rs := [6]) (by kernel_rfl) (by simp) ?_
        refine AllReadyH.cons (o := _) rfl (fun K hK => ?_) ?_
        · go_simp
          (with_reducible refine (HT1.out _).mono ?_); rintro e x7 ⟨rfl, hy⟩; replace hE := hE.trans hy; replace hx := hx.trans hy; replace s0 := cell_exQ hy s0; replace s1 := cell_exQ hy s1; replace s2 := cell_exQ hy s2; replace s3 := cell_exQ hy s3; replace s4 := cell_exQ hy s4; replace s5 := cell_exQ hy s5; replace s6 := cell_exQ hy s6; replace s7 := cell_exQ hy s7; replace Kc := kE Kc hy; replace Kr := kE Kr hy; clear hy; have hzb := hE.size
          refine hK.out _ _ ?_ (fun hHeld2 => ?_)
          · exact ⟨s0, s1, s2, s3, s4, s5, s6, s7⟩
          clear hK K hHeld
          have hHeld := hHeld2
          clear hHeld2
          (try simp only [Act.put, List.getElem_toArray, List.getElem_cons_succ, List.getElem_cons_zero, List.setIfInBounds_toArray, List.set_cons_zero, List.set_cons_succ])
          refine wpAnyH_ready (rs := [7]) (by kernel_rfl) (by simp) ?_
          refine AllReadyH.cons (o := _) rfl (fun K hK => ?_) ?_
          · go_simp
            (with_reducible refine (ref16_put gl 0 cg L y _ (HIa3.out.ext hE) (by have := HLen.out; omega) (by have := HTB.out; omega)).mono ?_); rintro e x8 ⟨v, rfl, hv, hy⟩; replace hE := hE.trans hy; replace hx := hx.trans hy; replace s0 := cell_exQ hy s0; replace s1 := cell_exQ hy s1; replace s2 := cell_exQ hy s2; replace s3 := cell_exQ hy s3; replace s4 := cell_exQ hy s4; replace s5 := cell_exQ hy s5; replace s6 := cell_exQ hy s6; replace s7 := cell_exQ hy s7; replace Kc := kE Kc hy; replace Kr := kE Kr hy; clear hy; have HNO := Lib.hid (hv.lowB (B' := g0) (by omega)); clear hv
            refine hK.out _ _ ?_ (fun hHeld2 => ?_)
            · exact ⟨s0, s1, s2, s3, s4, s5, s6, s7⟩
            clear hK K hHeld
            have hHeld := hHeld2
            clear hHeld2
            (try simp only [Act.put, List.getElem_toArray, List.getElem_cons_succ, List.getElem_cons_zero, List.setIfInBounds_toArray, List.set_cons_zero, List.set_cons_succ])
            refine wpAnyH_take (i := 8) (oi := _) (v := ?_) rfl (by kernel_rfl) (by kernel_rfl) (by kernel_rfl) (fun _ _ _ h => h) (Or.inl ⟨by rfl, ?_⟩) (by assumption) ?_
            rotate_left
            · (intro w hSw; (try dsimp only at hSw); (try go_simp); (try with_reducible rfl))
            (try simp only [Act.put, List.getElem_toArray, List.getElem_cons_succ, List.getElem_cons_zero, List.setIfInBounds_toArray, List.set_cons_zero, List.set_cons_succ])
            refine wpAnyH_done (by kernel_rfl) ?_ _
            go_wp2_with fail
            go_roundw
            case rel => exact ⟨k + 1, by omega, by go_num, HALL.out, by rw [HAC.out]; exact HNO.out, HXR.out.trans hE⟩
            case measure => simp [intOf]; omega
          exact AllReadyH.nil
        exact AllReadyH.nil
    · obtain rfl : k = l.length := by omega
      exact absurd (fun x hx => by
        obtain ⟨j, hj, e⟩ := List.getElem_of_mem hx
        exact HA.out j hj x (by rw [← e]; simp)) HON.out
set_option maxHeartbeats 8000000 in
theorem ref16_Total_off2 (c : CritA) (hc : c.In) (hr : rightC c = true) (a : Option Addr) (cap : Nat) (l : List Int) (w : World) (h : Ints w a cap l) (hl2 : l.length ≤ 256) (hh : c.how = 2) (hl : 2 * c.tr < (l.length : Int)) (hon : ¬ ∀ x ∈ l, onC c x = true) :
    Calls Try.prog 25 #[c.val, .slice a l.length cap] w (RatE 160 w) := by
  have hle := h.le
  have hmx := h.mx
  have hrr := rightC_iff.1 hr
  have HC := Lib.hid (ref16_Right c hc)
  rw [hr] at HC
  have HI := Lib.hid h
  have HRR := Lib.hid hrr
  have HOn := Lib.hid (fun m hm => ref16_On c hc hrr m hm)
  have HTn := Lib.hid (fun m hm => ref16_Turn c hc hrr m hm)
  have tr1 := hrr.tr
  have tr2 := hrr.tm

  obtain ⟨tn, htn⟩ : ∃ tn : Nat, c.tr = (tn : Int) := ⟨c.tr.toNat, by omega⟩
  obtain ⟨nm, lo, hi, st, how, tr, rv⟩ := c
  dsimp only [CritA.val, CritA.cells] at *

  subst hh
  subst htn
  clear h hrr hr hc
  obtain ⟨x1, hw, hx, Kc, Kr⟩ := boxQ2 w #[.string nm, .int .i64 lo, .int .i64 hi, .int .i64 st, .int .i64 2, .int .i64 (tn : Int), .bool rv] 48 #[.bool false, .slice none 0 0, .bool false, .slice none 0 0] 35
  replace hw := Lib.hid hw
  go_enter Try.func25, Try.ntmps25
  go_upto_region 1 with fail
  try simp only [Nat.add_assoc, Nat.reduceAdd, Nat.add_zero]
  rw [hw.out]
  clear hw
  have hs0 := hx.size
  have cc0 := Kc.out.cell (i := 0) (v := .string nm) rfl
  have cc1 := Kc.out.cell (i := 1) (v := .int .i64 lo) rfl
  have cc2 := Kc.out.cell (i := 2) (v := .int .i64 hi) rfl
  have cc3 := Kc.out.cell (i := 3) (v := .int .i64 st) rfl
  have cc4 := Kc.out.cell (i := 4) (v := .int .i64 2) rfl
  have cc5 := Kc.out.cell (i := 5) (v := .int .i64 (tn : Int)) rfl
  have cc6 := Kc.out.cell (i := 6) (v := .bool rv) rfl
  obtain ⟨cr0, cr1, cr2, cr3⟩ := bk4 Kr
  go_wp2_with fail
  with_reducible refine (HC.out _).mono ?_
  clear cc0 cc1 cc2 cc3 cc4 cc5 cc6 cr0 cr1 cr2 cr3
  rintro e x2 ⟨rfl, hy⟩
  replace hx := hx.trans hy
  replace Kc := kE Kc hy
  replace Kr := kE Kr hy
  clear hy
  clear HC
  have HON := Lib.hid hon
  clear hon
  have hl0 : 0 < l.length := by omega
  have t3 : decide ((l.length : Int) ≤ 2 * (tn : Int)) = false := decide_eq_false (by omega)
  have t1 : ((l.length : Int) == 0) = false := beq_false_of_ne (by omega)
  have t1n : ¬ l = [] := List.ne_nil_of_length_pos (by omega)
  have cc0 := Kc.out.cell (i := 0) (v := .string nm) rfl
  have cc1 := Kc.out.cell (i := 1) (v := .int .i64 lo) rfl
  have cc2 := Kc.out.cell (i := 2) (v := .int .i64 hi) rfl
  have cc3 := Kc.out.cell (i := 3) (v := .int .i64 st) rfl
  have cc4 := Kc.out.cell (i := 4) (v := .int .i64 2) rfl
  have cc5 := Kc.out.cell (i := 5) (v := .int .i64 (tn : Int)) rfl
  have cc6 := Kc.out.cell (i := 6) (v := .bool rv) rfl
  obtain ⟨cr0, cr1, cr2, cr3⟩ := bk4 Kr
  go_upto_region 9 with fail
  clear cc0 cc1 cc2 cc3 cc4 cc5 cc6 cr0 cr1 cr2 cr3
  have hgz : w.heap.size + 1 < Array.size (World.heap x2) := Kr.out.lt
  obtain ⟨hO, hE2⟩ := own_new (Ext.refl x2)
  clear hE2
  have hy := Ext.alloc x2 (.cells #[] 3)
  replace hx := hx.trans hy
  replace Kc := kE Kc hy
  replace Kr := kE Kr hy
  clear hy
  generalize World.alloc x2 (.cells #[] 3) = x3 at *
  generalize Array.size (World.heap x2) = g0 at *
  go_wp2_with fail
  have HX0 := Lib.hid hx
  have HKc := Kc
  have HKr := Kr
  go_loopw [7, 8] (fun v i wr => ∃ k : Nat, k ≤ l.length ∧ i = .int .i64 k ∧ (∀ j, j < k → ∀ x, l[j]? = some x → onC (⟨nm, lo, hi, st, 2, (tn : Int), rv⟩ : CritA) x = true) ∧ OwnI wr g0 v (accL (⟨nm, lo, hi, st, 2, (tn : Int), rv⟩ : CritA) l k) ∧ Ext x3 wr) (fun _ i _ => l.length - (intOf i).toNat)
  case atStart => exact ⟨0, Nat.zero_le _, rfl, fun j hj => absurd hj (Nat.not_lt_zero _), by simpa [accL] using hO, Ext.refl _⟩
  case round =>
    obtain ⟨k, hk, rfl, hall, hO2, hxr⟩ := hrel
    clear hO hx Kc Kr
    have hx := HX0.out.trans hxr
    have Kc := kE HKc hxr
    have Kr := kE HKr hxr
    have HA := Lib.hid hall
    obtain ⟨gl, cg, rfl, hIa, hgB⟩ := hO2.look (fun y hy => by have := mem_acc HRR.out HA.out y hy; omega)
    have HMA := Lib.hid (mem_acc HRR.out HA.out)
    have HO := Lib.hid hO2
    have HIa := Lib.hid hIa
    have HLen := Lib.hid (accL_len (⟨nm, lo, hi, st, 2, (tn : Int), rv⟩ : CritA) l hk)
    have g0k : (0 : Int) ≤ (k : Int) := by omega
    have hg0 : g0 ≤ Array.size (World.heap wr) := by have := (hO2.form).choose_spec; obtain ⟨_, _, _, h1, h2, _⟩ := hO2.form; omega
    clear hall hO2 hIa HX0 HKc HKr
    by_cases hlt : k < l.length
    · obtain ⟨b, o, rfl⟩ := HI.out.head hlt
      obtain ⟨x, hxk, hcx, hx1, hx2⟩ := Ints.get (HI.out.ext hx) hlt
      have HXK := Lib.hid hxk
      have HCX := Lib.hid hcx
      have g1 : (k : Int) < (l.length : Int) := by omega
      have hle3 := HIa.out.le
      have hmx3 := HIa.out.mx
      clear hxk
      generalize hL : accL (⟨nm, lo, hi, st, 2, (tn : Int), rv⟩ : CritA) l k = L at *
      replace hL := Lib.hid hL
      cases ho : onC (⟨nm, lo, hi, st, 2, (tn : Int), rv⟩ : CritA) x
      · have HO1 := Lib.hid (HOn.out x ⟨hx1, hx2⟩)
        rw [ho] at HO1
        have HOX := Lib.hid ho
        clear ho
        go_upto_region 12 with fail
        go_cut [45] (fun s wx => s = .bool true ∧ Ext wr wx)
        case first =>
          have hcx := HCX.out
          have s0 : World.cell? wr ⟨w.heap.size, 0, none⟩ = some (.string nm) := Kc.out.cell (i := 0) (v := .string nm) rfl
          have s1 : World.cell? wr ⟨w.heap.size, 1, none⟩ = some (.int .i64 lo) := Kc.out.cell (i := 1) (v := .int .i64 lo) rfl
          have s2 : World.cell? wr ⟨w.heap.size, 2, none⟩ = some (.int .i64 hi) := Kc.out.cell (i := 2) (v := .int .i64 hi) rfl
          have s3 : World.cell? wr ⟨w.heap.size, 3, none⟩ = some (.int .i64 st) := Kc.out.cell (i := 3) (v := .int .i64 st) rfl
          have s4 : World.cell? wr ⟨w.heap.size, 4, none⟩ = some (.int .i64 2) := Kc.out.cell (i := 4) (v := .int .i64 2) rfl
          have s5 : World.cell? wr ⟨w.heap.size, 5, none⟩ = some (.int .i64 (tn : Int)) := Kc.out.cell (i := 5) (v := .int .i64 (tn : Int)) rfl
          have s6 : World.cell? wr ⟨w.heap.size, 6, none⟩ = some (.bool rv) := Kc.out.cell (i := 6) (v := .bool rv) rfl
          have s7 : World.cell? wr ⟨b, o + k, none⟩ = some (.int .i64 x) := hcx
          have hE : Ext wr (World.drew wr) := (Ext.refl _).drew
          have hyd : Ext wr (World.drew wr) := (Ext.refl _).drew
          replace hx := hx.trans hyd
          replace Kc := kE Kc hyd
          replace Kr := kE Kr hyd
          clear hyd
          replace s0 : World.cell? (World.drew wr) ⟨w.heap.size, 0, none⟩ = some (.string nm) := s0
          replace s1 : World.cell? (World.drew wr) ⟨w.heap.size, 1, none⟩ = some (.int .i64 lo) := s1
          replace s2 : World.cell? (World.drew wr) ⟨w.heap.size, 2, none⟩ = some (.int .i64 hi) := s2
          replace s3 : World.cell? (World.drew wr) ⟨w.heap.size, 3, none⟩ = some (.int .i64 st) := s3
          replace s4 : World.cell? (World.drew wr) ⟨w.heap.size, 4, none⟩ = some (.int .i64 2) := s4
          replace s5 : World.cell? (World.drew wr) ⟨w.heap.size, 5, none⟩ = some (.int .i64 (tn : Int)) := s5
          replace s6 : World.cell? (World.drew wr) ⟨w.heap.size, 6, none⟩ = some (.bool rv) := s6
          replace s7 : World.cell? (World.drew wr) ⟨b, o + k, none⟩ = some (.int .i64 x) := s7
          refine wp_region_held_drew (S := (fun w' => World.cell? w' ⟨w.heap.size, 0, none⟩ = some (.string nm) ∧ World.cell? w' ⟨w.heap.size, 1, none⟩ = some (.int .i64 lo) ∧ World.cell? w' ⟨w.heap.size, 2, none⟩ = some (.int .i64 hi) ∧ World.cell? w' ⟨w.heap.size, 3, none⟩ = some (.int .i64 st) ∧ World.cell? w' ⟨w.heap.size, 4, none⟩ = some (.int .i64 2) ∧ World.cell? w' ⟨w.heap.size, 5, none⟩ = some (.int .i64 (tn : Int)) ∧ World.cell? w' ⟨w.heap.size, 6, none⟩ = some (.bool rv) ∧ World.cell? w' ⟨b, o + k, none⟩ = some (.int .i64 x))) (by kernel_rfl) ?_ (fun hHeld => ?_)
          · exact ⟨s0, s1, s2, s3, s4, s5, s6, s7⟩
          (try simp only [← List.toArray_replicate, List.size_toArray, List.length_cons, List.length_nil, Nat.reduceAdd, List.replicate_succ, List.replicate_zero])
          generalize World.drew wr = x4 at *
          refine wpAnyH_take (i := 0) (oi := _) (v := ?_) rfl (by kernel_rfl) (by kernel_rfl) (by kernel_rfl) (fun _ _ _ h => h) (Or.inl ⟨by rfl, ?_⟩) (by assumption) ?_
          rotate_left
          · (intro w hSw; (try dsimp only at hSw); (try go_simp); (try with_reducible rfl))
          (try simp only [Act.put, List.getElem_toArray, List.getElem_cons_succ, List.getElem_cons_zero, List.setIfInBounds_toArray, List.set_cons_zero, List.set_cons_succ])
          refine wpAnyH_take (i := 1) (oi := _) (v := ?_) rfl (by kernel_rfl) (by kernel_rfl) (by kernel_rfl) (fun _ _ _ h => h) (Or.inl ⟨by rfl, ?_⟩) (by assumption) ?_
          rotate_left
          · (intro w hSw; (try dsimp only at hSw); (try go_simp); (try with_reducible rfl))
          (try simp only [Act.put, List.getElem_toArray, List.getElem_cons_succ, List.getElem_cons_zero, List.setIfInBounds_toArray, List.set_cons_zero, List.set_cons_succ])
          refine wpAnyH_take (i := 2) (oi := _) (v := ?_) rfl (by kernel_rfl) (by kernel_rfl) (by kernel_rfl) (fun _ _ _ h => h) (Or.inl ⟨by rfl, ?_⟩) (by assumption) ?_
          rotate_left
          · (intro w hSw; (try dsimp only at hSw); (try go_simp); (try with_reducible rfl))
          (try simp only [Act.put, List.getElem_toArray, List.getElem_cons_succ, List.getElem_cons_zero, List.setIfInBounds_toArray, List.set_cons_zero, List.set_cons_succ])
          refine wpAnyH_take (i := 3) (oi := _) (v := ?_) rfl (by kernel_rfl) (by kernel_rfl) (by kernel_rfl) (fun _ _ _ h => h) (Or.inl ⟨by rfl, ?_⟩) (by assumption) ?_
          rotate_left
          · (intro w hSw; (try dsimp only at hSw); (try go_simp); (try with_reducible rfl))
          (try simp only [Act.put, List.getElem_toArray, List.getElem_cons_succ, List.getElem_cons_zero, List.setIfInBounds_toArray, List.set_cons_zero, List.set_cons_succ])
          refine wpAnyH_take (i := 4) (oi := _) (v := ?_) rfl (by kernel_rfl) (by kernel_rfl) (by kernel_rfl) (fun _ _ _ h => h) (Or.inl ⟨by rfl, ?_⟩) (by assumption) ?_
          rotate_left
          · (intro w hSw; (try dsimp only at hSw); (try go_simp); (try with_reducible rfl))
          (try simp only [Act.put, List.getElem_toArray, List.getElem_cons_succ, List.getElem_cons_zero, List.setIfInBounds_toArray, List.set_cons_zero, List.set_cons_succ])
          refine wpAnyH_ready (rs := [5]) (by kernel_rfl) (by simp) ?_
          refine AllReadyH.cons (o := _) rfl (fun K hK => ?_) ?_
          · go_simp
            (with_reducible refine (HO1.out _).mono ?_); rintro e x5 ⟨rfl, hy⟩; replace hE := hE.trans hy; replace hx := hx.trans hy; replace s0 := cell_exQ hy s0; replace s1 := cell_exQ hy s1; replace s2 := cell_exQ hy s2; replace s3 := cell_exQ hy s3; replace s4 := cell_exQ hy s4; replace s5 := cell_exQ hy s5; replace s6 := cell_exQ hy s6; replace s7 := cell_exQ hy s7; replace Kc := kE Kc hy; replace Kr := kE Kr hy; clear hy
            refine hK.out _ _ ?_ (fun hHeld2 => ?_)
            · exact ⟨s0, s1, s2, s3, s4, s5, s6, s7⟩
            clear hK K hHeld
            have hHeld := hHeld2
            clear hHeld2
            (try simp only [Act.put, List.getElem_toArray, List.getElem_cons_succ, List.getElem_cons_zero, List.setIfInBounds_toArray, List.set_cons_zero, List.set_cons_succ])
            refine wpAnyH_take (i := 6) (oi := _) (v := ?_) rfl (by kernel_rfl) (by kernel_rfl) (by kernel_rfl) (fun _ _ _ h => h) (Or.inl ⟨by rfl, ?_⟩) (by assumption) ?_
            rotate_left
            · (intro w hSw; (try dsimp only at hSw); (try go_simp); (try with_reducible rfl))
            (try simp only [Act.put, List.getElem_toArray, List.getElem_cons_succ, List.getElem_cons_zero, List.setIfInBounds_toArray, List.set_cons_zero, List.set_cons_succ])
            refine wpAnyH_done (by kernel_rfl) ?_ _
            go_wp2_with fail
            go_meet
            exact ⟨rfl, hE⟩
          exact AllReadyH.nil
        case rest =>
        obtain ⟨rfl, hy⟩ := hcut
        have HXR := Lib.hid (hxr.trans hy)
        have hcx := cell_exQ hy HCX.out
        have HO3 := Lib.hid (HO.out.ext hy)
        have HIa3 := Lib.hid (HIa.out.ext hy)
        have hg1 := hy.size
        replace hx := hx.trans hy
        replace Kc := kE Kc hy
        replace Kr := kE Kr hy
        clear hy
        have cc0 := Kc.out.cell (i := 0) (v := .string nm) rfl
        have cc1 := Kc.out.cell (i := 1) (v := .int .i64 lo) rfl
        have cc2 := Kc.out.cell (i := 2) (v := .int .i64 hi) rfl
        have cc3 := Kc.out.cell (i := 3) (v := .int .i64 st) rfl
        have cc4 := Kc.out.cell (i := 4) (v := .int .i64 2) rfl
        have cc5 := Kc.out.cell (i := 5) (v := .int .i64 (tn : Int)) rfl
        have cc6 := Kc.out.cell (i := 6) (v := .bool rv) rfl
        obtain ⟨cr0, cr1, cr2, cr3⟩ := bk4 Kr
        obtain ⟨g0, z0, g1, z1, g2, z2, g3, z3⟩ := bp4 Kr (.bool false) (.slice none 0 0) (.bool false) (.slice none 0 0)
        go_wp2_with fail
        clear g0 z0 g1 z1 g2 z2 g3 z3
        clear cc0 cc1 cc2 cc3 cc4 cc5 cc6 cr0 cr1 cr2 cr3
        replace hx := bx4 hx (w.heap.size + 1) (.bool false) (.slice none 0 0) (.bool false) (.slice none 0 0) (by omega)
        replace Kc := bo4 Kc (w.heap.size + 1) (.bool false) (.slice none 0 0) (.bool false) (.slice none 0 0) (by omega)
        replace Kr := bs4 Kr (.bool false) (.slice none 0 0) (.bool false) (.slice none 0 0)
        generalize ((((wc).setCell ⟨w.heap.size + 1, 0, none⟩ (.bool false)).setCell ⟨w.heap.size + 1, 1, none⟩ (.slice none 0 0)).setCell ⟨w.heap.size + 1, 2, none⟩ (.bool false)).setCell ⟨w.heap.size + 1, 3, none⟩ (.slice none 0 0) = x6 at *
        obtain ⟨cr0, cr1, cr2, cr3⟩ := bk4 Kr
        refine bodyPost_ret (v := .tuple #[.agg #[.bool false, .slice none 0 0, .bool false, .slice none 0 0], .int .i64 160]) (by simp [results, Try.results25, go_sem, cr0, cr1, cr2, cr3]) rfl ?_
        exact ⟨rfl, hx⟩
      · have HO1 := Lib.hid (HOn.out x ⟨hx1, hx2⟩)
        rw [ho] at HO1
        have HOX := Lib.hid ho
        clear ho
        go_upto_region 12 with fail
        go_cut [45] (fun s wx => s = .bool false ∧ Ext wr wx)
        case first =>
          have hcx := HCX.out
          have s0 : World.cell? wr ⟨w.heap.size, 0, none⟩ = some (.string nm) := Kc.out.cell (i := 0) (v := .string nm) rfl
          have s1 : World.cell? wr ⟨w.heap.size, 1, none⟩ = some (.int .i64 lo) := Kc.out.cell (i := 1) (v := .int .i64 lo) rfl
          have s2 : World.cell? wr ⟨w.heap.size, 2, none⟩ = some (.int .i64 hi) := Kc.out.cell (i := 2) (v := .int .i64 hi) rfl
          have s3 : World.cell? wr ⟨w.heap.size, 3, none⟩ = some (.int .i64 st) := Kc.out.cell (i := 3) (v := .int .i64 st) rfl
          have s4 : World.cell? wr ⟨w.heap.size, 4, none⟩ = some (.int .i64 2) := Kc.out.cell (i := 4) (v := .int .i64 2) rfl
          have s5 : World.cell? wr ⟨w.heap.size, 5, none⟩ = some (.int .i64 (tn : Int)) := Kc.out.cell (i := 5) (v := .int .i64 (tn : Int)) rfl
          have s6 : World.cell? wr ⟨w.heap.size, 6, none⟩ = some (.bool rv) := Kc.out.cell (i := 6) (v := .bool rv) rfl
          have s7 : World.cell? wr ⟨b, o + k, none⟩ = some (.int .i64 x) := hcx
          have hE : Ext wr (World.drew wr) := (Ext.refl _).drew
          have hyd : Ext wr (World.drew wr) := (Ext.refl _).drew
          replace hx := hx.trans hyd
          replace Kc := kE Kc hyd
          replace Kr := kE Kr hyd
          clear hyd
          replace s0 : World.cell? (World.drew wr) ⟨w.heap.size, 0, none⟩ = some (.string nm) := s0
          replace s1 : World.cell? (World.drew wr) ⟨w.heap.size, 1, none⟩ = some (.int .i64 lo) := s1
          replace s2 : World.cell? (World.drew wr) ⟨w.heap.size, 2, none⟩ = some (.int .i64 hi) := s2
          replace s3 : World.cell? (World.drew wr) ⟨w.heap.size, 3, none⟩ = some (.int .i64 st) := s3
          replace s4 : World.cell? (World.drew wr) ⟨w.heap.size, 4, none⟩ = some (.int .i64 2) := s4
          replace s5 : World.cell? (World.drew wr) ⟨w.heap.size, 5, none⟩ = some (.int .i64 (tn : Int)) := s5
          replace s6 : World.cell? (World.drew wr) ⟨w.heap.size, 6, none⟩ = some (.bool rv) := s6
          replace s7 : World.cell? (World.drew wr) ⟨b, o + k, none⟩ = some (.int .i64 x) := s7
          refine wp_region_held_drew (S := (fun w' => World.cell? w' ⟨w.heap.size, 0, none⟩ = some (.string nm) ∧ World.cell? w' ⟨w.heap.size, 1, none⟩ = some (.int .i64 lo) ∧ World.cell? w' ⟨w.heap.size, 2, none⟩ = some (.int .i64 hi) ∧ World.cell? w' ⟨w.heap.size, 3, none⟩ = some (.int .i64 st) ∧ World.cell? w' ⟨w.heap.size, 4, none⟩ = some (.int .i64 2) ∧ World.cell? w' ⟨w.heap.size, 5, none⟩ = some (.int .i64 (tn : Int)) ∧ World.cell? w' ⟨w.heap.size, 6, none⟩ = some (.bool rv) ∧ World.cell? w' ⟨b, o + k, none⟩ = some (.int .i64 x))) (by kernel_rfl) ?_ (fun hHeld => ?_)
          · exact ⟨s0, s1, s2, s3, s4, s5, s6, s7⟩
          (try simp only [← List.toArray_replicate, List.size_toArray, List.length_cons, List.length_nil, Nat.reduceAdd, List.replicate_succ, List.replicate_zero])
          generalize World.drew wr = x4 at *
          refine wpAnyH_take (i := 0) (oi := _) (v := ?_) rfl (by kernel_rfl) (by kernel_rfl) (by kernel_rfl) (fun _ _ _ h => h) (Or.inl ⟨by rfl, ?_⟩) (by assumption) ?_
          rotate_left
          · (intro w hSw; (try dsimp only at hSw); (try go_simp); (try with_reducible rfl))
          (try simp only [Act.put, List.getElem_toArray, List.getElem_cons_succ, List.getElem_cons_zero, List.setIfInBounds_toArray, List.set_cons_zero, List.set_cons_succ])
          refine wpAnyH_take (i := 1) (oi := _) (v := ?_) rfl (by kernel_rfl) (by kernel_rfl) (by kernel_rfl) (fun _ _ _ h => h) (Or.inl ⟨by rfl, ?_⟩) (by assumption) ?_
          rotate_left
          · (intro w hSw; (try dsimp only at hSw); (try go_simp); (try with_reducible rfl))
          (try simp only [Act.put, List.getElem_toArray, List.getElem_cons_succ, List.getElem_cons_zero, List.setIfInBounds_toArray, List.set_cons_zero, List.set_cons_succ])
          refine wpAnyH_take (i := 2) (oi := _) (v := ?_) rfl (by kernel_rfl) (by kernel_rfl) (by kernel_rfl) (fun _ _ _ h => h) (Or.inl ⟨by rfl, ?_⟩) (by assumption) ?_
          rotate_left
          · (intro w hSw; (try dsimp only at hSw); (try go_simp); (try with_reducible rfl))
          (try simp only [Act.put, List.getElem_toArray, List.getElem_cons_succ, List.getElem_cons_zero, List.setIfInBounds_toArray, List.set_cons_zero, List.set_cons_succ])
          refine wpAnyH_take (i := 3) (oi := _) (v := ?_) rfl (by kernel_rfl) (by kernel_rfl) (by kernel_rfl) (fun _ _ _ h => h) (Or.inl ⟨by rfl, ?_⟩) (by assumption) ?_
          rotate_left
          · (intro w hSw; (try dsimp only at hSw); (try go_simp); (try with_reducible rfl))
          (try simp only [Act.put, List.getElem_toArray, List.getElem_cons_succ, List.getElem_cons_zero, List.setIfInBounds_toArray, List.set_cons_zero, List.set_cons_succ])
          refine wpAnyH_take (i := 4) (oi := _) (v := ?_) rfl (by kernel_rfl) (by kernel_rfl) (by kernel_rfl) (fun _ _ _ h => h) (Or.inl ⟨by rfl, ?_⟩) (by assumption) ?_
          rotate_left
          · (intro w hSw; (try dsimp only at hSw); (try go_simp); (try with_reducible rfl))
          (try simp only [Act.put, List.getElem_toArray, List.getElem_cons_succ, List.getElem_cons_zero, List.setIfInBounds_toArray, List.set_cons_zero, List.set_cons_succ])
          refine wpAnyH_ready (rs := [5]) (by kernel_rfl) (by simp) ?_
          refine AllReadyH.cons (o := _) rfl (fun K hK => ?_) ?_
          · go_simp
            (with_reducible refine (HO1.out _).mono ?_); rintro e x5 ⟨rfl, hy⟩; replace hE := hE.trans hy; replace hx := hx.trans hy; replace s0 := cell_exQ hy s0; replace s1 := cell_exQ hy s1; replace s2 := cell_exQ hy s2; replace s3 := cell_exQ hy s3; replace s4 := cell_exQ hy s4; replace s5 := cell_exQ hy s5; replace s6 := cell_exQ hy s6; replace s7 := cell_exQ hy s7; replace Kc := kE Kc hy; replace Kr := kE Kr hy; clear hy
            refine hK.out _ _ ?_ (fun hHeld2 => ?_)
            · exact ⟨s0, s1, s2, s3, s4, s5, s6, s7⟩
            clear hK K hHeld
            have hHeld := hHeld2
            clear hHeld2
            (try simp only [Act.put, List.getElem_toArray, List.getElem_cons_succ, List.getElem_cons_zero, List.setIfInBounds_toArray, List.set_cons_zero, List.set_cons_succ])
            refine wpAnyH_take (i := 6) (oi := _) (v := ?_) rfl (by kernel_rfl) (by kernel_rfl) (by kernel_rfl) (fun _ _ _ h => h) (Or.inl ⟨by rfl, ?_⟩) (by assumption) ?_
            rotate_left
            · (intro w hSw; (try dsimp only at hSw); (try go_simp); (try with_reducible rfl))
            (try simp only [Act.put, List.getElem_toArray, List.getElem_cons_succ, List.getElem_cons_zero, List.setIfInBounds_toArray, List.set_cons_zero, List.set_cons_succ])
            refine wpAnyH_done (by kernel_rfl) ?_ _
            go_wp2_with fail
            go_meet
            exact ⟨rfl, hE⟩
          exact AllReadyH.nil
        case rest =>
        obtain ⟨rfl, hy⟩ := hcut
        have HXR := Lib.hid (hxr.trans hy)
        have hcx := cell_exQ hy HCX.out
        have HO3 := Lib.hid (HO.out.ext hy)
        have HIa3 := Lib.hid (HIa.out.ext hy)
        have hg1 := hy.size
        replace hx := hx.trans hy
        replace Kc := kE Kc hy
        replace Kr := kE Kr hy
        clear hy
        have HT1 := Lib.hid (HTn.out x HOX.out)
        have HTB := Lib.hid (turn_bd HRR.out HOX.out)
        have HAC := Lib.hid ((accL_succ (c := (⟨nm, lo, hi, st, 2, (tn : Int), rv⟩ : CritA)) HXK.out).trans (by rw [hL.out]))
        generalize turnC (⟨nm, lo, hi, st, 2, (tn : Int), rv⟩ : CritA) x = y at *
        have HALL := Lib.hid (show ∀ j, j < k + 1 → ∀ u, l[j]? = some u → onC (⟨nm, lo, hi, st, 2, (tn : Int), rv⟩ : CritA) u = true from fun j hj u hu => by
          by_cases hjk : j < k
          · exact HA.out j hjk u hu
          · obtain rfl : j = k := by omega
            rw [HXK.out] at hu
            cases hu
            exact HOX.out)
        go_upto_region 14 with fail
        have s0 : World.cell? wc ⟨w.heap.size, 0, none⟩ = some (.string nm) := Kc.out.cell (i := 0) (v := .string nm) rfl
        have s1 : World.cell? wc ⟨w.heap.size, 1, none⟩ = some (.int .i64 lo) := Kc.out.cell (i := 1) (v := .int .i64 lo) rfl
        have s2 : World.cell? wc ⟨w.heap.size, 2, none⟩ = some (.int .i64 hi) := Kc.out.cell (i := 2) (v := .int .i64 hi) rfl
        have s3 : World.cell? wc ⟨w.heap.size, 3, none⟩ = some (.int .i64 st) := Kc.out.cell (i := 3) (v := .int .i64 st) rfl
        have s4 : World.cell? wc ⟨w.heap.size, 4, none⟩ = some (.int .i64 2) := Kc.out.cell (i := 4) (v := .int .i64 2) rfl
        have s5 : World.cell? wc ⟨w.heap.size, 5, none⟩ = some (.int .i64 (tn : Int)) := Kc.out.cell (i := 5) (v := .int .i64 (tn : Int)) rfl
        have s6 : World.cell? wc ⟨w.heap.size, 6, none⟩ = some (.bool rv) := Kc.out.cell (i := 6) (v := .bool rv) rfl
        have s7 : World.cell? wc ⟨b, o + k, none⟩ = some (.int .i64 x) := hcx
        have hE : Ext wc (World.drew wc) := (Ext.refl _).drew
        have hyd : Ext wc (World.drew wc) := (Ext.refl _).drew
        replace hx := hx.trans hyd
        replace Kc := kE Kc hyd
        replace Kr := kE Kr hyd
        clear hyd
        replace s0 : World.cell? (World.drew wc) ⟨w.heap.size, 0, none⟩ = some (.string nm) := s0
        replace s1 : World.cell? (World.drew wc) ⟨w.heap.size, 1, none⟩ = some (.int .i64 lo) := s1
        replace s2 : World.cell? (World.drew wc) ⟨w.heap.size, 2, none⟩ = some (.int .i64 hi) := s2
        replace s3 : World.cell? (World.drew wc) ⟨w.heap.size, 3, none⟩ = some (.int .i64 st) := s3
        replace s4 : World.cell? (World.drew wc) ⟨w.heap.size, 4, none⟩ = some (.int .i64 2) := s4
        replace s5 : World.cell? (World.drew wc) ⟨w.heap.size, 5, none⟩ = some (.int .i64 (tn : Int)) := s5
        replace s6 : World.cell? (World.drew wc) ⟨w.heap.size, 6, none⟩ = some (.bool rv) := s6
        replace s7 : World.cell? (World.drew wc) ⟨b, o + k, none⟩ = some (.int .i64 x) := s7
        refine wp_region_held_drew (S := (fun w' => World.cell? w' ⟨w.heap.size, 0, none⟩ = some (.string nm) ∧ World.cell? w' ⟨w.heap.size, 1, none⟩ = some (.int .i64 lo) ∧ World.cell? w' ⟨w.heap.size, 2, none⟩ = some (.int .i64 hi) ∧ World.cell? w' ⟨w.heap.size, 3, none⟩ = some (.int .i64 st) ∧ World.cell? w' ⟨w.heap.size, 4, none⟩ = some (.int .i64 2) ∧ World.cell? w' ⟨w.heap.size, 5, none⟩ = some (.int .i64 (tn : Int)) ∧ World.cell? w' ⟨w.heap.size, 6, none⟩ = some (.bool rv) ∧ World.cell? w' ⟨b, o + k, none⟩ = some (.int .i64 x))) (by kernel_rfl) ?_ (fun hHeld => ?_)
        · exact ⟨s0, s1, s2, s3, s4, s5, s6, s7⟩
        (try simp only [← List.toArray_replicate, List.size_toArray, List.length_cons, List.length_nil, Nat.reduceAdd, List.replicate_succ, List.replicate_zero])
        generalize World.drew wc = x6 at *
        refine wpAnyH_take (i := 0) (oi := _) (v := ?_) rfl (by kernel_rfl) (by kernel_rfl) (by kernel_rfl) (fun _ _ _ h => h) (Or.inl ⟨by rfl, ?_⟩) (by assumption) ?_
        rotate_left
        · (intro w hSw; (try dsimp only at hSw); (try go_simp); (try with_reducible rfl))
        (try simp only [Act.put, List.getElem_toArray, List.getElem_cons_succ, List.getElem_cons_zero, List.setIfInBounds_toArray, List.set_cons_zero, List.set_cons_succ])
        refine wpAnyH_take (i := 1) (oi := _) (v := ?_) rfl (by kernel_rfl) (by kernel_rfl) (by kernel_rfl) (fun _ _ _ h => h) (Or.inl ⟨by rfl, ?_⟩) (by assumption) ?_
        rotate_left
        · (intro w hSw; (try dsimp only at hSw); (try go_simp); (try with_reducible rfl))
        (try simp only [Act.put, List.getElem_toArray, List.getElem_cons_succ, List.getElem_cons_zero, List.setIfInBounds_toArray, List.set_cons_zero, List.set_cons_succ])
        refine wpAnyH_take (i := 2) (oi := _) (v := ?_) rfl (by kernel_rfl) (by kernel_rfl) (by kernel_rfl) (fun _ _ _ h => h) (Or.inl ⟨by rfl, ?_⟩) (by assumption) ?_
        rotate_left
        · (intro w hSw; (try dsimp only at hSw); (try go_simp); (try with_reducible rfl))
        (try simp only [Act.put, List.getElem_toArray, List.getElem_cons_succ, List.getElem_cons_zero, List.setIfInBounds_toArray, List.set_cons_zero, List.set_cons_succ])
        refine wpAnyH_take (i := 3) (oi := _) (v := ?_) rfl (by kernel_rfl) (by kernel_rfl) (by kernel_rfl) (fun _ _ _ h => h) (Or.inl ⟨by rfl, ?_⟩) (by assumption) ?_
        rotate_left
        · (intro w hSw; (try dsimp only at hSw); (try go_simp); (try with_reducible rfl))
        (try simp only [Act.put, List.getElem_toArray, List.getElem_cons_succ, List.getElem_cons_zero, List.setIfInBounds_toArray, List.set_cons_zero, List.set_cons_succ])
        refine wpAnyH_take (i := 4) (oi := _) (v := ?_) rfl (by kernel_rfl) (by kernel_rfl) (by kernel_rfl) (fun _ _ _ h => h) (Or.inl ⟨by rfl, ?_⟩) (by assumption) ?_
        rotate_left
        · (intro w hSw; (try dsimp only at hSw); (try go_simp); (try with_reducible rfl))
        (try simp only [Act.put, List.getElem_toArray, List.getElem_cons_succ, List.getElem_cons_zero, List.setIfInBounds_toArray, List.set_cons_zero, List.set_cons_succ])
        refine wpAnyH_take (i := 5) (oi := _) (v := ?_) rfl (by kernel_rfl) (by kernel_rfl) (by kernel_rfl) (fun _ _ _ h => h) (Or.inl ⟨by rfl, ?_⟩) (by assumption) ?_
        rotate_left
        · (intro w hSw; (try dsimp only at hSw); (try go_simp); (try with_reducible rfl))
        (try simp only [Act.put, List.getElem_toArray, List.getElem_cons_succ, List.getElem_cons_zero, List.setIfInBounds_toArray, List.set_cons_zero, List.set_cons_succ])
        refine wpAnyH_ready (rs := [6]) (by kernel_rfl) (by simp) ?_
        refine AllReadyH.cons (o := _) rfl (fun K hK => ?_) ?_
        · go_simp
          (with_reducible refine (HT1.out _).mono ?_); rintro e x7 ⟨rfl, hy⟩; replace hE := hE.trans hy; replace hx := hx.trans hy; replace s0 := cell_exQ hy s0; replace s1 := cell_exQ hy s1; replace s2 := cell_exQ hy s2; replace s3 := cell_exQ hy s3; replace s4 := cell_exQ hy s4; replace s5 := cell_exQ hy s5; replace s6 := cell_exQ hy s6; replace s7 := cell_exQ hy s7; replace Kc := kE Kc hy; replace Kr := kE Kr hy; clear hy; have hzb := hE.size
          refine hK.out _ _ ?_ (fun hHeld2 => ?_)
          · exact ⟨s0, s1, s2, s3, s4, s5, s6, s7⟩
          clear hK K hHeld
          have hHeld := hHeld2
          clear hHeld2
          (try simp only [Act.put, List.getElem_toArray, List.getElem_cons_succ, List.getElem_cons_zero, List.setIfInBounds_toArray, List.set_cons_zero, List.set_cons_succ])
          refine wpAnyH_ready (rs := [7]) (by kernel_rfl) (by simp) ?_
          refine AllReadyH.cons (o := _) rfl (fun K hK => ?_) ?_
          · go_simp
            (with_reducible refine (ref16_put gl 0 cg L y _ (HIa3.out.ext hE) (by have := HLen.out; omega) (by have := HTB.out; omega)).mono ?_); rintro e x8 ⟨v, rfl, hv, hy⟩; replace hE := hE.trans hy; replace hx := hx.trans hy; replace s0 := cell_exQ hy s0; replace s1 := cell_exQ hy s1; replace s2 := cell_exQ hy s2; replace s3 := cell_exQ hy s3; replace s4 := cell_exQ hy s4; replace s5 := cell_exQ hy s5; replace s6 := cell_exQ hy s6; replace s7 := cell_exQ hy s7; replace Kc := kE Kc hy; replace Kr := kE Kr hy; clear hy; have HNO := Lib.hid (hv.lowB (B' := g0) (by omega)); clear hv
            refine hK.out _ _ ?_ (fun hHeld2 => ?_)
            · exact ⟨s0, s1, s2, s3, s4, s5, s6, s7⟩
            clear hK K hHeld
            have hHeld := hHeld2
            clear hHeld2
            (try simp only [Act.put, List.getElem_toArray, List.getElem_cons_succ, List.getElem_cons_zero, List.setIfInBounds_toArray, List.set_cons_zero, List.set_cons_succ])
            refine wpAnyH_take (i := 8) (oi := _) (v := ?_) rfl (by kernel_rfl) (by kernel_rfl) (by kernel_rfl) (fun _ _ _ h => h) (Or.inl ⟨by rfl, ?_⟩) (by assumption) ?_
            rotate_left
            · (intro w hSw; (try dsimp only at hSw); (try go_simp); (try with_reducible rfl))
            (try simp only [Act.put, List.getElem_toArray, List.getElem_cons_succ, List.getElem_cons_zero, List.setIfInBounds_toArray, List.set_cons_zero, List.set_cons_succ])
            refine wpAnyH_done (by kernel_rfl) ?_ _
            go_wp2_with fail
            go_roundw
            case rel => exact ⟨k + 1, by omega, by go_num, HALL.out, by rw [HAC.out]; exact HNO.out, HXR.out.trans hE⟩
            case measure => simp [intOf]; omega
          exact AllReadyH.nil
        exact AllReadyH.nil
    · obtain rfl : k = l.length := by omega
      exact absurd (fun x hx => by
        obtain ⟨j, hj, e⟩ := List.getElem_of_mem hx
        exact HA.out j hj x (by rw [← e]; simp)) HON.out
set_option maxHeartbeats 8000000 in
theorem ref16_Total_off3 (c : CritA) (hc : c.In) (hr : rightC c = true) (a : Option Addr) (cap : Nat) (l : List Int) (w : World) (h : Ints w a cap l) (hl2 : l.length ≤ 256) (hh : c.how = 3) (hl : 0 < l.length) (hon : ¬ ∀ x ∈ l, onC c x = true) :
    Calls Try.prog 25 #[c.val, .slice a l.length cap] w (RatE 160 w) := by
  have hle := h.le
  have hmx := h.mx
  have hrr := rightC_iff.1 hr
  have HC := Lib.hid (ref16_Right c hc)
  rw [hr] at HC
  have HI := Lib.hid h
  have HRR := Lib.hid hrr
  have HOn := Lib.hid (fun m hm => ref16_On c hc hrr m hm)
  have HTn := Lib.hid (fun m hm => ref16_Turn c hc hrr m hm)
  have tr1 := hrr.tr
  have tr2 := hrr.tm
  have ht0 : c.tr = 0 := hrr.mn.resolve_left (by omega)

  obtain ⟨nm, lo, hi, st, how, tr, rv⟩ := c
  dsimp only [CritA.val, CritA.cells] at *

  subst hh
  subst ht0
  clear h hrr hr hc
  obtain ⟨x1, hw, hx, Kc, Kr⟩ := boxQ2 w #[.string nm, .int .i64 lo, .int .i64 hi, .int .i64 st, .int .i64 3, .int .i64 0, .bool rv] 48 #[.bool false, .slice none 0 0, .bool false, .slice none 0 0] 35
  replace hw := Lib.hid hw
  go_enter Try.func25, Try.ntmps25
  go_upto_region 1 with fail
  try simp only [Nat.add_assoc, Nat.reduceAdd, Nat.add_zero]
  rw [hw.out]
  clear hw
  have hs0 := hx.size
  have cc0 := Kc.out.cell (i := 0) (v := .string nm) rfl
  have cc1 := Kc.out.cell (i := 1) (v := .int .i64 lo) rfl
  have cc2 := Kc.out.cell (i := 2) (v := .int .i64 hi) rfl
  have cc3 := Kc.out.cell (i := 3) (v := .int .i64 st) rfl
  have cc4 := Kc.out.cell (i := 4) (v := .int .i64 3) rfl
  have cc5 := Kc.out.cell (i := 5) (v := .int .i64 0) rfl
  have cc6 := Kc.out.cell (i := 6) (v := .bool rv) rfl
  obtain ⟨cr0, cr1, cr2, cr3⟩ := bk4 Kr
  go_wp2_with fail
  with_reducible refine (HC.out _).mono ?_
  clear cc0 cc1 cc2 cc3 cc4 cc5 cc6 cr0 cr1 cr2 cr3
  rintro e x2 ⟨rfl, hy⟩
  replace hx := hx.trans hy
  replace Kc := kE Kc hy
  replace Kr := kE Kr hy
  clear hy
  clear HC
  have HON := Lib.hid hon
  clear hon
  have t1 : ((l.length : Int) == 0) = false := beq_false_of_ne (by omega)
  have t1n : ¬ l = [] := List.ne_nil_of_length_pos (by omega)
  have cc0 := Kc.out.cell (i := 0) (v := .string nm) rfl
  have cc1 := Kc.out.cell (i := 1) (v := .int .i64 lo) rfl
  have cc2 := Kc.out.cell (i := 2) (v := .int .i64 hi) rfl
  have cc3 := Kc.out.cell (i := 3) (v := .int .i64 st) rfl
  have cc4 := Kc.out.cell (i := 4) (v := .int .i64 3) rfl
  have cc5 := Kc.out.cell (i := 5) (v := .int .i64 0) rfl
  have cc6 := Kc.out.cell (i := 6) (v := .bool rv) rfl
  obtain ⟨cr0, cr1, cr2, cr3⟩ := bk4 Kr
  go_upto_region 9 with fail
  clear cc0 cc1 cc2 cc3 cc4 cc5 cc6 cr0 cr1 cr2 cr3
  have hgz : w.heap.size + 1 < Array.size (World.heap x2) := Kr.out.lt
  obtain ⟨hO, hE2⟩ := own_new (Ext.refl x2)
  clear hE2
  have hy := Ext.alloc x2 (.cells #[] 3)
  replace hx := hx.trans hy
  replace Kc := kE Kc hy
  replace Kr := kE Kr hy
  clear hy
  generalize World.alloc x2 (.cells #[] 3) = x3 at *
  generalize Array.size (World.heap x2) = g0 at *
  go_wp2_with fail
  have HX0 := Lib.hid hx
  have HKc := Kc
  have HKr := Kr
  go_loopw [7, 8] (fun v i wr => ∃ k : Nat, k ≤ l.length ∧ i = .int .i64 k ∧ (∀ j, j < k → ∀ x, l[j]? = some x → onC (⟨nm, lo, hi, st, 3, 0, rv⟩ : CritA) x = true) ∧ OwnI wr g0 v (accL (⟨nm, lo, hi, st, 3, 0, rv⟩ : CritA) l k) ∧ Ext x3 wr) (fun _ i _ => l.length - (intOf i).toNat)
  case atStart => exact ⟨0, Nat.zero_le _, rfl, fun j hj => absurd hj (Nat.not_lt_zero _), by simpa [accL] using hO, Ext.refl _⟩
  case round =>
    obtain ⟨k, hk, rfl, hall, hO2, hxr⟩ := hrel
    clear hO hx Kc Kr
    have hx := HX0.out.trans hxr
    have Kc := kE HKc hxr
    have Kr := kE HKr hxr
    have HA := Lib.hid hall
    obtain ⟨gl, cg, rfl, hIa, hgB⟩ := hO2.look (fun y hy => by have := mem_acc HRR.out HA.out y hy; omega)
    have HMA := Lib.hid (mem_acc HRR.out HA.out)
    have HO := Lib.hid hO2
    have HIa := Lib.hid hIa
    have HLen := Lib.hid (accL_len (⟨nm, lo, hi, st, 3, 0, rv⟩ : CritA) l hk)
    have g0k : (0 : Int) ≤ (k : Int) := by omega
    have hg0 : g0 ≤ Array.size (World.heap wr) := by have := (hO2.form).choose_spec; obtain ⟨_, _, _, h1, h2, _⟩ := hO2.form; omega
    clear hall hO2 hIa HX0 HKc HKr
    by_cases hlt : k < l.length
    · obtain ⟨b, o, rfl⟩ := HI.out.head hlt
      obtain ⟨x, hxk, hcx, hx1, hx2⟩ := Ints.get (HI.out.ext hx) hlt
      have HXK := Lib.hid hxk
      have HCX := Lib.hid hcx
      have g1 : (k : Int) < (l.length : Int) := by omega
      have hle3 := HIa.out.le
      have hmx3 := HIa.out.mx
      clear hxk
      generalize hL : accL (⟨nm, lo, hi, st, 3, 0, rv⟩ : CritA) l k = L at *
      replace hL := Lib.hid hL
      cases ho : onC (⟨nm, lo, hi, st, 3, 0, rv⟩ : CritA) x
      · have HO1 := Lib.hid (HOn.out x ⟨hx1, hx2⟩)
        rw [ho] at HO1
        have HOX := Lib.hid ho
        clear ho
        go_upto_region 12 with fail
        go_cut [45] (fun s wx => s = .bool true ∧ Ext wr wx)
        case first =>
          have hcx := HCX.out
          have s0 : World.cell? wr ⟨w.heap.size, 0, none⟩ = some (.string nm) := Kc.out.cell (i := 0) (v := .string nm) rfl
          have s1 : World.cell? wr ⟨w.heap.size, 1, none⟩ = some (.int .i64 lo) := Kc.out.cell (i := 1) (v := .int .i64 lo) rfl
          have s2 : World.cell? wr ⟨w.heap.size, 2, none⟩ = some (.int .i64 hi) := Kc.out.cell (i := 2) (v := .int .i64 hi) rfl
          have s3 : World.cell? wr ⟨w.heap.size, 3, none⟩ = some (.int .i64 st) := Kc.out.cell (i := 3) (v := .int .i64 st) rfl
          have s4 : World.cell? wr ⟨w.heap.size, 4, none⟩ = some (.int .i64 3) := Kc.out.cell (i := 4) (v := .int .i64 3) rfl
          have s5 : World.cell? wr ⟨w.heap.size, 5, none⟩ = some (.int .i64 0) := Kc.out.cell (i := 5) (v := .int .i64 0) rfl
          have s6 : World.cell? wr ⟨w.heap.size, 6, none⟩ = some (.bool rv) := Kc.out.cell (i := 6) (v := .bool rv) rfl
          have s7 : World.cell? wr ⟨b, o + k, none⟩ = some (.int .i64 x) := hcx
          have hE : Ext wr (World.drew wr) := (Ext.refl _).drew
          have hyd : Ext wr (World.drew wr) := (Ext.refl _).drew
          replace hx := hx.trans hyd
          replace Kc := kE Kc hyd
          replace Kr := kE Kr hyd
          clear hyd
          replace s0 : World.cell? (World.drew wr) ⟨w.heap.size, 0, none⟩ = some (.string nm) := s0
          replace s1 : World.cell? (World.drew wr) ⟨w.heap.size, 1, none⟩ = some (.int .i64 lo) := s1
          replace s2 : World.cell? (World.drew wr) ⟨w.heap.size, 2, none⟩ = some (.int .i64 hi) := s2
          replace s3 : World.cell? (World.drew wr) ⟨w.heap.size, 3, none⟩ = some (.int .i64 st) := s3
          replace s4 : World.cell? (World.drew wr) ⟨w.heap.size, 4, none⟩ = some (.int .i64 3) := s4
          replace s5 : World.cell? (World.drew wr) ⟨w.heap.size, 5, none⟩ = some (.int .i64 0) := s5
          replace s6 : World.cell? (World.drew wr) ⟨w.heap.size, 6, none⟩ = some (.bool rv) := s6
          replace s7 : World.cell? (World.drew wr) ⟨b, o + k, none⟩ = some (.int .i64 x) := s7
          refine wp_region_held_drew (S := (fun w' => World.cell? w' ⟨w.heap.size, 0, none⟩ = some (.string nm) ∧ World.cell? w' ⟨w.heap.size, 1, none⟩ = some (.int .i64 lo) ∧ World.cell? w' ⟨w.heap.size, 2, none⟩ = some (.int .i64 hi) ∧ World.cell? w' ⟨w.heap.size, 3, none⟩ = some (.int .i64 st) ∧ World.cell? w' ⟨w.heap.size, 4, none⟩ = some (.int .i64 3) ∧ World.cell? w' ⟨w.heap.size, 5, none⟩ = some (.int .i64 0) ∧ World.cell? w' ⟨w.heap.size, 6, none⟩ = some (.bool rv) ∧ World.cell? w' ⟨b, o + k, none⟩ = some (.int .i64 x))) (by kernel_rfl) ?_ (fun hHeld => ?_)
          · exact ⟨s0, s1, s2, s3, s4, s5, s6, s7⟩
          (try simp only [← List.toArray_replicate, List.size_toArray, List.length_cons, List.length_nil, Nat.reduceAdd, List.replicate_succ, List.replicate_zero])
          generalize World.drew wr = x4 at *
          refine wpAnyH_take (i := 0) (oi := _) (v := ?_) rfl (by kernel_rfl) (by kernel_rfl) (by kernel_rfl) (fun _ _ _ h => h) (Or.inl ⟨by rfl, ?_⟩) (by assumption) ?_
          rotate_left
          · (intro w hSw; (try dsimp only at hSw); (try go_simp); (try with_reducible rfl))
          (try simp only [Act.put, List.getElem_toArray, List.getElem_cons_succ, List.getElem_cons_zero, List.setIfInBounds_toArray, List.set_cons_zero, List.set_cons_succ])
          refine wpAnyH_take (i := 1) (oi := _) (v := ?_) rfl (by kernel_rfl) (by kernel_rfl) (by kernel_rfl) (fun _ _ _ h => h) (Or.inl ⟨by rfl, ?_⟩) (by assumption) ?_
          rotate_left
          · (intro w hSw; (try dsimp only at hSw); (try go_simp); (try with_reducible rfl))
          (try simp only [Act.put, List.getElem_toArray, List.getElem_cons_succ, List.getElem_cons_zero, List.setIfInBounds_toArray, List.set_cons_zero, List.set_cons_succ])
          refine wpAnyH_take (i := 2) (oi := _) (v := ?_) rfl (by kernel_rfl) (by kernel_rfl) (by kernel_rfl) (fun _ _ _ h => h) (Or.inl ⟨by rfl, ?_⟩) (by assumption) ?_
          rotate_left
          · (intro w hSw; (try dsimp only at hSw); (try go_simp); (try with_reducible rfl))
          (try simp only [Act.put, List.getElem_toArray, List.getElem_cons_succ, List.getElem_cons_zero, List.setIfInBounds_toArray, List.set_cons_zero, List.set_cons_succ])
          refine wpAnyH_take (i := 3) (oi := _) (v := ?_) rfl (by kernel_rfl) (by kernel_rfl) (by kernel_rfl) (fun _ _ _ h => h) (Or.inl ⟨by rfl, ?_⟩) (by assumption) ?_
          rotate_left
          · (intro w hSw; (try dsimp only at hSw); (try go_simp); (try with_reducible rfl))
          (try simp only [Act.put, List.getElem_toArray, List.getElem_cons_succ, List.getElem_cons_zero, List.setIfInBounds_toArray, List.set_cons_zero, List.set_cons_succ])
          refine wpAnyH_take (i := 4) (oi := _) (v := ?_) rfl (by kernel_rfl) (by kernel_rfl) (by kernel_rfl) (fun _ _ _ h => h) (Or.inl ⟨by rfl, ?_⟩) (by assumption) ?_
          rotate_left
          · (intro w hSw; (try dsimp only at hSw); (try go_simp); (try with_reducible rfl))
          (try simp only [Act.put, List.getElem_toArray, List.getElem_cons_succ, List.getElem_cons_zero, List.setIfInBounds_toArray, List.set_cons_zero, List.set_cons_succ])
          refine wpAnyH_ready (rs := [5]) (by kernel_rfl) (by simp) ?_
          refine AllReadyH.cons (o := _) rfl (fun K hK => ?_) ?_
          · go_simp
            (with_reducible refine (HO1.out _).mono ?_); rintro e x5 ⟨rfl, hy⟩; replace hE := hE.trans hy; replace hx := hx.trans hy; replace s0 := cell_exQ hy s0; replace s1 := cell_exQ hy s1; replace s2 := cell_exQ hy s2; replace s3 := cell_exQ hy s3; replace s4 := cell_exQ hy s4; replace s5 := cell_exQ hy s5; replace s6 := cell_exQ hy s6; replace s7 := cell_exQ hy s7; replace Kc := kE Kc hy; replace Kr := kE Kr hy; clear hy
            refine hK.out _ _ ?_ (fun hHeld2 => ?_)
            · exact ⟨s0, s1, s2, s3, s4, s5, s6, s7⟩
            clear hK K hHeld
            have hHeld := hHeld2
            clear hHeld2
            (try simp only [Act.put, List.getElem_toArray, List.getElem_cons_succ, List.getElem_cons_zero, List.setIfInBounds_toArray, List.set_cons_zero, List.set_cons_succ])
            refine wpAnyH_take (i := 6) (oi := _) (v := ?_) rfl (by kernel_rfl) (by kernel_rfl) (by kernel_rfl) (fun _ _ _ h => h) (Or.inl ⟨by rfl, ?_⟩) (by assumption) ?_
            rotate_left
            · (intro w hSw; (try dsimp only at hSw); (try go_simp); (try with_reducible rfl))
            (try simp only [Act.put, List.getElem_toArray, List.getElem_cons_succ, List.getElem_cons_zero, List.setIfInBounds_toArray, List.set_cons_zero, List.set_cons_succ])
            refine wpAnyH_done (by kernel_rfl) ?_ _
            go_wp2_with fail
            go_meet
            exact ⟨rfl, hE⟩
          exact AllReadyH.nil
        case rest =>
        obtain ⟨rfl, hy⟩ := hcut
        have HXR := Lib.hid (hxr.trans hy)
        have hcx := cell_exQ hy HCX.out
        have HO3 := Lib.hid (HO.out.ext hy)
        have HIa3 := Lib.hid (HIa.out.ext hy)
        have hg1 := hy.size
        replace hx := hx.trans hy
        replace Kc := kE Kc hy
        replace Kr := kE Kr hy
        clear hy
        have cc0 := Kc.out.cell (i := 0) (v := .string nm) rfl
        have cc1 := Kc.out.cell (i := 1) (v := .int .i64 lo) rfl
        have cc2 := Kc.out.cell (i := 2) (v := .int .i64 hi) rfl
        have cc3 := Kc.out.cell (i := 3) (v := .int .i64 st) rfl
        have cc4 := Kc.out.cell (i := 4) (v := .int .i64 3) rfl
        have cc5 := Kc.out.cell (i := 5) (v := .int .i64 0) rfl
        have cc6 := Kc.out.cell (i := 6) (v := .bool rv) rfl
        obtain ⟨cr0, cr1, cr2, cr3⟩ := bk4 Kr
        obtain ⟨g0, z0, g1, z1, g2, z2, g3, z3⟩ := bp4 Kr (.bool false) (.slice none 0 0) (.bool false) (.slice none 0 0)
        go_wp2_with fail
        clear g0 z0 g1 z1 g2 z2 g3 z3
        clear cc0 cc1 cc2 cc3 cc4 cc5 cc6 cr0 cr1 cr2 cr3
        replace hx := bx4 hx (w.heap.size + 1) (.bool false) (.slice none 0 0) (.bool false) (.slice none 0 0) (by omega)
        replace Kc := bo4 Kc (w.heap.size + 1) (.bool false) (.slice none 0 0) (.bool false) (.slice none 0 0) (by omega)
        replace Kr := bs4 Kr (.bool false) (.slice none 0 0) (.bool false) (.slice none 0 0)
        generalize ((((wc).setCell ⟨w.heap.size + 1, 0, none⟩ (.bool false)).setCell ⟨w.heap.size + 1, 1, none⟩ (.slice none 0 0)).setCell ⟨w.heap.size + 1, 2, none⟩ (.bool false)).setCell ⟨w.heap.size + 1, 3, none⟩ (.slice none 0 0) = x6 at *
        obtain ⟨cr0, cr1, cr2, cr3⟩ := bk4 Kr
        refine bodyPost_ret (v := .tuple #[.agg #[.bool false, .slice none 0 0, .bool false, .slice none 0 0], .int .i64 160]) (by simp [results, Try.results25, go_sem, cr0, cr1, cr2, cr3]) rfl ?_
        exact ⟨rfl, hx⟩
      · have HO1 := Lib.hid (HOn.out x ⟨hx1, hx2⟩)
        rw [ho] at HO1
        have HOX := Lib.hid ho
        clear ho
        go_upto_region 12 with fail
        go_cut [45] (fun s wx => s = .bool false ∧ Ext wr wx)
        case first =>
          have hcx := HCX.out
          have s0 : World.cell? wr ⟨w.heap.size, 0, none⟩ = some (.string nm) := Kc.out.cell (i := 0) (v := .string nm) rfl
          have s1 : World.cell? wr ⟨w.heap.size, 1, none⟩ = some (.int .i64 lo) := Kc.out.cell (i := 1) (v := .int .i64 lo) rfl
          have s2 : World.cell? wr ⟨w.heap.size, 2, none⟩ = some (.int .i64 hi) := Kc.out.cell (i := 2) (v := .int .i64 hi) rfl
          have s3 : World.cell? wr ⟨w.heap.size, 3, none⟩ = some (.int .i64 st) := Kc.out.cell (i := 3) (v := .int .i64 st) rfl
          have s4 : World.cell? wr ⟨w.heap.size, 4, none⟩ = some (.int .i64 3) := Kc.out.cell (i := 4) (v := .int .i64 3) rfl
          have s5 : World.cell? wr ⟨w.heap.size, 5, none⟩ = some (.int .i64 0) := Kc.out.cell (i := 5) (v := .int .i64 0) rfl
          have s6 : World.cell? wr ⟨w.heap.size, 6, none⟩ = some (.bool rv) := Kc.out.cell (i := 6) (v := .bool rv) rfl
          have s7 : World.cell? wr ⟨b, o + k, none⟩ = some (.int .i64 x) := hcx
          have hE : Ext wr (World.drew wr) := (Ext.refl _).drew
          have hyd : Ext wr (World.drew wr) := (Ext.refl _).drew
          replace hx := hx.trans hyd
          replace Kc := kE Kc hyd
          replace Kr := kE Kr hyd
          clear hyd
          replace s0 : World.cell? (World.drew wr) ⟨w.heap.size, 0, none⟩ = some (.string nm) := s0
          replace s1 : World.cell? (World.drew wr) ⟨w.heap.size, 1, none⟩ = some (.int .i64 lo) := s1
          replace s2 : World.cell? (World.drew wr) ⟨w.heap.size, 2, none⟩ = some (.int .i64 hi) := s2
          replace s3 : World.cell? (World.drew wr) ⟨w.heap.size, 3, none⟩ = some (.int .i64 st) := s3
          replace s4 : World.cell? (World.drew wr) ⟨w.heap.size, 4, none⟩ = some (.int .i64 3) := s4
          replace s5 : World.cell? (World.drew wr) ⟨w.heap.size, 5, none⟩ = some (.int .i64 0) := s5
          replace s6 : World.cell? (World.drew wr) ⟨w.heap.size, 6, none⟩ = some (.bool rv) := s6
          replace s7 : World.cell? (World.drew wr) ⟨b, o + k, none⟩ = some (.int .i64 x) := s7
          refine wp_region_held_drew (S := (fun w' => World.cell? w' ⟨w.heap.size, 0, none⟩ = some (.string nm) ∧ World.cell? w' ⟨w.heap.size, 1, none⟩ = some (.int .i64 lo) ∧ World.cell? w' ⟨w.heap.size, 2, none⟩ = some (.int .i64 hi) ∧ World.cell? w' ⟨w.heap.size, 3, none⟩ = some (.int .i64 st) ∧ World.cell? w' ⟨w.heap.size, 4, none⟩ = some (.int .i64 3) ∧ World.cell? w' ⟨w.heap.size, 5, none⟩ = some (.int .i64 0) ∧ World.cell? w' ⟨w.heap.size, 6, none⟩ = some (.bool rv) ∧ World.cell? w' ⟨b, o + k, none⟩ = some (.int .i64 x))) (by kernel_rfl) ?_ (fun hHeld => ?_)
          · exact ⟨s0, s1, s2, s3, s4, s5, s6, s7⟩
          (try simp only [← List.toArray_replicate, List.size_toArray, List.length_cons, List.length_nil, Nat.reduceAdd, List.replicate_succ, List.replicate_zero])
          generalize World.drew wr = x4 at *
          refine wpAnyH_take (i := 0) (oi := _) (v := ?_) rfl (by kernel_rfl) (by kernel_rfl) (by kernel_rfl) (fun _ _ _ h => h) (Or.inl ⟨by rfl, ?_⟩) (by assumption) ?_
          rotate_left
          · (intro w hSw; (try dsimp only at hSw); (try go_simp); (try with_reducible rfl))
          (try simp only [Act.put, List.getElem_toArray, List.getElem_cons_succ, List.getElem_cons_zero, List.setIfInBounds_toArray, List.set_cons_zero, List.set_cons_succ])
          refine wpAnyH_take (i := 1) (oi := _) (v := ?_) rfl (by kernel_rfl) (by kernel_rfl) (by kernel_rfl) (fun _ _ _ h => h) (Or.inl ⟨by rfl, ?_⟩) (by assumption) ?_
          rotate_left
          · (intro w hSw; (try dsimp only at hSw); (try go_simp); (try with_reducible rfl))
          (try simp only [Act.put, List.getElem_toArray, List.getElem_cons_succ, List.getElem_cons_zero, List.setIfInBounds_toArray, List.set_cons_zero, List.set_cons_succ])
          refine wpAnyH_take (i := 2) (oi := _) (v := ?_) rfl (by kernel_rfl) (by kernel_rfl) (by kernel_rfl) (fun _ _ _ h => h) (Or.inl ⟨by rfl, ?_⟩) (by assumption) ?_
          rotate_left
          · (intro w hSw; (try dsimp only at hSw); (try go_simp); (try with_reducible rfl))
          (try simp only [Act.put, List.getElem_toArray, List.getElem_cons_succ, List.getElem_cons_zero, List.setIfInBounds_toArray, List.set_cons_zero, List.set_cons_succ])
          refine wpAnyH_take (i := 3) (oi := _) (v := ?_) rfl (by kernel_rfl) (by kernel_rfl) (by kernel_rfl) (fun _ _ _ h => h) (Or.inl ⟨by rfl, ?_⟩) (by assumption) ?_
          rotate_left
          · (intro w hSw; (try dsimp only at hSw); (try go_simp); (try with_reducible rfl))
          (try simp only [Act.put, List.getElem_toArray, List.getElem_cons_succ, List.getElem_cons_zero, List.setIfInBounds_toArray, List.set_cons_zero, List.set_cons_succ])
          refine wpAnyH_take (i := 4) (oi := _) (v := ?_) rfl (by kernel_rfl) (by kernel_rfl) (by kernel_rfl) (fun _ _ _ h => h) (Or.inl ⟨by rfl, ?_⟩) (by assumption) ?_
          rotate_left
          · (intro w hSw; (try dsimp only at hSw); (try go_simp); (try with_reducible rfl))
          (try simp only [Act.put, List.getElem_toArray, List.getElem_cons_succ, List.getElem_cons_zero, List.setIfInBounds_toArray, List.set_cons_zero, List.set_cons_succ])
          refine wpAnyH_ready (rs := [5]) (by kernel_rfl) (by simp) ?_
          refine AllReadyH.cons (o := _) rfl (fun K hK => ?_) ?_
          · go_simp
            (with_reducible refine (HO1.out _).mono ?_); rintro e x5 ⟨rfl, hy⟩; replace hE := hE.trans hy; replace hx := hx.trans hy; replace s0 := cell_exQ hy s0; replace s1 := cell_exQ hy s1; replace s2 := cell_exQ hy s2; replace s3 := cell_exQ hy s3; replace s4 := cell_exQ hy s4; replace s5 := cell_exQ hy s5; replace s6 := cell_exQ hy s6; replace s7 := cell_exQ hy s7; replace Kc := kE Kc hy; replace Kr := kE Kr hy; clear hy
            refine hK.out _ _ ?_ (fun hHeld2 => ?_)
            · exact ⟨s0, s1, s2, s3, s4, s5, s6, s7⟩
            clear hK K hHeld
            have hHeld := hHeld2
            clear hHeld2
            (try simp only [Act.put, List.getElem_toArray, List.getElem_cons_succ, List.getElem_cons_zero, List.setIfInBounds_toArray, List.set_cons_zero, List.set_cons_succ])
            refine wpAnyH_take (i := 6) (oi := _) (v := ?_) rfl (by kernel_rfl) (by kernel_rfl) (by kernel_rfl) (fun _ _ _ h => h) (Or.inl ⟨by rfl, ?_⟩) (by assumption) ?_
            rotate_left
            · (intro w hSw; (try dsimp only at hSw); (try go_simp); (try with_reducible rfl))
            (try simp only [Act.put, List.getElem_toArray, List.getElem_cons_succ, List.getElem_cons_zero, List.setIfInBounds_toArray, List.set_cons_zero, List.set_cons_succ])
            refine wpAnyH_done (by kernel_rfl) ?_ _
            go_wp2_with fail
            go_meet
            exact ⟨rfl, hE⟩
          exact AllReadyH.nil
        case rest =>
        obtain ⟨rfl, hy⟩ := hcut
        have HXR := Lib.hid (hxr.trans hy)
        have hcx := cell_exQ hy HCX.out
        have HO3 := Lib.hid (HO.out.ext hy)
        have HIa3 := Lib.hid (HIa.out.ext hy)
        have hg1 := hy.size
        replace hx := hx.trans hy
        replace Kc := kE Kc hy
        replace Kr := kE Kr hy
        clear hy
        have HT1 := Lib.hid (HTn.out x HOX.out)
        have HTB := Lib.hid (turn_bd HRR.out HOX.out)
        have HAC := Lib.hid ((accL_succ (c := (⟨nm, lo, hi, st, 3, 0, rv⟩ : CritA)) HXK.out).trans (by rw [hL.out]))
        generalize turnC (⟨nm, lo, hi, st, 3, 0, rv⟩ : CritA) x = y at *
        have HALL := Lib.hid (show ∀ j, j < k + 1 → ∀ u, l[j]? = some u → onC (⟨nm, lo, hi, st, 3, 0, rv⟩ : CritA) u = true from fun j hj u hu => by
          by_cases hjk : j < k
          · exact HA.out j hjk u hu
          · obtain rfl : j = k := by omega
            rw [HXK.out] at hu
            cases hu
            exact HOX.out)
        go_upto_region 14 with fail
        have s0 : World.cell? wc ⟨w.heap.size, 0, none⟩ = some (.string nm) := Kc.out.cell (i := 0) (v := .string nm) rfl
        have s1 : World.cell? wc ⟨w.heap.size, 1, none⟩ = some (.int .i64 lo) := Kc.out.cell (i := 1) (v := .int .i64 lo) rfl
        have s2 : World.cell? wc ⟨w.heap.size, 2, none⟩ = some (.int .i64 hi) := Kc.out.cell (i := 2) (v := .int .i64 hi) rfl
        have s3 : World.cell? wc ⟨w.heap.size, 3, none⟩ = some (.int .i64 st) := Kc.out.cell (i := 3) (v := .int .i64 st) rfl
        have s4 : World.cell? wc ⟨w.heap.size, 4, none⟩ = some (.int .i64 3) := Kc.out.cell (i := 4) (v := .int .i64 3) rfl
        have s5 : World.cell? wc ⟨w.heap.size, 5, none⟩ = some (.int .i64 0) := Kc.out.cell (i := 5) (v := .int .i64 0) rfl
        have s6 : World.cell? wc ⟨w.heap.size, 6, none⟩ = some (.bool rv) := Kc.out.cell (i := 6) (v := .bool rv) rfl
        have s7 : World.cell? wc ⟨b, o + k, none⟩ = some (.int .i64 x) := hcx
        have hE : Ext wc (World.drew wc) := (Ext.refl _).drew
        have hyd : Ext wc (World.drew wc) := (Ext.refl _).drew
        replace hx := hx.trans hyd
        replace Kc := kE Kc hyd
        replace Kr := kE Kr hyd
        clear hyd
        replace s0 : World.cell? (World.drew wc) ⟨w.heap.size, 0, none⟩ = some (.string nm) := s0
        replace s1 : World.cell? (World.drew wc) ⟨w.heap.size, 1, none⟩ = some (.int .i64 lo) := s1
        replace s2 : World.cell? (World.drew wc) ⟨w.heap.size, 2, none⟩ = some (.int .i64 hi) := s2
        replace s3 : World.cell? (World.drew wc) ⟨w.heap.size, 3, none⟩ = some (.int .i64 st) := s3
        replace s4 : World.cell? (World.drew wc) ⟨w.heap.size, 4, none⟩ = some (.int .i64 3) := s4
        replace s5 : World.cell? (World.drew wc) ⟨w.heap.size, 5, none⟩ = some (.int .i64 0) := s5
        replace s6 : World.cell? (World.drew wc) ⟨w.heap.size, 6, none⟩ = some (.bool rv) := s6
        replace s7 : World.cell? (World.drew wc) ⟨b, o + k, none⟩ = some (.int .i64 x) := s7
        refine wp_region_held_drew (S := (fun w' => World.cell? w' ⟨w.heap.size, 0, none⟩ = some (.string nm) ∧ World.cell? w' ⟨w.heap.size, 1, none⟩ = some (.int .i64 lo) ∧ World.cell? w' ⟨w.heap.size, 2, none⟩ = some (.int .i64 hi) ∧ World.cell? w' ⟨w.heap.size, 3, none⟩ = some (.int .i64 st) ∧ World.cell? w' ⟨w.heap.size, 4, none⟩ = some (.int .i64 3) ∧ World.cell? w' ⟨w.heap.size, 5, none⟩ = some (.int .i64 0) ∧ World.cell? w' ⟨w.heap.size, 6, none⟩ = some (.bool rv) ∧ World.cell? w' ⟨b, o + k, none⟩ = some (.int .i64 x))) (by kernel_rfl) ?_ (fun hHeld => ?_)
        · exact ⟨s0, s1, s2, s3, s4, s5, s6, s7⟩
        (try simp only [← List.toArray_replicate, List.size_toArray, List.length_cons, List.length_nil, Nat.reduceAdd, List.replicate_succ, List.replicate_zero])
        generalize World.drew wc = x6 at *
        refine wpAnyH_take (i := 0) (oi := _) (v := ?_) rfl (by kernel_rfl) (by kernel_rfl) (by kernel_rfl) (fun _ _ _ h => h) (Or.inl ⟨by rfl, ?_⟩) (by assumption) ?_
        rotate_left
        · (intro w hSw; (try dsimp only at hSw); (try go_simp); (try with_reducible rfl))
        (try simp only [Act.put, List.getElem_toArray, List.getElem_cons_succ, List.getElem_cons_zero, List.setIfInBounds_toArray, List.set_cons_zero, List.set_cons_succ])
        refine wpAnyH_take (i := 1) (oi := _) (v := ?_) rfl (by kernel_rfl) (by kernel_rfl) (by kernel_rfl) (fun _ _ _ h => h) (Or.inl ⟨by rfl, ?_⟩) (by assumption) ?_
        rotate_left
        · (intro w hSw; (try dsimp only at hSw); (try go_simp); (try with_reducible rfl))
        (try simp only [Act.put, List.getElem_toArray, List.getElem_cons_succ, List.getElem_cons_zero, List.setIfInBounds_toArray, List.set_cons_zero, List.set_cons_succ])
        refine wpAnyH_take (i := 2) (oi := _) (v := ?_) rfl (by kernel_rfl) (by kernel_rfl) (by kernel_rfl) (fun _ _ _ h => h) (Or.inl ⟨by rfl, ?_⟩) (by assumption) ?_
        rotate_left
        · (intro w hSw; (try dsimp only at hSw); (try go_simp); (try with_reducible rfl))
        (try simp only [Act.put, List.getElem_toArray, List.getElem_cons_succ, List.getElem_cons_zero, List.setIfInBounds_toArray, List.set_cons_zero, List.set_cons_succ])
        refine wpAnyH_take (i := 3) (oi := _) (v := ?_) rfl (by kernel_rfl) (by kernel_rfl) (by kernel_rfl) (fun _ _ _ h => h) (Or.inl ⟨by rfl, ?_⟩) (by assumption) ?_
        rotate_left
        · (intro w hSw; (try dsimp only at hSw); (try go_simp); (try with_reducible rfl))
        (try simp only [Act.put, List.getElem_toArray, List.getElem_cons_succ, List.getElem_cons_zero, List.setIfInBounds_toArray, List.set_cons_zero, List.set_cons_succ])
        refine wpAnyH_take (i := 4) (oi := _) (v := ?_) rfl (by kernel_rfl) (by kernel_rfl) (by kernel_rfl) (fun _ _ _ h => h) (Or.inl ⟨by rfl, ?_⟩) (by assumption) ?_
        rotate_left
        · (intro w hSw; (try dsimp only at hSw); (try go_simp); (try with_reducible rfl))
        (try simp only [Act.put, List.getElem_toArray, List.getElem_cons_succ, List.getElem_cons_zero, List.setIfInBounds_toArray, List.set_cons_zero, List.set_cons_succ])
        refine wpAnyH_take (i := 5) (oi := _) (v := ?_) rfl (by kernel_rfl) (by kernel_rfl) (by kernel_rfl) (fun _ _ _ h => h) (Or.inl ⟨by rfl, ?_⟩) (by assumption) ?_
        rotate_left
        · (intro w hSw; (try dsimp only at hSw); (try go_simp); (try with_reducible rfl))
        (try simp only [Act.put, List.getElem_toArray, List.getElem_cons_succ, List.getElem_cons_zero, List.setIfInBounds_toArray, List.set_cons_zero, List.set_cons_succ])
        refine wpAnyH_ready (rs := [6]) (by kernel_rfl) (by simp) ?_
        refine AllReadyH.cons (o := _) rfl (fun K hK => ?_) ?_
        · go_simp
          (with_reducible refine (HT1.out _).mono ?_); rintro e x7 ⟨rfl, hy⟩; replace hE := hE.trans hy; replace hx := hx.trans hy; replace s0 := cell_exQ hy s0; replace s1 := cell_exQ hy s1; replace s2 := cell_exQ hy s2; replace s3 := cell_exQ hy s3; replace s4 := cell_exQ hy s4; replace s5 := cell_exQ hy s5; replace s6 := cell_exQ hy s6; replace s7 := cell_exQ hy s7; replace Kc := kE Kc hy; replace Kr := kE Kr hy; clear hy; have hzb := hE.size
          refine hK.out _ _ ?_ (fun hHeld2 => ?_)
          · exact ⟨s0, s1, s2, s3, s4, s5, s6, s7⟩
          clear hK K hHeld
          have hHeld := hHeld2
          clear hHeld2
          (try simp only [Act.put, List.getElem_toArray, List.getElem_cons_succ, List.getElem_cons_zero, List.setIfInBounds_toArray, List.set_cons_zero, List.set_cons_succ])
          refine wpAnyH_ready (rs := [7]) (by kernel_rfl) (by simp) ?_
          refine AllReadyH.cons (o := _) rfl (fun K hK => ?_) ?_
          · go_simp
            (with_reducible refine (ref16_put gl 0 cg L y _ (HIa3.out.ext hE) (by have := HLen.out; omega) (by have := HTB.out; omega)).mono ?_); rintro e x8 ⟨v, rfl, hv, hy⟩; replace hE := hE.trans hy; replace hx := hx.trans hy; replace s0 := cell_exQ hy s0; replace s1 := cell_exQ hy s1; replace s2 := cell_exQ hy s2; replace s3 := cell_exQ hy s3; replace s4 := cell_exQ hy s4; replace s5 := cell_exQ hy s5; replace s6 := cell_exQ hy s6; replace s7 := cell_exQ hy s7; replace Kc := kE Kc hy; replace Kr := kE Kr hy; clear hy; have HNO := Lib.hid (hv.lowB (B' := g0) (by omega)); clear hv
            refine hK.out _ _ ?_ (fun hHeld2 => ?_)
            · exact ⟨s0, s1, s2, s3, s4, s5, s6, s7⟩
            clear hK K hHeld
            have hHeld := hHeld2
            clear hHeld2
            (try simp only [Act.put, List.getElem_toArray, List.getElem_cons_succ, List.getElem_cons_zero, List.setIfInBounds_toArray, List.set_cons_zero, List.set_cons_succ])
            refine wpAnyH_take (i := 8) (oi := _) (v := ?_) rfl (by kernel_rfl) (by kernel_rfl) (by kernel_rfl) (fun _ _ _ h => h) (Or.inl ⟨by rfl, ?_⟩) (by assumption) ?_
            rotate_left
            · (intro w hSw; (try dsimp only at hSw); (try go_simp); (try with_reducible rfl))
            (try simp only [Act.put, List.getElem_toArray, List.getElem_cons_succ, List.getElem_cons_zero, List.setIfInBounds_toArray, List.set_cons_zero, List.set_cons_succ])
            refine wpAnyH_done (by kernel_rfl) ?_ _
            go_wp2_with fail
            go_roundw
            case rel => exact ⟨k + 1, by omega, by go_num, HALL.out, by rw [HAC.out]; exact HNO.out, HXR.out.trans hE⟩
            case measure => simp [intOf]; omega
          exact AllReadyH.nil
        exact AllReadyH.nil
    · obtain rfl : k = l.length := by omega
      exact absurd (fun x hx => by
        obtain ⟨j, hj, e⟩ := List.getElem_of_mem hx
        exact HA.out j hj x (by rw [← e]; simp)) HON.out
set_option maxHeartbeats 8000000 in
theorem ref16_Total_none (c : CritA) (hc : c.In) (hr : rightC c = true) (a : Option Addr) (cap : Nat) (l : List Int) (w : World) (h : Ints w a cap l) (hl2 : l.length ≤ 256) (hl : l.length = 0) :
    Calls Try.prog 25 #[c.val, .slice a l.length cap] w (RatE 160 w) := by
  have hle := h.le
  have hmx := h.mx
  have hrr := rightC_iff.1 hr
  have HC := Lib.hid (ref16_Right c hc)
  rw [hr] at HC
  have HI := Lib.hid h
  have HRR := Lib.hid hrr
  have HOn := Lib.hid (fun m hm => ref16_On c hc hrr m hm)
  have HTn := Lib.hid (fun m hm => ref16_Turn c hc hrr m hm)
  have tr1 := hrr.tr
  have tr2 := hrr.tm

  obtain ⟨nm, lo, hi, st, how, tr, rv⟩ := c
  dsimp only [CritA.val, CritA.cells] at *
  replace hl := Lib.hid hl
  clear h hrr hr hc
  obtain ⟨x1, hw, hx, Kc, Kr⟩ := boxQ2 w #[.string nm, .int .i64 lo, .int .i64 hi, .int .i64 st, .int .i64 how, .int .i64 tr, .bool rv] 48 #[.bool false, .slice none 0 0, .bool false, .slice none 0 0] 35
  replace hw := Lib.hid hw
  go_enter Try.func25, Try.ntmps25
  go_upto_region 1 with fail
  try simp only [Nat.add_assoc, Nat.reduceAdd, Nat.add_zero]
  rw [hw.out]
  clear hw
  have hs0 := hx.size
  have cc0 := Kc.out.cell (i := 0) (v := .string nm) rfl
  have cc1 := Kc.out.cell (i := 1) (v := .int .i64 lo) rfl
  have cc2 := Kc.out.cell (i := 2) (v := .int .i64 hi) rfl
  have cc3 := Kc.out.cell (i := 3) (v := .int .i64 st) rfl
  have cc4 := Kc.out.cell (i := 4) (v := .int .i64 how) rfl
  have cc5 := Kc.out.cell (i := 5) (v := .int .i64 tr) rfl
  have cc6 := Kc.out.cell (i := 6) (v := .bool rv) rfl
  obtain ⟨cr0, cr1, cr2, cr3⟩ := bk4 Kr
  go_wp2_with fail
  with_reducible refine (HC.out _).mono ?_
  clear cc0 cc1 cc2 cc3 cc4 cc5 cc6 cr0 cr1 cr2 cr3
  rintro e x2 ⟨rfl, hy⟩
  replace hx := hx.trans hy
  replace Kc := kE Kc hy
  replace Kr := kE Kr hy
  clear hy
  clear HC
  have t1 : ((l.length : Int) == 0) = true := by simp [hl.out]
  have t1n : l = [] := List.eq_nil_of_length_eq_zero hl.out
  clear HI HOn HTn HRR
  have cc0 := Kc.out.cell (i := 0) (v := .string nm) rfl
  have cc1 := Kc.out.cell (i := 1) (v := .int .i64 lo) rfl
  have cc2 := Kc.out.cell (i := 2) (v := .int .i64 hi) rfl
  have cc3 := Kc.out.cell (i := 3) (v := .int .i64 st) rfl
  have cc4 := Kc.out.cell (i := 4) (v := .int .i64 how) rfl
  have cc5 := Kc.out.cell (i := 5) (v := .int .i64 tr) rfl
  have cc6 := Kc.out.cell (i := 6) (v := .bool rv) rfl
  obtain ⟨cr0, cr1, cr2, cr3⟩ := bk4 Kr
  obtain ⟨g0, z0, g1, z1, g2, z2, g3, z3⟩ := bp4 Kr (.bool false) (.slice none 0 0) (.bool false) (.slice none 0 0)
  go_wp2_with fail
  clear g0 z0 g1 z1 g2 z2 g3 z3
  clear cc0 cc1 cc2 cc3 cc4 cc5 cc6 cr0 cr1 cr2 cr3
  replace hx := bx4 hx (w.heap.size + 1) (.bool false) (.slice none 0 0) (.bool false) (.slice none 0 0) (by omega)
  replace Kc := bo4 Kc (w.heap.size + 1) (.bool false) (.slice none 0 0) (.bool false) (.slice none 0 0) (by omega)
  replace Kr := bs4 Kr (.bool false) (.slice none 0 0) (.bool false) (.slice none 0 0)
  generalize ((((x2).setCell ⟨w.heap.size + 1, 0, none⟩ (.bool false)).setCell ⟨w.heap.size + 1, 1, none⟩ (.slice none 0 0)).setCell ⟨w.heap.size + 1, 2, none⟩ (.bool false)).setCell ⟨w.heap.size + 1, 3, none⟩ (.slice none 0 0) = x3 at *
  obtain ⟨cr0, cr1, cr2, cr3⟩ := bk4 Kr
  refine bodyPost_ret (v := .tuple #[.agg #[.bool false, .slice none 0 0, .bool false, .slice none 0 0], .int .i64 160]) (by simp [results, Try.results25, go_sem, cr0, cr1, cr2, cr3]) rfl ?_
  exact ⟨rfl, hx⟩
set_option maxHeartbeats 8000000 in
theorem ref16_Total_few (c : CritA) (hc : c.In) (hr : rightC c = true) (a : Option Addr) (cap : Nat) (l : List Int) (w : World) (h : Ints w a cap l) (hl2 : l.length ≤ 256) (hl : 0 < l.length) (ht : (l.length : Int) ≤ 2 * c.tr) :
    Calls Try.prog 25 #[c.val, .slice a l.length cap] w (RatE 160 w) := by
  have hle := h.le
  have hmx := h.mx
  have hrr := rightC_iff.1 hr
  have HC := Lib.hid (ref16_Right c hc)
  rw [hr] at HC
  have HI := Lib.hid h
  have HRR := Lib.hid hrr
  have HOn := Lib.hid (fun m hm => ref16_On c hc hrr m hm)
  have HTn := Lib.hid (fun m hm => ref16_Turn c hc hrr m hm)
  have tr1 := hrr.tr
  have tr2 := hrr.tm
  have hh : c.how = 2 := hrr.mn.resolve_right (by omega)
  obtain ⟨nm, lo, hi, st, how, tr, rv⟩ := c
  dsimp only [CritA.val, CritA.cells] at *

  subst hh
  clear h hrr hr hc
  obtain ⟨x1, hw, hx, Kc, Kr⟩ := boxQ2 w #[.string nm, .int .i64 lo, .int .i64 hi, .int .i64 st, .int .i64 2, .int .i64 tr, .bool rv] 48 #[.bool false, .slice none 0 0, .bool false, .slice none 0 0] 35
  replace hw := Lib.hid hw
  go_enter Try.func25, Try.ntmps25
  go_upto_region 1 with fail
  try simp only [Nat.add_assoc, Nat.reduceAdd, Nat.add_zero]
  rw [hw.out]
  clear hw
  have hs0 := hx.size
  have cc0 := Kc.out.cell (i := 0) (v := .string nm) rfl
  have cc1 := Kc.out.cell (i := 1) (v := .int .i64 lo) rfl
  have cc2 := Kc.out.cell (i := 2) (v := .int .i64 hi) rfl
  have cc3 := Kc.out.cell (i := 3) (v := .int .i64 st) rfl
  have cc4 := Kc.out.cell (i := 4) (v := .int .i64 2) rfl
  have cc5 := Kc.out.cell (i := 5) (v := .int .i64 tr) rfl
  have cc6 := Kc.out.cell (i := 6) (v := .bool rv) rfl
  obtain ⟨cr0, cr1, cr2, cr3⟩ := bk4 Kr
  go_wp2_with fail
  with_reducible refine (HC.out _).mono ?_
  clear cc0 cc1 cc2 cc3 cc4 cc5 cc6 cr0 cr1 cr2 cr3
  rintro e x2 ⟨rfl, hy⟩
  replace hx := hx.trans hy
  replace Kc := kE Kc hy
  replace Kr := kE Kr hy
  clear hy
  clear HC
  have t1 : ((l.length : Int) == 0) = false := beq_false_of_ne (by omega)
  have t1n : ¬ l = [] := List.ne_nil_of_length_pos hl
  have t3 : decide ((l.length : Int) ≤ 2 * tr) = true := decide_eq_true (by omega)
  clear HI HOn HTn HRR
  have cc0 := Kc.out.cell (i := 0) (v := .string nm) rfl
  have cc1 := Kc.out.cell (i := 1) (v := .int .i64 lo) rfl
  have cc2 := Kc.out.cell (i := 2) (v := .int .i64 hi) rfl
  have cc3 := Kc.out.cell (i := 3) (v := .int .i64 st) rfl
  have cc4 := Kc.out.cell (i := 4) (v := .int .i64 2) rfl
  have cc5 := Kc.out.cell (i := 5) (v := .int .i64 tr) rfl
  have cc6 := Kc.out.cell (i := 6) (v := .bool rv) rfl
  obtain ⟨cr0, cr1, cr2, cr3⟩ := bk4 Kr
  obtain ⟨g0, z0, g1, z1, g2, z2, g3, z3⟩ := bp4 Kr (.bool false) (.slice none 0 0) (.bool false) (.slice none 0 0)
  go_wp2_with fail
  clear g0 z0 g1 z1 g2 z2 g3 z3
  clear cc0 cc1 cc2 cc3 cc4 cc5 cc6 cr0 cr1 cr2 cr3
  replace hx := bx4 hx (w.heap.size + 1) (.bool false) (.slice none 0 0) (.bool false) (.slice none 0 0) (by omega)
  replace Kc := bo4 Kc (w.heap.size + 1) (.bool false) (.slice none 0 0) (.bool false) (.slice none 0 0) (by omega)
  replace Kr := bs4 Kr (.bool false) (.slice none 0 0) (.bool false) (.slice none 0 0)
  generalize ((((x2).setCell ⟨w.heap.size + 1, 0, none⟩ (.bool false)).setCell ⟨w.heap.size + 1, 1, none⟩ (.slice none 0 0)).setCell ⟨w.heap.size + 1, 2, none⟩ (.bool false)).setCell ⟨w.heap.size + 1, 3, none⟩ (.slice none 0 0) = x3 at *
  obtain ⟨cr0, cr1, cr2, cr3⟩ := bk4 Kr
  refine bodyPost_ret (v := .tuple #[.agg #[.bool false, .slice none 0 0, .bool false, .slice none 0 0], .int .i64 160]) (by simp [results, Try.results25, go_sem, cr0, cr1, cr2, cr3]) rfl ?_
  exact ⟨rfl, hx⟩
end Go.Proofs.Ytmcbbhlglccmgaa
