import Derived.Test.YtolffmmkjnhkkaaGreatMA
import Derived.OwnWalk
import Derived.Deep.QuietTactic
namespace Go.Proofs.YtolffmmkjnhkkaaGreat
open Go.RowKit Go BigFrame Go.Shelf
set_option maxRecDepth 100000
set_option linter.unusedSimpArgs false
set_option linter.unusedVariables false

/-! Layer 40: lists that are the same. -/
theorem same_RO {v u : Value} {o : Option Rat} {w : World} (hv : RO w v o) (hu : RO w u o) : Calls Tryz.prog 19 #[v, u] w fun e w' => e = .returned (.bool true) ∧ Ext w w' := by
  cases o with
  | none =>
    have e1 : v = zeroRat := hv
    have e2 : u = zeroRat := hu
    subst e1 e2
    exact same_zero w
  | some r => exact (same_rat hv hu).mono fun e w' h => ⟨by rw [h.1]; simp, h.2⟩
set_option maxHeartbeats 4000000 in
theorem ref10_SameList (x y : RowD) (v u : Value) (w : World) (hx0 : x.Rd w v) (hy0 : y.Rd w u) (he : x.R = y.R) : Calls Tryz.prog 14 #[v, u] w fun e w' => e = .returned (.bool true) ∧ Ext w w' := by
  obtain ⟨xa, xc, xV, xR⟩ := x
  obtain ⟨ya, yc, yV, yR⟩ := y
  have hxe := hx0.eq
  have hye := hy0.eq
  subst hxe hye
  dsimp only at *
  have xle := hx0.le
  have xmx := hx0.mx
  have yle := hy0.le
  have ymx := hy0.mx
  have hlen : xV.length = yV.length := by have h1 := hx0.len; have h2 := hy0.len; dsimp only at h1 h2 he; rw [h1, h2, he]
  have t1 : ((xV.length : Int) != (yV.length : Int)) = false := by simp [hlen]
  have HX := Lib.hid hx0
  have HY := Lib.hid hy0
  have HR := Lib.hid he
  have HLN := Lib.hid hlen
  clear hx0 hy0 he hlen
  have hx := Ext.refl w
  go_enter Tryz.func14, Tryz.ntmps14
  go_wp2_with fail
  go_loopw [5] (fun i wr => ∃ k : Nat, k ≤ xV.length ∧ i = .int .i64 k ∧ Ext w wr) (fun i _ => xV.length - (intOf i).toNat)
  case atStart => exact ⟨0, Nat.zero_le _, rfl, hx⟩
  case round =>
    obtain ⟨k, hk, rfl, hxr⟩ := hrel
    have q1 : (0 : Int) ≤ (k : Int) := by omega
    clear hx
    by_cases hkn : k < xV.length
    · have hky : k < yV.length := by have := HLN.out; omega
      have q2 : (k : Int) < (xV.length : Int) := by omega
      have q3 : (k : Int) < (yV.length : Int) := by omega
      have hw1 : IntKind.i64.wrap ((k : Int) + 1) = (k : Int) + 1 := IntWalk.i64_in _ (by omega)
      obtain ⟨b, o, ea⟩ := HX.out.head hkn
      obtain ⟨b2, o2, eb⟩ := HY.out.head hky
      dsimp only at ea eb
      subst ea eb
      obtain ⟨_, g0, g1, g2, g3⟩ := (HX.out.ext hxr).cells _ rfl k hkn
      obtain ⟨_, h0, h1, h2, h3⟩ := (HY.out.ext hxr).cells _ rfl k hky
      have V1 := (HX.out.ext hxr).val k hkn
      have V2 := (HY.out.ext hxr).val k hky
      rw [← HR.out] at V2
      dsimp only at g0 g1 g2 g3 h0 h1 h2 h3
      have HS := fun W (hW : Ext wr W) => same_RO (V1.ext hW) (V2.ext hW)
      clear V1 V2
      generalize xV[k] = p at *
      generalize yV[k] = q at *
      have HS := Lib.hid HS
      obtain ⟨n1, a1, q1', c1, m1, b1, k1, d1⟩ := p
      obtain ⟨n2, a2, q2', c2, m2, b2', k2, d2⟩ := q
      dsimp only [RatC.val] at HS g0 g1 g2 g3 h0 h1 h2 h3
      go_upto_region 6 with fail
      have hx := hxr
      clear hxr
      have s0 : World.cell? wr ⟨b, o + k * 4, none⟩ = some (.bool n1) := g0
      have s1 : World.cell? wr ⟨b, o + k * 4 + 1, none⟩ = some (.slice a1 q1' c1) := g1
      have s2 : World.cell? wr ⟨b, o + k * 4 + 2, none⟩ = some (.bool m1) := g2
      have s3 : World.cell? wr ⟨b, o + k * 4 + 3, none⟩ = some (.slice b1 k1 d1) := g3
      have s4 : World.cell? wr ⟨b2, o2 + k * 4, none⟩ = some (.bool n2) := h0
      have s5 : World.cell? wr ⟨b2, o2 + k * 4 + 1, none⟩ = some (.slice a2 q2' c2) := h1
      have s6 : World.cell? wr ⟨b2, o2 + k * 4 + 2, none⟩ = some (.bool m2) := h2
      have s7 : World.cell? wr ⟨b2, o2 + k * 4 + 3, none⟩ = some (.slice b2' k2 d2) := h3
      have hE : Ext wr (World.drew wr) := (Ext.refl _).drew
      have hyd : Ext wr (World.drew wr) := (Ext.refl _).drew
      replace hx := hx.trans hyd
      clear hyd
      replace s0 : World.cell? (World.drew wr) ⟨b, o + k * 4, none⟩ = some (.bool n1) := s0
      replace s1 : World.cell? (World.drew wr) ⟨b, o + k * 4 + 1, none⟩ = some (.slice a1 q1' c1) := s1
      replace s2 : World.cell? (World.drew wr) ⟨b, o + k * 4 + 2, none⟩ = some (.bool m1) := s2
      replace s3 : World.cell? (World.drew wr) ⟨b, o + k * 4 + 3, none⟩ = some (.slice b1 k1 d1) := s3
      replace s4 : World.cell? (World.drew wr) ⟨b2, o2 + k * 4, none⟩ = some (.bool n2) := s4
      replace s5 : World.cell? (World.drew wr) ⟨b2, o2 + k * 4 + 1, none⟩ = some (.slice a2 q2' c2) := s5
      replace s6 : World.cell? (World.drew wr) ⟨b2, o2 + k * 4 + 2, none⟩ = some (.bool m2) := s6
      replace s7 : World.cell? (World.drew wr) ⟨b2, o2 + k * 4 + 3, none⟩ = some (.slice b2' k2 d2) := s7
      refine wp_region_held_drew (S := (fun w' => World.cell? w' ⟨b, o + k * 4, none⟩ = some (.bool n1) ∧ World.cell? w' ⟨b, o + k * 4 + 1, none⟩ = some (.slice a1 q1' c1) ∧ World.cell? w' ⟨b, o + k * 4 + 2, none⟩ = some (.bool m1) ∧ World.cell? w' ⟨b, o + k * 4 + 3, none⟩ = some (.slice b1 k1 d1) ∧ World.cell? w' ⟨b2, o2 + k * 4, none⟩ = some (.bool n2) ∧ World.cell? w' ⟨b2, o2 + k * 4 + 1, none⟩ = some (.slice a2 q2' c2) ∧ World.cell? w' ⟨b2, o2 + k * 4 + 2, none⟩ = some (.bool m2) ∧ World.cell? w' ⟨b2, o2 + k * 4 + 3, none⟩ = some (.slice b2' k2 d2))) (by kernel_rfl) ?_ (fun hHeld => ?_)
      · exact ⟨s0, s1, s2, s3, s4, s5, s6, s7⟩
      (try simp only [← List.toArray_replicate, List.size_toArray, List.length_cons, List.length_nil, Nat.reduceAdd, List.replicate_succ, List.replicate_zero])
      generalize World.drew wr = x21 at *
      refine wpAnyH_take (i := 0) (oi := _) (v := ?_) rfl (by kernel_rfl) (by kernel_rfl) (by kernel_rfl) (fun _ _ _ h => h) (Or.inl ⟨by rfl, ?_⟩) (by assumption) ?_
      rotate_left
      · (intro w hSw; (try dsimp only at hSw); (try go_simp); (try with_reducible rfl))
      (try simp only [Act.put, List.getElem_toArray, List.getElem_cons_succ, List.getElem_cons_zero, List.setIfInBounds_toArray, List.set_cons_zero, List.set_cons_succ])
      refine wpAnyH_take (i := 1) (oi := _) (v := ?_) rfl (by kernel_rfl) (by kernel_rfl) (by kernel_rfl) (fun _ _ _ h => h) (Or.inl ⟨by rfl, ?_⟩) (by assumption) ?_
      rotate_left
      · (intro w hSw; (try dsimp only at hSw); (try go_simp); (try with_reducible rfl))
      (try simp only [Act.put, List.getElem_toArray, List.getElem_cons_succ, List.getElem_cons_zero, List.setIfInBounds_toArray, List.set_cons_zero, List.set_cons_succ])
      refine wpAnyH_take (i := 2) (oi := _) (v := ?_) rfl (by kernel_rfl) (by kernel_rfl) (by kernel_rfl) (fun _ _ _ h => h) (Or.inl ⟨by rfl, ?_⟩) (by assumption) ?_
      rotate_left
      · (intro w hSw; (try dsimp only at hSw); (try go_simp); (try with_reducible rfl))
      (try simp only [Act.put, List.getElem_toArray, List.getElem_cons_succ, List.getElem_cons_zero, List.setIfInBounds_toArray, List.set_cons_zero, List.set_cons_succ])
      refine wpAnyH_take (i := 3) (oi := _) (v := ?_) rfl (by kernel_rfl) (by kernel_rfl) (by kernel_rfl) (fun _ _ _ h => h) (Or.inl ⟨by rfl, ?_⟩) (by assumption) ?_
      rotate_left
      · (intro w hSw; (try dsimp only at hSw); (try go_simp); (try with_reducible rfl))
      (try simp only [Act.put, List.getElem_toArray, List.getElem_cons_succ, List.getElem_cons_zero, List.setIfInBounds_toArray, List.set_cons_zero, List.set_cons_succ])
      refine wpAnyH_take (i := 4) (oi := _) (v := ?_) rfl (by kernel_rfl) (by kernel_rfl) (by kernel_rfl) (fun _ _ _ h => h) (Or.inl ⟨by rfl, ?_⟩) (by assumption) ?_
      rotate_left
      · (intro w hSw; (try dsimp only at hSw); (try go_simp); (try with_reducible rfl))
      (try simp only [Act.put, List.getElem_toArray, List.getElem_cons_succ, List.getElem_cons_zero, List.setIfInBounds_toArray, List.set_cons_zero, List.set_cons_succ])
      refine wpAnyH_take (i := 5) (oi := _) (v := ?_) rfl (by kernel_rfl) (by kernel_rfl) (by kernel_rfl) (fun _ _ _ h => h) (Or.inl ⟨by rfl, ?_⟩) (by assumption) ?_
      rotate_left
      · (intro w hSw; (try dsimp only at hSw); (try go_simp); (try with_reducible rfl))
      (try simp only [Act.put, List.getElem_toArray, List.getElem_cons_succ, List.getElem_cons_zero, List.setIfInBounds_toArray, List.set_cons_zero, List.set_cons_succ])
      refine wpAnyH_take (i := 6) (oi := _) (v := ?_) rfl (by kernel_rfl) (by kernel_rfl) (by kernel_rfl) (fun _ _ _ h => h) (Or.inl ⟨by rfl, ?_⟩) (by assumption) ?_
      rotate_left
      · (intro w hSw; (try dsimp only at hSw); (try go_simp); (try with_reducible rfl))
      (try simp only [Act.put, List.getElem_toArray, List.getElem_cons_succ, List.getElem_cons_zero, List.setIfInBounds_toArray, List.set_cons_zero, List.set_cons_succ])
      refine wpAnyH_take (i := 7) (oi := _) (v := ?_) rfl (by kernel_rfl) (by kernel_rfl) (by kernel_rfl) (fun _ _ _ h => h) (Or.inl ⟨by rfl, ?_⟩) (by assumption) ?_
      rotate_left
      · (intro w hSw; (try dsimp only at hSw); (try go_simp); (try with_reducible rfl))
      (try simp only [Act.put, List.getElem_toArray, List.getElem_cons_succ, List.getElem_cons_zero, List.setIfInBounds_toArray, List.set_cons_zero, List.set_cons_succ])
      refine wpAnyH_ready (rs := [8]) (by kernel_rfl) (by simp) ?_
      refine AllReadyH.cons (o := _) rfl (fun K hK => ?_) ?_
      · go_simp
        (with_reducible refine (HS.out _ hE).mono ?_); rintro e x22 ⟨rfl, hy⟩; replace hE := hE.trans hy; replace hx := hx.trans hy; replace s0 := cell_exQ hy s0; replace s1 := cell_exQ hy s1; replace s2 := cell_exQ hy s2; replace s3 := cell_exQ hy s3; replace s4 := cell_exQ hy s4; replace s5 := cell_exQ hy s5; replace s6 := cell_exQ hy s6; replace s7 := cell_exQ hy s7; clear hy
        refine hK.out _ _ ?_ (fun hHeld2 => ?_)
        · exact ⟨s0, s1, s2, s3, s4, s5, s6, s7⟩
        clear hK K hHeld
        have hHeld := hHeld2
        clear hHeld2
        (try simp only [Act.put, List.getElem_toArray, List.getElem_cons_succ, List.getElem_cons_zero, List.setIfInBounds_toArray, List.set_cons_zero, List.set_cons_succ])
        refine wpAnyH_take (i := 9) (oi := _) (v := ?_) rfl (by kernel_rfl) (by kernel_rfl) (by kernel_rfl) (fun _ _ _ h => h) (Or.inl ⟨by rfl, ?_⟩) (by assumption) ?_
        rotate_left
        · (intro w hSw; (try dsimp only at hSw); (try go_simp); (try with_reducible rfl))
        (try simp only [Act.put, List.getElem_toArray, List.getElem_cons_succ, List.getElem_cons_zero, List.setIfInBounds_toArray, List.set_cons_zero, List.set_cons_succ])
        refine wpAnyH_done (by kernel_rfl) ?_ _
        clear s0 s1 s2 s3 s4 s5 s6 s7
        go_wp2_with fail
        go_roundw
        case rel => exact ⟨k + 1, by omega, by go_num, hx⟩
        case measure => simp [intOf]; omega
      exact AllReadyH.nil
    · have q2 : ¬ (k : Int) < (xV.length : Int) := by omega
      go_wp2_with fail
      go_ret
      exact ⟨rfl, hxr⟩
end Go.Proofs.YtolffmmkjnhkkaaGreat
