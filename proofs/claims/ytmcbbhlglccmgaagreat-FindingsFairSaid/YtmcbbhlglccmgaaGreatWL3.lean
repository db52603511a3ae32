import Derived.Test.YtmcbbhlglccmgaaGreatWS
import Derived.Test.YtmcbbhlglccmgaaGreatWZroot
import Derived.Test.YtmcbbhlglccmgaaGreatWP3
import Derived.Test.YtmcbbhlglccmgaaGreatW9
import Derived.OwnWalk
import Derived.Deep.QuietTactic
namespace Go.Proofs.YtmcbbhlglccmgaaGreat
open Go.RowKit Go BigFrame Go.Shelf
set_option maxRecDepth 100000
set_option linter.unusedSimpArgs false
set_option linter.unusedVariables false

/-! Layer 42: ref10.Int; least and valid of the law. -/
def RatQ (r : Rat) (w : World) (e : Ending) (w' : World) : Prop := ∃ v, e = .returned v ∧ RatN w' v r w.heap.size ∧ Ext w w'
theorem ratN_of {w : World} {n1 n2 : Bool} {a b : Option Addr} {q c k d B : Nat} {r : Rat} (h1 : BigV w (.agg #[.bool n1, .slice a q c]) r.num) (h2 : BigV w (.agg #[.bool n2, .slice b k d]) (r.den : Int)) (h3 : ∀ A, a = some A → B ≤ A.block) (h4 : ∀ A, b = some A → B ≤ A.block) :
    RatN w (.agg #[.bool n1, .slice a q c, .bool n2, .slice b k d]) r B := by
  have hv := RatV.mk h1 h2
  obtain ⟨n1', a', q', c', b', k', d', e⟩ := hv.form
  have e' := e
  simp only [Value.agg.injEq, Array.mk.injEq, List.cons.injEq, Value.bool.injEq, Value.slice.injEq, and_true] at e'
  obtain ⟨rfl, ⟨rfl, rfl, rfl⟩, rfl, ⟨rfl, rfl, rfl⟩⟩ := e'
  exact ⟨_, _, _, _, _, _, _, rfl, hv, h3, h4⟩
set_option maxHeartbeats 4000000 in
theorem ref10_Int (n : Int) (w : World) (hn : -9223372036854775808 ≤ n ∧ n ≤ 9223372036854775807) : Calls Tryz.prog 55 #[.int .i64 n] w (RatQ (n : Rat) w) := by
  have HN := Lib.hid hn
  clear hn
  obtain ⟨x1, hw, hx, Kr⟩ := boxQ1 w #[.bool false, .slice none 0 0, .bool false, .slice none 0 0] 34
  replace hw := Lib.hid hw
  go_enter Tryz.func55, Tryz.ntmps55
  go_upto_region 1 with fail
  try simp only [Nat.add_assoc, Nat.reduceAdd, Nat.add_zero]
  rw [hw.out]
  clear hw
  have hs0 := hx.size
  obtain ⟨cr0, cr1, cr2, cr3⟩ := bk4 Kr
  have hsz := hx.size
  go_wp2_with fail
  clear cr0 cr1 cr2 cr3
  refine (ref_Make n _ HN.out).mono ?_
  rintro e x2 ⟨v, rfl, hv, hy⟩
  replace hx := hx.trans hy
  replace Kr := kE Kr hy
  clear hy
  obtain ⟨nu, au, qu, cu, rfl, hv', hf'⟩ := hv.two
  have Vu := Lib.hid hv'
  have Fu := Lib.hid (fun A hA => Nat.le_trans hsz (hf' A hA))
  clear hv' hf' hsz
  obtain ⟨cr0, cr1, cr2, cr3⟩ := bk4 Kr
  have hsz := hx.size
  go_wp2_with fail
  clear cr0 cr1 cr2 cr3
  refine (ref_Make 1 _ (by omega)).mono ?_
  rintro e x3 ⟨v, rfl, hv, hy⟩
  replace hx := hx.trans hy
  replace Kr := kE Kr hy
  replace Vu := Lib.hid (Vu.out.ext hy)
  clear hy
  obtain ⟨nv, av, qv, cv, rfl, hv', hf'⟩ := hv.two
  have Vv := Lib.hid hv'
  have Fv := Lib.hid (fun A hA => Nat.le_trans hsz (hf' A hA))
  clear hv' hf' hsz
  obtain ⟨cr0, cr1, cr2, cr3⟩ := bk4 Kr
  obtain ⟨g0, z0, g1, z1, g2, z2, g3, z3⟩ := bp4 Kr (.bool nu) (.slice au qu cu) (.bool nv) (.slice av qv cv)
  go_wp2_with fail
  clear g0 z0 g1 z1 g2 z2 g3 z3
  clear cr0 cr1 cr2 cr3
  replace Vu := (by first | exact rv4 Vu Kr (.bool nu) (.slice au qu cu) (.bool nv) (.slice av qv cv) rfl rfl rfl rfl | exact bv4 Vu Kr (.bool nu) (.slice au qu cu) (.bool nv) (.slice av qv cv) rfl rfl rfl rfl)
  replace Vv := (by first | exact rv4 Vv Kr (.bool nu) (.slice au qu cu) (.bool nv) (.slice av qv cv) rfl rfl rfl rfl | exact bv4 Vv Kr (.bool nu) (.slice au qu cu) (.bool nv) (.slice av qv cv) rfl rfl rfl rfl)
  replace hx := bx4 hx (w.heap.size) (.bool nu) (.slice au qu cu) (.bool nv) (.slice av qv cv) (by omega)
  replace Kr := bs4 Kr (.bool nu) (.slice au qu cu) (.bool nv) (.slice av qv cv)
  generalize ((((x3).setCell ⟨w.heap.size, 0, none⟩ (.bool nu)).setCell ⟨w.heap.size, 1, none⟩ (.slice au qu cu)).setCell ⟨w.heap.size, 2, none⟩ (.bool nv)).setCell ⟨w.heap.size, 3, none⟩ (.slice av qv cv) = x4 at *
  obtain ⟨cr0, cr1, cr2, cr3⟩ := bk4 Kr
  refine bodyPost_ret (v := .agg #[.bool nu, .slice au qu cu, .bool nv, .slice av qv cv]) (by simp [results, Tryz.results55, go_sem, cr0, cr1, cr2, cr3]) rfl ?_
  exact ⟨_, rfl, ratN_of (by simpa using Vu.out) (by simpa using Vv.out) Fu.out Fv.out, hx⟩
set_option maxHeartbeats 4000000 in
theorem law42_least {pv : Value} {r : Rat} (n d : Nat) (w : World) (hp : RatV w pv r) (hs : Sz r 2) (hn : n ≤ 1000000) (hd : d ≤ 1000000) (h0 : d ≠ 0) :
    Calls Tryz.prog 54 #[pv, .int .i64 n, .int .i64 d] w fun e w' => e = .returned (.bool (decide (cmpR (Rat.divInt n d) r ≤ 0))) ∧ Ext w w' := by
  obtain ⟨n1, a1, q1, c1, b1, k1, d1, rfl⟩ := hp.form
  have V0 := Lib.hid hp
  have HM := Lib.hid (fun W => rMakeR (n : Int) (d : Int) W (by omega) (by omega) (by omega))
  have HSZ : Hid (Sz (Rat.divInt n d) 1) := Lib.hid (divInt_sz (by simp; omega) (by simp; omega) (by omega))
  have HS2 := Lib.hid hs
  obtain ⟨bb, hbb⟩ : ∃ bb, decide (cmpR (Rat.divInt n d) r ≤ 0) = bb := ⟨_, rfl⟩
  rw [hbb]
  have HB := Lib.hid hbb
  clear hp hn hd h0 hs hbb
  obtain ⟨x1, hw, hx, Kp⟩ := boxQ1 w #[.bool n1, .slice a1 q1 c1, .bool false, .slice b1 k1 d1] 34
  replace hw := Lib.hid hw
  replace V0 := Lib.hid (V0.out.ext hx)
  go_enter Tryz.func54, Tryz.ntmps54
  go_upto_region 1 with fail
  rw [hw.out]
  clear hw
  have hs0 := hx.size
  obtain ⟨cp0, cp1, cp2, cp3⟩ := bk4 Kp
  have hsz := hx.size
  go_wp2_with fail
  clear cp0 cp1 cp2 cp3
  refine (HM.out _).mono ?_
  rintro e x2 ⟨v, rfl, hv, hy⟩
  replace hx := hx.trans hy
  replace Kp := kE Kp hy
  replace V0 := Lib.hid (V0.out.ext hy)
  clear hy HM
  obtain ⟨nx, ax, qx, cx, bx, kx, dx, rfl, hv', hf', hg'⟩ := hv
  have Vx := Lib.hid hv'
  have Fx := Lib.hid (fun A hA => Nat.le_trans hsz (hf' A hA))
  have Gx := Lib.hid (fun A hA => Nat.le_trans hsz (hg' A hA))
  clear hv' hf' hg' hsz
  clear Fx Gx
  go_upto_region 2 with fail
  have hl := Ext.alloc x2 (.cells #[.bool nx, .slice ax qx cx, .bool false, .slice bx kx dx] 34)
  have lpx : w.heap.size < x2.heap.size := Kp.out.lt
  have hpx : w.heap.size ≤ x2.heap.size := hx.size
  replace hx := hx.trans hl
  replace Kp := kE Kp hl
  replace V0 := Lib.hid (V0.out.ext hl)
  replace Vx := Lib.hid (Vx.out.ext hl)
  have Kx := Lib.hid (Blk.new0 x2 #[.bool nx, .slice ax qx cx, .bool false, .slice bx kx dx] 34)
  clear hl
  generalize x2.alloc (.cells #[.bool nx, .slice ax qx cx, .bool false, .slice bx kx dx] 34) = x3 at *
  generalize x2.heap.size = px at *
  obtain ⟨cp0, cp1, cp2, cp3⟩ := bk4 Kp
  obtain ⟨cx0, cx1, cx2, cx3⟩ := bk4 Kx
  go_wp2_with fail
  with_reducible refine ((rCmp_valR Vx.out V0.out HSZ.out HS2.out (by omega))).mono ?_
  clear cp0 cp1 cp2 cp3 cx0 cx1 cx2 cx3
  rintro e x4 ⟨rfl, hy⟩
  replace hx := hx.trans hy
  replace Kp := kE Kp hy
  replace Kx := kE Kx hy
  replace V0 := Lib.hid (V0.out.ext hy)
  replace Vx := Lib.hid (Vx.out.ext hy)
  clear hy
  generalize cmpR (Rat.divInt n d) r = z at *
  have HB2 := HB.out
  by_cases hz : z ≤ 0
  · rw [decide_eq_true hz] at HB2
    subst HB2
    have v1 : decide (z ≤ 0) = true := decide_eq_true hz
    clear HB
    go_wp2_with fail
    go_ret
    exact ⟨rfl, hx⟩
  · rw [decide_eq_false hz] at HB2
    subst HB2
    have v1 : decide (z ≤ 0) = false := decide_eq_false hz
    clear HB
    go_wp2_with fail
    go_ret
    exact ⟨rfl, hx⟩
/-- How many of the first k are not greater than r. -/
def cntQ (rs : List Rat) (r : Rat) (k : Nat) : Nat := (rs.take k).countP fun q => decide (cmpR q r ≤ 0)
theorem cntQ_succ (rs : List Rat) (r : Rat) {k : Nat} (hk : k < rs.length) : cntQ rs r (k + 1) = cntQ rs r k + if cmpR (rs.getD k 0) r ≤ 0 then 1 else 0 := by
  unfold cntQ
  rw [List.take_add_one, List.countP_append, List.getD_eq_getElem?_getD, List.getElem?_eq_getElem hk]
  by_cases h : cmpR rs[k] r ≤ 0 <;> simp [h]
theorem cntQ_le (rs : List Rat) (r : Rat) (k : Nat) : cntQ rs r k ≤ k := Nat.le_trans List.countP_le_length (by rw [List.length_take]; omega)
/-- What valid asks for. -/
def FairL (rs : List Rat) : Prop := ∀ r ∈ rs, cmpR (Rat.divInt (cntQ rs r rs.length : Nat) (rs.length : Nat)) r ≤ 0 ∧ cmpR r 1 ≤ 0 ∧ Sz r 2
set_option maxHeartbeats 8000000 in
theorem law42_valid (g cap B : Nat) (L : List RatC) (rs : List Rat) (w : World) (h : OwnRats w B (.slice (some ⟨g, 0, none⟩) L.length cap) L rs) (hl : 0 < L.length) (hm : L.length ≤ 100000) (hf : FairL rs) :
    Calls Tryz.prog 20 #[.slice (some ⟨g, 0, none⟩) L.length cap] w fun e w' => e = .returned (.bool true) ∧ Ext w w' := by
  obtain ⟨ag, cg, e0, hle, hmx⟩ := h.form
  simp only [Value.slice.injEq] at e0
  obtain ⟨-, -, rfl⟩ := e0
  have HO := Lib.hid h
  have HF := Lib.hid hf
  have hlr := h.len
  have HLR := Lib.hid hlr
  obtain ⟨N, hN⟩ : ∃ N, N = L.length := ⟨_, rfl⟩
  have HN := Lib.hid hN
  rw [← hN] at hle hl hm ⊢
  clear h hf hlr hN
  go_enter Tryz.func20, Tryz.ntmps20
  go_wp2_with fail
  go_loopw [14] (fun i wr => ∃ k : Nat, k ≤ N ∧ i = .int .i64 k ∧ Ext w wr) (fun i _ => N - (intOf i).toNat)
  case atStart => exact ⟨0, Nat.zero_le _, rfl, Ext.refl _⟩
  case round =>
    obtain ⟨k, hk, rfl, hxr⟩ := hrel
    generalize wr = wR at *
    have g1 : (0 : Int) ≤ (k : Int) := by omega
    by_cases hkn : k < N
    · have g2 : (k : Int) < (N : Int) := by omega
      have hO := HO.out.ext hxr
      have hip : k < L.length := by rw [← HN.out]; assumption
      obtain ⟨c0, c1, c2, c3⟩ := hO.cells hip
      have hvp := hO.val k hip
      have HRp : Hid (rs.getD k 0 ∈ rs) := Lib.hid (by rw [List.getD_eq_getElem?_getD, List.getElem?_eq_getElem (by rw [← HLR.out]; exact hip)]; exact List.getElem_mem _)
      generalize hgp : L[k] = ep at *
      obtain ⟨np, ap, qp, cp, mp, bp, kp, dp⟩ := ep
      dsimp only at c0 c1 c2 c3
      clear hgp hO hip
      have Vp := Lib.hid (show RatV wR (.agg #[.bool np, .slice ap qp cp, .bool mp, .slice bp kp dp]) (rs.getD k 0) from hvp)
      clear hvp
      have hsk := Lib.hid (HF.out _ HRp.out)
      generalize rs.getD k 0 = rp at *
      have hx := hxr
      have hs0 := hx.size
      go_upto_region 4 with fail
      have hl := Ext.alloc wR (.cells #[.bool np, .slice ap qp cp, .bool mp, .slice bp kp dp] 34)
      have hpp : w.heap.size ≤ wR.heap.size := hx.size
      replace hx := hx.trans hl
      replace Vp := Lib.hid (Vp.out.ext hl)
      have Kp := Lib.hid (Blk.new0 wR #[.bool np, .slice ap qp cp, .bool mp, .slice bp kp dp] 34)
      clear hl
      generalize wR.alloc (.cells #[.bool np, .slice ap qp cp, .bool mp, .slice bp kp dp] 34) = x1 at *
      generalize wR.heap.size = pp at *
      clear c0 c1 c2 c3
      have HXP := Lib.hid hx
      have HKp := Kp
      have HVp := Vp
      clear hxr
      go_wp2_with fail
      clear hx Kp Vp
      go_loopw [5, 20] (fun s5 i wr => ∃ q : Nat, q ≤ N ∧ i = .int .i64 q ∧ s5 = .int .i64 (cntQ rs rp q : Nat) ∧ Ext x1 wr) (fun _ i _ => N - (intOf i).toNat)
      case atStart => exact ⟨0, Nat.zero_le _, rfl, rfl, Ext.refl _⟩
      case round =>
        obtain ⟨q, hq, rfl, rfl, hxr⟩ := hrel
        have g3 : (0 : Int) ≤ (q : Int) := by omega
        have b1 := cntQ_le rs rp q
        have hx := HXP.out.trans hxr
        have Kp := kE HKp hxr
        have Vp := Lib.hid (HVp.out.ext hxr)
        by_cases hqn : q < N
        · have g4 : (q : Int) < (N : Int) := by omega
          have hs1 := cntQ_succ rs rp (k := q) (by rw [← HLR.out, ← HN.out]; exact hqn)
          have hO := HO.out.ext hx
          have hiu : q < L.length := by rw [← HN.out]; assumption
          obtain ⟨c0, c1, c2, c3⟩ := hO.cells hiu
          have hvu := hO.val q hiu
          have HRu : Hid (rs.getD q 0 ∈ rs) := Lib.hid (by rw [List.getD_eq_getElem?_getD, List.getElem?_eq_getElem (by rw [← HLR.out]; exact hiu)]; exact List.getElem_mem _)
          generalize hgu : L[q] = eu at *
          obtain ⟨nu, au, qu, cu, mu, bu, ku, du⟩ := eu
          dsimp only at c0 c1 c2 c3
          clear hgu hO hiu
          have Vu := Lib.hid (show RatV wr (.agg #[.bool nu, .slice au qu cu, .bool mu, .slice bu ku du]) (rs.getD q 0) from hvu)
          clear hvu
          have hsq := Lib.hid (HF.out _ HRu.out)
          generalize rs.getD q 0 = ru at *
          have HS1 := Lib.hid hs1
          generalize cntQ rs rp q = C at *
          clear hs1
          have hxr0 := Lib.hid hxr
          have hs0 := hx.size
          have HXR := Lib.hid (hxr.alloc' (.cells #[.bool nu, .slice au qu cu, .bool mu, .slice bu ku du] 34))
          go_upto_region 8 with fail
          have hl := Ext.alloc wr (.cells #[.bool nu, .slice au qu cu, .bool mu, .slice bu ku du] 34)
          have lpu : pp < wr.heap.size := Kp.out.lt
          have hpu : w.heap.size ≤ wr.heap.size := hx.size
          replace hx := hx.trans hl
          replace Kp := kE Kp hl
          replace Vp := Lib.hid (Vp.out.ext hl)
          replace Vu := Lib.hid (Vu.out.ext hl)
          have Ku := Lib.hid (Blk.new0 wr #[.bool nu, .slice au qu cu, .bool mu, .slice bu ku du] 34)
          clear hl
          generalize wr.alloc (.cells #[.bool nu, .slice au qu cu, .bool mu, .slice bu ku du] 34) = x2 at *
          generalize wr.heap.size = pu at *
          clear c0 c1 c2 c3
          obtain ⟨cp0, cp1, cp2, cp3⟩ := bk4 Kp
          obtain ⟨cu0, cu1, cu2, cu3⟩ := bk4 Ku
          go_wp2_with fail
          clear cp0 cp1 cp2 cp3 cu0 cu1 cu2 cu3
          with_reducible refine (rCmp_valR Vu.out Vp.out hsq.out.2.2 hsk.out.2.2 (by omega)).mono ?_
          rintro e x3 ⟨rfl, hy⟩
          have HXR2 := Lib.hid (HXR.out.trans hy)
          clear hy HXR
          by_cases hz : cmpR ru rp ≤ 0
          · have v1 : decide (cmpR ru rp ≤ 0) = true := decide_eq_true hz
            have hs2 := HS1.out
            rw [if_pos hz] at hs2
            have HS2 := Lib.hid hs2
            clear hs2
            generalize cmpR ru rp = z at *
            go_wp2_with fail
            go_roundw
            case rel => exact ⟨q + 1, by omega, by go_num, by rw [HS2.out]; simp, HXR2.out⟩
            case measure => simp [intOf]; omega
          · have v1 : decide (cmpR ru rp ≤ 0) = false := decide_eq_false hz
            have hs2 := HS1.out
            rw [if_neg hz] at hs2
            have HS2 := Lib.hid hs2
            clear hs2
            generalize cmpR ru rp = z at *
            go_wp2_with fail
            go_roundw
            case rel => exact ⟨q + 1, by omega, by go_num, by rw [HS2.out]; simp, HXR2.out⟩
            case measure => simp [intOf]; omega
        · have g4 : ¬ (q : Int) < (N : Int) := by omega
          obtain rfl : q = N := by omega
          obtain ⟨f1, f2, f3⟩ := hsk.out
          rw [← HLR.out, ← HN.out] at f1
          have HLe := Lib.hid (fun W pv (hp : RatV W pv rp) => (by have := law42_least (cntQ rs rp q) q W hp f3 (by omega) (by omega) (by omega); rw [decide_eq_true f1] at this; exact this : Calls Tryz.prog 54 #[pv, .int .i64 (cntQ rs rp q : Nat), .int .i64 q] W fun e w' => e = .returned (.bool true) ∧ Ext W w'))
          generalize cntQ rs rp q = C at *
          have HF3 := Lib.hid f3
          clear f1 f3
          have hs0 := hx.size
          obtain ⟨cp0, cp1, cp2, cp3⟩ := bk4 Kp
          go_wp2_with fail
          with_reducible refine (HLe.out _ _ Vp.out).mono ?_
          clear cp0 cp1 cp2 cp3
          rintro e x2 ⟨rfl, hy⟩
          replace hx := hx.trans hy
          replace Kp := kE Kp hy
          replace Vp := Lib.hid (Vp.out.ext hy)
          clear hy
          obtain ⟨cp0, cp1, cp2, cp3⟩ := bk4 Kp
          go_upto_region 14 with fail
          clear cp0 cp1 cp2 cp3
          have v1 : decide (0 < cmpR rp 1) = false := decide_eq_false (by omega)
          have HS1 : Hid (Sz (1 : Rat) 1) := Lib.hid ⟨by decide, by decide⟩
          have hsz : True := trivial
          have s0 : World.cell? x2 ⟨pp, 0, none⟩ = some (.bool np) := Kp.out.cell (i := 0) (v := .bool np) rfl
          have s1 : World.cell? x2 ⟨pp, 1, none⟩ = some (.slice ap qp cp) := Kp.out.cell (i := 1) (v := .slice ap qp cp) rfl
          have s2 : World.cell? x2 ⟨pp, 2, none⟩ = some (.bool mp) := Kp.out.cell (i := 2) (v := .bool mp) rfl
          have s3 : World.cell? x2 ⟨pp, 3, none⟩ = some (.slice bp kp dp) := Kp.out.cell (i := 3) (v := .slice bp kp dp) rfl
          have hE : Ext x2 (World.drew x2) := (Ext.refl _).drew
          have hyd : Ext x2 (World.drew x2) := (Ext.refl _).drew
          replace hx := hx.trans hyd
          replace Kp := kE Kp hyd
          replace Vp := Lib.hid (Vp.out.ext hyd)
          clear hyd
          replace s0 : World.cell? (World.drew x2) ⟨pp, 0, none⟩ = some (.bool np) := s0
          replace s1 : World.cell? (World.drew x2) ⟨pp, 1, none⟩ = some (.slice ap qp cp) := s1
          replace s2 : World.cell? (World.drew x2) ⟨pp, 2, none⟩ = some (.bool mp) := s2
          replace s3 : World.cell? (World.drew x2) ⟨pp, 3, none⟩ = some (.slice bp kp dp) := s3
          refine wp_region_held_drew (S := (fun w' => World.cell? w' ⟨pp, 0, none⟩ = some (.bool np) ∧ World.cell? w' ⟨pp, 1, none⟩ = some (.slice ap qp cp) ∧ World.cell? w' ⟨pp, 2, none⟩ = some (.bool mp) ∧ World.cell? w' ⟨pp, 3, none⟩ = some (.slice bp kp dp))) (by kernel_rfl) ?_ (fun hHeld => ?_)
          · exact ⟨s0, s1, s2, s3⟩
          (try simp only [← List.toArray_replicate, List.size_toArray, List.length_cons, List.length_nil, Nat.reduceAdd, List.replicate_succ, List.replicate_zero])
          generalize World.drew x2 = x3 at *
          refine wpAnyH_take (i := 0) (oi := _) (v := ?_) rfl (by kernel_rfl) (by kernel_rfl) (by kernel_rfl) (fun _ _ _ h => h) (Or.inl ⟨by rfl, ?_⟩) (by assumption) ?_
          rotate_left
          · (intro w hSw; (try dsimp only at hSw); (try go_simp); (try with_reducible rfl))
          (try simp only [Act.put, List.getElem_toArray, List.getElem_cons_succ, List.getElem_cons_zero, List.setIfInBounds_toArray, List.set_cons_zero, List.set_cons_succ])
          refine wpAnyH_ready (rs := [1]) (by kernel_rfl) (by simp) ?_
          refine AllReadyH.cons (o := _) rfl (fun K hK => ?_) ?_
          · go_simp
            (with_reducible refine (ref10_Int 1 _ (by omega)).mono ?_); rintro e x4 ⟨v, rfl, hv, hy⟩; replace hE := hE.trans hy; replace hx := hx.trans hy; replace s0 := cell_exQ hy s0; replace s1 := cell_exQ hy s1; replace s2 := cell_exQ hy s2; replace s3 := cell_exQ hy s3; replace Kp := kE Kp hy; replace Vp := Lib.hid (Vp.out.ext hy); clear hy; obtain ⟨ni, ai, qi, ci, bi, ki, di, rfl, hv, -, -⟩ := hv; have Vi := Lib.hid (show RatV _ _ (1 : Rat) from hv); clear hv
            refine hK.out _ _ ?_ (fun hHeld2 => ?_)
            · exact ⟨s0, s1, s2, s3⟩
            clear hK K hHeld
            have hHeld := hHeld2
            clear hHeld2
            (try simp only [Act.put, List.getElem_toArray, List.getElem_cons_succ, List.getElem_cons_zero, List.setIfInBounds_toArray, List.set_cons_zero, List.set_cons_succ])
            refine wpAnyH_ready (rs := [2]) (by kernel_rfl) (by simp) ?_
            refine AllReadyH.cons (o := _) rfl (fun K hK => ?_) ?_
            · go_simp
              (with_reducible refine (rCmp_valR Vp.out Vi.out HF3.out HS1.out (by omega)).mono ?_); rintro e x5 ⟨rfl, hy⟩; replace hE := hE.trans hy; replace hx := hx.trans hy; replace s0 := cell_exQ hy s0; replace s1 := cell_exQ hy s1; replace s2 := cell_exQ hy s2; replace s3 := cell_exQ hy s3; replace Kp := kE Kp hy; replace Vp := Lib.hid (Vp.out.ext hy); replace Vi := Lib.hid (Vi.out.ext hy); clear hy
              refine hK.out _ _ ?_ (fun hHeld2 => ?_)
              · exact ⟨s0, s1, s2, s3⟩
              clear hK K hHeld
              have hHeld := hHeld2
              clear hHeld2
              (try simp only [Act.put, List.getElem_toArray, List.getElem_cons_succ, List.getElem_cons_zero, List.setIfInBounds_toArray, List.set_cons_zero, List.set_cons_succ])
              refine wpAnyH_take (i := 3) (oi := _) (v := ?_) rfl (by kernel_rfl) (by kernel_rfl) (by kernel_rfl) (fun _ _ _ h => h) (Or.inl ⟨by rfl, ?_⟩) (by assumption) ?_
              rotate_left
              · (intro w hSw; (try dsimp only at hSw); (try go_simp); (try with_reducible rfl))
              (try simp only [Act.put, List.getElem_toArray, List.getElem_cons_succ, List.getElem_cons_zero, List.setIfInBounds_toArray, List.set_cons_zero, List.set_cons_succ])
              refine wpAnyH_take (i := 4) (oi := _) (v := ?_) rfl (by kernel_rfl) (by kernel_rfl) (by kernel_rfl) (fun _ _ _ h => h) (Or.inl ⟨by rfl, ?_⟩) (by assumption) ?_
              rotate_left
              · (intro w hSw; (try dsimp only at hSw); (try go_simp); (try with_reducible rfl))
              (try simp only [Act.put, List.getElem_toArray, List.getElem_cons_succ, List.getElem_cons_zero, List.setIfInBounds_toArray, List.set_cons_zero, List.set_cons_succ])
              refine wpAnyH_take (i := 5) (oi := _) (v := ?_) rfl (by kernel_rfl) (by kernel_rfl) (by kernel_rfl) (fun _ _ _ h => h) (Or.inl ⟨by rfl, ?_⟩) (by assumption) ?_
              rotate_left
              · (intro w hSw; (try dsimp only at hSw); (try go_simp); (try with_reducible rfl))
              (try simp only [Act.put, List.getElem_toArray, List.getElem_cons_succ, List.getElem_cons_zero, List.setIfInBounds_toArray, List.set_cons_zero, List.set_cons_succ])
              refine wpAnyH_take (i := 6) (oi := _) (v := ?_) rfl (by kernel_rfl) (by kernel_rfl) (by kernel_rfl) (fun _ _ _ h => h) (Or.inl ⟨by rfl, ?_⟩) (by assumption) ?_
              rotate_left
              · (intro w hSw; (try dsimp only at hSw); (try go_simp); (try with_reducible rfl))
              (try simp only [Act.put, List.getElem_toArray, List.getElem_cons_succ, List.getElem_cons_zero, List.setIfInBounds_toArray, List.set_cons_zero, List.set_cons_succ])
              refine wpAnyH_take (i := 7) (oi := _) (v := ?_) rfl (by kernel_rfl) (by kernel_rfl) (by kernel_rfl) (fun _ _ _ h => h) (Or.inl ⟨by rfl, ?_⟩) (by assumption) ?_
              rotate_left
              · (intro w hSw; (try dsimp only at hSw); (try go_simp); (try with_reducible rfl))
              (try simp only [Act.put, List.getElem_toArray, List.getElem_cons_succ, List.getElem_cons_zero, List.setIfInBounds_toArray, List.set_cons_zero, List.set_cons_succ])
              refine wpAnyH_done (by kernel_rfl) ?_ _
              go_wp2_with fail
              go_roundw
              case rel => exact ⟨k + 1, by omega, by go_num, hx⟩
              case measure => simp [intOf]; omega
            exact AllReadyH.nil
          exact AllReadyH.nil
    · have g2 : ¬ (k : Int) < (N : Int) := by omega
      go_wp2_with fail
      go_ret
      exact ⟨rfl, hxr⟩
end Go.Proofs.YtmcbbhlglccmgaaGreat

namespace Go.Proofs.YtmcbbhlglccmgaaGreat
open Go.RowKit Go BigFrame Go.Shelf
set_option maxRecDepth 100000
set_option linter.unusedSimpArgs false
set_option linter.unusedVariables false

/-! Layer 42, plain: fair tests. -/
theorem cross_ltW {n m p q : Int} (hm : 0 < m) (hq : 0 < q) : Rat.divInt n m < Rat.divInt p q ↔ n * q < p * m := by
  have hm' : (0 : Rat) < (m : Rat) := by exact_mod_cast hm
  have hq' : (0 : Rat) < (q : Rat) := by exact_mod_cast hq
  rw [Rat.divInt_eq_div, Rat.divInt_eq_div, Rat.div_lt_iff hm', show (p : Rat) / q * m = ((p * m : Int) : Rat) / q by rw [Rat.intCast_mul]; grind, Rat.lt_div_iff hq', ← Rat.intCast_mul, Rat.intCast_lt_intCast]
theorem cmp_div {a b N : Nat} (hN : 0 < N) : cmpR (Rat.divInt a N) (Rat.divInt b N) ≤ 0 ↔ a ≤ b := by
  have h1 := cross_ltW (n := (a : Int)) (m := (N : Int)) (p := (b : Int)) (q := (N : Int)) (by omega) (by omega)
  have h2 := cross_ltW (n := (b : Int)) (m := (N : Int)) (p := (a : Int)) (q := (N : Int)) (by omega) (by omega)
  have e1 : (a : Int) * N < b * N ↔ a < b := by
    rw [← Int.natCast_mul, ← Int.natCast_mul, Int.ofNat_lt]
    exact ⟨fun h => Nat.lt_of_mul_lt_mul_right h, fun h => Nat.mul_lt_mul_of_pos_right h hN⟩
  have e2 : (b : Int) * N < a * N ↔ b < a := by
    rw [← Int.natCast_mul, ← Int.natCast_mul, Int.ofNat_lt]
    exact ⟨fun h => Nat.lt_of_mul_lt_mul_right h, fun h => Nat.mul_lt_mul_of_pos_right h hN⟩
  rw [e1] at h1
  rw [e2] at h2
  unfold cmpR
  by_cases hab : a < b
  · rw [if_pos (h1.2 hab)]; omega
  · rw [if_neg fun h => hab (h1.1 h)]
    by_cases hba : b < a
    · rw [if_pos (h2.2 hba)]; omega
    · rw [if_neg fun h => hba (h2.1 h)]; omega
theorem one_div {N : Nat} (hN : 0 < N) : (1 : Rat) = Rat.divInt N N := by
  rw [Rat.divInt_eq_div]
  have hN' : (0 : Rat) < ((N : Int) : Rat) := by exact_mod_cast (show (0 : Int) < (N : Int) by omega)
  grind
/-- The P's of a list of cases: how many cases are at least as extreme, of all. -/
def psOf (xs : List Int) : List Rat := xs.map fun x => Rat.divInt (xs.countP (fun z => decide (x ≤ z)) : Nat) (xs.length : Nat)
theorem fair_of (xs : List Int) (h0 : 0 < xs.length) (hb : xs.length ≤ 1000000) : FairL (psOf xs) := by
  intro r hr
  obtain ⟨x, hx, rfl⟩ := List.mem_map.1 hr
  have hlen : (psOf xs).length = xs.length := List.length_map ..
  have hc : xs.countP (fun z => decide (x ≤ z)) ≤ xs.length := List.countP_le_length
  refine ⟨?_, ?_, ?_⟩
  · rw [hlen, cmp_div h0]
    unfold cntQ
    rw [List.take_of_length_le (by omega)]
    unfold psOf
    rw [List.countP_map]
    refine Nat.le_trans (Nat.le_of_eq ?_) (valid_law xs hx)
    refine List.countP_congr fun y hy => ?_
    simp only [Function.comp_apply, decide_eq_true_eq]
    exact cmp_div h0
  · rw [one_div h0, cmp_div h0]; exact hc
  · exact divInt_sz (by simp; omega) (by simp; omega) (by omega)
/-- An order of the elements, taken before another one. -/
def aft (o p : List Int) : List Int := p.map fun v => o.getD v.toNat 0
theorem aft_get {n : Nat} {o p : List Int} (hp : Ord n p) {k : Nat} (hk : k < n) : (aft o p).getD k 0 = o.getD (p.getD k 0).toNat 0 := by
  have this : k < p.length := by rw [hp.len]; exact hk
  have e : p.getD k 0 = p[k] := by rw [List.getD_eq_getElem?_getD, List.getElem?_eq_getElem this]; rfl
  rw [e]
  unfold aft
  rw [List.getD_eq_getElem?_getD, List.getElem?_map, List.getElem?_eq_getElem this]
  rfl
theorem aft_ord {n : Nat} {o p : List Int} (ho : Ord n o) (hp : Ord n p) : Ord n (aft o p) := by
  refine ⟨by unfold aft; rw [List.length_map]; exact hp.len, fun x hx => ?_, ?_⟩
  · obtain ⟨v, hv, rfl⟩ := List.mem_map.1 hx
    have := hp.rng v hv
    exact ho.at (j := v.toNat) (by omega)
  · refine nodup_map hp.nd fun a ha b hb e => ?_
    have h1 := hp.rng a ha
    have h2 := hp.rng b hb
    have e1 := idx_at (p := o) (j := a.toNat) ho.nd (by rw [ho.len]; omega)
    have e2 := idx_at (p := o) (j := b.toNat) ho.nd (by rw [ho.len]; omega)
    rw [e, e2] at e1
    omega
theorem aft_inj {n : Nat} {o p q : List Int} (ho : Ord n o) (hp : Ord n p) (hq : Ord n q) (h : aft o p = aft o q) : p = q := by
  refine list_eq (by rw [hp.len, hq.len]) fun j hj => ?_
  rw [hp.len] at hj
  have e : (aft o p).getD j 0 = (aft o q).getD j 0 := by rw [h]
  rw [aft_get hp hj, aft_get hq hj] at e
  have h1 := hp.at hj
  have h2 := hq.at hj
  have e1 := idx_at (p := o) (j := (p.getD j 0).toNat) ho.nd (by rw [ho.len]; omega)
  have e2 := idx_at (p := o) (j := (q.getD j 0).toNat) ho.nd (by rw [ho.len]; omega)
  rw [e, e2] at e1
  omega
theorem aft_all {n : Nat} {o : List Int} (ho : Ord n o) : ((G n).map (aft o)).Perm (G n) := by
  refine perm_of_subset _ _ ?_ (fun a ha => ?_) (by rw [List.length_map]; exact Nat.le_refl _)
  · exact nodup_map (G_nodup n) fun a ha b hb e => aft_inj ho (G_mem.1 ha) (G_mem.1 hb) e
  · obtain ⟨p, hp, rfl⟩ := List.mem_map.1 ha
    exact G_mem.2 (aft_ord ho (G_mem.1 hp))
/-- The elements of the second list in another order: the count is the same. -/
def moveL (o m : List Int) : List Int := o.map fun v => m.getD v.toNat 0
theorem moveL_len (o m : List Int) : (moveL o m).length = o.length := List.length_map ..
theorem moveL_get {n : Nat} {o m : List Int} (ho : o.length = n) {k : Nat} (hk : k < n) : (moveL o m).getD k 0 = m.getD (o.getD k 0).toNat 0 := by
  have this : k < o.length := by omega
  have e : o.getD k 0 = o[k] := by rw [List.getD_eq_getElem?_getD, List.getElem?_eq_getElem this]; rfl
  rw [e]
  unfold moveL
  rw [List.getD_eq_getElem?_getD, List.getElem?_map, List.getElem?_eq_getElem this]
  rfl
theorem cnt_move (pt : Int → Int → Int) (l m : List Int) (s : Int) {n : Nat} {o : List Int} (hl : l.length = n) (ho : Ord n o) : cntG pt l (moveL o m) s = cntG pt l m s := by
  unfold cntG cntL
  rw [hl]
  show (G n).countP _ = (G n).countP _
  have e := (aft_all ho).countP_eq (fun p => decide (s ≤ psum pt l m p n))
  rw [List.countP_map] at e
  rw [← e]
  refine List.countP_congr fun p hp => ?_
  have hP := G_mem.1 hp
  simp only [Function.comp_apply, decide_eq_true_eq]
  have : psum pt l (moveL o m) p n = psum pt l m (aft o p) n := by
    unfold psum
    refine sm_congr fun i hi => ?_
    have h1 := hP.at hi
    rw [aft_get hP hi, moveL_get ho.len (by omega)]
  rw [this]
theorem ord_of_mem {n : Nat} {p : List Int} (h : p ∈ ordersL n) : Ord n p := G_mem.1 ((ordersL_perm n).mem_iff.2 h)
end Go.Proofs.YtmcbbhlglccmgaaGreat

namespace Go.Proofs.YtmcbbhlglccmgaaGreat
open Go.RowKit Go BigFrame Go.Shelf
set_option maxRecDepth 100000
set_option linter.unusedSimpArgs false
set_option linter.unusedVariables false

/-! law42.FindingsFair. -/
theorem infoBool : (Tryz.prog.info? 4).map (fun i => (i.zero, i.size, i.bytes)) = some (some (.bool false), 1, 1) := by kernel_rfl
structure OwBRows (w : World) (a : Option Addr) (c : Nat) (m : List (List Bool)) : Prop where
  h : BRows w a c m
theorem OwBRows.ext {w w' : World} {a : Option Addr} {c : Nat} {m : List (List Bool)} (h : OwBRows w a c m) (k : Ext w w') : OwBRows w' a c m := ⟨h.h.ext k⟩
theorem askW_oneE {m : List (List Int)} {k : Nat} (h : errW m = 0) (hk : k < (m.headD []).length) : askW m [(k : Int)] = 0 := by
  unfold askW
  rw [if_neg (by omega), if_neg (by simp only [minL, List.foldl_nil]; omega), if_neg (by simp only [maxL, List.foldl_nil]; omega)]
theorem askW_twoE {m : List (List Int)} {a b : Nat} (h : errW m = 0) (ha : a < (m.headD []).length) (hb : b < (m.headD []).length) : askW m [(a : Int), (b : Int)] = 0 := by
  unfold askW
  rw [if_neg (by omega), if_neg (by simp only [minL, List.foldl_cons, List.foldl_nil]; omega), if_neg (by simp only [maxL, List.foldl_cons, List.foldl_nil]; omega)]
/-- The rows of mates that the law lays out. -/
def rowB (n A : Nat) (b : Bool) : List Bool := (List.replicate n false).set A b
def rowsB (n A : Nat) (l : List Bool) : List (List Bool) := l.map (rowB n A)
theorem rowB_len (n A : Nat) (b : Bool) : (rowB n A b).length = n := by simp [rowB]
theorem rowsB_len (n A : Nat) (l : List Bool) : (rowsB n A l).length = l.length := List.length_map ..
theorem hasB {n A : Nat} (hA : A < n) {l : List Bool} {i : Nat} {b : Bool} (h : l[i]? = some b) : hasW (rowsB n A l) A i = b := by
  unfold hasW rowsB
  simp only [List.getD_eq_getElem?_getD, List.getElem?_map, h, Option.map_some, Option.getD_some]
  unfold rowB
  simp [hA]
theorem rowsB_mate {n A : Nat} (l : List Bool) : (rowsB n A l).any (mateB n) = false := by
  rw [List.any_eq_false]
  intro x hx
  obtain ⟨b, _, rfl⟩ := List.mem_map.1 hx
  simp [mateB, rowB_len]
theorem i64_and1 (n : Int) : bits .and .i64 n 1 = n % 2 := by
  have h127 : (BitVec.ofInt 64 1).toNat = 2 ^ 1 - 1 := by decide
  have key : (BitVec.ofInt 64 n &&& BitVec.ofInt 64 1).toNat = (n % ((2 ^ 64 : Nat) : Int)).toNat % 2 ^ 1 := by
    rw [BitVec.toNat_and, BitVec.toNat_ofInt, h127, Nat.and_two_pow_sub_one_eq_mod]
  show IntKind.i64.wrap ((BitVec.ofInt 64 n &&& BitVec.ofInt 64 1).toNat : Nat) = n % 2
  rw [key, IntKind.wrap_i64]
  omega
theorem szW_le (s : Nat) : ∀ i, szW s i ≤ i := by
  intro i
  induction i with
  | zero => exact Nat.le_refl _
  | succ i ih => unfold szW bitN; have : s / 2 ^ i % 2 < 2 := Nat.mod_lt _ (by omega); omega
theorem smW_bd {d : List Int} (h : ∀ x ∈ d, -16000 ≤ x ∧ x ≤ 16000) (s : Nat) : ∀ i : Nat, -16000 * (i : Int) ≤ smW d s i ∧ smW d s i ≤ 16000 * (i : Int) := by
  intro i
  induction i with
  | zero => simp [smW]
  | succ i ih =>
    unfold smW
    have := getD_bd h i
    split <;> omega
def bitsL (s N : Nat) : List Bool := (List.range N).map fun i => decide (bitN s i = 1)
theorem bitsL_len (s N : Nat) : (bitsL s N).length = N := by simp [bitsL]
theorem bitsL_get {s N i : Nat} (h : i < N) : (bitsL s N)[i]? = some (decide (bitN s i = 1)) := by
  unfold bitsL
  rw [List.getElem?_map, List.getElem?_range h]; rfl
theorem fav_bits (d : List Int) {n A s N : Nat} (hA : A < n) : ∀ i, i ≤ N → favN (rowsB n A (bitsL s N)) A i = szW s i ∧ favS d (rowsB n A (bitsL s N)) A i = smW d s i := by
  intro i
  induction i with
  | zero => intro _; exact ⟨rfl, rfl⟩
  | succ i ih =>
    intro h
    obtain ⟨e1, e2⟩ := ih (by omega)
    have hb := hasB hA (bitsL_get (s := s) (N := N) (i := i) (by omega))
    have h2 : bitN s i = 0 ∨ bitN s i = 1 := by unfold bitN; omega
    unfold favN favS szW smW
    rw [hb, e1, e2]
    rcases h2 with h2 | h2 <;> simp [h2]
/-- The sums of the sets of so many entries, up to a set. -/
def xsF (d : List Int) (k s : Nat) : List Int := ((List.range s).filter fun t => szW t d.length == k).map fun t => smW d t d.length
def psF (d : List Int) (k s : Nat) : List Rat := (xsF d k s).map fun x => Rat.divInt (cs x k d 0 : Nat) (bin d.length k : Nat)
theorem psF_skip {d : List Int} {k s : Nat} (h : szW s d.length ≠ k) : psF d k (s + 1) = psF d k s := by
  unfold psF xsF
  rw [List.range_succ, List.filter_append]
  simp [h]
theorem psF_more {d : List Int} {k s : Nat} (h : szW s d.length = k) : psF d k (s + 1) = psF d k s ++ [Rat.divInt (cs (smW d s d.length) k d 0 : Nat) (bin d.length k : Nat)] := by
  unfold psF xsF
  rw [List.range_succ, List.filter_append]
  simp [h]
theorem xsF_len (d : List Int) (k : Nat) : (xsF d k (2 ^ d.length)).length = bin d.length k := by
  unfold xsF
  rw [List.length_map, ← List.countP_eq_length_filter, cases_bits]
theorem xsF_cnt (d : List Int) (k : Nat) (x : Int) : (xsF d k (2 ^ d.length)).countP (fun z => decide (x ≤ z)) = cs x k d 0 := by
  unfold xsF
  rw [List.countP_map, List.countP_filter, ← hits_bits]
  refine List.countP_congr fun t _ => ?_
  simp [Bool.and_comm]
theorem psF_all (d : List Int) (k : Nat) : psF d k (2 ^ d.length) = psOf (xsF d k (2 ^ d.length)) := by
  unfold psF psOf
  refine List.map_congr_left fun x _ => ?_
  rw [xsF_cnt, xsF_len]
theorem psF_len {d : List Int} {k : Nat} (hk : k ≤ d.length) : 0 < (psF d k (2 ^ d.length)).length := by
  unfold psF
  rw [List.length_map, xsF_len]
  exact bin_pos hk
theorem psF_fair {d : List Int} {k : Nat} (hk : k ≤ d.length) (hd : d.length ≤ 15) : FairL (psF d k (2 ^ d.length)) := by
  rw [psF_all]
  have h1 := bin_pos hk
  have h3 : bin d.length k ≤ 2 ^ d.length := bin_le _ _
  have h4 : 2 ^ d.length ≤ 2 ^ 15 := Nat.pow_le_pow_right (by omega) hd
  refine fair_of _ (by rw [xsF_len]; exact h1) ?_
  rw [xsF_len]
  omega
theorem wpl_append_rat {a0 w : World} {ops : Array Oper} {rest : List Oper} {o : Oper} {a : Act} {Q : Exit → Act → World → Prop} (hgd : o.guard = none) (s y : Operand)
    (ho : o.op = .call { callee := .builtin .append, args := #[s, y], argTypes := #[43, 43] }) (hx0 : Ext a0 w) {v : Value} (hs : a.eval s = v) {L : List RatC} {rs : List Rat} (hown : OwnRats w a0.heap.size v L rs)
    {g : Nat} (hy : a.eval y = .slice (some ⟨g, 0, none⟩) 1 1) {t : TypeId} {x : RatC} {r : Rat} (hb : Blk w g #[.bool x.n, .slice x.a x.q x.c, .bool x.m, .slice x.b x.k x.d] t) (hx : RatV w x.val r) (hxo : x.Off v.ownBlock) (hlen : L.length ≤ 1000000)
    (h : ∀ va vc w', OwnRats w' a0.heap.size (.slice va (L.length + 1) vc) (L ++ [x]) (rs ++ [r]) → Ext a0 w' → wpList Tryz.prog ops Q rest (a.put o.dst (.slice va (L.length + 1) vc)) w') : wpList Tryz.prog ops Q (o :: rest) a w := by
  refine wpList_plain hgd fun K hK => ?_
  obtain ⟨v', w', hr, h1, h2, _⟩ := run_append_rat hx0 hown hb hx hxo hlen o.type
  obtain ⟨va, vc, e, _⟩ := h1.form
  rw [List.length_append, List.length_singleton] at e
  subst e
  unfold Oper.wp execOp
  simp only [ho, resolve, invoke, builtin, Sem.run_bind, Sem.run_pure, Result.andThen_ok, List.map_toArray, List.map_cons, List.map_nil, hs, hy, hr]
  exact hK _ _ (h va vc w' h1 h2)
set_option maxHeartbeats 8000000 in
theorem law_FFair_no (a : Option Addr) (cap : Nat) (m : List (List Int)) (j o : Int) (w : World) (h : Rows w a cap m) (hj : 0 ≤ j ∧ j ≤ 255) (ho : 0 ≤ o ∧ o ≤ 255) (hr : rightW m 5 = false) : Calls Tryz.prog 4 #[.slice a m.length cap, .int .u8 j, .int .u8 o] w fun e w' => e = .returned (.bool true) ∧ Ext w w' := by
  have hle := h.le
  have hmx := h.mx
  have HH := Lib.hid h
  have HRt := Lib.hid (fun W (hW : Ext w W) => law42_right_no a cap m j 5 W (h.ext hW) hr)
  simp only [show ((5 : Nat) : Int) = 5 from rfl] at HRt
  clear h hr
  have hx : Ext w w := Ext.refl w
  go_enter Tryz.func4, Tryz.ntmps4
  go_upto_region 1 with fail
  have hs0 := hx.size
  go_wp2_with fail
  with_reducible refine (law42_sane _).mono ?_
  rintro e x1 ⟨rfl, hy⟩
  replace hx := hx.trans hy
  clear hy
  go_wp2_with fail
  with_reducible refine (HRt.out _ hx).mono ?_
  rintro e x2 ⟨rfl, hy⟩
  replace hx := hx.trans hy
  clear hy
  go_wp2_with fail
  go_ret
  exact ⟨rfl, hx⟩
set_option maxHeartbeats 8000000 in
theorem law_FFair_yes (a : Option Addr) (cap : Nat) (m : List (List Int)) (j o : Int) (w : World) (h : Rows w a cap m) (hj : 0 ≤ j ∧ j ≤ 255) (ho : 0 ≤ o ∧ o ≤ 255) (hr : rightW m 5 = true) : Calls Tryz.prog 4 #[.slice a m.length cap, .int .u8 j, .int .u8 o] w fun e w' => e = .returned (.bool true) ∧ Ext w w' := by
  have hle := h.le
  have hmx := h.mx
  have HH := Lib.hid h
  have hr' := hr
  simp only [rightW, Bool.and_eq_true, decide_eq_true_eq] at hr'
  obtain ⟨h7, he0⟩ := hr'
  have hR := errW_ok he0
  obtain ⟨r0, hr0⟩ : ∃ r0, m[0]? = some r0 := ⟨_, List.getElem?_eq_getElem hR.p⟩
  have hrd : m.headD [] = r0 := by
    rw [List.headD_eq_head?_getD, List.head?_eq_getElem?, hr0]; rfl
  have hn2 := hR.two
  rw [hrd] at hR hn2
  obtain ⟨j1, j2⟩ := hj
  obtain ⟨o1, o2⟩ := ho
  have hn16 := (hR.row r0 (List.mem_of_getElem? hr0)).2.1
  obtain ⟨n, hn⟩ : ∃ n, n = r0.length := ⟨_, rfl⟩
  rw [← hn] at hR hn2 hn16
  obtain ⟨A, hA⟩ : ∃ A : Nat, j % (n : Int) = (A : Int) := ⟨(j % (n : Int)).toNat, by have := Int.emod_nonneg j (show (n : Int) ≠ 0 by omega); omega⟩
  have hAn : A < n := by have := Int.emod_lt_of_pos j (show (0 : Int) < (n : Int) by omega); omega
  have HRt := Lib.hid (fun W (hW : Ext w W) => law42_right_yes a cap m j 5 W (h.ext hW) hr ⟨j1, j2⟩ A (by rw [hrd, ← hn]; exact hA))
  simp only [show ((5 : Nat) : Int) = 5 from rfl] at HRt
  have hhm : (m.headD []).length = n := by rw [hrd, ← hn]
  have hmp := hR.p
  obtain ⟨K, hK⟩ : ∃ K : Nat, o % ((m.length : Int) + 1) = (K : Int) := ⟨(o % ((m.length : Int) + 1)).toNat, by have := Int.emod_nonneg o (show (m.length : Int) + 1 ≠ 0 by omega); omega⟩
  have hKm : K ≤ m.length := by have := Int.emod_lt_of_pos o (show (0 : Int) < (m.length : Int) + 1 by omega); omega
  have hdl : (aboveL m A).length = m.length := List.length_map ..
  have HFV := Lib.hid (fun s W a3 c3 (hs : szW s m.length = K) (hW : Ext w W) (hX : BRows W a3 c3 (rowsB n A (bitsL s m.length))) => (by
    have := findings_Favour_ok a a3 cap c3 m (rowsB n A (bitsL s m.length)) (A : Int) W (h.ext hW) hX (by omega) (askW_oneE he0 (by rw [hhm]; exact hAn)) (by rw [rowsB_len, bitsL_len]) (by rw [hhm]; exact rowsB_mate _) (.inl (by omega))
    rw [show (A : Int).toNat = A from rfl] at this
    unfold favQ at this
    rw [rowsB_len, bitsL_len, (fav_bits (aboveL m A) hAn m.length (Nat.le_refl _)).1, (fav_bits (aboveL m A) hAn m.length (Nat.le_refl _)).2, hs, ← hdl] at this
    exact this : Calls Tryz.prog 11 #[.slice a (aboveL m A).length cap, .slice a3 (aboveL m A).length c3, .int .i64 (A : Int)] W (RatP (Rat.divInt (cs (smW (aboveL m A) s (aboveL m A).length) K (aboveL m A) 0 : Nat) (bin (aboveL m A).length K : Nat)) W)))
  have hbd := above_bd hR hAn
  generalize aboveL m A = d at *
  have hfair := psF_fair (d := d) (k := K) (by omega) (by omega)
  have HFair := Lib.hid hfair
  have HPL := Lib.hid (psF_len (d := d) (k := K) (by omega))
  have HSkip := Lib.hid (fun s (h : szW s m.length ≠ K) => psF_skip (d := d) (k := K) (s := s) (by rw [hdl]; exact h))
  have HMore := Lib.hid (fun s (h : szW s m.length = K) => psF_more (d := d) (k := K) (s := s) (by rw [hdl]; exact h))
  have HSz := Lib.hid (fun s => (divInt_sz (k := 1) (by have h1 := cs_le_bin (smW d s d.length) K d 0; have h2 := bin_le20 (n := d.length) (by omega) (k := K); simp; omega) (by have h2 := bin_le20 (n := d.length) (by omega) (k := K); simp; omega) (by have := bin_pos (n := d.length) (k := K) (by omega); omega) : Sz (Rat.divInt (cs (smW d s d.length) K d 0 : Nat) (bin d.length K : Nat)) 1))
  simp only [hdl] at HFV HSz HMore
  rw [hdl] at HFair HPL
  have HDL := Lib.hid hdl
  obtain ⟨bm, om, rfl⟩ := h.head hmp
  obtain ⟨r1, a1, c1, hr1, hc1, hI1⟩ := Rows.get h hmp
  rw [hr0] at hr1
  cases hr1
  simp only [Nat.add_zero] at hc1
  rw [← hn] at hc1
  have r0le := hI1.le
  have r0mx := hI1.mx
  rw [← hn] at r0le
  have HC1 := Lib.hid hc1
  obtain ⟨i0, hi0, hz0, hz1, hz2⟩ := info_parts infoBool
  have HII := Lib.hid (And.intro hi0 (And.intro hz0 (And.intro hz1 hz2)))
  have g0 : (0 : Int) < (m.length : Int) := by omega
  have gA : (A : Int) < (n : Int) := by omega
  have gA0 : (0 : Int) ≤ (A : Int) := by omega
  have u1 : o.tmod ((m.length : Int) + 1) = (K : Int) := by rw [Int.tmod_eq_emod_of_nonneg o1, hK]
  have v1 : ((m.length : Int) + 1 == 0) = false := beq_false_of_ne (by omega)
  have v2 : ¬ (m.length : Int) + 1 = 0 := by omega
  obtain ⟨M, hM⟩ : ∃ M, M = 2 ^ m.length := ⟨_, rfl⟩
  have hM64 : M ≤ 64 := by rw [hM]; exact Nat.le_trans (Nat.pow_le_pow_right (by omega) (show m.length ≤ 6 by omega)) (by decide)
  rw [← hM] at HFair HPL
  have hw : wrap64 ((2 : Int) ^ m.length) = (M : Int) := by
    unfold wrap64
    have : ((2 : Int) ^ m.length) = ((2 ^ m.length : Nat) : Int) := by simp
    rw [this, ← hM]
    omega
  have HW2 := Lib.hid hw
  have HBP : Hid (0 < bin m.length K) := Lib.hid (bin_pos hKm)
  clear h hr hR hr0 hrd hn hA hc1 hI1 hi0 hz0 hz1 hz2 he0 hhm hK hM hw hfair hbd hdl
  have hx : Ext w w := Ext.refl w
  go_enter Tryz.func4, Tryz.ntmps4
  go_upto_region 1 with fail
  have hs0 := hx.size
  go_wp2_with fail
  with_reducible refine (law42_sane _).mono ?_
  rintro e x1 ⟨rfl, hy⟩
  replace hx := hx.trans hy
  clear hy
  go_wp2_with fail
  with_reducible refine (HRt.out _ hx).mono ?_
  rintro e x2 ⟨rfl, hy⟩
  replace hx := hx.trans hy
  clear hy
  clear HRt
  go_upto_region 9 with fail
  rw [HW2.out]
  clear u1 v1 v2 HW2
  have HX0 := Lib.hid hx
  clear hx hs0
  go_loopw [10, 37] (fun v x wr => ∃ (s : Nat) (L : List RatC), s ≤ M ∧ x = .int .i64 s ∧ OwnRats wr (Array.size (World.heap x2)) v L (psF d K s) ∧ L.length ≤ s ∧ Ext x2 wr) (fun _ x _ => M - (intOf x).toNat)
  case atStart => exact ⟨0, [], Nat.zero_le _, rfl, OwnRats.nil _ _, Nat.le_refl _, Ext.refl _⟩
  case round =>
    obtain ⟨s, L, hs, rfl, how, hLs, hxr⟩ := hrel
    generalize wr = wS at *
    have HOW := Lib.hid how
    have HXS := Lib.hid hxr
    have HXW := Lib.hid (HX0.out.trans hxr)
    have k3 : (0 : Int) ≤ (s : Int) := by omega
    clear how hxr
    by_cases hsM : s < M
    · have k4 : (s : Int) < (M : Int) := by omega
      go_wp2_with fail
      go_loopw [12, 13, 42] (fun v s13 x wr => ∃ i : Nat, i ≤ m.length ∧ x = .int .i64 i ∧ s13 = .int .i64 (szW s i : Nat) ∧ OwnL IsBools wr (Array.size (World.heap wS)) 44 v ((rowsB n A (bitsL s m.length)).take i) ∧ Ext wS wr) (fun _ _ x _ => m.length - (intOf x).toNat)
      case atStart => exact ⟨0, Nat.zero_le _, rfl, rfl, OwnL.nil _ _ _, Ext.refl _⟩
      case round =>
        obtain ⟨i, hi, rfl, rfl, how, hxr⟩ := hrel
        have HOWi := Lib.hid how
        have HXR := Lib.hid hxr
        have hx := HXW.out.trans hxr
        have k5 : (0 : Int) ≤ (i : Int) := by omega
        have k6 := szW_le s i
        have hz1 : szW s (i + 1) = szW s i + bitN s i := rfl
        have HZ1 := Lib.hid hz1
        have hfz : i = m.length → szW s i = szW s m.length := fun e => by rw [e]
        have HFZ := Lib.hid hfz
        clear how hxr hz1 hfz
        by_cases hin : i < m.length
        · generalize szW s i = z5 at *
          have l1 : (i : Int) < (m.length : Int) := by omega
          have hand : bits .and .i64 ((s : Int) / 2 ^ i) 1 = ((bitN s i : Nat) : Int) := by rw [i64_and1]; unfold bitN; simp
          have hb2 : bitN s i = 0 ∨ bitN s i = 1 := by unfold bitN; omega
          have HTK : Hid ((rowsB n A (bitsL s m.length)).take (i + 1) = (rowsB n A (bitsL s m.length)).take i ++ [rowB n A (decide (bitN s i = 1))]) := Lib.hid (take_get (by unfold rowsB; rw [List.getElem?_map, bitsL_get hin]; rfl))
          have HTL : Hid (((rowsB n A (bitsL s m.length)).take i).length ≤ 1000000) := Lib.hid (by rw [List.length_take]; omega)
          have hc1 := cell_exQ hx HC1.out
          obtain ⟨hi0, hz0, hz1, hz2⟩ := HII.out
          go_upto_region 17 with (at_make; refine wpList_make_full _ rfl _ _ 44 rfl (Array.size (World.heap wr)) 4 i0 (.bool false) 1 Tryz.underlying44 hi0 hz0 hz1 _ _ _ _ n rfl rfl rfl rfl (by rw [hz2]; omega) (by unfold maxLen; omega) (Nat.le_refl _) ?_; intro w2 hown hgrow)
          have hown2 : w2.ownsRow (Array.size (World.heap wr)) 4 1 (.slice (some ⟨Array.size (World.heap wr), 0, none⟩) n n) n ((List.replicate n false).map Value.bool) := by simpa [Value.cells, toList_madeCells_one] using hown
          clear hown
          have hbk := blk_of_owns hown2
          have hxm : Ext wr w2 := grownExt (Ext.refl wr) hgrow
          have hcA := hbk.cell (i := A) (v := .bool false) (by simp [show A < n by omega])
          have hfA := hbk.free A
          obtain ⟨y, hy⟩ : ∃ y, y = decide (bitN s i = 1) := ⟨_, rfl⟩
          rw [← hy] at HTK
          have hbk2 := hbk.set A (.bool y)
          have hx3 := hxm.set (p := ⟨Array.size (World.heap wr), A, none⟩) (Nat.le_refl _) (.bool y)
          rw [show ((List.replicate n false).map Value.bool).toArray.setIfInBounds A (.bool y) = ((rowB n A y).map Value.bool).toArray by unfold rowB; rw [List.map_set, List.setIfInBounds_toArray]] at hbk2
          have hbo := bools_blk hbk2 (by rw [rowB_len]; omega)
          rw [rowB_len] at hbo
          have HBO := Lib.hid hbo
          have HX3 := Lib.hid hx3
          clear hown2 hbk hxm hgrow hbk2 hbo hx3 hc1 hi0 hz0 hz1 hz2
          have HLT := Lib.hid HOWi.out.lt
          rcases hb2 with hb | hb
          · obtain rfl : y = false := by rw [hy, hb]; rfl
            clear hy
            obtain ⟨u, hu⟩ : ∃ u : Int, u = ((bitN s i : Nat) : Int) := ⟨_, rfl⟩
            rw [← hu] at hand
            have hq : (u == 1) = false := by rw [hu, hb]; rfl
            have hqn : ¬ u = 1 := by omega
            have hu0 : 0 ≤ u := by omega
            have hu1 : u ≤ 1 := by omega
            have HU := Lib.hid (show u = 0 by rw [hu, hb]; rfl)
            clear hu
            go_upto_region 18 with fail
            clear hcA hfA
            generalize w2.setCell ⟨Array.size (World.heap wr), A, none⟩ (.bool false) = w3 at *
            generalize Array.size (World.heap wr) = gr at *
            have HOW4 := Lib.hid ((HOWi.out.ext rdBools HX3.out).ext rdBools (Ext.alloc w3 (.cells #[.slice (some ⟨gr, 0, none⟩) n n] 44)))
            have HX5 := Lib.hid ((HXR.out.trans HX3.out).alloc' (.cells #[.slice (some ⟨gr, 0, none⟩) n n] 44))
            have HU5 : Hid (IsBools (w3.alloc (.cells #[.slice (some ⟨gr, 0, none⟩) n n] 44)) (.slice (some ⟨gr, 0, none⟩) n n) (rowB n A false)) := Lib.hid ⟨_, _, by rw [rowB_len], HBO.out.ext (Ext.alloc _ _)⟩
            go_upto_region 19 with (at_builtin; refine wpl_append_ownL rdBools rfl (.tmp 58) (.tmp 60) 23 44 rfl Tryz.underlying23 (z := .slice none 0 0) rfl infoBoolsW HX5.out rfl HOW4.out rfl (Blk.new0 w3 _ _) HU5.out (fun A n c e hn e2 => by have := (HLT.out _ e2).2; simp only [Value.slice.injEq, Option.some.injEq] at e; obtain ⟨rfl, rfl, rfl⟩ := e; dsimp only at this; omega) HTL.out ?_; intro va vc w6 hown6 hx6 hg6)
            have HO6 : Hid (∃ k, k = ((rowsB n A (bitsL s m.length)).take i).length + 1 ∧ OwnL IsBools w6 (Array.size (World.heap wS)) 44 (.slice va k vc) ((rowsB n A (bitsL s m.length)).take i ++ [rowB n A false])) := Lib.hid ⟨_, rfl, hown6⟩
            have HX6 := Lib.hid hx6
            clear hg6 hown6 hx6 HOW4 HX5 HU5 HLT HTL
            go_wp2_with fail
            go_roundw
            case rel =>
              obtain ⟨k6, hk6, ho6⟩ := HO6.out
              refine ⟨i + 1, by omega, by go_num, by rw [HZ1.out, hb]; first | (rw [HU.out]; simp; done) | (simp; done), ?_, HX6.out⟩
              rw [HTK.out]
              subst hk6
              have h := ho6
              first | exact h | (rw [List.length_take] at h; exact h)
            case measure => simp [intOf]; omega
          · obtain rfl : y = true := by rw [hy, hb]; rfl
            clear hy
            obtain ⟨u, hu⟩ : ∃ u : Int, u = ((bitN s i : Nat) : Int) := ⟨_, rfl⟩
            rw [← hu] at hand
            have hq : (u == 1) = true := by rw [hu, hb]; rfl
            have hqn : u = 1 := by omega
            have hu0 : 0 ≤ u := by omega
            have hu1 : u ≤ 1 := by omega
            have HU := Lib.hid (show u = 1 by rw [hu, hb]; rfl)
            clear hu
            go_upto_region 18 with fail
            clear hcA hfA
            generalize w2.setCell ⟨Array.size (World.heap wr), A, none⟩ (.bool true) = w3 at *
            generalize Array.size (World.heap wr) = gr at *
            have HOW4 := Lib.hid ((HOWi.out.ext rdBools HX3.out).ext rdBools (Ext.alloc w3 (.cells #[.slice (some ⟨gr, 0, none⟩) n n] 44)))
            have HX5 := Lib.hid ((HXR.out.trans HX3.out).alloc' (.cells #[.slice (some ⟨gr, 0, none⟩) n n] 44))
            have HU5 : Hid (IsBools (w3.alloc (.cells #[.slice (some ⟨gr, 0, none⟩) n n] 44)) (.slice (some ⟨gr, 0, none⟩) n n) (rowB n A true)) := Lib.hid ⟨_, _, by rw [rowB_len], HBO.out.ext (Ext.alloc _ _)⟩
            go_upto_region 19 with (at_builtin; refine wpl_append_ownL rdBools rfl (.tmp 58) (.tmp 60) 23 44 rfl Tryz.underlying23 (z := .slice none 0 0) rfl infoBoolsW HX5.out rfl HOW4.out rfl (Blk.new0 w3 _ _) HU5.out (fun A n c e hn e2 => by have := (HLT.out _ e2).2; simp only [Value.slice.injEq, Option.some.injEq] at e; obtain ⟨rfl, rfl, rfl⟩ := e; dsimp only at this; omega) HTL.out ?_; intro va vc w6 hown6 hx6 hg6)
            have HO6 : Hid (∃ k, k = ((rowsB n A (bitsL s m.length)).take i).length + 1 ∧ OwnL IsBools w6 (Array.size (World.heap wS)) 44 (.slice va k vc) ((rowsB n A (bitsL s m.length)).take i ++ [rowB n A true])) := Lib.hid ⟨_, rfl, hown6⟩
            have HX6 := Lib.hid hx6
            clear hg6 hown6 hx6 HOW4 HX5 HU5 HLT HTL
            go_wp2_with fail
            go_roundw
            case rel =>
              obtain ⟨k6, hk6, ho6⟩ := HO6.out
              refine ⟨i + 1, by omega, by go_num, by rw [HZ1.out, hb]; first | (rw [HU.out]; simp; done) | (simp; done), ?_, HX6.out⟩
              rw [HTK.out]
              subst hk6
              have h := ho6
              first | exact h | (rw [List.length_take] at h; exact h)
            case measure => simp [intOf]; omega
        · have l1 : ¬ (i : Int) < (m.length : Int) := by omega
          have hzz := HFZ.out (by omega)
          rw [hzz] at k6 ⊢
          have HSk := Lib.hid (HSkip.out s)
          have HMo := Lib.hid (HMore.out s)
          have hov := HOWi.out
          rw [List.take_of_length_le (by rw [rowsB_len, bitsL_len]; omega)] at hov
          obtain ⟨ax, cx, rfl, hIX⟩ := hov.sl
          have bl := hIX.le
          have bm' := hIX.mx
          rw [rowsB_len, bitsL_len] at bl
          rw [rowsB_len, bitsL_len]
          have HBR : Hid (OwBRows wr ax cx (rowsB n A (bitsL s m.length))) := Lib.hid ⟨hIX⟩
          clear hzz hov hIX HZ1 HFZ
          by_cases hK : szW s m.length = K
          · have HF1 := Lib.hid (HFV.out s wr ax cx hK hx HBR.out.h)
            have hpm := HMo.out hK
            have HPM := Lib.hid hpm
            have HSZ := Lib.hid (HSz.out s)
            rw [hK]
            have v7 : ((K : Int) != (K : Int)) = false := by simp
            have HOWx := Lib.hid (HOW.out.ext HXR.out)
            have HLT := Lib.hid (fun g e => Nat.lt_of_lt_of_le (HOW.out.lt g e).2 HXR.out.size)
            have HXQ := Lib.hid (HXS.out.trans HXR.out)
            generalize Rat.divInt (cs (smW d s m.length) K d 0 : Nat) (bin m.length K : Nat) = R at *
            have hs0 := hx.size
            clear hpm hK
            go_wp2_with fail
            with_reducible refine (HF1.out).mono ?_
            rintro e x3 ⟨v, rfl, hv, hy⟩
            replace hx := hx.trans hy
            have HOWy := Lib.hid (HOWx.out.ext hy)
            have HXY := Lib.hid (HXQ.out.trans hy)
            obtain ⟨np, ap, qp, cp, bp, kp, dp, rfl, hvv, hfa, hfb⟩ := hv
            have HOff := Lib.hid (fun (o : Option Nat) (ho : ∀ g, o = some g → g < Array.size (World.heap wr)) => (⟨fun _ A hA e => by have h1 := ho _ e; have h2 := hfa A hA; omega, fun _ A hA e => by have h1 := ho _ e; have h2 := hfb A hA; omega⟩ : RatC.Off ⟨np, ap, qp, cp, false, bp, kp, dp⟩ o))
            have Vp := Lib.hid hvv
            clear hy hvv hfa hfb HBR HF1 HOWx HXQ
            have HOWz := Lib.hid (HOWy.out.ext (Ext.alloc x3 (.cells #[.bool np, .slice ap qp cp, .bool false, .slice bp kp dp] 34)))
            have HXZ := Lib.hid (HXY.out.alloc' (.cells #[.bool np, .slice ap qp cp, .bool false, .slice bp kp dp] 34))
            clear HOWy HXY
            go_upto_region 23 with fail
            have hl := Ext.alloc x3 (.cells #[.bool np, .slice ap qp cp, .bool false, .slice bp kp dp] 34)
            have hpp : w.heap.size ≤ x3.heap.size := hx.size
            replace hx := hx.trans hl
            replace Vp := Lib.hid (Vp.out.ext hl)
            have Kp := Lib.hid (Blk.new0 x3 #[.bool np, .slice ap qp cp, .bool false, .slice bp kp dp] 34)
            clear hl
            generalize x3.alloc (.cells #[.bool np, .slice ap qp cp, .bool false, .slice bp kp dp] 34) = x4 at *
            generalize x3.heap.size = pp at *
            obtain ⟨cp0, cp1, cp2, cp3⟩ := bk4 Kp
            go_wp2_with fail
            clear cp0 cp1 cp2 cp3
            refine (rcheckR_val Vp.out (HSZ.out.lenN (by omega)) (HSZ.out.lenD (by omega))).mono ?_
            rintro e x5 ⟨rfl, hy⟩
            have HOWy := Lib.hid (HOWz.out.ext hy)
            have HXY := Lib.hid (HXZ.out.trans hy)
            clear HOWz HXZ
            replace hx := hx.trans hy
            replace Kp := kE Kp hy
            replace Vp := Lib.hid (Vp.out.ext hy)
            clear hy
            obtain ⟨cp0, cp1, cp2, cp3⟩ := bk4 Kp
            have HOW5 := Lib.hid (HOWy.out.ext (Ext.alloc x5 (.cells #[.bool np, .slice ap qp cp, .bool false, .slice bp kp dp] 34)))
            have HX5 := Lib.hid (HXY.out.alloc' (.cells #[.bool np, .slice ap qp cp, .bool false, .slice bp kp dp] 34))
            have HV5 := Lib.hid (Vp.out.ext (Ext.alloc x5 (.cells #[.bool np, .slice ap qp cp, .bool false, .slice bp kp dp] 34)))
            go_wp2_with (at_builtin; refine wpl_append_rat rfl (.tmp 86) (.tmp 88) rfl HX5.out rfl HOW5.out rfl (x := ⟨np, ap, qp, cp, false, bp, kp, dp⟩) (Blk.new0 x5 _ 34) HV5.out (HOff.out _ (fun g e => HLT.out g e)) (by omega) ?_; intro va vc w6 hown6 hx6)
            go_roundw
            case rel => exact ⟨s + 1, _, by omega, by go_num, by rw [HPM.out]; exact hown6, by simp; omega, hx6⟩
            case measure => simp [intOf]; omega
          · have v7 : ((szW s m.length : Int) != (K : Int)) = true := by simp; omega
            have v8 : ¬ (szW s m.length : Int) = (K : Int) := by omega
            have hps := HSk.out hK
            have HPS := Lib.hid hps
            have HOWx := Lib.hid (HOW.out.ext HXR.out)
            have HXQ := Lib.hid (HXS.out.trans HXR.out)
            clear hps
            go_wp2_with fail
            go_roundw
            case rel => exact ⟨s + 1, L, by omega, by go_num, by rw [HPS.out]; exact HOWx.out, by omega, HXQ.out⟩
            case measure => simp [intOf]; omega
    · have k4 : ¬ (s : Int) < (M : Int) := by omega
      obtain rfl : s = M := by omega
      have hlen : 0 < L.length := by
        rw [HOW.out.len]
        exact HPL.out
      obtain ⟨gl, cl, e0, -, -, l1, l2⟩ := HOW.out.head hlen
      subst e0
      have HV := Lib.hid (law42_valid gl cl _ L (psF d K s) wS HOW.out hlen (by omega) HFair.out)
      have hx := HXW.out
      clear HOW
      go_wp2_with fail
      with_reducible refine (HV.out).mono ?_
      rintro e xv ⟨rfl, hy⟩
      have HXV := Lib.hid (hx.trans hy)
      clear hy
      go_wp2_with fail
      go_ret
      exact ⟨rfl, HXV.out⟩
theorem law_FFair (a : Option Addr) (cap : Nat) (m : List (List Int)) (j o : Int) (w : World) (h : Rows w a cap m) (hj : 0 ≤ j ∧ j ≤ 255) (ho : 0 ≤ o ∧ o ≤ 255) : Calls Tryz.prog 4 #[.slice a m.length cap, .int .u8 j, .int .u8 o] w fun e w' => e = .returned (.bool true) ∧ Ext w w' := by
  cases hr : rightW m 5
  · exact law_FFair_no a cap m j o w h hj ho hr
  · exact law_FFair_yes a cap m j o w h hj ho hr
end Go.Proofs.YtmcbbhlglccmgaaGreat

