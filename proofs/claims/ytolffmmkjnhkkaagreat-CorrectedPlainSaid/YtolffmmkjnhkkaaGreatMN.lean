import Derived.Test.YtolffmmkjnhkkaaGreatML
import Derived.OwnWalk
import Derived.Deep.QuietTactic
namespace Go.Proofs.YtolffmmkjnhkkaaGreat
open Go.RowKit Go BigFrame Go.Shelf
set_option maxRecDepth 100000
set_option linter.unusedSimpArgs false
set_option linter.unusedVariables false
attribute [local go_sem] Oper.semAt_some

/-! Layer 40: CorrectedPlain. -/
def zerosR (n : Nat) : List Rat := List.replicate n 0
theorem zerosR_getD (n j : Nat) : (zerosR n).getD j 0 = 0 := by
  unfold zerosR
  rw [List.getD_eq_getElem?_getD, List.getElem?_replicate]
  split <;> rfl
theorem rat_sub_zero (r : Rat) : r - 0 = r := by grind
theorem rowO_plain (l : List Int) (n : Nat) {j : Nat} (h : j < l.length) : (rowO l (zerosR n)).getD j none = if l.getD j 0 = -1 then none else some (l.getD j 0 : Rat) := by
  rw [rowO_get l _ h, zerosR_getD, rat_sub_zero]
def sumI (l : List Int) (xs : List Nat) : Int := xs.foldl (fun r j => r + l.getD j 0) 0
theorem sumI_snoc (l : List Int) (xs : List Nat) (j : Nat) : sumI l (xs ++ [j]) = sumI l xs + l.getD j 0 := by simp [sumI]
theorem sumR_plain (l : List Int) (n : Nat) : ∀ (xs : List Nat), sumR l (zerosR n) xs = ((sumI l xs : Int) : Rat) := by
  have key : ∀ (ys xs : List Nat), xs.reverse = ys → sumR l (zerosR n) xs = ((sumI l xs : Int) : Rat) := by
    intro ys
    induction ys with
    | nil => intro xs h; rw [List.reverse_eq_nil_iff] at h; subst h; rfl
    | cons y ys ih =>
      intro xs h
      have e : xs = ys.reverse ++ [y] := by rw [← List.reverse_reverse xs, h]; simp
      subst e
      rw [sumR_snoc, sumI_snoc, ih ys.reverse (by simp), Rat.intCast_add]
      unfold diffR
      rw [zerosR_getD, rat_sub_zero]
  exact fun xs => key _ xs rfl
theorem sumI_bd {l : List Int} (hm : ∀ x ∈ l, -1 ≤ x ∧ x ≤ 1000) : ∀ (k : Nat), k ≤ l.length → -(k : Int) ≤ sumI l (knIx l k) ∧ sumI l (knIx l k) ≤ 1000 * (k : Int)
  | 0, _ => by simp [knIx, sumI]
  | k + 1, h => by
    have ih := sumI_bd hm k (by omega)
    have hx := hm (l.getD k 0) (by rw [List.getD_eq_getElem?_getD, List.getElem?_eq_getElem (show k < l.length by omega)]; exact List.getElem_mem (by omega))
    by_cases hz : l.getD k 0 = -1
    · rw [knIx_no l hz]; omega
    · rw [knIx_yes l hz, sumI_snoc]; omega
theorem meanO_plain (l : List Int) (n : Nat) (h : (knIx l l.length).length ≠ 0) : meanO l (zerosR n) = some (Rat.divInt (sumI l (knIx l l.length)) ((knIx l l.length).length : Nat)) := by
  unfold meanO
  rw [if_neg (fun e => h (by rw [e]; rfl)), sumR_plain, Rat.divInt_eq_div]
  rfl
set_option maxHeartbeats 16000000 in
theorem law40_CorrectedPlain (a : Option Addr) (cap : Nat) (m : List (List Int)) (jn : Int) (w : World) (h : Rows w a cap m) (hj : 0 ≤ jn ∧ jn ≤ 255) :
    Calls Tryz.prog 6 #[.slice a m.length cap, .int .u8 jn] w fun e w' => e = .returned (.bool true) ∧ Ext w w' := by
  have HSN := Lib.hid (law40_sane w)
  have hle := h.le
  have hmx := h.mx
  have HH := Lib.hid h
  obtain ⟨N, hN⟩ : ∃ N : Nat, ((N : Nat) : Int) = jn % 11 := ⟨(jn % 11).toNat, by omega⟩
  have hN10 : N ≤ 10 := by omega
  have hwj : IntKind.i64.wrap jn = jn := IntWalk.i64_in _ (by omega)
  clear h
  go_enter Tryz.func6, Tryz.ntmps6
  go_wp2_with fail
  refine HSN.out.mono ?_
  rintro e x1 ⟨rfl, hx⟩
  have HX1 := Lib.hid hx
  have HNN := Lib.hid hN
  clear hx hN
  go_wp2_with fail
  rw [← HNN.out]
  clear HNN hwj
  go_loopw [6, 29] (fun v i wr => ∃ q : Nat, q ≤ N ∧ i = .int .i64 q ∧ ∃ xs, OwnOs wr w.heap.size v xs ((zerosR q).map some) ∧ Ext w wr) (fun _ i _ => N - (intOf i).toNat)
  case atStart => exact ⟨0, Nat.zero_le _, rfl, [], OwnOs.nil _ _, HX1.out⟩
  case round =>
    obtain ⟨q, hq, rfl, xs, hO, hxr⟩ := hrel
    have q1 : (0 : Int) ≤ (q : Int) := by omega
    have HXL := Lib.hid (show xs.length = q by have := hO.len; unfold zerosR at this; simpa using this)
    obtain ⟨va, vc, rfl, hvl, hvc⟩ := hO.form
    have HO := Lib.hid hO
    have HXR := Lib.hid hxr
    clear hO HX1
    by_cases hqn : q < N
    · have q2 : (q : Int) < (N : Int) := by omega
      have hw1 : IntKind.i64.wrap ((q : Int) + 1) = (q : Int) + 1 := IntWalk.i64_in _ (by omega)
      have hlt := Lib.hid (fun g e => (HO.out.lt g e).2)
      go_wp2_with fail
      refine (ratio_Make 0 1 _ (by omega) (by omega) (by omega)).mono ?_
      rintro e x4 ⟨v4, rfl, hv4, hy⟩
      obtain ⟨n1, a1, q1', c1, b1, k1, d1, rfl, hv', hf', hg'⟩ := hv4
      rw [show Rat.divInt 0 1 = 0 by decide +kernel] at hv'
      have hoff : RatC.Off ⟨n1, a1, q1', c1, false, b1, k1, d1⟩ (Value.slice va xs.length vc).ownBlock := FreshC.off ⟨fun _ => hf', fun _ => hg'⟩ hlt.out
      have HOFF := Lib.hid hoff
      have hyb := Ext.alloc x4 (.cells #[.bool n1, .slice a1 q1' c1, .bool false, .slice b1 k1 d1] 38)
      have Kt := Lib.hid (Blk.new0 x4 #[.bool n1, .slice a1 q1' c1, .bool false, .slice b1 k1 d1] 38)
      replace hxr := (hxr.trans hy).trans hyb
      have HOa := Lib.hid ((HO.out.ext hy).ext hyb)
      have HRD := Lib.hid (RatV.ext hv' hyb)
      clear hoff hy hv' hf' hg'
      go_upto_region 8 with fail
      generalize x4.alloc (.cells #[.bool n1, .slice a1 q1' c1, .bool false, .slice b1 k1 d1] 38) = x5 at *
      generalize x4.heap.size = pt at *
      obtain ⟨s0, s1, s2, s3⟩ := bk4 Kt
      go_upto_region 10 with fail
      have hyc := Ext.alloc x5 (.cells #[.bool n1, .slice a1 q1' c1, .bool false, .slice b1 k1 d1] 38)
      have HBz := Lib.hid (Blk.new0 x5 #[.bool n1, .slice a1 q1' c1, .bool false, .slice b1 k1 d1] 38)
      have HXa := Lib.hid (hxr.trans hyc)
      replace HOa := Lib.hid (HOa.out.ext hyc)
      replace HRD := Lib.hid (RatV.ext HRD.out hyc)
      clear hyc hxr
      go_wp2_with (at_builtin; refine wpl_append_o rfl (.tmp 37) (.tmp 39) rfl HXa.out rfl HOa.out rfl (x := ⟨n1, a1, q1', c1, false, b1, k1, d1⟩) (r := some 0) HBz.out HRD.out HOFF.out (by have := HXL.out; omega) ?_; intro v' w5 hO5 hx5 hg5 hat5)
      obtain ⟨ua, uc, rfl, hul, huc⟩ := hO5.form
      go_roundw
      case rel => exact ⟨q + 1, by omega, by go_num, _, (by unfold zerosR at hO5 ⊢; rw [List.replicate_succ', List.map_append]; exact hO5), hx5⟩
      case measure => simp [intOf]; omega
    · have q2 : ¬ (q : Int) < (N : Int) := by omega
      have hqe : q = N := by omega
      subst hqe
      obtain ⟨za, zc, LA, e0, hR, hok, hV⟩ := HO.out.rats (k := 7) (fun r hr => by
        have e : r = 0 := (List.mem_replicate.1 hr).2
        rw [e]
        exact zero_sz.mono (by omega)) (by omega)
      simp only [Value.slice.injEq] at e0
      obtain ⟨rfl, e0, rfl⟩ := e0
      rw [e0] at *
      have HLA : Hid (LA.length = q) := Lib.hid (by rw [hV.1]; unfold zerosR; simp)
      clear HO HXL
      have HRT := Lib.hid (law40_right a cap m va vc LA wr (HH.out.ext hxr) hR)
      have HMK := Lib.hid (fun W (hW : Ext wr W) => corrected_Marks a cap m va vc LA (zerosR q) W ((HH.out.ext hxr).ext hW) (hR.ext hW) (fun _ => ⟨hV, by have := HLA.out; omega⟩))
      have HMN := Lib.hid (fun W (hW : Ext wr W) => corrected_Means a cap m va vc LA (zerosR q) W ((HH.out.ext hxr).ext hW) (hR.ext hW) (fun _ => ⟨hV, by have := HLA.out; omega⟩))
      rw [hok] at HRT HMK HMN
      clear hok hV hR hvl hvc
      cases hB : (few40 m LA && decide (errM m LA.length false = 0))
      · rw [hB] at HRT
        clear hB
        go_wp2_with fail
        refine HRT.out.mono ?_
        rintro e x5 ⟨rfl, hy⟩
        have HX5 := Lib.hid (HXR.out.trans hy)
        go_wp2_with fail
        go_ret
        exact ⟨rfl, HX5.out⟩
      · rw [hB] at HRT
        have hE : errM m LA.length false = 0 := of_decide_eq_true (Bool.and_eq_true _ _ ▸ hB).2
        rw [hE] at HMK HMN
        obtain ⟨g1, g2, g3, g4⟩ := errM_ok hE
        have HG := Lib.hid g4
        clear hB hE g2 g3 g4
        go_wp2_with fail
        refine HRT.out.mono ?_
        rintro e x5 ⟨rfl, hy⟩
        have HX5 := Lib.hid hy
        have HMK1 := Lib.hid (HMK.out x5 hy)
        clear hy HRT HMK
        go_wp2_with fail
        refine HMK1.out.mono ?_
        intro e x6 h6
        obtain ⟨a1, c1, ys, rfl, hs1, hm1, hy⟩ := h6.read
        rw [if_pos rfl] at hm1
        have HX6 := Lib.hid (HX5.out.trans hy)
        have HS1 := Lib.hid hs1
        have HM1 := Lib.hid hm1
        have hyl : ys.length = m.length := by have := congrArg List.length hm1; simpa using this
        have HMN1 := Lib.hid (HMN.out x6 HX6.out)
        have l1 := Nat.le_trans hs1.le hs1.mx
        clear h6 hs1 hm1 hy HMN HMK1 HX5
        go_wp2_with fail
        refine HMN1.out.mono ?_
        intro e x7 h7
        obtain ⟨a2, c2, V2, rfl, hr2, hy⟩ := h7.read
        rw [if_pos rfl] at hr2
        have hvl : V2.length = m.length := by have := hr2.len; simpa using this
        have HX7 := Lib.hid (HXR.out.trans (HX6.out.trans hy))
        have HM7 := Lib.hid ((HH.out.ext hxr).ext (HX6.out.trans hy))
        replace HS1 := Lib.hid (SlOf.ext (R := fun w v (x : RowD) => x.Rd w v) rdRow.ext hy HS1.out)
        have HR2 := Lib.hid hr2
        have l2 := Nat.le_trans hr2.le hr2.mx
        have t1 : ((ys.length : Int) != (m.length : Int)) = false := by simp [hyl]
        have t2 : ((V2.length : Int) != (m.length : Int)) = false := by simp [hvl]
        have HYL := Lib.hid hyl
        have HVL := Lib.hid hvl
        clear h7 hr2 hy HMN1 HX6 hyl hvl HXR hxr HH
        go_wp2_with fail
        clear t1 t2
        go_loopw [80] (fun i wr => ∃ q : Nat, q ≤ m.length ∧ i = .int .i64 q ∧ Ext x7 wr) (fun i _ => m.length - (intOf i).toNat)
        case atStart => exact ⟨0, Nat.zero_le _, rfl, Ext.refl _⟩
        case round =>
          obtain ⟨p, hp, rfl, hxp⟩ := hrel
          generalize wr = wP at *
          have p1 : (0 : Int) ≤ (p : Int) := by omega
          have HXP := Lib.hid hxp
          by_cases hpm : p < m.length
          · have p2 : (p : Int) < (m.length : Int) := by omega
            have p3 : (p : Int) < (ys.length : Int) := by have := HYL.out; omega
            have p4 : (p : Int) < (V2.length : Int) := by have := HVL.out; omega
            have hpy : p < ys.length := by omega
            have hpv : p < V2.length := by omega
            have hw1 : IntKind.i64.wrap ((p : Int) + 1) = (p : Int) + 1 := IntWalk.i64_in _ (by omega)
            obtain ⟨b, o, rfl⟩ := HM7.out.head hpm
            obtain ⟨r, a5, c5, hr, hc, hI⟩ := Rows.get (HM7.out.ext hxp) hpm
            have rle := hI.le
            have rmx := hI.mx
            obtain ⟨G1, G2⟩ := HG.out r (List.mem_of_getElem? hr)
            have hrl : r.length ≤ 10 := by have := HLA.out; omega
            obtain ⟨b9, o9, e9⟩ := HR2.out.head hpv
            dsimp only at e9
            subst e9
            obtain ⟨b1, o1, rfl⟩ := HS1.out.head hpy
            obtain ⟨-, vr, h0, hrd⟩ := HS1.out.cells _ rfl p hpy
            have hRR : (ys[p]).R = rowO r (zerosR q) := by
              have := congrArg (fun l => l[p]?) HM1.out
              simpa [hpy, hr] using this
            replace hrd := hrd.ext hxp
            generalize ys[p] = row at *
            obtain ⟨ra, rc, V, R⟩ := row
            dsimp only at hRR h0
            subst hRR
            have evr := hrd.eq
            have hVr : V.length = r.length := by have := hrd.len; rw [rowO_len] at this; exact this
            have vle := hrd.le
            have vmx := hrd.mx
            dsimp only at evr vle vmx
            subst evr
            rw [hVr] at h0 vle
            replace h0 := cell_exQ hxp h0
            have HI := Lib.hid hI
            have HRD := Lib.hid hrd
            have HG2 := Lib.hid G2
            have HRr := Lib.hid hr
            have HVr := Lib.hid hVr
            have t1 : ((r.length : Int) != (r.length : Int)) = false := by simp
            clear hI hrd G1 G2 hr hVr
            go_wp2_with fail
            clear t1 hc
            go_loopw [15, 16, 95] (fun sv cv i wr => ∃ k : Nat, k ≤ r.length ∧ i = .int .i64 k ∧ sv = .int .i64 (sumI r (knIx r k)) ∧ cv = .int .i64 ((knIx r k).length : Nat) ∧ Ext wP wr) (fun _ _ i _ => r.length - (intOf i).toNat)
            case atStart => exact ⟨0, Nat.zero_le _, rfl, rfl, rfl, Ext.refl _⟩
            case round =>
              obtain ⟨k, hk, rfl, rfl, rfl, hxk⟩ := hrel
              have k1 : (0 : Int) ≤ (k : Int) := by omega
              obtain ⟨B1, B2⟩ := sumI_bd HG2.out k hk
              have B3 := knIx_len r k
              have HXK := Lib.hid hxk
              replace h0 := cell_exQ hxk h0
              by_cases hkr : k < r.length
              · have k2 : (k : Int) < (r.length : Int) := by omega
                have hkV : k < V.length := by have := HVr.out; omega
                have hw2 : IntKind.i64.wrap ((k : Int) + 1) = (k : Int) + 1 := IntWalk.i64_in _ (by omega)
                have hw3 : IntKind.i64.wrap (((knIx r k).length : Int) + 1) = ((knIx r k).length : Int) + 1 := IntWalk.i64_in _ (by omega)
                obtain ⟨b6, o6, rfl⟩ := HI.out.head hkr
                obtain ⟨z, hz, hcz, hz1, hz2⟩ := Ints.get (HI.out.ext hxk) hkr
                have HZ : Hid (r.getD k 0 = z) := Lib.hid (by rw [List.getD_eq_getElem?_getD, hz]; rfl)
                have hzm := HG2.out z (List.mem_of_getElem? hz)
                have hw4 : IntKind.i64.wrap (sumI r (knIx r k) + z) = sumI r (knIx r k) + z := IntWalk.i64_in _ (by omega)
                obtain ⟨b7, o7, e7⟩ := HRD.out.head hkV
                dsimp only at e7
                subst e7
                obtain ⟨-, c0, c1', c2', c3⟩ := (HRD.out.ext hxk).cells _ rfl k hkV
                have RV := (HRD.out.ext hxk).val k hkV
                dsimp only at c0 c1' c2' c3 RV
                rw [rowO_plain r q hkr, HZ.out] at RV
                generalize V[k] = cx at *
                obtain ⟨n1, a1', q1', d1', m1, b1', k1', e1'⟩ := cx
                dsimp only [RatC.val] at c0 c1' c2' c3 RV
                clear hz
                by_cases hzn : z = -1
                · subst hzn
                  have HKN := Lib.hid (knIx_no r HZ.out)
                  rw [if_pos rfl] at RV
                  have hSame := fun W (hW : Ext wr W) => same_RO (o := none) (w := W) RV (rfl : RO W zeroRat none)
                  have HSame := Lib.hid hSame
                  clear hSame RV
                  go_wp2_with fail
                  refine (HSame.out _ (Ext.refl _)).mono ?_
                  rintro e w9 ⟨rfl, hy⟩
                  have HX9 := Lib.hid (HXK.out.trans hy)
                  clear hy
                  go_wp2_with fail
                  go_roundw
                  case rel => exact ⟨k + 1, by omega, by go_num, (by rw [HKN.out]), (by rw [HKN.out]), HX9.out⟩
                  case measure => simp [intOf]; omega
                · have HKY := Lib.hid (knIx_yes r (q := k) (by rw [HZ.out]; exact hzn))
                  rw [if_neg hzn] at RV
                  replace RV := Lib.hid RV
                  go_wp2_with fail
                  refine (ratio_Make z 1 _ (by omega) (by omega) (by omega)).mono ?_
                  rintro e x4 ⟨v4, rfl, hv4, hy⟩
                  obtain ⟨ne, ae, qe, ce, be, ke, de, rfl, hv', -, -⟩ := hv4
                  rw [divInt_oneM] at hv'
                  have hyb := Ext.alloc x4 (.cells #[.bool ne, .slice ae qe ce, .bool false, .slice be ke de] 38)
                  have Kt := Lib.hid (Blk.new0 x4 #[.bool ne, .slice ae qe ce, .bool false, .slice be ke de] 38)
                  have hya := hy.trans hyb
                  have HS := Lib.hid (fun W (hW : Ext (x4.alloc (.cells #[.bool ne, .slice ae qe ce, .bool false, .slice be ke de] 38)) W) => same_RO (o := some (z : Rat)) (w := W) (RO.ext RV.out (hya.trans hW)) (RatV.ext hv' (hyb.trans hW)))
                  replace c0 := cell_exQ hya c0
                  replace c1' := cell_exQ hya c1'
                  replace c2' := cell_exQ hya c2'
                  replace c3 := cell_exQ hya c3
                  replace h0 := cell_exQ hya h0
                  have HXK2 := Lib.hid (HXK.out.trans hya)
                  clear hy hv' hyb hya RV hcz
                  go_upto_region 31 with fail
                  generalize x4.alloc (.cells #[.bool ne, .slice ae qe ce, .bool false, .slice be ke de] 38) = x5 at *
                  generalize x4.heap.size = pt at *
                  obtain ⟨s0, s1, s2, s3⟩ := bk4 Kt
                  go_cut [130] (fun s wx => s = .bool false ∧ Ext x5 wx)
                  case first =>
                    skip
                    clear s0 s1 s2 s3
                    have hx := Ext.refl x5
                    have s0 : World.cell? x5 ⟨b1, o1 + p, none⟩ = some (.slice (some ⟨b7, o7, none⟩) r.length rc) := h0
                    have s1 : World.cell? x5 ⟨b7, o7 + k * 4, none⟩ = some (.bool n1) := c0
                    have s2 : World.cell? x5 ⟨b7, o7 + k * 4 + 1, none⟩ = some (.slice a1' q1' d1') := c1'
                    have s3 : World.cell? x5 ⟨b7, o7 + k * 4 + 2, none⟩ = some (.bool m1) := c2'
                    have s4 : World.cell? x5 ⟨b7, o7 + k * 4 + 3, none⟩ = some (.slice b1' k1' e1') := c3
                    have s5 : World.cell? x5 ⟨pt, 0, none⟩ = some (.bool ne) := Kt.out.cell rfl
                    have s6 : World.cell? x5 ⟨pt, 1, none⟩ = some (.slice ae qe ce) := Kt.out.cell rfl
                    have s7 : World.cell? x5 ⟨pt, 2, none⟩ = some (.bool false) := Kt.out.cell rfl
                    have s8 : World.cell? x5 ⟨pt, 3, none⟩ = some (.slice be ke de) := Kt.out.cell rfl
                    have hE : Ext x5 (World.drew x5) := (Ext.refl _).drew
                    have hyd : Ext x5 (World.drew x5) := (Ext.refl _).drew
                    replace hx := hx.trans hyd
                    clear hyd
                    replace s0 : World.cell? (World.drew x5) ⟨b1, o1 + p, none⟩ = some (.slice (some ⟨b7, o7, none⟩) r.length rc) := s0
                    replace s1 : World.cell? (World.drew x5) ⟨b7, o7 + k * 4, none⟩ = some (.bool n1) := s1
                    replace s2 : World.cell? (World.drew x5) ⟨b7, o7 + k * 4 + 1, none⟩ = some (.slice a1' q1' d1') := s2
                    replace s3 : World.cell? (World.drew x5) ⟨b7, o7 + k * 4 + 2, none⟩ = some (.bool m1) := s3
                    replace s4 : World.cell? (World.drew x5) ⟨b7, o7 + k * 4 + 3, none⟩ = some (.slice b1' k1' e1') := s4
                    replace s5 : World.cell? (World.drew x5) ⟨pt, 0, none⟩ = some (.bool ne) := s5
                    replace s6 : World.cell? (World.drew x5) ⟨pt, 1, none⟩ = some (.slice ae qe ce) := s6
                    replace s7 : World.cell? (World.drew x5) ⟨pt, 2, none⟩ = some (.bool false) := s7
                    replace s8 : World.cell? (World.drew x5) ⟨pt, 3, none⟩ = some (.slice be ke de) := s8
                    refine wp_region_held_drew (S := (fun w' => World.cell? w' ⟨b1, o1 + p, none⟩ = some (.slice (some ⟨b7, o7, none⟩) r.length rc) ∧ World.cell? w' ⟨b7, o7 + k * 4, none⟩ = some (.bool n1) ∧ World.cell? w' ⟨b7, o7 + k * 4 + 1, none⟩ = some (.slice a1' q1' d1') ∧ World.cell? w' ⟨b7, o7 + k * 4 + 2, none⟩ = some (.bool m1) ∧ World.cell? w' ⟨b7, o7 + k * 4 + 3, none⟩ = some (.slice b1' k1' e1') ∧ World.cell? w' ⟨pt, 0, none⟩ = some (.bool ne) ∧ World.cell? w' ⟨pt, 1, none⟩ = some (.slice ae qe ce) ∧ World.cell? w' ⟨pt, 2, none⟩ = some (.bool false) ∧ World.cell? w' ⟨pt, 3, none⟩ = some (.slice be ke de))) (by kernel_rfl) ?_ (fun hHeld => ?_)
                    · exact ⟨s0, s1, s2, s3, s4, s5, s6, s7, s8⟩
                    (try simp only [← List.toArray_replicate, List.size_toArray, List.length_cons, List.length_nil, Nat.reduceAdd, List.replicate_succ, List.replicate_zero])
                    generalize World.drew x5 = x201 at *
                    refine wpAnyH_take (i := 0) (oi := _) (v := ?_) rfl (by kernel_rfl) (by kernel_rfl) (by kernel_rfl) (fun _ _ _ h => h) (Or.inl ⟨by rfl, ?_⟩) (by assumption) ?_
                    rotate_left
                    · (intro w hSw; (try dsimp only at hSw); (try go_simp); (try with_reducible rfl))
                    (try simp only [Act.put, List.getElem_toArray, List.getElem_cons_succ, List.getElem_cons_zero, List.setIfInBounds_toArray, List.set_cons_zero, List.set_cons_succ])
                    refine wpAnyH_take (i := 1) (oi := _) (v := ?_) rfl (by kernel_rfl) (by kernel_rfl) (by kernel_rfl) (fun _ _ _ h => h) (Or.inl ⟨by rfl, ?_⟩) (by assumption) ?_
                    rotate_left
                    · (intro w hSw; (try dsimp only at hSw); (try go_simp); (try with_reducible rfl))
                    (try simp only [Act.put, List.getElem_toArray, List.getElem_cons_succ, List.getElem_cons_zero, List.setIfInBounds_toArray, List.set_cons_zero, List.set_cons_succ])
                    refine wpAnyH_take (i := 2) (oi := _) (v := ?_) rfl (by kernel_rfl) (by kernel_rfl) (by kernel_rfl) (fun _ _ _ h => h) (Or.inl ⟨by rfl, ?_⟩) (by assumption) ?_
                    rotate_left
                    · (intro w hSw; (try dsimp only at hSw); (try go_simp); (try with_reducible rfl))
                    (try simp only [Act.put, List.getElem_toArray, List.getElem_cons_succ, List.getElem_cons_zero, List.setIfInBounds_toArray, List.set_cons_zero, List.set_cons_succ])
                    refine wpAnyH_take (i := 3) (oi := _) (v := ?_) rfl (by kernel_rfl) (by kernel_rfl) (by kernel_rfl) (fun _ _ _ h => h) (Or.inl ⟨by rfl, ?_⟩) (by assumption) ?_
                    rotate_left
                    · (intro w hSw; (try dsimp only at hSw); (try go_simp); (try with_reducible rfl))
                    (try simp only [Act.put, List.getElem_toArray, List.getElem_cons_succ, List.getElem_cons_zero, List.setIfInBounds_toArray, List.set_cons_zero, List.set_cons_succ])
                    refine wpAnyH_take (i := 4) (oi := _) (v := ?_) rfl (by kernel_rfl) (by kernel_rfl) (by kernel_rfl) (fun _ _ _ h => h) (Or.inl ⟨by rfl, ?_⟩) (by assumption) ?_
                    rotate_left
                    · (intro w hSw; (try dsimp only at hSw); (try go_simp); (try with_reducible rfl))
                    (try simp only [Act.put, List.getElem_toArray, List.getElem_cons_succ, List.getElem_cons_zero, List.setIfInBounds_toArray, List.set_cons_zero, List.set_cons_succ])
                    refine wpAnyH_take (i := 5) (oi := _) (v := ?_) rfl (by kernel_rfl) (by kernel_rfl) (by kernel_rfl) (fun _ _ _ h => h) (Or.inl ⟨by rfl, ?_⟩) (by assumption) ?_
                    rotate_left
                    · (intro w hSw; (try dsimp only at hSw); (try go_simp); (try with_reducible rfl))
                    (try simp only [Act.put, List.getElem_toArray, List.getElem_cons_succ, List.getElem_cons_zero, List.setIfInBounds_toArray, List.set_cons_zero, List.set_cons_succ])
                    refine wpAnyH_take (i := 6) (oi := _) (v := ?_) rfl (by kernel_rfl) (by kernel_rfl) (by kernel_rfl) (fun _ _ _ h => h) (Or.inl ⟨by rfl, ?_⟩) (by assumption) ?_
                    rotate_left
                    · (intro w hSw; (try dsimp only at hSw); (try go_simp); (try with_reducible rfl))
                    (try simp only [Act.put, List.getElem_toArray, List.getElem_cons_succ, List.getElem_cons_zero, List.setIfInBounds_toArray, List.set_cons_zero, List.set_cons_succ])
                    refine wpAnyH_take (i := 7) (oi := _) (v := ?_) rfl (by kernel_rfl) (by kernel_rfl) (by kernel_rfl) (fun _ _ _ h => h) (Or.inl ⟨by rfl, ?_⟩) (by assumption) ?_
                    rotate_left
                    · (intro w hSw; (try dsimp only at hSw); (try go_simp); (try with_reducible rfl))
                    (try simp only [Act.put, List.getElem_toArray, List.getElem_cons_succ, List.getElem_cons_zero, List.setIfInBounds_toArray, List.set_cons_zero, List.set_cons_succ])
                    refine wpAnyH_take (i := 8) (oi := _) (v := ?_) rfl (by kernel_rfl) (by kernel_rfl) (by kernel_rfl) (fun _ _ _ h => h) (Or.inl ⟨by rfl, ?_⟩) (by assumption) ?_
                    rotate_left
                    · (intro w hSw; (try dsimp only at hSw); (try go_simp); (try with_reducible rfl))
                    (try simp only [Act.put, List.getElem_toArray, List.getElem_cons_succ, List.getElem_cons_zero, List.setIfInBounds_toArray, List.set_cons_zero, List.set_cons_succ])
                    refine wpAnyH_take (i := 9) (oi := _) (v := ?_) rfl (by kernel_rfl) (by kernel_rfl) (by kernel_rfl) (fun _ _ _ h => h) (Or.inl ⟨by rfl, ?_⟩) (by assumption) ?_
                    rotate_left
                    · (intro w hSw; (try dsimp only at hSw); (try go_simp); (try with_reducible rfl))
                    (try simp only [Act.put, List.getElem_toArray, List.getElem_cons_succ, List.getElem_cons_zero, List.setIfInBounds_toArray, List.set_cons_zero, List.set_cons_succ])
                    refine wpAnyH_take (i := 10) (oi := _) (v := ?_) rfl (by kernel_rfl) (by kernel_rfl) (by kernel_rfl) (fun _ _ _ h => h) (Or.inl ⟨by rfl, ?_⟩) (by assumption) ?_
                    rotate_left
                    · (intro w hSw; (try dsimp only at hSw); (try go_simp); (try with_reducible rfl))
                    (try simp only [Act.put, List.getElem_toArray, List.getElem_cons_succ, List.getElem_cons_zero, List.setIfInBounds_toArray, List.set_cons_zero, List.set_cons_succ])
                    refine wpAnyH_ready (rs := [11]) (by kernel_rfl) (by simp) ?_
                    refine AllReadyH.cons (o := _) rfl (fun K hK => ?_) ?_
                    · go_simp
                      (with_reducible refine (HS.out _ hE).mono ?_); rintro e x202 ⟨rfl, hy⟩; replace hE := hE.trans hy; replace hx := hx.trans hy; replace s0 := cell_exQ hy s0; replace s1 := cell_exQ hy s1; replace s2 := cell_exQ hy s2; replace s3 := cell_exQ hy s3; replace s4 := cell_exQ hy s4; replace s5 := cell_exQ hy s5; replace s6 := cell_exQ hy s6; replace s7 := cell_exQ hy s7; replace s8 := cell_exQ hy s8; clear hy
                      refine hK.out _ _ ?_ (fun hHeld2 => ?_)
                      · exact ⟨s0, s1, s2, s3, s4, s5, s6, s7, s8⟩
                      clear hK K hHeld
                      have hHeld := hHeld2
                      clear hHeld2
                      (try simp only [Act.put, List.getElem_toArray, List.getElem_cons_succ, List.getElem_cons_zero, List.setIfInBounds_toArray, List.set_cons_zero, List.set_cons_succ])
                      refine wpAnyH_take (i := 12) (oi := _) (v := ?_) rfl (by kernel_rfl) (by kernel_rfl) (by kernel_rfl) (fun _ _ _ h => h) (Or.inl ⟨by rfl, ?_⟩) (by assumption) ?_
                      rotate_left
                      · (intro w hSw; (try dsimp only at hSw); (try go_simp); (try with_reducible rfl))
                      (try simp only [Act.put, List.getElem_toArray, List.getElem_cons_succ, List.getElem_cons_zero, List.setIfInBounds_toArray, List.set_cons_zero, List.set_cons_succ])
                      refine wpAnyH_take (i := 13) (oi := _) (v := ?_) rfl (by kernel_rfl) (by kernel_rfl) (by kernel_rfl) (fun _ _ _ h => h) (Or.inl ⟨by rfl, ?_⟩) (by assumption) ?_
                      rotate_left
                      · (intro w hSw; (try dsimp only at hSw); (try go_simp); (try with_reducible rfl))
                      (try simp only [Act.put, List.getElem_toArray, List.getElem_cons_succ, List.getElem_cons_zero, List.setIfInBounds_toArray, List.set_cons_zero, List.set_cons_succ])
                      refine wpAnyH_done (by kernel_rfl) ?_ _
                      go_wp2_with fail; go_meet; exact ⟨rfl, hE⟩
                    exact AllReadyH.nil
                  case rest =>
                  obtain ⟨rfl, hy⟩ := hcut
                  have HX9 := Lib.hid (HXK2.out.trans hy)
                  clear hy c0 c1' c2' c3 h0 s0 s1 s2 s3
                  go_wp2_with fail
                  go_roundw
                  case rel => exact ⟨k + 1, by omega, by go_num, (by rw [HKY.out, sumI_snoc, HZ.out]), (by rw [HKY.out, List.length_append, List.length_singleton]; go_num), HX9.out⟩
                  case measure => simp [intOf]; omega
              · have k2 : ¬ (k : Int) < (r.length : Int) := by omega
                have hke : k = r.length := by omega
                subst hke
                obtain ⟨cnt, hcnt⟩ : ∃ cnt, (knIx r r.length).length = cnt := ⟨_, rfl⟩
                rw [hcnt] at B3 ⊢
                have HCN := Lib.hid hcnt
                clear hcnt hw1
                have hw1 : IntKind.i64.wrap ((p : Int) + 1) = (p : Int) + 1 := IntWalk.i64_in _ (by omega)
                by_cases hc0 : cnt = 0
                · subst hc0
                  have HXZ := Lib.hid (hxp.trans HXK.out)
                  clear h0
                  go_wp2_with fail
                  go_roundw
                  case rel => exact ⟨p + 1, by omega, by go_num, HXZ.out⟩
                  case measure => simp [intOf]; omega
                · have hcz : ((cnt : Nat) : Int) ≠ 0 := by omega
                  obtain ⟨-, c0, c1', c2', c3⟩ := (HR2.out.ext (hxp.trans hxk)).cells _ rfl p hpv
                  have RV := (HR2.out.ext (hxp.trans hxk)).val p hpv
                  dsimp only at c0 c1' c2' c3 RV
                  rw [show (m.map fun r => meanO r (zerosR q)).getD p none = some (Rat.divInt (sumI r (knIx r r.length)) (cnt : Nat)) from by
                    rw [List.getD_eq_getElem?_getD, List.getElem?_map, HRr.out]
                    show meanO r (zerosR q) = _
                    rw [meanO_plain r q (by rw [HCN.out]; exact hc0), HCN.out]] at RV
                  generalize V2[p] = cx at *
                  obtain ⟨n1, a1', q1', d1', m1, b1', k1', e1'⟩ := cx
                  dsimp only [RatC.val] at c0 c1' c2' c3 RV
                  replace RV := Lib.hid RV
                  clear h0
                  go_wp2_with fail
                  refine (ratio_Make (sumI r (knIx r r.length)) ((cnt : Nat) : Int) _ (by omega) (by omega) (by omega)).mono ?_
                  rintro e x4 ⟨v4, rfl, hv4, hy⟩
                  obtain ⟨ne, ae, qe, ce, be, ke, de, rfl, hv', -, -⟩ := hv4
                  have hyb := Ext.alloc x4 (.cells #[.bool ne, .slice ae qe ce, .bool false, .slice be ke de] 38)
                  have Kt := Lib.hid (Blk.new0 x4 #[.bool ne, .slice ae qe ce, .bool false, .slice be ke de] 38)
                  have hya := hy.trans hyb
                  have HS := Lib.hid (fun W (hW : Ext (x4.alloc (.cells #[.bool ne, .slice ae qe ce, .bool false, .slice be ke de] 38)) W) => same_RO (o := some (Rat.divInt (sumI r (knIx r r.length)) (cnt : Nat))) (w := W) (RO.ext RV.out (hya.trans hW)) (RatV.ext hv' (hyb.trans hW)))
                  replace c0 := cell_exQ hya c0
                  replace c1' := cell_exQ hya c1'
                  replace c2' := cell_exQ hya c2'
                  replace c3 := cell_exQ hya c3
                  have HXK2 := Lib.hid ((hxp.trans HXK.out).trans hya)
                  clear hy hv' hyb hya RV
                  go_upto_region 37 with fail
                  generalize x4.alloc (.cells #[.bool ne, .slice ae qe ce, .bool false, .slice be ke de] 38) = x5 at *
                  generalize x4.heap.size = pt at *
                  obtain ⟨s0, s1, s2, s3⟩ := bk4 Kt
                  go_cut [155] (fun s wx => s = .bool false ∧ Ext x5 wx)
                  case first =>
                    skip
                    clear s0 s1 s2 s3
                    have hx := Ext.refl x5
                    have s0 : World.cell? x5 ⟨b9, o9 + p * 4, none⟩ = some (.bool n1) := c0
                    have s1 : World.cell? x5 ⟨b9, o9 + p * 4 + 1, none⟩ = some (.slice a1' q1' d1') := c1'
                    have s2 : World.cell? x5 ⟨b9, o9 + p * 4 + 2, none⟩ = some (.bool m1) := c2'
                    have s3 : World.cell? x5 ⟨b9, o9 + p * 4 + 3, none⟩ = some (.slice b1' k1' e1') := c3
                    have s4 : World.cell? x5 ⟨pt, 0, none⟩ = some (.bool ne) := Kt.out.cell rfl
                    have s5 : World.cell? x5 ⟨pt, 1, none⟩ = some (.slice ae qe ce) := Kt.out.cell rfl
                    have s6 : World.cell? x5 ⟨pt, 2, none⟩ = some (.bool false) := Kt.out.cell rfl
                    have s7 : World.cell? x5 ⟨pt, 3, none⟩ = some (.slice be ke de) := Kt.out.cell rfl
                    have hE : Ext x5 (World.drew x5) := (Ext.refl _).drew
                    have hyd : Ext x5 (World.drew x5) := (Ext.refl _).drew
                    replace hx := hx.trans hyd
                    clear hyd
                    replace s0 : World.cell? (World.drew x5) ⟨b9, o9 + p * 4, none⟩ = some (.bool n1) := s0
                    replace s1 : World.cell? (World.drew x5) ⟨b9, o9 + p * 4 + 1, none⟩ = some (.slice a1' q1' d1') := s1
                    replace s2 : World.cell? (World.drew x5) ⟨b9, o9 + p * 4 + 2, none⟩ = some (.bool m1) := s2
                    replace s3 : World.cell? (World.drew x5) ⟨b9, o9 + p * 4 + 3, none⟩ = some (.slice b1' k1' e1') := s3
                    replace s4 : World.cell? (World.drew x5) ⟨pt, 0, none⟩ = some (.bool ne) := s4
                    replace s5 : World.cell? (World.drew x5) ⟨pt, 1, none⟩ = some (.slice ae qe ce) := s5
                    replace s6 : World.cell? (World.drew x5) ⟨pt, 2, none⟩ = some (.bool false) := s6
                    replace s7 : World.cell? (World.drew x5) ⟨pt, 3, none⟩ = some (.slice be ke de) := s7
                    refine wp_region_held_drew (S := (fun w' => World.cell? w' ⟨b9, o9 + p * 4, none⟩ = some (.bool n1) ∧ World.cell? w' ⟨b9, o9 + p * 4 + 1, none⟩ = some (.slice a1' q1' d1') ∧ World.cell? w' ⟨b9, o9 + p * 4 + 2, none⟩ = some (.bool m1) ∧ World.cell? w' ⟨b9, o9 + p * 4 + 3, none⟩ = some (.slice b1' k1' e1') ∧ World.cell? w' ⟨pt, 0, none⟩ = some (.bool ne) ∧ World.cell? w' ⟨pt, 1, none⟩ = some (.slice ae qe ce) ∧ World.cell? w' ⟨pt, 2, none⟩ = some (.bool false) ∧ World.cell? w' ⟨pt, 3, none⟩ = some (.slice be ke de))) (by kernel_rfl) ?_ (fun hHeld => ?_)
                    · exact ⟨s0, s1, s2, s3, s4, s5, s6, s7⟩
                    (try simp only [← List.toArray_replicate, List.size_toArray, List.length_cons, List.length_nil, Nat.reduceAdd, List.replicate_succ, List.replicate_zero])
                    generalize World.drew x5 = x301 at *
                    refine wpAnyH_take (i := 0) (oi := _) (v := ?_) rfl (by kernel_rfl) (by kernel_rfl) (by kernel_rfl) (fun _ _ _ h => h) (Or.inl ⟨by rfl, ?_⟩) (by assumption) ?_
                    rotate_left
                    · (intro w hSw; (try dsimp only at hSw); (try go_simp); (try with_reducible rfl))
                    (try simp only [Act.put, List.getElem_toArray, List.getElem_cons_succ, List.getElem_cons_zero, List.setIfInBounds_toArray, List.set_cons_zero, List.set_cons_succ])
                    refine wpAnyH_take (i := 1) (oi := _) (v := ?_) rfl (by kernel_rfl) (by kernel_rfl) (by kernel_rfl) (fun _ _ _ h => h) (Or.inl ⟨by rfl, ?_⟩) (by assumption) ?_
                    rotate_left
                    · (intro w hSw; (try dsimp only at hSw); (try go_simp); (try with_reducible rfl))
                    (try simp only [Act.put, List.getElem_toArray, List.getElem_cons_succ, List.getElem_cons_zero, List.setIfInBounds_toArray, List.set_cons_zero, List.set_cons_succ])
                    refine wpAnyH_take (i := 2) (oi := _) (v := ?_) rfl (by kernel_rfl) (by kernel_rfl) (by kernel_rfl) (fun _ _ _ h => h) (Or.inl ⟨by rfl, ?_⟩) (by assumption) ?_
                    rotate_left
                    · (intro w hSw; (try dsimp only at hSw); (try go_simp); (try with_reducible rfl))
                    (try simp only [Act.put, List.getElem_toArray, List.getElem_cons_succ, List.getElem_cons_zero, List.setIfInBounds_toArray, List.set_cons_zero, List.set_cons_succ])
                    refine wpAnyH_take (i := 3) (oi := _) (v := ?_) rfl (by kernel_rfl) (by kernel_rfl) (by kernel_rfl) (fun _ _ _ h => h) (Or.inl ⟨by rfl, ?_⟩) (by assumption) ?_
                    rotate_left
                    · (intro w hSw; (try dsimp only at hSw); (try go_simp); (try with_reducible rfl))
                    (try simp only [Act.put, List.getElem_toArray, List.getElem_cons_succ, List.getElem_cons_zero, List.setIfInBounds_toArray, List.set_cons_zero, List.set_cons_succ])
                    refine wpAnyH_take (i := 4) (oi := _) (v := ?_) rfl (by kernel_rfl) (by kernel_rfl) (by kernel_rfl) (fun _ _ _ h => h) (Or.inl ⟨by rfl, ?_⟩) (by assumption) ?_
                    rotate_left
                    · (intro w hSw; (try dsimp only at hSw); (try go_simp); (try with_reducible rfl))
                    (try simp only [Act.put, List.getElem_toArray, List.getElem_cons_succ, List.getElem_cons_zero, List.setIfInBounds_toArray, List.set_cons_zero, List.set_cons_succ])
                    refine wpAnyH_take (i := 5) (oi := _) (v := ?_) rfl (by kernel_rfl) (by kernel_rfl) (by kernel_rfl) (fun _ _ _ h => h) (Or.inl ⟨by rfl, ?_⟩) (by assumption) ?_
                    rotate_left
                    · (intro w hSw; (try dsimp only at hSw); (try go_simp); (try with_reducible rfl))
                    (try simp only [Act.put, List.getElem_toArray, List.getElem_cons_succ, List.getElem_cons_zero, List.setIfInBounds_toArray, List.set_cons_zero, List.set_cons_succ])
                    refine wpAnyH_take (i := 6) (oi := _) (v := ?_) rfl (by kernel_rfl) (by kernel_rfl) (by kernel_rfl) (fun _ _ _ h => h) (Or.inl ⟨by rfl, ?_⟩) (by assumption) ?_
                    rotate_left
                    · (intro w hSw; (try dsimp only at hSw); (try go_simp); (try with_reducible rfl))
                    (try simp only [Act.put, List.getElem_toArray, List.getElem_cons_succ, List.getElem_cons_zero, List.setIfInBounds_toArray, List.set_cons_zero, List.set_cons_succ])
                    refine wpAnyH_take (i := 7) (oi := _) (v := ?_) rfl (by kernel_rfl) (by kernel_rfl) (by kernel_rfl) (fun _ _ _ h => h) (Or.inl ⟨by rfl, ?_⟩) (by assumption) ?_
                    rotate_left
                    · (intro w hSw; (try dsimp only at hSw); (try go_simp); (try with_reducible rfl))
                    (try simp only [Act.put, List.getElem_toArray, List.getElem_cons_succ, List.getElem_cons_zero, List.setIfInBounds_toArray, List.set_cons_zero, List.set_cons_succ])
                    refine wpAnyH_ready (rs := [8]) (by kernel_rfl) (by simp) ?_
                    refine AllReadyH.cons (o := _) rfl (fun K hK => ?_) ?_
                    · go_simp
                      (with_reducible refine (HS.out _ hE).mono ?_); rintro e x302 ⟨rfl, hy⟩; replace hE := hE.trans hy; replace hx := hx.trans hy; replace s0 := cell_exQ hy s0; replace s1 := cell_exQ hy s1; replace s2 := cell_exQ hy s2; replace s3 := cell_exQ hy s3; replace s4 := cell_exQ hy s4; replace s5 := cell_exQ hy s5; replace s6 := cell_exQ hy s6; replace s7 := cell_exQ hy s7; clear hy
                      refine hK.out _ _ ?_ (fun hHeld2 => ?_)
                      · exact ⟨s0, s1, s2, s3, s4, s5, s6, s7⟩
                      clear hK K hHeld
                      have hHeld := hHeld2
                      clear hHeld2
                      (try simp only [Act.put, List.getElem_toArray, List.getElem_cons_succ, List.getElem_cons_zero, List.setIfInBounds_toArray, List.set_cons_zero, List.set_cons_succ])
                      refine wpAnyH_take (i := 9) (oi := _) (v := ?_) rfl (by kernel_rfl) (by kernel_rfl) (by kernel_rfl) (fun _ _ _ h => h) (Or.inl ⟨by rfl, ?_⟩) (by assumption) ?_
                      rotate_left
                      · (intro w hSw; (try dsimp only at hSw); (try go_simp); (try with_reducible rfl))
                      (try simp only [Act.put, List.getElem_toArray, List.getElem_cons_succ, List.getElem_cons_zero, List.setIfInBounds_toArray, List.set_cons_zero, List.set_cons_succ])
                      refine wpAnyH_take (i := 10) (oi := _) (v := ?_) rfl (by kernel_rfl) (by kernel_rfl) (by kernel_rfl) (fun _ _ _ h => h) (Or.inl ⟨by rfl, ?_⟩) (by assumption) ?_
                      rotate_left
                      · (intro w hSw; (try dsimp only at hSw); (try go_simp); (try with_reducible rfl))
                      (try simp only [Act.put, List.getElem_toArray, List.getElem_cons_succ, List.getElem_cons_zero, List.setIfInBounds_toArray, List.set_cons_zero, List.set_cons_succ])
                      refine wpAnyH_done (by kernel_rfl) ?_ _
                      go_wp2_with fail; go_meet; exact ⟨rfl, hE⟩
                    exact AllReadyH.nil
                  case rest =>
                  obtain ⟨rfl, hy⟩ := hcut
                  have HX9 := Lib.hid (HXK2.out.trans hy)
                  clear hy c0 c1' c2' c3 s0 s1 s2 s3
                  go_wp2_with fail
                  go_roundw
                  case rel => exact ⟨p + 1, by omega, by go_num, HX9.out⟩
                  case measure => simp [intOf]; omega
          · have p2 : ¬ (p : Int) < (m.length : Int) := by omega
            have HX8 := Lib.hid (HX7.out.trans hxp)
            go_wp2_with fail
            go_ret
            exact ⟨rfl, HX8.out⟩
end Go.Proofs.YtolffmmkjnhkkaaGreat
