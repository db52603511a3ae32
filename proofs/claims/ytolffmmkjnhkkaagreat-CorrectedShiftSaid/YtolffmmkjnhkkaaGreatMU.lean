import Derived.Test.YtolffmmkjnhkkaaGreatML
import Derived.OwnWalk
import Derived.Deep.QuietTactic
namespace Go.Proofs.YtolffmmkjnhkkaaGreat
open Go.RowKit Go BigFrame Go.Shelf
set_option maxRecDepth 100000

/-! Layer 40: what greater severities make of the means. -/
def shiftR (S : List Rat) (b : Rat) : List Rat := S.map (· + b)
theorem shiftR_getD {S : List Rat} {b : Rat} {j : Nat} (h : j < S.length) : (shiftR S b).getD j 0 = S.getD j 0 + b := by
  unfold shiftR
  rw [List.getD_eq_getElem?_getD, List.getD_eq_getElem?_getD, List.getElem?_map, List.getElem?_eq_getElem h]
  rfl
theorem diffR_shift (l : List Int) {S : List Rat} (b : Rat) {j : Nat} (h : j < S.length) : diffR l (shiftR S b) j = diffR l S j - b := by
  unfold diffR
  rw [shiftR_getD h]
  grind
theorem sumR_shift (l : List Int) (S : List Rat) (b : Rat) : ∀ (xs : List Nat), (∀ j ∈ xs, j < S.length) → sumR l (shiftR S b) xs = sumR l S xs - ((xs.length : Nat) : Rat) * b := by
  have key : ∀ (ys xs : List Nat), xs.reverse = ys → (∀ j ∈ xs, j < S.length) → sumR l (shiftR S b) xs = sumR l S xs - ((xs.length : Nat) : Rat) * b := by
    intro ys
    induction ys with
    | nil =>
      intro xs h _
      rw [List.reverse_eq_nil_iff] at h
      subst h
      show (0 : Rat) = 0 - ((0 : Nat) : Rat) * b
      grind
    | cons y ys ih =>
      intro xs h hx
      have e : xs = ys.reverse ++ [y] := by rw [← List.reverse_reverse xs, h]; simp
      subst e
      rw [sumR_snoc, sumR_snoc, ih ys.reverse (by simp) (fun j hj => hx j (by simp at hj ⊢; exact .inl hj)), diffR_shift l b (hx y (by simp)), List.length_append, List.length_singleton]
      push_cast
      grind
  exact fun xs h => key _ xs rfl h
theorem meanO_shift {l : List Int} {S : List Rat} (b : Rat) (hl : l.length = S.length) : meanO l (shiftR S b) = (meanO l S).map (· - b) := by
  unfold meanO
  by_cases h : knIx l l.length = []
  · rw [if_pos h, if_pos h]; rfl
  · rw [if_neg h, if_neg h, sumR_shift l S b _ (fun j hj => by have := knIx_lt hj; omega)]
    have h0 : (((knIx l l.length).length : Nat) : Rat) ≠ 0 := by
      intro e
      have : (knIx l l.length).length = 0 := by exact_mod_cast e
      exact h (List.eq_nil_of_length_eq_zero this)
    show some _ = some _
    generalize (((knIx l l.length).length : Nat) : Rat) = n at *
    congr 1
    have h1 : n * n⁻¹ = 1 := Rat.mul_inv_cancel n h0
    rw [Rat.div_def, Rat.div_def]
    generalize n⁻¹ = k at *
    grind
theorem knIx_known (l : List Int) : knIx l l.length = [] ↔ knownB l = false := by
  unfold knIx knownB
  rw [List.filter_eq_nil_iff, List.any_eq_false]
  constructor
  · intro h x hx
    obtain ⟨i, hi, rfl⟩ := List.getElem_of_mem hx
    have := h i (List.mem_range.2 hi)
    rw [List.getD_eq_getElem?_getD, List.getElem?_eq_getElem hi] at this
    simpa using this
  · intro h j hj
    have hj' := List.mem_range.1 hj
    have := h l[j] (List.getElem_mem hj')
    rw [List.getD_eq_getElem?_getD, List.getElem?_eq_getElem hj']
    simpa using this
theorem meanO_sz {l : List Int} {S : List Rat} {L : List RatA} {r : Rat} (hV : ValL L S 7) (hls : l.length = S.length) (hm : ∀ x ∈ l, -1 ≤ x ∧ x ≤ 1000) (hl : l.length ≤ 20) (h : meanO l S = some r) : Sz r 202 := by
  unfold meanO at h
  split at h
  · cases h
  · rename_i h0
    have e : sumR l S (knIx l l.length) / (((knIx l l.length).length : Nat) : Rat) = r := by simpa using h
    have h1 := sum_sz hV hls hm (knIx l l.length) (fun j hj => knIx_lt hj)
    have h2 := knIx_len l l.length
    have h3 : Sz ((((knIx l l.length).length : Nat) : Int) : Rat) 1 := mark_sz (by omega)
    have hn : ((((knIx l l.length).length : Nat) : Int) : Rat) ≠ 0 := by
      intro e
      have : (knIx l l.length).length = 0 := by exact_mod_cast e
      exact h0 (List.eq_nil_of_length_eq_zero this)
    rw [← e]
    exact (h1.quo h3 hn).mono (by omega)
end Go.Proofs.YtolffmmkjnhkkaaGreat

namespace Go.Proofs.YtolffmmkjnhkkaaGreat
open Go.RowKit Go BigFrame Go.Shelf
set_option maxRecDepth 100000
attribute [local go_sem] Oper.semAt_some
theorem shiftR_take {S : List Rat} {b : Rat} {q : Nat} (h : q < S.length) : shiftR (S.take (q + 1)) b = shiftR (S.take q) b ++ [S[q] + b] := by
  unfold shiftR
  rw [List.take_add_one, List.getElem?_eq_getElem h, List.map_append]
  rfl
theorem ex4 {w w' : World} {b1 b2 b3 b4 o1 o2 o3 o4 : Nat} {v1 v2 v3 v4 : Value} (h : Ext w w') (f1 : w.cell? ⟨b1, o1, none⟩ = some v1) (f2 : w.cell? ⟨b2, o2, none⟩ = some v2) (f3 : w.cell? ⟨b3, o3, none⟩ = some v3) (f4 : w.cell? ⟨b4, o4, none⟩ = some v4) :
    w'.cell? ⟨b1, o1, none⟩ = some v1 ∧ w'.cell? ⟨b2, o2, none⟩ = some v2 ∧ w'.cell? ⟨b3, o3, none⟩ = some v3 ∧ w'.cell? ⟨b4, o4, none⟩ = some v4 := ⟨cell_exQ h f1, cell_exQ h f2, cell_exQ h f3, cell_exQ h f4⟩
set_option maxHeartbeats 16000000 in
theorem law40_CorrectedShift (a : Option Addr) (cap : Nat) (m : List (List Int)) (s : Option Addr) (sc : Nat) (L : List RatA) (n d : Int) (w : World) (h : Rows w a cap m) (k : RatsI w s sc L) (hn : -2147483648 ≤ n ∧ n ≤ 2147483647) (hd : 0 ≤ d ∧ d ≤ 255) :
    Calls Tryz.prog 4 #[.slice a m.length cap, .slice s L.length sc, .int .i32 n, .int .u8 d] w fun e w' => e = .returned (.bool true) ∧ Ext w w' := by
  have HSN := Lib.hid (law40_sane w)
  have hle := h.le
  have hmx := h.mx
  have sle := k.le
  have smx := k.mx
  have HH := Lib.hid h
  have HK := Lib.hid k
  have HRT := Lib.hid (fun W (hW : Ext w W) => law40_right a cap m s sc L W (h.ext hW) (k.ext hW))
  clear h k
  cases hB : (few40 m L && decide (errM m L.length (L.any fun x => !x.ok) = 0))
  · rw [hB] at HRT
    clear hB
    go_enter Tryz.func4, Tryz.ntmps4
    go_wp2_with fail
    refine HSN.out.mono ?_
    rintro e x1 ⟨rfl, hx⟩
    have HX1 := Lib.hid hx
    have HRT1 := Lib.hid (HRT.out x1 hx)
    clear hx
    go_wp2_with fail
    refine HRT1.out.mono ?_
    rintro e x2 ⟨rfl, hy⟩
    have HX2 := Lib.hid (HX1.out.trans hy)
    go_wp2_with fail
    go_ret
    exact ⟨rfl, HX2.out⟩
  rw [hB] at HRT
  have hf : few40 m L = true := (Bool.and_eq_true _ _ ▸ hB).1
  have hE : errM m L.length (L.any fun x => !x.ok) = 0 := of_decide_eq_true (Bool.and_eq_true _ _ ▸ hB).2
  obtain ⟨S, hS⟩ := few40_val hf
  obtain ⟨hV, hL10⟩ := hS hE
  obtain ⟨g1, g2, g3, g4⟩ := errM_ok hE
  have HG := Lib.hid g4
  have HE := Lib.hid hE
  have HV := Lib.hid hV
  have HLS := Lib.hid hV.1
  clear hB hf hE hS hV g2 g3 g4
  have hw1 : IntKind.i64.wrap n = n := IntWalk.i64_in _ (by omega)
  have hw2 : IntKind.i64.wrap d = d := IntWalk.i64_in _ (by omega)
  have hw3 : IntKind.i64.wrap (1 + d) = 1 + d := IntWalk.i64_in _ (by omega)
  go_enter Tryz.func4, Tryz.ntmps4
  go_wp2_with fail
  refine HSN.out.mono ?_
  rintro e x1 ⟨rfl, hx⟩
  have HX1 := Lib.hid hx
  have HRT1 := Lib.hid (HRT.out x1 hx)
  clear hx HRT
  go_wp2_with fail
  refine HRT1.out.mono ?_
  rintro e x2 ⟨rfl, hy⟩
  have HX2 := Lib.hid (HX1.out.trans hy)
  clear hy HRT1
  go_wp2_with fail
  refine (ratio_Make n (1 + d) _ (by omega) (by omega) (by omega)).mono ?_
  rintro e x3 ⟨v3, rfl, hv3, hy⟩
  obtain ⟨nb, ab, qb, cb, bb, kb, db, rfl, hv', -, -⟩ := hv3
  have SZB := Lib.hid (divInt_sz (z := n) (y := 1 + d) (k := 2) (by rw [Nat.pow_two]; omega) (by rw [Nat.pow_two]; omega) (by omega))
  have hyb := Ext.alloc x3 (.cells #[.bool nb, .slice ab qb cb, .bool false, .slice bb kb db] 38)
  have Kb := Lib.hid (Blk.new0 x3 #[.bool nb, .slice ab qb cb, .bool false, .slice bb kb db] 38)
  have HX4 := Lib.hid ((HX2.out.trans hy).trans hyb)
  have HVB := Lib.hid (RatV.ext hv' hyb)
  clear hy hyb hv' hw1 hw2 hw3
  generalize Rat.divInt n (1 + d) = by_ at *
  go_upto_region 6 with fail
  generalize x3.alloc (.cells #[.bool nb, .slice ab qb cb, .bool false, .slice bb kb db] 38) = x4 at *
  generalize x3.heap.size = pb at *
  go_wp2_with fail
  go_loopw [11, 43] (fun v i wr => ∃ q : Nat, q ≤ L.length ∧ i = .int .i64 q ∧ ∃ xs, OwnOs wr x4.heap.size v xs ((shiftR (S.take q) by_).map some) ∧ Ext x4 wr) (fun _ i _ => L.length - (intOf i).toNat)
  case atStart => exact ⟨0, Nat.zero_le _, rfl, [], OwnOs.nil _ _, Ext.refl _⟩
  case round =>
    obtain ⟨q, hq, rfl, xs, hO, hxr⟩ := hrel
    have q1 : (0 : Int) ≤ (q : Int) := by omega
    have HXL := Lib.hid (show xs.length = q by have := hO.len; have h2 := HLS.out; unfold shiftR at this; rw [List.length_map, List.length_map, List.length_take] at this; omega)
    obtain ⟨va, vc, rfl, hvl, hvc⟩ := hO.form
    have HO := Lib.hid hO
    have HXR := Lib.hid hxr
    clear hO
    by_cases hqn : q < L.length
    · have q2 : (q : Int) < (L.length : Int) := by omega
      have hqS : q < S.length := by have := HLS.out; omega
      have hw1 : IntKind.i64.wrap ((q : Int) + 1) = (q : Int) + 1 := IntWalk.i64_in _ (by omega)
      have hlt := Lib.hid (fun g e => (HO.out.lt g e).2)
      have HXW := HX4.out.trans hxr
      obtain ⟨bs, os, rfl⟩ := HK.out.head hqn
      obtain ⟨n1, a1, q1', c1, n2, b2, k2, d2, c0, c1', c2', c3, RV, SZ⟩ := (HK.out.ext HXW).val HV.out hqS
      obtain ⟨_, _, _, _, _, _, _, e1⟩ := RV.form
      simp only [Value.agg.injEq, Array.mk.injEq, List.cons.injEq, Value.bool.injEq, Value.slice.injEq, and_true] at e1
      obtain ⟨-, -, rfl, -⟩ := e1
      have HST := Lib.hid (shiftR_take (b := by_) hqS)
      have HSZ := Lib.hid SZ
      generalize S[q] = sv at *
      have hya := Ext.alloc wr (.cells #[.bool n1, .slice a1 q1' c1, .bool false, .slice b2 k2 d2] 38)
      have Ka := Lib.hid (Blk.new0 wr #[.bool n1, .slice a1 q1' c1, .bool false, .slice b2 k2 d2] 38)
      have HVa := Lib.hid (RatV.ext RV hya)
      have HVBa := Lib.hid (RatV.ext HVB.out (hxr.trans hya))
      have HOa := Lib.hid (HO.out.ext hya)
      have Kb2 := kE Kb (hxr.trans hya)
      have HXa := Lib.hid (hxr.trans hya)
      have HSa := hya.size
      go_upto_region 12 with fail
      generalize wr.alloc (.cells #[.bool n1, .slice a1 q1' c1, .bool false, .slice b2 k2 d2] 38) = x5 at *
      generalize wr.heap.size = pa at *
      clear c0 c1' c2' c3 RV SZ hya
      obtain ⟨s0, s1, s2, s3⟩ := bk4 Ka
      obtain ⟨t0, t1, t2, t3⟩ := bk4 Kb2
      have hltx := Lib.hid (fun g e => (HOa.out.lt g e).2)
      go_wp2_with fail
      refine (ratio_Add HVa.out HVBa.out HSZ.out SZB.out (by omega)).mono ?_
      rintro e x6 ⟨v4, rfl, hv4, hy⟩
      obtain ⟨ne, ae, qe, ce, be, ke, de, rfl, hv', hf', hg'⟩ := hv4
      have hoff : RatC.Off ⟨ne, ae, qe, ce, false, be, ke, de⟩ (Value.slice va xs.length vc).ownBlock := FreshC.off ⟨fun _ => hf', fun _ => hg'⟩ hltx.out
      have HOFF := Lib.hid hoff
      have hyb := Ext.alloc x6 (.cells #[.bool ne, .slice ae qe ce, .bool false, .slice be ke de] 38)
      have Kt := Lib.hid (Blk.new0 x6 #[.bool ne, .slice ae qe ce, .bool false, .slice be ke de] 38)
      have HXb := Lib.hid ((HXa.out.trans hy).trans hyb)
      replace HOa := Lib.hid ((HOa.out.ext hy).ext hyb)
      have HRD := Lib.hid (RatV.ext hv' hyb)
      clear hoff hy hv' hf' hg' hyb s0 s1 s2 s3 t0 t1 t2 t3
      go_upto_region 13 with fail
      generalize x6.alloc (.cells #[.bool ne, .slice ae qe ce, .bool false, .slice be ke de] 38) = x7 at *
      generalize x6.heap.size = pt at *
      obtain ⟨s0, s1, s2, s3⟩ := bk4 Kt
      go_upto_region 15 with fail
      have hyc := Ext.alloc x7 (.cells #[.bool ne, .slice ae qe ce, .bool false, .slice be ke de] 38)
      have HBz := Lib.hid (Blk.new0 x7 #[.bool ne, .slice ae qe ce, .bool false, .slice be ke de] 38)
      have HXc := Lib.hid ((HX4.out.trans HXb.out).trans hyc)
      have HX4c := Lib.hid (HXb.out.trans hyc)
      replace HOa := Lib.hid (HOa.out.ext hyc)
      replace HRD := Lib.hid (RatV.ext HRD.out hyc)
      have HLX := Lib.hid HX4.out.size
      clear hyc
      go_wp2_with (at_builtin; refine wpl_append_o rfl (.tmp 55) (.tmp 57) rfl HX4c.out rfl HOa.out rfl (x := ⟨ne, ae, qe, ce, false, be, ke, de⟩) (r := some (sv + by_)) HBz.out HRD.out HOFF.out (by have := HXL.out; have := HLS.out; omega) ?_; intro v' w5 hO5 hx5 hg5 hat5)
      obtain ⟨ua, uc, rfl, hul, huc⟩ := hO5.form
      go_roundw
      case rel => exact ⟨q + 1, by omega, by go_num, _, (by rw [HST.out, List.map_append]; exact hO5), hx5⟩
      case measure => simp [intOf]; omega
    · have q2 : ¬ (q : Int) < (L.length : Int) := by omega
      have hqe : q = L.length := by omega
      subst hqe
      obtain ⟨za, zc, LA, e0, hR, hok, hVS⟩ := HO.out.rats (k := 7) (fun r hr => by
        unfold shiftR at hr
        obtain ⟨y, hy, rfl⟩ := List.mem_map.1 hr
        obtain ⟨i, hi, rfl⟩ := List.getElem_of_mem (List.mem_of_mem_take hy)
        have h1 := (HV.out.2 i _ _ (List.getElem?_eq_getElem (by rw [HLS.out]; exact hi)) (List.getElem?_eq_getElem hi)).1
        exact (h1.add SZB.out).mono (by omega)) (by omega)
      rw [show S.take L.length = S from List.take_of_length_le (by rw [HLS.out]; exact Nat.le_refl _)] at hVS
      simp only [Value.slice.injEq] at e0
      obtain ⟨rfl, e0, rfl⟩ := e0
      rw [e0] at *
      have hLA : LA.length = L.length := by rw [hVS.1, HLS.out]; unfold shiftR; simp
      have HXW := HX4.out.trans hxr
      have hEA : errM m LA.length (LA.any fun x => !x.ok) = 0 := by
        have h1 := HE.out
        obtain ⟨-, -, h2, -⟩ := errM_ok h1
        rw [h2] at h1
        rw [hLA, hok]; exact h1
      have HMA := Lib.hid (fun W (hW : Ext wr W) => corrected_Means a cap m s sc L S W ((HH.out.ext HXW).ext hW) ((HK.out.ext HXW).ext hW) (fun _ => ⟨HV.out.mono (by omega), by omega⟩))
      have HMB := Lib.hid (fun W (hW : Ext wr W) => corrected_Means a cap m va vc LA (shiftR S by_) W ((HH.out.ext HXW).ext hW) (hR.ext hW) (fun _ => ⟨hVS, by omega⟩))
      rw [HE.out] at HMA
      rw [hEA] at HMB
      have HLA := Lib.hid hLA
      have hzl := hR.le
      have hzm := hR.mx
      clear HO HXL hR hok hVS hEA e0 hLA hvl hvc
      have HMA1 := Lib.hid (HMA.out wr (Ext.refl _))
      go_wp2_with fail
      refine HMA1.out.mono ?_
      intro e x5 h5
      obtain ⟨a5, c5, V5, rfl, hr5, hy⟩ := h5.read
      rw [if_pos rfl] at hr5
      have hvl5 : V5.length = m.length := by have := hr5.len; simpa using this
      have HX5 := Lib.hid hy
      have HR5 := Lib.hid hr5
      have HMB1 := Lib.hid (HMB.out x5 hy)
      have l5 := Nat.le_trans hr5.le hr5.mx
      clear h5 hr5 hy HMA HMA1
      go_wp2_with fail
      refine HMB1.out.mono ?_
      intro e x6 h6
      obtain ⟨a6, c6, V6, rfl, hr6, hy⟩ := h6.read
      rw [if_pos rfl] at hr6
      have hvl6 : V6.length = m.length := by have := hr6.len; simpa using this
      have HX6 := Lib.hid (HX5.out.trans hy)
      replace HR5 := Lib.hid (RowD.Rd.ext HR5.out hy)
      have HR6 := Lib.hid hr6
      have l6 := Nat.le_trans hr6.le hr6.mx
      have t1 : ((V5.length : Int) != (m.length : Int)) = false := by simp [hvl5]
      have t2 : ((V6.length : Int) != (m.length : Int)) = false := by simp [hvl6]
      have HVL5 := Lib.hid hvl5
      have HVL6 := Lib.hid hvl6
      clear h6 hr6 hy HMB HMB1 hvl5 hvl6
      go_wp2_with fail
      have HXX := Lib.hid (hxr.trans HX6.out)
      have HM6 := Lib.hid (HH.out.ext (HX4.out.trans HXX.out))
      have HXF := Lib.hid (HX4.out.trans HXX.out)
      clear t1 t2 hxr HXW
      go_loopw [94] (fun i wr => ∃ p : Nat, p ≤ m.length ∧ i = .int .i64 p ∧ Ext x6 wr) (fun i _ => m.length - (intOf i).toNat)
      case atStart => exact ⟨0, Nat.zero_le _, rfl, Ext.refl _⟩
      case round =>
        obtain ⟨p, hp, rfl, hxp⟩ := hrel
        generalize wr = wP at *
        have p1 : (0 : Int) ≤ (p : Int) := by omega
        have HXP := Lib.hid hxp
        by_cases hpm : p < m.length
        · have p2 : (p : Int) < (m.length : Int) := by omega
          have hp5 : p < V5.length := by have := HVL5.out; omega
          have hp6 : p < V6.length := by have := HVL6.out; omega
          have p3 : (p : Int) < (V5.length : Int) := by omega
          have p4 : (p : Int) < (V6.length : Int) := by omega
          have hw1 : IntKind.i64.wrap ((p : Int) + 1) = (p : Int) + 1 := IntWalk.i64_in _ (by omega)
          obtain ⟨b, o, rfl⟩ := HM6.out.head hpm
          obtain ⟨r, ar, cr, hr, hc, hI⟩ := Rows.get (HM6.out.ext hxp) hpm
          obtain ⟨G1, G2⟩ := HG.out r (List.mem_of_getElem? hr)
          have rle := hI.le
          have rmx := hI.mx
          have HKN := Lib.hid (law40_known ar cr r wP hI)
          have HRr := Lib.hid hr
          obtain ⟨b5, o5, e5⟩ := HR5.out.head hp5
          dsimp only at e5
          subst e5
          obtain ⟨b6, o6, e6⟩ := HR6.out.head hp6
          dsimp only at e6
          subst e6
          obtain ⟨-, f0, f1, f2, f3⟩ := (HR5.out.ext hxp).cells _ rfl p hp5
          obtain ⟨-, h0, h1, h2, h3⟩ := (HR6.out.ext hxp).cells _ rfl p hp6
          have R5 := (HR5.out.ext hxp).val p hp5
          have R6 := (HR6.out.ext hxp).val p hp6
          dsimp only at f0 f1 f2 f3 h0 h1 h2 h3 R5 R6
          have hrS : r.length = S.length := by have := HLS.out; omega
          rw [show (m.map fun r => meanO r S).getD p none = meanO r S from by rw [List.getD_eq_getElem?_getD, List.getElem?_map, hr]; rfl] at R5
          rw [show (m.map fun r => meanO r (shiftR S by_)).getD p none = meanO r (shiftR S by_) from by rw [List.getD_eq_getElem?_getD, List.getElem?_map, hr]; rfl, meanO_shift by_ hrS] at R6
          generalize V5[p] = cx at *
          generalize V6[p] = cy at *
          obtain ⟨n5, a5', q5, d5, m5, b5', k5, e5⟩ := cx
          obtain ⟨n6, a6', q6, d6, m6, b6', k6, e6⟩ := cy
          dsimp only [RatC.val] at f0 f1 f2 f3 h0 h1 h2 h3 R5 R6
          have HRS := Lib.hid hrS
          have HG1 := Lib.hid G1
          have HG2 := Lib.hid G2
          clear hr hI hrS G1 G2
          cases hkb : knownB r
          · have hmo : meanO r S = none := if_pos ((knIx_known r).2 hkb)
            rw [hmo] at R5 R6
            rw [hkb] at HKN
            have HS5 := Lib.hid (fun W => same_RO (o := none) (w := W) R5 (rfl : RO W zeroRat none))
            have HS6 := Lib.hid (fun W => same_RO (o := none) (w := W) R6 (rfl : RO W zeroRat none))
            clear R5 R6 hkb hmo
            go_wp2_with fail
            refine HKN.out.mono ?_
            rintro e w7 ⟨rfl, hy⟩
            obtain ⟨f0, f1, f2, f3⟩ := ex4 hy f0 f1 f2 f3
            obtain ⟨h0, h1, h2, h3⟩ := ex4 hy h0 h1 h2 h3
            have HX7 := Lib.hid (HXP.out.trans hy)
            clear hy hc
            go_wp2_with fail
            refine (HS5.out _).mono ?_
            rintro e w8 ⟨rfl, hy⟩
            obtain ⟨h0, h1, h2, h3⟩ := ex4 hy h0 h1 h2 h3
            have HX8 := Lib.hid (HX7.out.trans hy)
            clear hy f0 f1 f2 f3
            go_wp2_with fail
            refine (HS6.out _).mono ?_
            rintro e w9 ⟨rfl, hy⟩
            have HX9 := Lib.hid (HX8.out.trans hy)
            clear hy
            go_wp2_with fail
            go_roundw
            case rel => exact ⟨p + 1, by omega, by go_num, HX9.out⟩
            case measure => simp [intOf]; omega
          · obtain ⟨mr, hmr⟩ : ∃ mr, meanO r S = some mr := by
              unfold meanO
              rw [if_neg fun e => by rw [(knIx_known r).1 e] at hkb; cases hkb]
              exact ⟨_, rfl⟩
            have HSM := Lib.hid (meanO_sz (HV.out.mono (by omega)) HRS.out HG2.out (by have := HG1.out; omega) hmr)
            rw [hmr] at R5 R6
            rw [hkb] at HKN
            replace R5 : Hid (RatV wP (.agg #[.bool n5, .slice a5' q5 d5, .bool m5, .slice b5' k5 e5]) mr) := Lib.hid R5
            replace R6 : Hid (RatV wP (.agg #[.bool n6, .slice a6' q6 d6, .bool m6, .slice b6' k6 e6]) (mr - by_)) := Lib.hid R6
            have HVBp := Lib.hid (RatV.ext HVB.out (HXX.out.trans hxp))
            have Kb2 := kE Kb (HXX.out.trans hxp)
            clear hkb hmr
            go_wp2_with fail
            refine HKN.out.mono ?_
            rintro e w7 ⟨rfl, hy⟩
            obtain ⟨f0, f1, f2, f3⟩ := ex4 hy f0 f1 f2 f3
            obtain ⟨h0, h1, h2, h3⟩ := ex4 hy h0 h1 h2 h3
            replace R5 := Lib.hid (R5.out.ext hy)
            replace R6 := Lib.hid (R6.out.ext hy)
            replace HVBp := Lib.hid (RatV.ext HVBp.out hy)
            replace Kb2 := kE Kb2 hy
            have HX7 := Lib.hid (HXP.out.trans hy)
            clear hy hc HKN
            go_upto_region 27 with fail
            go_cut [22, 23] (fun s1 s2 wx => ∃ (p : Nat) (nd : Bool) (ad : Option Addr) (qd cd : Nat) (bd : Option Addr) (kd dd : Nat), s1 = .pointer (some ⟨p, 0, none⟩) ∧ s2 = .int .i64 0 ∧ Blk wx p #[.bool nd, .slice ad qd cd, .bool false, .slice bd kd dd] 38 ∧ RatV wx (.agg #[.bool nd, .slice ad qd cd, .bool false, .slice bd kd dd]) (mr - by_) ∧ Ext w7 wx)
            case first =>
              have hE : Ext w7 (World.drew w7) := (Ext.refl _).drew
              have hyd : Ext w7 (World.drew w7) := (Ext.refl _).drew
              replace R5 := Lib.hid (R5.out.ext hyd)
              replace HVBp := Lib.hid (HVBp.out.ext hyd)
              clear hyd
              have s0 : World.cell? (World.drew w7) ⟨b5, o5 + p * 4, none⟩ = some (.bool n5) := f0
              have s1 : World.cell? (World.drew w7) ⟨b5, o5 + p * 4 + 1, none⟩ = some (.slice a5' q5 d5) := f1
              have s2 : World.cell? (World.drew w7) ⟨b5, o5 + p * 4 + 2, none⟩ = some (.bool m5) := f2
              have s3 : World.cell? (World.drew w7) ⟨b5, o5 + p * 4 + 3, none⟩ = some (.slice b5' k5 e5) := f3
              have s4 : World.cell? (World.drew w7) ⟨pb, 0, none⟩ = some (.bool nb) := Kb2.out.cell rfl
              have s5 : World.cell? (World.drew w7) ⟨pb, 1, none⟩ = some (.slice ab qb cb) := Kb2.out.cell rfl
              have s6 : World.cell? (World.drew w7) ⟨pb, 2, none⟩ = some (.bool false) := Kb2.out.cell rfl
              have s7 : World.cell? (World.drew w7) ⟨pb, 3, none⟩ = some (.slice bb kb db) := Kb2.out.cell rfl
              refine wp_region_held_drew (S := (fun w' => World.cell? w' ⟨b5, o5 + p * 4, none⟩ = some (.bool n5) ∧ World.cell? w' ⟨b5, o5 + p * 4 + 1, none⟩ = some (.slice a5' q5 d5) ∧ World.cell? w' ⟨b5, o5 + p * 4 + 2, none⟩ = some (.bool m5) ∧ World.cell? w' ⟨b5, o5 + p * 4 + 3, none⟩ = some (.slice b5' k5 e5) ∧ World.cell? w' ⟨pb, 0, none⟩ = some (.bool nb) ∧ World.cell? w' ⟨pb, 1, none⟩ = some (.slice ab qb cb) ∧ World.cell? w' ⟨pb, 2, none⟩ = some (.bool false) ∧ World.cell? w' ⟨pb, 3, none⟩ = some (.slice bb kb db))) (by kernel_rfl) ?_ (fun hHeld => ?_)
              · exact ⟨s0, s1, s2, s3, s4, s5, s6, s7⟩
              (try simp only [← List.toArray_replicate, List.size_toArray, List.length_cons, List.length_nil, Nat.reduceAdd, List.replicate_succ, List.replicate_zero])
              generalize World.drew w7 = x101 at *
              refine wpAnyH_take (i := 0) (oi := _) (v := ?_) rfl (by kernel_rfl) (by kernel_rfl) (by kernel_rfl) (fun _ _ _ h => h) (Or.inl ⟨by rfl, ?_⟩) (by assumption) ?_
              rotate_left
              · (intro w hSw; (try dsimp only at hSw); (try go_simp); (try with_reducible rfl))
              (try simp only [Act.put, List.getElem_toArray, List.getElem_cons_succ, List.getElem_cons_zero, List.setIfInBounds_toArray, List.set_cons_zero, List.set_cons_succ])
              refine wpAnyH_take (i := 1) (oi := _) (v := ?_) rfl (by kernel_rfl) (by kernel_rfl) (by kernel_rfl) (fun _ _ _ h => h) (Or.inl ⟨by rfl, ?_⟩) (by assumption) ?_
              rotate_left
              · (intro w hSw; (try dsimp only at hSw); (try go_simp); (try with_reducible rfl))
              (try simp only [Act.put, List.getElem_toArray, List.getElem_cons_succ, List.getElem_cons_zero, List.setIfInBounds_toArray, List.set_cons_zero, List.set_cons_succ])
              refine wpAnyH_take (i := 2) (oi := _) (v := ?_) rfl (by kernel_rfl) (by kernel_rfl) (by kernel_rfl) (fun _ _ _ h => h) (Or.inl ⟨by rfl, ?_⟩) (by assumption) ?_
              rotate_left
              · (intro w hSw; (try dsimp only at hSw); (try go_simp); (try with_reducible rfl))
              (try simp only [Act.put, List.getElem_toArray, List.getElem_cons_succ, List.getElem_cons_zero, List.setIfInBounds_toArray, List.set_cons_zero, List.set_cons_succ])
              refine wpAnyH_take (i := 3) (oi := _) (v := ?_) rfl (by kernel_rfl) (by kernel_rfl) (by kernel_rfl) (fun _ _ _ h => h) (Or.inl ⟨by rfl, ?_⟩) (by assumption) ?_
              rotate_left
              · (intro w hSw; (try dsimp only at hSw); (try go_simp); (try with_reducible rfl))
              (try simp only [Act.put, List.getElem_toArray, List.getElem_cons_succ, List.getElem_cons_zero, List.setIfInBounds_toArray, List.set_cons_zero, List.set_cons_succ])
              refine wpAnyH_take (i := 4) (oi := _) (v := ?_) rfl (by kernel_rfl) (by kernel_rfl) (by kernel_rfl) (fun _ _ _ h => h) (Or.inl ⟨by rfl, ?_⟩) (by assumption) ?_
              rotate_left
              · (intro w hSw; (try dsimp only at hSw); (try go_simp); (try with_reducible rfl))
              (try simp only [Act.put, List.getElem_toArray, List.getElem_cons_succ, List.getElem_cons_zero, List.setIfInBounds_toArray, List.set_cons_zero, List.set_cons_succ])
              refine wpAnyH_ready (rs := [5, 9]) (by kernel_rfl) (by simp) ?_
              refine AllReadyH.cons (o := _) rfl (fun K hK => ?_) ?_
              · go_simp
                (with_reducible refine (ratio_Sub R5.out HVBp.out HSM.out SZB.out (by omega)).mono ?_); rintro e x102 ⟨v1, rfl, hv, hy⟩; replace hE := hE.trans hy; replace s0 := cell_exQ hy s0; replace s1 := cell_exQ hy s1; replace s2 := cell_exQ hy s2; replace s3 := cell_exQ hy s3; replace s4 := cell_exQ hy s4; replace s5 := cell_exQ hy s5; replace s6 := cell_exQ hy s6; replace s7 := cell_exQ hy s7; replace R5 := Lib.hid (R5.out.ext hy); replace HVBp := Lib.hid (HVBp.out.ext hy); clear hy; obtain ⟨nd, ad, qd, cd, bd, kd, dd, rfl, hv', -, -⟩ := hv; have Vd := Lib.hid hv'; clear hv'
                refine hK.out _ _ ?_ (fun hHeld2 => ?_)
                · exact ⟨s0, s1, s2, s3, s4, s5, s6, s7⟩
                clear hK K hHeld
                have hHeld := hHeld2
                clear hHeld2
                (try simp only [Act.put, List.getElem_toArray, List.getElem_cons_succ, List.getElem_cons_zero, List.setIfInBounds_toArray, List.set_cons_zero, List.set_cons_succ])
                refine wpAnyH_take (i := 6) (oi := _) (v := ?_) rfl (by kernel_rfl) (by kernel_rfl) (by kernel_rfl) (fun _ _ _ h => h) (Or.inl ⟨by rfl, ?_⟩) (by assumption) ?_
                rotate_left
                · (intro w hSw; (try dsimp only at hSw); (try go_simp); (try with_reducible rfl))
                (try simp only [Act.put, List.getElem_toArray, List.getElem_cons_succ, List.getElem_cons_zero, List.setIfInBounds_toArray, List.set_cons_zero, List.set_cons_succ])
                refine wpAnyH_take (i := 7) (oi := _) (v := ?_) rfl (by kernel_rfl) (by kernel_rfl) (by kernel_rfl) (fun _ _ _ h => h) (Or.inl ⟨by rfl, ?_⟩) (by assumption) ?_
                rotate_left
                · (intro w hSw; (try dsimp only at hSw); (try go_simp); (try with_reducible rfl))
                (try simp only [Act.put, List.getElem_toArray, List.getElem_cons_succ, List.getElem_cons_zero, List.setIfInBounds_toArray, List.set_cons_zero, List.set_cons_succ])
                refine wpAnyH_take (i := 8) (oi := _) (v := ?_) rfl (by kernel_rfl) (by kernel_rfl) (by kernel_rfl) (fun _ _ _ h => h) (Or.inl ⟨by rfl, ?_⟩) (by assumption) ?_
                rotate_left
                · (intro w hSw; (try dsimp only at hSw); (try go_simp); (try with_reducible rfl))
                (try simp only [Act.put, List.getElem_toArray, List.getElem_cons_succ, List.getElem_cons_zero, List.setIfInBounds_toArray, List.set_cons_zero, List.set_cons_succ])
                refine wpAnyH_ready (rs := [9]) (by kernel_rfl) (by simp) ?_
                refine AllReadyH.cons (o := _) rfl (fun K hK => ?_) ?_
                · go_simp
                  have hy : Ext x102 (World.alloc x102 (.cells #[.bool false, .slice none 0 0, .bool false, .slice none 0 0] 38)) := Ext.alloc _ _; have hqd := hE.size; replace hE := hE.trans hy; have md0 := lt_of_cell s0; replace s0 := cell_exQ hy s0; replace s1 := cell_exQ hy s1; replace s2 := cell_exQ hy s2; replace s3 := cell_exQ hy s3; have md4 := lt_of_cell s4; replace s4 := cell_exQ hy s4; replace s5 := cell_exQ hy s5; replace s6 := cell_exQ hy s6; replace s7 := cell_exQ hy s7; replace R5 := Lib.hid (R5.out.ext hy); replace HVBp := Lib.hid (HVBp.out.ext hy); replace Vd := Lib.hid (Vd.out.ext hy); have Kd := Lib.hid (Blk.new0 x102 #[.bool false, .slice none 0 0, .bool false, .slice none 0 0] 38); clear hy; generalize World.alloc x102 (.cells #[.bool false, .slice none 0 0, .bool false, .slice none 0 0] 38) = x103 at *; generalize Array.size (World.heap x102) = pd at *
                  refine hK.out _ _ ?_ (fun hHeld2 => ?_)
                  · exact ⟨s0, s1, s2, s3, s4, s5, s6, s7⟩
                  clear hK K hHeld
                  have hHeld := hHeld2
                  clear hHeld2
                  (try simp only [Act.put, List.getElem_toArray, List.getElem_cons_succ, List.getElem_cons_zero, List.setIfInBounds_toArray, List.set_cons_zero, List.set_cons_succ])
                  refine wpAnyH_ready (rs := [10]) (by kernel_rfl) (by simp) ?_
                  refine AllReadyH.cons (o := _) rfl (fun K hK => ?_) ?_
                  · obtain ⟨g0, z0, g1, z1, g2, z2, g3, z3⟩ := bp4 Kd (.bool nd) (.slice ad qd cd) (.bool false) (.slice bd kd dd); go_simp; clear g0 z0 g1 z1 g2 z2 g3 z3; replace R5 := (by first | exact rv4 R5 Kd (.bool nd) (.slice ad qd cd) (.bool false) (.slice bd kd dd) rfl rfl rfl rfl | exact bv4 R5 Kd (.bool nd) (.slice ad qd cd) (.bool false) (.slice bd kd dd) rfl rfl rfl rfl); replace HVBp := (by first | exact rv4 HVBp Kd (.bool nd) (.slice ad qd cd) (.bool false) (.slice bd kd dd) rfl rfl rfl rfl | exact bv4 HVBp Kd (.bool nd) (.slice ad qd cd) (.bool false) (.slice bd kd dd) rfl rfl rfl rfl); replace Vd := (by first | exact rv4 Vd Kd (.bool nd) (.slice ad qd cd) (.bool false) (.slice bd kd dd) rfl rfl rfl rfl | exact bv4 Vd Kd (.bool nd) (.slice ad qd cd) (.bool false) (.slice bd kd dd) rfl rfl rfl rfl); replace hE := bx4 hE (pd) (.bool nd) (.slice ad qd cd) (.bool false) (.slice bd kd dd) (by omega); replace s0 := bf4 s0 (pd) (.bool nd) (.slice ad qd cd) (.bool false) (.slice bd kd dd) (by omega); replace s1 := bf4 s1 (pd) (.bool nd) (.slice ad qd cd) (.bool false) (.slice bd kd dd) (by omega); replace s2 := bf4 s2 (pd) (.bool nd) (.slice ad qd cd) (.bool false) (.slice bd kd dd) (by omega); replace s3 := bf4 s3 (pd) (.bool nd) (.slice ad qd cd) (.bool false) (.slice bd kd dd) (by omega); replace s4 := bf4 s4 (pd) (.bool nd) (.slice ad qd cd) (.bool false) (.slice bd kd dd) (by omega); replace s5 := bf4 s5 (pd) (.bool nd) (.slice ad qd cd) (.bool false) (.slice bd kd dd) (by omega); replace s6 := bf4 s6 (pd) (.bool nd) (.slice ad qd cd) (.bool false) (.slice bd kd dd) (by omega); replace s7 := bf4 s7 (pd) (.bool nd) (.slice ad qd cd) (.bool false) (.slice bd kd dd) (by omega); replace Kd := bs4 Kd (.bool nd) (.slice ad qd cd) (.bool false) (.slice bd kd dd); generalize (World.setCell (World.setCell (World.setCell (World.setCell x103 ⟨pd, 0, none⟩ (.bool nd)) ⟨pd, 1, none⟩ (.slice ad qd cd)) ⟨pd, 2, none⟩ (.bool false)) ⟨pd, 3, none⟩ (.slice bd kd dd)) = xe at *
                    refine hK.out _ _ ?_ (fun hHeld2 => ?_)
                    · exact ⟨s0, s1, s2, s3, s4, s5, s6, s7⟩
                    clear hK K hHeld
                    have hHeld := hHeld2
                    clear hHeld2
                    (try simp only [Act.put, List.getElem_toArray, List.getElem_cons_succ, List.getElem_cons_zero, List.setIfInBounds_toArray, List.set_cons_zero, List.set_cons_succ])
                    refine wpAnyH_take (i := 11) (oi := _) (v := ?_) rfl (by kernel_rfl) (by kernel_rfl) (by kernel_rfl) (fun _ _ _ h => h) (Or.inl ⟨by rfl, ?_⟩) (by assumption) ?_
                    rotate_left
                    · (intro w hSw; (try dsimp only at hSw); (try go_simp); (try with_reducible rfl))
                    (try simp only [Act.put, List.getElem_toArray, List.getElem_cons_succ, List.getElem_cons_zero, List.setIfInBounds_toArray, List.set_cons_zero, List.set_cons_succ])
                    refine wpAnyH_done (by kernel_rfl) ?_ _
                    (go_wp2_with fail; go_meet; exact ⟨_, _, _, _, _, _, _, _, rfl, rfl, Kd.out, Vd.out, hE⟩)
                  exact AllReadyH.nil
                exact AllReadyH.nil
              refine AllReadyH.cons (o := _) rfl (fun K hK => ?_) ?_
              · go_simp
                have hy : Ext x101 (World.alloc x101 (.cells #[.bool false, .slice none 0 0, .bool false, .slice none 0 0] 38)) := Ext.alloc _ _; have hqd := hE.size; replace hE := hE.trans hy; have md0 := lt_of_cell s0; replace s0 := cell_exQ hy s0; replace s1 := cell_exQ hy s1; replace s2 := cell_exQ hy s2; replace s3 := cell_exQ hy s3; have md4 := lt_of_cell s4; replace s4 := cell_exQ hy s4; replace s5 := cell_exQ hy s5; replace s6 := cell_exQ hy s6; replace s7 := cell_exQ hy s7; replace R5 := Lib.hid (R5.out.ext hy); replace HVBp := Lib.hid (HVBp.out.ext hy); have Kd := Lib.hid (Blk.new0 x101 #[.bool false, .slice none 0 0, .bool false, .slice none 0 0] 38); clear hy; generalize World.alloc x101 (.cells #[.bool false, .slice none 0 0, .bool false, .slice none 0 0] 38) = x104 at *; generalize Array.size (World.heap x101) = pd at *
                refine hK.out _ _ ?_ (fun hHeld2 => ?_)
                · exact ⟨s0, s1, s2, s3, s4, s5, s6, s7⟩
                clear hK K hHeld
                have hHeld := hHeld2
                clear hHeld2
                (try simp only [Act.put, List.getElem_toArray, List.getElem_cons_succ, List.getElem_cons_zero, List.setIfInBounds_toArray, List.set_cons_zero, List.set_cons_succ])
                refine wpAnyH_ready (rs := [5]) (by kernel_rfl) (by simp) ?_
                refine AllReadyH.cons (o := _) rfl (fun K hK => ?_) ?_
                · go_simp
                  (with_reducible refine (ratio_Sub R5.out HVBp.out HSM.out SZB.out (by omega)).mono ?_); rintro e x105 ⟨v1, rfl, hv, hy⟩; replace hE := hE.trans hy; replace s0 := cell_exQ hy s0; replace s1 := cell_exQ hy s1; replace s2 := cell_exQ hy s2; replace s3 := cell_exQ hy s3; replace s4 := cell_exQ hy s4; replace s5 := cell_exQ hy s5; replace s6 := cell_exQ hy s6; replace s7 := cell_exQ hy s7; replace Kd := kE Kd hy; replace R5 := Lib.hid (R5.out.ext hy); replace HVBp := Lib.hid (HVBp.out.ext hy); clear hy; obtain ⟨nd, ad, qd, cd, bd, kd, dd, rfl, hv', -, -⟩ := hv; have Vd := Lib.hid hv'; clear hv'
                  refine hK.out _ _ ?_ (fun hHeld2 => ?_)
                  · exact ⟨s0, s1, s2, s3, s4, s5, s6, s7⟩
                  clear hK K hHeld
                  have hHeld := hHeld2
                  clear hHeld2
                  (try simp only [Act.put, List.getElem_toArray, List.getElem_cons_succ, List.getElem_cons_zero, List.setIfInBounds_toArray, List.set_cons_zero, List.set_cons_succ])
                  refine wpAnyH_take (i := 6) (oi := _) (v := ?_) rfl (by kernel_rfl) (by kernel_rfl) (by kernel_rfl) (fun _ _ _ h => h) (Or.inl ⟨by rfl, ?_⟩) (by assumption) ?_
                  rotate_left
                  · (intro w hSw; (try dsimp only at hSw); (try go_simp); (try with_reducible rfl))
                  (try simp only [Act.put, List.getElem_toArray, List.getElem_cons_succ, List.getElem_cons_zero, List.setIfInBounds_toArray, List.set_cons_zero, List.set_cons_succ])
                  refine wpAnyH_take (i := 7) (oi := _) (v := ?_) rfl (by kernel_rfl) (by kernel_rfl) (by kernel_rfl) (fun _ _ _ h => h) (Or.inl ⟨by rfl, ?_⟩) (by assumption) ?_
                  rotate_left
                  · (intro w hSw; (try dsimp only at hSw); (try go_simp); (try with_reducible rfl))
                  (try simp only [Act.put, List.getElem_toArray, List.getElem_cons_succ, List.getElem_cons_zero, List.setIfInBounds_toArray, List.set_cons_zero, List.set_cons_succ])
                  refine wpAnyH_take (i := 8) (oi := _) (v := ?_) rfl (by kernel_rfl) (by kernel_rfl) (by kernel_rfl) (fun _ _ _ h => h) (Or.inl ⟨by rfl, ?_⟩) (by assumption) ?_
                  rotate_left
                  · (intro w hSw; (try dsimp only at hSw); (try go_simp); (try with_reducible rfl))
                  (try simp only [Act.put, List.getElem_toArray, List.getElem_cons_succ, List.getElem_cons_zero, List.setIfInBounds_toArray, List.set_cons_zero, List.set_cons_succ])
                  refine wpAnyH_ready (rs := [10]) (by kernel_rfl) (by simp) ?_
                  refine AllReadyH.cons (o := _) rfl (fun K hK => ?_) ?_
                  · obtain ⟨g0, z0, g1, z1, g2, z2, g3, z3⟩ := bp4 Kd (.bool nd) (.slice ad qd cd) (.bool false) (.slice bd kd dd); go_simp; clear g0 z0 g1 z1 g2 z2 g3 z3; replace R5 := (by first | exact rv4 R5 Kd (.bool nd) (.slice ad qd cd) (.bool false) (.slice bd kd dd) rfl rfl rfl rfl | exact bv4 R5 Kd (.bool nd) (.slice ad qd cd) (.bool false) (.slice bd kd dd) rfl rfl rfl rfl); replace HVBp := (by first | exact rv4 HVBp Kd (.bool nd) (.slice ad qd cd) (.bool false) (.slice bd kd dd) rfl rfl rfl rfl | exact bv4 HVBp Kd (.bool nd) (.slice ad qd cd) (.bool false) (.slice bd kd dd) rfl rfl rfl rfl); replace Vd := (by first | exact rv4 Vd Kd (.bool nd) (.slice ad qd cd) (.bool false) (.slice bd kd dd) rfl rfl rfl rfl | exact bv4 Vd Kd (.bool nd) (.slice ad qd cd) (.bool false) (.slice bd kd dd) rfl rfl rfl rfl); replace hE := bx4 hE (pd) (.bool nd) (.slice ad qd cd) (.bool false) (.slice bd kd dd) (by omega); replace s0 := bf4 s0 (pd) (.bool nd) (.slice ad qd cd) (.bool false) (.slice bd kd dd) (by omega); replace s1 := bf4 s1 (pd) (.bool nd) (.slice ad qd cd) (.bool false) (.slice bd kd dd) (by omega); replace s2 := bf4 s2 (pd) (.bool nd) (.slice ad qd cd) (.bool false) (.slice bd kd dd) (by omega); replace s3 := bf4 s3 (pd) (.bool nd) (.slice ad qd cd) (.bool false) (.slice bd kd dd) (by omega); replace s4 := bf4 s4 (pd) (.bool nd) (.slice ad qd cd) (.bool false) (.slice bd kd dd) (by omega); replace s5 := bf4 s5 (pd) (.bool nd) (.slice ad qd cd) (.bool false) (.slice bd kd dd) (by omega); replace s6 := bf4 s6 (pd) (.bool nd) (.slice ad qd cd) (.bool false) (.slice bd kd dd) (by omega); replace s7 := bf4 s7 (pd) (.bool nd) (.slice ad qd cd) (.bool false) (.slice bd kd dd) (by omega); replace Kd := bs4 Kd (.bool nd) (.slice ad qd cd) (.bool false) (.slice bd kd dd); generalize (World.setCell (World.setCell (World.setCell (World.setCell x105 ⟨pd, 0, none⟩ (.bool nd)) ⟨pd, 1, none⟩ (.slice ad qd cd)) ⟨pd, 2, none⟩ (.bool false)) ⟨pd, 3, none⟩ (.slice bd kd dd)) = xe at *
                    refine hK.out _ _ ?_ (fun hHeld2 => ?_)
                    · exact ⟨s0, s1, s2, s3, s4, s5, s6, s7⟩
                    clear hK K hHeld
                    have hHeld := hHeld2
                    clear hHeld2
                    (try simp only [Act.put, List.getElem_toArray, List.getElem_cons_succ, List.getElem_cons_zero, List.setIfInBounds_toArray, List.set_cons_zero, List.set_cons_succ])
                    refine wpAnyH_take (i := 11) (oi := _) (v := ?_) rfl (by kernel_rfl) (by kernel_rfl) (by kernel_rfl) (fun _ _ _ h => h) (Or.inl ⟨by rfl, ?_⟩) (by assumption) ?_
                    rotate_left
                    · (intro w hSw; (try dsimp only at hSw); (try go_simp); (try with_reducible rfl))
                    (try simp only [Act.put, List.getElem_toArray, List.getElem_cons_succ, List.getElem_cons_zero, List.setIfInBounds_toArray, List.set_cons_zero, List.set_cons_succ])
                    refine wpAnyH_done (by kernel_rfl) ?_ _
                    (go_wp2_with fail; go_meet; exact ⟨_, _, _, _, _, _, _, _, rfl, rfl, Kd.out, Vd.out, hE⟩)
                  exact AllReadyH.nil
                exact AllReadyH.nil
              exact AllReadyH.nil
            case rest =>
              obtain ⟨pd, nd, ad, qd, cd, bd, kd, dd, rfl, rfl, hB, hv, hy⟩ := hcut
              obtain ⟨h0, h1, h2, h3⟩ := ex4 hy h0 h1 h2 h3
              replace R6 : Hid (RO wc (.agg #[.bool n6, .slice a6' q6 d6, .bool m6, .slice b6' k6 e6]) (some (mr - by_))) := Lib.hid (R6.out.ext hy)
              have Vd : Hid (RO wc (.agg #[.bool nd, .slice ad qd cd, .bool false, .slice bd kd dd]) (some (mr - by_))) := Lib.hid hv
              have Kd := Lib.hid hB
              have HX8 := Lib.hid (HX7.out.trans hy)
              clear hv hB hy f0 f1 f2 f3 R5 HVBp Kb2
              go_upto_region 28 with fail
              go_cut [137] (fun s wx => s = .bool false ∧ Ext wc wx)
              case first =>
                have hx := Ext.refl wc
                have hE : Ext wc (World.drew wc) := (Ext.refl _).drew
                have hyd : Ext wc (World.drew wc) := (Ext.refl _).drew
                replace hx := hx.trans hyd
                replace R6 := Lib.hid (R6.out.ext hyd)
                replace Vd := Lib.hid (Vd.out.ext hyd)
                clear hyd
                have s0 : World.cell? (World.drew wc) ⟨b6, o6 + p * 4, none⟩ = some (.bool n6) := h0
                have s1 : World.cell? (World.drew wc) ⟨b6, o6 + p * 4 + 1, none⟩ = some (.slice a6' q6 d6) := h1
                have s2 : World.cell? (World.drew wc) ⟨b6, o6 + p * 4 + 2, none⟩ = some (.bool m6) := h2
                have s3 : World.cell? (World.drew wc) ⟨b6, o6 + p * 4 + 3, none⟩ = some (.slice b6' k6 e6) := h3
                have s4 : World.cell? (World.drew wc) ⟨pd, 0, none⟩ = some (.bool nd) := Kd.out.cell rfl
                have s5 : World.cell? (World.drew wc) ⟨pd, 1, none⟩ = some (.slice ad qd cd) := Kd.out.cell rfl
                have s6 : World.cell? (World.drew wc) ⟨pd, 2, none⟩ = some (.bool false) := Kd.out.cell rfl
                have s7 : World.cell? (World.drew wc) ⟨pd, 3, none⟩ = some (.slice bd kd dd) := Kd.out.cell rfl
                refine wp_region_held_drew (S := (fun w' => World.cell? w' ⟨b6, o6 + p * 4, none⟩ = some (.bool n6) ∧ World.cell? w' ⟨b6, o6 + p * 4 + 1, none⟩ = some (.slice a6' q6 d6) ∧ World.cell? w' ⟨b6, o6 + p * 4 + 2, none⟩ = some (.bool m6) ∧ World.cell? w' ⟨b6, o6 + p * 4 + 3, none⟩ = some (.slice b6' k6 e6) ∧ World.cell? w' ⟨pd, 0, none⟩ = some (.bool nd) ∧ World.cell? w' ⟨pd, 1, none⟩ = some (.slice ad qd cd) ∧ World.cell? w' ⟨pd, 2, none⟩ = some (.bool false) ∧ World.cell? w' ⟨pd, 3, none⟩ = some (.slice bd kd dd))) (by kernel_rfl) ?_ (fun hHeld => ?_)
                · exact ⟨s0, s1, s2, s3, s4, s5, s6, s7⟩
                (try simp only [← List.toArray_replicate, List.size_toArray, List.length_cons, List.length_nil, Nat.reduceAdd, List.replicate_succ, List.replicate_zero])
                generalize World.drew wc = x106 at *
                refine wpAnyH_take (i := 0) (oi := _) (v := ?_) rfl (by kernel_rfl) (by kernel_rfl) (by kernel_rfl) (fun _ _ _ h => h) (Or.inl ⟨by rfl, ?_⟩) (by assumption) ?_
                rotate_left
                · (intro w hSw; (try dsimp only at hSw); (try go_simp); (try with_reducible rfl))
                (try simp only [Act.put, List.getElem_toArray, List.getElem_cons_succ, List.getElem_cons_zero, List.setIfInBounds_toArray, List.set_cons_zero, List.set_cons_succ])
                refine wpAnyH_take (i := 1) (oi := _) (v := ?_) rfl (by kernel_rfl) (by kernel_rfl) (by kernel_rfl) (fun _ _ _ h => h) (Or.inl ⟨by rfl, ?_⟩) (by assumption) ?_
                rotate_left
                · (intro w hSw; (try dsimp only at hSw); (try go_simp); (try with_reducible rfl))
                (try simp only [Act.put, List.getElem_toArray, List.getElem_cons_succ, List.getElem_cons_zero, List.setIfInBounds_toArray, List.set_cons_zero, List.set_cons_succ])
                refine wpAnyH_take (i := 2) (oi := _) (v := ?_) rfl (by kernel_rfl) (by kernel_rfl) (by kernel_rfl) (fun _ _ _ h => h) (Or.inl ⟨by rfl, ?_⟩) (by assumption) ?_
                rotate_left
                · (intro w hSw; (try dsimp only at hSw); (try go_simp); (try with_reducible rfl))
                (try simp only [Act.put, List.getElem_toArray, List.getElem_cons_succ, List.getElem_cons_zero, List.setIfInBounds_toArray, List.set_cons_zero, List.set_cons_succ])
                refine wpAnyH_take (i := 3) (oi := _) (v := ?_) rfl (by kernel_rfl) (by kernel_rfl) (by kernel_rfl) (fun _ _ _ h => h) (Or.inl ⟨by rfl, ?_⟩) (by assumption) ?_
                rotate_left
                · (intro w hSw; (try dsimp only at hSw); (try go_simp); (try with_reducible rfl))
                (try simp only [Act.put, List.getElem_toArray, List.getElem_cons_succ, List.getElem_cons_zero, List.setIfInBounds_toArray, List.set_cons_zero, List.set_cons_succ])
                refine wpAnyH_take (i := 4) (oi := _) (v := ?_) rfl (by kernel_rfl) (by kernel_rfl) (by kernel_rfl) (fun _ _ _ h => h) (Or.inl ⟨by rfl, ?_⟩) (by assumption) ?_
                rotate_left
                · (intro w hSw; (try dsimp only at hSw); (try go_simp); (try with_reducible rfl))
                (try simp only [Act.put, List.getElem_toArray, List.getElem_cons_succ, List.getElem_cons_zero, List.setIfInBounds_toArray, List.set_cons_zero, List.set_cons_succ])
                refine wpAnyH_take (i := 5) (oi := _) (v := ?_) rfl (by kernel_rfl) (by kernel_rfl) (by kernel_rfl) (fun _ _ _ h => h) (Or.inl ⟨by rfl, ?_⟩) (by assumption) ?_
                rotate_left
                · (intro w hSw; (try dsimp only at hSw); (try go_simp); (try with_reducible rfl))
                (try simp only [Act.put, List.getElem_toArray, List.getElem_cons_succ, List.getElem_cons_zero, List.setIfInBounds_toArray, List.set_cons_zero, List.set_cons_succ])
                refine wpAnyH_take (i := 6) (oi := _) (v := ?_) rfl (by kernel_rfl) (by kernel_rfl) (by kernel_rfl) (fun _ _ _ h => h) (Or.inl ⟨by rfl, ?_⟩) (by assumption) ?_
                rotate_left
                · (intro w hSw; (try dsimp only at hSw); (try go_simp); (try with_reducible rfl))
                (try simp only [Act.put, List.getElem_toArray, List.getElem_cons_succ, List.getElem_cons_zero, List.setIfInBounds_toArray, List.set_cons_zero, List.set_cons_succ])
                refine wpAnyH_take (i := 7) (oi := _) (v := ?_) rfl (by kernel_rfl) (by kernel_rfl) (by kernel_rfl) (fun _ _ _ h => h) (Or.inl ⟨by rfl, ?_⟩) (by assumption) ?_
                rotate_left
                · (intro w hSw; (try dsimp only at hSw); (try go_simp); (try with_reducible rfl))
                (try simp only [Act.put, List.getElem_toArray, List.getElem_cons_succ, List.getElem_cons_zero, List.setIfInBounds_toArray, List.set_cons_zero, List.set_cons_succ])
                refine wpAnyH_ready (rs := [8]) (by kernel_rfl) (by simp) ?_
                refine AllReadyH.cons (o := _) rfl (fun K hK => ?_) ?_
                · go_simp
                  (with_reducible refine (same_RO (o := some (mr - by_)) Vd.out R6.out).mono ?_); rintro e x107 ⟨rfl, hy⟩; replace hE := hE.trans hy; replace hx := hx.trans hy; replace s0 := cell_exQ hy s0; replace s1 := cell_exQ hy s1; replace s2 := cell_exQ hy s2; replace s3 := cell_exQ hy s3; replace s4 := cell_exQ hy s4; replace s5 := cell_exQ hy s5; replace s6 := cell_exQ hy s6; replace s7 := cell_exQ hy s7; replace R6 := Lib.hid (R6.out.ext hy); replace Vd := Lib.hid (Vd.out.ext hy); clear hy
                  refine hK.out _ _ ?_ (fun hHeld2 => ?_)
                  · exact ⟨s0, s1, s2, s3, s4, s5, s6, s7⟩
                  clear hK K hHeld
                  have hHeld := hHeld2
                  clear hHeld2
                  (try simp only [Act.put, List.getElem_toArray, List.getElem_cons_succ, List.getElem_cons_zero, List.setIfInBounds_toArray, List.set_cons_zero, List.set_cons_succ])
                  refine wpAnyH_take (i := 9) (oi := _) (v := ?_) rfl (by kernel_rfl) (by kernel_rfl) (by kernel_rfl) (fun _ _ _ h => h) (Or.inl ⟨by rfl, ?_⟩) (by assumption) ?_
                  rotate_left
                  · (intro w hSw; (try dsimp only at hSw); (try go_simp); (try with_reducible rfl))
                  (try simp only [Act.put, List.getElem_toArray, List.getElem_cons_succ, List.getElem_cons_zero, List.setIfInBounds_toArray, List.set_cons_zero, List.set_cons_succ])
                  refine wpAnyH_take (i := 10) (oi := _) (v := ?_) rfl (by kernel_rfl) (by kernel_rfl) (by kernel_rfl) (fun _ _ _ h => h) (Or.inl ⟨by rfl, ?_⟩) (by assumption) ?_
                  rotate_left
                  · (intro w hSw; (try dsimp only at hSw); (try go_simp); (try with_reducible rfl))
                  (try simp only [Act.put, List.getElem_toArray, List.getElem_cons_succ, List.getElem_cons_zero, List.setIfInBounds_toArray, List.set_cons_zero, List.set_cons_succ])
                  refine wpAnyH_done (by kernel_rfl) ?_ _
                  go_wp2_with fail; go_meet; exact ⟨rfl, hE⟩
                exact AllReadyH.nil
              case rest =>
              obtain ⟨rfl, hy⟩ := hcut
              have HX9 := Lib.hid (HX8.out.trans hy)
              clear hy h0 h1 h2 h3 R6 Vd Kd
              go_wp2_with fail
              go_roundw
              case rel => exact ⟨p + 1, by omega, by go_num, HX9.out⟩
              case measure => simp [intOf]; omega
        · have p2 : ¬ (p : Int) < (m.length : Int) := by omega
          have HX8 := Lib.hid (HXF.out.trans hxp)
          go_wp2_with fail
          go_ret
          exact ⟨rfl, HX8.out⟩
end Go.Proofs.YtolffmmkjnhkkaaGreat

