import Derived.Test.YtolffmmkjnhkkaaGreatMC
import Derived.Test.YtolffmmkjnhkkaaGreatMD
import Derived.OwnWalk
import Derived.Deep.QuietTactic
import Derived.Test.YtolffmmkjnhkkaaGreatMA
import Derived.Test.YtolffmmkjnhkkaaGreatMJ
namespace Go.Proofs.YtolffmmkjnhkkaaGreat
open Go.RowKit Go BigFrame Go.Shelf
set_option maxRecDepth 100000
set_option linter.unusedSimpArgs false
set_option linter.unusedVariables false
attribute [local go_sem] Oper.semAt_some

/-! Layer 40: the reference's Marks and Means. -/
set_option maxHeartbeats 4000000 in
theorem ref40_Means (a : Option Addr) (cap : Nat) (m : List (List Int)) (s : Option Addr) (sc : Nat) (L : List RatA) (S : List Rat) (w : World) (h : Rows w a cap m) (k : RatsI w s sc L)
    (hS : errM m L.length (L.any fun x => !x.ok) = 0 → ValL L S 7 ∧ L.length ≤ 20) :
    Calls Tryz.prog 12 #[.slice a m.length cap, .slice s L.length sc] w (RowsP (errM m L.length (L.any fun x => !x.ok)) (m.map fun r => meanO r S) w) := by
  have hle := h.le
  have hmx := h.mx
  have sle := k.le
  have smx := k.mx
  have HERR := ref40_Error a cap m s sc L w h k
  obtain ⟨E, hE⟩ : ∃ E, errM m L.length (L.any fun x => !x.ok) = E := ⟨_, rfl⟩
  have HCALL : Hid (E = 0 → m.length ≤ 4096 ∧ ∀ W, Ext w W → ∀ r ∈ m, ∀ a c, Ints W a c r → Calls Tryz.prog 34 #[.slice a r.length c, .slice s L.length sc] W (MeanQ r S W)) := Lib.hid (fun h0 => by
    rw [← hE] at h0
    obtain ⟨g1, g2⟩ := hS h0
    obtain ⟨g3, g4, g5, g6⟩ := errM_ok h0
    refine ⟨g3, fun W hW r hr a c hI => ?_⟩
    obtain ⟨g7, g8⟩ := g6 r hr
    have g9 := g1.1
    exact ref40_mean a c r s sc L S W hI (k.ext hW) g1 (by omega) g8 (by omega))
  rw [hE] at HERR ⊢
  have HERR := Lib.hid HERR
  have HH := Lib.hid h
  clear h k hS hE
  go_enter Tryz.func12, Tryz.ntmps12
  go_wp2_with fail
  refine HERR.out.mono ?_
  rintro e x2 ⟨rfl, hx⟩
  by_cases hE0 : E = 0
  · subst hE0
    obtain ⟨hm4, hcall⟩ := HCALL.out rfl
    have HC := Lib.hid hcall
    clear HCALL hcall HERR
    go_upto_region 5 with fail
    have hya := Ext.alloc x2 (.cells #[] 38)
    have HO0 := Lib.hid (OwnOs.new x2)
    have HSX := Lib.hid hx.size
    replace hx := hx.trans hya
    have HX := Lib.hid hx
    clear hya
    generalize x2.alloc (.cells #[] 38) = x3 at *
    clear hx
    go_wp2_with fail
    go_loopw [7, 8] (fun v i wr => ∃ q : Nat, q ≤ m.length ∧ i = .int .i64 q ∧ ∃ (xs : List RatC), (OwnOs wr w.heap.size v xs ((m.take q).map (fun r => meanO r S))) ∧ Ext w wr) (fun _ i _ => m.length - (intOf i).toNat)
    case atStart => exact ⟨0, Nat.zero_le _, rfl, [], HO0.out.low HSX.out, HX.out⟩
    case round =>
      obtain ⟨q, hq, rfl, xs, hO, hxr⟩ := hrel
      have q1 : (0 : Int) ≤ (q : Int) := by omega
      have HXL := Lib.hid (show xs.length = q from by have := hO.len; rw [List.length_map, List.length_take] at this; omega)
      obtain ⟨va, vc, rfl, hvl, hvc⟩ := hO.form
      have HO := Lib.hid hO
      have HXR := Lib.hid hxr
      clear hO HO0 HX
      by_cases hqn : q < m.length
      · have q2 : (q : Int) < (m.length : Int) := by omega
        have hw1 : IntKind.i64.wrap ((q : Int) + 1) = (q : Int) + 1 := IntWalk.i64_in _ (by omega)
        obtain ⟨b, o, rfl⟩ := HH.out.head hqn
        obtain ⟨r, a3, c3, hr, hc, hI⟩ := Rows.get (HH.out.ext hxr) hqn
        have HR := Lib.hid hr
        have HI := Lib.hid (HC.out _ hxr r (List.mem_of_getElem? hr) a3 c3 hI)
        have hlt := Lib.hid (fun g e => (HO.out.lt g e).2)
        clear hr hI
        go_wp2_with fail
        refine HI.out.mono ?_
        rintro e x4 ⟨⟨n1, a1, q1', c1, m1, b1, k1, d1⟩, rfl, hrd, hfr, hy⟩
        have hoff : RatC.Off ⟨n1, a1, q1', c1, m1, b1, k1, d1⟩ (Value.slice va xs.length vc).ownBlock := hfr.off hlt.out
        have HOFF := Lib.hid hoff
        have hyb := Ext.alloc x4 (.cells #[.bool n1, .slice a1 q1' c1, .bool m1, .slice b1 k1 d1] 38)
        have Kt := Lib.hid (Blk.new0 x4 #[.bool n1, .slice a1 q1' c1, .bool m1, .slice b1 k1 d1] 38)
        replace hxr := (hxr.trans hy).trans hyb
        have HOa := Lib.hid ((HO.out.ext hy).ext hyb)
        have HRD := Lib.hid (RO.ext hrd hyb)
        clear hoff hy hrd hfr hc HI
        go_upto_region 9 with fail
        generalize x4.alloc (.cells #[.bool n1, .slice a1 q1' c1, .bool m1, .slice b1 k1 d1] 38) = x5 at *
        generalize x4.heap.size = pt at *
        obtain ⟨s0, s1, s2, s3⟩ := bk4 Kt
        go_upto_region 11 with fail
        have hyc := Ext.alloc x5 (.cells #[.bool n1, .slice a1 q1' c1, .bool m1, .slice b1 k1 d1] 38)
        have HBz := Lib.hid (Blk.new0 x5 #[.bool n1, .slice a1 q1' c1, .bool m1, .slice b1 k1 d1] 38)
        have HXa := Lib.hid (hxr.trans hyc)
        replace HOa := Lib.hid (HOa.out.ext hyc)
        replace HRD := Lib.hid (RO.ext HRD.out hyc)
        clear hyc hxr
        go_wp2_with (at_builtin; refine wpl_append_o rfl (.tmp 36) (.tmp 38) rfl HXa.out rfl HOa.out rfl (x := ⟨n1, a1, q1', c1, m1, b1, k1, d1⟩) HBz.out HRD.out HOFF.out (by have := HXL.out; omega) ?_; intro v' w5 hO5 hx5 hg5 hat5)
        obtain ⟨ua, uc, rfl, hul, huc⟩ := hO5.form
        go_roundw
        case rel => exact ⟨q + 1, by omega, by go_num, _, (by rw [take_get HR.out, List.map_append]; exact hO5), hx5⟩
        case measure => simp [intOf]; omega
      · have q2 : ¬ (q : Int) < (m.length : Int) := by omega
        have hqe : q = m.length := by omega
        subst hqe
        have HO2 := Lib.hid (by have := HO.out; rwa [List.take_length] at this)
        clear HO
        go_wp2_with fail
        go_ret2
        exact .inl ⟨rfl, _, xs, rfl, HO2.out, HXR.out⟩
  · have HX := Lib.hid hx
    clear HCALL HERR
    go_wp2_with fail
    go_ret2
    exact .inr ⟨hE0, rfl, HX.out⟩
end Go.Proofs.YtolffmmkjnhkkaaGreat

namespace Go.Proofs.YtolffmmkjnhkkaaGreat
open Go.RowKit Go BigFrame Go.Shelf
set_option maxRecDepth 100000
set_option linter.unusedSimpArgs false
set_option linter.unusedVariables false

/-! Layer 40: the reference's Few. -/
def lenOk (n : Nat) : Bool := decide (n ≤ 10) || (decide (256 < n) && decide (n ≤ 300))
def few40 (m : List (List Int)) (L : List RatA) : Bool := decide (m.length ≤ 10) && lenOk L.length && m.all (fun r => lenOk r.length) && few4 L
theorem all_takeM {α : Type} {B : α → Bool} {m : List α} {k : Nat} {x : α} (hx : m[k]? = some x) (h : (m.take k).all B = true) (hb : B x = true) : (m.take (k + 1)).all B = true := by
  rw [take_get hx, List.all_append, h]; simp [hb]
theorem all_noM {α : Type} {B : α → Bool} {m : List α} {k : Nat} {x : α} (hx : m[k]? = some x) (hb : B x = false) : m.all B = false := by
  cases h : m.all B with
  | false => rfl
  | true => have := List.all_eq_true.1 h x (List.mem_of_getElem? hx); rw [hb] at this; cases this
set_option maxHeartbeats 16000000 in
theorem ref40_Few (a : Option Addr) (cap : Nat) (m : List (List Int)) (s : Option Addr) (sc : Nat) (L : List RatA) (w : World) (h : Rows w a cap m) (k : RatsI w s sc L) :
    Calls Tryz.prog 8 #[.slice a m.length cap, .slice s L.length sc] w fun e w' => e = .returned (.bool (few40 m L)) ∧ Ext w w' := by
  have hle := h.le
  have hmx := h.mx
  have sle := k.le
  have smx := k.mx
  obtain ⟨E, hE⟩ : ∃ E, few40 m L = E := ⟨_, rfl⟩
  rw [hE]
  have HE := Lib.hid hE
  have HH := Lib.hid h
  have HK := Lib.hid k
  clear h k hE
  have hx := Ext.refl w
  by_cases h1 : 10 < m.length
  · have t1 : (10 : Int) < (m.length : Int) := by omega
    have HV : Hid (false = E) := Lib.hid (by rw [← HE.out]; unfold few40; rw [decide_eq_false (by omega)]; rfl)
    go_enter Tryz.func8, Tryz.ntmps8
    go_wp2_with fail
    go_ret
    exact ⟨by rw [HV.out]; rfl, hx⟩
  have t1 : ¬ (10 : Int) < (m.length : Int) := by omega
  by_cases h2 : 10 < L.length ∧ L.length ≤ 256
  · have t2 : (10 : Int) < (L.length : Int) := by omega
    have t3 : (L.length : Int) ≤ 256 := by omega
    have HV : Hid (false = E) := Lib.hid (by rw [← HE.out]; unfold few40 lenOk; rw [decide_eq_false (show ¬ L.length ≤ 10 by omega), decide_eq_false (show ¬ 256 < L.length by omega)]; simp)
    go_enter Tryz.func8, Tryz.ntmps8
    go_wp2_with fail
    go_ret
    exact ⟨by rw [HV.out]; rfl, hx⟩
  by_cases h3 : 300 < L.length
  · have t2 : (10 : Int) < (L.length : Int) := by omega
    have t3 : ¬ (L.length : Int) ≤ 256 := by omega
    have t4 : (300 : Int) < (L.length : Int) := by omega
    have HV : Hid (false = E) := Lib.hid (by rw [← HE.out]; unfold few40 lenOk; rw [decide_eq_false (show ¬ L.length ≤ 10 by omega), decide_eq_false (show ¬ L.length ≤ 300 by omega)]; simp)
    go_enter Tryz.func8, Tryz.ntmps8
    go_wp2_with fail
    go_ret
    exact ⟨by rw [HV.out]; rfl, hx⟩
  have H0 : Hid (decide (m.length ≤ 10) = true ∧ lenOk L.length = true) := Lib.hid ⟨decide_eq_true (by omega), by unfold lenOk; rw [Bool.or_eq_true, Bool.and_eq_true, decide_eq_true_eq, decide_eq_true_eq, decide_eq_true_eq]; omega⟩
  have t4 : ¬ (300 : Int) < (L.length : Int) := by omega
  go_enter Tryz.func8, Tryz.ntmps8
  go_upto_region 1 with fail
  go_cut [24] (fun s wx => s = .bool false ∧ Ext w wx)
  case first =>
    by_cases h4 : 10 < L.length
    · have t2 : (10 : Int) < (L.length : Int) := by omega
      have t3 : ¬ (L.length : Int) ≤ 256 := by omega
      go_wp2_with fail
      go_meet
      exact ⟨rfl, Ext.refl _⟩
    · have t2 : ¬ (10 : Int) < (L.length : Int) := by omega
      go_wp2_with fail
      go_meet
      exact ⟨rfl, Ext.refl _⟩
  case rest =>
  obtain ⟨rfl, hy⟩ := hcut
  replace hx := hx.trans hy
  clear hy t1 t4 h1 h2 h3
  go_wp2_with fail
  go_loopw [5] (fun i wr => ∃ k : Nat, k ≤ m.length ∧ i = .int .i64 k ∧ (m.take k).all (fun r => lenOk r.length) = true ∧ Ext w wr) (fun i _ => m.length - (intOf i).toNat)
  case atStart => exact ⟨0, Nat.zero_le _, rfl, rfl, hx⟩
  case round =>
    obtain ⟨k, hk, rfl, hno, hxr⟩ := hrel
    generalize wr = wA at *
    have HNO := Lib.hid hno
    have HXA := Lib.hid hxr
    have g1 : (0 : Int) ≤ (k : Int) := by omega
    clear hno hx
    by_cases hkn : k < m.length
    · obtain ⟨b, o, rfl⟩ := HH.out.head hkn
      obtain ⟨x, a2, c2, hx, hc, hI⟩ := Rows.get (HH.out.ext hxr) hkn
      have xle := hI.le
      have xmx := hI.mx
      have g2 : (k : Int) < (m.length : Int) := by omega
      have hw1 : IntKind.i64.wrap ((k : Int) + 1) = (k : Int) + 1 := IntWalk.i64_in _ (by omega)
      have HX := Lib.hid hx
      clear hx hI hxr
      have no : lenOk x.length = false → false = E := fun hb => by
        rw [← HE.out]; unfold few40; rw [all_noM HX.out hb]; simp
      have NO := Lib.hid no
      clear no
      by_cases hl : 10 < x.length
      · have t2 : (10 : Int) < (x.length : Int) := by omega
        by_cases hl2 : x.length ≤ 256
        · have t3 : (x.length : Int) ≤ 256 := by omega
          have HV := Lib.hid (NO.out (by unfold lenOk; rw [decide_eq_false (by omega), decide_eq_false (by omega)]; rfl))
          go_wp2_with fail
          go_ret
          exact ⟨by rw [HV.out]; rfl, HXA.out⟩
        · have t3 : ¬ (x.length : Int) ≤ 256 := by omega
          by_cases hl3 : 300 < x.length
          · have t4 : (300 : Int) < (x.length : Int) := by omega
            have HV := Lib.hid (NO.out (by unfold lenOk; rw [decide_eq_false (by omega), decide_eq_false (show ¬ x.length ≤ 300 by omega)]; simp))
            go_wp2_with fail
            go_ret
            exact ⟨by rw [HV.out]; rfl, HXA.out⟩
          · have t4 : ¬ (300 : Int) < (x.length : Int) := by omega
            have HB : Hid (lenOk x.length = true) := Lib.hid (by unfold lenOk; rw [decide_eq_true (show 256 < x.length by omega), decide_eq_true (show x.length ≤ 300 by omega)]; simp)
            go_wp2_with fail
            go_roundw
            case rel => exact ⟨k + 1, by omega, by go_num, all_takeM HX.out HNO.out HB.out, HXA.out⟩
            case measure => simp [intOf]; omega
      · have t2 : ¬ (10 : Int) < (x.length : Int) := by omega
        have t4 : ¬ (300 : Int) < (x.length : Int) := by omega
        have HB : Hid (lenOk x.length = true) := Lib.hid (by unfold lenOk; rw [decide_eq_true (by omega)]; rfl)
        go_wp2_with fail
        go_roundw
        case rel => exact ⟨k + 1, by omega, by go_num, all_takeM HX.out HNO.out HB.out, HXA.out⟩
        case measure => simp [intOf]; omega
    · have HNL : Hid (m.all (fun r => lenOk r.length) = true) := Lib.hid (by have := HNO.out; rwa [List.take_of_length_le (by omega)] at this)
      have g3 : ¬ (k : Int) < (m.length : Int) := by omega
      clear HNO hxr
      go_wp2_with fail
      clear g3 g1 hkn hk
      go_loopw [6] (fun i wr => ∃ k : Nat, k ≤ L.length ∧ i = .int .i64 k ∧ few4 (L.take k) = true ∧ Ext w wr) (fun i _ => L.length - (intOf i).toNat)
      case atStart => exact ⟨0, Nat.zero_le _, rfl, rfl, HXA.out⟩
      case round =>
        obtain ⟨q, hq, rfl, hno, hxr⟩ := hrel
        generalize wr = wD at *
        have HNQ := Lib.hid hno
        have HXD := Lib.hid hxr
        have q1 : (0 : Int) ≤ (q : Int) := by omega
        clear hno
        by_cases hqn : q < L.length
        · obtain ⟨bs, os, rfl⟩ := HK.out.head hqn
          obtain ⟨n, xa, xc, xl, n2, xb, xd, xm, hX, c0, c1, c2, c3, hi, hj⟩ := (HK.out.ext hxr).get hqn
          have HC := few_val n n2 xa xb xl.length xc xm.length xd 4 wD (Nat.le_trans hi.le hi.mx) (Nat.le_trans hj.le hj.mx)
          have HX := Lib.hid hX
          have q2 : (q : Int) < (L.length : Int) := by omega
          have hw2 : IntKind.i64.wrap ((q : Int) + 1) = (q : Int) + 1 := IntWalk.i64_in _ (by omega)
          clear hi hj hX hxr
          cases hok : (fewQ xl.length 4 && fewQ xm.length 4)
          · rw [hok] at HC
            have HV : Hid (false = E) := Lib.hid (by
              rw [← HE.out]; unfold few40 few4; rw [all_noM (B := fun x : RatA => fewQ x.l.length 4 && fewQ x.m.length 4) HX.out hok]; simp)
            have HC := Lib.hid HC
            clear hok
            go_wp2_with fail
            refine HC.out.mono ?_
            rintro e x6 ⟨rfl, hy⟩
            have HX6 := Lib.hid (HXD.out.trans hy)
            go_wp2_with fail
            go_ret
            exact ⟨by rw [HV.out]; rfl, HX6.out⟩
          · rw [hok] at HC
            have HB : Hid ((fun x : RatA => fewQ x.l.length 4 && fewQ x.m.length 4) ⟨n, xa, xc, xl, n2, xb, xd, xm⟩ = true) := Lib.hid hok
            have HC := Lib.hid HC
            clear hok
            go_wp2_with fail
            refine HC.out.mono ?_
            rintro e x6 ⟨rfl, hy⟩
            have HX6 := Lib.hid (HXD.out.trans hy)
            go_wp2_with fail
            go_roundw
            case rel => exact ⟨q + 1, by omega, by go_num, all_takeM HX.out HNQ.out HB.out, HX6.out⟩
            case measure => simp [intOf]; omega
        · have HNA : Hid (few4 L = true) := Lib.hid (by have := HNQ.out; rwa [List.take_of_length_le (by omega)] at this)
          have HV : Hid (true = E) := Lib.hid (by
            rw [← HE.out]; unfold few40
            rw [H0.out.1, H0.out.2, HNL.out, HNA.out]; rfl)
          have q2 : ¬ (q : Int) < (L.length : Int) := by omega
          clear hxr
          go_wp2_with fail
          go_ret
          exact ⟨by rw [HV.out]; rfl, HXD.out⟩
end Go.Proofs.YtolffmmkjnhkkaaGreat

namespace Go.Proofs.YtolffmmkjnhkkaaGreat
open Go.RowKit Go BigFrame Go.Shelf
set_option maxRecDepth 100000
set_option linter.unusedSimpArgs false
set_option linter.unusedVariables false

/-! Layer 40: CorrectedSpec. -/
theorem RowsRP.read {E : Int} {Rs : List (List (Option Rat))} {w : World} {e : Ending} {w' : World} (h : RowsRP E Rs w e w') :
    ∃ (va : Option Addr) (vc : Nat) (xs : List RowD), e = .returned (.tuple #[.slice va xs.length vc, .int .i64 E]) ∧ SlOf (fun w v (x : RowD) => x.Rd w v) w' va vc xs ∧ xs.map (·.R) = (if E = 0 then Rs else []) ∧ Ext w w' := by
  rcases h with ⟨rfl, v, xs, rfl, h1, h2, h3⟩ | ⟨h0, rfl, h1⟩
  · obtain ⟨a, c, rfl, hs⟩ := h1.sl
    exact ⟨a, c, xs, rfl, hs, by rw [if_pos rfl]; exact h2, h3⟩
  · exact ⟨none, 0, [], rfl, ⟨Nat.le_refl _, by simp, fun _ => rfl, fun A hA => by cases hA⟩, by rw [if_neg h0]; rfl, h1⟩
theorem RowsP.read {E : Int} {Rs : List (Option Rat)} {w : World} {e : Ending} {w' : World} (h : RowsP E Rs w e w') :
    ∃ (va : Option Addr) (vc : Nat) (V : List RatC), e = .returned (.tuple #[.slice va V.length vc, .int .i64 E]) ∧ RowD.Rd w' (.slice va V.length vc) ⟨va, vc, V, if E = 0 then Rs else []⟩ ∧ Ext w w' := by
  rcases h with ⟨rfl, v, xs, rfl, h1, h3⟩ | ⟨h0, rfl, h1⟩
  · obtain ⟨a, c, hr, rfl⟩ := h1.row
    exact ⟨a, c, xs, rfl, by rw [if_pos rfl]; exact hr, h3⟩
  · exact ⟨none, 0, [], rfl, by rw [if_neg h0]; exact ⟨rfl, Nat.le_refl _, by simp, fun _ => rfl, rfl, (fun A hA => by cases hA), fun i hi => absurd hi (by simp)⟩, h1⟩
theorem ValL.mono {L : List RatA} {S : List Rat} {j k : Nat} (h : ValL L S j) (hk : j ≤ k) : ValL L S k := ⟨h.1, fun i x r h1 h2 => ⟨(h.2 i x r h1 h2).1.mono hk, (h.2 i x r h1 h2).2⟩⟩
theorem few40_val {m : List (List Int)} {L : List RatA} (hf : few40 m L = true) : ∃ S, errM m L.length (L.any fun x => !x.ok) = 0 → ValL L S 4 ∧ L.length ≤ 10 := by
  by_cases h : errM m L.length (L.any fun x => !x.ok) = 0
  · obtain ⟨h1, h2, h3, h4⟩ := errM_ok h
    unfold few40 at hf
    simp only [Bool.and_eq_true] at hf
    obtain ⟨S, hS⟩ := valL_of h3 hf.2
    refine ⟨S, fun _ => ⟨hS, ?_⟩⟩
    have := hf.1.1.2
    unfold lenOk at this
    simp only [Bool.or_eq_true, Bool.and_eq_true, decide_eq_true_eq] at this
    omega
  · exact ⟨[], fun h' => absurd h' h⟩
end Go.Proofs.YtolffmmkjnhkkaaGreat

namespace Go.Proofs.YtolffmmkjnhkkaaGreat
open Go.RowKit Go BigFrame Go.Shelf
set_option maxRecDepth 100000
set_option linter.unusedSimpArgs false
set_option linter.unusedVariables false

/-! Layer 40: right, known. -/
set_option maxHeartbeats 4000000 in
theorem law40_right (a : Option Addr) (cap : Nat) (m : List (List Int)) (s : Option Addr) (sc : Nat) (L : List RatA) (w : World) (h : Rows w a cap m) (k : RatsI w s sc L) :
    Calls Tryz.prog 15 #[.slice a m.length cap, .slice s L.length sc] w fun e w' => e = .returned (.bool (few40 m L && decide (errM m L.length (L.any fun x => !x.ok) = 0))) ∧ Ext w w' := by
  have HF := Lib.hid (ref40_Few a cap m s sc L w h k)
  have HR := Lib.hid (fun W (hW : Ext w W) => ref40_Error a cap m s sc L W (h.ext hW) (k.ext hW))
  cases hf : few40 m L
  · rw [hf] at HF
    clear hf
    go_enter Tryz.func15, Tryz.ntmps15
    go_wp2_with fail
    refine HF.out.mono ?_
    rintro e x1 ⟨rfl, hx⟩
    have HX := Lib.hid hx
    go_wp2_with fail
    go_ret
    exact ⟨rfl, HX.out⟩
  · rw [hf] at HF
    obtain ⟨S, hS⟩ := few40_val hf
    clear hf
    have HD := Lib.hid (fun W (hW : Ext w W) => ref40_Means a cap m s sc L S W (h.ext hW) (k.ext hW) (fun h0 => ⟨(hS h0).1.mono (by omega), by have := (hS h0).2; omega⟩))
    clear hS h k
    generalize errM m L.length (L.any fun x => !x.ok) = E at *
    by_cases hE : E = 0
    · subst hE
      go_enter Tryz.func15, Tryz.ntmps15
      go_wp2_with fail
      refine HF.out.mono ?_
      rintro e x1 ⟨rfl, hx⟩
      have HX := Lib.hid hx
      have HR1 := Lib.hid (HR.out x1 hx)
      clear hx
      go_wp2_with fail
      refine HR1.out.mono ?_
      rintro e x2 ⟨rfl, hy⟩
      have HX2 := Lib.hid (HX.out.trans hy)
      have HD1 := Lib.hid (HD.out x2 HX2.out)
      clear hy
      go_wp2_with fail
      refine HD1.out.mono ?_
      intro e x3 h3
      obtain ⟨a3, c3, V3, rfl, -, hy⟩ := h3.read
      have HX3 := Lib.hid (HX2.out.trans hy)
      clear hy h3
      go_wp2_with fail
      go_ret
      exact ⟨rfl, HX3.out⟩
    · have hne : (E != 0) = true := by simpa using hE
      have HV : Hid ((true && decide (E = 0)) = false) := Lib.hid (by simp [hE])
      go_enter Tryz.func15, Tryz.ntmps15
      go_wp2_with fail
      refine HF.out.mono ?_
      rintro e x1 ⟨rfl, hx⟩
      have HX := Lib.hid hx
      have HR1 := Lib.hid (HR.out x1 hx)
      clear hx
      go_wp2_with fail
      refine HR1.out.mono ?_
      rintro e x2 ⟨rfl, hy⟩
      have HX2 := Lib.hid (HX.out.trans hy)
      clear hy
      go_wp2_with fail
      go_ret
      exact ⟨by rw [HV.out]; rfl, HX2.out⟩
/-- Some mark is known. -/
def knownB (l : List Int) : Bool := l.any fun x => decide (x ≠ -1)
theorem law40_known (a : Option Addr) (cap : Nat) (l : List Int) (w : World) (h : Ints w a cap l) :
    Calls Tryz.prog 18 #[.slice a l.length cap] w fun e w' => e = .returned (.bool (knownB l)) ∧ Ext w w' := by
  have hle := h.le
  have hmx := h.mx
  have HH := Lib.hid h
  obtain ⟨E, hE⟩ : ∃ E, knownB l = E := ⟨_, rfl⟩
  rw [hE]
  have HE := Lib.hid hE
  clear h hE
  have hx := Ext.refl w
  go_enter Tryz.func18, Tryz.ntmps18
  go_wp2_with fail
  go_loopw [7] (fun i wr => ∃ q : Nat, q ≤ l.length ∧ i = .int .i64 q ∧ knownB (l.take q) = false ∧ Ext w wr) (fun i _ => l.length - (intOf i).toNat)
  case atStart => exact ⟨0, Nat.zero_le _, rfl, rfl, hx⟩
  case round =>
    obtain ⟨q, hq, rfl, hno, hxr⟩ := hrel
    have q1 : (0 : Int) ≤ (q : Int) := by omega
    have HNO := Lib.hid hno
    have HXR := Lib.hid hxr
    clear hno hx
    by_cases hqn : q < l.length
    · have q2 : (q : Int) < (l.length : Int) := by omega
      have hw1 : IntKind.i64.wrap ((q : Int) + 1) = (q : Int) + 1 := IntWalk.i64_in _ (by omega)
      obtain ⟨b, o, rfl⟩ := HH.out.head hqn
      obtain ⟨z, hz, hc, hz1, hz2⟩ := Ints.get (HH.out.ext hxr) hqn
      have HZ := Lib.hid hz
      clear hz hxr
      by_cases hzm : z = -1
      · subst hzm
        go_wp2_with fail
        go_roundw
        case rel => exact ⟨q + 1, by omega, by go_num, any_takeM HZ.out HNO.out (by decide), HXR.out⟩
        case measure => simp [intOf]; omega
      · have HV : Hid (true = E) := Lib.hid (by rw [← HE.out]; exact (any_memM (B := fun x : Int => decide (x ≠ -1)) HZ.out (by simp [hzm])).symm)
        go_wp2_with fail
        go_ret
        exact ⟨by rw [HV.out]; rfl, HXR.out⟩
    · have q2 : ¬ (q : Int) < (l.length : Int) := by omega
      have HV : Hid (false = E) := Lib.hid (by have := HNO.out; rw [List.take_of_length_le (by omega)] at this; rw [← HE.out]; exact this.symm)
      go_wp2_with fail
      go_ret
      exact ⟨by rw [HV.out]; rfl, HXR.out⟩
end Go.Proofs.YtolffmmkjnhkkaaGreat

