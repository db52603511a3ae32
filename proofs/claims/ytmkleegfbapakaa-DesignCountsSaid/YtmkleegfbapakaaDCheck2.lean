import Derived.Test.YtmkleegfbapakaaDCheck
import Derived.Test.YtmkleegfbapakaaDFits
import Derived.Test.YtmkleegfbapakaaDRight2
namespace Go.Proofs.Ytmkleegfbapakaa
open Go.RowKit Go D28 BigFrame
set_option maxRecDepth 100000

set_option maxHeartbeats 800000 in
theorem desCheck (J S N : Int) (a : Option Addr) (cap : Nat) (bad : List (List Bool)) (a2 : Option Addr) (cap2 : Nat) (ps : List (List Int)) (w : World) (h : BRows w a cap bad) (h2 : Rows w a2 cap2 ps) :
    Calls Try.prog 19 #[.agg #[.int .i64 J, .int .i64 S, .int .i64 N, .slice a bad.length cap], .slice a2 ps.length cap2] w fun r w' => r = .returned (.int .i64 (checkE J S N bad ps)) ∧ Ext w w' := by
  have hle := h.le
  have hmx := h.mx
  have hle2 := h2.le
  have hmx2 := h2.mx
  have hb0 := h.ext (Ext.alloc w (.cells #[.int .i64 J, .int .i64 S, .int .i64 N, .slice a bad.length cap] 24))
  go_enter Try.func19, Try.ntmps19
  go_wp2_with fail
  refine (desRight _ _ _ _ _ _ _ hb0).mono ?_
  rintro e w1 ⟨rfl, hx⟩
  have b0 := box_cell hx (i := 0) rfl
  have b1 := box_cell hx (i := 1) rfl
  have b2 := box_cell hx (i := 2) rfl
  have b3 := box_cell hx (i := 3) rfl
  cases hr : rightB J S N bad with
  | false =>
    have HR := Lib.hid hr
    clear hr
    go_wp2_with fail
    go_ret
    exact ⟨ret_int (checkE_290 HR.out).symm, (Ext.alloc _ _).trans hx⟩
  | true =>
    have HR := Lib.hid hr
    clear hr
    by_cases hl : ps.length = bad.length
    · have HL := Lib.hid hl
      have hl' : ((ps.length : Int) != bad.length) = false := by simp [hl]
      have hl1 : ps.length ≤ bad.length := by omega
      clear hl
      go_wp2_with fail
      go_loopw [18] (fun i wr => ∃ k : Nat, k ≤ ps.length ∧ i = .int .i64 k ∧ (List.range k).all (fun i => fitB J S (bad.getD i []) (ps.getD i [])) = true ∧ Ext (w.alloc (.cells #[.int .i64 J, .int .i64 S, .int .i64 N, .slice a bad.length cap] 24)) wr) (fun i _ => ps.length - (intOf i).toNat)
      case atStart => exact ⟨0, Nat.zero_le _, rfl, rfl, hx⟩
      case round =>
        obtain ⟨k, hk, rfl, hf, hxr⟩ := hrel
        have HF := Lib.hid hf
        clear hf b0 b1 b2 b3
        have b0 := later_cell (box_cell hxr (i := 0) rfl)
        have b1 := later_cell (box_cell hxr (i := 1) rfl)
        have b2 := later_cell (box_cell hxr (i := 2) rfl)
        have b3 := later_cell (box_cell hxr (i := 3) rfl)
        by_cases hlt : k < ps.length
        · obtain ⟨b, o, rfl⟩ := h2.head hlt
          obtain ⟨bb, bo, rfl⟩ := h.head (i := k) (by omega)
          have hb1 := hb0.ext hxr
          obtain ⟨r, ra, rc, hr, hcell, hrow⟩ := Rows.get (h2.ext ((Ext.alloc _ _).trans hxr)) hlt
          obtain ⟨v, va, vc, hv, hvcell, hvrow⟩ := BRows.get hb1 (i := k) (by omega)
          have hcl := later_cell hcell
          have hvcl := later_cell hvcell
          have hJ := (right_rows HR.out).1 v (List.mem_of_getElem? hv)
          have e2 : bad.getD k [] = v := by simp [List.getD, hv]
          have hbk : (0 : Int) ≤ (k : Int) := by omega
          have hbk2 : (k : Int) < (bad.length : Int) := by omega
          obtain ⟨fb, hfb⟩ : ∃ fb, fitB J S (bad.getD k []) r = fb := ⟨_, rfl⟩
          have HC := Lib.hid (fun W : Later wr => later_call (W := W) (by have := desFits J S N (.slice (some ⟨bb, bo, none⟩) bad.length cap) v _ _ _ _ r _ (hvrow.ext W.2) (hrow.ext W.2) hJ ⟨_, _, _, rfl⟩; rwa [← e2, hfb, e2] at this))
          have HX := Lib.hid hr
          have HB := Lib.hid hfb
          clear hr hv e2 hfb hJ
          go_wp2_with fail
          refine wp_region_later (by kernel_rfl) (by kernel_rfl) ?_; repeat (go_big_quiet_step ((go_at_call 50; exact HC.out _)))
          refine wpQuiet_nil ?_; rintro _ ⟨⟨W1, HW1⟩, rfl⟩; (try dsimp only)
          have hxw := hxr.trans HW1
          cases fb with
          | false =>
            go_wp2_with fail
            go_ret
            exact ⟨ret_int (checkE_no HR.out hlt (by have := HX.out; rw [show ps.getD k [] = r by simp [List.getD, this]]; exact HB.out)).symm, (Ext.alloc _ _).trans hxw⟩
          | true =>
            go_wp2_with fail
            go_roundw
            case rel => exact ⟨k + 1, by omega, by go_num, fit_take (p := fun i => fitB J S (bad.getD i []) (ps.getD i [])) HF.out (by have := HX.out; show fitB J S (bad.getD k []) (ps.getD k []) = true; rw [show ps.getD k [] = r by simp [List.getD, this]]; exact HB.out) hlt, hxw⟩
            case measure => simp [intOf]; omega
        · go_wp2_with fail
          go_ret
          exact ⟨ret_int (checkE_ok HR.out HL.out (by have := HF.out; rwa [show k = ps.length from by omega] at this)).symm, (Ext.alloc _ _).trans hxr⟩
    · have hl' : ((ps.length : Int) != bad.length) = true := by simp; omega
      go_wp2_with fail
      go_ret
      exact ⟨ret_int (checkE_len HR.out hl).symm, (Ext.alloc _ _).trans hx⟩
end Go.Proofs.Ytmkleegfbapakaa
