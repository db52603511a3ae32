import Derived.Test.YtmkleegfbapakaaDFew
namespace Go.Proofs.Ytmkleegfbapakaa
open Go.RowKit Go D28 BigFrame
set_option maxRecDepth 100000

def fitsB (J S N : Int) (bad : List (List Bool)) (ps : List (List Int)) : Bool := fewB J bad ps && decide (checkE J S N bad ps = 0)

set_option maxHeartbeats 1000000 in
theorem lawFits (J S N : Int) (a : Option Addr) (cap : Nat) (bad : List (List Bool)) (a2 : Option Addr) (cap2 : Nat) (ps : List (List Int)) (w : World) (h : BRows w a cap bad) (h2 : Rows w a2 cap2 ps) :
    Calls Try.prog 23 #[.agg #[.int .i64 J, .int .i64 S, .int .i64 N, .slice a bad.length cap], .slice a2 ps.length cap2] w fun e w' => e = .returned (.bool (fitsB J S N bad ps)) ∧ Ext w w' := by
  have hb0 := h.ext (Ext.alloc w (.cells #[.int .i64 J, .int .i64 S, .int .i64 N, .slice a bad.length cap] 24))
  have hp0 := h2.ext (Ext.alloc w (.cells #[.int .i64 J, .int .i64 S, .int .i64 N, .slice a bad.length cap] 24))
  obtain ⟨fw, hfw⟩ : ∃ fw, fewB J bad ps = fw := ⟨_, rfl⟩
  have HW := Lib.hid hfw
  go_enter Try.func23, Try.ntmps23
  go_wp2_with fail
  refine (refFew _ _ _ _ _ _ _ _ _ _ hb0 hp0).mono ?_
  rw [hfw]
  rintro e w1 ⟨rfl, hx⟩
  clear hfw
  have kb := (Blk.new0 w #[.int .i64 J, .int .i64 S, .int .i64 N, .slice a bad.length cap] 24).ext hx
  have b0 := kb.cell (i := 0) (v := .int .i64 J) rfl
  have b1 := kb.cell (i := 1) (v := .int .i64 S) rfl
  have b2 := kb.cell (i := 2) (v := .int .i64 N) rfl
  have b3 := kb.cell (i := 3) (v := .slice a bad.length cap) rfl
  have hxw := (Ext.alloc w (.cells #[.int .i64 J, .int .i64 S, .int .i64 N, .slice a bad.length cap] 24)).trans hx
  clear kb
  cases fw with
  | false =>
    go_wp2_with fail
    go_ret
    exact ⟨ret_bool (by simp [fitsB, HW.out]), (by repeat (first | with_reducible exact Ext.refl _ | with_reducible assumption | with_reducible refine Ext.drewN ?_ _ | with_reducible refine Ext.drew ?_ | with_reducible refine Ext.alloc' ?_ _ | with_reducible refine Ext.set ?_ (by dsimp only; omega) _))⟩
  | true =>
    go_wp2_with fail
    refine (refCheck _ _ _ _ _ _ _ _ _ _ (hb0.ext hx) (hp0.ext hx)).mono ?_
    obtain ⟨ev, hev⟩ : ∃ ev, checkE J S N bad ps = ev := ⟨_, rfl⟩
    rw [hev]
    rintro e w2 ⟨rfl, hx2⟩
    have HV := Lib.hid hev
    clear hev
    by_cases hz : ev = 0
    · have d : (ev == 0) = true := by simpa using hz
      have HZ := Lib.hid hz
      clear hz
      go_wp2_with fail
      go_ret
      exact ⟨ret_bool (by simp [fitsB, HW.out, HV.out, HZ.out]), hxw.trans hx2⟩
    · have d : (ev == 0) = false := by simpa using hz
      go_wp2_with fail
      go_ret
      exact ⟨ret_bool (by simp [fitsB, HW.out, HV.out, hz]), hxw.trans hx2⟩
end Go.Proofs.Ytmkleegfbapakaa
