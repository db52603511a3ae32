import Derived.Test.YtpaaanbcadlhiaaDoorPFew
namespace Go.Proofs.YtpaaanbcadlhiaaDoor
open Go.RowKit Go BigFrame Go.Shelf
set_option maxRecDepth 100000
set_option linter.unusedSimpArgs false

/-! A store of what lies there already changes nothing. -/
theorem setCell_same {w : World} {b i : Nat} {cs : Array Value} {t : TypeId} {v : Value} (h : Blk w b cs t) (hc : cs[i]? = some v) : ∀ j : Nat, (w.setCell ⟨b, i, none⟩ v).heap[j]? = w.heap[j]? := fun j => by
  by_cases hj : j = b
  · subst hj
    have h1 : Blk (w.setCell ⟨j, i, none⟩ v) j (cs.setIfInBounds i v) t := h.set i v
    have h2 : cs.setIfInBounds i v = cs := by
      apply Array.ext_getElem?
      intro k
      rw [Array.getElem?_setIfInBounds]
      split
      · rename_i e; subst e; split
        · exact hc.symm
        · rename_i hn; exact absurd (Array.getElem?_eq_some_iff.1 hc).1 hn
      · rfl
    rw [h2] at h1
    exact h1.trans h.symm
  · exact Below.heap_setCell _ _ _ _ hj
theorem Ext.setSame {w w' : World} {b i : Nat} {cs : Array Value} {t : TypeId} {v : Value} (hx : Ext w w') (h : Blk w' b cs t) (hc : cs[i]? = some v) : Ext w (w'.setCell ⟨b, i, none⟩ v) := by
  refine ⟨hx.os, hx.tape, hx.output, ?_, fun j hj => ?_⟩
  · simpa [World.setCell] using hx.size
  · rw [setCell_same h hc]; exact hx.block j hj

set_option maxHeartbeats 1000000 in
/-- calculator.of, where nothing is wrong: the integer is handed on. -/
theorem calc_of (cb : Nat) (neg : Bool) (a : Option Addr) (cap : Nat) (l : List Int) (w : World) (hc : Blk w cb #[.bool false] 49) (h : Ints w a cap l) (hk : chkB neg l = true) :
    Calls Tryd.prog 35 #[.pointer (some ⟨cb, 0, none⟩), .agg #[.bool neg, .slice a l.length cap], .int .i64 0] w fun e w' => e = .returned (.agg #[.bool neg, .slice a l.length cap]) ∧ Ext w w' := by
  have B1 := (Blk.new0 w #[.bool neg, .slice a l.length cap] 24).alloc (.cells #[.bool false, .slice none 0 0] 24)
  have B2 := Blk.new1 w (.cells #[.bool neg, .slice a l.length cap] 24) #[.bool false, .slice none 0 0] 24
  have hx : Ext w ((w.alloc (.cells #[.bool neg, .slice a l.length cap] 24)).alloc (.cells #[.bool false, .slice none 0 0] 24)) := (by repeat (first | with_reducible exact Ext.refl _ | with_reducible assumption | with_reducible refine Ext.drewN ?_ _ | with_reducible refine Ext.drew ?_ | with_reducible refine Ext.alloc' ?_ _ | with_reducible refine Ext.set ?_ (by dsimp only; omega) _))
  obtain ⟨w1, hw1⟩ : ∃ w1, (w.alloc (.cells #[.bool neg, .slice a l.length cap] 24)).alloc (.cells #[.bool false, .slice none 0 0] 24) = w1 := ⟨_, rfl⟩
  rw [hw1] at B1 B2 hx
  have HC := ref_Check neg a cap l w1 (h.ext hx)
  rw [hk] at HC
  have HC := Lib.hid (show Calls Tryd.prog 33 _ w1 fun e w' => e = .returned (.int .i64 0) ∧ Ext w1 w' from HC)
  have c0 := B1.cell (i := 0) (v := .bool neg) rfl
  have c1 := B1.cell (i := 1) (v := .slice a l.length cap) rfl
  have cc := (hc.ext hx).cell (i := 0) (v := .bool false) rfl
  have H1 := Lib.hid B1
  have H2 := Lib.hid B2
  have HCB := Lib.hid (hc.ext hx)
  have hlt := hc.lt
  have HW := Lib.hid hw1
  clear B1 B2 hw1 h hc hk
  go_enter Tryd.func35, Tryd.ntmps35
  go_upto_region 1 with fail
  rw [HW.out]
  go_wp2_with fail
  refine HC.out.mono ?_
  rintro e w2 ⟨rfl, hy⟩
  have hx2 := hx.trans hy
  have K := HCB.out.ext hy
  have cc2 := K.cell (i := 0) (v := .bool false) rfl
  have ff := K.free 0
  have hx3 := hx2.setSame K (i := 0) (v := .bool false) rfl
  have N1 := (H1.out.ext hy).other (p := ⟨cb, 0, none⟩) (by dsimp only; omega) (.bool false)
  have N2 := (H2.out.ext hy).other (p := ⟨cb, 0, none⟩) (by dsimp only; omega) (.bool false)
  have HX3 := Lib.hid hx3
  have HN2 := Lib.hid N2
  have d0 := N1.cell (i := 0) (v := .bool neg) rfl
  have d1 := N1.cell (i := 1) (v := .slice a l.length cap) rfl
  have g0 := N2.cell (i := 0) (v := .bool false) rfl
  have g1 := N2.cell (i := 1) (v := .slice none 0 0) rfl
  have u0 := N2.free 0
  have u1 := N2.free 1
  clear c0 c1 cc hx3 N1 N2 K HC hx2
  go_upto_region 2 with fail
  generalize w2.setCell ⟨cb, 0, none⟩ (.bool false) = w3 at *
  go_wp2_with fail
  have k2 := (HN2.out.set 0 (.bool neg)).set 1 (.slice a l.length cap)
  have e0 := k2.cell (i := 0) (v := .bool neg) rfl
  have e1 := k2.cell (i := 1) (v := .slice a l.length cap) rfl
  refine bodyPost_ret (v := .agg #[.bool neg, .slice a l.length cap]) (by simp [results, Tryd.results35, go_sem, e0, e1]) rfl ?_
  exact ⟨rfl, (HX3.out.set (p := ⟨w.heap.size + 1, 0, none⟩) (by dsimp only; omega) _).set (p := ⟨w.heap.size + 1, 1, none⟩) (by dsimp only; omega) _⟩
end Go.Proofs.YtpaaanbcadlhiaaDoor
