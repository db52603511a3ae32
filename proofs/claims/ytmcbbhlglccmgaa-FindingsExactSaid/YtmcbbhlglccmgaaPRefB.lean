import Derived.Test.YtmcbbhlglccmgaaPRefA
namespace Go.Proofs.Ytmcbbhlglccmgaa
open Go.RowKit Go BigFrame Go.Shelf
set_option maxRecDepth 100000
set_option linter.unusedSimpArgs false

theorem ref_two (n1 n2 : Bool) (a b : Option Addr) (ca cb : Nat) (l m : List Int) (w : World) (h : Ints w a ca l) (k : Ints w b cb m) :
    Calls Try.prog 126 #[.agg #[.bool n1, .slice a l.length ca], .agg #[.bool n2, .slice b m.length cb]] w fun e w' => e = .returned (.int .i64 (errN (chkB n1 l && chkB n2 m))) ∧ Ext w w' := by
  have hx : Ext w ((w.alloc (.cells #[.bool n1, .slice a l.length ca] 33)).alloc (.cells #[.bool n2, .slice b m.length cb] 33)) := (by repeat (first | with_reducible exact Ext.refl _ | with_reducible assumption | with_reducible refine Ext.drewN ?_ _ | with_reducible refine Ext.drew ?_ | with_reducible refine Ext.alloc' ?_ _ | with_reducible refine Ext.set ?_ (by dsimp only; omega) _))
  have B1 := (Blk.new0 w #[.bool n1, .slice a l.length ca] 33).alloc (.cells #[.bool n2, .slice b m.length cb] 33)
  have B2 := Blk.new1 w (.cells #[.bool n1, .slice a l.length ca] 33) #[.bool n2, .slice b m.length cb] 33
  obtain ⟨w1, hw1⟩ : ∃ w1, (w.alloc (.cells #[.bool n1, .slice a l.length ca] 33)).alloc (.cells #[.bool n2, .slice b m.length cb] 33) = w1 := ⟨_, rfl⟩
  rw [hw1] at hx B1 B2
  have HC1 := ref_Check n1 a ca l w1 (h.ext hx)
  have HC2 := Lib.hid (fun W (hy : Ext w1 W) => ref_Check n2 b cb m W (k.ext (hx.trans hy)))
  have c0 := B1.cell (i := 0) (v := .bool n1) rfl
  have c1 := B1.cell (i := 1) (v := .slice a l.length ca) rfl
  have HB2 := Lib.hid B2
  have HW := Lib.hid hw1
  generalize chkB n1 l = t1 at *
  generalize chkB n2 m = t2 at *
  clear B1 B2 hw1 h k
  cases t1 with
  | false =>
    have HC := Lib.hid (show Calls Try.prog 111 _ w1 fun e w' => e = .returned (.int .i64 90) ∧ Ext w1 w' from HC1)
    clear HC1 HC2
    go_enter Try.func126, Try.ntmps126
    go_upto_region 1 with fail
    rw [HW.out]
    go_wp2_with fail
    refine HC.out.mono ?_
    rintro e w2 ⟨rfl, hy⟩
    go_wp2_with fail
    go_ret
    exact ⟨rfl, hx.trans hy⟩
  | true =>
    have HC := Lib.hid (show Calls Try.prog 111 _ w1 fun e w' => e = .returned (.int .i64 0) ∧ Ext w1 w' from HC1)
    clear HC1
    go_enter Try.func126, Try.ntmps126
    go_upto_region 1 with fail
    rw [HW.out]
    go_wp2_with fail
    refine HC.out.mono ?_
    rintro e w2 ⟨rfl, hy⟩
    have B2 := HB2.out.ext hy
    have c2 := B2.cell (i := 0) (v := .bool n2) rfl
    have c3 := B2.cell (i := 1) (v := .slice b m.length cb) rfl
    have HD := Lib.hid (HC2.out w2 hy)
    clear HC2 B2
    go_wp2_with fail
    refine HD.out.mono ?_
    rintro e w3 ⟨rfl, hy3⟩
    go_wp2_with fail
    go_ret
    exact ⟨by rw [Bool.true_and]; rfl, hx.trans (hy.trans hy3)⟩
theorem ref_of_ok (neg : Bool) (a : Option Addr) (cap : Nat) (l : List Int) (w : World) (h : Ints w a cap l) (hlen : (trimL l).length ≤ 2048) :
    Calls Try.prog 128 #[.bool neg, .slice a l.length cap] w fun e w' => e = .returned (.tuple #[.agg #[.bool (neg && decide (0 < (trimL l).length)), .slice a (trimL l).length cap], .int .i64 0]) ∧ Ext w w' := by
  have hmx := h.mx
  have hle := h.le
  have htl := trim_len l
  have hx := Ext.alloc w (.cells #[.bool false, .slice none 0 0] 33)
  have B1 := Lib.hid (Blk.new0 w #[.bool false, .slice none 0 0] 33)
  have hT := ref_trim a cap l _ (h.ext hx)
  generalize trimL l = L at *
  have HT := Lib.hid hT
  clear hT h
  have hx2 := fun v u => (hx.set (p := ⟨w.heap.size, 0, none⟩) (Nat.le_refl _) v).set (p := ⟨w.heap.size, 1, none⟩) (Nat.le_refl _) u
  have e1 : decide (2048 < (L.length : Int)) = false := by simp only [decide_eq_false_iff_not]; omega
  have c0 := B1.out.cell (i := 0) (v := .bool false) rfl
  have c1 := B1.out.cell (i := 1) (v := .slice none 0 0) rfl
  have f0 := B1.out.free 0
  have f1 := B1.out.free 1
  have HX := Lib.hid hx2
  clear hx2
  cases neg with
  | true =>
    go_enter Try.func128, Try.ntmps128
    go_upto_region 1 with fail
    generalize w.alloc (.cells #[.bool false, .slice none 0 0] 33) = w1 at *
    go_wp2_with fail
    refine HT.out.mono ?_
    rintro e w2 ⟨rfl, rfl⟩
    go_wp2_with fail
    have k2 := (B1.out.set 0 (.bool (decide (0 < L.length)))).set 1 (.slice a L.length cap)
    have e0 := k2.cell (i := 0) (v := .bool (decide (0 < L.length))) rfl
    have e1 := k2.cell (i := 1) (v := .slice a L.length cap) rfl
    refine bodyPost_ret (v := .tuple #[.agg #[.bool (decide (0 < L.length)), .slice a L.length cap], .int .i64 0]) (by simp [results, Try.results128, go_sem, e0, e1]) rfl ?_
    exact ⟨rfl, HX.out _ _⟩
  | false =>
    go_enter Try.func128, Try.ntmps128
    go_upto_region 1 with fail
    generalize w.alloc (.cells #[.bool false, .slice none 0 0] 33) = w1 at *
    go_wp2_with fail
    refine HT.out.mono ?_
    rintro e w2 ⟨rfl, rfl⟩
    go_wp2_with fail
    have k2 := (B1.out.set 0 (.bool false)).set 1 (.slice a L.length cap)
    have e0 := k2.cell (i := 0) (v := .bool false) rfl
    have e1 := k2.cell (i := 1) (v := .slice a L.length cap) rfl
    refine bodyPost_ret (v := .tuple #[.agg #[.bool false, .slice a L.length cap], .int .i64 0]) (by simp [results, Try.results128, go_sem, e0, e1]) rfl ?_
    exact ⟨rfl, HX.out _ _⟩

end Go.Proofs.Ytmcbbhlglccmgaa

namespace Go.Proofs.Ytmcbbhlglccmgaa
open Go.RowKit Go BigFrame Go.Shelf
set_option maxRecDepth 100000
set_option linter.unusedSimpArgs false

end Go.Proofs.Ytmcbbhlglccmgaa

namespace Go.Proofs.Ytmcbbhlglccmgaa
open Go.RowKit Go BigFrame Go.Shelf
set_option maxRecDepth 100000
set_option linter.unusedSimpArgs false

end Go.Proofs.Ytmcbbhlglccmgaa

namespace Go.Proofs.Ytmcbbhlglccmgaa
open Go.RowKit Go BigFrame Go.Shelf
set_option maxRecDepth 100000
set_option linter.unusedSimpArgs false

theorem Big.neg {n : Bool} {l : List Int} {z : Int} (h : Big n l z) : Big (!n && decide (0 < l.length)) l (-z) := by
  obtain ⟨h1, h2, h3⟩ := h
  cases n with
  | true => exact ⟨h1, fun e => by simp at e, by simp at h3 ⊢; omega⟩
  | false =>
    refine ⟨h1, fun e he => by rw [he] at e; simp at e, ?_⟩
    simp at h3
    by_cases hl : 0 < l.length
    · simp [hl, h3]
    · have : l = [] := List.length_eq_zero_iff.1 (by omega)
      subst this; simp [h3, dval]
end Go.Proofs.Ytmcbbhlglccmgaa

