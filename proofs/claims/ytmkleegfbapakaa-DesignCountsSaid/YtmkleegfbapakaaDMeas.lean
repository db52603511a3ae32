import Derived.Test.YtmkleegfbapakaaDCheck
import Derived.Test.YtmkleegfbapakaaDSlot
import Derived.Test.YtmkleegfbapakaaBlk
import Derived.Deep.Cut
namespace Go.Proofs.Ytmkleegfbapakaa
open Go.RowKit Go D28 BigFrame
set_option maxRecDepth 100000

theorem lo_snoc (x y : Int) (l : List Int) : dLo x (l ++ [y]) = if y < dLo x l then y else dLo x l := by
  rw [dLo, List.foldl_append]; simp only [List.foldl_cons, List.foldl_nil]; show min (dLo x l) _ = _; omega
theorem hi_snoc (x y : Int) (l : List Int) : dHi x (l ++ [y]) = if dHi x l < y then y else dHi x l := by
  rw [dHi, List.foldl_append]; simp only [List.foldl_cons, List.foldl_nil]; show max (dHi x l) _ = _; omega
theorem map_range_succ {α : Type} (f : Nat → α) (k : Nat) : (List.range (k + 1)).map f = (List.range k).map f ++ [f k] := by simp [List.range_succ]

theorem checkE_zero {J S N : Int} {bad : List (List Bool)} {ps : List (List Int)} (h : checkE J S N bad ps = 0) :
    rightB J S N bad = true ∧ ps.length = bad.length ∧ (List.range ps.length).all (fun i => fitB J S (bad.getD i []) (ps.getD i [])) = true := by
  unfold checkE at h
  split at h
  · cases h
  · split at h
    · cases h
    · split at h
      · rename_i h1 h2 h3
        exact ⟨by simpa using h1, by omega, h3⟩
      · cases h

/-- The common judges of the pairs ahead of the pair (i, k). -/
def commonsTo (ps : List (List Int)) (i k : Nat) : List Int :=
  ((List.range i).flatMap fun i => (List.range i).map fun k => (dCommon (ps.getD i []) (ps.getD k []) : Int)) ++ (List.range k).map fun k => (dCommon (ps.getD i []) (ps.getD k []) : Int)
theorem commonsTo_succ (ps : List (List Int)) (i k : Nat) : commonsTo ps i (k + 1) = commonsTo ps i k ++ [(dCommon (ps.getD i []) (ps.getD k []) : Int)] := by
  unfold commonsTo; rw [map_range_succ, List.append_assoc]
theorem commonsTo_next (ps : List (List Int)) (i : Nat) : commonsTo ps i i = commonsTo ps (i + 1) 0 := by
  unfold commonsTo; simp [List.range_succ]
theorem commonsTo_all (ps : List (List Int)) : commonsTo ps ps.length 0 = dCommons ps := by
  unfold commonsTo dCommons; simp

set_option maxHeartbeats 1000000 in
theorem refMeasure_err (J S N m e : Int) (a : Option Addr) (cap : Nat) (bad : List (List Bool)) (a2 : Option Addr) (cap2 : Nat) (ps : List (List Int)) (w : World) (h : BRows w a cap bad) (h2 : Rows w a2 cap2 ps)
    (he : checkE J S N bad ps = e) (hne : e ≠ 0) :
    Calls Try.prog 18 #[.agg #[.int .i64 J, .int .i64 S, .int .i64 N, .slice a bad.length cap], .slice a2 ps.length cap2, .int .i64 m] w fun r w' => r = .returned (.tuple #[.agg #[.int .i64 0, .int .i64 0, .int .i64 0, .int .i64 0], .int .i64 e]) ∧ Ext w w' := by
  have hle := h.le
  have hmx := h.mx
  have hb0 := h.ext (Ext.alloc w (.cells #[.int .i64 J, .int .i64 S, .int .i64 N, .slice a bad.length cap] 24))
  have hp0 := h2.ext (Ext.alloc w (.cells #[.int .i64 J, .int .i64 S, .int .i64 N, .slice a bad.length cap] 24))
  have HE := Lib.hid he
  clear he
  go_enter Try.func18, Try.ntmps18
  go_wp2_with fail
  refine (refCheck _ _ _ _ _ _ _ _ _ _ (hb0.ext (Ext.alloc _ _)) (hp0.ext (Ext.alloc _ _))).mono ?_
  rw [HE.out]
  rintro e' w1 ⟨rfl, hx⟩
  have kr := (Blk.new1 w (.cells #[.int .i64 J, .int .i64 S, .int .i64 N, .slice a bad.length cap] 24) _ _).ext hx
  have k0 := kr.cell (i := 0) (v := .int .i64 0) rfl
  have k1 := kr.cell (i := 1) (v := .int .i64 0) rfl
  have k2 := kr.cell (i := 2) (v := .int .i64 0) rfl
  have k3 := kr.cell (i := 3) (v := .int .i64 0) rfl
  have f0 := kr.free 0
  have f1 := kr.free 1
  have f2 := kr.free 2
  have f3 := kr.free 3
  have hxw : Ext w w1 := ((Ext.alloc _ _).alloc' _).trans hx
  have hne' : (e != 0) = true := by simpa using hne
  clear kr hx hne
  go_wp2_with fail
  refine bodyPost_ret (v := .tuple #[.agg #[.int .i64 0, .int .i64 0, .int .i64 0, .int .i64 0], .int .i64 e]) (by simp [results, Try.results18, go_sem, k0, k1, k2, k3]) rfl ⟨rfl, (by repeat (first | with_reducible exact Ext.refl _ | with_reducible assumption | with_reducible refine Ext.drewN ?_ _ | with_reducible refine Ext.drew ?_ | with_reducible refine Ext.alloc' ?_ _ | with_reducible refine Ext.set ?_ (by dsimp only; omega) _))⟩

set_option maxHeartbeats 1000000 in
theorem refMeasure_arg (J S N m : Int) (a : Option Addr) (cap : Nat) (bad : List (List Bool)) (a2 : Option Addr) (cap2 : Nat) (ps : List (List Int)) (w : World) (h : BRows w a cap bad) (h2 : Rows w a2 cap2 ps)
    (he : checkE J S N bad ps = 0) (hm : ¬ (1 ≤ m ∧ m ≤ 16)) :
    Calls Try.prog 18 #[.agg #[.int .i64 J, .int .i64 S, .int .i64 N, .slice a bad.length cap], .slice a2 ps.length cap2, .int .i64 m] w fun r w' => r = .returned (.tuple #[.agg #[.int .i64 0, .int .i64 0, .int .i64 0, .int .i64 0], .int .i64 1]) ∧ Ext w w' := by
  have hle := h.le
  have hmx := h.mx
  have hb0 := h.ext (Ext.alloc w (.cells #[.int .i64 J, .int .i64 S, .int .i64 N, .slice a bad.length cap] 24))
  have hp0 := h2.ext (Ext.alloc w (.cells #[.int .i64 J, .int .i64 S, .int .i64 N, .slice a bad.length cap] 24))
  have HE := Lib.hid he
  clear he
  go_enter Try.func18, Try.ntmps18
  go_wp2_with fail
  refine (refCheck _ _ _ _ _ _ _ _ _ _ (hb0.ext (Ext.alloc _ _)) (hp0.ext (Ext.alloc _ _))).mono ?_
  rw [HE.out]
  rintro e' w1 ⟨rfl, hx⟩
  have kr := (Blk.new1 w (.cells #[.int .i64 J, .int .i64 S, .int .i64 N, .slice a bad.length cap] 24) _ _).ext hx
  have k0 := kr.cell (i := 0) (v := .int .i64 0) rfl
  have k1 := kr.cell (i := 1) (v := .int .i64 0) rfl
  have k2 := kr.cell (i := 2) (v := .int .i64 0) rfl
  have k3 := kr.cell (i := 3) (v := .int .i64 0) rfl
  have f0 := kr.free 0
  have f1 := kr.free 1
  have f2 := kr.free 2
  have f3 := kr.free 3
  have hxw : Ext w w1 := ((Ext.alloc _ _).alloc' _).trans hx
  clear kr hx
  by_cases c1 : m < 1
  · go_wp2_with fail
    refine bodyPost_ret (v := .tuple #[.agg #[.int .i64 0, .int .i64 0, .int .i64 0, .int .i64 0], .int .i64 1]) (by simp [results, Try.results18, go_sem, k0, k1, k2, k3]) rfl ⟨rfl, (by repeat (first | with_reducible exact Ext.refl _ | with_reducible assumption | with_reducible refine Ext.drewN ?_ _ | with_reducible refine Ext.drew ?_ | with_reducible refine Ext.alloc' ?_ _ | with_reducible refine Ext.set ?_ (by dsimp only; omega) _))⟩
  · have c2 : 16 < m := by omega
    have c1' : 1 ≤ m := by omega
    clear hm c1
    go_wp2_with fail
    refine bodyPost_ret (v := .tuple #[.agg #[.int .i64 0, .int .i64 0, .int .i64 0, .int .i64 0], .int .i64 1]) (by simp [results, Try.results18, go_sem, k0, k1, k2, k3]) rfl ⟨rfl, (by repeat (first | with_reducible exact Ext.refl _ | with_reducible assumption | with_reducible refine Ext.drewN ?_ _ | with_reducible refine Ext.drew ?_ | with_reducible refine Ext.alloc' ?_ _ | with_reducible refine Ext.set ?_ (by dsimp only; omega) _))⟩
end Go.Proofs.Ytmkleegfbapakaa
