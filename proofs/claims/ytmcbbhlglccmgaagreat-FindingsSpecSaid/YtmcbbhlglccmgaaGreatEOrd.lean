import Derived.Test.YtmcbbhlglccmgaaGreatEFrom
import Derived.OwnWalk
import Derived.Laws.OwnMore
import Derived.KernelRfl
import Derived.Laws.EntriesVeiled
namespace Go.Proofs.YtmcbbhlglccmgaaGreat
open Go.RowKit Go Go.Shelf
set_option maxRecDepth 100000
set_option linter.unusedSimpArgs false

attribute [local go_sem] Oper.semAt_some

theorem infoInt : (Tryz.prog.info? 3).map (fun i => (i.zero, i.size, i.bytes)) = some (some (.int .i64 0), 1, 8) := by kernel_rfl

/-- A slice that was just made whole: its block. -/
theorem blk_of_owns {w : World} {base g n : Nat} {e : TypeId} {xs : List Value} (h : w.ownsRow base e 1 (.slice (some ⟨g, 0, none⟩) n n) n xs) : Blk w g xs.toArray e := by
  obtain ⟨_, h2⟩ := h
  rcases h2 with ⟨h', _⟩ | ⟨g', cap', cur, h', _, hg, _, _, hs, ht⟩
  · cases h'
  · simp only [Value.slice.injEq, Option.some.injEq, Addr.mk.injEq, and_true, true_and] at h'
    obtain ⟨rfl, rfl⟩ := h'
    have : cur.toList = xs := by rw [← ht, List.take_of_length_le (by simp; omega)]
    unfold Blk
    rw [hg, ← this]
theorem Ext.grown {a w w' : World} (h : Ext a w) (hg : w.grownBy w' none) : Ext a w' := Below.grown h hg h.size (fun k e => by cases e)
theorem Blk.grown {w w' : World} {b : Nat} {cs : Array Value} {t : TypeId} (h : Blk w b cs t) (hg : w.grownBy w' none) : Blk w' b cs t := (hg.block b h.lt (fun e => by cases e)).trans h

def iota (n : Nat) : List Int := (List.range n).map (fun (i : Nat) => (i : Int))
/-- 0, 1, .., k - 1 and then zeros. -/
def filled (n k : Nat) : List Int := (List.range n).map (fun (i : Nat) => if i < k then (i : Int) else 0)
theorem filled_zero (n : Nat) : ((filled n 0).map (Value.int .i64)).toArray = (List.replicate n (Value.int .i64 0)).toArray := by
  congr 1
  refine List.ext_getElem (by simp [filled]) fun i h1 h2 => by simp [filled]
theorem filled_all (n : Nat) : filled n n = iota n := by
  unfold filled iota
  exact List.map_congr_left fun i hi => by simp [List.mem_range.1 hi]
theorem filled_set (n k : Nat) : (filled n k).set k (k : Int) = filled n (k + 1) := by
  refine List.ext_getElem (by simp [filled]) fun i h1 h2 => ?_
  simp only [List.getElem_set, filled, List.getElem_map, List.getElem_range]
  by_cases h : k = i
  · subst h; simp
  · rw [if_neg h]
    by_cases h3 : i < k
    · rw [if_pos h3, if_pos (by omega)]
    · rw [if_neg h3, if_neg (by omega)]

def OrdersPost (nn : Nat) (w : World) (e : Ending) (w' : World) : Prop :=
  ∃ nB liB fB lb, e = .returned (.func (.func 113) #[] #[.pointer (some ⟨fB, 0, none⟩)]) ∧ Vars w' nn nB liB fB lb ∧ LB w' lb (iota nn) ∧ w.heap.size ≤ nB ∧ w.heap.size ≤ liB ∧ w.heap.size ≤ fB ∧ w.heap.size ≤ lb ∧ nB ≠ lb ∧ liB ≠ lb ∧ fB ≠ lb ∧ Ext w w'

set_option maxHeartbeats 4000000 in
theorem orders_any (nn : Nat) (w : World) (hn : nn ≤ 100) : Calls Tryz.prog 103 #[.int .i64 nn] w (OrdersPost nn w) := by
  obtain ⟨i0, hi0, hz0, hz1, hz2⟩ := info_parts infoInt
  have hmf : ∀ (fn : Fn) (first cap : Array Value) (w : World), (Instr.makeFunc fn first cap).run Tryz.prog w = .ok (.func fn first cap) w := fun _ _ _ _ => rfl
  have A1 := Lib.hid (Blk.new0 w #[.int .i64 nn] 3)
  have hx := Ext.alloc w (.cells #[.int .i64 nn] 3)
  go_enter Tryz.func103, Tryz.ntmps103
  go_upto_region 1 with fail
  generalize w.alloc (.cells #[.int .i64 nn] 3) = w1 at *
  have c1 := A1.out.cell (i := 0) (v := .int .i64 nn) rfl
  go_wp2_with (at_make; refine wpList_make_full _ rfl _ _ 27 rfl w1.heap.size 3 i0 (.int .i64 0) 1 Tryz.underlying27 hi0 hz0 hz1 _ _ _ _ nn rfl rfl rfl rfl (by rw [hz2]; omega) (by unfold maxLen; omega) (Nat.le_refl _) ?_; intro w2 hown hgrow)
  have hown : w2.ownsRow w1.heap.size 3 1 (.slice (some ⟨w1.heap.size, 0, none⟩) nn nn) nn (List.replicate nn (.int .i64 0)) := by simpa [Value.cells, toList_madeCells_one] using hown
  have hlB := blk_of_owns hown
  rw [← filled_zero] at hlB
  have h01 : w.heap.size < w1.heap.size := A1.out.lt
  have h12 : w1.heap.size < w2.heap.size := hlB.lt
  have A1 := Lib.hid ((A1.out.grown hgrow).alloc (.cells #[.slice (some ⟨w1.heap.size, 0, none⟩) nn nn] 27))
  have A2 := Lib.hid (Blk.new0 w2 #[.slice (some ⟨w1.heap.size, 0, none⟩) nn nn] 27)
  have A3 := Lib.hid (Blk.alloc hlB (.cells #[.slice (some ⟨w1.heap.size, 0, none⟩) nn nn] 27))
  have hx3 := (hx.grown hgrow).alloc' (.cells #[.slice (some ⟨w1.heap.size, 0, none⟩) nn nn] 27)
  clear hown hgrow hlB c1 hx
  generalize w2.alloc (.cells #[.slice (some ⟨w1.heap.size, 0, none⟩) nn nn] 27) = w3 at *
  generalize hlb : w1.heap.size = lb at *
  generalize hli : w2.heap.size = liB at *
  clear hlb hli
  go_loopw [10] (fun i wr => ∃ k : Nat, k ≤ nn ∧ i = .int .i64 k ∧ Blk wr w.heap.size #[.int .i64 nn] 3 ∧ Blk wr liB #[.slice (some ⟨lb, 0, none⟩) nn nn] 27 ∧ LB wr lb (filled nn k) ∧ Ext w wr) (fun i _ => nn - (intOf i).toNat)
  case atStart => exact ⟨0, Nat.zero_le _, rfl, A1.out, A2.out, A3.out, hx3⟩
  case round =>
    obtain ⟨k, hk, rfl, B1, B2, B3, hxr⟩ := hrel
    clear A1 A2 A3 hx3
    by_cases hkn : k < nn
    · have c2 := B2.cell (i := 0) (v := .slice (some ⟨lb, 0, none⟩) nn nn) rfl
      have e1 := B3.cellAt (i := k) (by simp [filled]; omega)
      have f1 := Blk.free B3 k
      have B1 := Lib.hid B1
      have B2 := Lib.hid B2
      have B3 : Hid (LB wr lb (filled nn k)) := Lib.hid B3
      clear hmf
      go_wp2_with fail
      go_roundw
      case rel =>
        refine ⟨k + 1, by omega, by go_num, B1.out.other (p := ⟨lb, k, none⟩) (by dsimp only; omega) _, B2.out.other (p := ⟨lb, k, none⟩) (by dsimp only; omega) _, ?_, (by repeat (first | with_reducible exact Ext.refl _ | with_reducible assumption | with_reducible refine Ext.drewN ?_ _ | with_reducible refine Ext.drew ?_ | with_reducible refine Ext.alloc' ?_ _ | with_reducible refine Ext.set ?_ (by dsimp only; omega) _))⟩
        have := Blk.set B3.out k (.int .i64 (k : Int))
        unfold LB
        rw [← filled_set, List.map_set]
        simpa using this
      case measure => simp [intOf]; omega
    · obtain rfl : k = nn := by omega
      have B1 := Lib.hid B1
      have B2 := Lib.hid B2
      have B3 : Hid (LB wr lb (filled k k)) := Lib.hid B3
      have hs := B3.out.lt
      have hs2 := B2.out.lt
      have hs1 := hxr.size
      go_wp2_with fail
      go_ret
      refine ⟨w.heap.size, liB, wr.heap.size, lb, rfl, ⟨?_, ?_, ⟨_, Blk.new0 wr _ _⟩⟩, ?_, by omega, by omega, by omega, by omega, by omega, by omega, by omega, (by repeat (first | with_reducible exact Ext.refl _ | with_reducible assumption | with_reducible refine Ext.drewN ?_ _ | with_reducible refine Ext.drew ?_ | with_reducible refine Ext.alloc' ?_ _ | with_reducible refine Ext.set ?_ (by dsimp only; omega) _))⟩
      · exact B1.out.alloc _
      · exact B2.out.alloc _
      · rw [← filled_all]
        exact Blk.alloc B3.out _
end Go.Proofs.YtmcbbhlglccmgaaGreat
