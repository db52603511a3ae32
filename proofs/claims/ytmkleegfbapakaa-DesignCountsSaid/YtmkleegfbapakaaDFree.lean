import Derived.Test.YtmkleegfbapakaaBlk
import Derived.Deep.RegionHeld3
import Derived.Deep.AppendLies
import Derived.Deep.Cut
import Derived.KernelRfl
import Derived.RowKit3
import Derived.Deep.RegionLaw
namespace Go.Proofs.Ytmkleegfbapakaa
open Go.RowKit Go
set_option maxRecDepth 100000

/-- The rows of a wish in which nobody is bad: each its own block of j times false. -/
def FreeRows (w : World) (B : Nat) (j : Nat) (v : Value) (xs : List Value) : Prop :=
  w.ownsRow B 60 1 v xs.length xs ∧ ∀ x ∈ xs, ∃ b, x = .slice (some ⟨b, 0, none⟩) j j ∧ B ≤ b ∧ v.ownBlock ≠ some b ∧ Blk w b (Array.replicate j (.bool false)) 4

theorem FreeRows.ext {w w' : World} {B j : Nat} {v : Value} {xs : List Value} (h : FreeRows w B j v xs) (hx : Ext w w') : FreeRows w' B j v xs := by
  obtain ⟨⟨h1, h2⟩, h3⟩ := h
  refine ⟨⟨h1, ?_⟩, fun x hx' => ?_⟩
  · rcases h2 with h2 | ⟨g, cap, cur, e, hb, hg, hr⟩
    · exact .inl h2
    · exact .inr ⟨g, cap, cur, e, hb, (hx.block g (Array.getElem?_eq_some_iff.1 hg).1).trans hg, hr⟩
  · obtain ⟨b, e, hb, hn, hk⟩ := h3 x hx'
    exact ⟨b, e, hb, hn, hk.ext hx⟩

theorem FreeRows.other {w : World} {B j : Nat} {v : Value} {xs : List Value} (h : FreeRows w B j v xs) {p : Addr} (hp : p.block < B) (u : Value) : FreeRows (w.setCell p u) B j v xs := by
  obtain ⟨⟨h1, h2⟩, h3⟩ := h
  refine ⟨⟨h1, ?_⟩, fun x hx' => ?_⟩
  · rcases h2 with h2 | ⟨g, cap, cur, e, hb, hg, hr⟩
    · exact .inl h2
    · exact .inr ⟨g, cap, cur, e, hb, (Below.heap_setCell _ _ _ _ (by omega)).trans hg, hr⟩
  · obtain ⟨b, e, hb, hn, hk⟩ := h3 x hx'
    exact ⟨b, e, hb, hn, hk.other (by omega) u⟩

theorem FreeRows.nil (w : World) (B j : Nat) : FreeRows w B j (.slice none 0 0) [] := ⟨World.ownsRow_nil _ _ _ _, fun _ h => by cases h⟩

/-- One more row. -/
theorem FreeRows.more {w w' : World} {B j : Nat} {v : Value} {xs : List Value} {g cap b : Nat} (h : FreeRows w B j v xs)
    (ho : w'.ownsRow B 60 1 (.slice (some ⟨g, 0, none⟩) (xs.length + 1) cap) (xs.length + 1) (xs ++ [.slice (some ⟨b, 0, none⟩) j j])) (hg : w.grownBy w' v.ownBlock) (hat : v.ownBlock = some g ∨ g = w.heap.size)
    (hb : Blk w b (Array.replicate j (.bool false)) 4) (hB : B ≤ b) (hne : v.ownBlock ≠ some b) : FreeRows w' B j (.slice (some ⟨g, 0, none⟩) (xs.length + 1) cap) (xs ++ [.slice (some ⟨b, 0, none⟩) j j]) := by
  have hown : ∀ c, c < w.heap.size → v.ownBlock ≠ some c → g ≠ c := fun c hc hv e => by
    subst e
    rcases hat with h | h
    · exact hv h
    · omega
  refine ⟨by rw [List.length_append]; exact ho, fun x hx => ?_⟩
  rcases List.mem_append.1 hx with hx | hx
  · obtain ⟨c, e, hc, hn, hk⟩ := h.2 x hx
    refine ⟨c, e, hc, fun e' => ?_, (hg.block c hk.lt (fun e => hn e.symm)).trans hk⟩
    simp only [Value.ownBlock, Option.some.injEq] at e'
    exact hown c hk.lt hn e'
  · simp only [List.mem_singleton] at hx
    refine ⟨b, hx, hB, fun e' => ?_, (hg.block b hb.lt (fun e => hne e.symm)).trans hb⟩
    simp only [Value.ownBlock, Option.some.injEq] at e'
    exact hown b hb.lt hne e'

theorem FreeRows.lt {w : World} {B j : Nat} {v : Value} {xs : List Value} (h : FreeRows w B j v xs) {b : Nat} (hb : v.ownBlock = some b) : b < w.heap.size := by
  rcases h.1.2 with ⟨rfl, _⟩ | ⟨g, cap, cur, rfl, _, hg, _⟩
  · cases hb
  · cases hb; exact (Array.getElem?_eq_some_iff.1 hg).1

theorem FreeRows.form {w : World} {B j : Nat} {v : Value} {xs : List Value} (h : FreeRows w B j v xs) : ∃ a cap, v = .slice a xs.length cap := by
  rcases h.1.2 with ⟨rfl, h0⟩ | ⟨g, cap, cur, rfl, _⟩
  · exact ⟨none, 0, by rw [h0]⟩
  · exact ⟨_, _, rfl⟩

def FreePost (j n : Nat) (s : Int) (w : World) (e : Ending) (w' : World) : Prop :=
  ∃ v xs, e = .returned (.agg #[.int .i64 (j : Int), .int .i64 s, .int .i64 0, v]) ∧ xs.length = n ∧ FreeRows w' w.heap.size j v xs ∧ Ext w w'

theorem infoRow : (Try.prog.info? 60).map (fun i => (i.zero, i.size, i.bytes)) = some (some (.slice none 0 0), 1, 24) := by kernel_rfl

theorem FreeRows.low {w : World} {B B' j : Nat} {v : Value} {xs : List Value} (h : FreeRows w B j v xs) (hB : B' ≤ B) : FreeRows w B' j v xs := by
  obtain ⟨⟨h1, h2⟩, h3⟩ := h
  refine ⟨⟨h1, ?_⟩, fun x hx' => ?_⟩
  · rcases h2 with h2 | ⟨g, cap, cur, e, hb, hg, hr⟩
    · exact .inl h2
    · exact .inr ⟨g, cap, cur, e, by omega, hg, hr⟩
  · obtain ⟨b, e, hb, hn, hk⟩ := h3 x hx'
    exact ⟨b, e, by omega, hn, hk⟩

set_option maxHeartbeats 2000000 in
theorem lawFree2 (n : Nat) (s : Int) (w : World) (hn : n ≤ 100) :
    Calls Try.prog 43 #[.int .i64 2, .int .i64 s, .int .i64 (n : Int)] w (FreePost 2 n s w) := by
  obtain ⟨i0, hi0, hz0, hz1, hz2⟩ := info_parts infoRow
  have hmk : ∀ w, (Instr.makeSlice 60 (.int .i64 2) (.int .i64 2)).run Try.prog w = .ok (.slice (some ⟨w.heap.size, 0, none⟩) 2 2) (w.alloc (.cells (Array.replicate 2 (.bool false)) 4)) := fun _ => by kernel_rfl
  go_enter Try.func43, Try.ntmps43
  go_upto_region 2 with fail
  have A1 := (Blk.new0 w #[.int .i64 0, .int .i64 0, .int .i64 0, .slice none 0 0] 24).alloc (.cells #[.int .i64 2, .int .i64 s, .int .i64 0, .slice none 0 0] 24)
  have A2 := Blk.new1 w (.cells #[.int .i64 0, .int .i64 0, .int .i64 0, .slice none 0 0] 24) #[.int .i64 2, .int .i64 s, .int .i64 0, .slice none 0 0] 24
  have hx0 : Ext w ((w.alloc (.cells #[.int .i64 0, .int .i64 0, .int .i64 0, .slice none 0 0] 24)).alloc (.cells #[.int .i64 2, .int .i64 s, .int .i64 0, .slice none 0 0] 24)) := (by repeat (first | with_reducible exact Ext.refl _ | with_reducible assumption | with_reducible refine Ext.drewN ?_ _ | with_reducible refine Ext.drew ?_ | with_reducible refine Ext.alloc' ?_ _ | with_reducible refine Ext.set ?_ (by dsimp only; omega) _))
  generalize ((w.alloc (.cells #[.int .i64 0, .int .i64 0, .int .i64 0, .slice none 0 0] 24)).alloc (.cells #[.int .i64 2, .int .i64 s, .int .i64 0, .slice none 0 0] 24)) = w2 at *
  have X1 := Lib.hid A1
  have X2 := Lib.hid A2
  clear A1 A2
  go_wp2_with fail
  go_loopw [12] (fun i wr => ∃ (v : Value) (xs : List Value), xs.length ≤ n ∧ i = .int .i64 xs.length ∧ Ext w wr ∧ Blk wr w.heap.size #[.int .i64 0, .int .i64 0, .int .i64 0, .slice none 0 0] 24 ∧
    Blk wr (w.heap.size + 1) #[.int .i64 2, .int .i64 s, .int .i64 0, v] 24 ∧ FreeRows wr (w.heap.size + 2) 2 v xs) (fun i _ => n - (intOf i).toNat)
  case atStart => exact ⟨_, [], Nat.zero_le _, rfl, hx0, X1.out, X2.out, FreeRows.nil _ _ _⟩
  case round =>
    obtain ⟨v, xs, hk, rfl, hxr, r1, r2, hF⟩ := hrel
    obtain ⟨va, vc, hv⟩ := hF.form
    subst hv
    clear X1 X2 hx0
    by_cases hkn : xs.length < n
    · have c3 := r2.cell (i := 3) (v := .slice va xs.length vc) rfl
      have f3 := r2.free 3
      have R1 := Lib.hid r1
      have R2 := Lib.hid r2
      clear r1 r2
      go_wp2_with fail
      have hown := hF.1
      have hL2 := R2.out.lt
      have hvn : (Value.slice va xs.length vc).ownBlock ≠ some (w.heap.size + 1) := fun e => by
        rcases hown.2 with ⟨e2, _⟩ | ⟨g, cap, cur, e2, hb, _⟩ <;> rw [e2] at e
        · cases e
        · simp only [Value.ownBlock, Option.some.injEq] at e; omega
      have hv0 : (Value.slice va xs.length vc).ownBlock ≠ some w.heap.size := fun e => by
        rcases hown.2 with ⟨e2, _⟩ | ⟨g, cap, cur, e2, hb, _⟩ <;> rw [e2] at e
        · cases e
        · simp only [Value.ownBlock, Option.some.injEq] at e; omega
      have hszx := hxr.size
      have e1 := (R2.out.alloc (.cells (Array.replicate 2 (.bool false)) 4)).cell (i := 3) (v := .slice va xs.length vc) rfl
      have e2 := ((R2.out.alloc (.cells (Array.replicate 2 (.bool false)) 4)).alloc (.cells #[.slice (some ⟨wr.heap.size, 0, none⟩) 2 2] 60)).cell (i := 3) (v := .slice va xs.length vc) rfl
      go_region_law
        ((refine step_append_lies _ (by rfl) _ _ _ (by rfl) (w.heap.size + 2) 60 i0 _ 1 24 Try.underlying22 hi0 hz0 hz1 hz2 rfl (by omega) (.slice va xs.length vc) xs.length xs (by rfl) (((hown.alloc _).alloc _).drew)
            ⟨wr.heap.size + 1, 0, none⟩ 1 1 [.slice (some ⟨wr.heap.size, 0, none⟩) 2 2] (by rfl) (by rfl) (World.news_of_block (cs := #[.slice (some ⟨wr.heap.size, 0, none⟩) 2 2]) (t := 60) (fr := (0, 0)) (by have := heap_alloc_new (wr.alloc (.cells (Array.replicate 2 (.bool false)) 4)) (.cells #[.slice (some ⟨wr.heap.size, 0, none⟩) 2 2] 60); simpa [World.drew] using this)) (by simp [Value.oneCell'])
            (by omega) (by unfold maxLen; omega) (by omega) (by simp; omega) (wr.heap.size + 2) (by simp) ?_; intro gg cap w1 hown1 hgrow hat hlt; have c4 := (hgrow.cell_far ⟨w.heap.size + 1, 3, none⟩ (by simp; omega) (Ne.symm hvn)).trans (Blk.cell (Blk.drew ((R2.out.alloc _).alloc _)) (i := 3) (v := .slice va xs.length vc) rfl); have f4 := (hgrow.frozen_far ⟨w.heap.size + 1, 3, none⟩ (by simp; omega) (Ne.symm hvn)).trans (Blk.free (Blk.drew ((R2.out.alloc _).alloc _)) 3)))
      all_goals
        have r1' := (hgrow.block w.heap.size (by simp; omega) (fun e => hv0 e.symm)).trans (((R1.out.alloc _).alloc _).drew)
        have r2' := (hgrow.block (w.heap.size + 1) (by simp; omega) (fun e => hvn e.symm)).trans (((R2.out.alloc _).alloc _).drew)
        have hF' := FreeRows.more (((hF.ext (Ext.alloc _ _)).ext (Ext.alloc _ _)).ext ((Ext.refl _).drew)) hown1 hgrow (by simpa using hat) (((Blk.new0 wr _ _).alloc _).drew) (by omega) (fun e => by have := hF.lt e; omega)
        have hx' : Ext w w1 := Below.grown ((hxr.alloc' _).alloc' _).drew hgrow (by simp; omega) (fun k e => by
          rcases hown.2 with ⟨e2, _⟩ | ⟨g, cap, cur, e2, hb, _⟩ <;> rw [e2] at e
          · cases e
          · simp only [Value.ownBlock, Option.some.injEq] at e; omega)
        have R1 := Lib.hid r1'
        have R2 := Lib.hid r2'
        clear r1' r2' hown1 hgrow hat c4 f4 c3 f3 hmk
        go_wp2_with fail
        go_roundw
        case rel => exact ⟨_, xs ++ [.slice (some ⟨wr.heap.size, 0, none⟩) 2 2], by simp; omega, by rw [List.length_append]; go_num, (by repeat (first | with_reducible exact Ext.refl _ | with_reducible assumption | with_reducible refine Ext.drewN ?_ _ | with_reducible refine Ext.drew ?_ | with_reducible refine Ext.alloc' ?_ _ | with_reducible refine Ext.set ?_ (by dsimp only; omega) _)), Blk.other R1.out (p := ⟨w.heap.size + 1, 3, none⟩) (by dsimp only; omega) _, Blk.set R2.out 3 _, hF'.other (p := ⟨w.heap.size + 1, 3, none⟩) (by dsimp only; omega) _⟩
        case measure => simp [intOf]; omega
    · obtain rfl : xs.length = n := by omega
      have c0 := r2.cell (i := 0) (v := .int .i64 2) rfl
      have c1 := r2.cell (i := 1) (v := .int .i64 s) rfl
      have c2 := r2.cell (i := 2) (v := .int .i64 0) rfl
      have c3 := r2.cell (i := 3) (v := .slice va xs.length vc) rfl
      have d0 := r1.cell (i := 0) (v := .int .i64 0) rfl
      have d1 := r1.cell (i := 1) (v := .int .i64 0) rfl
      have d2 := r1.cell (i := 2) (v := .int .i64 0) rfl
      have d3 := r1.cell (i := 3) (v := .slice none 0 0) rfl
      have f0 := r1.free 0
      have f1 := r1.free 1
      have f2 := r1.free 2
      have f3 := r1.free 3
      have R1 := Lib.hid r1
      clear r1 r2
      go_wp2_with fail
      have KT := (((R1.out.set 0 (.int .i64 2)).set 1 (.int .i64 s)).set 2 (.int .i64 0)).set 3 (.slice va xs.length vc)
      have hF' := ((((hF.other (p := ⟨w.heap.size, 0, none⟩) (by dsimp only; omega) (.int .i64 2)).other (p := ⟨w.heap.size, 1, none⟩) (by dsimp only; omega) (.int .i64 s)).other (p := ⟨w.heap.size, 2, none⟩) (by dsimp only; omega) (.int .i64 0)).other (p := ⟨w.heap.size, 3, none⟩) (by dsimp only; omega) (.slice va xs.length vc)).low (B' := w.heap.size) (by omega)
      have hx' : Ext w ((((wr.setCell ⟨w.heap.size, 0, none⟩ (.int .i64 2)).setCell ⟨w.heap.size, 1, none⟩ (.int .i64 s)).setCell ⟨w.heap.size, 2, none⟩ (.int .i64 0)).setCell ⟨w.heap.size, 3, none⟩ (.slice va xs.length vc)) := (by repeat (first | with_reducible exact Ext.refl _ | with_reducible assumption | with_reducible refine Ext.drewN ?_ _ | with_reducible refine Ext.drew ?_ | with_reducible refine Ext.alloc' ?_ _ | with_reducible refine Ext.set ?_ (by dsimp only; omega) _))
      clear c0 c1 c2 c3 d0 d1 d2 d3 f0 f1 f2 f3
      generalize ((((wr.setCell ⟨w.heap.size, 0, none⟩ (.int .i64 2)).setCell ⟨w.heap.size, 1, none⟩ (.int .i64 s)).setCell ⟨w.heap.size, 2, none⟩ (.int .i64 0)).setCell ⟨w.heap.size, 3, none⟩ (.slice va xs.length vc)) = W8 at *
      have k0 := KT.cell (i := 0) (v := .int .i64 2) rfl
      have k1 := KT.cell (i := 1) (v := .int .i64 s) rfl
      have k2 := KT.cell (i := 2) (v := .int .i64 0) rfl
      have k3 := KT.cell (i := 3) (v := .slice va xs.length vc) rfl
      refine bodyPost_ret (v := .agg #[.int .i64 2, .int .i64 s, .int .i64 0, .slice va xs.length vc]) (by simp [results, Try.results43, go_sem, k0, k1, k2, k3]) rfl ⟨_, xs, rfl, rfl, hF', hx'⟩
set_option maxHeartbeats 2000000 in
theorem lawFree3 (n : Nat) (s : Int) (w : World) (hn : n ≤ 100) :
    Calls Try.prog 43 #[.int .i64 3, .int .i64 s, .int .i64 (n : Int)] w (FreePost 3 n s w) := by
  obtain ⟨i0, hi0, hz0, hz1, hz2⟩ := info_parts infoRow
  have hmk : ∀ w, (Instr.makeSlice 60 (.int .i64 3) (.int .i64 3)).run Try.prog w = .ok (.slice (some ⟨w.heap.size, 0, none⟩) 3 3) (w.alloc (.cells (Array.replicate 3 (.bool false)) 4)) := fun _ => by kernel_rfl
  go_enter Try.func43, Try.ntmps43
  go_upto_region 2 with fail
  have A1 := (Blk.new0 w #[.int .i64 0, .int .i64 0, .int .i64 0, .slice none 0 0] 24).alloc (.cells #[.int .i64 3, .int .i64 s, .int .i64 0, .slice none 0 0] 24)
  have A2 := Blk.new1 w (.cells #[.int .i64 0, .int .i64 0, .int .i64 0, .slice none 0 0] 24) #[.int .i64 3, .int .i64 s, .int .i64 0, .slice none 0 0] 24
  have hx0 : Ext w ((w.alloc (.cells #[.int .i64 0, .int .i64 0, .int .i64 0, .slice none 0 0] 24)).alloc (.cells #[.int .i64 3, .int .i64 s, .int .i64 0, .slice none 0 0] 24)) := (by repeat (first | with_reducible exact Ext.refl _ | with_reducible assumption | with_reducible refine Ext.drewN ?_ _ | with_reducible refine Ext.drew ?_ | with_reducible refine Ext.alloc' ?_ _ | with_reducible refine Ext.set ?_ (by dsimp only; omega) _))
  generalize ((w.alloc (.cells #[.int .i64 0, .int .i64 0, .int .i64 0, .slice none 0 0] 24)).alloc (.cells #[.int .i64 3, .int .i64 s, .int .i64 0, .slice none 0 0] 24)) = w2 at *
  have X1 := Lib.hid A1
  have X2 := Lib.hid A2
  clear A1 A2
  go_wp2_with fail
  go_loopw [12] (fun i wr => ∃ (v : Value) (xs : List Value), xs.length ≤ n ∧ i = .int .i64 xs.length ∧ Ext w wr ∧ Blk wr w.heap.size #[.int .i64 0, .int .i64 0, .int .i64 0, .slice none 0 0] 24 ∧
    Blk wr (w.heap.size + 1) #[.int .i64 3, .int .i64 s, .int .i64 0, v] 24 ∧ FreeRows wr (w.heap.size + 2) 3 v xs) (fun i _ => n - (intOf i).toNat)
  case atStart => exact ⟨_, [], Nat.zero_le _, rfl, hx0, X1.out, X2.out, FreeRows.nil _ _ _⟩
  case round =>
    obtain ⟨v, xs, hk, rfl, hxr, r1, r2, hF⟩ := hrel
    obtain ⟨va, vc, hv⟩ := hF.form
    subst hv
    clear X1 X2 hx0
    by_cases hkn : xs.length < n
    · have c3 := r2.cell (i := 3) (v := .slice va xs.length vc) rfl
      have f3 := r2.free 3
      have R1 := Lib.hid r1
      have R2 := Lib.hid r2
      clear r1 r2
      go_wp2_with fail
      have hown := hF.1
      have hL2 := R2.out.lt
      have hvn : (Value.slice va xs.length vc).ownBlock ≠ some (w.heap.size + 1) := fun e => by
        rcases hown.2 with ⟨e2, _⟩ | ⟨g, cap, cur, e2, hb, _⟩ <;> rw [e2] at e
        · cases e
        · simp only [Value.ownBlock, Option.some.injEq] at e; omega
      have hv0 : (Value.slice va xs.length vc).ownBlock ≠ some w.heap.size := fun e => by
        rcases hown.2 with ⟨e2, _⟩ | ⟨g, cap, cur, e2, hb, _⟩ <;> rw [e2] at e
        · cases e
        · simp only [Value.ownBlock, Option.some.injEq] at e; omega
      have hszx := hxr.size
      have e1 := (R2.out.alloc (.cells (Array.replicate 3 (.bool false)) 4)).cell (i := 3) (v := .slice va xs.length vc) rfl
      have e2 := ((R2.out.alloc (.cells (Array.replicate 3 (.bool false)) 4)).alloc (.cells #[.slice (some ⟨wr.heap.size, 0, none⟩) 3 3] 60)).cell (i := 3) (v := .slice va xs.length vc) rfl
      go_region_law
        ((refine step_append_lies _ (by rfl) _ _ _ (by rfl) (w.heap.size + 2) 60 i0 _ 1 24 Try.underlying22 hi0 hz0 hz1 hz2 rfl (by omega) (.slice va xs.length vc) xs.length xs (by rfl) (((hown.alloc _).alloc _).drew)
            ⟨wr.heap.size + 1, 0, none⟩ 1 1 [.slice (some ⟨wr.heap.size, 0, none⟩) 3 3] (by rfl) (by rfl) (World.news_of_block (cs := #[.slice (some ⟨wr.heap.size, 0, none⟩) 3 3]) (t := 60) (fr := (0, 0)) (by have := heap_alloc_new (wr.alloc (.cells (Array.replicate 3 (.bool false)) 4)) (.cells #[.slice (some ⟨wr.heap.size, 0, none⟩) 3 3] 60); simpa [World.drew] using this)) (by simp [Value.oneCell'])
            (by omega) (by unfold maxLen; omega) (by omega) (by simp; omega) (wr.heap.size + 2) (by simp) ?_; intro gg cap w1 hown1 hgrow hat hlt; have c4 := (hgrow.cell_far ⟨w.heap.size + 1, 3, none⟩ (by simp; omega) (Ne.symm hvn)).trans (Blk.cell (Blk.drew ((R2.out.alloc _).alloc _)) (i := 3) (v := .slice va xs.length vc) rfl); have f4 := (hgrow.frozen_far ⟨w.heap.size + 1, 3, none⟩ (by simp; omega) (Ne.symm hvn)).trans (Blk.free (Blk.drew ((R2.out.alloc _).alloc _)) 3)))
      all_goals
        have r1' := (hgrow.block w.heap.size (by simp; omega) (fun e => hv0 e.symm)).trans (((R1.out.alloc _).alloc _).drew)
        have r2' := (hgrow.block (w.heap.size + 1) (by simp; omega) (fun e => hvn e.symm)).trans (((R2.out.alloc _).alloc _).drew)
        have hF' := FreeRows.more (((hF.ext (Ext.alloc _ _)).ext (Ext.alloc _ _)).ext ((Ext.refl _).drew)) hown1 hgrow (by simpa using hat) (((Blk.new0 wr _ _).alloc _).drew) (by omega) (fun e => by have := hF.lt e; omega)
        have hx' : Ext w w1 := Below.grown ((hxr.alloc' _).alloc' _).drew hgrow (by simp; omega) (fun k e => by
          rcases hown.2 with ⟨e2, _⟩ | ⟨g, cap, cur, e2, hb, _⟩ <;> rw [e2] at e
          · cases e
          · simp only [Value.ownBlock, Option.some.injEq] at e; omega)
        have R1 := Lib.hid r1'
        have R2 := Lib.hid r2'
        clear r1' r2' hown1 hgrow hat c4 f4 c3 f3 hmk
        go_wp2_with fail
        go_roundw
        case rel => exact ⟨_, xs ++ [.slice (some ⟨wr.heap.size, 0, none⟩) 3 3], by simp; omega, by rw [List.length_append]; go_num, (by repeat (first | with_reducible exact Ext.refl _ | with_reducible assumption | with_reducible refine Ext.drewN ?_ _ | with_reducible refine Ext.drew ?_ | with_reducible refine Ext.alloc' ?_ _ | with_reducible refine Ext.set ?_ (by dsimp only; omega) _)), Blk.other R1.out (p := ⟨w.heap.size + 1, 3, none⟩) (by dsimp only; omega) _, Blk.set R2.out 3 _, hF'.other (p := ⟨w.heap.size + 1, 3, none⟩) (by dsimp only; omega) _⟩
        case measure => simp [intOf]; omega
    · obtain rfl : xs.length = n := by omega
      have c0 := r2.cell (i := 0) (v := .int .i64 3) rfl
      have c1 := r2.cell (i := 1) (v := .int .i64 s) rfl
      have c2 := r2.cell (i := 2) (v := .int .i64 0) rfl
      have c3 := r2.cell (i := 3) (v := .slice va xs.length vc) rfl
      have d0 := r1.cell (i := 0) (v := .int .i64 0) rfl
      have d1 := r1.cell (i := 1) (v := .int .i64 0) rfl
      have d2 := r1.cell (i := 2) (v := .int .i64 0) rfl
      have d3 := r1.cell (i := 3) (v := .slice none 0 0) rfl
      have f0 := r1.free 0
      have f1 := r1.free 1
      have f2 := r1.free 2
      have f3 := r1.free 3
      have R1 := Lib.hid r1
      clear r1 r2
      go_wp2_with fail
      have KT := (((R1.out.set 0 (.int .i64 3)).set 1 (.int .i64 s)).set 2 (.int .i64 0)).set 3 (.slice va xs.length vc)
      have hF' := ((((hF.other (p := ⟨w.heap.size, 0, none⟩) (by dsimp only; omega) (.int .i64 3)).other (p := ⟨w.heap.size, 1, none⟩) (by dsimp only; omega) (.int .i64 s)).other (p := ⟨w.heap.size, 2, none⟩) (by dsimp only; omega) (.int .i64 0)).other (p := ⟨w.heap.size, 3, none⟩) (by dsimp only; omega) (.slice va xs.length vc)).low (B' := w.heap.size) (by omega)
      have hx' : Ext w ((((wr.setCell ⟨w.heap.size, 0, none⟩ (.int .i64 3)).setCell ⟨w.heap.size, 1, none⟩ (.int .i64 s)).setCell ⟨w.heap.size, 2, none⟩ (.int .i64 0)).setCell ⟨w.heap.size, 3, none⟩ (.slice va xs.length vc)) := (by repeat (first | with_reducible exact Ext.refl _ | with_reducible assumption | with_reducible refine Ext.drewN ?_ _ | with_reducible refine Ext.drew ?_ | with_reducible refine Ext.alloc' ?_ _ | with_reducible refine Ext.set ?_ (by dsimp only; omega) _))
      clear c0 c1 c2 c3 d0 d1 d2 d3 f0 f1 f2 f3
      generalize ((((wr.setCell ⟨w.heap.size, 0, none⟩ (.int .i64 3)).setCell ⟨w.heap.size, 1, none⟩ (.int .i64 s)).setCell ⟨w.heap.size, 2, none⟩ (.int .i64 0)).setCell ⟨w.heap.size, 3, none⟩ (.slice va xs.length vc)) = W8 at *
      have k0 := KT.cell (i := 0) (v := .int .i64 3) rfl
      have k1 := KT.cell (i := 1) (v := .int .i64 s) rfl
      have k2 := KT.cell (i := 2) (v := .int .i64 0) rfl
      have k3 := KT.cell (i := 3) (v := .slice va xs.length vc) rfl
      refine bodyPost_ret (v := .agg #[.int .i64 3, .int .i64 s, .int .i64 0, .slice va xs.length vc]) (by simp [results, Try.results43, go_sem, k0, k1, k2, k3]) rfl ⟨_, xs, rfl, rfl, hF', hx'⟩
end Go.Proofs.Ytmkleegfbapakaa
