import Derived.Test.YtpaaanbcadlhiaaDoorPDiv1
namespace Go.Proofs.YtpaaanbcadlhiaaDoor
open Go.RowKit Go BigFrame Go.Shelf
set_option maxRecDepth 100000
set_option linter.unusedSimpArgs false

/-! nat.Div. -/
theorem set_keeps {A : World} {p : Addr} {v : Value} (h : A.cell? p = some v) {q : Addr} {u : Value} (k : A.cell? q = some u) : (A.setCell p v).cell? q = some u := by
  by_cases e : p = q
  · subst e
    rw [h] at k
    obtain rfl := Option.some.inj k
    exact World.cell?_setCell_same A p v h
  · exact (World.cell?_setCell_other A p q v e).trans k
theorem boxes5 (w : World) (o1 o2 o3 o4 o5 : Array Value) (t1 t2 t3 t4 t5 : TypeId) : ∃ w5, ((((w.alloc (.cells o1 t1)).alloc (.cells o2 t2)).alloc (.cells o3 t3)).alloc (.cells o4 t4)).alloc (.cells o5 t5) = w5 ∧
    Blk w5 w.heap.size o1 t1 ∧ Blk w5 (w.heap.size + 1) o2 t2 ∧ Blk w5 (w.heap.size + 2) o3 t3 ∧ Blk w5 (w.heap.size + 3) o4 t4 ∧ Blk w5 (w.heap.size + 4) o5 t5 ∧ Ext w w5 ∧ w5.heap.size = w.heap.size + 5 := by
  refine ⟨_, rfl, ?_, ?_, ?_, ?_, ?_, (by repeat (first | with_reducible exact Ext.refl _ | with_reducible assumption | with_reducible refine Ext.drewN ?_ _ | with_reducible refine Ext.drew ?_ | with_reducible refine Ext.alloc' ?_ _ | with_reducible refine Ext.set ?_ (by dsimp only; omega) _)), by simp⟩
  · exact ((((Blk.new0 w o1 t1).alloc _).alloc _).alloc _).alloc _
  · exact (((Blk.new1 w _ o2 t2).alloc _).alloc _).alloc _
  · exact ((Blk.new2 w _ _ o3 t3).alloc _).alloc _
  · have := (Blk.new2 (w.alloc (.cells o1 t1)) (.cells o2 t2) (.cells o3 t3) o4 t4).alloc (.cells o5 t5)
    simpa [Nat.add_assoc] using this
  · have := Blk.new2 ((w.alloc (.cells o1 t1)).alloc (.cells o2 t2)) (.cells o3 t3) (.cells o4 t4) o5 t5
    simpa [Nat.add_assoc] using this

set_option maxHeartbeats 1000000 in
theorem nat_Div_bad (n1 n2 : Bool) (a b : Option Addr) (ca cb : Nat) (l m : List Int) (w : World) (h : Ints w a ca l) (k : Ints w b cb m) (hb : (chkB n1 l && chkB n2 m) = false) :
    Calls Tryd.prog 14 #[.agg #[.bool n1, .slice a l.length ca], .agg #[.bool n2, .slice b m.length cb]] w fun e w' => e = .returned (.tuple #[zeroBig, zeroBig, .int .i64 90]) ∧ Ext w w' := by
  obtain ⟨w3, hw3, B1, B2, B3, B4, B5, hx, hs3⟩ := boxes5 w #[.bool n1, .slice a l.length ca] #[.bool n2, .slice b m.length cb] #[.bool false, .slice none 0 0] #[.bool false, .slice none 0 0] #[.int .i64 0] 24 24 24 24 27
  have hx4 := hx.alloc' (.cells #[.bool n1, .slice a l.length ca, .bool n2, .slice b m.length cb] 24)
  have c0 := B1.cell (i := 0) (v := .bool n1) rfl
  have c1 := B1.cell (i := 1) (v := .slice a l.length ca) rfl
  have c2 := B2.cell (i := 0) (v := .bool n2) rfl
  have c3 := B2.cell (i := 1) (v := .slice b m.length cb) rfl
  have H3 := Lib.hid (B3.alloc (.cells #[.bool n1, .slice a l.length ca, .bool n2, .slice b m.length cb] 24))
  have H4 := Lib.hid (B4.alloc (.cells #[.bool n1, .slice a l.length ca, .bool n2, .slice b m.length cb] 24))
  have H5 := Lib.hid (B5.alloc (.cells #[.bool n1, .slice a l.length ca, .bool n2, .slice b m.length cb] 24))
  have HW := Lib.hid hw3
  have HC := Lib.hid (nat_check_bad w3.heap.size n1 n2 a b ca cb l m _ (h.ext hx4) (k.ext hx4) (Blk.new0 w3 _ _) hb)
  clear hb h k B1 B2 B3 B4 B5 hw3
  go_enter_defers Tryd.func14, Tryd.ntmps14
  go_upto_region 1 with fail
  rw [HW.out]
  simp only [Nat.add_assoc, Nat.reduceAdd]
  go_wp2_with fail
  rw [hs3] at HC
  refine HC.out.mono ?_
  rintro e w5 ⟨rfl, hy⟩
  have J3 := Lib.hid (H3.out.ext hy)
  have J4 := Lib.hid (H4.out.ext hy)
  have J5 := Lib.hid (H5.out.ext hy)
  have hx5 := hx4.trans hy
  clear c0 c1 c2 c3 HC H3 H4 H5
  go_wp2_with fail
  refine leaves_cons (f := 47) (args := #[.pointer (some ⟨w.heap.size + 4, 0, none⟩)]) (by simp) (by simp [go_sem]) ?_
  refine (nat_caught_panicking ⟨w.heap.size + 4, 0, none⟩ 0 90 [] _ (J5.out.cell (i := 0) rfl) (J5.out.free 0)).mono ?_
  rintro e u' w'' ⟨rfl, rfl, rfl⟩
  have K3 := J3.out.other (p := ⟨w.heap.size + 4, 0, none⟩) (by dsimp only; omega) (.int .i64 90)
  have K4 := J4.out.other (p := ⟨w.heap.size + 4, 0, none⟩) (by dsimp only; omega) (.int .i64 90)
  have K5 := J5.out.set 0 (.int .i64 90)
  have hx6 := hx5.set (p := ⟨w.heap.size + 4, 0, none⟩) (by dsimp only; omega) (.int .i64 90)
  simp only [settle, List.dropWhile_nil]
  refine leaves_cons (f := 46) (args := #[.pointer (some ⟨w.heap.size + 4, 0, none⟩), .pointer (some ⟨w.heap.size + 2, 0, none⟩), .pointer (some ⟨w.heap.size + 3, 0, none⟩)]) (by simp) (by simp [go_sem]) ?_
  refine (nat_div1_errD (w.heap.size + 4) (w.heap.size + 2) (w.heap.size + 3) 90 _ _ _ _ _ K5 (by decide) K3 K4 (by omega)).mono ?_
  rintro e u' w'' ⟨rfl, rfl, rfl⟩
  have L3 := (((K3.set 0 (.bool false)).set 1 (.slice none 0 0)).other (p := ⟨w.heap.size + 3, 0, none⟩) (by dsimp only; omega) (.bool false)).other (p := ⟨w.heap.size + 3, 1, none⟩) (by dsimp only; omega) (.slice none 0 0)
  have L4 := (((K4.other (p := ⟨w.heap.size + 2, 0, none⟩) (by dsimp only; omega) (.bool false)).other (p := ⟨w.heap.size + 2, 1, none⟩) (by dsimp only; omega) (.slice none 0 0)).set 0 (.bool false)).set 1 (.slice none 0 0)
  have L5 := (((K5.other (p := ⟨w.heap.size + 2, 0, none⟩) (by dsimp only; omega) (.bool false)).other (p := ⟨w.heap.size + 2, 1, none⟩) (by dsimp only; omega) (.slice none 0 0)).other (p := ⟨w.heap.size + 3, 0, none⟩) (by dsimp only; omega) (.bool false)).other (p := ⟨w.heap.size + 3, 1, none⟩) (by dsimp only; omega) (.slice none 0 0)
  have hx7 := (((hx6.set (p := ⟨w.heap.size + 2, 0, none⟩) (by dsimp only; omega) (.bool false)).set (p := ⟨w.heap.size + 2, 1, none⟩) (by dsimp only; omega) (.slice none 0 0)).set (p := ⟨w.heap.size + 3, 0, none⟩) (by dsimp only; omega) (.bool false)).set (p := ⟨w.heap.size + 3, 1, none⟩) (by dsimp only; omega) (.slice none 0 0)
  have e0 := L3.cell (i := 0) (v := .bool false) rfl
  have e1 := L3.cell (i := 1) (v := .slice none 0 0) rfl
  have e2 := L4.cell (i := 0) (v := .bool false) rfl
  have e3 := L4.cell (i := 1) (v := .slice none 0 0) rfl
  have e4 := L5.cell (i := 0) (v := .int .i64 90) rfl
  simp [Leaves, settle, results, Tryd.results14, go_sem, e0, e1, e2, e3, e4]
  exact hx7

set_option maxHeartbeats 1000000 in
theorem nat_Div_zero (n1 n2 : Bool) (a b : Option Addr) (ca cb : Nat) (l : List Int) (w : World) (h : Ints w a ca l) (k : Ints w b cb []) (hb1 : chkB n1 l = true) (hb2 : chkB n2 [] = true) :
    Calls Tryd.prog 14 #[.agg #[.bool n1, .slice a l.length ca], .agg #[.bool n2, .slice b 0 cb]] w fun e w' => e = .returned (.tuple #[zeroBig, zeroBig, .int .i64 1]) ∧ Ext w w' := by
  obtain ⟨w3, hw3, B1, B2, B3, B4, B5, hx, hs3⟩ := boxes5 w #[.bool n1, .slice a l.length ca] #[.bool n2, .slice b 0 cb] #[.bool false, .slice none 0 0] #[.bool false, .slice none 0 0] #[.int .i64 0] 24 24 24 24 27
  have hx4 := hx.alloc' (.cells #[.bool n1, .slice a l.length ca, .bool n2, .slice b 0 cb] 24)
  have c0 := B1.cell (i := 0) (v := .bool n1) rfl
  have c1 := B1.cell (i := 1) (v := .slice a l.length ca) rfl
  have c2 := B2.cell (i := 0) (v := .bool n2) rfl
  have c3 := B2.cell (i := 1) (v := .slice b 0 cb) rfl
  have H2 := Lib.hid (B2.alloc (.cells #[.bool n1, .slice a l.length ca, .bool n2, .slice b 0 cb] 24))
  have H3 := Lib.hid (B3.alloc (.cells #[.bool n1, .slice a l.length ca, .bool n2, .slice b 0 cb] 24))
  have H4 := Lib.hid (B4.alloc (.cells #[.bool n1, .slice a l.length ca, .bool n2, .slice b 0 cb] 24))
  have H5 := Lib.hid (B5.alloc (.cells #[.bool n1, .slice a l.length ca, .bool n2, .slice b 0 cb] 24))
  have HW := Lib.hid hw3
  have HC := Lib.hid (nat_check_ok w3.heap.size n1 n2 a b ca cb l [] _ (h.ext hx4) (k.ext hx4) (Blk.new0 w3 _ _) hb1 hb2)
  clear hb1 hb2 h k B1 B2 B3 B4 B5 hw3
  go_enter_defers Tryd.func14, Tryd.ntmps14
  go_upto_region 1 with fail
  rw [HW.out]
  simp only [Nat.add_assoc, Nat.reduceAdd]
  go_wp2_with fail
  rw [hs3] at HC
  refine HC.out.mono ?_
  rintro e w5 ⟨rfl, hy⟩
  have J2 := Lib.hid (H2.out.ext hy)
  have J3 := Lib.hid (H3.out.ext hy)
  have J4 := Lib.hid (H4.out.ext hy)
  have J5 := Lib.hid (H5.out.ext hy)
  have hx5 := hx4.trans hy
  clear c0 c1 c2 c3 HC H2 H3 H4 H5
  have c2 := J2.out.cell (i := 1) (v := .slice b 0 cb) rfl
  have d0 := J3.out.cell (i := 0) (v := .bool false) rfl
  have d1 := J3.out.cell (i := 1) (v := .slice none 0 0) rfl
  have d2 := J4.out.cell (i := 0) (v := .bool false) rfl
  have d3 := J4.out.cell (i := 1) (v := .slice none 0 0) rfl
  have d4 := J5.out.cell (i := 0) (v := .int .i64 0) rfl
  have f0 := J3.out.free 0
  have f1 := J3.out.free 1
  have f2 := J4.out.free 0
  have f3 := J4.out.free 1
  have f4 := J5.out.free 0
  go_upto_region 5 with fail
  have K3 := J3.out
  have K4 := J4.out
  have K5 := J5.out
  have K3a := (K3.set 0 (.bool false)).set 1 (.slice none 0 0)
  have K4a := (K4.other (p := ⟨w.heap.size + 2, 0, none⟩) (by dsimp only; omega) (.bool false)).other (p := ⟨w.heap.size + 2, 1, none⟩) (by dsimp only; omega) (.slice none 0 0)
  have K5a := (K5.other (p := ⟨w.heap.size + 2, 0, none⟩) (by dsimp only; omega) (.bool false)).other (p := ⟨w.heap.size + 2, 1, none⟩) (by dsimp only; omega) (.slice none 0 0)
  have K3b := (K3a.other (p := ⟨w.heap.size + 3, 0, none⟩) (by dsimp only; omega) (.bool false)).other (p := ⟨w.heap.size + 3, 1, none⟩) (by dsimp only; omega) (.slice none 0 0)
  have K4b := (K4a.set 0 (.bool false)).set 1 (.slice none 0 0)
  have K5b := (K5a.other (p := ⟨w.heap.size + 3, 0, none⟩) (by dsimp only; omega) (.bool false)).other (p := ⟨w.heap.size + 3, 1, none⟩) (by dsimp only; omega) (.slice none 0 0)
  have K3c := (K3b.other (p := ⟨w.heap.size + 4, 0, none⟩) (by dsimp only; omega) (.int .i64 1)).drew
  have K4c := (K4b.other (p := ⟨w.heap.size + 4, 0, none⟩) (by dsimp only; omega) (.int .i64 1)).drew
  have K5c := (K5b.set 0 (.int .i64 1)).drew
  have hxf := (((((hx5.set (p := ⟨w.heap.size + 2, 0, none⟩) (by dsimp only; omega) (.bool false)).set (p := ⟨w.heap.size + 2, 1, none⟩) (by dsimp only; omega) (.slice none 0 0)).set (p := ⟨w.heap.size + 3, 0, none⟩) (by dsimp only; omega) (.bool false)).set (p := ⟨w.heap.size + 3, 1, none⟩) (by dsimp only; omega) (.slice none 0 0)).set (p := ⟨w.heap.size + 4, 0, none⟩) (by dsimp only; omega) (.int .i64 1)).drew
  have HH := Lib.hid (show ((_ ∧ _) ∧ _) ∧ _ from ⟨⟨⟨K3c, K4c⟩, K5c⟩, hxf⟩)
  have s0 : w5.drew.cell? ⟨w.heap.size + 2, 0, none⟩ = some (.bool false) ∧ w5.drew.cell? ⟨w.heap.size + 2, 1, none⟩ = some (.slice none 0 0) ∧ w5.drew.cell? ⟨w.heap.size + 3, 0, none⟩ = some (.bool false) ∧ w5.drew.cell? ⟨w.heap.size + 3, 1, none⟩ = some (.slice none 0 0) := ⟨d0, d1, d2, d3⟩
  have hA2 : ∀ {A : World}, A.drew.cell? ⟨w.heap.size + 2, 0, none⟩ = some (.bool false) ∧ A.drew.cell? ⟨w.heap.size + 2, 1, none⟩ = some (.slice none 0 0) ∧ A.drew.cell? ⟨w.heap.size + 3, 0, none⟩ = some (.bool false) ∧ A.drew.cell? ⟨w.heap.size + 3, 1, none⟩ = some (.slice none 0 0) → ((A.setCell ⟨w.heap.size + 2, 0, none⟩ (.bool false)).setCell ⟨w.heap.size + 2, 1, none⟩ (.slice none 0 0)).drew.cell? ⟨w.heap.size + 2, 0, none⟩ = some (.bool false) ∧ ((A.setCell ⟨w.heap.size + 2, 0, none⟩ (.bool false)).setCell ⟨w.heap.size + 2, 1, none⟩ (.slice none 0 0)).drew.cell? ⟨w.heap.size + 2, 1, none⟩ = some (.slice none 0 0) ∧ ((A.setCell ⟨w.heap.size + 2, 0, none⟩ (.bool false)).setCell ⟨w.heap.size + 2, 1, none⟩ (.slice none 0 0)).drew.cell? ⟨w.heap.size + 3, 0, none⟩ = some (.bool false) ∧ ((A.setCell ⟨w.heap.size + 2, 0, none⟩ (.bool false)).setCell ⟨w.heap.size + 2, 1, none⟩ (.slice none 0 0)).drew.cell? ⟨w.heap.size + 3, 1, none⟩ = some (.slice none 0 0) := fun h => ⟨set_keeps (set_keeps h.1 h.2.1) (set_keeps h.1 h.1), set_keeps (set_keeps h.1 h.2.1) (set_keeps h.1 h.2.1), set_keeps (set_keeps h.1 h.2.1) (set_keeps h.1 h.2.2.1), set_keeps (set_keeps h.1 h.2.1) (set_keeps h.1 h.2.2.2)⟩
  have hA3 : ∀ {A : World}, A.drew.cell? ⟨w.heap.size + 2, 0, none⟩ = some (.bool false) ∧ A.drew.cell? ⟨w.heap.size + 2, 1, none⟩ = some (.slice none 0 0) ∧ A.drew.cell? ⟨w.heap.size + 3, 0, none⟩ = some (.bool false) ∧ A.drew.cell? ⟨w.heap.size + 3, 1, none⟩ = some (.slice none 0 0) → ((A.setCell ⟨w.heap.size + 3, 0, none⟩ (.bool false)).setCell ⟨w.heap.size + 3, 1, none⟩ (.slice none 0 0)).drew.cell? ⟨w.heap.size + 2, 0, none⟩ = some (.bool false) ∧ ((A.setCell ⟨w.heap.size + 3, 0, none⟩ (.bool false)).setCell ⟨w.heap.size + 3, 1, none⟩ (.slice none 0 0)).drew.cell? ⟨w.heap.size + 2, 1, none⟩ = some (.slice none 0 0) ∧ ((A.setCell ⟨w.heap.size + 3, 0, none⟩ (.bool false)).setCell ⟨w.heap.size + 3, 1, none⟩ (.slice none 0 0)).drew.cell? ⟨w.heap.size + 3, 0, none⟩ = some (.bool false) ∧ ((A.setCell ⟨w.heap.size + 3, 0, none⟩ (.bool false)).setCell ⟨w.heap.size + 3, 1, none⟩ (.slice none 0 0)).drew.cell? ⟨w.heap.size + 3, 1, none⟩ = some (.slice none 0 0) := fun h => ⟨set_keeps (set_keeps h.2.2.1 h.2.2.2) (set_keeps h.2.2.1 h.1), set_keeps (set_keeps h.2.2.1 h.2.2.2) (set_keeps h.2.2.1 h.2.1), set_keeps (set_keeps h.2.2.1 h.2.2.2) (set_keeps h.2.2.1 h.2.2.1), set_keeps (set_keeps h.2.2.1 h.2.2.2) (set_keeps h.2.2.1 h.2.2.2)⟩
  have hA4 : ∀ {A : World} (x : Value), A.drew.cell? ⟨w.heap.size + 2, 0, none⟩ = some (.bool false) ∧ A.drew.cell? ⟨w.heap.size + 2, 1, none⟩ = some (.slice none 0 0) ∧ A.drew.cell? ⟨w.heap.size + 3, 0, none⟩ = some (.bool false) ∧ A.drew.cell? ⟨w.heap.size + 3, 1, none⟩ = some (.slice none 0 0) → (A.setCell ⟨w.heap.size + 4, 0, none⟩ x).drew.cell? ⟨w.heap.size + 2, 0, none⟩ = some (.bool false) ∧ (A.setCell ⟨w.heap.size + 4, 0, none⟩ x).drew.cell? ⟨w.heap.size + 2, 1, none⟩ = some (.slice none 0 0) ∧ (A.setCell ⟨w.heap.size + 4, 0, none⟩ x).drew.cell? ⟨w.heap.size + 3, 0, none⟩ = some (.bool false) ∧ (A.setCell ⟨w.heap.size + 4, 0, none⟩ x).drew.cell? ⟨w.heap.size + 3, 1, none⟩ = some (.slice none 0 0) := fun {A} x (h : A.cell? ⟨w.heap.size + 2, 0, none⟩ = some (.bool false) ∧ A.cell? ⟨w.heap.size + 2, 1, none⟩ = some (.slice none 0 0) ∧ A.cell? ⟨w.heap.size + 3, 0, none⟩ = some (.bool false) ∧ A.cell? ⟨w.heap.size + 3, 1, none⟩ = some (.slice none 0 0)) => by
    have : (A.setCell ⟨w.heap.size + 4, 0, none⟩ x).cell? ⟨w.heap.size + 2, 0, none⟩ = some (.bool false) ∧ (A.setCell ⟨w.heap.size + 4, 0, none⟩ x).cell? ⟨w.heap.size + 2, 1, none⟩ = some (.slice none 0 0) ∧ (A.setCell ⟨w.heap.size + 4, 0, none⟩ x).cell? ⟨w.heap.size + 3, 0, none⟩ = some (.bool false) ∧ (A.setCell ⟨w.heap.size + 4, 0, none⟩ x).cell? ⟨w.heap.size + 3, 1, none⟩ = some (.slice none 0 0) := by
      refine ⟨?_, ?_, ?_, ?_⟩ <;> rw [World.cell?_setCell_far _ _ _ _ (by dsimp only; omega)]
      · exact h.1
      · exact h.2.1
      · exact h.2.2.1
      · exact h.2.2.2
    exact this
  have g0 := K3.cell (i := 0) (v := .bool false) rfl
  have g1 := (K3.set 0 (.bool false)).cell (i := 1) (v := .slice none 0 0) rfl
  have g2 := K4a.cell (i := 0) (v := .bool false) rfl
  have g3 := (K4a.set 0 (.bool false)).cell (i := 1) (v := .slice none 0 0) rfl
  have g4 := K5b.cell (i := 0) (v := .int .i64 0) rfl
  have h0 := K3.free 0
  have h1 := (K3.set 0 (.bool false)).free 1
  have h2 := K4a.free 0
  have h3 := (K4a.set 0 (.bool false)).free 1
  have h4 := K5b.free 0
  clear K3 K4 K5 K3a K4a K5a K3b K4b K5b K3c K4c K5c hxf
  refine wp_region_noPanic ?_
  refine of_impl (A := ?A3) ?region3 ?cont3
  case region3 =>
    intro hFin
    refine wp_region_held_drew (S := (fun w' => w'.cell? ⟨w.heap.size + 2, 0, none⟩ = some (.bool false) ∧ w'.cell? ⟨w.heap.size + 2, 1, none⟩ = some (.slice none 0 0) ∧ w'.cell? ⟨w.heap.size + 3, 0, none⟩ = some (.bool false) ∧ w'.cell? ⟨w.heap.size + 3, 1, none⟩ = some (.slice none 0 0))) (by kernel_rfl) ?_ (fun hHeld => ?_)
    · (first | with_reducible exact s0 | with_reducible exact hA2 hHeld | with_reducible exact hA3 hHeld | with_reducible exact hA4 _ hHeld)
    refine wpAnyH_take (i := 0) (oi := _) (v := ?_) rfl (by kernel_rfl) (by kernel_rfl) (by kernel_rfl) (fun _ _ _ h => h) (Or.inl ⟨by rfl, ?_⟩) (by assumption) ?_
    rotate_left
    · (intro w hSw; (try dsimp only at hSw); (try go_simp); (try with_reducible rfl))
    (try simp only [Act.put, List.getElem_toArray, List.getElem_cons_succ, List.getElem_cons_zero, List.setIfInBounds_toArray, List.set_cons_zero, List.set_cons_succ])
    refine wpAnyH_take (i := 1) (oi := _) (v := ?_) rfl (by kernel_rfl) (by kernel_rfl) (by kernel_rfl) (fun _ _ _ h => h) (Or.inl ⟨by rfl, ?_⟩) (by assumption) ?_
    rotate_left
    · (intro w hSw; (try dsimp only at hSw); (try go_simp); (try with_reducible rfl))
    (try simp only [Act.put, List.getElem_toArray, List.getElem_cons_succ, List.getElem_cons_zero, List.setIfInBounds_toArray, List.set_cons_zero, List.set_cons_succ])
    refine wpAnyH_ready (rs := [2]) (by kernel_rfl) (by simp) ?_
    refine AllReadyH.cons (o := _) rfl (fun K hK => ?_) ?_
    · go_simp
      refine hK.out _ _ ?_ (fun hHeld2 => ?_)
      · (first | with_reducible exact s0 | with_reducible exact hA2 hHeld | with_reducible exact hA3 hHeld | with_reducible exact hA4 _ hHeld)
      clear hK K hHeld
      have hHeld := hHeld2
      clear hHeld2
      (try simp only [Act.put, List.getElem_toArray, List.getElem_cons_succ, List.getElem_cons_zero, List.setIfInBounds_toArray, List.set_cons_zero, List.set_cons_succ])
      refine wpAnyH_ready (rs := [3]) (by kernel_rfl) (by simp) ?_
      refine AllReadyH.cons (o := _) rfl (fun K hK => ?_) ?_
      · go_simp
        refine hK.out _ _ ?_ (fun hHeld2 => ?_)
        · (first | with_reducible exact s0 | with_reducible exact hA2 hHeld | with_reducible exact hA3 hHeld | with_reducible exact hA4 _ hHeld)
        clear hK K hHeld
        have hHeld := hHeld2
        clear hHeld2
        (try simp only [Act.put, List.getElem_toArray, List.getElem_cons_succ, List.getElem_cons_zero, List.setIfInBounds_toArray, List.set_cons_zero, List.set_cons_succ])
        refine wpAnyH_ready (rs := [4]) (by kernel_rfl) (by simp) ?_
        refine AllReadyH.cons (o := _) rfl (fun K hK => ?_) ?_
        · go_simp
          refine hK.out _ _ ?_ (fun hHeld2 => ?_)
          · (first | with_reducible exact s0 | with_reducible exact hA2 hHeld | with_reducible exact hA3 hHeld | with_reducible exact hA4 _ hHeld)
          clear hK K hHeld
          have hHeld := hHeld2
          clear hHeld2
          (try simp only [Act.put, List.getElem_toArray, List.getElem_cons_succ, List.getElem_cons_zero, List.setIfInBounds_toArray, List.set_cons_zero, List.set_cons_succ])
          refine wpAnyH_done (by kernel_rfl) ?_ _
          exact hFin
        exact AllReadyH.nil
      exact AllReadyH.nil
    exact AllReadyH.nil
  refine NoPanic.normal ?_
  go_wp2_with fail
  obtain ⟨⟨⟨K3, K4⟩, K5⟩, hxf⟩ := HH.out
  clear g0 g1 g2 g3 g4 h0 h1 h2 h3 h4 HH
  refine leaves_cons (f := 47) (args := #[.pointer (some ⟨w.heap.size + 4, 0, none⟩)]) (by simp) (by simp [go_sem]) ?_
  refine (nat_caught_idle ⟨w.heap.size + 4, 0, none⟩ _).mono ?_
  rintro e u' w'' ⟨rfl, rfl, rfl⟩
  simp only [settle]
  generalize (((((w5.setCell ⟨w.heap.size + 2, 0, none⟩ (.bool false)).setCell ⟨w.heap.size + 2, 1, none⟩ (.slice none 0 0)).setCell ⟨w.heap.size + 3, 0, none⟩ (.bool false)).setCell ⟨w.heap.size + 3, 1, none⟩ (.slice none 0 0)).setCell ⟨w.heap.size + 4, 0, none⟩ (.int .i64 1)).drew = w9 at *
  refine leaves_cons (f := 46) (args := #[.pointer (some ⟨w.heap.size + 4, 0, none⟩), .pointer (some ⟨w.heap.size + 2, 0, none⟩), .pointer (some ⟨w.heap.size + 3, 0, none⟩)]) (by simp) (by simp [go_sem]) ?_
  refine (nat_div1_errD (w.heap.size + 4) (w.heap.size + 2) (w.heap.size + 3) 1 (.bool false) (.slice none 0 0) (.bool false) (.slice none 0 0) _ K5 (by decide) K3 K4 (by omega)).mono ?_
  rintro e u' w'' ⟨rfl, rfl, rfl⟩
  have L3 := (((K3.set 0 (.bool false)).set 1 (.slice none 0 0)).other (p := ⟨w.heap.size + 3, 0, none⟩) (by dsimp only; omega) (.bool false)).other (p := ⟨w.heap.size + 3, 1, none⟩) (by dsimp only; omega) (.slice none 0 0)
  have L4 := (((K4.other (p := ⟨w.heap.size + 2, 0, none⟩) (by dsimp only; omega) (.bool false)).other (p := ⟨w.heap.size + 2, 1, none⟩) (by dsimp only; omega) (.slice none 0 0)).set 0 (.bool false)).set 1 (.slice none 0 0)
  have L5 := (((K5.other (p := ⟨w.heap.size + 2, 0, none⟩) (by dsimp only; omega) (.bool false)).other (p := ⟨w.heap.size + 2, 1, none⟩) (by dsimp only; omega) (.slice none 0 0)).other (p := ⟨w.heap.size + 3, 0, none⟩) (by dsimp only; omega) (.bool false)).other (p := ⟨w.heap.size + 3, 1, none⟩) (by dsimp only; omega) (.slice none 0 0)
  have hx7 := (((hxf.set (p := ⟨w.heap.size + 2, 0, none⟩) (by dsimp only; omega) (.bool false)).set (p := ⟨w.heap.size + 2, 1, none⟩) (by dsimp only; omega) (.slice none 0 0)).set (p := ⟨w.heap.size + 3, 0, none⟩) (by dsimp only; omega) (.bool false)).set (p := ⟨w.heap.size + 3, 1, none⟩) (by dsimp only; omega) (.slice none 0 0)
  have e0 := L3.cell (i := 0) (v := .bool false) rfl
  have e1 := L3.cell (i := 1) (v := .slice none 0 0) rfl
  have e2 := L4.cell (i := 0) (v := .bool false) rfl
  have e3 := L4.cell (i := 1) (v := .slice none 0 0) rfl
  have e4 := L5.cell (i := 0) (v := .int .i64 1) rfl
  simp [Leaves, settle, results, Tryd.results14, go_sem, e0, e1, e2, e3, e4]
  exact hx7
end Go.Proofs.YtpaaanbcadlhiaaDoor
