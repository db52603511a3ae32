import Derived.Test.YtnpeakahiedeoaaGreatDoorPLong
import Derived.Test.YtnpeakahiedeoaaGreatDoorPGcd
namespace Go.Proofs.YtnpeakahiedeoaaGreatDoor
open Go.RowKit Go BigFrame Go.Shelf
set_option maxRecDepth 100000
set_option linter.unusedSimpArgs false

/-! nat.div for all digits, and so nat.Gcd and nat.Div. -/
set_option maxHeartbeats 1000000 in
theorem nat_div_long (a b : Option Addr) (ca cb j0 : Nat) (l m : List Int) (w : World) (h : Ints w a ca l) (k : Ints w b cb m) (hl : Norm l) (hm : Norm m) (hmk : m.length = j0 + 2) (h1 : l.length ≤ 99990) (hge : dval m ≤ dval l) :
    Calls Tryz.prog 83 #[.slice a l.length ca, .slice b (j0 + 2 : Nat) cb] w (DivP l m a w) := by
  have HC := Lib.hid (nat_compare a b ca cb l m w h k hl hm)
  rw [hmk] at HC
  have hc : decide (cmpI (dval l) (dval m) < 0) = false := by rw [decide_eq_false_iff_not]; unfold cmpI; split <;> (try split) <;> omega
  have HL := Lib.hid (fun W (hy : Ext w W) => nat_long a b ca cb j0 l.length l m W (h.ext hy) (k.ext hy) hl hm hmk rfl h1 hge)
  have hcb := k.le
  have hcm := k.mx
  rw [hmk] at hcb
  have hla := h.le
  have hlm := h.mx
  have t1 : (((j0 : Int) + 2) == 1) = false := by simp; omega
  generalize cmpI (dval l) (dval m) = cm at *
  have HF : Hid (∀ aq cq ar cr w2 w', Ext w w2 → DivP l m a w2 (.returned (.tuple #[.slice aq (digs (dval l / dval m).toNat).length cq, .slice ar (digs (dval l % dval m).toNat).length cr])) w' → DivP l m a w (.returned (.tuple #[.slice aq (digs (dval l / dval m).toNat).length cq, .slice ar (digs (dval l % dval m).toNat).length cr])) w') :=
    Lib.hid (fun aq cq ar cr w2 w' hx ⟨aq', cq', ar', cr', he, h1, h2, h3, h4, h5⟩ => ⟨aq', cq', ar', cr', he, h1, h2, fun A hA => Nat.le_trans hx.size (h3 A hA), fun A hA => (h4 A hA).imp (fun h => Nat.le_trans hx.size h) id, hx.trans h5⟩)
  clear h k hl hm hmk hge
  go_enter Tryz.func83, Tryz.ntmps83
  go_wp2_with fail
  refine HC.out.mono ?_
  rintro e w2 ⟨rfl, hy⟩
  have HL2 := Lib.hid (HL.out w2 hy)
  go_wp2_with fail
  refine HL2.out.mono ?_
  rintro e w3 ⟨aq, cq, ar, cr, rfl, hr⟩
  have HR := Lib.hid (HF.out aq cq ar cr w2 w3 hy ⟨aq, cq, ar, cr, rfl, hr⟩)
  clear hr
  go_wp2_with fail
  go_ret2
  exact HR.out
theorem div_ok : DivOk 2048 := fun a b ca cb l m w h k hl hm hne h1 h2 => by
  by_cases hlt : dval l < dval m
  · exact nat_div_lt a b ca cb l m w h k hl hm hlt
  · have hpos := List.length_pos_iff.2 hne
    by_cases h3 : m.length = 1
    · obtain ⟨d, rfl⟩ := List.length_eq_one_iff.1 h3
      have hdv : dval [d] = d := by simp only [dval]; omega
      exact nat_div_one a b ca cb l d w h k hl hm (by omega) (by rw [hdv] at hlt; omega)
    · obtain ⟨j0, hj⟩ : ∃ j0, m.length = j0 + 2 := ⟨m.length - 2, by omega⟩
      have := nat_div_long a b ca cb j0 l m w h k hl hm hj (by omega) (by omega)
      rw [← hj] at this
      exact this
theorem gcd_any {v u : Value} {z y : Int} {w : World} (hv : BigV w v z) (hu : BigV w u y) (hz : Len z) (hy : Len y) : Calls Tryz.prog 44 #[v, u] w (GcdP (Int.gcd z y : Nat) w) := gcd_val (Nat.le_refl _) div_ok hv hu hz hy
theorem div_any {v u : Value} {z y : Int} {w : World} (hv : BigV w v z) (hu : BigV w u y) (hz : Len z) (hy : Len y) (hne : y ≠ 0) : Calls Tryz.prog 67 #[v, u] w (DivO z y w) := div_val (Nat.le_refl _) div_ok hv hu hz hy hne
end Go.Proofs.YtnpeakahiedeoaaGreatDoor
