import Derived.Test.YtolffmmkjnhkkaaGreatMG
import Derived.Test.YtolffmmkjnhkkaaGreatMH
import Derived.OwnWalk
import Derived.Deep.QuietTactic
namespace Go.Proofs.YtolffmmkjnhkkaaGreat
open Go.RowKit Go BigFrame Go.Shelf
set_option maxRecDepth 100000
set_option linter.unusedSimpArgs false
set_option linter.unusedVariables false
attribute [local go_sem] Oper.semAt_some

/-! Layer 40: blocks that are laid by hand; the law's means. -/
def Fits (l : List Int) : Prop := ∀ x ∈ l, -1000000 ≤ x ∧ x ≤ 1000000
theorem ints_lit {w : World} {b : Nat} {t : TypeId} {l : List Int} (h : Blk w b (l.map (Value.int .i64)).toArray t) (hr : Fits l) (hl : l.length ≤ 1000000) : Ints w (some ⟨b, 0, none⟩) l.length l :=
  ⟨Nat.le_refl _, by omega, fun h => by (cases h), fun A hA i hi => by
    cases hA
    have h1 := hr _ (List.getElem_mem hi)
    refine ⟨rfl, .int .i64 l[i], ?_, ?_⟩
    · simp only [Nat.zero_add]
      exact h.cell (by simp [hi])
    · exact ⟨rfl, by omega, by omega⟩⟩
theorem rows_lit1 {w : World} {b : Nat} {t : TypeId} {a : Option Addr} {cap : Nat} {l : List Int} (h : Blk w b #[.slice a l.length cap] t) (hi : Ints w a cap l) : Rows w (some ⟨b, 0, none⟩) 1 [l] :=
  ⟨by simp, by simp, fun h => by (cases h), fun A hA i hi' => by
    cases hA
    have e : i = 0 := by simp at hi'; omega
    subst e
    exact ⟨rfl, .slice a l.length cap, h.cell rfl, a, cap, rfl, hi⟩⟩
theorem rows_lit2 {w : World} {b : Nat} {t : TypeId} {a a2 : Option Addr} {cap cap2 : Nat} {l l2 : List Int} (h : Blk w b #[.slice a l.length cap, .slice a2 l2.length cap2] t) (hi : Ints w a cap l) (hj : Ints w a2 cap2 l2) : Rows w (some ⟨b, 0, none⟩) 2 [l, l2] :=
  ⟨by simp, by simp, fun h => by (cases h), fun A hA i hi' => by
    cases hA
    have e : i = 0 ∨ i = 1 := by simp at hi'; omega
    rcases e with rfl | rfl
    · exact ⟨rfl, .slice a l.length cap, h.cell rfl, a, cap, rfl, hi⟩
    · exact ⟨rfl, .slice a2 l2.length cap2, h.cell (i := 1) rfl, a2, cap2, rfl, hj⟩⟩
theorem lit_rows1 (w : World) {a : Option Addr} {cap : Nat} {l : List Int} (h : Ints w a cap l) : ∃ x, w.alloc (.cells #[.slice a l.length cap] 34) = x ∧ Ext w x ∧ Rows x (some ⟨w.heap.size, 0, none⟩) 1 [l] :=
  ⟨_, rfl, Ext.alloc _ _, rows_lit1 (Blk.new0 w _ _) (h.ext (Ext.alloc _ _))⟩
theorem lit_ints (w : World) (l : List Int) (hr : Fits l) (hl : l.length ≤ 1000000) : ∃ x, w.alloc (.cells (l.map (Value.int .i64)).toArray 3) = x ∧ Ext w x ∧ Ints x (some ⟨w.heap.size, 0, none⟩) l.length l :=
  ⟨_, rfl, Ext.alloc _ _, ints_lit (Blk.new0 w _ _) hr hl⟩
theorem errM_one {l : List Int} {n : Nat} (hn : l.length = n) (h : n ≤ 256) (hm : ∀ x ∈ l, -1 ≤ x ∧ x ≤ 1000) : errM [l] n false = 0 := by
  unfold errM
  have hb : l.any badM = false := by
    rw [List.any_eq_false]
    intro x hx
    have := hm x hx
    unfold badM
    rw [decide_eq_false (by omega), decide_eq_false (by omega)]
    simp
  rw [if_neg (by simp; omega), if_neg (by simp [longM]; omega), if_neg (by unfold wrongM; simp [hb]), if_neg (by simp [hn]), if_neg (by simp)]
set_option maxHeartbeats 4000000 in
theorem law40_means (a : Option Addr) (cap : Nat) (l : List Int) (s : Option Addr) (sc : Nat) (L : List RatA) (S : List Rat) (want : Int) (w : World) (h : Ints w a cap l) (k : RatsI w s sc L) (hV : ValL L S 7) (hok : L.any (fun x => !x.ok) = false)
    (hl : l.length = L.length) (hL : L.length ≤ 10) (hm : ∀ x ∈ l, -1 ≤ x ∧ x ≤ 1000) (hw : -1000 ≤ want ∧ want ≤ 1000) (hmean : meanO l S = some (Rat.divInt want 2)) :
    Calls Tryz.prog 24 #[.slice a l.length cap, .slice s L.length sc, .int .i64 want] w fun e w' => e = .returned (.bool true) ∧ Ext w w' := by
  have hle := h.le
  have hmx := h.mx
  have sle := k.le
  have smx := k.mx
  obtain ⟨x1, hw1, hx, hR⟩ := lit_rows1 w h
  have HM := corrected_Means (some ⟨w.heap.size, 0, none⟩) 1 [l] s sc L S x1 hR (k.ext hx) (fun _ => ⟨hV, by omega⟩)
  rw [hok, errM_one hl (by omega) hm] at HM
  have HM := Lib.hid HM
  replace hw1 := Lib.hid hw1
  have HMN := Lib.hid hmean
  have HX := Lib.hid hx
  have HW := Lib.hid hw
  clear h k hV hok hm hmean hR hx hl hL
  go_enter Tryz.func24, Tryz.ntmps24
  go_wp2_with fail
  rw [hw1.out]
  refine HM.out.mono ?_
  rintro e x2 (⟨-, v, xs, rfl, hO, hy⟩ | ⟨h0, -⟩)
  rotate_left
  · exact absurd rfl h0
  have hxl : xs.length = 1 := by have := hO.len; simpa using this
  obtain ⟨va, vc, rfl, hvl, hvc⟩ := hO.form
  rw [hxl] at *
  have HO := Lib.hid hO
  have HXL := Lib.hid hxl
  have HX2 := Lib.hid (HX.out.trans hy)
  clear hO hxl hy HM hw1
  obtain ⟨x3, hw3, hx3, hI3⟩ := lit_ints x2 [want] (fun x hx => by rw [List.mem_singleton.1 hx]; have := HW.out; omega) (by simp)
  simp only [List.map_cons, List.map_nil] at hw3
  replace hw3 := Lib.hid hw3
  have HLI := Lib.hid (law40_list _ _ [want] x3 hI3 (fun x hx => by rw [List.mem_singleton.1 hx]; have := HW.out; omega) (by simp))
  simp only [List.length_singleton] at HLI
  have HX3 := Lib.hid hx3
  clear hI3 hx3 hw
  go_wp2_with fail
  rw [hw3.out]
  refine HLI.out.mono ?_
  rintro e x4 ⟨v2, ys, rfl, hO2, hy⟩
  obtain ⟨ua, uc, e2⟩ := hO2.row
  obtain ⟨ra, rc, e1⟩ := (HO.out.ext (HX3.out.trans hy)).row
  have HS := ref10_SameList _ _ _ _ x4 e1.1 e2.1 (by dsimp only; unfold halves; simp [HMN.out])
  have HX4 := Lib.hid ((HX2.out.trans HX3.out).trans hy)
  rw [e2.2] at HS ⊢
  have HS := Lib.hid HS
  clear hO2 hy e1 e2
  go_wp2_with fail
  refine HS.out.mono ?_
  rintro e x5 ⟨rfl, hy⟩
  have HX5 := Lib.hid (HX4.out.trans hy)
  clear hy
  go_wp2_with fail
  go_ret
  exact ⟨rfl, HX5.out⟩
end Go.Proofs.YtolffmmkjnhkkaaGreat
