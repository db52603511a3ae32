import Derived.Test.YtmkleegfbapakaaDMd
import Derived.Test.YtmkleegfbapakaaDMeas2
import Derived.RangeFuncFrom
import Derived.RangeFuncNested
namespace Go.Proofs.Ytmkleegfbapakaa
open Go.RowKit Go D28 Go.Shelf

/-- The slice values of the rows, and nil beyond. -/
theorem Rows.vals2 {w : World} {a : Option Addr} {cap : Nat} {ps : List (List Int)} (h : Rows w a cap ps) :
    ∃ V : Nat → Value, (∀ i (_ : i < ps.length), ∃ b o, a = some ⟨b, o, none⟩ ∧ w.cell? ⟨b, o + i, none⟩ = some (V i)) ∧ ∀ i, ∃ a' c, V i = .slice a' (ps.getD i []).length c ∧ Ints w a' c (ps.getD i []) := by
  have : ∀ i, ∃ v, (∀ (_ : i < ps.length), ∃ b o, a = some ⟨b, o, none⟩ ∧ w.cell? ⟨b, o + i, none⟩ = some v) ∧ ∃ a' c, v = .slice a' (ps.getD i []).length c ∧ Ints w a' c (ps.getD i []) := by
    intro i
    by_cases hi : i < ps.length
    · obtain ⟨b, o, rfl⟩ := h.head hi
      obtain ⟨a', c, h1, h2⟩ := h.cell hi
      have e : ps.getD i [] = ps[i] := by simp [List.getD, hi]
      exact ⟨_, fun _ => ⟨b, o, rfl, h1⟩, a', c, by rw [e], by rw [e]; exact h2⟩
    · have e : ps.getD i [] = [] := by simp [List.getD, Nat.le_of_not_lt hi]
      rw [e]
      exact ⟨.slice none 0 0, fun h => absurd h hi, none, 0, rfl, ⟨Nat.le_refl _, by omega, fun _ => rfl, fun A hA => by cases hA⟩⟩
  exact ⟨fun i => Classical.choose (this i), fun i hi => (Classical.choose_spec (this i)).1 hi, fun i => (Classical.choose_spec (this i)).2⟩

theorem Blk.kept {w w' : World} {row : Option Nat} {b : Nat} {cs : Array Value} {t : TypeId} (h : Blk w b cs t) (hg : w.grownBy w' row) (hr : ∀ r, row = some r → ∃ o : Obj, w.heap[r]? = some o ∧ o.isCells = false) : Blk w' b cs t :=
  (grownBy_keeps_cells hg hr h rfl).trans h
theorem blk_own {β : Type} (b : Nat) (t : TypeId) (f : β → Array Value) : Own (fun s W => Blk W b (f s) t) := fun _ _ _ _ hs hg hr => Blk.kept hs hg hr
theorem Blk.put {w : World} {b l : Nat} {cs : Array Value} {t : TypeId} {o : Obj} (h : Blk w b cs t) (hl : w.heap[l]? = some o) (ho : o.isCells = false) (o' : Obj) : Blk (w.putObj l o') b cs t :=
  h.kept (grownBy_putObj' w l o') (fun r e => by cases e; exact ⟨o, hl, ho⟩)
theorem Ext.others {w w' : World} (h : Ext w w') : KeepsOthers w w' := ⟨h.size, fun k _ hk _ => (h.block k (Array.getElem?_eq_some_iff.1 hk).1).trans hk⟩
theorem kpT_b {n₀ Bs : Nat} {v : Value} {w : World} (hn : n₀ ≤ w.heap.size) (W : World) (l : Nat) (o o' : Obj) (hl : w.heap.size ≤ l) (h : W.heap[l]? = some o) (hc : o.isCells = false) (hw : o.isWalk = false) : KpT n₀ Bs v W (W.putObj l o') :=
  ⟨belowK_b hn W l o o' hl h hc hw, fun hB => hB.put h hc o'⟩
theorem later_drewN {P : Program} {f : FuncId} {args : Array Value} {w0 : World} {v : Value} {W : Later w0} (h : Calls P f args W.1 fun e w' => e = .returned v ∧ ∃ n, w' = W.1.drewN n) :
    Calls P f args W.1 fun e w'' => e = .returned v ∧ ∃ W' : Later w0, w'' = W'.1 := h.mono fun _ _ ⟨he, n, hx⟩ => ⟨he, ⟨W.1.drewN n, W.2.drewN n⟩, hx⟩

def cmap (ps : List (List Int)) (l : List (Nat × Nat)) : List Int := l.map fun p => (dCommon (ps.getD p.1 []) (ps.getD p.2 []) : Int)
theorem cmap_snoc (ps : List (List Int)) (l : List (Nat × Nat)) (x : Nat × Nat) : cmap ps (l ++ [x]) = cmap ps l ++ [(dCommon (ps.getD x.1 []) (ps.getD x.2 []) : Int)] := by simp [cmap]
theorem cmap_all (ps : List (List Int)) : cmap ps (prs ps.length 0) = dCommons ps := by
  unfold cmap prs dCommons
  simp [List.map_flatMap]
  rfl
theorem cmap_bd (ps : List (List Int)) (S : Int) (hS1 : 0 ≤ S) (l : List (Nat × Nat)) : 0 ≤ dLo S (cmap ps l) ∧ dLo S (cmap ps l) ≤ S := by
  suffices ∀ l : List Int, (∀ x ∈ l, 0 ≤ x) → 0 ≤ dLo S l ∧ dLo S l ≤ S by
    refine this _ fun x hx => ?_
    obtain ⟨p, _, rfl⟩ := List.mem_map.1 hx
    omega
  intro l hl
  unfold dLo
  suffices ∀ s : Int, 0 ≤ s → s ≤ S → 0 ≤ l.foldl min s ∧ l.foldl min s ≤ S from this S hS1 (Int.le_refl _)
  induction l with
  | nil => intro s h1 h2; exact ⟨h1, h2⟩
  | cons x l ih =>
    intro s h1 h2
    have hx := hl x (by simp)
    exact ih (fun y hy => hl y (by simp [hy])) (min s x) (by omega) (by omega)
theorem Inc.getD {ps : List (List Int)} {P Q : Nat → Prop} (h : ∀ i, i < ps.length → P i ∧ Inc (ps.getD i []) ∧ Q i) (i : Nat) : Inc (ps.getD i []) := by
  by_cases hi : i < ps.length
  · exact (h i hi).2.1
  · rw [show ps.getD i [] = [] by simp [List.getD, Nat.le_of_not_lt hi]]
    exact List.Pairwise.nil
end Go.Proofs.Ytmkleegfbapakaa
