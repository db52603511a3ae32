import Derived.Test.YtmcbbhlglccmgaaGreatQ3
import Derived.Deep.AppendLies
import Derived.Deep.LoopGhost
namespace Go.Proofs.YtmcbbhlglccmgaaGreat
open Go.RowKit Go BigFrame
set_option maxRecDepth 100000
set_option linter.unusedSimpArgs false
set_option linter.unusedVariables false

/-! Slices of integers that a call made; ratio.products. -/
structure BigC where
  n : Bool
  a : Option Addr
  q : Nat
  c : Nat
abbrev BigC.val (x : BigC) : Value := .agg #[.bool x.n, .slice x.a x.q x.c]
def BigC.cells (x : BigC) : List Value := [.bool x.n, .slice x.a x.q x.c]
/-- A slice of one's own, of integers. -/
structure OwnBigs (w : World) (B : Nat) (v : Value) (L : List BigC) (zs : List Int) : Prop where
  len : L.length = zs.length
  own : w.ownsRow B 32 2 v L.length (L.flatMap BigC.cells)
  val : ∀ i (h : i < L.length), BigV w L[i].val (zs.getD i 0)
  apart : ∀ x ∈ L, 0 < x.q → ∀ A, x.a = some A → v.ownBlock ≠ some A.block
theorem OwnBigs.nil (w : World) (B : Nat) : OwnBigs w B (.slice none 0 0) [] [] := ⟨rfl, World.ownsRow_nil _ _ _ _, fun i h => by simp at h, fun x hx => by cases hx⟩
theorem Ints.grownQ {w w' : World} {row : Option Nat} {a : Option Addr} {cap : Nat} {l : List Int} (h : Ints w a cap l) (hg : w.grownBy w' row) (hne : 0 < l.length → ∀ A, a = some A → row ≠ some A.block) : Ints w' a cap l :=
  ⟨h.le, h.mx, h.nil, fun A hA i hi => by
    obtain ⟨h1, v, hv, hr⟩ := h.cells A hA i hi
    exact ⟨h1, v, hg.cell hv (fun e => hne (by omega) A hA e.symm), hr⟩⟩
theorem BigV.grown {w w' : World} {row : Option Nat} {n : Bool} {a : Option Addr} {q c : Nat} {z : Int} (h : BigV w (.agg #[.bool n, .slice a q c]) z) (hg : w.grownBy w' row) (hne : 0 < q → ∀ A, a = some A → row ≠ some A.block) : BigV w' (.agg #[.bool n, .slice a q c]) z := by
  obtain ⟨n', l, ⟨a', c', e, hi⟩, hb⟩ := h
  simp only [Value.agg.injEq, Array.mk.injEq, List.cons.injEq, Value.bool.injEq, Value.slice.injEq, and_true] at e
  obtain ⟨rfl, rfl, rfl, rfl⟩ := e
  exact ⟨n, l, ⟨a, c, rfl, hi.grownQ hg hne⟩, hb⟩
theorem ownsRow_ext {w w' : World} {B : Nat} {t : TypeId} {s : Nat} {v : Value} {n : Nat} {xs : List Value} (h : w.ownsRow B t s v n xs) (k : Ext w w') : w'.ownsRow B t s v n xs := by
  refine ⟨h.1, ?_⟩
  rcases h.2 with h2 | ⟨g, cap, cur, e, hb, hg, hr⟩
  · exact .inl h2
  · exact .inr ⟨g, cap, cur, e, hb, (k.block g (Array.getElem?_eq_some_iff.1 hg).1).trans hg, hr⟩
theorem OwnBigs.ext {w w' : World} {B : Nat} {v : Value} {L : List BigC} {zs : List Int} (h : OwnBigs w B v L zs) (k : Ext w w') : OwnBigs w' B v L zs :=
  ⟨h.len, ownsRow_ext h.own k, fun i hi => (h.val i hi).ext k, h.apart⟩
theorem BigV.lt {w : World} {n : Bool} {a : Option Addr} {q c : Nat} {z : Int} (h : BigV w (.agg #[.bool n, .slice a q c]) z) (hq : 0 < q) : ∀ A, a = some A → A.block < w.heap.size := fun A hA => by
  obtain ⟨n', l, ⟨a', c', e, hi⟩, hb⟩ := h
  simp only [Value.agg.injEq, Array.mk.injEq, List.cons.injEq, Value.bool.injEq, Value.slice.injEq, and_true] at e
  obtain ⟨rfl, rfl, rfl, rfl⟩ := e
  obtain ⟨b, o, rfl⟩ := hi.head (i := 0) hq
  cases hA
  exact lt_of_cell (hi.cell (i := 0) hq).1
theorem OwnBigs.more {w w' : World} {B : Nat} {v : Value} {L : List BigC} {zs : List Int} {x : BigC} {z : Int} {g cap : Nat} (h : OwnBigs w B v L zs) (hx : BigV w x.val z) (hxa : 0 < x.q → ∀ A, x.a = some A → v.ownBlock ≠ some A.block)
    (hown : w'.ownsRow B 32 2 (.slice (some ⟨g, 0, none⟩) (L.length + 1) cap) (L.length + 1) (L.flatMap BigC.cells ++ x.cells)) (hg : w.grownBy w' v.ownBlock) (hat : v.ownBlock = some g ∨ g = w.heap.size) :
    OwnBigs w' B (.slice (some ⟨g, 0, none⟩) (L.length + 1) cap) (L ++ [x]) (zs ++ [z]) := by
  have hl := h.len
  refine ⟨by simp [hl], by simpa using hown, fun i hi => ?_, fun y hy hq A hA => ?_⟩
  · by_cases hk : i < L.length
    · have e0 : (zs ++ [z]).getD i 0 = zs.getD i 0 := by simp only [List.getD]; rw [List.getElem?_append_left (by omega)]
      rw [List.getElem_append_left hk, e0]
      exact (h.val i hk).grown hg (fun hq A hA => h.apart _ (List.getElem_mem hk) hq A hA)
    · have hi' : i = L.length := by simp at hi; omega
      subst hi'
      have e1 : (L ++ [x])[L.length]'(by simp) = x := by simp
      have e2 : (zs ++ [z]).getD L.length 0 = z := by rw [hl]; simp
      rw [e1, e2]
      exact hx.grown hg hxa
  · simp only [Value.ownBlock, ne_eq, Option.some.injEq]
    intro e
    rcases hat with h1 | h1
    · rcases List.mem_append.1 hy with hy | hy
      · exact h.apart y hy hq A hA (by rw [h1, e])
      · obtain rfl := List.mem_singleton.1 hy
        exact hxa hq A hA (by rw [h1, e])
    · have : A.block < w.heap.size := by
        rcases List.mem_append.1 hy with hy | hy
        · obtain ⟨i, hi, e3⟩ := List.getElem_of_mem hy
          have := h.val i hi
          rw [e3] at this
          exact this.lt hq A hA
        · obtain rfl := List.mem_singleton.1 hy
          exact hx.lt hq A hA
      omega
theorem OwnBigs.form {w : World} {B : Nat} {v : Value} {L : List BigC} {zs : List Int} (h : OwnBigs w B v L zs) : ∃ a cap, v = .slice a L.length cap ∧ L.length ≤ cap ∧ cap ≤ 9223372036854775807 := by
  rcases h.own.2 with ⟨rfl, h0⟩ | ⟨g, cap, cur, rfl, _, _, h1, h2, _⟩
  · exact ⟨none, 0, by rw [h0], by omega, by omega⟩
  · exact ⟨_, _, rfl, h1, by unfold maxLen at h2; omega⟩
theorem OwnBigs.low {w : World} {B B' : Nat} {v : Value} {L : List BigC} {zs : List Int} (h : OwnBigs w B v L zs) (hB : B' ≤ B) : OwnBigs w B' v L zs := by
  refine ⟨h.len, ⟨h.own.1, ?_⟩, h.val, h.apart⟩
  rcases h.own.2 with h2 | ⟨g, cap, cur, e, hb, hg, hr⟩
  · exact .inl h2
  · exact .inr ⟨g, cap, cur, e, by omega, hg, hr⟩
theorem flat_get (L : List BigC) (i : Nat) (h : i < L.length) : (L.flatMap BigC.cells)[2 * i]? = some (.bool L[i].n) ∧ (L.flatMap BigC.cells)[2 * i + 1]? = some (.slice L[i].a L[i].q L[i].c) := by
  induction L generalizing i with
  | nil => simp at h
  | cons x L ih =>
    cases i with
    | zero => simp [BigC.cells]
    | succ i =>
      have := ih i (by simpa using h)
      rw [show 2 * (i + 1) = 2 * i + 2 by omega]
      simpa [BigC.cells] using this
theorem OwnBigs.cells {w : World} {B : Nat} {g cap : Nat} {L : List BigC} {zs : List Int} (h : OwnBigs w B (.slice (some ⟨g, 0, none⟩) L.length cap) L zs) {i : Nat} (hi : i < L.length) :
    w.cell? ⟨g, 2 * i, none⟩ = some (.bool L[i].n) ∧ w.cell? ⟨g, 2 * i + 1, none⟩ = some (.slice L[i].a L[i].q L[i].c) := by
  obtain ⟨e1, e2⟩ := flat_get L i hi
  have h1 := World.ownsRow.cellAt h.own (2 * i) (by omega)
  have h2 := World.ownsRow.cellAt h.own (2 * i + 1) (by omega)
  exact ⟨h1.trans e1, h2.trans e2⟩
/-- Block g holds these integers, one behind the other. -/
structure BigRowC (w : World) (g : Nat) (X : List BigC) : Prop where
  c0 : ∀ i (h : i < X.length), w.cell? ⟨g, i * 2, none⟩ = some (.bool X[i].n)
  c1 : ∀ i (h : i < X.length), w.cell? ⟨g, i * 2 + 1, none⟩ = some (.slice X[i].a X[i].q X[i].c)
/-! What products and valid are asked for, in terms of values. -/
/-- What two products, or three, read as. -/
theorem OwnBigs.at {w : World} {B : Nat} {v : Value} {L : List BigC} {zs : List Int} (h : OwnBigs w B v L zs) {n : Nat} (hn : zs.length = n + 1) : ∃ g cap, v = .slice (some ⟨g, 0, none⟩) (n + 1) cap ∧ B ≤ g ∧ g < w.heap.size ∧ n + 1 ≤ cap ∧ cap ≤ 9223372036854775807 ∧
    ∀ i, i < n + 1 → ∃ m a q c, w.cell? ⟨g, 2 * i, none⟩ = some (.bool m) ∧ w.cell? ⟨g, 2 * i + 1, none⟩ = some (.slice a q c) ∧ BigV w (.agg #[.bool m, .slice a q c]) (zs.getD i 0) := by
  have hl := h.len
  rcases h.own.2 with ⟨e, h0⟩ | ⟨g, cap, cur, e, hb, hg, hn1, hm, _⟩
  · omega
  · subst e
    rw [hl, hn] at hn1 
    have h' := h
    refine ⟨g, cap, by rw [hl, hn], hb, (Array.getElem?_eq_some_iff.1 hg).1, hn1, by unfold maxLen at hm; exact hm, fun i hi => ?_⟩
    have hi' : i < L.length := by omega
    obtain ⟨c1, c2⟩ := h'.cells hi'
    exact ⟨_, _, _, _, c1, c2, h.val i hi'⟩
end Go.Proofs.YtmcbbhlglccmgaaGreat
