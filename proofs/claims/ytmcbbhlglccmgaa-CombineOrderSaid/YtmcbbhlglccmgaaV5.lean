import Derived.Test.YtmcbbhlglccmgaaV4
namespace Go.Proofs.Ytmcbbhlglccmgaa
open Go.RowKit Go Go.Shelf
set_option maxRecDepth 100000
set_option linter.unusedSimpArgs false
set_option linter.unusedVariables false

/-! combine.Total. -/
theorem combine_better (c : CritA) (a : Option Addr) (n cap : Nat) (w : World) :
    Calls Try.prog 56 #[c.val, .slice a n cap] w fun e w' => e = .returned (.func (.func 98) #[] #[.pointer (some ⟨w.heap.size + 1, 0, none⟩), .pointer (some ⟨w.heap.size, 0, none⟩)]) ∧ w' = (w.alloc (.cells c.cells 48)).alloc (.cells #[.slice a n cap] 27) := by
  have hmf : ∀ (fn : Fn) (first cap : Array Value) (w : World), (Instr.makeFunc fn first cap).run Try.prog w = .ok (.func fn first cap) w := fun _ _ _ _ => rfl
  obtain ⟨nm, lo, hi, st, how, tr, rv⟩ := c
  dsimp only [CritA.val, CritA.cells]
  go_enter Try.func56, Try.ntmps56
  go_wp2_with fail
  go_ret
  exact ⟨rfl, rfl⟩
/-- better and Sorted, one behind the other. -/
theorem sorted_of_better (c : CritA) (hc : c.In) (hr : rightC c = true) (a : Option Addr) (cap : Nat) (l : List Int) (hl : l.length ≤ 1000) (w0 w : World) (h : Ints w0 a cap l) (hw : (w0.alloc (.cells c.cells 48)).alloc (.cells #[.slice a l.length cap] 27) = w) :
    Calls Try.prog 55 #[.func (.func 98) #[] #[.pointer (some ⟨w0.heap.size + 1, 0, none⟩), .pointer (some ⟨w0.heap.size, 0, none⟩)]] w fun e w' => ∃ v, e = .returned v ∧ ows w' w.heap.size v ((bet c l).mergeSort fun x y => decide (x ≤ y)) ∧ Ext w w' := by
  have hlen : (bet c l).length ≤ 1000 := by
    have : (bet c l).length ≤ l.length := by unfold bet; rw [List.length_map]; exact (List.takeWhile_prefix _).length_le
    omega
  have hx : Ext w0 w := by rw [← hw]; exact ((Ext.refl w0).alloc' _).alloc' _
  have K1 : Blk w w0.heap.size c.cells 48 := by rw [← hw]; exact (Blk.new0 w0 _ _).alloc _
  have K2 : Blk w (w0.heap.size + 1) #[.slice a l.length cap] 27 := by rw [← hw]; exact Blk.new1 w0 _ _ _
  have hsz : w.heap.size = w0.heap.size + 2 := by rw [← hw]; simp
  have hB : BetW w (w0.heap.size + 1) w0.heap.size w.heap.size c a cap l := ⟨K2, K1, h.ext hx, by omega, by omega, fun A hA hp => by
    obtain ⟨b, o, e⟩ := h.head hp
    rw [e] at hA h
    cases hA
    have h1 := lt_of_cell (h.cell (i := 0) hp).1
    have h2 := hx.size
    show b < w.heap.size
    omega⟩
  exact sorted_better _ _ (bet c l) hlen w (append_better _ _ (enters_of Try.func98 (by kernel_rfl) rfl) (bet c l) hlen w.heap.size w (Nat.le_refl _) (fun w' hx' => better_seq 4 _ _ w.heap.size c hc hr a cap l w' (hB.keep hx') hx'.size))
theorem mem_bet {c : CritA} {l : List Int} {x : Int} (h : RightC c) (hx : x ∈ bet c l) : 0 ≤ x ∧ x ≤ 1000 := by
  unfold bet at hx
  obtain ⟨y, hy, rfl⟩ := List.mem_map.1 hx
  have := List.all_takeWhile (p := onC c) (l := l)
  rw [List.all_eq_true] at this
  obtain ⟨h1, h2, _⟩ := onC_iff.1 (this y hy)
  have := h.lo; have := h.mx
  unfold turnC
  split <;> omega
theorem ints_of_owns {w : World} {B : Nat} {v : Value} {l : List Int} (h : ows w B v l) (hb : ∀ x ∈ l, 0 ≤ x ∧ x ≤ 1000) : ∃ a cap, v = .slice a l.length cap ∧ Ints w a cap l ∧ (0 < l.length → ∃ g, a = some ⟨g, 0, none⟩) := by
  rcases h.2 with ⟨rfl, h0⟩ | ⟨g, cap, cur, rfl, _, _, h1, h2, _⟩
  · have : l = [] := List.eq_nil_of_length_eq_zero h0
    subst this
    exact ⟨none, 0, rfl, ⟨by simp, by omega, fun _ => rfl, fun A hA => by cases hA⟩, fun h => absurd h (by simp)⟩
  · refine ⟨_, cap, rfl, ⟨h1, by unfold maxLen at h2; omega, by simp, fun A hA i hi => ?_⟩, fun _ => ⟨g, rfl⟩⟩
    cases hA
    have := World.ownsRow.cellAt h i (by omega)
    rw [List.getElem?_map, List.getElem?_eq_getElem hi] at this
    obtain ⟨e1, e2⟩ := hb l[i] (List.getElem_mem hi)
    exact ⟨rfl, _, by simpa using this, rfl, by omega, by omega⟩

/-- The better marks in order. -/
def srtC (c : CritA) (l : List Int) : List Int := (bet c l).mergeSort fun x y => decide (x ≤ y)
theorem srtC_len {c : CritA} {l : List Int} : (srtC c l).length = (bet c l).length := List.length_mergeSort _
theorem mem_srtC {c : CritA} {l : List Int} {x : Int} (h : RightC c) (hx : x ∈ srtC c l) : 0 ≤ x ∧ x ≤ 1000 := mem_bet h (List.mem_mergeSort.1 hx)
end Go.Proofs.Ytmcbbhlglccmgaa
