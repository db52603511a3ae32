import Derived.Test.YtmkleegfbapakaaBlk
namespace Go.Proofs.Ytmkleegfbapakaa
open Go.RowKit Go

/-- Block b holds N numbers f 0, f 1, .. -/
def Arr (w : World) (b : Nat) (t : TypeId) (N : Nat) (f : Nat → Int) : Prop := ∃ cs, Blk w b cs t ∧ cs.size = N ∧ ∀ i, i < N → cs[i]? = some (.int .i64 (f i))
section
variable {w w' : World} {b : Nat} {t : TypeId} {N : Nat} {f : Nat → Int}
theorem Arr.zero {cs : Array Value} (h : Blk w b cs t) (hc : cs = Array.replicate N (.int .i64 0)) : Arr w b t N (fun _ => 0) := by
  subst hc
  exact ⟨_, h, by simp, fun i hi => by simp [hi]⟩
theorem Arr.new16 (w : World) (f : Nat → Int) (t : TypeId) : Arr (w.alloc (.cells #[.int .i64 (f 0), .int .i64 (f 1), .int .i64 (f 2), .int .i64 (f 3), .int .i64 (f 4), .int .i64 (f 5), .int .i64 (f 6), .int .i64 (f 7), .int .i64 (f 8), .int .i64 (f 9), .int .i64 (f 10), .int .i64 (f 11), .int .i64 (f 12), .int .i64 (f 13), .int .i64 (f 14), .int .i64 (f 15)] t)) w.heap.size t 16 f := by
  refine ⟨_, Blk.new0 w _ t, rfl, fun i hi => ?_⟩
  match i, hi with
  | 0, _ => rfl
  | 1, _ => rfl
  | 2, _ => rfl
  | 3, _ => rfl
  | 4, _ => rfl
  | 5, _ => rfl
  | 6, _ => rfl
  | 7, _ => rfl
  | 8, _ => rfl
  | 9, _ => rfl
  | 10, _ => rfl
  | 11, _ => rfl
  | 12, _ => rfl
  | 13, _ => rfl
  | 14, _ => rfl
  | 15, _ => rfl
  | n + 16, h => omega
theorem Arr.cell (h : Arr w b t N f) {i : Nat} (hi : i < N) : w.cell? ⟨b, i, none⟩ = some (.int .i64 (f i)) := by
  obtain ⟨cs, h1, _, h3⟩ := h
  exact h1.cell (h3 i hi)
theorem Arr.free (h : Arr w b t N f) (i : Nat) : w.frozen? ⟨b, i, none⟩ = false := by
  obtain ⟨cs, h1, _⟩ := h
  exact h1.free i
theorem Arr.lt (h : Arr w b t N f) : b < w.heap.size := by
  obtain ⟨cs, h1, _⟩ := h
  exact h1.lt
theorem Arr.ext (h : Arr w b t N f) (hx : Ext w w') : Arr w' b t N f := by
  obtain ⟨cs, h1, h2⟩ := h
  exact ⟨cs, h1.ext hx, h2⟩
theorem Arr.other (h : Arr w b t N f) {p : Addr} (hp : b ≠ p.block) (v : Value) : Arr (w.setCell p v) b t N f := by
  obtain ⟨cs, h1, h2⟩ := h
  exact ⟨cs, h1.other hp v, h2⟩
theorem Arr.set (h : Arr w b t N f) {i : Nat} (hi : i < N) (x : Int) : Arr (w.setCell ⟨b, i, none⟩ (.int .i64 x)) b t N (fun j => if j = i then x else f j) := by
  obtain ⟨cs, h1, h2, h3⟩ := h
  refine ⟨_, h1.set i _, by simp [h2], fun j hj => ?_⟩
  by_cases e : j = i
  · subst e; simp [h2, hi]
  · have : ¬ i = j := fun h => e h.symm
    simp [e, this, h3 j hj]
theorem Arr.congr {g : Nat → Int} (h : Arr w b t N f) (hfg : ∀ i, i < N → f i = g i) : Arr w b t N g := by
  obtain ⟨cs, h1, h2, h3⟩ := h
  exact ⟨cs, h1, h2, fun i hi => by rw [h3 i hi, hfg i hi]⟩
theorem Arr.ints (h : Arr w b t N f) (o n cap : Nat) (hn : n ≤ cap) (hc : cap ≤ 9223372036854775807) (hN : o + n ≤ N) (hb : ∀ k, k < n → -9223372036854775808 ≤ f (o + k) ∧ f (o + k) ≤ 9223372036854775807) :
    Ints w (some ⟨b, o, none⟩) cap ((List.range n).map fun k => f (o + k)) := by
  refine ⟨by simpa using hn, hc, by simp, fun A hA i hi => ?_⟩
  cases hA
  refine ⟨rfl, ?_⟩
  simp only [List.length_map, List.length_range] at hi
  exact ⟨_, h.cell (i := o + i) (by omega), by simp, by simpa using hb i hi⟩
end
end Go.Proofs.Ytmkleegfbapakaa
