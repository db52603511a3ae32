import Derived.Test.YtmkleegfbapakaaDFree
import Derived.Test.YtmkleegfbapakaaDMe
import Derived.Test.YtmkleegfbapakaaDBound
import Derived.Test.YtmkleegfbapakaaDCheck2
namespace Go.Proofs.Ytmkleegfbapakaa
open Go.RowKit Go D28
set_option maxRecDepth 100000

theorem Blk.sl {α : Type} {R : World → Value → α → Prop} {w : World} {b : Nat} {cs : Array Value} {t : TypeId} (h : Blk w b cs t) (l : List α) (hl : l.length ≤ 1000) (hR : ∀ i (hi : i < l.length), ∃ v, cs[i]? = some v ∧ R w v l[i]) : SlOf R w (some ⟨b, 0, none⟩) l.length l :=
  ⟨Nat.le_refl _, by omega, fun h => by (cases h), fun A hA i hi => by
    cases hA
    refine ⟨rfl, ?_⟩
    obtain ⟨v, hv, hr⟩ := hR i hi
    exact ⟨v, by simpa using h.cell hv, hr⟩⟩
theorem Blk.ints {w : World} {b : Nat} {t : TypeId} {l : List Int} (h : Blk w b (l.map (Value.int .i64)).toArray t) (hl : l.length ≤ 1000) (hb : l.all fun x => decide (-9223372036854775808 ≤ x ∧ x ≤ 9223372036854775807)) : Ints w (some ⟨b, 0, none⟩) l.length l :=
  h.sl l hl fun i hi => ⟨.int .i64 l[i], by simp [hi], rfl, by
    have := List.all_eq_true.1 hb l[i] (List.getElem_mem hi)
    simpa using this⟩
theorem Blk.rows1 {w : World} {b b1 : Nat} {t : TypeId} {l : List Int} (h : Blk w b #[.slice (some ⟨b1, 0, none⟩) l.length l.length] t) (h1 : Ints w (some ⟨b1, 0, none⟩) l.length l) : Rows w (some ⟨b, 0, none⟩) 1 [l] :=
  h.sl [l] (by simp) fun i hi => by
    have : i = 0 := by simpa using hi
    subst this
    exact ⟨_, rfl, _, _, rfl, h1⟩
theorem Blk.bools {w : World} {b : Nat} {t : TypeId} {l : List Bool} (h : Blk w b (l.map Value.bool).toArray t) (hl : l.length ≤ 1000) : Bools w (some ⟨b, 0, none⟩) l.length l :=
  h.sl l hl fun i hi => ⟨.bool l[i], by simp [hi], rfl⟩

theorem FreeRows.brows {w : World} {B j cap : Nat} {a : Option Addr} {xs : List Value} (h : FreeRows w B j (.slice a xs.length cap) xs) (hj : j ≤ 1000) : BRows w a cap (List.replicate xs.length (List.replicate j false)) := by
  obtain ⟨hr, hx⟩ := h
  have key : ∀ i (hi : i < xs.length), IsBools w xs[i] (List.replicate j false) := fun i hi => by
    obtain ⟨b, e, _, _, hk⟩ := hx xs[i] (List.getElem_mem hi)
    refine ⟨some ⟨b, 0, none⟩, j, by rw [e]; simp, ?_⟩
    have := Blk.bools (w := w) (b := b) (t := 4) (l := List.replicate j false) (by simpa using hk) (by simpa using hj)
    simpa using this
  rcases hr.2 with ⟨e, h0⟩ | ⟨g, cp, cur, e, hb, hg, hn, hm, hs, ht⟩
  · simp only [Value.slice.injEq] at e
    obtain ⟨rfl, h1, rfl⟩ := e
    exact ⟨by simp [h1], by omega, fun _ => rfl, fun A hA => by cases hA⟩
  · simp only [Value.slice.injEq] at e
    obtain ⟨rfl, -, rfl⟩ := e
    refine ⟨by simpa using hn, by unfold maxLen at hm; exact hm, fun h => by (cases h), fun A hA i hi => ?_⟩
    cases hA
    refine ⟨rfl, ?_⟩
    simp only [List.length_replicate] at hi
    refine ⟨xs[i], ?_, by simpa using key i hi⟩
    have hc := World.ownsRow.cellAt (w := w) (g := g) (base := B) (e := 60) (size := 1) (n := xs.length) (cap := cap) (xs := xs) ⟨by simp, .inr ⟨g, cap, cur, rfl, hb, hg, hn, hm, hs, ht⟩⟩ i (by omega)
    simpa [hi] using hc

def FreeB (j n : Nat) (s : Int) (w : World) (e : Ending) (w' : World) : Prop :=
  ∃ a cap, e = .returned (.agg #[.int .i64 (j : Int), .int .i64 s, .int .i64 0, .slice a n cap]) ∧ BRows w' a cap (List.replicate n (List.replicate j false)) ∧ Ext w w'
theorem FreePost.B {j n : Nat} {s : Int} {w : World} {e : Ending} {w' : World} (h : FreePost j n s w e w') (hj : j ≤ 1000) : FreeB j n s w e w' := by
  obtain ⟨v, xs, rfl, rfl, hF, hx⟩ := h
  obtain ⟨a, cap, rfl⟩ := hF.form
  exact ⟨a, cap, rfl, hF.brows hj, hx⟩
theorem free323 (w : World) : Calls Try.prog 43 #[.int .i64 3, .int .i64 2, .int .i64 3] w (FreeB 3 3 2 w) := (lawFree3 3 2 w (by omega)).mono fun _ _ h => h.B (by omega)
theorem free211 (w : World) : Calls Try.prog 43 #[.int .i64 2, .int .i64 1, .int .i64 1] w (FreeB 2 1 1 w) := (lawFree2 1 1 w (by omega)).mono fun _ _ h => h.B (by omega)

def three : List (List Int) := [[0, 1], [0, 2], [1, 2]]
def bad3 : List (List Bool) := [[false, false, false], [false, false, false], [false, false, false]]
theorem sMeas3 (a a2 : Option Addr) (cap cap2 : Nat) (w : World) (h : BRows w a cap bad3) (h2 : Rows w a2 cap2 three) :
    Calls Try.prog 17 #[.agg #[.int .i64 3, .int .i64 2, .int .i64 0, .slice a 3 cap], .slice a2 3 cap2, .int .i64 2] w fun r w' => r = .returned (.tuple #[.agg #[.int .i64 2, .int .i64 2, .int .i64 1, .int .i64 2], .int .i64 0]) ∧ Ext w w' := by
  have := desMeasure_ok 2 0 3 2 a cap bad3 a2 cap2 three w h h2 (by decide) (by omega) (by omega)
  rw [show dLo (three.length : Nat) (dLoads three 3) = 2 by decide, show dHi 0 (dLoads three 3) = 2 by decide, show dLo 2 (dCommons three) = 1 by decide, show dSlotMax three 3 2 = 2 by decide] at this
  exact this
theorem sMeas1 (a a2 : Option Addr) (cap cap2 : Nat) (w : World) (h : BRows w a cap [[false, false]]) (h2 : Rows w a2 cap2 [[1]]) :
    Calls Try.prog 17 #[.agg #[.int .i64 2, .int .i64 1, .int .i64 0, .slice a 1 cap], .slice a2 1 cap2, .int .i64 1] w fun r w' => r = .returned (.tuple #[.agg #[.int .i64 0, .int .i64 1, .int .i64 1, .int .i64 0], .int .i64 0]) ∧ Ext w w' := by
  have := desMeasure_ok 1 0 2 1 a cap [[false, false]] a2 cap2 [[1]] w h h2 (by decide) (by omega) (by omega)
  rw [show dLo (([[1]] : List (List Int)).length : Nat) (dLoads [[1]] 2) = 0 by decide, show dHi 0 (dLoads [[1]] 2) = 1 by decide, show dLo 1 (dCommons [[1]]) = 1 by decide, show dSlotMax [[1]] 2 1 = 0 by decide] at this
  exact this
theorem sMeas0 (a a2 : Option Addr) (cap cap2 : Nat) (w : World) (h : BRows w a cap [[false, false]]) (h2 : Rows w a2 cap2 [[1]]) :
    Calls Try.prog 17 #[.agg #[.int .i64 2, .int .i64 1, .int .i64 0, .slice a 1 cap], .slice a2 1 cap2, .int .i64 0] w fun r w' => r = .returned (.tuple #[.agg #[.int .i64 0, .int .i64 0, .int .i64 0, .int .i64 0], .int .i64 1]) ∧ Ext w w' :=
  desMeasure_arg 2 1 0 0 a cap [[false, false]] a2 cap2 [[1]] w h h2 (by decide) (by omega)
theorem sBound3 (a : Option Addr) (cap : Nat) (w : World) (h : BRows w a cap bad3) :
    Calls Try.prog 21 #[.agg #[.int .i64 3, .int .i64 2, .int .i64 0, .slice a 3 cap]] w fun r w' => r = .returned (.tuple #[.agg #[.int .i64 2, .int .i64 2, .int .i64 1, .int .i64 0], .int .i64 0]) ∧ Ext w w' := by
  have := desBound_yes 3 2 0 a cap bad3 w h (by decide)
  rw [show bLeast 3 2 (bad3.length : Nat) = 2 by decide, show bMost 3 2 (bad3.length : Nat) = 2 by decide, show bPair 3 2 (bad3.length : Nat) = 1 by decide] at this
  exact this
theorem sBound1 (a : Option Addr) (cap : Nat) (w : World) (h : BRows w a cap [[false, false]]) :
    Calls Try.prog 21 #[.agg #[.int .i64 2, .int .i64 1, .int .i64 0, .slice a 1 cap]] w fun r w' => r = .returned (.tuple #[.agg #[.int .i64 0, .int .i64 1, .int .i64 1, .int .i64 0], .int .i64 0]) ∧ Ext w w' := by
  have := desBound_yes 2 1 0 a cap [[false, false]] w h (by decide)
  rw [show bLeast 2 1 (([[false, false]] : List (List Bool)).length : Nat) = 0 by decide, show bMost 2 1 (([[false, false]] : List (List Bool)).length : Nat) = 1 by decide, show bPair 2 1 (([[false, false]] : List (List Bool)).length : Nat) = 1 by decide] at this
  exact this
theorem sBound0 (w : World) :
    Calls Try.prog 21 #[.agg #[.int .i64 0, .int .i64 0, .int .i64 0, .slice none 0 0]] w fun r w' => r = .returned (.tuple #[.agg #[.int .i64 0, .int .i64 0, .int .i64 0, .int .i64 0], .int .i64 290]) ∧ Ext w w' :=
  desBound_no 0 0 0 none 0 [] w ⟨Nat.le_refl _, by omega, fun _ => rfl, fun A hA => by cases hA⟩ (by decide)
theorem sCheck (x e : Int) (r : List Bool) (a a2 : Option Addr) (cap cap2 : Nat) (w : World) (h : BRows w a cap [r]) (h2 : Rows w a2 cap2 [[x]]) (he : checkE 2 1 0 [r] [[x]] = e) :
    Calls Try.prog 19 #[.agg #[.int .i64 2, .int .i64 1, .int .i64 0, .slice a 1 cap], .slice a2 1 cap2] w fun r w' => r = .returned (.int .i64 e) ∧ Ext w w' := by
  have := desCheck 2 1 0 a cap [r] a2 cap2 [[x]] w h h2
  rw [he] at this
  exact this
theorem brows1 {w : World} {g b cap : Nat} {x y : Bool} {t : TypeId} (h : w.cell? ⟨g, 0, none⟩ = some (.slice (some ⟨b, 0, none⟩) 2 2)) (hb : Blk w b #[.bool x, .bool y] t) (h1 : 1 ≤ cap) (h2 : cap ≤ 9223372036854775807) : BRows w (some ⟨g, 0, none⟩) cap [[x, y]] :=
  ⟨h1, h2, fun h => by (cases h), fun A hA i hi => by
    cases hA
    refine ⟨rfl, ?_⟩
    have : i = 0 := by simpa using hi
    subst this
    exact ⟨_, h, _, _, rfl, Blk.bools (l := [x, y]) hb (by simp)⟩⟩
def Free1 (w : World) (e : Ending) (w' : World) : Prop :=
  ∃ g cap b, e = .returned (.agg #[.int .i64 2, .int .i64 1, .int .i64 0, .slice (some ⟨g, 0, none⟩) 1 cap]) ∧ w'.cell? ⟨g, 0, none⟩ = some (.slice (some ⟨b, 0, none⟩) 2 2) ∧
    Blk w' b #[.bool false, .bool false] 4 ∧ w.heap.size ≤ b ∧ w.heap.size ≤ g ∧ g ≠ b ∧ 1 ≤ cap ∧ cap ≤ 9223372036854775807 ∧ Ext w w'
theorem free1 (w : World) : Calls Try.prog 43 #[.int .i64 2, .int .i64 1, .int .i64 1] w (Free1 w) := (lawFree2 1 1 w (by omega)).mono fun e w' h => by
  obtain ⟨v, xs, rfl, hl, ⟨hr, hF⟩, hx⟩ := h
  match xs, hl with
  | [x], _ =>
    obtain ⟨b, rfl, hB, hn, hk⟩ := hF x (by simp)
    rcases hr.2 with ⟨_, h0⟩ | ⟨g, cp, cur, rfl, hb, hg, hn1, hm, hs, ht⟩
    · simp at h0
    · have hc := World.ownsRow.cellAt (w := w') (g := g) (base := w.heap.size) (e := 60) (size := 1) (n := 1) (cap := cp) (xs := [.slice (some ⟨b, 0, none⟩) 2 2]) ⟨by simp, .inr ⟨g, cp, cur, rfl, hb, hg, hn1, hm, hs, ht⟩⟩ 0 (by omega)
      refine ⟨g, cp, b, rfl, by simpa using hc, hk, hB, hb, fun e => hn (by rw [e]; rfl), hn1, by unfold maxLen at hm; exact hm, hx⟩
end Go.Proofs.Ytmkleegfbapakaa
