import Derived.Test.YtmcbbhlglccmgaaGreatESane0
import Derived.OwnWalk
import Derived.Deep.Cut
import Derived.Deep.RegionHeld3
import Derived.BigFrame
import Derived.Outline
import Derived.Deep.DeepCutAuto
namespace Go.Proofs.YtmcbbhlglccmgaaGreat
open Go.RowKit Go BigFrame
set_option maxRecDepth 100000
set_option linter.unusedSimpArgs false

/-- Two results: the integer z, and the error E. -/
def SubR (z E : Int) (w : World) (e : Ending) (w' : World) : Prop := ∃ v, e = .returned (.tuple #[v, .int .i64 E]) ∧ BigN w' v z w.heap.size ∧ Ext w w'
theorem BigN.zero (w : World) (B : Nat) : BigN w (.agg #[.bool false, .slice none 0 0]) 0 B := ⟨false, none, 0, [], rfl, intsNil w, ⟨trivial, by simp, rfl⟩, fun A hA => by cases hA⟩
theorem SubE.r {E : Int} {w : World} {e : Ending} {w' : World} (h : SubE E w e w') : SubR 0 E w e w' := ⟨_, h.1, BigN.zero _ _, h.2⟩
def eS (l : List Int) (k : Int) : Int := if 64 < l.length then 2 else if l.any outB = true then 1 else if k < 0 then 1 else if (l.length : Int) < k then 1 else 0
def zS (l : List Int) (k sum : Int) : Int := if eS l k = 0 then cs sum k.toNat l 0 else 0
def fewS (l : List Int) : Prop := l.length ≤ 20 ∨ 64 < l.length

theorem exact_Subsets_any (a : Option Addr) (cap : Nat) (k : Int) (l : List Int) (sum : Int) (w : World) (h : Ints w a cap l) (hf : fewS l) :
    Calls Tryz.prog 28 #[.slice a l.length cap, .int .i64 k, .int .i64 sum] w (SubR (zS l k sum) (eS l k) w) := by
  unfold zS eS
  by_cases h1 : 64 < l.length
  · rw [if_pos h1, if_neg (by omega)]
    exact (exact_Subsets_limit a cap l.length k sum w h1).mono fun _ _ h => h.r
  · rw [if_neg h1]
    have h20 : l.length ≤ 20 := hf.elim id (fun h => absurd h h1)
    by_cases h2 : l.any outB = true
    · rw [if_pos h2, if_neg (by omega)]
      exact (exact_Subsets_out a cap k l sum w h (by omega) h2).mono fun _ _ h => h.r
    · rw [if_neg h2]
      have h2' : l.any outB = false := by simpa using h2
      by_cases h3 : k < 0
      · rw [if_pos h3, if_neg (by omega)]
        exact (exact_Subsets_neg a cap k l sum w h (by omega) h2' h3).mono fun _ _ h => h.r
      · rw [if_neg h3]
        by_cases h4 : (l.length : Int) < k
        · rw [if_pos h4, if_neg (by omega)]
          exact (exact_Subsets_big a cap k l sum w h (by omega) h2' (by omega) h4).mono fun _ _ h => h.r
        · rw [if_neg h4, if_pos rfl]
          obtain ⟨n, rfl⟩ : ∃ n : Nat, k = n := ⟨k.toNat, by omega⟩
          exact exact_Subsets_ok a cap n l sum w h h20 h2' (by omega)
def fewB41 (n : Nat) : Bool := decide (n ≤ 12) || (decide (64 < n) && decide (n ≤ 80))
end Go.Proofs.YtmcbbhlglccmgaaGreat
