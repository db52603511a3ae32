import Derived.Test.YtmkleegfbapakaaESub5
import Derived.Test.YtmkleegfbapakaaEMany5
import Derived.Test.YtmkleegfbapakaaEMatch
import Derived.Test.YtmkleegfbapakaaNSame
namespace Go.Proofs.Ytmkleegfbapakaa
open Go.RowKit Go
set_option maxRecDepth 100000

theorem intsNil (w : World) : Ints w none 0 [] := ⟨Nat.le_refl _, by simp, fun _ => rfl, fun A hA => by cases hA⟩
theorem Blk.ints1 {w : World} {b : Nat} {t : TypeId} {l : List Int} (h : Blk w b (l.map (Value.int .i64)).toArray t) (hl : l.length ≤ 1000) (hb : l.all fun x => decide (-9223372036854775808 ≤ x ∧ x ≤ 9223372036854775807)) : Ints w (some ⟨b, 0, none⟩) l.length l :=
  ⟨Nat.le_refl _, by omega, fun h => by (cases h), fun A hA i hi => by
    cases hA
    refine ⟨rfl, .int .i64 l[i], ?_, rfl, ?_⟩
    · have := h.cell (i := i) (v := .int .i64 l[i]) (by simp [hi]); simpa using this
    · have := List.all_eq_true.1 hb l[i] (List.getElem_mem hi); simpa using this⟩
theorem cell_ext {w w' : World} (h : Ext w w') {b o : Nat} {v : Value} (e : w.cell? ⟨b, o, none⟩ = some v) : w'.cell? ⟨b, o, none⟩ = some v := (h.cell (p := ⟨b, o, none⟩) (lt_of_cell e)).trans e

theorem s41a (a : Option Addr) (cap : Nat) (w : World) (h : Ints w a cap [1, 1, 5]) : Calls Try.prog 28 #[.slice a 3 cap, .int .i64 2, .int .i64 6] w (SubP 2 w) :=
  exact_Subsets_ok a cap 2 [1, 1, 5] 6 w h (by decide) (by decide) (by decide)
theorem s41b (w : World) : Calls Try.prog 28 #[.slice none 0 0, .int .i64 0, .int .i64 0] w (SubP 1 w) :=
  exact_Subsets_ok none 0 0 [] 0 w (intsNil w) (by decide) (by decide) (by decide)
theorem s41c (w : World) : Calls Try.prog 28 #[.slice none 0 0, .int .i64 0, .int .i64 1] w (SubP 0 w) :=
  exact_Subsets_ok none 0 0 [] 1 w (intsNil w) (by decide) (by decide) (by decide)
theorem s41d (a : Option Addr) (cap : Nat) (w : World) (h : Ints w a cap [1]) : Calls Try.prog 28 #[.slice a 1 cap, .int .i64 2, .int .i64 0] w (SubE 1 w) :=
  exact_Subsets_big a cap 2 [1] 0 w h (by decide) (by decide) (by decide) (by decide)
theorem s41e (a : Option Addr) (cap : Nat) (w : World) : Calls Try.prog 28 #[.slice a 65 cap, .int .i64 0, .int .i64 0] w (SubE 2 w) :=
  exact_Subsets_limit a cap 65 0 0 w (by decide)
def IntP (x E : Int) (w : World) (e : Ending) (w' : World) : Prop := e = .returned (.tuple #[.int .i64 x, .int .i64 E]) ∧ Ext w w'
theorem s41f (a a2 : Option Addr) (cap cap2 : Nat) (w : World) (h : Ints w a cap [0, 1, 2]) (h2 : Ints w a2 cap2 [0, 1, 2]) : Calls Try.prog 32 #[.slice a 3 cap, .slice a2 3 cap2, .int .i64 5] w (IntP 1 0 w) := by
  have := exact_Orders_ok 3 a a2 cap cap2 [0, 1, 2] [0, 1, 2] 5 w h h2 rfl rfl (by decide) (by decide) (by decide) (by omega)
  rw [show cntG mulP [0, 1, 2] [0, 1, 2] 5 = 1 by decide] at this
  exact this
theorem s41g (a a2 : Option Addr) (cap cap2 : Nat) (w : World) (h : Ints w a cap [0, 1, 2]) (h2 : Ints w a2 cap2 [0, 1, 2]) : Calls Try.prog 34 #[.slice a 3 cap, .slice a2 3 cap2, .int .i64 1] w (IntP 4 0 w) := by
  have := exact_Matches_ok 3 a a2 cap cap2 [0, 1, 2] [0, 1, 2] 1 w h h2 rfl rfl (by decide) (by omega)
  rw [show cntG eqP [0, 1, 2] [0, 1, 2] 1 = 4 by decide] at this
  exact this
theorem s41h (w : World) : Calls Try.prog 32 #[.slice none 0 0, .slice none 0 0, .int .i64 0] w (IntP 1 0 w) := by
  have := exact_Orders_ok 0 none none 0 0 [] [] 0 w (intsNil w) (intsNil w) rfl rfl (by decide) (by decide) (by decide) (by omega)
  rw [show cntG mulP [] [] 0 = 1 by decide] at this
  exact this
theorem s41i (w : World) : Calls Try.prog 34 #[.slice none 0 0, .slice none 0 0, .int .i64 1] w (IntP 0 0 w) := by
  have := exact_Matches_ok 0 none none 0 0 [] [] 1 w (intsNil w) (intsNil w) rfl rfl (by decide) (by omega)
  rw [show cntG eqP [] [] 1 = 0 by decide] at this
  exact this
theorem s41j (a : Option Addr) (cap : Nat) (w : World) : Calls Try.prog 32 #[.slice a 1 cap, .slice none 0 0, .int .i64 0] w (IntP 0 1 w) :=
  exact_Orders_bad a none 1 0 cap 0 0 1 w (fun W => exact_lists_arg a none 1 0 cap 0 W (by decide) (by decide))
theorem s41k (a a2 : Option Addr) (cap cap2 : Nat) (w : World) : Calls Try.prog 34 #[.slice a 9 cap, .slice a2 9 cap2, .int .i64 0] w (IntP 0 2 w) :=
  exact_Matches_bad a a2 9 9 cap cap2 0 2 w (fun W => exact_lists_limit a a2 9 9 cap cap2 W (by decide))
theorem s41l (a a2 : Option Addr) (cap cap2 : Nat) (w : World) (h : Ints w a cap [2097152]) (h2 : Ints w a2 cap2 [0]) : Calls Try.prog 32 #[.slice a 1 cap, .slice a2 1 cap2, .int .i64 0] w (IntP 0 1 w) :=
  exact_Orders_out 1 a a2 cap cap2 [2097152] [0] 0 w h h2 rfl rfl (by decide) (by decide)
end Go.Proofs.Ytmkleegfbapakaa
