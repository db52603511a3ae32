import Derived.Test.YtokffagbdfhnnaaUA
import Derived.Test.YtokffagbdfhnnaaUC
import Derived.OwnWalk
import Derived.Deep.QuietTactic
namespace Go.Proofs.Ytokffagbdfhnnaa
open Go.RowKit Go BigFrame Go.Shelf
set_option maxRecDepth 100000
set_option linter.unusedSimpArgs false
set_option linter.unusedVariables false
attribute [local go_sem] Oper.semAt_some

/-! Layer 11: the law's sums, over numbers that may not be valid. -/
def RatM (w : World) (x : RatC) : Option Rat → Prop
  | some r => RatV w x.val r
  | none => ∃ l m : List Int, l.length = x.q ∧ m.length = x.k ∧ Ints w x.a x.c l ∧ Ints w x.b x.d m ∧ okR x.n l x.m m = false
theorem RatM.ext {w w' : World} {x : RatC} : ∀ {o : Option Rat}, RatM w x o → Ext w w' → RatM w' x o
  | some _, h, k => RatV.ext h k
  | none, ⟨l, m, h1, h2, h3, h4, h5⟩, k => ⟨l, m, h1, h2, h3.ext k, h4.ext k, h5⟩
theorem RatM.raw {w : World} {x : RatC} : ∀ {o : Option Rat}, RatM w x o → ∃ y : RatA, x.val = y.val ∧ Ints w y.a y.c y.l ∧ Ints w y.b y.d y.m ∧ (o = none → y.ok = false)
  | some r, h => by
    have h' : RatV w x.val r := h
    obtain ⟨l, e1, h1, _⟩ := h'.num.parts
    obtain ⟨m, e2, h2, _⟩ := h'.den.parts
    exact ⟨⟨x.n, x.a, x.c, l, x.m, x.b, x.d, m⟩, by simp only [RatA.val, RatC.val, e1, e2], h1, h2, fun e => by cases e⟩
  | none, ⟨l, m, e1, e2, h1, h2, h3⟩ => ⟨⟨x.n, x.a, x.c, l, x.m, x.b, x.d, m⟩, by simp only [RatA.val, RatC.val, e1, e2], h1, h2, fun _ => h3⟩
/-- A slice of N ratios, valid or not. -/
structure RatsM (w : World) (a : Option Addr) (cap N : Nat) (V : Nat → RatC) (f : Nat → Option Rat) : Prop where
  le : N ≤ cap
  mx : cap ≤ 9223372036854775807
  nil : a = none → cap = 0
  cells : ∀ A, a = some A → ∀ c, c < N → A.spot = none ∧ w.cell? ⟨A.block, A.off + c * 4, none⟩ = some (.bool (V c).n) ∧ w.cell? ⟨A.block, A.off + c * 4 + 1, none⟩ = some (.slice (V c).a (V c).q (V c).c) ∧
    w.cell? ⟨A.block, A.off + c * 4 + 2, none⟩ = some (.bool (V c).m) ∧ w.cell? ⟨A.block, A.off + c * 4 + 3, none⟩ = some (.slice (V c).b (V c).k (V c).d)
  val : ∀ c, c < N → RatM w (V c) (f c)
section
variable {w w' : World} {a : Option Addr} {cap N : Nat} {V : Nat → RatC} {f : Nat → Option Rat}
theorem RatsM.ext (h : RatsM w a cap N V f) (k : Ext w w') : RatsM w' a cap N V f :=
  ⟨h.le, h.mx, h.nil, fun A hA c hc => by
    obtain ⟨h0, h1, h2, h3, h4⟩ := h.cells A hA c hc
    exact ⟨h0, cell_exQ k h1, cell_exQ k h2, cell_exQ k h3, cell_exQ k h4⟩, fun c hc => (h.val c hc).ext k⟩
theorem RatsM.head (h : RatsM w a cap N V f) {i : Nat} (hi : i < N) : ∃ b o, a = some ⟨b, o, none⟩ := by
  cases a with
  | none => have := h.nil rfl; have := h.le; omega
  | some A =>
    obtain ⟨h0, _⟩ := h.cells A rfl i hi
    obtain ⟨b, o, s⟩ := A
    dsimp only at h0
    exact ⟨b, o, by rw [h0]⟩
end
def optA (x : RatA) : Option Rat := if x.ok then some (valA x) else none
def vecO (L : List RatA) : Nat → Option Rat := fun c => optA (L.getD c noA)
def addO : Option Rat → Option Rat → Option Rat
  | some x, some y => some (x + y)
  | _, _ => none
def mulO : Option Rat → Option Rat → Option Rat
  | some x, some y => some (x * y)
  | _, _ => none
/-- The sum of the products, if all numbers are valid. -/
def dotM (f g : Nat → Option Rat) : Nat → Option Rat
  | 0 => some 0
  | n + 1 => addO (dotM f g n) (mulO (f n) (g n))
theorem noRat_bad {w : World} : Ints w none 0 [] := ⟨Nat.le_refl _, by omega, fun _ => rfl, fun A hA => by cases hA⟩
def SumM (o : Option Rat) (w : World) (e : Ending) (w' : World) : Prop := ∃ (n : Bool) (a : Option Addr) (q c : Nat) (b : Option Addr) (k d : Nat), e = .returned (.tuple #[.agg #[.bool n, .slice a q c, .bool false, .slice b k d], .bool o.isSome]) ∧ (∀ r, o = some r → RatV w' (.agg #[.bool n, .slice a q c, .bool false, .slice b k d]) r) ∧ Ext w w'
end Go.Proofs.Ytokffagbdfhnnaa
