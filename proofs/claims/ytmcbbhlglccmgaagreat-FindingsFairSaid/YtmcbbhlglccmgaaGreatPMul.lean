import Derived.Test.YtmcbbhlglccmgaaGreatND
namespace Go.Proofs.YtmcbbhlglccmgaaGreat
open Go.RowKit Go BigFrame Go.Shelf
set_option maxRecDepth 100000
set_option linter.unusedSimpArgs false

theorem nat_big_ok (neg : Bool) (a : Option Addr) (cap : Nat) (l : List Int) (w : World) (h : Ints w a cap l) (hl : (trimL l).length ≤ 2048) :
    Calls Tryz.prog 72 #[.bool neg, .slice a l.length cap] w fun e w' => e = .returned (.agg #[.bool (neg && decide (0 < (trimL l).length)), .slice a (trimL l).length cap]) ∧ Ext w w' :=
  (nat_big neg a cap l w h).mono fun e w' hh => by
    rcases hh with ⟨_, h1, h2⟩ | ⟨h1, _⟩
    · exact ⟨h1, h2⟩
    · omega

theorem sgn_mul (n1 n2 : Bool) (x y : Int) : sgn n1 x * sgn n2 y = sgn (!(n1 == n2)) (x * y) := by cases n1 <;> cases n2 <;> simp [sgn, Int.neg_mul, Int.mul_neg]
end Go.Proofs.YtmcbbhlglccmgaaGreat
