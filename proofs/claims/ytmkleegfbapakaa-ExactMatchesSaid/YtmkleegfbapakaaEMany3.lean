import Derived.Test.YtmkleegfbapakaaEMany2
namespace Go.Proofs.Ytmkleegfbapakaa
open Go.RowKit Go BigFrame Go.Shelf
set_option maxRecDepth 100000
set_option linter.unusedSimpArgs false
-- To come: the loops over the rows (blocks 0 and 2 of f35).
theorem cntL_take (pt : Int → Int → Int) (l m : List Int) (least : Int) (L : List (List Int)) (k : Nat) (hk : k < L.length) :
    cntL pt l m least (L.take (k + 1)) = cntL pt l m least (L.take k) + if least ≤ psum pt l m (L.getD k []) l.length then 1 else 0 := by
  rw [List.take_add_one, List.getElem?_eq_getElem hk, Option.toList_some, cntL_snoc]
  simp [List.getD, hk]
/-- What the reference counts is what the program counts. -/
theorem cntL_refgen (pt : Int → Int → Int) (l m : List Int) (least : Int) : cntL pt l m least (refgen l.length [] l.length) = cntG pt l m least :=
  (count_refgen l.length _).symm
end Go.Proofs.Ytmkleegfbapakaa
