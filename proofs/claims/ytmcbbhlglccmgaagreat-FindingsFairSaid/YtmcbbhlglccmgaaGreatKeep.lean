import Derived.Test.YtmcbbhlglccmgaaGreatBlk
import Derived.RangeFuncFrom
import Derived.RangeFuncNested
import Derived.RangeFuncBox
import Derived.Shelf.Abstract
namespace Go.Proofs.YtmcbbhlglccmgaaGreat
open Go.RowKit Go Go.Shelf

theorem Blk.kept {w w' : World} {row : Option Nat} {b : Nat} {cs : Array Value} {t : TypeId} (h : Blk w b cs t) (hg : w.grownBy w' row) (hr : ∀ r, row = some r → ∃ o : Obj, w.heap[r]? = some o ∧ o.isCells = false) : Blk w' b cs t :=
  (grownBy_keeps_cells hg hr h rfl).trans h
theorem blk_own {β : Type} (b : Nat) (t : TypeId) (f : β → Array Value) : Own (fun s W => Blk W b (f s) t) := fun _ _ _ _ hs hg hr => Blk.kept hs hg hr
theorem Blk.put {w : World} {b l : Nat} {cs : Array Value} {t : TypeId} {o : Obj} (h : Blk w b cs t) (hl : w.heap[l]? = some o) (ho : o.isCells = false) (o' : Obj) : Blk (w.putObj l o') b cs t :=
  h.kept (grownBy_putObj' w l o') (fun r e => by cases e; exact ⟨o, hl, ho⟩)
theorem Ext.others {w w' : World} (h : Ext w w') : KeepsOthers w w' := ⟨h.size, fun k _ hk _ => (h.block k (Array.getElem?_eq_some_iff.1 hk).1).trans hk⟩
end Go.Proofs.YtmcbbhlglccmgaaGreat
