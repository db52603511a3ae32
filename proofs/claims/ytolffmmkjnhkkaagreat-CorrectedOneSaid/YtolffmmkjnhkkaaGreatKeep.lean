import Derived.Test.YtolffmmkjnhkkaaGreatBase
import Derived.Test.YtolffmmkjnhkkaaGreatBlk
import Derived.RangeFuncFrom
import Derived.RangeFuncNested
import Derived.RangeFuncBox
import Derived.Shelf.Abstract
namespace Go.Proofs.YtolffmmkjnhkkaaGreat
theorem take_get {α:Type} {l:List α} {k:Nat} {y:α} (h:l[k]? =some y):l.take (k+1)=l.take k ++ [y]:=by
 obtain⟨hlt,he⟩:=List.getElem?_eq_some_iff.1 h
 rw [List.take_succ_eq_append_getElem hlt,he]
def sm:Nat→(Nat→Int)→Int
 | 0,_=>0
 | n+1,f=>sm n f+f n
theorem sm_congr {n:Nat} {f g:Nat→Int} (h:∀i,i<n→f i=g i):sm n f=sm n g:=by
 induction n with
 | zero=>rfl
 | succ n ih=>simp only [sm];rw [ih (fun i hi=>h i (by omega)),h n (by omega)]
theorem sm_add (n:Nat) (f g:Nat→Int):sm n (fun i=>f i+g i)=sm n f+sm n g:=by
 induction n with
 | zero=>rfl
 | succ n ih=>simp only [sm];rw [ih];omega
end Go.Proofs.YtolffmmkjnhkkaaGreat
namespace Go.Proofs.YtolffmmkjnhkkaaGreat
open Go.RowKit Go Go.Shelf
theorem Blk.kept {w w':World} {row:Option Nat} {b:Nat} {cs:Array Value} {t:TypeId} (h:Blk w b cs t) (hg:w.grownBy w' row) (hr:∀r,row=some r→∃o:Obj,w.heap[r]? =some o∧o.isCells=false):Blk w' b cs t:=
 (grownBy_keeps_cells hg hr h rfl).trans h
theorem blk_own {β:Type} (b:Nat) (t:TypeId) (f:β→Array Value):Own (fun s W=>Blk W b (f s) t):=fun _ _ _ _ hs hg hr=>Blk.kept hs hg hr
theorem Blk.put {w:World} {b l:Nat} {cs:Array Value} {t:TypeId} {o:Obj} (h:Blk w b cs t) (hl:w.heap[l]? =some o) (ho:o.isCells=false) (o':Obj):Blk (w.putObj l o') b cs t:=
 h.kept (grownBy_putObj' w l o') (fun r e=>by cases e;exact⟨o,hl,ho⟩)
theorem Ext.others {w w':World} (h:Ext w w'):KeepsOthers w w':=⟨h.size,fun k _ hk _=>(h.block k (Array.getElem?_eq_some_iff.1 hk).1).trans hk⟩
end Go.Proofs.YtolffmmkjnhkkaaGreat
