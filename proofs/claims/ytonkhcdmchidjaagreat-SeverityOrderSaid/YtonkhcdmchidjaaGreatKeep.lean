import Derived.Test.YtonkhcdmchidjaaGreatBase
import Derived.StillTail
import Derived.RangeFuncNested
import Derived.Shelf.Abstract
namespace Go.Proofs.YtonkhcdmchidjaaGreat
open Go.RowKit Go
section
variable {P:Program} {ops:Array Oper} {md:Region.Mode} {C:World→Prop}
def headQ (P:Program) (md:Region.Mode) (ops:Array Oper) (C:World→Prop) (n:Nat) (L:Array Bool→Act→Prop):Nat→Array Bool→Act→Prop
 | 0,done,a=>L done a
 | f+1,done,a=>Region.ready md ops done≠[]∧∀i∈Region.ready md ops done,i<n∧qOp P ops C i (headQ P md ops C n L f (done.setIfInBounds i true)) a
end
def Blk (w:World) (b:Nat) (cs:Array Value) (t:TypeId):Prop:=w.heap[b]? =some (.cells cs t (0,0))
section
variable {w w':World} {b:Nat} {cs:Array Value} {t:TypeId}
theorem Blk.lt (h:Blk w b cs t):b<w.heap.size:=(Array.getElem?_eq_some_iff.1 h).1
theorem Blk.cell (h:Blk w b cs t) {i:Nat} {v:Value} (hi:cs[i]? =some v):w.cell? ⟨b,i,none⟩=some v:=by
 unfold Blk at h;simp only [World.cell?,h];simp [hi]
theorem Blk.free (h:Blk w b cs t) (i:Nat):w.frozen? ⟨b,i,none⟩=false:=by
 unfold Blk at h;simp only [World.frozen?,h];simp
theorem Blk.keep {B:Nat} (h:Blk w b cs t) (hx:Below B w w') (hb:b<B):Blk w' b cs t:=(hx.block b hb).trans h
theorem Blk.ext (h:Blk w b cs t) (hx:Ext w w'):Blk w' b cs t:=h.keep hx h.lt
theorem Blk.alloc (h:Blk w b cs t) (o:Obj):Blk (w.alloc o) b cs t:=h.ext (Ext.alloc _ _)
theorem Blk.drew (h:Blk w b cs t):Blk w.drew b cs t:=h
theorem Blk.drewN (h:Blk w b cs t) (n:Nat):Blk (w.drewN n) b cs t:=h
theorem Blk.other (h:Blk w b cs t) {p:Addr} (hp:b≠p.block) (v:Value):Blk (w.setCell p v) b cs t:=by
 unfold Blk at *;rw [Below.heap_setCell _ _ _ _ hp];exact h
theorem Blk.set (h:Blk w b cs t) (i:Nat) (v:Value):Blk (w.setCell ⟨b,i,none⟩ v) b (cs.setIfInBounds i v) t:=by
 unfold Blk at *;simp [World.setCell,Array.getElem?_modify,h]
theorem Blk.new0 (w:World) (cs:Array Value) (t:TypeId):Blk (w.alloc (.cells cs t)) w.heap.size cs t:=heap_alloc_new w _
theorem Blk.new1 (w:World) (o:Obj) (cs:Array Value) (t:TypeId):Blk ((w.alloc o).alloc (.cells cs t)) (w.heap.size+1) cs t:=by
 have:=Blk.new0 (w.alloc o) cs t;simpa using this
theorem Blk.new2 (w:World) (o o1:Obj) (cs:Array Value) (t:TypeId):Blk (((w.alloc o).alloc o1).alloc (.cells cs t)) (w.heap.size+2) cs t:=by
 have:=Blk.new0 ((w.alloc o).alloc o1) cs t;simpa using this
end
theorem Ext.lt {w w':World} (h:Ext w w'):w.heap.size≤w'.heap.size:=h.size
end Go.Proofs.YtonkhcdmchidjaaGreat
namespace Go.Proofs.YtonkhcdmchidjaaGreat
theorem zB0 {α:Type} {l:List α} {k:Nat} {y:α} (h:l[k]? =some y):l.take (k+1)=l.take k ++ [y]:=by
 obtain⟨hlt,he⟩:=List.getElem?_eq_some_iff.1 h;rw [List.take_succ_eq_append_getElem hlt,he]
def sm:Nat→(Nat→Int)→Int
 | 0,_=>0
 | n+1,f=>sm n f+f n
theorem zKQ {n:Nat} {f g:Nat→Int} (h:∀i,i<n→f i=g i):sm n f=sm n g:=by
 induction n with
 | zero=>rfl
 | succ n ih=>simp only [sm];rw [ih (fun i hi=>h i (by omega)),h n (by omega)]
theorem zNB (n:Nat) (f g:Nat→Int):sm n (fun i=>f i+g i)=sm n f+sm n g:=by
 induction n with
 | zero=>rfl
 | succ n ih=>simp only [sm];rw [ih];omega
open Go.RowKit Go Go.Shelf
theorem Blk.kept {w w':World} {row:Option Nat} {b:Nat} {cs:Array Value} {t:TypeId} (h:Blk w b cs t) (hg:w.grownBy w' row) (hr:∀r,row=some r→∃o:Obj,w.heap[r]? =some o∧o.isCells=false):Blk w' b cs t:=
 (grownBy_keeps_cells hg hr h rfl).trans h
theorem zCW {β:Type} (b:Nat) (t:TypeId) (f:β→Array Value):Own (fun s W=>Blk W b (f s) t):=fun _ _ _ _ hs hg hr=>Blk.kept hs hg hr
theorem Blk.put {w:World} {b l:Nat} {cs:Array Value} {t:TypeId} {o:Obj} (h:Blk w b cs t) (hl:w.heap[l]? =some o) (ho:o.isCells=false) (o':Obj):Blk (w.putObj l o') b cs t:=
 h.kept (grownBy_putObj' w l o') (fun r e=>by cases e;exact⟨o,hl,ho⟩)
theorem Ext.others {w w':World} (h:Ext w w'):KeepsOthers w w':=⟨h.size,fun k _ hk _=>(h.block k (Array.getElem?_eq_some_iff.1 hk).1).trans hk⟩
end Go.Proofs.YtonkhcdmchidjaaGreat
