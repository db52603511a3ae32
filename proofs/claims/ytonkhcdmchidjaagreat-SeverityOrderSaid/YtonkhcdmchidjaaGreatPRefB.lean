import Derived.Test.YtonkhcdmchidjaaGreatPDiv
namespace Go.Proofs.YtonkhcdmchidjaaGreat
open Go.RowKit Go BigFrame Go.Shelf
set_option maxRecDepth 100000
set_option linter.all false
def ValP (z:Int) (L:Nat) (w:World) (e:Ending) (w':World):Prop:=∃v R,e=.returned v∧OwnI w' w.heap.size v R∧Digs R∧zA1 R=z∧R.length≤L∧Ext w w'
def subS (l m:List Int) (i:Nat):Int:=l.getD i 0 - m.getD i 0
theorem Big.neg {n:Bool} {l:List Int} {z:Int} (h:Big n l z):Big (!n && decide (0<l.length)) l (-z):=by
 obtain⟨h1,h2,h3⟩:=h
 cases n with
 | true=>exact⟨h1,fun e=>by simp at e,by simp at h3 ⊢;omega⟩
 | false=>
  refine⟨h1,fun e he=>by rw [he] at e;simp at e,?_⟩;simp at h3;by_cases hl:0<l.length
  ·simp [hl,h3]
  ·have:l=[]:=List.length_eq_zero_iff.1 (by omega);subst this;simp [h3,zA1]
end Go.Proofs.YtonkhcdmchidjaaGreat
