import Derived.Test.YtonkhcdmchidjaaGreatPNews
import Derived.Test.YtonkhcdmchidjaaGreatPRefB
namespace Go.Proofs.YtonkhcdmchidjaaGreat
open Go.RowKit Go BigFrame Go.Shelf
set_option maxRecDepth 100000
set_option linter.all false
def DivdP (l m:List Int) (w:World) (e:Ending) (w':World):Prop:=
 ∃aq cq ar cr,e=.returned (.tuple #[.slice aq (digs (zA1 l / zA1 m).toNat).length cq,.slice ar (digs (zA1 l % zA1 m).toNat).length cr])∧
  Ints w' aq cq (digs (zA1 l / zA1 m).toNat)∧Ints w' ar cr (digs (zA1 l % zA1 m).toNat)∧(∀A,aq=some A→w.heap.size≤A.block)∧(∀A,ar=some A→w.heap.size≤A.block)∧Ext w w'
theorem DivAt.begin {l m:List Int} {st la:Nat} (hl:Digs l) (hm:Norm m) (hla:l.length=la) (hmp:0<m.length) (hst:st=la+1 - m.length):DivAt l (zA1 m) st (List.replicate la 0) (zA1 (zAB (l.drop st))):=by
 have hne:m≠[]:=fun e=>by rw [e] at hmp;simp at hmp
 refine⟨by simp [hla],fun x hx=>by have:=List.eq_of_mem_replicate hx;omega,zA2 (zGA (hl.drop st)),?_,?_⟩
 ·rw [zFK];have h1:=zAy (hl.drop st);have h2:=zD0 hm hne;rw [List.length_drop,hla] at h1;have h3:=zC6 (show la - st≤m.length - 1 by omega);omega
 ·rw [zFK];have:zA1 (List.drop st (List.replicate la 0))=0:=by
   rw [List.drop_replicate]
   have:∀n,zA1 (List.replicate n 0)=0:=fun n=>by induction n with
    | zero=>rfl
    | succ n ih=>rw [List.replicate_succ,zA1,ih];rfl
   exact this _
  rw [this,Int.zero_mul,Int.zero_add]
theorem zLc {Q:List Int} {i:Nat} (h:Q.getD i 0=0):Q.set i 0=Q:=by
 by_cases hi:i<Q.length
 ·have:Q[i]=0:=by simpa [List.getD,hi] using h
  rw [←this];exact List.set_getElem_self hi
 ·exact List.set_eq_of_length_le (by omega)
theorem zGH {Q:List Int} {i j:Nat} (h:i≠j) (x:Int):(Q.set i x).getD j 0=Q.getD j 0:=by
 simp [List.getD,List.getElem?_set,h]
structure RefR (l m:List Int) (i:Nat) (Q R:List Int):Prop where
 d:DivAt l (zA1 m) (i+1) Q (zA1 R)
 z:∀j,j<i+1→Q.getD j 0=0
theorem RefR.skip {l m:List Int} {i:Nat} {Q R R1:List Int} (h:RefR l m i Q R) (hl:Digs l) (hi:i<l.length) (h1:zA1 R1=l.getD i 0+1073741824*zA1 R) (h0:0≤zA1 R1) (hlt:zA1 R1<zA1 m):
 DivAt l (zA1 m) i Q (zA1 R1)∧∀j,j<i→Q.getD j 0=0:=by
 have:=h.d.step hl hi;rw [show zA1 R*1073741824+l.getD i 0=zA1 R1 by omega,Int.ediv_eq_zero_of_lt h0 hlt,Int.emod_eq_of_lt h0 hlt,zLc (h.z i (by omega))] at this;exact⟨this,fun j hj=>h.z j (by omega)⟩
theorem RefR.take {l m:List Int} {i:Nat} {Q R R1 R2:List Int} (h:RefR l m i Q R) (hl:Digs l) (hi:i<l.length) (h1:zA1 R1=l.getD i 0+1073741824*zA1 R) (h2:zA1 R2=zA1 R1 % zA1 m):
 DivAt l (zA1 m) i (Q.set i (zA1 R1 / zA1 m)) (zA1 R2)∧∀j,j<i→(Q.set i (zA1 R1 / zA1 m)).getD j 0=0:=by
 have:=h.d.step hl hi;rw [show zA1 R*1073741824+l.getD i 0=zA1 R1 by omega,←h2] at this;exact⟨this,fun j hj=>by rw [zGH (by omega)];exact h.z j (by omega)⟩
end Go.Proofs.YtonkhcdmchidjaaGreat
