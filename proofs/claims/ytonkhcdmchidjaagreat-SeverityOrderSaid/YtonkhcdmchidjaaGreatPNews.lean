import Derived.Test.YtonkhcdmchidjaaGreatNA
import Derived.Laws.AppendOwnNone
namespace Go.Proofs.YtonkhcdmchidjaaGreat
open Go.RowKit Go BigFrame
set_option maxRecDepth 100000
set_option linter.all false
theorem Addr.add_off (b o j:Nat):(⟨b,o,none⟩:Addr).add j= ⟨b,o+j,none⟩:=by
 unfold Addr.add;split <;> simp_all
theorem Ints.news0 {w:World} {bb o cap:Nat} {l:List Int} (h:Ints w (some ⟨bb,o,none⟩) cap l):∀j u,(l.map (Value.int .i64))[j]? =some u→w.cell? ((⟨bb,o,none⟩:Addr).add j)=some u:=fun j u hu=>by
 obtain⟨hj,e⟩:=List.getElem?_eq_some_iff.1 hu;simp only [List.length_map] at hj;have:=(h.cell hj).1;rw [Addr.add_off,this,←e];simp
theorem Ints.sliced {w:World} {a:Option Addr} {cap:Nat} {l:List Int} (h:Ints w a cap l) {k:Nat} (hk:k≤l.length):Ints w (if cap=k then a else a.map (·.add (k*1))) (cap - k) (l.drop k):=by
 have hle:=h.le;refine⟨by simp;omega,by have:=h.mx;omega,fun e=>?_,fun A hA i hi=>?_⟩
 ·by_cases hc:cap=k
  ·omega
  ·rw [if_neg hc] at e
   cases a with
   | none=>have:=h.nil rfl;omega
   | some A=>simp at e
 ·have hi2:k+i<l.length:=by simp at hi;omega
  have hc:¬cap=k:=by omega
  rw [if_neg hc] at hA;obtain⟨b,o,rfl⟩:=h.head hi2;simp only [Option.map_some,Option.some.injEq,Nat.mul_one,Addr.add_off] at hA;subst hA;obtain⟨c1,c2⟩:=h.cell hi2;refine⟨rfl,.int .i64 l[k+i],?_,?_,?_⟩
  ·dsimp only;rw [Nat.add_assoc];exact c1
  ·rw [List.getElem_drop]
  ·rw [List.getElem_drop];exact c2
theorem OwnI.one (w:World) (x:Int):OwnI (w.alloc (.cells #[.int .i64 x] 3)) w.heap.size (.slice (some ⟨w.heap.size,0,none⟩) 1 1) [x]:=
 ⟨by simp,by simp,.inr ⟨w.heap.size,1,#[.int .i64 x],rfl,Nat.le_refl _,heap_alloc_new w _,Nat.le_refl _,by unfold maxLen;omega,rfl,rfl⟩⟩
theorem OwnI.look {w:World} {B:Nat} {v:Value} {L:List Int} (h:OwnI w B v L) (hd:∀x∈L,-9223372036854775808≤x∧x≤9223372036854775807):
 ∃g cap,v=.slice (some ⟨g,0,none⟩) L.length cap∧Ints w (some ⟨g,0,none⟩) cap L∧B≤g:=by
 obtain⟨g,cap,rfl,hb,_⟩:=h.form;exact⟨g,cap,rfl,(h.ints hd).2,hb⟩
theorem Digs.bd {L:List Int} (h:Digs L):∀x∈L,-9223372036854775808≤x∧x≤9223372036854775807:=fun x hx=>by have:=h x hx;omega
end Go.Proofs.YtonkhcdmchidjaaGreat
