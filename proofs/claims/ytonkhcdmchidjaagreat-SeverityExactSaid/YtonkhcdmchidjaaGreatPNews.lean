import Derived.Test.YtonkhcdmchidjaaGreatNA
import Derived.Laws.AppendOwnNone
namespace Go.Proofs.YtonkhcdmchidjaaGreat
open Go.RowKit Go BigFrame
set_option maxRecDepth 100000
set_option linter.all false
theorem Addr.add_off (b o j:Nat):(⟨b,o,none⟩:Addr).add j= ⟨b,o+j,none⟩:=by
 unfold Addr.add;split <;> simp_all
theorem Ints.news0 {w:World} {bb o cap:Nat} {l:List Int} (h:Ints w (some ⟨bb,o,none⟩) cap l):∀j u,(l.map (Value.int .i64))[j]? =some u→w.cell? ((⟨bb,o,none⟩:Addr).add j)=some u:=fun j u hu=>by
 obtain⟨hj,e⟩:=List.getElem?_eq_some_iff.1 hu;simp only [List.length_map] at hj;have:=(h.cell hj).1;rw [Addr.add_off,this,←e];simp
theorem Ints.sliced {w:World} {a:Option Addr} {cap:Nat} {l:List Int} (h:Ints w a cap l) {k:Nat} (hk:k≤l.length):Ints w (if cap=k then a else a.map (·.add (k*1))) (cap - k) (l.drop k):=by
 have hle:=h.le;refine⟨by simp;omega,by have:=h.mx;omega,fun e=>?_,fun A hA i hi=>?_⟩
 ·by_cases hc:cap=k
  ·omega
  ·rw [if_neg hc] at e
   cases a with
   | none=>have:=h.nil rfl;omega
   | some A=>simp at e
 ·have hi2:k+i<l.length:=by simp at hi;omega
  have hc:¬cap=k:=by omega
  rw [if_neg hc] at hA;obtain⟨b,o,rfl⟩:=h.head hi2;simp only [Option.map_some,Option.some.injEq,Nat.mul_one,Addr.add_off] at hA;subst hA;obtain⟨c1,c2⟩:=h.cell hi2;refine⟨rfl,.int .i64 l[k+i],?_,?_,?_⟩
  ·dsimp only;rw [Nat.add_assoc];exact c1
  ·rw [List.getElem_drop]
  ·rw [List.getElem_drop];exact c2
theorem zEZ {w:World} {ops:Array Oper} {rest:List Oper} {o:Oper} {a:Act} {Q:Exit→Act→World→Prop} (hgd:o.guard=none) (s x:Operand) (t:TypeId)
 (ho:o.op=.call {callee:=.builtin .append,args:=#[s,x],argTypes:=#[t,t]}) (ht:Tryz.prog.underlying t=some (.slice 3))
 (base:Nat) (v:Value) (L:List Int) (hs:a.eval s=v) (hown:OwnI w base v L) (ad:Option Addr) (n c:Nat) (l:List Int) (hx:a.eval x=.slice ad n c) (hn:l.length=n) (hI:Ints w ad c l)
 (hlen:L.length+l.length≤1000000000000) (hbase:base≤w.heap.size)
 (h:∀v' w',OwnI w' base v' (L ++ l)→w.grownBy w' v.ownBlock→wpList Tryz.prog ops Q rest (a.put o.dst v') w'):wpList Tryz.prog ops Q (o :: rest) a w:=by
 obtain⟨i0,hi0,hz0,hz1,hz2⟩:=info_parts zEW;subst hn
 cases ad with
 | none=>
  have hc:=hI.nil rfl;have hl:l=[]:=List.length_eq_zero_iff.1 (by have:=hI.le;omega);subst hl hc;refine wpList_append_own_none hgd s x t ho base 3 i0 1 ht hi0 v L.length (L.map (Value.int .i64)) hs hown.own hx ?_;refine h v w (by rw [List.append_nil];exact hown) ?_;exact World.grownBy.refl w _
 | some A=>
  by_cases hl:l=[]
  ·subst hl;refine wpList_append_own_at w hgd s x t ho base 3 i0 (.int .i64 0) 1 8 ht hi0 hz0 hz1 hz2 rfl (by decide) v L.length (L.map (Value.int .i64)) hs hown.own A 0 c [] hx rfl (fun j u hu=>by simp at hu) (fun u hu=>by cases hu) (by unfold maxLen;simp at hlen;omega) (by simp at hlen;omega) hbase ?_;intro v' w' h1 h2 h3 h4;exact h v' w' ⟨fun e=>absurd (h3.1 e).1 hown.nn,by simpa using h1⟩ h2
  ·obtain⟨b,o',e⟩:=hI.head (i:=0) (List.length_pos_iff.2 hl);cases e
   refine wpList_append_own_at w hgd s x t ho base 3 i0 (.int .i64 0) 1 8 ht hi0 hz0 hz1 hz2 rfl (by decide) v L.length (L.map (Value.int .i64)) hs hown.own ⟨b,o',none⟩ l.length c (l.map (Value.int .i64)) hx (by simp) hI.news0 (fun u hu=>by obtain⟨z,_,rfl⟩:=List.mem_map.1 hu;rfl) (by unfold maxLen;omega) (by omega) hbase ?_;intro v' w' h1 h2 h3 h4;exact h v' w' ⟨fun e=>absurd (h3.1 e).1 hown.nn,by simpa using h1⟩ h2
theorem zDa {a0 w:World} {ops:Array Oper} {rest:List Oper} {o:Oper} {a:Act} {Q:Exit→Act→World→Prop} (hgd:o.guard=none) (s x:Operand) (t:TypeId)
 (ho:o.op=.call {callee:=.builtin .append,args:=#[s,x],argTypes:=#[t,t]}) (ht:Tryz.prog.underlying t=some (.slice 3))
 (hx0:Ext a0 w) (v:Value) (L:List Int) (hs:a.eval s=v) (hown:OwnI w a0.heap.size v L) (ad:Option Addr) (n c:Nat) (l:List Int) (hx:a.eval x=.slice ad n c) (hn:l.length=n) (hI:Ints w ad c l)
 (hlen:L.length+l.length≤1000000000000)
 (h:∀v' w',OwnI w' a0.heap.size v' (L ++ l)→Ext a0 w'→wpList Tryz.prog ops Q rest (a.put o.dst v') w'):wpList Tryz.prog ops Q (o :: rest) a w:=
 zEZ hgd s x t ho ht a0.heap.size v L hs hown ad n c l hx hn hI hlen hx0.size fun v' w' h1 h2=>h v' w' h1 (Below.grown hx0 h2 hx0.size (fun k e=>by
  obtain⟨g,cap,rfl,hb,_⟩:=hown.form;simp only [Value.ownBlock,Option.some.injEq] at e
  omega))
theorem OwnI.one (w:World) (x:Int):OwnI (w.alloc (.cells #[.int .i64 x] 3)) w.heap.size (.slice (some ⟨w.heap.size,0,none⟩) 1 1) [x]:=
 ⟨by simp,by simp,.inr ⟨w.heap.size,1,#[.int .i64 x],rfl,Nat.le_refl _,heap_alloc_new w _,Nat.le_refl _,by unfold maxLen;omega,rfl,rfl⟩⟩
theorem OwnI.look {w:World} {B:Nat} {v:Value} {L:List Int} (h:OwnI w B v L) (hd:∀x∈L,-9223372036854775808≤x∧x≤9223372036854775807):
 ∃g cap,v=.slice (some ⟨g,0,none⟩) L.length cap∧Ints w (some ⟨g,0,none⟩) cap L∧B≤g:=by
 obtain⟨g,cap,rfl,hb,_⟩:=h.form;exact⟨g,cap,rfl,(h.ints hd).2,hb⟩
theorem Digs.bd {L:List Int} (h:Digs L):∀x∈L,-9223372036854775808≤x∧x≤9223372036854775807:=fun x hx=>by have:=h x hx;omega
end Go.Proofs.YtonkhcdmchidjaaGreat
