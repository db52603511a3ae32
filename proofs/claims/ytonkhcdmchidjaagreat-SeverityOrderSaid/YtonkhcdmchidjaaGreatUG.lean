import Derived.Test.YtonkhcdmchidjaaGreatQM1
import Derived.Test.YtonkhcdmchidjaaGreatPRefD
import Derived.Test.YtonkhcdmchidjaaGreatR0
namespace Go.Proofs.YtonkhcdmchidjaaGreat
open Go.RowKit Go BigFrame
set_option maxRecDepth 100000
set_option linter.all false
theorem zCS {e t ty:TypeId} {z:Value} {k by_:Nat} (ht:Tryz.prog.underlying t=some (.slice e)) (hi:(Tryz.prog.info? e).map (fun i=>(i.zero,i.size,i.bytes))=some (some z,k,by_)) (hz:z.cells.size=k) (hk:0<k)
 {w:World} {B:Nat} (hB:B≤w.heap.size) {v:Value} {n:Nat} {xs:List Value} (hown:w.ownsRow B e k v n xs) {ad:Option Addr} {m c:Nat} {news:List Value} (hnil:ad=none→m=0∧c=0)
 (hl:news.length=m*k) (hc:∀A,ad=some A→∀ (j:Nat) (u:Value),news[j]? =some u→w.cell? (A.add j)=some u) (h1:∀u∈news,u.oneCell'=true) (hlen:n+m≤1000000) (hby:by_≤1000):
 ∃v' w',(Builtin.append_ #[t,t] ty #[v,.slice ad m c]).run Tryz.prog w=.ok v' w'∧w'.ownsRow B e k v' (n+m) (xs ++ news)∧w.grownBy w' v.ownBlock∧(v'=.slice none 0 0↔v=.slice none 0 0∧m=0)∧(v'.ownBlock=v.ownBlock∨v'.ownBlock=some w.heap.size):=by
 obtain⟨i0,hi0,hz0,hz1,hz2⟩:=info_parts hi
 cases ad with
 | none=>
  obtain⟨rfl,rfl⟩:=hnil rfl;have hn:news=[]:=List.eq_nil_of_length_eq_zero (by omega);subst hn;exact⟨v,w,run_append_owned_none (P:=Tryz.prog) (w:=w) B t ty e i0 k ht hi0 v n xs hown,by simpa using hown,World.grownBy.refl w _,by simp,.inl rfl⟩
 | some A=>
  have hb:(n+m)*by_≤1000000*1000:=Nat.mul_le_mul hlen hby;exact run_append_own_at w B t ty e i0 z k by_ ht hi0 hz0 hz1 hz2 hz hk v n xs hown A m c news hl (hc A rfl) h1 (by unfold maxLen;omega) (by omega) hB
theorem zAk {ops:Array Oper} {o:Oper} {a:Act} {K:Act→World→Prop} {Q:Exit→Act→World→Prop} {E:Prop} (hgd:o.guard=none) (s y:Operand) (t e:TypeId)
 (ho:o.op=.call {callee:=.builtin .append,args:=#[s,y],argTypes:=#[t,t]}) {z:Value} {k by_:Nat} (ht:Tryz.prog.underlying t=some (.slice e)) (hi:(Tryz.prog.info? e).map (fun i=>(i.zero,i.size,i.bytes))=some (some z,k,by_)) (hz:z.cells.size=k) (hk:0<k)
 {w:World} {B:Nat} (hB:B≤w.heap.size) {v:Value} {n:Nat} {xs:List Value} (hs:a.eval s=v) (hown:w.ownsRow B e k v n xs) {ad:Option Addr} {m c:Nat} {news:List Value} (hy:a.eval y=.slice ad m c) (hnil:ad=none→m=0∧c=0)
 (hl:news.length=m*k) (hc:∀A,ad=some A→∀ (j:Nat) (u:Value),news[j]? =some u→w.cell? (A.add j)=some u) (h1:∀u∈news,u.oneCell'=true) (hlen:n+m≤1000000) (hby:by_≤1000)
 (h:∀v' w',w'.ownsRow B e k v' (n+m) (xs ++ news)→w.grownBy w' v.ownBlock→(v'=.slice none 0 0↔v=.slice none 0 0∧m=0)→(v'.ownBlock=v.ownBlock∨v'.ownBlock=some w.heap.size)→K (a.put o.dst v') w'):
 if Region.wanted o (yielded ops a.tmps)=true then Oper.wp Tryz.prog o a w K Q else E:=by
 have hw:Region.wanted o (yielded ops a.tmps)=true:=by simp [Region.wanted,hgd]
 rw [if_pos hw];obtain⟨v',w',hr,h2,h3,h4,h5⟩:=zCS (ty:=o.type) ht hi hz hk hB hown hnil hl hc h1 hlen hby;unfold Oper.wp execOp;simp only [ho,resolve,invoke,builtin,Sem.run_bind,Sem.run_pure,Result.andThen_ok,List.map_toArray,List.map_cons,List.map_nil,hs,hy,hr];exact h v' w' h2 h3 h4 h5
theorem zBg {ops:Array Oper} {rest:List Oper} {o:Oper} {a:Act} {Q:Exit→Act→World→Prop} (hgd:o.guard=none) (s y:Operand) (t e:TypeId)
 (ho:o.op=.call {callee:=.builtin .append,args:=#[s,y],argTypes:=#[t,t]}) {z:Value} {k by_:Nat} (ht:Tryz.prog.underlying t=some (.slice e)) (hi:(Tryz.prog.info? e).map (fun i=>(i.zero,i.size,i.bytes))=some (some z,k,by_)) (hz:z.cells.size=k) (hk:0<k)
 {w:World} {B:Nat} (hB:B≤w.heap.size) {v:Value} {n:Nat} {xs:List Value} (hs:a.eval s=v) (hown:w.ownsRow B e k v n xs) {ad:Option Addr} {m c:Nat} {news:List Value} (hy:a.eval y=.slice ad m c) (hnil:ad=none→m=0∧c=0)
 (hl:news.length=m*k) (hc:∀A,ad=some A→∀ (j:Nat) (u:Value),news[j]? =some u→w.cell? (A.add j)=some u) (h1:∀u∈news,u.oneCell'=true) (hlen:n+m≤1000000) (hby:by_≤1000)
 (h:∀v' w',w'.ownsRow B e k v' (n+m) (xs ++ news)→w.grownBy w' v.ownBlock→(v'=.slice none 0 0↔v=.slice none 0 0∧m=0)→(v'.ownBlock=v.ownBlock∨v'.ownBlock=some w.heap.size)→wpList Tryz.prog ops Q rest (a.put o.dst v') w'):
 wpList Tryz.prog ops Q (o :: rest) a w:=by
 refine wpList_plain hgd fun K hK=>?_;obtain⟨v',w',hr,h2,h3,h4,h5⟩:=zCS (ty:=o.type) ht hi hz hk hB hown hnil hl hc h1 hlen hby;unfold Oper.wp execOp;simp only [ho,resolve,invoke,builtin,Sem.run_bind,Sem.run_pure,Result.andThen_ok,List.map_toArray,List.map_cons,List.map_nil,hs,hy,hr];exact hK _ _ (h v' w' h2 h3 h4 h5)
theorem zDs:(Tryz.prog.info? 38).map (fun i=>(i.zero,i.size,i.bytes))=some (some (.agg #[.bool false,.slice none 0 0,.bool false,.slice none 0 0]),4,64):=by kernel_rfl
theorem zBh:(Tryz.prog.info? 23).map (fun i=>(i.zero,i.size,i.bytes))=some (some (.slice none 0 0),1,24):=by kernel_rfl
end Go.Proofs.YtonkhcdmchidjaaGreat
