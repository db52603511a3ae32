import Derived.Test.YtonkhcdmchidjaaGreatQ4
namespace Go.Proofs.YtonkhcdmchidjaaGreat
open Go.RowKit Go BigFrame
set_option maxRecDepth 100000
set_option linter.all false
structure RatC where
 n:Bool
 a:Option Addr
 q:Nat
 c:Nat
 m:Bool
 b:Option Addr
 k:Nat
 d:Nat
abbrev RatC.val (x:RatC):Value:=.agg #[.bool x.n,.slice x.a x.q x.c,.bool x.m,.slice x.b x.k x.d]
def RatC.cells (x:RatC):List Value:=[.bool x.n,.slice x.a x.q x.c,.bool x.m,.slice x.b x.k x.d]
structure RatC.Off (x:RatC) (o:Option Nat):Prop where
 a:0<x.q→∀A,x.a=some A→o≠some A.block
 b:0<x.k→∀A,x.b=some A→o≠some A.block
structure OwnRats (w:World) (B:Nat) (v:Value) (L:List RatC) (rs:List Rat):Prop where
 len:L.length=rs.length
 own:w.ownsRow B 38 4 v L.length (L.flatMap RatC.cells)
 val:∀i (h:i<L.length),RatV w L[i].val (rs.getD i 0)
 apart:∀x∈L,x.Off v.ownBlock
theorem OwnRats.nil (w:World) (B:Nat):OwnRats w B (.slice none 0 0) [] []:=⟨rfl,World.ownsRow_nil _ _ _ _,fun i h=>by simp at h,fun x hx=>by cases hx⟩
theorem RatV.grown {w w':World} {row:Option Nat} {x:RatC} {r:Rat} (h:RatV w x.val r) (hg:w.grownBy w' row) (ho:x.Off row):RatV w' x.val r:=
 RatV.mk (h.num.grown hg ho.a) (h.den.grown hg ho.b)
theorem OwnRats.ext {w w':World} {B:Nat} {v:Value} {L:List RatC} {rs:List Rat} (h:OwnRats w B v L rs) (k:Ext w w'):OwnRats w' B v L rs:=
 ⟨h.len,zAg h.own k,fun i hi=>(h.val i hi).ext k,h.apart⟩
theorem RatV.offNew {w:World} {x:RatC} {r:Rat} (h:RatV w x.val r):x.Off (some w.heap.size):=
 ⟨fun hq A hA e=>by have:=h.num.lt hq A hA;simp only [Option.some.injEq] at e;omega,fun hq A hA e=>by have:=h.den.lt hq A hA;simp only [Option.some.injEq] at e;omega⟩
theorem OwnRats.more {w w':World} {B:Nat} {v v':Value} {L:List RatC} {rs:List Rat} {x:RatC} {r:Rat} (h:OwnRats w B v L rs) (hx:RatV w x.val r) (hxa:x.Off v.ownBlock)
 (hown:w'.ownsRow B 38 4 v' (L.length+1) (L.flatMap RatC.cells ++ x.cells)) (hg:w.grownBy w' v.ownBlock) (hat:v'.ownBlock=v.ownBlock∨v'.ownBlock=some w.heap.size):
 OwnRats w' B v' (L ++ [x]) (rs ++ [r]):=by
 have hl:=h.len;refine⟨by simp [hl],by simpa using hown,fun i hi=>?_,fun y hy=>?_⟩
 ·by_cases hk:i<L.length
  ·have e0:(rs ++ [r]).getD i 0=rs.getD i 0:=by simp only [List.getD];rw [List.getElem?_append_left (by omega)]
   rw [List.getElem_append_left hk,e0];exact(h.val i hk).grown hg (h.apart _ (List.getElem_mem hk))
  ·have hi':i=L.length:=by simp at hi;omega
   subst hi';have e1:(L ++ [x])[L.length]'(by simp)=x:=by simp
   have e2:(rs ++ [r]).getD L.length 0=r:=by rw [hl];simp
   rw [e1,e2];exact hx.grown hg hxa
 ·rcases hat with h1 | h1
  ·rw [h1];rcases List.mem_append.1 hy with hy | hy
   ·exact h.apart y hy
   ·obtain rfl:=List.mem_singleton.1 hy;exact hxa
  ·rw [h1];rcases List.mem_append.1 hy with hy | hy
   ·obtain⟨i,hi,e3⟩:=List.getElem_of_mem hy;have:=h.val i hi;rw [e3] at this;exact this.offNew
   ·obtain rfl:=List.mem_singleton.1 hy;exact hx.offNew
theorem OwnRats.form {w:World} {B:Nat} {v:Value} {L:List RatC} {rs:List Rat} (h:OwnRats w B v L rs):∃a cap,v=.slice a L.length cap∧L.length≤cap∧cap≤9223372036854775807:=by
 rcases h.own.2 with⟨rfl,h0⟩ | ⟨g,cap,cur,rfl,_,_,h1,h2,_⟩
 ·exact⟨none,0,by rw [h0],by omega,by omega⟩
 ·exact⟨_,_,rfl,h1,by unfold maxLen at h2;omega⟩
theorem OwnRats.low {w:World} {B B':Nat} {v:Value} {L:List RatC} {rs:List Rat} (h:OwnRats w B v L rs) (hB:B'≤B):OwnRats w B' v L rs:=by
 refine⟨h.len,⟨h.own.1,?_⟩,h.val,h.apart⟩;rcases h.own.2 with h2 | ⟨g,cap,cur,e,hb,hg,hr⟩
 ·exact .inl h2
 ·exact .inr ⟨g,cap,cur,e,by omega,hg,hr⟩
theorem zGP (L:List RatC) (i:Nat) (h:i<L.length):(L.flatMap RatC.cells)[4*i]? =some (.bool L[i].n)∧(L.flatMap RatC.cells)[4*i+1]? =some (.slice L[i].a L[i].q L[i].c)∧(L.flatMap RatC.cells)[4*i+2]? =some (.bool L[i].m)∧(L.flatMap RatC.cells)[4*i+3]? =some (.slice L[i].b L[i].k L[i].d):=by
 induction L generalizing i with
 | nil=>simp at h
 | cons x L ih=>
  cases i with
  | zero=>simp [RatC.cells]
  | succ i=>
   have:=ih i (by simpa using h);rw [show 4* (i+1)=4*i+4 by omega]
   simpa [RatC.cells] using this
theorem OwnRats.cells {w:World} {B:Nat} {g cap:Nat} {L:List RatC} {rs:List Rat} (h:OwnRats w B (.slice (some ⟨g,0,none⟩) L.length cap) L rs) {i:Nat} (hi:i<L.length):
 w.cell? ⟨g,i*4,none⟩=some (.bool L[i].n)∧w.cell? ⟨g,i*4+1,none⟩=some (.slice L[i].a L[i].q L[i].c)∧w.cell? ⟨g,i*4+2,none⟩=some (.bool L[i].m)∧w.cell? ⟨g,i*4+3,none⟩=some (.slice L[i].b L[i].k L[i].d):=by
 obtain⟨e1,e2,e3,e4⟩:=zGP L i hi;rw [Nat.mul_comm i 4];exact⟨(World.ownsRow.cellAt h.own (4*i) (by omega)).trans e1,(World.ownsRow.cellAt h.own (4*i+1) (by omega)).trans e2,(World.ownsRow.cellAt h.own (4*i+2) (by omega)).trans e3,(World.ownsRow.cellAt h.own (4*i+3) (by omega)).trans e4⟩
theorem OwnRats.head {w:World} {B:Nat} {v:Value} {L:List RatC} {rs:List Rat} (h:OwnRats w B v L rs) (hl:0<L.length):∃g cap,v=.slice (some ⟨g,0,none⟩) L.length cap∧B≤g∧g<w.heap.size∧L.length≤cap∧cap≤9223372036854775807:=by
 rcases h.own.2 with⟨rfl,h0⟩ | ⟨g,cap,cur,rfl,hb,hg,h1,h2,_⟩
 ·omega
 ·exact⟨g,cap,rfl,hb,(Array.getElem?_eq_some_iff.1 hg).1,h1,by unfold maxLen at h2;omega⟩
theorem OwnRats.lt {w:World} {B:Nat} {v:Value} {L:List RatC} {rs:List Rat} (h:OwnRats w B v L rs):∀g,v.ownBlock=some g→B≤g∧g<w.heap.size:=fun g e=>World.ownsRow.lt h.own g e
theorem zLf:(Tryz.prog.info? 38).map (fun i=>(i.zero,i.size,i.bytes))=some (some (.agg #[.bool false,.slice none 0 0,.bool false,.slice none 0 0]),4,64):=by kernel_rfl
theorem zCQ {a0 w:World} (hx0:Ext a0 w) {v:Value} {L:List RatC} {rs:List Rat} (hown:OwnRats w a0.heap.size v L rs) {g:Nat} {t:TypeId} {x:RatC} {r:Rat} (hb:Blk w g #[.bool x.n,.slice x.a x.q x.c,.bool x.m,.slice x.b x.k x.d] t) (hx:RatV w x.val r) (hxo:x.Off v.ownBlock) (hlen:L.length≤1000000) (ty:TypeId):
 ∃v' w',(Builtin.append_ #[23,23] ty #[v,.slice (some ⟨g,0,none⟩) 1 1]).run Tryz.prog w=.ok v' w'∧OwnRats w' a0.heap.size v' (L ++ [x]) (rs ++ [r])∧Ext a0 w'∧w.grownBy w' v.ownBlock∧(v'.ownBlock=v.ownBlock∨v'.ownBlock=some w.heap.size):=by
 obtain⟨i0,hi0,hz0,hz1,hz2⟩:=info_parts zLf
 obtain⟨v',w',h0,h1,h2,h3,h4⟩:=run_append_own_at w a0.heap.size 23 ty 38 i0 _ 4 64 Tryz.underlying23 hi0 hz0 hz1 hz2 rfl (by decide) v L.length (L.flatMap RatC.cells) hown.own ⟨g,0,none⟩ 1 1 x.cells rfl (fun j u hu=>by
  have e:((⟨g,0,none⟩:Addr).add j)= ⟨g,j,none⟩:=by unfold Addr.add;split <;> simp_all
  rw [e];refine hb.cell ?_
  simpa [RatC.cells] using hu) (fun u hu=>by simp only [RatC.cells,List.mem_cons,List.not_mem_nil,or_false] at hu;rcases hu with rfl | rfl | rfl | rfl <;> rfl) (by unfold maxLen;omega) (by omega) hx0.size
 exact⟨v',w',h0,hown.more hx hxo h1 h2 h4,Below.grown hx0 h2 hx0.size (fun k e=>(World.ownsRow.lt hown.own k e).1),h2,h4⟩
theorem zAP {ops:Array Oper} {o:Oper} {a:Act} {K:Act→World→Prop} {Q:Exit→Act→World→Prop} {E:Prop} (hgd:o.guard=none) (s y:Operand)
 (ho:o.op=.call {callee:=.builtin .append,args:=#[s,y],argTypes:=#[23,23]}) {a0 w:World} (hx0:Ext a0 w) {v:Value} (hs:a.eval s=v) {L:List RatC} {rs:List Rat} (hown:OwnRats w a0.heap.size v L rs)
 {g:Nat} (hy:a.eval y=.slice (some ⟨g,0,none⟩) 1 1) {t:TypeId} {x:RatC} {r:Rat} (hb:Blk w g #[.bool x.n,.slice x.a x.q x.c,.bool x.m,.slice x.b x.k x.d] t) (hx:RatV w x.val r) (hxo:x.Off v.ownBlock) (hlen:L.length≤1000000)
 (h:∀v' w',OwnRats w' a0.heap.size v' (L ++ [x]) (rs ++ [r])→Ext a0 w'→w.grownBy w' v.ownBlock→(v'.ownBlock=v.ownBlock∨v'.ownBlock=some w.heap.size)→K (a.put o.dst v') w'):
 if Region.wanted o (yielded ops a.tmps)=true then Oper.wp Tryz.prog o a w K Q else E:=by
 have hw:Region.wanted o (yielded ops a.tmps)=true:=by simp [Region.wanted,hgd]
 rw [if_pos hw];obtain⟨v',w',hr,h1,h2,h3,h4⟩:=zCQ hx0 hown hb hx hxo hlen o.type;unfold Oper.wp execOp;simp only [ho,resolve,invoke,builtin,Sem.run_bind,Sem.run_pure,Result.andThen_ok,List.map_toArray,List.map_cons,List.map_nil,hs,hy,hr];exact h v' w' h1 h2 h3 h4
theorem zBU {ops:Array Oper} {rest:List Oper} {o:Oper} {a:Act} {Q:Exit→Act→World→Prop} (hgd:o.guard=none) (s y:Operand)
 (ho:o.op=.call {callee:=.builtin .append,args:=#[s,y],argTypes:=#[23,23]}) {a0 w:World} (hx0:Ext a0 w) {v:Value} (hs:a.eval s=v) {L:List RatC} {rs:List Rat} (hown:OwnRats w a0.heap.size v L rs)
 {g:Nat} (hy:a.eval y=.slice (some ⟨g,0,none⟩) 1 1) {t:TypeId} {x:RatC} {r:Rat} (hb:Blk w g #[.bool x.n,.slice x.a x.q x.c,.bool x.m,.slice x.b x.k x.d] t) (hx:RatV w x.val r) (hxo:x.Off v.ownBlock) (hlen:L.length≤1000000)
 (h:∀v' w',OwnRats w' a0.heap.size v' (L ++ [x]) (rs ++ [r])→Ext a0 w'→w.grownBy w' v.ownBlock→(v'.ownBlock=v.ownBlock∨v'.ownBlock=some w.heap.size)→wpList Tryz.prog ops Q rest (a.put o.dst v') w'):
 wpList Tryz.prog ops Q (o :: rest) a w:=by
 refine wpList_plain hgd fun K hK=>?_;obtain⟨v',w',hr,h1,h2,h3,h4⟩:=zCQ hx0 hown hb hx hxo hlen o.type;unfold Oper.wp execOp;simp only [ho,resolve,invoke,builtin,Sem.run_bind,Sem.run_pure,Result.andThen_ok,List.map_toArray,List.map_cons,List.map_nil,hs,hy,hr];exact hK _ _ (h v' w' h1 h2 h3 h4)
end Go.Proofs.YtonkhcdmchidjaaGreat
