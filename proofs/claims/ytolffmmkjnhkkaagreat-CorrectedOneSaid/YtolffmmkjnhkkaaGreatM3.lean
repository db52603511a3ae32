import Derived.Test.YtolffmmkjnhkkaaGreatM2
import Derived.Below
namespace Go.Proofs.YtolffmmkjnhkkaaGreat
open Go.RowKit Go BigFrame
set_option maxRecDepth 100000
set_option linter.unusedSimpArgs false
set_option linter.unusedVariables false
def RO (w:World) (v:Value):Option Rat→Prop
 | none=>v=zeroRat
 | some r=>RatV w v r
theorem RO.ext {w w':World} {v:Value} {o:Option Rat} (h:RO w v o) (k:Ext w w'):RO w' v o:=by
 cases o with
 | none=>exact h
 | some r=>exact RatV.ext h k
theorem RO.form {w:World} {v:Value} {o:Option Rat} (h:RO w v o):∃n1 a q c n2 b k d,v=.agg #[.bool n1,.slice a q c,.bool n2,.slice b k d]:=by
 cases o with
 | none=>exact⟨_,_,_,_,_,_,_,_,h⟩
 | some r=>
  obtain⟨n1,a,q,c,b,k,d,e⟩:=RatV.form h
  exact⟨_,_,_,_,_,_,_,_,e⟩
theorem RO.grown {w w':World} {row:Option Nat} {x:RatC} {o:Option Rat} (h:RO w x.val o) (hg:w.grownBy w' row) (ho:x.Off row):RO w' x.val o:=by
 cases o with
 | none=>exact h
 | some r=>exact RatV.grown h hg ho
theorem zero_off {x:RatC} (h:x.val=zeroRat) (o:Option Nat):x.Off o:=by
 obtain⟨n,a,q,c,m,b,k,d⟩:=x
 simp only [RatC.val,zeroRat,Value.agg.injEq,Array.mk.injEq,List.cons.injEq,Value.bool.injEq,Value.slice.injEq,and_true] at h
 obtain⟨_,⟨rfl,rfl,rfl⟩,_,rfl,rfl,rfl⟩:=h
 exact⟨fun hq=>absurd hq (by simp),fun hq=>absurd hq (by simp)⟩
theorem RO.offNew {w:World} {x:RatC} {o:Option Rat} (h:RO w x.val o):x.Off (some w.heap.size):=by
 cases o with
 | none=>exact zero_off h _
 | some r=>exact RatV.offNew h
theorem RO.put {w:World} {v:Value} {o:Option Rat} {p:Nat} {cs:Array Value} {t:TypeId} (h:RO w v o) (hB:Blk w p cs t) (hc:noInt cs) (i:Nat) (u:Value):RO (w.setCell ⟨p,i,none⟩ u) v o:=by
 cases o with
 | none=>exact h
 | some r=>exact RatV.put h hB hc i u
structure OwnOs (w:World) (B:Nat) (v:Value) (L:List RatC) (rs:List (Option Rat)):Prop where
 len:L.length=rs.length
 own:w.ownsRow B 38 4 v L.length (L.flatMap RatC.cells)
 val:∀i (h:i<L.length),RO w L[i].val (rs.getD i none)
 apart:∀x∈L,x.Off v.ownBlock
theorem OwnOs.nil (w:World) (B:Nat):OwnOs w B (.slice none 0 0) [] []:=⟨rfl,World.ownsRow_nil _ _ _ _,fun i h=>by simp at h,fun x hx=>by cases hx⟩
theorem OwnOs.ext {w w':World} {B:Nat} {v:Value} {L:List RatC} {rs:List (Option Rat)} (h:OwnOs w B v L rs) (k:Ext w w'):OwnOs w' B v L rs:=
 ⟨h.len,ownsRow_ext h.own k,fun i hi=>(h.val i hi).ext k,h.apart⟩
theorem OwnOs.more {w w':World} {B:Nat} {v v':Value} {L:List RatC} {rs:List (Option Rat)} {x:RatC} {r:Option Rat} (h:OwnOs w B v L rs) (hx:RO w x.val r) (hxa:x.Off v.ownBlock)
 (hown:w'.ownsRow B 38 4 v' (L.length+1) (L.flatMap RatC.cells ++ x.cells)) (hg:w.grownBy w' v.ownBlock) (hat:v'.ownBlock=v.ownBlock∨v'.ownBlock=some w.heap.size):
 OwnOs w' B v' (L ++ [x]) (rs ++ [r]):=by
 have hl:=h.len
 refine⟨by simp [hl],by simpa using hown,fun i hi=>?_,fun y hy=>?_⟩
 ·by_cases hk:i<L.length
  ·have e0:(rs ++ [r]).getD i none=rs.getD i none:=by simp only [List.getD];rw [List.getElem?_append_left (by omega)]
   rw [List.getElem_append_left hk,e0]
   exact(h.val i hk).grown hg (h.apart _ (List.getElem_mem hk))
  ·have hi':i=L.length:=by simp at hi;omega
   subst hi'
   have e1:(L ++ [x])[L.length]'(by simp)=x:=by simp
   have e2:(rs ++ [r]).getD L.length none=r:=by rw [hl];simp
   rw [e1,e2]
   exact hx.grown hg hxa
 ·rcases hat with h1 | h1
  ·rw [h1]
   rcases List.mem_append.1 hy with hy | hy
   ·exact h.apart y hy
   ·obtain rfl:=List.mem_singleton.1 hy
    exact hxa
  ·rw [h1]
   rcases List.mem_append.1 hy with hy | hy
   ·obtain⟨i,hi,e3⟩:=List.getElem_of_mem hy
    have:=h.val i hi
    rw [e3] at this
    exact this.offNew
   ·obtain rfl:=List.mem_singleton.1 hy
    exact hx.offNew
theorem OwnOs.form {w:World} {B:Nat} {v:Value} {L:List RatC} {rs:List (Option Rat)} (h:OwnOs w B v L rs):∃a cap,v=.slice a L.length cap∧L.length≤cap∧cap≤9223372036854775807:=by
 rcases h.own.2 with⟨rfl,h0⟩ | ⟨g,cap,cur,rfl,_,_,h1,h2,_⟩
 ·exact⟨none,0,by rw [h0],by omega,by omega⟩
 ·exact⟨_,_,rfl,h1,by unfold maxLen at h2;omega⟩
theorem OwnOs.low {w:World} {B B':Nat} {v:Value} {L:List RatC} {rs:List (Option Rat)} (h:OwnOs w B v L rs) (hB:B'≤B):OwnOs w B' v L rs:=by
 refine⟨h.len,⟨h.own.1,?_⟩,h.val,h.apart⟩
 rcases h.own.2 with h2 | ⟨g,cap,cur,e,hb,hg,hr⟩
 ·exact .inl h2
 ·exact .inr ⟨g,cap,cur,e,by omega,hg,hr⟩
theorem OwnOs.cells {w:World} {B:Nat} {g cap:Nat} {L:List RatC} {rs:List (Option Rat)} (h:OwnOs w B (.slice (some ⟨g,0,none⟩) L.length cap) L rs) {i:Nat} (hi:i<L.length):
 w.cell? ⟨g,i*4,none⟩=some (.bool L[i].n)∧w.cell? ⟨g,i*4+1,none⟩=some (.slice L[i].a L[i].q L[i].c)∧w.cell? ⟨g,i*4+2,none⟩=some (.bool L[i].m)∧w.cell? ⟨g,i*4+3,none⟩=some (.slice L[i].b L[i].k L[i].d):=by
 obtain⟨e1,e2,e3,e4⟩:=flat_getR L i hi
 rw [Nat.mul_comm i 4]
 exact⟨(World.ownsRow.cellAt h.own (4*i) (by omega)).trans e1,(World.ownsRow.cellAt h.own (4*i+1) (by omega)).trans e2,(World.ownsRow.cellAt h.own (4*i+2) (by omega)).trans e3,(World.ownsRow.cellAt h.own (4*i+3) (by omega)).trans e4⟩
theorem OwnOs.head {w:World} {B:Nat} {v:Value} {L:List RatC} {rs:List (Option Rat)} (h:OwnOs w B v L rs) (hl:0<L.length):∃g cap,v=.slice (some ⟨g,0,none⟩) L.length cap∧B≤g∧g<w.heap.size∧L.length≤cap∧cap≤9223372036854775807:=by
 rcases h.own.2 with⟨rfl,h0⟩ | ⟨g,cap,cur,rfl,hb,hg,h1,h2,_⟩
 ·omega
 ·exact⟨g,cap,rfl,hb,(Array.getElem?_eq_some_iff.1 hg).1,h1,by unfold maxLen at h2;omega⟩
theorem OwnOs.lt {w:World} {B:Nat} {v:Value} {L:List RatC} {rs:List (Option Rat)} (h:OwnOs w B v L rs):∀g,v.ownBlock=some g→B≤g∧g<w.heap.size:=fun g e=>World.ownsRow.lt h.own g e
theorem run_append_o {a0 w:World} (hx0:Ext a0 w) {v:Value} {L:List RatC} {rs:List (Option Rat)} (hown:OwnOs w a0.heap.size v L rs) {g:Nat} {t:TypeId} {x:RatC} {r:Option Rat} (hb:Blk w g #[.bool x.n,.slice x.a x.q x.c,.bool x.m,.slice x.b x.k x.d] t) (hx:RO w x.val r) (hxo:x.Off v.ownBlock) (hlen:L.length≤1000000) (ty:TypeId):
 ∃v' w',(Builtin.append_ #[23,23] ty #[v,.slice (some ⟨g,0,none⟩) 1 1]).run Tryz.prog w=.ok v' w'∧OwnOs w' a0.heap.size v' (L ++ [x]) (rs ++ [r])∧Ext a0 w'∧w.grownBy w' v.ownBlock∧(v'.ownBlock=v.ownBlock∨v'.ownBlock=some w.heap.size):=by
 obtain⟨i0,hi0,hz0,hz1,hz2⟩:=info_parts infoRatQ
 obtain⟨v',w',h0,h1,h2,h3,h4⟩:=run_append_own_at w a0.heap.size 23 ty 38 i0 _ 4 64 Tryz.underlying23 hi0 hz0 hz1 hz2 rfl (by decide) v L.length (L.flatMap RatC.cells) hown.own ⟨g,0,none⟩ 1 1 x.cells rfl (fun j u hu=>by
  have e:((⟨g,0,none⟩:Addr).add j)= ⟨g,j,none⟩:=by unfold Addr.add;split <;> simp_all
  rw [e]
  refine hb.cell ?_
  simpa [RatC.cells] using hu) (fun u hu=>by simp only [RatC.cells,List.mem_cons,List.not_mem_nil,or_false] at hu;rcases hu with rfl | rfl | rfl | rfl <;> rfl) (by unfold maxLen;omega) (by omega) hx0.size
 exact⟨v',w',h0,hown.more hx hxo h1 h2 h4,Below.grown hx0 h2 hx0.size (fun k e=>(World.ownsRow.lt hown.own k e).1),h2,h4⟩
theorem step_append_o {ops:Array Oper} {o:Oper} {a:Act} {K:Act→World→Prop} {Q:Exit→Act→World→Prop} {E:Prop} (hgd:o.guard=none) (s y:Operand)
 (ho:o.op=.call {callee:=.builtin .append,args:=#[s,y],argTypes:=#[23,23]}) {a0 w:World} (hx0:Ext a0 w) {v:Value} (hs:a.eval s=v) {L:List RatC} {rs:List (Option Rat)} (hown:OwnOs w a0.heap.size v L rs)
 {g:Nat} (hy:a.eval y=.slice (some ⟨g,0,none⟩) 1 1) {t:TypeId} {x:RatC} {r:Option Rat} (hb:Blk w g #[.bool x.n,.slice x.a x.q x.c,.bool x.m,.slice x.b x.k x.d] t) (hx:RO w x.val r) (hxo:x.Off v.ownBlock) (hlen:L.length≤1000000)
 (h:∀v' w',OwnOs w' a0.heap.size v' (L ++ [x]) (rs ++ [r])→Ext a0 w'→w.grownBy w' v.ownBlock→(v'.ownBlock=v.ownBlock∨v'.ownBlock=some w.heap.size)→K (a.put o.dst v') w'):
 if Region.wanted o (yielded ops a.tmps)=true then Oper.wp Tryz.prog o a w K Q else E:=by
 have hw:Region.wanted o (yielded ops a.tmps)=true:=by simp [Region.wanted,hgd]
 rw [if_pos hw]
 obtain⟨v',w',hr,h1,h2,h3,h4⟩:=run_append_o hx0 hown hb hx hxo hlen o.type
 unfold Oper.wp execOp
 simp only [ho,resolve,invoke,builtin,Sem.run_bind,Sem.run_pure,Result.andThen_ok,List.map_toArray,List.map_cons,List.map_nil,hs,hy,hr]
 exact h v' w' h1 h2 h3 h4
theorem wpl_append_o {ops:Array Oper} {rest:List Oper} {o:Oper} {a:Act} {Q:Exit→Act→World→Prop} (hgd:o.guard=none) (s y:Operand)
 (ho:o.op=.call {callee:=.builtin .append,args:=#[s,y],argTypes:=#[23,23]}) {a0 w:World} (hx0:Ext a0 w) {v:Value} (hs:a.eval s=v) {L:List RatC} {rs:List (Option Rat)} (hown:OwnOs w a0.heap.size v L rs)
 {g:Nat} (hy:a.eval y=.slice (some ⟨g,0,none⟩) 1 1) {t:TypeId} {x:RatC} {r:Option Rat} (hb:Blk w g #[.bool x.n,.slice x.a x.q x.c,.bool x.m,.slice x.b x.k x.d] t) (hx:RO w x.val r) (hxo:x.Off v.ownBlock) (hlen:L.length≤1000000)
 (h:∀v' w',OwnOs w' a0.heap.size v' (L ++ [x]) (rs ++ [r])→Ext a0 w'→w.grownBy w' v.ownBlock→(v'.ownBlock=v.ownBlock∨v'.ownBlock=some w.heap.size)→wpList Tryz.prog ops Q rest (a.put o.dst v') w'):
 wpList Tryz.prog ops Q (o :: rest) a w:=by
 refine wpList_plain hgd fun K hK=>?_
 obtain⟨v',w',hr,h1,h2,h3,h4⟩:=run_append_o hx0 hown hb hx hxo hlen o.type
 unfold Oper.wp execOp
 simp only [ho,resolve,invoke,builtin,Sem.run_bind,Sem.run_pure,Result.andThen_ok,List.map_toArray,List.map_cons,List.map_nil,hs,hy,hr]
 exact hK _ _ (h v' w' h1 h2 h3 h4)
structure RowD where
 a:Option Addr
 cap:Nat
 V:List RatC
 R:List (Option Rat)
structure RowD.Rd (w:World) (v:Value) (x:RowD):Prop where
 eq:v=.slice x.a x.V.length x.cap
 le:x.V.length≤x.cap
 mx:x.cap≤9223372036854775807
 nil:x.a=none→x.cap=0
 len:x.V.length=x.R.length
 cells:∀A,x.a=some A→∀i (h:i<x.V.length),A.spot=none∧w.cell? ⟨A.block,A.off+i*4,none⟩=some (.bool x.V[i].n)∧w.cell? ⟨A.block,A.off+i*4+1,none⟩=some (.slice x.V[i].a x.V[i].q x.V[i].c)∧
  w.cell? ⟨A.block,A.off+i*4+2,none⟩=some (.bool x.V[i].m)∧w.cell? ⟨A.block,A.off+i*4+3,none⟩=some (.slice x.V[i].b x.V[i].k x.V[i].d)
 val:∀i (h:i<x.V.length),RO w x.V[i].val (x.R.getD i none)
def RowD.Off (x:RowD) (o:Option Nat):Prop:=(0<x.V.length→∀A,x.a=some A→o≠some A.block)∧∀c∈x.V,c.Off o
theorem RowD.Rd.ext {w w':World} {v:Value} {x:RowD} (h:x.Rd w v) (k:Ext w w'):x.Rd w' v:=
 ⟨h.eq,h.le,h.mx,h.nil,h.len,fun A hA i hi=>by
  obtain⟨h0,h1,h2,h3,h4⟩:=h.cells A hA i hi
  exact⟨h0,cell_exQ k h1,cell_exQ k h2,cell_exQ k h3,cell_exQ k h4⟩,fun i hi=>(h.val i hi).ext k⟩
theorem RowD.Rd.grown {w w':World} {row:Option Nat} {v:Value} {x:RowD} (h:x.Rd w v) (hg:w.grownBy w' row) (ho:x.Off row):x.Rd w' v:=
 ⟨h.eq,h.le,h.mx,h.nil,h.len,fun A hA i hi=>by
  obtain⟨h0,h1,h2,h3,h4⟩:=h.cells A hA i hi
  have hne:=ho.1 (by omega) A hA
  have key:∀ (j:Nat) (u:Value),w.cell? ⟨A.block,j,none⟩=some u→w'.cell? ⟨A.block,j,none⟩=some u:=fun j u hu=>
   (World.cell?_of_block (a:=⟨A.block,j,none⟩) (hg.block A.block (lt_of_cell hu) (fun e=>hne e.symm))).trans hu
  exact⟨h0,key _ _ h1,key _ _ h2,key _ _ h3,key _ _ h4⟩,fun i hi=>(h.val i hi).grown hg (ho.2 _ (List.getElem_mem hi))⟩
theorem RowD.Rd.offNew {w:World} {v:Value} {x:RowD} (h:x.Rd w v):x.Off (some w.heap.size):=
 ⟨fun hp A hA e=>by
  obtain⟨_,h1,_⟩:=h.cells A hA 0 hp
  have:=lt_of_cell h1
  simp only [Option.some.injEq] at e
  omega,fun c hc=>by
  obtain⟨i,hi,rfl⟩:=List.getElem_of_mem hc
  exact(h.val i hi).offNew⟩
theorem RowD.Rd.head {w:World} {v:Value} {x:RowD} (h:x.Rd w v) {i:Nat} (hi:i<x.V.length):∃b o,x.a=some ⟨b,o,none⟩:=by
 cases hA:x.a with
 | none=>have:=h.nil hA;have:=h.le;omega
 | some A=>
  obtain⟨h0,_⟩:=h.cells A hA i hi
  obtain⟨b,o,s⟩:=A
  simp only at h0
  exact⟨b,o,by rw [h0]⟩
theorem OwnOs.row {w:World} {B:Nat} {v:Value} {L:List RatC} {rs:List (Option Rat)} (h:OwnOs w B v L rs):∃a cap,(RowD.mk a cap L rs).Rd w v∧v=.slice a L.length cap:=by
 rcases h.own.2 with⟨rfl,h0⟩ | ⟨g,cap,cur,rfl,hb,hg,h1,h2,_⟩
 ·have hl:L=[]:=List.eq_nil_of_length_eq_zero h0
  subst hl
  exact⟨none,0,⟨rfl,by simp,by simp,fun _=>rfl,h.len,(fun A hA=>by cases hA),(fun i hi=>by simp at hi)⟩,rfl⟩
 ·refine⟨some ⟨g,0,none⟩,cap,⟨rfl,h1,by unfold maxLen at h2;exact h2,(by simp),h.len,fun A hA i hi=>?_,h.val⟩,rfl⟩
  cases hA
  obtain⟨e1,e2,e3,e4⟩:=h.cells hi
  refine⟨rfl,?_⟩
  simp only [Nat.zero_add]
  exact⟨e1,e2,e3,e4⟩
structure RdG {α:Type} (R:World→Value→α→Prop) (Off:α→Option Nat→Prop):Prop where
 ext:∀w w' v x,Ext w w'→R w v x→R w' v x
 grown:∀w w' row v x,R w v x→w.grownBy w' row→Off x row→R w' v x
 new:∀w v x,R w v x→Off x (some w.heap.size)
 one:∀w v x,R w v x→v.oneCell'=true
theorem rdRow:RdG (fun w v (x:RowD)=>x.Rd w v) RowD.Off where
 ext:=fun w w' v x k h=>h.ext k
 grown:=fun w w' row v x h hg ho=>h.grown hg ho
 new:=fun w v x h=>h.offNew
 one:=fun w v x h=>by rw [h.eq];rfl
structure OwnG {α:Type} (R:World→Value→α→Prop) (Off:α→Option Nat→Prop) (w:World) (B:Nat) (t:TypeId) (v:Value) (xs:List α):Prop where
 ex:∃vs:List Value,w.ownsRow B t 1 v xs.length vs∧∀i (h:i<xs.length),∃x,vs[i]? =some x∧R w x xs[i]∧Off xs[i] v.ownBlock
section
variable {α:Type} {R:World→Value→α→Prop} {Off:α→Option Nat→Prop} {w w':World} {B:Nat} {t:TypeId} {v:Value} {xs:List α}
theorem OwnG.nil (w:World) (B:Nat) (t:TypeId):OwnG R Off w B t (.slice none 0 0) []:=⟨[],World.ownsRow_nil _ _ _ _,fun i h=>absurd h (by simp)⟩
theorem OwnG.ext (hR:RdG R Off) (h:OwnG R Off w B t v xs) (k:Ext w w'):OwnG R Off w' B t v xs:=by
 obtain⟨vs,ho,hx⟩:=h.ex
 refine⟨vs,ownsRow_ext ho k,fun i hi=>?_⟩
 obtain⟨x,e,h1,h2⟩:=hx i hi
 exact⟨x,e,hR.ext _ _ _ _ k h1,h2⟩
theorem OwnG.low {B':Nat} (h:OwnG R Off w B t v xs) (hB:B'≤B):OwnG R Off w B' t v xs:=by
 obtain⟨vs,⟨h1,h2⟩,hx⟩:=h.ex
 refine⟨vs,⟨h1,?_⟩,hx⟩
 rcases h2 with h2 | ⟨g,cap,cur,e,hb,hg,hr⟩
 ·exact .inl h2
 ·exact .inr ⟨g,cap,cur,e,by omega,hg,hr⟩
theorem OwnG.lt (h:OwnG R Off w B t v xs):∀g,v.ownBlock=some g→B≤g∧g<w.heap.size:=by
 obtain⟨vs,ho,_⟩:=h.ex
 exact fun g e=>World.ownsRow.lt ho g e
theorem OwnG.form (h:OwnG R Off w B t v xs):∃a cap,v=.slice a xs.length cap∧xs.length≤cap∧cap≤9223372036854775807:=by
 obtain⟨vs,ho,_⟩:=h.ex
 rcases ho.2 with⟨rfl,h0⟩ | ⟨g,cap,cur,rfl,_,_,h1,h2,_⟩
 ·exact⟨none,0,by rw [h0],by omega,by omega⟩
 ·exact⟨_,_,rfl,h1,by unfold maxLen at h2;omega⟩
theorem OwnG.sl (h:OwnG R Off w B t v xs):∃a cap,v=.slice a xs.length cap∧SlOf R w a cap xs:=by
 obtain⟨vs,ho,hx⟩:=h.ex
 rcases ho.2 with⟨rfl,h0⟩ | ⟨g,cap,cur,rfl,_,_,h1,h2,_⟩
 ·have:xs=[]:=List.eq_nil_of_length_eq_zero h0
  subst this
  exact⟨none,0,rfl,⟨by simp,by omega,fun _=>rfl,fun A hA=>by cases hA⟩⟩
 ·refine⟨_,cap,rfl,⟨h1,by unfold maxLen at h2;omega,by simp,fun A hA i hi=>?_⟩⟩
  cases hA
  obtain⟨x,e,hr,_⟩:=hx i hi
  have:=World.ownsRow.cellAt ho i (by omega)
  rw [e] at this
  exact⟨rfl,x,by simpa using this,hr⟩
theorem OwnG.slice {a:Option Addr} {n cap:Nat} (h:OwnG R Off w B t (.slice a n cap) xs):n=xs.length∧SlOf R w a cap xs:=by
 obtain⟨a',cap',e,hs⟩:=h.sl
 simp only [Value.slice.injEq] at e
 obtain⟨rfl,rfl,rfl⟩:=e
 exact⟨rfl,hs⟩
theorem OwnG.more (hR:RdG R Off) (h:OwnG R Off w B t v xs) {x v':Value} {y:α} {vs:List Value} (hvs:w.ownsRow B t 1 v xs.length vs) (hx:∀i (h:i<xs.length),∃x,vs[i]? =some x∧R w x xs[i]∧Off xs[i] v.ownBlock)
 (hy:R w x y) (hxo:Off y v.ownBlock) (hown:w'.ownsRow B t 1 v' (xs.length+1) (vs ++ [x])) (hg:w.grownBy w' v.ownBlock) (hat:v'.ownBlock=v.ownBlock∨v'.ownBlock=some w.heap.size):
 OwnG R Off w' B t v' (xs ++ [y]):=by
 have hvl:vs.length=xs.length:=by have:=hvs.1;omega
 have hoff:∀u z,R w u z→Off z v.ownBlock→Off z v'.ownBlock:=fun u z hu ho=>by
  rcases hat with e | e
  ·rw [e];exact ho
  ·rw [e];exact hR.new _ _ _ hu
 refine⟨vs ++ [x],by rw [List.length_append];exact hown,fun i hi=>?_⟩
 rw [List.length_append,List.length_singleton] at hi
 by_cases hk:i<xs.length
 ·obtain⟨u,e,h1,h2⟩:=hx i hk
  refine⟨u,by rw [List.getElem?_append_left (by omega)];exact e,?_⟩
  rw [List.getElem_append_left hk]
  refine⟨?_,hoff _ _ h1 h2⟩
  exact hR.grown _ _ _ _ _ h1 hg h2
 ·have hi':i=xs.length:=by omega
  subst hi'
  refine⟨x,by rw [←hvl];simp,?_⟩
  rw [List.getElem_append_right (Nat.le_refl _)]
  simp only [Nat.sub_self,List.getElem_singleton]
  refine⟨?_,hoff _ _ hy hxo⟩
  exact hR.grown _ _ _ _ _ hy hg hxo
end
theorem infoRowR:(Tryz.prog.info? 23).map (fun i=>(i.zero,i.size,i.bytes))=some (some (.slice none 0 0),1,24):=by kernel_rfl
end Go.Proofs.YtolffmmkjnhkkaaGreat
