import Derived.Test.YtolffmmkjnhkkaaGreatQ5
import Derived.Test.YtolffmmkjnhkkaaGreatQM1
import Derived.Test.YtolffmmkjnhkkaaGreatQM2
import Derived.Test.YtolffmmkjnhkkaaGreatQS
import Derived.Test.YtolffmmkjnhkkaaGreatQ3
import Derived.Test.YtolffmmkjnhkkaaGreatPNews
import Derived.Test.YtolffmmkjnhkkaaGreatQ4
import Derived.Maps.AppendAt
namespace Go.Proofs.YtolffmmkjnhkkaaGreat
open Go.RowKit Go BigFrame
set_option maxRecDepth 100000
set_option linter.unusedSimpArgs false
set_option linter.unusedVariables false
structure RatC where
 n:Bool
 a:Option Addr
 q:Nat
 c:Nat
 m:Bool
 b:Option Addr
 k:Nat
 d:Nat
abbrev RatC.val (x:RatC):Value:=.agg #[.bool x.n,.slice x.a x.q x.c,.bool x.m,.slice x.b x.k x.d]
def RatC.cells (x:RatC):List Value:=[.bool x.n,.slice x.a x.q x.c,.bool x.m,.slice x.b x.k x.d]
structure RatC.Off (x:RatC) (o:Option Nat):Prop where
 a:0<x.q→∀A,x.a=some A→o≠some A.block
 b:0<x.k→∀A,x.b=some A→o≠some A.block
structure OwnRats (w:World) (B:Nat) (v:Value) (L:List RatC) (rs:List Rat):Prop where
 len:L.length=rs.length
 own:w.ownsRow B 38 4 v L.length (L.flatMap RatC.cells)
 val:∀i (h:i<L.length),RatV w L[i].val (rs.getD i 0)
 apart:∀x∈L,x.Off v.ownBlock
theorem OwnRats.nil (w:World) (B:Nat):OwnRats w B (.slice none 0 0) [] []:=⟨rfl,World.ownsRow_nil _ _ _ _,fun i h=>by simp at h,fun x hx=>by cases hx⟩
theorem RatV.grown {w w':World} {row:Option Nat} {x:RatC} {r:Rat} (h:RatV w x.val r) (hg:w.grownBy w' row) (ho:x.Off row):RatV w' x.val r:=
 RatV.mk (h.num.grown hg ho.a) (h.den.grown hg ho.b)
theorem OwnRats.ext {w w':World} {B:Nat} {v:Value} {L:List RatC} {rs:List Rat} (h:OwnRats w B v L rs) (k:Ext w w'):OwnRats w' B v L rs:=
 ⟨h.len,ownsRow_ext h.own k,fun i hi=>(h.val i hi).ext k,h.apart⟩
theorem RatV.offNew {w:World} {x:RatC} {r:Rat} (h:RatV w x.val r):x.Off (some w.heap.size):=
 ⟨fun hq A hA e=>by have:=h.num.lt hq A hA;simp only [Option.some.injEq] at e;omega,fun hq A hA e=>by have:=h.den.lt hq A hA;simp only [Option.some.injEq] at e;omega⟩
theorem OwnRats.more {w w':World} {B:Nat} {v v':Value} {L:List RatC} {rs:List Rat} {x:RatC} {r:Rat} (h:OwnRats w B v L rs) (hx:RatV w x.val r) (hxa:x.Off v.ownBlock)
 (hown:w'.ownsRow B 38 4 v' (L.length+1) (L.flatMap RatC.cells ++ x.cells)) (hg:w.grownBy w' v.ownBlock) (hat:v'.ownBlock=v.ownBlock∨v'.ownBlock=some w.heap.size):
 OwnRats w' B v' (L ++ [x]) (rs ++ [r]):=by
 have hl:=h.len
 refine⟨by simp [hl],by simpa using hown,fun i hi=>?_,fun y hy=>?_⟩
 ·by_cases hk:i<L.length
  ·have e0:(rs ++ [r]).getD i 0=rs.getD i 0:=by simp only [List.getD];rw [List.getElem?_append_left (by omega)]
   rw [List.getElem_append_left hk,e0]
   exact(h.val i hk).grown hg (h.apart _ (List.getElem_mem hk))
  ·have hi':i=L.length:=by simp at hi;omega
   subst hi'
   have e1:(L ++ [x])[L.length]'(by simp)=x:=by simp
   have e2:(rs ++ [r]).getD L.length 0=r:=by rw [hl];simp
   rw [e1,e2]
   exact hx.grown hg hxa
 ·rcases hat with h1 | h1
  ·rw [h1]
   rcases List.mem_append.1 hy with hy | hy
   ·exact h.apart y hy
   ·obtain rfl:=List.mem_singleton.1 hy
    exact hxa
  ·rw [h1]
   rcases List.mem_append.1 hy with hy | hy
   ·obtain⟨i,hi,e3⟩:=List.getElem_of_mem hy
    have:=h.val i hi
    rw [e3] at this
    exact this.offNew
   ·obtain rfl:=List.mem_singleton.1 hy
    exact hx.offNew
theorem OwnRats.form {w:World} {B:Nat} {v:Value} {L:List RatC} {rs:List Rat} (h:OwnRats w B v L rs):∃a cap,v=.slice a L.length cap∧L.length≤cap∧cap≤9223372036854775807:=by
 rcases h.own.2 with⟨rfl,h0⟩ | ⟨g,cap,cur,rfl,_,_,h1,h2,_⟩
 ·exact⟨none,0,by rw [h0],by omega,by omega⟩
 ·exact⟨_,_,rfl,h1,by unfold maxLen at h2;omega⟩
theorem OwnRats.low {w:World} {B B':Nat} {v:Value} {L:List RatC} {rs:List Rat} (h:OwnRats w B v L rs) (hB:B'≤B):OwnRats w B' v L rs:=by
 refine⟨h.len,⟨h.own.1,?_⟩,h.val,h.apart⟩
 rcases h.own.2 with h2 | ⟨g,cap,cur,e,hb,hg,hr⟩
 ·exact .inl h2
 ·exact .inr ⟨g,cap,cur,e,by omega,hg,hr⟩
theorem flat_getR (L:List RatC) (i:Nat) (h:i<L.length):(L.flatMap RatC.cells)[4*i]? =some (.bool L[i].n)∧(L.flatMap RatC.cells)[4*i+1]? =some (.slice L[i].a L[i].q L[i].c)∧(L.flatMap RatC.cells)[4*i+2]? =some (.bool L[i].m)∧(L.flatMap RatC.cells)[4*i+3]? =some (.slice L[i].b L[i].k L[i].d):=by
 induction L generalizing i with
 | nil=>simp at h
 | cons x L ih=>
  cases i with
  | zero=>simp [RatC.cells]
  | succ i=>
   have:=ih i (by simpa using h)
   rw [show 4* (i+1)=4*i+4 by omega]
   simpa [RatC.cells] using this
theorem OwnRats.cells {w:World} {B:Nat} {g cap:Nat} {L:List RatC} {rs:List Rat} (h:OwnRats w B (.slice (some ⟨g,0,none⟩) L.length cap) L rs) {i:Nat} (hi:i<L.length):
 w.cell? ⟨g,i*4,none⟩=some (.bool L[i].n)∧w.cell? ⟨g,i*4+1,none⟩=some (.slice L[i].a L[i].q L[i].c)∧w.cell? ⟨g,i*4+2,none⟩=some (.bool L[i].m)∧w.cell? ⟨g,i*4+3,none⟩=some (.slice L[i].b L[i].k L[i].d):=by
 obtain⟨e1,e2,e3,e4⟩:=flat_getR L i hi
 rw [Nat.mul_comm i 4]
 exact⟨(World.ownsRow.cellAt h.own (4*i) (by omega)).trans e1,(World.ownsRow.cellAt h.own (4*i+1) (by omega)).trans e2,(World.ownsRow.cellAt h.own (4*i+2) (by omega)).trans e3,(World.ownsRow.cellAt h.own (4*i+3) (by omega)).trans e4⟩
theorem OwnRats.head {w:World} {B:Nat} {v:Value} {L:List RatC} {rs:List Rat} (h:OwnRats w B v L rs) (hl:0<L.length):∃g cap,v=.slice (some ⟨g,0,none⟩) L.length cap∧B≤g∧g<w.heap.size∧L.length≤cap∧cap≤9223372036854775807:=by
 rcases h.own.2 with⟨rfl,h0⟩ | ⟨g,cap,cur,rfl,hb,hg,h1,h2,_⟩
 ·omega
 ·exact⟨g,cap,rfl,hb,(Array.getElem?_eq_some_iff.1 hg).1,h1,by unfold maxLen at h2;omega⟩
theorem OwnRats.lt {w:World} {B:Nat} {v:Value} {L:List RatC} {rs:List Rat} (h:OwnRats w B v L rs):∀g,v.ownBlock=some g→B≤g∧g<w.heap.size:=fun g e=>World.ownsRow.lt h.own g e
theorem infoRatQ:(Tryz.prog.info? 38).map (fun i=>(i.zero,i.size,i.bytes))=some (some (.agg #[.bool false,.slice none 0 0,.bool false,.slice none 0 0]),4,64):=by kernel_rfl
end Go.Proofs.YtolffmmkjnhkkaaGreat
namespace Go.Proofs.YtolffmmkjnhkkaaGreat
open Go.RowKit Go BigFrame
set_option maxRecDepth 100000
set_option linter.unusedSimpArgs false
set_option linter.unusedVariables false
structure RatI (w:World) (x:RatA):Prop where
 i:Ints w x.a x.c x.l
 j:Ints w x.b x.d x.m
theorem RatI.ext {w w':World} {x:RatA} (h:RatI w x) (k:Ext w w'):RatI w' x:=⟨h.i.ext k,h.j.ext k⟩
structure RatsI (w:World) (a:Option Addr) (cap:Nat) (L:List RatA):Prop where
 le:L.length≤cap
 mx:cap≤9223372036854775807
 nil:a=none→cap=0
 cells:∀A,a=some A→∀i (h:i<L.length),A.spot=none∧w.cell? ⟨A.block,A.off+i*4,none⟩=some (.bool L[i].n)∧w.cell? ⟨A.block,A.off+i*4+1,none⟩=some (.slice L[i].a L[i].l.length L[i].c)∧
  w.cell? ⟨A.block,A.off+i*4+2,none⟩=some (.bool L[i].n2)∧w.cell? ⟨A.block,A.off+i*4+3,none⟩=some (.slice L[i].b L[i].m.length L[i].d)
 ints:∀i (h:i<L.length),RatI w L[i]
theorem RatsI.ext {w w':World} {a:Option Addr} {cap:Nat} {L:List RatA} (h:RatsI w a cap L) (k:Ext w w'):RatsI w' a cap L:=
 ⟨h.le,h.mx,h.nil,fun A hA i hi=>by
  obtain⟨h0,h1,h2,h3,h4⟩:=h.cells A hA i hi
  exact⟨h0,cell_exQ k h1,cell_exQ k h2,cell_exQ k h3,cell_exQ k h4⟩,fun i hi=>(h.ints i hi).ext k⟩
theorem RatsI.head {w:World} {a:Option Addr} {cap:Nat} {L:List RatA} (h:RatsI w a cap L) {i:Nat} (hi:i<L.length):∃b o,a=some ⟨b,o,none⟩:=by
 cases a with
 | none=>have:=h.nil rfl;have:=h.le;omega
 | some A=>
  obtain⟨h0,_⟩:=h.cells A rfl i hi
  obtain⟨b,o,s⟩:=A
  simp only at h0
  exact⟨b,o,by rw [h0]⟩
theorem RatsI.get {w:World} {b o cap:Nat} {L:List RatA} (h:RatsI w (some ⟨b,o,none⟩) cap L) {i:Nat} (hi:i<L.length):
 ∃n a c l n2 b' d m,L[i]? =some ⟨n,a,c,l,n2,b',d,m⟩∧w.cell? ⟨b,o+i*4,none⟩=some (.bool n)∧w.cell? ⟨b,o+i*4+1,none⟩=some (.slice a l.length c)∧
  w.cell? ⟨b,o+i*4+2,none⟩=some (.bool n2)∧w.cell? ⟨b,o+i*4+3,none⟩=some (.slice b' m.length d)∧Ints w a c l∧Ints w b' d m:=by
 obtain⟨_,h1,h2,h3,h4⟩:=h.cells _ rfl i hi
 have hr:=h.ints i hi
 exact⟨L[i].n,L[i].a,L[i].c,L[i].l,L[i].n2,L[i].b,L[i].d,L[i].m,List.getElem?_eq_getElem hi,h1,h2,h3,h4,hr.i,hr.j⟩
def ValL (L:List RatA) (S:List Rat) (k:Nat):Prop:=L.length=S.length∧∀ (i:Nat) (x:RatA) (r:Rat),L[i]? =some x→S[i]? =some r→Sz r k∧∀w,RatI w x→RatV w x.val r
theorem RatsI.val {w:World} {b o cap:Nat} {L:List RatA} {S:List Rat} {k:Nat} (h:RatsI w (some ⟨b,o,none⟩) cap L) (hv:ValL L S k) {i:Nat} (hi:i<S.length):
 ∃n a q c n2 b' k' d,w.cell? ⟨b,o+i*4,none⟩=some (.bool n)∧w.cell? ⟨b,o+i*4+1,none⟩=some (.slice a q c)∧w.cell? ⟨b,o+i*4+2,none⟩=some (.bool n2)∧w.cell? ⟨b,o+i*4+3,none⟩=some (.slice b' k' d)∧
  RatV w (.agg #[.bool n,.slice a q c,.bool n2,.slice b' k' d]) S[i]∧Sz S[i] k:=by
 have hi':i<L.length:=by rw [hv.1];exact hi
 obtain⟨_,h1,h2,h3,h4⟩:=h.cells _ rfl i hi'
 obtain⟨hz,hr⟩:=hv.2 i _ _ (List.getElem?_eq_getElem hi') (List.getElem?_eq_getElem hi)
 exact⟨_,_,_,_,_,_,_,_,h1,h2,h3,h4,hr w (h.ints i hi'),hz⟩
end Go.Proofs.YtolffmmkjnhkkaaGreat
namespace Go.Proofs.YtolffmmkjnhkkaaGreat
open Go.RowKit Go BigFrame
set_option maxRecDepth 100000
set_option linter.unusedSimpArgs false
set_option linter.unusedVariables false
def ResP (z y E:Int) (w:World) (e:Ending) (w':World):Prop:=∃ (n:Bool) (a:Option Addr) (q c:Nat) (m:Bool) (b:Option Addr) (k d:Nat),e=.returned (.tuple #[.agg #[.bool n,.slice a q c,.bool m,.slice b k d],.int .i64 E])∧BigV w' (.agg #[.bool n,.slice a q c]) z∧BigV w' (.agg #[.bool m,.slice b k d]) y∧Ext w w'
theorem ResP.ok {r:Rat} {w w':World} {e:Ending} (h:RatP r w e w'):ResP r.num r.den 0 w e w':=by
 obtain⟨v,he,⟨n,a,q,c,b,k,d,rfl,hv,_⟩,hx⟩:=h
 exact⟨n,a,q,c,false,b,k,d,he,hv.num,hv.den,hx⟩
def BothR (f g:FuncId) (args:Array Value) (w:World):Prop:=∃z y E:Int,∀W,Ext w W→Calls Tryz.prog f args W (ResP z y E W)∧Calls Tryz.prog g args W (ResP z y E W)
def fewR (x:RatA):Bool:=fewQ x.l.length 6 && fewQ x.m.length 6
def PairQ (z E:Int) (w:World) (e:Ending) (w':World):Prop:=∃ (n:Bool) (a:Option Addr) (q c:Nat),e=.returned (.tuple #[.agg #[.bool n,.slice a q c],.int .i64 E])∧BigV w' (.agg #[.bool n,.slice a q c]) z∧Ext w w'
theorem PairQ.one {z:Int} {w w':World} {e:Ending} (h:OneP z w e w'):PairQ z 0 w e w':=by
 obtain⟨v,he,hv,hx⟩:=h
 obtain⟨n,a,q,c,rfl,hv,_⟩:=hv.two
 exact⟨n,a,q,c,he,hv,hx⟩
end Go.Proofs.YtolffmmkjnhkkaaGreat
namespace Go.Proofs.YtolffmmkjnhkkaaGreat
open Go.RowKit Go BigFrame Go.Shelf
set_option maxRecDepth 100000
set_option linter.unusedSimpArgs false
set_option linter.unusedVariables false
theorem few4_sz {x:RatA} (ho:x.ok=true) (hf:(fewQ x.l.length 4 && fewQ x.m.length 4)=true):∃r:Rat,Sz r 4∧∀w,RatI w x→RatV w x.val r:=by
 obtain⟨r,h1,h2,h3,h4,h5,h6⟩:=okR_rat ho
 unfold fewQ at hf
 simp only [Bool.and_eq_true,Bool.or_eq_true,decide_eq_true_eq] at hf
 have m1:(1073741824:Nat) ^ x.l.length≤1073741824 ^ 4:=Nat.pow_le_pow_right (by omega) (by omega)
 have m2:(1073741824:Nat) ^ x.m.length≤1073741824 ^ 4:=Nat.pow_le_pow_right (by omega) (by omega)
 exact⟨r,⟨Nat.lt_of_lt_of_le h3 m1,Nat.lt_of_lt_of_le h4 m2⟩,fun w hi=>ok_val hi.i hi.j h1 h2⟩
def few4 (L:List RatA):Bool:=L.all fun x=>fewQ x.l.length 4 && fewQ x.m.length 4
theorem valL_of {L:List RatA} (ho:L.any (fun x=>!x.ok)=false) (hf:few4 L=true):∃S,ValL L S 4:=by
 induction L with
 | nil=>exact⟨[],rfl,fun i x r h=>by simp at h⟩
 | cons x L ih=>
  unfold few4 at hf ih
  simp only [List.any_cons,Bool.or_eq_false_iff,List.all_cons,Bool.and_eq_true,Bool.not_eq_false'] at ho hf ih
  obtain⟨r,h1,h2⟩:=few4_sz ho.1 (by rw [Bool.and_eq_true];exact hf.1)
  obtain⟨S,h3,h4⟩:=ih (by simpa using ho.2) (by simpa using hf.2)
  refine⟨r :: S,by simp [h3],fun i y s hy hs=>?_⟩
  cases i with
  | zero=>
   simp only [List.getElem?_cons_zero,Option.some.injEq] at hy hs
   subst hy hs
   exact⟨h1,h2⟩
  | succ i=>
   simp only [List.getElem?_cons_succ] at hy hs
   exact h4 i y s hy hs
end Go.Proofs.YtolffmmkjnhkkaaGreat
