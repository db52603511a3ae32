import Derived.Test.YtokffagbdfhnnaaGreatU4
import Derived.Test.YtokffagbdfhnnaaGreatQ5
import Derived.Test.YtokffagbdfhnnaaGreatQM1
import Derived.Test.YtokffagbdfhnnaaGreatQR1
import Derived.Test.YtokffagbdfhnnaaGreatQM2
import Derived.Test.YtokffagbdfhnnaaGreatPNews
import Derived.Test.YtokffagbdfhnnaaGreatR0
import Derived.Maps.AppendAt
import Derived.Laws.AppendOwnNone
import Derived.OwnWalk
import Derived.Deep.QuietTactic
namespace Go.Proofs.YtokffagbdfhnnaaGreat
open Go.RowKit Go BigFrame
set_option maxRecDepth 100000
set_option linter.unusedSimpArgs false
set_option linter.unusedVariables false
theorem run_append_row {e t ty:TypeId} {z:Value} {k by_:Nat} (ht:Tryz.prog.underlying t=some (.slice e)) (hi:(Tryz.prog.info? e).map (fun i=>(i.zero,i.size,i.bytes))=some (some z,k,by_)) (hz:z.cells.size=k) (hk:0<k)
 {w:World} {B:Nat} (hB:B≤w.heap.size) {v:Value} {n:Nat} {xs:List Value} (hown:w.ownsRow B e k v n xs) {ad:Option Addr} {m c:Nat} {news:List Value} (hnil:ad=none→m=0∧c=0)
 (hl:news.length=m*k) (hc:∀A,ad=some A→∀ (j:Nat) (u:Value),news[j]? =some u→w.cell? (A.add j)=some u) (h1:∀u∈news,u.oneCell'=true) (hlen:n+m≤1000000) (hby:by_≤1000):
 ∃v' w',(Builtin.append_ #[t,t] ty #[v,.slice ad m c]).run Tryz.prog w=.ok v' w'∧w'.ownsRow B e k v' (n+m) (xs ++ news)∧w.grownBy w' v.ownBlock∧(v'=.slice none 0 0↔v=.slice none 0 0∧m=0)∧(v'.ownBlock=v.ownBlock∨v'.ownBlock=some w.heap.size):=by
 obtain⟨i0,hi0,hz0,hz1,hz2⟩:=info_parts hi
 cases ad with
 | none=>
  obtain⟨rfl,rfl⟩:=hnil rfl
  have hn:news=[]:=List.eq_nil_of_length_eq_zero (by omega)
  subst hn
  exact⟨v,w,run_append_owned_none (P:=Tryz.prog) (w:=w) B t ty e i0 k ht hi0 v n xs hown,by simpa using hown,World.grownBy.refl w _,by simp,.inl rfl⟩
 | some A=>
  have hb:(n+m)*by_≤1000000*1000:=Nat.mul_le_mul hlen hby
  exact run_append_own_at w B t ty e i0 z k by_ ht hi0 hz0 hz1 hz2 hz hk v n xs hown A m c news hl (hc A rfl) h1 (by unfold maxLen;omega) (by omega) hB
theorem step_append_row {ops:Array Oper} {o:Oper} {a:Act} {K:Act→World→Prop} {Q:Exit→Act→World→Prop} {E:Prop} (hgd:o.guard=none) (s y:Operand) (t e:TypeId)
 (ho:o.op=.call {callee:=.builtin .append,args:=#[s,y],argTypes:=#[t,t]}) {z:Value} {k by_:Nat} (ht:Tryz.prog.underlying t=some (.slice e)) (hi:(Tryz.prog.info? e).map (fun i=>(i.zero,i.size,i.bytes))=some (some z,k,by_)) (hz:z.cells.size=k) (hk:0<k)
 {w:World} {B:Nat} (hB:B≤w.heap.size) {v:Value} {n:Nat} {xs:List Value} (hs:a.eval s=v) (hown:w.ownsRow B e k v n xs) {ad:Option Addr} {m c:Nat} {news:List Value} (hy:a.eval y=.slice ad m c) (hnil:ad=none→m=0∧c=0)
 (hl:news.length=m*k) (hc:∀A,ad=some A→∀ (j:Nat) (u:Value),news[j]? =some u→w.cell? (A.add j)=some u) (h1:∀u∈news,u.oneCell'=true) (hlen:n+m≤1000000) (hby:by_≤1000)
 (h:∀v' w',w'.ownsRow B e k v' (n+m) (xs ++ news)→w.grownBy w' v.ownBlock→(v'=.slice none 0 0↔v=.slice none 0 0∧m=0)→(v'.ownBlock=v.ownBlock∨v'.ownBlock=some w.heap.size)→K (a.put o.dst v') w'):
 if Region.wanted o (yielded ops a.tmps)=true then Oper.wp Tryz.prog o a w K Q else E:=by
 have hw:Region.wanted o (yielded ops a.tmps)=true:=by simp [Region.wanted,hgd]
 rw [if_pos hw]
 obtain⟨v',w',hr,h2,h3,h4,h5⟩:=run_append_row (ty:=o.type) ht hi hz hk hB hown hnil hl hc h1 hlen hby
 unfold Oper.wp execOp
 simp only [ho,resolve,invoke,builtin,Sem.run_bind,Sem.run_pure,Result.andThen_ok,List.map_toArray,List.map_cons,List.map_nil,hs,hy,hr]
 exact h v' w' h2 h3 h4 h5
theorem wpl_append_row {ops:Array Oper} {rest:List Oper} {o:Oper} {a:Act} {Q:Exit→Act→World→Prop} (hgd:o.guard=none) (s y:Operand) (t e:TypeId)
 (ho:o.op=.call {callee:=.builtin .append,args:=#[s,y],argTypes:=#[t,t]}) {z:Value} {k by_:Nat} (ht:Tryz.prog.underlying t=some (.slice e)) (hi:(Tryz.prog.info? e).map (fun i=>(i.zero,i.size,i.bytes))=some (some z,k,by_)) (hz:z.cells.size=k) (hk:0<k)
 {w:World} {B:Nat} (hB:B≤w.heap.size) {v:Value} {n:Nat} {xs:List Value} (hs:a.eval s=v) (hown:w.ownsRow B e k v n xs) {ad:Option Addr} {m c:Nat} {news:List Value} (hy:a.eval y=.slice ad m c) (hnil:ad=none→m=0∧c=0)
 (hl:news.length=m*k) (hc:∀A,ad=some A→∀ (j:Nat) (u:Value),news[j]? =some u→w.cell? (A.add j)=some u) (h1:∀u∈news,u.oneCell'=true) (hlen:n+m≤1000000) (hby:by_≤1000)
 (h:∀v' w',w'.ownsRow B e k v' (n+m) (xs ++ news)→w.grownBy w' v.ownBlock→(v'=.slice none 0 0↔v=.slice none 0 0∧m=0)→(v'.ownBlock=v.ownBlock∨v'.ownBlock=some w.heap.size)→wpList Tryz.prog ops Q rest (a.put o.dst v') w'):
 wpList Tryz.prog ops Q (o :: rest) a w:=by
 refine wpList_plain hgd fun K hK=>?_
 obtain⟨v',w',hr,h2,h3,h4,h5⟩:=run_append_row (ty:=o.type) ht hi hz hk hB hown hnil hl hc h1 hlen hby
 unfold Oper.wp execOp
 simp only [ho,resolve,invoke,builtin,Sem.run_bind,Sem.run_pure,Result.andThen_ok,List.map_toArray,List.map_cons,List.map_nil,hs,hy,hr]
 exact hK _ _ (h v' w' h2 h3 h4 h5)
theorem infoRatU:(Tryz.prog.info? 44).map (fun i=>(i.zero,i.size,i.bytes))=some (some (.agg #[.bool false,.slice none 0 0,.bool false,.slice none 0 0]),4,64):=by kernel_rfl
theorem infoRowU:(Tryz.prog.info? 23).map (fun i=>(i.zero,i.size,i.bytes))=some (some (.slice none 0 0),1,24):=by kernel_rfl
end Go.Proofs.YtokffagbdfhnnaaGreat
namespace Go.Proofs.YtokffagbdfhnnaaGreat
open Go.RowKit Go BigFrame Go.Shelf
set_option maxRecDepth 100000
set_option linter.unusedSimpArgs false
set_option linter.unusedVariables false
def newsU (N:Nat) (V:Nat→RatC):List Value:=(List.range N).flatMap fun c=>(V c).cells
theorem newsU_succ (N:Nat) (V:Nat→RatC):newsU (N+1) V=newsU N V ++ (V N).cells:=by unfold newsU;rw [List.range_succ,List.flatMap_append];simp
theorem newsU_len (N:Nat) (V:Nat→RatC):(newsU N V).length=N*4:=by
 induction N with
 | zero=>rfl
 | succ N ih=>rw [newsU_succ,List.length_append,ih];simp [RatC.cells];omega
theorem newsU_one (N:Nat) (V:Nat→RatC):∀u∈newsU N V,u.oneCell'=true:=fun u hu=>by
 obtain⟨c,_,hc⟩:=List.mem_flatMap.1 hu
 simp only [RatC.cells,List.mem_cons,List.not_mem_nil,or_false] at hc
 rcases hc with rfl | rfl | rfl | rfl <;> rfl
theorem newsU_get {N:Nat} {V:Nat→RatC} {c:Nat} (h:c<N):(newsU N V)[c*4]? =some (.bool (V c).n)∧(newsU N V)[c*4+1]? =some (.slice (V c).a (V c).q (V c).c)∧(newsU N V)[c*4+2]? =some (.bool (V c).m)∧(newsU N V)[c*4+3]? =some (.slice (V c).b (V c).k (V c).d):=by
 induction N with
 | zero=>omega
 | succ N ih=>
  have hl:=newsU_len N V
  rw [newsU_succ]
  by_cases e:c=N
  ·subst e
   rw [List.getElem?_append_right (by omega),List.getElem?_append_right (by omega),List.getElem?_append_right (by omega),List.getElem?_append_right (by omega),hl]
   simp [RatC.cells]
  ·rw [List.getElem?_append_left (by omega),List.getElem?_append_left (by omega),List.getElem?_append_left (by omega),List.getElem?_append_left (by omega)]
   exact ih (by omega)
structure RowR (w:World) (a:Option Addr) (cap N:Nat) (V:Nat→RatC) (f:Nat→Rat):Prop where
 le:N≤cap
 mx:cap≤9223372036854775807
 nil:a=none→cap=0
 cells:∀A,a=some A→∀c,c<N→A.spot=none∧w.cell? ⟨A.block,A.off+c*4,none⟩=some (.bool (V c).n)∧w.cell? ⟨A.block,A.off+c*4+1,none⟩=some (.slice (V c).a (V c).q (V c).c)∧
  w.cell? ⟨A.block,A.off+c*4+2,none⟩=some (.bool (V c).m)∧w.cell? ⟨A.block,A.off+c*4+3,none⟩=some (.slice (V c).b (V c).k (V c).d)
 val:∀c,c<N→RatV w (V c).val (f c)
section
variable {w w':World} {a:Option Addr} {cap N:Nat} {V:Nat→RatC} {f:Nat→Rat}
theorem RowR.ext (h:RowR w a cap N V f) (k:Ext w w'):RowR w' a cap N V f:=
 ⟨h.le,h.mx,h.nil,fun A hA c hc=>by
  obtain⟨h0,h1,h2,h3,h4⟩:=h.cells A hA c hc
  exact⟨h0,cell_exQ k h1,cell_exQ k h2,cell_exQ k h3,cell_exQ k h4⟩,fun c hc=>(h.val c hc).ext k⟩
theorem RowR.nil0 (h:RowR w a cap N V f):a=none→N=0∧cap=0:=fun e=>by have:=h.nil e;have:=h.le;omega
theorem RowR.news {A:Addr} (h:RowR w (some A) cap N V f):∀ (j:Nat) (u:Value),(newsU N V)[j]? =some u→w.cell? (A.add j)=some u:=fun j u hu=>by
 have hj:j<N*4:=by have:=(List.getElem?_eq_some_iff.1 hu).1;rwa [newsU_len] at this
 have hc:j / 4<N:=by omega
 obtain⟨h0,h1,h2,h3,h4⟩:=h.cells A rfl (j / 4) hc
 obtain⟨g1,g2,g3,g4⟩:=newsU_get (V:=V) hc
 obtain⟨b,o,s⟩:=A
 dsimp only at h0 h1 h2 h3 h4
 subst h0
 rw [Addr.add_off]
 have:j=j / 4*4∨j=j / 4*4+1∨j=j / 4*4+2∨j=j / 4*4+3:=by omega
 rcases this with e | e | e | e
 ·rw [←e] at g1 h1;rw [g1] at hu;rw [h1,←hu]
 ·rw [←e] at g2;rw [Nat.add_assoc,←e] at h2;rw [g2] at hu;rw [h2,←hu]
 ·rw [←e] at g3;rw [Nat.add_assoc,←e] at h3;rw [g3] at hu;rw [h3,←hu]
 ·rw [←e] at g4;rw [Nat.add_assoc,←e] at h4;rw [g4] at hu;rw [h4,←hu]
end
structure MatR (w:World) (a:Option Addr) (cap m N:Nat) (V:Nat→Nat→RatC) (M:Mx):Prop where
 le:m≤cap
 mx:cap≤9223372036854775807
 nil:a=none→cap=0
 cells:∀A,a=some A→∀r,r<m→A.spot=none∧∃a' c',w.cell? ⟨A.block,A.off+r,none⟩=some (.slice a' N c')∧RowR w a' c' N (V r) (M r)
section
variable {w w':World} {a:Option Addr} {cap m N:Nat} {V:Nat→Nat→RatC} {M:Mx}
theorem MatR.ext (h:MatR w a cap m N V M) (k:Ext w w'):MatR w' a cap m N V M:=
 ⟨h.le,h.mx,h.nil,fun A hA r hr=>by
  obtain⟨h0,a',c',h1,h2⟩:=h.cells A hA r hr
  exact⟨h0,a',c',cell_exQ k h1,h2.ext k⟩⟩
theorem MatR.head (h:MatR w a cap m N V M) {r:Nat} (hr:r<m):∃b o,a=some ⟨b,o,none⟩:=by
 cases a with
 | none=>have:=h.nil rfl;have:=h.le;omega
 | some A=>
  obtain⟨h0,_⟩:=h.cells A rfl r hr
  obtain⟨b,o,s⟩:=A
  dsimp only at h0
  exact⟨b,o,by rw [h0]⟩
theorem MatR.val (h:MatR w a cap m N V M) {r c:Nat} (hr:r<m) (hc:c<N):RatV w (V r c).val (M r c):=by
 obtain⟨b,o,rfl⟩:=h.head hr
 obtain⟨_,_,_,_,h2⟩:=h.cells _ rfl r hr
 exact h2.val c hc
end
theorem ownEmpty {w:World} {b:Nat} {t:TypeId} {k B:Nat} (h:Blk w b #[] t) (hB:B≤b):w.ownsRow B t k (.slice (some ⟨b,0,none⟩) 0 0) 0 []:=
 ⟨by simp,.inr ⟨b,0,#[],rfl,hB,h,Nat.le_refl _,by unfold maxLen;omega,by simp,by simp⟩⟩
theorem own_row_form {w:World} {B:Nat} {t:TypeId} {k n:Nat} {v:Value} {xs:List Value} {b m:Nat} (h:w.ownsRow B t k v (0+n) xs) (hn:v=.slice none 0 0↔Value.slice (some ⟨b,0,none⟩) 0 0=.slice none 0 0∧m=0):
 ∃g cap,v=.slice (some ⟨g,0,none⟩) n cap∧B≤g∧n≤cap∧cap≤9223372036854775807:=by
 rw [Nat.zero_add] at h
 rcases h.2 with⟨rfl,_⟩ | ⟨g,cap,cur,rfl,hb,_,h1,h2,_⟩
 ·exact absurd (hn.1 rfl).1 (by simp)
 ·exact⟨g,cap,rfl,hb,h1,by unfold maxLen at h2;exact h2⟩
theorem row_form {w:World} {B:Nat} {t:TypeId} {k n:Nat} {v:Value} {xs:List Value} (h:w.ownsRow B t k v n xs):∃a cap,v=.slice a n cap:=by
 rcases h.2 with⟨rfl,h0⟩ | ⟨g,cap,cur,rfl,_⟩
 ·exact⟨none,0,by rw [h0]⟩
 ·exact⟨_,_,rfl⟩
theorem rowB_of_own {w:World} {B:Nat} {g cap n N:Nat} {V:Nat→RatC} (h:w.ownsRow B 44 4 (.slice (some ⟨g,0,none⟩) N cap) n ([] ++ newsU N V)):RowB w g N V:=by
 rcases h.2 with⟨e,_⟩ | ⟨g',cap',cur,e,hb,hg,h1,h2,h3,h4⟩
 ·cases e
 ·simp only [Value.slice.injEq,Option.some.injEq,Addr.mk.injEq,and_true,true_and] at e
  obtain⟨rfl,rfl,rfl⟩:=e
  refine⟨cur,hg,fun c hc=>?_⟩
  obtain⟨g1,g2,g3,g4⟩:=newsU_get (V:=V) hc
  have key:∀j u,(newsU N V)[j]? =some u→cur[j]? =some u:=fun j u hu=>by
   rw [List.nil_append] at h4
   rw [←h4,List.getElem?_take] at hu
   split at hu
   ·simpa using hu
   ·cases hu
  exact⟨key _ _ g1,key _ _ g2,key _ _ g3,key _ _ g4⟩
theorem one_news {w:World} {b:Nat} {v:Value} {t:TypeId} (h:Blk w b #[v] t) {j:Nat} {u:Value} (hu:[v][j]? =some u):w.cell? ((⟨b,0,none⟩:Addr).add j)=some u:=by
 rw [Addr.add_off]
 have:j=0:=by have:=(List.getElem?_eq_some_iff.1 hu).1;simp at this;exact this
 subst this
 simp only [List.getElem?_cons_zero,Option.some.injEq] at hu
 subst hu
 exact h.cell rfl
structure Beg (w:World) (B p q N:Nat) (vr:Value) (g cp:Nat→Nat) (V:Nat→Nat→RatC):Prop where
 box:Blk w p #[.slice none 0 0,vr] 54
 own:w.ownsRow B 23 1 vr q ((List.range q).map fun r=>Value.slice (some ⟨g r,0,none⟩) N (cp r))
 row:∀r,r<q→RowB w (g r) N (V r)
 cap:∀r,r<q→N≤cp r∧cp r≤9223372036854775807
 inj:∀r s,r<q→s<q→g r=g s→r=s
 low:B≤p∧∀r,r<q→B≤g r
section
variable {w w':World} {B p q N:Nat} {vr:Value} {g cp:Nat→Nat} {V:Nat→Nat→RatC}
theorem Beg.ext (h:Beg w B p q N vr g cp V) (k:Ext w w'):Beg w' B p q N vr g cp V:=⟨h.box.ext k,ownsRow_ext h.own k,fun r hr=>(h.row r hr).ext k,h.cap,h.inj,h.low⟩
theorem Beg.lt (h:Beg w B p q N vr g cp V):∀b,w.heap.size≤b→b≠p∧vr.ownBlock≠some b∧∀r,r<q→g r≠b:=fun b hb=>
 ⟨fun e=>by have:=h.box.lt;omega,fun e=>by have:=World.ownsRow.lt h.own b e;omega,fun r hr e=>by have:=(h.row r hr).lt;omega⟩
theorem Beg.grown (h:Beg w B p q N vr g cp V) {b:Nat} (hg:w.grownBy w' (some b)) (hb:b≠p∧vr.ownBlock≠some b∧∀r,r<q→g r≠b):Beg w' B p q N vr g cp V:=
 ⟨blkGrown h.box hg fun e=>hb.1 (by injection e),rowGrown h.own hg (.inr hb.2.1),fun r hr=>(h.row r hr).grown hg fun e=>hb.2.2 r hr (by injection e with e;exact e.symm),h.cap,h.inj,h.low⟩
theorem Beg.push (h:Beg w B p q N vr g cp V) {vr':Value} {gq cq b0:Nat} (ho:w'.ownsRow B 23 1 vr' (q+1) (((List.range q).map fun r=>Value.slice (some ⟨g r,0,none⟩) N (cp r)) ++ [.slice (some ⟨gq,0,none⟩) N cq])) (hg:w.grownBy w' vr.ownBlock)
 (hR:RowB w gq N (V q)) (hlt:∀b,b0≤b→b≠p∧vr.ownBlock≠some b∧∀r,r<q→g r≠b) (hgq:b0≤gq) (hcq:N≤cq∧cq≤9223372036854775807) (hB:B≤b0):
 Beg (w'.setCell ⟨p,1,none⟩ vr') B p (q+1) N vr' (fun r=>if r=q then gq else g r) (fun r=>if r=q then cq else cp r) V:=by
 have hb1:=blkGrown h.box hg (rowNe h.own h.box (by decide))
 have hg2:=grownSet w' p 1 vr'
 refine⟨hb1.set 1 vr',?_,fun r hr=>?_,fun r hr=>?_,fun r s hr hs e=>?_,h.low.1,fun r hr=>?_⟩
 ·have:=rowGrown ho hg2 (.inr (rowNe ho hb1 (by decide)))
  rw [List.range_succ,List.map_append,List.map_singleton,if_pos rfl,if_pos rfl]
  rw [List.map_congr_left (g:=fun r=>Value.slice (some ⟨g r,0,none⟩) N (cp r)) fun r hr=>by
   have:=List.mem_range.1 hr
   rw [if_neg (by omega),if_neg (by omega)]]
  exact this
 ·have key:∀{x:Nat} {U:Nat→RatC},RowB w x N U→RowB (w'.setCell ⟨p,1,none⟩ vr') x N U:=fun {x U} hx=>by
   obtain⟨cs,k1,k2⟩:=id hx
   have k3:=hx.grown hg (rowNe h.own k1 (by decide))
   obtain⟨cs',k4,_⟩:=id k3
   exact k3.grown hg2 fun e=>blkNe hb1 k4 (by decide) (by injection e)
  by_cases e:r=q
  ·rw [if_pos e,e];exact key hR
  ·rw [if_neg e];exact key (h.row r (by omega))
 ·by_cases e:r=q
  ·rw [if_pos e];exact hcq
  ·rw [if_neg e];exact h.cap r (by omega)
 ·have hne:=(hlt gq hgq).2.2
  by_cases e1:r=q
  ·by_cases e2:s=q
   ·omega
   ·rw [if_pos e1,if_neg e2] at e;exact absurd e.symm (hne s (by omega))
  ·by_cases e2:s=q
   ·rw [if_neg e1,if_pos e2] at e;exact absurd e (hne r (by omega))
   ·rw [if_neg e1,if_neg e2] at e;exact h.inj r s (by omega) (by omega) e
 ·by_cases e:r=q
  ·rw [if_pos e];omega
  ·rw [if_neg e];exact h.low.2 r (by omega)
theorem Beg.sys {m:Nat} (h:Beg w B p m N vr g cp V) {w0:World} {M:Mx} (hB:B=w0.heap.size) (hE:Ext w0 w) (hv:∀r,r<m→∀c,c<N→RatV w0 (V r c).val (M r c)):∃ra R rc,Sys w B p m N ra R rc g cp V M (.slice none 0 0) []:=by
 subst hB
 have hoff:∀r,r<m→∀c,c<N→∀b,w0.heap.size≤b→(V r c).Off (some b):=fun r hr c hc b hb=>
  ⟨fun hq A hA e=>by have:=(hv r hr c hc).num.lt hq A hA;simp only [Option.some.injEq] at e;omega,fun hq A hA e=>by have:=(hv r hr c hc).den.lt hq A hA;simp only [Option.some.injEq] at e;omega⟩
 have hnil:∀r,r<m→∀c,c<N→(V r c).Off (Value.slice none 0 0).ownBlock:=fun r hr c hc=>⟨fun _ _ _ e=>(by cases e),fun _ _ _ e=>(by cases e)⟩
 rcases h.own.2 with⟨rfl,rfl⟩ | ⟨R,rc,cur,rfl,hb,hg,h1,h2,h3,h4⟩
 ·exact⟨none,0,0,h.box,fun h=>by omega,⟨by omega,by omega⟩,fun h=>by omega,h.row,h.cap,h.inj,fun r hr=>by omega,fun r hr=>by omega,fun r hr=>by omega,World.ownsRow_nil _ _ _ _,fun b hb=>by
   rcases hb with rfl | ⟨h0,_⟩ | ⟨r,hr,_⟩
   ·exact h.low.1
   ·omega
   ·omega⟩
 ·have hlow:∀b,SysB p m R g b→w0.heap.size≤b:=fun b hb'=>by
   rcases hb' with rfl | ⟨h0,rfl⟩ | ⟨r,hr,rfl⟩
   ·exact h.low.1
   ·exact hb
   ·exact h.low.2 r hr
  exact⟨some ⟨R,0,none⟩,R,rc,h.box,fun _=>rfl,⟨h1,by unfold maxLen at h2;exact h2⟩,fun _=>⟨cur,hg,fun r hr=>by
   have e1:((List.range m).map fun r=>Value.slice (some ⟨g r,0,none⟩) N (cp r))[r]? =some (.slice (some ⟨g r,0,none⟩) N (cp r)):=by
    rw [List.getElem?_map,List.getElem?_range hr];rfl
   rw [←h4,List.getElem?_take] at e1
   split at e1
   ·simpa using e1
   ·cases e1⟩,h.row,h.cap,h.inj,fun r hr c hc=>(hv r hr c hc).ext hE,fun r hr c hc b hb'=>hoff r hr c hc b (hlow b hb'),hnil,World.ownsRow_nil _ _ _ _,hlow⟩
end
def BegP (m N:Nat) (V:Nat→Nat→RatC) (M:Mx) (w:World) (e:Ending) (w':World):Prop:=∃p ra R rc g cp,e=.returned (.pointer (some ⟨p,0,none⟩))∧Sys w' w.heap.size p m N ra R rc g cp V M (.slice none 0 0) []∧Ext w w'
set_option maxHeartbeats 16000000 in
theorem matrix_begin (a:Option Addr) (cap m N:Nat) (V:Nat→Nat→RatC) (M:Mx) (w:World) (h:MatR w a cap m N V M) (hm:m≤100) (hN:N≤100):
 Calls Tryz.prog 25 #[.slice a m cap] w (BegP m N V M w):=by
 have hle:=h.le
 have hmx:=h.mx
 have HH:=Lib.hid h
 clear h
 go_enter Tryz.func25,Tryz.ntmps25
 have hx:=Ext.alloc w (.cells #[.slice none 0 0,.slice none 0 0] 54)
 have hbx:=Blk.new0 w #[.slice none 0 0,.slice none 0 0] 54
 go_upto_region 2 with fail
 have HX:=Lib.hid hx
 have hb:Beg (w.alloc (.cells #[.slice none 0 0,.slice none 0 0] 54)) w.heap.size w.heap.size 0 N (.slice none 0 0) (fun _=>0) (fun _=>0) V:=⟨hbx,World.ownsRow_nil _ _ _ _,fun r hr=>by omega,fun r hr=>by omega,fun r s hr=>by omega,Nat.le_refl _,fun r hr=>by omega⟩
 have HBG0:=Lib.hid hb
 clear hx hbx hb
 generalize w.alloc (.cells #[.slice none 0 0,.slice none 0 0] 54)=x1 at *
 go_wp2_with fail
 go_loopw [10] (fun v wr=>∃q:Nat,q≤m∧v=.int .i64 q∧(∃vr g cp,Beg wr w.heap.size w.heap.size q N vr g cp V)∧Ext w wr) (fun v _=>m - (intOf v).toNat)
 case atStart=>exact⟨0,Nat.zero_le _,rfl,⟨_,_,_,HBG0.out⟩,HX.out⟩
 case round=>
  obtain⟨q,hq,rfl,⟨vr,g,cp,hb⟩,hE⟩:=hrel
  have q0':(0:Int)≤(q:Int):=by omega
  by_cases hqm:q<m
  ·have q1':(q:Int)< (m:Int):=by omega
   have hw1:IntKind.i64.wrap ((q:Int)+1)= (q:Int)+1:=IntWalk.i64_in _ (by omega)
   obtain⟨b,o,rfl⟩:=HH.out.head hqm
   obtain⟨_,ar,cr,hcr,hRR⟩:=(HH.out.ext hE).cells _ rfl q hqm
   obtain⟨_,ar',cr',hcr',hRR'⟩:=HH.out.cells _ rfl q hqm
   dsimp only at hcr hcr'
   have e0:=cell_exQ hE hcr'
   rw [hcr] at e0
   simp only [Option.some.injEq,Value.slice.injEq,true_and] at e0
   obtain⟨rfl,rfl⟩:=e0
   obtain⟨av,cv,rfl⟩:=row_form hb.own
   have HBG:=Lib.hid hb
   have HE:=Lib.hid hE
   have HRR:=Lib.hid hRR'
   clear hb hE hRR hRR' hcr'
   go_upto_region 5 with fail
   have hyd:Ext wr (World.drew wr):=(Ext.refl _).drew
   replace HBG:=Lib.hid (HBG.out.ext hyd)
   replace HE:=Lib.hid (HE.out.trans hyd)
   have t1:World.cell? (World.drew wr) ⟨w.heap.size,1,none⟩=some (.slice av q cv):=HBG.out.box.cell rfl
   clear hyd hcr
   refine wp_region_held_drew (S:=(fun _=>True)) (by kernel_rfl) ?_ (fun hHeld=>?_)
   ·trivial
   (try simp only [pur,Nat.reduceAdd])
   generalize World.drew wr=x3 at *
   refine tk (v:=?_) 0 rfl (by kernel_rfl) (fun _ _ _ h=>h) (by rfl) ?_ (by assumption) ?_
   rotate_left
   ·(intro w hSw;(try dsimp only at hSw);(try go_simp);(try with_reducible rfl))
   (try simp only [Act.put,pus])
   refine tk (v:=?_) 1 rfl (by kernel_rfl) (fun _ _ _ h=>h) (by rfl) ?_ (by assumption) ?_
   rotate_left
   ·(intro w hSw;(try dsimp only at hSw);(try go_simp);(try with_reducible rfl))
   (try simp only [Act.put,pus])
   refine tk (v:=?_) 2 rfl (by kernel_rfl) (fun _ _ _ h=>h) (by rfl) ?_ (by assumption) ?_
   rotate_left
   ·(intro w hSw;(try dsimp only at hSw);(try go_simp);(try with_reducible rfl))
   (try simp only [Act.put,pus])
   refine tk (v:=?_) 3 rfl (by kernel_rfl) (fun _ _ _ h=>h) (by rfl) ?_ (by assumption) ?_
   rotate_left
   ·(intro w hSw;(try dsimp only at hSw);(try go_simp);(try with_reducible rfl))
   (try simp only [Act.put,pus])
   refine tk (v:=?_) 6 rfl (by kernel_rfl) (fun _ _ _ h=>h) (by rfl) ?_ (by assumption) ?_
   rotate_left
   ·(intro w hSw;(try dsimp only at hSw);(try go_simp);(try with_reducible rfl))
   (try simp only [Act.put,pus])
   refine wpAnyH_ready (rs:=[4,5]) (by kernel_rfl) (by simp) ?_
   refine AllReadyH.cons (o:=_) rfl (fun K hK=>?_) ?_
   ·go_simp
    refine hK.out _ _ ?_ (fun hHeld2=>?_)
    ·trivial
    clear hK K hHeld
    have hHeld:=hHeld2
    clear hHeld2
    (try simp only [Act.put,pus])
    refine wpAnyH_ready (rs:=[5]) (by kernel_rfl) (by simp) ?_
    refine AllReadyH.cons (o:=_) rfl (fun K hK=>?_) ?_
    ·go_simp
     have hy:=Ext.alloc x3 (.cells #[] 44);have hb0l:=HBG.out.lt;replace HBG:=Lib.hid (HBG.out.ext hy);have HWB:=Lib.hid HE.out.size;replace HE:=Lib.hid (Ext.trans HE.out hy);have K0:=Lib.hid (Blk.new0 x3 #[] 44);have HL0:=Lib.hid hb0l;replace t1:=cell_exQ hy t1;clear hy hb0l;generalize World.alloc x3 (.cells #[] 44)=xa at *;generalize Array.size (World.heap x3)=b0 at *
     refine hK.out _ _ ?_ (fun hHeld2=>?_)
     ·trivial
     clear hK K hHeld
     have hHeld:=hHeld2
     clear hHeld2
     (try simp only [Act.put,pus])
     refine wpAnyH_ready (rs:=[7]) (by kernel_rfl) (by simp) ?_
     refine AllReadyH.cons (o:=_) rfl (fun K hK=>?_) ?_
     ·refine step_append_row rfl (.tmp 19) (.tmp 20) 23 44 rfl (z:=.agg #[.bool false,.slice none 0 0,.bool false,.slice none 0 0]) (k:=4) (by_:=64) Tryz.underlying23 infoRatU rfl (by decide) (B:=b0) (by have:=K0.out.lt;omega) rfl (ownEmpty K0.out (Nat.le_refl _)) rfl HRR.out.nil0 (newsU_len N (V q)) (fun A hA=>by cases hA;exact(HRR.out.ext HE.out).news) (newsU_one N (V q)) (by omega) (by omega) ?_;intro v7 x7 ho hg hnl hat;obtain⟨gq,cq,rfl,hgq,hcq,hcm⟩:=own_row_form ho hnl;have HR7:=Lib.hid (rowB_of_own ho);replace HBG:=Lib.hid (HBG.out.grown hg (HL0.out b0 (Nat.le_refl _)));replace HE:=Lib.hid (Below.grown HE.out hg HE.out.size (fun r e=>by cases e;exact HWB.out));replace t1:World.cell? x7 ⟨w.heap.size,1,none⟩=some (.slice av q cv):=HBG.out.box.cell rfl;have HGQ:=Lib.hid hgq;have HCQ:=Lib.hid (And.intro hcq hcm);clear ho hg hnl hat hgq hcq hcm K0
      refine hK.out _ _ ?_ (fun hHeld2=>?_)
      ·trivial
      clear hK K hHeld
      have hHeld:=hHeld2
      clear hHeld2
      (try simp only [Act.put,pus])
      refine wpAnyH_ready (rs:=[8]) (by kernel_rfl) (by simp) ?_
      refine AllReadyH.cons (o:=_) rfl (fun K hK=>?_) ?_
      ·go_simp
       have hy:=Ext.alloc x7 (.cells #[.slice (some ⟨gq,0,none⟩) N cq] 23);replace HBG:=Lib.hid (HBG.out.ext hy);replace HE:=Lib.hid (Ext.trans HE.out hy);replace HR7:=Lib.hid (HR7.out.ext hy);have K1:=Lib.hid (Blk.new0 x7 #[.slice (some ⟨gq,0,none⟩) N cq] 23);replace t1:=cell_exQ hy t1;clear hy;generalize World.alloc x7 (.cells #[.slice (some ⟨gq,0,none⟩) N cq] 23)=x8 at *;generalize Array.size (World.heap x7)=b1 at *
       refine hK.out _ _ ?_ (fun hHeld2=>?_)
       ·trivial
       clear hK K hHeld
       have hHeld:=hHeld2
       clear hHeld2
       (try simp only [Act.put,pus])
       refine wpAnyH_ready (rs:=[9]) (by kernel_rfl) (by simp) ?_
       refine AllReadyH.cons (o:=_) rfl (fun K hK=>?_) ?_
       ·refine step_append_row rfl (.tmp 18) (.tmp 22) 22 23 rfl (z:=.slice none 0 0) (k:=1) (by_:=24) Tryz.underlying22 infoRowU rfl (by decide) (B:=w.heap.size) HE.out.size rfl HBG.out.own rfl (fun e=>by cases e) (news:=[.slice (some ⟨gq,0,none⟩) N cq]) rfl (fun A hA j u hu=>by cases hA;exact one_news K1.out hu) (fun u hu=>by rw [List.mem_singleton.1 hu];rfl) (by omega) (by omega) ?_;intro v9 x9 ho hg hnl hat;obtain⟨a9,c9,rfl⟩:=row_form ho;have HB9:=Lib.hid (HBG.out.push ho hg HR7.out HL0.out HGQ.out HCQ.out HWB.out);replace HE:=Lib.hid (Below.grown HE.out hg HE.out.size (fun r e=>(World.ownsRow.lt HBG.out.own r e).1));have HP9:=Lib.hid (blkGrown HBG.out.box hg (rowNe HBG.out.own HBG.out.box (by decide)));clear ho hg hnl hat HBG HR7 K1 t1
        refine hK.out _ _ ?_ (fun hHeld2=>?_)
        ·trivial
        clear hK K hHeld
        have hHeld:=hHeld2
        clear hHeld2
        (try simp only [Act.put,pus])
        refine tk (v:=?_) 10 rfl (by kernel_rfl) (fun _ _ _ h=>h) (by rfl) ?_ (by assumption) ?_
        rotate_left
        ·(intro w hSw;(try dsimp only at hSw);(try go_simp);(try with_reducible rfl))
        (try simp only [Act.put,pus])
        refine tk (v:=?_) 11 rfl (by kernel_rfl) (fun _ _ _ h=>h) (by rfl) ?_ (by assumption) ?_
        rotate_left
        ·(intro w hSw;(try dsimp only at hSw);(try go_simp);(try with_reducible rfl))
        (try simp only [Act.put,pus])
        refine wpAnyH_ready (rs:=[12]) (by kernel_rfl) (by simp) ?_
        refine AllReadyH.cons (o:=_) rfl (fun K hK=>?_) ?_
        ·have p0:=HP9.out.cell (i:=1) rfl;have p1:=HP9.out.free 1;go_simp;clear p0 p1;replace HE:=Lib.hid (Ext.set HE.out (p:=⟨w.heap.size,1,none⟩) (Nat.le_refl _) (.slice a9 (q+1) c9))
         refine hK.out _ _ ?_ (fun hHeld2=>?_)
         ·trivial
         clear hK K hHeld
         have hHeld:=hHeld2
         clear hHeld2
         (try simp only [Act.put,pus])
         refine wpAnyH_done (by kernel_rfl) ?_ _
         go_wp2_with fail
         go_roundw
         case rel=>exact⟨q+1,by omega,by go_num,⟨_,_,_,HB9.out⟩,HE.out⟩
         case measure=>simp [intOf];omega
        exact AllReadyH.nil
       exact AllReadyH.nil
      exact AllReadyH.nil
     exact AllReadyH.nil
    exact AllReadyH.nil
   refine AllReadyH.cons (o:=_) rfl (fun K hK=>?_) ?_
   ·go_simp
    have hy:=Ext.alloc x3 (.cells #[] 44);have hb0l:=HBG.out.lt;replace HBG:=Lib.hid (HBG.out.ext hy);have HWB:=Lib.hid HE.out.size;replace HE:=Lib.hid (Ext.trans HE.out hy);have K0:=Lib.hid (Blk.new0 x3 #[] 44);have HL0:=Lib.hid hb0l;replace t1:=cell_exQ hy t1;clear hy hb0l;generalize World.alloc x3 (.cells #[] 44)=xa at *;generalize Array.size (World.heap x3)=b0 at *
    refine hK.out _ _ ?_ (fun hHeld2=>?_)
    ·trivial
    clear hK K hHeld
    have hHeld:=hHeld2
    clear hHeld2
    (try simp only [Act.put,pus])
    refine wpAnyH_ready (rs:=[4,7]) (by kernel_rfl) (by simp) ?_
    refine AllReadyH.cons (o:=_) rfl (fun K hK=>?_) ?_
    ·go_simp
     refine hK.out _ _ ?_ (fun hHeld2=>?_)
     ·trivial
     clear hK K hHeld
     have hHeld:=hHeld2
     clear hHeld2
     (try simp only [Act.put,pus])
     refine wpAnyH_ready (rs:=[7]) (by kernel_rfl) (by simp) ?_
     refine AllReadyH.cons (o:=_) rfl (fun K hK=>?_) ?_
     ·refine step_append_row rfl (.tmp 19) (.tmp 20) 23 44 rfl (z:=.agg #[.bool false,.slice none 0 0,.bool false,.slice none 0 0]) (k:=4) (by_:=64) Tryz.underlying23 infoRatU rfl (by decide) (B:=b0) (by have:=K0.out.lt;omega) rfl (ownEmpty K0.out (Nat.le_refl _)) rfl HRR.out.nil0 (newsU_len N (V q)) (fun A hA=>by cases hA;exact(HRR.out.ext HE.out).news) (newsU_one N (V q)) (by omega) (by omega) ?_;intro v7 x7 ho hg hnl hat;obtain⟨gq,cq,rfl,hgq,hcq,hcm⟩:=own_row_form ho hnl;have HR7:=Lib.hid (rowB_of_own ho);replace HBG:=Lib.hid (HBG.out.grown hg (HL0.out b0 (Nat.le_refl _)));replace HE:=Lib.hid (Below.grown HE.out hg HE.out.size (fun r e=>by cases e;exact HWB.out));replace t1:World.cell? x7 ⟨w.heap.size,1,none⟩=some (.slice av q cv):=HBG.out.box.cell rfl;have HGQ:=Lib.hid hgq;have HCQ:=Lib.hid (And.intro hcq hcm);clear ho hg hnl hat hgq hcq hcm K0
      refine hK.out _ _ ?_ (fun hHeld2=>?_)
      ·trivial
      clear hK K hHeld
      have hHeld:=hHeld2
      clear hHeld2
      (try simp only [Act.put,pus])
      refine wpAnyH_ready (rs:=[8]) (by kernel_rfl) (by simp) ?_
      refine AllReadyH.cons (o:=_) rfl (fun K hK=>?_) ?_
      ·go_simp
       have hy:=Ext.alloc x7 (.cells #[.slice (some ⟨gq,0,none⟩) N cq] 23);replace HBG:=Lib.hid (HBG.out.ext hy);replace HE:=Lib.hid (Ext.trans HE.out hy);replace HR7:=Lib.hid (HR7.out.ext hy);have K1:=Lib.hid (Blk.new0 x7 #[.slice (some ⟨gq,0,none⟩) N cq] 23);replace t1:=cell_exQ hy t1;clear hy;generalize World.alloc x7 (.cells #[.slice (some ⟨gq,0,none⟩) N cq] 23)=x8 at *;generalize Array.size (World.heap x7)=b1 at *
       refine hK.out _ _ ?_ (fun hHeld2=>?_)
       ·trivial
       clear hK K hHeld
       have hHeld:=hHeld2
       clear hHeld2
       (try simp only [Act.put,pus])
       refine wpAnyH_ready (rs:=[9]) (by kernel_rfl) (by simp) ?_
       refine AllReadyH.cons (o:=_) rfl (fun K hK=>?_) ?_
       ·refine step_append_row rfl (.tmp 18) (.tmp 22) 22 23 rfl (z:=.slice none 0 0) (k:=1) (by_:=24) Tryz.underlying22 infoRowU rfl (by decide) (B:=w.heap.size) HE.out.size rfl HBG.out.own rfl (fun e=>by cases e) (news:=[.slice (some ⟨gq,0,none⟩) N cq]) rfl (fun A hA j u hu=>by cases hA;exact one_news K1.out hu) (fun u hu=>by rw [List.mem_singleton.1 hu];rfl) (by omega) (by omega) ?_;intro v9 x9 ho hg hnl hat;obtain⟨a9,c9,rfl⟩:=row_form ho;have HB9:=Lib.hid (HBG.out.push ho hg HR7.out HL0.out HGQ.out HCQ.out HWB.out);replace HE:=Lib.hid (Below.grown HE.out hg HE.out.size (fun r e=>(World.ownsRow.lt HBG.out.own r e).1));have HP9:=Lib.hid (blkGrown HBG.out.box hg (rowNe HBG.out.own HBG.out.box (by decide)));clear ho hg hnl hat HBG HR7 K1 t1
        refine hK.out _ _ ?_ (fun hHeld2=>?_)
        ·trivial
        clear hK K hHeld
        have hHeld:=hHeld2
        clear hHeld2
        (try simp only [Act.put,pus])
        refine tk (v:=?_) 10 rfl (by kernel_rfl) (fun _ _ _ h=>h) (by rfl) ?_ (by assumption) ?_
        rotate_left
        ·(intro w hSw;(try dsimp only at hSw);(try go_simp);(try with_reducible rfl))
        (try simp only [Act.put,pus])
        refine tk (v:=?_) 11 rfl (by kernel_rfl) (fun _ _ _ h=>h) (by rfl) ?_ (by assumption) ?_
        rotate_left
        ·(intro w hSw;(try dsimp only at hSw);(try go_simp);(try with_reducible rfl))
        (try simp only [Act.put,pus])
        refine wpAnyH_ready (rs:=[12]) (by kernel_rfl) (by simp) ?_
        refine AllReadyH.cons (o:=_) rfl (fun K hK=>?_) ?_
        ·have p0:=HP9.out.cell (i:=1) rfl;have p1:=HP9.out.free 1;go_simp;clear p0 p1;replace HE:=Lib.hid (Ext.set HE.out (p:=⟨w.heap.size,1,none⟩) (Nat.le_refl _) (.slice a9 (q+1) c9))
         refine hK.out _ _ ?_ (fun hHeld2=>?_)
         ·trivial
         clear hK K hHeld
         have hHeld:=hHeld2
         clear hHeld2
         (try simp only [Act.put,pus])
         refine wpAnyH_done (by kernel_rfl) ?_ _
         go_wp2_with fail
         go_roundw
         case rel=>exact⟨q+1,by omega,by go_num,⟨_,_,_,HB9.out⟩,HE.out⟩
         case measure=>simp [intOf];omega
        exact AllReadyH.nil
       exact AllReadyH.nil
      exact AllReadyH.nil
     exact AllReadyH.nil
    refine AllReadyH.cons (o:=_) rfl (fun K hK=>?_) ?_
    ·refine step_append_row rfl (.tmp 19) (.tmp 20) 23 44 rfl (z:=.agg #[.bool false,.slice none 0 0,.bool false,.slice none 0 0]) (k:=4) (by_:=64) Tryz.underlying23 infoRatU rfl (by decide) (B:=b0) (by have:=K0.out.lt;omega) rfl (ownEmpty K0.out (Nat.le_refl _)) rfl HRR.out.nil0 (newsU_len N (V q)) (fun A hA=>by cases hA;exact(HRR.out.ext HE.out).news) (newsU_one N (V q)) (by omega) (by omega) ?_;intro v7 x7 ho hg hnl hat;obtain⟨gq,cq,rfl,hgq,hcq,hcm⟩:=own_row_form ho hnl;have HR7:=Lib.hid (rowB_of_own ho);replace HBG:=Lib.hid (HBG.out.grown hg (HL0.out b0 (Nat.le_refl _)));replace HE:=Lib.hid (Below.grown HE.out hg HE.out.size (fun r e=>by cases e;exact HWB.out));replace t1:World.cell? x7 ⟨w.heap.size,1,none⟩=some (.slice av q cv):=HBG.out.box.cell rfl;have HGQ:=Lib.hid hgq;have HCQ:=Lib.hid (And.intro hcq hcm);clear ho hg hnl hat hgq hcq hcm K0
     refine hK.out _ _ ?_ (fun hHeld2=>?_)
     ·trivial
     clear hK K hHeld
     have hHeld:=hHeld2
     clear hHeld2
     (try simp only [Act.put,pus])
     refine wpAnyH_ready (rs:=[4,8]) (by kernel_rfl) (by simp) ?_
     refine AllReadyH.cons (o:=_) rfl (fun K hK=>?_) ?_
     ·go_simp
      refine hK.out _ _ ?_ (fun hHeld2=>?_)
      ·trivial
      clear hK K hHeld
      have hHeld:=hHeld2
      clear hHeld2
      (try simp only [Act.put,pus])
      refine wpAnyH_ready (rs:=[8]) (by kernel_rfl) (by simp) ?_
      refine AllReadyH.cons (o:=_) rfl (fun K hK=>?_) ?_
      ·go_simp
       have hy:=Ext.alloc x7 (.cells #[.slice (some ⟨gq,0,none⟩) N cq] 23);replace HBG:=Lib.hid (HBG.out.ext hy);replace HE:=Lib.hid (Ext.trans HE.out hy);replace HR7:=Lib.hid (HR7.out.ext hy);have K1:=Lib.hid (Blk.new0 x7 #[.slice (some ⟨gq,0,none⟩) N cq] 23);replace t1:=cell_exQ hy t1;clear hy;generalize World.alloc x7 (.cells #[.slice (some ⟨gq,0,none⟩) N cq] 23)=x8 at *;generalize Array.size (World.heap x7)=b1 at *
       refine hK.out _ _ ?_ (fun hHeld2=>?_)
       ·trivial
       clear hK K hHeld
       have hHeld:=hHeld2
       clear hHeld2
       (try simp only [Act.put,pus])
       refine wpAnyH_ready (rs:=[9]) (by kernel_rfl) (by simp) ?_
       refine AllReadyH.cons (o:=_) rfl (fun K hK=>?_) ?_
       ·refine step_append_row rfl (.tmp 18) (.tmp 22) 22 23 rfl (z:=.slice none 0 0) (k:=1) (by_:=24) Tryz.underlying22 infoRowU rfl (by decide) (B:=w.heap.size) HE.out.size rfl HBG.out.own rfl (fun e=>by cases e) (news:=[.slice (some ⟨gq,0,none⟩) N cq]) rfl (fun A hA j u hu=>by cases hA;exact one_news K1.out hu) (fun u hu=>by rw [List.mem_singleton.1 hu];rfl) (by omega) (by omega) ?_;intro v9 x9 ho hg hnl hat;obtain⟨a9,c9,rfl⟩:=row_form ho;have HB9:=Lib.hid (HBG.out.push ho hg HR7.out HL0.out HGQ.out HCQ.out HWB.out);replace HE:=Lib.hid (Below.grown HE.out hg HE.out.size (fun r e=>(World.ownsRow.lt HBG.out.own r e).1));have HP9:=Lib.hid (blkGrown HBG.out.box hg (rowNe HBG.out.own HBG.out.box (by decide)));clear ho hg hnl hat HBG HR7 K1 t1
        refine hK.out _ _ ?_ (fun hHeld2=>?_)
        ·trivial
        clear hK K hHeld
        have hHeld:=hHeld2
        clear hHeld2
        (try simp only [Act.put,pus])
        refine tk (v:=?_) 10 rfl (by kernel_rfl) (fun _ _ _ h=>h) (by rfl) ?_ (by assumption) ?_
        rotate_left
        ·(intro w hSw;(try dsimp only at hSw);(try go_simp);(try with_reducible rfl))
        (try simp only [Act.put,pus])
        refine tk (v:=?_) 11 rfl (by kernel_rfl) (fun _ _ _ h=>h) (by rfl) ?_ (by assumption) ?_
        rotate_left
        ·(intro w hSw;(try dsimp only at hSw);(try go_simp);(try with_reducible rfl))
        (try simp only [Act.put,pus])
        refine wpAnyH_ready (rs:=[12]) (by kernel_rfl) (by simp) ?_
        refine AllReadyH.cons (o:=_) rfl (fun K hK=>?_) ?_
        ·have p0:=HP9.out.cell (i:=1) rfl;have p1:=HP9.out.free 1;go_simp;clear p0 p1;replace HE:=Lib.hid (Ext.set HE.out (p:=⟨w.heap.size,1,none⟩) (Nat.le_refl _) (.slice a9 (q+1) c9))
         refine hK.out _ _ ?_ (fun hHeld2=>?_)
         ·trivial
         clear hK K hHeld
         have hHeld:=hHeld2
         clear hHeld2
         (try simp only [Act.put,pus])
         refine wpAnyH_done (by kernel_rfl) ?_ _
         go_wp2_with fail
         go_roundw
         case rel=>exact⟨q+1,by omega,by go_num,⟨_,_,_,HB9.out⟩,HE.out⟩
         case measure=>simp [intOf];omega
        exact AllReadyH.nil
       exact AllReadyH.nil
      exact AllReadyH.nil
     refine AllReadyH.cons (o:=_) rfl (fun K hK=>?_) ?_
     ·go_simp
      have hy:=Ext.alloc x7 (.cells #[.slice (some ⟨gq,0,none⟩) N cq] 23);replace HBG:=Lib.hid (HBG.out.ext hy);replace HE:=Lib.hid (Ext.trans HE.out hy);replace HR7:=Lib.hid (HR7.out.ext hy);have K1:=Lib.hid (Blk.new0 x7 #[.slice (some ⟨gq,0,none⟩) N cq] 23);replace t1:=cell_exQ hy t1;clear hy;generalize World.alloc x7 (.cells #[.slice (some ⟨gq,0,none⟩) N cq] 23)=x8 at *;generalize Array.size (World.heap x7)=b1 at *
      refine hK.out _ _ ?_ (fun hHeld2=>?_)
      ·trivial
      clear hK K hHeld
      have hHeld:=hHeld2
      clear hHeld2
      (try simp only [Act.put,pus])
      refine wpAnyH_ready (rs:=[4]) (by kernel_rfl) (by simp) ?_
      refine AllReadyH.cons (o:=_) rfl (fun K hK=>?_) ?_
      ·go_simp
       refine hK.out _ _ ?_ (fun hHeld2=>?_)
       ·trivial
       clear hK K hHeld
       have hHeld:=hHeld2
       clear hHeld2
       (try simp only [Act.put,pus])
       refine wpAnyH_ready (rs:=[9]) (by kernel_rfl) (by simp) ?_
       refine AllReadyH.cons (o:=_) rfl (fun K hK=>?_) ?_
       ·refine step_append_row rfl (.tmp 18) (.tmp 22) 22 23 rfl (z:=.slice none 0 0) (k:=1) (by_:=24) Tryz.underlying22 infoRowU rfl (by decide) (B:=w.heap.size) HE.out.size rfl HBG.out.own rfl (fun e=>by cases e) (news:=[.slice (some ⟨gq,0,none⟩) N cq]) rfl (fun A hA j u hu=>by cases hA;exact one_news K1.out hu) (fun u hu=>by rw [List.mem_singleton.1 hu];rfl) (by omega) (by omega) ?_;intro v9 x9 ho hg hnl hat;obtain⟨a9,c9,rfl⟩:=row_form ho;have HB9:=Lib.hid (HBG.out.push ho hg HR7.out HL0.out HGQ.out HCQ.out HWB.out);replace HE:=Lib.hid (Below.grown HE.out hg HE.out.size (fun r e=>(World.ownsRow.lt HBG.out.own r e).1));have HP9:=Lib.hid (blkGrown HBG.out.box hg (rowNe HBG.out.own HBG.out.box (by decide)));clear ho hg hnl hat HBG HR7 K1 t1
        refine hK.out _ _ ?_ (fun hHeld2=>?_)
        ·trivial
        clear hK K hHeld
        have hHeld:=hHeld2
        clear hHeld2
        (try simp only [Act.put,pus])
        refine tk (v:=?_) 10 rfl (by kernel_rfl) (fun _ _ _ h=>h) (by rfl) ?_ (by assumption) ?_
        rotate_left
        ·(intro w hSw;(try dsimp only at hSw);(try go_simp);(try with_reducible rfl))
        (try simp only [Act.put,pus])
        refine tk (v:=?_) 11 rfl (by kernel_rfl) (fun _ _ _ h=>h) (by rfl) ?_ (by assumption) ?_
        rotate_left
        ·(intro w hSw;(try dsimp only at hSw);(try go_simp);(try with_reducible rfl))
        (try simp only [Act.put,pus])
        refine wpAnyH_ready (rs:=[12]) (by kernel_rfl) (by simp) ?_
        refine AllReadyH.cons (o:=_) rfl (fun K hK=>?_) ?_
        ·have p0:=HP9.out.cell (i:=1) rfl;have p1:=HP9.out.free 1;go_simp;clear p0 p1;replace HE:=Lib.hid (Ext.set HE.out (p:=⟨w.heap.size,1,none⟩) (Nat.le_refl _) (.slice a9 (q+1) c9))
         refine hK.out _ _ ?_ (fun hHeld2=>?_)
         ·trivial
         clear hK K hHeld
         have hHeld:=hHeld2
         clear hHeld2
         (try simp only [Act.put,pus])
         refine wpAnyH_done (by kernel_rfl) ?_ _
         go_wp2_with fail
         go_roundw
         case rel=>exact⟨q+1,by omega,by go_num,⟨_,_,_,HB9.out⟩,HE.out⟩
         case measure=>simp [intOf];omega
        exact AllReadyH.nil
       exact AllReadyH.nil
      exact AllReadyH.nil
     exact AllReadyH.nil
    exact AllReadyH.nil
   exact AllReadyH.nil
  ·have q1':¬ (q:Int)< (m:Int):=by omega
   obtain rfl:q=m:=by omega
   obtain⟨ra,R,rc,hs⟩:=hb.sys rfl hE (fun r hr c hc=>HH.out.val hr hc)
   have HS:=Lib.hid hs
   have HE:=Lib.hid hE
   clear hb hE hs
   go_wp2_with fail
   go_ret
   exact⟨_,_,_,_,_,_,rfl,HS.out,HE.out⟩
end Go.Proofs.YtokffagbdfhnnaaGreat
