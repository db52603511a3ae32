import Derived.Test.YtolffmmkjnhkkaaGreatM3
import Derived.OwnWalk
import Derived.Deep.QuietTactic
namespace Go.Proofs.YtolffmmkjnhkkaaGreat
open Go.RowKit Go BigFrame Go.Shelf
set_option maxRecDepth 100000
set_option linter.unusedSimpArgs false
set_option linter.unusedVariables false
attribute [local go_sem] Oper.semAt_some
theorem corrected_known (a:Option Addr) (n cap:Nat) (s:Option Addr) (m sc:Nat) (w:World):
 Calls Tryz.prog 27 #[.slice a n cap,.slice s m sc] w fun e w'=>e=.returned (.func (.func 53) #[] #[.pointer (some ⟨w.heap.size,0,none⟩),.pointer (some ⟨w.heap.size+1,0,none⟩)])∧w'= (w.alloc (.cells #[.slice a n cap] 34)).alloc (.cells #[.slice s m sc] 23):=by
 have hmf:∀ (fn:Fn) (first cap:Array Value) (w:World),(Instr.makeFunc fn first cap).run Tryz.prog w=.ok (.func fn first cap) w:=fun _ _ _ _=>rfl
 go_enter Tryz.func27,Tryz.ntmps27
 go_wp2_with fail
 go_ret
 exact⟨by simp,rfl⟩
def OwnV (w:World) (g:Nat) (V:List RatC):Prop:=∃cs:Array Value,Blk w g cs 38∧cs.size=V.length*4∧∀i (h:i<V.length),cs[i*4]? =some (.bool V[i].n)∧cs[i*4+1]? =some (.slice V[i].a V[i].q V[i].c)∧cs[i*4+2]? =some (.bool V[i].m)∧cs[i*4+3]? =some (.slice V[i].b V[i].k V[i].d)
theorem OwnV.keep {w w':World} {g:Nat} {V:List RatC} (h:OwnV w g V) {Gs:List Nat} (k:KeepC Gs w w') (hg:g ∉ Gs):OwnV w' g V:=by
 obtain⟨cs,hb,hs,hc⟩:=h
 exact⟨cs,k.blk hg hb,hs,hc⟩
theorem OwnV.ext {w w':World} {g:Nat} {V:List RatC} (h:OwnV w g V) (k:Ext w w'):OwnV w' g V:=h.keep (KeepC.of_ext (Gs:=[]) k) (by simp)
theorem OwnV.lt {w:World} {g:Nat} {V:List RatC} (h:OwnV w g V):g<w.heap.size:=by
 obtain⟨cs,hb,_⟩:=h
 exact hb.lt
theorem OwnV.cells {w:World} {g:Nat} {V:List RatC} (h:OwnV w g V) {i:Nat} (hi:i<V.length):w.cell? ⟨g,i*4,none⟩=some (.bool V[i].n)∧w.cell? ⟨g,i*4+1,none⟩=some (.slice V[i].a V[i].q V[i].c)∧w.cell? ⟨g,i*4+2,none⟩=some (.bool V[i].m)∧w.cell? ⟨g,i*4+3,none⟩=some (.slice V[i].b V[i].k V[i].d):=by
 obtain⟨cs,hb,_,hc⟩:=h
 obtain⟨h0,h1,h2,h3⟩:=hc i hi
 exact⟨hb.cell h0,hb.cell h1,hb.cell h2,hb.cell h3⟩
theorem noInt4 {cs:Array Value} {V:List RatC} (hs:cs.size=V.length*4) (hc:∀i (h:i<V.length),cs[i*4]? =some (.bool V[i].n)∧cs[i*4+1]? =some (.slice V[i].a V[i].q V[i].c)∧cs[i*4+2]? =some (.bool V[i].m)∧cs[i*4+3]? =some (.slice V[i].b V[i].k V[i].d)):noInt cs:=fun j n h=>by
 have hj:j<cs.size:=(Array.getElem?_eq_some_iff.1 h).1
 obtain⟨h0,h1,h2,h3⟩:=hc (j / 4) (by omega)
 have:j=j / 4*4∨j=j / 4*4+1∨j=j / 4*4+2∨j=j / 4*4+3:=by omega
 rcases this with e | e | e | e
 ·rw [←e] at h0;rw [h0] at h;cases h
 ·rw [←e] at h1;rw [h1] at h;cases h
 ·rw [←e] at h2;rw [h2] at h;cases h
 ·rw [←e] at h3;rw [h3] at h;cases h
theorem set_selfM {cs:Array Value} {i:Nat} {v:Value} (h:i<cs.size):(cs.setIfInBounds i v)[i]? =some v:=by simp [h]
def set4 (w:World) (g i:Nat) (x:RatC):World:=(((w.setCell ⟨g,i*4,none⟩ (.bool x.n)).setCell ⟨g,i*4+1,none⟩ (.slice x.a x.q x.c)).setCell ⟨g,i*4+2,none⟩ (.bool x.m)).setCell ⟨g,i*4+3,none⟩ (.slice x.b x.k x.d)
structure Put4 (w:World) (g i:Nat) (V:List RatC) (x:RatC):Prop where
 f0:w.frozen? ⟨g,i*4,none⟩=false
 f1:(w.setCell ⟨g,i*4,none⟩ (.bool x.n)).frozen? ⟨g,i*4+1,none⟩=false
 f2:((w.setCell ⟨g,i*4,none⟩ (.bool x.n)).setCell ⟨g,i*4+1,none⟩ (.slice x.a x.q x.c)).frozen? ⟨g,i*4+2,none⟩=false
 f3:(((w.setCell ⟨g,i*4,none⟩ (.bool x.n)).setCell ⟨g,i*4+1,none⟩ (.slice x.a x.q x.c)).setCell ⟨g,i*4+2,none⟩ (.bool x.m)).frozen? ⟨g,i*4+3,none⟩=false
 c0:∃u,w.cell? ⟨g,i*4,none⟩=some u
 c1:∃u,(w.setCell ⟨g,i*4,none⟩ (.bool x.n)).cell? ⟨g,i*4+1,none⟩=some u
 c2:∃u,((w.setCell ⟨g,i*4,none⟩ (.bool x.n)).setCell ⟨g,i*4+1,none⟩ (.slice x.a x.q x.c)).cell? ⟨g,i*4+2,none⟩=some u
 c3:∃u,(((w.setCell ⟨g,i*4,none⟩ (.bool x.n)).setCell ⟨g,i*4+1,none⟩ (.slice x.a x.q x.c)).setCell ⟨g,i*4+2,none⟩ (.bool x.m)).cell? ⟨g,i*4+3,none⟩=some u
 own:OwnV (set4 w g i x) g (V.set i x)
 ro:∀ (v:Value) (o:Option Rat),RO w v o→RO (set4 w g i x) v o
 other:∀ (b:Nat) (cs:Array Value) (t:TypeId),b≠g→Blk w b cs t→Blk (set4 w g i x) b cs t
 keep:KeepC [g] w (set4 w g i x)
 below:∀ (B:Nat) (w0:World),B≤g→Below B w0 w→Below B w0 (set4 w g i x)
theorem OwnV.put {w:World} {g i:Nat} {V:List RatC} (h:OwnV w g V) (hi:i<V.length) (x:RatC):Put4 w g i V x:=by
 obtain⟨cs,hb,hs,hc⟩:=h
 have hni:=noInt4 hs hc
 obtain⟨e0,e1,e2,e3⟩:=hc i hi
 have b1:=hb.set (i*4) (.bool x.n)
 have b2:=b1.set (i*4+1) (.slice x.a x.q x.c)
 have b3:=b2.set (i*4+2) (.bool x.m)
 have b4:=b3.set (i*4+3) (.slice x.b x.k x.d)
 have n1:noInt (cs.setIfInBounds (i*4) (.bool x.n)):=hni.set _ (fun n e=>by cases e)
 have n2:noInt ((cs.setIfInBounds (i*4) (.bool x.n)).setIfInBounds (i*4+1) (.slice x.a x.q x.c)):=n1.set _ (fun n e=>by cases e)
 have n3:noInt (((cs.setIfInBounds (i*4) (.bool x.n)).setIfInBounds (i*4+1) (.slice x.a x.q x.c)).setIfInBounds (i*4+2) (.bool x.m)):=n2.set _ (fun n e=>by cases e)
 have hkeep:∀ (A:World) (j:Nat) (u:Value),KeepC [g] A (A.setCell ⟨g,j,none⟩ u):=fun A j u=>⟨by simp,fun k cs t f hk hh=>by
  have hne:k≠g:=fun e=>hk (by rw [e];simp)
  exact(Below.heap_setCell A ⟨g,j,none⟩ u k hne).trans hh⟩
 refine⟨hb.free _,b1.free _,b2.free _,b3.free _,⟨_,hb.cell e0⟩,⟨_,b1.cell (v:=.slice V[i].a V[i].q V[i].c) (by rw [Array.getElem?_setIfInBounds_ne (by omega)];exact e1)⟩,
  ⟨_,b2.cell (v:=.bool V[i].m) (by rw [Array.getElem?_setIfInBounds_ne (by omega),Array.getElem?_setIfInBounds_ne (by omega)];exact e2)⟩,
  ⟨_,b3.cell (v:=.slice V[i].b V[i].k V[i].d) (by rw [Array.getElem?_setIfInBounds_ne (by omega),Array.getElem?_setIfInBounds_ne (by omega),Array.getElem?_setIfInBounds_ne (by omega)];exact e3)⟩,⟨_,b4,by simp [hs],fun j hj=>?_⟩,fun v o hv=>(((hv.put hb hni _ _).put b1 n1 _ _).put b2 n2 _ _).put b3 n3 _ _,
  fun b cs' t hne hB=>(((hB.other (p:=⟨g,i*4,none⟩) hne _).other (p:=⟨g,i*4+1,none⟩) hne _).other (p:=⟨g,i*4+2,none⟩) hne _).other (p:=⟨g,i*4+3,none⟩) hne _,
  (((hkeep _ _ _).trans (hkeep _ _ _)).trans (hkeep _ _ _)).trans (hkeep _ _ _),
  fun B w0 hB hw=>(((hw.setCell (p:=⟨g,i*4,none⟩) hB _).setCell (p:=⟨g,i*4+1,none⟩) hB _).setCell (p:=⟨g,i*4+2,none⟩) hB _).setCell (p:=⟨g,i*4+3,none⟩) hB _⟩
 rw [List.length_set] at hj
 obtain⟨d0,d1,d2,d3⟩:=hc j hj
 have hsz:i*4+3<cs.size:=by omega
 by_cases hij:i=j
 ·subst hij
  simp only [List.getElem_set_self]
  refine⟨?_,?_,?_,?_⟩
  ·rw [Array.getElem?_setIfInBounds_ne (by omega),Array.getElem?_setIfInBounds_ne (by omega),Array.getElem?_setIfInBounds_ne (by omega),set_selfM (by omega)]
  ·rw [Array.getElem?_setIfInBounds_ne (by omega),Array.getElem?_setIfInBounds_ne (by omega),set_selfM (by simp only [Array.size_setIfInBounds];omega)]
  ·rw [Array.getElem?_setIfInBounds_ne (by omega),set_selfM (by simp only [Array.size_setIfInBounds];omega)]
  ·rw [set_selfM (by simp only [Array.size_setIfInBounds];omega)]
 ·rw [List.getElem_set_ne hij]
  refine⟨?_,?_,?_,?_⟩
  ·rw [Array.getElem?_setIfInBounds_ne (by omega),Array.getElem?_setIfInBounds_ne (by omega),Array.getElem?_setIfInBounds_ne (by omega),Array.getElem?_setIfInBounds_ne (by omega)];exact d0
  ·rw [Array.getElem?_setIfInBounds_ne (by omega),Array.getElem?_setIfInBounds_ne (by omega),Array.getElem?_setIfInBounds_ne (by omega),Array.getElem?_setIfInBounds_ne (by omega)];exact d1
  ·rw [Array.getElem?_setIfInBounds_ne (by omega),Array.getElem?_setIfInBounds_ne (by omega),Array.getElem?_setIfInBounds_ne (by omega),Array.getElem?_setIfInBounds_ne (by omega)];exact d2
  ·rw [Array.getElem?_setIfInBounds_ne (by omega),Array.getElem?_setIfInBounds_ne (by omega),Array.getElem?_setIfInBounds_ne (by omega),Array.getElem?_setIfInBounds_ne (by omega)];exact d3
def FreshC (B:Nat) (x:RatC):Prop:=(0<x.q→∀A,x.a=some A→B≤A.block)∧(0<x.k→∀A,x.b=some A→B≤A.block)
theorem FreshC.off {B:Nat} {x:RatC} (h:FreshC B x) {o:Option Nat} (ho:∀g,o=some g→g<B):x.Off o:=
 ⟨fun hq A hA e=>by have:=h.1 hq A hA;have:=ho _ e;omega,fun hq A hA e=>by have:=h.2 hq A hA;have:=ho _ e;omega⟩
def rowO (l:List Int) (S:List Rat):List (Option Rat):=(List.range l.length).map fun j=>if l.getD j 0= -1 then none else some ((l.getD j 0:Rat) - S.getD j 0)
theorem rowO_len (l:List Int) (S:List Rat):(rowO l S).length=l.length:=by simp [rowO]
theorem rowO_get (l:List Int) (S:List Rat) {j:Nat} (h:j<l.length):(rowO l S).getD j none=if l.getD j 0= -1 then none else some ((l.getD j 0:Rat) - S.getD j 0):=by
 rw [List.getD_eq_getElem?_getD]
 unfold rowO
 rw [List.getElem?_map,List.getElem?_range h]
 rfl
theorem knIx_mem (l:List Int) {j:Nat} (h:j<l.length):j∈knIx l l.length↔l.getD j 0≠-1:=by
 unfold knIx
 rw [List.mem_filter,List.mem_range,decide_eq_true_eq]
 exact⟨fun h=>h.2,fun h2=>⟨h,h2⟩⟩
abbrev zeroC:RatC:=⟨false,none,0,0,false,none,0,0⟩
theorem ownV_made {w:World} {B g n:Nat} (h:w.ownsRow B 38 4 (.slice (some ⟨g,0,none⟩) n n) n (madeCells (Value.cells (.agg #[.bool false,.slice none 0 0,.bool false,.slice none 0 0])) (n*4)).toList):OwnV w g (List.replicate n zeroC):=by
 rcases h.2 with⟨e,_⟩ | ⟨g',cap,cur,e,_,hb,_,_,hs,ht⟩
 ·cases e
 ·simp only [Value.slice.injEq,Option.some.injEq,Addr.mk.injEq,and_true,true_and] at e
  obtain⟨rfl,rfl⟩:=e
  refine⟨cur,hb,by simp [hs],fun i hi=>?_⟩
  rw [List.length_replicate] at hi
  have hcur:cur.toList= (madeCells (Value.cells (.agg #[.bool false,.slice none 0 0,.bool false,.slice none 0 0])) (n*4)).toList:=by
   rw [←ht,List.take_of_length_le (by simp [hs])]
  have key:∀k,k<n*4→cur[k]? = (madeCells (Value.cells (.agg #[.bool false,.slice none 0 0,.bool false,.slice none 0 0])) (n*4))[k]? :=fun k hk=>by
   rw [←Array.getElem?_toList,←Array.getElem?_toList,hcur]
  rw [List.getElem_replicate]
  have made:∀c,c<4→cur[i*4+c]? =some ((Value.cells (.agg #[.bool false,.slice none 0 0,.bool false,.slice none 0 0]))[c]!):=fun c hc=>by
   rw [key _ (by omega)]
   unfold madeCells
   rw [Array.getElem?_map,Array.getElem?_range,if_pos (by omega)]
   simp only [Option.map_some]
   congr 2
   have:(Value.cells (.agg #[.bool false,.slice none 0 0,.bool false,.slice none 0 0])).size=4:=rfl
   rw [this]
   omega
  exact⟨made 0 (by omega),made 1 (by omega),made 2 (by omega),made 3 (by omega)⟩
theorem infoRatM:(Tryz.prog.info? 38).map (fun i=>(i.zero,i.size,i.bytes))=some (some (.agg #[.bool false,.slice none 0 0,.bool false,.slice none 0 0]),4,64):=by kernel_rfl
structure MkI (w:World) (g p n:Nat) (l:List Int) (S:List Rat) (xs:List (Nat × RatC)) (W:World):Prop where
 ex:∃V:List RatC,V.length=n∧OwnV W g V∧∀i (h:i<V.length),RO W V[i].val (if i∈xs.map (·.1) then some ((l.getD i 0:Rat) - S.getD i 0) else none)∧FreshC w.heap.size V[i]
 bp:Blk W p #[.slice (some ⟨g,0,none⟩) n n] 23
 bl:Below w.heap.size w W
theorem RO.keep {w w':World} {v:Value} {o:Option Rat} (h:RO w v o) (k:KeepC [] w w'):RO w' v o:=by
 cases o with
 | none=>exact h
 | some r=>
  obtain⟨n1,a,q,c,n2,b,k1,d,e,⟨n3,l,⟨a3,c3,e3,hi⟩,hb⟩,⟨n4,m,⟨a4,c4,e4,hj⟩,hc⟩⟩:=h
  exact⟨n1,a,q,c,n2,b,k1,d,e,⟨n3,l,⟨a3,c3,e3,k.ints hi (fun _ _ _=>by simp)⟩,hb⟩,⟨n4,m,⟨a4,c4,e4,k.ints hj (fun _ _ _=>by simp)⟩,hc⟩⟩
theorem keep_grown {w w':World} {row:Option Nat} (hg:w.grownBy w' row) (hr:∀r,row=some r→∃o:Obj,w.heap[r]? =some o∧o.isCells=false):KeepC [] w w':=
 ⟨hg.size,fun k cs t f _ hh=>(hg.block k (Array.getElem?_eq_some_iff.1 hh).1 (fun e=>by
  obtain⟨o,ho,hc⟩:=hr k e.symm
  rw [hh] at ho
  cases ho
  simp [Obj.isCells] at hc)).trans hh⟩
theorem MkI.own {w:World} {g p n:Nat} {l:List Int} {S:List Rat} {B:Nat} (hB:w.heap.size≤B):OwnFrom B (MkI w g p n l S):=fun xs W W' row h hg hrow=>by
 have k:=keep_grown hg (fun r e=>(hrow r e).2)
 obtain⟨V,h1,h2,h3⟩:=h.ex
 exact⟨⟨V,h1,h2.keep k (by simp),fun i hi=>⟨(h3 i hi).1.keep k,(h3 i hi).2⟩⟩,k.blk (by simp) h.bp,h.bl.grown hg h.bl.size (fun r e=>Nat.le_trans hB (hrow r e).1)⟩
theorem KnOk.own {l:List Int} {S:List Rat} {B0 B:Nat}:OwnFrom B (KnOk l S B0):=fun xs W W' row h hg hrow=>by
 have k:=keep_grown hg (fun r e=>(hrow r e).2)
 obtain⟨j,h1,h2,h3,v,h4,h5⟩:=h
 obtain⟨n3,a3,q3,c3,b3,k3,d3,e,V3,F3,G3⟩:=h5
 have V4:RatV W' (.agg #[.bool n3,.slice a3 q3 c3,.bool false,.slice b3 k3 d3]) ((l.getD j 0:Rat) - S.getD j 0):=RO.keep (o:=some _) V3 k
 exact⟨j,h1,h2,h3,v,h4,n3,a3,q3,c3,b3,k3,d3,e,V4,F3,G3⟩
def Mk1P (l:List Int) (S:List Rat) (w:World) (e:Ending) (w':World):Prop:=∃v x,e=.returned v∧RowD.Rd w' v x∧x.R=rowO l S∧(∀o:Option Nat,(∀g,o=some g→g<w.heap.size)→x.Off o)∧Ext w w'
set_option maxHeartbeats 8000000 in
theorem corrected_marks1 (a:Option Addr) (cap:Nat) (l:List Int) (s:Option Addr) (sc:Nat) (L:List RatA) (S:List Rat) (Bv:Nat) (w:World) (h:Ints w a cap l) (k:RatsI w s sc L) (hb:Blk w Bv #[.slice s L.length sc] 23)
 (hV:ValL L S 7) (hls:l.length=S.length) (hm:∀x∈l,-1≤x∧x≤1000) (hl:l.length≤1000):
 Calls Tryz.prog 26 #[.slice a l.length cap,.pointer (some ⟨Bv,0,none⟩)] w (Mk1P l S w):=by
 have hle:=h.le
 have hmx:=h.mx
 have sle:=k.le
 have smx:=k.mx
 obtain⟨i0,hi0,hz0,hz1,hz2⟩:=info_parts infoRatM
 have hoa:∀q,a=some q→0<l.length→q.block<w.heap.size:=fun q hq hp=>by
  obtain⟨b,o,e⟩:=h.head (i:=0) hp
  rw [e] at hq h
  cases hq
  obtain⟨_,_,hc,_⟩:=Ints.get h hp
  exact lt_of_cell hc
 have hos:∀q,s=some q→0<L.length→q.block<w.heap.size:=fun q hq hp=>by
  obtain⟨_,h1,_⟩:=k.cells q hq 0 hp
  exact lt_of_cell h1
 have hin:∀ (a:Option Addr) (c:Nat) (l:List Int),Ints w a c l→∀q,a=some q→0<l.length→q.block<w.heap.size:=fun a c l h q hq hp=>by
  obtain⟨b,o,e⟩:=h.head (i:=0) hp
  rw [e] at hq h
  cases hq
  obtain⟨_,_,hc,_⟩:=Ints.get h hp
  exact lt_of_cell hc
 have hol:∀i (hi:i<L.length),(∀q,L[i].a=some q→0<L[i].l.length→q.block<w.heap.size)∧(∀q,L[i].b=some q→0<L[i].m.length→q.block<w.heap.size):=fun i hi=>
  ⟨hin _ _ _ (k.ints i hi).i,hin _ _ _ (k.ints i hi).j⟩
 have hblt:=hb.lt
 have HH:=Lib.hid h
 have HK:=Lib.hid k
 have HB:=Lib.hid hb
 have HV:=Lib.hid hV
 have HM:=Lib.hid hm
 have HOA:=Lib.hid hoa
 have HOS:=Lib.hid hos
 have HOL:=Lib.hid hol
 have HLS:=Lib.hid hls
 obtain⟨n,hn⟩:∃n,n=l.length:=⟨_,rfl⟩
 have HN:=Lib.hid hn
 rw [←hn] at hle hl ⊢
 clear h k hb hV hm hoa hos hin hol hls hn
 refine(callsIn_wide (n:=5)).1 ?_
 refine callsIn_of_wp_marks Tryz.func26 rfl trivial ?_ rfl
 simp only [Tryz.ntmps26,List.size_toArray,List.length_cons,List.length_nil,Nat.reduceAdd,Nat.reduceSub,Array.replicate_succ,Array.replicate_zero,List.push_toArray,List.append_toArray,List.nil_append,List.cons_append]
 refine wpIn_wide.2 ?_
 go_upto_region 2 with(at_make;refine wpList_make_full _ rfl _ _ 23 rfl w.heap.size 38 i0 _ 4 Tryz.underlying23 hi0 hz0 hz1 _ _ _ _ n rfl rfl rfl rfl (by rw [hz2];omega) (by unfold maxLen;omega) (Nat.le_refl _) ?_;intro w2 hown hgrow)
 have hOV:=ownV_made hown
 have hx2:Ext w w2:=grownExt (Ext.refl w) hgrow
 have hgp:=hOV.lt
 have hOV3:=hOV.ext (Ext.alloc w2 (.cells #[.slice (some ⟨w.heap.size,0,none⟩) n n] 23))
 have hbp3:=Blk.new0 w2 #[.slice (some ⟨w.heap.size,0,none⟩) n n] 23
 have hx3:=hx2.alloc' (.cells #[.slice (some ⟨w.heap.size,0,none⟩) n n] 23)
 generalize w2.alloc (.cells #[.slice (some ⟨w.heap.size,0,none⟩) n n] 23)=w3 at *
 generalize Array.size (World.heap w2)=p at *
 have HX3:=Lib.hid hx3
 have HOV:=Lib.hid hOV3
 have HBP:=Lib.hid hbp3
 have cb:=(HB.out.ext hx3).cell (i:=0) rfl
 clear hown hgrow hOV hx2 hOV3 hbp3 hi0 hz0 hz1 hz2
 go_wp2_with fail
 refine(corrected_known a n cap s L.length sc w3).mono ?_
 rintro e w4 ⟨rfl,rfl⟩
 clear cb
 have hb1:=(Blk.new0 w3 #[.slice a n cap] 34).alloc (.cells #[.slice s L.length sc] 23)
 have hb2:=Blk.new1 w3 (.cells #[.slice a n cap] 34) #[.slice s L.length sc] 23
 have hx5:Ext w3 ((w3.alloc (.cells #[.slice a n cap] 34)).alloc (.cells #[.slice s L.length sc] 23)):=((Ext.refl w3).alloc' _).alloc' _
 have h3s:=hx3.size
 have hp3:=HBP.out.lt
 have HX5:=Lib.hid hx5
 generalize (w3.alloc (.cells #[.slice a n cap] 34)).alloc (.cells #[.slice s L.length sc] 23)=w5 at *
 rw [HN.out] at hb1
 have HKn:Hid (KnW w5 [w.heap.size] w3.heap.size (w3.heap.size+1) a cap l s sc L):=Lib.hid
  ⟨hb1,hb2,(HH.out.ext hx3).ext hx5,(HK.out.ext hx3).ext hx5,by simp only [List.mem_singleton];omega,by simp only [List.mem_singleton];omega,
   fun q hq hp=>by have:=HOA.out q hq hp;simp only [List.mem_singleton];omega,⟨fun q hq hp=>by have:=HOS.out q hq hp;simp only [List.mem_singleton];omega,fun i hi=>⟨fun q hq hp=>by have:=(HOL.out i hi).1 q hq hp;simp only [List.mem_singleton];omega,fun q hq hp=>by have:=(HOL.out i hi).2 q hq hp;simp only [List.mem_singleton];omega⟩⟩⟩
 clear hb1 hb2 hx5
 go_wp2_with fail
 have h5s:=HX5.out.size
 refine(wpIn_wide (n:=5)).1 ?_
 refine wpIn_rangeFunc_boxY (by omega) (gf:=53) (lb:=#[.pointer (some ⟨w3.heap.size,0,none⟩),.pointer (some ⟨w3.heap.size+1,0,none⟩)]) rfl (enters_of Tryz.func53 (by kernel_rfl) rfl)
  (known_seq 4 [w.heap.size] w3.heap.size (w3.heap.size+1) a cap l s sc L S w5 HKn.out HV.out HLS.out HM.out w.heap.size (by omega)) (fun h k=>KeepC.trans h k) (fun W l o o' _ h2 h3 _=>KeepC.putObj W l o o' h2 h3) (fun _=>rfl)
  (MkI w w.heap.size p n l S) (fun _ _ _=>False) (MkI.own (by omega)) (fun _ _ _ _ _ h _ _=>h.elim) KnOk.own
  ⟨⟨List.replicate n zeroC,by simp,HOV.out.ext HX5.out,fun i hi=>by simp only [List.getElem_replicate,List.map_nil,List.not_mem_nil,if_false];exact⟨rfl,fun h=>absurd h (by simp),fun h=>absurd h (by simp)⟩⟩,HBP.out.ext HX5.out,HX3.out.trans HX5.out⟩
  (fun W o=>KeepC.of_ext (Ext.alloc W o)) (fun x=>#[.bool x.2.n,.slice x.2.a x.2.q x.2.c,.bool x.2.m,.slice x.2.b x.2.k x.2.d]) 38 ?a1 ?assign ?body ?done ?stop
 case assign=>
  intro lp x W K hK
  gi_wp2
  generalize W.heap.size=bb at *
  exact hK
 case body=>
  rintro lp pre x W ⟨⟨V,hVl,hO,hRO⟩,hbp,hbl⟩ ⟨j,hj,hjn,hmap,c,hlast,hrat⟩ b hbx hbw
  rw [List.getLast?_concat] at hlast
  cases hlast
  dsimp only at *
  have hjV:j<V.length:=by rw [hVl,HN.out];exact hj
  have hP:=hO.put hjV c
  have hB:Blk W b #[.bool c.n,.slice c.a c.q c.c,.bool c.m,.slice c.b c.k c.d] 38:=hbx
  have d0:=hB.cell (i:=0) rfl
  have d1:=hB.cell (i:=1) rfl
  have d2:=hB.cell (i:=2) rfl
  have d3:=hB.cell (i:=3) rfl
  have cp0:=hbp.cell (i:=0) rfl
  obtain⟨u0,e0⟩:=hP.c0
  obtain⟨u1,e1⟩:=hP.c1
  obtain⟨u2,e2⟩:=hP.c2
  obtain⟨u3,e3⟩:=hP.c3
  have f0:=hP.f0
  have f1:=hP.f1
  have f2:=hP.f2
  have f3:=hP.f3
  have g1:(0:Int)≤(j:Int):=by omega
  have g2:(j:Int)< (n:Int):=by rw [HN.out];omega
  have HP:=Lib.hid hP
  have HRO:=Lib.hid hRO
  have HBP:=Lib.hid hbp
  have HBL:=Lib.hid hbl
  have HRT:=Lib.hid hrat
  have HVL:=Lib.hid hVl
  have HJV:=Lib.hid hjV
  clear hP hRO hbp hbl hrat hVl hO hB hbx hmap hjV
  gi_wp2
  refine⟨(((KeepsOthers.setCell _ _ _).trans (KeepsOthers.setCell _ _ _)).trans (KeepsOthers.setCell _ _ _)).trans (KeepsOthers.setCell _ _ _),HP.out.keep,⟨V.set j c,by rw [List.length_set];exact HVL.out,HP.out.own,fun i hi=>?_⟩,HP.out.other p _ _ (by omega) HBP.out,HP.out.below _ _ (Nat.le_refl _) HBL.out⟩
  obtain⟨n3,a3,q3,c3,b3,k3,d3',e,V3,F3,G3⟩:=HRT.out
  rw [List.length_set] at hi
  have hm:(i∈(pre ++ [(j,c)]).map (·.1))↔(i∈pre.map (·.1)∨i=j):=by simp
  by_cases hij:j=i
  ·subst hij
   rw [List.getElem_set_self,if_pos (hm.2 (.inr rfl))]
   have V4:=HP.out.ro c.val (some ((l.getD j 0:Rat) - S.getD j 0)) (by show RatV W c.val _;rw [e];exact V3)
   obtain⟨cn,ca,cq,cc,cm,cb,ck,cd⟩:=c
   simp only [RatC.val,Value.agg.injEq,Array.mk.injEq,List.cons.injEq,Value.bool.injEq,Value.slice.injEq,and_true] at e
   obtain⟨rfl,⟨rfl,rfl,rfl⟩,rfl,rfl,rfl,rfl⟩:=e
   exact⟨V4,fun _ A hA=>F3 A hA,fun _ A hA=>G3 A hA⟩
  ·rw [List.getElem_set_ne hij]
   obtain⟨h1,h2⟩:=HRO.out i hi
   refine⟨HP.out.ro _ _ ?_,h2⟩
   by_cases hin:i∈pre.map (·.1)
   ·rw [if_pos (hm.2 (.inl hin))];rwa [if_pos hin] at h1
   ·rw [if_neg (fun h=>by rcases hm.1 h with h | h;exact hin h;exact hij h.symm)];rwa [if_neg hin] at h1
 case done=>
  rintro D xs W hD hS ⟨⟨V,hVl,hO,hRO⟩,hbp,hbl⟩ hK
  have k0:=hbp.cell (i:=0) rfl
  have HK:=Lib.hid hK
  have HRO:=Lib.hid hRO
  have HO:=Lib.hid hO
  have HBL:=Lib.hid hbl
  have HVL:=Lib.hid hVl
  have HS:=Lib.hid hS
  clear hK hRO hO hbl hVl hS hbp
  go_wp2_with fail
  refine⟨by simp,.inl ⟨_,_,rfl,run_takeDeferred HK.out,?_⟩⟩
  have kk:KeepC [] W (W.putObj D (.deferred none)):=KeepC.putObj W D _ _ HK.out rfl
  refine⟨.slice (some ⟨w.heap.size,0,none⟩) n n,by simp [results,Tryz.f26,go_sem],_,⟨some ⟨w.heap.size,0,none⟩,n,V,rowO l S⟩,rfl,⟨by rw [HVL.out],by rw [HVL.out];exact Nat.le_refl _,by dsimp only;omega,fun h=>(by cases h),by rw [rowO_len,HVL.out,HN.out],fun A hA i hi=>?_,fun i hi=>?_⟩,rfl,fun o ho=>⟨fun _ A hA e=>?_,fun c hc=>?_⟩,?_⟩
  ·cases hA
   obtain⟨e0,e1,e2,e3⟩:=(HO.out.keep kk (by simp)).cells hi
   simp only [Nat.zero_add]
   exact⟨trivial,e0,e1,e2,e3⟩
  ·obtain⟨h1,_⟩:=HRO.out i hi
   have hil:i<l.length:=by rw [←HN.out,←HVL.out];exact hi
   dsimp only
   rw [rowO_get l S hil]
   rw [HS.out] at h1
   have h2:=h1.keep kk
   by_cases hm:l.getD i 0= -1
   ·rw [if_pos hm];rwa [if_neg (fun h=>((knIx_mem l hil).1 h) hm)] at h2
   ·rw [if_neg hm];rwa [if_pos ((knIx_mem l hil).2 hm)] at h2
  ·cases hA
   exact absurd (ho _ e) (Nat.lt_irrefl _)
  ·obtain⟨i,hi,rfl⟩:=List.getElem_of_mem hc
   exact(HRO.out i hi).2.off ho
  ·exact HBL.out.grown (grownBy_putObj' W D (.deferred none)) HBL.out.size (fun r e=>by cases e;omega)
 case stop=>exact fun _ _ _ _ _ _ h=>h.elim
end Go.Proofs.YtolffmmkjnhkkaaGreat
