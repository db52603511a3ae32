import Derived.Test.YtokffagbdfhnnaaGreatU8
import Derived.Deep.RegionLawGrows
import Derived.OwnWalk
import Derived.Deep.QuietTactic
namespace Go.Proofs.YtokffagbdfhnnaaGreat
open Go.RowKit Go BigFrame Go.Shelf
set_option maxRecDepth 100000
set_option linter.unusedSimpArgs false
set_option linter.unusedVariables false
attribute [local go_sem] Oper.semAt_some
structure RowsO (w:World) (B q N:Nat) (vr:Value) (g cp:Nat→Nat) (V:Nat→Nat→RatC) (M:Mx):Prop where
 own:w.ownsRow B 23 1 vr q ((List.range q).map fun r=>Value.slice (some ⟨g r,0,none⟩) N (cp r))
 row:∀r,r<q→RowB w (g r) N (V r)
 cap:∀r,r<q→N≤cp r∧cp r≤9223372036854775807
 val:∀r,r<q→∀c,c<N→RatV w (V r c).val (M r c)
 off:∀r,r<q→∀c,c<N→(V r c).Off vr.ownBlock
section
variable {w w':World} {B q N:Nat} {vr:Value} {g cp:Nat→Nat} {V:Nat→Nat→RatC} {M:Mx}
theorem RowsO.nil (w:World) (B N:Nat) (g cp:Nat→Nat) (V:Nat→Nat→RatC) (M:Mx):RowsO w B 0 N (.slice none 0 0) g cp V M:=⟨World.ownsRow_nil _ _ _ _,fun r hr=>by omega,fun r hr=>by omega,fun r hr=>by omega,fun r hr=>by omega⟩
theorem RowsO.ext (h:RowsO w B q N vr g cp V M) (k:Ext w w'):RowsO w' B q N vr g cp V M:=⟨ownsRow_ext h.own k,fun r hr=>(h.row r hr).ext k,h.cap,fun r hr c hc=>(h.val r hr c hc).ext k,h.off⟩
theorem RowsO.push (h:RowsO w B q N vr g cp V M) {vr':Value} {gq cq:Nat} {Vq:Nat→RatC} {f:Nat→Rat} (ho:w'.ownsRow B 23 1 vr' (q+1) (((List.range q).map fun r=>Value.slice (some ⟨g r,0,none⟩) N (cp r)) ++ [.slice (some ⟨gq,0,none⟩) N cq])) (hg:w.grownBy w' vr.ownBlock)
 (hat:vr'.ownBlock=vr.ownBlock∨vr'.ownBlock=some w.heap.size) (hR:RowB w gq N Vq) (hv:∀c,c<N→RatV w (Vq c).val (f c)) (hof:∀c,c<N→(Vq c).Off vr.ownBlock) (hcq:N≤cq∧cq≤9223372036854775807):
 RowsO w' B (q+1) N vr' (fun r=>if r=q then gq else g r) (fun r=>if r=q then cq else cp r) (fun r=>if r=q then Vq else V r) (fun r=>if r=q then f else M r):=by
 have key:∀{x:Nat} {U:Nat→RatC},RowB w x N U→RowB w' x N U:=fun {x U} hx=>by
  obtain⟨cs,k1,k2⟩:=id hx
  exact hx.grown hg (rowNe h.own k1 (by decide))
 have offk:∀{x:RatC} {r:Rat},RatV w x.val r→x.Off vr.ownBlock→x.Off vr'.ownBlock:=fun {x r} hx ho=>by
  rcases hat with e | e
  ·rw [e];exact ho
  ·rw [e];exact RatV.offNew hx
 refine⟨?_,fun r hr=>?_,fun r hr=>?_,fun r hr c hc=>?_,fun r hr c hc=>?_⟩
 ·rw [List.range_succ,List.map_append,List.map_singleton,if_pos rfl,if_pos rfl]
  rw [List.map_congr_left (g:=fun r=>Value.slice (some ⟨g r,0,none⟩) N (cp r)) fun r hr=>by
   have:=List.mem_range.1 hr
   rw [if_neg (by omega),if_neg (by omega)]]
  exact ho
 ·by_cases e:r=q
  ·simp only [e,if_true];exact key hR
  ·simp only [e,if_false];exact key (h.row r (by omega))
 ·by_cases e:r=q
  ·simp only [e,if_true];exact hcq
  ·simp only [e,if_false];exact h.cap r (by omega)
 ·by_cases e:r=q
  ·simp only [e,if_true];exact(hv c hc).grown hg (hof c hc)
  ·simp only [e,if_false];exact(h.val r (by omega) c hc).grown hg (h.off r (by omega) c hc)
 ·by_cases e:r=q
  ·simp only [e,if_true];exact offk (hv c hc) (hof c hc)
  ·simp only [e,if_false];exact offk (h.val r (by omega) c hc) (h.off r (by omega) c hc)
theorem RowsO.mat (h:RowsO w B q N vr g cp V M):∃a cap,vr=.slice a q cap∧MatR w a cap q N V M:=by
 rcases h.own.2 with⟨rfl,rfl⟩ | ⟨R,rc,cur,rfl,hb,hg,h1,h2,h3,h4⟩
 ·exact⟨none,0,rfl,by omega,by omega,fun _=>rfl,fun A hA=>(by cases hA)⟩
 ·refine⟨_,rc,rfl,h1,by unfold maxLen at h2;exact h2,fun e=>(by cases e),fun A hA r hr=>?_⟩
  cases hA
  refine⟨rfl,some ⟨g r,0,none⟩,cp r,?_,(h.cap r hr).1,(h.cap r hr).2,fun e=>(by cases e),fun A hA c hc=>?_,fun c hc=>h.val r hr c hc⟩
  ·have e1:((List.range q).map fun r=>Value.slice (some ⟨g r,0,none⟩) N (cp r))[r]? =some (.slice (some ⟨g r,0,none⟩) N (cp r)):=by
    rw [List.getElem?_map,List.getElem?_range hr];rfl
   have:=World.ownsRow.cellAt h.own r (by omega)
   rw [e1] at this
   simpa using this
  ·cases hA
   obtain⟨c0,c1,c2,c3⟩:=(h.row r hr).cells hc
   simp only [Nat.zero_add]
   exact⟨trivial,c0,c1,c2,c3⟩
end
def augA (A:List (List RatA)) (L:List RatA):Mx:=fun r c=>if c<widA A then mxA A r c else valA (L.getD r noA)
def FewS (A:List (List RatA)):Prop:=2 ^ widA A* (30* (A.length* (widA A+1))+62)≤40920
def solOk (A:List (List RatA)) (L:List RatA):Bool:=decide (vecE A L A.length=0) && okB A.length (widA A) (elimX A.length (augA A L) (widA A))
def solN (A:List (List RatA)) (L:List RatA):Nat:=if solOk A L then widA A else 0
def solF (A:List (List RatA)) (L:List RatA):Nat→Rat:=solX (widA A) (elimX A.length (augA A L) (widA A))
def SolveP (A:List (List RatA)) (L:List RatA) (w:World) (e:Ending) (w':World):Prop:=
 ∃ (a:Option Addr) (cap:Nat) (V:Nat→RatC),e=.returned (.tuple #[.slice a (solN A L) cap,.bool (solOk A L),.int .i64 (vecE A L A.length)])∧RowR w' a cap (solN A L) V (solF A L)∧Ext w w'
theorem vecE_0 {A:List (List RatA)} {L:List RatA} {n:Int} (h:vecE A L n=0):chkE A=0∧(L.length:Int)=n∧elsE L=0:=by
 unfold vecE at h
 by_cases h1:chkE A≠0
 ·rw [if_pos h1] at h;exact absurd h h1
 ·rw [if_neg h1] at h
  by_cases h2:(L.length:Int)≠n
  ·rw [if_pos h2] at h;exact absurd h (by decide)
  ·rw [if_neg h2] at h
   exact⟨Classical.not_not.1 h1,Classical.not_not.1 h2,h⟩
theorem els_mem {L:List RatA} (h:elsE L=0) {r:Nat} (hr:r<L.length):errX (L.getD r noA)=0:=by
 rw [List.getD_eq_getElem?_getD,List.getElem?_eq_getElem hr]
 exact elsE_0 h _ (List.getElem_mem hr)
theorem aug_cd {A:List (List RatA)} {L:List RatA} (h:vecE A L A.length=0):CdX A.length (widA A+1) (30* (A.length* (widA A+1))+61) (augA A L):=cd_of fun r hr c hc=>by
 obtain⟨h1,h2,h3⟩:=vecE_0 h
 unfold augA
 by_cases e:c<widA A
 ·rw [if_pos e];exact err_valA (chk_mat h1 hr e).2
 ·rw [if_neg e];exact err_valA (els_mem h3 (by omega))
theorem MatR.congr {w:World} {a:Option Addr} {cap m N:Nat} {V:Nat→Nat→RatC} {M M':Mx} (h:MatR w a cap m N V M) (k:∀r,r<m→∀c,c<N→M r c=M' r c):MatR w a cap m N V M':=
 ⟨h.le,h.mx,h.nil,fun A hA r hr=>by
  obtain⟨h0,a',c',h1,h2⟩:=h.cells A hA r hr
  exact⟨h0,a',c',h1,h2.le,h2.mx,h2.nil,h2.cells,fun c hc=>by rw [←k r hr c hc];exact h2.val c hc⟩⟩
theorem RowR.nilN {w:World} {a:Option Addr} {cap N:Nat} {V:Nat→RatC} {f:Nat→Rat} (h:RowR w a cap N V f):a=none→N=0∧N=0:=fun e=>by have:=h.nil e;have:=h.le;omega
theorem ext_of_grown {w w':World} (h:w.grownBy w' none):Ext w w':=⟨h.os,h.tape,h.output,h.size,fun k hk=>h.block k hk (by simp)⟩
theorem grow_form {w:World} {B:Nat} {t:TypeId} {k n:Nat} {v:Value} {xs:List Value} (h:w.ownsRow B t k v (n+1) xs):∃g cap,v=.slice (some ⟨g,0,none⟩) (n+1) cap∧B≤g∧n+1≤cap∧cap≤9223372036854775807:=by
 rcases h.2 with⟨_,h0⟩ | ⟨g,cap,cur,rfl,hb,_,h1,h2,_⟩
 ·omega
 ·exact⟨g,cap,rfl,hb,h1,by unfold maxLen at h2;exact h2⟩
theorem four_news {w:World} {b:Nat} {v0 v1 v2 v3:Value} {t:TypeId} (h:Blk w b #[v0,v1,v2,v3] t):∀ (j:Nat) (u:Value),[v0,v1,v2,v3][j]? =some u→w.cell? ((⟨b,0,none⟩:Addr).add j)=some u:=fun j u hu=>by
 rw [Addr.add_off,Nat.zero_add]
 exact h.cell (by simpa using hu)
theorem four_one (n n2:Bool) (a b:Option Addr) (q c k d:Nat):∀u∈[Value.bool n,.slice a q c,.bool n2,.slice b k d],u.oneCell'=true:=fun u hu=>by
 simp only [List.mem_cons,List.not_mem_nil,or_false] at hu
 rcases hu with rfl | rfl | rfl | rfl <;> rfl
def snocU (N:Nat) (V:Nat→RatC) (x:RatC):Nat→RatC:=fun c=>if c<N then V c else x
theorem rowB_more {w:World} {B g cap N:Nat} {V:Nat→RatC} {x:RatC} (h:w.ownsRow B 44 4 (.slice (some ⟨g,0,none⟩) (N+1) cap) (N+1) (newsU N V ++ [.bool x.n,.slice x.a x.q x.c,.bool x.m,.slice x.b x.k x.d])):RowB w g (N+1) (snocU N V x):=by
 have e:newsU (N+1) (snocU N V x)=newsU N V ++ [.bool x.n,.slice x.a x.q x.c,.bool x.m,.slice x.b x.k x.d]:=by
  rw [newsU_succ]
  congr 1
  ·unfold newsU
   simp only [List.flatMap_def]
   congr 1
   refine List.map_congr_left fun c hc=>?_
   unfold snocU
   rw [if_pos (List.mem_range.1 hc)]
  ·unfold snocU
   rw [if_neg (by omega)]
   rfl
 rw [←e] at h
 exact rowB_of_own (by simpa using h)
theorem old_off {w:World} {x:RatC} {r:Rat} {o:Option Nat} (h:RatV w x.val r) (ho:∀g,o=some g→w.heap.size≤g):x.Off o:=
 ⟨fun hq A hA e=>by have:=h.num.lt hq A hA;have:=ho _ e;omega,fun hq A hA e=>by have:=h.den.lt hq A hA;have:=ho _ e;omega⟩
set_option maxHeartbeats 16000000 in
theorem matrix_Solve (a:Option Addr) (cap:Nat) (A:List (List RatA)) (s:Option Addr) (sc:Nat) (L:List RatA) (w:World) (h:RRows w a cap A) (k:RatsI w s sc L) (hL:L.length≤1000) (hf:vecE A L A.length=0→FewS A):
 Calls Tryz.prog 11 #[.slice a A.length cap,.slice s L.length sc] w (SolveP A L w):=by
 have hle:=h.le
 have hmx:=h.mx
 have sle:=k.le
 have smx:=k.mx
 have HH:=Lib.hid h
 have HK:=Lib.hid k
 clear h k
 have HV:=Lib.hid (matrix_vector a cap A s sc L A.length w HH.out HK.out hL)
 by_cases hz:vecE A L A.length=0
 ·have hfew:=hf hz
  obtain⟨z1,z2,z3⟩:=vecE_0 hz
  have hc:=chkE_0 z1
  have HCD:=Lib.hid (aug_cd hz)
  have HR:=Lib.hid (fun W (k:Ext w W)=>chk_read z1 (RRows.ext k HH.out))
  have HZ1:=Lib.hid z1
  have HZ3:=Lib.hid z3
  have h17:A.length≤17:=hc.1
  have hw17:widA A≤17:=by
   by_cases h0:A.length=0
   ·rw [List.eq_nil_of_length_eq_zero h0];decide
   ·have:=hc.2.1 _ (mem_of_lt (show 0<A.length by omega));exact this
  have HF:Hid (2 ^ widA A* (30* (A.length* (widA A+1))+61+1)≤40920):=Lib.hid hfew
  have HLL:Hid (L.length=A.length):=Lib.hid (by omega)
  have HSO:Hid (solOk A L=okB A.length (widA A) (elimX A.length (augA A L) (widA A))):=Lib.hid (by unfold solOk;rw [decide_eq_true hz];rfl)
  have HVZ:=Lib.hid hz
  rw [hz] at HV
  clear hc hfew hf hz z1 z2 z3
  obtain⟨i0,hi0,hz0,hz1,hz2⟩:=info_parts infoRatU
  go_enter Tryz.func11,Tryz.ntmps11
  go_wp2_with fail
  refine HV.out.mono ?_
  rintro e x1 ⟨rfl,hy⟩
  have HX:=Lib.hid hy
  clear hy HV
  have HX1:=HX
  go_wp2_with fail
  go_loopw [7,20] (fun s7 v wr=>∃q:Nat,q≤A.length∧v=.int .i64 q∧∃g cp V M,RowsO wr x1.heap.size q (widA A+1) s7 g cp V M∧(∀r,r<q→∀c,c<widA A+1→M r c=augA A L r c)∧Ext x1 wr) (fun _ v _=>A.length - (intOf v).toNat)
  case atStart=>exact⟨0,Nat.zero_le _,rfl,fun _=>0,fun _=>0,fun _ _=>⟨false,none,0,0,false,none,0,0⟩,fun _ _=>0,RowsO.nil _ _ _ _ _ _ _,fun r hr=>by omega,Ext.refl _⟩
  case round=>
   obtain⟨q,hq,rfl,g,cp,V,M,hro,hmq,hxr⟩:=hrel
   have q0:(0:Int)≤(q:Int):=by omega
   obtain⟨av,cv,rfl⟩:=row_form hro.own
   by_cases hqm:q<A.length
   ·have q1:(q:Int)< (A.length:Int):=by omega
    have qL:(q:Int)< (L.length:Int):=by have:=HLL.out;omega
    have hw1:IntKind.i64.wrap ((q:Int)+1)= (q:Int)+1:=IntWalk.i64_in _ (by omega)
    have hR1:=HR.out x1 HX.out
    obtain⟨b,o,rfl⟩:=hR1.head hqm
    obtain⟨_,ar,cr,h1,hrw⟩:=hR1.cells _ rfl q hqm
    dsimp only at h1
    have e0:=cell_exQ hxr h1
    have hqL:q<L.length:=by have:=HLL.out;omega
    obtain⟨bs,os,rfl⟩:=HK.out.head hqL
    obtain⟨n,ad,c,l,n2,b',dd,mm,hLq,c0,c1,c2,c3,hI,hJ⟩:=(HK.out.ext HX.out).get hqL
    have hLg:L.getD q noA= ⟨n,ad,c,l,n2,b',dd,mm⟩:=by rw [List.getD_eq_getElem?_getD,hLq];rfl
    have hav:∀c',c'<widA A+1→RatV x1 (snocU (widA A) (vxA A q) ⟨n,ad,l.length,c,n2,b',mm.length,dd⟩ c').val (augA A L q c'):=fun c' hc'=>by
     unfold snocU augA
     by_cases e:c'<widA A
     ·rw [if_pos e,if_pos e];exact hrw.val c' e
     ·rw [if_neg e,if_neg e,hLg]
      have:=els_mem HZ3.out hqL
      rw [hLg] at this
      exact(ok_valA (errX_0 this).1).1 x1 ⟨hI,hJ⟩
    have HAV:=Lib.hid hav
    have HRW:=Lib.hid (hrw.ext hxr)
    have hrle:=hrw.le
    have hrmx:=hrw.mx
    have HRO:=Lib.hid hro
    have HE:=Lib.hid hxr
    have HMQ:=Lib.hid hmq
    have s0c:=Lib.hid (fun(W:World) (k:Ext x1 W)=>And.intro (cell_exQ k c0) (And.intro (cell_exQ k c1) (And.intro (cell_exQ k c2) (cell_exQ k c3))))
    clear hR1 h1 hrw hLq c0 c1 c2 c3 hI hJ hLg hav hro hxr hmq
    go_upto_region 8 with fail
    have hyd:Ext wr (World.drew wr):=(Ext.refl _).drew
    replace HRO:=Lib.hid (HRO.out.ext hyd)
    replace HRW:=Lib.hid (HRW.out.ext hyd)
    replace HE:=Lib.hid (Ext.trans HE.out hyd)
    obtain⟨s0,s1,s2,s3⟩:=s0c.out _ HE.out
    clear hyd e0
    refine wp_region_held_drew (S:=(fun w'=>World.cell? w' ⟨bs,os+q*4,none⟩=some (.bool n)∧World.cell? w' ⟨bs,os+q*4+1,none⟩=some (.slice ad l.length c)∧World.cell? w' ⟨bs,os+q*4+2,none⟩=some (.bool n2)∧World.cell? w' ⟨bs,os+q*4+3,none⟩=some (.slice b' mm.length dd))) (by kernel_rfl) ?_ (fun hHeld=>?_)
    ·exact⟨s0,s1,s2,s3⟩
    (try simp only [pur,Nat.reduceAdd])
    generalize World.drew wr=x3 at *
    refine tk (v:=?_) 0 rfl (by kernel_rfl) (fun _ _ _ h=>h) (by rfl) ?_ (by assumption) ?_
    rotate_left
    ·(intro w hSw;(try dsimp only at hSw);(try go_simp);(try with_reducible rfl))
    (try simp only [Act.put,pus])
    refine tk (v:=?_) 1 rfl (by kernel_rfl) (fun _ _ _ h=>h) (by rfl) ?_ (by assumption) ?_
    rotate_left
    ·(intro w hSw;(try dsimp only at hSw);(try go_simp);(try with_reducible rfl))
    (try simp only [Act.put,pus])
    refine tk (v:=?_) 2 rfl (by kernel_rfl) (fun _ _ _ h=>h) (by rfl) ?_ (by assumption) ?_
    rotate_left
    ·(intro w hSw;(try dsimp only at hSw);(try go_simp);(try with_reducible rfl))
    (try simp only [Act.put,pus])
    refine tk (v:=?_) 3 rfl (by kernel_rfl) (fun _ _ _ h=>h) (by rfl) ?_ (by assumption) ?_
    rotate_left
    ·(intro w hSw;(try dsimp only at hSw);(try go_simp);(try with_reducible rfl))
    (try simp only [Act.put,pus])
    refine tk (v:=?_) 4 rfl (by kernel_rfl) (fun _ _ _ h=>h) (by rfl) ?_ (by assumption) ?_
    rotate_left
    ·(intro w hSw;(try dsimp only at hSw);(try go_simp);(try with_reducible rfl))
    (try simp only [Act.put,pus])
    refine tk (v:=?_) 5 rfl (by kernel_rfl) (fun _ _ _ h=>h) (by rfl) ?_ (by assumption) ?_
    rotate_left
    ·(intro w hSw;(try dsimp only at hSw);(try go_simp);(try with_reducible rfl))
    (try simp only [Act.put,pus])
    refine tk (v:=?_) 6 rfl (by kernel_rfl) (fun _ _ _ h=>h) (by rfl) ?_ (by assumption) ?_
    rotate_left
    ·(intro w hSw;(try dsimp only at hSw);(try go_simp);(try with_reducible rfl))
    (try simp only [Act.put,pus])
    refine tk (v:=?_) 7 rfl (by kernel_rfl) (fun _ _ _ h=>h) (by rfl) ?_ (by assumption) ?_
    rotate_left
    ·(intro w hSw;(try dsimp only at hSw);(try go_simp);(try with_reducible rfl))
    (try simp only [Act.put,pus])
    refine tk (v:=?_) 8 rfl (by kernel_rfl) (fun _ _ _ h=>h) (by rfl) ?_ (by assumption) ?_
    rotate_left
    ·(intro w hSw;(try dsimp only at hSw);(try go_simp);(try with_reducible rfl))
    (try simp only [Act.put,pus])
    refine tk (v:=?_) 9 rfl (by kernel_rfl) (fun _ _ _ h=>h) (by rfl) ?_ (by assumption) ?_
    rotate_left
    ·(intro w hSw;(try dsimp only at hSw);(try go_simp);(try with_reducible rfl))
    (try simp only [Act.put,pus])
    refine tk (v:=?_) 10 rfl (by kernel_rfl) (fun _ _ _ h=>h) (by rfl) ?_ (by assumption) ?_
    rotate_left
    ·(intro w hSw;(try dsimp only at hSw);(try go_simp);(try with_reducible rfl))
    (try simp only [Act.put,pus])
    refine wpAnyH_ready (rs:=[11]) (by kernel_rfl) (by simp) ?_
    refine AllReadyH.cons (o:=_) rfl (fun K hK=>?_) ?_
    ·go_simp
     have hy:=Ext.alloc x3 (.cells #[.bool n,.slice ad l.length c,.bool n2,.slice b' mm.length dd] 44);replace HRO:=Lib.hid (HRO.out.ext hy);replace HE:=Lib.hid (Ext.trans HE.out hy);replace HRW:=Lib.hid (HRW.out.ext hy);have K1:=Lib.hid (Blk.new0 x3 #[.bool n,.slice ad l.length c,.bool n2,.slice b' mm.length dd] 44);replace s0:=cell_exQ hy s0;replace s1:=cell_exQ hy s1;replace s2:=cell_exQ hy s2;replace s3:=cell_exQ hy s3;clear hy;generalize World.alloc x3 (.cells #[.bool n,.slice ad l.length c,.bool n2,.slice b' mm.length dd] 44)=x4 at *;generalize Array.size (World.heap x3)=b4 at *
     refine hK.out _ _ ?_ (fun hHeld2=>?_)
     ·exact⟨s0,s1,s2,s3⟩
     clear hK K hHeld
     have hHeld:=hHeld2
     clear hHeld2
     (try simp only [Act.put,pus])
     refine wpAnyH_ready (rs:=[12]) (by kernel_rfl) (by simp) ?_
     refine AllReadyH.cons (o:=_) rfl (fun K hK=>?_) ?_
     ·refine step_append_grows rfl (.tmp 31) (.tmp 36) 23 rfl 44 i0 (.agg #[.bool false,.slice none 0 0,.bool false,.slice none 0 0]) 4 64 Tryz.underlying23 hi0 hz0 hz1 hz2 rfl (by decide) ar (widA A) (widA A) (newsU (widA A) (vxA A q)) rfl HRW.out.nilN (newsU_len _ _) (fun A' hA=>by cases hA;exact HRW.out.news) ⟨b4,0,none⟩ 1 1 [.bool n,.slice ad l.length c,.bool n2,.slice b' mm.length dd] rfl rfl (four_news K1.out) (four_one _ _ _ _ _ _ _ _) (by omega) (by unfold maxLen;omega) (by omega) ?_;intro v5 x5 ho hg;obtain⟨gq,cq,rfl,hgq,hcq,hcm⟩:=grow_form ho;have HR5:=Lib.hid (rowB_more (x:=⟨n,ad,l.length,c,n2,b',mm.length,dd⟩) ho);have hy:Ext x4 x5:=ext_of_grown hg;replace HRO:=Lib.hid (HRO.out.ext hy);replace HE:=Lib.hid (Ext.trans HE.out hy);replace s0:=cell_exQ hy s0;replace s1:=cell_exQ hy s1;replace s2:=cell_exQ hy s2;replace s3:=cell_exQ hy s3;have HCQ:=Lib.hid (And.intro hcq hcm);clear ho hg hy hgq hcq hcm K1 HRW
      refine hK.out _ _ ?_ (fun hHeld2=>?_)
      ·exact⟨s0,s1,s2,s3⟩
      clear hK K hHeld
      have hHeld:=hHeld2
      clear hHeld2
      (try simp only [Act.put,pus])
      refine wpAnyH_ready (rs:=[13]) (by kernel_rfl) (by simp) ?_
      refine AllReadyH.cons (o:=_) rfl (fun K hK=>?_) ?_
      ·go_simp
       have hy:=Ext.alloc x5 (.cells #[.slice (some ⟨gq,0,none⟩) (widA A+1) cq] 23);replace HRO:=Lib.hid (HRO.out.ext hy);replace HE:=Lib.hid (Ext.trans HE.out hy);replace HR5:=Lib.hid (HR5.out.ext hy);have K2:=Lib.hid (Blk.new0 x5 #[.slice (some ⟨gq,0,none⟩) (widA A+1) cq] 23);replace s0:=cell_exQ hy s0;replace s1:=cell_exQ hy s1;replace s2:=cell_exQ hy s2;replace s3:=cell_exQ hy s3;clear hy;generalize World.alloc x5 (.cells #[.slice (some ⟨gq,0,none⟩) (widA A+1) cq] 23)=x6 at *;generalize Array.size (World.heap x5)=b6 at *
       refine hK.out _ _ ?_ (fun hHeld2=>?_)
       ·exact⟨s0,s1,s2,s3⟩
       clear hK K hHeld
       have hHeld:=hHeld2
       clear hHeld2
       (try simp only [Act.put,pus])
       refine wpAnyH_ready (rs:=[14]) (by kernel_rfl) (by simp) ?_
       refine AllReadyH.cons (o:=_) rfl (fun K hK=>?_) ?_
       ·refine step_append_row rfl (.tmp 25) (.tmp 38) 22 23 rfl (z:=.slice none 0 0) (k:=1) (by_:=24) Tryz.underlying22 infoRowU rfl (by decide) (B:=x1.heap.size) HE.out.size rfl HRO.out.own rfl (fun e=>by cases e) (news:=[.slice (some ⟨gq,0,none⟩) (widA A+1) cq]) rfl (fun A' hA j u hu=>by cases hA;exact one_news K2.out hu) (fun u hu=>by rw [List.mem_singleton.1 hu];rfl) (by omega) (by omega) ?_;intro v9 x9 ho hg hnl hat;obtain⟨a9,c9,rfl⟩:=row_form ho;have hy:Ext x1 x9:=Below.grown HE.out hg HE.out.size (fun r e=>(World.ownsRow.lt HRO.out.own r e).1);have HR9:=Lib.hid (HRO.out.push ho hg hat HR5.out (fun c' hc'=>(HAV.out c' hc').ext HE.out) (fun c' hc'=>old_off (HAV.out c' hc') (fun g' e=>(World.ownsRow.lt HRO.out.own g' e).1)) HCQ.out);have s0':=s0c.out _ hy;obtain⟨t0,t1,t2,t3⟩:=s0';replace s0:=t0;replace s1:=t1;replace s2:=t2;replace s3:=t3;replace HE:=Lib.hid hy;clear ho hg hnl hat hy t0 t1 t2 t3 HRO HR5 K2
        refine hK.out _ _ ?_ (fun hHeld2=>?_)
        ·exact⟨s0,s1,s2,s3⟩
        clear hK K hHeld
        have hHeld:=hHeld2
        clear hHeld2
        (try simp only [Act.put,pus])
        refine tk (v:=?_) 15 rfl (by kernel_rfl) (fun _ _ _ h=>h) (by rfl) ?_ (by assumption) ?_
        rotate_left
        ·(intro w hSw;(try dsimp only at hSw);(try go_simp);(try with_reducible rfl))
        (try simp only [Act.put,pus])
        refine wpAnyH_done (by kernel_rfl) ?_ _
        go_wp2_with fail
        go_roundw
        case rel=>exact⟨q+1,by omega,by go_num,_,_,_,_,HR9.out,fun r hr c' hc'=>(if e:r=q then(by rw [if_pos e,e]) else(by rw [if_neg e];exact HMQ.out r (by omega) c' hc')),HE.out⟩
        case measure=>simp [intOf];omega
       exact AllReadyH.nil
      exact AllReadyH.nil
     exact AllReadyH.nil
    exact AllReadyH.nil
   ·have q1:¬ (q:Int)< (A.length:Int):=by omega
    have hqe:q=A.length:=by omega
    subst hqe
    obtain⟨ra,rc,e9,hmat⟩:=hro.mat
    simp only [Value.slice.injEq,true_and] at e9
    obtain⟨rfl,rfl⟩:=e9
    have HM:=Lib.hid (hmat.congr hmq)
    have HX2:=Lib.hid (HX.out.trans hxr)
    have hrle:=hmat.le
    have hrmx:=hmat.mx
    clear hro hmat hmq hxr
    go_wp2_with fail
    refine(matrix_width a cap A.length (widA A) wr (HR.out wr HX2.out).wid).mono ?_
    rintro e x2 ⟨rfl,rfl⟩
    rw [wid_if]
    go_wp2_with fail
    refine(matrix_solve av cv A.length (widA A) V (augA A L) (30* (A.length* (widA A+1))+61) wr HM.out HCD.out (by omega) (by omega) HF.out).mono ?_
    rintro e x3 ⟨a3,c3,V3,rfl,hr3,hy⟩
    have HP:Hid (SolveP A L w (.returned (.tuple #[.slice a3 (if okB A.length (widA A) (elimX A.length (augA A L) (widA A)) then widA A else 0) c3,.bool (okB A.length (widA A) (elimX A.length (augA A L) (widA A))),.int .i64 0])) x3):=Lib.hid ⟨a3,c3,V3,by unfold solN;rw [HSO.out,HVZ.out],by unfold solN;rw [HSO.out];exact hr3,HX2.out.trans hy⟩
    clear hr3 hy
    generalize okB A.length (widA A) (elimX A.length (augA A L) (widA A))=ok at *
    cases ok
    ·rw [if_neg (by decide)] at HP ⊢
     go_wp2_with fail
     go_ret3
     exact HP.out
    ·rw [if_pos rfl] at HP ⊢
     go_wp2_with fail
     go_ret3
     exact HP.out
 ·have g1:(vecE A L A.length != 0)=true:=by simp [hz]
  have HSO:Hid (solOk A L=false):=Lib.hid (by unfold solOk;rw [decide_eq_false hz];rfl)
  go_enter Tryz.func11,Tryz.ntmps11
  go_wp2_with fail
  refine HV.out.mono ?_
  rintro e x1 ⟨rfl,hy⟩
  have HP:Hid (SolveP A L w (.returned (.tuple #[.slice none 0 0,.bool false,.int .i64 (vecE A L A.length)])) x1):=Lib.hid ⟨none,0,fun _=>⟨false,none,0,0,false,none,0,0⟩,by unfold solN;rw [HSO.out];rfl,by unfold solN;rw [HSO.out];exact RowR.nil' _ _ _,hy⟩
  clear hy hz hf
  go_wp2_with fail
  go_ret3
  exact HP.out
end Go.Proofs.YtokffagbdfhnnaaGreat
