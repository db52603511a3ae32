import Derived.Test.YtonkhcdmchidjaaGreatU7
import Derived.Deep.RegionLawGrows
namespace Go.Proofs.YtonkhcdmchidjaaGreat
open Go.RowKit Go BigFrame Go.Shelf
set_option maxRecDepth 100000
set_option linter.all false
attribute [local go_sem] Oper.semAt_some
def zFk (x:RatA):Rat:=Rat.divInt (sgn x.n (zA1 x.l)) (sgn x.n2 (zA1 x.m))
abbrev noA:RatA:=⟨false,none,0,[],false,none,0,[]⟩
def mxA (A:List (List RatA)):Mx:=fun r c=>zFk ((A.getD r []).getD c noA)
def vxA (A:List (List RatA)):Nat→Nat→RatC:=fun r c=>let x:=(A.getD r []).getD c noA;⟨x.n,x.a,x.l.length,x.c,x.n2,x.b,x.m.length,x.d⟩
def zB8 (A:List (List RatA)):Nat:=(A.getD 0 []).length
theorem zJR {x:RatA} (h:zGw x=0):x.ok=true∧smX x=true:=by
 unfold zGw at h;by_cases h1:x.ok=true
 ·rw [if_pos h1] at h;by_cases h2:smX x=true
  ·exact⟨h1,h2⟩
  ·rw [if_neg h2] at h;exact absurd h (by decide)
 ·rw [if_neg h1] at h;exact absurd h (by decide)
theorem zJS:∀{L:List RatA},zDh L=0→∀x∈L,zGw x=0
 | y :: L,h,x,hx=>by
  unfold zDh at h;by_cases e:zGw y=0
  ·rw [if_pos e] at h;rcases List.mem_cons.1 hx with rfl | hx
   ·exact e
   ·exact zJS h x hx
  ·rw [if_neg e] at h;exact absurd h e
theorem zJT:∀{A:List (List RatA)},zDO A=0→∀L∈A,zDh L=0
 | K :: A,h,L,hL=>by
  unfold zDO at h;by_cases e:zDh K=0
  ·rw [if_pos e] at h;rcases List.mem_cons.1 hL with rfl | hL
   ·exact e
   ·exact zJT h L hL
  ·rw [if_neg e] at h;exact absurd h e
theorem zJU {A:List (List RatA)} (h:zE3 A=0):A.length≤17∧(∀L∈A,L.length≤17)∧(∀L∈A,L.length=zB8 A)∧∀L∈A,∀x∈L,zGw x=0:=by
 unfold zE3 at h;by_cases h0:17<A.length
 ·rw [if_pos h0] at h;exact absurd h (by decide)
 ·rw [if_neg h0] at h;by_cases h1:A.any (fun L=>decide (17<L.length))=true
  ·rw [if_pos h1] at h;exact absurd h (by decide)
  ·rw [if_neg h1] at h;by_cases h2:A.any (fun L=>decide (L.length≠(A.getD 0 []).length))=true
   ·rw [if_pos h2] at h;exact absurd h (by decide)
   ·rw [if_neg h2] at h;refine⟨by omega,fun L hL=>Classical.byContradiction fun hc=>h1 (List.any_eq_true.2 ⟨L,hL,decide_eq_true (by omega)⟩),fun L hL=>Classical.byContradiction fun hc=>h2 (List.any_eq_true.2 ⟨L,hL,decide_eq_true hc⟩),fun L hL=>zJS (zJT h L hL)⟩
theorem zCt {x:RatA} (h:x.ok=true):(∀w,RatI w x→RatV w x.val (zFk x))∧(zFk x).num=sgn x.n (zA1 x.l)∧((zFk x).den:Int)=sgn x.n2 (zA1 x.m):=by
 obtain⟨r,h1,h2,_⟩:=zJH h;have e1:r.num=sgn x.n (zA1 x.l):=by rw [h1.2.2];rfl
 have e2:(r.den:Int)=sgn x.n2 (zA1 x.m):=by rw [h2.2.2];rfl
 have e:zFk x=r:=by unfold zFk;rw [←e1,←e2];exact Rat.num_divInt_den r
 rw [e];exact⟨fun w hi=>zNJ hi.i hi.j h1 h2,e1,e2⟩
theorem zIl {x:RatA} (h:zGw x=0):(zFk x).num.natAbs<2 ^ 60∧(zFk x).den<2 ^ 30:=by
 obtain⟨h1,h2⟩:=zJR h;obtain⟨_,e1,e2⟩:=zCt h1;unfold smX at h2;simp only [Bool.and_eq_true,decide_eq_true_eq] at h2;rw [←e1,←e2] at h2;rw [show(2:Nat) ^ 60=1152921504606846976 from by decide,show(2:Nat) ^ 30=1073741824 from by decide];omega
theorem zIm:∀{L:List Rat},(∀x∈L,x.den<2 ^ 30)→∃D,0<D∧D≤2 ^ (30*L.length)∧∀x∈L,x.den∣D
 | [],_=>⟨1,by omega,by simp,fun x hx=>by cases hx⟩
 | y :: L,h=>by
  obtain⟨D,h0,h1,h2⟩:=zIm (L:=L) fun x hx=>h x (List.mem_cons_of_mem _ hx);have hy:=h y (by simp);refine⟨y.den*D,Nat.mul_pos y.den_pos h0,?_,fun x hx=>?_⟩
  ·rw [List.length_cons,Nat.mul_add,Nat.add_comm,Nat.pow_add];exact Nat.mul_le_mul (by omega) h1
  ·rcases List.mem_cons.1 hx with rfl | hx
   ·exact Nat.dvd_mul_right _ _
   ·exact Nat.dvd_trans (h2 x hx) (Nat.dvd_mul_left _ _)
theorem cd_of {m N:Nat} {M:Mx} (h:∀r,r<m→∀c,c<N→(M r c).num.natAbs<2 ^ 60∧(M r c).den<2 ^ 30):CdX m N (30* (m*N)+61) M:=by
 obtain⟨D,h0,h1,h2⟩:=zIm (L:=(List.range m).flatMap fun r=>(List.range N).map fun c=>M r c) fun x hx=>by
  obtain⟨r,hr,hx⟩:=List.mem_flatMap.1 hx;obtain⟨c,hc,rfl⟩:=List.mem_map.1 hx;exact(h r (List.mem_range.1 hr) c (List.mem_range.1 hc)).2
 have hl:((List.range m).flatMap fun r=>(List.range N).map fun c=>M r c).length=m*N:=by
  have key:∀m:Nat,((List.range m).map fun _=>N).sum=m*N:=fun m=>by
   induction m with
   | zero=>simp
   | succ m ih=>rw [List.range_succ,List.map_append,List.sum_append,ih,Nat.succ_mul];simp
  rw [List.length_flatMap];simp only [List.length_map,List.length_range];exact key m
 rw [hl] at h1;have hp:2 ^ (30* (m*N))<2 ^ (30* (m*N)+61):=Nat.pow_lt_pow_right (by omega) (by omega);refine⟨D,h0,by omega,fun r hr c hc=>?_⟩;obtain⟨k,hk⟩:=h2 (M r c) (List.mem_flatMap.2 ⟨r,List.mem_range.2 hr,List.mem_map.2 ⟨c,List.mem_range.2 hc,rfl⟩⟩);obtain⟨g1,g2⟩:=h r hr c hc;have hkD:k≤D:=by
  rw [hk];exact Nat.le_mul_of_pos_left k (M r c).den_pos
 refine⟨(M r c).num* (k:Int),?_,?_⟩
 ·rw [Int.natAbs_mul,Int.natAbs_natCast,show 30* (m*N)+61=60+ (30* (m*N)+1) by omega,Nat.pow_add];refine Nat.mul_lt_mul'' g1 ?_;rw [Nat.pow_succ];have:0<2 ^ (30* (m*N)):=Nat.pow_pos (by omega);omega
 ·have hkz:(k:Rat)≠0:=by
   intro e;have:k=0:=by exact_mod_cast e
   rw [this] at hk;omega
  have hdz:((M r c).den:Rat)≠0:=zG6 (M r c).den_pos;have e1:M r c= ((M r c).num:Rat) / ((M r c).den:Rat):=by
   have h9:=Rat.num_divInt_den (M r c);rw [Rat.divInt_eq_div,Rat.intCast_natCast] at h9;exact h9.symm
  have e2:(D:Rat)= ((M r c).den:Rat)* (k:Rat):=by rw [hk];push_cast;rfl
  rw [e2];push_cast;generalize ((M r c).num:Rat)=p at *;generalize ((M r c).den:Rat)=q at *;rw [e1];grind
theorem zH0 {A:List (List RatA)} {r:Nat} (hr:r<A.length):A.getD r []∈A:=by
 rw [List.getD_eq_getElem?_getD,List.getElem?_eq_getElem hr];exact List.getElem_mem hr
theorem zJV {A:List (List RatA)} (h:zE3 A=0) {r c:Nat} (hr:r<A.length) (hc:c<zB8 A):(A.getD r []).getD c noA∈A.getD r []∧zGw ((A.getD r []).getD c noA)=0:=by
 obtain⟨_,_,h3,h4⟩:=zJU h;have hm:=zH0 hr;have hx:(A.getD r []).getD c noA∈A.getD r []:=by
  have hc2:c< (A.getD r []).length:=by rw [h3 _ hm];exact hc
  generalize A.getD r []=L at *;rw [List.getD_eq_getElem?_getD,List.getElem?_eq_getElem hc2];exact List.getElem_mem hc2
 exact⟨hx,h4 _ hm _ hx⟩
theorem zLp {A:List (List RatA)} (h:zE3 A=0) {w:World} {a:Option Addr} {cap:Nat} (hA:RRows w a cap A):MatR w a cap A.length (zB8 A) (vxA A) (mxA A):=by
 obtain⟨_,_,h3,_⟩:=zJU h;refine⟨hA.le,hA.mx,hA.nil,fun B hB r hr=>?_⟩;obtain⟨hs,v,hv,ar,cr,rfl,hR⟩:=hA.cells B hB r hr;have hg:A.getD r []=A[r]:=by rw [List.getD_eq_getElem?_getD,List.getElem?_eq_getElem hr];rfl
 have hl:A[r].length=zB8 A:=h3 _ (List.getElem_mem hr);refine⟨hs,ar,cr,by rw [←hl];exact hv,by rw [←hl];exact hR.le,hR.mx,hR.nil,fun C hC c hc=>?_,fun c hc=>?_⟩
 ·have hc2:c<A[r].length:=by rw [hl];exact hc
  have e:(A.getD r []).getD c noA=A[r][c]:=by rw [hg,List.getD_eq_getElem?_getD,List.getElem?_eq_getElem hc2];rfl
  obtain⟨g0,g1,g2,g3,g4⟩:=hR.cells C hC c hc2;unfold vxA;rw [e];exact⟨g0,g1,g2,g3,g4⟩
 ·have hc2:c<A[r].length:=by rw [hl];exact hc
  have e:(A.getD r []).getD c noA=A[r][c]:=by rw [hg,List.getD_eq_getElem?_getD,List.getElem?_eq_getElem hc2];rfl
  have:=(zJV h hr hc).2;unfold vxA mxA;rw [e] at this ⊢;exact(zCt (zJR this).1).1 w (hR.ints c hc2)
theorem MatR.wid {w:World} {a:Option Addr} {cap m N:Nat} {V:Nat→Nat→RatC} {M:Mx} (h:MatR w a cap m N V M):0<m→∃b o a' c',a=some ⟨b,o,none⟩∧w.cell? ⟨b,o,none⟩=some (.slice a' N c'):=fun hm=>by
 obtain⟨b,o,rfl⟩:=h.head hm;obtain⟨_,a',c',h1,_⟩:=h.cells _ rfl 0 hm;exact⟨b,o,a',c',rfl,by simpa using h1⟩
theorem zNP (A:List (List RatA)):(if A.length=0 then 0 else(zB8 A:Int))= (zB8 A:Int):=by
 by_cases h:A.length=0
 ·rw [if_pos h,List.eq_nil_of_length_eq_zero h];rfl
 ·rw [if_neg h]
def FewX (A:List (List RatA)):Prop:=2 ^ zB8 A* (30* (A.length*zB8 A)+62)≤40920
def rankA (A:List (List RatA)):Int:=if zE3 A=0 then((zAe A.length (mxA A) (zB8 A)).ps.length:Int) else 0
structure RowsO (w:World) (B q N:Nat) (vr:Value) (g cp:Nat→Nat) (V:Nat→Nat→RatC) (M:Mx):Prop where
 own:w.ownsRow B 23 1 vr q ((List.range q).map fun r=>Value.slice (some ⟨g r,0,none⟩) N (cp r))
 row:∀r,r<q→RowB w (g r) N (V r)
 cap:∀r,r<q→N≤cp r∧cp r≤9223372036854775807
 val:∀r,r<q→∀c,c<N→RatV w (V r c).val (M r c)
 off:∀r,r<q→∀c,c<N→(V r c).Off vr.ownBlock
section
variable {w w':World} {B q N:Nat} {vr:Value} {g cp:Nat→Nat} {V:Nat→Nat→RatC} {M:Mx}
theorem RowsO.nil (w:World) (B N:Nat) (g cp:Nat→Nat) (V:Nat→Nat→RatC) (M:Mx):RowsO w B 0 N (.slice none 0 0) g cp V M:=⟨World.ownsRow_nil _ _ _ _,fun r hr=>by omega,fun r hr=>by omega,fun r hr=>by omega,fun r hr=>by omega⟩
theorem RowsO.ext (h:RowsO w B q N vr g cp V M) (k:Ext w w'):RowsO w' B q N vr g cp V M:=⟨zAg h.own k,fun r hr=>(h.row r hr).ext k,h.cap,fun r hr c hc=>(h.val r hr c hc).ext k,h.off⟩
theorem RowsO.push (h:RowsO w B q N vr g cp V M) {vr':Value} {gq cq:Nat} {Vq:Nat→RatC} {f:Nat→Rat} (ho:w'.ownsRow B 23 1 vr' (q+1) (((List.range q).map fun r=>Value.slice (some ⟨g r,0,none⟩) N (cp r)) ++ [.slice (some ⟨gq,0,none⟩) N cq])) (hg:w.grownBy w' vr.ownBlock)
 (hat:vr'.ownBlock=vr.ownBlock∨vr'.ownBlock=some w.heap.size) (hR:RowB w gq N Vq) (hv:∀c,c<N→RatV w (Vq c).val (f c)) (hof:∀c,c<N→(Vq c).Off vr.ownBlock) (hcq:N≤cq∧cq≤9223372036854775807):
 RowsO w' B (q+1) N vr' (fun r=>if r=q then gq else g r) (fun r=>if r=q then cq else cp r) (fun r=>if r=q then Vq else V r) (fun r=>if r=q then f else M r):=by
 have key:∀{x:Nat} {U:Nat→RatC},RowB w x N U→RowB w' x N U:=fun {x U} hx=>by
  obtain⟨cs,k1,k2⟩:=id hx;exact hx.grown hg (zAI h.own k1 (by decide))
 have offk:∀{x:RatC} {r:Rat},RatV w x.val r→x.Off vr.ownBlock→x.Off vr'.ownBlock:=fun {x r} hx ho=>by
  rcases hat with e | e
  ·rw [e];exact ho
  ·rw [e];exact RatV.offNew hx
 refine⟨?_,fun r hr=>?_,fun r hr=>?_,fun r hr c hc=>?_,fun r hr c hc=>?_⟩
 ·rw [List.range_succ,List.map_append,List.map_singleton,if_pos rfl,if_pos rfl]
  rw [List.map_congr_left (g:=fun r=>Value.slice (some ⟨g r,0,none⟩) N (cp r)) fun r hr=>by
   have:=List.mem_range.1 hr
   rw [if_neg (by omega),if_neg (by omega)]]
  exact ho
 ·by_cases e:r=q
  ·simp only [e,if_true];exact key hR
  ·simp only [e,if_false];exact key (h.row r (by omega))
 ·by_cases e:r=q
  ·simp only [e,if_true];exact hcq
  ·simp only [e,if_false];exact h.cap r (by omega)
 ·by_cases e:r=q
  ·simp only [e,if_true];exact(hv c hc).grown hg (hof c hc)
  ·simp only [e,if_false];exact(h.val r (by omega) c hc).grown hg (h.off r (by omega) c hc)
 ·by_cases e:r=q
  ·simp only [e,if_true];exact offk (hv c hc) (hof c hc)
  ·simp only [e,if_false];exact offk (h.val r (by omega) c hc) (h.off r (by omega) c hc)
theorem RowsO.mat (h:RowsO w B q N vr g cp V M):∃a cap,vr=.slice a q cap∧MatR w a cap q N V M:=by
 rcases h.own.2 with⟨rfl,rfl⟩ | ⟨R,rc,cur,rfl,hb,hg,h1,h2,h3,h4⟩
 ·exact⟨none,0,rfl,by omega,by omega,fun _=>rfl,fun A hA=>(by cases hA)⟩
 ·refine⟨_,rc,rfl,h1,by unfold maxLen at h2;exact h2,fun e=>(by cases e),fun A hA r hr=>?_⟩;cases hA
  refine⟨rfl,some ⟨g r,0,none⟩,cp r,?_,(h.cap r hr).1,(h.cap r hr).2,fun e=>(by cases e),fun A hA c hc=>?_,fun c hc=>h.val r hr c hc⟩
  ·have e1:((List.range q).map fun r=>Value.slice (some ⟨g r,0,none⟩) N (cp r))[r]? =some (.slice (some ⟨g r,0,none⟩) N (cp r)):=by
    rw [List.getElem?_map,List.getElem?_range hr];rfl
   have:=World.ownsRow.cellAt h.own r (by omega);rw [e1] at this
   simpa using this
  ·cases hA
   obtain⟨c0,c1,c2,c3⟩:=(h.row r hr).cells hc;simp only [Nat.zero_add];exact⟨trivial,c0,c1,c2,c3⟩
end
def zFl (A:List (List RatA)) (L:List RatA):Mx:=fun r c=>if c<zB8 A then mxA A r c else zFk (L.getD r noA)
def FewS (A:List (List RatA)):Prop:=2 ^ zB8 A* (30* (A.length* (zB8 A+1))+62)≤40920
def zGa (A:List (List RatA)) (L:List RatA):Bool:=decide (zEJ A L A.length=0) && okB A.length (zB8 A) (zAe A.length (zFl A L) (zB8 A))
def zMd (A:List (List RatA)) (L:List RatA):Nat:=if zGa A L then zB8 A else 0
def zNQ (A:List (List RatA)) (L:List RatA):Nat→Rat:=zJo (zB8 A) (zAe A.length (zFl A L) (zB8 A))
def zIn (A:List (List RatA)) (L:List RatA) (w:World) (e:Ending) (w':World):Prop:=
 ∃ (a:Option Addr) (cap:Nat) (V:Nat→RatC),e=.returned (.tuple #[.slice a (zMd A L) cap,.bool (zGa A L),.int .i64 (zEJ A L A.length)])∧RowR w' a cap (zMd A L) V (zNQ A L)∧Ext w w'
theorem zMe {A:List (List RatA)} {L:List RatA} {n:Int} (h:zEJ A L n=0):zE3 A=0∧(L.length:Int)=n∧zDh L=0:=by
 unfold zEJ at h;by_cases h1:zE3 A≠0
 ·rw [if_pos h1] at h;exact absurd h h1
 ·rw [if_neg h1] at h;by_cases h2:(L.length:Int)≠n
  ·rw [if_pos h2] at h;exact absurd h (by decide)
  ·rw [if_neg h2] at h;exact⟨Classical.not_not.1 h1,Classical.not_not.1 h2,h⟩
theorem zJW {L:List RatA} (h:zDh L=0) {r:Nat} (hr:r<L.length):zGw (L.getD r noA)=0:=by
 rw [List.getD_eq_getElem?_getD,List.getElem?_eq_getElem hr];exact zJS h _ (List.getElem_mem hr)
theorem zMf {A:List (List RatA)} {L:List RatA} (h:zEJ A L A.length=0):CdX A.length (zB8 A+1) (30* (A.length* (zB8 A+1))+61) (zFl A L):=cd_of fun r hr c hc=>by
 obtain⟨h1,h2,h3⟩:=zMe h;unfold zFl;by_cases e:c<zB8 A
 ·rw [if_pos e];exact zIl (zJV h1 hr e).2
 ·rw [if_neg e];exact zIl (zJW h3 (by omega))
theorem MatR.congr {w:World} {a:Option Addr} {cap m N:Nat} {V:Nat→Nat→RatC} {M M':Mx} (h:MatR w a cap m N V M) (k:∀r,r<m→∀c,c<N→M r c=M' r c):MatR w a cap m N V M':=
 ⟨h.le,h.mx,h.nil,fun A hA r hr=>by
  obtain⟨h0,a',c',h1,h2⟩:=h.cells A hA r hr
  exact⟨h0,a',c',h1,h2.le,h2.mx,h2.nil,h2.cells,fun c hc=>by rw [←k r hr c hc];exact h2.val c hc⟩⟩
theorem RowR.nilN {w:World} {a:Option Addr} {cap N:Nat} {V:Nat→RatC} {f:Nat→Rat} (h:RowR w a cap N V f):a=none→N=0∧N=0:=fun e=>by have:=h.nil e;have:=h.le;omega
theorem zE4 {w w':World} (h:w.grownBy w' none):Ext w w':=⟨h.os,h.tape,h.output,h.size,fun k hk=>h.block k hk (by simp)⟩
theorem zJX {w:World} {B:Nat} {t:TypeId} {k n:Nat} {v:Value} {xs:List Value} (h:w.ownsRow B t k v (n+1) xs):∃g cap,v=.slice (some ⟨g,0,none⟩) (n+1) cap∧B≤g∧n+1≤cap∧cap≤9223372036854775807:=by
 rcases h.2 with⟨_,h0⟩ | ⟨g,cap,cur,rfl,hb,_,h1,h2,_⟩
 ·omega
 ·exact⟨g,cap,rfl,hb,h1,by unfold maxLen at h2;exact h2⟩
theorem zJY {w:World} {b:Nat} {v0 v1 v2 v3:Value} {t:TypeId} (h:Blk w b #[v0,v1,v2,v3] t):∀ (j:Nat) (u:Value),[v0,v1,v2,v3][j]? =some u→w.cell? ((⟨b,0,none⟩:Addr).add j)=some u:=fun j u hu=>by
 rw [Addr.add_off,Nat.zero_add];exact h.cell (by simpa using hu)
theorem zLq (n n2:Bool) (a b:Option Addr) (q c k d:Nat):∀u∈[Value.bool n,.slice a q c,.bool n2,.slice b k d],u.oneCell'=true:=fun u hu=>by
 simp only [List.mem_cons,List.not_mem_nil,or_false] at hu;rcases hu with rfl | rfl | rfl | rfl <;> rfl
def zJ4 (N:Nat) (V:Nat→RatC) (x:RatC):Nat→RatC:=fun c=>if c<N then V c else x
theorem zJZ {w:World} {B g cap N:Nat} {V:Nat→RatC} {x:RatC} (h:w.ownsRow B 38 4 (.slice (some ⟨g,0,none⟩) (N+1) cap) (N+1) (zC0 N V ++ [.bool x.n,.slice x.a x.q x.c,.bool x.m,.slice x.b x.k x.d])):RowB w g (N+1) (zJ4 N V x):=by
 have e:zC0 (N+1) (zJ4 N V x)=zC0 N V ++ [.bool x.n,.slice x.a x.q x.c,.bool x.m,.slice x.b x.k x.d]:=by
  rw [zDP]
  congr 1
  ·unfold zC0;simp only [List.flatMap_def]
   congr 1
   refine List.map_congr_left fun c hc=>?_;unfold zJ4;rw [if_pos (List.mem_range.1 hc)]
  ·unfold zJ4;rw [if_neg (by omega)];rfl
 rw [←e] at h;exact zEK (by simpa using h)
theorem zMW {w:World} {x:RatC} {r:Rat} {o:Option Nat} (h:RatV w x.val r) (ho:∀g,o=some g→w.heap.size≤g):x.Off o:=
 ⟨fun hq A hA e=>by have:=h.num.lt hq A hA;have:=ho _ e;omega,fun hq A hA e=>by have:=h.den.lt hq A hA;have:=ho _ e;omega⟩
set_option maxHeartbeats 16000000 in
theorem zH1 (a:Option Addr) (cap:Nat) (A:List (List RatA)) (s:Option Addr) (sc:Nat) (L:List RatA) (w:World) (h:RRows w a cap A) (k:RatsI w s sc L) (hL:L.length≤1000) (hf:zEJ A L A.length=0→FewS A):
 Calls Tryz.prog 60 #[.slice a A.length cap,.slice s L.length sc] w (zIn A L w):=by
 have hle:=h.le;have hmx:=h.mx;have sle:=k.le;have smx:=k.mx;have HH:=dH h;have HK:=dH k;clear h k;have HV:=dH (zG9 a cap A s sc L A.length w HH.out HK.out hL);by_cases hz:zEJ A L A.length=0
 ·have hfew:=hf hz;obtain⟨z1,z2,z3⟩:=zMe hz;have hc:=zJU z1;have HCD:=dH (zMf hz);have HR:=dH (fun W (k:Ext w W)=>zLp z1 (RRows.ext k HH.out));have HZ1:=dH z1;have HZ3:=dH z3;have h17:A.length≤17:=hc.1;have hw17:zB8 A≤17:=by
   by_cases h0:A.length=0
   ·rw [List.eq_nil_of_length_eq_zero h0];decide
   ·have:=hc.2.1 _ (zH0 (show 0<A.length by omega));exact this
  have HF:Hid (2 ^ zB8 A* (30* (A.length* (zB8 A+1))+61+1)≤40920):=dH hfew;have HLL:Hid (L.length=A.length):=dH (by omega);have HSO:Hid (zGa A L=okB A.length (zB8 A) (zAe A.length (zFl A L) (zB8 A))):=dH (by unfold zGa;rw [decide_eq_true hz];rfl);have HVZ:=dH hz;rw [hz] at HV;clear hc hfew hf hz z1 z2 z3;obtain⟨i0,hi0,hz0,hz1,hz2⟩:=info_parts zDs;go_enter Tryz.func60,Tryz.ntmps60;go_wp2_with fail;refine HV.out.mono ?_;rintro e x1 ⟨rfl,hy⟩;have HX:=dH hy;clear hy HV;have HX1:=HX;go_wp2_with fail
  go_loopw [7,20] (fun s7 v wr=>∃q:Nat,q≤A.length∧v=.int .i64 q∧∃g cp V M,RowsO wr x1.heap.size q (zB8 A+1) s7 g cp V M∧(∀r,r<q→∀c,c<zB8 A+1→M r c=zFl A L r c)∧Ext x1 wr) (fun _ v _=>A.length - (intOf v).toNat)
  case atStart=>exact⟨0,Nat.zero_le _,rfl,fun _=>0,fun _=>0,fun _ _=>⟨false,none,0,0,false,none,0,0⟩,fun _ _=>0,RowsO.nil _ _ _ _ _ _ _,fun r hr=>by omega,Ext.refl _⟩
  case round=>
   obtain⟨q,hq,rfl,g,cp,V,M,hro,hmq,hxr⟩:=hrel;have q0:(0:Int)≤(q:Int):=by omega
   obtain⟨av,cv,rfl⟩:=zAh hro.own;by_cases hqm:q<A.length
   ·have q1:(q:Int)< (A.length:Int):=by omega
    have qL:(q:Int)< (L.length:Int):=by have:=HLL.out;omega
    have hw1:IntKind.i64.wrap ((q:Int)+1)= (q:Int)+1:=IntWalk.i64_in _ (by omega);have hR1:=HR.out x1 HX.out;obtain⟨b,o,rfl⟩:=hR1.head hqm;obtain⟨_,ar,cr,h1,hrw⟩:=hR1.cells _ rfl q hqm;dsimp only at h1;have e0:=zA0 hxr h1;have hqL:q<L.length:=by have:=HLL.out;omega
    obtain⟨bs,os,rfl⟩:=HK.out.head hqL;obtain⟨n,ad,c,l,n2,b',dd,mm,hLq,c0,c1,c2,c3,hI,hJ⟩:=(HK.out.ext HX.out).get hqL;have hLg:L.getD q noA= ⟨n,ad,c,l,n2,b',dd,mm⟩:=by rw [List.getD_eq_getElem?_getD,hLq];rfl
    have hav:∀c',c'<zB8 A+1→RatV x1 (zJ4 (zB8 A) (vxA A q) ⟨n,ad,l.length,c,n2,b',mm.length,dd⟩ c').val (zFl A L q c'):=fun c' hc'=>by
     unfold zJ4 zFl;by_cases e:c'<zB8 A
     ·rw [if_pos e,if_pos e];exact hrw.val c' e
     ·rw [if_neg e,if_neg e,hLg];have:=zJW HZ3.out hqL;rw [hLg] at this;exact(zCt (zJR this).1).1 x1 ⟨hI,hJ⟩
    have HAV:=dH hav;have HRW:=dH (hrw.ext hxr);have hrle:=hrw.le;have hrmx:=hrw.mx;have HRO:=dH hro;have HE:=dH hxr;have HMQ:=dH hmq;have s0c:=dH (fun(W:World) (k:Ext x1 W)=>And.intro (zA0 k c0) (And.intro (zA0 k c1) (And.intro (zA0 k c2) (zA0 k c3))));clear hR1 h1 hrw hLq c0 c1 c2 c3 hI hJ hLg hav hro hxr hmq;go_upto_region 8 with fail;have hyd:Ext wr (World.drew wr):=(Ext.refl _).drew;replace HRO:=dH (HRO.out.ext hyd);replace HRW:=dH (HRW.out.ext hyd);replace HE:=dH (Ext.trans HE.out hyd);obtain⟨s0,s1,s2,s3⟩:=s0c.out _ HE.out;clear hyd e0;refine wp_region_held_drew (S:=(fun w'=>w'.cell? ⟨bs,os+q*4,none⟩=some (.bool n)∧w'.cell? ⟨bs,os+q*4+1,none⟩=some (.slice ad l.length c)∧w'.cell? ⟨bs,os+q*4+2,none⟩=some (.bool n2)∧w'.cell? ⟨bs,os+q*4+3,none⟩=some (.slice b' mm.length dd))) (by kernel_rfl) ?_ (fun hHeld=>?_)
    ·exact⟨s0,s1,s2,s3⟩
    (try simp only [pur,Nat.reduceAdd])
    generalize World.drew wr=x3 at *
    iterate 11
     refine tkR [0,1,2,3,4,5,6,7,8,9,10] (v:=?_) rfl rfl (by kernel_rfl) (fun _ _ _ h=>h) (by rfl) ?_ (by assumption) ?_;rotate_left
     ·(intro w hSw;(try dsimp only at hSw);(try go_simp);(try with_reducible rfl))
     (try simp only [Act.put,pus])
    refine wpAnyH_ready (rs:=[11]) (by kernel_rfl) (by simp) ?_;refine AllReadyH.cons (o:=_) rfl (fun K hK=>?_) ?_
    ·go_simp;have hy:=Ext.alloc x3 (.cells #[.bool n,.slice ad l.length c,.bool n2,.slice b' mm.length dd] 38);replace HRO:=dH (HRO.out.ext hy);replace HE:=dH (Ext.trans HE.out hy);replace HRW:=dH (HRW.out.ext hy);have K1:=dH (Blk.new0 x3 #[.bool n,.slice ad l.length c,.bool n2,.slice b' mm.length dd] 38);replace s0:=zA0 hy s0;replace s1:=zA0 hy s1;replace s2:=zA0 hy s2;replace s3:=zA0 hy s3;clear hy;generalize World.alloc x3 (.cells #[.bool n,.slice ad l.length c,.bool n2,.slice b' mm.length dd] 38)=x4 at *;generalize Array.size (World.heap x3)=b4 at *;refine hK.out _ _ ?_ ?_
     ·exact⟨s0,s1,s2,s3⟩
     clear hK K hHeld;intro hHeld
     (try simp only [Act.put,pus])
     refine wpAnyH_ready (rs:=[12]) (by kernel_rfl) (by simp) ?_;refine AllReadyH.cons (o:=_) rfl (fun K hK=>?_) ?_
     ·refine step_append_grows rfl (.tmp 31) (.tmp 36) 23 rfl 38 i0 (.agg #[.bool false,.slice none 0 0,.bool false,.slice none 0 0]) 4 64 Tryz.underlying23 hi0 hz0 hz1 hz2 rfl (by decide) ar (zB8 A) (zB8 A) (zC0 (zB8 A) (vxA A q)) rfl HRW.out.nilN (zCs _ _) (fun A' hA=>by cases hA;exact HRW.out.news) ⟨b4,0,none⟩ 1 1 [.bool n,.slice ad l.length c,.bool n2,.slice b' mm.length dd] rfl rfl (zJY K1.out) (zLq _ _ _ _ _ _ _ _) (by omega) (by unfold maxLen;omega) (by omega) ?_;intro v5 x5 ho hg;obtain⟨gq,cq,rfl,hgq,hcq,hcm⟩:=zJX ho;have HR5:=dH (zJZ (x:=⟨n,ad,l.length,c,n2,b',mm.length,dd⟩) ho);have hy:Ext x4 x5:=zE4 hg;replace HRO:=dH (HRO.out.ext hy);replace HE:=dH (Ext.trans HE.out hy);replace s0:=zA0 hy s0;replace s1:=zA0 hy s1;replace s2:=zA0 hy s2;replace s3:=zA0 hy s3;have HCQ:=dH (And.intro hcq hcm);clear ho hg hy hgq hcq hcm K1 HRW;refine hK.out _ _ ?_ ?_
      ·exact⟨s0,s1,s2,s3⟩
      clear hK K hHeld;intro hHeld
      (try simp only [Act.put,pus])
      refine wpAnyH_ready (rs:=[13]) (by kernel_rfl) (by simp) ?_;refine AllReadyH.cons (o:=_) rfl (fun K hK=>?_) ?_
      ·go_simp;have hy:=Ext.alloc x5 (.cells #[.slice (some ⟨gq,0,none⟩) (zB8 A+1) cq] 23);replace HRO:=dH (HRO.out.ext hy);replace HE:=dH (Ext.trans HE.out hy);replace HR5:=dH (HR5.out.ext hy);have K2:=dH (Blk.new0 x5 #[.slice (some ⟨gq,0,none⟩) (zB8 A+1) cq] 23);replace s0:=zA0 hy s0;replace s1:=zA0 hy s1;replace s2:=zA0 hy s2;replace s3:=zA0 hy s3;clear hy;generalize World.alloc x5 (.cells #[.slice (some ⟨gq,0,none⟩) (zB8 A+1) cq] 23)=x6 at *;generalize Array.size (World.heap x5)=b6 at *;refine hK.out _ _ ?_ ?_
       ·exact⟨s0,s1,s2,s3⟩
       clear hK K hHeld;intro hHeld
       (try simp only [Act.put,pus])
       refine wpAnyH_ready (rs:=[14]) (by kernel_rfl) (by simp) ?_;refine AllReadyH.cons (o:=_) rfl (fun K hK=>?_) ?_
       ·refine zAk rfl (.tmp 25) (.tmp 38) 55 23 rfl (z:=.slice none 0 0) (k:=1) (by_:=24) Tryz.underlying55 zBh rfl (by decide) (B:=x1.heap.size) HE.out.size rfl HRO.out.own rfl (fun e=>by cases e) (news:=[.slice (some ⟨gq,0,none⟩) (zB8 A+1) cq]) rfl (fun A' hA j u hu=>by cases hA;exact zCH K2.out hu) (fun u hu=>by rw [List.mem_singleton.1 hu];rfl) (by omega) (by omega) ?_;intro v9 x9 ho hg hnl hat;obtain⟨a9,c9,rfl⟩:=zAh ho;have hy:Ext x1 x9:=Below.grown HE.out hg HE.out.size (fun r e=>(World.ownsRow.lt HRO.out.own r e).1);have HR9:=dH (HRO.out.push ho hg hat HR5.out (fun c' hc'=>(HAV.out c' hc').ext HE.out) (fun c' hc'=>zMW (HAV.out c' hc') (fun g' e=>(World.ownsRow.lt HRO.out.own g' e).1)) HCQ.out);have s0':=s0c.out _ hy;obtain⟨t0,t1,t2,t3⟩:=s0';replace s0:=t0;replace s1:=t1;replace s2:=t2;replace s3:=t3;replace HE:=dH hy;clear ho hg hnl hat hy t0 t1 t2 t3 HRO HR5 K2;refine hK.out _ _ ?_ ?_
        ·exact⟨s0,s1,s2,s3⟩
        clear hK K hHeld;intro hHeld
        (try simp only [Act.put,pus])
        refine tk (v:=?_) 15 rfl (by kernel_rfl) (fun _ _ _ h=>h) (by rfl) ?_ (by assumption) ?_;rotate_left
        ·(intro w hSw;(try dsimp only at hSw);(try go_simp);(try with_reducible rfl))
        (try simp only [Act.put,pus])
        refine wpAnyH_done (by kernel_rfl) ?_ _;go_wp2_with fail;go_roundw
        case rel=>exact⟨q+1,by omega,by go_num,_,_,_,_,HR9.out,fun r hr c' hc'=>(if e:r=q then(by rw [if_pos e,e]) else(by rw [if_neg e];exact HMQ.out r (by omega) c' hc')),HE.out⟩
        case measure=>simp [intOf];omega
       exact AllReadyH.nil
      exact AllReadyH.nil
     exact AllReadyH.nil
    exact AllReadyH.nil
   ·have q1:¬ (q:Int)< (A.length:Int):=by omega
    have hqe:q=A.length:=by omega
    subst hqe;obtain⟨ra,rc,e9,hmat⟩:=hro.mat;simp only [Value.slice.injEq,true_and] at e9;obtain⟨rfl,rfl⟩:=e9;have HM:=dH (hmat.congr hmq);have HX2:=dH (HX.out.trans hxr);have hrle:=hmat.le;have hrmx:=hmat.mx;clear hro hmat hmq hxr;go_wp2_with fail;refine(zGU a cap A.length (zB8 A) wr (HR.out wr HX2.out).wid).mono ?_;rintro e x2 ⟨rfl,rfl⟩;rw [zNP];go_wp2_with fail;refine(zGZ av cv A.length (zB8 A) V (zFl A L) (30* (A.length* (zB8 A+1))+61) wr HM.out HCD.out (by omega) (by omega) HF.out).mono ?_;rintro e x3 ⟨a3,c3,V3,rfl,hr3,hy⟩;have HP:Hid (zIn A L w (.returned (.tuple #[.slice a3 (if okB A.length (zB8 A) (zAe A.length (zFl A L) (zB8 A)) then zB8 A else 0) c3,.bool (okB A.length (zB8 A) (zAe A.length (zFl A L) (zB8 A))),.int .i64 0])) x3):=dH ⟨a3,c3,V3,by unfold zMd;rw [HSO.out,HVZ.out],by unfold zMd;rw [HSO.out];exact hr3,HX2.out.trans hy⟩;clear hr3 hy;generalize okB A.length (zB8 A) (zAe A.length (zFl A L) (zB8 A))=ok at *;cases ok
    ·rw [if_neg (by decide)] at HP ⊢;go_wp2_with fail
     go_ret3
     exact HP.out
    ·rw [if_pos rfl] at HP ⊢;go_wp2_with fail
     go_ret3
     exact HP.out
 ·have g1:(zEJ A L A.length != 0)=true:=by simp [hz]
  have HSO:Hid (zGa A L=false):=dH (by unfold zGa;rw [decide_eq_false hz];rfl);go_enter Tryz.func60,Tryz.ntmps60;go_wp2_with fail;refine HV.out.mono ?_;rintro e x1 ⟨rfl,hy⟩;have HP:Hid (zIn A L w (.returned (.tuple #[.slice none 0 0,.bool false,.int .i64 (zEJ A L A.length)])) x1):=dH ⟨none,0,fun _=>⟨false,none,0,0,false,none,0,0⟩,by unfold zMd;rw [HSO.out];rfl,by unfold zMd;rw [HSO.out];exact RowR.nil' _ _ _,hy⟩;clear hy hz hf;go_wp2_with fail
  go_ret3
  exact HP.out
end Go.Proofs.YtonkhcdmchidjaaGreat
