import Derived.Test.YtokffagbdfhnnaaGreatU7
import Derived.OwnWalk
import Derived.Deep.QuietTactic
namespace Go.Proofs.YtokffagbdfhnnaaGreat
open Go.RowKit Go BigFrame Go.Shelf
set_option maxRecDepth 100000
set_option linter.unusedSimpArgs false
set_option linter.unusedVariables false
attribute [local go_sem] Oper.semAt_some
def valA (x:RatA):Rat:=Rat.divInt (sgn x.n (dval x.l)) (sgn x.n2 (dval x.m))
abbrev noA:RatA:=⟨false,none,0,[],false,none,0,[]⟩
def mxA (A:List (List RatA)):Mx:=fun r c=>valA ((A.getD r []).getD c noA)
def vxA (A:List (List RatA)):Nat→Nat→RatC:=fun r c=>let x:=(A.getD r []).getD c noA;⟨x.n,x.a,x.l.length,x.c,x.n2,x.b,x.m.length,x.d⟩
def widA (A:List (List RatA)):Nat:=(A.getD 0 []).length
theorem errX_0 {x:RatA} (h:errX x=0):x.ok=true∧smX x=true:=by
 unfold errX at h
 by_cases h1:x.ok=true
 ·rw [if_pos h1] at h
  by_cases h2:smX x=true
  ·exact⟨h1,h2⟩
  ·rw [if_neg h2] at h;exact absurd h (by decide)
 ·rw [if_neg h1] at h;exact absurd h (by decide)
theorem elsE_0:∀{L:List RatA},elsE L=0→∀x∈L,errX x=0
 | y :: L,h,x,hx=>by
  unfold elsE at h
  by_cases e:errX y=0
  ·rw [if_pos e] at h
   rcases List.mem_cons.1 hx with rfl | hx
   ·exact e
   ·exact elsE_0 h x hx
  ·rw [if_neg e] at h;exact absurd h e
theorem rowsE_0:∀{A:List (List RatA)},rowsE A=0→∀L∈A,elsE L=0
 | K :: A,h,L,hL=>by
  unfold rowsE at h
  by_cases e:elsE K=0
  ·rw [if_pos e] at h
   rcases List.mem_cons.1 hL with rfl | hL
   ·exact e
   ·exact rowsE_0 h L hL
  ·rw [if_neg e] at h;exact absurd h e
theorem chkE_0 {A:List (List RatA)} (h:chkE A=0):A.length≤17∧(∀L∈A,L.length≤17)∧(∀L∈A,L.length=widA A)∧∀L∈A,∀x∈L,errX x=0:=by
 unfold chkE at h
 by_cases h0:17<A.length
 ·rw [if_pos h0] at h;exact absurd h (by decide)
 ·rw [if_neg h0] at h
  by_cases h1:A.any (fun L=>decide (17<L.length))=true
  ·rw [if_pos h1] at h;exact absurd h (by decide)
  ·rw [if_neg h1] at h
   by_cases h2:A.any (fun L=>decide (L.length≠(A.getD 0 []).length))=true
   ·rw [if_pos h2] at h;exact absurd h (by decide)
   ·rw [if_neg h2] at h
    refine⟨by omega,fun L hL=>Classical.byContradiction fun hc=>h1 (List.any_eq_true.2 ⟨L,hL,decide_eq_true (by omega)⟩),fun L hL=>Classical.byContradiction fun hc=>h2 (List.any_eq_true.2 ⟨L,hL,decide_eq_true hc⟩),fun L hL=>elsE_0 (rowsE_0 h L hL)⟩
theorem ok_valA {x:RatA} (h:x.ok=true):(∀w,RatI w x→RatV w x.val (valA x))∧(valA x).num=sgn x.n (dval x.l)∧((valA x).den:Int)=sgn x.n2 (dval x.m):=by
 obtain⟨r,h1,h2,_⟩:=okR_rat h
 have e1:r.num=sgn x.n (dval x.l):=by rw [h1.2.2];rfl
 have e2:(r.den:Int)=sgn x.n2 (dval x.m):=by rw [h2.2.2];rfl
 have e:valA x=r:=by unfold valA;rw [←e1,←e2];exact Rat.num_divInt_den r
 rw [e]
 exact⟨fun w hi=>ok_val hi.i hi.j h1 h2,e1,e2⟩
theorem err_valA {x:RatA} (h:errX x=0):(valA x).num.natAbs<2 ^ 60∧(valA x).den<2 ^ 30:=by
 obtain⟨h1,h2⟩:=errX_0 h
 obtain⟨_,e1,e2⟩:=ok_valA h1
 unfold smX at h2
 simp only [Bool.and_eq_true,decide_eq_true_eq] at h2
 rw [←e1,←e2] at h2
 rw [show(2:Nat) ^ 60=1152921504606846976 from by decide,show(2:Nat) ^ 30=1073741824 from by decide]
 omega
theorem many_den:∀{L:List Rat},(∀x∈L,x.den<2 ^ 30)→∃D,0<D∧D≤2 ^ (30*L.length)∧∀x∈L,x.den∣D
 | [],_=>⟨1,by omega,by simp,fun x hx=>by cases hx⟩
 | y :: L,h=>by
  obtain⟨D,h0,h1,h2⟩:=many_den (L:=L) fun x hx=>h x (List.mem_cons_of_mem _ hx)
  have hy:=h y (by simp)
  refine⟨y.den*D,Nat.mul_pos y.den_pos h0,?_,fun x hx=>?_⟩
  ·rw [List.length_cons,Nat.mul_add,Nat.add_comm,Nat.pow_add]
   exact Nat.mul_le_mul (by omega) h1
  ·rcases List.mem_cons.1 hx with rfl | hx
   ·exact Nat.dvd_mul_right _ _
   ·exact Nat.dvd_trans (h2 x hx) (Nat.dvd_mul_left _ _)
theorem cd_of {m N:Nat} {M:Mx} (h:∀r,r<m→∀c,c<N→(M r c).num.natAbs<2 ^ 60∧(M r c).den<2 ^ 30):CdX m N (30* (m*N)+61) M:=by
 obtain⟨D,h0,h1,h2⟩:=many_den (L:=(List.range m).flatMap fun r=>(List.range N).map fun c=>M r c) fun x hx=>by
  obtain⟨r,hr,hx⟩:=List.mem_flatMap.1 hx
  obtain⟨c,hc,rfl⟩:=List.mem_map.1 hx
  exact(h r (List.mem_range.1 hr) c (List.mem_range.1 hc)).2
 have hl:((List.range m).flatMap fun r=>(List.range N).map fun c=>M r c).length=m*N:=by
  have key:∀m:Nat,((List.range m).map fun _=>N).sum=m*N:=fun m=>by
   induction m with
   | zero=>simp
   | succ m ih=>rw [List.range_succ,List.map_append,List.sum_append,ih,Nat.succ_mul];simp
  rw [List.length_flatMap]
  simp only [List.length_map,List.length_range]
  exact key m
 rw [hl] at h1
 have hp:2 ^ (30* (m*N))<2 ^ (30* (m*N)+61):=Nat.pow_lt_pow_right (by omega) (by omega)
 refine⟨D,h0,by omega,fun r hr c hc=>?_⟩
 obtain⟨k,hk⟩:=h2 (M r c) (List.mem_flatMap.2 ⟨r,List.mem_range.2 hr,List.mem_map.2 ⟨c,List.mem_range.2 hc,rfl⟩⟩)
 obtain⟨g1,g2⟩:=h r hr c hc
 have hkD:k≤D:=by
  rw [hk]
  exact Nat.le_mul_of_pos_left k (M r c).den_pos
 refine⟨(M r c).num* (k:Int),?_,?_⟩
 ·rw [Int.natAbs_mul,Int.natAbs_natCast,show 30* (m*N)+61=60+ (30* (m*N)+1) by omega,Nat.pow_add]
  refine Nat.mul_lt_mul'' g1 ?_
  rw [Nat.pow_succ]
  have:0<2 ^ (30* (m*N)):=Nat.pow_pos (by omega)
  omega
 ·have hkz:(k:Rat)≠0:=by
   intro e
   have:k=0:=by exact_mod_cast e
   rw [this] at hk;omega
  have hdz:((M r c).den:Rat)≠0:=ratne (M r c).den_pos
  have e1:M r c= ((M r c).num:Rat) / ((M r c).den:Rat):=by
   have h9:=Rat.num_divInt_den (M r c)
   rw [Rat.divInt_eq_div,Rat.intCast_natCast] at h9
   exact h9.symm
  have e2:(D:Rat)= ((M r c).den:Rat)* (k:Rat):=by rw [hk];push_cast;rfl
  rw [e2]
  push_cast
  generalize ((M r c).num:Rat)=p at *
  generalize ((M r c).den:Rat)=q at *
  rw [e1]
  grind
theorem mem_of_lt {A:List (List RatA)} {r:Nat} (hr:r<A.length):A.getD r []∈A:=by
 rw [List.getD_eq_getElem?_getD,List.getElem?_eq_getElem hr];exact List.getElem_mem hr
theorem chk_mat {A:List (List RatA)} (h:chkE A=0) {r c:Nat} (hr:r<A.length) (hc:c<widA A):(A.getD r []).getD c noA∈A.getD r []∧errX ((A.getD r []).getD c noA)=0:=by
 obtain⟨_,_,h3,h4⟩:=chkE_0 h
 have hm:=mem_of_lt hr
 have hx:(A.getD r []).getD c noA∈A.getD r []:=by
  have hc2:c< (A.getD r []).length:=by rw [h3 _ hm];exact hc
  generalize A.getD r []=L at *
  rw [List.getD_eq_getElem?_getD,List.getElem?_eq_getElem hc2];exact List.getElem_mem hc2
 exact⟨hx,h4 _ hm _ hx⟩
theorem chk_cd {A:List (List RatA)} (h:chkE A=0):CdX A.length (widA A) (30* (A.length*widA A)+61) (mxA A):=cd_of fun r hr c hc=>err_valA (chk_mat h hr hc).2
theorem chk_read {A:List (List RatA)} (h:chkE A=0) {w:World} {a:Option Addr} {cap:Nat} (hA:RRows w a cap A):MatR w a cap A.length (widA A) (vxA A) (mxA A):=by
 obtain⟨_,_,h3,_⟩:=chkE_0 h
 refine⟨hA.le,hA.mx,hA.nil,fun B hB r hr=>?_⟩
 obtain⟨hs,v,hv,ar,cr,rfl,hR⟩:=hA.cells B hB r hr
 have hg:A.getD r []=A[r]:=by rw [List.getD_eq_getElem?_getD,List.getElem?_eq_getElem hr];rfl
 have hl:A[r].length=widA A:=h3 _ (List.getElem_mem hr)
 refine⟨hs,ar,cr,by rw [←hl];exact hv,by rw [←hl];exact hR.le,hR.mx,hR.nil,fun C hC c hc=>?_,fun c hc=>?_⟩
 ·have hc2:c<A[r].length:=by rw [hl];exact hc
  have e:(A.getD r []).getD c noA=A[r][c]:=by rw [hg,List.getD_eq_getElem?_getD,List.getElem?_eq_getElem hc2];rfl
  obtain⟨g0,g1,g2,g3,g4⟩:=hR.cells C hC c hc2
  unfold vxA
  rw [e]
  exact⟨g0,g1,g2,g3,g4⟩
 ·have hc2:c<A[r].length:=by rw [hl];exact hc
  have e:(A.getD r []).getD c noA=A[r][c]:=by rw [hg,List.getD_eq_getElem?_getD,List.getElem?_eq_getElem hc2];rfl
  have:=(chk_mat h hr hc).2
  unfold vxA mxA
  rw [e] at this ⊢
  exact(ok_valA (errX_0 this).1).1 w (hR.ints c hc2)
theorem MatR.wid {w:World} {a:Option Addr} {cap m N:Nat} {V:Nat→Nat→RatC} {M:Mx} (h:MatR w a cap m N V M):0<m→∃b o a' c',a=some ⟨b,o,none⟩∧w.cell? ⟨b,o,none⟩=some (.slice a' N c'):=fun hm=>by
 obtain⟨b,o,rfl⟩:=h.head hm
 obtain⟨_,a',c',h1,_⟩:=h.cells _ rfl 0 hm
 exact⟨b,o,a',c',rfl,by simpa using h1⟩
theorem wid_if (A:List (List RatA)):(if A.length=0 then 0 else(widA A:Int))= (widA A:Int):=by
 by_cases h:A.length=0
 ·rw [if_pos h,List.eq_nil_of_length_eq_zero h];rfl
 ·rw [if_neg h]
def FewX (A:List (List RatA)):Prop:=2 ^ widA A* (30* (A.length*widA A)+62)≤40920
def rankA (A:List (List RatA)):Int:=if chkE A=0 then((elimX A.length (mxA A) (widA A)).ps.length:Int) else 0
set_option maxHeartbeats 4000000 in
theorem matrix_Rank (a:Option Addr) (cap:Nat) (A:List (List RatA)) (w:World) (h:RRows w a cap A) (hf:chkE A=0→FewX A):
 Calls Tryz.prog 9 #[.slice a A.length cap] w fun e w'=>e=.returned (.tuple #[.int .i64 (rankA A),.int .i64 (chkE A)])∧Ext w w':=by
 have hle:=h.le
 have hmx:=h.mx
 have HH:=Lib.hid h
 clear h
 by_cases hz:chkE A=0
 ·have hfew:=hf hz
  have hc:=chkE_0 hz
  have HC:=Lib.hid (chk_cd hz)
  have HR:=Lib.hid (fun W (k:Ext w W)=>chk_read hz (RRows.ext k HH.out))
  have h17:A.length≤17:=hc.1
  have hw17:widA A≤17:=by
   by_cases h0:A.length=0
   ·rw [List.eq_nil_of_length_eq_zero h0];decide
   ·have:=hc.2.1 _ (mem_of_lt (show 0<A.length by omega));exact this
  have HK:Hid (rankA A= ((elimX A.length (mxA A) (widA A)).ps.length:Int)):=Lib.hid (if_pos hz)
  have HF:Hid (2 ^ widA A* (30* (A.length*widA A)+61+1)≤40920):=Lib.hid hfew
  have HCH:=Lib.hid (matrix_Check a cap A w HH.out)
  rw [hz] at HCH ⊢
  clear hc hfew hf hz
  go_enter Tryz.func9,Tryz.ntmps9
  go_wp2_with fail
  refine HCH.out.mono ?_
  rintro e x1 ⟨rfl,hy⟩
  have HX:=Lib.hid hy
  have HX1:=Lib.hid hy
  clear hy HCH
  go_wp2_with fail
  refine(matrix_begin a cap A.length (widA A) (vxA A) (mxA A) x1 (HR.out x1 HX.out) (by omega) (by omega)).mono ?_
  rintro e x2 ⟨p,ra,R,rc,g,cp,rfl,hs,hy⟩
  have HS:=Lib.hid hs
  replace HX:=Lib.hid (HX.out.trans hy)
  have HY:=Lib.hid hy
  clear hs hy
  go_wp2_with fail
  refine(matrix_width a cap A.length (widA A) x2 (HR.out x2 HX.out).wid).mono ?_
  rintro e x3 ⟨rfl,rfl⟩
  rw [wid_if]
  go_wp2_with fail
  refine(system_reduce x1.heap.size p A.length (widA A) ra R rc g cp (vxA A) (mxA A) _ (widA A) (30* (A.length*widA A)+61) x2 HS.out HC.out (Nat.le_refl _) (by omega) (by omega) HF.out HY.out.size).mono ?_
  rintro e x4 ⟨⟨v,rfl⟩,⟨g',cp',V',va',hs⟩,hb⟩
  have HX4:Hid (Ext w x4):=Lib.hid (Ext.trans (a:=w) (b:=x1) HX1.out (Below.trans HY.out hb))
  obtain⟨av,cv,rfl⟩:=at_form hs.atl
  have s0:World.cell? x4 ⟨p,0,none⟩=some (.slice av (elimX A.length (mxA A) (widA A)).ps.length cv):=hs.box.cell rfl
  clear hs hb HS HY HX
  go_wp2_with fail
  refine(pivots_many p av _ cv x4 s0).mono ?_
  rintro e x5 ⟨rfl,rfl⟩
  clear s0
  go_wp2_with fail
  go_ret2
  exact⟨(congrArg (fun z=>Ending.returned (.tuple #[Value.int .i64 z,.int .i64 0])) HK.out).symm,HX4.out⟩
 ·have HK:Hid (rankA A=0):=Lib.hid (if_neg hz)
  have g1:(chkE A != 0)=true:=by simp [hz]
  go_enter Tryz.func9,Tryz.ntmps9
  go_wp2_with fail
  refine(matrix_Check a cap A w HH.out).mono ?_
  rintro e x1 ⟨rfl,hy⟩
  have HX:=Lib.hid hy
  clear hy hz hf
  go_wp2_with fail
  go_ret2
  exact⟨(congrArg (fun z=>Ending.returned (.tuple #[Value.int .i64 z,.int .i64 (chkE A)])) HK.out).symm,HX.out⟩
end Go.Proofs.YtokffagbdfhnnaaGreat
