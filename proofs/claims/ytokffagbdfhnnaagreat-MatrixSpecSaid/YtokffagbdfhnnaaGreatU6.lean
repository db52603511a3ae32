import Derived.Test.YtokffagbdfhnnaaGreatQ5
import Derived.Test.YtokffagbdfhnnaaGreatQM1
import Derived.Test.YtokffagbdfhnnaaGreatQR1
import Derived.Test.YtokffagbdfhnnaaGreatQM2
import Derived.Test.YtokffagbdfhnnaaGreatPNews
import Derived.Test.YtokffagbdfhnnaaGreatR0
import Derived.Test.YtokffagbdfhnnaaGreatQ3
import Derived.OwnWalk
import Derived.Deep.QuietTactic
namespace Go.Proofs.YtokffagbdfhnnaaGreat
open Go.RowKit Go BigFrame
set_option maxRecDepth 100000
set_option linter.unusedSimpArgs false
set_option linter.unusedVariables false
structure RatI (w:World) (x:RatA):Prop where
 i:Ints w x.a x.c x.l
 j:Ints w x.b x.d x.m
theorem RatI.ext {w w':World} {x:RatA} (h:RatI w x) (k:Ext w w'):RatI w' x:=⟨h.i.ext k,h.j.ext k⟩
structure RatsI (w:World) (a:Option Addr) (cap:Nat) (L:List RatA):Prop where
 le:L.length≤cap
 mx:cap≤9223372036854775807
 nil:a=none→cap=0
 cells:∀A,a=some A→∀i (h:i<L.length),A.spot=none∧w.cell? ⟨A.block,A.off+i*4,none⟩=some (.bool L[i].n)∧w.cell? ⟨A.block,A.off+i*4+1,none⟩=some (.slice L[i].a L[i].l.length L[i].c)∧
  w.cell? ⟨A.block,A.off+i*4+2,none⟩=some (.bool L[i].n2)∧w.cell? ⟨A.block,A.off+i*4+3,none⟩=some (.slice L[i].b L[i].m.length L[i].d)
 ints:∀i (h:i<L.length),RatI w L[i]
theorem RatsI.ext {w w':World} {a:Option Addr} {cap:Nat} {L:List RatA} (h:RatsI w a cap L) (k:Ext w w'):RatsI w' a cap L:=
 ⟨h.le,h.mx,h.nil,fun A hA i hi=>by
  obtain⟨h0,h1,h2,h3,h4⟩:=h.cells A hA i hi
  exact⟨h0,cell_exQ k h1,cell_exQ k h2,cell_exQ k h3,cell_exQ k h4⟩,fun i hi=>(h.ints i hi).ext k⟩
theorem RatsI.head {w:World} {a:Option Addr} {cap:Nat} {L:List RatA} (h:RatsI w a cap L) {i:Nat} (hi:i<L.length):∃b o,a=some ⟨b,o,none⟩:=by
 cases a with
 | none=>have:=h.nil rfl;have:=h.le;omega
 | some A=>
  obtain⟨h0,_⟩:=h.cells A rfl i hi
  obtain⟨b,o,s⟩:=A
  simp only at h0
  exact⟨b,o,by rw [h0]⟩
theorem RatsI.get {w:World} {b o cap:Nat} {L:List RatA} (h:RatsI w (some ⟨b,o,none⟩) cap L) {i:Nat} (hi:i<L.length):
 ∃n a c l n2 b' d m,L[i]? =some ⟨n,a,c,l,n2,b',d,m⟩∧w.cell? ⟨b,o+i*4,none⟩=some (.bool n)∧w.cell? ⟨b,o+i*4+1,none⟩=some (.slice a l.length c)∧
  w.cell? ⟨b,o+i*4+2,none⟩=some (.bool n2)∧w.cell? ⟨b,o+i*4+3,none⟩=some (.slice b' m.length d)∧Ints w a c l∧Ints w b' d m:=by
 obtain⟨_,h1,h2,h3,h4⟩:=h.cells _ rfl i hi
 have hr:=h.ints i hi
 exact⟨L[i].n,L[i].a,L[i].c,L[i].l,L[i].n2,L[i].b,L[i].d,L[i].m,List.getElem?_eq_getElem hi,h1,h2,h3,h4,hr.i,hr.j⟩
def ValL (L:List RatA) (S:List Rat) (k:Nat):Prop:=L.length=S.length∧∀ (i:Nat) (x:RatA) (r:Rat),L[i]? =some x→S[i]? =some r→Sz r k∧∀w,RatI w x→RatV w x.val r
theorem RatsI.val {w:World} {b o cap:Nat} {L:List RatA} {S:List Rat} {k:Nat} (h:RatsI w (some ⟨b,o,none⟩) cap L) (hv:ValL L S k) {i:Nat} (hi:i<S.length):
 ∃n a q c n2 b' k' d,w.cell? ⟨b,o+i*4,none⟩=some (.bool n)∧w.cell? ⟨b,o+i*4+1,none⟩=some (.slice a q c)∧w.cell? ⟨b,o+i*4+2,none⟩=some (.bool n2)∧w.cell? ⟨b,o+i*4+3,none⟩=some (.slice b' k' d)∧
  RatV w (.agg #[.bool n,.slice a q c,.bool n2,.slice b' k' d]) S[i]∧Sz S[i] k:=by
 have hi':i<L.length:=by rw [hv.1];exact hi
 obtain⟨_,h1,h2,h3,h4⟩:=h.cells _ rfl i hi'
 obtain⟨hz,hr⟩:=hv.2 i _ _ (List.getElem?_eq_getElem hi') (List.getElem?_eq_getElem hi)
 exact⟨_,_,_,_,_,_,_,_,h1,h2,h3,h4,hr w (h.ints i hi'),hz⟩
end Go.Proofs.YtokffagbdfhnnaaGreat
namespace Go.Proofs.YtokffagbdfhnnaaGreat
open Go.RowKit Go BigFrame Go.Shelf
set_option maxRecDepth 100000
set_option linter.unusedSimpArgs false
set_option linter.unusedVariables false
attribute [local go_sem] Oper.semAt_some
def RatU (r:Rat) (w:World) (e:Ending) (w':World):Prop:=∃v,e=.returned v∧RatN w' v r w.heap.size∧Ext w w'
theorem divInt01:Rat.divInt 0 1=0:=by decide +kernel
set_option maxHeartbeats 2000000 in
theorem matrix_zero (w:World):Calls Tryz.prog 38 #[] w (RatU 0 w):=by
 obtain⟨x1,hw,hx,Kr⟩:=boxQ1 w #[.bool false,.slice none 0 0,.bool false,.slice none 0 0] 44
 replace hw:=Lib.hid hw
 go_enter Tryz.func38,Tryz.ntmps38
 go_upto_region 1 with fail
 try simp only [Nat.add_assoc,Nat.reduceAdd,Nat.add_zero]
 rw [hw.out]
 clear hw
 have hs0:=hx.size
 have hsz:=hx.size
 go_wp2_with fail
 with_reducible refine(ratio_Make 0 1 _ (by omega) (by omega) (by omega)).mono ?_
 rintro e x2 ⟨v,rfl,hv,hy⟩
 replace hx:=hx.trans hy
 replace Kr:=kE Kr hy
 clear hy
 obtain⟨nv,av,qv,cv,bv,kv,dv,rfl,hv',hf',hg'⟩:=hv
 have Vv:=Lib.hid hv'
 have Fv:=Lib.hid (fun A hA=>Nat.le_trans hsz (hf' A hA))
 have Gv:=Lib.hid (fun A hA=>Nat.le_trans hsz (hg' A hA))
 clear hv' hf' hg' hsz
 rw [divInt01] at Vv
 go_upto_region 2 with fail
 have hl:=Ext.alloc x2 (.cells #[.bool nv,.slice av qv cv,.bool false,.slice bv kv dv] 44)
 have lrx:w.heap.size<x2.heap.size:=Kr.out.lt
 have hpx:w.heap.size≤x2.heap.size:=hx.size
 replace hx:=hx.trans hl
 replace Kr:=kE Kr hl
 replace Vv:=Lib.hid (Vv.out.ext hl)
 have Kx:=Lib.hid (Blk.new0 x2 #[.bool nv,.slice av qv cv,.bool false,.slice bv kv dv] 44)
 clear hl
 generalize x2.alloc (.cells #[.bool nv,.slice av qv cv,.bool false,.slice bv kv dv] 44)=x3 at *
 generalize x2.heap.size=px at *
 obtain⟨cx0,cx1,cx2,cx3⟩:=bk4 Kx
 obtain⟨g0,z0,g1,z1,g2,z2,g3,z3⟩:=bp4 Kr (.bool nv) (.slice av qv cv) (.bool false) (.slice bv kv dv)
 go_wp2_with fail
 clear g0 z0 g1 z1 g2 z2 g3 z3
 clear cx0 cx1 cx2 cx3
 replace Vv:=(by first | exact rv4 Vv Kr (.bool nv) (.slice av qv cv) (.bool false) (.slice bv kv dv) rfl rfl rfl rfl | exact bv4 Vv Kr (.bool nv) (.slice av qv cv) (.bool false) (.slice bv kv dv) rfl rfl rfl rfl)
 replace hx:=bx4 hx (w.heap.size) (.bool nv) (.slice av qv cv) (.bool false) (.slice bv kv dv) (by omega)
 replace Kr:=bs4 Kr (.bool nv) (.slice av qv cv) (.bool false) (.slice bv kv dv)
 replace Kx:=bo4 Kx (w.heap.size) (.bool nv) (.slice av qv cv) (.bool false) (.slice bv kv dv) (by omega)
 generalize ((((x3).setCell ⟨w.heap.size,0,none⟩ (.bool nv)).setCell ⟨w.heap.size,1,none⟩ (.slice av qv cv)).setCell ⟨w.heap.size,2,none⟩ (.bool false)).setCell ⟨w.heap.size,3,none⟩ (.slice bv kv dv)=x4 at *
 obtain⟨cr0,cr1,cr2,cr3⟩:=bk4 Kr
 refine bodyPost_ret (v:=.agg #[.bool nv,.slice av qv cv,.bool false,.slice bv kv dv]) (by simp [results,Tryz.results38,go_sem,cr0,cr1,cr2,cr3]) rfl ?_
 exact⟨_,rfl,⟨_,_,_,_,_,_,_,rfl,Vv.out,Fv.out,Gv.out⟩,hx⟩
theorem BigV.absU {n:Bool} {a:Option Addr} {q c:Nat} {z:Int} {w:World} (h:BigV w (.agg #[.bool n,.slice a q c]) z):BigV w (.agg #[.bool false,.slice a q c]) (z.natAbs:Int):=by
 obtain⟨n',l,⟨a',c',e,hi⟩,hb⟩:=h
 simp only [Value.agg.injEq,Array.mk.injEq,List.cons.injEq,Value.bool.injEq,Value.slice.injEq,and_true] at e
 obtain⟨rfl,rfl,rfl,rfl⟩:=e
 have h0:=dval_nonneg hb.1.digs
 have h1:=hb.2.2
 refine⟨false,l,⟨a,c,rfl,hi⟩,hb.1,fun h=>(by cases h),?_⟩
 show(z.natAbs:Int)=dval l
 cases n
 ·rw [if_neg (by decide)] at h1;omega
 ·rw [if_pos rfl] at h1;omega
set_option maxHeartbeats 2000000 in
theorem matrix_below (n:Bool) (a:Option Addr) (q c:Nat) (z t:Int) (w:World) (h:BigV w (.agg #[.bool n,.slice a q c]) z) (hz:Len z) (ht:0≤t∧t≤9223372036854775807):
 Calls Tryz.prog 57 #[.agg #[.bool n,.slice a q c],.int .i64 t] w fun e w'=>e=.returned (.bool (decide ((z.natAbs:Int)<t)))∧Ext w w':=by
 have HV:=Lib.hid h.absU
 have HZ:=Lib.hid (show Len (z.natAbs:Int) from hz)
 have HT:Hid (Len t):=Lib.hid (len_lt (n:=3) (by rw [show(1073741824:Nat) ^ 3=1237940039285380274899124224 from by decide];omega) (by omega))
 have hcmp:decide (cmpI (z.natAbs:Int) t<0)=decide ((z.natAbs:Int)<t):=by
  by_cases h1:(z.natAbs:Int)<t
  ·rw [cmpI_lt h1];simp [h1]
  ·unfold cmpI;rw [if_neg h1];split <;> simp [h1]
 have HC:=Lib.hid hcmp
 clear h hz hcmp
 obtain⟨x1,hw,hx,Kb⟩:=boxQ1 w #[.bool n,.slice a q c] 42
 replace hw:=Lib.hid hw
 have HV1:=Lib.hid (HV.out.ext hx)
 clear HV
 go_enter Tryz.func57,Tryz.ntmps57
 go_upto_region 1 with fail
 try simp only [Nat.add_assoc,Nat.reduceAdd,Nat.add_zero]
 rw [hw.out]
 clear hw
 have hs0:=hx.size
 obtain⟨cb0,cb1⟩:=bk2 Kb
 have g0:=(Kb.out).cell (i:=0) (v:=.bool n) rfl
 have z0:=(Kb.out).free 0
 go_upto_region 2 with fail
 clear g0 z0
 clear cb0 cb1
 replace HV1:=Lib.hid (HV1.out.put Kb.out (noInt_of rfl) 0 (.bool false))
 replace hx:=hx.set (p:=⟨w.heap.size,0,none⟩) (by dsimp only;omega) (.bool false)
 replace Kb:=Lib.hid (Kb.out.set 0 (.bool false))
 replace Kb:=Lib.hid (show Blk _ _ #[.bool false,.slice a q c] 42 from Kb.out)
 generalize (x1).setCell ⟨w.heap.size,0,none⟩ (.bool false)=x2 at *
 go_cut [5] (fun s wx=>s=.int .i64 (cmpI (z.natAbs:Int) t)∧Ext w wx)
 case first=>
  have s0:World.cell? x2 ⟨w.heap.size,0,none⟩=some (.bool false):=Kb.out.cell (i:=0) (v:=.bool false) rfl
  have s1:World.cell? x2 ⟨w.heap.size,1,none⟩=some (.slice a q c):=Kb.out.cell (i:=1) (v:=.slice a q c) rfl
  have hE:Ext x2 (World.drew x2):=(Ext.refl _).drew
  have hyd:Ext x2 (World.drew x2):=(Ext.refl _).drew
  replace hx:=hx.trans hyd
  replace Kb:=kE Kb hyd
  replace HV1:=Lib.hid (HV1.out.ext hyd)
  clear hyd
  replace s0:World.cell? (World.drew x2) ⟨w.heap.size,0,none⟩=some (.bool false):=s0
  replace s1:World.cell? (World.drew x2) ⟨w.heap.size,1,none⟩=some (.slice a q c):=s1
  refine wp_region_held_drew (S:=(fun w'=>World.cell? w' ⟨w.heap.size,0,none⟩=some (.bool false)∧World.cell? w' ⟨w.heap.size,1,none⟩=some (.slice a q c))) (by kernel_rfl) ?_ (fun hHeld=>?_)
  ·exact⟨s0,s1⟩
  (try simp only [pur,Nat.reduceAdd])
  generalize World.drew x2=x3 at *
  refine tk (v:=?_) 0 rfl (by kernel_rfl) (fun _ _ _ h=>h) (by rfl) ?_ (by assumption) ?_
  rotate_left
  ·(intro w hSw;(try dsimp only at hSw);(try go_simp);(try with_reducible rfl))
  (try simp only [Act.put,pus])
  refine tk (v:=?_) 1 rfl (by kernel_rfl) (fun _ _ _ h=>h) (by rfl) ?_ (by assumption) ?_
  rotate_left
  ·(intro w hSw;(try dsimp only at hSw);(try go_simp);(try with_reducible rfl))
  (try simp only [Act.put,pus])
  refine wpAnyH_ready (rs:=[2]) (by kernel_rfl) (by simp) ?_
  refine AllReadyH.cons (o:=_) rfl (fun K hK=>?_) ?_
  ·go_simp
   (with_reducible refine(nat_Make t _ (by omega)).mono ?_);rintro e x4 ⟨v1,rfl,hv,hy⟩;replace hE:=hE.trans hy;replace hx:=hx.trans hy;replace s0:=cell_exQ hy s0;replace s1:=cell_exQ hy s1;replace Kb:=kE Kb hy;replace HV1:=Lib.hid (HV1.out.ext hy);clear hy;obtain⟨nt,at1,qt,ct,rfl,hv',-⟩:=hv.two;have Vt:=Lib.hid hv';clear hv'
   refine hK.out _ _ ?_ (fun hHeld2=>?_)
   ·exact⟨s0,s1⟩
   clear hK K hHeld
   have hHeld:=hHeld2
   clear hHeld2
   (try simp only [Act.put,pus])
   refine wpAnyH_ready (rs:=[3]) (by kernel_rfl) (by simp) ?_
   refine AllReadyH.cons (o:=_) rfl (fun K hK=>?_) ?_
   ·go_simp
    (with_reducible refine(cmp_val HV1.out Vt.out HZ.out HT.out).mono ?_);rintro e x5 ⟨rfl,hy⟩;replace hE:=hE.trans hy;replace hx:=hx.trans hy;replace s0:=cell_exQ hy s0;replace s1:=cell_exQ hy s1;replace Kb:=kE Kb hy;replace HV1:=Lib.hid (HV1.out.ext hy);replace Vt:=Lib.hid (Vt.out.ext hy);clear hy
    refine hK.out _ _ ?_ (fun hHeld2=>?_)
    ·exact⟨s0,s1⟩
    clear hK K hHeld
    have hHeld:=hHeld2
    clear hHeld2
    (try simp only [Act.put,pus])
    refine tk (v:=?_) 4 rfl (by kernel_rfl) (fun _ _ _ h=>h) (by rfl) ?_ (by assumption) ?_
    rotate_left
    ·(intro w hSw;(try dsimp only at hSw);(try go_simp);(try with_reducible rfl))
    (try simp only [Act.put,pus])
    refine tk (v:=?_) 5 rfl (by kernel_rfl) (fun _ _ _ h=>h) (by rfl) ?_ (by assumption) ?_
    rotate_left
    ·(intro w hSw;(try dsimp only at hSw);(try go_simp);(try with_reducible rfl))
    (try simp only [Act.put,pus])
    refine tk (v:=?_) 6 rfl (by kernel_rfl) (fun _ _ _ h=>h) (by rfl) ?_ (by assumption) ?_
    rotate_left
    ·(intro w hSw;(try dsimp only at hSw);(try go_simp);(try with_reducible rfl))
    (try simp only [Act.put,pus])
    refine tk (v:=?_) 7 rfl (by kernel_rfl) (fun _ _ _ h=>h) (by rfl) ?_ (by assumption) ?_
    rotate_left
    ·(intro w hSw;(try dsimp only at hSw);(try go_simp);(try with_reducible rfl))
    (try simp only [Act.put,pus])
    refine tk (v:=?_) 8 rfl (by kernel_rfl) (fun _ _ _ h=>h) (by rfl) ?_ (by assumption) ?_
    rotate_left
    ·(intro w hSw;(try dsimp only at hSw);(try go_simp);(try with_reducible rfl))
    (try simp only [Act.put,pus])
    refine wpAnyH_done (by kernel_rfl) ?_ _
    go_wp2_with fail;go_meet;exact⟨rfl,hx⟩
   exact AllReadyH.nil
  exact AllReadyH.nil
 case rest=>
  obtain⟨rfl,hy⟩:=hcut
  have HY:=Lib.hid hy
  clear hy hx Kb HV1
  go_wp2_with fail
  go_ret
  exact⟨congrArg (fun b=>Ending.returned (Value.bool b)) HC.out,HY.out⟩
def smX (x:RatA):Bool:=decide (((sgn x.n (dval x.l)).natAbs:Int)<1152921504606846976) && decide (((sgn x.n2 (dval x.m)).natAbs:Int)<1073741824)
def errX (x:RatA):Int:=if x.ok then(if smX x then 0 else 2) else 100
def elsE:List RatA→Int
 | []=>0
 | x :: L=>if errX x=0 then elsE L else errX x
theorem elsE_drop {L:List RatA} {q:Nat} {x:RatA} (hx:L[q]? =some x):elsE (L.drop q)=if errX x=0 then elsE (L.drop (q+1)) else errX x:=by
 obtain⟨h,rfl⟩:=List.getElem?_eq_some_iff.1 hx
 rw [List.drop_eq_getElem_cons h];rfl
set_option maxHeartbeats 4000000 in
theorem matrix_elements (a:Option Addr) (cap:Nat) (L:List RatA) (w:World) (h:RatsI w a cap L) (hL:L.length≤1000):
 Calls Tryz.prog 34 #[.slice a L.length cap] w fun e w'=>e=.returned (.int .i64 (elsE L))∧Ext w w':=by
 have hle:=h.le
 have hmx:=h.mx
 have HH:=Lib.hid h
 clear h
 go_enter Tryz.func34,Tryz.ntmps34
 go_wp2_with fail
 go_loopw [7] (fun v wr=>∃q:Nat,q≤L.length∧v=.int .i64 q∧elsE L=elsE (L.drop q)∧Ext w wr) (fun v _=>L.length - (intOf v).toNat)
 case atStart=>exact⟨0,Nat.zero_le _,rfl,rfl,Ext.refl _⟩
 case round=>
  obtain⟨q,hq,rfl,hel,hxr⟩:=hrel
  have q0:(0:Int)≤(q:Int):=by omega
  by_cases hqL:q<L.length
  ·have q1:(q:Int)< (L.length:Int):=by omega
   have hw1:IntKind.i64.wrap ((q:Int)+1)= (q:Int)+1:=IntWalk.i64_in _ (by omega)
   obtain⟨b,o,rfl⟩:=HH.out.head hqL
   obtain⟨n,ad,c,l,n2,b',d,m,hLq,c0,c1,c2,c3,hI,hJ⟩:=(HH.out.ext hxr).get hqL
   have hst:=elsE_drop hLq
   have hy:=Ext.alloc wr (.cells #[.bool n,.slice ad l.length c,.bool n2,.slice b' m.length d] 44)
   have Kb:=Lib.hid (Blk.new0 wr #[.bool n,.slice ad l.length c,.bool n2,.slice b' m.length d] 44)
   have HI:=Lib.hid (hI.ext hy)
   have HJ:=Lib.hid (hJ.ext hy)
   have HX:=Lib.hid (hxr.trans hy)
   have HEL:=Lib.hid (hel.trans hst)
   clear hel hst hxr hy hI hJ hLq
   go_upto_region 4 with fail
   generalize wr.alloc (.cells #[.bool n,.slice ad l.length c,.bool n2,.slice b' m.length d] 44)=x1 at *
   generalize wr.heap.size=pb at *
   clear c0 c1 c2 c3
   obtain⟨k0,k1,k2,k3⟩:=bk4 Kb
   go_wp2_with fail
   refine(ratio_Check n n2 ad b' c d l m _ HI.out HJ.out).mono ?_
   rintro e x2 ⟨rfl,hy⟩
   replace HX:=Lib.hid (HX.out.trans hy)
   replace HI:=Lib.hid (HI.out.ext hy)
   replace HJ:=Lib.hid (HJ.out.ext hy)
   replace Kb:=kE Kb hy
   clear k0 k1 k2 k3 hy
   cases hok:okR n l n2 m
   ·have hex:errX ⟨n,ad,c,l,n2,b',d,m⟩=100:=if_neg (by rw [show RatA.ok ⟨n,ad,c,l,n2,b',d,m⟩=false from hok];decide)
    rw [hex] at HEL
    have HE2:Hid (elsE L=100):=HEL
    rw [show errR false=100 from rfl]
    clear HEL hex hok
    go_wp2_with fail
    go_ret
    exact⟨(congrArg (fun z=>Ending.returned (Value.int .i64 z)) HE2.out).symm,HX.out⟩
   ·rw [show errR true=0 from rfl]
    obtain⟨r,g1,g2,g3,g4,g5,g6⟩:=okR_rat hok
    have e1:sgn n (dval l)=r.num:=by have:=g1.2.2;unfold sgn;rw [this]
    have e2:sgn n2 (dval m)= (r.den:Int):=by have:=g2.2.2;unfold sgn;rw [this]
    have hex:errX ⟨n,ad,c,l,n2,b',d,m⟩=if smX ⟨n,ad,c,l,n2,b',d,m⟩ then 0 else 2:=if_pos hok
    have V1:=Lib.hid (show BigV x2 (.agg #[.bool n,.slice ad l.length c]) r.num from⟨n,l,⟨ad,c,rfl,HI.out⟩,g1⟩)
    have V2:=Lib.hid (show BigV x2 (.agg #[.bool n2,.slice b' m.length d]) (r.den:Int) from⟨n2,m,⟨b',d,rfl,HJ.out⟩,g2⟩)
    have L1:=Lib.hid (len_lt g3 g5)
    have L2:=Lib.hid (show Len (r.den:Int) from len_lt (by rw [Int.natAbs_natCast];exact g4) g6)
    rw [hex] at HEL
    have HSM:Hid (smX ⟨n,ad,c,l,n2,b',d,m⟩= (decide ((r.num.natAbs:Int)<1152921504606846976) && decide ((((r.den:Int)).natAbs:Int)<1073741824))):=Lib.hid (by unfold smX;dsimp only;rw [e1,e2])
    clear g1 g2 g3 g4 g5 g6 e1 e2 hex hok
    obtain⟨k0,k1,k2,k3⟩:=bk4 Kb
    go_wp2_with fail
    refine(matrix_below n ad l.length c r.num 1152921504606846976 _ V1.out L1.out (by omega)).mono ?_
    rintro e x3 ⟨rfl,hy⟩
    replace HX:=Lib.hid (HX.out.trans hy)
    replace V2:=Lib.hid (V2.out.ext hy)
    replace Kb:=kE Kb hy
    clear k0 k1 k2 k3 hy V1
    obtain⟨k0,k1,k2,k3⟩:=bk4 Kb
    cases hd:decide ((r.num.natAbs:Int)<1152921504606846976)
    ·have HE2:Hid (elsE L=2):=Lib.hid (by rw [HEL.out,HSM.out,hd];rfl)
     clear HEL HSM hd
     go_wp2_with fail
     go_ret
     exact⟨(congrArg (fun z=>Ending.returned (Value.int .i64 z)) HE2.out).symm,HX.out⟩
    ·go_wp2_with fail
     refine(matrix_below n2 b' m.length d (r.den:Int) 1073741824 _ V2.out L2.out (by omega)).mono ?_
     rintro e x4 ⟨rfl,hy⟩
     replace HX:=Lib.hid (HX.out.trans hy)
     clear k0 k1 k2 k3 hy Kb V2
     cases hd2:decide ((((r.den:Int)).natAbs:Int)<1073741824)
     ·have HE2:Hid (elsE L=2):=Lib.hid (by rw [HEL.out,HSM.out,hd,hd2];rfl)
      clear HEL HSM hd hd2
      go_wp2_with fail
      go_ret
      exact⟨(congrArg (fun z=>Ending.returned (Value.int .i64 z)) HE2.out).symm,HX.out⟩
     ·have HE2:Hid (elsE L=elsE (L.drop (q+1))):=Lib.hid (by rw [HEL.out,HSM.out,hd,hd2];rfl)
      clear HEL HSM hd hd2
      go_wp2_with fail
      go_roundw
      case rel=>exact⟨q+1,by omega,by go_num,HE2.out,HX.out⟩
      case measure=>simp [intOf];omega
  ·have q1:¬ (q:Int)< (L.length:Int):=by omega
   have HE2:Hid (elsE L=0):=Lib.hid (by rw [hel,List.drop_eq_nil_of_le (by omega)];rfl)
   have HX:=Lib.hid hxr
   clear hel hxr
   go_wp2_with fail
   go_ret
   exact⟨(congrArg (fun z=>Ending.returned (Value.int .i64 z)) HE2.out).symm,HX.out⟩
def IsRats (w:World) (v:Value) (L:List RatA):Prop:=∃a c,v=.slice a L.length c∧RatsI w a c L
abbrev RRows:=SlOf IsRats
theorem RRows.ext {w w':World} (he:Ext w w') {a:Option Addr} {cap:Nat} {A:List (List RatA)} (h:RRows w a cap A):RRows w' a cap A:=SlOf.ext (fun _ _ _ _ he ⟨a,c,e,r⟩=>⟨a,c,e,r.ext he⟩) he h
theorem RRows.get {w:World} {b o cap:Nat} {A:List (List RatA)} (h:RRows w (some ⟨b,o,none⟩) cap A) {i:Nat} (hi:i<A.length):
 ∃L ar cr,A[i]? =some L∧w.cell? ⟨b,o+i,none⟩=some (.slice ar L.length cr)∧RatsI w ar cr L:=by
 obtain⟨_,v,hv,ar,cr,rfl,hr⟩:=h.cells _ rfl i hi
 exact⟨A[i],ar,cr,List.getElem?_eq_getElem hi,hv,hr⟩
def rowsE:List (List RatA)→Int
 | []=>0
 | L :: A=>if elsE L=0 then rowsE A else elsE L
theorem rowsE_drop {A:List (List RatA)} {q:Nat} {L:List RatA} (hx:A[q]? =some L):rowsE (A.drop q)=if elsE L=0 then rowsE (A.drop (q+1)) else elsE L:=by
 obtain⟨h,rfl⟩:=List.getElem?_eq_some_iff.1 hx
 rw [List.drop_eq_getElem_cons h];rfl
def chkE (A:List (List RatA)):Int:=
 if 17<A.length then 2 else if A.any (fun L=>decide (17<L.length)) then 2 else if A.any (fun L=>decide (L.length≠(A.getD 0 []).length)) then 110 else rowsE A
theorem chkE_2 {A:List (List RatA)} {L:List RatA} (h:L∈A) (hl:17<L.length):chkE A=2:=by
 unfold chkE
 rw [show A.any (fun L=>decide (17<L.length))=true from List.any_eq_true.2 ⟨L,h,by simpa using hl⟩]
 split <;> simp
theorem chkE_110 {A:List (List RatA)} {L:List RatA} (h0:A.length≤17) (h1:∀L∈A,L.length≤17) (h:L∈A) (hl:L.length≠(A.getD 0 []).length):chkE A=110:=by
 unfold chkE
 rw [if_neg (by omega),if_neg (by
  rw [List.any_eq_true]
  rintro⟨x,hx,h2⟩
  have:=h1 x hx
  simp at h2;omega),if_pos (List.any_eq_true.2 ⟨L,h,by simpa using hl⟩)]
theorem chkE_rows {A:List (List RatA)} (h0:A.length≤17) (h1:∀L∈A,L.length≤17) (h2:∀L∈A,L.length= (A.getD 0 []).length):chkE A=rowsE A:=by
 unfold chkE
 rw [if_neg (by omega),if_neg (by
  rw [List.any_eq_true]
  rintro⟨x,hx,h3⟩
  have:=h1 x hx
  simp at h3;omega),if_neg (by
  rw [List.any_eq_true]
  rintro⟨x,hx,h3⟩
  exact of_decide_eq_true h3 (h2 x hx))]
set_option maxHeartbeats 4000000 in
theorem matrix_Check (a:Option Addr) (cap:Nat) (A:List (List RatA)) (w:World) (h:RRows w a cap A):
 Calls Tryz.prog 13 #[.slice a A.length cap] w fun e w'=>e=.returned (.int .i64 (chkE A))∧Ext w w':=by
 have hle:=h.le
 have hmx:=h.mx
 have HH:=Lib.hid h
 clear h
 go_enter Tryz.func13,Tryz.ntmps13
 by_cases h17:17<A.length
 ·have g1:(A.length:Int) > 17:=by omega
  have HE2:Hid (chkE A=2):=Lib.hid (if_pos h17)
  go_wp2_with fail
  go_ret
  exact⟨(congrArg (fun z=>Ending.returned (Value.int .i64 z)) HE2.out).symm,Ext.refl _⟩
 have g1:¬ (A.length:Int) > 17:=by omega
 go_wp2_with fail
 go_loopw [14] (fun v wr=>∃q:Nat,q≤A.length∧v=.int .i64 q∧(∀ (i:Nat) L,i<q→A[i]? =some L→L.length≤17)∧w=wr) (fun v _=>A.length - (intOf v).toNat)
 case atStart=>exact⟨0,Nat.zero_le _,rfl,fun i L hi=>by omega,rfl⟩
 case round=>
  obtain⟨q,hq,rfl,hal,rfl⟩:=hrel
  have q0:(0:Int)≤(q:Int):=by omega
  by_cases hqA:q<A.length
  ·have q1:(q:Int)< (A.length:Int):=by omega
   have hw1:IntKind.i64.wrap ((q:Int)+1)= (q:Int)+1:=IntWalk.i64_in _ (by omega)
   obtain⟨b,o,rfl⟩:=HH.out.head hqA
   obtain⟨L,ar,cr,hLq,c0,hR⟩:=HH.out.get hqA
   have HLQ:=Lib.hid hLq
   have HAL:=Lib.hid hal
   clear hLq hal hR
   by_cases hl:17<L.length
   ·have g2:(L.length:Int) > 17:=by omega
    have HE2:Hid (chkE A=2):=Lib.hid (chkE_2 (List.mem_of_getElem? HLQ.out) hl)
    go_wp2_with fail
    go_ret
    exact⟨(congrArg (fun z=>Ending.returned (Value.int .i64 z)) HE2.out).symm,Ext.refl _⟩
   ·have g2:¬ (L.length:Int) > 17:=by omega
    go_wp2_with fail
    go_roundw
    case rel=>exact⟨q+1,by omega,by go_num,fun i L' hi hL'=>(by
     by_cases e:i=q
     ·subst e;rw [HLQ.out] at hL';cases hL';omega
     ·exact HAL.out i L' (by omega) hL'),trivial⟩
    case measure=>simp [intOf];omega
  ·have q1:¬ (q:Int)< (A.length:Int):=by omega
   have HA1:Hid (∀L∈A,L.length≤17):=Lib.hid fun L hL=>by
    obtain⟨i,hi,rfl⟩:=List.getElem_of_mem hL
    exact hal i _ (by omega) (List.getElem?_eq_getElem hi)
   clear hal
   go_wp2_with fail
   go_loopw [24] (fun v wr=>∃q:Nat,q≤A.length∧v=.int .i64 q∧(∀ (i:Nat) L,i<q→A[i]? =some L→L.length= (A.getD 0 []).length)∧w=wr) (fun v _=>A.length - (intOf v).toNat)
   case atStart=>exact⟨0,Nat.zero_le _,rfl,fun i L hi=>by omega,rfl⟩
   case round=>
    obtain⟨q,hq,rfl,hal,rfl⟩:=hrel
    have q0:(0:Int)≤(q:Int):=by omega
    by_cases hqA:q<A.length
    ·have q1:(q:Int)< (A.length:Int):=by omega
     have z1:(0:Int)< (A.length:Int):=by omega
     have hw1:IntKind.i64.wrap ((q:Int)+1)= (q:Int)+1:=IntWalk.i64_in _ (by omega)
     obtain⟨b,o,rfl⟩:=HH.out.head hqA
     obtain⟨L,ar,cr,hLq,c0,hR⟩:=HH.out.get hqA
     obtain⟨L0,ar0,cr0,hL0,c00,hR0⟩:=HH.out.get (show 0<A.length by omega)
     simp only [Nat.add_zero] at c00
     have hg0:A.getD 0 []=L0:=by rw [List.getD_eq_getElem?_getD,hL0];rfl
     have HG0:=Lib.hid hg0
     have HLQ:=Lib.hid hLq
     have HAL:=Lib.hid hal
     clear hLq hal hR hL0 hR0 hg0
     by_cases hl:L.length=L0.length
     ·have g2:((L.length:Int) != (L0.length:Int))=false:=by simp [hl]
      have HL:=Lib.hid hl
      clear hl
      go_wp2_with fail
      go_roundw
      case rel=>exact⟨q+1,by omega,by go_num,fun i L' hi hL'=>(by
       by_cases e:i=q
       ·subst e;rw [HLQ.out] at hL';cases hL';rw [HG0.out];exact HL.out
       ·exact HAL.out i L' (by omega) hL'),trivial⟩
      case measure=>simp [intOf];omega
     ·have g2:((L.length:Int) != (L0.length:Int))=true:=by simp;omega
      have HE2:Hid (chkE A=110):=Lib.hid (chkE_110 (by omega) HA1.out (List.mem_of_getElem? HLQ.out) (by rw [HG0.out];exact hl))
      clear hl
      go_wp2_with fail
      go_ret
      exact⟨(congrArg (fun z=>Ending.returned (Value.int .i64 z)) HE2.out).symm,Ext.refl _⟩
    ·have q1:¬ (q:Int)< (A.length:Int):=by omega
     have HA2:Hid (∀L∈A,L.length= (A.getD 0 []).length):=Lib.hid fun L hL=>by
      obtain⟨i,hi,rfl⟩:=List.getElem_of_mem hL
      exact hal i _ (by omega) (List.getElem?_eq_getElem hi)
     have HC:=Lib.hid (chkE_rows (by omega) HA1.out HA2.out)
     clear hal
     go_wp2_with fail
     go_loopw [38] (fun v wr=>∃q:Nat,q≤A.length∧v=.int .i64 q∧rowsE A=rowsE (A.drop q)∧Ext w wr) (fun v _=>A.length - (intOf v).toNat)
     case atStart=>exact⟨0,Nat.zero_le _,rfl,rfl,Ext.refl _⟩
     case round=>
      obtain⟨q,hq,rfl,hel,hxr⟩:=hrel
      have q0:(0:Int)≤(q:Int):=by omega
      by_cases hqA:q<A.length
      ·have q1:(q:Int)< (A.length:Int):=by omega
       have hw1:IntKind.i64.wrap ((q:Int)+1)= (q:Int)+1:=IntWalk.i64_in _ (by omega)
       obtain⟨b,o,rfl⟩:=HH.out.head hqA
       obtain⟨L,ar,cr,hLq,c0,hR⟩:=(RRows.ext hxr HH.out).get hqA
       have hL17:=HA1.out L (List.mem_of_getElem? hLq)
       have HEL:=Lib.hid (hel.trans (rowsE_drop hLq))
       have HR:=Lib.hid hR
       have HX:=Lib.hid hxr
       clear hLq hR hel hxr
       go_wp2_with fail
       refine(matrix_elements ar cr L _ HR.out (by omega)).mono ?_
       rintro e x2 ⟨rfl,hy⟩
       replace HX:=Lib.hid (HX.out.trans hy)
       clear hy c0 HR
       by_cases hz:elsE L=0
       ·have HE2:Hid (rowsE A=rowsE (A.drop (q+1))):=Lib.hid (by rw [HEL.out,if_pos hz])
        rw [hz]
        clear hz HEL
        go_wp2_with fail
        go_roundw
        case rel=>exact⟨q+1,by omega,by go_num,HE2.out,HX.out⟩
        case measure=>simp [intOf];omega
       ·have g3:(elsE L != 0)=true:=by simp [hz]
        have HE2:Hid (chkE A=elsE L):=Lib.hid (by rw [HC.out,HEL.out,if_neg hz])
        clear HEL
        go_wp2_with fail
        go_ret
        exact⟨(congrArg (fun z=>Ending.returned (Value.int .i64 z)) HE2.out).symm,HX.out⟩
      ·have q1:¬ (q:Int)< (A.length:Int):=by omega
       have HE2:Hid (chkE A=0):=Lib.hid (by rw [HC.out,hel,List.drop_eq_nil_of_le (by omega)];rfl)
       have HX:=Lib.hid hxr
       clear hel hxr
       go_wp2_with fail
       go_ret
       exact⟨(congrArg (fun z=>Ending.returned (Value.int .i64 z)) HE2.out).symm,HX.out⟩
def vecE (A:List (List RatA)) (L:List RatA) (n:Int):Int:=if chkE A≠0 then chkE A else if (L.length:Int)≠n then 110 else elsE L
set_option maxHeartbeats 4000000 in
theorem matrix_vector (a:Option Addr) (cap:Nat) (A:List (List RatA)) (s:Option Addr) (sc:Nat) (L:List RatA) (n:Int) (w:World) (h:RRows w a cap A) (k:RatsI w s sc L) (hL:L.length≤1000):
 Calls Tryz.prog 30 #[.slice a A.length cap,.slice s L.length sc,.int .i64 n] w fun e w'=>e=.returned (.int .i64 (vecE A L n))∧Ext w w':=by
 have hle:=h.le
 have hmx:=h.mx
 have sle:=k.le
 have smx:=k.mx
 have HC:=Lib.hid (matrix_Check a cap A w h)
 have HK:=Lib.hid k
 clear h k
 go_enter Tryz.func30,Tryz.ntmps30
 go_wp2_with fail
 refine HC.out.mono ?_
 rintro e x1 ⟨rfl,hy⟩
 have HX:=Lib.hid hy
 have HK1:=Lib.hid (HK.out.ext hy)
 clear hy HC HK
 by_cases hz:chkE A=0
 ·rw [hz]
  by_cases hn:(L.length:Int)=n
  ·have HE2:Hid (vecE A L n=elsE L):=Lib.hid (by unfold vecE;rw [if_neg (by simpa using hz),if_neg (by simpa using hn)])
   have g1:((L.length:Int) != n)=false:=by simp [hn]
   clear hz hn
   go_wp2_with fail
   refine(matrix_elements s sc L _ HK1.out hL).mono ?_
   rintro e x2 ⟨rfl,hy⟩
   replace HX:=Lib.hid (HX.out.trans hy)
   clear hy
   go_wp2_with fail
   go_ret
   exact⟨(congrArg (fun z=>Ending.returned (Value.int .i64 z)) HE2.out).symm,HX.out⟩
  ·have HE2:Hid (vecE A L n=110):=Lib.hid (by unfold vecE;rw [if_neg (by simpa using hz),if_pos hn])
   have g1:((L.length:Int) != n)=true:=by simp [hn]
   clear hz hn
   go_wp2_with fail
   go_ret
   exact⟨(congrArg (fun z=>Ending.returned (Value.int .i64 z)) HE2.out).symm,HX.out⟩
 ·have HE2:Hid (vecE A L n=chkE A):=Lib.hid (by unfold vecE;rw [if_pos hz])
  have g1:(chkE A != 0)=true:=by simp [hz]
  clear hz
  go_wp2_with fail
  go_ret
  exact⟨(congrArg (fun z=>Ending.returned (Value.int .i64 z)) HE2.out).symm,HX.out⟩
theorem matrix_width (a:Option Addr) (cap m N:Nat) (w:World) (hc:0<m→∃b o a' c',a=some ⟨b,o,none⟩∧w.cell? ⟨b,o,none⟩=some (.slice a' N c')):
 Calls Tryz.prog 27 #[.slice a m cap] w fun e w'=>e=.returned (.int .i64 (if m=0 then 0 else(N:Int)))∧w=w':=by
 by_cases hm:m=0
 ·subst hm
  rw [if_pos rfl]
  go_enter Tryz.func27,Tryz.ntmps27
  go_wp2_with fail
  go_ret
  exact⟨rfl,rfl⟩
 ·rw [if_neg hm]
  obtain⟨b,o,a',c',rfl,c0⟩:=hc (by omega)
  have m1:((m:Int) == 0)=false:=by simp [hm]
  have m2:(0:Int)< (m:Int):=by omega
  have m3:¬ (m:Int)=0:=by omega
  go_enter Tryz.func27,Tryz.ntmps27
  go_wp2_with fail
  go_ret
  exact⟨rfl,rfl⟩
end Go.Proofs.YtokffagbdfhnnaaGreat
