import Derived.Test.YtonkhcdmchidjaaGreatQM1
import Derived.Test.YtonkhcdmchidjaaGreatPRefD
import Derived.Test.YtonkhcdmchidjaaGreatR0
set_option maxHeartbeats 4000000
namespace Go.Proofs.YtonkhcdmchidjaaGreat
open Go.RowKit Go BigFrame
set_option maxRecDepth 100000
set_option linter.all false
structure RatI (w:World) (x:RatA):Prop where
 i:Ints w x.a x.c x.l
 j:Ints w x.b x.d x.m
theorem RatI.ext {w w':World} {x:RatA} (h:RatI w x) (k:Ext w w'):RatI w' x:=⟨h.i.ext k,h.j.ext k⟩
structure RatsI (w:World) (a:Option Addr) (cap:Nat) (L:List RatA):Prop where
 le:L.length≤cap
 mx:cap≤9223372036854775807
 nil:a=none→cap=0
 cells:∀A,a=some A→∀i (h:i<L.length),A.spot=none∧w.cell? ⟨A.block,A.off+i*4,none⟩=some (.bool L[i].n)∧w.cell? ⟨A.block,A.off+i*4+1,none⟩=some (.slice L[i].a L[i].l.length L[i].c)∧
  w.cell? ⟨A.block,A.off+i*4+2,none⟩=some (.bool L[i].n2)∧w.cell? ⟨A.block,A.off+i*4+3,none⟩=some (.slice L[i].b L[i].m.length L[i].d)
 ints:∀i (h:i<L.length),RatI w L[i]
theorem RatsI.ext {w w':World} {a:Option Addr} {cap:Nat} {L:List RatA} (h:RatsI w a cap L) (k:Ext w w'):RatsI w' a cap L:=
 ⟨h.le,h.mx,h.nil,fun A hA i hi=>by
  obtain⟨h0,h1,h2,h3,h4⟩:=h.cells A hA i hi
  exact⟨h0,zA0 k h1,zA0 k h2,zA0 k h3,zA0 k h4⟩,fun i hi=>(h.ints i hi).ext k⟩
theorem RatsI.head {w:World} {a:Option Addr} {cap:Nat} {L:List RatA} (h:RatsI w a cap L) {i:Nat} (hi:i<L.length):∃b o,a=some ⟨b,o,none⟩:=by
 cases a with
 | none=>have:=h.nil rfl;have:=h.le;omega
 | some A=>
  obtain⟨h0,_⟩:=h.cells A rfl i hi;obtain⟨b,o,s⟩:=A;simp only at h0;exact⟨b,o,by rw [h0]⟩
theorem RatsI.get {w:World} {b o cap:Nat} {L:List RatA} (h:RatsI w (some ⟨b,o,none⟩) cap L) {i:Nat} (hi:i<L.length):
 ∃n a c l n2 b' d m,L[i]? =some ⟨n,a,c,l,n2,b',d,m⟩∧w.cell? ⟨b,o+i*4,none⟩=some (.bool n)∧w.cell? ⟨b,o+i*4+1,none⟩=some (.slice a l.length c)∧
  w.cell? ⟨b,o+i*4+2,none⟩=some (.bool n2)∧w.cell? ⟨b,o+i*4+3,none⟩=some (.slice b' m.length d)∧Ints w a c l∧Ints w b' d m:=by
 obtain⟨_,h1,h2,h3,h4⟩:=h.cells _ rfl i hi;have hr:=h.ints i hi;exact⟨L[i].n,L[i].a,L[i].c,L[i].l,L[i].n2,L[i].b,L[i].d,L[i].m,List.getElem?_eq_getElem hi,h1,h2,h3,h4,hr.i,hr.j⟩
def ValL (L:List RatA) (S:List Rat) (k:Nat):Prop:=L.length=S.length∧∀ (i:Nat) (x:RatA) (r:Rat),L[i]? =some x→S[i]? =some r→Sz r k∧∀w,RatI w x→RatV w x.val r
theorem RatsI.val {w:World} {b o cap:Nat} {L:List RatA} {S:List Rat} {k:Nat} (h:RatsI w (some ⟨b,o,none⟩) cap L) (hv:ValL L S k) {i:Nat} (hi:i<S.length):
 ∃n a q c n2 b' k' d,w.cell? ⟨b,o+i*4,none⟩=some (.bool n)∧w.cell? ⟨b,o+i*4+1,none⟩=some (.slice a q c)∧w.cell? ⟨b,o+i*4+2,none⟩=some (.bool n2)∧w.cell? ⟨b,o+i*4+3,none⟩=some (.slice b' k' d)∧
  RatV w (.agg #[.bool n,.slice a q c,.bool n2,.slice b' k' d]) S[i]∧Sz S[i] k:=by
 have hi':i<L.length:=by rw [hv.1];exact hi
 obtain⟨_,h1,h2,h3,h4⟩:=h.cells _ rfl i hi';obtain⟨hz,hr⟩:=hv.2 i _ _ (List.getElem?_eq_getElem hi') (List.getElem?_eq_getElem hi);exact⟨_,_,_,_,_,_,_,_,h1,h2,h3,h4,hr w (h.ints i hi'),hz⟩
end Go.Proofs.YtonkhcdmchidjaaGreat
namespace Go.Proofs.YtonkhcdmchidjaaGreat
open Go.RowKit Go BigFrame Go.Shelf
set_option maxRecDepth 100000
set_option linter.all false
attribute [local go_sem] Oper.semAt_some
def zNN (r:Rat) (w:World) (e:Ending) (w':World):Prop:=∃v,e=.returned v∧RatN w' v r w.heap.size∧Ext w w'
theorem zLm:Rat.divInt 0 1=0:=by decide +kernel
theorem zHQ (w:World):Calls Tryz.prog 181 #[] w (zNN 0 w):=by
 obtain⟨x1,hw,hx,Kr⟩:=zCh w #[.bool false,.slice none 0 0,.bool false,.slice none 0 0] 38;replace hw:=dH hw;go_enter Tryz.func181,Tryz.ntmps181;go_upto_region 1 with fail
 try simp only [Nat.add_assoc,Nat.reduceAdd,Nat.add_zero]
 rw [hw.out];clear hw;have hs0:=hx.size;have hsz:=hx.size;go_wp2_with fail
 with_reducible refine(zFv 0 1 _ (by omega) (by omega) (by omega)).mono ?_
 rintro e x2 ⟨v,rfl,hv,hy⟩;replace hx:=hx.trans hy;replace Kr:=kE Kr hy;clear hy;obtain⟨nv,av,qv,cv,bv,kv,dv,rfl,hv',hf',hg'⟩:=hv;have Vv:=dH hv';have Fv:=dH (fun A hA=>Nat.le_trans hsz (hf' A hA));have Gv:=dH (fun A hA=>Nat.le_trans hsz (hg' A hA));clear hv' hf' hg' hsz;rw [zLm] at Vv;go_upto_region 2 with fail;have hl:=Ext.alloc x2 (.cells #[.bool nv,.slice av qv cv,.bool false,.slice bv kv dv] 38);have lrx:w.heap.size<x2.heap.size:=Kr.out.lt;have hpx:w.heap.size≤x2.heap.size:=hx.size;replace hx:=hx.trans hl;replace Kr:=kE Kr hl;replace Vv:=dH (Vv.out.ext hl);have Kx:=dH (Blk.new0 x2 #[.bool nv,.slice av qv cv,.bool false,.slice bv kv dv] 38);clear hl;generalize x2.alloc (.cells #[.bool nv,.slice av qv cv,.bool false,.slice bv kv dv] 38)=x3 at *;generalize x2.heap.size=px at *;obtain⟨cx0,cx1,cx2,cx3⟩:=bk4 Kx;obtain⟨g0,z0,g1,z1,g2,z2,g3,z3⟩:=bp4 Kr (.bool nv) (.slice av qv cv) (.bool false) (.slice bv kv dv);go_wp2_with fail;clear g0 z0 g1 z1 g2 z2 g3 z3;clear cx0 cx1 cx2 cx3;replace Vv:=(by first | exact rv4 Vv Kr (.bool nv) (.slice av qv cv) (.bool false) (.slice bv kv dv) rfl rfl rfl rfl | exact bv4 Vv Kr (.bool nv) (.slice av qv cv) (.bool false) (.slice bv kv dv) rfl rfl rfl rfl)
 replace hx:=bx4 hx (w.heap.size) (.bool nv) (.slice av qv cv) (.bool false) (.slice bv kv dv) (by omega);replace Kr:=bs4 Kr (.bool nv) (.slice av qv cv) (.bool false) (.slice bv kv dv);replace Kx:=bo4 Kx (w.heap.size) (.bool nv) (.slice av qv cv) (.bool false) (.slice bv kv dv) (by omega);generalize ((((x3).setCell ⟨w.heap.size,0,none⟩ (.bool nv)).setCell ⟨w.heap.size,1,none⟩ (.slice av qv cv)).setCell ⟨w.heap.size,2,none⟩ (.bool false)).setCell ⟨w.heap.size,3,none⟩ (.slice bv kv dv)=x4 at *;obtain⟨cr0,cr1,cr2,cr3⟩:=bk4 Kr;refine bodyPost_ret (v:=.agg #[.bool nv,.slice av qv cv,.bool false,.slice bv kv dv]) (by simp [results,Tryz.results181,go_sem,cr0,cr1,cr2,cr3]) rfl ?_;exact⟨_,rfl,⟨_,_,_,_,_,_,_,rfl,Vv.out,Fv.out,Gv.out⟩,hx⟩
theorem BigV.absU {n:Bool} {a:Option Addr} {q c:Nat} {z:Int} {w:World} (h:BigV w (.agg #[.bool n,.slice a q c]) z):BigV w (.agg #[.bool false,.slice a q c]) (z.natAbs:Int):=by
 obtain⟨n',l,⟨a',c',e,hi⟩,hb⟩:=h;simp only [Value.agg.injEq,Array.mk.injEq,List.cons.injEq,Value.bool.injEq,Value.slice.injEq,and_true] at e;obtain⟨rfl,rfl,rfl,rfl⟩:=e;have h0:=zA2 hb.1.digs;have h1:=hb.2.2;refine⟨false,l,⟨a,c,rfl,hi⟩,hb.1,fun h=>(by cases h),?_⟩;show(z.natAbs:Int)=zA1 l;cases n
 ·rw [if_neg (by decide)] at h1;omega
 ·rw [if_pos rfl] at h1;omega
theorem zE2 (n:Bool) (a:Option Addr) (q c:Nat) (z t:Int) (w:World) (h:BigV w (.agg #[.bool n,.slice a q c]) z) (hz:Len z) (ht:0≤t∧t≤9223372036854775807):
 Calls Tryz.prog 206 #[.agg #[.bool n,.slice a q c],.int .i64 t] w fun e w'=>e=.returned (.bool (decide ((z.natAbs:Int)<t)))∧Ext w w':=by
 have HV:=dH h.absU;have HZ:=dH (show Len (z.natAbs:Int) from hz);have HT:Hid (Len t):=dH (zBz (n:=3) (by rw [show(1073741824:Nat) ^ 3=1237940039285380274899124224 from by decide];omega) (by omega));have hcmp:decide (zBS (z.natAbs:Int) t<0)=decide ((z.natAbs:Int)<t):=by
  by_cases h1:(z.natAbs:Int)<t
  ·rw [zDK h1];simp [h1]
  ·unfold zBS;rw [if_neg h1];split <;> simp [h1]
 have HC:=dH hcmp;clear h hz hcmp;obtain⟨x1,hw,hx,Kb⟩:=zCh w #[.bool n,.slice a q c] 36;replace hw:=dH hw;have HV1:=dH (HV.out.ext hx);clear HV;go_enter Tryz.func206,Tryz.ntmps206;go_upto_region 1 with fail
 try simp only [Nat.add_assoc,Nat.reduceAdd,Nat.add_zero]
 rw [hw.out];clear hw;have hs0:=hx.size;obtain⟨cb0,cb1⟩:=bk2 Kb;have g0:=(Kb.out).cell (i:=0) (v:=.bool n) rfl;have z0:=(Kb.out).free 0;go_upto_region 2 with fail;clear g0 z0;clear cb0 cb1;replace HV1:=dH (HV1.out.put Kb.out (zAc rfl) 0 (.bool false));replace hx:=hx.set (p:=⟨w.heap.size,0,none⟩) (by dsimp only;omega) (.bool false);replace Kb:=dH (Kb.out.set 0 (.bool false));replace Kb:=dH (show Blk _ _ #[.bool false,.slice a q c] 36 from Kb.out);generalize (x1).setCell ⟨w.heap.size,0,none⟩ (.bool false)=x2 at *
 go_cut [5] (fun s wx=>s=.int .i64 (zBS (z.natAbs:Int) t)∧Ext w wx)
 case first=>
  have s0:x2.cell? ⟨w.heap.size,0,none⟩=some (.bool false):=Kb.out.cell (i:=0) (v:=.bool false) rfl;have s1:x2.cell? ⟨w.heap.size,1,none⟩=some (.slice a q c):=Kb.out.cell (i:=1) (v:=.slice a q c) rfl;have hE:Ext x2 (World.drew x2):=(Ext.refl _).drew;have hyd:Ext x2 (World.drew x2):=(Ext.refl _).drew;replace hx:=hx.trans hyd;replace Kb:=kE Kb hyd;replace HV1:=dH (HV1.out.ext hyd);clear hyd;replace s0:World.cell? (World.drew x2) ⟨w.heap.size,0,none⟩=some (.bool false):=s0;replace s1:World.cell? (World.drew x2) ⟨w.heap.size,1,none⟩=some (.slice a q c):=s1;refine wp_region_held_drew (S:=(fun w'=>w'.cell? ⟨w.heap.size,0,none⟩=some (.bool false)∧w'.cell? ⟨w.heap.size,1,none⟩=some (.slice a q c))) (by kernel_rfl) ?_ (fun hHeld=>?_)
  ·exact⟨s0,s1⟩
  (try simp only [pur,Nat.reduceAdd])
  generalize World.drew x2=x3 at *
  iterate 2
   refine tkR [0,1] (v:=?_) rfl rfl (by kernel_rfl) (fun _ _ _ h=>h) (by rfl) ?_ (by assumption) ?_;rotate_left
   ·(intro w hSw;(try dsimp only at hSw);(try go_simp);(try with_reducible rfl))
   (try simp only [Act.put,pus])
  refine wpAnyH_ready (rs:=[2]) (by kernel_rfl) (by simp) ?_;refine AllReadyH.cons (o:=_) rfl (fun K hK=>?_) ?_
  ·go_simp
   (with_reducible refine(zFX t _ (by omega)).mono ?_);rintro e x4 ⟨v1,rfl,hv,hy⟩;replace hE:=hE.trans hy;replace hx:=hx.trans hy;replace s0:=zA0 hy s0;replace s1:=zA0 hy s1;replace Kb:=kE Kb hy;replace HV1:=dH (HV1.out.ext hy);clear hy;obtain⟨nt,at1,qt,ct,rfl,hv',-⟩:=hv.two;have Vt:=dH hv';clear hv'
   refine hK.out _ _ ?_ ?_
   ·exact⟨s0,s1⟩
   clear hK K hHeld;intro hHeld
   (try simp only [Act.put,pus])
   refine wpAnyH_ready (rs:=[3]) (by kernel_rfl) (by simp) ?_;refine AllReadyH.cons (o:=_) rfl (fun K hK=>?_) ?_
   ·go_simp
    (with_reducible refine(zMC HV1.out Vt.out HZ.out HT.out).mono ?_);rintro e x5 ⟨rfl,hy⟩;replace hE:=hE.trans hy;replace hx:=hx.trans hy;replace s0:=zA0 hy s0;replace s1:=zA0 hy s1;replace Kb:=kE Kb hy;replace HV1:=dH (HV1.out.ext hy);replace Vt:=dH (Vt.out.ext hy);clear hy
    refine hK.out _ _ ?_ ?_
    ·exact⟨s0,s1⟩
    clear hK K hHeld;intro hHeld
    (try simp only [Act.put,pus])
    iterate 5
     refine tkR [4,5,6,7,8] (v:=?_) rfl rfl (by kernel_rfl) (fun _ _ _ h=>h) (by rfl) ?_ (by assumption) ?_;rotate_left
     ·(intro w hSw;(try dsimp only at hSw);(try go_simp);(try with_reducible rfl))
     (try simp only [Act.put,pus])
    refine wpAnyH_done (by kernel_rfl) ?_ _
    go_wp2_with fail;go_meet;exact⟨rfl,hx⟩
   exact AllReadyH.nil
  exact AllReadyH.nil
 case rest=>
  obtain⟨rfl,hy⟩:=hcut;have HY:=dH hy;clear hy hx Kb HV1;go_wp2_with fail;go_ret;exact⟨congrArg (fun b=>Ending.returned (Value.bool b)) HC.out,HY.out⟩
def smX (x:RatA):Bool:=decide (((sgn x.n (zA1 x.l)).natAbs:Int)<1152921504606846976) && decide (((sgn x.n2 (zA1 x.m)).natAbs:Int)<1073741824)
def zGw (x:RatA):Int:=if x.ok then(if smX x then 0 else 2) else 100
def zDh:List RatA→Int
 | []=>0
 | x :: L=>if zGw x=0 then zDh L else zGw x
theorem zJQ {L:List RatA} {q:Nat} {x:RatA} (hx:L[q]? =some x):zDh (L.drop q)=if zGw x=0 then zDh (L.drop (q+1)) else zGw x:=by
 obtain⟨h,rfl⟩:=List.getElem?_eq_some_iff.1 hx;rw [List.drop_eq_getElem_cons h];rfl
theorem zCr (a:Option Addr) (cap:Nat) (L:List RatA) (w:World) (h:RatsI w a cap L) (hL:L.length≤1000):
 Calls Tryz.prog 176 #[.slice a L.length cap] w fun e w'=>e=.returned (.int .i64 (zDh L))∧Ext w w':=by
 have hle:=h.le;have hmx:=h.mx;have HH:=dH h;clear h;go_enter Tryz.func176,Tryz.ntmps176;go_wp2_with fail
 go_loopw [7] (fun v wr=>∃q:Nat,q≤L.length∧v=.int .i64 q∧zDh L=zDh (L.drop q)∧Ext w wr) (fun v _=>L.length - (intOf v).toNat)
 case atStart=>exact⟨0,Nat.zero_le _,rfl,rfl,Ext.refl _⟩
 case round=>
  obtain⟨q,hq,rfl,hel,hxr⟩:=hrel;have q0:(0:Int)≤(q:Int):=by omega
  by_cases hqL:q<L.length
  ·have q1:(q:Int)< (L.length:Int):=by omega
   have hw1:IntKind.i64.wrap ((q:Int)+1)= (q:Int)+1:=IntWalk.i64_in _ (by omega);obtain⟨b,o,rfl⟩:=HH.out.head hqL;obtain⟨n,ad,c,l,n2,b',d,m,hLq,c0,c1,c2,c3,hI,hJ⟩:=(HH.out.ext hxr).get hqL;have hst:=zJQ hLq;have hy:=Ext.alloc wr (.cells #[.bool n,.slice ad l.length c,.bool n2,.slice b' m.length d] 38);have Kb:=dH (Blk.new0 wr #[.bool n,.slice ad l.length c,.bool n2,.slice b' m.length d] 38);have HI:=dH (hI.ext hy);have HJ:=dH (hJ.ext hy);have HX:=dH (hxr.trans hy);have HEL:=dH (hel.trans hst);clear hel hst hxr hy hI hJ hLq;go_upto_region 4 with fail;generalize wr.alloc (.cells #[.bool n,.slice ad l.length c,.bool n2,.slice b' m.length d] 38)=x1 at *;generalize wr.heap.size=pb at *;clear c0 c1 c2 c3;obtain⟨k0,k1,k2,k3⟩:=bk4 Kb;go_wp2_with fail;refine(zCa n n2 ad b' c d l m _ HI.out HJ.out).mono ?_;rintro e x2 ⟨rfl,hy⟩;replace HX:=dH (HX.out.trans hy);replace HI:=dH (HI.out.ext hy);replace HJ:=dH (HJ.out.ext hy);replace Kb:=kE Kb hy;clear k0 k1 k2 k3 hy;cases hok:okR n l n2 m
   ·have hex:zGw ⟨n,ad,c,l,n2,b',d,m⟩=100:=if_neg (by rw [show RatA.ok ⟨n,ad,c,l,n2,b',d,m⟩=false from hok];decide);rw [hex] at HEL;have HE2:Hid (zDh L=100):=HEL;rw [show zMS false=100 from rfl];clear HEL hex hok;go_wp2_with fail;go_ret;exact⟨(congrArg (fun z=>Ending.returned (Value.int .i64 z)) HE2.out).symm,HX.out⟩
   ·rw [show zMS true=0 from rfl];obtain⟨r,g1,g2,g3,g4,g5,g6⟩:=zJH hok;have e1:sgn n (zA1 l)=r.num:=by have:=g1.2.2;unfold sgn;rw [this]
    have e2:sgn n2 (zA1 m)= (r.den:Int):=by have:=g2.2.2;unfold sgn;rw [this]
    have hex:zGw ⟨n,ad,c,l,n2,b',d,m⟩=if smX ⟨n,ad,c,l,n2,b',d,m⟩ then 0 else 2:=if_pos hok;have V1:=dH (show BigV x2 (.agg #[.bool n,.slice ad l.length c]) r.num from⟨n,l,⟨ad,c,rfl,HI.out⟩,g1⟩);have V2:=dH (show BigV x2 (.agg #[.bool n2,.slice b' m.length d]) (r.den:Int) from⟨n2,m,⟨b',d,rfl,HJ.out⟩,g2⟩);have L1:=dH (zBz g3 g5);have L2:=dH (show Len (r.den:Int) from zBz (by rw [Int.natAbs_natCast];exact g4) g6);rw [hex] at HEL;have HSM:Hid (smX ⟨n,ad,c,l,n2,b',d,m⟩= (decide ((r.num.natAbs:Int)<1152921504606846976) && decide ((((r.den:Int)).natAbs:Int)<1073741824))):=dH (by unfold smX;dsimp only;rw [e1,e2]);clear g1 g2 g3 g4 g5 g6 e1 e2 hex hok;obtain⟨k0,k1,k2,k3⟩:=bk4 Kb;go_wp2_with fail;refine(zE2 n ad l.length c r.num 1152921504606846976 _ V1.out L1.out (by omega)).mono ?_;rintro e x3 ⟨rfl,hy⟩;replace HX:=dH (HX.out.trans hy);replace V2:=dH (V2.out.ext hy);replace Kb:=kE Kb hy;clear k0 k1 k2 k3 hy V1;obtain⟨k0,k1,k2,k3⟩:=bk4 Kb;cases hd:decide ((r.num.natAbs:Int)<1152921504606846976)
    ·have HE2:Hid (zDh L=2):=dH (by rw [HEL.out,HSM.out,hd];rfl);clear HEL HSM hd;go_wp2_with fail;go_ret;exact⟨(congrArg (fun z=>Ending.returned (Value.int .i64 z)) HE2.out).symm,HX.out⟩
    ·go_wp2_with fail;refine(zE2 n2 b' m.length d (r.den:Int) 1073741824 _ V2.out L2.out (by omega)).mono ?_;rintro e x4 ⟨rfl,hy⟩;replace HX:=dH (HX.out.trans hy);clear k0 k1 k2 k3 hy Kb V2;cases hd2:decide ((((r.den:Int)).natAbs:Int)<1073741824)
     ·have HE2:Hid (zDh L=2):=dH (by rw [HEL.out,HSM.out,hd,hd2];rfl);clear HEL HSM hd hd2;go_wp2_with fail;go_ret;exact⟨(congrArg (fun z=>Ending.returned (Value.int .i64 z)) HE2.out).symm,HX.out⟩
     ·have HE2:Hid (zDh L=zDh (L.drop (q+1))):=dH (by rw [HEL.out,HSM.out,hd,hd2];rfl);clear HEL HSM hd hd2;go_wp2_with fail;go_roundw
      case rel=>exact⟨q+1,by omega,by go_num,HE2.out,HX.out⟩
      case measure=>simp [intOf];omega
  ·have q1:¬ (q:Int)< (L.length:Int):=by omega
   have HE2:Hid (zDh L=0):=dH (by rw [hel,List.drop_eq_nil_of_le (by omega)];rfl);have HX:=dH hxr;clear hel hxr;go_wp2_with fail;go_ret;exact⟨(congrArg (fun z=>Ending.returned (Value.int .i64 z)) HE2.out).symm,HX.out⟩
def IsRats (w:World) (v:Value) (L:List RatA):Prop:=∃a c,v=.slice a L.length c∧RatsI w a c L
abbrev RRows:=SlOf IsRats
theorem RRows.ext {w w':World} (he:Ext w w') {a:Option Addr} {cap:Nat} {A:List (List RatA)} (h:RRows w a cap A):RRows w' a cap A:=SlOf.ext (fun _ _ _ _ he ⟨a,c,e,r⟩=>⟨a,c,e,r.ext he⟩) he h
theorem RRows.get {w:World} {b o cap:Nat} {A:List (List RatA)} (h:RRows w (some ⟨b,o,none⟩) cap A) {i:Nat} (hi:i<A.length):
 ∃L ar cr,A[i]? =some L∧w.cell? ⟨b,o+i,none⟩=some (.slice ar L.length cr)∧RatsI w ar cr L:=by
 obtain⟨_,v,hv,ar,cr,rfl,hr⟩:=h.cells _ rfl i hi;exact⟨A[i],ar,cr,List.getElem?_eq_getElem hi,hv,hr⟩
def zDO:List (List RatA)→Int
 | []=>0
 | L :: A=>if zDh L=0 then zDO A else zDh L
theorem zJ3 {A:List (List RatA)} {q:Nat} {L:List RatA} (hx:A[q]? =some L):zDO (A.drop q)=if zDh L=0 then zDO (A.drop (q+1)) else zDh L:=by
 obtain⟨h,rfl⟩:=List.getElem?_eq_some_iff.1 hx;rw [List.drop_eq_getElem_cons h];rfl
def zE3 (A:List (List RatA)):Int:=
 if 17<A.length then 2 else if A.any (fun L=>decide (17<L.length)) then 2 else if A.any (fun L=>decide (L.length≠(A.getD 0 []).length)) then 110 else zDO A
theorem zNO {A:List (List RatA)} {L:List RatA} (h:L∈A) (hl:17<L.length):zE3 A=2:=by
 unfold zE3;rw [show A.any (fun L=>decide (17<L.length))=true from List.any_eq_true.2 ⟨L,h,by simpa using hl⟩]
 split <;> simp
theorem zLn {A:List (List RatA)} {L:List RatA} (h0:A.length≤17) (h1:∀L∈A,L.length≤17) (h:L∈A) (hl:L.length≠(A.getD 0 []).length):zE3 A=110:=by
 unfold zE3
 rw [if_neg (by omega),if_neg (by
  rw [List.any_eq_true];rintro⟨x,hx,h2⟩;have:=h1 x hx
  simp at h2;omega),if_pos (List.any_eq_true.2 ⟨L,h,by simpa using hl⟩)]
theorem zGS {A:List (List RatA)} (h0:A.length≤17) (h1:∀L∈A,L.length≤17) (h2:∀L∈A,L.length= (A.getD 0 []).length):zE3 A=zDO A:=by
 unfold zE3
 rw [if_neg (by omega),if_neg (by
  rw [List.any_eq_true];rintro⟨x,hx,h3⟩;have:=h1 x hx
  simp at h3;omega),if_neg (by
  rw [List.any_eq_true];rintro⟨x,hx,h3⟩
  exact of_decide_eq_true h3 (h2 x hx))]
theorem zGT (a:Option Addr) (cap:Nat) (A:List (List RatA)) (w:World) (h:RRows w a cap A):
 Calls Tryz.prog 175 #[.slice a A.length cap] w fun e w'=>e=.returned (.int .i64 (zE3 A))∧Ext w w':=by
 have hle:=h.le;have hmx:=h.mx;have HH:=dH h;clear h;go_enter Tryz.func175,Tryz.ntmps175;by_cases h17:17<A.length
 ·have g1:(A.length:Int) > 17:=by omega
  have HE2:Hid (zE3 A=2):=dH (if_pos h17);go_wp2_with fail;go_ret;exact⟨(congrArg (fun z=>Ending.returned (Value.int .i64 z)) HE2.out).symm,Ext.refl _⟩
 have g1:¬ (A.length:Int) > 17:=by omega
 go_wp2_with fail
 go_loopw [14] (fun v wr=>∃q:Nat,q≤A.length∧v=.int .i64 q∧(∀ (i:Nat) L,i<q→A[i]? =some L→L.length≤17)∧w=wr) (fun v _=>A.length - (intOf v).toNat)
 case atStart=>exact⟨0,Nat.zero_le _,rfl,fun i L hi=>by omega,rfl⟩
 case round=>
  obtain⟨q,hq,rfl,hal,rfl⟩:=hrel;have q0:(0:Int)≤(q:Int):=by omega
  by_cases hqA:q<A.length
  ·have q1:(q:Int)< (A.length:Int):=by omega
   have hw1:IntKind.i64.wrap ((q:Int)+1)= (q:Int)+1:=IntWalk.i64_in _ (by omega);obtain⟨b,o,rfl⟩:=HH.out.head hqA;obtain⟨L,ar,cr,hLq,c0,hR⟩:=HH.out.get hqA;have HLQ:=dH hLq;have HAL:=dH hal;clear hLq hal hR;by_cases hl:17<L.length
   ·have g2:(L.length:Int) > 17:=by omega
    have HE2:Hid (zE3 A=2):=dH (zNO (List.mem_of_getElem? HLQ.out) hl);go_wp2_with fail;go_ret;exact⟨(congrArg (fun z=>Ending.returned (Value.int .i64 z)) HE2.out).symm,Ext.refl _⟩
   ·have g2:¬ (L.length:Int) > 17:=by omega
    go_wp2_with fail;go_roundw
    case rel=>exact⟨q+1,by omega,by go_num,fun i L' hi hL'=>(by
     by_cases e:i=q
     ·subst e;rw [HLQ.out] at hL';cases hL';omega
     ·exact HAL.out i L' (by omega) hL'),trivial⟩
    case measure=>simp [intOf];omega
  ·have q1:¬ (q:Int)< (A.length:Int):=by omega
   have HA1:Hid (∀L∈A,L.length≤17):=dH fun L hL=>by
    obtain⟨i,hi,rfl⟩:=List.getElem_of_mem hL;exact hal i _ (by omega) (List.getElem?_eq_getElem hi)
   clear hal;go_wp2_with fail
   go_loopw [24] (fun v wr=>∃q:Nat,q≤A.length∧v=.int .i64 q∧(∀ (i:Nat) L,i<q→A[i]? =some L→L.length= (A.getD 0 []).length)∧w=wr) (fun v _=>A.length - (intOf v).toNat)
   case atStart=>exact⟨0,Nat.zero_le _,rfl,fun i L hi=>by omega,rfl⟩
   case round=>
    obtain⟨q,hq,rfl,hal,rfl⟩:=hrel;have q0:(0:Int)≤(q:Int):=by omega
    by_cases hqA:q<A.length
    ·have q1:(q:Int)< (A.length:Int):=by omega
     have z1:(0:Int)< (A.length:Int):=by omega
     have hw1:IntKind.i64.wrap ((q:Int)+1)= (q:Int)+1:=IntWalk.i64_in _ (by omega);obtain⟨b,o,rfl⟩:=HH.out.head hqA;obtain⟨L,ar,cr,hLq,c0,hR⟩:=HH.out.get hqA;obtain⟨L0,ar0,cr0,hL0,c00,hR0⟩:=HH.out.get (show 0<A.length by omega);simp only [Nat.add_zero] at c00;have hg0:A.getD 0 []=L0:=by rw [List.getD_eq_getElem?_getD,hL0];rfl
     have HG0:=dH hg0;have HLQ:=dH hLq;have HAL:=dH hal;clear hLq hal hR hL0 hR0 hg0;by_cases hl:L.length=L0.length
     ·have g2:((L.length:Int) != (L0.length:Int))=false:=by simp [hl]
      have HL:=dH hl;clear hl;go_wp2_with fail;go_roundw
      case rel=>exact⟨q+1,by omega,by go_num,fun i L' hi hL'=>(by
       by_cases e:i=q
       ·subst e;rw [HLQ.out] at hL';cases hL';rw [HG0.out];exact HL.out
       ·exact HAL.out i L' (by omega) hL'),trivial⟩
      case measure=>simp [intOf];omega
     ·have g2:((L.length:Int) != (L0.length:Int))=true:=by simp;omega
      have HE2:Hid (zE3 A=110):=dH (zLn (by omega) HA1.out (List.mem_of_getElem? HLQ.out) (by rw [HG0.out];exact hl));clear hl;go_wp2_with fail;go_ret;exact⟨(congrArg (fun z=>Ending.returned (Value.int .i64 z)) HE2.out).symm,Ext.refl _⟩
    ·have q1:¬ (q:Int)< (A.length:Int):=by omega
     have HA2:Hid (∀L∈A,L.length= (A.getD 0 []).length):=dH fun L hL=>by
      obtain⟨i,hi,rfl⟩:=List.getElem_of_mem hL;exact hal i _ (by omega) (List.getElem?_eq_getElem hi)
     have HC:=dH (zGS (by omega) HA1.out HA2.out);clear hal;go_wp2_with fail
     go_loopw [38] (fun v wr=>∃q:Nat,q≤A.length∧v=.int .i64 q∧zDO A=zDO (A.drop q)∧Ext w wr) (fun v _=>A.length - (intOf v).toNat)
     case atStart=>exact⟨0,Nat.zero_le _,rfl,rfl,Ext.refl _⟩
     case round=>
      obtain⟨q,hq,rfl,hel,hxr⟩:=hrel;have q0:(0:Int)≤(q:Int):=by omega
      by_cases hqA:q<A.length
      ·have q1:(q:Int)< (A.length:Int):=by omega
       have hw1:IntKind.i64.wrap ((q:Int)+1)= (q:Int)+1:=IntWalk.i64_in _ (by omega);obtain⟨b,o,rfl⟩:=HH.out.head hqA;obtain⟨L,ar,cr,hLq,c0,hR⟩:=(RRows.ext hxr HH.out).get hqA;have hL17:=HA1.out L (List.mem_of_getElem? hLq);have HEL:=dH (hel.trans (zJ3 hLq));have HR:=dH hR;have HX:=dH hxr;clear hLq hR hel hxr;go_wp2_with fail;refine(zCr ar cr L _ HR.out (by omega)).mono ?_;rintro e x2 ⟨rfl,hy⟩;replace HX:=dH (HX.out.trans hy);clear hy c0 HR;by_cases hz:zDh L=0
       ·have HE2:Hid (zDO A=zDO (A.drop (q+1))):=dH (by rw [HEL.out,if_pos hz]);rw [hz];clear hz HEL;go_wp2_with fail;go_roundw
        case rel=>exact⟨q+1,by omega,by go_num,HE2.out,HX.out⟩
        case measure=>simp [intOf];omega
       ·have g3:(zDh L != 0)=true:=by simp [hz]
        have HE2:Hid (zE3 A=zDh L):=dH (by rw [HC.out,HEL.out,if_neg hz]);clear HEL;go_wp2_with fail;go_ret;exact⟨(congrArg (fun z=>Ending.returned (Value.int .i64 z)) HE2.out).symm,HX.out⟩
      ·have q1:¬ (q:Int)< (A.length:Int):=by omega
       have HE2:Hid (zE3 A=0):=dH (by rw [HC.out,hel,List.drop_eq_nil_of_le (by omega)];rfl);have HX:=dH hxr;clear hel hxr;go_wp2_with fail;go_ret;exact⟨(congrArg (fun z=>Ending.returned (Value.int .i64 z)) HE2.out).symm,HX.out⟩
def zEJ (A:List (List RatA)) (L:List RatA) (n:Int):Int:=if zE3 A≠0 then zE3 A else if (L.length:Int)≠n then 110 else zDh L
theorem zG9 (a:Option Addr) (cap:Nat) (A:List (List RatA)) (s:Option Addr) (sc:Nat) (L:List RatA) (n:Int) (w:World) (h:RRows w a cap A) (k:RatsI w s sc L) (hL:L.length≤1000):
 Calls Tryz.prog 123 #[.slice a A.length cap,.slice s L.length sc,.int .i64 n] w fun e w'=>e=.returned (.int .i64 (zEJ A L n))∧Ext w w':=by
 have hle:=h.le;have hmx:=h.mx;have sle:=k.le;have smx:=k.mx;have HC:=dH (zGT a cap A w h);have HK:=dH k;clear h k;go_enter Tryz.func123,Tryz.ntmps123;go_wp2_with fail;refine HC.out.mono ?_;rintro e x1 ⟨rfl,hy⟩;have HX:=dH hy;have HK1:=dH (HK.out.ext hy);clear hy HC HK;by_cases hz:zE3 A=0
 ·rw [hz];by_cases hn:(L.length:Int)=n
  ·have HE2:Hid (zEJ A L n=zDh L):=dH (by unfold zEJ;rw [if_neg (by simpa using hz),if_neg (by simpa using hn)]);have g1:((L.length:Int) != n)=false:=by simp [hn]
   clear hz hn;go_wp2_with fail;refine(zCr s sc L _ HK1.out hL).mono ?_;rintro e x2 ⟨rfl,hy⟩;replace HX:=dH (HX.out.trans hy);clear hy;go_wp2_with fail;go_ret;exact⟨(congrArg (fun z=>Ending.returned (Value.int .i64 z)) HE2.out).symm,HX.out⟩
  ·have HE2:Hid (zEJ A L n=110):=dH (by unfold zEJ;rw [if_neg (by simpa using hz),if_pos hn]);have g1:((L.length:Int) != n)=true:=by simp [hn]
   clear hz hn;go_wp2_with fail;go_ret;exact⟨(congrArg (fun z=>Ending.returned (Value.int .i64 z)) HE2.out).symm,HX.out⟩
 ·have HE2:Hid (zEJ A L n=zE3 A):=dH (by unfold zEJ;rw [if_pos hz]);have g1:(zE3 A != 0)=true:=by simp [hz]
  clear hz;go_wp2_with fail;go_ret;exact⟨(congrArg (fun z=>Ending.returned (Value.int .i64 z)) HE2.out).symm,HX.out⟩
theorem zGU (a:Option Addr) (cap m N:Nat) (w:World) (hc:0<m→∃b o a' c',a=some ⟨b,o,none⟩∧w.cell? ⟨b,o,none⟩=some (.slice a' N c')):
 Calls Tryz.prog 125 #[.slice a m cap] w fun e w'=>e=.returned (.int .i64 (if m=0 then 0 else(N:Int)))∧w=w':=by
 by_cases hm:m=0
 ·subst hm;rw [if_pos rfl];go_enter Tryz.func125,Tryz.ntmps125;go_wp2_with fail;go_ret;exact⟨rfl,rfl⟩
 ·rw [if_neg hm];obtain⟨b,o,a',c',rfl,c0⟩:=hc (by omega);have m1:((m:Int) == 0)=false:=by simp [hm]
  have m2:(0:Int)< (m:Int):=by omega
  have m3:¬ (m:Int)=0:=by omega
  go_enter Tryz.func125,Tryz.ntmps125;go_wp2_with fail;go_ret;exact⟨rfl,rfl⟩
end Go.Proofs.YtonkhcdmchidjaaGreat
