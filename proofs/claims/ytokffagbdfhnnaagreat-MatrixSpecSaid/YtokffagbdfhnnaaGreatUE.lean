import Derived.Test.YtokffagbdfhnnaaGreatUA
import Derived.Test.YtokffagbdfhnnaaGreatU6
import Derived.OwnWalk
import Derived.Deep.QuietTactic
import Derived.Deep.Cut
namespace Go.Proofs.YtokffagbdfhnnaaGreat
open Go.RowKit Go BigFrame Go.Shelf
set_option maxRecDepth 100000
set_option linter.unusedSimpArgs false
set_option linter.unusedVariables false
attribute [local go_sem] Oper.semAt_some
set_option maxHeartbeats 2000000 in
theorem law11_num (n d:Int) (w:World) (hn:-9223372036854775808≤n∧n≤9223372036854775807) (hd:-9223372036854775808≤d∧d≤9223372036854775807) (h0:d≠0):Calls Tryz.prog 23 #[.int .i64 n,.int .i64 d] w (RatU (Rat.divInt n d) w):=by
 have HN:=Lib.hid hn
 have HD:=Lib.hid hd
 have H0:=Lib.hid h0
 clear hn hd h0
 obtain⟨x1,hw,hx,Kr⟩:=boxQ1 w #[.bool false,.slice none 0 0,.bool false,.slice none 0 0] 44
 replace hw:=Lib.hid hw
 go_enter Tryz.func23,Tryz.ntmps23
 go_upto_region 1 with fail
 try simp only [Nat.add_assoc,Nat.reduceAdd,Nat.add_zero]
 rw [hw.out]
 clear hw
 have hs0:=hx.size
 have hsz:=hx.size
 go_wp2_with fail
 with_reducible refine(ratio_Make n d _ HN.out HD.out H0.out).mono ?_
 rintro e x2 ⟨v,rfl,hv,hy⟩
 replace hx:=hx.trans hy
 replace Kr:=kE Kr hy
 clear hy
 obtain⟨nv,av,qv,cv,bv,kv,dv,rfl,hv',hf',hg'⟩:=hv
 have Vv:=Lib.hid hv'
 have Fv:=Lib.hid (fun A hA=>Nat.le_trans hsz (hf' A hA))
 have Gv:=Lib.hid (fun A hA=>Nat.le_trans hsz (hg' A hA))
 clear hv' hf' hg' hsz
 go_upto_region 2 with fail
 have hl:=Ext.alloc x2 (.cells #[.bool nv,.slice av qv cv,.bool false,.slice bv kv dv] 44)
 have lrx:w.heap.size<x2.heap.size:=Kr.out.lt
 have hpx:w.heap.size≤x2.heap.size:=hx.size
 replace hx:=hx.trans hl
 replace Kr:=kE Kr hl
 replace Vv:=Lib.hid (Vv.out.ext hl)
 have Kx:=Lib.hid (Blk.new0 x2 #[.bool nv,.slice av qv cv,.bool false,.slice bv kv dv] 44)
 clear hl
 generalize x2.alloc (.cells #[.bool nv,.slice av qv cv,.bool false,.slice bv kv dv] 44)=x3 at *
 generalize x2.heap.size=px at *
 obtain⟨cx0,cx1,cx2,cx3⟩:=bk4 Kx
 obtain⟨g0,z0,g1,z1,g2,z2,g3,z3⟩:=bp4 Kr (.bool nv) (.slice av qv cv) (.bool false) (.slice bv kv dv)
 go_wp2_with fail
 clear g0 z0 g1 z1 g2 z2 g3 z3
 clear cx0 cx1 cx2 cx3
 replace Vv:=(by first | exact rv4 Vv Kr (.bool nv) (.slice av qv cv) (.bool false) (.slice bv kv dv) rfl rfl rfl rfl | exact bv4 Vv Kr (.bool nv) (.slice av qv cv) (.bool false) (.slice bv kv dv) rfl rfl rfl rfl)
 replace hx:=bx4 hx (w.heap.size) (.bool nv) (.slice av qv cv) (.bool false) (.slice bv kv dv) (by omega)
 replace Kr:=bs4 Kr (.bool nv) (.slice av qv cv) (.bool false) (.slice bv kv dv)
 replace Kx:=bo4 Kx (w.heap.size) (.bool nv) (.slice av qv cv) (.bool false) (.slice bv kv dv) (by omega)
 generalize ((((x3).setCell ⟨w.heap.size,0,none⟩ (.bool nv)).setCell ⟨w.heap.size,1,none⟩ (.slice av qv cv)).setCell ⟨w.heap.size,2,none⟩ (.bool false)).setCell ⟨w.heap.size,3,none⟩ (.slice bv kv dv)=x4 at *
 obtain⟨cr0,cr1,cr2,cr3⟩:=bk4 Kr
 refine bodyPost_ret (v:=.agg #[.bool nv,.slice av qv cv,.bool false,.slice bv kv dv]) (by simp [results,Tryz.results23,go_sem,cr0,cr1,cr2,cr3]) rfl ?_
 exact⟨_,rfl,⟨_,_,_,_,_,_,_,rfl,Vv.out,Fv.out,Gv.out⟩,hx⟩
end Go.Proofs.YtokffagbdfhnnaaGreat
namespace Go.Proofs.YtokffagbdfhnnaaGreat
open Go.RowKit Go BigFrame Go.Shelf
set_option maxRecDepth 100000
set_option linter.unusedSimpArgs false
set_option linter.unusedVariables false
attribute [local go_sem] Oper.semAt_some
def RatM (w:World) (x:RatC):Option Rat→Prop
 | some r=>RatV w x.val r
 | none=>∃l m:List Int,l.length=x.q∧m.length=x.k∧Ints w x.a x.c l∧Ints w x.b x.d m∧okR x.n l x.m m=false
theorem RatM.ext {w w':World} {x:RatC}:∀{o:Option Rat},RatM w x o→Ext w w'→RatM w' x o
 | some _,h,k=>RatV.ext h k
 | none,⟨l,m,h1,h2,h3,h4,h5⟩,k=>⟨l,m,h1,h2,h3.ext k,h4.ext k,h5⟩
structure RatsM (w:World) (a:Option Addr) (cap N:Nat) (V:Nat→RatC) (f:Nat→Option Rat):Prop where
 le:N≤cap
 mx:cap≤9223372036854775807
 nil:a=none→cap=0
 cells:∀A,a=some A→∀c,c<N→A.spot=none∧w.cell? ⟨A.block,A.off+c*4,none⟩=some (.bool (V c).n)∧w.cell? ⟨A.block,A.off+c*4+1,none⟩=some (.slice (V c).a (V c).q (V c).c)∧
  w.cell? ⟨A.block,A.off+c*4+2,none⟩=some (.bool (V c).m)∧w.cell? ⟨A.block,A.off+c*4+3,none⟩=some (.slice (V c).b (V c).k (V c).d)
 val:∀c,c<N→RatM w (V c) (f c)
section
variable {w w':World} {a:Option Addr} {cap N:Nat} {V:Nat→RatC} {f:Nat→Option Rat}
theorem RatsM.ext (h:RatsM w a cap N V f) (k:Ext w w'):RatsM w' a cap N V f:=
 ⟨h.le,h.mx,h.nil,fun A hA c hc=>by
  obtain⟨h0,h1,h2,h3,h4⟩:=h.cells A hA c hc
  exact⟨h0,cell_exQ k h1,cell_exQ k h2,cell_exQ k h3,cell_exQ k h4⟩,fun c hc=>(h.val c hc).ext k⟩
theorem RatsM.head (h:RatsM w a cap N V f) {i:Nat} (hi:i<N):∃b o,a=some ⟨b,o,none⟩:=by
 cases a with
 | none=>have:=h.nil rfl;have:=h.le;omega
 | some A=>
  obtain⟨h0,_⟩:=h.cells A rfl i hi
  obtain⟨b,o,s⟩:=A
  dsimp only at h0
  exact⟨b,o,by rw [h0]⟩
end
def optA (x:RatA):Option Rat:=if x.ok then some (valA x) else none
def vecO (L:List RatA):Nat→Option Rat:=fun c=>optA (L.getD c noA)
def addO:Option Rat→Option Rat→Option Rat
 | some x,some y=>some (x+y)
 | _,_=>none
def mulO:Option Rat→Option Rat→Option Rat
 | some x,some y=>some (x*y)
 | _,_=>none
def dotM (f g:Nat→Option Rat):Nat→Option Rat
 | 0=>some 0
 | n+1=>addO (dotM f g n) (mulO (f n) (g n))
theorem noRat_bad {w:World}:Ints w none 0 []:=⟨Nat.le_refl _,by omega,fun _=>rfl,fun A hA=>by cases hA⟩
def SumM (o:Option Rat) (w:World) (e:Ending) (w':World):Prop:=∃ (n:Bool) (a:Option Addr) (q c:Nat) (b:Option Addr) (k d:Nat),e=.returned (.tuple #[.agg #[.bool n,.slice a q c,.bool false,.slice b k d],.bool o.isSome])∧(∀r,o=some r→RatV w' (.agg #[.bool n,.slice a q c,.bool false,.slice b k d]) r)∧Ext w w'
end Go.Proofs.YtokffagbdfhnnaaGreat
namespace Go.Proofs.YtokffagbdfhnnaaGreat
open Go.RowKit Go BigFrame Go.Shelf
set_option maxRecDepth 100000
set_option linter.unusedSimpArgs false
set_option linter.unusedVariables false
attribute [local go_sem] Oper.semAt_some
theorem few_Big (n:Bool) (a:Option Addr) (q c:Nat) (w:World) (hq:q≤9223372036854775807):
 Calls Tryz.prog 24 #[.agg #[.bool n,.slice a q c]] w fun e w'=>e=.returned (.bool (decide (q≤2)))∧Ext w w':=by
 have hya:=Ext.alloc w (.cells #[.bool n,.slice a q c] 42)
 have Kb:=Lib.hid (Blk.new0 w #[.bool n,.slice a q c] 42)
 have HX:=Lib.hid hya
 clear hya
 go_enter Tryz.func24,Tryz.ntmps24
 go_upto_region 1 with fail
 generalize w.alloc (.cells #[.bool n,.slice a q c] 42)=x1 at *
 generalize w.heap.size=pb at *
 obtain⟨k0,k1⟩:=bk2 Kb
 by_cases h:q≤2
 ·have h':(q:Int)≤2:=by omega
  have e:decide (q≤2)=true:=decide_eq_true h
  have HE:=Lib.hid e
  clear e
  go_wp2_with fail
  go_ret
  exact⟨by first | rfl | (rw [HE.out];rfl),HX.out⟩
 ·have h':¬ (q:Int)≤2:=by omega
  have e:decide (q≤2)=false:=decide_eq_false h
  have HE:=Lib.hid e
  clear e
  go_wp2_with fail
  go_ret
  exact⟨by first | rfl | (rw [HE.out];rfl),HX.out⟩
def fewX (x:RatA):Bool:=decide (x.l.length≤2) && decide (x.m.length≤2)
def lenF (n:Nat):Bool:=decide (n≤4) || (decide (17<n) && decide (n≤20))
def fewL (L:List RatA):Bool:=lenF L.length && L.all fewX
def fewA (A:List (List RatA)):Bool:=lenF A.length && A.all fewL
theorem all_snoc {α:Type} {p:α→Bool} {l:List α} {k:Nat} {x:α} (h:(l.take k).all p=true) (hx:l[k]? =some x) (hp:p x=true):(l.take (k+1)).all p=true:=by
 rw [List.take_add_one,hx,List.all_append,h];simp [hp]
theorem all_bad {α:Type} {p:α→Bool} {l:List α} {k:Nat} {x:α} (hx:l[k]? =some x) (hp:p x=false):l.all p=false:=by
 rw [Bool.eq_false_iff];intro h
 rw [List.all_eq_true.1 h x (List.mem_of_getElem? hx)] at hp;cases hp
set_option maxHeartbeats 4000000 in
theorem few_List (a:Option Addr) (cap:Nat) (L:List RatA) (w:World) (h:RatsI w a cap L):
 Calls Tryz.prog 8 #[.slice a L.length cap] w fun e w'=>e=.returned (.bool (fewL L))∧Ext w w':=by
 have hle:=h.le
 have hmx:=h.mx
 have HH:=Lib.hid h
 clear h
 go_enter Tryz.func8,Tryz.ntmps8
 go_wp2_with fail
 go_loopw [3] (fun v wr=>∃q:Nat,q≤L.length∧q≤30∧v=.int .i64 q∧(L.take q).all fewX=true∧Ext w wr) (fun v _=>L.length - (intOf v).toNat)
 case atStart=>exact⟨0,Nat.zero_le _,by omega,rfl,rfl,Ext.refl _⟩
 case round=>
  obtain⟨q,hq,h30,rfl,hal,hxr⟩:=hrel
  have q0:(0:Int)≤(q:Int):=by omega
  by_cases hqL:q<L.length
  ·have q1:(q:Int)< (L.length:Int):=by omega
   by_cases hq30:q<30
   ·have q2:(q:Int)<30:=by omega
    have hw1:IntKind.i64.wrap ((q:Int)+1)= (q:Int)+1:=IntWalk.i64_in _ (by omega)
    obtain⟨b,o,rfl⟩:=HH.out.head hqL
    obtain⟨n,ad,c,l,n2,b',d,m,hLq,c0,c1,c2,c3,hI,hJ⟩:=(HH.out.ext hxr).get hqL
    have m1:l.length≤9223372036854775807:=Nat.le_trans hI.le hI.mx
    have m2:m.length≤9223372036854775807:=Nat.le_trans hJ.le hJ.mx
    have HL:=Lib.hid hLq
    have HAL:=Lib.hid hal
    have HX:=Lib.hid hxr
    clear hLq hal hxr hI hJ
    go_wp2_with fail
    refine(few_Big n ad l.length c _ m1).mono ?_
    rintro e x2 ⟨rfl,hy⟩
    replace HX:=Lib.hid (HX.out.trans hy)
    replace c2:=cell_exQ hy c2
    replace c3:=cell_exQ hy c3
    clear hy c0 c1
    by_cases hl:l.length≤2
    ·rw [decide_eq_true hl]
     go_wp2_with fail
     refine(few_Big n2 b' m.length d _ m2).mono ?_
     rintro e x3 ⟨rfl,hy⟩
     replace HX:=Lib.hid (HX.out.trans hy)
     clear hy c2 c3
     by_cases hm:m.length≤2
     ·have HA2:Hid ((L.take (q+1)).all fewX=true):=Lib.hid (all_snoc HAL.out HL.out (by unfold fewX;rw [decide_eq_true hl,decide_eq_true hm];rfl))
      rw [decide_eq_true hm]
      go_wp2_with fail
      go_roundw
      case rel=>exact⟨q+1,by omega,by omega,by go_num,HA2.out,HX.out⟩
      case measure=>simp [intOf];omega
     ·have HE:Hid (fewL L=false):=Lib.hid (by unfold fewL;rw [all_bad HL.out (by unfold fewX;rw [decide_eq_false hm,Bool.and_false]),Bool.and_false])
      rw [decide_eq_false hm]
      go_wp2_with fail
      go_ret
      exact⟨by rw [HE.out];rfl,HX.out⟩
    ·have HE:Hid (fewL L=false):=Lib.hid (by unfold fewL;rw [all_bad HL.out (by unfold fewX;rw [decide_eq_false hl,Bool.false_and]),Bool.and_false])
     rw [decide_eq_false hl]
     go_wp2_with fail
     go_ret
     exact⟨by rw [HE.out];rfl,HX.out⟩
   ·have q2:¬ (q:Int)<30:=by omega
    have HE:Hid (fewL L=false):=Lib.hid (by unfold fewL lenF;rw [decide_eq_false (show ¬L.length≤4 by omega),decide_eq_false (show ¬L.length≤20 by omega)];simp)
    have HX:=Lib.hid hxr
    have g1:¬ (L.length:Int)≤4:=by omega
    have g2:(L.length:Int) > 17:=by omega
    have g3:¬ (L.length:Int)≤20:=by omega
    clear hal hxr
    go_wp2_with fail
    go_ret
    exact⟨by rw [HE.out];rfl,HX.out⟩
  ·have q1:¬ (q:Int)< (L.length:Int):=by omega
   have HA:Hid (L.all fewX=true):=Lib.hid (by rw [List.take_of_length_le (by omega)] at hal;exact hal)
   have HX:=Lib.hid hxr
   clear hal hxr
   by_cases h4:L.length≤4
   ·have HE:Hid (fewL L=true):=Lib.hid (by unfold fewL lenF;rw [HA.out,decide_eq_true h4];rfl)
    have g1:(L.length:Int)≤4:=by omega
    go_wp2_with fail
    go_ret
    exact⟨by rw [HE.out];rfl,HX.out⟩
   ·have g1:¬ (L.length:Int)≤4:=by omega
    by_cases h17:17<L.length
    ·have g2:(L.length:Int) > 17:=by omega
     by_cases h20:L.length≤20
     ·have g3:(L.length:Int)≤20:=by omega
      have HE:Hid (fewL L=true):=Lib.hid (by unfold fewL lenF;rw [HA.out,decide_eq_true h17,decide_eq_true h20];simp)
      go_wp2_with fail
      go_ret
      exact⟨by rw [HE.out];rfl,HX.out⟩
     ·have g3:¬ (L.length:Int)≤20:=by omega
      have HE:Hid (fewL L=false):=Lib.hid (by unfold fewL lenF;rw [decide_eq_false h4,decide_eq_false h20];simp)
      go_wp2_with fail
      go_ret
      exact⟨by rw [HE.out];rfl,HX.out⟩
    ·have g2:¬ (L.length:Int) > 17:=by omega
     have HE:Hid (fewL L=false):=Lib.hid (by unfold fewL lenF;rw [decide_eq_false h4,decide_eq_false h17];simp)
     go_wp2_with fail
     go_ret
     exact⟨by rw [HE.out];rfl,HX.out⟩
set_option maxHeartbeats 4000000 in
theorem few_Mat (a:Option Addr) (cap:Nat) (A:List (List RatA)) (w:World) (h:RRows w a cap A):
 Calls Tryz.prog 7 #[.slice a A.length cap] w fun e w'=>e=.returned (.bool (fewA A))∧Ext w w':=by
 have hle:=h.le
 have hmx:=h.mx
 have HH:=Lib.hid h
 clear h
 go_enter Tryz.func7,Tryz.ntmps7
 go_wp2_with fail
 go_loopw [3] (fun v wr=>∃q:Nat,q≤A.length∧q≤30∧v=.int .i64 q∧(A.take q).all fewL=true∧Ext w wr) (fun v _=>A.length - (intOf v).toNat)
 case atStart=>exact⟨0,Nat.zero_le _,by omega,rfl,rfl,Ext.refl _⟩
 case round=>
  obtain⟨q,hq,h30,rfl,hal,hxr⟩:=hrel
  have q0:(0:Int)≤(q:Int):=by omega
  by_cases hqL:q<A.length
  ·have q1:(q:Int)< (A.length:Int):=by omega
   by_cases hq30:q<30
   ·have q2:(q:Int)<30:=by omega
    have hw1:IntKind.i64.wrap ((q:Int)+1)= (q:Int)+1:=IntWalk.i64_in _ (by omega)
    obtain⟨b,o,rfl⟩:=HH.out.head hqL
    obtain⟨L,ar,cr,hLq,c0,hR⟩:=(RRows.ext hxr HH.out).get hqL
    have HL:=Lib.hid hLq
    have HAL:=Lib.hid hal
    have HX:=Lib.hid hxr
    have HR:=Lib.hid hR
    clear hLq hal hxr hR
    go_wp2_with fail
    refine(few_List ar cr L _ HR.out).mono ?_
    rintro e x2 ⟨rfl,hy⟩
    replace HX:=Lib.hid (HX.out.trans hy)
    clear hy c0 HR
    cases hf:fewL L with
    | true=>
     have HA2:Hid ((A.take (q+1)).all fewL=true):=Lib.hid (all_snoc HAL.out HL.out hf)
     clear hf
     go_wp2_with fail
     go_roundw
     case rel=>exact⟨q+1,by omega,by omega,by go_num,HA2.out,HX.out⟩
     case measure=>simp [intOf];omega
    | false=>
     have HE:Hid (fewA A=false):=Lib.hid (by unfold fewA;rw [all_bad HL.out hf,Bool.and_false])
     clear hf
     go_wp2_with fail
     go_ret
     exact⟨by rw [HE.out];rfl,HX.out⟩
   ·have q2:¬ (q:Int)<30:=by omega
    have HE:Hid (fewA A=false):=Lib.hid (by unfold fewA lenF;rw [decide_eq_false (show ¬A.length≤4 by omega),decide_eq_false (show ¬A.length≤20 by omega)];simp)
    have HX:=Lib.hid hxr
    have g1:¬ (A.length:Int)≤4:=by omega
    have g2:(A.length:Int) > 17:=by omega
    have g3:¬ (A.length:Int)≤20:=by omega
    clear hal hxr
    go_wp2_with fail
    go_ret
    exact⟨by rw [HE.out];rfl,HX.out⟩
  ·have q1:¬ (q:Int)< (A.length:Int):=by omega
   have HA:Hid (A.all fewL=true):=Lib.hid (by rw [List.take_of_length_le (by omega)] at hal;exact hal)
   have HX:=Lib.hid hxr
   clear hal hxr
   by_cases h4:A.length≤4
   ·have HE:Hid (fewA A=true):=Lib.hid (by unfold fewA lenF;rw [HA.out,decide_eq_true h4];rfl)
    have g1:(A.length:Int)≤4:=by omega
    go_wp2_with fail
    go_ret
    exact⟨by rw [HE.out];rfl,HX.out⟩
   ·have g1:¬ (A.length:Int)≤4:=by omega
    by_cases h17:17<A.length
    ·have g2:(A.length:Int) > 17:=by omega
     by_cases h20:A.length≤20
     ·have g3:(A.length:Int)≤20:=by omega
      have HE:Hid (fewA A=true):=Lib.hid (by unfold fewA lenF;rw [HA.out,decide_eq_true h17,decide_eq_true h20];simp)
      go_wp2_with fail
      go_ret
      exact⟨by rw [HE.out];rfl,HX.out⟩
     ·have g3:¬ (A.length:Int)≤20:=by omega
      have HE:Hid (fewA A=false):=Lib.hid (by unfold fewA lenF;rw [decide_eq_false h4,decide_eq_false h20];simp)
      go_wp2_with fail
      go_ret
      exact⟨by rw [HE.out];rfl,HX.out⟩
    ·have g2:¬ (A.length:Int) > 17:=by omega
     have HE:Hid (fewA A=false):=Lib.hid (by unfold fewA lenF;rw [decide_eq_false h4,decide_eq_false h17];simp)
     go_wp2_with fail
     go_ret
     exact⟨by rw [HE.out];rfl,HX.out⟩
theorem ref_Columns (a:Option Addr) (cap m N:Nat) (w:World) (hc:0<m→∃b o a' c',a=some ⟨b,o,none⟩∧w.cell? ⟨b,o,none⟩=some (.slice a' N c')):
 Calls Tryz.prog 21 #[.slice a m cap] w fun e w'=>e=.returned (.int .i64 (if m=0 then 0 else(N:Int)))∧w=w':=by
 by_cases hm:m=0
 ·subst hm
  rw [if_pos rfl]
  go_enter Tryz.func21,Tryz.ntmps21
  go_wp2_with fail
  go_ret
  exact⟨rfl,rfl⟩
 ·obtain⟨b,o,a',c',rfl,c0⟩:=hc (by omega)
  rw [if_neg hm]
  have g1:((m:Int) == 0)=false:=by simp;omega
  have g2:(0:Int)< (m:Int):=by omega
  have c1:w.cell? ⟨b,o+0,none⟩=some (.slice a' N c'):=c0
  go_enter Tryz.func21,Tryz.ntmps21
  go_wp2_with fail
  go_ret
  exact⟨rfl,rfl⟩
end Go.Proofs.YtokffagbdfhnnaaGreat
