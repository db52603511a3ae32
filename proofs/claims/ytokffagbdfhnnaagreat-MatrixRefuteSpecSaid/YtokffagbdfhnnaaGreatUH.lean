import Derived.Test.YtokffagbdfhnnaaGreatUE
import Derived.Test.YtokffagbdfhnnaaGreatUB
import Derived.OwnWalk
import Derived.Deep.QuietTactic
import Derived.Deep.Cut
namespace Go.Proofs.YtokffagbdfhnnaaGreat
open Go.RowKit Go BigFrame Go.Shelf
set_option maxRecDepth 100000
set_option linter.unusedSimpArgs false
set_option linter.unusedVariables false
attribute [local go_sem] Oper.semAt_some
theorem take_snocU {l:List Int} {k:Nat} (hk:k<l.length):l.take (k+1)=l.take k ++ [l.getD k 0]:=by
 rw [List.take_add_one,List.getElem?_eq_getElem hk];simp [List.getD,hk]
theorem Ints.atU {w:World} {a:Option Addr} {cap nn:Nat} {l:List Int} (h:Ints w a cap l) (hl:l.length=nn) {i:Nat} (hi:i<nn):∃b o,a=some ⟨b,o,none⟩∧∀j,j<nn→w.cell? ⟨b,o+j,none⟩=some (.int .i64 (l.getD j 0)):=by
 obtain⟨b,o,rfl⟩:=h.head (i:=i) (by omega)
 refine⟨b,o,rfl,fun j hj=>?_⟩
 have:=(h.cell (i:=j) (by omega)).1
 rw [this]
 simp [List.getD,show j<l.length by omega]
set_option maxHeartbeats 1000000 in
theorem same_Big {x y:Value} {n n2:Bool} {l l2:List Int} {w:World} (h:BigR w x n l) (h2:BigR w y n2 l2):
 Calls Tryz.prog 59 #[x,y] w fun e w'=>e=.returned (.bool (decide (n=n2∧l=l2)))∧Ext w w':=by
 obtain⟨a,cap,rfl,hi⟩:=h
 obtain⟨a2,cap2,rfl,hi2⟩:=h2
 obtain⟨B,hB⟩:∃B,decide (n=n2∧l=l2)=B:=⟨_,rfl⟩
 rw [hB]
 have hle:=hi.le
 have hmx:=hi.mx
 have hle2:=hi2.le
 have hmx2:=hi2.mx
 obtain⟨p,hp⟩:∃p,l.length=p:=⟨_,rfl⟩
 obtain⟨q,hq⟩:∃q,l2.length=q:=⟨_,rfl⟩
 rw [hp] at hle ⊢
 rw [hq] at hle2 ⊢
 have hx:Ext w ((w.alloc (.cells #[.bool n,.slice a p cap] 42)).alloc (.cells #[.bool n2,.slice a2 q cap2] 42)):=(by repeat (first | with_reducible exact Ext.refl _ | with_reducible assumption | with_reducible refine Ext.drewN ?_ _ | with_reducible refine Ext.drew ?_ | with_reducible refine Ext.alloc' ?_ _ | with_reducible refine Ext.set ?_ (by dsimp only;omega) _))
 have k0:=Lib.hid ((Blk.new0 w #[.bool n,.slice a p cap] 42).alloc (.cells #[.bool n2,.slice a2 q cap2] 42))
 have k1:=Lib.hid (Blk.new1 w (.cells #[.bool n,.slice a p cap] 42) #[.bool n2,.slice a2 q cap2] 42)
 have HI:=Lib.hid (hi.ext hx)
 have HI2:=Lib.hid (hi2.ext hx)
 have HB:=Lib.hid hB
 have HP:=Lib.hid hp
 have HQ:=Lib.hid hq
 clear hi hi2 hB hp hq
 go_enter Tryz.func59,Tryz.ntmps59
 go_upto_region 1 with fail
 generalize (w.alloc (.cells #[.bool n,.slice a p cap] 42)).alloc (.cells #[.bool n2,.slice a2 q cap2] 42)=w1 at *
 have c0:=k0.out.cell (i:=0) (v:=.bool n) rfl
 have c1:=k0.out.cell (i:=1) (v:=.slice a p cap) rfl
 have e0:=k1.out.cell (i:=0) (v:=.bool n2) rfl
 have e1:=k1.out.cell (i:=1) (v:=.slice a2 q cap2) rfl
 by_cases hn:n=n2
 ·subst hn
  have d1:(n != n)=false:=by simp
  by_cases hl:p=q
  ·subst hl
   have d2:((p:Int) != (p:Int))=false:=by simp
   go_wp2_with fail
   clear c0 e0
   go_loopw [5] (fun i wr=>∃k:Nat,k≤p∧i=.int .i64 k∧Hid (l.take k=l2.take k)∧Ext w1 wr) (fun i _=>p - (intOf i).toNat)
   case atStart=>exact⟨0,Nat.zero_le _,rfl,Lib.hid rfl,Ext.refl _⟩
   case round=>
    clear c1 e1
    obtain⟨k,hk,rfl,hno,hxr⟩:=hrel
    have c1:=(k0.out.ext hxr).cell (i:=1) (v:=.slice a p cap) rfl
    have e1:=(k1.out.ext hxr).cell (i:=1) (v:=.slice a2 p cap2) rfl
    by_cases hkn:k<p
    ·obtain⟨b1,q1,rfl,ha⟩:=(HI.out.ext hxr).atU HP.out hkn
     obtain⟨b2,q2,rfl,hb⟩:=(HI2.out.ext hxr).atU HQ.out hkn
     have ea:=ha k hkn
     have eb:=hb k hkn
     clear ha hb
     have hT1:=Lib.hid (take_snocU (l:=l) (k:=k) (by rw [HP.out];exact hkn))
     have hT2:=Lib.hid (take_snocU (l:=l2) (k:=k) (by rw [HQ.out];exact hkn))
     have g1:(0:Int)≤(k:Int):=by omega
     have g2:(k:Int)< (p:Int):=by omega
     obtain⟨x,hx⟩:∃x,l.getD k 0=x:=⟨_,rfl⟩
     obtain⟨y,hy⟩:∃y,l2.getD k 0=y:=⟨_,rfl⟩
     rw [hx] at ea hT1
     rw [hy] at eb hT2
     by_cases he:x=y
     ·have d3:(x != y)=false:=by simpa using he
      have HE:=Lib.hid he
      clear hx hy he
      go_wp2_with fail
      go_quiet (fail)
      go_wp2_with fail
      go_roundw
      case rel=>exact⟨k+1,by omega,by go_num,Lib.hid (by rw [hT1.out,hT2.out,hno.out,HE.out]),hxr.drewN _⟩
      case measure=>simp [intOf];omega
     ·have d3:(x != y)=true:=by simpa using he
      have d4:(x == y)=false:=by simpa using he
      have hBf:B=false:=by
       rw [←HB.out,decide_eq_false_iff_not]
       rintro⟨_,rfl⟩
       exact he (hx.symm.trans hy)
      subst hBf
      clear hx hy he
      go_wp2_with fail
      go_quiet (fail)
      go_wp2_with fail
      go_ret
      exact⟨rfl,(hx.trans hxr).drewN _⟩
    ·obtain rfl:k=p:=by omega
     have hBt:B=true:=by
      rw [←HB.out,decide_eq_true_iff]
      refine⟨by trivial,?_⟩
      have h:=hno.out
      rwa [List.take_of_length_le (by rw [HP.out];exact Nat.le_refl _),List.take_of_length_le (by rw [HQ.out];exact Nat.le_refl _)] at h
     subst hBt
     go_wp2_with fail
     go_ret
     exact⟨rfl,hx.trans hxr⟩
  ·have d2:((p:Int) != (q:Int))=true:=by simp;omega
   have d4:((p:Int) == (q:Int))=false:=by simp;omega
   have hBf:B=false:=by
    rw [←HB.out,decide_eq_false_iff_not]
    rintro⟨_,rfl⟩
    exact hl (HP.out.symm.trans HQ.out)
   subst hBf
   clear hl
   go_wp2_with fail
   go_ret
   first | exact⟨rfl,hx⟩ | exact⟨trivial,hx⟩
 ·have d1:(n != n2)=true:=by simpa using hn
  have hBf:B=false:=by
   rw [←HB.out,decide_eq_false_iff_not]
   exact fun h=>hn h.1
  subst hBf
  go_wp2_with fail
  go_ret
  first | exact⟨rfl,hx⟩ | exact⟨trivial,hx⟩
theorem same_BigV {x y:Value} {z z2:Int} {w:World} (h:BigV w x z) (h2:BigV w y z2):
 Calls Tryz.prog 59 #[x,y] w fun e w'=>e=.returned (.bool (decide (z=z2)))∧Ext w w':=by
 obtain⟨n,l,r,b⟩:=h
 obtain⟨n2,l2,r2,b2⟩:=h2
 have:=same_Big r r2
 rwa [decide_eq_decide.2 (b.same b2)] at this
set_option maxHeartbeats 4000000 in
theorem ref_Equal {v u:Value} {r s:Rat} {w:World} (hv:RatV w v r) (hu:RatV w u s):
 Calls Tryz.prog 36 #[v,u] w fun e w'=>e=.returned (.bool (decide (r=s)))∧Ext w w':=by
 obtain⟨nx,ax,qx,cx,bx,kx,dx,rfl⟩:=hv.form
 obtain⟨ny,ay,qy,cy,by_,ky,dy,rfl⟩:=hu.form
 have HV:=Lib.hid hv
 have HU:=Lib.hid hu
 clear hv hu
 obtain⟨B,hB⟩:∃B,decide (r=s)=B:=⟨_,rfl⟩
 rw [hB]
 have HB:=Lib.hid hB
 clear hB
 obtain⟨x1,hw,hx,Kx,Ky⟩:=boxQ2 w #[.bool nx,.slice ax qx cx,.bool false,.slice bx kx dx] 44 #[.bool ny,.slice ay qy cy,.bool false,.slice by_ ky dy] 44
 replace hw:=Lib.hid hw
 go_enter Tryz.func36,Tryz.ntmps36
 go_upto_region 1 with fail
 try simp only [Nat.add_assoc,Nat.reduceAdd,Nat.add_zero]
 rw [hw.out]
 clear hw
 have hs0:=hx.size
 obtain⟨cx0,cx1,cx2,cx3⟩:=bk4 Kx
 obtain⟨cy0,cy1,cy2,cy3⟩:=bk4 Ky
 go_wp2_with fail
 with_reducible refine(same_BigV (HV.out.ext hx).num (HU.out.ext hx).num).mono ?_
 clear cx0 cx1 cx2 cx3 cy0 cy1 cy2 cy3
 rintro e x2 ⟨rfl,hy⟩
 replace hx:=hx.trans hy
 replace Kx:=kE Kx hy
 replace Ky:=kE Ky hy
 clear hy
 obtain⟨cx0,cx1,cx2,cx3⟩:=bk4 Kx
 obtain⟨cy0,cy1,cy2,cy3⟩:=bk4 Ky
 by_cases h1:r.num=s.num
 ·rw [decide_eq_true h1]
  go_wp2_with fail
  with_reducible refine(same_BigV (HV.out.ext hx).den (HU.out.ext hx).den).mono ?_
  clear cx0 cx1 cx2 cx3 cy0 cy1 cy2 cy3
  rintro e x3 ⟨rfl,hy⟩
  replace hx:=hx.trans hy
  replace Kx:=kE Kx hy
  replace Ky:=kE Ky hy
  clear hy
  have HF:Hid (decide ((r.den:Int)= (s.den:Int))=B):=Lib.hid (by
   rw [←HB.out]
   refine decide_eq_decide.2 ⟨fun h=>Rat.ext h1 (by exact_mod_cast h),fun h=>by rw [h]⟩)
  rw [HF.out]
  clear h1
  cases B
  ·go_wp2_with fail
   go_ret
   exact⟨rfl,hx⟩
  ·go_wp2_with fail
   go_ret
   exact⟨rfl,hx⟩
 ·have hBf:B=false:=by rw [←HB.out,decide_eq_false_iff_not];rintro rfl;exact h1 rfl
  rw [decide_eq_false h1]
  subst hBf
  clear h1
  go_wp2_with fail
  go_ret
  exact⟨rfl,hx⟩
def sameF (n m:Nat) (f h:Nat→Rat):Bool:=decide (n=m) && (List.range n).all fun c=>decide (f c=h c)
theorem sameF_iff {n m:Nat} {f h:Nat→Rat}:sameF n m f h=true↔n=m∧∀c,c<n→f c=h c:=by
 unfold sameF
 simp only [Bool.and_eq_true,decide_eq_true_eq,List.all_eq_true,List.mem_range]
theorem sameF_false {n m:Nat} {f h:Nat→Rat} (hn:¬ (n=m∧∀c,c<n→f c=h c)):sameF n m f h=false:=by
 rw [Bool.eq_false_iff];exact fun e=>hn (sameF_iff.1 e)
set_option maxHeartbeats 4000000 in
theorem ref_Same11 (a:Option Addr) (cap N:Nat) (V:Nat→RatC) (f:Nat→Rat) (b:Option Addr) (cb M:Nat) (U:Nat→RatC) (h:Nat→Rat) (w:World) (ha:RowR w a cap N V f) (hb:RowR w b cb M U h):
 Calls Tryz.prog 15 #[.slice a N cap,.slice b M cb] w fun e w'=>e=.returned (.bool (sameF N M f h))∧Ext w w':=by
 have hle:=ha.le
 have hmx:=ha.mx
 have ble:=hb.le
 have bmx:=hb.mx
 have HA:=Lib.hid ha
 have HB:=Lib.hid hb
 clear ha hb
 by_cases hNM:N=M
 ·subst hNM
  have d2:((N:Int) != (N:Int))=false:=by simp
  go_enter Tryz.func15,Tryz.ntmps15
  go_wp2_with fail
  go_loopw [5] (fun v wr=>∃i:Nat,i≤N∧v=.int .i64 i∧(∀c,c<i→f c=h c)∧Ext w wr) (fun v _=>N - (intOf v).toNat)
  case atStart=>exact⟨0,Nat.zero_le _,rfl,fun c hc=>by omega,Ext.refl _⟩
  case round=>
   obtain⟨i,hi,rfl,hal,hx⟩:=hrel
   have i0:(0:Int)≤(i:Int):=by omega
   by_cases hiN:i<N
   ·have i1:(i:Int)< (N:Int):=by omega
    have hw1:IntKind.i64.wrap ((i:Int)+1)= (i:Int)+1:=IntWalk.i64_in _ (by omega)
    have hA:=HA.out.ext hx
    have hB':=HB.out.ext hx
    obtain⟨ba,oa,rfl⟩:=HA.out.head hiN
    obtain⟨bb,ob,rfl⟩:=HB.out.head hiN
    obtain⟨_,c0,c1,c2,c3⟩:=hA.cells _ rfl i hiN
    obtain⟨_,d0,d1,d2',d3⟩:=hB'.cells _ rfl i hiN
    have vx:=hA.val i hiN
    have vy:=hB'.val i hiN
    generalize V i=xc at *
    obtain⟨nx,ax,qx,cx,mx,bx,kx,dx⟩:=xc
    generalize U i=yc at *
    obtain⟨ny,ay,qy,cy,my,by_,ky,dy⟩:=yc
    dsimp only [RatC.val] at c0 c1 c2 c3 d0 d1 d2' d3 vx vy
    have CQ:=Lib.hid (fun W:Later wr=>later_call (W:=W) (ref_Equal (vx.ext W.2) (vy.ext W.2)))
    have HX:=Lib.hid hx
    have HAL:=Lib.hid hal
    obtain⟨B,hB⟩:∃B,decide (f i=h i)=B:=⟨_,rfl⟩
    rw [hB] at CQ
    have HBB:=Lib.hid hB
    have L0:=later_cell c0
    have L1:=later_cell c1
    have L2:=later_cell c2
    have L3:=later_cell c3
    have L4:=later_cell d0
    have L5:=later_cell d1
    have L6:=later_cell d2'
    have L7:=later_cell d3
    clear hA hB' vx vy hx hal hB
    go_upto_region 6 with fail
    clear c0 c1 c2 c3 d0 d1 d2' d3
    refine wp_region_later (by kernel_rfl) (by kernel_rfl) ?_;repeat (go_big_quiet_step ((go_at_call 36;exact CQ.out _)))
    refine wpQuiet_nil ?_;rintro _ ⟨⟨W1,HW1⟩,rfl⟩;(try dsimp only)
    have HX2:=Lib.hid (HX.out.trans HW1)
    clear HW1
    cases B
    ·have HE:Hid (sameF N N f h=false):=Lib.hid (sameF_false fun hh=>by have:=hh.2 i hiN;rw [decide_eq_true this] at HBB;cases HBB.out)
     go_wp2_with fail
     go_ret
     exact⟨by rw [HE.out];rfl,HX2.out⟩
    ·have HE:Hid (f i=h i):=Lib.hid (of_decide_eq_true HBB.out)
     go_wp2_with fail
     go_roundw
     case rel=>exact⟨i+1,by omega,by go_num,fun c hc=>(by
      by_cases e:c=i
      ·rw [e];exact HE.out
      ·exact HAL.out c (by omega)),HX2.out⟩
     case measure=>simp [intOf];omega
   ·have i1:¬ (i:Int)< (N:Int):=by omega
    have HE:Hid (sameF N N f h=true):=Lib.hid (sameF_iff.2 ⟨rfl,fun c hc=>hal c (by omega)⟩)
    have HX:=Lib.hid hx
    clear hal hx
    go_wp2_with fail
    go_ret
    exact⟨by rw [HE.out];rfl,HX.out⟩
 ·have d2:((N:Int) != (M:Int))=true:=by simp;omega
  have HE:Hid (sameF N M f h=false):=Lib.hid (sameF_false fun hh=>hNM hh.1)
  go_enter Tryz.func15,Tryz.ntmps15
  go_wp2_with fail
  go_ret
  exact⟨by rw [HE.out];rfl,Ext.refl _⟩
def ColP (m:Nat) (f:Nat→Rat) (w:World) (e:Ending) (w':World):Prop:=∃ (a:Option Addr) (cap:Nat) (V:Nat→RatC),e=.returned (.slice a m cap)∧RowR w' a cap m V f∧Ext w w'
end Go.Proofs.YtokffagbdfhnnaaGreat
