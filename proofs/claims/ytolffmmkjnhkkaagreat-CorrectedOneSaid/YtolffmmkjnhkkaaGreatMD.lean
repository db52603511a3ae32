import Derived.Test.YtolffmmkjnhkkaaGreatMA
import Derived.OwnWalk
import Derived.Deep.QuietTactic
namespace Go.Proofs.YtolffmmkjnhkkaaGreat
open Go.RowKit Go BigFrame Go.Shelf
set_option maxRecDepth 100000
set_option linter.unusedSimpArgs false
set_option linter.unusedVariables false
set_option maxHeartbeats 16000000 in
theorem ref40_Error (a:Option Addr) (cap:Nat) (m:List (List Int)) (s:Option Addr) (sc:Nat) (L:List RatA) (w:World) (h:Rows w a cap m) (k:RatsI w s sc L):
 Calls Tryz.prog 28 #[.slice a m.length cap,.slice s L.length sc] w fun e w'=>e=.returned (.int .i64 (errM m L.length (L.any fun x=>!x.ok)))∧Ext w w':=by
 have hle:=h.le
 have hmx:=h.mx
 have sle:=k.le
 have smx:=k.mx
 obtain⟨E,hE⟩:∃E,errM m L.length (L.any fun x=>!x.ok)=E:=⟨_,rfl⟩
 rw [hE]
 have HE:=Lib.hid hE
 have HH:=Lib.hid h
 have HK:=Lib.hid k
 clear h k hE
 have hx:=Ext.refl w
 by_cases h1:4096<m.length
 ·have t1:(4096:Int)< (m.length:Int):=by omega
  have HV:Hid (2=E):=Lib.hid (by rw [←HE.out];unfold errM;rw [if_pos (.inl h1)])
  go_enter Tryz.func28,Tryz.ntmps28
  go_wp2_with fail
  go_ret
  exact⟨by rw [HV.out];rfl,hx⟩
 have t1:¬ (4096:Int)< (m.length:Int):=by omega
 by_cases h2:256<L.length
 ·have t2:(256:Int)< (L.length:Int):=by omega
  have HV:Hid (2=E):=Lib.hid (by rw [←HE.out];unfold errM;rw [if_pos (.inr h2)])
  go_enter Tryz.func28,Tryz.ntmps28
  go_wp2_with fail
  go_ret
  exact⟨by rw [HV.out];rfl,hx⟩
 have t2:¬ (256:Int)< (L.length:Int):=by omega
 have H0:=Lib.hid (show ¬ (4096<m.length∨256<L.length) by omega)
 go_enter Tryz.func28,Tryz.ntmps28
 go_wp2_with fail
 clear t1 t2
 go_loopw [5] (fun i wr=>∃k:Nat,k≤m.length∧i=.int .i64 k∧(m.take k).any longM=false∧Ext w wr) (fun i _=>m.length - (intOf i).toNat)
 case atStart=>exact⟨0,Nat.zero_le _,rfl,rfl,hx⟩
 case round=>
  obtain⟨k,hk,rfl,hno,hxr⟩:=hrel
  generalize wr=wA at *
  have HNO:=Lib.hid hno
  have HXA:=Lib.hid hxr
  have g1:(0:Int)≤(k:Int):=by omega
  clear hno hx
  by_cases hkn:k<m.length
  ·obtain⟨b,o,rfl⟩:=HH.out.head hkn
   obtain⟨x,a2,c2,hx,hc,hI⟩:=Rows.get (HH.out.ext hxr) hkn
   have xle:=hI.le
   have xmx:=hI.mx
   have g2:(k:Int)< (m.length:Int):=by omega
   have hw1:IntKind.i64.wrap ((k:Int)+1)= (k:Int)+1:=IntWalk.i64_in _ (by omega)
   have HX:=Lib.hid hx
   clear hx hI hxr
   by_cases hl:256<x.length
   ·have t2:(256:Int)< (x.length:Int):=by omega
    have HV:Hid (2=E):=Lib.hid (by rw [←HE.out];unfold errM;rw [if_neg H0.out,if_pos (any_memM HX.out (decide_eq_true hl))])
    go_wp2_with fail
    go_ret
    exact⟨by rw [HV.out];rfl,HXA.out⟩
   ·have t2:¬ (256:Int)< (x.length:Int):=by omega
    have HB:Hid (longM x=false):=Lib.hid (decide_eq_false hl)
    go_wp2_with fail
    go_roundw
    case rel=>exact⟨k+1,by omega,by go_num,any_takeM HX.out HNO.out HB.out,HXA.out⟩
    case measure=>simp [intOf];omega
  ·have HNL:Hid (m.any longM=false):=Lib.hid (by have:=HNO.out;rwa [List.take_of_length_le (by omega)] at this)
   have g3:¬ (k:Int)< (m.length:Int):=by omega
   clear HNO hxr
   go_wp2_with fail
   clear g3 g1 hkn hk
   go_loopw [6] (fun i wr=>∃k:Nat,k≤m.length∧i=.int .i64 k∧(m.take k).any (wrongM (m.headD []).length)=false∧Ext w wr) (fun i _=>m.length - (intOf i).toNat)
   case atStart=>exact⟨0,Nat.zero_le _,rfl,rfl,HXA.out⟩
   case round=>
    obtain⟨i,hi,rfl,hno,hxr⟩:=hrel
    generalize wr=wB at *
    have HNO:=Lib.hid hno
    have HXB:=Lib.hid hxr
    have g1:(0:Int)≤(i:Int):=by omega
    clear hno
    by_cases hin:i<m.length
    ·have hp0:0<m.length:=by omega
     obtain⟨b,o,rfl⟩:=HH.out.head hp0
     obtain⟨r0,a3,c3,hr0,hc0,hI0⟩:=Rows.get (HH.out.ext hxr) hp0
     obtain⟨x,a2,c2,hx,hc,hI⟩:=Rows.get (HH.out.ext hxr) hin
     simp only [Nat.add_zero] at hc0
     have r0le:=hI0.le
     have r0mx:=hI0.mx
     have xle:=hI.le
     have xmx:=hI.mx
     have g2:(i:Int)< (m.length:Int):=by omega
     have g3:(0:Int)< (m.length:Int):=by omega
     have hw1:IntKind.i64.wrap ((i:Int)+1)= (i:Int)+1:=IntWalk.i64_in _ (by omega)
     have HX:=Lib.hid hx
     have HI:=Lib.hid hI
     have HRL:Hid ((m.headD []).length=r0.length):=Lib.hid (by rw [List.headD_eq_head?_getD,List.head?_eq_getElem?,hr0];rfl)
     clear hx hr0 hI0 hI hxr
     by_cases hl:x.length=r0.length
     ·have t2:((x.length:Int) != (r0.length:Int))=false:=by simp [hl]
      have HL:=Lib.hid hl
      clear hl
      go_upto_region 11 with fail
      go_cut [44] (fun s wx=>s=.bool false∧Ext wB wx)
      case first=>
       have hE:Ext wB wB.drew:=(Ext.refl wB).drew
       have s0:=cell_exQ hE hc
       have s1:=cell_exQ hE hc0
       refine wp_region_held_drew (S:=(fun w'=>World.cell? w' ⟨b,o+i,none⟩=some (.slice a2 x.length c2)∧World.cell? w' ⟨b,o,none⟩=some (.slice a3 r0.length c3))) (by kernel_rfl) ?_ (fun hHeld=>?_)
       ·exact⟨s0,s1⟩
       (try simp only [pur,Nat.reduceAdd])
       refine tk (v:=?_) 0 rfl (by kernel_rfl) (fun _ _ _ h=>h) (by rfl) ?_ (by assumption) ?_
       rotate_left
       ·(intro w hSw;(try dsimp only at hSw);(try go_simp);(try with_reducible rfl))
       (try simp only [Act.put,pus])
       refine tk (v:=?_) 1 rfl (by kernel_rfl) (fun _ _ _ h=>h) (by rfl) ?_ (by assumption) ?_
       rotate_left
       ·(intro w hSw;(try dsimp only at hSw);(try go_simp);(try with_reducible rfl))
       (try simp only [Act.put,pus])
       refine tk (v:=?_) 2 rfl (by kernel_rfl) (fun _ _ _ h=>h) (by rfl) ?_ (by assumption) ?_
       rotate_left
       ·(intro w hSw;(try dsimp only at hSw);(try go_simp);(try with_reducible rfl))
       (try simp only [Act.put,pus])
       refine tk (v:=?_) 3 rfl (by kernel_rfl) (fun _ _ _ h=>h) (by rfl) ?_ (by assumption) ?_
       rotate_left
       ·(intro w hSw;(try dsimp only at hSw);(try go_simp);(try with_reducible rfl))
       (try simp only [Act.put,pus])
       refine tk (v:=?_) 4 rfl (by kernel_rfl) (fun _ _ _ h=>h) (by rfl) ?_ (by assumption) ?_
       rotate_left
       ·(intro w hSw;(try dsimp only at hSw);(try go_simp);(try with_reducible rfl))
       (try simp only [Act.put,pus])
       refine tk (v:=?_) 5 rfl (by kernel_rfl) (fun _ _ _ h=>h) (by rfl) ?_ (by assumption) ?_
       rotate_left
       ·(intro w hSw;(try dsimp only at hSw);(try go_simp);(try with_reducible rfl))
       (try simp only [Act.put,pus])
       refine tk (v:=?_) 6 rfl (by kernel_rfl) (fun _ _ _ h=>h) (by rfl) ?_ (by assumption) ?_
       rotate_left
       ·(intro w hSw;(try dsimp only at hSw);(try go_simp);(try with_reducible rfl))
       (try simp only [Act.put,pus])
       refine tk (v:=?_) 7 rfl (by kernel_rfl) (fun _ _ _ h=>h) (by rfl) ?_ (by assumption) ?_
       rotate_left
       ·(intro w hSw;(try dsimp only at hSw);(try go_simp);(try with_reducible rfl))
       (try simp only [Act.put,pus])
       refine tk (v:=?_) 8 rfl (by kernel_rfl) (fun _ _ _ h=>h) (by rfl) ?_ (by assumption) ?_
       rotate_left
       ·(intro w hSw;(try dsimp only at hSw);(try go_simp);(try with_reducible rfl))
       (try simp only [Act.put,pus])
       refine tk (v:=?_) 9 rfl (by kernel_rfl) (fun _ _ _ h=>h) (by rfl) ?_ (by assumption) ?_
       rotate_left
       ·(intro w hSw;(try dsimp only at hSw);(try go_simp);(try with_reducible rfl))
       (try simp only [Act.put,pus])
       refine wpAnyH_done (by kernel_rfl) ?_ _
       go_wp2_with fail;go_meet;exact⟨rfl,hE⟩
      case rest=>
      obtain⟨rfl,hy⟩:=hcut
      have hc':=cell_exQ hy hc
      replace HXB:=Lib.hid (HXB.out.trans hy)
      clear hc hc0
      have hc:=hc'
      clear hc'
      clear t2
      replace HI:=Lib.hid (HI.out.ext hy)
      clear hy
      generalize wc=wB' at *
      go_wp2_with fail
      go_loopw [7] (fun i wr=>∃k:Nat,k≤x.length∧i=.int .i64 k∧(x.take k).any badM=false∧Ext wB' wr) (fun i _=>x.length - (intOf i).toNat)
      case atStart=>exact⟨0,Nat.zero_le _,rfl,rfl,Ext.refl _⟩
      case round=>
       obtain⟨j,hj,rfl,hno,hxr⟩:=hrel
       generalize wr=wC at *
       have HNJ:=Lib.hid hno
       have HXC:=Lib.hid hxr
       have hc':=cell_exQ hxr hc
       clear hc
       have hc:=hc'
       clear hc'
       have j1:(0:Int)≤(j:Int):=by omega
       clear hno
       by_cases hjn:j<x.length
       ·obtain⟨b5,o5,rfl⟩:=HI.out.head hjn
        obtain⟨y,hy,hcy,y1,y2⟩:=Ints.get (HI.out.ext hxr) hjn
        have HY:=Lib.hid hy
        have j2:(j:Int)< (x.length:Int):=by omega
        have hw2:IntKind.i64.wrap ((j:Int)+1)= (j:Int)+1:=IntWalk.i64_in _ (by omega)
        clear hy hxr
        by_cases hb0:y= -1
        ·subst hb0
         have HB:Hid (badM (-1)=false):=Lib.hid (by decide)
         go_wp2_with fail
         go_roundw
         case rel=>exact⟨j+1,by omega,by go_num,any_takeM HY.out HNJ.out HB.out,HXC.out⟩
         case measure=>simp [intOf];omega
        by_cases hb1:y<0
        ·have HV:Hid (160=E):=Lib.hid (by
          have hb:badM y=true:=by unfold badM;rw [decide_eq_true (show y< -1 by omega)];simp
          rw [←HE.out];unfold errM
          rw [if_neg H0.out,if_neg (by rw [HNL.out];simp),if_pos (any_memM HX.out (by unfold wrongM;rw [any_memM HY.out hb];simp))])
         have HX3:=Lib.hid (HXB.out.trans HXC.out)
         go_wp2_with fail
         go_ret
         exact⟨by rw [HV.out];rfl,HX3.out⟩
        by_cases hb2:1000<y
        ·have HV:Hid (160=E):=Lib.hid (by
          have hb:badM y=true:=by unfold badM;rw [decide_eq_true hb2];simp
          rw [←HE.out];unfold errM
          rw [if_neg H0.out,if_neg (by rw [HNL.out];simp),if_pos (any_memM HX.out (by unfold wrongM;rw [any_memM HY.out hb];simp))])
         have HX3:=Lib.hid (HXB.out.trans HXC.out)
         go_wp2_with fail
         go_ret
         exact⟨by rw [HV.out];rfl,HX3.out⟩
        ·have HB:Hid (badM y=false):=Lib.hid (by unfold badM;rw [decide_eq_false (by omega),decide_eq_false (by omega)];rfl)
         go_wp2_with fail
         go_roundw
         case rel=>exact⟨j+1,by omega,by go_num,any_takeM HY.out HNJ.out HB.out,HXC.out⟩
         case measure=>simp [intOf];omega
       ·have HXE:Hid (wrongM (m.headD []).length x=false):=Lib.hid (by
         have:=HNJ.out
         rw [List.take_of_length_le (by omega)] at this
         unfold wrongM
         rw [this,HRL.out,HL.out];simp)
        have j2:¬ (j:Int)< (x.length:Int):=by omega
        have HX4:=Lib.hid (HXB.out.trans HXC.out)
        clear hxr
        go_wp2_with fail
        go_roundw
        case rel=>exact⟨i+1,by omega,by go_num,any_takeM HX.out HNO.out HXE.out,HX4.out⟩
        case measure=>simp [intOf];omega
     ·have t2:((x.length:Int) != (r0.length:Int))=true:=by simp;omega
      have HV:Hid (160=E):=Lib.hid (by
       rw [←HE.out];unfold errM
       rw [if_neg H0.out,if_neg (by rw [HNL.out];simp),if_pos (any_memM HX.out (by unfold wrongM;rw [HRL.out,decide_eq_true hl];simp))])
      go_upto_region 11 with fail
      go_cut [44] (fun s wx=>s=.bool true∧Ext wB wx)
      case first=>
       have hE:Ext wB wB.drew:=(Ext.refl wB).drew
       have s0:=cell_exQ hE hc
       have s1:=cell_exQ hE hc0
       refine wp_region_held_drew (S:=(fun w'=>World.cell? w' ⟨b,o+i,none⟩=some (.slice a2 x.length c2)∧World.cell? w' ⟨b,o,none⟩=some (.slice a3 r0.length c3))) (by kernel_rfl) ?_ (fun hHeld=>?_)
       ·exact⟨s0,s1⟩
       (try simp only [pur,Nat.reduceAdd])
       refine tk (v:=?_) 0 rfl (by kernel_rfl) (fun _ _ _ h=>h) (by rfl) ?_ (by assumption) ?_
       rotate_left
       ·(intro w hSw;(try dsimp only at hSw);(try go_simp);(try with_reducible rfl))
       (try simp only [Act.put,pus])
       refine tk (v:=?_) 1 rfl (by kernel_rfl) (fun _ _ _ h=>h) (by rfl) ?_ (by assumption) ?_
       rotate_left
       ·(intro w hSw;(try dsimp only at hSw);(try go_simp);(try with_reducible rfl))
       (try simp only [Act.put,pus])
       refine tk (v:=?_) 2 rfl (by kernel_rfl) (fun _ _ _ h=>h) (by rfl) ?_ (by assumption) ?_
       rotate_left
       ·(intro w hSw;(try dsimp only at hSw);(try go_simp);(try with_reducible rfl))
       (try simp only [Act.put,pus])
       refine tk (v:=?_) 3 rfl (by kernel_rfl) (fun _ _ _ h=>h) (by rfl) ?_ (by assumption) ?_
       rotate_left
       ·(intro w hSw;(try dsimp only at hSw);(try go_simp);(try with_reducible rfl))
       (try simp only [Act.put,pus])
       refine tk (v:=?_) 4 rfl (by kernel_rfl) (fun _ _ _ h=>h) (by rfl) ?_ (by assumption) ?_
       rotate_left
       ·(intro w hSw;(try dsimp only at hSw);(try go_simp);(try with_reducible rfl))
       (try simp only [Act.put,pus])
       refine tk (v:=?_) 5 rfl (by kernel_rfl) (fun _ _ _ h=>h) (by rfl) ?_ (by assumption) ?_
       rotate_left
       ·(intro w hSw;(try dsimp only at hSw);(try go_simp);(try with_reducible rfl))
       (try simp only [Act.put,pus])
       refine tk (v:=?_) 6 rfl (by kernel_rfl) (fun _ _ _ h=>h) (by rfl) ?_ (by assumption) ?_
       rotate_left
       ·(intro w hSw;(try dsimp only at hSw);(try go_simp);(try with_reducible rfl))
       (try simp only [Act.put,pus])
       refine tk (v:=?_) 7 rfl (by kernel_rfl) (fun _ _ _ h=>h) (by rfl) ?_ (by assumption) ?_
       rotate_left
       ·(intro w hSw;(try dsimp only at hSw);(try go_simp);(try with_reducible rfl))
       (try simp only [Act.put,pus])
       refine tk (v:=?_) 8 rfl (by kernel_rfl) (fun _ _ _ h=>h) (by rfl) ?_ (by assumption) ?_
       rotate_left
       ·(intro w hSw;(try dsimp only at hSw);(try go_simp);(try with_reducible rfl))
       (try simp only [Act.put,pus])
       refine tk (v:=?_) 9 rfl (by kernel_rfl) (fun _ _ _ h=>h) (by rfl) ?_ (by assumption) ?_
       rotate_left
       ·(intro w hSw;(try dsimp only at hSw);(try go_simp);(try with_reducible rfl))
       (try simp only [Act.put,pus])
       refine wpAnyH_done (by kernel_rfl) ?_ _
       go_wp2_with fail;go_meet;exact⟨rfl,hE⟩
      case rest=>
      obtain⟨rfl,hy⟩:=hcut
      have hc':=cell_exQ hy hc
      replace HXB:=Lib.hid (HXB.out.trans hy)
      clear hc hc0
      have hc:=hc'
      clear hc'
      go_wp2_with fail
      go_ret
      exact⟨by rw [HV.out];rfl,HXB.out⟩
    ·have HNW:Hid (m.any (wrongM (m.headD []).length)=false):=Lib.hid (by have:=HNO.out;rwa [List.take_of_length_le (by omega)] at this)
     have g3:¬ (i:Int)< (m.length:Int):=by omega
     clear HNO
     obtain⟨bb,hbb⟩:∃bb,decide (0<m.length∧(m.headD []).length≠L.length)=bb:=⟨_,rfl⟩
     have HBB:=Lib.hid hbb
     clear hbb
     go_upto_region 18 with fail
     go_cut [93] (fun s wx=>s=.bool bb∧Ext wB wx)
     case first=>
      by_cases h0:m.length=0
      ·obtain rfl:m=[]:=List.length_eq_zero_iff.1 h0
       have g4:¬ (0:Int)< ((0:Nat):Int):=by omega
       have HB2:Hid (false=bb):=Lib.hid (by rw [←HBB.out];simp)
       clear hxr
       go_wp2_with fail
       go_meet
       exact⟨by rw [←HB2.out],Ext.refl _⟩
      ·obtain⟨r0,hr0⟩:∃r0,m[0]? =some r0:=⟨_,List.getElem?_eq_getElem (by omega)⟩
       have hp0:0<m.length:=by omega
       obtain⟨b,o,rfl⟩:=HH.out.head hp0
       obtain⟨r1,a3,c3,hr1,hc0,hI0⟩:=Rows.get (HH.out.ext hxr) hp0
       rw [hr0] at hr1
       cases hr1
       simp only [Nat.add_zero] at hc0
       have r0le:=hI0.le
       have r0mx:=hI0.mx
       have g4:(0:Int)< (m.length:Int):=by omega
       have HRL:(m.headD []).length=r0.length:=by rw [List.headD_eq_head?_getD,List.head?_eq_getElem?,hr0];rfl
       have HB2:Hid (decide (r0.length≠L.length)=bb):=Lib.hid (by rw [←HBB.out,HRL];simp [hp0])
       clear hr0 hI0 hxr HRL
       by_cases hrl:r0.length=L.length
       ·have t4:((r0.length:Int) != (L.length:Int))=false:=by simp [hrl]
        have HB3:Hid (false=bb):=Lib.hid (by rw [←HB2.out];simp [hrl])
        clear hrl
        go_wp2_with fail
        go_meet
        exact⟨by rw [←HB3.out],Ext.refl _⟩
       ·have t4:((r0.length:Int) != (L.length:Int))=true:=by simp;omega
        have HB3:Hid (true=bb):=Lib.hid (by rw [←HB2.out];simp [hrl])
        go_wp2_with fail
        go_meet
        exact⟨by rw [←HB3.out],Ext.refl _⟩
     case rest=>
     obtain⟨rfl,hy⟩:=hcut
     have HXD0:=Lib.hid (HXB.out.trans hy)
     clear hy hxr
     cases bb
     ·have HM:Hid (¬ (0<m.length∧(m.headD []).length≠L.length)):=Lib.hid (of_decide_eq_false HBB.out)
      go_wp2_with fail
      go_loopw [8] (fun i wr=>∃k:Nat,k≤L.length∧i=.int .i64 k∧(L.take k).any (fun x=>!x.ok)=false∧Ext w wr) (fun i _=>L.length - (intOf i).toNat)
      case atStart=>exact⟨0,Nat.zero_le _,rfl,rfl,HXD0.out⟩
      case round=>
       obtain⟨q,hq,rfl,hno,hxr⟩:=hrel
       generalize wr=wD at *
       have HNQ:=Lib.hid hno
       have HXD:=Lib.hid hxr
       have q1:(0:Int)≤(q:Int):=by omega
       clear hno
       by_cases hqn:q<L.length
       ·obtain⟨bs,os,rfl⟩:=HK.out.head hqn
        obtain⟨n,xa,xc,xl,n2,xb,xd,xm,hX,c0,c1,c2,c3,hi,hj⟩:=(HK.out.ext hxr).get hqn
        have HC:=refR_Check n n2 xa xb xc xd xl xm _ hi hj
        have HX:=Lib.hid hX
        have q2:(q:Int)< (L.length:Int):=by omega
        have hw2:IntKind.i64.wrap ((q:Int)+1)= (q:Int)+1:=IntWalk.i64_in _ (by omega)
        clear hi hj hX hxr
        cases hok:okR n xl n2 xm
        ·rw [hok] at HC
         have HV:Hid (100=E):=Lib.hid (by
          rw [←HE.out];unfold errM
          rw [if_neg H0.out,if_neg (by rw [HNL.out];simp),if_neg (by rw [HNW.out];simp),if_neg HM.out,if_pos (any_memM HX.out (by show(!okR n xl n2 xm)=true;rw [hok];rfl))])
         have HC:=Lib.hid (show Calls Tryz.prog 22 _ _ fun e w'=>e=.returned (.int .i64 100)∧Ext _ w' from HC)
         clear hok
         go_wp2_with fail
         refine HC.out.mono ?_
         rintro e x6 ⟨rfl,hy⟩
         have HX6:=Lib.hid (HXD.out.trans hy)
         go_wp2_with fail
         go_ret
         exact⟨by rw [HV.out];rfl,HX6.out⟩
        ·rw [hok] at HC
         have HB:Hid ((fun x:RatA=>!x.ok) ⟨n,xa,xc,xl,n2,xb,xd,xm⟩=false):=Lib.hid (by show(!okR n xl n2 xm)=false;rw [hok];rfl)
         have HC:=Lib.hid (show Calls Tryz.prog 22 _ _ fun e w'=>e=.returned (.int .i64 0)∧Ext _ w' from HC)
         clear hok
         go_wp2_with fail
         refine HC.out.mono ?_
         rintro e x6 ⟨rfl,hy⟩
         have HX6:=Lib.hid (HXD.out.trans hy)
         go_wp2_with fail
         go_roundw
         case rel=>exact⟨q+1,by omega,by go_num,any_takeM HX.out HNQ.out HB.out,HX6.out⟩
         case measure=>simp [intOf];omega
       ·have HNA:Hid (L.any (fun x=>!x.ok)=false):=Lib.hid (by have:=HNQ.out;rwa [List.take_of_length_le (by omega)] at this)
        have HV:Hid (0=E):=Lib.hid (by
         rw [←HE.out];unfold errM
         rw [if_neg H0.out,if_neg (by rw [HNL.out];simp),if_neg (by rw [HNW.out];simp),if_neg HM.out,if_neg (by rw [HNA.out];simp)])
        have q2:¬ (q:Int)< (L.length:Int):=by omega
        clear hxr
        go_wp2_with fail
        go_ret
        exact⟨by rw [HV.out];rfl,HXD.out⟩
     ·have HV:Hid (1=E):=Lib.hid (by
       rw [←HE.out];unfold errM
       rw [if_neg H0.out,if_neg (by rw [HNL.out];simp),if_neg (by rw [HNW.out];simp),if_pos (of_decide_eq_true HBB.out)])
      go_wp2_with fail
      go_ret
      exact⟨by rw [HV.out];rfl,HXD0.out⟩
end Go.Proofs.YtolffmmkjnhkkaaGreat
