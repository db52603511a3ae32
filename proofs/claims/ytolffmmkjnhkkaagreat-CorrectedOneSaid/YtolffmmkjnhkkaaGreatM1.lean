import Derived.Test.YtolffmmkjnhkkaaGreatM0
import Derived.OwnWalk
import Derived.Deep.QuietTactic
namespace Go.Proofs.YtolffmmkjnhkkaaGreat
open Go.RowKit Go BigFrame Go.Shelf
set_option maxRecDepth 100000
set_option linter.unusedSimpArgs false
set_option linter.unusedVariables false
abbrev stopEnd (E:Int):Ending:=.panicked [{v:=.iface 98 (.agg #[.int .i64 E]),recovered:=false}]
theorem corrected_must_yes (E:Int) (w:World):Calls Tryz.prog 57 #[.bool true,.int .i64 E] w fun e w'=>e=.returned (.tuple #[])∧Ext w w':=by
 have hx:=Ext.refl w
 go_enter Tryz.func57,Tryz.ntmps57
 go_wp2_with fail
 go_end0
 exact⟨rfl,hx⟩
theorem corrected_must_no (E:Int) (w:World):Calls Tryz.prog 57 #[.bool false,.int .i64 E] w fun e w'=>e=stopEnd E∧Ext w w':=by
 have hx:=Ext.refl w
 go_enter Tryz.func57,Tryz.ntmps57
 go_wp2_with fail
 exact⟨rfl,rfl,hx⟩
def badM (n:Int):Bool:=decide (n< -1) || decide (1000<n)
def longM (l:List Int):Bool:=decide (256<l.length)
def wrongM (k:Nat) (l:List Int):Bool:=decide (l.length≠k) || l.any badM
def errM (m:List (List Int)) (n:Nat) (bad:Bool):Int:=
 if 4096<m.length∨256<n then 2 else if m.any longM=true then 2 else if m.any (wrongM (m.headD []).length)=true then 160 else if 0<m.length∧(m.headD []).length≠n then 1 else if bad=true then 100 else 0
def chkEnd (E:Int):Ending:=if E=0 then .returned (.tuple #[]) else stopEnd E
theorem chk_at {m:List (List Int)} {n:Nat} {b:Bool} {V:Int} {E:Ending} (he:errM m n b=V) (hV:V≠0) (h:chkEnd (errM m n b)=E):stopEnd V=E:=by
 rw [he] at h
 unfold chkEnd at h
 rw [if_neg hV] at h
 exact h
theorem chk_ok {m:List (List Int)} {n:Nat} {b:Bool} {E:Ending} (he:errM m n b=0) (h:chkEnd (errM m n b)=E):.returned (.tuple #[])=E:=by
 rw [he] at h
 unfold chkEnd at h
 rw [if_pos rfl] at h
 exact h
theorem any_takeM {α:Type} {B:α→Bool} {m:List α} {k:Nat} {x:α} (hx:m[k]? =some x) (h:(m.take k).any B=false) (hb:B x=false):(m.take (k+1)).any B=false:=by
 rw [take_get hx,List.any_append,h];simp [hb]
theorem any_memM {α:Type} {B:α→Bool} {m:List α} {k:Nat} {x:α} (hx:m[k]? =some x) (hb:B x=true):m.any B=true:=List.any_eq_true.2 ⟨x,List.mem_of_getElem? hx,hb⟩
set_option maxHeartbeats 16000000 in
theorem corrected_check (a:Option Addr) (cap:Nat) (m:List (List Int)) (s:Option Addr) (sc:Nat) (L:List RatA) (w:World) (h:Rows w a cap m) (k:RatsI w s sc L):
 Calls Tryz.prog 52 #[.slice a m.length cap,.slice s L.length sc] w fun e w'=>e=chkEnd (errM m L.length (L.any fun x=>!x.ok))∧Ext w w':=by
 have hle:=h.le
 have hmx:=h.mx
 have sle:=k.le
 have smx:=k.mx
 obtain⟨E,hE⟩:∃E,chkEnd (errM m L.length (L.any fun x=>!x.ok))=E:=⟨_,rfl⟩
 rw [hE]
 have HE:=Lib.hid hE
 have HH:=Lib.hid h
 have HK:=Lib.hid k
 clear h k hE
 by_cases h1:4096<m.length
 ·have t1:decide ((m.length:Int)≤4096)=false:=decide_eq_false (by omega)
  have HV:Hid (stopEnd 2=E):=Lib.hid (by refine chk_at ?_ (by decide) HE.out;unfold errM;rw [if_pos (.inl h1)])
  clear HE HH HK
  go_enter Tryz.func52,Tryz.ntmps52
  go_wp2_with fail
  refine(corrected_must_no 2 _).mono ?_
  rintro e x1 ⟨rfl,hy⟩
  go_wp2_with fail
  exact⟨rfl,HV.out,hy⟩
 have t1:decide ((m.length:Int)≤4096)=true:=decide_eq_true (by omega)
 by_cases h2:256<L.length
 ·have t2:decide ((L.length:Int)≤256)=false:=decide_eq_false (by omega)
  have HV:Hid (stopEnd 2=E):=Lib.hid (by refine chk_at ?_ (by decide) HE.out;unfold errM;rw [if_pos (.inr h2)])
  clear HE HH HK
  go_enter Tryz.func52,Tryz.ntmps52
  go_wp2_with fail
  refine(corrected_must_no 2 _).mono ?_
  rintro e x1 ⟨rfl,hy⟩
  go_wp2_with fail
  exact⟨rfl,HV.out,hy⟩
 have t2:decide ((L.length:Int)≤256)=true:=decide_eq_true (by omega)
 have H0:=Lib.hid (show ¬ (4096<m.length∨256<L.length) by omega)
 go_enter Tryz.func52,Tryz.ntmps52
 go_wp2_with fail
 refine(corrected_must_yes 2 _).mono ?_
 rintro e x1 ⟨rfl,hx⟩
 clear t1 t2
 go_wp2_with fail
 go_loopw [23] (fun i wr=>∃k:Nat,k≤m.length∧i=.int .i64 k∧(m.take k).any longM=false∧Ext w wr) (fun i _=>m.length - (intOf i).toNat)
 case atStart=>exact⟨0,Nat.zero_le _,rfl,rfl,hx⟩
 case round=>
  obtain⟨k,hk,rfl,hno,hxr⟩:=hrel
  generalize wr=wA at *
  have HNO:=Lib.hid hno
  have HXA:=Lib.hid hxr
  have g1:(0:Int)≤(k:Int):=by omega
  clear hno hx
  by_cases hkn:k<m.length
  ·obtain⟨b,o,rfl⟩:=HH.out.head hkn
   obtain⟨x,a2,c2,hx,hc,hI⟩:=Rows.get (HH.out.ext hxr) hkn
   have xle:=hI.le
   have xmx:=hI.mx
   have g2:(k:Int)< (m.length:Int):=by omega
   have HX:=Lib.hid hx
   clear hx hI hxr
   by_cases hl:256<x.length
   ·have t2:decide ((x.length:Int)≤256)=false:=decide_eq_false (by omega)
    have HV:Hid (stopEnd 2=E):=Lib.hid (by refine chk_at ?_ (by decide) HE.out;unfold errM;rw [if_neg H0.out,if_pos (any_memM HX.out (decide_eq_true hl))])
    go_wp2_with fail
    refine(corrected_must_no 2 _).mono ?_
    rintro e x1 ⟨rfl,hy⟩
    have HX2:=Lib.hid (HXA.out.trans hy)
    go_wp2_with fail
    exact⟨rfl,HV.out,HX2.out⟩
   ·have t2:decide ((x.length:Int)≤256)=true:=decide_eq_true (by omega)
    have HB:Hid (longM x=false):=Lib.hid (decide_eq_false hl)
    go_wp2_with fail
    refine(corrected_must_yes 2 _).mono ?_
    rintro e x1 ⟨rfl,hy⟩
    have HX2:=Lib.hid (HXA.out.trans hy)
    go_wp2_with fail
    go_roundw
    case rel=>exact⟨k+1,by omega,by go_num,any_takeM HX.out HNO.out HB.out,HX2.out⟩
    case measure=>simp [intOf];omega
  ·have HNL:Hid (m.any longM=false):=Lib.hid (by have:=HNO.out;rwa [List.take_of_length_le (by omega)] at this)
   have g3:¬ (k:Int)< (m.length:Int):=by omega
   clear HNO hxr
   go_wp2_with fail
   clear g3 g1 hkn hk
   go_loopw [34] (fun i wr=>∃k:Nat,k≤m.length∧i=.int .i64 k∧(m.take k).any (wrongM (m.headD []).length)=false∧Ext w wr) (fun i _=>m.length - (intOf i).toNat)
   case atStart=>exact⟨0,Nat.zero_le _,rfl,rfl,HXA.out⟩
   case round=>
    obtain⟨i,hi,rfl,hno,hxr⟩:=hrel
    generalize wr=wB at *
    have HNO:=Lib.hid hno
    have HXB:=Lib.hid hxr
    have g1:(0:Int)≤(i:Int):=by omega
    clear hno
    by_cases hin:i<m.length
    ·have hp0:0<m.length:=by omega
     obtain⟨b,o,rfl⟩:=HH.out.head hp0
     obtain⟨r0,a3,c3,hr0,hc0,hI0⟩:=Rows.get (HH.out.ext hxr) hp0
     obtain⟨x,a2,c2,hx,hc,hI⟩:=Rows.get (HH.out.ext hxr) hin
     simp only [Nat.add_zero] at hc0
     have r0le:=hI0.le
     have r0mx:=hI0.mx
     have xle:=hI.le
     have xmx:=hI.mx
     have g2:(i:Int)< (m.length:Int):=by omega
     have g3:(0:Int)< (m.length:Int):=by omega
     have HX:=Lib.hid hx
     have HI:=Lib.hid hI
     have HRL:Hid ((m.headD []).length=r0.length):=Lib.hid (by rw [List.headD_eq_head?_getD,List.head?_eq_getElem?,hr0];rfl)
     clear hx hr0 hI0 hI hxr
     by_cases hl:x.length=r0.length
     ·have t2:((x.length:Int) == (r0.length:Int))=true:=by simp [hl]
      have HL:=Lib.hid hl
      clear hl
      go_wp2_with fail
      refine(corrected_must_yes 160 _).mono ?_
      rintro e x1 ⟨rfl,hy⟩
      have HX2:=Lib.hid (HXB.out.trans hy)
      have HX1:=Lib.hid hy
      clear t2 hc hc0 hy
      go_wp2_with fail
      go_loopw [48] (fun i wr=>∃k:Nat,k≤x.length∧i=.int .i64 k∧(x.take k).any badM=false∧Ext wB wr) (fun i _=>x.length - (intOf i).toNat)
      case atStart=>exact⟨0,Nat.zero_le _,rfl,rfl,HX1.out⟩
      case round=>
       obtain⟨j,hj,rfl,hno,hxr⟩:=hrel
       generalize wr=wC at *
       have HNJ:=Lib.hid hno
       have HXC:=Lib.hid hxr
       have j1:(0:Int)≤(j:Int):=by omega
       clear hno
       by_cases hjn:j<x.length
       ·obtain⟨b5,o5,rfl⟩:=HI.out.head hjn
        obtain⟨y,hy,hcy,y1,y2⟩:=Ints.get (HI.out.ext hxr) hjn
        have HY:=Lib.hid hy
        have j2:(j:Int)< (x.length:Int):=by omega
        clear hy hxr
        by_cases hb1:-1≤y
        ·have t3:decide (-1≤y)=true:=decide_eq_true hb1
         by_cases hb2:y≤1000
         ·have t4:decide (y≤1000)=true:=decide_eq_true hb2
          have HB:Hid (badM y=false):=Lib.hid (by unfold badM;rw [decide_eq_false (by omega),decide_eq_false (by omega)];rfl)
          go_wp2_with fail
          refine(corrected_must_yes 160 _).mono ?_
          rintro e x3 ⟨rfl,hy⟩
          have HX3:=Lib.hid (HXC.out.trans hy)
          go_wp2_with fail
          go_roundw
          case rel=>exact⟨j+1,by omega,by go_num,any_takeM HY.out HNJ.out HB.out,HX3.out⟩
          case measure=>simp [intOf];omega
         ·have t4:decide (y≤1000)=false:=decide_eq_false hb2
          have HV:Hid (stopEnd 160=E):=Lib.hid (by
           have hb:badM y=true:=by unfold badM;rw [decide_eq_true (show 1000<y by omega)];simp
           refine chk_at ?_ (by decide) HE.out;unfold errM
           rw [if_neg H0.out,if_neg (by rw [HNL.out];simp),if_pos (any_memM HX.out (by unfold wrongM;rw [any_memM HY.out hb];simp))])
          go_wp2_with fail
          refine(corrected_must_no 160 _).mono ?_
          rintro e x3 ⟨rfl,hy⟩
          have HX3:=Lib.hid (HXB.out.trans (HXC.out.trans hy))
          go_wp2_with fail
          exact⟨rfl,HV.out,HX3.out⟩
        ·have t3:decide (-1≤y)=false:=decide_eq_false hb1
         have HV:Hid (stopEnd 160=E):=Lib.hid (by
          have hb:badM y=true:=by unfold badM;rw [decide_eq_true (show y< -1 by omega)];simp
          refine chk_at ?_ (by decide) HE.out;unfold errM
          rw [if_neg H0.out,if_neg (by rw [HNL.out];simp),if_pos (any_memM HX.out (by unfold wrongM;rw [any_memM HY.out hb];simp))])
         go_wp2_with fail
         refine(corrected_must_no 160 _).mono ?_
         rintro e x3 ⟨rfl,hy⟩
         have HX3:=Lib.hid (HXB.out.trans (HXC.out.trans hy))
         go_wp2_with fail
         exact⟨rfl,HV.out,HX3.out⟩
       ·have HXE:Hid (wrongM (m.headD []).length x=false):=Lib.hid (by
         have:=HNJ.out
         rw [List.take_of_length_le (by omega)] at this
         unfold wrongM
         rw [this,HRL.out,HL.out];simp)
        have j2:¬ (j:Int)< (x.length:Int):=by omega
        have HX4:=Lib.hid (HXB.out.trans HXC.out)
        clear hxr
        go_wp2_with fail
        go_roundw
        case rel=>exact⟨i+1,by omega,by go_num,any_takeM HX.out HNO.out HXE.out,HX4.out⟩
        case measure=>simp [intOf];omega
     ·have t2:((x.length:Int) == (r0.length:Int))=false:=beq_false_of_ne (by omega)
      have HV:Hid (stopEnd 160=E):=Lib.hid (by
       refine chk_at ?_ (by decide) HE.out;unfold errM
       rw [if_neg H0.out,if_neg (by rw [HNL.out];simp),if_pos (any_memM HX.out (by unfold wrongM;rw [HRL.out,decide_eq_true hl];simp))])
      go_wp2_with fail
      refine(corrected_must_no 160 _).mono ?_
      rintro e x1 ⟨rfl,hy⟩
      have HX2:=Lib.hid (HXB.out.trans hy)
      go_wp2_with fail
      exact⟨rfl,HV.out,HX2.out⟩
    ·have HNW:Hid (m.any (wrongM (m.headD []).length)=false):=Lib.hid (by have:=HNO.out;rwa [List.take_of_length_le (by omega)] at this)
     have g3:¬ (i:Int)< (m.length:Int):=by omega
     clear HNO
     have key:∀ (x1:World),Ext w x1→Hid (0<m.length→(m.headD []).length=L.length)→True:=fun _ _ _=>trivial
     clear key
     by_cases h0:m.length=0
     ·obtain rfl:m=[]:=List.length_eq_zero_iff.1 h0
      simp only [List.length_nil] at *
      have g4:¬ (i:Int)<0:=by omega
      have HM:Hid (¬ (0< ([]:List (List Int)).length∧(([]:List (List Int)).headD []).length≠L.length)):=Lib.hid (by simp)
      clear hxr
      go_wp2_with fail
      refine(corrected_must_yes 1 _).mono ?_
      rintro e x1 ⟨rfl,hy⟩
      have HX5:=Lib.hid (HXB.out.trans hy)
      clear hy g4 g3 g1
      go_wp2_with fail
      go_loopw [76] (fun i wr=>∃k:Nat,k≤L.length∧i=.int .i64 k∧(L.take k).any (fun x=>!x.ok)=false∧Ext w wr) (fun i _=>L.length - (intOf i).toNat)
      case atStart=>exact⟨0,Nat.zero_le _,rfl,rfl,HX5.out⟩
      case round=>
       obtain⟨q,hq,rfl,hno,hxr⟩:=hrel
       generalize wr=wD at *
       have HNQ:=Lib.hid hno
       have HXD:=Lib.hid hxr
       have q1:(0:Int)≤(q:Int):=by omega
       clear hno
       by_cases hqn:q<L.length
       ·obtain⟨bs,os,rfl⟩:=HK.out.head hqn
        obtain⟨n,xa,xc,xl,n2,xb,xd,xm,hX,c0,c1,c2,c3,hi,hj⟩:=(HK.out.ext hxr).get hqn
        have hxx:=hxr.alloc' (.cells #[.bool n,.slice xa xl.length xc,.bool n2,.slice xb xm.length xd] 38)
        have HC:=ratio_Check n n2 xa xb xc xd xl xm _ (hi.ext ((Ext.refl wD).alloc' (.cells #[.bool n,.slice xa xl.length xc,.bool n2,.slice xb xm.length xd] 38))) (hj.ext ((Ext.refl wD).alloc' (.cells #[.bool n,.slice xa xl.length xc,.bool n2,.slice xb xm.length xd] 38)))
        have HXX:=Lib.hid hxx
        have HX:=Lib.hid hX
        have q2:(q:Int)< (L.length:Int):=by omega
        clear hi hj hX hxx hxr
        cases hok:okR n xl n2 xm
        ·rw [hok] at HC
         have HV:Hid (stopEnd 100=E):=Lib.hid (by
          refine chk_at ?_ (by decide) HE.out;unfold errM
          rw [if_neg (by have:=H0.out;simpa using this),if_neg (by rw [HNL.out];simp),if_neg (by rw [HNW.out];simp),if_neg HM.out,if_pos (any_memM HX.out (by show(!okR n xl n2 xm)=true;rw [hok];rfl))])
         have HC:=Lib.hid (show Calls Tryz.prog 62 _ _ fun e w'=>e=.returned (.int .i64 100)∧Ext _ w' from HC)
         clear hok
         go_wp2_with fail
         refine HC.out.mono ?_
         rintro e x6 ⟨rfl,hy⟩
         have HX6:=Lib.hid (HXX.out.trans hy)
         go_wp2_with fail
         refine(corrected_must_no 100 _).mono ?_
         rintro e x7 ⟨rfl,hy7⟩
         have HX7:=Lib.hid (HX6.out.trans hy7)
         go_wp2_with fail
         exact⟨rfl,HV.out,HX7.out⟩
        ·rw [hok] at HC
         have HB:Hid ((fun x:RatA=>!x.ok) ⟨n,xa,xc,xl,n2,xb,xd,xm⟩=false):=Lib.hid (by show(!okR n xl n2 xm)=false;rw [hok];rfl)
         have HC:=Lib.hid (show Calls Tryz.prog 62 _ _ fun e w'=>e=.returned (.int .i64 0)∧Ext _ w' from HC)
         clear hok
         go_wp2_with fail
         refine HC.out.mono ?_
         rintro e x6 ⟨rfl,hy⟩
         have HX6:=Lib.hid (HXX.out.trans hy)
         go_wp2_with fail
         refine(corrected_must_yes 100 _).mono ?_
         rintro e x7 ⟨rfl,hy7⟩
         have HX7:=Lib.hid (HX6.out.trans hy7)
         go_wp2_with fail
         go_roundw
         case rel=>exact⟨q+1,by omega,by go_num,any_takeM HX.out HNQ.out HB.out,HX7.out⟩
         case measure=>simp [intOf];omega
       ·have HNA:Hid (L.any (fun x=>!x.ok)=false):=Lib.hid (by have:=HNQ.out;rwa [List.take_of_length_le (by omega)] at this)
        have HV:Hid (.returned (.tuple #[])=E):=Lib.hid (by
         refine chk_ok ?_ HE.out;unfold errM
         rw [if_neg (by have:=H0.out;simpa using this),if_neg (by rw [HNL.out];simp),if_neg (by rw [HNW.out];simp),if_neg HM.out,if_neg (by rw [HNA.out];simp)])
        have q2:¬ (q:Int)< (L.length:Int):=by omega
        clear hxr
        go_wp2_with fail
        go_end0
        exact⟨HV.out,HXD.out⟩
     ·obtain⟨r0,hr0⟩:∃r0,m[0]? =some r0:=⟨_,List.getElem?_eq_getElem (by omega)⟩
      have hp0:0<m.length:=by omega
      obtain⟨b,o,rfl⟩:=HH.out.head hp0
      obtain⟨r1,a3,c3,hr1,hc0,hI0⟩:=Rows.get (HH.out.ext hxr) hp0
      rw [hr0] at hr1
      cases hr1
      simp only [Nat.add_zero] at hc0
      have r0le:=hI0.le
      have r0mx:=hI0.mx
      have g4:(0:Int)< (m.length:Int):=by omega
      have t3:((m.length:Int) == 0)=false:=beq_false_of_ne (by omega)
      have t3n:¬m=[]:=List.ne_nil_of_length_pos hp0
      have HRL:Hid ((m.headD []).length=r0.length):=Lib.hid (by rw [List.headD_eq_head?_getD,List.head?_eq_getElem?,hr0];rfl)
      clear hr0 hI0 hxr
      by_cases hrl:r0.length=L.length
      ·have t4:((r0.length:Int) == (L.length:Int))=true:=by simp [hrl]
       have HM:Hid (¬ (0<m.length∧(m.headD []).length≠L.length)):=Lib.hid (by rw [HRL.out];omega)
       clear hrl
       go_wp2_with fail
       refine(corrected_must_yes 1 _).mono ?_
       rintro e x1 ⟨rfl,hy⟩
       have HX5:=Lib.hid (HXB.out.trans hy)
       clear hy g4 g3 g1 t3 t3n t4 hc0
       go_wp2_with fail
       go_loopw [76] (fun i wr=>∃k:Nat,k≤L.length∧i=.int .i64 k∧(L.take k).any (fun x=>!x.ok)=false∧Ext w wr) (fun i _=>L.length - (intOf i).toNat)
       case atStart=>exact⟨0,Nat.zero_le _,rfl,rfl,HX5.out⟩
       case round=>
        obtain⟨q,hq,rfl,hno,hxr⟩:=hrel
        generalize wr=wD at *
        have HNQ:=Lib.hid hno
        have HXD:=Lib.hid hxr
        have q1:(0:Int)≤(q:Int):=by omega
        clear hno
        by_cases hqn:q<L.length
        ·obtain⟨bs,os,rfl⟩:=HK.out.head hqn
         obtain⟨n,xa,xc,xl,n2,xb,xd,xm,hX,c0,c1,c2,c3,hi,hj⟩:=(HK.out.ext hxr).get hqn
         have hxx:=hxr.alloc' (.cells #[.bool n,.slice xa xl.length xc,.bool n2,.slice xb xm.length xd] 38)
         have HC:=ratio_Check n n2 xa xb xc xd xl xm _ (hi.ext ((Ext.refl wD).alloc' (.cells #[.bool n,.slice xa xl.length xc,.bool n2,.slice xb xm.length xd] 38))) (hj.ext ((Ext.refl wD).alloc' (.cells #[.bool n,.slice xa xl.length xc,.bool n2,.slice xb xm.length xd] 38)))
         have HXX:=Lib.hid hxx
         have HX:=Lib.hid hX
         have q2:(q:Int)< (L.length:Int):=by omega
         clear hi hj hX hxx hxr
         cases hok:okR n xl n2 xm
         ·rw [hok] at HC
          have HV:Hid (stopEnd 100=E):=Lib.hid (by
           refine chk_at ?_ (by decide) HE.out;unfold errM
           rw [if_neg H0.out,if_neg (by rw [HNL.out];simp),if_neg (by rw [HNW.out];simp),if_neg HM.out,if_pos (any_memM HX.out (by show(!okR n xl n2 xm)=true;rw [hok];rfl))])
          have HC:=Lib.hid (show Calls Tryz.prog 62 _ _ fun e w'=>e=.returned (.int .i64 100)∧Ext _ w' from HC)
          clear hok
          go_wp2_with fail
          refine HC.out.mono ?_
          rintro e x6 ⟨rfl,hy⟩
          have HX6:=Lib.hid (HXX.out.trans hy)
          go_wp2_with fail
          refine(corrected_must_no 100 _).mono ?_
          rintro e x7 ⟨rfl,hy7⟩
          have HX7:=Lib.hid (HX6.out.trans hy7)
          go_wp2_with fail
          exact⟨rfl,HV.out,HX7.out⟩
         ·rw [hok] at HC
          have HB:Hid ((fun x:RatA=>!x.ok) ⟨n,xa,xc,xl,n2,xb,xd,xm⟩=false):=Lib.hid (by show(!okR n xl n2 xm)=false;rw [hok];rfl)
          have HC:=Lib.hid (show Calls Tryz.prog 62 _ _ fun e w'=>e=.returned (.int .i64 0)∧Ext _ w' from HC)
          clear hok
          go_wp2_with fail
          refine HC.out.mono ?_
          rintro e x6 ⟨rfl,hy⟩
          have HX6:=Lib.hid (HXX.out.trans hy)
          go_wp2_with fail
          refine(corrected_must_yes 100 _).mono ?_
          rintro e x7 ⟨rfl,hy7⟩
          have HX7:=Lib.hid (HX6.out.trans hy7)
          go_wp2_with fail
          go_roundw
          case rel=>exact⟨q+1,by omega,by go_num,any_takeM HX.out HNQ.out HB.out,HX7.out⟩
          case measure=>simp [intOf];omega
        ·have HNA:Hid (L.any (fun x=>!x.ok)=false):=Lib.hid (by have:=HNQ.out;rwa [List.take_of_length_le (by omega)] at this)
         have HV:Hid (.returned (.tuple #[])=E):=Lib.hid (by
          refine chk_ok ?_ HE.out;unfold errM
          rw [if_neg H0.out,if_neg (by rw [HNL.out];simp),if_neg (by rw [HNW.out];simp),if_neg HM.out,if_neg (by rw [HNA.out];simp)])
         have q2:¬ (q:Int)< (L.length:Int):=by omega
         clear hxr
         go_wp2_with fail
         go_end0
         exact⟨HV.out,HXD.out⟩
      ·have t4:((r0.length:Int) == (L.length:Int))=false:=beq_false_of_ne (by omega)
       have HV:Hid (stopEnd 1=E):=Lib.hid (by
        refine chk_at ?_ (by decide) HE.out;unfold errM
        rw [if_neg H0.out,if_neg (by rw [HNL.out];simp),if_neg (by rw [HNW.out];simp),if_pos ⟨hp0,by rw [HRL.out];exact hrl⟩])
       go_wp2_with fail
       refine(corrected_must_no 1 _).mono ?_
       rintro e x1 ⟨rfl,hy⟩
       have HX2:=Lib.hid (HXB.out.trans hy)
       go_wp2_with fail
       exact⟨rfl,HV.out,HX2.out⟩
end Go.Proofs.YtolffmmkjnhkkaaGreat
