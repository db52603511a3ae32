import Derived.Test.YtolffmmkjnhkkaaGreatMJ
import Derived.Test.YtolffmmkjnhkkaaGreatMA
import Derived.OwnWalk
import Derived.Deep.QuietTactic
import Derived.Test.YtolffmmkjnhkkaaGreatMC
import Derived.Test.YtolffmmkjnhkkaaGreatMD
import Derived.Maps.AppendAt
import Derived.Laws.AppendOwnNone
import Derived.Below
namespace Go.Proofs.YtolffmmkjnhkkaaGreat
open Go.RowKit Go BigFrame Go.Shelf
set_option maxRecDepth 100000
set_option linter.unusedSimpArgs false
set_option linter.unusedVariables false
def lenOk (n:Nat):Bool:=decide (n≤10) || (decide (256<n) && decide (n≤300))
def few40 (m:List (List Int)) (L:List RatA):Bool:=decide (m.length≤10) && lenOk L.length && m.all (fun r=>lenOk r.length) && few4 L
theorem all_takeM {α:Type} {B:α→Bool} {m:List α} {k:Nat} {x:α} (hx:m[k]? =some x) (h:(m.take k).all B=true) (hb:B x=true):(m.take (k+1)).all B=true:=by
 rw [take_get hx,List.all_append,h];simp [hb]
theorem all_noM {α:Type} {B:α→Bool} {m:List α} {k:Nat} {x:α} (hx:m[k]? =some x) (hb:B x=false):m.all B=false:=by
 cases h:m.all B with
 | false=>rfl
 | true=>have:=List.all_eq_true.1 h x (List.mem_of_getElem? hx);rw [hb] at this;cases this
set_option maxHeartbeats 16000000 in
theorem ref40_Few (a:Option Addr) (cap:Nat) (m:List (List Int)) (s:Option Addr) (sc:Nat) (L:List RatA) (w:World) (h:Rows w a cap m) (k:RatsI w s sc L):
 Calls Tryz.prog 8 #[.slice a m.length cap,.slice s L.length sc] w fun e w'=>e=.returned (.bool (few40 m L))∧Ext w w':=by
 have hle:=h.le
 have hmx:=h.mx
 have sle:=k.le
 have smx:=k.mx
 obtain⟨E,hE⟩:∃E,few40 m L=E:=⟨_,rfl⟩
 rw [hE]
 have HE:=Lib.hid hE
 have HH:=Lib.hid h
 have HK:=Lib.hid k
 clear h k hE
 have hx:=Ext.refl w
 by_cases h1:10<m.length
 ·have t1:(10:Int)< (m.length:Int):=by omega
  have HV:Hid (false=E):=Lib.hid (by rw [←HE.out];unfold few40;rw [decide_eq_false (by omega)];rfl)
  go_enter Tryz.func8,Tryz.ntmps8
  go_wp2_with fail
  go_ret
  exact⟨by rw [HV.out];rfl,hx⟩
 have t1:¬ (10:Int)< (m.length:Int):=by omega
 by_cases h2:10<L.length∧L.length≤256
 ·have t2:(10:Int)< (L.length:Int):=by omega
  have t3:(L.length:Int)≤256:=by omega
  have HV:Hid (false=E):=Lib.hid (by rw [←HE.out];unfold few40 lenOk;rw [decide_eq_false (show ¬L.length≤10 by omega),decide_eq_false (show ¬256<L.length by omega)];simp)
  go_enter Tryz.func8,Tryz.ntmps8
  go_wp2_with fail
  go_ret
  exact⟨by rw [HV.out];rfl,hx⟩
 by_cases h3:300<L.length
 ·have t2:(10:Int)< (L.length:Int):=by omega
  have t3:¬ (L.length:Int)≤256:=by omega
  have t4:(300:Int)< (L.length:Int):=by omega
  have HV:Hid (false=E):=Lib.hid (by rw [←HE.out];unfold few40 lenOk;rw [decide_eq_false (show ¬L.length≤10 by omega),decide_eq_false (show ¬L.length≤300 by omega)];simp)
  go_enter Tryz.func8,Tryz.ntmps8
  go_wp2_with fail
  go_ret
  exact⟨by rw [HV.out];rfl,hx⟩
 have H0:Hid (decide (m.length≤10)=true∧lenOk L.length=true):=Lib.hid ⟨decide_eq_true (by omega),by unfold lenOk;rw [Bool.or_eq_true,Bool.and_eq_true,decide_eq_true_eq,decide_eq_true_eq,decide_eq_true_eq];omega⟩
 have t4:¬ (300:Int)< (L.length:Int):=by omega
 go_enter Tryz.func8,Tryz.ntmps8
 go_upto_region 1 with fail
 go_cut [24] (fun s wx=>s=.bool false∧Ext w wx)
 case first=>
  by_cases h4:10<L.length
  ·have t2:(10:Int)< (L.length:Int):=by omega
   have t3:¬ (L.length:Int)≤256:=by omega
   go_wp2_with fail
   go_meet
   exact⟨rfl,Ext.refl _⟩
  ·have t2:¬ (10:Int)< (L.length:Int):=by omega
   go_wp2_with fail
   go_meet
   exact⟨rfl,Ext.refl _⟩
 case rest=>
 obtain⟨rfl,hy⟩:=hcut
 replace hx:=hx.trans hy
 clear hy t1 t4 h1 h2 h3
 go_wp2_with fail
 go_loopw [5] (fun i wr=>∃k:Nat,k≤m.length∧i=.int .i64 k∧(m.take k).all (fun r=>lenOk r.length)=true∧Ext w wr) (fun i _=>m.length - (intOf i).toNat)
 case atStart=>exact⟨0,Nat.zero_le _,rfl,rfl,hx⟩
 case round=>
  obtain⟨k,hk,rfl,hno,hxr⟩:=hrel
  generalize wr=wA at *
  have HNO:=Lib.hid hno
  have HXA:=Lib.hid hxr
  have g1:(0:Int)≤(k:Int):=by omega
  clear hno hx
  by_cases hkn:k<m.length
  ·obtain⟨b,o,rfl⟩:=HH.out.head hkn
   obtain⟨x,a2,c2,hx,hc,hI⟩:=Rows.get (HH.out.ext hxr) hkn
   have xle:=hI.le
   have xmx:=hI.mx
   have g2:(k:Int)< (m.length:Int):=by omega
   have hw1:IntKind.i64.wrap ((k:Int)+1)= (k:Int)+1:=IntWalk.i64_in _ (by omega)
   have HX:=Lib.hid hx
   clear hx hI hxr
   have no:lenOk x.length=false→false=E:=fun hb=>by
    rw [←HE.out];unfold few40;rw [all_noM HX.out hb];simp
   have NO:=Lib.hid no
   clear no
   by_cases hl:10<x.length
   ·have t2:(10:Int)< (x.length:Int):=by omega
    by_cases hl2:x.length≤256
    ·have t3:(x.length:Int)≤256:=by omega
     have HV:=Lib.hid (NO.out (by unfold lenOk;rw [decide_eq_false (by omega),decide_eq_false (by omega)];rfl))
     go_wp2_with fail
     go_ret
     exact⟨by rw [HV.out];rfl,HXA.out⟩
    ·have t3:¬ (x.length:Int)≤256:=by omega
     by_cases hl3:300<x.length
     ·have t4:(300:Int)< (x.length:Int):=by omega
      have HV:=Lib.hid (NO.out (by unfold lenOk;rw [decide_eq_false (by omega),decide_eq_false (show ¬x.length≤300 by omega)];simp))
      go_wp2_with fail
      go_ret
      exact⟨by rw [HV.out];rfl,HXA.out⟩
     ·have t4:¬ (300:Int)< (x.length:Int):=by omega
      have HB:Hid (lenOk x.length=true):=Lib.hid (by unfold lenOk;rw [decide_eq_true (show 256<x.length by omega),decide_eq_true (show x.length≤300 by omega)];simp)
      go_wp2_with fail
      go_roundw
      case rel=>exact⟨k+1,by omega,by go_num,all_takeM HX.out HNO.out HB.out,HXA.out⟩
      case measure=>simp [intOf];omega
   ·have t2:¬ (10:Int)< (x.length:Int):=by omega
    have t4:¬ (300:Int)< (x.length:Int):=by omega
    have HB:Hid (lenOk x.length=true):=Lib.hid (by unfold lenOk;rw [decide_eq_true (by omega)];rfl)
    go_wp2_with fail
    go_roundw
    case rel=>exact⟨k+1,by omega,by go_num,all_takeM HX.out HNO.out HB.out,HXA.out⟩
    case measure=>simp [intOf];omega
  ·have HNL:Hid (m.all (fun r=>lenOk r.length)=true):=Lib.hid (by have:=HNO.out;rwa [List.take_of_length_le (by omega)] at this)
   have g3:¬ (k:Int)< (m.length:Int):=by omega
   clear HNO hxr
   go_wp2_with fail
   clear g3 g1 hkn hk
   go_loopw [6] (fun i wr=>∃k:Nat,k≤L.length∧i=.int .i64 k∧few4 (L.take k)=true∧Ext w wr) (fun i _=>L.length - (intOf i).toNat)
   case atStart=>exact⟨0,Nat.zero_le _,rfl,rfl,HXA.out⟩
   case round=>
    obtain⟨q,hq,rfl,hno,hxr⟩:=hrel
    generalize wr=wD at *
    have HNQ:=Lib.hid hno
    have HXD:=Lib.hid hxr
    have q1:(0:Int)≤(q:Int):=by omega
    clear hno
    by_cases hqn:q<L.length
    ·obtain⟨bs,os,rfl⟩:=HK.out.head hqn
     obtain⟨n,xa,xc,xl,n2,xb,xd,xm,hX,c0,c1,c2,c3,hi,hj⟩:=(HK.out.ext hxr).get hqn
     have HC:=few_val n n2 xa xb xl.length xc xm.length xd 4 wD (Nat.le_trans hi.le hi.mx) (Nat.le_trans hj.le hj.mx)
     have HX:=Lib.hid hX
     have q2:(q:Int)< (L.length:Int):=by omega
     have hw2:IntKind.i64.wrap ((q:Int)+1)= (q:Int)+1:=IntWalk.i64_in _ (by omega)
     clear hi hj hX hxr
     cases hok:(fewQ xl.length 4 && fewQ xm.length 4)
     ·rw [hok] at HC
      have HV:Hid (false=E):=Lib.hid (by
       rw [←HE.out];unfold few40 few4;rw [all_noM (B:=fun x:RatA=>fewQ x.l.length 4 && fewQ x.m.length 4) HX.out hok];simp)
      have HC:=Lib.hid HC
      clear hok
      go_wp2_with fail
      refine HC.out.mono ?_
      rintro e x6 ⟨rfl,hy⟩
      have HX6:=Lib.hid (HXD.out.trans hy)
      go_wp2_with fail
      go_ret
      exact⟨by rw [HV.out];rfl,HX6.out⟩
     ·rw [hok] at HC
      have HB:Hid ((fun x:RatA=>fewQ x.l.length 4 && fewQ x.m.length 4) ⟨n,xa,xc,xl,n2,xb,xd,xm⟩=true):=Lib.hid hok
      have HC:=Lib.hid HC
      clear hok
      go_wp2_with fail
      refine HC.out.mono ?_
      rintro e x6 ⟨rfl,hy⟩
      have HX6:=Lib.hid (HXD.out.trans hy)
      go_wp2_with fail
      go_roundw
      case rel=>exact⟨q+1,by omega,by go_num,all_takeM HX.out HNQ.out HB.out,HX6.out⟩
      case measure=>simp [intOf];omega
    ·have HNA:Hid (few4 L=true):=Lib.hid (by have:=HNQ.out;rwa [List.take_of_length_le (by omega)] at this)
     have HV:Hid (true=E):=Lib.hid (by
      rw [←HE.out];unfold few40
      rw [H0.out.1,H0.out.2,HNL.out,HNA.out];rfl)
     have q2:¬ (q:Int)< (L.length:Int):=by omega
     clear hxr
     go_wp2_with fail
     go_ret
     exact⟨by rw [HV.out];rfl,HXD.out⟩
end Go.Proofs.YtolffmmkjnhkkaaGreat
namespace Go.Proofs.YtolffmmkjnhkkaaGreat
open Go.RowKit Go BigFrame Go.Shelf
set_option maxRecDepth 100000
set_option linter.unusedSimpArgs false
set_option linter.unusedVariables false
attribute [local go_sem] Oper.semAt_some
set_option maxHeartbeats 4000000 in
theorem ref40_Means (a:Option Addr) (cap:Nat) (m:List (List Int)) (s:Option Addr) (sc:Nat) (L:List RatA) (S:List Rat) (w:World) (h:Rows w a cap m) (k:RatsI w s sc L)
 (hS:errM m L.length (L.any fun x=>!x.ok)=0→ValL L S 7∧L.length≤20):
 Calls Tryz.prog 12 #[.slice a m.length cap,.slice s L.length sc] w (RowsP (errM m L.length (L.any fun x=>!x.ok)) (m.map fun r=>meanO r S) w):=by
 have hle:=h.le
 have hmx:=h.mx
 have sle:=k.le
 have smx:=k.mx
 have HERR:=ref40_Error a cap m s sc L w h k
 obtain⟨E,hE⟩:∃E,errM m L.length (L.any fun x=>!x.ok)=E:=⟨_,rfl⟩
 have HCALL:Hid (E=0→m.length≤4096∧∀W,Ext w W→∀r∈m,∀a c,Ints W a c r→Calls Tryz.prog 34 #[.slice a r.length c,.slice s L.length sc] W (MeanQ r S W)):=Lib.hid (fun h0=>by
  rw [←hE] at h0
  obtain⟨g1,g2⟩:=hS h0
  obtain⟨g3,g4,g5,g6⟩:=errM_ok h0
  refine⟨g3,fun W hW r hr a c hI=>?_⟩
  obtain⟨g7,g8⟩:=g6 r hr
  have g9:=g1.1
  exact ref40_mean a c r s sc L S W hI (k.ext hW) g1 (by omega) g8 (by omega))
 rw [hE] at HERR ⊢
 have HERR:=Lib.hid HERR
 have HH:=Lib.hid h
 clear h k hS hE
 go_enter Tryz.func12,Tryz.ntmps12
 go_wp2_with fail
 refine HERR.out.mono ?_
 rintro e x2 ⟨rfl,hx⟩
 by_cases hE0:E=0
 ·subst hE0
  obtain⟨hm4,hcall⟩:=HCALL.out rfl
  have HC:=Lib.hid hcall
  clear HCALL hcall HERR
  go_upto_region 5 with fail
  have hya:=Ext.alloc x2 (.cells #[] 38)
  have HO0:=Lib.hid (OwnOs.new x2)
  have HSX:=Lib.hid hx.size
  replace hx:=hx.trans hya
  have HX:=Lib.hid hx
  clear hya
  generalize x2.alloc (.cells #[] 38)=x3 at *
  clear hx
  go_wp2_with fail
  go_loopw [7,8] (fun v i wr=>∃q:Nat,q≤m.length∧i=.int .i64 q∧∃ (xs:List RatC),(OwnOs wr w.heap.size v xs ((m.take q).map (fun r=>meanO r S)))∧Ext w wr) (fun _ i _=>m.length - (intOf i).toNat)
  case atStart=>exact⟨0,Nat.zero_le _,rfl,[],HO0.out.low HSX.out,HX.out⟩
  case round=>
   obtain⟨q,hq,rfl,xs,hO,hxr⟩:=hrel
   have q1:(0:Int)≤(q:Int):=by omega
   have HXL:=Lib.hid (show xs.length=q from by have:=hO.len;rw [List.length_map,List.length_take] at this;omega)
   obtain⟨va,vc,rfl,hvl,hvc⟩:=hO.form
   have HO:=Lib.hid hO
   have HXR:=Lib.hid hxr
   clear hO HO0 HX
   by_cases hqn:q<m.length
   ·have q2:(q:Int)< (m.length:Int):=by omega
    have hw1:IntKind.i64.wrap ((q:Int)+1)= (q:Int)+1:=IntWalk.i64_in _ (by omega)
    obtain⟨b,o,rfl⟩:=HH.out.head hqn
    obtain⟨r,a3,c3,hr,hc,hI⟩:=Rows.get (HH.out.ext hxr) hqn
    have HR:=Lib.hid hr
    have HI:=Lib.hid (HC.out _ hxr r (List.mem_of_getElem? hr) a3 c3 hI)
    have hlt:=Lib.hid (fun g e=>(HO.out.lt g e).2)
    clear hr hI
    go_wp2_with fail
    refine HI.out.mono ?_
    rintro e x4 ⟨⟨n1,a1,q1',c1,m1,b1,k1,d1⟩,rfl,hrd,hfr,hy⟩
    have hoff:RatC.Off ⟨n1,a1,q1',c1,m1,b1,k1,d1⟩ (Value.slice va xs.length vc).ownBlock:=hfr.off hlt.out
    have HOFF:=Lib.hid hoff
    have hyb:=Ext.alloc x4 (.cells #[.bool n1,.slice a1 q1' c1,.bool m1,.slice b1 k1 d1] 38)
    have Kt:=Lib.hid (Blk.new0 x4 #[.bool n1,.slice a1 q1' c1,.bool m1,.slice b1 k1 d1] 38)
    replace hxr:=(hxr.trans hy).trans hyb
    have HOa:=Lib.hid ((HO.out.ext hy).ext hyb)
    have HRD:=Lib.hid (RO.ext hrd hyb)
    clear hoff hy hrd hfr hc HI
    go_upto_region 9 with fail
    generalize x4.alloc (.cells #[.bool n1,.slice a1 q1' c1,.bool m1,.slice b1 k1 d1] 38)=x5 at *
    generalize x4.heap.size=pt at *
    obtain⟨s0,s1,s2,s3⟩:=bk4 Kt
    go_upto_region 11 with fail
    have hyc:=Ext.alloc x5 (.cells #[.bool n1,.slice a1 q1' c1,.bool m1,.slice b1 k1 d1] 38)
    have HBz:=Lib.hid (Blk.new0 x5 #[.bool n1,.slice a1 q1' c1,.bool m1,.slice b1 k1 d1] 38)
    have HXa:=Lib.hid (hxr.trans hyc)
    replace HOa:=Lib.hid (HOa.out.ext hyc)
    replace HRD:=Lib.hid (RO.ext HRD.out hyc)
    clear hyc hxr
    go_wp2_with (at_builtin;refine wpl_append_o rfl (.tmp 36) (.tmp 38) rfl HXa.out rfl HOa.out rfl (x:=⟨n1,a1,q1',c1,m1,b1,k1,d1⟩) HBz.out HRD.out HOFF.out (by have:=HXL.out;omega) ?_;intro v' w5 hO5 hx5 hg5 hat5)
    obtain⟨ua,uc,rfl,hul,huc⟩:=hO5.form
    go_roundw
    case rel=>exact⟨q+1,by omega,by go_num,_,(by rw [take_get HR.out,List.map_append];exact hO5),hx5⟩
    case measure=>simp [intOf];omega
   ·have q2:¬ (q:Int)< (m.length:Int):=by omega
    have hqe:q=m.length:=by omega
    subst hqe
    have HO2:=Lib.hid (by have:=HO.out;rwa [List.take_length] at this)
    clear HO
    go_wp2_with fail
    go_ret2
    exact .inl ⟨rfl,_,xs,rfl,HO2.out,HXR.out⟩
 ·have HX:=Lib.hid hx
  clear HCALL HERR
  go_wp2_with fail
  go_ret2
  exact .inr ⟨hE0,rfl,HX.out⟩
end Go.Proofs.YtolffmmkjnhkkaaGreat
namespace Go.Proofs.YtolffmmkjnhkkaaGreat
open Go.RowKit Go BigFrame Go.Shelf
set_option maxRecDepth 100000
set_option linter.unusedSimpArgs false
set_option linter.unusedVariables false
theorem RowsRP.read {E:Int} {Rs:List (List (Option Rat))} {w:World} {e:Ending} {w':World} (h:RowsRP E Rs w e w'):
 ∃ (va:Option Addr) (vc:Nat) (xs:List RowD),e=.returned (.tuple #[.slice va xs.length vc,.int .i64 E])∧SlOf (fun w v (x:RowD)=>x.Rd w v) w' va vc xs∧xs.map (·.R)= (if E=0 then Rs else [])∧Ext w w':=by
 rcases h with⟨rfl,v,xs,rfl,h1,h2,h3⟩ | ⟨h0,rfl,h1⟩
 ·obtain⟨a,c,rfl,hs⟩:=h1.sl
  exact⟨a,c,xs,rfl,hs,by rw [if_pos rfl];exact h2,h3⟩
 ·exact⟨none,0,[],rfl,⟨Nat.le_refl _,by simp,fun _=>rfl,fun A hA=>by cases hA⟩,by rw [if_neg h0];rfl,h1⟩
theorem RowsP.read {E:Int} {Rs:List (Option Rat)} {w:World} {e:Ending} {w':World} (h:RowsP E Rs w e w'):
 ∃ (va:Option Addr) (vc:Nat) (V:List RatC),e=.returned (.tuple #[.slice va V.length vc,.int .i64 E])∧RowD.Rd w' (.slice va V.length vc) ⟨va,vc,V,if E=0 then Rs else []⟩∧Ext w w':=by
 rcases h with⟨rfl,v,xs,rfl,h1,h3⟩ | ⟨h0,rfl,h1⟩
 ·obtain⟨a,c,hr,rfl⟩:=h1.row
  exact⟨a,c,xs,rfl,by rw [if_pos rfl];exact hr,h3⟩
 ·exact⟨none,0,[],rfl,by rw [if_neg h0];exact⟨rfl,Nat.le_refl _,by simp,fun _=>rfl,rfl,(fun A hA=>by cases hA),fun i hi=>absurd hi (by simp)⟩,h1⟩
theorem ValL.mono {L:List RatA} {S:List Rat} {j k:Nat} (h:ValL L S j) (hk:j≤k):ValL L S k:=⟨h.1,fun i x r h1 h2=>⟨(h.2 i x r h1 h2).1.mono hk,(h.2 i x r h1 h2).2⟩⟩
theorem few40_val {m:List (List Int)} {L:List RatA} (hf:few40 m L=true):∃S,errM m L.length (L.any fun x=>!x.ok)=0→ValL L S 4∧L.length≤10:=by
 by_cases h:errM m L.length (L.any fun x=>!x.ok)=0
 ·obtain⟨h1,h2,h3,h4⟩:=errM_ok h
  unfold few40 at hf
  simp only [Bool.and_eq_true] at hf
  obtain⟨S,hS⟩:=valL_of h3 hf.2
  refine⟨S,fun _=>⟨hS,?_⟩⟩
  have:=hf.1.1.2
  unfold lenOk at this
  simp only [Bool.or_eq_true,Bool.and_eq_true,decide_eq_true_eq] at this
  omega
 ·exact⟨[],fun h'=>absurd h' h⟩
end Go.Proofs.YtolffmmkjnhkkaaGreat
namespace Go.Proofs.YtolffmmkjnhkkaaGreat
open Go.RowKit Go BigFrame Go.Shelf
set_option maxRecDepth 100000
set_option linter.unusedSimpArgs false
set_option linter.unusedVariables false
set_option maxHeartbeats 4000000 in
theorem law40_right (a:Option Addr) (cap:Nat) (m:List (List Int)) (s:Option Addr) (sc:Nat) (L:List RatA) (w:World) (h:Rows w a cap m) (k:RatsI w s sc L):
 Calls Tryz.prog 15 #[.slice a m.length cap,.slice s L.length sc] w fun e w'=>e=.returned (.bool (few40 m L && decide (errM m L.length (L.any fun x=>!x.ok)=0)))∧Ext w w':=by
 have HF:=Lib.hid (ref40_Few a cap m s sc L w h k)
 have HR:=Lib.hid (fun W (hW:Ext w W)=>ref40_Error a cap m s sc L W (h.ext hW) (k.ext hW))
 cases hf:few40 m L
 ·rw [hf] at HF
  clear hf
  go_enter Tryz.func15,Tryz.ntmps15
  go_wp2_with fail
  refine HF.out.mono ?_
  rintro e x1 ⟨rfl,hx⟩
  have HX:=Lib.hid hx
  go_wp2_with fail
  go_ret
  exact⟨rfl,HX.out⟩
 ·rw [hf] at HF
  obtain⟨S,hS⟩:=few40_val hf
  clear hf
  have HD:=Lib.hid (fun W (hW:Ext w W)=>ref40_Means a cap m s sc L S W (h.ext hW) (k.ext hW) (fun h0=>⟨(hS h0).1.mono (by omega),by have:=(hS h0).2;omega⟩))
  clear hS h k
  generalize errM m L.length (L.any fun x=>!x.ok)=E at *
  by_cases hE:E=0
  ·subst hE
   go_enter Tryz.func15,Tryz.ntmps15
   go_wp2_with fail
   refine HF.out.mono ?_
   rintro e x1 ⟨rfl,hx⟩
   have HX:=Lib.hid hx
   have HR1:=Lib.hid (HR.out x1 hx)
   clear hx
   go_wp2_with fail
   refine HR1.out.mono ?_
   rintro e x2 ⟨rfl,hy⟩
   have HX2:=Lib.hid (HX.out.trans hy)
   have HD1:=Lib.hid (HD.out x2 HX2.out)
   clear hy
   go_wp2_with fail
   refine HD1.out.mono ?_
   intro e x3 h3
   obtain⟨a3,c3,V3,rfl,-,hy⟩:=h3.read
   have HX3:=Lib.hid (HX2.out.trans hy)
   clear hy h3
   go_wp2_with fail
   go_ret
   exact⟨rfl,HX3.out⟩
  ·have hne:(E != 0)=true:=by simpa using hE
   have HV:Hid ((true && decide (E=0))=false):=Lib.hid (by simp [hE])
   go_enter Tryz.func15,Tryz.ntmps15
   go_wp2_with fail
   refine HF.out.mono ?_
   rintro e x1 ⟨rfl,hx⟩
   have HX:=Lib.hid hx
   have HR1:=Lib.hid (HR.out x1 hx)
   clear hx
   go_wp2_with fail
   refine HR1.out.mono ?_
   rintro e x2 ⟨rfl,hy⟩
   have HX2:=Lib.hid (HX.out.trans hy)
   clear hy
   go_wp2_with fail
   go_ret
   exact⟨by rw [HV.out];rfl,HX2.out⟩
def knownB (l:List Int):Bool:=l.any fun x=>decide (x≠-1)
end Go.Proofs.YtolffmmkjnhkkaaGreat
namespace Go.Proofs.YtolffmmkjnhkkaaGreat
open Go.RowKit Go BigFrame Go.Shelf
set_option maxRecDepth 100000
set_option linter.unusedSimpArgs false
set_option linter.unusedVariables false
def shiftR (S:List Rat) (b:Rat):List Rat:=S.map (· + b)
theorem sumR_congr (l:List Int) (S T:List Rat):∀ (xs:List Nat),(∀j∈xs,S.getD j 0=T.getD j 0)→sumR l S xs=sumR l T xs:=by
 have key:∀ (ys xs:List Nat),xs.reverse=ys→(∀j∈xs,S.getD j 0=T.getD j 0)→sumR l S xs=sumR l T xs:=by
  intro ys
  induction ys with
  | nil=>intro xs h _;rw [List.reverse_eq_nil_iff] at h;subst h;rfl
  | cons y ys ih=>
   intro xs h hx
   have e:xs=ys.reverse ++ [y]:=by rw [←List.reverse_reverse xs,h];simp
   subst e
   rw [sumR_snoc,sumR_snoc,ih ys.reverse (by simp) (fun j hj=>hx j (by simp at hj ⊢;exact .inl hj))]
   unfold diffR
   rw [hx y (by simp)]
 exact fun xs h=>key _ xs rfl h
theorem meanO_congr {l:List Int} {S T:List Rat} (h:∀j,j<l.length→l.getD j 0≠-1→S.getD j 0=T.getD j 0):meanO l S=meanO l T:=by
 unfold meanO
 by_cases h0:knIx l l.length=[]
 ·rw [if_pos h0,if_pos h0]
 ·rw [if_neg h0,if_neg h0,sumR_congr l S T _ (fun j hj=>h j (knIx_lt hj) ((knIx_mem l (knIx_lt hj)).1 hj))]
theorem meanO_other {l:List Int} {S:List Rat} {j:Nat} (r:Rat) (hj:l.getD j 0= -1):meanO l (S.set j r)=meanO l S:=meanO_congr fun i hi hz=>by
 have hne:i≠j:=fun e=>hz (by rw [e];exact hj)
 rw [List.getD_eq_getElem?_getD,List.getD_eq_getElem?_getD,List.getElem?_set_ne (fun e=>hne e.symm)]
end Go.Proofs.YtolffmmkjnhkkaaGreat
namespace Go.Proofs.YtolffmmkjnhkkaaGreat
open Go.RowKit Go BigFrame Go.Shelf
set_option maxRecDepth 100000
set_option linter.unusedSimpArgs false
set_option linter.unusedVariables false
attribute [local go_sem] Oper.semAt_some
theorem run_append_row {e t ty:TypeId} {z:Value} {k by_:Nat} (ht:Tryz.prog.underlying t=some (.slice e)) (hi:(Tryz.prog.info? e).map (fun i=>(i.zero,i.size,i.bytes))=some (some z,k,by_)) (hz:z.cells.size=k) (hk:0<k)
 {w:World} {B:Nat} (hB:B≤w.heap.size) {v:Value} {n:Nat} {xs:List Value} (hown:w.ownsRow B e k v n xs) {ad:Option Addr} {m c:Nat} {news:List Value} (hnil:ad=none→m=0∧c=0)
 (hl:news.length=m*k) (hc:∀A,ad=some A→∀ (j:Nat) (u:Value),news[j]? =some u→w.cell? (A.add j)=some u) (h1:∀u∈news,u.oneCell'=true) (hlen:n+m≤1000000) (hby:by_≤1000):
 ∃v' w',(Builtin.append_ #[t,t] ty #[v,.slice ad m c]).run Tryz.prog w=.ok v' w'∧w'.ownsRow B e k v' (n+m) (xs ++ news)∧w.grownBy w' v.ownBlock∧(v'=.slice none 0 0↔v=.slice none 0 0∧m=0)∧(v'.ownBlock=v.ownBlock∨v'.ownBlock=some w.heap.size):=by
 obtain⟨i0,hi0,hz0,hz1,hz2⟩:=info_parts hi
 cases ad with
 | none=>
  obtain⟨rfl,rfl⟩:=hnil rfl
  have hn:news=[]:=List.eq_nil_of_length_eq_zero (by omega)
  subst hn
  exact⟨v,w,run_append_owned_none (P:=Tryz.prog) (w:=w) B t ty e i0 k ht hi0 v n xs hown,by simpa using hown,World.grownBy.refl w _,by simp,.inl rfl⟩
 | some A=>
  have hb:(n+m)*by_≤1000000*1000:=Nat.mul_le_mul hlen hby
  exact run_append_own_at w B t ty e i0 z k by_ ht hi0 hz0 hz1 hz2 hz hk v n xs hown A m c news hl (hc A rfl) h1 (by unfold maxLen;omega) (by omega) hB
theorem wpl_append_row {ops:Array Oper} {rest:List Oper} {o:Oper} {a:Act} {Q:Exit→Act→World→Prop} (hgd:o.guard=none) (s y:Operand) (t e:TypeId)
 (ho:o.op=.call {callee:=.builtin .append,args:=#[s,y],argTypes:=#[t,t]}) {z:Value} {k by_:Nat} (ht:Tryz.prog.underlying t=some (.slice e)) (hi:(Tryz.prog.info? e).map (fun i=>(i.zero,i.size,i.bytes))=some (some z,k,by_)) (hz:z.cells.size=k) (hk:0<k)
 {w:World} {B:Nat} (hB:B≤w.heap.size) {v:Value} {n:Nat} {xs:List Value} (hs:a.eval s=v) (hown:w.ownsRow B e k v n xs) {ad:Option Addr} {m c:Nat} {news:List Value} (hy:a.eval y=.slice ad m c) (hnil:ad=none→m=0∧c=0)
 (hl:news.length=m*k) (hc:∀A,ad=some A→∀ (j:Nat) (u:Value),news[j]? =some u→w.cell? (A.add j)=some u) (h1:∀u∈news,u.oneCell'=true) (hlen:n+m≤1000000) (hby:by_≤1000)
 (h:∀v' w',w'.ownsRow B e k v' (n+m) (xs ++ news)→w.grownBy w' v.ownBlock→(v'=.slice none 0 0↔v=.slice none 0 0∧m=0)→(v'.ownBlock=v.ownBlock∨v'.ownBlock=some w.heap.size)→wpList Tryz.prog ops Q rest (a.put o.dst v') w'):
 wpList Tryz.prog ops Q (o :: rest) a w:=by
 refine wpList_plain hgd fun K hK=>?_
 obtain⟨v',w',hr,h2,h3,h4,h5⟩:=run_append_row (ty:=o.type) ht hi hz hk hB hown hnil hl hc h1 hlen hby
 unfold Oper.wp execOp
 simp only [ho,resolve,invoke,builtin,Sem.run_bind,Sem.run_pure,Result.andThen_ok,List.map_toArray,List.map_cons,List.map_nil,hs,hy,hr]
 exact hK _ _ (h v' w' h2 h3 h4 h5)
theorem grownSet (w:World) (p i:Nat) (u:Value):w.grownBy (w.setCell ⟨p,i,none⟩ u) (some p):=⟨rfl,rfl,rfl,by simp,fun k hk hne=>Below.heap_setCell _ ⟨p,i,none⟩ _ _ (fun e=>hne (by rw [e]))⟩
theorem blkGrown {w w':World} {b:Nat} {cs:Array Value} {t:TypeId} {row:Option Nat} (h:Blk w b cs t) (hg:w.grownBy w' row) (hr:row≠some b):Blk w' b cs t:=(hg.block b h.lt (fun e=>hr e.symm)).trans h
def CellsX (cs:Array Value) (i:Nat) (x:RatC):Prop:=cs[i*4]? =some (.bool x.n)∧cs[i*4+1]? =some (.slice x.a x.q x.c)∧cs[i*4+2]? =some (.bool x.m)∧cs[i*4+3]? =some (.slice x.b x.k x.d)
def RowB (w:World) (g N:Nat) (V:Nat→RatC):Prop:=∃cs,Blk w g cs 38∧∀c,c<N→CellsX cs c (V c)
section
variable {w w':World} {g N:Nat} {V:Nat→RatC}
theorem RowB.ext (h:RowB w g N V) (k:Ext w w'):RowB w' g N V:=by
 obtain⟨cs,hb,hc⟩:=h
 exact⟨cs,hb.ext k,hc⟩
theorem RowB.grown (h:RowB w g N V) {row:Option Nat} (hg:w.grownBy w' row) (hr:row≠some g):RowB w' g N V:=by
 obtain⟨cs,hb,hc⟩:=h
 exact⟨cs,blkGrown hb hg hr,hc⟩
theorem RowB.lt (h:RowB w g N V):g<w.heap.size:=by
 obtain⟨cs,hb,hc⟩:=h
 exact hb.lt
theorem RowB.cells (h:RowB w g N V) {c:Nat} (hc:c<N):w.cell? ⟨g,c*4,none⟩=some (.bool (V c).n)∧w.cell? ⟨g,c*4+1,none⟩=some (.slice (V c).a (V c).q (V c).c)∧w.cell? ⟨g,c*4+2,none⟩=some (.bool (V c).m)∧w.cell? ⟨g,c*4+3,none⟩=some (.slice (V c).b (V c).k (V c).d):=by
 obtain⟨cs,hb,h4⟩:=h
 obtain⟨h0,h1,h2,h3⟩:=h4 c hc
 exact⟨hb.cell h0,hb.cell h1,hb.cell h2,hb.cell h3⟩
end
def set4U (w:World) (g i:Nat) (x:RatC):World:=(((w.setCell ⟨g,i*4,none⟩ (.bool x.n)).setCell ⟨g,i*4+1,none⟩ (.slice x.a x.q x.c)).setCell ⟨g,i*4+2,none⟩ (.bool x.m)).setCell ⟨g,i*4+3,none⟩ (.slice x.b x.k x.d)
structure Put4U (w:World) (g i:Nat) (x:RatC):Prop where
 f0:w.frozen? ⟨g,i*4,none⟩=false
 f1:(w.setCell ⟨g,i*4,none⟩ (.bool x.n)).frozen? ⟨g,i*4+1,none⟩=false
 f2:((w.setCell ⟨g,i*4,none⟩ (.bool x.n)).setCell ⟨g,i*4+1,none⟩ (.slice x.a x.q x.c)).frozen? ⟨g,i*4+2,none⟩=false
 f3:(((w.setCell ⟨g,i*4,none⟩ (.bool x.n)).setCell ⟨g,i*4+1,none⟩ (.slice x.a x.q x.c)).setCell ⟨g,i*4+2,none⟩ (.bool x.m)).frozen? ⟨g,i*4+3,none⟩=false
 c0:∃u,w.cell? ⟨g,i*4,none⟩=some u
 c1:∃u,(w.setCell ⟨g,i*4,none⟩ (.bool x.n)).cell? ⟨g,i*4+1,none⟩=some u
 c2:∃u,((w.setCell ⟨g,i*4,none⟩ (.bool x.n)).setCell ⟨g,i*4+1,none⟩ (.slice x.a x.q x.c)).cell? ⟨g,i*4+2,none⟩=some u
 c3:∃u,(((w.setCell ⟨g,i*4,none⟩ (.bool x.n)).setCell ⟨g,i*4+1,none⟩ (.slice x.a x.q x.c)).setCell ⟨g,i*4+2,none⟩ (.bool x.m)).cell? ⟨g,i*4+3,none⟩=some u
theorem setSelf {cs:Array Value} {i:Nat} {v:Value} (h:i<cs.size):(cs.setIfInBounds i v)[i]? =some v:=by simp [h]
theorem RowB.put {w:World} {g N i:Nat} {V:Nat→RatC} (h:RowB w g N V) (hi:i<N) (x:RatC):Put4U w g i x∧RowB (set4U w g i x) g N (fun c=>if c=i then x else V c):=by
 obtain⟨cs,hb,hc⟩:=h
 obtain⟨e0,e1,e2,e3⟩:=hc i hi
 have b1:=hb.set (i*4) (.bool x.n)
 have b2:=b1.set (i*4+1) (.slice x.a x.q x.c)
 have b3:=b2.set (i*4+2) (.bool x.m)
 have b4:=b3.set (i*4+3) (.slice x.b x.k x.d)
 have hsz:i*4+3<cs.size:=(Array.getElem?_eq_some_iff.1 e3).1
 refine⟨⟨hb.free _,b1.free _,b2.free _,b3.free _,⟨_,hb.cell e0⟩,⟨_,b1.cell (v:=.slice (V i).a (V i).q (V i).c) (by rw [Array.getElem?_setIfInBounds_ne (by omega)];exact e1)⟩,
  ⟨_,b2.cell (v:=.bool (V i).m) (by rw [Array.getElem?_setIfInBounds_ne (by omega),Array.getElem?_setIfInBounds_ne (by omega)];exact e2)⟩,
  ⟨_,b3.cell (v:=.slice (V i).b (V i).k (V i).d) (by rw [Array.getElem?_setIfInBounds_ne (by omega),Array.getElem?_setIfInBounds_ne (by omega),Array.getElem?_setIfInBounds_ne (by omega)];exact e3)⟩⟩,_,b4,fun j hj=>?_⟩
 obtain⟨d0,d1,d2,d3⟩:=hc j hj
 dsimp only
 by_cases hij:j=i
 ·subst hij
  rw [if_pos rfl]
  refine⟨?_,?_,?_,?_⟩
  ·rw [Array.getElem?_setIfInBounds_ne (by omega),Array.getElem?_setIfInBounds_ne (by omega),Array.getElem?_setIfInBounds_ne (by omega),setSelf (by omega)]
  ·rw [Array.getElem?_setIfInBounds_ne (by omega),Array.getElem?_setIfInBounds_ne (by omega),setSelf (by simp only [Array.size_setIfInBounds];omega)]
  ·rw [Array.getElem?_setIfInBounds_ne (by omega),setSelf (by simp only [Array.size_setIfInBounds];omega)]
  ·rw [setSelf (by simp only [Array.size_setIfInBounds];omega)]
 ·rw [if_neg hij]
  refine⟨?_,?_,?_,?_⟩
  ·rw [Array.getElem?_setIfInBounds_ne (by omega),Array.getElem?_setIfInBounds_ne (by omega),Array.getElem?_setIfInBounds_ne (by omega),Array.getElem?_setIfInBounds_ne (by omega)];exact d0
  ·rw [Array.getElem?_setIfInBounds_ne (by omega),Array.getElem?_setIfInBounds_ne (by omega),Array.getElem?_setIfInBounds_ne (by omega),Array.getElem?_setIfInBounds_ne (by omega)];exact d1
  ·rw [Array.getElem?_setIfInBounds_ne (by omega),Array.getElem?_setIfInBounds_ne (by omega),Array.getElem?_setIfInBounds_ne (by omega),Array.getElem?_setIfInBounds_ne (by omega)];exact d2
  ·rw [Array.getElem?_setIfInBounds_ne (by omega),Array.getElem?_setIfInBounds_ne (by omega),Array.getElem?_setIfInBounds_ne (by omega),Array.getElem?_setIfInBounds_ne (by omega)];exact d3
def newsU (N:Nat) (V:Nat→RatC):List Value:=(List.range N).flatMap fun c=>(V c).cells
theorem newsU_succ (N:Nat) (V:Nat→RatC):newsU (N+1) V=newsU N V ++ (V N).cells:=by unfold newsU;rw [List.range_succ,List.flatMap_append];simp
theorem newsU_len (N:Nat) (V:Nat→RatC):(newsU N V).length=N*4:=by
 induction N with
 | zero=>rfl
 | succ N ih=>rw [newsU_succ,List.length_append,ih];simp [RatC.cells];omega
theorem newsU_one (N:Nat) (V:Nat→RatC):∀u∈newsU N V,u.oneCell'=true:=fun u hu=>by
 obtain⟨c,_,hc⟩:=List.mem_flatMap.1 hu
 simp only [RatC.cells,List.mem_cons,List.not_mem_nil,or_false] at hc
 rcases hc with rfl | rfl | rfl | rfl <;> rfl
theorem newsU_get {N:Nat} {V:Nat→RatC} {c:Nat} (h:c<N):(newsU N V)[c*4]? =some (.bool (V c).n)∧(newsU N V)[c*4+1]? =some (.slice (V c).a (V c).q (V c).c)∧(newsU N V)[c*4+2]? =some (.bool (V c).m)∧(newsU N V)[c*4+3]? =some (.slice (V c).b (V c).k (V c).d):=by
 induction N with
 | zero=>omega
 | succ N ih=>
  have hl:=newsU_len N V
  rw [newsU_succ]
  by_cases e:c=N
  ·subst e
   rw [List.getElem?_append_right (by omega),List.getElem?_append_right (by omega),List.getElem?_append_right (by omega),List.getElem?_append_right (by omega),hl]
   simp [RatC.cells]
  ·rw [List.getElem?_append_left (by omega),List.getElem?_append_left (by omega),List.getElem?_append_left (by omega),List.getElem?_append_left (by omega)]
   exact ih (by omega)
theorem ownEmpty {w:World} {b:Nat} {t:TypeId} {k B:Nat} (h:Blk w b #[] t) (hB:B≤b):w.ownsRow B t k (.slice (some ⟨b,0,none⟩) 0 0) 0 []:=
 ⟨by simp,.inr ⟨b,0,#[],rfl,hB,h,Nat.le_refl _,by unfold maxLen;omega,by simp,by simp⟩⟩
theorem rowB_of_own {w:World} {B:Nat} {g cap n N:Nat} {V:Nat→RatC} (h:w.ownsRow B 38 4 (.slice (some ⟨g,0,none⟩) N cap) n ([] ++ newsU N V)):RowB w g N V:=by
 rcases h.2 with⟨e,_⟩ | ⟨g',cap',cur,e,hb,hg,h1,h2,h3,h4⟩
 ·cases e
 ·simp only [Value.slice.injEq,Option.some.injEq,Addr.mk.injEq,and_true,true_and] at e
  obtain⟨rfl,rfl,rfl⟩:=e
  refine⟨cur,hg,fun c hc=>?_⟩
  obtain⟨g1,g2,g3,g4⟩:=newsU_get (V:=V) hc
  have key:∀j u,(newsU N V)[j]? =some u→cur[j]? =some u:=fun j u hu=>by
   rw [List.nil_append] at h4
   rw [←h4,List.getElem?_take] at hu
   split at hu
   ·simpa using hu
   ·cases hu
  exact⟨key _ _ g1,key _ _ g2,key _ _ g3,key _ _ g4⟩
def OffV (x:Value) (o:Option Nat):Prop:=∀A n c,x=.slice (some A) n c→0<n→o≠some A.block
structure RdOk {α:Type} (R:World→Value→α→Prop):Prop where
 ext:∀w w' v x,Ext w w'→R w v x→R w' v x
 grown:∀w w' row v x,R w v x→w.grownBy w' row→OffV v row→R w' v x
 new:∀w v x,R w v x→OffV v (some w.heap.size)
 one:∀w v x,R w v x→v.oneCell'=true
theorem Ints.grownW {w w':World} {row:Option Nat} {a:Option Addr} {cap:Nat} {l:List Int} (h:Ints w a cap l) (hg:w.grownBy w' row) (hne:0<l.length→∀A,a=some A→row≠some A.block):Ints w' a cap l:=
 ⟨h.le,h.mx,h.nil,fun A hA i hi=>by
  obtain⟨h1,v,hv,hr⟩:=h.cells A hA i hi
  refine⟨h1,v,?_,hr⟩
  have hlt:=World.block_lt_of_cell? w _ hv
  have:=hg.block A.block hlt (fun e=>hne (by omega) A hA e.symm)
  simp only [World.cell?] at hv ⊢
  rw [this];exact hv⟩
theorem Bools.grownW {w w':World} {row:Option Nat} {a:Option Addr} {cap:Nat} {l:List Bool} (h:Bools w a cap l) (hg:w.grownBy w' row) (hne:0<l.length→∀A,a=some A→row≠some A.block):Bools w' a cap l:=
 ⟨h.le,h.mx,h.nil,fun A hA i hi=>by
  obtain⟨h1,v,hv,hr⟩:=h.cells A hA i hi
  refine⟨h1,v,?_,hr⟩
  have hlt:=World.block_lt_of_cell? w _ hv
  have:=hg.block A.block hlt (fun e=>hne (by omega) A hA e.symm)
  simp only [World.cell?] at hv ⊢
  rw [this];exact hv⟩
theorem rdInts:RdOk IsInts where
 ext:=fun w w' v x he ⟨a,c,e,r⟩=>⟨a,c,e,r.ext he⟩
 grown:=fun w w' row v x ⟨a,c,e,r⟩ hg ho=>⟨a,c,e,r.grownW hg fun hl A hA=>ho A x.length c (by rw [e,hA]) hl⟩
 new:=fun w v x ⟨a,c,e,r⟩ A n c' e2 hn=>by
  rw [e] at e2
  simp only [Value.slice.injEq] at e2
  obtain⟨rfl,rfl,rfl⟩:=e2
  obtain⟨_,u,hu,_⟩:=r.cells A rfl 0 hn
  have:=World.block_lt_of_cell? w _ hu
  dsimp only at this
  simp only [ne_eq,Option.some.injEq]
  omega
 one:=fun w v x ⟨a,c,e,r⟩=>by rw [e];rfl
structure OwnL {α:Type} (R:World→Value→α→Prop) (w:World) (B:Nat) (t:TypeId) (v:Value) (xs:List α):Prop where
 ex:∃vs:List Value,w.ownsRow B t 1 v xs.length vs∧∀i (h:i<xs.length),∃x,vs[i]? =some x∧R w x xs[i]∧OffV x v.ownBlock
section
variable {α:Type} {R:World→Value→α→Prop} {w w':World} {B:Nat} {t:TypeId} {v:Value} {xs:List α}
theorem OwnL.nil (w:World) (B:Nat) (t:TypeId):OwnL R w B t (.slice none 0 0) []:=⟨[],World.ownsRow_nil _ _ _ _,fun i h=>absurd h (by simp)⟩
theorem OwnL.ext (hR:RdOk R) (h:OwnL R w B t v xs) (k:Ext w w'):OwnL R w' B t v xs:=by
 obtain⟨vs,ho,hx⟩:=h.ex
 refine⟨vs,ownsRow_ext ho k,fun i hi=>?_⟩
 obtain⟨x,e,h1,h2⟩:=hx i hi
 exact⟨x,e,hR.ext _ _ _ _ k h1,h2⟩
theorem OwnL.low {B':Nat} (h:OwnL R w B t v xs) (hB:B'≤B):OwnL R w B' t v xs:=by
 obtain⟨vs,⟨h1,h2⟩,hx⟩:=h.ex
 refine⟨vs,⟨h1,?_⟩,hx⟩
 rcases h2 with h2 | ⟨g,cap,cur,e,hb,hg,hr⟩
 ·exact .inl h2
 ·exact .inr ⟨g,cap,cur,e,by omega,hg,hr⟩
theorem OwnL.lt (h:OwnL R w B t v xs):∀g,v.ownBlock=some g→B≤g∧g<w.heap.size:=by
 obtain⟨vs,ho,_⟩:=h.ex
 exact fun g e=>World.ownsRow.lt ho g e
theorem OwnL.form (h:OwnL R w B t v xs):∃a cap,v=.slice a xs.length cap∧xs.length≤cap∧cap≤9223372036854775807:=by
 obtain⟨vs,ho,_⟩:=h.ex
 rcases ho.2 with⟨rfl,h0⟩ | ⟨g,cap,cur,rfl,_,_,h1,h2,_⟩
 ·exact⟨none,0,by rw [h0],by omega,by omega⟩
 ·exact⟨_,_,rfl,h1,by unfold maxLen at h2;omega⟩
theorem OwnL.sl (h:OwnL R w B t v xs):∃a cap,v=.slice a xs.length cap∧SlOf R w a cap xs:=by
 obtain⟨vs,ho,hx⟩:=h.ex
 rcases ho.2 with⟨rfl,h0⟩ | ⟨g,cap,cur,rfl,_,_,h1,h2,_⟩
 ·have:xs=[]:=List.eq_nil_of_length_eq_zero h0
  subst this
  exact⟨none,0,rfl,⟨by simp,by omega,fun _=>rfl,fun A hA=>by cases hA⟩⟩
 ·refine⟨_,cap,rfl,⟨h1,by unfold maxLen at h2;omega,by simp,fun A hA i hi=>?_⟩⟩
  cases hA
  obtain⟨x,e,hr,_⟩:=hx i hi
  have:=World.ownsRow.cellAt ho i (by omega)
  rw [e] at this
  exact⟨rfl,x,by simpa using this,hr⟩
theorem OwnL.slice {a:Option Addr} {n cap:Nat} (h:OwnL R w B t (.slice a n cap) xs):n=xs.length∧SlOf R w a cap xs:=by
 obtain⟨a',cap',e,hs⟩:=h.sl
 simp only [Value.slice.injEq] at e
 obtain⟨rfl,rfl,rfl⟩:=e
 exact⟨rfl,hs⟩
theorem OwnL.more (hR:RdOk R) (h:OwnL R w B t v xs) {x v':Value} {y:α} {vs:List Value} (hvs:w.ownsRow B t 1 v xs.length vs) (hx:∀i (h:i<xs.length),∃x,vs[i]? =some x∧R w x xs[i]∧OffV x v.ownBlock)
 (hy:R w x y) (hxo:OffV x v.ownBlock) (hown:w'.ownsRow B t 1 v' (xs.length+1) (vs ++ [x])) (hg:w.grownBy w' v.ownBlock) (hat:v'.ownBlock=v.ownBlock∨v'.ownBlock=some w.heap.size):
 OwnL R w' B t v' (xs ++ [y]):=by
 have hvl:vs.length=xs.length:=by have:=hvs.1;omega
 have hoff:∀u z,R w u z→OffV u v.ownBlock→OffV u v'.ownBlock:=fun u z hu ho=>by
  rcases hat with e | e
  ·rw [e];exact ho
  ·rw [e];exact hR.new _ _ _ hu
 refine⟨vs ++ [x],by rw [List.length_append];exact hown,fun i hi=>?_⟩
 rw [List.length_append,List.length_singleton] at hi
 by_cases hk:i<xs.length
 ·obtain⟨u,e,h1,h2⟩:=hx i hk
  refine⟨u,by rw [List.getElem?_append_left (by omega)];exact e,?_,hoff _ _ h1 h2⟩
  rw [List.getElem_append_left hk]
  exact hR.grown _ _ _ _ _ h1 hg h2
 ·have hi':i=xs.length:=by omega
  subst hi'
  refine⟨x,by rw [←hvl];simp,?_,hoff _ _ hy hxo⟩
  rw [List.getElem_append_right (Nat.le_refl _)]
  simp only [Nat.sub_self,List.getElem_singleton]
  exact hR.grown _ _ _ _ _ hy hg hxo
end
theorem wpl_append_ownL {α:Type} {R:World→Value→α→Prop} (hR:RdOk R) {a0 w:World} {ops:Array Oper} {rest:List Oper} {o:Oper} {a:Act} {Q:Exit→Act→World→Prop} (hgd:o.guard=none) (s x:Operand) (t et:TypeId)
 (ho:o.op=.call {callee:=.builtin .append,args:=#[s,x],argTypes:=#[t,t]}) (ht:Tryz.prog.underlying t=some (.slice et)) {z:Value} (hz:z.cells.size=1) (hi:(Tryz.prog.info? et).map (fun i=>(i.zero,i.size,i.bytes))=some (some z,1,24))
 (hx0:Ext a0 w) {v:Value} {xs:List α} (hs:a.eval s=v) (hown:OwnL R w a0.heap.size et v xs) {g:Nat} (hx:a.eval x=.slice (some ⟨g,0,none⟩) 1 1) {u:Value} {bt:TypeId} (hb:Blk w g #[u] bt) {y:α} (hu:R w u y) (hoff:OffV u v.ownBlock)
 (hlen:xs.length≤1000000)
 (h:∀va vc w',OwnL R w' a0.heap.size et (.slice va (xs.length+1) vc) (xs ++ [y])→Ext a0 w'→w.grownBy w' v.ownBlock→wpList Tryz.prog ops Q rest (a.put o.dst (.slice va (xs.length+1) vc)) w'):wpList Tryz.prog ops Q (o :: rest) a w:=by
 obtain⟨i0,hi0,hz0,hz1,hz2⟩:=info_parts hi
 obtain⟨vs,hvs,hel⟩:=hown.ex
 refine wpList_append_own_at w hgd s x t ho a0.heap.size et i0 z 1 24 ht hi0 hz0 hz1 hz2 hz (by decide) v xs.length vs hs hvs ⟨g,0,none⟩ 1 1 [u] hx rfl (fun j q hq=>by
  have e:((⟨g,0,none⟩:Addr).add j)= ⟨g,j,none⟩:=by unfold Addr.add;split <;> simp_all
  rw [e]
  exact hb.cell (by simpa using hq)) (fun q hq=>by rw [List.mem_singleton.1 hq];exact hR.one _ _ _ hu) (by unfold maxLen;omega) (by omega) hx0.size ?_
 intro v' w' h1 h2 h3 h4
 have hm:=hown.more hR hvs hel hu hoff h1 h2 h4
 obtain⟨va,vc,e,_⟩:=hm.form
 rw [List.length_append,List.length_singleton] at e
 subst e
 exact h va vc w' hm (Below.grown hx0 h2 hx0.size (fun k e=>(hown.lt k e).1)) h2
theorem infoIntsW:(Tryz.prog.info? 34).map (fun i=>(i.zero,i.size,i.bytes))=some (some (.slice none 0 0),1,24):=by kernel_rfl
theorem Ints.putW {w:World} {g cap:Nat} {l:List Int} (h:Ints w (some ⟨g,0,none⟩) cap l) {i:Nat} {u:Int} (hu:-9223372036854775808≤u∧u≤9223372036854775807):Ints (w.setCell ⟨g,i,none⟩ (.int .i64 u)) (some ⟨g,0,none⟩) cap (l.set i u):=by
 refine⟨by simpa using h.le,h.mx,h.nil,fun A hA j hj=>?_⟩
 cases hA
 simp only [List.length_set] at hj
 obtain⟨h1,v,hv,rfl,hr⟩:=h.cells _ rfl j hj
 dsimp only at hv ⊢
 simp only [Nat.zero_add] at hv ⊢
 by_cases e:i=j
 ·subst e
  refine⟨by trivial,.int .i64 u,?_,by simp [IsInt,hu]⟩
  exact World.cell?_setCell_same' _ _ _ (by rw [hv];rfl)
 ·refine⟨by trivial,.int .i64 l[j],?_,by simp [IsInt,List.getElem_set,e,hr]⟩
  rw [World.cell?_setCell_other _ _ _ _ (fun e2=>e (by injection e2))];exact hv
theorem Bools.putW {w:World} {g cap:Nat} {l:List Bool} (h:Bools w (some ⟨g,0,none⟩) cap l) {i:Nat} {u:Bool}:Bools (w.setCell ⟨g,i,none⟩ (.bool u)) (some ⟨g,0,none⟩) cap (l.set i u):=by
 refine⟨by simpa using h.le,h.mx,h.nil,fun A hA j hj=>?_⟩
 cases hA
 simp only [List.length_set] at hj
 obtain⟨h1,v,hv,rfl⟩:=h.cells _ rfl j hj
 dsimp only at hv ⊢
 simp only [Nat.zero_add] at hv ⊢
 by_cases e:i=j
 ·subst e
  refine⟨by trivial,.bool u,?_,by simp [IsBool]⟩
  exact World.cell?_setCell_same' _ _ _ (by rw [hv];rfl)
 ·refine⟨by trivial,.bool l[j],?_,by simp [IsBool,List.getElem_set,e]⟩
  rw [World.cell?_setCell_other _ _ _ _ (fun e2=>e (by injection e2))];exact hv
theorem errM_of {m:List (List Int)} {n:Nat} (h1:m.length≤4096) (h2:n≤256) (h:∀r∈m,r.length=n∧∀x∈r,-1≤x∧x≤1000):errM m n false=0:=by
 have hh:0<m.length→(m.headD []).length=n:=fun h0=>by
  cases m with
  | nil=>simp at h0
  | cons r m=>exact(h r (by simp)).1
 have hb:∀r∈m,r.any badM=false:=fun r hr=>by
  rw [List.any_eq_false]
  intro x hx
  have:=(h r hr).2 x hx
  unfold badM
  rw [decide_eq_false (by omega),decide_eq_false (by omega)]
  simp
 have w1:¬m.any longM=true:=by
  rw [Bool.not_eq_true,List.any_eq_false]
  intro r hr
  have:=(h r hr).1
  unfold longM
  rw [decide_eq_false (by omega)]
  simp
 have w2:¬m.any (wrongM (m.headD []).length)=true:=by
  rw [Bool.not_eq_true,List.any_eq_false]
  intro r hr
  unfold wrongM
  rw [hh (List.length_pos_of_mem hr),hb r hr,(h r hr).1]
  simp
 have w3:¬ (0<m.length∧(m.headD []).length≠n):=fun⟨h0,h3⟩=>h3 (hh h0)
 unfold errM
 rw [if_neg (by omega),if_neg w1,if_neg w2,if_neg w3,if_neg (by simp)]
theorem set_bd {r:List Int} {j:Nat} {x:Int} (h:∀y∈r,-1≤y∧y≤1000) (hx:-1≤x∧x≤1000):∀y∈r.set j x,-1≤y∧y≤1000:=fun y hy=>by
 rcases List.mem_or_eq_of_mem_set hy with h1 | h1
 ·exact h y h1
 ·rw [h1];exact hx
theorem rows_news {w:World} {a:Option Addr} {cap:Nat} {m:List (List Int)} (h:Rows w a cap m):∃vs:List Value,vs.length=m.length∧(∀i (hi:i<m.length),∃v,vs[i]? =some v∧IsInts w v m[i])∧
 (∀W,Ext w W→∀A,a=some A→∀ (j:Nat) (u:Value),vs[j]? =some u→W.cell? (A.add j)=some u)∧∀u∈vs,u.oneCell'=true:=by
 cases a with
 | none=>
  have h0:=h.nil rfl
  have h1:=h.le
  have:m=[]:=List.eq_nil_of_length_eq_zero (by omega)
  subst this
  exact⟨[],rfl,fun i hi=>absurd hi (by simp),(fun W hW A hA=>(by cases hA)),(fun u hu=>(by cases hu))⟩
 | some A=>
  have one:∀i,∃v,∀hi:i<m.length,w.cell? ⟨A.block,A.off+i,none⟩=some v∧IsInts w v m[i]:=fun i=>by
   by_cases hi:i<m.length
   ·obtain⟨_,v,h1,h2⟩:=h.cells A rfl i hi
    exact⟨v,fun _=>⟨h1,h2⟩⟩
   ·exact⟨.bool false,fun e=>absurd e hi⟩
  obtain⟨f,hf⟩:=Classical.axiomOfChoice one
  refine⟨(List.range m.length).map f,by simp,fun i hi=>⟨f i,by rw [List.getElem?_map,List.getElem?_range hi];rfl,(hf i hi).2⟩,fun W hW A' hA j u hu=>?_,fun u hu=>?_⟩
  ·cases hA
   have hj:j<m.length:=by have:=(List.getElem?_eq_some_iff.1 hu).1;simpa using this
   rw [List.getElem?_map,List.getElem?_range hj] at hu
   obtain⟨h0,_⟩:=h.cells A rfl j hj
   obtain⟨b,o,s⟩:=A
   dsimp only at h0
   subst h0
   rw [←Option.some.inj hu,Addr.add_off]
   exact cell_exQ hW (hf j hj).1
  ·obtain⟨i,hi,rfl⟩:=List.mem_map.1 hu
   obtain⟨a',c',e,_⟩:=(hf i (List.mem_range.1 hi)).2
   rw [e]
   rfl
theorem own_blk {w:World} {B:Nat} {t:TypeId} {k g n n' cap:Nat} {xs:List Value} (h:w.ownsRow B t k (.slice (some ⟨g,0,none⟩) n' cap) n xs):∃cs:Array Value,Blk w g cs t∧∀ (r:Nat) (u:Value),xs[r]? =some u→cs[r]? =some u:=by
 rcases h.2 with⟨e,_⟩ | ⟨g',cap',cur,e,hb,hg,h1,h2,h3,h4⟩
 ·cases e
 ·simp only [Value.slice.injEq,Option.some.injEq,Addr.mk.injEq,and_true,true_and] at e
  obtain⟨rfl,_,rfl⟩:=e
  refine⟨cur,hg,fun r u hu=>?_⟩
  rw [←h4,List.getElem?_take] at hu
  split at hu
  ·simpa using hu
  ·cases hu
theorem own_head {w:World} {B:Nat} {t:TypeId} {k n:Nat} {v:Value} {xs:List Value} (h:w.ownsRow B t k v n xs) (h0:0<n):∃g cap,v=.slice (some ⟨g,0,none⟩) n cap∧B≤g∧g<w.heap.size∧n≤cap∧cap≤9223372036854775807:=by
 rcases h.2 with⟨_,e⟩ | ⟨g,cap,cur,rfl,hb,hg,h1,h2,_⟩
 ·omega
 ·exact⟨g,cap,rfl,hb,(Array.getElem?_eq_some_iff.1 hg).1,h1,by unfold maxLen at h2;exact h2⟩
theorem rows_of_blk {W:World} {g cap:Nat} {cs:Array Value} {M:List (List Int)} {t:TypeId} (hb:Blk W g cs t) (h1:M.length≤cap) (h2:cap≤9223372036854775807) (h:∀i (hi:i<M.length),∃v,cs[i]? =some v∧IsInts W v M[i]):Rows W (some ⟨g,0,none⟩) cap M:=
 ⟨h1,h2,fun e=>(by cases e),fun A hA i hi=>by
  cases hA
  obtain⟨v,e,hv⟩:=h i hi
  exact⟨rfl,v,by simpa using hb.cell e,hv⟩⟩
theorem ex4 {w w':World} {b1 b2 b3 b4 o1 o2 o3 o4:Nat} {v1 v2 v3 v4:Value} (h:Ext w w') (f1:w.cell? ⟨b1,o1,none⟩=some v1) (f2:w.cell? ⟨b2,o2,none⟩=some v2) (f3:w.cell? ⟨b3,o3,none⟩=some v3) (f4:w.cell? ⟨b4,o4,none⟩=some v4):
 w'.cell? ⟨b1,o1,none⟩=some v1∧w'.cell? ⟨b2,o2,none⟩=some v2∧w'.cell? ⟨b3,o3,none⟩=some v3∧w'.cell? ⟨b4,o4,none⟩=some v4:=⟨cell_exQ h f1,cell_exQ h f2,cell_exQ h f3,cell_exQ h f4⟩
theorem isInts_ext {w w':World} {v:Value} {l:List Int} (h:IsInts w v l) (k:Ext w w'):IsInts w' v l:=by
 obtain⟨a,c,e,hi⟩:=h
 exact⟨a,c,e,hi.ext k⟩
theorem rows_changed {w w5:World} {gn cn g2 c2 i j:Nat} {cs:Array Value} {m:List (List Int)} {r:List Int} {x:Int} (hx:-9223372036854775808≤x∧x≤9223372036854775807)
 (hb:Blk w5 gn cs 34) (h1:m.length≤cn) (h2:cn≤9223372036854775807) (hi:i<m.length) (hcs:∀k (hk:k<m.length),∃v,cs[k]? =some v∧IsInts w v m[k]) (hr:Ints w5 (some ⟨g2,0,none⟩) c2 r)
 (hne:g2≠gn) (hE:Ext w ((w5.setCell ⟨gn,i,none⟩ (.slice (some ⟨g2,0,none⟩) r.length c2)).setCell ⟨g2,j,none⟩ (.int .i64 x))):
 Rows ((w5.setCell ⟨gn,i,none⟩ (.slice (some ⟨g2,0,none⟩) r.length c2)).setCell ⟨g2,j,none⟩ (.int .i64 x)) (some ⟨gn,0,none⟩) cn (m.set i (r.set j x)):=by
 have hb1:=hb.set i (.slice (some ⟨g2,0,none⟩) r.length c2)
 have hb2:=hb1.other (p:=⟨g2,j,none⟩) (fun e=>hne e.symm) (.int .i64 x)
 have hr1:Ints (w5.setCell ⟨gn,i,none⟩ (.slice (some ⟨g2,0,none⟩) r.length c2)) (some ⟨g2,0,none⟩) c2 r:=hr.grownW (grownSet w5 gn i _) fun _ A hA e=>by cases hA;exact hne (Option.some.inj e).symm
 have hr2:=Ints.putW hr1 (i:=j) hx
 have hsz:i<cs.size:=by
  obtain⟨v,e,_⟩:=hcs i hi
  exact(Array.getElem?_eq_some_iff.1 e).1
 refine rows_of_blk hb2 (by rw [List.length_set];exact h1) h2 fun k hk=>?_
 rw [List.length_set] at hk
 by_cases e:k=i
 ·subst e
  refine⟨_,setSelf hsz,?_⟩
  rw [List.getElem_set_self]
  exact⟨_,_,by rw [List.length_set],hr2⟩
 ·obtain⟨v,e1,e2⟩:=hcs k hk
  refine⟨v,by rw [Array.getElem?_setIfInBounds,if_neg (fun h=>e h.symm)];exact e1,?_⟩
  rw [List.getElem_set_ne (fun h=>e h.symm)]
  exact isInts_ext e2 hE
def cA (x:RatA):RatC:=⟨x.n,x.a,x.l.length,x.c,x.n2,x.b,x.m.length,x.d⟩
theorem rats_news {w:World} {a:Option Addr} {cap:Nat} {L:List RatA} (h:RatsI w a cap L):∀A,a=some A→∀ (j:Nat) (u:Value),(newsU L.length fun c=>cA (L.getD c zeroA))[j]? =some u→w.cell? (A.add j)=some u:=fun A hA j u hu=>by
 have hj:j<L.length*4:=by have:=(List.getElem?_eq_some_iff.1 hu).1;rwa [newsU_len] at this
 have hc:j / 4<L.length:=by omega
 obtain⟨h0,h1,h2,h3,h4⟩:=h.cells A hA (j / 4) hc
 obtain⟨g1,g2,g3,g4⟩:=newsU_get (V:=fun c=>cA (L.getD c zeroA)) hc
 have e:L.getD (j / 4) zeroA=L[j / 4]:=by rw [List.getD_eq_getElem?_getD,List.getElem?_eq_getElem hc];rfl
 generalize (newsU L.length fun c=>cA (L.getD c zeroA))=NN at *
 dsimp only [cA] at g1 g2 g3 g4
 rw [e] at g1 g2 g3 g4
 obtain⟨b,o,s⟩:=A
 dsimp only at h0 h1 h2 h3 h4
 subst h0
 rw [Addr.add_off]
 have:j=j / 4*4∨j=j / 4*4+1∨j=j / 4*4+2∨j=j / 4*4+3:=by omega
 generalize j / 4=c at *
 rcases this with rfl | rfl | rfl | rfl
 ·rw [g1] at hu;rw [←Option.some.inj hu];exact h1
 ·rw [g2] at hu;rw [←Option.some.inj hu,←Nat.add_assoc];exact h2
 ·rw [g3] at hu;rw [←Option.some.inj hu,←Nat.add_assoc];exact h3
 ·rw [g4] at hu;rw [←Option.some.inj hu,←Nat.add_assoc];exact h4
theorem rats_set {w w':World} {g cap j:Nat} {a:Option Addr} {sc:Nat} {L:List RatA} {x:RatA} (h:RatsI w a sc L) (hx:RatI w x) (hE:Ext w w') (hj:j<L.length) (h1:L.length≤cap) (h2:cap≤9223372036854775807)
 (hB:RowB w' g L.length fun c=>if c=j then cA x else cA (L.getD c zeroA)):RatsI w' (some ⟨g,0,none⟩) cap (L.set j x):=
 ⟨by rw [List.length_set];exact h1,h2,fun e=>(by cases e),fun A hA i hi=>by
  cases hA
  have hi':i<L.length:=by rwa [List.length_set] at hi
  obtain⟨c0,c1,c2,c3⟩:=hB.cells hi'
  simp only [Nat.zero_add]
  by_cases e:i=j
  ·subst e
   rw [if_pos rfl] at c0 c1 c2 c3
   rw [List.getElem_set_self]
   exact⟨trivial,c0,c1,c2,c3⟩
  ·rw [if_neg e] at c0 c1 c2 c3
   have e2:L.getD i zeroA=L[i]:=by rw [List.getD_eq_getElem?_getD,List.getElem?_eq_getElem hi'];rfl
   rw [e2] at c0 c1 c2 c3
   rw [List.getElem_set_ne (fun h=>e h.symm)]
   exact⟨trivial,c0,c1,c2,c3⟩,fun i hi=>by
  have hi':i<L.length:=by rwa [List.length_set] at hi
  by_cases e:i=j
  ·subst e
   rw [List.getElem_set_self]
   exact hx.ext hE
  ·rw [List.getElem_set_ne (fun h=>e h.symm)]
   exact(h.ints i hi').ext hE⟩
theorem valL_set {L:List RatA} {S:List Rat} {k j:Nat} {x:RatA} {r:Rat} (h:ValL L S k) (hz:Sz r k) (hx:∀w,RatI w x→RatV w x.val r):ValL (L.set j x) (S.set j r) k:=
 ⟨by rw [List.length_set,List.length_set];exact h.1,fun i y q h1 h2=>by
  by_cases e:i=j
  ·subst e
   have l1:i<L.length:=by have:=(List.getElem?_eq_some_iff.1 h1).1;rwa [List.length_set] at this
   have l2:i<S.length:=by rw [←h.1];exact l1
   rw [List.getElem?_set_self l1] at h1
   rw [List.getElem?_set_self l2] at h2
   cases h1;cases h2
   exact⟨hz,hx⟩
  ·rw [List.getElem?_set_ne (fun h=>e h.symm)] at h1 h2
   exact h.2 i y q h1 h2⟩
theorem any_set {L:List RatA} {j:Nat} {x:RatA} (h:L.any (fun x=>!x.ok)=false) (hx:x.ok=true):(L.set j x).any (fun x=>!x.ok)=false:=by
 rw [List.any_eq_false] at h ⊢
 intro y hy
 rcases List.mem_or_eq_of_mem_set hy with h1 | h1
 ·exact h y h1
 ·rw [h1,hx];simp
end Go.Proofs.YtolffmmkjnhkkaaGreat
