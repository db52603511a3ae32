import Derived.Test.YtolffmmkjnhkkaaGreatQ3
import Derived.Deep.Cut
namespace Go.Proofs.YtolffmmkjnhkkaaGreat
open Go.RowKit Go BigFrame
set_option maxRecDepth 100000
set_option linter.unusedSimpArgs false
set_option linter.unusedVariables false
theorem take_snocS {l:List Int} {k:Nat} (hk:k<l.length):l.take (k+1)=l.take k ++ [l.getD k 0]:=by
 rw [List.take_add_one,List.getElem?_eq_getElem hk];simp [List.getD,hk]
theorem Ints.at0S {w:World} {a:Option Addr} {cap nn:Nat} {l:List Int} (h:Ints w a cap l) (hl:l.length=nn) {i:Nat} (hi:i<nn):∃b o,a=some ⟨b,o,none⟩∧∀j,j<nn→w.cell? ⟨b,o+j,none⟩=some (.int .i64 (l.getD j 0)):=by
 obtain⟨b,o,rfl⟩:=h.head (i:=i) (by omega)
 refine⟨b,o,rfl,fun j hj=>?_⟩
 have:=(h.cell (i:=j) (by omega)).1
 rw [this]
 simp [List.getD,show j<l.length by omega]
set_option maxHeartbeats 1000000 in
theorem sameBig_raw {x y:Value} {n n2:Bool} {l l2:List Int} {w:World} (h:BigR w x n l) (h2:BigR w y n2 l2):
 Calls Tryz.prog 43 #[x,y] w fun e w'=>e=.returned (.bool (decide (n=n2∧l=l2)))∧Ext w w':=by
 obtain⟨a,cap,rfl,hi⟩:=h
 obtain⟨a2,cap2,rfl,hi2⟩:=h2
 obtain⟨B,hB⟩:∃B,decide (n=n2∧l=l2)=B:=⟨_,rfl⟩
 rw [hB]
 have hle:=hi.le
 have hmx:=hi.mx
 have hle2:=hi2.le
 have hmx2:=hi2.mx
 obtain⟨p,hp⟩:∃p,l.length=p:=⟨_,rfl⟩
 obtain⟨q,hq⟩:∃q,l2.length=q:=⟨_,rfl⟩
 rw [hp] at hle ⊢
 rw [hq] at hle2 ⊢
 have hx:Ext w ((w.alloc (.cells #[.bool n,.slice a p cap] 36)).alloc (.cells #[.bool n2,.slice a2 q cap2] 36)):=(by repeat (first | with_reducible exact Ext.refl _ | with_reducible assumption | with_reducible refine Ext.drewN ?_ _ | with_reducible refine Ext.drew ?_ | with_reducible refine Ext.alloc' ?_ _ | with_reducible refine Ext.set ?_ (by dsimp only;omega) _))
 have k0:=Lib.hid ((Blk.new0 w #[.bool n,.slice a p cap] 36).alloc (.cells #[.bool n2,.slice a2 q cap2] 36))
 have k1:=Lib.hid (Blk.new1 w (.cells #[.bool n,.slice a p cap] 36) #[.bool n2,.slice a2 q cap2] 36)
 have HI:=Lib.hid (hi.ext hx)
 have HI2:=Lib.hid (hi2.ext hx)
 have HB:=Lib.hid hB
 have HP:=Lib.hid hp
 have HQ:=Lib.hid hq
 clear hi hi2 hB hp hq
 go_enter Tryz.func43,Tryz.ntmps43
 go_upto_region 1 with fail
 generalize (w.alloc (.cells #[.bool n,.slice a p cap] 36)).alloc (.cells #[.bool n2,.slice a2 q cap2] 36)=w1 at *
 have c0:=k0.out.cell (i:=0) (v:=.bool n) rfl
 have c1:=k0.out.cell (i:=1) (v:=.slice a p cap) rfl
 have e0:=k1.out.cell (i:=0) (v:=.bool n2) rfl
 have e1:=k1.out.cell (i:=1) (v:=.slice a2 q cap2) rfl
 by_cases hn:n=n2
 ·subst hn
  have d1:(n != n)=false:=by simp
  by_cases hl:p=q
  ·subst hl
   have d2:((p:Int) != (p:Int))=false:=by simp
   go_wp2_with fail
   clear c0 e0
   go_loopw [5] (fun i wr=>∃k:Nat,k≤p∧i=.int .i64 k∧Hid (l.take k=l2.take k)∧Ext w1 wr) (fun i _=>p - (intOf i).toNat)
   case atStart=>exact⟨0,Nat.zero_le _,rfl,Lib.hid rfl,Ext.refl _⟩
   case round=>
    clear c1 e1
    obtain⟨k,hk,rfl,hno,hxr⟩:=hrel
    have c1:=(k0.out.ext hxr).cell (i:=1) (v:=.slice a p cap) rfl
    have e1:=(k1.out.ext hxr).cell (i:=1) (v:=.slice a2 p cap2) rfl
    by_cases hkn:k<p
    ·obtain⟨b1,q1,rfl,ha⟩:=(HI.out.ext hxr).at0S HP.out hkn
     obtain⟨b2,q2,rfl,hb⟩:=(HI2.out.ext hxr).at0S HQ.out hkn
     have ea:=ha k hkn
     have eb:=hb k hkn
     clear ha hb
     have hT1:=Lib.hid (take_snocS (l:=l) (k:=k) (by rw [HP.out];exact hkn))
     have hT2:=Lib.hid (take_snocS (l:=l2) (k:=k) (by rw [HQ.out];exact hkn))
     have g1:(0:Int)≤(k:Int):=by omega
     have g2:(k:Int)< (p:Int):=by omega
     obtain⟨x,hx⟩:∃x,l.getD k 0=x:=⟨_,rfl⟩
     obtain⟨y,hy⟩:∃y,l2.getD k 0=y:=⟨_,rfl⟩
     rw [hx] at ea hT1
     rw [hy] at eb hT2
     by_cases he:x=y
     ·have d3:(x != y)=false:=by simpa using he
      have HE:=Lib.hid he
      clear hx hy he
      go_wp2_with fail
      go_quiet (fail)
      go_wp2_with fail
      go_roundw
      case rel=>exact⟨k+1,by omega,by go_num,Lib.hid (by rw [hT1.out,hT2.out,hno.out,HE.out]),hxr.drewN _⟩
      case measure=>simp [intOf];omega
     ·have d3:(x != y)=true:=by simpa using he
      have d4:(x == y)=false:=by simpa using he
      have hBf:B=false:=by
       rw [←HB.out,decide_eq_false_iff_not]
       rintro⟨_,rfl⟩
       exact he (hx.symm.trans hy)
      subst hBf
      clear hx hy he
      go_wp2_with fail
      go_quiet (fail)
      go_wp2_with fail
      go_ret
      exact⟨rfl,(hx.trans hxr).drewN _⟩
    ·obtain rfl:k=p:=by omega
     have hBt:B=true:=by
      rw [←HB.out,decide_eq_true_iff]
      refine⟨by trivial,?_⟩
      have h:=hno.out
      rwa [List.take_of_length_le (by rw [HP.out];exact Nat.le_refl _),List.take_of_length_le (by rw [HQ.out];exact Nat.le_refl _)] at h
     subst hBt
     go_wp2_with fail
     go_ret
     exact⟨rfl,hx.trans hxr⟩
  ·have d2:((p:Int) != (q:Int))=true:=by simp;omega
   have d4:((p:Int) == (q:Int))=false:=by simp;omega
   have hBf:B=false:=by
    rw [←HB.out,decide_eq_false_iff_not]
    rintro⟨_,rfl⟩
    exact hl (HP.out.symm.trans HQ.out)
   subst hBf
   clear hl
   go_wp2_with fail
   go_ret
   first | exact⟨rfl,hx⟩ | exact⟨trivial,hx⟩
 ·have d1:(n != n2)=true:=by simpa using hn
  have hBf:B=false:=by
   rw [←HB.out,decide_eq_false_iff_not]
   exact fun h=>hn h.1
  subst hBf
  go_wp2_with fail
  go_ret
  first | exact⟨rfl,hx⟩ | exact⟨trivial,hx⟩
theorem sameBig_val {x y:Value} {z z2:Int} {w:World} (h:BigV w x z) (h2:BigV w y z2):
 Calls Tryz.prog 43 #[x,y] w fun e w'=>e=.returned (.bool (decide (z=z2)))∧Ext w w':=by
 obtain⟨n,l,r,b⟩:=h
 obtain⟨n2,l2,r2,b2⟩:=h2
 have:=sameBig_raw r r2
 rwa [decide_eq_decide.2 (b.same b2)] at this
theorem same_no {nx mx ny my:Bool} {ax bx ay by_:Option Addr} {qx cx kx dx qy cy ky dy:Nat} {z1 y1 z2 y2:Int} {w:World} (h1:BigV w (.agg #[.bool nx,.slice ax qx cx]) z1) (h2:BigV w (.agg #[.bool mx,.slice bx kx dx]) y1) (h3:BigV w (.agg #[.bool ny,.slice ay qy cy]) z2) (h4:BigV w (.agg #[.bool my,.slice by_ ky dy]) y2) (hc:decide (z1=z2)=false):Calls Tryz.prog 19 #[.agg #[.bool nx,.slice ax qx cx,.bool mx,.slice bx kx dx],.agg #[.bool ny,.slice ay qy cy,.bool my,.slice by_ ky dy]] w fun e w'=>e=.returned (.bool false)∧Ext w w':=by
 have H1:=Lib.hid (fun W (hy:Ext w W)=>sameBig_val (h1.ext hy) (h3.ext hy))
 have H2:=Lib.hid (fun W (hy:Ext w W)=>sameBig_val (h2.ext hy) (h4.ext hy))
 rw [hc] at H1
 clear h1 h2 h3 h4 hc
 generalize decide (y1=y2)=B at *
 obtain⟨x1,hw,hx,Kx,Ky⟩:=boxQ2 w #[.bool nx,.slice ax qx cx,.bool mx,.slice bx kx dx] 38 #[.bool ny,.slice ay qy cy,.bool my,.slice by_ ky dy] 38
 replace hw:=Lib.hid hw
 go_enter Tryz.func19,Tryz.ntmps19
 go_upto_region 1 with fail
 try simp only [Nat.add_assoc,Nat.reduceAdd,Nat.add_zero]
 rw [hw.out]
 clear hw
 have hs0:=hx.size
 obtain⟨cx0,cx1,cx2,cx3⟩:=bk4 Kx
 obtain⟨cy0,cy1,cy2,cy3⟩:=bk4 Ky
 go_wp2_with fail
 with_reducible refine(H1.out _ hx).mono ?_
 clear cx0 cx1 cx2 cx3 cy0 cy1 cy2 cy3
 rintro e x2 ⟨rfl,hy⟩
 replace hx:=hx.trans hy
 replace Kx:=kE Kx hy
 replace Ky:=kE Ky hy
 clear hy
 go_wp2_with fail
 go_ret
 exact⟨rfl,hx⟩
theorem same_yes {nx mx ny my:Bool} {ax bx ay by_:Option Addr} {qx cx kx dx qy cy ky dy:Nat} {z1 y1 z2 y2:Int} {w:World} (h1:BigV w (.agg #[.bool nx,.slice ax qx cx]) z1) (h2:BigV w (.agg #[.bool mx,.slice bx kx dx]) y1) (h3:BigV w (.agg #[.bool ny,.slice ay qy cy]) z2) (h4:BigV w (.agg #[.bool my,.slice by_ ky dy]) y2) (hc:decide (z1=z2)=true):Calls Tryz.prog 19 #[.agg #[.bool nx,.slice ax qx cx,.bool mx,.slice bx kx dx],.agg #[.bool ny,.slice ay qy cy,.bool my,.slice by_ ky dy]] w fun e w'=>e=.returned (.bool (decide (y1=y2)))∧Ext w w':=by
 have H1:=Lib.hid (fun W (hy:Ext w W)=>sameBig_val (h1.ext hy) (h3.ext hy))
 have H2:=Lib.hid (fun W (hy:Ext w W)=>sameBig_val (h2.ext hy) (h4.ext hy))
 rw [hc] at H1
 clear h1 h2 h3 h4 hc
 generalize decide (y1=y2)=B at *
 obtain⟨x1,hw,hx,Kx,Ky⟩:=boxQ2 w #[.bool nx,.slice ax qx cx,.bool mx,.slice bx kx dx] 38 #[.bool ny,.slice ay qy cy,.bool my,.slice by_ ky dy] 38
 replace hw:=Lib.hid hw
 go_enter Tryz.func19,Tryz.ntmps19
 go_upto_region 1 with fail
 try simp only [Nat.add_assoc,Nat.reduceAdd,Nat.add_zero]
 rw [hw.out]
 clear hw
 have hs0:=hx.size
 obtain⟨cx0,cx1,cx2,cx3⟩:=bk4 Kx
 obtain⟨cy0,cy1,cy2,cy3⟩:=bk4 Ky
 go_wp2_with fail
 with_reducible refine(H1.out _ hx).mono ?_
 clear cx0 cx1 cx2 cx3 cy0 cy1 cy2 cy3
 rintro e x2 ⟨rfl,hy⟩
 replace hx:=hx.trans hy
 replace Kx:=kE Kx hy
 replace Ky:=kE Ky hy
 clear hy
 obtain⟨cx0,cx1,cx2,cx3⟩:=bk4 Kx
 obtain⟨cy0,cy1,cy2,cy3⟩:=bk4 Ky
 go_wp2_with fail
 with_reducible refine(H2.out _ hx).mono ?_
 clear cx0 cx1 cx2 cx3 cy0 cy1 cy2 cy3
 rintro e x3 ⟨rfl,hy⟩
 replace hx:=hx.trans hy
 replace Kx:=kE Kx hy
 replace Ky:=kE Ky hy
 clear hy
 go_wp2_with fail
 go_ret
 exact⟨rfl,hx⟩
theorem same_val {nx mx ny my:Bool} {ax bx ay by_:Option Addr} {qx cx kx dx qy cy ky dy:Nat} {z1 y1 z2 y2:Int} {w:World} (h1:BigV w (.agg #[.bool nx,.slice ax qx cx]) z1) (h2:BigV w (.agg #[.bool mx,.slice bx kx dx]) y1) (h3:BigV w (.agg #[.bool ny,.slice ay qy cy]) z2) (h4:BigV w (.agg #[.bool my,.slice by_ ky dy]) y2):Calls Tryz.prog 19 #[.agg #[.bool nx,.slice ax qx cx,.bool mx,.slice bx kx dx],.agg #[.bool ny,.slice ay qy cy,.bool my,.slice by_ ky dy]] w fun e w'=>e=.returned (.bool (decide (z1=z2∧y1=y2)))∧Ext w w':=by
 by_cases h:z1=z2
 ·have:=same_yes h1 h2 h3 h4 (decide_eq_true h)
  rw [show decide (z1=z2∧y1=y2)=decide (y1=y2) by simp [h]];exact this
 ·have:=same_no h1 h2 h3 h4 (decide_eq_false h)
  rw [decide_eq_false (fun e=>h e.1)];exact this
theorem same_rat {v u:Value} {r s:Rat} {w:World} (hv:RatV w v r) (hu:RatV w u s):Calls Tryz.prog 19 #[v,u] w fun e w'=>e=.returned (.bool (decide (r=s)))∧Ext w w':=by
 obtain⟨nx,ax,qx,cx,bx,kx,dx,rfl⟩:=hv.form
 obtain⟨ny,ay,qy,cy,by_,ky,dy,rfl⟩:=hu.form
 have:=same_val hv.num hv.den hu.num hu.den
 rw [show decide (r=s)=decide (r.num=s.num∧(r.den:Int)=s.den) from decide_eq_decide.2 ⟨fun e=>by rw [e];exact⟨rfl,rfl⟩,fun⟨a,b⟩=>Rat.ext a (by omega)⟩]
 exact this
theorem same_zero (w:World):Calls Tryz.prog 19 #[zeroRat,zeroRat] w fun e w'=>e=.returned (.bool true)∧Ext w w':=by
 have:=same_val (BigV.zero w) (BigV.zero w) (BigV.zero w) (BigV.zero w)
 simpa using this
def fewQ (k n:Nat):Bool:=decide (k≤n) || (decide (2048<k) && decide (k≤2052))
theorem fewBig_a (m:Bool) (a:Option Addr) (k c n:Nat) (w:World) (hm:k≤9223372036854775807) (h:k≤n):Calls Tryz.prog 44 #[.agg #[.bool m,.slice a k c],.int .i64 n] w fun e w'=>e=.returned (.bool true)∧Ext w w':=by
 have t0:decide ((k:Int)≤(n:Int))=true:=by rw [decide_eq_true_iff];omega
 have u0:decide (k≤n)=true:=by rw [decide_eq_true_iff];omega
 clear h
 obtain⟨x1,hw,hx,Kx⟩:=boxQ1 w #[.bool m,.slice a k c] 36
 replace hw:=Lib.hid hw
 go_enter Tryz.func44,Tryz.ntmps44
 go_upto_region 1 with fail
 try simp only [Nat.add_assoc,Nat.reduceAdd,Nat.add_zero]
 rw [hw.out]
 clear hw
 have hs0:=hx.size
 obtain⟨cx0,cx1⟩:=bk2 Kx
 go_wp2_with fail
 go_ret
 exact⟨rfl,hx⟩
theorem fewBig_b (m:Bool) (a:Option Addr) (k c n:Nat) (w:World) (hm:k≤9223372036854775807) (h:¬k≤n∧¬2048<k):Calls Tryz.prog 44 #[.agg #[.bool m,.slice a k c],.int .i64 n] w fun e w'=>e=.returned (.bool false)∧Ext w w':=by
 have t0:decide ((k:Int)≤(n:Int))=false:=by rw [decide_eq_false_iff_not];omega
 have u0:decide (k≤n)=false:=by rw [decide_eq_false_iff_not];omega
 have t1:decide ((2048:Int)< (k:Int))=false:=by rw [decide_eq_false_iff_not];omega
 have u1:decide (2048<k)=false:=by rw [decide_eq_false_iff_not];omega
 clear h
 obtain⟨x1,hw,hx,Kx⟩:=boxQ1 w #[.bool m,.slice a k c] 36
 replace hw:=Lib.hid hw
 go_enter Tryz.func44,Tryz.ntmps44
 go_upto_region 1 with fail
 try simp only [Nat.add_assoc,Nat.reduceAdd,Nat.add_zero]
 rw [hw.out]
 clear hw
 have hs0:=hx.size
 obtain⟨cx0,cx1⟩:=bk2 Kx
 go_wp2_with fail
 go_ret
 exact⟨rfl,hx⟩
theorem fewBig_c (m:Bool) (a:Option Addr) (k c n:Nat) (w:World) (hm:k≤9223372036854775807) (h:¬k≤n∧2048<k∧k≤2052):Calls Tryz.prog 44 #[.agg #[.bool m,.slice a k c],.int .i64 n] w fun e w'=>e=.returned (.bool true)∧Ext w w':=by
 have t0:decide ((k:Int)≤(n:Int))=false:=by rw [decide_eq_false_iff_not];omega
 have u0:decide (k≤n)=false:=by rw [decide_eq_false_iff_not];omega
 have t1:decide ((2048:Int)< (k:Int))=true:=by rw [decide_eq_true_iff];omega
 have u1:decide (2048<k)=true:=by rw [decide_eq_true_iff];omega
 have t2:decide ((k:Int)≤2052)=true:=by rw [decide_eq_true_iff];omega
 have u2:decide (k≤2052)=true:=by rw [decide_eq_true_iff];omega
 clear h
 obtain⟨x1,hw,hx,Kx⟩:=boxQ1 w #[.bool m,.slice a k c] 36
 replace hw:=Lib.hid hw
 go_enter Tryz.func44,Tryz.ntmps44
 go_upto_region 1 with fail
 try simp only [Nat.add_assoc,Nat.reduceAdd,Nat.add_zero]
 rw [hw.out]
 clear hw
 have hs0:=hx.size
 obtain⟨cx0,cx1⟩:=bk2 Kx
 go_wp2_with fail
 go_ret
 exact⟨rfl,hx⟩
theorem fewBig_d (m:Bool) (a:Option Addr) (k c n:Nat) (w:World) (hm:k≤9223372036854775807) (h:¬k≤n∧2048<k∧¬k≤2052):Calls Tryz.prog 44 #[.agg #[.bool m,.slice a k c],.int .i64 n] w fun e w'=>e=.returned (.bool false)∧Ext w w':=by
 have t0:decide ((k:Int)≤(n:Int))=false:=by rw [decide_eq_false_iff_not];omega
 have u0:decide (k≤n)=false:=by rw [decide_eq_false_iff_not];omega
 have t1:decide ((2048:Int)< (k:Int))=true:=by rw [decide_eq_true_iff];omega
 have u1:decide (2048<k)=true:=by rw [decide_eq_true_iff];omega
 have t2:decide ((k:Int)≤2052)=false:=by rw [decide_eq_false_iff_not];omega
 have u2:decide (k≤2052)=false:=by rw [decide_eq_false_iff_not];omega
 clear h
 obtain⟨x1,hw,hx,Kx⟩:=boxQ1 w #[.bool m,.slice a k c] 36
 replace hw:=Lib.hid hw
 go_enter Tryz.func44,Tryz.ntmps44
 go_upto_region 1 with fail
 try simp only [Nat.add_assoc,Nat.reduceAdd,Nat.add_zero]
 rw [hw.out]
 clear hw
 have hs0:=hx.size
 obtain⟨cx0,cx1⟩:=bk2 Kx
 go_wp2_with fail
 go_ret
 exact⟨rfl,hx⟩
theorem fewBig_val (m:Bool) (a:Option Addr) (k c n:Nat) (w:World) (hm:k≤9223372036854775807):Calls Tryz.prog 44 #[.agg #[.bool m,.slice a k c],.int .i64 n] w fun e w'=>e=.returned (.bool (fewQ k n))∧Ext w w':=by
 unfold fewQ
 by_cases h1:k≤n
 ·rw [decide_eq_true h1];exact fewBig_a m a k c n w hm h1
 ·rw [decide_eq_false h1,Bool.false_or]
  by_cases h2:2048<k
  ·rw [decide_eq_true h2,Bool.true_and]
   by_cases h3:k≤2052
   ·rw [decide_eq_true h3];exact fewBig_c m a k c n w hm ⟨h1,h2,h3⟩
   ·rw [decide_eq_false h3];exact fewBig_d m a k c n w hm ⟨h1,h2,h3⟩
  ·rw [decide_eq_false h2,Bool.false_and];exact fewBig_b m a k c n w hm ⟨h1,h2⟩
theorem few_no (nx mx:Bool) (ax bx:Option Addr) (qx cx kx dx n:Nat) (w:World) (h1:qx≤9223372036854775807) (h2:kx≤9223372036854775807) (hc:fewQ qx n=false):Calls Tryz.prog 21 #[.agg #[.bool nx,.slice ax qx cx,.bool mx,.slice bx kx dx],.int .i64 n] w fun e w'=>e=.returned (.bool false)∧Ext w w':=by
 have H1:=Lib.hid (fun W=>fewBig_val nx ax qx cx n W h1)
 have H2:=Lib.hid (fun W=>fewBig_val mx bx kx dx n W h2)
 rw [hc] at H1
 clear h1 h2 hc
 generalize fewQ kx n=B at *
 obtain⟨x1,hw,hx,Kx⟩:=boxQ1 w #[.bool nx,.slice ax qx cx,.bool mx,.slice bx kx dx] 38
 replace hw:=Lib.hid hw
 go_enter Tryz.func21,Tryz.ntmps21
 go_upto_region 1 with fail
 try simp only [Nat.add_assoc,Nat.reduceAdd,Nat.add_zero]
 rw [hw.out]
 clear hw
 have hs0:=hx.size
 obtain⟨cx0,cx1,cx2,cx3⟩:=bk4 Kx
 go_wp2_with fail
 with_reducible refine(H1.out _).mono ?_
 clear cx0 cx1 cx2 cx3
 rintro e x2 ⟨rfl,hy⟩
 replace hx:=hx.trans hy
 replace Kx:=kE Kx hy
 clear hy
 go_wp2_with fail
 go_ret
 exact⟨rfl,hx⟩
theorem few_yes (nx mx:Bool) (ax bx:Option Addr) (qx cx kx dx n:Nat) (w:World) (h1:qx≤9223372036854775807) (h2:kx≤9223372036854775807) (hc:fewQ qx n=true):Calls Tryz.prog 21 #[.agg #[.bool nx,.slice ax qx cx,.bool mx,.slice bx kx dx],.int .i64 n] w fun e w'=>e=.returned (.bool (fewQ kx n))∧Ext w w':=by
 have H1:=Lib.hid (fun W=>fewBig_val nx ax qx cx n W h1)
 have H2:=Lib.hid (fun W=>fewBig_val mx bx kx dx n W h2)
 rw [hc] at H1
 clear h1 h2 hc
 generalize fewQ kx n=B at *
 obtain⟨x1,hw,hx,Kx⟩:=boxQ1 w #[.bool nx,.slice ax qx cx,.bool mx,.slice bx kx dx] 38
 replace hw:=Lib.hid hw
 go_enter Tryz.func21,Tryz.ntmps21
 go_upto_region 1 with fail
 try simp only [Nat.add_assoc,Nat.reduceAdd,Nat.add_zero]
 rw [hw.out]
 clear hw
 have hs0:=hx.size
 obtain⟨cx0,cx1,cx2,cx3⟩:=bk4 Kx
 go_wp2_with fail
 with_reducible refine(H1.out _).mono ?_
 clear cx0 cx1 cx2 cx3
 rintro e x2 ⟨rfl,hy⟩
 replace hx:=hx.trans hy
 replace Kx:=kE Kx hy
 clear hy
 obtain⟨cx0,cx1,cx2,cx3⟩:=bk4 Kx
 go_wp2_with fail
 with_reducible refine(H2.out _).mono ?_
 clear cx0 cx1 cx2 cx3
 rintro e x3 ⟨rfl,hy⟩
 replace hx:=hx.trans hy
 replace Kx:=kE Kx hy
 clear hy
 go_wp2_with fail
 go_ret
 exact⟨rfl,hx⟩
theorem few_val (nx mx:Bool) (ax bx:Option Addr) (qx cx kx dx n:Nat) (w:World) (h1:qx≤9223372036854775807) (h2:kx≤9223372036854775807):Calls Tryz.prog 21 #[.agg #[.bool nx,.slice ax qx cx,.bool mx,.slice bx kx dx],.int .i64 n] w fun e w'=>e=.returned (.bool (fewQ qx n && fewQ kx n))∧Ext w w':=by
 cases hc:fewQ qx n
 ·exact few_no nx mx ax bx qx cx kx dx n w h1 h2 hc
 ·exact few_yes nx mx ax bx qx cx kx dx n w h1 h2 hc
end Go.Proofs.YtolffmmkjnhkkaaGreat
