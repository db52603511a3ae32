import Derived.Test.YtokffagbdfhnnaaGreatU9
import Derived.OwnWalk
import Derived.Deep.QuietTactic
import Derived.Deep.Cut
namespace Go.Proofs.YtokffagbdfhnnaaGreat
open Go.RowKit Go BigFrame Go.Shelf
set_option maxRecDepth 100000
set_option linter.unusedSimpArgs false
set_option linter.unusedVariables false
attribute [local go_sem] Oper.semAt_some
set_option maxHeartbeats 4000000 in
theorem ref_small (n m:Bool) (a b:Option Addr) (q c k d:Nat) (z y:Int) (w:World) (h:BigV w (.agg #[.bool n,.slice a q c]) z) (h2:BigV w (.agg #[.bool m,.slice b k d]) y) (hz:Len z) (hy0:Len y) (yp:0≤y):
 Calls Tryz.prog 81 #[.agg #[.bool n,.slice a q c,.bool m,.slice b k d]] w fun e w'=>e=.returned (.bool (decide ((z.natAbs:Int)<1152921504606846976) && decide ((y.natAbs:Int)<1073741824)))∧Ext w w':=by
 have HV:=Lib.hid h.absU
 have HU:=Lib.hid h2
 have HZ:=Lib.hid (show Len (z.natAbs:Int) from hz)
 have HY:=Lib.hid hy0
 have HT:Hid (Len (1152921504606846976:Int)):=Lib.hid (len_lt (n:=3) (by rw [show(1073741824:Nat) ^ 3=1237940039285380274899124224 from by decide];omega) (by omega))
 have HT2:Hid (Len (1073741824:Int)):=Lib.hid (len_lt (n:=3) (by rw [show(1073741824:Nat) ^ 3=1237940039285380274899124224 from by decide];omega) (by omega))
 have hab:(y.natAbs:Int)=y:=by omega
 have hcmp:∀z t:Int,(cmpI z t<0)↔(z<t):=fun z t=>by
  by_cases h1:z<t
  ·rw [cmpI_lt h1];simp [h1]
  ·unfold cmpI;rw [if_neg h1];split <;> simp [h1]
 have HC:=Lib.hid hcmp
 have HAB:=Lib.hid hab
 clear h h2 hz hcmp hy0 hab
 obtain⟨x1,hw,hx,Kx⟩:=boxQ1 w #[.bool n,.slice a q c,.bool m,.slice b k d] 44
 replace hw:=Lib.hid hw
 replace HV:=Lib.hid (HV.out.ext hx)
 replace HU:=Lib.hid (HU.out.ext hx)
 go_enter Tryz.func81,Tryz.ntmps81
 go_upto_region 1 with fail
 try simp only [Nat.add_assoc,Nat.reduceAdd,Nat.add_zero]
 rw [hw.out]
 clear hw
 have hs0:=hx.size
 obtain⟨cx0,cx1,cx2,cx3⟩:=bk4 Kx
 go_upto_region 2 with fail
 have hl:=Ext.alloc x1 (.cells #[.bool n,.slice a q c] 42)
 have lxb:w.heap.size<x1.heap.size:=Kx.out.lt
 have hpb:w.heap.size≤x1.heap.size:=hx.size
 clear cx0 cx1 cx2 cx3
 replace hx:=hx.trans hl
 replace Kx:=kE Kx hl
 replace HV:=Lib.hid (HV.out.ext hl)
 replace HU:=Lib.hid (HU.out.ext hl)
 have Kb:=Lib.hid (Blk.new0 x1 #[.bool n,.slice a q c] 42)
 clear hl
 generalize x1.alloc (.cells #[.bool n,.slice a q c] 42)=x2 at *
 generalize x1.heap.size=pb at *
 obtain⟨cb0,cb1⟩:=bk2 Kb
 obtain⟨cx0,cx1,cx2,cx3⟩:=bk4 Kx
 have g0:=(Kb.out).cell (i:=0) (v:=.bool n) rfl
 have z0:=(Kb.out).free 0
 go_upto_region 3 with fail
 clear g0 z0
 clear cb0 cb1 cx0 cx1 cx2 cx3
 replace HV:=Lib.hid (HV.out.put Kb.out (noInt_of rfl) 0 (.bool false))
 replace HU:=Lib.hid (HU.out.put Kb.out (noInt_of rfl) 0 (.bool false))
 replace hx:=hx.set (p:=⟨pb,0,none⟩) (by dsimp only;omega) (.bool false)
 replace Kx:=Lib.hid (Kx.out.other (p:=⟨pb,0,none⟩) (by dsimp only;omega) (.bool false))
 replace Kb:=Lib.hid (Kb.out.set 0 (.bool false))
 replace Kb:=Lib.hid (show Blk _ _ #[.bool false,.slice a q c] 42 from Kb.out)
 generalize (x2).setCell ⟨pb,0,none⟩ (.bool false)=x3 at *
 go_cut [4] (fun s wx=>s=.int .i64 (cmpI (z.natAbs:Int) 1152921504606846976)∧Ext w wx∧Blk wx w.heap.size #[.bool n,.slice a q c,.bool m,.slice b k d] 44∧BigV wx (.agg #[.bool m,.slice b k d]) y)
 case first=>
  have s0:World.cell? x3 ⟨pb,0,none⟩=some (.bool false):=Kb.out.cell (i:=0) (v:=.bool false) rfl
  have s1:World.cell? x3 ⟨pb,1,none⟩=some (.slice a q c):=Kb.out.cell (i:=1) (v:=.slice a q c) rfl
  have hE:Ext x3 (World.drew x3):=(Ext.refl _).drew
  have hyd:Ext x3 (World.drew x3):=(Ext.refl _).drew
  replace hx:=hx.trans hyd
  replace Kx:=kE Kx hyd
  replace Kb:=kE Kb hyd
  replace HV:=Lib.hid (HV.out.ext hyd)
  replace HU:=Lib.hid (HU.out.ext hyd)
  clear hyd
  replace s0:World.cell? (World.drew x3) ⟨pb,0,none⟩=some (.bool false):=s0
  replace s1:World.cell? (World.drew x3) ⟨pb,1,none⟩=some (.slice a q c):=s1
  refine wp_region_held_drew (S:=(fun w'=>World.cell? w' ⟨pb,0,none⟩=some (.bool false)∧World.cell? w' ⟨pb,1,none⟩=some (.slice a q c))) (by kernel_rfl) ?_ (fun hHeld=>?_)
  ·exact⟨s0,s1⟩
  (try simp only [pur,Nat.reduceAdd])
  generalize World.drew x3=x4 at *
  refine tk (v:=?_) 0 rfl (by kernel_rfl) (fun _ _ _ h=>h) (by rfl) ?_ (by assumption) ?_
  rotate_left
  ·(intro w hSw;(try dsimp only at hSw);(try go_simp);(try with_reducible rfl))
  (try simp only [Act.put,pus])
  refine wpAnyH_ready (rs:=[1]) (by kernel_rfl) (by simp) ?_
  refine AllReadyH.cons (o:=_) rfl (fun K hK=>?_) ?_
  ·go_simp
   (with_reducible refine(ref_Make 1152921504606846976 _ (by omega)).mono ?_);rintro e x5 ⟨v1,rfl,hv,hy⟩;replace hE:=hE.trans hy;replace hx:=hx.trans hy;replace s0:=cell_exQ hy s0;replace s1:=cell_exQ hy s1;replace Kx:=kE Kx hy;replace Kb:=kE Kb hy;replace HV:=Lib.hid (HV.out.ext hy);replace HU:=Lib.hid (HU.out.ext hy);clear hy;obtain⟨nt,at1,qt,ct,rfl,hv',-⟩:=hv.two;have Vt:=Lib.hid hv';clear hv'
   refine hK.out _ _ ?_ (fun hHeld2=>?_)
   ·exact⟨s0,s1⟩
   clear hK K hHeld
   have hHeld:=hHeld2
   clear hHeld2
   (try simp only [Act.put,pus])
   refine wpAnyH_ready (rs:=[2]) (by kernel_rfl) (by simp) ?_
   refine AllReadyH.cons (o:=_) rfl (fun K hK=>?_) ?_
   ·go_simp
    (with_reducible refine(rcmp_val HV.out Vt.out HZ.out HT.out).mono ?_);rintro e x6 ⟨rfl,hy⟩;replace hE:=hE.trans hy;replace hx:=hx.trans hy;replace s0:=cell_exQ hy s0;replace s1:=cell_exQ hy s1;replace Kx:=kE Kx hy;replace Kb:=kE Kb hy;replace HV:=Lib.hid (HV.out.ext hy);replace HU:=Lib.hid (HU.out.ext hy);replace Vt:=Lib.hid (Vt.out.ext hy);clear hy
    refine hK.out _ _ ?_ (fun hHeld2=>?_)
    ·exact⟨s0,s1⟩
    clear hK K hHeld
    have hHeld:=hHeld2
    clear hHeld2
    (try simp only [Act.put,pus])
    refine tk (v:=?_) 3 rfl (by kernel_rfl) (fun _ _ _ h=>h) (by rfl) ?_ (by assumption) ?_
    rotate_left
    ·(intro w hSw;(try dsimp only at hSw);(try go_simp);(try with_reducible rfl))
    (try simp only [Act.put,pus])
    refine tk (v:=?_) 4 rfl (by kernel_rfl) (fun _ _ _ h=>h) (by rfl) ?_ (by assumption) ?_
    rotate_left
    ·(intro w hSw;(try dsimp only at hSw);(try go_simp);(try with_reducible rfl))
    (try simp only [Act.put,pus])
    refine tk (v:=?_) 5 rfl (by kernel_rfl) (fun _ _ _ h=>h) (by rfl) ?_ (by assumption) ?_
    rotate_left
    ·(intro w hSw;(try dsimp only at hSw);(try go_simp);(try with_reducible rfl))
    (try simp only [Act.put,pus])
    refine tk (v:=?_) 6 rfl (by kernel_rfl) (fun _ _ _ h=>h) (by rfl) ?_ (by assumption) ?_
    rotate_left
    ·(intro w hSw;(try dsimp only at hSw);(try go_simp);(try with_reducible rfl))
    (try simp only [Act.put,pus])
    refine tk (v:=?_) 7 rfl (by kernel_rfl) (fun _ _ _ h=>h) (by rfl) ?_ (by assumption) ?_
    rotate_left
    ·(intro w hSw;(try dsimp only at hSw);(try go_simp);(try with_reducible rfl))
    (try simp only [Act.put,pus])
    refine wpAnyH_done (by kernel_rfl) ?_ _
    go_wp2_with fail;go_meet;exact⟨rfl,hx,Kx.out,HU.out⟩
   exact AllReadyH.nil
  exact AllReadyH.nil
 case rest=>
  obtain⟨rfl,hx,hkx,hu⟩:=hcut
  have Kx:=Lib.hid hkx
  replace HU:=Lib.hid hu
  clear hkx hu Kb HV
  go_upto_region 4 with fail
  go_cut [6] (fun s wx=>s=.int .i64 (cmpI y 1073741824)∧Ext w wx)
  case first=>
   have s0:World.cell? wc ⟨w.heap.size,0,none⟩=some (.bool n):=Kx.out.cell (i:=0) (v:=.bool n) rfl
   have s1:World.cell? wc ⟨w.heap.size,1,none⟩=some (.slice a q c):=Kx.out.cell (i:=1) (v:=.slice a q c) rfl
   have s2:World.cell? wc ⟨w.heap.size,2,none⟩=some (.bool m):=Kx.out.cell (i:=2) (v:=.bool m) rfl
   have s3:World.cell? wc ⟨w.heap.size,3,none⟩=some (.slice b k d):=Kx.out.cell (i:=3) (v:=.slice b k d) rfl
   have hE:Ext wc (World.drew wc):=(Ext.refl _).drew
   have hyd:Ext wc (World.drew wc):=(Ext.refl _).drew
   replace hx:=hx.trans hyd
   replace Kx:=kE Kx hyd
   replace HU:=Lib.hid (HU.out.ext hyd)
   clear hyd
   replace s0:World.cell? (World.drew wc) ⟨w.heap.size,0,none⟩=some (.bool n):=s0
   replace s1:World.cell? (World.drew wc) ⟨w.heap.size,1,none⟩=some (.slice a q c):=s1
   replace s2:World.cell? (World.drew wc) ⟨w.heap.size,2,none⟩=some (.bool m):=s2
   replace s3:World.cell? (World.drew wc) ⟨w.heap.size,3,none⟩=some (.slice b k d):=s3
   refine wp_region_held_drew (S:=(fun w'=>World.cell? w' ⟨w.heap.size,0,none⟩=some (.bool n)∧World.cell? w' ⟨w.heap.size,1,none⟩=some (.slice a q c)∧World.cell? w' ⟨w.heap.size,2,none⟩=some (.bool m)∧World.cell? w' ⟨w.heap.size,3,none⟩=some (.slice b k d))) (by kernel_rfl) ?_ (fun hHeld=>?_)
   ·exact⟨s0,s1,s2,s3⟩
   (try simp only [pur,Nat.reduceAdd])
   generalize World.drew wc=x4 at *
   refine tk (v:=?_) 0 rfl (by kernel_rfl) (fun _ _ _ h=>h) (by rfl) ?_ (by assumption) ?_
   rotate_left
   ·(intro w hSw;(try dsimp only at hSw);(try go_simp);(try with_reducible rfl))
   (try simp only [Act.put,pus])
   refine tk (v:=?_) 1 rfl (by kernel_rfl) (fun _ _ _ h=>h) (by rfl) ?_ (by assumption) ?_
   rotate_left
   ·(intro w hSw;(try dsimp only at hSw);(try go_simp);(try with_reducible rfl))
   (try simp only [Act.put,pus])
   refine wpAnyH_ready (rs:=[2]) (by kernel_rfl) (by simp) ?_
   refine AllReadyH.cons (o:=_) rfl (fun K hK=>?_) ?_
   ·go_simp
    (with_reducible refine(ref_Make 1073741824 _ (by omega)).mono ?_);rintro e x5 ⟨v1,rfl,hv,hy⟩;replace hE:=hE.trans hy;replace hx:=hx.trans hy;replace s0:=cell_exQ hy s0;replace s1:=cell_exQ hy s1;replace s2:=cell_exQ hy s2;replace s3:=cell_exQ hy s3;replace Kx:=kE Kx hy;replace HU:=Lib.hid (HU.out.ext hy);clear hy;obtain⟨nt,at1,qt,ct,rfl,hv',-⟩:=hv.two;have Vt:=Lib.hid hv';clear hv'
    refine hK.out _ _ ?_ (fun hHeld2=>?_)
    ·exact⟨s0,s1,s2,s3⟩
    clear hK K hHeld
    have hHeld:=hHeld2
    clear hHeld2
    (try simp only [Act.put,pus])
    refine wpAnyH_ready (rs:=[3]) (by kernel_rfl) (by simp) ?_
    refine AllReadyH.cons (o:=_) rfl (fun K hK=>?_) ?_
    ·go_simp
     (with_reducible refine(rcmp_val HU.out Vt.out HY.out HT2.out).mono ?_);rintro e x6 ⟨rfl,hy⟩;replace hE:=hE.trans hy;replace hx:=hx.trans hy;replace s0:=cell_exQ hy s0;replace s1:=cell_exQ hy s1;replace s2:=cell_exQ hy s2;replace s3:=cell_exQ hy s3;replace Kx:=kE Kx hy;replace HU:=Lib.hid (HU.out.ext hy);replace Vt:=Lib.hid (Vt.out.ext hy);clear hy
     refine hK.out _ _ ?_ (fun hHeld2=>?_)
     ·exact⟨s0,s1,s2,s3⟩
     clear hK K hHeld
     have hHeld:=hHeld2
     clear hHeld2
     (try simp only [Act.put,pus])
     refine tk (v:=?_) 4 rfl (by kernel_rfl) (fun _ _ _ h=>h) (by rfl) ?_ (by assumption) ?_
     rotate_left
     ·(intro w hSw;(try dsimp only at hSw);(try go_simp);(try with_reducible rfl))
     (try simp only [Act.put,pus])
     refine tk (v:=?_) 5 rfl (by kernel_rfl) (fun _ _ _ h=>h) (by rfl) ?_ (by assumption) ?_
     rotate_left
     ·(intro w hSw;(try dsimp only at hSw);(try go_simp);(try with_reducible rfl))
     (try simp only [Act.put,pus])
     refine tk (v:=?_) 6 rfl (by kernel_rfl) (fun _ _ _ h=>h) (by rfl) ?_ (by assumption) ?_
     rotate_left
     ·(intro w hSw;(try dsimp only at hSw);(try go_simp);(try with_reducible rfl))
     (try simp only [Act.put,pus])
     refine tk (v:=?_) 7 rfl (by kernel_rfl) (fun _ _ _ h=>h) (by rfl) ?_ (by assumption) ?_
     rotate_left
     ·(intro w hSw;(try dsimp only at hSw);(try go_simp);(try with_reducible rfl))
     (try simp only [Act.put,pus])
     refine tk (v:=?_) 8 rfl (by kernel_rfl) (fun _ _ _ h=>h) (by rfl) ?_ (by assumption) ?_
     rotate_left
     ·(intro w hSw;(try dsimp only at hSw);(try go_simp);(try with_reducible rfl))
     (try simp only [Act.put,pus])
     refine wpAnyH_done (by kernel_rfl) ?_ _
     go_wp2_with fail;go_meet;exact⟨rfl,hx⟩
    exact AllReadyH.nil
   exact AllReadyH.nil
  case rest=>
   obtain⟨rfl,hy⟩:=hcut
   have HX:=Lib.hid hy
   clear hy hx Kx HU
   by_cases h1:(z.natAbs:Int)<1152921504606846976
   ·have g1:cmpI (z.natAbs:Int) 1152921504606846976<0:=(HC.out _ _).2 h1
    by_cases h2:y<1073741824
    ·have g2:cmpI y 1073741824<0:=(HC.out _ _).2 h2
     have HE:Hid ((decide ((z.natAbs:Int)<1152921504606846976) && decide ((y.natAbs:Int)<1073741824))=true):=Lib.hid (by rw [decide_eq_true h1,decide_eq_true (show(y.natAbs:Int)<1073741824 by rw [HAB.out];exact h2)];rfl)
     clear h1 h2
     generalize cmpI (z.natAbs:Int) 1152921504606846976=v1 at *
     generalize cmpI y 1073741824=v2 at *
     go_wp2_with fail
     go_ret
     exact⟨by rw [HE.out];rfl,HX.out⟩
    ·have g2:¬cmpI y 1073741824<0:=fun h=>h2 ((HC.out _ _).1 h)
     have HE:Hid ((decide ((z.natAbs:Int)<1152921504606846976) && decide ((y.natAbs:Int)<1073741824))=false):=Lib.hid (by rw [decide_eq_false (show ¬ (y.natAbs:Int)<1073741824 by rw [HAB.out];exact h2),Bool.and_false])
     clear h1 h2
     generalize cmpI (z.natAbs:Int) 1152921504606846976=v1 at *
     generalize cmpI y 1073741824=v2 at *
     go_wp2_with fail
     go_ret
     exact⟨by rw [HE.out];rfl,HX.out⟩
   ·have g1:¬cmpI (z.natAbs:Int) 1152921504606846976<0:=fun h=>h1 ((HC.out _ _).1 h)
    have HE:Hid ((decide ((z.natAbs:Int)<1152921504606846976) && decide ((y.natAbs:Int)<1073741824))=false):=Lib.hid (by rw [decide_eq_false h1,Bool.false_and])
    clear h1
    generalize cmpI (z.natAbs:Int) 1152921504606846976=v1 at *
    generalize cmpI y 1073741824=v2 at *
    go_wp2_with fail
    go_ret
    exact⟨by rw [HE.out];rfl,HX.out⟩
set_option maxHeartbeats 4000000 in
theorem ref_element (n:Bool) (ad:Option Addr) (c:Nat) (l:List Int) (n2:Bool) (b':Option Addr) (d:Nat) (m:List Int) (w:World) (hI:Ints w ad c l) (hJ:Ints w b' d m):
 Calls Tryz.prog 58 #[.agg #[.bool n,.slice ad l.length c,.bool n2,.slice b' m.length d]] w fun e w'=>e=.returned (.int .i64 (errX ⟨n,ad,c,l,n2,b',d,m⟩))∧Ext w w':=by
 have hy:=Ext.alloc w (.cells #[.bool n,.slice ad l.length c,.bool n2,.slice b' m.length d] 44)
 have Kb:=Lib.hid (Blk.new0 w #[.bool n,.slice ad l.length c,.bool n2,.slice b' m.length d] 44)
 have HI:=Lib.hid (hI.ext hy)
 have HJ:=Lib.hid (hJ.ext hy)
 have HX:=Lib.hid hy
 clear hy hI hJ
 go_enter Tryz.func58,Tryz.ntmps58
 go_upto_region 1 with fail
 generalize w.alloc (.cells #[.bool n,.slice ad l.length c,.bool n2,.slice b' m.length d] 44)=x1 at *
 generalize hpb:w.heap.size=pb at *
 clear hpb
 obtain⟨k0,k1,k2,k3⟩:=bk4 Kb
 go_wp2_with fail
 refine(refR_Check n n2 ad b' c d l m _ HI.out HJ.out).mono ?_
 rintro e x2 ⟨rfl,hy⟩
 replace HX:=Lib.hid (HX.out.trans hy)
 replace HI:=Lib.hid (HI.out.ext hy)
 replace HJ:=Lib.hid (HJ.out.ext hy)
 replace Kb:=kE Kb hy
 clear k0 k1 k2 k3 hy
 cases hok:okR n l n2 m
 ·have hex:errX ⟨n,ad,c,l,n2,b',d,m⟩=100:=if_neg (by rw [show RatA.ok ⟨n,ad,c,l,n2,b',d,m⟩=false from hok];decide)
  have HE:=Lib.hid hex
  rw [show errR false=100 from rfl]
  clear hex hok
  go_wp2_with fail
  go_ret
  exact⟨by rw [HE.out];rfl,HX.out⟩
 ·rw [show errR true=0 from rfl]
  obtain⟨r,g1,g2,g3,g4,g5,g6⟩:=okR_rat hok
  have e1:sgn n (dval l)=r.num:=by have:=g1.2.2;unfold sgn;rw [this]
  have e2:sgn n2 (dval m)= (r.den:Int):=by have:=g2.2.2;unfold sgn;rw [this]
  have hex:errX ⟨n,ad,c,l,n2,b',d,m⟩=if smX ⟨n,ad,c,l,n2,b',d,m⟩ then 0 else 2:=if_pos hok
  have V1:=Lib.hid (show BigV x2 (.agg #[.bool n,.slice ad l.length c]) r.num from⟨n,l,⟨ad,c,rfl,HI.out⟩,g1⟩)
  have V2:=Lib.hid (show BigV x2 (.agg #[.bool n2,.slice b' m.length d]) (r.den:Int) from⟨n2,m,⟨b',d,rfl,HJ.out⟩,g2⟩)
  have L1:=Lib.hid (len_lt g3 g5)
  have L2:=Lib.hid (show Len (r.den:Int) from len_lt (by rw [Int.natAbs_natCast];exact g4) g6)
  have HSM:Hid (smX ⟨n,ad,c,l,n2,b',d,m⟩= (decide ((r.num.natAbs:Int)<1152921504606846976) && decide ((((r.den:Int)).natAbs:Int)<1073741824))):=Lib.hid (by unfold smX;dsimp only;rw [e1,e2])
  rw [HSM.out] at hex
  have HE:=Lib.hid hex
  clear g1 g2 g3 g4 g5 g6 e1 e2 hex hok HSM
  obtain⟨k0,k1,k2,k3⟩:=bk4 Kb
  go_wp2_with fail
  refine(ref_small n n2 ad b' l.length c m.length d r.num (r.den:Int) _ V1.out V2.out L1.out L2.out (by omega)).mono ?_
  rintro e x3 ⟨rfl,hy⟩
  replace HX:=Lib.hid (HX.out.trans hy)
  clear k0 k1 k2 k3 hy V1 V2
  generalize (decide ((r.num.natAbs:Int)<1152921504606846976) && decide ((((r.den:Int)).natAbs:Int)<1073741824))=B at *
  cases B
  ·go_wp2_with fail
   go_ret
   exact⟨by rw [HE.out];rfl,HX.out⟩
  ·go_wp2_with fail
   go_ret
   exact⟨by rw [HE.out];rfl,HX.out⟩
set_option maxHeartbeats 4000000 in
theorem ref_elements (a:Option Addr) (cap:Nat) (L:List RatA) (w:World) (h:RatsI w a cap L) (hL:L.length≤1000):
 Calls Tryz.prog 35 #[.slice a L.length cap] w fun e w'=>e=.returned (.int .i64 (elsE L))∧Ext w w':=by
 have hle:=h.le
 have hmx:=h.mx
 have HH:=Lib.hid h
 clear h
 go_enter Tryz.func35,Tryz.ntmps35
 go_wp2_with fail
 go_loopw [3] (fun v wr=>∃q:Nat,q≤L.length∧v=.int .i64 q∧elsE L=elsE (L.drop q)∧Ext w wr) (fun v _=>L.length - (intOf v).toNat)
 case atStart=>exact⟨0,Nat.zero_le _,rfl,rfl,Ext.refl _⟩
 case round=>
  obtain⟨q,hq,rfl,hel,hxr⟩:=hrel
  have q0:(0:Int)≤(q:Int):=by omega
  by_cases hqL:q<L.length
  ·have q1:(q:Int)< (L.length:Int):=by omega
   have hw1:IntKind.i64.wrap ((q:Int)+1)= (q:Int)+1:=IntWalk.i64_in _ (by omega)
   obtain⟨b,o,rfl⟩:=HH.out.head hqL
   obtain⟨n,ad,c,l,n2,b',d,m,hLq,c0,c1,c2,c3,hI,hJ⟩:=(HH.out.ext hxr).get hqL
   have HEL:=Lib.hid (hel.trans (elsE_drop hLq))
   have HI:=Lib.hid hI
   have HJ:=Lib.hid hJ
   have HX:=Lib.hid hxr
   clear hel hxr hI hJ hLq
   go_wp2_with fail
   refine(ref_element n ad c l n2 b' d m _ HI.out HJ.out).mono ?_
   rintro e x2 ⟨rfl,hy⟩
   replace HX:=Lib.hid (HX.out.trans hy)
   clear hy HI HJ c0 c1 c2 c3
   generalize hE:errX ⟨n,ad,c,l,n2,b',d,m⟩=E at *
   clear hE
   by_cases hz:E=0
   ·subst hz
    have HE2:Hid (elsE L=elsE (L.drop (q+1))):=Lib.hid (by rw [HEL.out];rfl)
    clear HEL
    go_wp2_with fail
    go_roundw
    case rel=>exact⟨q+1,by omega,by go_num,HE2.out,HX.out⟩
    case measure=>simp [intOf];omega
   ·have HE2:Hid (elsE L=E):=Lib.hid (by rw [HEL.out,if_neg hz])
    have g1:(E != 0)=true:=by simp [hz]
    clear HEL
    go_wp2_with fail
    go_ret
    exact⟨(congrArg (fun z=>Ending.returned (Value.int .i64 z)) HE2.out).symm,HX.out⟩
  ·have q1:¬ (q:Int)< (L.length:Int):=by omega
   have HE2:Hid (elsE L=0):=Lib.hid (by rw [hel,List.drop_eq_nil_of_le (by omega)];rfl)
   have HX:=Lib.hid hxr
   clear hel hxr
   go_wp2_with fail
   go_ret
   exact⟨(congrArg (fun z=>Ending.returned (Value.int .i64 z)) HE2.out).symm,HX.out⟩
set_option maxHeartbeats 4000000 in
theorem ref_Check11 (a:Option Addr) (cap:Nat) (A:List (List RatA)) (w:World) (h:RRows w a cap A):
 Calls Tryz.prog 14 #[.slice a A.length cap] w fun e w'=>e=.returned (.int .i64 (chkE A))∧Ext w w':=by
 have hle:=h.le
 have hmx:=h.mx
 have HH:=Lib.hid h
 clear h
 go_enter Tryz.func14,Tryz.ntmps14
 by_cases h17:17<A.length
 ·have g1:(A.length:Int) > 17:=by omega
  have HE2:Hid (chkE A=2):=Lib.hid (if_pos h17)
  go_wp2_with fail
  go_ret
  exact⟨(congrArg (fun z=>Ending.returned (Value.int .i64 z)) HE2.out).symm,Ext.refl _⟩
 have g1:¬ (A.length:Int) > 17:=by omega
 go_wp2_with fail
 go_loopw [3] (fun v wr=>∃q:Nat,q≤A.length∧v=.int .i64 q∧(∀ (i:Nat) L,i<q→A[i]? =some L→L.length≤17)∧w=wr) (fun v _=>A.length - (intOf v).toNat)
 case atStart=>exact⟨0,Nat.zero_le _,rfl,fun i L hi=>by omega,rfl⟩
 case round=>
  obtain⟨q,hq,rfl,hal,rfl⟩:=hrel
  have q0:(0:Int)≤(q:Int):=by omega
  by_cases hqA:q<A.length
  ·have q1:(q:Int)< (A.length:Int):=by omega
   have hw1:IntKind.i64.wrap ((q:Int)+1)= (q:Int)+1:=IntWalk.i64_in _ (by omega)
   obtain⟨b,o,rfl⟩:=HH.out.head hqA
   obtain⟨L,ar,cr,hLq,c0,hR⟩:=HH.out.get hqA
   have HLQ:=Lib.hid hLq
   have HAL:=Lib.hid hal
   clear hLq hal hR
   by_cases hl:17<L.length
   ·have g2:(L.length:Int) > 17:=by omega
    have HE2:Hid (chkE A=2):=Lib.hid (chkE_2 (List.mem_of_getElem? HLQ.out) hl)
    go_wp2_with fail
    go_ret
    exact⟨(congrArg (fun z=>Ending.returned (Value.int .i64 z)) HE2.out).symm,Ext.refl _⟩
   ·have g2:¬ (L.length:Int) > 17:=by omega
    go_wp2_with fail
    go_roundw
    case rel=>exact⟨q+1,by omega,by go_num,fun i L' hi hL'=>(by
     by_cases e:i=q
     ·subst e;rw [HLQ.out] at hL';cases hL';omega
     ·exact HAL.out i L' (by omega) hL'),trivial⟩
    case measure=>simp [intOf];omega
  ·have q1:¬ (q:Int)< (A.length:Int):=by omega
   have HA1:Hid (∀L∈A,L.length≤17):=Lib.hid fun L hL=>by
    obtain⟨i,hi,rfl⟩:=List.getElem_of_mem hL
    exact hal i _ (by omega) (List.getElem?_eq_getElem hi)
   clear hal
   go_wp2_with fail
   go_loopw [4] (fun v wr=>∃q:Nat,q≤A.length∧v=.int .i64 q∧(∀ (i:Nat) L,i<q→A[i]? =some L→L.length= (A.getD 0 []).length)∧Ext w wr) (fun v _=>A.length - (intOf v).toNat)
   case atStart=>exact⟨0,Nat.zero_le _,rfl,fun i L hi=>by omega,Ext.refl _⟩
   case round=>
    obtain⟨q,hq,rfl,hal,hxr⟩:=hrel
    have q0:(0:Int)≤(q:Int):=by omega
    by_cases hqA:q<A.length
    ·have q1:(q:Int)< (A.length:Int):=by omega
     have z1:(0:Int)< (A.length:Int):=by omega
     have hw1:IntKind.i64.wrap ((q:Int)+1)= (q:Int)+1:=IntWalk.i64_in _ (by omega)
     obtain⟨b,o,rfl⟩:=HH.out.head hqA
     obtain⟨L,ar,cr,hLq,c0,hR⟩:=(RRows.ext hxr HH.out).get hqA
     obtain⟨L0,ar0,cr0,hL0,c00,hR0⟩:=(RRows.ext hxr HH.out).get (show 0<A.length by omega)
     simp only [Nat.add_zero] at c00
     have hg0:A.getD 0 []=L0:=by rw [List.getD_eq_getElem?_getD,hL0];rfl
     have HG0:=Lib.hid hg0
     have HLQ:=Lib.hid hLq
     have HAL:=Lib.hid hal
     clear hLq hal hR hL0 hR0 hg0
     by_cases hl:L.length=L0.length
     ·have g2:((L.length:Int) != (L0.length:Int))=false:=by simp [hl]
      have HL:=Lib.hid hl
      clear hl
      go_wp2_with fail
      go_quiet (fail)
      go_wp2_with fail
      go_roundw
      case rel=>exact⟨q+1,by omega,by go_num,fun i L' hi hL'=>(by
       by_cases e:i=q
       ·subst e;rw [HLQ.out] at hL';cases hL';rw [HG0.out];exact HL.out
       ·exact HAL.out i L' (by omega) hL'),hxr.drewN _⟩
      case measure=>simp [intOf];omega
     ·have g2:((L.length:Int) != (L0.length:Int))=true:=by simp;omega
      have HE2:Hid (chkE A=110):=Lib.hid (chkE_110 (by omega) HA1.out (List.mem_of_getElem? HLQ.out) (by rw [HG0.out];exact hl))
      clear hl
      go_wp2_with fail
      go_quiet (fail)
      go_wp2_with fail
      go_ret
      exact⟨(congrArg (fun z=>Ending.returned (Value.int .i64 z)) HE2.out).symm,hxr.drewN _⟩
    ·have q1:¬ (q:Int)< (A.length:Int):=by omega
     have HA2:Hid (∀L∈A,L.length= (A.getD 0 []).length):=Lib.hid fun L hL=>by
      obtain⟨i,hi,rfl⟩:=List.getElem_of_mem hL
      exact hal i _ (by omega) (List.getElem?_eq_getElem hi)
     have HC:=Lib.hid (chkE_rows (by omega) HA1.out HA2.out)
     clear hal
     go_wp2_with fail
     go_loopw [5] (fun v wr=>∃q:Nat,q≤A.length∧v=.int .i64 q∧rowsE A=rowsE (A.drop q)∧Ext w wr) (fun v _=>A.length - (intOf v).toNat)
     case atStart=>exact⟨0,Nat.zero_le _,rfl,rfl,hxr⟩
     case round=>
      obtain⟨q,hq,rfl,hel,hxr⟩:=hrel
      have q0:(0:Int)≤(q:Int):=by omega
      by_cases hqA:q<A.length
      ·have q1:(q:Int)< (A.length:Int):=by omega
       have hw1:IntKind.i64.wrap ((q:Int)+1)= (q:Int)+1:=IntWalk.i64_in _ (by omega)
       obtain⟨b,o,rfl⟩:=HH.out.head hqA
       obtain⟨L,ar,cr,hLq,c0,hR⟩:=(RRows.ext hxr HH.out).get hqA
       have hL17:=HA1.out L (List.mem_of_getElem? hLq)
       have HEL:=Lib.hid (hel.trans (rowsE_drop hLq))
       have HR:=Lib.hid hR
       have HX:=Lib.hid hxr
       clear hLq hR hel hxr
       go_wp2_with fail
       refine(ref_elements ar cr L _ HR.out (by omega)).mono ?_
       rintro e x2 ⟨rfl,hy⟩
       replace HX:=Lib.hid (HX.out.trans hy)
       clear hy c0 HR
       by_cases hz:elsE L=0
       ·have HE2:Hid (rowsE A=rowsE (A.drop (q+1))):=Lib.hid (by rw [HEL.out,if_pos hz])
        rw [hz]
        clear hz HEL
        go_wp2_with fail
        go_roundw
        case rel=>exact⟨q+1,by omega,by go_num,HE2.out,HX.out⟩
        case measure=>simp [intOf];omega
       ·have g3:(elsE L != 0)=true:=by simp [hz]
        have HE2:Hid (chkE A=elsE L):=Lib.hid (by rw [HC.out,HEL.out,if_neg hz])
        clear HEL
        go_wp2_with fail
        go_ret
        exact⟨(congrArg (fun z=>Ending.returned (Value.int .i64 z)) HE2.out).symm,HX.out⟩
      ·have q1:¬ (q:Int)< (A.length:Int):=by omega
       have HE2:Hid (chkE A=0):=Lib.hid (by rw [HC.out,hel,List.drop_eq_nil_of_le (by omega)];rfl)
       have HX:=Lib.hid hxr
       clear hel hxr
       go_wp2_with fail
       go_ret
       exact⟨(congrArg (fun z=>Ending.returned (Value.int .i64 z)) HE2.out).symm,HX.out⟩
end Go.Proofs.YtokffagbdfhnnaaGreat
