import Derived.Test.YtolffmmkjnhkkaaGreatMX
import Derived.OwnWalk
import Derived.Below
import Derived.Deep.QuietTactic
import Derived.Deep.Cut
namespace Go.Proofs.YtolffmmkjnhkkaaGreat
open Go.RowKit Go BigFrame Go.Shelf
set_option maxRecDepth 100000
set_option linter.unusedSimpArgs false
set_option linter.unusedVariables false
attribute [local go_sem] Oper.semAt_some
set_option maxHeartbeats 32000000 in
theorem law40_CorrectedOne (a:Option Addr) (cap:Nat) (m:List (List Int)) (s:Option Addr) (sc:Nat) (L:List RatA) (ia ib mk:Int) (x:RatA) (w:World) (h:Rows w a cap m) (k:RatsI w s sc L) (hia:0≤ia∧ia≤255) (hib:0≤ib∧ib≤255) (hmk:-9223372036854775808≤mk∧mk≤9223372036854775807) (hx:RatI w x):
 Calls Tryz.prog 5 #[.slice a m.length cap,.slice s L.length sc,.int .u8 ia,.int .u8 ib,.int .i64 mk,x.val] w fun e w'=>e=.returned (.bool true)∧Ext w w':=by
 obtain⟨nx,ax,cx,lx,n2,bx,dx,mx⟩:=x
 show Calls Tryz.prog 5 #[.slice a m.length cap,.slice s L.length sc,.int .u8 ia,.int .u8 ib,.int .i64 mk,.agg #[.bool nx,.slice ax lx.length cx,.bool n2,.slice bx mx.length dx]] w _
 have hle:=h.le
 have hmx:=h.mx
 have sle:=k.le
 have smx:=k.mx
 have lx1:=Nat.le_trans hx.i.le hx.i.mx
 have mx1:=Nat.le_trans hx.j.le hx.j.mx
 obtain⟨x0,hw,hx0,Kx⟩:=boxQ1 w #[.bool nx,.slice ax lx.length cx,.bool n2,.slice bx mx.length dx] 38
 replace hw:=Lib.hid hw
 have HSN:=Lib.hid (law40_sane x0)
 have HH:=Lib.hid h
 have HK:=Lib.hid k
 have HI:=Lib.hid hx
 have HRT:=Lib.hid (fun W (hW:Ext w W)=>law40_right a cap m s sc L W (h.ext hW) (k.ext hW))
 have HX0:=Lib.hid hx0
 clear h k hx hx0
 go_enter Tryz.func5,Tryz.ntmps5
 go_upto_region 1 with fail
 rw [hw.out]
 clear hw
 go_wp2_with fail
 refine HSN.out.mono ?_
 rintro e x1 ⟨rfl,hy⟩
 have HX1:=Lib.hid (HX0.out.trans hy)
 have HRT1:=Lib.hid (HRT.out x1 HX1.out)
 replace Kx:=kE Kx hy
 clear hy HRT
 go_wp2_with fail
 refine HRT1.out.mono ?_
 rintro e x2 ⟨rfl,hy⟩
 replace HX1:=Lib.hid (HX1.out.trans hy)
 replace Kx:=kE Kx hy
 clear hy HRT1
 have HFV:=Lib.hid (fun W=>few_val nx n2 ax bx lx.length cx mx.length dx 4 W lx1 mx1)
 have HCV:=Lib.hid (fun W (hW:Ext w W)=>refR_Check nx n2 ax bx cx dx lx mx W (HI.out.i.ext hW) (HI.out.j.ext hW))
 cases hB:(few40 m L && decide (errM m L.length (L.any fun x=>!x.ok)=0))
 ·go_wp2_with fail
  go_ret
  exact⟨rfl,HX1.out⟩
 have hf:few40 m L=true:=(Bool.and_eq_true _ _ ▸ hB).1
 have hE:errM m L.length (L.any fun x=>!x.ok)=0:=of_decide_eq_true (Bool.and_eq_true _ _ ▸ hB).2
 by_cases q1:m.length=0
 ·have e1:((m.length:Int) == 0)=true:=by simp [q1]
  clear hf hE hB
  go_wp2_with fail
  go_ret
  exact⟨rfl,HX1.out⟩
 have e1:((m.length:Int) == 0)=false:=by rw [beq_eq_false_iff_ne];omega
 by_cases q2:L.length=0
 ·have e2:((L.length:Int) == 0)=true:=by simp [q2]
  clear hf hE hB
  go_wp2_with fail
  go_ret
  exact⟨rfl,HX1.out⟩
 have e2:((L.length:Int) == 0)=false:=by rw [beq_eq_false_iff_ne];omega
 by_cases q3:mk< -1
 ·clear hf hE hB
  go_wp2_with fail
  go_ret
  exact⟨rfl,HX1.out⟩
 by_cases q4:1000<mk
 ·clear hf hE hB
  go_wp2_with fail
  go_ret
  exact⟨rfl,HX1.out⟩
 obtain⟨c0,c1,c2,c3⟩:=bk4 Kx
 have HF1:=Lib.hid hf
 have HE1:=Lib.hid hE
 clear hf hE hB
 go_wp2_with fail
 refine(HFV.out _).mono ?_
 rintro e x3 ⟨rfl,hy⟩
 replace HX1:=Lib.hid (HX1.out.trans hy)
 replace Kx:=kE Kx hy
 clear hy c0 c1 c2 c3 HFV
 cases hfq:(fewQ lx.length 4 && fewQ mx.length 4)
 ·go_wp2_with fail
  go_ret
  exact⟨rfl,HX1.out⟩
 obtain⟨c0,c1,c2,c3⟩:=bk4 Kx
 go_wp2_with fail
 refine(HCV.out _ HX1.out).mono ?_
 rintro e x4 ⟨rfl,hy⟩
 replace HX1:=Lib.hid (HX1.out.trans hy)
 replace Kx:=kE Kx hy
 clear hy c0 c1 c2 c3 HCV
 cases hok:okR nx lx n2 mx
 ·rw [show errR false=100 from rfl]
  go_wp2_with fail
  go_ret
  exact⟨rfl,HX1.out⟩
 rw [show errR true=0 from rfl]
 obtain⟨rx,hzx,hvx⟩:=few4_sz (x:=⟨nx,ax,cx,lx,n2,bx,dx,mx⟩) hok hfq
 obtain⟨S,hS⟩:=few40_val HF1.out
 obtain⟨hV,hL10⟩:=hS HE1.out
 obtain⟨g1,g2,g3,g4⟩:=errM_ok HE1.out
 have HG:=Lib.hid g4
 have HV:=Lib.hid hV
 have HLS:=Lib.hid hV.1
 have HXZ:=Lib.hid (And.intro hzx hvx)
 have HOK:=Lib.hid hok
 have HLA:=Lib.hid g3
 have hm10:m.length≤10:=by
  have:=HF1.out
  unfold few40 at this
  simp only [Bool.and_eq_true,decide_eq_true_eq] at this
  exact this.1.1.1
 clear hok hfq hzx hvx hS hV g1 g2 g3 g4 HF1 HSN HX0 e1 e2
 have m0:0<m.length:=by omega
 have s0:0<L.length:=by omega
 obtain⟨z0,hz0⟩:∃z:Nat,ia= (z:Int):=⟨ia.toNat,by omega⟩
 obtain⟨z1,hz1⟩:∃z:Nat,ib= (z:Int):=⟨ib.toNat,by omega⟩
 subst hz0 hz1
 have t1:((z0:Int)).tmod (m.length:Int)= ((z0 % m.length:Nat):Int):=by rw [Int.tmod_eq_emod_of_nonneg (by omega)];rfl
 have t2:((z1:Int)).tmod (L.length:Int)= ((z1 % L.length:Nat):Int):=by rw [Int.tmod_eq_emod_of_nonneg (by omega)];rfl
 have t3:IntKind.i64.wrap (z0:Int)= (z0:Int):=IntWalk.i64_in _ (by omega)
 have t4:IntKind.i64.wrap (z1:Int)= (z1:Int):=IntWalk.i64_in _ (by omega)
 have hi:=Nat.mod_lt z0 m0
 have hj:=Nat.mod_lt z1 s0
 go_upto_region 5 with fail
 go_cut [13,14] (fun s1 s2 wx=>s1=.int .i64 ((z0 % m.length:Nat):Int)∧s2=.int .i64 ((z1 % L.length:Nat):Int)∧Ext x4 wx)
 case first=>
  have hE:Ext x4 (World.drew x4):=(Ext.refl _).drew
  refine wp_region_held_drew (S:=(fun _=>True)) (by kernel_rfl) ?_ (fun hHeld=>?_)
  ·trivial
  (try simp only [pur,Nat.reduceAdd])
  generalize World.drew x4=x5 at *
  refine tk (v:=?_) 0 rfl (by kernel_rfl) (fun _ _ _ h=>h) (by rfl) ?_ (by assumption) ?_
  rotate_left
  ·(intro w hSw;(try dsimp only at hSw);(try go_simp);(try with_reducible rfl))
  (try simp only [Act.put,pus])
  refine tk (v:=?_) 1 rfl (by kernel_rfl) (fun _ _ _ h=>h) (by rfl) ?_ (by assumption) ?_
  rotate_left
  ·(intro w hSw;(try dsimp only at hSw);(try go_simp);(try with_reducible rfl))
  (try simp only [Act.put,pus])
  refine tk (v:=?_) 2 rfl (by kernel_rfl) (fun _ _ _ h=>h) (by rfl) ?_ (by assumption) ?_
  rotate_left
  ·(intro w hSw;(try dsimp only at hSw);(try go_simp);(try with_reducible rfl))
  (try simp only [Act.put,pus])
  refine tk (v:=?_) 3 rfl (by kernel_rfl) (fun _ _ _ h=>h) (by rfl) ?_ (by assumption) ?_
  rotate_left
  ·(intro w hSw;(try dsimp only at hSw);(try go_simp);(try with_reducible rfl))
  (try simp only [Act.put,pus])
  refine tk (v:=?_) 4 rfl (by kernel_rfl) (fun _ _ _ h=>h) (by rfl) ?_ (by assumption) ?_
  rotate_left
  ·(intro w hSw;(try dsimp only at hSw);(try go_simp);(try with_reducible rfl))
  (try simp only [Act.put,pus])
  refine tk (v:=?_) 5 rfl (by kernel_rfl) (fun _ _ _ h=>h) (by rfl) ?_ (by assumption) ?_
  rotate_left
  ·(intro w hSw;(try dsimp only at hSw);(try go_simp);(try with_reducible rfl))
  (try simp only [Act.put,pus])
  refine tk (v:=?_) 6 rfl (by kernel_rfl) (fun _ _ _ h=>h) (by rfl) ?_ (by assumption) ?_
  rotate_left
  ·(intro w hSw;(try dsimp only at hSw);(try go_simp);(try with_reducible rfl))
  (try simp only [Act.put,pus])
  refine tk (v:=?_) 7 rfl (by kernel_rfl) (fun _ _ _ h=>h) (by rfl) ?_ (by assumption) ?_
  rotate_left
  ·(intro w hSw;(try dsimp only at hSw);(try go_simp);(try with_reducible rfl))
  (try simp only [Act.put,pus])
  refine tk (v:=?_) 8 rfl (by kernel_rfl) (fun _ _ _ h=>h) (by rfl) ?_ (by assumption) ?_
  rotate_left
  ·(intro w hSw;(try dsimp only at hSw);(try go_simp);(try with_reducible rfl))
  (try simp only [Act.put,pus])
  refine tk (v:=?_) 9 rfl (by kernel_rfl) (fun _ _ _ h=>h) (by rfl) ?_ (by assumption) ?_
  rotate_left
  ·(intro w hSw;(try dsimp only at hSw);(try go_simp);(try with_reducible rfl))
  (try simp only [Act.put,pus])
  refine tk (v:=?_) 10 rfl (by kernel_rfl) (fun _ _ _ h=>h) (by rfl) ?_ (by assumption) ?_
  rotate_left
  ·(intro w hSw;(try dsimp only at hSw);(try go_simp);(try with_reducible rfl))
  (try simp only [Act.put,pus])
  refine tk (v:=?_) 11 rfl (by kernel_rfl) (fun _ _ _ h=>h) (by rfl) ?_ (by assumption) ?_
  rotate_left
  ·(intro w hSw;(try dsimp only at hSw);(try go_simp);(try with_reducible rfl))
  (try simp only [Act.put,pus])
  refine wpAnyH_done (by kernel_rfl) ?_ _
  go_wp2_with fail
  go_meet
  exact⟨rfl,rfl,hE⟩
 case rest=>
 obtain⟨rfl,rfl,hy⟩:=hcut
 replace HX1:=Lib.hid (HX1.out.trans hy)
 replace Kx:=kE Kx hy
 clear hy t1 t2 t3 t4
 generalize z0 % m.length=i at *
 generalize z1 % L.length=j at *
 generalize hwc:wc=y0 at *
 clear hwc
 have i0:(0:Int)≤(i:Int):=by omega
 have i1:(i:Int)< (m.length:Int):=by omega
 have j0:(0:Int)≤(j:Int):=by omega
 have j1:(j:Int)< (L.length:Int):=by omega
 obtain⟨vs,hvl,hvI,hvn,hv1⟩:=rows_news (HH.out.ext HX1.out)
 have K0:=Lib.hid (Blk.new0 y0 #[] 34)
 have HE1:Hid (Ext y0 (y0.alloc (.cells #[] 34))):=Lib.hid (Ext.alloc _ _)
 have hnil:a=none→m.length=0∧cap=0:=fun e=>by have:=HH.out.nil e;omega
 go_upto_region 7 with(at_builtin;go_loud (refine wpl_append_row rfl (.tmp 78) (.tmp 79) 22 34 rfl (z:=.slice none 0 0) (k:=1) (by_:=24) Tryz.underlying22 infoIntsW rfl (by decide) (B:=y0.heap.size) HE1.out.size rfl (ownEmpty K0.out (Nat.le_refl _)) rfl hnil (news:=vs) (by rw [hvl,Nat.mul_one]) (hvn _ HE1.out) hv1 (by omega) (by omega) ?_);intro v6 y2 ho hg hnl hat;simp only [Nat.zero_add,List.nil_append] at ho;obtain⟨gn,cn,rfl,hgB,hgl,hcn1,hcn2⟩:=own_head ho (by omega))
 obtain⟨cs,hb,hcs⟩:=own_blk ho
 have HE2:Hid (Ext y0 y2):=Lib.hid (Below.grown HE1.out hg HE1.out.size (fun r e=>(World.ownsRow.lt (ownEmpty (k:=1) K0.out (Nat.le_refl _)) r e).1))
 have HB2:=Lib.hid hb
 have HCS:Hid (∀k (hk:k<m.length),∃v,cs[k]? =some v∧IsInts y0 v m[k]):=Lib.hid fun k hk=>by
  obtain⟨v,e1,e2⟩:=hvI k hk
  exact⟨v,hcs k v e1,e2⟩
 clear ho hg hnl hat hb hcs hvI hvn hv1 K0 HE1 hvl
 obtain⟨b,o,rfl⟩:=HH.out.head hi
 obtain⟨r,ar,cr,hr,hc,hI⟩:=Rows.get (HH.out.ext (HX1.out.trans HE2.out)) hi
 obtain⟨hrl,hrb⟩:=HG.out r (List.mem_of_getElem? hr)
 have rle:=hI.le
 have rmx:=hI.mx
 have HI2:=Lib.hid hI
 have HRr:=Lib.hid hr
 have HRB:=Lib.hid hrb
 have HRL:=Lib.hid hrl
 obtain⟨vi,hci,-⟩:=HCS.out i hi
 replace hc:=cell_exQ (Ext.alloc y2 (.cells #[] 3)) hc
 clear hI hr hrb hrl
 go_upto_region 8 with(at_builtin;go_loud (refine wpl_append_ext rfl (.tmp 83) (.tmp 87) 34 rfl Tryz.underlying34 (Ext.alloc y2 (.cells #[] 3)) _ [] rfl (OwnI.new y2) _ _ _ r rfl rfl (HI2.out.ext (Ext.alloc _ _)) (by have:=HRL.out;simp;omega) ?_);intro v7 y4 hown hx4;rw [List.nil_append] at hown;obtain⟨g2,c2,rfl,hI4,hg2⟩:=hown.look (fun x hx=>by have:=HRB.out x hx;omega);have hb4:=HB2.out.ext hx4;have p1:=hb4.cell hci;have p2:=hb4.free i)
 have hlt2:=HB2.out.lt
 have hne:g2≠gn:=by omega
 have hb5:=hb4.set i (.slice (some ⟨g2,0,none⟩) r.length c2)
 have hsz:i<cs.size:=(Array.getElem?_eq_some_iff.1 hci).1
 have p3:=hb5.cell (setSelf (v:=.slice (some ⟨g2,0,none⟩) r.length c2) hsz)
 obtain⟨cs2,ho4,hcs2⟩:=own_blk hown.own
 have ho5:=ho4.other (p:=⟨gn,i,none⟩) hne (.slice (some ⟨g2,0,none⟩) r.length c2)
 have hjr:j<r.length:=by have:=HRL.out;omega
 have p4:=ho5.cell (hcs2 j (.int .i64 r[j]) (by rw [List.getElem?_map,List.getElem?_eq_getElem hjr];rfl))
 have p5:=ho5.free j
 have j2:(j:Int)< (r.length:Int):=by omega
 have r2le:=hI4.le
 have r2mx:=hI4.mx
 have hE6:Ext y0 ((y4.setCell ⟨gn,i,none⟩ (.slice (some ⟨g2,0,none⟩) r.length c2)).setCell ⟨g2,j,none⟩ (.int .i64 mk)):=((HE2.out.trans hx4).set (p:=⟨gn,i,none⟩) hgB _).set (p:=⟨g2,j,none⟩) (by have:=HE2.out.size;dsimp only;omega) _
 have HN:=Lib.hid (rows_changed (j:=j) hmk hb4 hcn1 hcn2 hi HCS.out hI4 hne hE6)
 replace HX1:=Lib.hid (HX1.out.trans hE6)
 replace Kx:=kE Kx hE6
 clear hx4 hown hI4 hb4 hb5 ho4 ho5 hcs2 hE6 HB2 HE2 HCS HI2 p1 p2 hc
 go_upto_region 9 with fail
 clear p3 p4 p5
 generalize ((y4.setCell ⟨gn,i,none⟩ (.slice (some ⟨g2,0,none⟩) r.length c2)).setCell ⟨g2,j,none⟩ (.int .i64 mk))=y6 at *
 have HE0:Hid (errM (m.set i (r.set j mk)) L.length (L.any fun x=>!x.ok)=0):=Lib.hid (by
  rw [HLA.out]
  refine errM_of (by rw [List.length_set];omega) (by omega) fun q hq=>?_
  rcases List.mem_or_eq_of_mem_set hq with h1 | h1
  ·exact HG.out q h1
  ·rw [h1,List.length_set]
   exact⟨HRL.out,set_bd HRB.out ⟨by omega,by omega⟩⟩)
 have hml:(m.set i (r.set j mk)).length=m.length:=List.length_set
 have HM1:=Lib.hid (fun W (hW:Ext y6 W)=>corrected_Marks _ cap m s sc L S W ((HH.out.ext HX1.out).ext hW) ((HK.out.ext HX1.out).ext hW) (fun _=>⟨HV.out.mono (by omega),by omega⟩))
 have HM2:=Lib.hid (fun W (hW:Ext y6 W)=>corrected_Marks _ cn (m.set i (r.set j mk)) s sc L S W (HN.out.ext hW) ((HK.out.ext HX1.out).ext hW) (fun _=>⟨HV.out.mono (by omega),by omega⟩))
 have HM3:=Lib.hid (fun W (hW:Ext y6 W)=>corrected_Means _ cap m s sc L S W ((HH.out.ext HX1.out).ext hW) ((HK.out.ext HX1.out).ext hW) (fun _=>⟨HV.out.mono (by omega),by omega⟩))
 have HM4:=Lib.hid (fun W (hW:Ext y6 W)=>corrected_Means _ cn (m.set i (r.set j mk)) s sc L S W (HN.out.ext hW) ((HK.out.ext HX1.out).ext hW) (fun _=>⟨HV.out.mono (by omega),by omega⟩))
 rw [HE1.out] at HM1 HM3
 rw [HE0.out,hml] at HM2 HM4
 clear HN HE0
 go_wp2_with fail
 refine(HM1.out _ (Ext.refl _)).mono ?_
 intro e w1 h5
 obtain⟨a5,c5,X5,rfl,hx5,hr5,hy⟩:=RowsRP.read h5
 rw [if_pos rfl] at hr5
 have l5:X5.length=m.length:=by have:=congrArg List.length hr5;simpa using this
 have HW:=Lib.hid hy
 have HX5:=Lib.hid hx5
 have HR5:=Lib.hid hr5
 have l5a:=hx5.le
 have l5b:=hx5.mx
 clear h5 hx5 hr5 hy HM1
 go_wp2_with fail
 refine(HM2.out _ HW.out).mono ?_
 intro e w2 h5
 obtain⟨a6,c6,X6,rfl,hx6,hr6,hy⟩:=RowsRP.read h5
 rw [if_pos rfl] at hr6
 have l6:X6.length=m.length:=by have:=congrArg List.length hr6;rw [←hml];simpa using this
 replace HW:=Lib.hid (HW.out.trans hy)
 replace HX5:=Lib.hid (SlOf.ext (R:=fun w v (x:RowD)=>x.Rd w v) (fun _ _ _ _ k h=>RowD.Rd.ext h k) hy HX5.out)
 have HX6:=Lib.hid hx6
 have HR6:=Lib.hid hr6
 have l6a:=hx6.le
 have l6b:=hx6.mx
 clear h5 hx6 hr6 hy HM2
 go_wp2_with fail
 refine(HM3.out _ HW.out).mono ?_
 intro e w3 h5
 obtain⟨a7,c7,V7,rfl,hr7,hy⟩:=RowsP.read h5
 rw [if_pos rfl] at hr7
 have l7:V7.length=m.length:=by have:=hr7.len;simpa using this
 replace HW:=Lib.hid (HW.out.trans hy)
 replace HX5:=Lib.hid (SlOf.ext (R:=fun w v (x:RowD)=>x.Rd w v) (fun _ _ _ _ k h=>RowD.Rd.ext h k) hy HX5.out)
 replace HX6:=Lib.hid (SlOf.ext (R:=fun w v (x:RowD)=>x.Rd w v) (fun _ _ _ _ k h=>RowD.Rd.ext h k) hy HX6.out)
 have HR7:=Lib.hid hr7
 have l7a:=hr7.le
 have l7b:=hr7.mx
 dsimp only at l7a l7b
 clear h5 hr7 hy HM3
 go_wp2_with fail
 refine(HM4.out _ HW.out).mono ?_
 intro e w4 h5
 obtain⟨a8,c8,V8,rfl,hr8,hy⟩:=RowsP.read h5
 rw [if_pos rfl] at hr8
 have l8:V8.length=m.length:=by have:=hr8.len;rw [←hml];simpa using this
 replace HW:=Lib.hid (HW.out.trans hy)
 replace HX5:=Lib.hid (SlOf.ext (R:=fun w v (x:RowD)=>x.Rd w v) (fun _ _ _ _ k h=>RowD.Rd.ext h k) hy HX5.out)
 replace HX6:=Lib.hid (SlOf.ext (R:=fun w v (x:RowD)=>x.Rd w v) (fun _ _ _ _ k h=>RowD.Rd.ext h k) hy HX6.out)
 replace HR7:=Lib.hid (RowD.Rd.ext HR7.out hy)
 have HR8:=Lib.hid hr8
 have l8a:=hr8.le
 have l8b:=hr8.mx
 dsimp only at l8a l8b
 clear h5 hr8 hy HM4
 have t5:((X5.length:Int) != (m.length:Int))=false:=by simp [l5]
 have t6:((X6.length:Int) != (m.length:Int))=false:=by simp [l6]
 have t7:((V7.length:Int) != (m.length:Int))=false:=by simp [l7]
 have t8:((V8.length:Int) != (m.length:Int))=false:=by simp [l8]
 go_wp2_with fail
 clear t5 t6 t7 t8
 replace HX1:=Lib.hid (HX1.out.trans HW.out)
 replace Kx:=kE Kx HW.out
 clear HW
 go_loopw [165] (fun v wr=>∃p:Nat,p≤m.length∧v=.int .i64 p∧Ext w4 wr) (fun v _=>m.length - (intOf v).toNat)
 case atStart=>exact⟨0,Nat.zero_le _,rfl,Ext.refl _⟩
 case round=>
  obtain⟨p,hp,rfl,hxp⟩:=hrel
  generalize wr=wP at *
  have p0:(0:Int)≤(p:Int):=by omega
  by_cases hpm:p<m.length
  ·have p1:(p:Int)< (m.length:Int):=by omega
   have hw1:IntKind.i64.wrap ((p:Int)+1)= (p:Int)+1:=IntWalk.i64_in _ (by omega)
   by_cases hpi:p=i
   ·have g1:((p:Int) != (i:Int))=false:=by simp [hpi]
    have HXP:=Lib.hid hxp
    clear hxp hpi
    go_upto_region 18 with fail
    go_cut [194] (fun v wx=>v=.bool false∧Ext wP wx)
    case first=>
     have hE:Ext wP (World.drew wP):=(Ext.refl _).drew
     refine wp_region_held_drew (S:=(fun _=>True)) (by kernel_rfl) ?_ (fun hHeld=>?_)
     ·trivial
     (try simp only [pur,Nat.reduceAdd])
     generalize World.drew wP=x5 at *
     refine tk (v:=?_) 0 rfl (by kernel_rfl) (fun _ _ _ h=>h) (by rfl) ?_ (by assumption) ?_
     rotate_left
     ·(intro w hSw;(try dsimp only at hSw);(try go_simp);(try with_reducible rfl))
     (try simp only [Act.put,pus])
     refine tk (v:=?_) 1 rfl (by kernel_rfl) (fun _ _ _ h=>h) (by rfl) ?_ (by assumption) ?_
     rotate_left
     ·(intro w hSw;(try dsimp only at hSw);(try go_simp);(try with_reducible rfl))
     (try simp only [Act.put,pus])
     refine tk (v:=?_) 2 rfl (by kernel_rfl) (fun _ _ _ h=>h) (by rfl) ?_ (by assumption) ?_
     rotate_left
     ·(intro w hSw;(try dsimp only at hSw);(try go_simp);(try with_reducible rfl))
     (try simp only [Act.put,pus])
     refine tk (v:=?_) 3 rfl (by kernel_rfl) (fun _ _ _ h=>h) (by rfl) ?_ (by assumption) ?_
     rotate_left
     ·(intro w hSw;(try dsimp only at hSw);(try go_simp);(try with_reducible rfl))
     (try simp only [Act.put,pus])
     refine wpAnyH_take (i:=4) (oi:=_) (v:=undef) rfl (by kernel_rfl) (by kernel_rfl) (by kernel_rfl) (fun _ _ _ h=>h) (Or.inr ⟨by rfl,rfl⟩) (by assumption) ?_
     (try simp only [Act.put,pus])
     refine wpAnyH_take (i:=5) (oi:=_) (v:=undef) rfl (by kernel_rfl) (by kernel_rfl) (by kernel_rfl) (fun _ _ _ h=>h) (Or.inr ⟨by rfl,rfl⟩) (by assumption) ?_
     (try simp only [Act.put,pus])
     refine wpAnyH_take (i:=6) (oi:=_) (v:=undef) rfl (by kernel_rfl) (by kernel_rfl) (by kernel_rfl) (fun _ _ _ h=>h) (Or.inr ⟨by rfl,rfl⟩) (by assumption) ?_
     (try simp only [Act.put,pus])
     refine wpAnyH_take (i:=7) (oi:=_) (v:=undef) rfl (by kernel_rfl) (by kernel_rfl) (by kernel_rfl) (fun _ _ _ h=>h) (Or.inr ⟨by rfl,rfl⟩) (by assumption) ?_
     (try simp only [Act.put,pus])
     refine wpAnyH_take (i:=8) (oi:=_) (v:=undef) rfl (by kernel_rfl) (by kernel_rfl) (by kernel_rfl) (fun _ _ _ h=>h) (Or.inr ⟨by rfl,rfl⟩) (by assumption) ?_
     (try simp only [Act.put,pus])
     refine wpAnyH_take (i:=9) (oi:=_) (v:=undef) rfl (by kernel_rfl) (by kernel_rfl) (by kernel_rfl) (fun _ _ _ h=>h) (Or.inr ⟨by rfl,rfl⟩) (by assumption) ?_
     (try simp only [Act.put,pus])
     refine wpAnyH_take (i:=10) (oi:=_) (v:=undef) rfl (by kernel_rfl) (by kernel_rfl) (by kernel_rfl) (fun _ _ _ h=>h) (Or.inr ⟨by rfl,rfl⟩) (by assumption) ?_
     (try simp only [Act.put,pus])
     refine wpAnyH_take (i:=11) (oi:=_) (v:=undef) rfl (by kernel_rfl) (by kernel_rfl) (by kernel_rfl) (fun _ _ _ h=>h) (Or.inr ⟨by rfl,rfl⟩) (by assumption) ?_
     (try simp only [Act.put,pus])
     refine wpAnyH_take (i:=12) (oi:=_) (v:=undef) rfl (by kernel_rfl) (by kernel_rfl) (by kernel_rfl) (fun _ _ _ h=>h) (Or.inr ⟨by rfl,rfl⟩) (by assumption) ?_
     (try simp only [Act.put,pus])
     refine wpAnyH_take (i:=13) (oi:=_) (v:=undef) rfl (by kernel_rfl) (by kernel_rfl) (by kernel_rfl) (fun _ _ _ h=>h) (Or.inr ⟨by rfl,rfl⟩) (by assumption) ?_
     (try simp only [Act.put,pus])
     refine wpAnyH_take (i:=14) (oi:=_) (v:=undef) rfl (by kernel_rfl) (by kernel_rfl) (by kernel_rfl) (fun _ _ _ h=>h) (Or.inr ⟨by rfl,rfl⟩) (by assumption) ?_
     (try simp only [Act.put,pus])
     refine wpAnyH_take (i:=15) (oi:=_) (v:=undef) rfl (by kernel_rfl) (by kernel_rfl) (by kernel_rfl) (fun _ _ _ h=>h) (Or.inr ⟨by rfl,rfl⟩) (by assumption) ?_
     (try simp only [Act.put,pus])
     refine wpAnyH_take (i:=16) (oi:=_) (v:=undef) rfl (by kernel_rfl) (by kernel_rfl) (by kernel_rfl) (fun _ _ _ h=>h) (Or.inr ⟨by rfl,rfl⟩) (by assumption) ?_
     (try simp only [Act.put,pus])
     refine wpAnyH_take (i:=17) (oi:=_) (v:=undef) rfl (by kernel_rfl) (by kernel_rfl) (by kernel_rfl) (fun _ _ _ h=>h) (Or.inr ⟨by rfl,rfl⟩) (by assumption) ?_
     (try simp only [Act.put,pus])
     refine wpAnyH_take (i:=18) (oi:=_) (v:=undef) rfl (by kernel_rfl) (by kernel_rfl) (by kernel_rfl) (fun _ _ _ h=>h) (Or.inr ⟨by rfl,rfl⟩) (by assumption) ?_
     (try simp only [Act.put,pus])
     refine wpAnyH_take (i:=19) (oi:=_) (v:=undef) rfl (by kernel_rfl) (by kernel_rfl) (by kernel_rfl) (fun _ _ _ h=>h) (Or.inr ⟨by rfl,rfl⟩) (by assumption) ?_
     (try simp only [Act.put,pus])
     refine wpAnyH_take (i:=20) (oi:=_) (v:=undef) rfl (by kernel_rfl) (by kernel_rfl) (by kernel_rfl) (fun _ _ _ h=>h) (Or.inr ⟨by rfl,rfl⟩) (by assumption) ?_
     (try simp only [Act.put,pus])
     refine wpAnyH_take (i:=21) (oi:=_) (v:=undef) rfl (by kernel_rfl) (by kernel_rfl) (by kernel_rfl) (fun _ _ _ h=>h) (Or.inr ⟨by rfl,rfl⟩) (by assumption) ?_
     (try simp only [Act.put,pus])
     refine wpAnyH_take (i:=22) (oi:=_) (v:=undef) rfl (by kernel_rfl) (by kernel_rfl) (by kernel_rfl) (fun _ _ _ h=>h) (Or.inr ⟨by rfl,rfl⟩) (by assumption) ?_
     (try simp only [Act.put,pus])
     refine wpAnyH_take (i:=23) (oi:=_) (v:=undef) rfl (by kernel_rfl) (by kernel_rfl) (by kernel_rfl) (fun _ _ _ h=>h) (Or.inr ⟨by rfl,rfl⟩) (by assumption) ?_
     (try simp only [Act.put,pus])
     refine wpAnyH_take (i:=24) (oi:=_) (v:=undef) rfl (by kernel_rfl) (by kernel_rfl) (by kernel_rfl) (fun _ _ _ h=>h) (Or.inr ⟨by rfl,rfl⟩) (by assumption) ?_
     (try simp only [Act.put,pus])
     refine wpAnyH_take (i:=25) (oi:=_) (v:=undef) rfl (by kernel_rfl) (by kernel_rfl) (by kernel_rfl) (fun _ _ _ h=>h) (Or.inr ⟨by rfl,rfl⟩) (by assumption) ?_
     (try simp only [Act.put,pus])
     refine tk (v:=?_) 26 rfl (by kernel_rfl) (fun _ _ _ h=>h) (by rfl) ?_ (by assumption) ?_
     rotate_left
     ·(intro w hSw;(try dsimp only at hSw);(try go_simp);(try with_reducible rfl))
     (try simp only [Act.put,pus])
     refine wpAnyH_done (by kernel_rfl) ?_ _
     go_wp2_with fail
     go_meet
     exact⟨rfl,hE⟩
    case rest=>
    obtain⟨rfl,hy⟩:=hcut
    have HXQ:=Lib.hid (HXP.out.trans hy)
    clear hy
    go_wp2_with fail
    go_roundw
    case rel=>exact⟨p+1,by omega,by go_num,HXQ.out⟩
    case measure=>simp [intOf];omega
   ·have g1:((p:Int) != (i:Int))=true:=by simp;omega
    have hp5:p<X5.length:=by omega
    have hp6:p<X6.length:=by omega
    have hp7:p<V7.length:=by omega
    have hp8:p<V8.length:=by omega
    have q5:(p:Int)< (X5.length:Int):=by omega
    have q6:(p:Int)< (X6.length:Int):=by omega
    have q7:(p:Int)< (V7.length:Int):=by omega
    have q8:(p:Int)< (V8.length:Int):=by omega
    obtain⟨b5,o5,rfl⟩:=HX5.out.head hp5
    obtain⟨b6,o6,rfl⟩:=HX6.out.head hp6
    obtain⟨b7,o7,e7⟩:=HR7.out.head hp7
    dsimp only at e7
    subst e7
    obtain⟨b8,o8,e8⟩:=HR8.out.head hp8
    dsimp only at e8
    subst e8
    obtain⟨_,v5,d5,k5⟩:=HX5.out.cells _ rfl p hp5
    obtain⟨_,v6,d6,k6⟩:=HX6.out.cells _ rfl p hp6
    obtain⟨-,f0,f1,f2,f3⟩:=HR7.out.cells _ rfl p hp7
    obtain⟨-,h0,h1,h2,h3⟩:=HR8.out.cells _ rfl p hp8
    have R7:=(HR7.out.ext hxp).val p hp7
    have R8:=(HR8.out.ext hxp).val p hp8
    dsimp only at d5 d6 f0 f1 f2 f3 h0 h1 h2 h3 R7 R8
    have er:(m.set i (r.set j mk))[p]? =m[p]? :=List.getElem?_set_ne (fun e=>hpi e.symm)
    have eR:X5[p].R=X6[p].R:=by
     have e1:=congrArg (fun l=>l[p]?) HR5.out
     have e2:=congrArg (fun l=>l[p]?) HR6.out
     simp only [List.getElem?_map,List.getElem?_eq_getElem hp5,List.getElem?_eq_getElem hp6,er,Option.map_some] at e1 e2
     exact Option.some.inj (e1.trans e2.symm)
    have eM:((m.set i (r.set j mk)).map fun r=>meanO r S).getD p none= (m.map fun r=>meanO r S).getD p none:=by
     rw [List.getD_eq_getElem?_getD,List.getD_eq_getElem?_getD,List.getElem?_map,List.getElem?_map,er]
    rw [eM] at R8
    have HS:=Lib.hid (fun W (hW:Ext w4 W)=>ref10_SameList X5[p] X6[p] v5 v6 W (RowD.Rd.ext k5 hW) (RowD.Rd.ext k6 hW) eR)
    have E5:=k5.eq
    have E6:=k6.eq
    generalize (m.map fun r=>meanO r S).getD p none=om at *
    generalize X5[p]=x5 at *
    generalize X6[p]=x6 at *
    generalize V7[p]=cx' at *
    generalize V8[p]=cy' at *
    obtain⟨n7,a7',q7',d7,m7,b7',k7,e7⟩:=cx'
    obtain⟨n8,a8',q8',d8,m8,b8',k8,e8⟩:=cy'
    dsimp only [RatC.val] at f0 f1 f2 f3 h0 h1 h2 h3 R7 R8
    replace R7:=Lib.hid R7
    replace R8:=Lib.hid R8
    subst E5 E6
    have s0c:=Lib.hid (fun(W:World) (k:Ext w4 W)=>And.intro (cell_exQ k d5) (And.intro (cell_exQ k d6) (And.intro (ex4 k f0 f1 f2 f3) (ex4 k h0 h1 h2 h3))))
    have HXP:=Lib.hid hxp
    clear d5 d6 f0 f1 f2 f3 h0 h1 h2 h3 k5 k6 eR eM er hxp
    go_upto_region 18 with fail
    go_cut [194] (fun v wx=>v=.bool false∧Ext w4 wx)
    case first=>
     have hE:Hid (Ext w4 (World.drew wP)):=Lib.hid HXP.out.drew
     replace R7:=Lib.hid (RO.ext R7.out ((Ext.refl wP).drew))
     replace R8:=Lib.hid (RO.ext R8.out ((Ext.refl wP).drew))
     refine wp_region_held_drew (S:=(fun w'=>World.cell? w' ⟨b5,o5+p,none⟩=some (.slice x5.a x5.V.length x5.cap)∧World.cell? w' ⟨b6,o6+p,none⟩=some (.slice x6.a x6.V.length x6.cap)∧(World.cell? w' ⟨b7,o7+p*4,none⟩=some (.bool n7)∧World.cell? w' ⟨b7,o7+p*4+1,none⟩=some (.slice a7' q7' d7)∧World.cell? w' ⟨b7,o7+p*4+2,none⟩=some (.bool m7)∧World.cell? w' ⟨b7,o7+p*4+3,none⟩=some (.slice b7' k7 e7))∧(World.cell? w' ⟨b8,o8+p*4,none⟩=some (.bool n8)∧World.cell? w' ⟨b8,o8+p*4+1,none⟩=some (.slice a8' q8' d8)∧World.cell? w' ⟨b8,o8+p*4+2,none⟩=some (.bool m8)∧World.cell? w' ⟨b8,o8+p*4+3,none⟩=some (.slice b8' k8 e8)))) (by kernel_rfl) ?_ (fun hHeld=>?_)
     ·exact s0c.out _ hE.out
     (try simp only [pur,Nat.reduceAdd])
     generalize World.drew wP=x9 at *
     refine tk (v:=?_) 0 rfl (by kernel_rfl) (fun _ _ _ h=>h) (by rfl) ?_ (by assumption) ?_
     rotate_left
     ·(intro w hSw;(try dsimp only at hSw);(try go_simp);(try with_reducible rfl))
     (try simp only [Act.put,pus])
     refine tk (v:=?_) 1 rfl (by kernel_rfl) (fun _ _ _ h=>h) (by rfl) ?_ (by assumption) ?_
     rotate_left
     ·(intro w hSw;(try dsimp only at hSw);(try go_simp);(try with_reducible rfl))
     (try simp only [Act.put,pus])
     refine tk (v:=?_) 2 rfl (by kernel_rfl) (fun _ _ _ h=>h) (by rfl) ?_ (by assumption) ?_
     rotate_left
     ·(intro w hSw;(try dsimp only at hSw);(try go_simp);(try with_reducible rfl))
     (try simp only [Act.put,pus])
     refine tk (v:=?_) 3 rfl (by kernel_rfl) (fun _ _ _ h=>h) (by rfl) ?_ (by assumption) ?_
     rotate_left
     ·(intro w hSw;(try dsimp only at hSw);(try go_simp);(try with_reducible rfl))
     (try simp only [Act.put,pus])
     refine tk (v:=?_) 4 rfl (by kernel_rfl) (fun _ _ _ h=>h) (by rfl) ?_ (by assumption) ?_
     rotate_left
     ·(intro w hSw;(try dsimp only at hSw);(try go_simp);(try with_reducible rfl))
     (try simp only [Act.put,pus])
     refine tk (v:=?_) 5 rfl (by kernel_rfl) (fun _ _ _ h=>h) (by rfl) ?_ (by assumption) ?_
     rotate_left
     ·(intro w hSw;(try dsimp only at hSw);(try go_simp);(try with_reducible rfl))
     (try simp only [Act.put,pus])
     refine tk (v:=?_) 6 rfl (by kernel_rfl) (fun _ _ _ h=>h) (by rfl) ?_ (by assumption) ?_
     rotate_left
     ·(intro w hSw;(try dsimp only at hSw);(try go_simp);(try with_reducible rfl))
     (try simp only [Act.put,pus])
     refine tk (v:=?_) 7 rfl (by kernel_rfl) (fun _ _ _ h=>h) (by rfl) ?_ (by assumption) ?_
     rotate_left
     ·(intro w hSw;(try dsimp only at hSw);(try go_simp);(try with_reducible rfl))
     (try simp only [Act.put,pus])
     refine tk (v:=?_) 8 rfl (by kernel_rfl) (fun _ _ _ h=>h) (by rfl) ?_ (by assumption) ?_
     rotate_left
     ·(intro w hSw;(try dsimp only at hSw);(try go_simp);(try with_reducible rfl))
     (try simp only [Act.put,pus])
     refine tk (v:=?_) 9 rfl (by kernel_rfl) (fun _ _ _ h=>h) (by rfl) ?_ (by assumption) ?_
     rotate_left
     ·(intro w hSw;(try dsimp only at hSw);(try go_simp);(try with_reducible rfl))
     (try simp only [Act.put,pus])
     refine tk (v:=?_) 10 rfl (by kernel_rfl) (fun _ _ _ h=>h) (by rfl) ?_ (by assumption) ?_
     rotate_left
     ·(intro w hSw;(try dsimp only at hSw);(try go_simp);(try with_reducible rfl))
     (try simp only [Act.put,pus])
     refine tk (v:=?_) 11 rfl (by kernel_rfl) (fun _ _ _ h=>h) (by rfl) ?_ (by assumption) ?_
     rotate_left
     ·(intro w hSw;(try dsimp only at hSw);(try go_simp);(try with_reducible rfl))
     (try simp only [Act.put,pus])
     refine wpAnyH_ready (rs:=[12]) (by kernel_rfl) (by simp) ?_
     refine AllReadyH.cons (o:=_) rfl (fun K hK=>?_) ?_
     ·go_simp
      (with_reducible refine(HS.out _ hE.out).mono ?_);rintro e z1 ⟨rfl,hy⟩;replace hE:=Lib.hid (hE.out.trans hy);replace R7:=Lib.hid (RO.ext R7.out hy);replace R8:=Lib.hid (RO.ext R8.out hy);clear hy
      refine hK.out _ _ ?_ (fun hHeld2=>?_)
      ·exact s0c.out _ hE.out
      clear hK K hHeld
      have hHeld:=hHeld2
      clear hHeld2
      (try simp only [Act.put,pus])
      refine tk (v:=?_) 13 rfl (by kernel_rfl) (fun _ _ _ h=>h) (by rfl) ?_ (by assumption) ?_
      rotate_left
      ·(intro w hSw;(try dsimp only at hSw);(try go_simp);(try with_reducible rfl))
      (try simp only [Act.put,pus])
      refine tk (v:=?_) 14 rfl (by kernel_rfl) (fun _ _ _ h=>h) (by rfl) ?_ (by assumption) ?_
      rotate_left
      ·(intro w hSw;(try dsimp only at hSw);(try go_simp);(try with_reducible rfl))
      (try simp only [Act.put,pus])
      refine tk (v:=?_) 15 rfl (by kernel_rfl) (fun _ _ _ h=>h) (by rfl) ?_ (by assumption) ?_
      rotate_left
      ·(intro w hSw;(try dsimp only at hSw);(try go_simp);(try with_reducible rfl))
      (try simp only [Act.put,pus])
      refine tk (v:=?_) 16 rfl (by kernel_rfl) (fun _ _ _ h=>h) (by rfl) ?_ (by assumption) ?_
      rotate_left
      ·(intro w hSw;(try dsimp only at hSw);(try go_simp);(try with_reducible rfl))
      (try simp only [Act.put,pus])
      refine tk (v:=?_) 17 rfl (by kernel_rfl) (fun _ _ _ h=>h) (by rfl) ?_ (by assumption) ?_
      rotate_left
      ·(intro w hSw;(try dsimp only at hSw);(try go_simp);(try with_reducible rfl))
      (try simp only [Act.put,pus])
      refine tk (v:=?_) 18 rfl (by kernel_rfl) (fun _ _ _ h=>h) (by rfl) ?_ (by assumption) ?_
      rotate_left
      ·(intro w hSw;(try dsimp only at hSw);(try go_simp);(try with_reducible rfl))
      (try simp only [Act.put,pus])
      refine tk (v:=?_) 19 rfl (by kernel_rfl) (fun _ _ _ h=>h) (by rfl) ?_ (by assumption) ?_
      rotate_left
      ·(intro w hSw;(try dsimp only at hSw);(try go_simp);(try with_reducible rfl))
      (try simp only [Act.put,pus])
      refine tk (v:=?_) 20 rfl (by kernel_rfl) (fun _ _ _ h=>h) (by rfl) ?_ (by assumption) ?_
      rotate_left
      ·(intro w hSw;(try dsimp only at hSw);(try go_simp);(try with_reducible rfl))
      (try simp only [Act.put,pus])
      refine tk (v:=?_) 21 rfl (by kernel_rfl) (fun _ _ _ h=>h) (by rfl) ?_ (by assumption) ?_
      rotate_left
      ·(intro w hSw;(try dsimp only at hSw);(try go_simp);(try with_reducible rfl))
      (try simp only [Act.put,pus])
      refine tk (v:=?_) 22 rfl (by kernel_rfl) (fun _ _ _ h=>h) (by rfl) ?_ (by assumption) ?_
      rotate_left
      ·(intro w hSw;(try dsimp only at hSw);(try go_simp);(try with_reducible rfl))
      (try simp only [Act.put,pus])
      refine wpAnyH_ready (rs:=[23]) (by kernel_rfl) (by simp) ?_
      refine AllReadyH.cons (o:=_) rfl (fun K hK=>?_) ?_
      ·go_simp
       (with_reducible refine(same_RO R7.out R8.out).mono ?_);rintro e z2 ⟨rfl,hy⟩;replace hE:=Lib.hid (hE.out.trans hy);clear hy
       refine hK.out _ _ ?_ (fun hHeld2=>?_)
       ·exact s0c.out _ hE.out
       clear hK K hHeld
       have hHeld:=hHeld2
       clear hHeld2
       (try simp only [Act.put,pus])
       refine tk (v:=?_) 24 rfl (by kernel_rfl) (fun _ _ _ h=>h) (by rfl) ?_ (by assumption) ?_
       rotate_left
       ·(intro w hSw;(try dsimp only at hSw);(try go_simp);(try with_reducible rfl))
       (try simp only [Act.put,pus])
       refine tk (v:=?_) 25 rfl (by kernel_rfl) (fun _ _ _ h=>h) (by rfl) ?_ (by assumption) ?_
       rotate_left
       ·(intro w hSw;(try dsimp only at hSw);(try go_simp);(try with_reducible rfl))
       (try simp only [Act.put,pus])
       refine tk (v:=?_) 26 rfl (by kernel_rfl) (fun _ _ _ h=>h) (by rfl) ?_ (by assumption) ?_
       rotate_left
       ·(intro w hSw;(try dsimp only at hSw);(try go_simp);(try with_reducible rfl))
       (try simp only [Act.put,pus])
       refine wpAnyH_done (by kernel_rfl) ?_ _
       go_wp2_with fail
       go_meet
       exact⟨rfl,hE.out⟩
      exact AllReadyH.nil
     exact AllReadyH.nil
    case rest=>
    obtain⟨rfl,hy⟩:=hcut
    have HXQ:=Lib.hid hy
    clear hy
    go_wp2_with fail
    go_roundw
    case rel=>exact⟨p+1,by omega,by go_num,HXQ.out⟩
    case measure=>simp [intOf];omega
  ·have p1:¬ (p:Int)< (m.length:Int):=by omega
   replace HX1:=Lib.hid (HX1.out.trans hxp)
   replace Kx:=kE Kx hxp
   clear hxp HX5 HX6 HR5 HR6 HR7 HR8
   go_wp2_with fail
   go_loopw [25,198] (fun v n wr=>∃q:Nat,q≤m.length∧n=.int .i64 q∧OwnL IsInts wr wP.heap.size 34 v ((m.take q).map fun r=>r.set j (-1))∧Ext wP wr) (fun _ n _=>m.length - (intOf n).toNat)
   case atStart=>exact⟨0,Nat.zero_le _,rfl,OwnL.nil _ _ _,Ext.refl _⟩
   case round=>
    obtain⟨q,hq,rfl,hO,hxr⟩:=hrel
    have q0:(0:Int)≤(q:Int):=by omega
    obtain⟨va,vc,rfl,hvl,hvc⟩:=hO.form
    have hlen:((m.take q).map fun r=>r.set j (-1)).length=q:=by simp;omega
    rw [hlen] at hO hvl ⊢
    have HO:=Lib.hid hO
    have HXR:=Lib.hid hxr
    clear hO hxr hlen
    by_cases hqm:q<m.length
    ·have q1:(q:Int)< (m.length:Int):=by omega
     have hw1:IntKind.i64.wrap ((q:Int)+1)= (q:Int)+1:=IntWalk.i64_in _ (by omega)
     obtain⟨r3,ar3,cr3,hr3,hc3,hI3⟩:=Rows.get ((HH.out.ext HX1.out).ext HXR.out) hqm
     obtain⟨hrl3,hrb3⟩:=HG.out r3 (List.mem_of_getElem? hr3)
     have HRS:Hid ((m.take (q+1)).map (fun r=>r.set j (-1))= (m.take q).map (fun r=>r.set j (-1)) ++ [r3.set j (-1)]):=Lib.hid (by rw [take_get hr3,List.map_append];rfl)
     have r3le:=hI3.le
     have r3mx:=hI3.mx
     have HI3:=Lib.hid hI3
     have HRB3:=Lib.hid hrb3
     have HRL3:=Lib.hid hrl3
     clear hr3 hrl3 hrb3 hI3
     go_upto_region 26 with(at_builtin;go_loud (refine wpl_append_ext rfl (.tmp 202) (.tmp 203) 34 rfl Tryz.underlying34 (Ext.alloc wr (.cells #[] 3)) _ [] rfl (OwnI.new wr) _ _ _ r3 rfl rfl (HI3.out.ext (Ext.alloc _ _)) (by have:=HRL3.out;simp;omega) ?_);intro v7 y4 hown hx4;rw [List.nil_append] at hown;obtain⟨g2,c2,rfl,hI4,hg2⟩:=hown.look (fun x hx=>by have:=HRB3.out x hx;omega))
     have hjr:j<r3.length:=by have:=HRL3.out;omega
     obtain⟨cs2,ho4,hcs2⟩:=own_blk hown.own
     have p4:=ho4.cell (hcs2 j (.int .i64 r3[j]) (by rw [List.getElem?_map,List.getElem?_eq_getElem hjr];rfl))
     have p5:=ho4.free j
     have j2:(j:Int)< (r3.length:Int):=by omega
     have r4le:=hI4.le
     have r4mx:=hI4.mx
     have hI5:=Ints.putW hI4 (i:=j) (u:=-1) (by omega)
     have hE5:Ext wr (y4.setCell ⟨g2,j,none⟩ (.int .i64 (-1))):=hx4.set (p:=⟨g2,j,none⟩) hg2 _
     have hO5:=HO.out.ext rdInts hE5
     have hlt:=HO.out.lt
     have hya:=Ext.alloc (y4.setCell ⟨g2,j,none⟩ (.int .i64 (-1))) (.cells #[.slice (some ⟨g2,0,none⟩) r3.length c2] 34)
     have HBz:=Lib.hid (Blk.new0 (y4.setCell ⟨g2,j,none⟩ (.int .i64 (-1))) #[.slice (some ⟨g2,0,none⟩) r3.length c2] 34)
     rw [show(y4.setCell ⟨g2,j,none⟩ (.int .i64 (-1))).heap.size=y4.heap.size by simp] at HBz
     have HXa:=Lib.hid ((HXR.out.trans hE5).trans hya)
     have HOa:=Lib.hid (hO5.ext rdInts hya)
     have HIa:=Lib.hid (hI5.ext hya)
     have HOFF:Hid (OffV (.slice (some ⟨g2,0,none⟩) r3.length c2) (Value.slice va q vc).ownBlock):=Lib.hid (fun A n c e _ e2=>by
      simp only [Value.slice.injEq,Option.some.injEq] at e
      obtain⟨rfl,-,-⟩:=e
      have:=(hlt _ e2).2
      dsimp only at this
      omega)
     clear hown hI4 hI5 hE5 hO5 hlt hya ho4 hcs2 hc3 hx4 HO
     go_wp2_with (at_builtin;go_loud (refine wpl_append_ownL rdInts rfl (.tmp 208) (.tmp 210) 22 34 rfl Tryz.underlying22 (z:=.slice none 0 0) rfl infoIntsW HXa.out rfl HOa.out rfl HBz.out (y:=r3.set j (-1)) ⟨_,_,by rw [List.length_set],HIa.out⟩ HOFF.out (by simp;omega) ?_);intro ua uc w5 hO6 hx6 hg6)
     clear p4 p5
     go_roundw
     case rel=>exact⟨q+1,by omega,by go_num,(by rw [HRS.out];rw [show((m.take q).map fun r=>r.set j (-1)).length=q by simp;omega] at hO6;exact hO6),hx6⟩
     case measure=>simp [intOf];omega
    ·have q1:¬ (q:Int)< (m.length:Int):=by omega
     have hqe:q=m.length:=by omega
     subst hqe
     rw [List.take_length] at HO
     obtain⟨za,zc,e9,hsl⟩:=HO.out.sl
     simp only [Value.slice.injEq] at e9
     obtain⟨rfl,-,rfl⟩:=e9
     have HBR:Hid (Rows wr va vc (m.map fun r=>r.set j (-1))):=Lib.hid hsl
     have hbl:(m.map fun r=>r.set j (-1)).length=m.length:=List.length_map _
     replace HX1:=Lib.hid (HX1.out.trans HXR.out)
     replace Kx:=kE Kx HXR.out
     clear hsl HO HXR
     generalize wr=y7 at *
     have K0:=Lib.hid (Blk.new0 y7 #[] 38)
     have HE1':Hid (Ext y7 (y7.alloc (.cells #[] 38))):=Lib.hid (Ext.alloc _ _)
     have hnil2:s=none→L.length=0∧sc=0:=fun e=>by have:=HK.out.nil e;omega
     have HNW:=Lib.hid (rats_news ((HK.out.ext HX1.out).ext HE1'.out))
     go_upto_region 30 with(at_builtin;go_loud (refine wpl_append_row rfl (.tmp 213) (.tmp 214) 23 38 rfl (z:=.agg #[.bool false,.slice none 0 0,.bool false,.slice none 0 0]) (k:=4) (by_:=64) Tryz.underlying23 infoRatM rfl (by decide) (B:=y7.heap.size) HE1'.out.size rfl (ownEmpty K0.out (Nat.le_refl _)) rfl hnil2 (news:=newsU L.length fun c=>cA (L.getD c zeroA)) (newsU_len _ _) HNW.out (newsU_one _ _) (by omega) (by omega) ?_);intro v6 y8 ho hg hnl hat;simp only [Nat.zero_add] at ho;obtain⟨gt,ct,rfl,hgB,hgl,hct1,hct2⟩:=own_head ho s0)
     have HE8:Hid (Ext y7 y8):=Lib.hid (Below.grown HE1'.out hg HE1'.out.size (fun r e=>(World.ownsRow.lt (ownEmpty (k:=4) K0.out (Nat.le_refl _)) r e).1))
     have HRB:=Lib.hid (rowB_of_own ho)
     obtain⟨PP,hB9⟩:=HRB.out.put (by omega:j<L.length) (cA ⟨nx,ax,cx,lx,n2,bx,dx,mx⟩)
     obtain⟨p0,p1,p2,p3,⟨_,p4⟩,⟨_,p5⟩,⟨_,p6⟩,⟨_,p7⟩⟩:=PP
     dsimp only [cA] at p0 p1 p2 p3 p4 p5 p6 p7
     obtain⟨c0,c1,c2,c3⟩:=bk4 (kE Kx HE8.out)
     have hE9:Ext y7 (set4U y8 gt j (cA ⟨nx,ax,cx,lx,n2,bx,dx,mx⟩)):=((((HE8.out.set (p:=⟨gt,j*4,none⟩) hgB _).set (p:=⟨gt,j*4+1,none⟩) hgB _).set (p:=⟨gt,j*4+2,none⟩) hgB _).set (p:=⟨gt,j*4+3,none⟩) hgB _)
     have HT:=Lib.hid (rats_set (HK.out.ext HX1.out) (HI.out.ext HX1.out) hE9 (by omega) hct1 hct2 hB9)
     have HE9:=Lib.hid hE9
     clear ho hg hnl hat HNW K0 HE1' hB9 hE9 HRB
     go_upto_region 31 with fail
     clear p0 p1 p2 p3 p4 p5 p6 p7 c0 c1 c2 c3
     have hTw:set4U y8 gt j (cA ⟨nx,ax,cx,lx,n2,bx,dx,mx⟩)= ((((y8.setCell ⟨gt,j*4,none⟩ (.bool nx)).setCell ⟨gt,j*4+1,none⟩ (.slice ax lx.length cx)).setCell ⟨gt,j*4+2,none⟩ (.bool n2)).setCell ⟨gt,j*4+3,none⟩ (.slice bx mx.length dx)):=rfl
     rw [hTw] at HT HE9
     clear hTw
     generalize ((((y8.setCell ⟨gt,j*4,none⟩ (.bool nx)).setCell ⟨gt,j*4+1,none⟩ (.slice ax lx.length cx)).setCell ⟨gt,j*4+2,none⟩ (.bool n2)).setCell ⟨gt,j*4+3,none⟩ (.slice bx mx.length dx))=y9 at *
     have HEB:∀Lx:List RatA,Lx.length=L.length→(Lx.any fun x=>!x.ok)=false→errM (m.map fun r=>r.set j (-1)) Lx.length (Lx.any fun x=>!x.ok)=0:=fun Lx h1 h2=>by
      rw [h1,h2]
      refine errM_of (by omega) (by omega) fun q hq=>?_
      obtain⟨q',hq',rfl⟩:=List.mem_map.1 hq
      rw [List.length_set]
      exact⟨(HG.out q' hq').1,set_bd (HG.out q' hq').2 (by omega)⟩
     have hsl:(L.set j ⟨nx,ax,cx,lx,n2,bx,dx,mx⟩).length=L.length:=List.length_set
     have HP1:=Lib.hid (fun W (hW:Ext y9 W)=>corrected_Means va vc (m.map fun r=>r.set j (-1)) s sc L S W ((HBR.out.ext HE9.out).ext hW) ((HK.out.ext (HX1.out.trans HE9.out)).ext hW) (fun _=>⟨HV.out.mono (by omega),by omega⟩))
     have HP2:=Lib.hid (fun W (hW:Ext y9 W)=>corrected_Means va vc (m.map fun r=>r.set j (-1)) _ ct (L.set j ⟨nx,ax,cx,lx,n2,bx,dx,mx⟩) (S.set j rx) W ((HBR.out.ext HE9.out).ext hW) (HT.out.ext hW) (fun _=>⟨(valL_set HV.out HXZ.out.1 HXZ.out.2).mono (by omega),by omega⟩))
     rw [HEB L rfl HLA.out,hbl] at HP1
     rw [HEB _ hsl (any_set HLA.out HOK.out),hbl,hsl] at HP2
     replace HX1:=Lib.hid (HX1.out.trans HE9.out)
     clear HEB HT HE9 HBR Kx HE8
     go_wp2_with fail
     refine(HP1.out _ (Ext.refl _)).mono ?_
     intro e w6 h5
     obtain⟨a5,c5,V5,rfl,hr5,hy⟩:=RowsP.read h5
     rw [if_pos rfl] at hr5
     have l5a:=hr5.le
     have l5b:=hr5.mx
     dsimp only at l5a l5b
     have HR5:=Lib.hid hr5
     have HW:=Lib.hid hy
     clear h5 hr5 hy HP1
     go_wp2_with fail
     refine(HP2.out _ HW.out).mono ?_
     intro e w7 h5
     obtain⟨a6,c6,V6,rfl,hr6,hy⟩:=RowsP.read h5
     rw [if_pos rfl] at hr6
     have l6a:=hr6.le
     have l6b:=hr6.mx
     dsimp only at l6a l6b
     have HSL:=Lib.hid (ref10_SameList _ _ _ _ w7 (RowD.Rd.ext HR5.out hy) hr6 (by
      show(m.map fun r=>r.set j (-1)).map (fun r=>meanO r S)= (m.map fun r=>r.set j (-1)).map (fun r=>meanO r (S.set j rx))
      rw [List.map_map,List.map_map]
      refine List.map_congr_left fun q hq=>?_
      show meanO (q.set j (-1)) S=meanO (q.set j (-1)) (S.set j rx)
      refine(meanO_other rx ?_).symm
      rw [List.getD_eq_getElem?_getD,List.getElem?_set_self (by have:=(HG.out q hq).1;omega)]
      rfl))
     have HXF:=Lib.hid (HX1.out.trans (HW.out.trans hy))
     clear h5 hr6 hy HP2 HW HR5 HX1
     go_wp2_with fail
     refine HSL.out.mono ?_
     rintro e w8 ⟨rfl,hy⟩
     have HXG:=Lib.hid (HXF.out.trans hy)
     clear hy
     go_wp2_with fail
     go_ret
     exact⟨rfl,HXG.out⟩
end Go.Proofs.YtolffmmkjnhkkaaGreat
