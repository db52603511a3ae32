import Derived.Test.YtolffmmkjnhkkaaGreatPRefD
import Derived.Test.YtolffmmkjnhkkaaGreatPRefB
import Derived.Test.YtolffmmkjnhkkaaGreatPDivA
import Derived.Outline
namespace Go.Proofs.YtolffmmkjnhkkaaGreat
open Go.RowKit Go BigFrame Go.Shelf
set_option maxRecDepth 100000
set_option linter.unusedSimpArgs false
theorem digs_mono2 {u v:Nat} (h:u≤v):(digs u).length≤(digs v).length:=by
 apply digs_len
 have h1:=dval_lt (digs_norm v).digs
 rw [digs_val] at h1
 have h2:=pow_cast30 (digs v).length
 generalize (1073741824:Int) ^ (digs v).length=P at *
 generalize (1073741824:Nat) ^ (digs v).length=Q at *
 omega
theorem drew_cell (w:World) (p:Addr):w.drew.cell? p=w.cell? p:=rfl
theorem boxes4 (w:World) (o1 o2 o3 o4:Array Value) (t1 t2 t3 t4:TypeId):∃w4,(((w.alloc (.cells o1 t1)).alloc (.cells o2 t2)).alloc (.cells o3 t3)).alloc (.cells o4 t4)=w4∧
 Blk w4 w.heap.size o1 t1∧Blk w4 (w.heap.size+1) o2 t2∧Blk w4 (w.heap.size+2) o3 t3∧Blk w4 (w.heap.size+3) o4 t4∧Ext w w4∧w4.heap.size=w.heap.size+4:=by
 refine⟨_,rfl,?_,?_,?_,?_,(by repeat (first | with_reducible exact Ext.refl _ | with_reducible assumption | with_reducible refine Ext.drewN ?_ _ | with_reducible refine Ext.drew ?_ | with_reducible refine Ext.alloc' ?_ _ | with_reducible refine Ext.set ?_ (by dsimp only;omega) _)),by simp⟩
 ·exact(((Blk.new0 w o1 t1).alloc _).alloc _).alloc _
 ·exact((Blk.new1 w _ o2 t2).alloc _).alloc _
 ·exact(Blk.new2 w _ _ o3 t3).alloc _
 ·have:=Blk.new2 (w.alloc (.cells o1 t1)) (.cells o2 t2) (.cells o3 t3) o4 t4
  simpa [Nat.add_assoc] using this
set_option maxHeartbeats 2000000 in
theorem ref_Div_A0 (n2:Bool) (a b:Option Addr) (ca cb:Nat) (l m:List Int) (w:World) (h:Ints w a ca l) (k:Ints w b cb m) (h1:chkB false l=true) (h2:chkB n2 m=true) (hm:m≠[]):
 Calls Tryz.prog 105 #[.agg #[.bool false,.slice a l.length ca],.agg #[.bool n2,.slice b m.length cb]] w (DivO (sgn false (dval l)) (sgn n2 (dval m)) w):=by
 obtain⟨w3,hw3,B1,B2,B3,B4,hx,hs3⟩:=boxes4 w #[.bool false,.slice a l.length ca] #[.bool n2,.slice b m.length cb] #[.bool false,.slice none 0 0] #[.bool false,.slice none 0 0] 36 36 36 36
 have c0:=B1.cell (i:=0) (v:=.bool false) rfl
 have c1:=B1.cell (i:=1) (v:=.slice a l.length ca) rfl
 have c2:=B2.cell (i:=0) (v:=.bool n2) rfl
 have c3:=B2.cell (i:=1) (v:=.slice b m.length cb) rfl
 have H1:=Lib.hid B1
 have H2:=Lib.hid B2
 have H3:=Lib.hid B3
 have H4:=Lib.hid B4
 have HW:=Lib.hid hw3
 have HT:=ref_two false n2 a b ca cb l m w3 (h.ext hx) (k.ext hx)
 rw [h1,h2] at HT
 have HT:=Lib.hid (show Calls Tryz.prog 69 _ w3 fun e w'=>e=.returned (.int .i64 0)∧Ext w3 w' from HT)
 obtain⟨z1,y1⟩:=of_chk h1
 obtain⟨z2,y2⟩:=of_chk h2
 have hF:DivF false n2 l m:=div_facts z1.1 z2.1 y1 y2 hm
 have hmp:0<m.length:=List.length_pos_iff.2 hm
 have t1:((m.length:Int) == 0)=false:=by simp;omega
 have t1':(m.length == 0)=false:=by simp;omega
 have HD:=Lib.hid (fun W (hy:Ext w W)=>ref_divide a b ca cb l.length m.length _ l m W (h.ext hy) (k.ext hy) z1.1.digs z2.1 hmp rfl rfl rfl (by omega) (by omega))
 have HF:=Lib.hid hF
 have HM:=Lib.hid (And.intro (fun W (hy:Ext w W)=>k.ext hy) (And.intro z2.1 (And.intro y1 y2)))
 have HSS:=Lib.hid (show(!(false == n2))=n2 from by cases n2 <;> rfl)
 have hc:false=false∨(dval l % dval m).toNat=0:=.inl rfl
 have hp:=hF.plain hc
 have hsm:=hF.small
 have HP:=Lib.hid (And.intro hp hsm)
 clear hp hsm hc
 clear z1 z2 y1 y2 h1 h2 h k B1 B2 B3 B4 hw3 hF hm hmp
 go_enter Tryz.func105,Tryz.ntmps105
 go_upto_region 1 with fail
 rw [HW.out]
 simp only [Nat.add_assoc,Nat.reduceAdd]
 go_wp2_with fail
 refine HT.out.mono ?_
 rintro e w5 ⟨rfl,hy⟩
 have K3:=Lib.hid (H3.out.ext hy)
 have K4:=Lib.hid (H4.out.ext hy)
 have hx5:=hx.trans hy
 have hs5:w.heap.size+4≤w5.heap.size:=by have:=hy.size;omega
 have HD5:=Lib.hid (HD.out w5 hx5)
 clear c0 c1 c2 c3
 have c0:=(H1.out.ext hy).cell (i:=0) (v:=.bool false) rfl
 have c1:=(H1.out.ext hy).cell (i:=1) (v:=.slice a l.length ca) rfl
 have c2:=(H2.out.ext hy).cell (i:=0) (v:=.bool n2) rfl
 have c3:=(H2.out.ext hy).cell (i:=1) (v:=.slice b m.length cb) rfl
 have K1:=Lib.hid (H1.out.ext hy)
 have K2:=Lib.hid (H2.out.ext hy)
 clear HT H1 H2 H3 H4 HD
 go_wp2_with fail
 refine HD5.out.mono ?_
 rintro e w6 ⟨aq,cq,ar,cr,rfl,hiq,hir,hbq,hbr,hy6⟩
 have hx6:=hx5.trans hy6
 clear c0 c1 c2 c3 HD5
 have c0:=(K1.out.ext hy6).cell (i:=0) (v:=.bool false) rfl
 have c2:=(K2.out.ext hy6).cell (i:=0) (v:=.bool n2) rfl
 have c3:=(K2.out.ext hy6).cell (i:=1) (v:=.slice b m.length cb) rfl
 have K1:=Lib.hid (K1.out.ext hy6)
 have K2:=Lib.hid (K2.out.ext hy6)
 have K3:=Lib.hid (K3.out.ext hy6)
 have K4:=Lib.hid (K4.out.ext hy6)
 have hs6:=K4.out.lt
 obtain⟨N,hN⟩:∃N,(dval l / dval m).toNat=N:=⟨_,rfl⟩
 obtain⟨M,hM⟩:∃M,(dval l % dval m).toNat=M:=⟨_,rfl⟩
 rw [hN] at hiq HP ⊢
 rw [hM] at hir HP ⊢
 obtain⟨Ql,hQl⟩:∃Ql,digs N=Ql:=⟨_,rfl⟩
 obtain⟨Rl,hRl⟩:∃Rl,digs M=Rl:=⟨_,rfl⟩
 have hTq:trimL Ql=digs N:=by rw [←hQl];exact trim_id (digs_norm _)
 have hTr:trimL Rl=digs M:=by rw [←hRl];exact trim_id (digs_norm _)
 have hLq:(digs N).length≤2048:=HP.out.2.1
 have hLr:(digs M).length≤2048:=HP.out.2.2
 rw [hQl] at hiq ⊢
 rw [hRl] at hir ⊢
 clear hQl hRl hN hM
 have hOq:=ref_of_ok n2 aq cq Ql w6 hiq (by rw [hTq];exact hLq)
 rw [hTq] at hOq
 have HOQ:=Lib.hid hOq
 have HIQ:=Lib.hid (show Ints w6 aq cq (digs N) from by have:=hiq.take (trimL Ql).length;rwa [←trim_take,hTq] at this)
 have HIR:=Lib.hid hir
 have HTR:=Lib.hid (And.intro hTr hLr)
 have HB:=Lib.hid (And.intro hbq hbr)
 clear hOq hiq hir hTq hLq hTr hLr hbq hbr
 go_upto_region 10 with fail
 go_wp2_with fail
 (with_reducible refine HOQ.out.mono ?_)
 rintro e w8 ⟨rfl,hy8⟩
 have hOr:=ref_of_ok false ar cr Rl _ ((HIR.out.ext hy8).ext (Ext.alloc w8 (.cells #[.bool (n2 && decide (0< (digs N).length)),.slice aq (digs N).length cq] 36))) (by rw [HTR.out.1];exact HTR.out.2)
 rw [HTR.out.1,Bool.false_and] at hOr
 have HOR:=Lib.hid hOr
 obtain⟨t,ht⟩:∃t,(n2 && decide (0< (digs N).length))=t:=⟨_,rfl⟩
 rw [ht] at HOR ⊢
 have HTT:=Lib.hid ht
 have HY8:=Lib.hid hy8
 clear hOr ht c0 c2 c3 HOQ
 go_upto_region 11 with fail
 go_wp2_with fail
 (with_reducible refine HOR.out.mono ?_)
 rintro e w9 ⟨rfl,hy9⟩
 have J10:=Lib.hid ((Blk.new0 w8 #[.bool t,.slice aq (digs N).length cq] 36).ext hy9)
 have HX9:=Lib.hid ((HY8.out.trans (Ext.alloc w8 (.cells #[.bool t,.slice aq (digs N).length cq] 36))).trans hy9)
 have hs8:=HY8.out.size
 have hs9:=J10.out.lt
 clear HOR hy9
 have HIQ9:=Lib.hid ((HIQ.out.ext HX9.out).ext (Ext.alloc w9 (.cells #[.bool false,.slice ar (digs M).length cr] 36)))
 have hr9:=(HIR.out.take (trimL Rl).length)
 rw [←trim_take,HTR.out.1] at hr9
 have HIR9:=Lib.hid ((hr9.ext HX9.out).ext (Ext.alloc w9 (.cells #[.bool false,.slice ar (digs M).length cr] 36)))
 have G3:=Lib.hid ((K3.out.ext HX9.out).alloc (.cells #[.bool false,.slice ar (digs M).length cr] 36))
 have G4:=Lib.hid ((K4.out.ext HX9.out).alloc (.cells #[.bool false,.slice ar (digs M).length cr] 36))
 have G10:=Lib.hid (J10.out.alloc (.cells #[.bool false,.slice ar (digs M).length cr] 36))
 have G12:=Lib.hid (Blk.new0 w9 #[.bool false,.slice ar (digs M).length cr] 36)
 have GX:=Lib.hid ((hx6.trans HX9.out).alloc' (.cells #[.bool false,.slice ar (digs M).length cr] 36))
 clear hr9 HIR HIQ K1 K2 K3 K4 J10 HY8
 go_upto_region 14 with fail
 generalize w9.alloc (.cells #[.bool false,.slice ar (digs M).length cr] 36)=wa at *
 have s0:wa.drew.cell? ⟨w8.heap.size,0,none⟩=some (.bool t)∧wa.drew.cell? ⟨w8.heap.size,1,none⟩=some (.slice aq (digs N).length cq)∧wa.drew.cell? ⟨w9.heap.size,0,none⟩=some (.bool false)∧wa.drew.cell? ⟨w9.heap.size,1,none⟩=some (.slice ar (digs M).length cr):=⟨G10.out.cell rfl,G10.out.cell rfl,G12.out.cell rfl,G12.out.cell rfl⟩
 have s1:wa.cell? ⟨w8.heap.size,0,none⟩=some (.bool t)∧wa.cell? ⟨w8.heap.size,1,none⟩=some (.slice aq (digs N).length cq)∧wa.cell? ⟨w9.heap.size,0,none⟩=some (.bool false)∧wa.cell? ⟨w9.heap.size,1,none⟩=some (.slice ar (digs M).length cr):=s0
 have d0:=G3.out.cell (i:=0) (v:=.bool false) rfl
 have d1:=(G3.out.set 0 (.bool t)).cell (i:=1) (v:=.slice none 0 0) rfl
 have d2:=((G4.out.other (p:=⟨w.heap.size+2,0,none⟩) (by dsimp only;omega) (.bool t)).other (p:=⟨w.heap.size+2,1,none⟩) (by dsimp only;omega) (.slice aq (digs N).length cq)).cell (i:=0) (v:=.bool false) rfl
 have d3:=(((G4.out.other (p:=⟨w.heap.size+2,0,none⟩) (by dsimp only;omega) (.bool t)).other (p:=⟨w.heap.size+2,1,none⟩) (by dsimp only;omega) (.slice aq (digs N).length cq)).set 0 (.bool false)).cell (i:=1) (v:=.slice none 0 0) rfl
 have f0:=G3.out.free 0
 have f1:=(G3.out.set 0 (.bool t)).free 1
 have f2:=((G4.out.other (p:=⟨w.heap.size+2,0,none⟩) (by dsimp only;omega) (.bool t)).other (p:=⟨w.heap.size+2,1,none⟩) (by dsimp only;omega) (.slice aq (digs N).length cq)).free 0
 have f3:=(((G4.out.other (p:=⟨w.heap.size+2,0,none⟩) (by dsimp only;omega) (.bool t)).other (p:=⟨w.heap.size+2,1,none⟩) (by dsimp only;omega) (.slice aq (digs N).length cq)).set 0 (.bool false)).free 1
 refine wp_region_held_drew (S:=(fun w'=>w'.cell? ⟨w8.heap.size,0,none⟩=some (.bool t)∧w'.cell? ⟨w8.heap.size,1,none⟩=some (.slice aq (digs N).length cq)∧w'.cell? ⟨w9.heap.size,0,none⟩=some (.bool false)∧w'.cell? ⟨w9.heap.size,1,none⟩=some (.slice ar (digs M).length cr))) (by kernel_rfl) ?_ (fun hHeld=>?_)
 ·(first | with_reducible exact s0 | (refine⟨?_,?_,?_,?_⟩ <;> (rw [drew_cell];(repeat (rw [World.cell?_setCell_far _ _ _ _ (by dsimp only;omega)]));(first | with_reducible exact s1.1 | with_reducible exact s1.2.1 | with_reducible exact s1.2.2.1 | with_reducible exact s1.2.2.2))))
 (try simp only [pur,Nat.reduceAdd])
 refine tk (v:=?_) 0 rfl (by kernel_rfl) (fun _ _ _ h=>h) (by rfl) ?_ (by assumption) ?_
 rotate_left
 ·(intro w hSw;(try dsimp only at hSw);(try go_simp);(try with_reducible rfl))
 (try simp only [Act.put,pus])
 refine tk (v:=?_) 1 rfl (by kernel_rfl) (fun _ _ _ h=>h) (by rfl) ?_ (by assumption) ?_
 rotate_left
 ·(intro w hSw;(try dsimp only at hSw);(try go_simp);(try with_reducible rfl))
 (try simp only [Act.put,pus])
 refine wpAnyH_ready (rs:=[2]) (by kernel_rfl) (by simp) ?_
 refine AllReadyH.cons (o:=_) rfl (fun K hK=>?_) ?_
 ·go_simp
  refine hK.out _ _ ?_ (fun hHeld2=>?_)
  ·(first | with_reducible exact s0 | (refine⟨?_,?_,?_,?_⟩ <;> (rw [drew_cell];(repeat (rw [World.cell?_setCell_far _ _ _ _ (by dsimp only;omega)]));(first | with_reducible exact s1.1 | with_reducible exact s1.2.1 | with_reducible exact s1.2.2.1 | with_reducible exact s1.2.2.2))))
  clear hK K hHeld
  have hHeld:=hHeld2
  clear hHeld2
  (try simp only [Act.put,pus])
  refine wpAnyH_ready (rs:=[3]) (by kernel_rfl) (by simp) ?_
  refine AllReadyH.cons (o:=_) rfl (fun K hK=>?_) ?_
  ·go_simp
   refine hK.out _ _ ?_ (fun hHeld2=>?_)
   ·(first | with_reducible exact s0 | (refine⟨?_,?_,?_,?_⟩ <;> (rw [drew_cell];(repeat (rw [World.cell?_setCell_far _ _ _ _ (by dsimp only;omega)]));(first | with_reducible exact s1.1 | with_reducible exact s1.2.1 | with_reducible exact s1.2.2.1 | with_reducible exact s1.2.2.2))))
   clear hK K hHeld
   have hHeld:=hHeld2
   clear hHeld2
   (try simp only [Act.put,pus])
   refine tk (v:=?_) 4 rfl (by kernel_rfl) (fun _ _ _ h=>h) (by rfl) ?_ (by assumption) ?_
   rotate_left
   ·(intro w hSw;(try dsimp only at hSw);(try go_simp);(try with_reducible rfl))
   (try simp only [Act.put,pus])
   refine wpAnyH_done (by kernel_rfl) ?_ _
   (go_wp2_with fail;have L3:=(((G3.out.set 0 (.bool t)).set 1 (.slice aq (digs N).length cq)).other (p:=⟨w.heap.size+3,0,none⟩) (by dsimp only;omega) (.bool false)).other (p:=⟨w.heap.size+3,1,none⟩) (by dsimp only;omega) (.slice ar (digs M).length cr);have L4:=(((G4.out.other (p:=⟨w.heap.size+2,0,none⟩) (by dsimp only;omega) (.bool t)).other (p:=⟨w.heap.size+2,1,none⟩) (by dsimp only;omega) (.slice aq (digs N).length cq)).set 0 (.bool false)).set 1 (.slice ar (digs M).length cr);have e0:=L3.cell (i:=0) (v:=.bool t) rfl;have e1:=L3.cell (i:=1) (v:=.slice aq (digs N).length cq) rfl;have e2:=L4.cell (i:=0) (v:=.bool false) rfl;have e3:=L4.cell (i:=1) (v:=.slice ar (digs M).length cr) rfl;have hbq:∀A,aq=some A→w.heap.size+4≤A.block:=fun A hA=>(by have:=HB.out.1 A hA;omega);have hbr:∀A,ar=some A→w.heap.size+4≤A.block:=fun A hA=>(by have:=HB.out.2 A hA;omega);refine bodyPost_ret (v:=.tuple #[.agg #[.bool t,.slice aq (digs N).length cq],.agg #[.bool false,.slice ar (digs M).length cr],.int .i64 0]) (by simp [results,Tryz.results105,go_sem,e0,e1,e2,e3]) rfl ?_;have hQ:=HP.out.1.1;have hR:=HP.out.1.2;rw [HSS.out] at hQ;have b1:=big_of n2 N;rw [HTT.out] at b1;have b2:=big_of false M;rw [Bool.false_and] at b2;refine⟨_,_,rfl,?_,?_,((((GX.out.set (p:=⟨w.heap.size+2,0,none⟩) (by dsimp only;omega) _).set (p:=⟨w.heap.size+2,1,none⟩) (by dsimp only;omega) _).set (p:=⟨w.heap.size+3,0,none⟩) (by dsimp only;omega) _).set (p:=⟨w.heap.size+3,1,none⟩) (by dsimp only;omega) _).drew⟩;(focus (rw [hQ];exact⟨_,_,_,_,rfl,Ints.ext (Ext.refl _).drew ((((HIQ9.out.putO (p:=⟨w.heap.size+2,0,none⟩) (fun A hA=>by have:=hbq A hA;dsimp only;omega) _).putO (p:=⟨w.heap.size+2,1,none⟩) (fun A hA=>by have:=hbq A hA;dsimp only;omega) _).putO (p:=⟨w.heap.size+3,0,none⟩) (fun A hA=>by have:=hbq A hA;dsimp only;omega) _).putO (p:=⟨w.heap.size+3,1,none⟩) (fun A hA=>by have:=hbq A hA;dsimp only;omega) _),b1,fun A hA=>by have:=hbq A hA;omega⟩));(focus (rw [hR];exact⟨_,_,⟨_,_,rfl,Ints.ext (Ext.refl _).drew ((((HIR9.out.putO (p:=⟨w.heap.size+2,0,none⟩) (fun A hA=>by have:=hbr A hA;dsimp only;omega) _).putO (p:=⟨w.heap.size+2,1,none⟩) (fun A hA=>by have:=hbr A hA;dsimp only;omega) _).putO (p:=⟨w.heap.size+3,0,none⟩) (fun A hA=>by have:=hbr A hA;dsimp only;omega) _).putO (p:=⟨w.heap.size+3,1,none⟩) (fun A hA=>by have:=hbr A hA;dsimp only;omega) _)⟩,b2⟩)))
  exact AllReadyH.nil
 exact AllReadyH.nil
set_option maxHeartbeats 2000000 in
theorem ref_Div_A1 (n2:Bool) (a b:Option Addr) (ca cb:Nat) (l m:List Int) (w:World) (h:Ints w a ca l) (k:Ints w b cb m) (h1:chkB true l=true) (h2:chkB n2 m=true) (hm:m≠[]) (hc0:(dval l % dval m).toNat=0):
 Calls Tryz.prog 105 #[.agg #[.bool true,.slice a l.length ca],.agg #[.bool n2,.slice b m.length cb]] w (DivO (sgn true (dval l)) (sgn n2 (dval m)) w):=by
 obtain⟨w3,hw3,B1,B2,B3,B4,hx,hs3⟩:=boxes4 w #[.bool true,.slice a l.length ca] #[.bool n2,.slice b m.length cb] #[.bool false,.slice none 0 0] #[.bool false,.slice none 0 0] 36 36 36 36
 have c0:=B1.cell (i:=0) (v:=.bool true) rfl
 have c1:=B1.cell (i:=1) (v:=.slice a l.length ca) rfl
 have c2:=B2.cell (i:=0) (v:=.bool n2) rfl
 have c3:=B2.cell (i:=1) (v:=.slice b m.length cb) rfl
 have H1:=Lib.hid B1
 have H2:=Lib.hid B2
 have H3:=Lib.hid B3
 have H4:=Lib.hid B4
 have HW:=Lib.hid hw3
 have HT:=ref_two true n2 a b ca cb l m w3 (h.ext hx) (k.ext hx)
 rw [h1,h2] at HT
 have HT:=Lib.hid (show Calls Tryz.prog 69 _ w3 fun e w'=>e=.returned (.int .i64 0)∧Ext w3 w' from HT)
 obtain⟨z1,y1⟩:=of_chk h1
 obtain⟨z2,y2⟩:=of_chk h2
 have hF:DivF true n2 l m:=div_facts z1.1 z2.1 y1 y2 hm
 have hmp:0<m.length:=List.length_pos_iff.2 hm
 have t1:((m.length:Int) == 0)=false:=by simp;omega
 have t1':(m.length == 0)=false:=by simp;omega
 have HD:=Lib.hid (fun W (hy:Ext w W)=>ref_divide a b ca cb l.length m.length _ l m W (h.ext hy) (k.ext hy) z1.1.digs z2.1 hmp rfl rfl rfl (by omega) (by omega))
 have HF:=Lib.hid hF
 have HM:=Lib.hid (And.intro (fun W (hy:Ext w W)=>k.ext hy) (And.intro z2.1 (And.intro y1 y2)))
 have HSS:=Lib.hid (show(!(true == n2))= (!n2) from by cases n2 <;> rfl)
 have hc:true=false∨(dval l % dval m).toNat=0:=.inr hc0
 have HC0:=Lib.hid hc0
 have hp:=hF.plain hc
 have hsm:=hF.small
 have HP:=Lib.hid (And.intro hp hsm)
 clear hp hsm hc hc0
 clear z1 z2 y1 y2 h1 h2 h k B1 B2 B3 B4 hw3 hF hm hmp
 go_enter Tryz.func105,Tryz.ntmps105
 go_upto_region 1 with fail
 rw [HW.out]
 simp only [Nat.add_assoc,Nat.reduceAdd]
 go_wp2_with fail
 refine HT.out.mono ?_
 rintro e w5 ⟨rfl,hy⟩
 have K3:=Lib.hid (H3.out.ext hy)
 have K4:=Lib.hid (H4.out.ext hy)
 have hx5:=hx.trans hy
 have hs5:w.heap.size+4≤w5.heap.size:=by have:=hy.size;omega
 have HD5:=Lib.hid (HD.out w5 hx5)
 clear c0 c1 c2 c3
 have c0:=(H1.out.ext hy).cell (i:=0) (v:=.bool true) rfl
 have c1:=(H1.out.ext hy).cell (i:=1) (v:=.slice a l.length ca) rfl
 have c2:=(H2.out.ext hy).cell (i:=0) (v:=.bool n2) rfl
 have c3:=(H2.out.ext hy).cell (i:=1) (v:=.slice b m.length cb) rfl
 have K1:=Lib.hid (H1.out.ext hy)
 have K2:=Lib.hid (H2.out.ext hy)
 clear HT H1 H2 H3 H4 HD
 go_wp2_with fail
 refine HD5.out.mono ?_
 rintro e w6 ⟨aq,cq,ar,cr,rfl,hiq,hir,hbq,hbr,hy6⟩
 have hx6:=hx5.trans hy6
 clear c0 c1 c2 c3 HD5
 have c0:=(K1.out.ext hy6).cell (i:=0) (v:=.bool true) rfl
 have c2:=(K2.out.ext hy6).cell (i:=0) (v:=.bool n2) rfl
 have c3:=(K2.out.ext hy6).cell (i:=1) (v:=.slice b m.length cb) rfl
 have K1:=Lib.hid (K1.out.ext hy6)
 have K2:=Lib.hid (K2.out.ext hy6)
 have K3:=Lib.hid (K3.out.ext hy6)
 have K4:=Lib.hid (K4.out.ext hy6)
 have hs6:=K4.out.lt
 obtain⟨N,hN⟩:∃N,(dval l / dval m).toNat=N:=⟨_,rfl⟩
 obtain⟨M,hM⟩:∃M,(dval l % dval m).toNat=M:=⟨_,rfl⟩
 rw [hN] at hiq HP ⊢
 rw [hM] at hir HP ⊢
 obtain⟨Ql,hQl⟩:∃Ql,digs N=Ql:=⟨_,rfl⟩
 obtain⟨Rl,hRl⟩:∃Rl,digs M=Rl:=⟨_,rfl⟩
 have hTq:trimL Ql=digs N:=by rw [←hQl];exact trim_id (digs_norm _)
 have hTr:trimL Rl=digs M:=by rw [←hRl];exact trim_id (digs_norm _)
 have hLq:(digs N).length≤2048:=HP.out.2.1
 have hLr:(digs M).length≤2048:=HP.out.2.2
 rw [hQl] at hiq ⊢
 rw [hRl] at hir ⊢
 have gg:decide (0<Rl.length)=false:=by rw [←hRl,←hM,HC0.out,digs_zero];rfl
 clear hQl hRl hN hM
 have hOq:=ref_of_ok (!n2) aq cq Ql w6 hiq (by rw [hTq];exact hLq)
 rw [hTq] at hOq
 have HOQ:=Lib.hid hOq
 have HIQ:=Lib.hid (show Ints w6 aq cq (digs N) from by have:=hiq.take (trimL Ql).length;rwa [←trim_take,hTq] at this)
 have HIR:=Lib.hid hir
 have HTR:=Lib.hid (And.intro hTr hLr)
 have HB:=Lib.hid (And.intro hbq hbr)
 clear hOq hiq hir hTq hLq hTr hLr hbq hbr
 go_upto_region 10 with fail
 go_wp2_with fail
 (with_reducible refine HOQ.out.mono ?_)
 rintro e w8 ⟨rfl,hy8⟩
 have hOr:=ref_of_ok false ar cr Rl _ ((HIR.out.ext hy8).ext (Ext.alloc w8 (.cells #[.bool ((!n2) && decide (0< (digs N).length)),.slice aq (digs N).length cq] 36))) (by rw [HTR.out.1];exact HTR.out.2)
 rw [HTR.out.1,Bool.false_and] at hOr
 have HOR:=Lib.hid hOr
 obtain⟨t,ht⟩:∃t,((!n2) && decide (0< (digs N).length))=t:=⟨_,rfl⟩
 rw [ht] at HOR ⊢
 have HTT:=Lib.hid ht
 have HY8:=Lib.hid hy8
 clear hOr ht c0 c2 c3 HOQ
 go_upto_region 11 with fail
 go_wp2_with fail
 (with_reducible refine HOR.out.mono ?_)
 rintro e w9 ⟨rfl,hy9⟩
 have J10:=Lib.hid ((Blk.new0 w8 #[.bool t,.slice aq (digs N).length cq] 36).ext hy9)
 have HX9:=Lib.hid ((HY8.out.trans (Ext.alloc w8 (.cells #[.bool t,.slice aq (digs N).length cq] 36))).trans hy9)
 have hs8:=HY8.out.size
 have hs9:=J10.out.lt
 clear HOR hy9
 have HIQ9:=Lib.hid ((HIQ.out.ext HX9.out).ext (Ext.alloc w9 (.cells #[.bool false,.slice ar (digs M).length cr] 36)))
 have hr9:=(HIR.out.take (trimL Rl).length)
 rw [←trim_take,HTR.out.1] at hr9
 have HIR9:=Lib.hid ((hr9.ext HX9.out).ext (Ext.alloc w9 (.cells #[.bool false,.slice ar (digs M).length cr] 36)))
 have G3:=Lib.hid ((K3.out.ext HX9.out).alloc (.cells #[.bool false,.slice ar (digs M).length cr] 36))
 have G4:=Lib.hid ((K4.out.ext HX9.out).alloc (.cells #[.bool false,.slice ar (digs M).length cr] 36))
 have G10:=Lib.hid (J10.out.alloc (.cells #[.bool false,.slice ar (digs M).length cr] 36))
 have G12:=Lib.hid (Blk.new0 w9 #[.bool false,.slice ar (digs M).length cr] 36)
 have GX:=Lib.hid ((hx6.trans HX9.out).alloc' (.cells #[.bool false,.slice ar (digs M).length cr] 36))
 clear hr9 HIR HIQ K1 K2 K3 K4 J10 HY8
 go_upto_region 14 with fail
 generalize w9.alloc (.cells #[.bool false,.slice ar (digs M).length cr] 36)=wa at *
 have s0:wa.drew.cell? ⟨w8.heap.size,0,none⟩=some (.bool t)∧wa.drew.cell? ⟨w8.heap.size,1,none⟩=some (.slice aq (digs N).length cq)∧wa.drew.cell? ⟨w9.heap.size,0,none⟩=some (.bool false)∧wa.drew.cell? ⟨w9.heap.size,1,none⟩=some (.slice ar (digs M).length cr):=⟨G10.out.cell rfl,G10.out.cell rfl,G12.out.cell rfl,G12.out.cell rfl⟩
 have s1:wa.cell? ⟨w8.heap.size,0,none⟩=some (.bool t)∧wa.cell? ⟨w8.heap.size,1,none⟩=some (.slice aq (digs N).length cq)∧wa.cell? ⟨w9.heap.size,0,none⟩=some (.bool false)∧wa.cell? ⟨w9.heap.size,1,none⟩=some (.slice ar (digs M).length cr):=s0
 have d0:=G3.out.cell (i:=0) (v:=.bool false) rfl
 have d1:=(G3.out.set 0 (.bool t)).cell (i:=1) (v:=.slice none 0 0) rfl
 have d2:=((G4.out.other (p:=⟨w.heap.size+2,0,none⟩) (by dsimp only;omega) (.bool t)).other (p:=⟨w.heap.size+2,1,none⟩) (by dsimp only;omega) (.slice aq (digs N).length cq)).cell (i:=0) (v:=.bool false) rfl
 have d3:=(((G4.out.other (p:=⟨w.heap.size+2,0,none⟩) (by dsimp only;omega) (.bool t)).other (p:=⟨w.heap.size+2,1,none⟩) (by dsimp only;omega) (.slice aq (digs N).length cq)).set 0 (.bool false)).cell (i:=1) (v:=.slice none 0 0) rfl
 have f0:=G3.out.free 0
 have f1:=(G3.out.set 0 (.bool t)).free 1
 have f2:=((G4.out.other (p:=⟨w.heap.size+2,0,none⟩) (by dsimp only;omega) (.bool t)).other (p:=⟨w.heap.size+2,1,none⟩) (by dsimp only;omega) (.slice aq (digs N).length cq)).free 0
 have f3:=(((G4.out.other (p:=⟨w.heap.size+2,0,none⟩) (by dsimp only;omega) (.bool t)).other (p:=⟨w.heap.size+2,1,none⟩) (by dsimp only;omega) (.slice aq (digs N).length cq)).set 0 (.bool false)).free 1
 refine wp_region_held_drew (S:=(fun w'=>w'.cell? ⟨w8.heap.size,0,none⟩=some (.bool t)∧w'.cell? ⟨w8.heap.size,1,none⟩=some (.slice aq (digs N).length cq)∧w'.cell? ⟨w9.heap.size,0,none⟩=some (.bool false)∧w'.cell? ⟨w9.heap.size,1,none⟩=some (.slice ar (digs M).length cr))) (by kernel_rfl) ?_ (fun hHeld=>?_)
 ·(first | with_reducible exact s0 | (refine⟨?_,?_,?_,?_⟩ <;> (rw [drew_cell];(repeat (rw [World.cell?_setCell_far _ _ _ _ (by dsimp only;omega)]));(first | with_reducible exact s1.1 | with_reducible exact s1.2.1 | with_reducible exact s1.2.2.1 | with_reducible exact s1.2.2.2))))
 (try simp only [pur,Nat.reduceAdd])
 refine tk (v:=?_) 0 rfl (by kernel_rfl) (fun _ _ _ h=>h) (by rfl) ?_ (by assumption) ?_
 rotate_left
 ·(intro w hSw;(try dsimp only at hSw);(try go_simp);(try with_reducible rfl))
 (try simp only [Act.put,pus])
 refine tk (v:=?_) 1 rfl (by kernel_rfl) (fun _ _ _ h=>h) (by rfl) ?_ (by assumption) ?_
 rotate_left
 ·(intro w hSw;(try dsimp only at hSw);(try go_simp);(try with_reducible rfl))
 (try simp only [Act.put,pus])
 refine wpAnyH_ready (rs:=[2]) (by kernel_rfl) (by simp) ?_
 refine AllReadyH.cons (o:=_) rfl (fun K hK=>?_) ?_
 ·go_simp
  refine hK.out _ _ ?_ (fun hHeld2=>?_)
  ·(first | with_reducible exact s0 | (refine⟨?_,?_,?_,?_⟩ <;> (rw [drew_cell];(repeat (rw [World.cell?_setCell_far _ _ _ _ (by dsimp only;omega)]));(first | with_reducible exact s1.1 | with_reducible exact s1.2.1 | with_reducible exact s1.2.2.1 | with_reducible exact s1.2.2.2))))
  clear hK K hHeld
  have hHeld:=hHeld2
  clear hHeld2
  (try simp only [Act.put,pus])
  refine wpAnyH_ready (rs:=[3]) (by kernel_rfl) (by simp) ?_
  refine AllReadyH.cons (o:=_) rfl (fun K hK=>?_) ?_
  ·go_simp
   refine hK.out _ _ ?_ (fun hHeld2=>?_)
   ·(first | with_reducible exact s0 | (refine⟨?_,?_,?_,?_⟩ <;> (rw [drew_cell];(repeat (rw [World.cell?_setCell_far _ _ _ _ (by dsimp only;omega)]));(first | with_reducible exact s1.1 | with_reducible exact s1.2.1 | with_reducible exact s1.2.2.1 | with_reducible exact s1.2.2.2))))
   clear hK K hHeld
   have hHeld:=hHeld2
   clear hHeld2
   (try simp only [Act.put,pus])
   refine tk (v:=?_) 4 rfl (by kernel_rfl) (fun _ _ _ h=>h) (by rfl) ?_ (by assumption) ?_
   rotate_left
   ·(intro w hSw;(try dsimp only at hSw);(try go_simp);(try with_reducible rfl))
   (try simp only [Act.put,pus])
   refine wpAnyH_done (by kernel_rfl) ?_ _
   (go_wp2_with fail;have L3:=(((G3.out.set 0 (.bool t)).set 1 (.slice aq (digs N).length cq)).other (p:=⟨w.heap.size+3,0,none⟩) (by dsimp only;omega) (.bool false)).other (p:=⟨w.heap.size+3,1,none⟩) (by dsimp only;omega) (.slice ar (digs M).length cr);have L4:=(((G4.out.other (p:=⟨w.heap.size+2,0,none⟩) (by dsimp only;omega) (.bool t)).other (p:=⟨w.heap.size+2,1,none⟩) (by dsimp only;omega) (.slice aq (digs N).length cq)).set 0 (.bool false)).set 1 (.slice ar (digs M).length cr);have e0:=L3.cell (i:=0) (v:=.bool t) rfl;have e1:=L3.cell (i:=1) (v:=.slice aq (digs N).length cq) rfl;have e2:=L4.cell (i:=0) (v:=.bool false) rfl;have e3:=L4.cell (i:=1) (v:=.slice ar (digs M).length cr) rfl;have hbq:∀A,aq=some A→w.heap.size+4≤A.block:=fun A hA=>(by have:=HB.out.1 A hA;omega);have hbr:∀A,ar=some A→w.heap.size+4≤A.block:=fun A hA=>(by have:=HB.out.2 A hA;omega);refine bodyPost_ret (v:=.tuple #[.agg #[.bool t,.slice aq (digs N).length cq],.agg #[.bool false,.slice ar (digs M).length cr],.int .i64 0]) (by simp [results,Tryz.results105,go_sem,e0,e1,e2,e3]) rfl ?_;have hQ:=HP.out.1.1;have hR:=HP.out.1.2;rw [HSS.out] at hQ;have b1:=big_of (!n2) N;rw [HTT.out] at b1;have b2:=big_of false M;rw [Bool.false_and] at b2;refine⟨_,_,rfl,?_,?_,((((GX.out.set (p:=⟨w.heap.size+2,0,none⟩) (by dsimp only;omega) _).set (p:=⟨w.heap.size+2,1,none⟩) (by dsimp only;omega) _).set (p:=⟨w.heap.size+3,0,none⟩) (by dsimp only;omega) _).set (p:=⟨w.heap.size+3,1,none⟩) (by dsimp only;omega) _).drew⟩;(focus (rw [hQ];exact⟨_,_,_,_,rfl,Ints.ext (Ext.refl _).drew ((((HIQ9.out.putO (p:=⟨w.heap.size+2,0,none⟩) (fun A hA=>by have:=hbq A hA;dsimp only;omega) _).putO (p:=⟨w.heap.size+2,1,none⟩) (fun A hA=>by have:=hbq A hA;dsimp only;omega) _).putO (p:=⟨w.heap.size+3,0,none⟩) (fun A hA=>by have:=hbq A hA;dsimp only;omega) _).putO (p:=⟨w.heap.size+3,1,none⟩) (fun A hA=>by have:=hbq A hA;dsimp only;omega) _),b1,fun A hA=>by have:=hbq A hA;omega⟩));(focus (rw [hR];exact⟨_,_,⟨_,_,rfl,Ints.ext (Ext.refl _).drew ((((HIR9.out.putO (p:=⟨w.heap.size+2,0,none⟩) (fun A hA=>by have:=hbr A hA;dsimp only;omega) _).putO (p:=⟨w.heap.size+2,1,none⟩) (fun A hA=>by have:=hbr A hA;dsimp only;omega) _).putO (p:=⟨w.heap.size+3,0,none⟩) (fun A hA=>by have:=hbr A hA;dsimp only;omega) _).putO (p:=⟨w.heap.size+3,1,none⟩) (fun A hA=>by have:=hbr A hA;dsimp only;omega) _)⟩,b2⟩)))
  exact AllReadyH.nil
 exact AllReadyH.nil
set_option maxHeartbeats 2000000 in
theorem ref_Div_B (n2:Bool) (a b:Option Addr) (ca cb:Nat) (l m:List Int) (w:World) (h:Ints w a ca l) (k:Ints w b cb m) (h1:chkB true l=true) (h2:chkB n2 m=true) (hm:m≠[]) (hc:0< (dval l % dval m).toNat):
 Calls Tryz.prog 105 #[.agg #[.bool true,.slice a l.length ca],.agg #[.bool n2,.slice b m.length cb]] w (DivO (sgn true (dval l)) (sgn n2 (dval m)) w):=by
 obtain⟨w3,hw3,B1,B2,B3,B4,hx,hs3⟩:=boxes4 w #[.bool true,.slice a l.length ca] #[.bool n2,.slice b m.length cb] #[.bool false,.slice none 0 0] #[.bool false,.slice none 0 0] 36 36 36 36
 have c0:=B1.cell (i:=0) (v:=.bool true) rfl
 have c1:=B1.cell (i:=1) (v:=.slice a l.length ca) rfl
 have c2:=B2.cell (i:=0) (v:=.bool n2) rfl
 have c3:=B2.cell (i:=1) (v:=.slice b m.length cb) rfl
 have H1:=Lib.hid B1
 have H2:=Lib.hid B2
 have H3:=Lib.hid B3
 have H4:=Lib.hid B4
 have HW:=Lib.hid hw3
 have HT:=ref_two true n2 a b ca cb l m w3 (h.ext hx) (k.ext hx)
 rw [h1,h2] at HT
 have HT:=Lib.hid (show Calls Tryz.prog 69 _ w3 fun e w'=>e=.returned (.int .i64 0)∧Ext w3 w' from HT)
 obtain⟨z1,y1⟩:=of_chk h1
 obtain⟨z2,y2⟩:=of_chk h2
 have hF:DivF true n2 l m:=div_facts z1.1 z2.1 y1 y2 hm
 have hmp:0<m.length:=List.length_pos_iff.2 hm
 have t1:((m.length:Int) == 0)=false:=by simp;omega
 have t1':(m.length == 0)=false:=by simp;omega
 have HD:=Lib.hid (fun W (hy:Ext w W)=>ref_divide a b ca cb l.length m.length _ l m W (h.ext hy) (k.ext hy) z1.1.digs z2.1 hmp rfl rfl rfl (by omega) (by omega))
 have HF:=Lib.hid hF
 have HM:=Lib.hid (And.intro (fun W (hy:Ext w W)=>k.ext hy) (And.intro z2.1 (And.intro y1 y2)))
 have HSS:=Lib.hid (show(!(true == n2))= (!n2) from by cases n2 <;> rfl)
 have hp:=hF.up rfl hc
 have HP:=Lib.hid (show(_∧_)∧(_∧_) from⟨⟨hp.1,hp.2.1⟩,hp.2.2.1,hp.2.2.2.1⟩)
 have HLE:=Lib.hid hp.2.2.2.2
 have HC:=Lib.hid hc
 clear hp hc
 clear z1 z2 y1 y2 h1 h2 h k B1 B2 B3 B4 hw3 hF hm hmp
 go_enter Tryz.func105,Tryz.ntmps105
 go_upto_region 1 with fail
 rw [HW.out]
 simp only [Nat.add_assoc,Nat.reduceAdd]
 go_wp2_with fail
 refine HT.out.mono ?_
 rintro e w5 ⟨rfl,hy⟩
 have K3:=Lib.hid (H3.out.ext hy)
 have K4:=Lib.hid (H4.out.ext hy)
 have hx5:=hx.trans hy
 have hs5:w.heap.size+4≤w5.heap.size:=by have:=hy.size;omega
 have HD5:=Lib.hid (HD.out w5 hx5)
 clear c0 c1 c2 c3
 have c0:=(H1.out.ext hy).cell (i:=0) (v:=.bool true) rfl
 have c1:=(H1.out.ext hy).cell (i:=1) (v:=.slice a l.length ca) rfl
 have c2:=(H2.out.ext hy).cell (i:=0) (v:=.bool n2) rfl
 have c3:=(H2.out.ext hy).cell (i:=1) (v:=.slice b m.length cb) rfl
 have K1:=Lib.hid (H1.out.ext hy)
 have K2:=Lib.hid (H2.out.ext hy)
 clear HT H1 H2 H3 H4 HD
 go_wp2_with fail
 refine HD5.out.mono ?_
 rintro e w6 ⟨aq,cq,ar,cr,rfl,hiq,hir,hbq,hbr,hy6⟩
 have hx6:=hx5.trans hy6
 clear c0 c1 c2 c3 HD5
 have c0:=(K1.out.ext hy6).cell (i:=0) (v:=.bool true) rfl
 have c2:=(K2.out.ext hy6).cell (i:=0) (v:=.bool n2) rfl
 have c3:=(K2.out.ext hy6).cell (i:=1) (v:=.slice b m.length cb) rfl
 have K1:=Lib.hid (K1.out.ext hy6)
 have K2:=Lib.hid (K2.out.ext hy6)
 have K3:=Lib.hid (K3.out.ext hy6)
 have K4:=Lib.hid (K4.out.ext hy6)
 have hs6:=K4.out.lt
 obtain⟨Q0,hQ0⟩:∃Q0,(dval l / dval m).toNat=Q0:=⟨_,rfl⟩
 obtain⟨R0,hR0⟩:∃R0,(dval l % dval m).toNat=R0:=⟨_,rfl⟩
 rw [hQ0] at hiq HP ⊢
 rw [hR0] at hir HP HLE HC ⊢
 obtain⟨N,hN⟩:∃N,Q0+1=N:=⟨_,rfl⟩
 obtain⟨M,hM⟩:∃M,(dval m - (R0:Int)).toNat=M:=⟨_,rfl⟩
 rw [hN] at HP
 rw [hM] at HP
 have hq1:(digs Q0).length≤2048:=Nat.le_trans (digs_mono2 (by omega)) HP.out.2.1
 have hr1:0< (digs R0).length:=by rw [digs_pos HC.out];simp
 have d1:decide (0< (digs R0).length)=true:=by simpa using hr1
 have HRP:=Lib.hid hr1
 have hI1:Ints (w6.alloc (.cells #[.int .i64 1] 3)) (some ⟨w6.heap.size,0,none⟩) 1 [1]:=IB.ints (g:=w6.heap.size) (L:=[1]) (Blk.new0 w6 #[.int .i64 1] 3) (fun x hx=>by obtain rfl:=List.mem_singleton.1 hx;omega) (by simp)
 have hPl:=ref_plus aq _ cq 1 (digs Q0) [1] _ (hiq.ext (Ext.alloc _ _)) hI1 (digs_norm _).digs (fun x hx=>by obtain rfl:=List.mem_singleton.1 hx;omega) 2049 (by omega) (by simp) (by omega)
 have hv1:dval (digs Q0)+dval [1]= (N:Int):=by rw [digs_val,←hN];simp [dval]
 rw [hv1] at hPl
 have HPL:=Lib.hid hPl
 have HIR0:=Lib.hid hir
 have HBR0:=Lib.hid hbr
 have HNM:=Lib.hid (And.intro hN hM)
 clear hPl hI1 hv1 hir hbr hr1 hq1 hN hM hQ0 hR0 hiq hbq
 go_wp2_with fail
 refine HPL.out.mono ?_
 rintro e w7 ⟨v7,Ql,rfl,hO7,hd7,hv7,hl7,hy7⟩
 obtain⟨g7,c7,rfl,hiq7,hb7⟩:=hO7.look hd7.bd
 have hy67:=(Ext.alloc w6 (.cells #[.int .i64 1] 3)).trans hy7
 have hx7:=hx6.trans hy67
 have hs67:=hy67.size
 have hs56:=hy6.size
 have hTq0:trimL Ql=digs N:=by rw [trim_eq hd7,hv7,Int.toNat_natCast]
 have hg7:w5.heap.size≤g7:=by simp only [World.size_alloc] at hb7;omega
 clear c0 c2 c3
 have c0:=(K1.out.ext hy67).cell (i:=0) (v:=.bool true) rfl
 have c2:=(K2.out.ext hy67).cell (i:=0) (v:=.bool n2) rfl
 have c3:=(K2.out.ext hy67).cell (i:=1) (v:=.slice b m.length cb) rfl
 have K1:=Lib.hid (K1.out.ext hy67)
 have K2:=Lib.hid (K2.out.ext hy67)
 have K3:=Lib.hid (K3.out.ext hy67)
 have K4:=Lib.hid (K4.out.ext hy67)
 have hLs:=ref_less b ar cb cr m (digs R0) w7 (HM.out.1 w7 hx7) (HIR0.out.ext hy67) HM.out.2.1.digs (digs_norm _) (by have:=HM.out.2.2.2;omega) (by rw [digs_val];exact HLE.out)
 rw [digs_val,HNM.out.2] at hLs
 have HLS:=Lib.hid hLs
 have HQ7:=Lib.hid (And.intro hiq7 (And.intro hTq0 hd7))
 clear hLs hO7 hv7 hl7 hy7 hiq7 hTq0 hb7 hd7 HPL d1
 go_wp2_with fail
 refine HLS.out.mono ?_
 rintro e wb ⟨v9,rfl,hO9,hy9⟩
 obtain⟨g9,c9,rfl,hir,hb9⟩:=hO9.look (digs_norm _).digs.bd
 obtain⟨aq,haq⟩:∃aq,some (⟨g7,0,none⟩:Addr)=aq:=⟨_,rfl⟩
 obtain⟨ar,har⟩:∃ar,some (⟨g9,0,none⟩:Addr)=ar:=⟨_,rfl⟩
 obtain⟨cq,hcq⟩:∃cq,c7=cq:=⟨_,rfl⟩
 obtain⟨cr,hcr⟩:∃cr,c9=cr:=⟨_,rfl⟩
 obtain⟨Rl,hRl⟩:∃Rl,digs M=Rl:=⟨_,rfl⟩
 have hiq:=HQ7.out.1.ext hy9
 have hTq:=HQ7.out.2.1
 have hTr:trimL Rl=digs M:=by rw [←hRl];exact trim_id (digs_norm _)
 have hLq:(digs N).length≤2048:=HP.out.2.1
 have hLr:(digs M).length≤2048:=HP.out.2.2
 have hbq:∀A,aq=some A→w5.heap.size≤A.block:=fun A hA=>by rw [←haq] at hA;cases hA;exact hg7
 have hbr:∀A,ar=some A→w5.heap.size≤A.block:=fun A hA=>by rw [←har] at hA;cases hA;dsimp only;omega
 rw [haq,hcq] at hiq
 rw [har,hcr,hRl] at hir
 rw [haq,har,hcq,hcr,hRl]
 have hx6:=hx7.trans hy9
 clear c0 c2 c3
 have c0:=(K1.out.ext hy9).cell (i:=0) (v:=.bool true) rfl
 have c2:=(K2.out.ext hy9).cell (i:=0) (v:=.bool n2) rfl
 have c3:=(K2.out.ext hy9).cell (i:=1) (v:=.slice b m.length cb) rfl
 have K1:=Lib.hid (K1.out.ext hy9)
 have K2:=Lib.hid (K2.out.ext hy9)
 have K3:=Lib.hid (K3.out.ext hy9)
 have K4:=Lib.hid (K4.out.ext hy9)
 have hs6b:=K4.out.lt
 clear hO9 haq har hcq hcr hRl HLS HQ7 hy9
 have hOq:=ref_of_ok (!n2) aq cq Ql wb hiq (by rw [hTq];exact hLq)
 rw [hTq] at hOq
 have HOQ:=Lib.hid hOq
 have HIQ:=Lib.hid (show Ints wb aq cq (digs N) from by have:=hiq.take (trimL Ql).length;rwa [←trim_take,hTq] at this)
 have HIR:=Lib.hid hir
 have HTR:=Lib.hid (And.intro hTr hLr)
 have HB:=Lib.hid (And.intro hbq hbr)
 clear hOq hiq hir hTq hLq hTr hLr hbq hbr
 go_upto_region 10 with fail
 go_wp2_with fail
 (with_reducible refine HOQ.out.mono ?_)
 rintro e w8 ⟨rfl,hy8⟩
 have hOr:=ref_of_ok false ar cr Rl _ ((HIR.out.ext hy8).ext (Ext.alloc w8 (.cells #[.bool ((!n2) && decide (0< (digs N).length)),.slice aq (digs N).length cq] 36))) (by rw [HTR.out.1];exact HTR.out.2)
 rw [HTR.out.1,Bool.false_and] at hOr
 have HOR:=Lib.hid hOr
 obtain⟨t,ht⟩:∃t,((!n2) && decide (0< (digs N).length))=t:=⟨_,rfl⟩
 rw [ht] at HOR ⊢
 have HTT:=Lib.hid ht
 have HY8:=Lib.hid hy8
 clear hOr ht c0 c2 c3 HOQ
 go_upto_region 11 with fail
 go_wp2_with fail
 (with_reducible refine HOR.out.mono ?_)
 rintro e w9 ⟨rfl,hy9⟩
 have J10:=Lib.hid ((Blk.new0 w8 #[.bool t,.slice aq (digs N).length cq] 36).ext hy9)
 have HX9:=Lib.hid ((HY8.out.trans (Ext.alloc w8 (.cells #[.bool t,.slice aq (digs N).length cq] 36))).trans hy9)
 have hs8:=HY8.out.size
 have hs9:=J10.out.lt
 clear HOR hy9
 have HIQ9:=Lib.hid ((HIQ.out.ext HX9.out).ext (Ext.alloc w9 (.cells #[.bool false,.slice ar (digs M).length cr] 36)))
 have hr9:=(HIR.out.take (trimL Rl).length)
 rw [←trim_take,HTR.out.1] at hr9
 have HIR9:=Lib.hid ((hr9.ext HX9.out).ext (Ext.alloc w9 (.cells #[.bool false,.slice ar (digs M).length cr] 36)))
 have G3:=Lib.hid ((K3.out.ext HX9.out).alloc (.cells #[.bool false,.slice ar (digs M).length cr] 36))
 have G4:=Lib.hid ((K4.out.ext HX9.out).alloc (.cells #[.bool false,.slice ar (digs M).length cr] 36))
 have G10:=Lib.hid (J10.out.alloc (.cells #[.bool false,.slice ar (digs M).length cr] 36))
 have G12:=Lib.hid (Blk.new0 w9 #[.bool false,.slice ar (digs M).length cr] 36)
 have GX:=Lib.hid ((hx6.trans HX9.out).alloc' (.cells #[.bool false,.slice ar (digs M).length cr] 36))
 clear hr9 HIR HIQ K1 K2 K3 K4 J10 HY8
 go_upto_region 14 with fail
 generalize w9.alloc (.cells #[.bool false,.slice ar (digs M).length cr] 36)=wa at *
 have s0:wa.drew.cell? ⟨w8.heap.size,0,none⟩=some (.bool t)∧wa.drew.cell? ⟨w8.heap.size,1,none⟩=some (.slice aq (digs N).length cq)∧wa.drew.cell? ⟨w9.heap.size,0,none⟩=some (.bool false)∧wa.drew.cell? ⟨w9.heap.size,1,none⟩=some (.slice ar (digs M).length cr):=⟨G10.out.cell rfl,G10.out.cell rfl,G12.out.cell rfl,G12.out.cell rfl⟩
 have s1:wa.cell? ⟨w8.heap.size,0,none⟩=some (.bool t)∧wa.cell? ⟨w8.heap.size,1,none⟩=some (.slice aq (digs N).length cq)∧wa.cell? ⟨w9.heap.size,0,none⟩=some (.bool false)∧wa.cell? ⟨w9.heap.size,1,none⟩=some (.slice ar (digs M).length cr):=s0
 have d0:=G3.out.cell (i:=0) (v:=.bool false) rfl
 have d1:=(G3.out.set 0 (.bool t)).cell (i:=1) (v:=.slice none 0 0) rfl
 have d2:=((G4.out.other (p:=⟨w.heap.size+2,0,none⟩) (by dsimp only;omega) (.bool t)).other (p:=⟨w.heap.size+2,1,none⟩) (by dsimp only;omega) (.slice aq (digs N).length cq)).cell (i:=0) (v:=.bool false) rfl
 have d3:=(((G4.out.other (p:=⟨w.heap.size+2,0,none⟩) (by dsimp only;omega) (.bool t)).other (p:=⟨w.heap.size+2,1,none⟩) (by dsimp only;omega) (.slice aq (digs N).length cq)).set 0 (.bool false)).cell (i:=1) (v:=.slice none 0 0) rfl
 have f0:=G3.out.free 0
 have f1:=(G3.out.set 0 (.bool t)).free 1
 have f2:=((G4.out.other (p:=⟨w.heap.size+2,0,none⟩) (by dsimp only;omega) (.bool t)).other (p:=⟨w.heap.size+2,1,none⟩) (by dsimp only;omega) (.slice aq (digs N).length cq)).free 0
 have f3:=(((G4.out.other (p:=⟨w.heap.size+2,0,none⟩) (by dsimp only;omega) (.bool t)).other (p:=⟨w.heap.size+2,1,none⟩) (by dsimp only;omega) (.slice aq (digs N).length cq)).set 0 (.bool false)).free 1
 refine wp_region_held_drew (S:=(fun w'=>w'.cell? ⟨w8.heap.size,0,none⟩=some (.bool t)∧w'.cell? ⟨w8.heap.size,1,none⟩=some (.slice aq (digs N).length cq)∧w'.cell? ⟨w9.heap.size,0,none⟩=some (.bool false)∧w'.cell? ⟨w9.heap.size,1,none⟩=some (.slice ar (digs M).length cr))) (by kernel_rfl) ?_ (fun hHeld=>?_)
 ·(first | with_reducible exact s0 | (refine⟨?_,?_,?_,?_⟩ <;> (rw [drew_cell];(repeat (rw [World.cell?_setCell_far _ _ _ _ (by dsimp only;omega)]));(first | with_reducible exact s1.1 | with_reducible exact s1.2.1 | with_reducible exact s1.2.2.1 | with_reducible exact s1.2.2.2))))
 (try simp only [pur,Nat.reduceAdd])
 refine tk (v:=?_) 0 rfl (by kernel_rfl) (fun _ _ _ h=>h) (by rfl) ?_ (by assumption) ?_
 rotate_left
 ·(intro w hSw;(try dsimp only at hSw);(try go_simp);(try with_reducible rfl))
 (try simp only [Act.put,pus])
 refine tk (v:=?_) 1 rfl (by kernel_rfl) (fun _ _ _ h=>h) (by rfl) ?_ (by assumption) ?_
 rotate_left
 ·(intro w hSw;(try dsimp only at hSw);(try go_simp);(try with_reducible rfl))
 (try simp only [Act.put,pus])
 refine wpAnyH_ready (rs:=[2]) (by kernel_rfl) (by simp) ?_
 refine AllReadyH.cons (o:=_) rfl (fun K hK=>?_) ?_
 ·go_simp
  refine hK.out _ _ ?_ (fun hHeld2=>?_)
  ·(first | with_reducible exact s0 | (refine⟨?_,?_,?_,?_⟩ <;> (rw [drew_cell];(repeat (rw [World.cell?_setCell_far _ _ _ _ (by dsimp only;omega)]));(first | with_reducible exact s1.1 | with_reducible exact s1.2.1 | with_reducible exact s1.2.2.1 | with_reducible exact s1.2.2.2))))
  clear hK K hHeld
  have hHeld:=hHeld2
  clear hHeld2
  (try simp only [Act.put,pus])
  refine wpAnyH_ready (rs:=[3]) (by kernel_rfl) (by simp) ?_
  refine AllReadyH.cons (o:=_) rfl (fun K hK=>?_) ?_
  ·go_simp
   refine hK.out _ _ ?_ (fun hHeld2=>?_)
   ·(first | with_reducible exact s0 | (refine⟨?_,?_,?_,?_⟩ <;> (rw [drew_cell];(repeat (rw [World.cell?_setCell_far _ _ _ _ (by dsimp only;omega)]));(first | with_reducible exact s1.1 | with_reducible exact s1.2.1 | with_reducible exact s1.2.2.1 | with_reducible exact s1.2.2.2))))
   clear hK K hHeld
   have hHeld:=hHeld2
   clear hHeld2
   (try simp only [Act.put,pus])
   refine tk (v:=?_) 4 rfl (by kernel_rfl) (fun _ _ _ h=>h) (by rfl) ?_ (by assumption) ?_
   rotate_left
   ·(intro w hSw;(try dsimp only at hSw);(try go_simp);(try with_reducible rfl))
   (try simp only [Act.put,pus])
   refine wpAnyH_done (by kernel_rfl) ?_ _
   (go_wp2_with fail;have L3:=(((G3.out.set 0 (.bool t)).set 1 (.slice aq (digs N).length cq)).other (p:=⟨w.heap.size+3,0,none⟩) (by dsimp only;omega) (.bool false)).other (p:=⟨w.heap.size+3,1,none⟩) (by dsimp only;omega) (.slice ar (digs M).length cr);have L4:=(((G4.out.other (p:=⟨w.heap.size+2,0,none⟩) (by dsimp only;omega) (.bool t)).other (p:=⟨w.heap.size+2,1,none⟩) (by dsimp only;omega) (.slice aq (digs N).length cq)).set 0 (.bool false)).set 1 (.slice ar (digs M).length cr);have e0:=L3.cell (i:=0) (v:=.bool t) rfl;have e1:=L3.cell (i:=1) (v:=.slice aq (digs N).length cq) rfl;have e2:=L4.cell (i:=0) (v:=.bool false) rfl;have e3:=L4.cell (i:=1) (v:=.slice ar (digs M).length cr) rfl;have hbq:∀A,aq=some A→w.heap.size+4≤A.block:=fun A hA=>(by have:=HB.out.1 A hA;omega);have hbr:∀A,ar=some A→w.heap.size+4≤A.block:=fun A hA=>(by have:=HB.out.2 A hA;omega);refine bodyPost_ret (v:=.tuple #[.agg #[.bool t,.slice aq (digs N).length cq],.agg #[.bool false,.slice ar (digs M).length cr],.int .i64 0]) (by simp [results,Tryz.results105,go_sem,e0,e1,e2,e3]) rfl ?_;have hQ:=HP.out.1.1;have hR:=HP.out.1.2;rw [HSS.out] at hQ;have b1:=big_of (!n2) N;rw [HTT.out] at b1;have b2:=big_of false M;rw [Bool.false_and] at b2;refine⟨_,_,rfl,?_,?_,((((GX.out.set (p:=⟨w.heap.size+2,0,none⟩) (by dsimp only;omega) _).set (p:=⟨w.heap.size+2,1,none⟩) (by dsimp only;omega) _).set (p:=⟨w.heap.size+3,0,none⟩) (by dsimp only;omega) _).set (p:=⟨w.heap.size+3,1,none⟩) (by dsimp only;omega) _).drew⟩;(focus (rw [hQ];exact⟨_,_,_,_,rfl,Ints.ext (Ext.refl _).drew ((((HIQ9.out.putO (p:=⟨w.heap.size+2,0,none⟩) (fun A hA=>by have:=hbq A hA;dsimp only;omega) _).putO (p:=⟨w.heap.size+2,1,none⟩) (fun A hA=>by have:=hbq A hA;dsimp only;omega) _).putO (p:=⟨w.heap.size+3,0,none⟩) (fun A hA=>by have:=hbq A hA;dsimp only;omega) _).putO (p:=⟨w.heap.size+3,1,none⟩) (fun A hA=>by have:=hbq A hA;dsimp only;omega) _),b1,fun A hA=>by have:=hbq A hA;omega⟩));(focus (rw [hR];exact⟨_,_,⟨_,_,rfl,Ints.ext (Ext.refl _).drew ((((HIR9.out.putO (p:=⟨w.heap.size+2,0,none⟩) (fun A hA=>by have:=hbr A hA;dsimp only;omega) _).putO (p:=⟨w.heap.size+2,1,none⟩) (fun A hA=>by have:=hbr A hA;dsimp only;omega) _).putO (p:=⟨w.heap.size+3,0,none⟩) (fun A hA=>by have:=hbr A hA;dsimp only;omega) _).putO (p:=⟨w.heap.size+3,1,none⟩) (fun A hA=>by have:=hbr A hA;dsimp only;omega) _)⟩,b2⟩)))
  exact AllReadyH.nil
 exact AllReadyH.nil
theorem rDiv_val {v u:Value} {z y:Int} {w:World} (hv:BigV w v z) (hu:BigV w u y) (hz:Len z) (hy:Len y) (hne:y≠0):Calls Tryz.prog 105 #[v,u] w (DivO z y w):=by
 obtain⟨n1,l,⟨a,ca,rfl,hi⟩,hb⟩:=hv
 obtain⟨n2,m,⟨b,cb,rfl,hj⟩,hc⟩:=hu
 have hm:m≠[]:=fun e=>by
  subst e
  have:=hc.2.2
  simp [dval] at this
  exact hne this
 have h1:=hb.chk hz
 have h2:=hc.chk hy
 rw [hb.sgn,hc.sgn]
 cases n1
 ·exact ref_Div_A0 n2 a b ca cb l m w hi hj h1 h2 hm
 ·by_cases hr:(dval l % dval m).toNat=0
  ·exact ref_Div_A1 n2 a b ca cb l m w hi hj h1 h2 hm hr
  ·exact ref_Div_B n2 a b ca cb l m w hi hj h1 h2 hm (by omega)
end Go.Proofs.YtolffmmkjnhkkaaGreat
