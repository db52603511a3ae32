import Derived.Test.YtolffmmkjnhkkaaGreatPRefA
namespace Go.Proofs.YtolffmmkjnhkkaaGreat
open Go.RowKit Go BigFrame Go.Shelf
set_option maxRecDepth 100000
set_option linter.unusedSimpArgs false
theorem ref_two (n1 n2:Bool) (a b:Option Addr) (ca cb:Nat) (l m:List Int) (w:World) (h:Ints w a ca l) (k:Ints w b cb m):
 Calls Tryz.prog 69 #[.agg #[.bool n1,.slice a l.length ca],.agg #[.bool n2,.slice b m.length cb]] w fun e w'=>e=.returned (.int .i64 (errN (chkB n1 l && chkB n2 m)))∧Ext w w':=by
 have hx:Ext w ((w.alloc (.cells #[.bool n1,.slice a l.length ca] 36)).alloc (.cells #[.bool n2,.slice b m.length cb] 36)):=(by repeat (first | with_reducible exact Ext.refl _ | with_reducible assumption | with_reducible refine Ext.drewN ?_ _ | with_reducible refine Ext.drew ?_ | with_reducible refine Ext.alloc' ?_ _ | with_reducible refine Ext.set ?_ (by dsimp only;omega) _))
 have B1:=(Blk.new0 w #[.bool n1,.slice a l.length ca] 36).alloc (.cells #[.bool n2,.slice b m.length cb] 36)
 have B2:=Blk.new1 w (.cells #[.bool n1,.slice a l.length ca] 36) #[.bool n2,.slice b m.length cb] 36
 obtain⟨w1,hw1⟩:∃w1,(w.alloc (.cells #[.bool n1,.slice a l.length ca] 36)).alloc (.cells #[.bool n2,.slice b m.length cb] 36)=w1:=⟨_,rfl⟩
 rw [hw1] at hx B1 B2
 have HC1:=ref_Check n1 a ca l w1 (h.ext hx)
 have HC2:=Lib.hid (fun W (hy:Ext w1 W)=>ref_Check n2 b cb m W (k.ext (hx.trans hy)))
 have c0:=B1.cell (i:=0) (v:=.bool n1) rfl
 have c1:=B1.cell (i:=1) (v:=.slice a l.length ca) rfl
 have HB2:=Lib.hid B2
 have HW:=Lib.hid hw1
 generalize chkB n1 l=t1 at *
 generalize chkB n2 m=t2 at *
 clear B1 B2 hw1 h k
 cases t1 with
 | false=>
  have HC:=Lib.hid (show Calls Tryz.prog 45 _ w1 fun e w'=>e=.returned (.int .i64 90)∧Ext w1 w' from HC1)
  clear HC1 HC2
  go_enter Tryz.func69,Tryz.ntmps69
  go_upto_region 1 with fail
  rw [HW.out]
  go_wp2_with fail
  refine HC.out.mono ?_
  rintro e w2 ⟨rfl,hy⟩
  go_wp2_with fail
  go_ret
  exact⟨rfl,hx.trans hy⟩
 | true=>
  have HC:=Lib.hid (show Calls Tryz.prog 45 _ w1 fun e w'=>e=.returned (.int .i64 0)∧Ext w1 w' from HC1)
  clear HC1
  go_enter Tryz.func69,Tryz.ntmps69
  go_upto_region 1 with fail
  rw [HW.out]
  go_wp2_with fail
  refine HC.out.mono ?_
  rintro e w2 ⟨rfl,hy⟩
  have B2:=HB2.out.ext hy
  have c2:=B2.cell (i:=0) (v:=.bool n2) rfl
  have c3:=B2.cell (i:=1) (v:=.slice b m.length cb) rfl
  have HD:=Lib.hid (HC2.out w2 hy)
  clear HC2 B2
  go_wp2_with fail
  refine HD.out.mono ?_
  rintro e w3 ⟨rfl,hy3⟩
  go_wp2_with fail
  go_ret
  exact⟨by rw [Bool.true_and];rfl,hx.trans (hy.trans hy3)⟩
theorem ref_of_ok (neg:Bool) (a:Option Addr) (cap:Nat) (l:List Int) (w:World) (h:Ints w a cap l) (hlen:(trimL l).length≤2048):
 Calls Tryz.prog 71 #[.bool neg,.slice a l.length cap] w fun e w'=>e=.returned (.tuple #[.agg #[.bool (neg && decide (0< (trimL l).length)),.slice a (trimL l).length cap],.int .i64 0])∧Ext w w':=by
 have hmx:=h.mx
 have hle:=h.le
 have htl:=trim_len l
 have hx:=Ext.alloc w (.cells #[.bool false,.slice none 0 0] 36)
 have B1:=Lib.hid (Blk.new0 w #[.bool false,.slice none 0 0] 36)
 have hT:=ref_trim a cap l _ (h.ext hx)
 generalize trimL l=L at *
 have HT:=Lib.hid hT
 clear hT h
 have hx2:=fun v u=>(hx.set (p:=⟨w.heap.size,0,none⟩) (Nat.le_refl _) v).set (p:=⟨w.heap.size,1,none⟩) (Nat.le_refl _) u
 have e1:decide (2048< (L.length:Int))=false:=by simp only [decide_eq_false_iff_not];omega
 have c0:=B1.out.cell (i:=0) (v:=.bool false) rfl
 have c1:=B1.out.cell (i:=1) (v:=.slice none 0 0) rfl
 have f0:=B1.out.free 0
 have f1:=B1.out.free 1
 have HX:=Lib.hid hx2
 clear hx2
 cases neg with
 | true=>
  go_enter Tryz.func71,Tryz.ntmps71
  go_upto_region 1 with fail
  generalize w.alloc (.cells #[.bool false,.slice none 0 0] 36)=w1 at *
  go_wp2_with fail
  refine HT.out.mono ?_
  rintro e w2 ⟨rfl,rfl⟩
  go_wp2_with fail
  have k2:=(B1.out.set 0 (.bool (decide (0<L.length)))).set 1 (.slice a L.length cap)
  have e0:=k2.cell (i:=0) (v:=.bool (decide (0<L.length))) rfl
  have e1:=k2.cell (i:=1) (v:=.slice a L.length cap) rfl
  refine bodyPost_ret (v:=.tuple #[.agg #[.bool (decide (0<L.length)),.slice a L.length cap],.int .i64 0]) (by simp [results,Tryz.results71,go_sem,e0,e1]) rfl ?_
  exact⟨rfl,HX.out _ _⟩
 | false=>
  go_enter Tryz.func71,Tryz.ntmps71
  go_upto_region 1 with fail
  generalize w.alloc (.cells #[.bool false,.slice none 0 0] 36)=w1 at *
  go_wp2_with fail
  refine HT.out.mono ?_
  rintro e w2 ⟨rfl,rfl⟩
  go_wp2_with fail
  have k2:=(B1.out.set 0 (.bool false)).set 1 (.slice a L.length cap)
  have e0:=k2.cell (i:=0) (v:=.bool false) rfl
  have e1:=k2.cell (i:=1) (v:=.slice a L.length cap) rfl
  refine bodyPost_ret (v:=.tuple #[.agg #[.bool false,.slice a L.length cap],.int .i64 0]) (by simp [results,Tryz.results71,go_sem,e0,e1]) rfl ?_
  exact⟨rfl,HX.out _ _⟩
end Go.Proofs.YtolffmmkjnhkkaaGreat
namespace Go.Proofs.YtolffmmkjnhkkaaGreat
open Go.RowKit Go BigFrame Go.Shelf
set_option maxRecDepth 100000
set_option linter.unusedSimpArgs false
set_option maxHeartbeats 2000000 in
theorem ref_Mul_ok (n1 n2:Bool) (a b:Option Addr) (ca cb:Nat) (l m:List Int) (w:World) (h:Ints w a ca l) (k:Ints w b cb m) (h1:chkB n1 l=true) (h2:chkB n2 m=true) (hlen:(digs (dval l*dval m).toNat).length≤2048):
 Calls Tryz.prog 78 #[.agg #[.bool n1,.slice a l.length ca],.agg #[.bool n2,.slice b m.length cb]] w (OneP (sgn n1 (dval l)*sgn n2 (dval m)) w):=by
 obtain⟨w3,hw3⟩:∃w3,(((w.alloc (.cells #[.bool n1,.slice a l.length ca] 36)).alloc (.cells #[.bool n2,.slice b m.length cb] 36)).alloc (.cells #[.bool false,.slice none 0 0] 36))=w3:=⟨_,rfl⟩
 have B1:=((Blk.new0 w #[.bool n1,.slice a l.length ca] 36).alloc (.cells #[.bool n2,.slice b m.length cb] 36)).alloc (.cells #[.bool false,.slice none 0 0] 36)
 have B2:=(Blk.new1 w (.cells #[.bool n1,.slice a l.length ca] 36) #[.bool n2,.slice b m.length cb] 36).alloc (.cells #[.bool false,.slice none 0 0] 36)
 have B3:=Blk.new2 w (.cells #[.bool n1,.slice a l.length ca] 36) (.cells #[.bool n2,.slice b m.length cb] 36) #[.bool false,.slice none 0 0] 36
 have hx:Ext w w3:=by rw [←hw3];exact(by repeat (first | with_reducible exact Ext.refl _ | with_reducible assumption | with_reducible refine Ext.drewN ?_ _ | with_reducible refine Ext.drew ?_ | with_reducible refine Ext.alloc' ?_ _ | with_reducible refine Ext.set ?_ (by dsimp only;omega) _))
 rw [hw3] at B1 B2 B3
 have c0:=B1.cell (i:=0) (v:=.bool n1) rfl
 have c1:=B1.cell (i:=1) (v:=.slice a l.length ca) rfl
 have c2:=B2.cell (i:=0) (v:=.bool n2) rfl
 have c3:=B2.cell (i:=1) (v:=.slice b m.length cb) rfl
 have H1:=Lib.hid B1
 have H2:=Lib.hid B2
 have H3:=Lib.hid B3
 have HW:=Lib.hid hw3
 have HT:=ref_two n1 n2 a b ca cb l m w3 (h.ext hx) (k.ext hx)
 rw [h1,h2] at HT
 have HT:=Lib.hid (show Calls Tryz.prog 69 _ w3 fun e w'=>e=.returned (.int .i64 0)∧Ext w3 w' from HT)
 obtain⟨z1,y1⟩:=of_chk h1
 obtain⟨z2,y2⟩:=of_chk h2
 have HM:=Lib.hid (fun W (hy:Ext w W)=>ref_times a b ca cb l m W (h.ext hy) (k.ext hy) z1.1.digs z2.1.digs (by omega))
 obtain⟨N,hN⟩:∃N,(dval l*dval m).toNat=N:=⟨_,rfl⟩
 have hz:sgn n1 (dval l)*sgn n2 (dval m)=sgn (!(n1 == n2)) N:=by
  have a1:=dval_nonneg z1.1.digs
  have a2:=dval_nonneg z2.1.digs
  have a3:=Int.mul_nonneg a1 a2
  rw [show((N:Nat):Int)=dval l*dval m by omega]
  exact sgn_mul n1 n2 _ _
 rw [hN] at HM hlen
 rw [hz]
 obtain⟨S,hS⟩:∃S,(!(n1 == n2))=S:=⟨_,rfl⟩
 rw [hS]
 have HL:=Lib.hid hlen
 have HTR:=Lib.hid (trim_id (digs_norm N))
 clear z1 z2 y1 y2 h1 h2 h k B1 B2 B3 hw3 hN hz hlen
 go_enter Tryz.func78,Tryz.ntmps78
 go_upto_region 1 with fail
 rw [HW.out]
 simp only [Nat.add_assoc,Nat.reduceAdd]
 go_wp2_with fail
 refine HT.out.mono ?_
 rintro e w5 ⟨rfl,hy⟩
 have H5:=Lib.hid (H3.out.ext hy)
 have hx5:=hx.trans hy
 clear c0 c1 c2 c3
 have c0:=(H1.out.ext hy).cell (i:=0) (v:=.bool n1) rfl
 have c1:=(H1.out.ext hy).cell (i:=1) (v:=.slice a l.length ca) rfl
 have c2:=(H2.out.ext hy).cell (i:=0) (v:=.bool n2) rfl
 have c3:=(H2.out.ext hy).cell (i:=1) (v:=.slice b m.length cb) rfl
 have s0d:w5.drew.cell? ⟨w.heap.size,0,none⟩=some (.bool n1)∧w5.drew.cell? ⟨w.heap.size,1,none⟩=some (.slice a l.length ca)∧w5.drew.cell? ⟨w.heap.size+1,0,none⟩=some (.bool n2)∧w5.drew.cell? ⟨w.heap.size+1,1,none⟩=some (.slice b m.length cb):=⟨c0,c1,c2,c3⟩
 have hext:∀{A B:World},Ext A B→(A.cell? ⟨w.heap.size,0,none⟩=some (.bool n1)∧A.cell? ⟨w.heap.size,1,none⟩=some (.slice a l.length ca)∧A.cell? ⟨w.heap.size+1,0,none⟩=some (.bool n2)∧A.cell? ⟨w.heap.size+1,1,none⟩=some (.slice b m.length cb))→(B.cell? ⟨w.heap.size,0,none⟩=some (.bool n1)∧B.cell? ⟨w.heap.size,1,none⟩=some (.slice a l.length ca)∧B.cell? ⟨w.heap.size+1,0,none⟩=some (.bool n2)∧B.cell? ⟨w.heap.size+1,1,none⟩=some (.slice b m.length cb)):=fun hAB h=>
  ⟨(hAB.cell (p:=⟨_,_,none⟩) (lt_of_cell h.1)).trans h.1,(hAB.cell (p:=⟨_,_,none⟩) (lt_of_cell h.2.1)).trans h.2.1,(hAB.cell (p:=⟨_,_,none⟩) (lt_of_cell h.2.2.1)).trans h.2.2.1,(hAB.cell (p:=⟨_,_,none⟩) (lt_of_cell h.2.2.2)).trans h.2.2.2⟩
 have hset1:∀{A:World} (x y:Value),(A.cell? ⟨w.heap.size,0,none⟩=some (.bool n1)∧A.cell? ⟨w.heap.size,1,none⟩=some (.slice a l.length ca)∧A.cell? ⟨w.heap.size+1,0,none⟩=some (.bool n2)∧A.cell? ⟨w.heap.size+1,1,none⟩=some (.slice b m.length cb))→(((A.setCell ⟨w.heap.size+2,0,none⟩ x).setCell ⟨w.heap.size+2,1,none⟩ y).cell? ⟨w.heap.size,0,none⟩=some (.bool n1)∧((A.setCell ⟨w.heap.size+2,0,none⟩ x).setCell ⟨w.heap.size+2,1,none⟩ y).cell? ⟨w.heap.size,1,none⟩=some (.slice a l.length ca)∧((A.setCell ⟨w.heap.size+2,0,none⟩ x).setCell ⟨w.heap.size+2,1,none⟩ y).cell? ⟨w.heap.size+1,0,none⟩=some (.bool n2)∧((A.setCell ⟨w.heap.size+2,0,none⟩ x).setCell ⟨w.heap.size+2,1,none⟩ y).cell? ⟨w.heap.size+1,1,none⟩=some (.slice b m.length cb)):=fun x y h=>by
  refine⟨?_,?_,?_,?_⟩ <;> rw [World.cell?_setCell_far _ _ _ _ (by dsimp only;omega),World.cell?_setCell_far _ _ _ _ (by dsimp only;omega)]
  ·exact h.1
  ·exact h.2.1
  ·exact h.2.2.1
  ·exact h.2.2.2
 have HM5:=Lib.hid (HM.out w5.drew (hx5.drew))
 clear H1 H2 HM HT c0 c1 c2 c3 H3 HW
 go_upto_region 4 with fail
 refine wp_region_held_drew (S:=(fun w'=>w'.cell? ⟨w.heap.size,0,none⟩=some (.bool n1)∧w'.cell? ⟨w.heap.size,1,none⟩=some (.slice a l.length ca)∧w'.cell? ⟨w.heap.size+1,0,none⟩=some (.bool n2)∧w'.cell? ⟨w.heap.size+1,1,none⟩=some (.slice b m.length cb))) (by kernel_rfl) ?_ (fun hHeld=>?_)
 ·(first | with_reducible exact s0d | with_reducible exact hext hy6 hHeld | with_reducible exact hS7 | with_reducible exact hHeld | with_reducible exact hset1 _ _ hHeld)
 (try simp only [pur,Nat.reduceAdd])
 refine tk (v:=?_) 0 rfl (by kernel_rfl) (fun _ _ _ h=>h) (by rfl) ?_ (by assumption) ?_
 rotate_left
 ·(intro w hSw;(try dsimp only at hSw);(try go_simp);(try with_reducible rfl))
 (try simp only [Act.put,pus])
 refine tk (v:=?_) 1 rfl (by kernel_rfl) (fun _ _ _ h=>h) (by rfl) ?_ (by assumption) ?_
 rotate_left
 ·(intro w hSw;(try dsimp only at hSw);(try go_simp);(try with_reducible rfl))
 (try simp only [Act.put,pus])
 refine tk (v:=?_) 2 rfl (by kernel_rfl) (fun _ _ _ h=>h) (by rfl) ?_ (by assumption) ?_
 rotate_left
 ·(intro w hSw;(try dsimp only at hSw);(try go_simp);(try with_reducible rfl))
 (try simp only [Act.put,pus])
 refine tk (v:=?_) 3 rfl (by kernel_rfl) (fun _ _ _ h=>h) (by rfl) ?_ (by assumption) ?_
 rotate_left
 ·(intro w hSw;(try dsimp only at hSw);(try go_simp);(try with_reducible rfl))
 (try simp only [Act.put,pus])
 refine tk (v:=?_) 4 rfl (by kernel_rfl) (fun _ _ _ h=>h) (by rfl) ?_ (by assumption) ?_
 rotate_left
 ·(intro w hSw;(try dsimp only at hSw);(try go_simp);(try with_reducible rfl))
 (try simp only [Act.put,pus])
 refine tk (v:=?_) 5 rfl (by kernel_rfl) (fun _ _ _ h=>h) (by rfl) ?_ (by assumption) ?_
 rotate_left
 ·(intro w hSw;(try dsimp only at hSw);(try go_simp);(try with_reducible rfl))
 (try simp only [Act.put,pus])
 refine tk (v:=?_) 6 rfl (by kernel_rfl) (fun _ _ _ h=>h) (by rfl) ?_ (by assumption) ?_
 rotate_left
 ·(intro w hSw;(try dsimp only at hSw);(try go_simp);(try with_reducible rfl))
 (try simp only [Act.put,pus])
 refine tk (v:=?_) 7 rfl (by kernel_rfl) (fun _ _ _ h=>h) (by rfl) ?_ (by assumption) ?_
 rotate_left
 ·(intro w hSw;(try dsimp only at hSw);(try go_simp);(try with_reducible rfl))
 (try simp only [Act.put,pus])
 refine tk (v:=?_) 8 rfl (by kernel_rfl) (fun _ _ _ h=>h) (by rfl) ?_ (by assumption) ?_
 rotate_left
 ·(intro w hSw;(try dsimp only at hSw);(try go_simp);(try with_reducible rfl))
 (try simp only [Act.put,pus])
 refine wpAnyH_ready (rs:=[9]) (by kernel_rfl) (by simp) ?_
 refine AllReadyH.cons (o:=_) rfl (fun K hK=>?_) ?_
 ·go_simp
  refine HM5.out.mono ?_;rintro e6 w6 ⟨v6,rfl,hO6,hy6⟩;obtain⟨a6,cp6,rfl,hi6,hb6⟩:=hO6.form0 (digs_norm N).digs
  refine hK.out _ _ ?_ (fun hHeld2=>?_)
  ·(first | with_reducible exact s0d | with_reducible exact hext hy6 hHeld | with_reducible exact hS7 | with_reducible exact hHeld | with_reducible exact hset1 _ _ hHeld)
  clear hK K hHeld
  have hHeld:=hHeld2
  clear hHeld2
  (try simp only [Act.put,pus])
  refine wpAnyH_ready (rs:=[10]) (by kernel_rfl) (by simp) ?_
  refine AllReadyH.cons (o:=_) rfl (fun K hK=>?_) ?_
  ·go_simp
   (try rw [hS]);with_reducible refine(ref_of_ok S a6 cp6 (digs N) w6 hi6 (by rw [HTR.out];exact HL.out)).mono ?_;rintro e7 w7 ⟨rfl,hy7⟩;rw [HTR.out];have hyy:=hy6.trans hy7;have J5:=(H5.out.drew).ext hyy;have d0:=J5.cell (i:=0) (v:=.bool false) rfl;have d1:=J5.cell (i:=1) (v:=.slice none 0 0) rfl;have f0:=J5.free 0;have f1:=J5.free 1;have hS7:=hext hyy s0d;obtain⟨t,ht⟩:∃t,(S && decide (0< (digs N).length))=t:=⟨_,rfl⟩;rw [ht]
   refine hK.out _ _ ?_ (fun hHeld2=>?_)
   ·(first | with_reducible exact s0d | with_reducible exact hext hy6 hHeld | with_reducible exact hS7 | with_reducible exact hHeld | with_reducible exact hset1 _ _ hHeld)
   clear hK K hHeld
   have hHeld:=hHeld2
   clear hHeld2
   (try simp only [Act.put,pus])
   refine tk (v:=?_) 11 rfl (by kernel_rfl) (fun _ _ _ h=>h) (by rfl) ?_ (by assumption) ?_
   rotate_left
   ·(intro w hSw;(try dsimp only at hSw);(try go_simp);(try with_reducible rfl))
   (try simp only [Act.put,pus])
   refine tk (v:=?_) 12 rfl (by kernel_rfl) (fun _ _ _ h=>h) (by rfl) ?_ (by assumption) ?_
   rotate_left
   ·(intro w hSw;(try dsimp only at hSw);(try go_simp);(try with_reducible rfl))
   (try simp only [Act.put,pus])
   refine wpAnyH_ready (rs:=[13]) (by kernel_rfl) (by simp) ?_
   refine AllReadyH.cons (o:=_) rfl (fun K hK=>?_) ?_
   ·go_simp
    refine hK.out _ _ ?_ (fun hHeld2=>?_)
    ·(first | with_reducible exact s0d | with_reducible exact hext hy6 hHeld | with_reducible exact hS7 | with_reducible exact hHeld | with_reducible exact hset1 _ _ hHeld)
    clear hK K hHeld
    have hHeld:=hHeld2
    clear hHeld2
    (try simp only [Act.put,pus])
    refine wpAnyH_ready (rs:=[14]) (by kernel_rfl) (by simp) ?_
    refine AllReadyH.cons (o:=_) rfl (fun K hK=>?_) ?_
    ·go_simp
     refine hK.out _ _ ?_ (fun hHeld2=>?_)
     ·(first | with_reducible exact s0d | with_reducible exact hext hy6 hHeld | with_reducible exact hS7 | with_reducible exact hHeld | with_reducible exact hset1 _ _ hHeld)
     clear hK K hHeld
     have hHeld:=hHeld2
     clear hHeld2
     (try simp only [Act.put,pus])
     refine wpAnyH_done (by kernel_rfl) ?_ _
     (go_wp2_with fail;have L5:=(J5.set 0 (.bool t)).set 1 (.slice a6 (digs N).length cp6);have e0:=L5.cell (i:=0) (v:=.bool t) rfl;have e1:=L5.cell (i:=1) (v:=.slice a6 (digs N).length cp6) rfl;have hbo:=big_of S N;rw [ht] at hbo;have hlt5:=H5.out.lt;have hbl:∀A,a6=some A→w5.heap.size≤A.block:=hb6;refine bodyPost_ret (v:=.tuple #[.agg #[.bool t,.slice a6 (digs N).length cp6],.int .i64 0]) (by simp [results,Tryz.results78,go_sem,e0,e1]) rfl ?_;refine⟨_,rfl,⟨t,a6,cp6,digs N,rfl,((hi6.ext hy7).putO (p:=⟨w.heap.size+2,0,none⟩) (fun A hA=>by have:=hbl A hA;dsimp only;omega) _).putO (p:=⟨w.heap.size+2,1,none⟩) (fun A hA=>by have:=hbl A hA;dsimp only;omega) _,hbo,fun A hA=>by have:=hbl A hA;omega⟩,((hx5.drew.trans hyy).set (p:=⟨w.heap.size+2,0,none⟩) (by dsimp only;omega) _).set (p:=⟨w.heap.size+2,1,none⟩) (by dsimp only;omega) _⟩)
    exact AllReadyH.nil
   exact AllReadyH.nil
  exact AllReadyH.nil
 exact AllReadyH.nil
end Go.Proofs.YtolffmmkjnhkkaaGreat
namespace Go.Proofs.YtolffmmkjnhkkaaGreat
open Go.RowKit Go BigFrame Go.Shelf
set_option maxRecDepth 100000
set_option linter.unusedSimpArgs false
set_option maxHeartbeats 4000000 in
theorem ref_Add_ok (n1 n2:Bool) (a b:Option Addr) (ca cb:Nat) (l m:List Int) (w:World) (h:Ints w a ca l) (k:Ints w b cb m) (h1:chkB n1 l=true) (h2:chkB n2 m=true) (hlen:(digs (sgn n1 (dval l)+sgn n2 (dval m)).natAbs).length≤2048):
 Calls Tryz.prog 77 #[.agg #[.bool n1,.slice a l.length ca],.agg #[.bool n2,.slice b m.length cb]] w (OneP (sgn n1 (dval l)+sgn n2 (dval m)) w):=by
 obtain⟨w3,hw3⟩:∃w3,(((w.alloc (.cells #[.bool n1,.slice a l.length ca] 36)).alloc (.cells #[.bool n2,.slice b m.length cb] 36)).alloc (.cells #[.bool false,.slice none 0 0] 36))=w3:=⟨_,rfl⟩
 have B1:=((Blk.new0 w #[.bool n1,.slice a l.length ca] 36).alloc (.cells #[.bool n2,.slice b m.length cb] 36)).alloc (.cells #[.bool false,.slice none 0 0] 36)
 have B2:=(Blk.new1 w (.cells #[.bool n1,.slice a l.length ca] 36) #[.bool n2,.slice b m.length cb] 36).alloc (.cells #[.bool false,.slice none 0 0] 36)
 have B3:=Blk.new2 w (.cells #[.bool n1,.slice a l.length ca] 36) (.cells #[.bool n2,.slice b m.length cb] 36) #[.bool false,.slice none 0 0] 36
 have hx:Ext w w3:=by rw [←hw3];exact(by repeat (first | with_reducible exact Ext.refl _ | with_reducible assumption | with_reducible refine Ext.drewN ?_ _ | with_reducible refine Ext.drew ?_ | with_reducible refine Ext.alloc' ?_ _ | with_reducible refine Ext.set ?_ (by dsimp only;omega) _))
 rw [hw3] at B1 B2 B3
 have c0:=B1.cell (i:=0) (v:=.bool n1) rfl
 have c1:=B1.cell (i:=1) (v:=.slice a l.length ca) rfl
 have c2:=B2.cell (i:=0) (v:=.bool n2) rfl
 have c3:=B2.cell (i:=1) (v:=.slice b m.length cb) rfl
 have H1:=Lib.hid B1
 have H2:=Lib.hid B2
 have H3:=Lib.hid B3
 have HW:=Lib.hid hw3
 have HT:=ref_two n1 n2 a b ca cb l m w3 (h.ext hx) (k.ext hx)
 rw [h1,h2] at HT
 have HT:=Lib.hid (show Calls Tryz.prog 69 _ w3 fun e w'=>e=.returned (.int .i64 0)∧Ext w3 w' from HT)
 obtain⟨z1,y1⟩:=of_chk h1
 obtain⟨z2,y2⟩:=of_chk h2
 have p1:=dval_nonneg z1.1.digs
 have p2:=dval_nonneg z2.1.digs
 have HCM:=Lib.hid (fun W (hy:Ext w W)=>ref_cmp a b ca cb l m W (h.ext hy) (k.ext hy) z1.1 z2.1)
 have HPL:=Lib.hid (fun W (hy:Ext w W)=>ref_plus a b ca cb l m W (h.ext hy) (k.ext hy) z1.1.digs z2.1.digs 2048 y1 y2 (by omega))
 have HL1:=Lib.hid (fun W (hy:Ext w W) (hge:dval m≤dval l)=>ref_less a b ca cb l m W (h.ext hy) (k.ext hy) z1.1.digs z2.1 (by omega) hge)
 have HL2:=Lib.hid (fun W (hy:Ext w W) (hge:dval l≤dval m)=>ref_less b a cb ca m l W (k.ext hy) (h.ext hy) z2.1.digs z1.1 (by omega) hge)
 by_cases hne:n1=n2
 ·subst hne
  obtain⟨N,hN⟩:∃N,(dval l+dval m).toNat=N:=⟨_,rfl⟩
  have hz:sgn n1 (dval l)+sgn n1 (dval m)=sgn n1 N:=by unfold sgn;split <;> omega
  rw [hz,sgn_abs] at hlen
  rw [hz]
  have HNN:=Lib.hid hN
  have HL:=Lib.hid hlen
  have t1:(n1 == n1)=true:=by simp
  have hS:n1=n1:=rfl
  clear HCM HL1 HL2 z1 z2 y1 y2 h1 h2 h k B1 B2 B3 hw3 hN hz hlen p1 p2
  go_enter Tryz.func77,Tryz.ntmps77
  go_upto_region 1 with fail
  rw [HW.out]
  simp only [Nat.add_assoc,Nat.reduceAdd]
  go_wp2_with fail
  refine HT.out.mono ?_
  rintro e w5 ⟨rfl,hy⟩
  have H5:=Lib.hid (H3.out.ext hy)
  have hx5:=hx.trans hy
  clear c0 c1 c2 c3
  have c0:=(H1.out.ext hy).cell (i:=0) (v:=.bool n1) rfl
  have c1:=(H1.out.ext hy).cell (i:=1) (v:=.slice a l.length ca) rfl
  have c2:=(H2.out.ext hy).cell (i:=0) (v:=.bool n1) rfl
  have c3:=(H2.out.ext hy).cell (i:=1) (v:=.slice b m.length cb) rfl
  go_upto_region 5 with fail
  have s0d:w5.drew.cell? ⟨w.heap.size,0,none⟩=some (.bool n1)∧w5.drew.cell? ⟨w.heap.size,1,none⟩=some (.slice a l.length ca)∧w5.drew.cell? ⟨w.heap.size+1,0,none⟩=some (.bool n1)∧w5.drew.cell? ⟨w.heap.size+1,1,none⟩=some (.slice b m.length cb):=⟨c0,c1,c2,c3⟩
  have hext:∀{A B:World},Ext A B→(A.cell? ⟨w.heap.size,0,none⟩=some (.bool n1)∧A.cell? ⟨w.heap.size,1,none⟩=some (.slice a l.length ca)∧A.cell? ⟨w.heap.size+1,0,none⟩=some (.bool n1)∧A.cell? ⟨w.heap.size+1,1,none⟩=some (.slice b m.length cb))→(B.cell? ⟨w.heap.size,0,none⟩=some (.bool n1)∧B.cell? ⟨w.heap.size,1,none⟩=some (.slice a l.length ca)∧B.cell? ⟨w.heap.size+1,0,none⟩=some (.bool n1)∧B.cell? ⟨w.heap.size+1,1,none⟩=some (.slice b m.length cb)):=fun hAB h=>
   ⟨(hAB.cell (p:=⟨_,_,none⟩) (lt_of_cell h.1)).trans h.1,(hAB.cell (p:=⟨_,_,none⟩) (lt_of_cell h.2.1)).trans h.2.1,(hAB.cell (p:=⟨_,_,none⟩) (lt_of_cell h.2.2.1)).trans h.2.2.1,(hAB.cell (p:=⟨_,_,none⟩) (lt_of_cell h.2.2.2)).trans h.2.2.2⟩
  have hset1:∀{A:World} (x y:Value),(A.cell? ⟨w.heap.size,0,none⟩=some (.bool n1)∧A.cell? ⟨w.heap.size,1,none⟩=some (.slice a l.length ca)∧A.cell? ⟨w.heap.size+1,0,none⟩=some (.bool n1)∧A.cell? ⟨w.heap.size+1,1,none⟩=some (.slice b m.length cb))→(((A.setCell ⟨w.heap.size+2,0,none⟩ x).setCell ⟨w.heap.size+2,1,none⟩ y).cell? ⟨w.heap.size,0,none⟩=some (.bool n1)∧((A.setCell ⟨w.heap.size+2,0,none⟩ x).setCell ⟨w.heap.size+2,1,none⟩ y).cell? ⟨w.heap.size,1,none⟩=some (.slice a l.length ca)∧((A.setCell ⟨w.heap.size+2,0,none⟩ x).setCell ⟨w.heap.size+2,1,none⟩ y).cell? ⟨w.heap.size+1,0,none⟩=some (.bool n1)∧((A.setCell ⟨w.heap.size+2,0,none⟩ x).setCell ⟨w.heap.size+2,1,none⟩ y).cell? ⟨w.heap.size+1,1,none⟩=some (.slice b m.length cb)):=fun x y h=>by
   refine⟨?_,?_,?_,?_⟩ <;> rw [World.cell?_setCell_far _ _ _ _ (by dsimp only;omega),World.cell?_setCell_far _ _ _ _ (by dsimp only;omega)]
   ·exact h.1
   ·exact h.2.1
   ·exact h.2.2.1
   ·exact h.2.2.2
  have HM5:=Lib.hid (HPL.out w5.drew (hx5.drew))
  clear H1 H2 HPL HT c0 c1 c2 c3 H3 HW
  refine wp_region_held_drew (S:=(fun w'=>w'.cell? ⟨w.heap.size,0,none⟩=some (.bool n1)∧w'.cell? ⟨w.heap.size,1,none⟩=some (.slice a l.length ca)∧w'.cell? ⟨w.heap.size+1,0,none⟩=some (.bool n1)∧w'.cell? ⟨w.heap.size+1,1,none⟩=some (.slice b m.length cb))) (by kernel_rfl) ?_ (fun hHeld=>?_)
  ·(first | with_reducible exact s0d | with_reducible exact hext hy6 hHeld | with_reducible exact hS7 | with_reducible exact hHeld | with_reducible exact hset1 _ _ hHeld)
  (try simp only [pur,Nat.reduceAdd])
  refine tk (v:=?_) 0 rfl (by kernel_rfl) (fun _ _ _ h=>h) (by rfl) ?_ (by assumption) ?_
  rotate_left
  ·(intro w hSw;(try dsimp only at hSw);(try go_simp);(try with_reducible rfl))
  (try simp only [Act.put,pus])
  refine tk (v:=?_) 1 rfl (by kernel_rfl) (fun _ _ _ h=>h) (by rfl) ?_ (by assumption) ?_
  rotate_left
  ·(intro w hSw;(try dsimp only at hSw);(try go_simp);(try with_reducible rfl))
  (try simp only [Act.put,pus])
  refine tk (v:=?_) 2 rfl (by kernel_rfl) (fun _ _ _ h=>h) (by rfl) ?_ (by assumption) ?_
  rotate_left
  ·(intro w hSw;(try dsimp only at hSw);(try go_simp);(try with_reducible rfl))
  (try simp only [Act.put,pus])
  refine tk (v:=?_) 3 rfl (by kernel_rfl) (fun _ _ _ h=>h) (by rfl) ?_ (by assumption) ?_
  rotate_left
  ·(intro w hSw;(try dsimp only at hSw);(try go_simp);(try with_reducible rfl))
  (try simp only [Act.put,pus])
  refine tk (v:=?_) 4 rfl (by kernel_rfl) (fun _ _ _ h=>h) (by rfl) ?_ (by assumption) ?_
  rotate_left
  ·(intro w hSw;(try dsimp only at hSw);(try go_simp);(try with_reducible rfl))
  (try simp only [Act.put,pus])
  refine tk (v:=?_) 5 rfl (by kernel_rfl) (fun _ _ _ h=>h) (by rfl) ?_ (by assumption) ?_
  rotate_left
  ·(intro w hSw;(try dsimp only at hSw);(try go_simp);(try with_reducible rfl))
  (try simp only [Act.put,pus])
  refine wpAnyH_ready (rs:=[6]) (by kernel_rfl) (by simp) ?_
  refine AllReadyH.cons (o:=_) rfl (fun K hK=>?_) ?_
  ·go_simp
   refine HM5.out.mono ?_;rintro e6 w6 ⟨v6,R,rfl,hO6,hRd,hRv,_,hy6⟩;obtain⟨a6,cp6,rfl,hi6,hb6⟩:=hO6.form0 hRd;have HTR:=Lib.hid (show trimL R=digs N by rw [trim_eq hRd,hRv,HNN.out])
   refine hK.out _ _ ?_ (fun hHeld2=>?_)
   ·(first | with_reducible exact s0d | with_reducible exact hext hy6 hHeld | with_reducible exact hS7 | with_reducible exact hHeld | with_reducible exact hset1 _ _ hHeld)
   clear hK K hHeld
   have hHeld:=hHeld2
   clear hHeld2
   (try simp only [Act.put,pus])
   refine wpAnyH_ready (rs:=[7]) (by kernel_rfl) (by simp) ?_
   refine AllReadyH.cons (o:=_) rfl (fun K hK=>?_) ?_
   ·go_simp
    (try rw [hS]);with_reducible refine(ref_of_ok n1 a6 cp6 R w6 hi6 (by rw [HTR.out];exact HL.out)).mono ?_;rintro e7 w7 ⟨rfl,hy7⟩;have hI7:Ints w7 a6 cp6 (digs N):=(by have hI:=(hi6.take (trimL R).length).ext hy7;rw [←trim_take,HTR.out] at hI;exact hI);rw [HTR.out];have hyy:=hy6.trans hy7;have J5:=(H5.out.drew).ext hyy;have d0:=J5.cell (i:=0) (v:=.bool false) rfl;have d1:=J5.cell (i:=1) (v:=.slice none 0 0) rfl;have f0:=J5.free 0;have f1:=J5.free 1;have hS7:=hext hyy s0d;obtain⟨t,ht⟩:∃t,(n1 && decide (0< (digs N).length))=t:=⟨_,rfl⟩;rw [ht]
    refine hK.out _ _ ?_ (fun hHeld2=>?_)
    ·(first | with_reducible exact s0d | with_reducible exact hext hy6 hHeld | with_reducible exact hS7 | with_reducible exact hHeld | with_reducible exact hset1 _ _ hHeld)
    clear hK K hHeld
    have hHeld:=hHeld2
    clear hHeld2
    (try simp only [Act.put,pus])
    refine tk (v:=?_) 8 rfl (by kernel_rfl) (fun _ _ _ h=>h) (by rfl) ?_ (by assumption) ?_
    rotate_left
    ·(intro w hSw;(try dsimp only at hSw);(try go_simp);(try with_reducible rfl))
    (try simp only [Act.put,pus])
    refine tk (v:=?_) 9 rfl (by kernel_rfl) (fun _ _ _ h=>h) (by rfl) ?_ (by assumption) ?_
    rotate_left
    ·(intro w hSw;(try dsimp only at hSw);(try go_simp);(try with_reducible rfl))
    (try simp only [Act.put,pus])
    refine wpAnyH_ready (rs:=[10]) (by kernel_rfl) (by simp) ?_
    refine AllReadyH.cons (o:=_) rfl (fun K hK=>?_) ?_
    ·go_simp
     refine hK.out _ _ ?_ (fun hHeld2=>?_)
     ·(first | with_reducible exact s0d | with_reducible exact hext hy6 hHeld | with_reducible exact hS7 | with_reducible exact hHeld | with_reducible exact hset1 _ _ hHeld)
     clear hK K hHeld
     have hHeld:=hHeld2
     clear hHeld2
     (try simp only [Act.put,pus])
     refine wpAnyH_ready (rs:=[11]) (by kernel_rfl) (by simp) ?_
     refine AllReadyH.cons (o:=_) rfl (fun K hK=>?_) ?_
     ·go_simp
      refine hK.out _ _ ?_ (fun hHeld2=>?_)
      ·(first | with_reducible exact s0d | with_reducible exact hext hy6 hHeld | with_reducible exact hS7 | with_reducible exact hHeld | with_reducible exact hset1 _ _ hHeld)
      clear hK K hHeld
      have hHeld:=hHeld2
      clear hHeld2
      (try simp only [Act.put,pus])
      refine wpAnyH_done (by kernel_rfl) ?_ _
      (go_wp2_with fail;have L5:=(J5.set 0 (.bool t)).set 1 (.slice a6 (digs N).length cp6);have e0:=L5.cell (i:=0) (v:=.bool t) rfl;have e1:=L5.cell (i:=1) (v:=.slice a6 (digs N).length cp6) rfl;have hbo:=big_of n1 N;rw [ht] at hbo;have hlt5:=H5.out.lt;have hbl:∀A,a6=some A→w5.heap.size≤A.block:=hb6;refine bodyPost_ret (v:=.tuple #[.agg #[.bool t,.slice a6 (digs N).length cp6],.int .i64 0]) (by simp [results,Tryz.results77,go_sem,e0,e1]) rfl ?_;refine⟨_,rfl,⟨t,a6,cp6,digs N,rfl,(hI7.putO (p:=⟨w.heap.size+2,0,none⟩) (fun A hA=>by have:=hbl A hA;dsimp only;omega) _).putO (p:=⟨w.heap.size+2,1,none⟩) (fun A hA=>by have:=hbl A hA;dsimp only;omega) _,hbo,fun A hA=>by have:=hbl A hA;omega⟩,((hx5.drew.trans hyy).set (p:=⟨w.heap.size+2,0,none⟩) (by dsimp only;omega) _).set (p:=⟨w.heap.size+2,1,none⟩) (by dsimp only;omega) _⟩)
     exact AllReadyH.nil
    exact AllReadyH.nil
   exact AllReadyH.nil
  exact AllReadyH.nil
 ·have hne':(n1 == n2)=false:=by simpa using hne
  rcases Int.lt_or_le (dval l) (dval m) with hc | hc
  ·skip
   obtain⟨N,hN⟩:∃N,(dval m - dval l).toNat=N:=⟨_,rfl⟩
   have hz:sgn n1 (dval l)+sgn n2 (dval m)=sgn n2 N:=by
    unfold sgn;cases n1 <;> cases n2 <;> simp at hne ⊢ <;> omega
   rw [hz,sgn_abs] at hlen
   rw [hz]
   have hge2:decide (0≤cmpI (dval l) (dval m))=false:=by
    rw [decide_eq_false_iff_not,cmpI_lt hc];omega
   have HM:=Lib.hid (fun W (hy:Ext w W)=>HL2.out W hy (by omega))
   rw [hN] at HM
   generalize cmpI (dval l) (dval m)=cm at *
   have HL:=Lib.hid hlen
   have HTR:=Lib.hid (trim_id (digs_norm N))
   have hS:n2=n2:=rfl
   clear HPL HL1 HL2 z1 z2 y1 y2 h1 h2 h k B1 B2 B3 hw3 hN hz hlen p1 p2 hc
   go_enter Tryz.func77,Tryz.ntmps77
   go_upto_region 1 with fail
   rw [HW.out]
   simp only [Nat.add_assoc,Nat.reduceAdd]
   go_wp2_with fail
   refine HT.out.mono ?_
   rintro e w5 ⟨rfl,hy⟩
   have H5:=Lib.hid (H3.out.ext hy)
   have hx5:=hx.trans hy
   clear c0 c1 c2 c3
   have c0:=(H1.out.ext hy).cell (i:=0) (v:=.bool n1) rfl
   have c1:=(H1.out.ext hy).cell (i:=1) (v:=.slice a l.length ca) rfl
   have c2:=(H2.out.ext hy).cell (i:=0) (v:=.bool n2) rfl
   have c3:=(H2.out.ext hy).cell (i:=1) (v:=.slice b m.length cb) rfl
   go_wp2_with fail
   refine(HCM.out w5 hx5).mono ?_
   rintro e wc ⟨rfl,hyc⟩
   have H5:=Lib.hid (H5.out.ext hyc)
   have hx5:=hx5.trans hyc
   clear c0 c1 c2 c3
   have c0:=(H1.out.ext (hy.trans hyc)).cell (i:=0) (v:=.bool n1) rfl
   have c1:=(H1.out.ext (hy.trans hyc)).cell (i:=1) (v:=.slice a l.length ca) rfl
   have c2:=(H2.out.ext (hy.trans hyc)).cell (i:=0) (v:=.bool n2) rfl
   have c3:=(H2.out.ext (hy.trans hyc)).cell (i:=1) (v:=.slice b m.length cb) rfl
   go_upto_region 8 with fail
   have s0d:wc.drew.cell? ⟨w.heap.size,0,none⟩=some (.bool n1)∧wc.drew.cell? ⟨w.heap.size,1,none⟩=some (.slice a l.length ca)∧wc.drew.cell? ⟨w.heap.size+1,0,none⟩=some (.bool n2)∧wc.drew.cell? ⟨w.heap.size+1,1,none⟩=some (.slice b m.length cb):=⟨c0,c1,c2,c3⟩
   have hext:∀{A B:World},Ext A B→(A.cell? ⟨w.heap.size,0,none⟩=some (.bool n1)∧A.cell? ⟨w.heap.size,1,none⟩=some (.slice a l.length ca)∧A.cell? ⟨w.heap.size+1,0,none⟩=some (.bool n2)∧A.cell? ⟨w.heap.size+1,1,none⟩=some (.slice b m.length cb))→(B.cell? ⟨w.heap.size,0,none⟩=some (.bool n1)∧B.cell? ⟨w.heap.size,1,none⟩=some (.slice a l.length ca)∧B.cell? ⟨w.heap.size+1,0,none⟩=some (.bool n2)∧B.cell? ⟨w.heap.size+1,1,none⟩=some (.slice b m.length cb)):=fun hAB h=>
    ⟨(hAB.cell (p:=⟨_,_,none⟩) (lt_of_cell h.1)).trans h.1,(hAB.cell (p:=⟨_,_,none⟩) (lt_of_cell h.2.1)).trans h.2.1,(hAB.cell (p:=⟨_,_,none⟩) (lt_of_cell h.2.2.1)).trans h.2.2.1,(hAB.cell (p:=⟨_,_,none⟩) (lt_of_cell h.2.2.2)).trans h.2.2.2⟩
   have hset1:∀{A:World} (x y:Value),(A.cell? ⟨w.heap.size,0,none⟩=some (.bool n1)∧A.cell? ⟨w.heap.size,1,none⟩=some (.slice a l.length ca)∧A.cell? ⟨w.heap.size+1,0,none⟩=some (.bool n2)∧A.cell? ⟨w.heap.size+1,1,none⟩=some (.slice b m.length cb))→(((A.setCell ⟨w.heap.size+2,0,none⟩ x).setCell ⟨w.heap.size+2,1,none⟩ y).cell? ⟨w.heap.size,0,none⟩=some (.bool n1)∧((A.setCell ⟨w.heap.size+2,0,none⟩ x).setCell ⟨w.heap.size+2,1,none⟩ y).cell? ⟨w.heap.size,1,none⟩=some (.slice a l.length ca)∧((A.setCell ⟨w.heap.size+2,0,none⟩ x).setCell ⟨w.heap.size+2,1,none⟩ y).cell? ⟨w.heap.size+1,0,none⟩=some (.bool n2)∧((A.setCell ⟨w.heap.size+2,0,none⟩ x).setCell ⟨w.heap.size+2,1,none⟩ y).cell? ⟨w.heap.size+1,1,none⟩=some (.slice b m.length cb)):=fun x y h=>by
    refine⟨?_,?_,?_,?_⟩ <;> rw [World.cell?_setCell_far _ _ _ _ (by dsimp only;omega),World.cell?_setCell_far _ _ _ _ (by dsimp only;omega)]
    ·exact h.1
    ·exact h.2.1
    ·exact h.2.2.1
    ·exact h.2.2.2
   have HM5:=Lib.hid (HM.out wc.drew (hx5.drew))
   clear H1 H2 HM HT c0 c1 c2 c3 H3 HW HCM
   refine wp_region_held_drew (S:=(fun w'=>w'.cell? ⟨w.heap.size,0,none⟩=some (.bool n1)∧w'.cell? ⟨w.heap.size,1,none⟩=some (.slice a l.length ca)∧w'.cell? ⟨w.heap.size+1,0,none⟩=some (.bool n2)∧w'.cell? ⟨w.heap.size+1,1,none⟩=some (.slice b m.length cb))) (by kernel_rfl) ?_ (fun hHeld=>?_)
   ·(first | with_reducible exact s0d | with_reducible exact hext hy6 hHeld | with_reducible exact hS7 | with_reducible exact hHeld | with_reducible exact hset1 _ _ hHeld)
   (try simp only [pur,Nat.reduceAdd])
   refine tk (v:=?_) 0 rfl (by kernel_rfl) (fun _ _ _ h=>h) (by rfl) ?_ (by assumption) ?_
   rotate_left
   ·(intro w hSw;(try dsimp only at hSw);(try go_simp);(try with_reducible rfl))
   (try simp only [Act.put,pus])
   refine tk (v:=?_) 1 rfl (by kernel_rfl) (fun _ _ _ h=>h) (by rfl) ?_ (by assumption) ?_
   rotate_left
   ·(intro w hSw;(try dsimp only at hSw);(try go_simp);(try with_reducible rfl))
   (try simp only [Act.put,pus])
   refine tk (v:=?_) 2 rfl (by kernel_rfl) (fun _ _ _ h=>h) (by rfl) ?_ (by assumption) ?_
   rotate_left
   ·(intro w hSw;(try dsimp only at hSw);(try go_simp);(try with_reducible rfl))
   (try simp only [Act.put,pus])
   refine tk (v:=?_) 3 rfl (by kernel_rfl) (fun _ _ _ h=>h) (by rfl) ?_ (by assumption) ?_
   rotate_left
   ·(intro w hSw;(try dsimp only at hSw);(try go_simp);(try with_reducible rfl))
   (try simp only [Act.put,pus])
   refine tk (v:=?_) 4 rfl (by kernel_rfl) (fun _ _ _ h=>h) (by rfl) ?_ (by assumption) ?_
   rotate_left
   ·(intro w hSw;(try dsimp only at hSw);(try go_simp);(try with_reducible rfl))
   (try simp only [Act.put,pus])
   refine tk (v:=?_) 5 rfl (by kernel_rfl) (fun _ _ _ h=>h) (by rfl) ?_ (by assumption) ?_
   rotate_left
   ·(intro w hSw;(try dsimp only at hSw);(try go_simp);(try with_reducible rfl))
   (try simp only [Act.put,pus])
   refine wpAnyH_ready (rs:=[6]) (by kernel_rfl) (by simp) ?_
   refine AllReadyH.cons (o:=_) rfl (fun K hK=>?_) ?_
   ·go_simp
    refine HM5.out.mono ?_;rintro e6 w6 ⟨v6,rfl,hO6,hy6⟩;obtain⟨a6,cp6,rfl,hi6,hb6⟩:=hO6.form0 (digs_norm N).digs
    refine hK.out _ _ ?_ (fun hHeld2=>?_)
    ·(first | with_reducible exact s0d | with_reducible exact hext hy6 hHeld | with_reducible exact hS7 | with_reducible exact hHeld | with_reducible exact hset1 _ _ hHeld)
    clear hK K hHeld
    have hHeld:=hHeld2
    clear hHeld2
    (try simp only [Act.put,pus])
    refine wpAnyH_ready (rs:=[7]) (by kernel_rfl) (by simp) ?_
    refine AllReadyH.cons (o:=_) rfl (fun K hK=>?_) ?_
    ·go_simp
     (try rw [hS]);with_reducible refine(ref_of_ok n2 a6 cp6 (digs N) w6 hi6 (by rw [HTR.out];exact HL.out)).mono ?_;rintro e7 w7 ⟨rfl,hy7⟩;have hI7:Ints w7 a6 cp6 (digs N):=(by have hI:=(hi6.take (trimL (digs N)).length).ext hy7;rw [←trim_take,HTR.out] at hI;exact hI);rw [HTR.out];have hyy:=hy6.trans hy7;have J5:=(H5.out.drew).ext hyy;have d0:=J5.cell (i:=0) (v:=.bool false) rfl;have d1:=J5.cell (i:=1) (v:=.slice none 0 0) rfl;have f0:=J5.free 0;have f1:=J5.free 1;have hS7:=hext hyy s0d;obtain⟨t,ht⟩:∃t,(n2 && decide (0< (digs N).length))=t:=⟨_,rfl⟩;rw [ht]
     refine hK.out _ _ ?_ (fun hHeld2=>?_)
     ·(first | with_reducible exact s0d | with_reducible exact hext hy6 hHeld | with_reducible exact hS7 | with_reducible exact hHeld | with_reducible exact hset1 _ _ hHeld)
     clear hK K hHeld
     have hHeld:=hHeld2
     clear hHeld2
     (try simp only [Act.put,pus])
     refine tk (v:=?_) 8 rfl (by kernel_rfl) (fun _ _ _ h=>h) (by rfl) ?_ (by assumption) ?_
     rotate_left
     ·(intro w hSw;(try dsimp only at hSw);(try go_simp);(try with_reducible rfl))
     (try simp only [Act.put,pus])
     refine tk (v:=?_) 9 rfl (by kernel_rfl) (fun _ _ _ h=>h) (by rfl) ?_ (by assumption) ?_
     rotate_left
     ·(intro w hSw;(try dsimp only at hSw);(try go_simp);(try with_reducible rfl))
     (try simp only [Act.put,pus])
     refine wpAnyH_ready (rs:=[10]) (by kernel_rfl) (by simp) ?_
     refine AllReadyH.cons (o:=_) rfl (fun K hK=>?_) ?_
     ·go_simp
      refine hK.out _ _ ?_ (fun hHeld2=>?_)
      ·(first | with_reducible exact s0d | with_reducible exact hext hy6 hHeld | with_reducible exact hS7 | with_reducible exact hHeld | with_reducible exact hset1 _ _ hHeld)
      clear hK K hHeld
      have hHeld:=hHeld2
      clear hHeld2
      (try simp only [Act.put,pus])
      refine wpAnyH_ready (rs:=[11]) (by kernel_rfl) (by simp) ?_
      refine AllReadyH.cons (o:=_) rfl (fun K hK=>?_) ?_
      ·go_simp
       refine hK.out _ _ ?_ (fun hHeld2=>?_)
       ·(first | with_reducible exact s0d | with_reducible exact hext hy6 hHeld | with_reducible exact hS7 | with_reducible exact hHeld | with_reducible exact hset1 _ _ hHeld)
       clear hK K hHeld
       have hHeld:=hHeld2
       clear hHeld2
       (try simp only [Act.put,pus])
       refine wpAnyH_done (by kernel_rfl) ?_ _
       (go_wp2_with fail;have L5:=(J5.set 0 (.bool t)).set 1 (.slice a6 (digs N).length cp6);have e0:=L5.cell (i:=0) (v:=.bool t) rfl;have e1:=L5.cell (i:=1) (v:=.slice a6 (digs N).length cp6) rfl;have hbo:=big_of n2 N;rw [ht] at hbo;have hlt5:=H5.out.lt;have hbl:∀A,a6=some A→wc.heap.size≤A.block:=hb6;refine bodyPost_ret (v:=.tuple #[.agg #[.bool t,.slice a6 (digs N).length cp6],.int .i64 0]) (by simp [results,Tryz.results77,go_sem,e0,e1]) rfl ?_;refine⟨_,rfl,⟨t,a6,cp6,digs N,rfl,(hI7.putO (p:=⟨w.heap.size+2,0,none⟩) (fun A hA=>by have:=hbl A hA;dsimp only;omega) _).putO (p:=⟨w.heap.size+2,1,none⟩) (fun A hA=>by have:=hbl A hA;dsimp only;omega) _,hbo,fun A hA=>by have:=hbl A hA;omega⟩,((hx5.drew.trans hyy).set (p:=⟨w.heap.size+2,0,none⟩) (by dsimp only;omega) _).set (p:=⟨w.heap.size+2,1,none⟩) (by dsimp only;omega) _⟩)
      exact AllReadyH.nil
     exact AllReadyH.nil
    exact AllReadyH.nil
   exact AllReadyH.nil
  ·skip
   obtain⟨N,hN⟩:∃N,(dval l - dval m).toNat=N:=⟨_,rfl⟩
   have hz:sgn n1 (dval l)+sgn n2 (dval m)=sgn n1 N:=by
    unfold sgn;cases n1 <;> cases n2 <;> simp at hne ⊢ <;> omega
   rw [hz,sgn_abs] at hlen
   rw [hz]
   have hge2:decide (0≤cmpI (dval l) (dval m))=true:=by
    rw [decide_eq_true_eq];unfold cmpI;split <;> (try split) <;> omega
   have HM:=Lib.hid (fun W (hy:Ext w W)=>HL1.out W hy (by omega))
   rw [hN] at HM
   generalize cmpI (dval l) (dval m)=cm at *
   have HL:=Lib.hid hlen
   have HTR:=Lib.hid (trim_id (digs_norm N))
   have hS:n1=n1:=rfl
   clear HPL HL1 HL2 z1 z2 y1 y2 h1 h2 h k B1 B2 B3 hw3 hN hz hlen p1 p2 hc
   go_enter Tryz.func77,Tryz.ntmps77
   go_upto_region 1 with fail
   rw [HW.out]
   simp only [Nat.add_assoc,Nat.reduceAdd]
   go_wp2_with fail
   refine HT.out.mono ?_
   rintro e w5 ⟨rfl,hy⟩
   have H5:=Lib.hid (H3.out.ext hy)
   have hx5:=hx.trans hy
   clear c0 c1 c2 c3
   have c0:=(H1.out.ext hy).cell (i:=0) (v:=.bool n1) rfl
   have c1:=(H1.out.ext hy).cell (i:=1) (v:=.slice a l.length ca) rfl
   have c2:=(H2.out.ext hy).cell (i:=0) (v:=.bool n2) rfl
   have c3:=(H2.out.ext hy).cell (i:=1) (v:=.slice b m.length cb) rfl
   go_wp2_with fail
   refine(HCM.out w5 hx5).mono ?_
   rintro e wc ⟨rfl,hyc⟩
   have H5:=Lib.hid (H5.out.ext hyc)
   have hx5:=hx5.trans hyc
   clear c0 c1 c2 c3
   have c0:=(H1.out.ext (hy.trans hyc)).cell (i:=0) (v:=.bool n1) rfl
   have c1:=(H1.out.ext (hy.trans hyc)).cell (i:=1) (v:=.slice a l.length ca) rfl
   have c2:=(H2.out.ext (hy.trans hyc)).cell (i:=0) (v:=.bool n2) rfl
   have c3:=(H2.out.ext (hy.trans hyc)).cell (i:=1) (v:=.slice b m.length cb) rfl
   go_upto_region 7 with fail
   have s0d:wc.drew.cell? ⟨w.heap.size,0,none⟩=some (.bool n1)∧wc.drew.cell? ⟨w.heap.size,1,none⟩=some (.slice a l.length ca)∧wc.drew.cell? ⟨w.heap.size+1,0,none⟩=some (.bool n2)∧wc.drew.cell? ⟨w.heap.size+1,1,none⟩=some (.slice b m.length cb):=⟨c0,c1,c2,c3⟩
   have hext:∀{A B:World},Ext A B→(A.cell? ⟨w.heap.size,0,none⟩=some (.bool n1)∧A.cell? ⟨w.heap.size,1,none⟩=some (.slice a l.length ca)∧A.cell? ⟨w.heap.size+1,0,none⟩=some (.bool n2)∧A.cell? ⟨w.heap.size+1,1,none⟩=some (.slice b m.length cb))→(B.cell? ⟨w.heap.size,0,none⟩=some (.bool n1)∧B.cell? ⟨w.heap.size,1,none⟩=some (.slice a l.length ca)∧B.cell? ⟨w.heap.size+1,0,none⟩=some (.bool n2)∧B.cell? ⟨w.heap.size+1,1,none⟩=some (.slice b m.length cb)):=fun hAB h=>
    ⟨(hAB.cell (p:=⟨_,_,none⟩) (lt_of_cell h.1)).trans h.1,(hAB.cell (p:=⟨_,_,none⟩) (lt_of_cell h.2.1)).trans h.2.1,(hAB.cell (p:=⟨_,_,none⟩) (lt_of_cell h.2.2.1)).trans h.2.2.1,(hAB.cell (p:=⟨_,_,none⟩) (lt_of_cell h.2.2.2)).trans h.2.2.2⟩
   have hset1:∀{A:World} (x y:Value),(A.cell? ⟨w.heap.size,0,none⟩=some (.bool n1)∧A.cell? ⟨w.heap.size,1,none⟩=some (.slice a l.length ca)∧A.cell? ⟨w.heap.size+1,0,none⟩=some (.bool n2)∧A.cell? ⟨w.heap.size+1,1,none⟩=some (.slice b m.length cb))→(((A.setCell ⟨w.heap.size+2,0,none⟩ x).setCell ⟨w.heap.size+2,1,none⟩ y).cell? ⟨w.heap.size,0,none⟩=some (.bool n1)∧((A.setCell ⟨w.heap.size+2,0,none⟩ x).setCell ⟨w.heap.size+2,1,none⟩ y).cell? ⟨w.heap.size,1,none⟩=some (.slice a l.length ca)∧((A.setCell ⟨w.heap.size+2,0,none⟩ x).setCell ⟨w.heap.size+2,1,none⟩ y).cell? ⟨w.heap.size+1,0,none⟩=some (.bool n2)∧((A.setCell ⟨w.heap.size+2,0,none⟩ x).setCell ⟨w.heap.size+2,1,none⟩ y).cell? ⟨w.heap.size+1,1,none⟩=some (.slice b m.length cb)):=fun x y h=>by
    refine⟨?_,?_,?_,?_⟩ <;> rw [World.cell?_setCell_far _ _ _ _ (by dsimp only;omega),World.cell?_setCell_far _ _ _ _ (by dsimp only;omega)]
    ·exact h.1
    ·exact h.2.1
    ·exact h.2.2.1
    ·exact h.2.2.2
   have HM5:=Lib.hid (HM.out wc.drew (hx5.drew))
   clear H1 H2 HM HT c0 c1 c2 c3 H3 HW HCM
   refine wp_region_held_drew (S:=(fun w'=>w'.cell? ⟨w.heap.size,0,none⟩=some (.bool n1)∧w'.cell? ⟨w.heap.size,1,none⟩=some (.slice a l.length ca)∧w'.cell? ⟨w.heap.size+1,0,none⟩=some (.bool n2)∧w'.cell? ⟨w.heap.size+1,1,none⟩=some (.slice b m.length cb))) (by kernel_rfl) ?_ (fun hHeld=>?_)
   ·(first | with_reducible exact s0d | with_reducible exact hext hy6 hHeld | with_reducible exact hS7 | with_reducible exact hHeld | with_reducible exact hset1 _ _ hHeld)
   (try simp only [pur,Nat.reduceAdd])
   refine tk (v:=?_) 0 rfl (by kernel_rfl) (fun _ _ _ h=>h) (by rfl) ?_ (by assumption) ?_
   rotate_left
   ·(intro w hSw;(try dsimp only at hSw);(try go_simp);(try with_reducible rfl))
   (try simp only [Act.put,pus])
   refine tk (v:=?_) 1 rfl (by kernel_rfl) (fun _ _ _ h=>h) (by rfl) ?_ (by assumption) ?_
   rotate_left
   ·(intro w hSw;(try dsimp only at hSw);(try go_simp);(try with_reducible rfl))
   (try simp only [Act.put,pus])
   refine tk (v:=?_) 2 rfl (by kernel_rfl) (fun _ _ _ h=>h) (by rfl) ?_ (by assumption) ?_
   rotate_left
   ·(intro w hSw;(try dsimp only at hSw);(try go_simp);(try with_reducible rfl))
   (try simp only [Act.put,pus])
   refine tk (v:=?_) 3 rfl (by kernel_rfl) (fun _ _ _ h=>h) (by rfl) ?_ (by assumption) ?_
   rotate_left
   ·(intro w hSw;(try dsimp only at hSw);(try go_simp);(try with_reducible rfl))
   (try simp only [Act.put,pus])
   refine tk (v:=?_) 4 rfl (by kernel_rfl) (fun _ _ _ h=>h) (by rfl) ?_ (by assumption) ?_
   rotate_left
   ·(intro w hSw;(try dsimp only at hSw);(try go_simp);(try with_reducible rfl))
   (try simp only [Act.put,pus])
   refine tk (v:=?_) 5 rfl (by kernel_rfl) (fun _ _ _ h=>h) (by rfl) ?_ (by assumption) ?_
   rotate_left
   ·(intro w hSw;(try dsimp only at hSw);(try go_simp);(try with_reducible rfl))
   (try simp only [Act.put,pus])
   refine wpAnyH_ready (rs:=[6]) (by kernel_rfl) (by simp) ?_
   refine AllReadyH.cons (o:=_) rfl (fun K hK=>?_) ?_
   ·go_simp
    refine HM5.out.mono ?_;rintro e6 w6 ⟨v6,rfl,hO6,hy6⟩;obtain⟨a6,cp6,rfl,hi6,hb6⟩:=hO6.form0 (digs_norm N).digs
    refine hK.out _ _ ?_ (fun hHeld2=>?_)
    ·(first | with_reducible exact s0d | with_reducible exact hext hy6 hHeld | with_reducible exact hS7 | with_reducible exact hHeld | with_reducible exact hset1 _ _ hHeld)
    clear hK K hHeld
    have hHeld:=hHeld2
    clear hHeld2
    (try simp only [Act.put,pus])
    refine wpAnyH_ready (rs:=[7]) (by kernel_rfl) (by simp) ?_
    refine AllReadyH.cons (o:=_) rfl (fun K hK=>?_) ?_
    ·go_simp
     (try rw [hS]);with_reducible refine(ref_of_ok n1 a6 cp6 (digs N) w6 hi6 (by rw [HTR.out];exact HL.out)).mono ?_;rintro e7 w7 ⟨rfl,hy7⟩;have hI7:Ints w7 a6 cp6 (digs N):=(by have hI:=(hi6.take (trimL (digs N)).length).ext hy7;rw [←trim_take,HTR.out] at hI;exact hI);rw [HTR.out];have hyy:=hy6.trans hy7;have J5:=(H5.out.drew).ext hyy;have d0:=J5.cell (i:=0) (v:=.bool false) rfl;have d1:=J5.cell (i:=1) (v:=.slice none 0 0) rfl;have f0:=J5.free 0;have f1:=J5.free 1;have hS7:=hext hyy s0d;obtain⟨t,ht⟩:∃t,(n1 && decide (0< (digs N).length))=t:=⟨_,rfl⟩;rw [ht]
     refine hK.out _ _ ?_ (fun hHeld2=>?_)
     ·(first | with_reducible exact s0d | with_reducible exact hext hy6 hHeld | with_reducible exact hS7 | with_reducible exact hHeld | with_reducible exact hset1 _ _ hHeld)
     clear hK K hHeld
     have hHeld:=hHeld2
     clear hHeld2
     (try simp only [Act.put,pus])
     refine tk (v:=?_) 8 rfl (by kernel_rfl) (fun _ _ _ h=>h) (by rfl) ?_ (by assumption) ?_
     rotate_left
     ·(intro w hSw;(try dsimp only at hSw);(try go_simp);(try with_reducible rfl))
     (try simp only [Act.put,pus])
     refine tk (v:=?_) 9 rfl (by kernel_rfl) (fun _ _ _ h=>h) (by rfl) ?_ (by assumption) ?_
     rotate_left
     ·(intro w hSw;(try dsimp only at hSw);(try go_simp);(try with_reducible rfl))
     (try simp only [Act.put,pus])
     refine wpAnyH_ready (rs:=[10]) (by kernel_rfl) (by simp) ?_
     refine AllReadyH.cons (o:=_) rfl (fun K hK=>?_) ?_
     ·go_simp
      refine hK.out _ _ ?_ (fun hHeld2=>?_)
      ·(first | with_reducible exact s0d | with_reducible exact hext hy6 hHeld | with_reducible exact hS7 | with_reducible exact hHeld | with_reducible exact hset1 _ _ hHeld)
      clear hK K hHeld
      have hHeld:=hHeld2
      clear hHeld2
      (try simp only [Act.put,pus])
      refine wpAnyH_ready (rs:=[11]) (by kernel_rfl) (by simp) ?_
      refine AllReadyH.cons (o:=_) rfl (fun K hK=>?_) ?_
      ·go_simp
       refine hK.out _ _ ?_ (fun hHeld2=>?_)
       ·(first | with_reducible exact s0d | with_reducible exact hext hy6 hHeld | with_reducible exact hS7 | with_reducible exact hHeld | with_reducible exact hset1 _ _ hHeld)
       clear hK K hHeld
       have hHeld:=hHeld2
       clear hHeld2
       (try simp only [Act.put,pus])
       refine wpAnyH_done (by kernel_rfl) ?_ _
       (go_wp2_with fail;have L5:=(J5.set 0 (.bool t)).set 1 (.slice a6 (digs N).length cp6);have e0:=L5.cell (i:=0) (v:=.bool t) rfl;have e1:=L5.cell (i:=1) (v:=.slice a6 (digs N).length cp6) rfl;have hbo:=big_of n1 N;rw [ht] at hbo;have hlt5:=H5.out.lt;have hbl:∀A,a6=some A→wc.heap.size≤A.block:=hb6;refine bodyPost_ret (v:=.tuple #[.agg #[.bool t,.slice a6 (digs N).length cp6],.int .i64 0]) (by simp [results,Tryz.results77,go_sem,e0,e1]) rfl ?_;refine⟨_,rfl,⟨t,a6,cp6,digs N,rfl,(hI7.putO (p:=⟨w.heap.size+2,0,none⟩) (fun A hA=>by have:=hbl A hA;dsimp only;omega) _).putO (p:=⟨w.heap.size+2,1,none⟩) (fun A hA=>by have:=hbl A hA;dsimp only;omega) _,hbo,fun A hA=>by have:=hbl A hA;omega⟩,((hx5.drew.trans hyy).set (p:=⟨w.heap.size+2,0,none⟩) (by dsimp only;omega) _).set (p:=⟨w.heap.size+2,1,none⟩) (by dsimp only;omega) _⟩)
      exact AllReadyH.nil
     exact AllReadyH.nil
    exact AllReadyH.nil
   exact AllReadyH.nil
theorem rAdd_val {v u:Value} {z y:Int} {w:World} (hv:BigV w v z) (hu:BigV w u y) (hz:Len z) (hy:Len y) (hl:Len (z+y)):Calls Tryz.prog 77 #[v,u] w (OneP (z+y) w):=by
 obtain⟨n1,l,⟨a,ca,rfl,hi⟩,hb⟩:=hv
 obtain⟨n2,m,⟨b,cb,rfl,hj⟩,hc⟩:=hu
 have:=ref_Add_ok n1 n2 a b ca cb l m w hi hj (hb.chk hz) (hc.chk hy) (by rw [←hb.sgn,←hc.sgn];exact hl)
 rw [←hb.sgn,←hc.sgn] at this
 exact this
theorem rMul_val {v u:Value} {z y:Int} {w:World} (hv:BigV w v z) (hu:BigV w u y) (hz:Len z) (hy:Len y) (hl:Len (z*y)):Calls Tryz.prog 78 #[v,u] w (OneP (z*y) w):=by
 obtain⟨n1,l,⟨a,ca,rfl,hi⟩,hb⟩:=hv
 obtain⟨n2,m,⟨b,cb,rfl,hj⟩,hc⟩:=hu
 have h0:=dval_nonneg hb.1.digs
 have h1:=dval_nonneg hc.1.digs
 have h2:=Int.mul_nonneg h0 h1
 have habs:(z*y).natAbs= (dval l*dval m).toNat:=by
  rw [hb.sgn,hc.sgn,sgn_mul]
  unfold sgn;split <;> omega
 have:=ref_Mul_ok n1 n2 a b ca cb l m w hi hj (hb.chk hz) (hc.chk hy) (by rw [←habs];exact hl)
 rw [←hb.sgn,←hc.sgn] at this
 exact this
end Go.Proofs.YtolffmmkjnhkkaaGreat
namespace Go.Proofs.YtolffmmkjnhkkaaGreat
open Go.RowKit Go BigFrame Go.Shelf
set_option maxRecDepth 100000
set_option linter.unusedSimpArgs false
theorem ref_Neg (neg:Bool) (a:Option Addr) (cap:Nat) (l:List Int) (w:World):
 Calls Tryz.prog 92 #[.agg #[.bool neg,.slice a l.length cap]] w fun e w'=>e=.returned (.agg #[.bool (!neg && decide (0<l.length)),.slice a l.length cap])∧Ext w w':=by
 have B1:=(Blk.new0 w #[.bool neg,.slice a l.length cap] 36).alloc (.cells #[.bool false,.slice none 0 0] 36)
 have B2:=Blk.new1 w (.cells #[.bool neg,.slice a l.length cap] 36) #[.bool false,.slice none 0 0] 36
 have hx:Ext w ((w.alloc (.cells #[.bool neg,.slice a l.length cap] 36)).alloc (.cells #[.bool false,.slice none 0 0] 36)):=(by repeat (first | with_reducible exact Ext.refl _ | with_reducible assumption | with_reducible refine Ext.drewN ?_ _ | with_reducible refine Ext.drew ?_ | with_reducible refine Ext.alloc' ?_ _ | with_reducible refine Ext.set ?_ (by dsimp only;omega) _))
 obtain⟨w1,hw1⟩:∃w1,(w.alloc (.cells #[.bool neg,.slice a l.length cap] 36)).alloc (.cells #[.bool false,.slice none 0 0] 36)=w1:=⟨_,rfl⟩
 rw [hw1] at B1 B2 hx
 have c0:=B1.cell (i:=0) (v:=.bool neg) rfl
 have c1:=B1.cell (i:=1) (v:=.slice a l.length cap) rfl
 have d0:=B2.cell (i:=0) (v:=.bool false) rfl
 have d1:=B2.cell (i:=1) (v:=.slice none 0 0) rfl
 have f0:=B2.free 0
 have f1:=B2.free 1
 have H2:=Lib.hid B2
 have HW:=Lib.hid hw1
 have hxx:=fun v u=>(hx.set (p:=⟨w.heap.size+1,0,none⟩) (by dsimp only;omega) v).set (p:=⟨w.heap.size+1,1,none⟩) (by dsimp only;omega) u
 have HX:=Lib.hid hxx
 clear B1 B2 hw1 hxx
 cases neg with
 | true=>
  go_enter Tryz.func92,Tryz.ntmps92
  go_upto_region 1 with fail
  rw [HW.out]
  go_wp2_with fail
  have k2:=(H2.out.set 0 (.bool false)).set 1 (.slice a l.length cap)
  have e0:=k2.cell (i:=0) (v:=.bool false) rfl
  have e1:=k2.cell (i:=1) (v:=.slice a l.length cap) rfl
  refine bodyPost_ret (v:=.agg #[.bool false,.slice a l.length cap]) (by simp [results,Tryz.results92,go_sem,e0,e1]) rfl ?_
  exact⟨rfl,HX.out _ _⟩
 | false=>
  go_enter Tryz.func92,Tryz.ntmps92
  go_upto_region 1 with fail
  rw [HW.out]
  go_wp2_with fail
  have k2:=(H2.out.set 0 (.bool (decide (0<l.length)))).set 1 (.slice a l.length cap)
  have e0:=k2.cell (i:=0) (v:=.bool (decide (0<l.length))) rfl
  have e1:=k2.cell (i:=1) (v:=.slice a l.length cap) rfl
  refine bodyPost_ret (v:=.agg #[.bool (decide (0<l.length)),.slice a l.length cap]) (by simp [results,Tryz.results92,go_sem,e0,e1]) rfl ?_
  exact⟨rfl,HX.out _ _⟩
theorem Big.neg {n:Bool} {l:List Int} {z:Int} (h:Big n l z):Big (!n && decide (0<l.length)) l (-z):=by
 obtain⟨h1,h2,h3⟩:=h
 cases n with
 | true=>exact⟨h1,fun e=>by simp at e,by simp at h3 ⊢;omega⟩
 | false=>
  refine⟨h1,fun e he=>by rw [he] at e;simp at e,?_⟩
  simp at h3
  by_cases hl:0<l.length
  ·simp [hl,h3]
  ·have:l=[]:=List.length_eq_zero_iff.1 (by omega)
   subst this;simp [h3,dval]
set_option maxHeartbeats 2000000 in
theorem ref_Sub_ok (n1 n2:Bool) (a b:Option Addr) (ca cb:Nat) (l m:List Int) (w:World) (h:Ints w a ca l) (k:Ints w b cb m) (h1:chkB n1 l=true) (h2:chkB n2 m=true) (hlen:Len (sgn n1 (dval l) - sgn n2 (dval m))):
 Calls Tryz.prog 75 #[.agg #[.bool n1,.slice a l.length ca],.agg #[.bool n2,.slice b m.length cb]] w (OneP (sgn n1 (dval l) - sgn n2 (dval m)) w):=by
 skip
 obtain⟨w3,hw3⟩:∃w3,(((w.alloc (.cells #[.bool n1,.slice a l.length ca] 36)).alloc (.cells #[.bool n2,.slice b m.length cb] 36)).alloc (.cells #[.bool false,.slice none 0 0] 36))=w3:=⟨_,rfl⟩
 have B1:=((Blk.new0 w #[.bool n1,.slice a l.length ca] 36).alloc (.cells #[.bool n2,.slice b m.length cb] 36)).alloc (.cells #[.bool false,.slice none 0 0] 36)
 have B2:=(Blk.new1 w (.cells #[.bool n1,.slice a l.length ca] 36) #[.bool n2,.slice b m.length cb] 36).alloc (.cells #[.bool false,.slice none 0 0] 36)
 have B3:=Blk.new2 w (.cells #[.bool n1,.slice a l.length ca] 36) (.cells #[.bool n2,.slice b m.length cb] 36) #[.bool false,.slice none 0 0] 36
 have hx:Ext w w3:=by rw [←hw3];exact(by repeat (first | with_reducible exact Ext.refl _ | with_reducible assumption | with_reducible refine Ext.drewN ?_ _ | with_reducible refine Ext.drew ?_ | with_reducible refine Ext.alloc' ?_ _ | with_reducible refine Ext.set ?_ (by dsimp only;omega) _))
 rw [hw3] at B1 B2 B3
 have c0:=B1.cell (i:=0) (v:=.bool n1) rfl
 have c1:=B1.cell (i:=1) (v:=.slice a l.length ca) rfl
 have c2:=B2.cell (i:=0) (v:=.bool n2) rfl
 have c3:=B2.cell (i:=1) (v:=.slice b m.length cb) rfl
 have H1:=Lib.hid B1
 have H2:=Lib.hid B2
 have H3:=Lib.hid B3
 have HW:=Lib.hid hw3
 have HT:=ref_two n1 n2 a b ca cb l m w3 (h.ext hx) (k.ext hx)
 rw [h1,h2] at HT
 have HT:=Lib.hid (show Calls Tryz.prog 69 _ w3 fun e w'=>e=.returned (.int .i64 0)∧Ext w3 w' from HT)
 obtain⟨z1,y1⟩:=of_chk h1
 obtain⟨z2,y2⟩:=of_chk h2
 have HN:=Lib.hid (fun W=>ref_Neg n2 b cb m W)
 have hlz:Len (sgn n1 (dval l)):=by unfold Len;rw [←z1.digs];exact y1
 have hly:Len (- sgn n2 (dval m)):=by unfold Len;rw [←z2.neg.digs];exact y2
 have HA:=Lib.hid (fun W (hy:Ext w W)=>rAdd_val (v:=.agg #[.bool n1,.slice a l.length ca]) (u:=.agg #[.bool (!n2 && decide (0<m.length)),.slice b m.length cb]) ⟨n1,l,⟨a,ca,rfl,h.ext hy⟩,z1⟩ ⟨_,m,⟨b,cb,rfl,k.ext hy⟩,z2.neg⟩ hlz hly (by rw [show sgn n1 (dval l)+ - sgn n2 (dval m)=sgn n1 (dval l) - sgn n2 (dval m) by omega];exact hlen))
 rw [show sgn n1 (dval l)+ - sgn n2 (dval m)=sgn n1 (dval l) - sgn n2 (dval m) by omega] at HA
 generalize sgn n1 (dval l) - sgn n2 (dval m)=z at *
 obtain⟨nn,hnn⟩:∃nn,(!n2 && decide (0<m.length))=nn:=⟨_,rfl⟩
 rw [hnn] at HN HA
 clear z1 z2 y1 y2 h1 h2 h k B1 B2 B3 hw3 hlen hlz hly hnn
 go_enter Tryz.func75,Tryz.ntmps75
 go_upto_region 1 with fail
 rw [HW.out]
 simp only [Nat.add_assoc,Nat.reduceAdd]
 go_wp2_with fail
 refine HT.out.mono ?_
 rintro e w5 ⟨rfl,hy⟩
 have H5:=Lib.hid (H3.out.ext hy)
 have hx5:=hx.trans hy
 clear c0 c1 c2 c3
 have c0:=(H1.out.ext hy).cell (i:=0) (v:=.bool n1) rfl
 have c1:=(H1.out.ext hy).cell (i:=1) (v:=.slice a l.length ca) rfl
 have c2:=(H2.out.ext hy).cell (i:=0) (v:=.bool n2) rfl
 have c3:=(H2.out.ext hy).cell (i:=1) (v:=.slice b m.length cb) rfl
 have s0d:w5.drew.cell? ⟨w.heap.size,0,none⟩=some (.bool n1)∧w5.drew.cell? ⟨w.heap.size,1,none⟩=some (.slice a l.length ca)∧w5.drew.cell? ⟨w.heap.size+1,0,none⟩=some (.bool n2)∧w5.drew.cell? ⟨w.heap.size+1,1,none⟩=some (.slice b m.length cb):=⟨c0,c1,c2,c3⟩
 have hext:∀{A B:World},Ext A B→(A.cell? ⟨w.heap.size,0,none⟩=some (.bool n1)∧A.cell? ⟨w.heap.size,1,none⟩=some (.slice a l.length ca)∧A.cell? ⟨w.heap.size+1,0,none⟩=some (.bool n2)∧A.cell? ⟨w.heap.size+1,1,none⟩=some (.slice b m.length cb))→(B.cell? ⟨w.heap.size,0,none⟩=some (.bool n1)∧B.cell? ⟨w.heap.size,1,none⟩=some (.slice a l.length ca)∧B.cell? ⟨w.heap.size+1,0,none⟩=some (.bool n2)∧B.cell? ⟨w.heap.size+1,1,none⟩=some (.slice b m.length cb)):=fun hAB h=>
  ⟨(hAB.cell (p:=⟨_,_,none⟩) (lt_of_cell h.1)).trans h.1,(hAB.cell (p:=⟨_,_,none⟩) (lt_of_cell h.2.1)).trans h.2.1,(hAB.cell (p:=⟨_,_,none⟩) (lt_of_cell h.2.2.1)).trans h.2.2.1,(hAB.cell (p:=⟨_,_,none⟩) (lt_of_cell h.2.2.2)).trans h.2.2.2⟩
 have hset1:∀{A:World} (x y:Value),(A.cell? ⟨w.heap.size,0,none⟩=some (.bool n1)∧A.cell? ⟨w.heap.size,1,none⟩=some (.slice a l.length ca)∧A.cell? ⟨w.heap.size+1,0,none⟩=some (.bool n2)∧A.cell? ⟨w.heap.size+1,1,none⟩=some (.slice b m.length cb))→(((A.setCell ⟨w.heap.size+2,0,none⟩ x).setCell ⟨w.heap.size+2,1,none⟩ y).cell? ⟨w.heap.size,0,none⟩=some (.bool n1)∧((A.setCell ⟨w.heap.size+2,0,none⟩ x).setCell ⟨w.heap.size+2,1,none⟩ y).cell? ⟨w.heap.size,1,none⟩=some (.slice a l.length ca)∧((A.setCell ⟨w.heap.size+2,0,none⟩ x).setCell ⟨w.heap.size+2,1,none⟩ y).cell? ⟨w.heap.size+1,0,none⟩=some (.bool n2)∧((A.setCell ⟨w.heap.size+2,0,none⟩ x).setCell ⟨w.heap.size+2,1,none⟩ y).cell? ⟨w.heap.size+1,1,none⟩=some (.slice b m.length cb)):=fun x y h=>by
  refine⟨?_,?_,?_,?_⟩ <;> rw [World.cell?_setCell_far _ _ _ _ (by dsimp only;omega),World.cell?_setCell_far _ _ _ _ (by dsimp only;omega)]
  ·exact h.1
  ·exact h.2.1
  ·exact h.2.2.1
  ·exact h.2.2.2
 clear H1 H2 HT c0 c1 c2 c3 H3 HW
 go_upto_region 4 with fail
 refine wp_region_held_drew (S:=(fun w'=>w'.cell? ⟨w.heap.size,0,none⟩=some (.bool n1)∧w'.cell? ⟨w.heap.size,1,none⟩=some (.slice a l.length ca)∧w'.cell? ⟨w.heap.size+1,0,none⟩=some (.bool n2)∧w'.cell? ⟨w.heap.size+1,1,none⟩=some (.slice b m.length cb))) (by kernel_rfl) ?_ (fun hHeld=>?_)
 ·(first | with_reducible exact s0d | with_reducible exact hext hy6 hHeld | with_reducible exact hS7 | with_reducible exact hHeld | with_reducible exact hset1 _ _ hHeld)
 (try simp only [pur,Nat.reduceAdd])
 refine tk (v:=?_) 0 rfl (by kernel_rfl) (fun _ _ _ h=>h) (by rfl) ?_ (by assumption) ?_
 rotate_left
 ·(intro w hSw;(try dsimp only at hSw);(try go_simp);(try with_reducible rfl))
 (try simp only [Act.put,pus])
 refine tk (v:=?_) 1 rfl (by kernel_rfl) (fun _ _ _ h=>h) (by rfl) ?_ (by assumption) ?_
 rotate_left
 ·(intro w hSw;(try dsimp only at hSw);(try go_simp);(try with_reducible rfl))
 (try simp only [Act.put,pus])
 refine wpAnyH_ready (rs:=[2]) (by kernel_rfl) (by simp) ?_
 refine AllReadyH.cons (o:=_) rfl (fun K hK=>?_) ?_
 ·go_simp
  refine(HN.out _).mono ?_;rintro e6 w6 ⟨rfl,hy6⟩
  refine hK.out _ _ ?_ (fun hHeld2=>?_)
  ·(first | with_reducible exact s0d | with_reducible exact hext hy6 hHeld | with_reducible exact hS7 | with_reducible exact hHeld | with_reducible exact hset1 _ _ hHeld)
  clear hK K hHeld
  have hHeld:=hHeld2
  clear hHeld2
  (try simp only [Act.put,pus])
  refine wpAnyH_ready (rs:=[3]) (by kernel_rfl) (by simp) ?_
  refine AllReadyH.cons (o:=_) rfl (fun K hK=>?_) ?_
  ·go_simp
   refine(HA.out w6 (hx5.drew.trans hy6)).mono ?_;rintro e7 w7 ⟨v7,rfl,hv7,hy7⟩;obtain⟨t,a6,cp6,L6,rfl⟩:=hv7.form;have hyy:=hy6.trans hy7;have J5:=(H5.out.drew).ext hyy;have d0:=J5.cell (i:=0) (v:=.bool false) rfl;have d1:=J5.cell (i:=1) (v:=.slice none 0 0) rfl;have f0:=J5.free 0;have f1:=J5.free 1;have hS7:=hext hyy s0d
   refine hK.out _ _ ?_ (fun hHeld2=>?_)
   ·(first | with_reducible exact s0d | with_reducible exact hext hy6 hHeld | with_reducible exact hS7 | with_reducible exact hHeld | with_reducible exact hset1 _ _ hHeld)
   clear hK K hHeld
   have hHeld:=hHeld2
   clear hHeld2
   (try simp only [Act.put,pus])
   refine tk (v:=?_) 4 rfl (by kernel_rfl) (fun _ _ _ h=>h) (by rfl) ?_ (by assumption) ?_
   rotate_left
   ·(intro w hSw;(try dsimp only at hSw);(try go_simp);(try with_reducible rfl))
   (try simp only [Act.put,pus])
   refine tk (v:=?_) 5 rfl (by kernel_rfl) (fun _ _ _ h=>h) (by rfl) ?_ (by assumption) ?_
   rotate_left
   ·(intro w hSw;(try dsimp only at hSw);(try go_simp);(try with_reducible rfl))
   (try simp only [Act.put,pus])
   refine wpAnyH_ready (rs:=[6]) (by kernel_rfl) (by simp) ?_
   refine AllReadyH.cons (o:=_) rfl (fun K hK=>?_) ?_
   ·go_simp
    refine hK.out _ _ ?_ (fun hHeld2=>?_)
    ·(first | with_reducible exact s0d | with_reducible exact hext hy6 hHeld | with_reducible exact hS7 | with_reducible exact hHeld | with_reducible exact hset1 _ _ hHeld)
    clear hK K hHeld
    have hHeld:=hHeld2
    clear hHeld2
    (try simp only [Act.put,pus])
    refine wpAnyH_ready (rs:=[7]) (by kernel_rfl) (by simp) ?_
    refine AllReadyH.cons (o:=_) rfl (fun K hK=>?_) ?_
    ·go_simp
     refine hK.out _ _ ?_ (fun hHeld2=>?_)
     ·(first | with_reducible exact s0d | with_reducible exact hext hy6 hHeld | with_reducible exact hS7 | with_reducible exact hHeld | with_reducible exact hset1 _ _ hHeld)
     clear hK K hHeld
     have hHeld:=hHeld2
     clear hHeld2
     (try simp only [Act.put,pus])
     refine wpAnyH_done (by kernel_rfl) ?_ _
     (go_wp2_with fail;have L5:=(J5.set 0 (.bool t)).set 1 (.slice a6 L6 cp6);have e0:=L5.cell (i:=0) (v:=.bool t) rfl;have e1:=L5.cell (i:=1) (v:=.slice a6 L6 cp6) rfl;have hlt5:=H5.out.lt;have hs56:w5.heap.size≤w6.heap.size:=hy6.size;have hs35:=hx5.size;refine bodyPost_ret (v:=.tuple #[.agg #[.bool t,.slice a6 L6 cp6],.int .i64 0]) (by simp [results,Tryz.results75,go_sem,e0,e1]) rfl ?_;refine⟨_,rfl,((hv7.put (p:=⟨w.heap.size+2,0,none⟩) (by dsimp only;omega) _).put (p:=⟨w.heap.size+2,1,none⟩) (by dsimp only;omega) _).base (by omega),((hx5.drew.trans hyy).set (p:=⟨w.heap.size+2,0,none⟩) (by dsimp only;omega) _).set (p:=⟨w.heap.size+2,1,none⟩) (by dsimp only;omega) _⟩)
    exact AllReadyH.nil
   exact AllReadyH.nil
  exact AllReadyH.nil
 exact AllReadyH.nil
theorem rSub_val {v u:Value} {z y:Int} {w:World} (hv:BigV w v z) (hu:BigV w u y) (hz:Len z) (hy:Len y) (hl:Len (z - y)):Calls Tryz.prog 75 #[v,u] w (OneP (z - y) w):=by
 obtain⟨n1,l,⟨a,ca,rfl,hi⟩,hb⟩:=hv
 obtain⟨n2,m,⟨b,cb,rfl,hj⟩,hc⟩:=hu
 have:=ref_Sub_ok n1 n2 a b ca cb l m w hi hj (hb.chk hz) (hc.chk hy) (by rw [←hb.sgn,←hc.sgn];exact hl)
 rw [←hb.sgn,←hc.sgn] at this
 exact this
end Go.Proofs.YtolffmmkjnhkkaaGreat
