import Derived.Test.YtolffmmkjnhkkaaGreatQ5
import Derived.Test.YtolffmmkjnhkkaaGreatQ4
import Derived.Deep.Cut
namespace Go.Proofs.YtolffmmkjnhkkaaGreat
open Go.RowKit Go BigFrame
set_option maxRecDepth 100000
set_option linter.unusedSimpArgs false
set_option linter.unusedVariables false
set_option maxHeartbeats 4000000 in
theorem ratio_Sub_pos {v u:Value} {r s:Rat} {i j:Nat} {w:World} (hv:RatV w v r) (hu:RatV w u s) (hr:Sz r i) (hs:Sz s j) (hij:i+j+1≤2048) (h0:0<s):Calls Tryz.prog 20 #[v,u] w (RatP (r - s) w):=by
 have L0:=Lib.hid (And.intro (hr.lenN (by omega)) (And.intro (hr.lenD (by omega)) (And.intro (hs.lenN (by omega)) (hs.lenD (by omega)))))
 have HS:=Lib.hid (And.intro hr (And.intro hs.neg hij))
 obtain⟨nx,ax,qx,cx,bx,kx,dx,rfl⟩:=hv.form
 obtain⟨ny,ay,qy,cy,by_,ky,dy,rfl⟩:=hu.form
 obtain rfl:ny=false:=by rw [hu.neg_iff];exact decide_eq_false (Rat.not_lt.2 (Rat.le_of_lt h0))
 have hq:0<qy:=Nat.pos_of_ne_zero (fun e=>by have:=hu.num_len.1 e;rw [this] at h0;exact Rat.lt_irrefl h0)
 have HQ:=Lib.hid (And.intro hq hu.num.le)
 clear hq
 have Vx:=Lib.hid hv
 have HY:=Lib.hid (show RatV w (.agg #[.bool true,.slice ay qy cy,.bool false,.slice by_ ky dy]) (-s) from RatV.mk (by have h:=hu.num.minus;rw [Rat.neg_num];simpa [HQ.out.1] using h) (by rw [Rat.neg_den];exact hu.den))
 have Vy:=Lib.hid hu
 clear hv hu hr hs hij h0
 obtain⟨x1,hw,hx,Kx,Ky,Kr,Ke⟩:=boxQ4 w #[.bool nx,.slice ax qx cx,.bool false,.slice bx kx dx] 38 #[.bool false,.slice ay qy cy,.bool false,.slice by_ ky dy] 38 #[.bool false,.slice none 0 0,.bool false,.slice none 0 0] 38 #[.int .i64 0] 27
 replace hw:=Lib.hid hw
 have Vx:=Lib.hid (Vx.out.ext hx)
 have Vy:=Lib.hid (Vy.out.ext hx)
 have HY:=Lib.hid (HY.out.ext hx)
 go_enter_defers Tryz.func20,Tryz.ntmps20
 go_upto_region 1 with fail
 try simp only [Nat.add_assoc,Nat.reduceAdd,Nat.add_zero]
 rw [hw.out]
 clear hw
 have hs0:=hx.size
 obtain⟨cx0,cx1,cx2,cx3⟩:=bk4 Kx
 obtain⟨cy0,cy1,cy2,cy3⟩:=bk4 Ky
 obtain⟨cr0,cr1,cr2,cr3⟩:=bk4 Kr
 have ce0:=bk1 Ke
 have hl:=Ext.alloc x1 (.cells #[.bool nx,.slice ax qx cx,.bool false,.slice bx kx dx,.bool false,.slice ay qy cy,.bool false,.slice by_ ky dy] 38)
 have hKK:=Blk.new0 x1 #[.bool nx,.slice ax qx cx,.bool false,.slice bx kx dx,.bool false,.slice ay qy cy,.bool false,.slice by_ ky dy] 38
 have hlx:=hx.trans hl
 have HTT:=Lib.hid (valid2_val hKK (Vx.out.ext hl) (Vy.out.ext hl) L0.out.1 L0.out.2.1 L0.out.2.2.1 L0.out.2.2.2)
 clear hKK hlx
 go_wp2_with fail
 with_reducible refine(HTT.out).mono ?_
 clear cx0 cx1 cx2 cx3 cy0 cy1 cy2 cy3 cr0 cr1 cr2 cr3 ce0
 rintro e x2 ⟨rfl,hy⟩
 replace hy:=hl.trans hy
 replace hx:=hx.trans hy
 replace Kx:=kE Kx hy
 replace Ky:=kE Ky hy
 replace Kr:=kE Kr hy
 replace Ke:=kE Ke hy
 replace Vx:=Lib.hid (Vx.out.ext hy)
 replace Vy:=Lib.hid (Vy.out.ext hy)
 replace HY:=Lib.hid (HY.out.ext hy)
 clear hy HTT hl
 clear Vy
 have t1:decide ((0:Int)< (qy:Int))=true:=by have:=HQ.out.1;simp;omega
 have t2:decide (0<qy)=true:=by simpa using t1
 have hqm:=HQ.out.2
 obtain⟨cx0,cx1,cx2,cx3⟩:=bk4 Kx
 obtain⟨cy0,cy1,cy2,cy3⟩:=bk4 Ky
 obtain⟨cr0,cr1,cr2,cr3⟩:=bk4 Kr
 have ce0:=bk1 Ke
 have g0:=(Ky.out).cell (i:=0) (v:=.bool false) rfl
 have z0:=(Ky.out).free 0
 go_upto_region 4 with fail
 clear g0 z0
 clear cx0 cx1 cx2 cx3 cy0 cy1 cy2 cy3 cr0 cr1 cr2 cr3 ce0
 replace Vx:=Lib.hid (Vx.out.put Ky.out (noInt_of rfl) 0 (.bool true))
 replace HY:=Lib.hid (HY.out.put Ky.out (noInt_of rfl) 0 (.bool true))
 replace hx:=hx.set (p:=⟨w.heap.size+1,0,none⟩) (by dsimp only;omega) (.bool true)
 replace Kx:=Lib.hid (Kx.out.other (p:=⟨w.heap.size+1,0,none⟩) (by dsimp only;omega) (.bool true))
 replace Ky:=Lib.hid (Ky.out.set 0 (.bool true))
 replace Kr:=Lib.hid (Kr.out.other (p:=⟨w.heap.size+1,0,none⟩) (by dsimp only;omega) (.bool true))
 replace Ke:=Lib.hid (Ke.out.other (p:=⟨w.heap.size+1,0,none⟩) (by dsimp only;omega) (.bool true))
 replace Ky:=Lib.hid (show Blk _ _ #[.bool true,.slice ay qy cy,.bool false,.slice by_ ky dy] 38 from Ky.out)
 generalize (x2).setCell ⟨w.heap.size+1,0,none⟩ (.bool true)=x3 at *
 obtain⟨cx0,cx1,cx2,cx3⟩:=bk4 Kx
 obtain⟨cy0,cy1,cy2,cy3⟩:=bk4 Ky
 obtain⟨cr0,cr1,cr2,cr3⟩:=bk4 Kr
 have ce0:=bk1 Ke
 have hsz:=hx.size
 go_wp2_with fail
 with_reducible refine(ratio_Add Vx.out HY.out HS.out.1 HS.out.2.1 HS.out.2.2).mono ?_
 clear cx0 cx1 cx2 cx3 cy0 cy1 cy2 cy3 cr0 cr1 cr2 cr3 ce0
 rintro e x4 ⟨v,rfl,hv,hy⟩
 replace hx:=hx.trans hy
 replace Kx:=kE Kx hy
 replace Ky:=kE Ky hy
 replace Kr:=kE Kr hy
 replace Ke:=kE Ke hy
 replace Vx:=Lib.hid (Vx.out.ext hy)
 replace HY:=Lib.hid (HY.out.ext hy)
 clear hy
 rw [←Rat.sub_eq_add_neg] at hv
 obtain⟨nv,av,qv,cv,bv,kv,dv,rfl,hv',hf',hg'⟩:=hv
 have Vv:=Lib.hid hv'
 have Fv:=Lib.hid (fun A hA=>Nat.le_trans hsz (hf' A hA))
 have Gv:=Lib.hid (fun A hA=>Nat.le_trans hsz (hg' A hA))
 clear hv' hf' hg' hsz
 clear Vx HY
 clear Kx Ky
 obtain⟨cr0,cr1,cr2,cr3⟩:=bk4 Kr
 have ce0:=bk1 Ke
 obtain⟨g0,z0,g1,z1,g2,z2,g3,z3⟩:=bp4 Kr (.bool nv) (.slice av qv cv) (.bool false) (.slice bv kv dv)
 obtain⟨g4,z4⟩:=bp1 (bo4 Ke (w.heap.size+2) (.bool nv) (.slice av qv cv) (.bool false) (.slice bv kv dv) (by omega)) (.int .i64 0)
 go_wp2_with fail
 clear g0 z0 g1 z1 g2 z2 g3 z3 g4 z4
 clear cr0 cr1 cr2 cr3 ce0
 replace Vv:=(by first | exact rv4 Vv Kr (.bool nv) (.slice av qv cv) (.bool false) (.slice bv kv dv) rfl rfl rfl rfl | exact bv4 Vv Kr (.bool nv) (.slice av qv cv) (.bool false) (.slice bv kv dv) rfl rfl rfl rfl)
 replace hx:=bx4 hx (w.heap.size+2) (.bool nv) (.slice av qv cv) (.bool false) (.slice bv kv dv) (by omega)
 replace Kr:=bs4 Kr (.bool nv) (.slice av qv cv) (.bool false) (.slice bv kv dv)
 replace Ke:=bo4 Ke (w.heap.size+2) (.bool nv) (.slice av qv cv) (.bool false) (.slice bv kv dv) (by omega)
 replace Vv:=(by first | exact rv1 Vv Ke (.int .i64 0) rfl | exact bv1 Vv Ke (.int .i64 0) rfl)
 replace hx:=bx1 hx (w.heap.size+3) (.int .i64 0) (by omega)
 replace Kr:=bo1 Kr (w.heap.size+3) (.int .i64 0) (by omega)
 replace Ke:=bs1 Ke (.int .i64 0)
 generalize (((((x4).setCell ⟨w.heap.size+2,0,none⟩ (.bool nv)).setCell ⟨w.heap.size+2,1,none⟩ (.slice av qv cv)).setCell ⟨w.heap.size+2,2,none⟩ (.bool false)).setCell ⟨w.heap.size+2,3,none⟩ (.slice bv kv dv)).setCell ⟨w.heap.size+3,0,none⟩ (.int .i64 0)=x5 at *
 obtain⟨cr0,cr1,cr2,cr3⟩:=bk4 Kr
 have ce0:=bk1 Ke
 refine leaves_cons (f:=37) (args:=#[.pointer (some ⟨w.heap.size+3,0,none⟩)]) (by simp) (by simp [go_sem]) ?_
 refine(ratio_caught_idle ⟨w.heap.size+3,0,none⟩ _).mono ?_
 rintro e u' w'' ⟨rfl,rfl,rfl⟩
 simp [Leaves,settle,results,Tryz.results20,go_sem,cr0,cr1,cr2,cr3,ce0]
 exact⟨_,rfl,⟨_,_,_,_,_,_,_,rfl,Vv.out,Fv.out,Gv.out⟩,hx⟩
set_option maxHeartbeats 4000000 in
theorem ratio_Sub_zero {v u:Value} {r s:Rat} {i j:Nat} {w:World} (hv:RatV w v r) (hu:RatV w u s) (hr:Sz r i) (hs:Sz s j) (hij:i+j+1≤2048) (h0:s=0):Calls Tryz.prog 20 #[v,u] w (RatP (r - s) w):=by
 have L0:=Lib.hid (And.intro (hr.lenN (by omega)) (And.intro (hr.lenD (by omega)) (And.intro (hs.lenN (by omega)) (hs.lenD (by omega)))))
 have HS:=Lib.hid (And.intro hr (And.intro hs.neg hij))
 obtain⟨nx,ax,qx,cx,bx,kx,dx,rfl⟩:=hv.form
 obtain⟨ny,ay,qy,cy,by_,ky,dy,rfl⟩:=hu.form
 obtain rfl:ny=false:=by rw [hu.neg_iff];rw [h0];rfl
 obtain rfl:qy=0:=hu.num_len.2 h0
 have Vx:=Lib.hid hv
 have HY:=Lib.hid (show RatV w (.agg #[.bool false,.slice ay 0 cy,.bool false,.slice by_ ky dy]) (-s) from RatV.mk (by have h:=hu.num.minus;rw [Rat.neg_num];simpa using h) (by rw [Rat.neg_den];exact hu.den))
 have Vy:=Lib.hid hu
 clear hv hu hr hs hij h0
 obtain⟨x1,hw,hx,Kx,Ky,Kr,Ke⟩:=boxQ4 w #[.bool nx,.slice ax qx cx,.bool false,.slice bx kx dx] 38 #[.bool false,.slice ay 0 cy,.bool false,.slice by_ ky dy] 38 #[.bool false,.slice none 0 0,.bool false,.slice none 0 0] 38 #[.int .i64 0] 27
 replace hw:=Lib.hid hw
 have Vx:=Lib.hid (Vx.out.ext hx)
 have Vy:=Lib.hid (Vy.out.ext hx)
 have HY:=Lib.hid (HY.out.ext hx)
 go_enter_defers Tryz.func20,Tryz.ntmps20
 go_upto_region 1 with fail
 try simp only [Nat.add_assoc,Nat.reduceAdd,Nat.add_zero]
 rw [hw.out]
 clear hw
 have hs0:=hx.size
 obtain⟨cx0,cx1,cx2,cx3⟩:=bk4 Kx
 obtain⟨cy0,cy1,cy2,cy3⟩:=bk4 Ky
 obtain⟨cr0,cr1,cr2,cr3⟩:=bk4 Kr
 have ce0:=bk1 Ke
 have hl:=Ext.alloc x1 (.cells #[.bool nx,.slice ax qx cx,.bool false,.slice bx kx dx,.bool false,.slice ay 0 cy,.bool false,.slice by_ ky dy] 38)
 have hKK:=Blk.new0 x1 #[.bool nx,.slice ax qx cx,.bool false,.slice bx kx dx,.bool false,.slice ay 0 cy,.bool false,.slice by_ ky dy] 38
 have hlx:=hx.trans hl
 have HTT:=Lib.hid (valid2_val hKK (Vx.out.ext hl) (Vy.out.ext hl) L0.out.1 L0.out.2.1 L0.out.2.2.1 L0.out.2.2.2)
 clear hKK hlx
 go_wp2_with fail
 with_reducible refine(HTT.out).mono ?_
 clear cx0 cx1 cx2 cx3 cy0 cy1 cy2 cy3 cr0 cr1 cr2 cr3 ce0
 rintro e x2 ⟨rfl,hy⟩
 replace hy:=hl.trans hy
 replace hx:=hx.trans hy
 replace Kx:=kE Kx hy
 replace Ky:=kE Ky hy
 replace Kr:=kE Kr hy
 replace Ke:=kE Ke hy
 replace Vx:=Lib.hid (Vx.out.ext hy)
 replace Vy:=Lib.hid (Vy.out.ext hy)
 replace HY:=Lib.hid (HY.out.ext hy)
 clear hy HTT hl
 clear Vy
 obtain⟨cx0,cx1,cx2,cx3⟩:=bk4 Kx
 obtain⟨cy0,cy1,cy2,cy3⟩:=bk4 Ky
 obtain⟨cr0,cr1,cr2,cr3⟩:=bk4 Kr
 have ce0:=bk1 Ke
 have g0:=(Ky.out).cell (i:=0) (v:=.bool false) rfl
 have z0:=(Ky.out).free 0
 go_upto_region 4 with fail
 clear g0 z0
 clear cx0 cx1 cx2 cx3 cy0 cy1 cy2 cy3 cr0 cr1 cr2 cr3 ce0
 replace Vx:=Lib.hid (Vx.out.put Ky.out (noInt_of rfl) 0 (.bool false))
 replace HY:=Lib.hid (HY.out.put Ky.out (noInt_of rfl) 0 (.bool false))
 replace hx:=hx.set (p:=⟨w.heap.size+1,0,none⟩) (by dsimp only;omega) (.bool false)
 replace Kx:=Lib.hid (Kx.out.other (p:=⟨w.heap.size+1,0,none⟩) (by dsimp only;omega) (.bool false))
 replace Ky:=Lib.hid (Ky.out.set 0 (.bool false))
 replace Kr:=Lib.hid (Kr.out.other (p:=⟨w.heap.size+1,0,none⟩) (by dsimp only;omega) (.bool false))
 replace Ke:=Lib.hid (Ke.out.other (p:=⟨w.heap.size+1,0,none⟩) (by dsimp only;omega) (.bool false))
 replace Ky:=Lib.hid (show Blk _ _ #[.bool false,.slice ay 0 cy,.bool false,.slice by_ ky dy] 38 from Ky.out)
 generalize (x2).setCell ⟨w.heap.size+1,0,none⟩ (.bool false)=x3 at *
 obtain⟨cx0,cx1,cx2,cx3⟩:=bk4 Kx
 obtain⟨cy0,cy1,cy2,cy3⟩:=bk4 Ky
 obtain⟨cr0,cr1,cr2,cr3⟩:=bk4 Kr
 have ce0:=bk1 Ke
 have hsz:=hx.size
 go_wp2_with fail
 with_reducible refine(ratio_Add Vx.out HY.out HS.out.1 HS.out.2.1 HS.out.2.2).mono ?_
 clear cx0 cx1 cx2 cx3 cy0 cy1 cy2 cy3 cr0 cr1 cr2 cr3 ce0
 rintro e x4 ⟨v,rfl,hv,hy⟩
 replace hx:=hx.trans hy
 replace Kx:=kE Kx hy
 replace Ky:=kE Ky hy
 replace Kr:=kE Kr hy
 replace Ke:=kE Ke hy
 replace Vx:=Lib.hid (Vx.out.ext hy)
 replace HY:=Lib.hid (HY.out.ext hy)
 clear hy
 rw [←Rat.sub_eq_add_neg] at hv
 obtain⟨nv,av,qv,cv,bv,kv,dv,rfl,hv',hf',hg'⟩:=hv
 have Vv:=Lib.hid hv'
 have Fv:=Lib.hid (fun A hA=>Nat.le_trans hsz (hf' A hA))
 have Gv:=Lib.hid (fun A hA=>Nat.le_trans hsz (hg' A hA))
 clear hv' hf' hg' hsz
 clear Vx HY
 clear Kx Ky
 obtain⟨cr0,cr1,cr2,cr3⟩:=bk4 Kr
 have ce0:=bk1 Ke
 obtain⟨g0,z0,g1,z1,g2,z2,g3,z3⟩:=bp4 Kr (.bool nv) (.slice av qv cv) (.bool false) (.slice bv kv dv)
 obtain⟨g4,z4⟩:=bp1 (bo4 Ke (w.heap.size+2) (.bool nv) (.slice av qv cv) (.bool false) (.slice bv kv dv) (by omega)) (.int .i64 0)
 go_wp2_with fail
 clear g0 z0 g1 z1 g2 z2 g3 z3 g4 z4
 clear cr0 cr1 cr2 cr3 ce0
 replace Vv:=(by first | exact rv4 Vv Kr (.bool nv) (.slice av qv cv) (.bool false) (.slice bv kv dv) rfl rfl rfl rfl | exact bv4 Vv Kr (.bool nv) (.slice av qv cv) (.bool false) (.slice bv kv dv) rfl rfl rfl rfl)
 replace hx:=bx4 hx (w.heap.size+2) (.bool nv) (.slice av qv cv) (.bool false) (.slice bv kv dv) (by omega)
 replace Kr:=bs4 Kr (.bool nv) (.slice av qv cv) (.bool false) (.slice bv kv dv)
 replace Ke:=bo4 Ke (w.heap.size+2) (.bool nv) (.slice av qv cv) (.bool false) (.slice bv kv dv) (by omega)
 replace Vv:=(by first | exact rv1 Vv Ke (.int .i64 0) rfl | exact bv1 Vv Ke (.int .i64 0) rfl)
 replace hx:=bx1 hx (w.heap.size+3) (.int .i64 0) (by omega)
 replace Kr:=bo1 Kr (w.heap.size+3) (.int .i64 0) (by omega)
 replace Ke:=bs1 Ke (.int .i64 0)
 generalize (((((x4).setCell ⟨w.heap.size+2,0,none⟩ (.bool nv)).setCell ⟨w.heap.size+2,1,none⟩ (.slice av qv cv)).setCell ⟨w.heap.size+2,2,none⟩ (.bool false)).setCell ⟨w.heap.size+2,3,none⟩ (.slice bv kv dv)).setCell ⟨w.heap.size+3,0,none⟩ (.int .i64 0)=x5 at *
 obtain⟨cr0,cr1,cr2,cr3⟩:=bk4 Kr
 have ce0:=bk1 Ke
 refine leaves_cons (f:=37) (args:=#[.pointer (some ⟨w.heap.size+3,0,none⟩)]) (by simp) (by simp [go_sem]) ?_
 refine(ratio_caught_idle ⟨w.heap.size+3,0,none⟩ _).mono ?_
 rintro e u' w'' ⟨rfl,rfl,rfl⟩
 simp [Leaves,settle,results,Tryz.results20,go_sem,cr0,cr1,cr2,cr3,ce0]
 exact⟨_,rfl,⟨_,_,_,_,_,_,_,rfl,Vv.out,Fv.out,Gv.out⟩,hx⟩
set_option maxHeartbeats 4000000 in
theorem ratio_Sub_neg {v u:Value} {r s:Rat} {i j:Nat} {w:World} (hv:RatV w v r) (hu:RatV w u s) (hr:Sz r i) (hs:Sz s j) (hij:i+j+1≤2048) (h0:s<0):Calls Tryz.prog 20 #[v,u] w (RatP (r - s) w):=by
 have L0:=Lib.hid (And.intro (hr.lenN (by omega)) (And.intro (hr.lenD (by omega)) (And.intro (hs.lenN (by omega)) (hs.lenD (by omega)))))
 have HS:=Lib.hid (And.intro hr (And.intro hs.neg hij))
 obtain⟨nx,ax,qx,cx,bx,kx,dx,rfl⟩:=hv.form
 obtain⟨ny,ay,qy,cy,by_,ky,dy,rfl⟩:=hu.form
 obtain rfl:ny=true:=by rw [hu.neg_iff];exact decide_eq_true h0
 have Vx:=Lib.hid hv
 have HY:=Lib.hid (show RatV w (.agg #[.bool false,.slice ay qy cy,.bool false,.slice by_ ky dy]) (-s) from RatV.mk (by have h:=hu.num.minus;rw [Rat.neg_num];simpa using h) (by rw [Rat.neg_den];exact hu.den))
 have Vy:=Lib.hid hu
 clear hv hu hr hs hij h0
 obtain⟨x1,hw,hx,Kx,Ky,Kr,Ke⟩:=boxQ4 w #[.bool nx,.slice ax qx cx,.bool false,.slice bx kx dx] 38 #[.bool true,.slice ay qy cy,.bool false,.slice by_ ky dy] 38 #[.bool false,.slice none 0 0,.bool false,.slice none 0 0] 38 #[.int .i64 0] 27
 replace hw:=Lib.hid hw
 have Vx:=Lib.hid (Vx.out.ext hx)
 have Vy:=Lib.hid (Vy.out.ext hx)
 have HY:=Lib.hid (HY.out.ext hx)
 go_enter_defers Tryz.func20,Tryz.ntmps20
 go_upto_region 1 with fail
 try simp only [Nat.add_assoc,Nat.reduceAdd,Nat.add_zero]
 rw [hw.out]
 clear hw
 have hs0:=hx.size
 obtain⟨cx0,cx1,cx2,cx3⟩:=bk4 Kx
 obtain⟨cy0,cy1,cy2,cy3⟩:=bk4 Ky
 obtain⟨cr0,cr1,cr2,cr3⟩:=bk4 Kr
 have ce0:=bk1 Ke
 have hl:=Ext.alloc x1 (.cells #[.bool nx,.slice ax qx cx,.bool false,.slice bx kx dx,.bool true,.slice ay qy cy,.bool false,.slice by_ ky dy] 38)
 have hKK:=Blk.new0 x1 #[.bool nx,.slice ax qx cx,.bool false,.slice bx kx dx,.bool true,.slice ay qy cy,.bool false,.slice by_ ky dy] 38
 have hlx:=hx.trans hl
 have HTT:=Lib.hid (valid2_val hKK (Vx.out.ext hl) (Vy.out.ext hl) L0.out.1 L0.out.2.1 L0.out.2.2.1 L0.out.2.2.2)
 clear hKK hlx
 go_wp2_with fail
 with_reducible refine(HTT.out).mono ?_
 clear cx0 cx1 cx2 cx3 cy0 cy1 cy2 cy3 cr0 cr1 cr2 cr3 ce0
 rintro e x2 ⟨rfl,hy⟩
 replace hy:=hl.trans hy
 replace hx:=hx.trans hy
 replace Kx:=kE Kx hy
 replace Ky:=kE Ky hy
 replace Kr:=kE Kr hy
 replace Ke:=kE Ke hy
 replace Vx:=Lib.hid (Vx.out.ext hy)
 replace Vy:=Lib.hid (Vy.out.ext hy)
 replace HY:=Lib.hid (HY.out.ext hy)
 clear hy HTT hl
 clear Vy
 obtain⟨cx0,cx1,cx2,cx3⟩:=bk4 Kx
 obtain⟨cy0,cy1,cy2,cy3⟩:=bk4 Ky
 obtain⟨cr0,cr1,cr2,cr3⟩:=bk4 Kr
 have ce0:=bk1 Ke
 have g0:=(Ky.out).cell (i:=0) (v:=.bool true) rfl
 have z0:=(Ky.out).free 0
 go_upto_region 4 with fail
 clear g0 z0
 clear cx0 cx1 cx2 cx3 cy0 cy1 cy2 cy3 cr0 cr1 cr2 cr3 ce0
 replace Vx:=Lib.hid (Vx.out.put Ky.out (noInt_of rfl) 0 (.bool false))
 replace HY:=Lib.hid (HY.out.put Ky.out (noInt_of rfl) 0 (.bool false))
 replace hx:=hx.set (p:=⟨w.heap.size+1,0,none⟩) (by dsimp only;omega) (.bool false)
 replace Kx:=Lib.hid (Kx.out.other (p:=⟨w.heap.size+1,0,none⟩) (by dsimp only;omega) (.bool false))
 replace Ky:=Lib.hid (Ky.out.set 0 (.bool false))
 replace Kr:=Lib.hid (Kr.out.other (p:=⟨w.heap.size+1,0,none⟩) (by dsimp only;omega) (.bool false))
 replace Ke:=Lib.hid (Ke.out.other (p:=⟨w.heap.size+1,0,none⟩) (by dsimp only;omega) (.bool false))
 replace Ky:=Lib.hid (show Blk _ _ #[.bool false,.slice ay qy cy,.bool false,.slice by_ ky dy] 38 from Ky.out)
 generalize (x2).setCell ⟨w.heap.size+1,0,none⟩ (.bool false)=x3 at *
 obtain⟨cx0,cx1,cx2,cx3⟩:=bk4 Kx
 obtain⟨cy0,cy1,cy2,cy3⟩:=bk4 Ky
 obtain⟨cr0,cr1,cr2,cr3⟩:=bk4 Kr
 have ce0:=bk1 Ke
 have hsz:=hx.size
 go_wp2_with fail
 with_reducible refine(ratio_Add Vx.out HY.out HS.out.1 HS.out.2.1 HS.out.2.2).mono ?_
 clear cx0 cx1 cx2 cx3 cy0 cy1 cy2 cy3 cr0 cr1 cr2 cr3 ce0
 rintro e x4 ⟨v,rfl,hv,hy⟩
 replace hx:=hx.trans hy
 replace Kx:=kE Kx hy
 replace Ky:=kE Ky hy
 replace Kr:=kE Kr hy
 replace Ke:=kE Ke hy
 replace Vx:=Lib.hid (Vx.out.ext hy)
 replace HY:=Lib.hid (HY.out.ext hy)
 clear hy
 rw [←Rat.sub_eq_add_neg] at hv
 obtain⟨nv,av,qv,cv,bv,kv,dv,rfl,hv',hf',hg'⟩:=hv
 have Vv:=Lib.hid hv'
 have Fv:=Lib.hid (fun A hA=>Nat.le_trans hsz (hf' A hA))
 have Gv:=Lib.hid (fun A hA=>Nat.le_trans hsz (hg' A hA))
 clear hv' hf' hg' hsz
 clear Vx HY
 clear Kx Ky
 obtain⟨cr0,cr1,cr2,cr3⟩:=bk4 Kr
 have ce0:=bk1 Ke
 obtain⟨g0,z0,g1,z1,g2,z2,g3,z3⟩:=bp4 Kr (.bool nv) (.slice av qv cv) (.bool false) (.slice bv kv dv)
 obtain⟨g4,z4⟩:=bp1 (bo4 Ke (w.heap.size+2) (.bool nv) (.slice av qv cv) (.bool false) (.slice bv kv dv) (by omega)) (.int .i64 0)
 go_wp2_with fail
 clear g0 z0 g1 z1 g2 z2 g3 z3 g4 z4
 clear cr0 cr1 cr2 cr3 ce0
 replace Vv:=(by first | exact rv4 Vv Kr (.bool nv) (.slice av qv cv) (.bool false) (.slice bv kv dv) rfl rfl rfl rfl | exact bv4 Vv Kr (.bool nv) (.slice av qv cv) (.bool false) (.slice bv kv dv) rfl rfl rfl rfl)
 replace hx:=bx4 hx (w.heap.size+2) (.bool nv) (.slice av qv cv) (.bool false) (.slice bv kv dv) (by omega)
 replace Kr:=bs4 Kr (.bool nv) (.slice av qv cv) (.bool false) (.slice bv kv dv)
 replace Ke:=bo4 Ke (w.heap.size+2) (.bool nv) (.slice av qv cv) (.bool false) (.slice bv kv dv) (by omega)
 replace Vv:=(by first | exact rv1 Vv Ke (.int .i64 0) rfl | exact bv1 Vv Ke (.int .i64 0) rfl)
 replace hx:=bx1 hx (w.heap.size+3) (.int .i64 0) (by omega)
 replace Kr:=bo1 Kr (w.heap.size+3) (.int .i64 0) (by omega)
 replace Ke:=bs1 Ke (.int .i64 0)
 generalize (((((x4).setCell ⟨w.heap.size+2,0,none⟩ (.bool nv)).setCell ⟨w.heap.size+2,1,none⟩ (.slice av qv cv)).setCell ⟨w.heap.size+2,2,none⟩ (.bool false)).setCell ⟨w.heap.size+2,3,none⟩ (.slice bv kv dv)).setCell ⟨w.heap.size+3,0,none⟩ (.int .i64 0)=x5 at *
 obtain⟨cr0,cr1,cr2,cr3⟩:=bk4 Kr
 have ce0:=bk1 Ke
 refine leaves_cons (f:=37) (args:=#[.pointer (some ⟨w.heap.size+3,0,none⟩)]) (by simp) (by simp [go_sem]) ?_
 refine(ratio_caught_idle ⟨w.heap.size+3,0,none⟩ _).mono ?_
 rintro e u' w'' ⟨rfl,rfl,rfl⟩
 simp [Leaves,settle,results,Tryz.results20,go_sem,cr0,cr1,cr2,cr3,ce0]
 exact⟨_,rfl,⟨_,_,_,_,_,_,_,rfl,Vv.out,Fv.out,Gv.out⟩,hx⟩
theorem ratio_Sub {v u:Value} {r s:Rat} {i j:Nat} {w:World} (hv:RatV w v r) (hu:RatV w u s) (hr:Sz r i) (hs:Sz s j) (hij:i+j+1≤2048):Calls Tryz.prog 20 #[v,u] w (RatP (r - s) w):=by
 by_cases h0:s=0
 ·exact ratio_Sub_zero hv hu hr hs hij h0
 ·by_cases h1:s<0
  ·exact ratio_Sub_neg hv hu hr hs hij h1
  ·exact ratio_Sub_pos hv hu hr hs hij (Rat.lt_of_le_of_ne (Rat.not_lt.1 h1) (fun e=>h0 e.symm))
end Go.Proofs.YtolffmmkjnhkkaaGreat
namespace Go.Proofs.YtolffmmkjnhkkaaGreat
open Go.RowKit Go BigFrame
set_option maxRecDepth 100000
set_option linter.unusedSimpArgs false
set_option linter.unusedVariables false
end Go.Proofs.YtolffmmkjnhkkaaGreat
