import Derived.Test.YtolffmmkjnhkkaaGreatQ4
import Derived.Deep.Cut
namespace Go.Proofs.YtolffmmkjnhkkaaGreat
open Go.RowKit Go BigFrame
set_option maxRecDepth 100000
set_option linter.unusedSimpArgs false
set_option linter.unusedVariables false
theorem ratio_of_val {v u:Value} {z y:Int} {w:World} (hv:BigV w v z) (hu:BigV w u y) (hz:Len z) (hy:Len y) (h0:y≠0):Calls Tryz.prog 35 #[v,u] w (RatP (Rat.divInt z y) w):=by
 obtain⟨n1,l,⟨a,ca,rfl,hi⟩,hb⟩:=hv
 obtain⟨n2,m,⟨b,cb,rfl,hj⟩,hc⟩:=hu
 have e1:sgn n1 (dval l)=z:=hb.2.2.symm
 have e2:sgn n2 (dval m)=y:=hc.2.2.symm
 have hm:0<m.length:=List.length_pos_iff.2 (fun e=>h0 (by rw [←e2,e];cases n2 <;> rfl))
 have:=ratio_Of_ok n1 n2 a b ca cb l m w hi hj (hb.chk hz) (hc.chk hy) hm
 rw [e1,e2] at this
 exact this
theorem len_i64 {n:Int} (h:-9223372036854775808≤n∧n≤9223372036854775807):Len n:=len_lt (n:=3) (by omega) (by omega)
theorem ratio_Make (n d:Int) (w:World) (hn:-9223372036854775808≤n∧n≤9223372036854775807) (hd:-9223372036854775808≤d∧d≤9223372036854775807) (h0:d≠0):Calls Tryz.prog 16 #[.int .i64 n,.int .i64 d] w (RatP (Rat.divInt n d) w):=by
 have HN:=Lib.hid hn
 have HD:=Lib.hid hd
 have H0:=Lib.hid h0
 clear hn hd h0
 obtain⟨x1,hw,hx,Kr⟩:=boxQ1 w #[.bool false,.slice none 0 0,.bool false,.slice none 0 0] 38
 replace hw:=Lib.hid hw
 go_enter Tryz.func16,Tryz.ntmps16
 go_upto_region 1 with fail
 try simp only [Nat.add_assoc,Nat.reduceAdd,Nat.add_zero]
 rw [hw.out]
 clear hw
 have hs0:=hx.size
 obtain⟨cr0,cr1,cr2,cr3⟩:=bk4 Kr
 have hsz:=hx.size
 go_wp2_with fail
 with_reducible refine(nat_Make n _ HN.out).mono ?_
 clear cr0 cr1 cr2 cr3
 rintro e x2 ⟨v,rfl,hv,hy⟩
 replace hx:=hx.trans hy
 replace Kr:=kE Kr hy
 clear hy
 obtain⟨nn,an,qn,cn,rfl,hv',hf'⟩:=hv.two
 have Vn:=Lib.hid hv'
 have Fn:=Lib.hid (fun A hA=>Nat.le_trans hsz (hf' A hA))
 clear hv' hf' hsz
 obtain⟨cr0,cr1,cr2,cr3⟩:=bk4 Kr
 have hsz:=hx.size
 go_wp2_with fail
 with_reducible refine(nat_Make d _ HD.out).mono ?_
 clear cr0 cr1 cr2 cr3
 rintro e x3 ⟨v,rfl,hv,hy⟩
 replace hx:=hx.trans hy
 replace Kr:=kE Kr hy
 replace Vn:=Lib.hid (Vn.out.ext hy)
 clear hy
 obtain⟨nd,ad,qd,cd,rfl,hv',hf'⟩:=hv.two
 have Vd:=Lib.hid hv'
 have Fd:=Lib.hid (fun A hA=>Nat.le_trans hsz (hf' A hA))
 clear hv' hf' hsz
 obtain⟨cr0,cr1,cr2,cr3⟩:=bk4 Kr
 have hsz:=hx.size
 go_wp2_with fail
 with_reducible refine(ratio_of_val Vn.out Vd.out (len_i64 HN.out) (len_i64 HD.out) H0.out).mono ?_
 clear cr0 cr1 cr2 cr3
 rintro e x4 ⟨v,rfl,hv,hy⟩
 replace hx:=hx.trans hy
 replace Kr:=kE Kr hy
 replace Vn:=Lib.hid (Vn.out.ext hy)
 replace Vd:=Lib.hid (Vd.out.ext hy)
 clear hy
 obtain⟨nv,av,qv,cv,bv,kv,dv,rfl,hv',hf',hg'⟩:=hv
 have Vv:=Lib.hid hv'
 have Fv:=Lib.hid (fun A hA=>Nat.le_trans hsz (hf' A hA))
 have Gv:=Lib.hid (fun A hA=>Nat.le_trans hsz (hg' A hA))
 clear hv' hf' hg' hsz
 clear Vn Vd
 obtain⟨cr0,cr1,cr2,cr3⟩:=bk4 Kr
 obtain⟨g0,z0,g1,z1,g2,z2,g3,z3⟩:=bp4 Kr (.bool nv) (.slice av qv cv) (.bool false) (.slice bv kv dv)
 go_wp2_with fail
 clear g0 z0 g1 z1 g2 z2 g3 z3
 clear cr0 cr1 cr2 cr3
 replace Vv:=(by first | exact rv4 Vv Kr (.bool nv) (.slice av qv cv) (.bool false) (.slice bv kv dv) rfl rfl rfl rfl | exact bv4 Vv Kr (.bool nv) (.slice av qv cv) (.bool false) (.slice bv kv dv) rfl rfl rfl rfl)
 replace hx:=bx4 hx (w.heap.size) (.bool nv) (.slice av qv cv) (.bool false) (.slice bv kv dv) (by omega)
 replace Kr:=bs4 Kr (.bool nv) (.slice av qv cv) (.bool false) (.slice bv kv dv)
 generalize ((((x4).setCell ⟨w.heap.size,0,none⟩ (.bool nv)).setCell ⟨w.heap.size,1,none⟩ (.slice av qv cv)).setCell ⟨w.heap.size,2,none⟩ (.bool false)).setCell ⟨w.heap.size,3,none⟩ (.slice bv kv dv)=x5 at *
 obtain⟨cr0,cr1,cr2,cr3⟩:=bk4 Kr
 refine bodyPost_ret (v:=.tuple #[.agg #[.bool nv,.slice av qv cv,.bool false,.slice bv kv dv],.int .i64 0]) (by simp [results,Tryz.results16,go_sem,cr0,cr1,cr2,cr3]) rfl ?_
 exact⟨_,rfl,⟨_,_,_,_,_,_,_,rfl,Vv.out,Fv.out,Gv.out⟩,hx⟩
set_option maxHeartbeats 4000000 in
theorem ratio_Add {v u:Value} {r s:Rat} {i j:Nat} {w:World} (hv:RatV w v r) (hu:RatV w u s) (hr:Sz r i) (hs:Sz s j) (hij:i+j+1≤2048):Calls Tryz.prog 17 #[v,u] w (RatP (r+s) w):=by
 have L0:=Lib.hid (And.intro (hr.lenN (by omega)) (And.intro (hr.lenD (by omega)) (And.intro (hs.lenN (by omega)) (hs.lenD (by omega)))))
 have M0:Hid (Len (r.num* (s.den:Int))):=Lib.hid (len_lt (mul_lt hr.1 hs.den) (by omega))
 have M1:Hid (Len (s.num* (r.den:Int))):=Lib.hid (len_lt (mul_lt hs.1 hr.den) (by omega))
 have M2:Hid (Len ((r.den:Int)* (s.den:Int))):=Lib.hid (len_lt (mul_lt hr.den hs.den) (by omega))
 have M3:Hid (Len (r.num*s.den+s.num*r.den)):=Lib.hid (len_lt (add_lt (n:=i+j) (mul_lt hr.1 hs.den) (by rw [Nat.add_comm];exact mul_lt hs.1 hr.den)) (by omega))
 obtain⟨nx,ax,qx,cx,bx,kx,dx,rfl⟩:=hv.form
 obtain⟨ny,ay,qy,cy,by_,ky,dy,rfl⟩:=hu.form
 have Vx:=Lib.hid hv
 have Vy:=Lib.hid hu
 clear hv hu hr hs hij
 obtain⟨x1,hw,hx,Kx,Ky,Kr,Ke⟩:=boxQ4 w #[.bool nx,.slice ax qx cx,.bool false,.slice bx kx dx] 38 #[.bool ny,.slice ay qy cy,.bool false,.slice by_ ky dy] 38 #[.bool false,.slice none 0 0,.bool false,.slice none 0 0] 38 #[.int .i64 0] 27
 replace hw:=Lib.hid hw
 have Vx:=Lib.hid (Vx.out.ext hx)
 have Vy:=Lib.hid (Vy.out.ext hx)
 go_enter_defers Tryz.func17,Tryz.ntmps17
 go_upto_region 1 with fail
 try simp only [Nat.add_assoc,Nat.reduceAdd,Nat.add_zero]
 rw [hw.out]
 clear hw
 have hs0:=hx.size
 obtain⟨cx0,cx1,cx2,cx3⟩:=bk4 Kx
 obtain⟨cy0,cy1,cy2,cy3⟩:=bk4 Ky
 obtain⟨cr0,cr1,cr2,cr3⟩:=bk4 Kr
 have ce0:=bk1 Ke
 have hl:=Ext.alloc x1 (.cells #[.bool nx,.slice ax qx cx,.bool false,.slice bx kx dx,.bool ny,.slice ay qy cy,.bool false,.slice by_ ky dy] 38)
 have hKK:=Blk.new0 x1 #[.bool nx,.slice ax qx cx,.bool false,.slice bx kx dx,.bool ny,.slice ay qy cy,.bool false,.slice by_ ky dy] 38
 have hlx:=hx.trans hl
 have HTT:=Lib.hid (valid2_val hKK (Vx.out.ext hl) (Vy.out.ext hl) L0.out.1 L0.out.2.1 L0.out.2.2.1 L0.out.2.2.2)
 clear hKK hlx
 go_wp2_with fail
 with_reducible refine(HTT.out).mono ?_
 clear cx0 cx1 cx2 cx3 cy0 cy1 cy2 cy3 cr0 cr1 cr2 cr3 ce0
 rintro e x2 ⟨rfl,hy⟩
 replace hy:=hl.trans hy
 replace hx:=hx.trans hy
 replace Kx:=kE Kx hy
 replace Ky:=kE Ky hy
 replace Kr:=kE Kr hy
 replace Ke:=kE Ke hy
 replace Vx:=Lib.hid (Vx.out.ext hy)
 replace Vy:=Lib.hid (Vy.out.ext hy)
 clear hy HTT hl
 have lgx:w.heap.size<Array.size (World.heap x2):=Kx.out.lt
 have lgy:w.heap.size+1<Array.size (World.heap x2):=Ky.out.lt
 have lgr:w.heap.size+2<Array.size (World.heap x2):=Kr.out.lt
 have lge:w.heap.size+3<Array.size (World.heap x2):=Ke.out.lt
 obtain⟨cx0,cx1,cx2,cx3⟩:=bk4 Kx
 obtain⟨cy0,cy1,cy2,cy3⟩:=bk4 Ky
 obtain⟨cr0,cr1,cr2,cr3⟩:=bk4 Kr
 have ce0:=bk1 Ke
 have hl:=Ext.alloc x2 (.cells #[.bool nx,.slice ax qx cx,.bool false,.slice by_ ky dy,.bool ny,.slice ay qy cy,.bool false,.slice bx kx dx,.bool false,.slice bx kx dx,.bool false,.slice by_ ky dy] 36)
 have hKK:=Blk.new0 x2 #[.bool nx,.slice ax qx cx,.bool false,.slice by_ ky dy,.bool ny,.slice ay qy cy,.bool false,.slice bx kx dx,.bool false,.slice bx kx dx,.bool false,.slice by_ ky dy] 36
 have hlx:=hx.trans hl
 have HTT:=Lib.hid (prod3 (x0:=⟨nx,ax,qx,cx⟩) (x1:=⟨false,by_,ky,dy⟩) (x2:=⟨ny,ay,qy,cy⟩) (x3:=⟨false,bx,kx,dx⟩) (x4:=⟨false,bx,kx,dx⟩) (x5:=⟨false,by_,ky,dy⟩) hKK (Vx.out.num.ext hl) (Vy.out.den.ext hl) (Vy.out.num.ext hl) (Vx.out.den.ext hl) (Vx.out.den.ext hl) (Vy.out.den.ext hl) L0.out.1 L0.out.2.2.2 L0.out.2.2.1 L0.out.2.1 L0.out.2.1 L0.out.2.2.2 M0.out M1.out M2.out)
 clear hKK hlx
 go_wp2_with fail
 with_reducible refine(HTT.out).mono ?_
 clear cx0 cx1 cx2 cx3 cy0 cy1 cy2 cy3 cr0 cr1 cr2 cr3 ce0
 rintro e x3 ⟨v,LB,rfl,hO,hy⟩
 replace hy:=hl.trans hy
 replace hx:=hx.trans hy
 replace Kx:=kE Kx hy
 replace Ky:=kE Ky hy
 replace Kr:=kE Kr hy
 replace Ke:=kE Ke hy
 replace Vx:=Lib.hid (Vx.out.ext hy)
 replace Vy:=Lib.hid (Vy.out.ext hy)
 clear hy HTT hl
 obtain⟨gp,cp,rfl,hgp,hgl,hcp,hcm,hat⟩:=hO.at (n:=2) rfl
 obtain⟨nu0,au0,qu0,cu0,hc0,hd0,hu0⟩:=hat 0 (by omega)
 have Vu0:=Lib.hid (show BigV _ _ (r.num* (s.den:Int)) from hu0)
 clear hu0
 obtain⟨nu1,au1,qu1,cu1,hc1,hd1,hu1⟩:=hat 1 (by omega)
 have Vu1:=Lib.hid (show BigV _ _ (s.num* (r.den:Int)) from hu1)
 clear hu1
 obtain⟨nu2,au2,qu2,cu2,hc2,hd2,hu2⟩:=hat 2 (by omega)
 have Vu2:=Lib.hid (show BigV _ _ ((r.den:Int)* (s.den:Int)) from hu2)
 clear hu2
 clear hO hat
 clear Vx Vy
 simp only [World.size_alloc] at hgp
 clear Kx Ky
 go_upto_region 4 with fail
 have hs1:=hx.size
 have s0:World.cell? x3 ⟨gp,0,none⟩=some (.bool nu0):=hc0
 have s1:World.cell? x3 ⟨gp,1,none⟩=some (.slice au0 qu0 cu0):=hd0
 have s2:World.cell? x3 ⟨gp,2,none⟩=some (.bool nu1):=hc1
 have s3:World.cell? x3 ⟨gp,3,none⟩=some (.slice au1 qu1 cu1):=hd1
 have s4:World.cell? x3 ⟨gp,4,none⟩=some (.bool nu2):=hc2
 have s5:World.cell? x3 ⟨gp,5,none⟩=some (.slice au2 qu2 cu2):=hd2
 have hE:Ext x3 (World.drew x3):=(Ext.refl _).drew
 have hyd:Ext x3 (World.drew x3):=(Ext.refl _).drew
 replace hx:=hx.trans hyd
 replace Kr:=kE Kr hyd
 replace Ke:=kE Ke hyd
 replace Vu0:=Lib.hid (Vu0.out.ext hyd)
 replace Vu1:=Lib.hid (Vu1.out.ext hyd)
 replace Vu2:=Lib.hid (Vu2.out.ext hyd)
 clear hyd
 replace s0:World.cell? (World.drew x3) ⟨gp,0,none⟩=some (.bool nu0):=s0
 replace s1:World.cell? (World.drew x3) ⟨gp,1,none⟩=some (.slice au0 qu0 cu0):=s1
 replace s2:World.cell? (World.drew x3) ⟨gp,2,none⟩=some (.bool nu1):=s2
 replace s3:World.cell? (World.drew x3) ⟨gp,3,none⟩=some (.slice au1 qu1 cu1):=s3
 replace s4:World.cell? (World.drew x3) ⟨gp,4,none⟩=some (.bool nu2):=s4
 replace s5:World.cell? (World.drew x3) ⟨gp,5,none⟩=some (.slice au2 qu2 cu2):=s5
 refine wp_region_noPanic ?_
 refine wp_region_held_drew (S:=(fun w'=>World.cell? w' ⟨gp,0,none⟩=some (.bool nu0)∧World.cell? w' ⟨gp,1,none⟩=some (.slice au0 qu0 cu0)∧World.cell? w' ⟨gp,2,none⟩=some (.bool nu1)∧World.cell? w' ⟨gp,3,none⟩=some (.slice au1 qu1 cu1)∧World.cell? w' ⟨gp,4,none⟩=some (.bool nu2)∧World.cell? w' ⟨gp,5,none⟩=some (.slice au2 qu2 cu2))) (by kernel_rfl) ?_ (fun hHeld=>?_)
 ·exact⟨s0,s1,s2,s3,s4,s5⟩
 (try simp only [pur,Nat.reduceAdd])
 generalize World.drew x3=x4 at *
 refine tk (v:=?_) 0 rfl (by kernel_rfl) (fun _ _ _ h=>h) (by rfl) ?_ (by assumption) ?_
 rotate_left
 ·(intro w hSw;(try dsimp only at hSw);(try go_simp);(try with_reducible rfl))
 (try simp only [Act.put,pus])
 refine tk (v:=?_) 1 rfl (by kernel_rfl) (fun _ _ _ h=>h) (by rfl) ?_ (by assumption) ?_
 rotate_left
 ·(intro w hSw;(try dsimp only at hSw);(try go_simp);(try with_reducible rfl))
 (try simp only [Act.put,pus])
 refine tk (v:=?_) 2 rfl (by kernel_rfl) (fun _ _ _ h=>h) (by rfl) ?_ (by assumption) ?_
 rotate_left
 ·(intro w hSw;(try dsimp only at hSw);(try go_simp);(try with_reducible rfl))
 (try simp only [Act.put,pus])
 refine tk (v:=?_) 3 rfl (by kernel_rfl) (fun _ _ _ h=>h) (by rfl) ?_ (by assumption) ?_
 rotate_left
 ·(intro w hSw;(try dsimp only at hSw);(try go_simp);(try with_reducible rfl))
 (try simp only [Act.put,pus])
 refine tk (v:=?_) 4 rfl (by kernel_rfl) (fun _ _ _ h=>h) (by rfl) ?_ (by assumption) ?_
 rotate_left
 ·(intro w hSw;(try dsimp only at hSw);(try go_simp);(try with_reducible rfl))
 (try simp only [Act.put,pus])
 refine tk (v:=?_) 5 rfl (by kernel_rfl) (fun _ _ _ h=>h) (by rfl) ?_ (by assumption) ?_
 rotate_left
 ·(intro w hSw;(try dsimp only at hSw);(try go_simp);(try with_reducible rfl))
 (try simp only [Act.put,pus])
 refine tk (v:=?_) 10 rfl (by kernel_rfl) (fun _ _ _ h=>h) (by rfl) ?_ (by assumption) ?_
 rotate_left
 ·(intro w hSw;(try dsimp only at hSw);(try go_simp);(try with_reducible rfl))
 (try simp only [Act.put,pus])
 refine tk (v:=?_) 11 rfl (by kernel_rfl) (fun _ _ _ h=>h) (by rfl) ?_ (by assumption) ?_
 rotate_left
 ·(intro w hSw;(try dsimp only at hSw);(try go_simp);(try with_reducible rfl))
 (try simp only [Act.put,pus])
 refine tk (v:=?_) 12 rfl (by kernel_rfl) (fun _ _ _ h=>h) (by rfl) ?_ (by assumption) ?_
 rotate_left
 ·(intro w hSw;(try dsimp only at hSw);(try go_simp);(try with_reducible rfl))
 (try simp only [Act.put,pus])
 refine wpAnyH_ready (rs:=[6]) (by kernel_rfl) (by simp) ?_
 refine AllReadyH.cons (o:=_) rfl (fun K hK=>?_) ?_
 ·go_simp
  (with_reducible refine(add_one Vu0.out Vu1.out M0.out M1.out M3.out).mono ?_);rintro e x5 ⟨v,rfl,hv,hy⟩;replace hE:=hE.trans hy;replace hx:=hx.trans hy;replace s0:=cell_exQ hy s0;replace s1:=cell_exQ hy s1;replace s2:=cell_exQ hy s2;replace s3:=cell_exQ hy s3;replace s4:=cell_exQ hy s4;replace s5:=cell_exQ hy s5;replace Kr:=kE Kr hy;replace Ke:=kE Ke hy;replace Vu0:=Lib.hid (Vu0.out.ext hy);replace Vu1:=Lib.hid (Vu1.out.ext hy);replace Vu2:=Lib.hid (Vu2.out.ext hy);clear hy;obtain⟨nf,af,qf,cf,rfl,hv,-⟩:=hv.two;have Vs:=Lib.hid hv;clear hv
  refine hK.out _ _ ?_ (fun hHeld2=>?_)
  ·exact⟨s0,s1,s2,s3,s4,s5⟩
  clear hK K hHeld
  have hHeld:=hHeld2
  clear hHeld2
  (try simp only [Act.put,pus])
  refine tk (v:=?_) 7 rfl (by kernel_rfl) (fun _ _ _ h=>h) (by rfl) ?_ (by assumption) ?_
  rotate_left
  ·(intro w hSw;(try dsimp only at hSw);(try go_simp);(try with_reducible rfl))
  (try simp only [Act.put,pus])
  refine tk (v:=?_) 8 rfl (by kernel_rfl) (fun _ _ _ h=>h) (by rfl) ?_ (by assumption) ?_
  rotate_left
  ·(intro w hSw;(try dsimp only at hSw);(try go_simp);(try with_reducible rfl))
  (try simp only [Act.put,pus])
  refine wpAnyH_ready (rs:=[9]) (by kernel_rfl) (by simp) ?_
  refine AllReadyH.cons (o:=_) rfl (fun K hK=>?_) ?_
  ·go_simp
   (with_reducible refine(ratio_didB _ _ _ _ _).mono ?_);rintro e x6 ⟨rfl,hy⟩;replace hE:=hE.trans hy;replace hx:=hx.trans hy;replace s0:=cell_exQ hy s0;replace s1:=cell_exQ hy s1;replace s2:=cell_exQ hy s2;replace s3:=cell_exQ hy s3;replace s4:=cell_exQ hy s4;replace s5:=cell_exQ hy s5;replace Kr:=kE Kr hy;replace Ke:=kE Ke hy;replace Vu0:=Lib.hid (Vu0.out.ext hy);replace Vu1:=Lib.hid (Vu1.out.ext hy);replace Vu2:=Lib.hid (Vu2.out.ext hy);replace Vs:=Lib.hid (Vs.out.ext hy);clear hy
   refine hK.out _ _ ?_ (fun hHeld2=>?_)
   ·exact⟨s0,s1,s2,s3,s4,s5⟩
   clear hK K hHeld
   have hHeld:=hHeld2
   clear hHeld2
   (try simp only [Act.put,pus])
   refine tk (v:=?_) 13 rfl (by kernel_rfl) (fun _ _ _ h=>h) (by rfl) ?_ (by assumption) ?_
   rotate_left
   ·(intro w hSw;(try dsimp only at hSw);(try go_simp);(try with_reducible rfl))
   (try simp only [Act.put,pus])
   refine tk (v:=?_) 14 rfl (by kernel_rfl) (fun _ _ _ h=>h) (by rfl) ?_ (by assumption) ?_
   rotate_left
   ·(intro w hSw;(try dsimp only at hSw);(try go_simp);(try with_reducible rfl))
   (try simp only [Act.put,pus])
   refine wpAnyH_ready (rs:=[15]) (by kernel_rfl) (by simp) ?_
   refine AllReadyH.cons (o:=_) rfl (fun K hK=>?_) ?_
   ·go_simp
    have hx0:=hx.size;(with_reducible refine(ratio_lowest Vs.out Vu2.out M3.out M2.out (den_mul_ne r s)).mono ?_);rintro e x7 ⟨v,rfl,hv,hy⟩;replace hE:=hE.trans hy;replace hx:=hx.trans hy;replace s0:=cell_exQ hy s0;replace s1:=cell_exQ hy s1;replace s2:=cell_exQ hy s2;replace s3:=cell_exQ hy s3;replace s4:=cell_exQ hy s4;replace s5:=cell_exQ hy s5;replace Kr:=kE Kr hy;replace Ke:=kE Ke hy;replace Vu0:=Lib.hid (Vu0.out.ext hy);replace Vu1:=Lib.hid (Vu1.out.ext hy);replace Vu2:=Lib.hid (Vu2.out.ext hy);replace Vs:=Lib.hid (Vs.out.ext hy);clear hy;have hsz:=hx0;rw [←add_divInt] at hv;obtain⟨nv,av,qv,cv,bv,kv,dv,rfl,hv,hf,hg⟩:=hv;have Vv:=Lib.hid hv;have Fv:=Lib.hid (fun A hA=>Nat.le_trans hsz (hf A hA));have Gv:=Lib.hid (fun A hA=>Nat.le_trans hsz (hg A hA));clear hv hf hg
    refine hK.out _ _ ?_ (fun hHeld2=>?_)
    ·exact⟨s0,s1,s2,s3,s4,s5⟩
    clear hK K hHeld
    have hHeld:=hHeld2
    clear hHeld2
    (try simp only [Act.put,pus])
    refine wpAnyH_ready (rs:=[16]) (by kernel_rfl) (by simp) ?_
    refine AllReadyH.cons (o:=_) rfl (fun K hK=>?_) ?_
    ·obtain⟨g0,z0,g1,z1,g2,z2,g3,z3⟩:=bp4 Kr (.bool nv) (.slice av qv cv) (.bool false) (.slice bv kv dv);go_simp;clear g0 z0 g1 z1 g2 z2 g3 z3;replace Vu0:=(by first | exact rv4 Vu0 Kr (.bool nv) (.slice av qv cv) (.bool false) (.slice bv kv dv) rfl rfl rfl rfl | exact bv4 Vu0 Kr (.bool nv) (.slice av qv cv) (.bool false) (.slice bv kv dv) rfl rfl rfl rfl);replace Vu1:=(by first | exact rv4 Vu1 Kr (.bool nv) (.slice av qv cv) (.bool false) (.slice bv kv dv) rfl rfl rfl rfl | exact bv4 Vu1 Kr (.bool nv) (.slice av qv cv) (.bool false) (.slice bv kv dv) rfl rfl rfl rfl);replace Vu2:=(by first | exact rv4 Vu2 Kr (.bool nv) (.slice av qv cv) (.bool false) (.slice bv kv dv) rfl rfl rfl rfl | exact bv4 Vu2 Kr (.bool nv) (.slice av qv cv) (.bool false) (.slice bv kv dv) rfl rfl rfl rfl);replace Vs:=(by first | exact rv4 Vs Kr (.bool nv) (.slice av qv cv) (.bool false) (.slice bv kv dv) rfl rfl rfl rfl | exact bv4 Vs Kr (.bool nv) (.slice av qv cv) (.bool false) (.slice bv kv dv) rfl rfl rfl rfl);replace Vv:=(by first | exact rv4 Vv Kr (.bool nv) (.slice av qv cv) (.bool false) (.slice bv kv dv) rfl rfl rfl rfl | exact bv4 Vv Kr (.bool nv) (.slice av qv cv) (.bool false) (.slice bv kv dv) rfl rfl rfl rfl);replace hx:=bx4 hx (w.heap.size+2) (.bool nv) (.slice av qv cv) (.bool false) (.slice bv kv dv) (by omega);replace s0:=bf4 s0 (w.heap.size+2) (.bool nv) (.slice av qv cv) (.bool false) (.slice bv kv dv) (by omega);replace s1:=bf4 s1 (w.heap.size+2) (.bool nv) (.slice av qv cv) (.bool false) (.slice bv kv dv) (by omega);replace s2:=bf4 s2 (w.heap.size+2) (.bool nv) (.slice av qv cv) (.bool false) (.slice bv kv dv) (by omega);replace s3:=bf4 s3 (w.heap.size+2) (.bool nv) (.slice av qv cv) (.bool false) (.slice bv kv dv) (by omega);replace s4:=bf4 s4 (w.heap.size+2) (.bool nv) (.slice av qv cv) (.bool false) (.slice bv kv dv) (by omega);replace s5:=bf4 s5 (w.heap.size+2) (.bool nv) (.slice av qv cv) (.bool false) (.slice bv kv dv) (by omega);replace Kr:=bs4 Kr (.bool nv) (.slice av qv cv) (.bool false) (.slice bv kv dv);replace Ke:=bo4 Ke (w.heap.size+2) (.bool nv) (.slice av qv cv) (.bool false) (.slice bv kv dv) (by omega);clear hE;generalize (World.setCell (World.setCell (World.setCell (World.setCell x7 ⟨w.heap.size+2,0,none⟩ (.bool nv)) ⟨w.heap.size+2,1,none⟩ (.slice av qv cv)) ⟨w.heap.size+2,2,none⟩ (.bool false)) ⟨w.heap.size+2,3,none⟩ (.slice bv kv dv))=x8 at *;have hE:=Ext.refl x8
     refine hK.out _ _ ?_ (fun hHeld2=>?_)
     ·exact⟨s0,s1,s2,s3,s4,s5⟩
     clear hK K hHeld
     have hHeld:=hHeld2
     clear hHeld2
     (try simp only [Act.put,pus])
     refine wpAnyH_ready (rs:=[17]) (by kernel_rfl) (by simp) ?_
     refine AllReadyH.cons (o:=_) rfl (fun K hK=>?_) ?_
     ·obtain⟨g0,z0⟩:=bp1 Ke (.int .i64 0);go_simp;clear g0 z0;replace Vu0:=(by first | exact rv1 Vu0 Ke (.int .i64 0) rfl | exact bv1 Vu0 Ke (.int .i64 0) rfl);replace Vu1:=(by first | exact rv1 Vu1 Ke (.int .i64 0) rfl | exact bv1 Vu1 Ke (.int .i64 0) rfl);replace Vu2:=(by first | exact rv1 Vu2 Ke (.int .i64 0) rfl | exact bv1 Vu2 Ke (.int .i64 0) rfl);replace Vs:=(by first | exact rv1 Vs Ke (.int .i64 0) rfl | exact bv1 Vs Ke (.int .i64 0) rfl);replace Vv:=(by first | exact rv1 Vv Ke (.int .i64 0) rfl | exact bv1 Vv Ke (.int .i64 0) rfl);replace hx:=bx1 hx (w.heap.size+3) (.int .i64 0) (by omega);replace s0:=bf1 s0 (w.heap.size+3) (.int .i64 0) (by omega);replace s1:=bf1 s1 (w.heap.size+3) (.int .i64 0) (by omega);replace s2:=bf1 s2 (w.heap.size+3) (.int .i64 0) (by omega);replace s3:=bf1 s3 (w.heap.size+3) (.int .i64 0) (by omega);replace s4:=bf1 s4 (w.heap.size+3) (.int .i64 0) (by omega);replace s5:=bf1 s5 (w.heap.size+3) (.int .i64 0) (by omega);replace Kr:=bo1 Kr (w.heap.size+3) (.int .i64 0) (by omega);replace Ke:=bs1 Ke (.int .i64 0);clear hE;generalize (World.setCell x8 ⟨w.heap.size+3,0,none⟩ (.int .i64 0))=x9 at *;have hE:=Ext.refl x9
      refine hK.out _ _ ?_ (fun hHeld2=>?_)
      ·exact⟨s0,s1,s2,s3,s4,s5⟩
      clear hK K hHeld
      have hHeld:=hHeld2
      clear hHeld2
      (try simp only [Act.put,pus])
      refine wpAnyH_done (by kernel_rfl) ?_ _
      refine NoPanic.normal ?_
      go_wp2_with fail
      obtain⟨cr0,cr1,cr2,cr3⟩:=bk4 Kr
      have ce0:=bk1 Ke
      refine leaves_cons (f:=37) (args:=#[.pointer (some ⟨w.heap.size+3,0,none⟩)]) (by simp) (by simp [go_sem]) ?_
      refine(ratio_caught_idle ⟨w.heap.size+3,0,none⟩ _).mono ?_
      rintro e u' w'' ⟨rfl,rfl,rfl⟩
      simp [Leaves,settle,results,Tryz.results17,go_sem,cr0,cr1,cr2,cr3,ce0]
      exact⟨_,rfl,⟨_,_,_,_,_,_,_,rfl,Vv.out,Fv.out,Gv.out⟩,hx⟩
     exact AllReadyH.nil
    exact AllReadyH.nil
   exact AllReadyH.nil
  exact AllReadyH.nil
 exact AllReadyH.nil
set_option maxHeartbeats 4000000 in
theorem ratio_Quo {v u:Value} {r s:Rat} {i j:Nat} {w:World} (hv:RatV w v r) (hu:RatV w u s) (hr:Sz r i) (hs:Sz s j) (hij:i+j≤2048) (h0:s≠0):Calls Tryz.prog 33 #[v,u] w (RatP (r / s) w):=by
 have L0:=Lib.hid (And.intro (hr.lenN (by omega)) (And.intro (hr.lenD (by omega)) (And.intro (hs.lenN (by omega)) (hs.lenD (by omega)))))
 have M0:Hid (Len (r.num* (s.den:Int))):=Lib.hid (len_lt (mul_lt hr.1 hs.den) (by omega))
 have M1:Hid (Len ((r.den:Int)*s.num)):=Lib.hid (len_lt (mul_lt hr.den hs.1) (by omega))
 have H0:=Lib.hid (And.intro h0 (mt Rat.num_eq_zero.1 h0))
 clear h0
 obtain⟨nx,ax,qx,cx,bx,kx,dx,rfl⟩:=hv.form
 obtain⟨ny,ay,qy,cy,by_,ky,dy,rfl⟩:=hu.form
 have Vx:=Lib.hid hv
 have Vy:=Lib.hid hu
 clear hv hu hr hs hij
 obtain⟨x1,hw,hx,Kx,Ky,Kr,Ke⟩:=boxQ4 w #[.bool nx,.slice ax qx cx,.bool false,.slice bx kx dx] 38 #[.bool ny,.slice ay qy cy,.bool false,.slice by_ ky dy] 38 #[.bool false,.slice none 0 0,.bool false,.slice none 0 0] 38 #[.int .i64 0] 27
 replace hw:=Lib.hid hw
 have Vx:=Lib.hid (Vx.out.ext hx)
 have Vy:=Lib.hid (Vy.out.ext hx)
 go_enter_defers Tryz.func33,Tryz.ntmps33
 go_upto_region 1 with fail
 try simp only [Nat.add_assoc,Nat.reduceAdd,Nat.add_zero]
 rw [hw.out]
 clear hw
 have hs0:=hx.size
 obtain⟨cx0,cx1,cx2,cx3⟩:=bk4 Kx
 obtain⟨cy0,cy1,cy2,cy3⟩:=bk4 Ky
 obtain⟨cr0,cr1,cr2,cr3⟩:=bk4 Kr
 have ce0:=bk1 Ke
 have hl:=Ext.alloc x1 (.cells #[.bool nx,.slice ax qx cx,.bool false,.slice bx kx dx,.bool ny,.slice ay qy cy,.bool false,.slice by_ ky dy] 38)
 have hKK:=Blk.new0 x1 #[.bool nx,.slice ax qx cx,.bool false,.slice bx kx dx,.bool ny,.slice ay qy cy,.bool false,.slice by_ ky dy] 38
 have hlx:=hx.trans hl
 have HTT:=Lib.hid (valid2_val hKK (Vx.out.ext hl) (Vy.out.ext hl) L0.out.1 L0.out.2.1 L0.out.2.2.1 L0.out.2.2.2)
 clear hKK hlx
 go_wp2_with fail
 with_reducible refine(HTT.out).mono ?_
 clear cx0 cx1 cx2 cx3 cy0 cy1 cy2 cy3 cr0 cr1 cr2 cr3 ce0
 rintro e x2 ⟨rfl,hy⟩
 replace hy:=hl.trans hy
 replace hx:=hx.trans hy
 replace Kx:=kE Kx hy
 replace Ky:=kE Ky hy
 replace Kr:=kE Kr hy
 replace Ke:=kE Ke hy
 replace Vx:=Lib.hid (Vx.out.ext hy)
 replace Vy:=Lib.hid (Vy.out.ext hy)
 clear hy HTT hl
 have t1:decide ((0:Int)< (qy:Int))=true:=by
  have h1:=Vy.out.num_len
  have h2:qy≠0:=fun e=>H0.out.1 (h1.1 e)
  simp;omega
 have t2:decide (0<qy)=true:=by simpa using t1
 have hqm:=Vy.out.num.le
 obtain⟨cx0,cx1,cx2,cx3⟩:=bk4 Kx
 obtain⟨cy0,cy1,cy2,cy3⟩:=bk4 Ky
 obtain⟨cr0,cr1,cr2,cr3⟩:=bk4 Kr
 have ce0:=bk1 Ke
 go_wp2_with fail
 with_reducible refine(ratio_need_yes 1 _).mono ?_
 clear cx0 cx1 cx2 cx3 cy0 cy1 cy2 cy3 cr0 cr1 cr2 cr3 ce0
 rintro e x3 ⟨rfl,hy⟩
 replace hx:=hx.trans hy
 replace Kx:=kE Kx hy
 replace Ky:=kE Ky hy
 replace Kr:=kE Kr hy
 replace Ke:=kE Ke hy
 replace Vx:=Lib.hid (Vx.out.ext hy)
 replace Vy:=Lib.hid (Vy.out.ext hy)
 clear hy
 have lgx:w.heap.size<Array.size (World.heap x3):=Kx.out.lt
 have lgy:w.heap.size+1<Array.size (World.heap x3):=Ky.out.lt
 have lgr:w.heap.size+2<Array.size (World.heap x3):=Kr.out.lt
 have lge:w.heap.size+3<Array.size (World.heap x3):=Ke.out.lt
 obtain⟨cx0,cx1,cx2,cx3⟩:=bk4 Kx
 obtain⟨cy0,cy1,cy2,cy3⟩:=bk4 Ky
 obtain⟨cr0,cr1,cr2,cr3⟩:=bk4 Kr
 have ce0:=bk1 Ke
 have hl:=Ext.alloc x3 (.cells #[.bool nx,.slice ax qx cx,.bool false,.slice by_ ky dy,.bool false,.slice bx kx dx,.bool ny,.slice ay qy cy] 36)
 have hKK:=Blk.new0 x3 #[.bool nx,.slice ax qx cx,.bool false,.slice by_ ky dy,.bool false,.slice bx kx dx,.bool ny,.slice ay qy cy] 36
 have hlx:=hx.trans hl
 have HTT:=Lib.hid (prod2 (x0:=⟨nx,ax,qx,cx⟩) (x1:=⟨false,by_,ky,dy⟩) (x2:=⟨false,bx,kx,dx⟩) (x3:=⟨ny,ay,qy,cy⟩) hKK (Vx.out.num.ext hl) (Vy.out.den.ext hl) (Vx.out.den.ext hl) (Vy.out.num.ext hl) L0.out.1 L0.out.2.2.2 L0.out.2.1 L0.out.2.2.1 M0.out M1.out)
 clear hKK hlx
 go_wp2_with fail
 with_reducible refine(HTT.out).mono ?_
 clear cx0 cx1 cx2 cx3 cy0 cy1 cy2 cy3 cr0 cr1 cr2 cr3 ce0
 rintro e x4 ⟨v,LB,rfl,hO,hy⟩
 replace hy:=hl.trans hy
 replace hx:=hx.trans hy
 replace Kx:=kE Kx hy
 replace Ky:=kE Ky hy
 replace Kr:=kE Kr hy
 replace Ke:=kE Ke hy
 replace Vx:=Lib.hid (Vx.out.ext hy)
 replace Vy:=Lib.hid (Vy.out.ext hy)
 clear hy HTT hl
 obtain⟨gp,cp,rfl,hgp,hgl,hcp,hcm,hat⟩:=hO.at (n:=1) rfl
 obtain⟨nu0,au0,qu0,cu0,hc0,hd0,hu0⟩:=hat 0 (by omega)
 have Vu0:=Lib.hid (show BigV _ _ (r.num* (s.den:Int)) from hu0)
 clear hu0
 obtain⟨nu1,au1,qu1,cu1,hc1,hd1,hu1⟩:=hat 1 (by omega)
 have Vu1:=Lib.hid (show BigV _ _ ((r.den:Int)*s.num) from hu1)
 clear hu1
 clear hO hat
 clear Vx Vy
 simp only [World.size_alloc] at hgp
 clear Kx Ky
 go_upto_region 5 with fail
 have hs1:=hx.size
 have s0:World.cell? x4 ⟨gp,0,none⟩=some (.bool nu0):=hc0
 have s1:World.cell? x4 ⟨gp,1,none⟩=some (.slice au0 qu0 cu0):=hd0
 have s2:World.cell? x4 ⟨gp,2,none⟩=some (.bool nu1):=hc1
 have s3:World.cell? x4 ⟨gp,3,none⟩=some (.slice au1 qu1 cu1):=hd1
 have hE:Ext x4 (World.drew x4):=(Ext.refl _).drew
 have hyd:Ext x4 (World.drew x4):=(Ext.refl _).drew
 replace hx:=hx.trans hyd
 replace Kr:=kE Kr hyd
 replace Ke:=kE Ke hyd
 replace Vu0:=Lib.hid (Vu0.out.ext hyd)
 replace Vu1:=Lib.hid (Vu1.out.ext hyd)
 clear hyd
 replace s0:World.cell? (World.drew x4) ⟨gp,0,none⟩=some (.bool nu0):=s0
 replace s1:World.cell? (World.drew x4) ⟨gp,1,none⟩=some (.slice au0 qu0 cu0):=s1
 replace s2:World.cell? (World.drew x4) ⟨gp,2,none⟩=some (.bool nu1):=s2
 replace s3:World.cell? (World.drew x4) ⟨gp,3,none⟩=some (.slice au1 qu1 cu1):=s3
 refine wp_region_noPanic ?_
 refine wp_region_held_drew (S:=(fun w'=>World.cell? w' ⟨gp,0,none⟩=some (.bool nu0)∧World.cell? w' ⟨gp,1,none⟩=some (.slice au0 qu0 cu0)∧World.cell? w' ⟨gp,2,none⟩=some (.bool nu1)∧World.cell? w' ⟨gp,3,none⟩=some (.slice au1 qu1 cu1))) (by kernel_rfl) ?_ (fun hHeld=>?_)
 ·exact⟨s0,s1,s2,s3⟩
 (try simp only [pur,Nat.reduceAdd])
 generalize World.drew x4=x5 at *
 refine tk (v:=?_) 0 rfl (by kernel_rfl) (fun _ _ _ h=>h) (by rfl) ?_ (by assumption) ?_
 rotate_left
 ·(intro w hSw;(try dsimp only at hSw);(try go_simp);(try with_reducible rfl))
 (try simp only [Act.put,pus])
 refine tk (v:=?_) 1 rfl (by kernel_rfl) (fun _ _ _ h=>h) (by rfl) ?_ (by assumption) ?_
 rotate_left
 ·(intro w hSw;(try dsimp only at hSw);(try go_simp);(try with_reducible rfl))
 (try simp only [Act.put,pus])
 refine tk (v:=?_) 2 rfl (by kernel_rfl) (fun _ _ _ h=>h) (by rfl) ?_ (by assumption) ?_
 rotate_left
 ·(intro w hSw;(try dsimp only at hSw);(try go_simp);(try with_reducible rfl))
 (try simp only [Act.put,pus])
 refine tk (v:=?_) 3 rfl (by kernel_rfl) (fun _ _ _ h=>h) (by rfl) ?_ (by assumption) ?_
 rotate_left
 ·(intro w hSw;(try dsimp only at hSw);(try go_simp);(try with_reducible rfl))
 (try simp only [Act.put,pus])
 refine tk (v:=?_) 4 rfl (by kernel_rfl) (fun _ _ _ h=>h) (by rfl) ?_ (by assumption) ?_
 rotate_left
 ·(intro w hSw;(try dsimp only at hSw);(try go_simp);(try with_reducible rfl))
 (try simp only [Act.put,pus])
 refine tk (v:=?_) 5 rfl (by kernel_rfl) (fun _ _ _ h=>h) (by rfl) ?_ (by assumption) ?_
 rotate_left
 ·(intro w hSw;(try dsimp only at hSw);(try go_simp);(try with_reducible rfl))
 (try simp only [Act.put,pus])
 refine tk (v:=?_) 6 rfl (by kernel_rfl) (fun _ _ _ h=>h) (by rfl) ?_ (by assumption) ?_
 rotate_left
 ·(intro w hSw;(try dsimp only at hSw);(try go_simp);(try with_reducible rfl))
 (try simp only [Act.put,pus])
 refine tk (v:=?_) 7 rfl (by kernel_rfl) (fun _ _ _ h=>h) (by rfl) ?_ (by assumption) ?_
 rotate_left
 ·(intro w hSw;(try dsimp only at hSw);(try go_simp);(try with_reducible rfl))
 (try simp only [Act.put,pus])
 refine wpAnyH_ready (rs:=[8]) (by kernel_rfl) (by simp) ?_
 refine AllReadyH.cons (o:=_) rfl (fun K hK=>?_) ?_
 ·go_simp
  have hx0:=hx.size;(with_reducible refine(ratio_lowest Vu0.out Vu1.out M0.out M1.out (quo_den_ne r H0.out.1)).mono ?_);rintro e x6 ⟨v,rfl,hv,hy⟩;replace hE:=hE.trans hy;replace hx:=hx.trans hy;replace s0:=cell_exQ hy s0;replace s1:=cell_exQ hy s1;replace s2:=cell_exQ hy s2;replace s3:=cell_exQ hy s3;replace Kr:=kE Kr hy;replace Ke:=kE Ke hy;replace Vu0:=Lib.hid (Vu0.out.ext hy);replace Vu1:=Lib.hid (Vu1.out.ext hy);clear hy;have hsz:=hx0;rw [←quo_divInt] at hv;obtain⟨nv,av,qv,cv,bv,kv,dv,rfl,hv,hf,hg⟩:=hv;have Vv:=Lib.hid hv;have Fv:=Lib.hid (fun A hA=>Nat.le_trans hsz (hf A hA));have Gv:=Lib.hid (fun A hA=>Nat.le_trans hsz (hg A hA));clear hv hf hg
  refine hK.out _ _ ?_ (fun hHeld2=>?_)
  ·exact⟨s0,s1,s2,s3⟩
  clear hK K hHeld
  have hHeld:=hHeld2
  clear hHeld2
  (try simp only [Act.put,pus])
  refine wpAnyH_ready (rs:=[9]) (by kernel_rfl) (by simp) ?_
  refine AllReadyH.cons (o:=_) rfl (fun K hK=>?_) ?_
  ·obtain⟨g0,z0,g1,z1,g2,z2,g3,z3⟩:=bp4 Kr (.bool nv) (.slice av qv cv) (.bool false) (.slice bv kv dv);go_simp;clear g0 z0 g1 z1 g2 z2 g3 z3;replace Vu0:=(by first | exact rv4 Vu0 Kr (.bool nv) (.slice av qv cv) (.bool false) (.slice bv kv dv) rfl rfl rfl rfl | exact bv4 Vu0 Kr (.bool nv) (.slice av qv cv) (.bool false) (.slice bv kv dv) rfl rfl rfl rfl);replace Vu1:=(by first | exact rv4 Vu1 Kr (.bool nv) (.slice av qv cv) (.bool false) (.slice bv kv dv) rfl rfl rfl rfl | exact bv4 Vu1 Kr (.bool nv) (.slice av qv cv) (.bool false) (.slice bv kv dv) rfl rfl rfl rfl);replace Vv:=(by first | exact rv4 Vv Kr (.bool nv) (.slice av qv cv) (.bool false) (.slice bv kv dv) rfl rfl rfl rfl | exact bv4 Vv Kr (.bool nv) (.slice av qv cv) (.bool false) (.slice bv kv dv) rfl rfl rfl rfl);replace hx:=bx4 hx (w.heap.size+2) (.bool nv) (.slice av qv cv) (.bool false) (.slice bv kv dv) (by omega);replace s0:=bf4 s0 (w.heap.size+2) (.bool nv) (.slice av qv cv) (.bool false) (.slice bv kv dv) (by omega);replace s1:=bf4 s1 (w.heap.size+2) (.bool nv) (.slice av qv cv) (.bool false) (.slice bv kv dv) (by omega);replace s2:=bf4 s2 (w.heap.size+2) (.bool nv) (.slice av qv cv) (.bool false) (.slice bv kv dv) (by omega);replace s3:=bf4 s3 (w.heap.size+2) (.bool nv) (.slice av qv cv) (.bool false) (.slice bv kv dv) (by omega);replace Kr:=bs4 Kr (.bool nv) (.slice av qv cv) (.bool false) (.slice bv kv dv);replace Ke:=bo4 Ke (w.heap.size+2) (.bool nv) (.slice av qv cv) (.bool false) (.slice bv kv dv) (by omega);clear hE;generalize (World.setCell (World.setCell (World.setCell (World.setCell x6 ⟨w.heap.size+2,0,none⟩ (.bool nv)) ⟨w.heap.size+2,1,none⟩ (.slice av qv cv)) ⟨w.heap.size+2,2,none⟩ (.bool false)) ⟨w.heap.size+2,3,none⟩ (.slice bv kv dv))=x7 at *;have hE:=Ext.refl x7
   refine hK.out _ _ ?_ (fun hHeld2=>?_)
   ·exact⟨s0,s1,s2,s3⟩
   clear hK K hHeld
   have hHeld:=hHeld2
   clear hHeld2
   (try simp only [Act.put,pus])
   refine wpAnyH_ready (rs:=[10]) (by kernel_rfl) (by simp) ?_
   refine AllReadyH.cons (o:=_) rfl (fun K hK=>?_) ?_
   ·obtain⟨g0,z0⟩:=bp1 Ke (.int .i64 0);go_simp;clear g0 z0;replace Vu0:=(by first | exact rv1 Vu0 Ke (.int .i64 0) rfl | exact bv1 Vu0 Ke (.int .i64 0) rfl);replace Vu1:=(by first | exact rv1 Vu1 Ke (.int .i64 0) rfl | exact bv1 Vu1 Ke (.int .i64 0) rfl);replace Vv:=(by first | exact rv1 Vv Ke (.int .i64 0) rfl | exact bv1 Vv Ke (.int .i64 0) rfl);replace hx:=bx1 hx (w.heap.size+3) (.int .i64 0) (by omega);replace s0:=bf1 s0 (w.heap.size+3) (.int .i64 0) (by omega);replace s1:=bf1 s1 (w.heap.size+3) (.int .i64 0) (by omega);replace s2:=bf1 s2 (w.heap.size+3) (.int .i64 0) (by omega);replace s3:=bf1 s3 (w.heap.size+3) (.int .i64 0) (by omega);replace Kr:=bo1 Kr (w.heap.size+3) (.int .i64 0) (by omega);replace Ke:=bs1 Ke (.int .i64 0);clear hE;generalize (World.setCell x7 ⟨w.heap.size+3,0,none⟩ (.int .i64 0))=x8 at *;have hE:=Ext.refl x8
    refine hK.out _ _ ?_ (fun hHeld2=>?_)
    ·exact⟨s0,s1,s2,s3⟩
    clear hK K hHeld
    have hHeld:=hHeld2
    clear hHeld2
    (try simp only [Act.put,pus])
    refine wpAnyH_done (by kernel_rfl) ?_ _
    refine NoPanic.normal ?_
    go_wp2_with fail
    obtain⟨cr0,cr1,cr2,cr3⟩:=bk4 Kr
    have ce0:=bk1 Ke
    refine leaves_cons (f:=37) (args:=#[.pointer (some ⟨w.heap.size+3,0,none⟩)]) (by simp) (by simp [go_sem]) ?_
    refine(ratio_caught_idle ⟨w.heap.size+3,0,none⟩ _).mono ?_
    rintro e u' w'' ⟨rfl,rfl,rfl⟩
    simp [Leaves,settle,results,Tryz.results33,go_sem,cr0,cr1,cr2,cr3,ce0]
    exact⟨_,rfl,⟨_,_,_,_,_,_,_,rfl,Vv.out,Fv.out,Gv.out⟩,hx⟩
   exact AllReadyH.nil
  exact AllReadyH.nil
 exact AllReadyH.nil
end Go.Proofs.YtolffmmkjnhkkaaGreat
