import Derived.Test.YtolffmmkjnhkkaaGreatQR1
namespace Go.Proofs.YtolffmmkjnhkkaaGreat
open Go.RowKit Go BigFrame
set_option maxRecDepth 100000
set_option linter.unusedSimpArgs false
set_option linter.unusedVariables false
set_option maxHeartbeats 2000000 in
theorem refR_cross {v u:Value} {r s:Rat} {i j:Nat} {w:World} (hv:RatV w v r) (hu:RatV w u s) (hr:Sz r i) (hs:Sz s j) (hij:i+j≤2048):Calls Tryz.prog 74 #[v,u] w fun e w'=>∃v u,e=.returned (.tuple #[v,u,.int .i64 0])∧BigN w' v (r.num*s.den) w.heap.size∧BigN w' u (s.num*r.den) w.heap.size∧Ext w w':=by
 have L0:=Lib.hid (And.intro (hr.lenN (by omega)) (And.intro (hr.lenD (by omega)) (And.intro (hs.lenN (by omega)) (hs.lenD (by omega)))))
 have M0:Hid (Len (r.num*s.den)):=Lib.hid (len_lt (mul_lt hr.1 hs.den) (by omega))
 have M1:Hid (Len (s.num*r.den)):=Lib.hid (len_lt (mul_lt hs.1 hr.den) (by omega))
 obtain⟨nx,ax,qx,cx,bx,kx,dx,rfl⟩:=hv.form
 obtain⟨ny,ay,qy,cy,by_,ky,dy,rfl⟩:=hu.form
 have Vx:=Lib.hid hv
 have Vy:=Lib.hid hu
 clear hv hu hr hs hij
 obtain⟨x1,hw,hx,Kx,Ky,Kr,Ks⟩:=boxQ4 w #[.bool nx,.slice ax qx cx,.bool false,.slice bx kx dx] 38 #[.bool ny,.slice ay qy cy,.bool false,.slice by_ ky dy] 38 #[.bool false,.slice none 0 0] 36 #[.bool false,.slice none 0 0] 36
 replace hw:=Lib.hid hw
 have Vx:=Lib.hid (Vx.out.ext hx)
 have Vy:=Lib.hid (Vy.out.ext hx)
 go_enter Tryz.func74,Tryz.ntmps74
 go_upto_region 1 with fail
 try simp only [Nat.add_assoc,Nat.reduceAdd,Nat.add_zero]
 rw [hw.out]
 clear hw
 have hs0:=hx.size
 obtain⟨cx0,cx1,cx2,cx3⟩:=bk4 Kx
 obtain⟨cy0,cy1,cy2,cy3⟩:=bk4 Ky
 obtain⟨cr0,cr1⟩:=bk2 Kr
 obtain⟨cs0,cs1⟩:=bk2 Ks
 have hsz:=hx.size
 go_wp2_with fail
 with_reducible refine(rMul_val Vx.out.num Vy.out.den L0.out.1 L0.out.2.2.2 M0.out).mono ?_
 clear cx0 cx1 cx2 cx3 cy0 cy1 cy2 cy3 cr0 cr1 cs0 cs1
 rintro e x2 ⟨v,rfl,hv,hy⟩
 replace hx:=hx.trans hy
 replace Kx:=kE Kx hy
 replace Ky:=kE Ky hy
 replace Kr:=kE Kr hy
 replace Ks:=kE Ks hy
 replace Vx:=Lib.hid (Vx.out.ext hy)
 replace Vy:=Lib.hid (Vy.out.ext hy)
 clear hy
 obtain⟨np,ap,qp,cp,rfl,hv',hf'⟩:=hv.two
 have Vp:=Lib.hid hv'
 have Fp:=Lib.hid (fun A hA=>Nat.le_trans hsz (hf' A hA))
 clear hv' hf' hsz
 go_upto_region 2 with fail
 have hl:=Ext.alloc x2 (.cells #[.bool np,.slice ap qp cp] 36)
 have lxp:w.heap.size<x2.heap.size:=Kx.out.lt
 have lyp:w.heap.size+1<x2.heap.size:=Ky.out.lt
 have lrp:w.heap.size+2<x2.heap.size:=Kr.out.lt
 have lsp:w.heap.size+3<x2.heap.size:=Ks.out.lt
 have hpp:w.heap.size≤x2.heap.size:=hx.size
 replace hx:=hx.trans hl
 replace Kx:=kE Kx hl
 replace Ky:=kE Ky hl
 replace Kr:=kE Kr hl
 replace Ks:=kE Ks hl
 replace Vx:=Lib.hid (Vx.out.ext hl)
 replace Vy:=Lib.hid (Vy.out.ext hl)
 replace Vp:=Lib.hid (Vp.out.ext hl)
 have Kp:=Lib.hid (Blk.new0 x2 #[.bool np,.slice ap qp cp] 36)
 clear hl
 generalize x2.alloc (.cells #[.bool np,.slice ap qp cp] 36)=x3 at *
 generalize x2.heap.size=pp at *
 obtain⟨cx0,cx1,cx2,cx3⟩:=bk4 Kx
 obtain⟨cy0,cy1,cy2,cy3⟩:=bk4 Ky
 obtain⟨cr0,cr1⟩:=bk2 Kr
 obtain⟨cs0,cs1⟩:=bk2 Ks
 obtain⟨cp0,cp1⟩:=bk2 Kp
 have hsz:=hx.size
 go_wp2_with fail
 with_reducible refine(rMul_val Vy.out.num Vx.out.den L0.out.2.2.1 L0.out.2.1 M1.out).mono ?_
 clear cx0 cx1 cx2 cx3 cy0 cy1 cy2 cy3 cr0 cr1 cs0 cs1 cp0 cp1
 rintro e x4 ⟨v,rfl,hv,hy⟩
 replace hx:=hx.trans hy
 replace Kx:=kE Kx hy
 replace Ky:=kE Ky hy
 replace Kr:=kE Kr hy
 replace Ks:=kE Ks hy
 replace Kp:=kE Kp hy
 replace Vx:=Lib.hid (Vx.out.ext hy)
 replace Vy:=Lib.hid (Vy.out.ext hy)
 replace Vp:=Lib.hid (Vp.out.ext hy)
 clear hy
 obtain⟨nq,aq,qq,cq,rfl,hv',hf'⟩:=hv.two
 have Vq:=Lib.hid hv'
 have Fq:=Lib.hid (fun A hA=>Nat.le_trans hsz (hf' A hA))
 clear hv' hf' hsz
 go_upto_region 3 with fail
 have hl:=Ext.alloc x4 (.cells #[.bool nq,.slice aq qq cq] 36)
 have lxq:w.heap.size<x4.heap.size:=Kx.out.lt
 have lyq:w.heap.size+1<x4.heap.size:=Ky.out.lt
 have lrq:w.heap.size+2<x4.heap.size:=Kr.out.lt
 have lsq:w.heap.size+3<x4.heap.size:=Ks.out.lt
 have lpq:pp<x4.heap.size:=Kp.out.lt
 have hpq:w.heap.size≤x4.heap.size:=hx.size
 replace hx:=hx.trans hl
 replace Kx:=kE Kx hl
 replace Ky:=kE Ky hl
 replace Kr:=kE Kr hl
 replace Ks:=kE Ks hl
 replace Kp:=kE Kp hl
 replace Vx:=Lib.hid (Vx.out.ext hl)
 replace Vy:=Lib.hid (Vy.out.ext hl)
 replace Vp:=Lib.hid (Vp.out.ext hl)
 replace Vq:=Lib.hid (Vq.out.ext hl)
 have Kq:=Lib.hid (Blk.new0 x4 #[.bool nq,.slice aq qq cq] 36)
 clear hl
 generalize x4.alloc (.cells #[.bool nq,.slice aq qq cq] 36)=x5 at *
 generalize x4.heap.size=pq at *
 clear Vx Vy
 clear Kx Ky
 go_upto_region 5 with fail
 have hs1:=hx.size
 have s0:World.cell? x5 ⟨pp,0,none⟩=some (.bool np):=Kp.out.cell (i:=0) rfl
 have s1:World.cell? x5 ⟨pp,1,none⟩=some (.slice ap qp cp):=Kp.out.cell (i:=1) rfl
 have s2:World.cell? x5 ⟨pq,0,none⟩=some (.bool nq):=Kq.out.cell (i:=0) rfl
 have s3:World.cell? x5 ⟨pq,1,none⟩=some (.slice aq qq cq):=Kq.out.cell (i:=1) rfl
 have hE:Ext x5 (World.drew x5):=(Ext.refl _).drew
 have hyd:Ext x5 (World.drew x5):=(Ext.refl _).drew
 replace hx:=hx.trans hyd
 replace Kr:=kE Kr hyd
 replace Ks:=kE Ks hyd
 replace Kp:=kE Kp hyd
 replace Kq:=kE Kq hyd
 replace Vp:=Lib.hid (Vp.out.ext hyd)
 replace Vq:=Lib.hid (Vq.out.ext hyd)
 clear hyd
 replace s0:World.cell? (World.drew x5) ⟨pp,0,none⟩=some (.bool np):=s0
 replace s1:World.cell? (World.drew x5) ⟨pp,1,none⟩=some (.slice ap qp cp):=s1
 replace s2:World.cell? (World.drew x5) ⟨pq,0,none⟩=some (.bool nq):=s2
 replace s3:World.cell? (World.drew x5) ⟨pq,1,none⟩=some (.slice aq qq cq):=s3
 refine wp_region_held_drew (S:=(fun w'=>World.cell? w' ⟨pp,0,none⟩=some (.bool np)∧World.cell? w' ⟨pp,1,none⟩=some (.slice ap qp cp)∧World.cell? w' ⟨pq,0,none⟩=some (.bool nq)∧World.cell? w' ⟨pq,1,none⟩=some (.slice aq qq cq))) (by kernel_rfl) ?_ (fun hHeld=>?_)
 ·exact⟨s0,s1,s2,s3⟩
 (try simp only [pur,Nat.reduceAdd])
 generalize World.drew x5=x6 at *
 refine tk (v:=?_) 0 rfl (by kernel_rfl) (fun _ _ _ h=>h) (by rfl) ?_ (by assumption) ?_
 rotate_left
 ·(intro w hSw;(try dsimp only at hSw);(try go_simp);(try with_reducible rfl))
 (try simp only [Act.put,pus])
 refine tk (v:=?_) 1 rfl (by kernel_rfl) (fun _ _ _ h=>h) (by rfl) ?_ (by assumption) ?_
 rotate_left
 ·(intro w hSw;(try dsimp only at hSw);(try go_simp);(try with_reducible rfl))
 (try simp only [Act.put,pus])
 refine wpAnyH_ready (rs:=[2]) (by kernel_rfl) (by simp) ?_
 refine AllReadyH.cons (o:=_) rfl (fun K hK=>?_) ?_
 ·obtain⟨g0,z0,g1,z1⟩:=bp2 Kr (.bool np) (.slice ap qp cp);go_simp;clear g0 z0 g1 z1;replace Vp:=(by first | exact rv2 Vp Kr (.bool np) (.slice ap qp cp) rfl rfl | exact bv2 Vp Kr (.bool np) (.slice ap qp cp) rfl rfl);replace Vq:=(by first | exact rv2 Vq Kr (.bool np) (.slice ap qp cp) rfl rfl | exact bv2 Vq Kr (.bool np) (.slice ap qp cp) rfl rfl);replace hx:=bx2 hx (w.heap.size+2) (.bool np) (.slice ap qp cp) (by omega);replace s0:=bf2 s0 (w.heap.size+2) (.bool np) (.slice ap qp cp) (by omega);replace s1:=bf2 s1 (w.heap.size+2) (.bool np) (.slice ap qp cp) (by omega);replace s2:=bf2 s2 (w.heap.size+2) (.bool np) (.slice ap qp cp) (by omega);replace s3:=bf2 s3 (w.heap.size+2) (.bool np) (.slice ap qp cp) (by omega);replace Kr:=bs2 Kr (.bool np) (.slice ap qp cp);replace Ks:=bo2 Ks (w.heap.size+2) (.bool np) (.slice ap qp cp) (by omega);replace Kp:=bo2 Kp (w.heap.size+2) (.bool np) (.slice ap qp cp) (by omega);replace Kq:=bo2 Kq (w.heap.size+2) (.bool np) (.slice ap qp cp) (by omega);clear hE;generalize (World.setCell (World.setCell x6 ⟨w.heap.size+2,0,none⟩ (.bool np)) ⟨w.heap.size+2,1,none⟩ (.slice ap qp cp))=x7 at *;have hE:=Ext.refl x7
  refine hK.out _ _ ?_ (fun hHeld2=>?_)
  ·exact⟨s0,s1,s2,s3⟩
  clear hK K hHeld
  have hHeld:=hHeld2
  clear hHeld2
  (try simp only [Act.put,pus])
  refine wpAnyH_ready (rs:=[3]) (by kernel_rfl) (by simp) ?_
  refine AllReadyH.cons (o:=_) rfl (fun K hK=>?_) ?_
  ·obtain⟨g0,z0,g1,z1⟩:=bp2 Ks (.bool nq) (.slice aq qq cq);go_simp;clear g0 z0 g1 z1;replace Vp:=(by first | exact rv2 Vp Ks (.bool nq) (.slice aq qq cq) rfl rfl | exact bv2 Vp Ks (.bool nq) (.slice aq qq cq) rfl rfl);replace Vq:=(by first | exact rv2 Vq Ks (.bool nq) (.slice aq qq cq) rfl rfl | exact bv2 Vq Ks (.bool nq) (.slice aq qq cq) rfl rfl);replace hx:=bx2 hx (w.heap.size+3) (.bool nq) (.slice aq qq cq) (by omega);replace s0:=bf2 s0 (w.heap.size+3) (.bool nq) (.slice aq qq cq) (by omega);replace s1:=bf2 s1 (w.heap.size+3) (.bool nq) (.slice aq qq cq) (by omega);replace s2:=bf2 s2 (w.heap.size+3) (.bool nq) (.slice aq qq cq) (by omega);replace s3:=bf2 s3 (w.heap.size+3) (.bool nq) (.slice aq qq cq) (by omega);replace Kr:=bo2 Kr (w.heap.size+3) (.bool nq) (.slice aq qq cq) (by omega);replace Ks:=bs2 Ks (.bool nq) (.slice aq qq cq);replace Kp:=bo2 Kp (w.heap.size+3) (.bool nq) (.slice aq qq cq) (by omega);replace Kq:=bo2 Kq (w.heap.size+3) (.bool nq) (.slice aq qq cq) (by omega);clear hE;generalize (World.setCell (World.setCell x7 ⟨w.heap.size+3,0,none⟩ (.bool nq)) ⟨w.heap.size+3,1,none⟩ (.slice aq qq cq))=x8 at *;have hE:=Ext.refl x8
   refine hK.out _ _ ?_ (fun hHeld2=>?_)
   ·exact⟨s0,s1,s2,s3⟩
   clear hK K hHeld
   have hHeld:=hHeld2
   clear hHeld2
   (try simp only [Act.put,pus])
   refine tk (v:=?_) 4 rfl (by kernel_rfl) (fun _ _ _ h=>h) (by rfl) ?_ (by assumption) ?_
   rotate_left
   ·(intro w hSw;(try dsimp only at hSw);(try go_simp);(try with_reducible rfl))
   (try simp only [Act.put,pus])
   refine wpAnyH_done (by kernel_rfl) ?_ _
   go_wp2_with fail
   obtain⟨cr0,cr1⟩:=bk2 Kr
   obtain⟨cs0,cs1⟩:=bk2 Ks
   refine bodyPost_ret (v:=.tuple #[.agg #[.bool np,.slice ap qp cp],.agg #[.bool nq,.slice aq qq cq],.int .i64 0]) (by simp [results,Tryz.results74,go_sem,cr0,cr1,cs0,cs1]) rfl ?_
   obtain⟨l,rfl,hi,hb⟩:=BigV.parts Vp.out
   obtain⟨m,rfl,hj,hc⟩:=BigV.parts Vq.out
   exact⟨_,_,rfl,⟨_,_,_,_,rfl,hi,hb,Fp.out⟩,⟨_,_,_,_,rfl,hj,hc,Fq.out⟩,hx⟩
  exact AllReadyH.nil
 exact AllReadyH.nil
set_option maxHeartbeats 2000000 in
theorem refR_over {v u t:Value} {z x y:Int} {w:World} (hv:BigV w v z) (hu:BigV w u x) (ht:BigV w t y) (lz:Len z) (lx:Len x) (ly:Len y) (lp:Len (x*y)) (h0:x*y≠0):Calls Tryz.prog 76 #[v,.int .i64 0,u,t] w (RatP (Rat.divInt z (x*y)) w):=by
 obtain⟨nz,az,qz,cz,rfl⟩:=hv.form
 obtain⟨nx,ax,qx,cx,rfl⟩:=hu.form
 obtain⟨ny,ay,qy,cy,rfl⟩:=ht.form
 have Vz:=Lib.hid hv
 have Vx:=Lib.hid hu
 have Vy:=Lib.hid ht
 have L0:=Lib.hid (And.intro lz (And.intro lx (And.intro ly (And.intro lp h0))))
 clear hv hu ht lz lx ly lp h0
 obtain⟨x1,hw,hx,Kz,Kx,Ky,Kr⟩:=boxQ4 w #[.bool nz,.slice az qz cz] 36 #[.bool nx,.slice ax qx cx] 36 #[.bool ny,.slice ay qy cy] 36 #[.bool false,.slice none 0 0,.bool false,.slice none 0 0] 38
 replace hw:=Lib.hid hw
 have Vz:=Lib.hid (Vz.out.ext hx)
 have Vx:=Lib.hid (Vx.out.ext hx)
 have Vy:=Lib.hid (Vy.out.ext hx)
 go_enter Tryz.func76,Tryz.ntmps76
 go_upto_region 1 with fail
 try simp only [Nat.add_assoc,Nat.reduceAdd,Nat.add_zero]
 rw [hw.out]
 clear hw
 have hs0:=hx.size
 obtain⟨cz0,cz1⟩:=bk2 Kz
 obtain⟨cx0,cx1⟩:=bk2 Kx
 obtain⟨cy0,cy1⟩:=bk2 Ky
 obtain⟨cr0,cr1,cr2,cr3⟩:=bk4 Kr
 have hsz:=hx.size
 go_wp2_with fail
 with_reducible refine(rMul_val Vx.out Vy.out L0.out.2.1 L0.out.2.2.1 L0.out.2.2.2.1).mono ?_
 clear cz0 cz1 cx0 cx1 cy0 cy1 cr0 cr1 cr2 cr3
 rintro e x2 ⟨v,rfl,hv,hy⟩
 replace hx:=hx.trans hy
 replace Kz:=kE Kz hy
 replace Kx:=kE Kx hy
 replace Ky:=kE Ky hy
 replace Kr:=kE Kr hy
 replace Vz:=Lib.hid (Vz.out.ext hy)
 replace Vx:=Lib.hid (Vx.out.ext hy)
 replace Vy:=Lib.hid (Vy.out.ext hy)
 clear hy
 obtain⟨np,ap,qp,cp,rfl,hv',hf'⟩:=hv.two
 have Vp:=Lib.hid hv'
 have Fp:=Lib.hid (fun A hA=>Nat.le_trans hsz (hf' A hA))
 clear hv' hf' hsz
 go_upto_region 2 with fail
 have hl:=Ext.alloc x2 (.cells #[.bool np,.slice ap qp cp] 36)
 have lzp:w.heap.size<x2.heap.size:=Kz.out.lt
 have lxp:w.heap.size+1<x2.heap.size:=Kx.out.lt
 have lyp:w.heap.size+2<x2.heap.size:=Ky.out.lt
 have lrp:w.heap.size+3<x2.heap.size:=Kr.out.lt
 have hpp:w.heap.size≤x2.heap.size:=hx.size
 replace hx:=hx.trans hl
 replace Kz:=kE Kz hl
 replace Kx:=kE Kx hl
 replace Ky:=kE Ky hl
 replace Kr:=kE Kr hl
 replace Vz:=Lib.hid (Vz.out.ext hl)
 replace Vx:=Lib.hid (Vx.out.ext hl)
 replace Vy:=Lib.hid (Vy.out.ext hl)
 replace Vp:=Lib.hid (Vp.out.ext hl)
 have Kp:=Lib.hid (Blk.new0 x2 #[.bool np,.slice ap qp cp] 36)
 clear hl
 generalize x2.alloc (.cells #[.bool np,.slice ap qp cp] 36)=x3 at *
 generalize x2.heap.size=pp at *
 clear Vx Vy
 clear Kx Ky
 obtain⟨cz0,cz1⟩:=bk2 Kz
 obtain⟨cr0,cr1,cr2,cr3⟩:=bk4 Kr
 obtain⟨cp0,cp1⟩:=bk2 Kp
 have hsz:=hx.size
 go_wp2_with fail
 with_reducible refine(rof_val Vz.out Vp.out L0.out.1 L0.out.2.2.2.1 L0.out.2.2.2.2).mono ?_
 clear cz0 cz1 cr0 cr1 cr2 cr3 cp0 cp1
 rintro e x4 ⟨v,rfl,hv,hy⟩
 replace hx:=hx.trans hy
 replace Kz:=kE Kz hy
 replace Kr:=kE Kr hy
 replace Kp:=kE Kp hy
 replace Vz:=Lib.hid (Vz.out.ext hy)
 replace Vp:=Lib.hid (Vp.out.ext hy)
 clear hy
 obtain⟨nv,av,qv,cv,bv,kv,dv,rfl,hv',hf',hg'⟩:=hv
 have Vv:=Lib.hid hv'
 have Fv:=Lib.hid (fun A hA=>Nat.le_trans hsz (hf' A hA))
 have Gv:=Lib.hid (fun A hA=>Nat.le_trans hsz (hg' A hA))
 clear hv' hf' hg' hsz
 clear Vz Vp
 obtain⟨cz0,cz1⟩:=bk2 Kz
 obtain⟨cr0,cr1,cr2,cr3⟩:=bk4 Kr
 obtain⟨cp0,cp1⟩:=bk2 Kp
 obtain⟨g0,z0,g1,z1,g2,z2,g3,z3⟩:=bp4 Kr (.bool nv) (.slice av qv cv) (.bool false) (.slice bv kv dv)
 go_wp2_with fail
 clear g0 z0 g1 z1 g2 z2 g3 z3
 clear cz0 cz1 cr0 cr1 cr2 cr3 cp0 cp1
 replace Vv:=(by first | exact rv4 Vv Kr (.bool nv) (.slice av qv cv) (.bool false) (.slice bv kv dv) rfl rfl rfl rfl | exact bv4 Vv Kr (.bool nv) (.slice av qv cv) (.bool false) (.slice bv kv dv) rfl rfl rfl rfl)
 replace hx:=bx4 hx (w.heap.size+3) (.bool nv) (.slice av qv cv) (.bool false) (.slice bv kv dv) (by omega)
 replace Kz:=bo4 Kz (w.heap.size+3) (.bool nv) (.slice av qv cv) (.bool false) (.slice bv kv dv) (by omega)
 replace Kr:=bs4 Kr (.bool nv) (.slice av qv cv) (.bool false) (.slice bv kv dv)
 replace Kp:=bo4 Kp (w.heap.size+3) (.bool nv) (.slice av qv cv) (.bool false) (.slice bv kv dv) (by omega)
 generalize ((((x4).setCell ⟨w.heap.size+3,0,none⟩ (.bool nv)).setCell ⟨w.heap.size+3,1,none⟩ (.slice av qv cv)).setCell ⟨w.heap.size+3,2,none⟩ (.bool false)).setCell ⟨w.heap.size+3,3,none⟩ (.slice bv kv dv)=x5 at *
 obtain⟨cr0,cr1,cr2,cr3⟩:=bk4 Kr
 refine bodyPost_ret (v:=.tuple #[.agg #[.bool nv,.slice av qv cv,.bool false,.slice bv kv dv],.int .i64 0]) (by simp [results,Tryz.results76,go_sem,cr0,cr1,cr2,cr3]) rfl ?_
 exact⟨_,rfl,⟨_,_,_,_,_,_,_,rfl,Vv.out,Fv.out,Gv.out⟩,hx⟩
set_option maxHeartbeats 2000000 in
theorem rAdd_valR {v u:Value} {r s:Rat} {i j:Nat} {w:World} (hv:RatV w v r) (hu:RatV w u s) (hr:Sz r i) (hs:Sz s j) (hij:i+j+1≤2048):Calls Tryz.prog 59 #[v,u] w (RatP (r+s) w):=by
 have L0:=Lib.hid (And.intro (hr.lenN (by omega)) (And.intro (hr.lenD (by omega)) (And.intro (hs.lenN (by omega)) (hs.lenD (by omega)))))
 have M0:Hid (Len ((r.den:Int)*s.den)):=Lib.hid (len_lt (mul_lt hr.den hs.den) (by omega))
 have X0:Hid (Len (r.num*s.den)):=Lib.hid (len_lt (mul_lt hr.1 hs.den) (by omega))
 have X1:Hid (Len (s.num*r.den)):=Lib.hid (len_lt (mul_lt hs.1 hr.den) (by omega))
 have M3:Hid (Len (r.num*s.den+s.num*r.den)):=Lib.hid (len_lt (add_lt (n:=i+j) (mul_lt hr.1 hs.den) (by rw [Nat.add_comm];exact mul_lt hs.1 hr.den)) (by omega))
 have HS:=Lib.hid (And.intro hr (And.intro hs (show i+j≤2048 by omega)))
 obtain⟨nx,ax,qx,cx,bx,kx,dx,rfl⟩:=hv.form
 obtain⟨ny,ay,qy,cy,by_,ky,dy,rfl⟩:=hu.form
 have Vx:=Lib.hid hv
 have Vy:=Lib.hid hu
 clear hv hu hr hs hij
 obtain⟨x1,hw,hx,Kx,Ky,Kr⟩:=boxQ3 w #[.bool nx,.slice ax qx cx,.bool false,.slice bx kx dx] 38 #[.bool ny,.slice ay qy cy,.bool false,.slice by_ ky dy] 38 #[.bool false,.slice none 0 0,.bool false,.slice none 0 0] 38
 replace hw:=Lib.hid hw
 have Vx:=Lib.hid (Vx.out.ext hx)
 have Vy:=Lib.hid (Vy.out.ext hx)
 go_enter Tryz.func59,Tryz.ntmps59
 go_upto_region 1 with fail
 try simp only [Nat.add_assoc,Nat.reduceAdd,Nat.add_zero]
 rw [hw.out]
 clear hw
 have hs0:=hx.size
 obtain⟨cx0,cx1,cx2,cx3⟩:=bk4 Kx
 obtain⟨cy0,cy1,cy2,cy3⟩:=bk4 Ky
 obtain⟨cr0,cr1,cr2,cr3⟩:=bk4 Kr
 go_wp2_with fail
 with_reducible refine(refR_valid_ok Vx.out Vy.out L0.out.1 L0.out.2.1 L0.out.2.2.1 L0.out.2.2.2).mono ?_
 clear cx0 cx1 cx2 cx3 cy0 cy1 cy2 cy3 cr0 cr1 cr2 cr3
 rintro e x2 ⟨rfl,hy⟩
 replace hx:=hx.trans hy
 replace Kx:=kE Kx hy
 replace Ky:=kE Ky hy
 replace Kr:=kE Kr hy
 replace Vx:=Lib.hid (Vx.out.ext hy)
 replace Vy:=Lib.hid (Vy.out.ext hy)
 clear hy
 obtain⟨cx0,cx1,cx2,cx3⟩:=bk4 Kx
 obtain⟨cy0,cy1,cy2,cy3⟩:=bk4 Ky
 obtain⟨cr0,cr1,cr2,cr3⟩:=bk4 Kr
 have hsz2:=hx.size
 go_wp2_with fail
 with_reducible refine(refR_cross Vx.out Vy.out HS.out.1 HS.out.2.1 HS.out.2.2).mono ?_
 clear cx0 cx1 cx2 cx3 cy0 cy1 cy2 cy3 cr0 cr1 cr2 cr3
 rintro e x3 ⟨v,u,rfl,hv,hu,hy⟩
 replace hx:=hx.trans hy
 replace Kx:=kE Kx hy
 replace Ky:=kE Ky hy
 replace Kr:=kE Kr hy
 replace Vx:=Lib.hid (Vx.out.ext hy)
 replace Vy:=Lib.hid (Vy.out.ext hy)
 clear hy
 have hsz:=hsz2
 obtain⟨np,ap,qp,cp,rfl,hv',hf'⟩:=hv.two
 have Vp:=Lib.hid hv'
 have Fp:=Lib.hid (fun A hA=>Nat.le_trans hsz (hf' A hA))
 clear hv' hf' hsz
 have hsz:=hsz2
 obtain⟨nq,aq,qq,cq,rfl,hv',hf'⟩:=hu.two
 have Vq:=Lib.hid hv'
 have Fq:=Lib.hid (fun A hA=>Nat.le_trans hsz (hf' A hA))
 clear hv' hf' hsz
 go_upto_region 4 with fail
 have hl:Ext x3 ((x3.alloc (.cells #[.bool np,.slice ap qp cp] 36)).alloc (.cells #[.bool nq,.slice aq qq cq] 36)):=(Ext.alloc _ _).alloc' _
 have lxp:w.heap.size<x3.heap.size:=Kx.out.lt
 have lyp:w.heap.size+1<x3.heap.size:=Ky.out.lt
 have lrp:w.heap.size+2<x3.heap.size:=Kr.out.lt
 have hpp:w.heap.size≤x3.heap.size:=hx.size
 replace hx:=hx.trans hl
 replace Kx:=kE Kx hl
 replace Ky:=kE Ky hl
 replace Kr:=kE Kr hl
 replace Vx:=Lib.hid (Vx.out.ext hl)
 replace Vy:=Lib.hid (Vy.out.ext hl)
 replace Vp:=Lib.hid (Vp.out.ext hl)
 replace Vq:=Lib.hid (Vq.out.ext hl)
 have Kp:=Lib.hid ((Blk.new0 x3 #[.bool np,.slice ap qp cp] 36).alloc (.cells #[.bool nq,.slice aq qq cq] 36))
 have Kq:=Lib.hid (Blk.new1 x3 (.cells #[.bool np,.slice ap qp cp] 36) #[.bool nq,.slice aq qq cq] 36)
 clear hl
 generalize (x3.alloc (.cells #[.bool np,.slice ap qp cp] 36)).alloc (.cells #[.bool nq,.slice aq qq cq] 36)=x4 at *
 generalize x3.heap.size=pp at *
 obtain⟨cx0,cx1,cx2,cx3⟩:=bk4 Kx
 obtain⟨cy0,cy1,cy2,cy3⟩:=bk4 Ky
 obtain⟨cr0,cr1,cr2,cr3⟩:=bk4 Kr
 obtain⟨cp0,cp1⟩:=bk2 Kp
 obtain⟨cq0,cq1⟩:=bk2 Kq
 have hsz:=hx.size
 go_wp2_with fail
 with_reducible refine(rAdd_val Vp.out Vq.out X0.out X1.out M3.out).mono ?_
 clear cx0 cx1 cx2 cx3 cy0 cy1 cy2 cy3 cr0 cr1 cr2 cr3 cp0 cp1 cq0 cq1
 rintro e x5 ⟨v,rfl,hv,hy⟩
 replace hx:=hx.trans hy
 replace Kx:=kE Kx hy
 replace Ky:=kE Ky hy
 replace Kr:=kE Kr hy
 replace Kp:=kE Kp hy
 replace Kq:=kE Kq hy
 replace Vx:=Lib.hid (Vx.out.ext hy)
 replace Vy:=Lib.hid (Vy.out.ext hy)
 replace Vp:=Lib.hid (Vp.out.ext hy)
 replace Vq:=Lib.hid (Vq.out.ext hy)
 clear hy
 obtain⟨nf,af,qf,cf,rfl,hv',hf'⟩:=hv.two
 have Vf:=Lib.hid hv'
 have Ff:=Lib.hid (fun A hA=>Nat.le_trans hsz (hf' A hA))
 clear hv' hf' hsz
 go_upto_region 7 with fail
 have hl:=Ext.alloc x5 (.cells #[.bool nf,.slice af qf cf] 36)
 have lxf:w.heap.size<x5.heap.size:=Kx.out.lt
 have lyf:w.heap.size+1<x5.heap.size:=Ky.out.lt
 have lrf:w.heap.size+2<x5.heap.size:=Kr.out.lt
 have lpf:pp<x5.heap.size:=Kp.out.lt
 have lqf:pp+1<x5.heap.size:=Kq.out.lt
 have hpf:w.heap.size≤x5.heap.size:=hx.size
 replace hx:=hx.trans hl
 replace Kx:=kE Kx hl
 replace Ky:=kE Ky hl
 replace Kr:=kE Kr hl
 replace Kp:=kE Kp hl
 replace Kq:=kE Kq hl
 replace Vx:=Lib.hid (Vx.out.ext hl)
 replace Vy:=Lib.hid (Vy.out.ext hl)
 replace Vp:=Lib.hid (Vp.out.ext hl)
 replace Vq:=Lib.hid (Vq.out.ext hl)
 replace Vf:=Lib.hid (Vf.out.ext hl)
 have Kf:=Lib.hid (Blk.new0 x5 #[.bool nf,.slice af qf cf] 36)
 clear hl
 generalize x5.alloc (.cells #[.bool nf,.slice af qf cf] 36)=x6 at *
 generalize x5.heap.size=pf at *
 clear Vp Vq
 clear Kp Kq
 obtain⟨cx0,cx1,cx2,cx3⟩:=bk4 Kx
 obtain⟨cy0,cy1,cy2,cy3⟩:=bk4 Ky
 obtain⟨cr0,cr1,cr2,cr3⟩:=bk4 Kr
 obtain⟨cf0,cf1⟩:=bk2 Kf
 have hsz:=hx.size
 go_wp2_with fail
 with_reducible refine(refR_over Vf.out Vx.out.den Vy.out.den M3.out L0.out.2.1 L0.out.2.2.2 M0.out (den_mul_ne r s)).mono ?_
 clear cx0 cx1 cx2 cx3 cy0 cy1 cy2 cy3 cr0 cr1 cr2 cr3 cf0 cf1
 rintro e x7 ⟨v,rfl,hv,hy⟩
 replace hx:=hx.trans hy
 replace Kx:=kE Kx hy
 replace Ky:=kE Ky hy
 replace Kr:=kE Kr hy
 replace Kf:=kE Kf hy
 replace Vx:=Lib.hid (Vx.out.ext hy)
 replace Vy:=Lib.hid (Vy.out.ext hy)
 replace Vf:=Lib.hid (Vf.out.ext hy)
 clear hy
 rw [←add_divInt] at hv
 obtain⟨nv,av,qv,cv,bv,kv,dv,rfl,hv',hf',hg'⟩:=hv
 have Vv:=Lib.hid hv'
 have Fv:=Lib.hid (fun A hA=>Nat.le_trans hsz (hf' A hA))
 have Gv:=Lib.hid (fun A hA=>Nat.le_trans hsz (hg' A hA))
 clear hv' hf' hg' hsz
 clear Vx Vy Vf
 obtain⟨cx0,cx1,cx2,cx3⟩:=bk4 Kx
 obtain⟨cy0,cy1,cy2,cy3⟩:=bk4 Ky
 obtain⟨cr0,cr1,cr2,cr3⟩:=bk4 Kr
 obtain⟨cf0,cf1⟩:=bk2 Kf
 obtain⟨g0,z0,g1,z1,g2,z2,g3,z3⟩:=bp4 Kr (.bool nv) (.slice av qv cv) (.bool false) (.slice bv kv dv)
 go_wp2_with fail
 clear g0 z0 g1 z1 g2 z2 g3 z3
 clear cx0 cx1 cx2 cx3 cy0 cy1 cy2 cy3 cr0 cr1 cr2 cr3 cf0 cf1
 replace Vv:=(by first | exact rv4 Vv Kr (.bool nv) (.slice av qv cv) (.bool false) (.slice bv kv dv) rfl rfl rfl rfl | exact bv4 Vv Kr (.bool nv) (.slice av qv cv) (.bool false) (.slice bv kv dv) rfl rfl rfl rfl)
 replace hx:=bx4 hx (w.heap.size+2) (.bool nv) (.slice av qv cv) (.bool false) (.slice bv kv dv) (by omega)
 replace Kx:=bo4 Kx (w.heap.size+2) (.bool nv) (.slice av qv cv) (.bool false) (.slice bv kv dv) (by omega)
 replace Ky:=bo4 Ky (w.heap.size+2) (.bool nv) (.slice av qv cv) (.bool false) (.slice bv kv dv) (by omega)
 replace Kr:=bs4 Kr (.bool nv) (.slice av qv cv) (.bool false) (.slice bv kv dv)
 replace Kf:=bo4 Kf (w.heap.size+2) (.bool nv) (.slice av qv cv) (.bool false) (.slice bv kv dv) (by omega)
 generalize ((((x7).setCell ⟨w.heap.size+2,0,none⟩ (.bool nv)).setCell ⟨w.heap.size+2,1,none⟩ (.slice av qv cv)).setCell ⟨w.heap.size+2,2,none⟩ (.bool false)).setCell ⟨w.heap.size+2,3,none⟩ (.slice bv kv dv)=x8 at *
 obtain⟨cr0,cr1,cr2,cr3⟩:=bk4 Kr
 refine bodyPost_ret (v:=.tuple #[.agg #[.bool nv,.slice av qv cv,.bool false,.slice bv kv dv],.int .i64 0]) (by simp [results,Tryz.results59,go_sem,cr0,cr1,cr2,cr3]) rfl ?_
 exact⟨_,rfl,⟨_,_,_,_,_,_,_,rfl,Vv.out,Fv.out,Gv.out⟩,hx⟩
set_option maxHeartbeats 2000000 in
theorem rSub_valR {v u:Value} {r s:Rat} {i j:Nat} {w:World} (hv:RatV w v r) (hu:RatV w u s) (hr:Sz r i) (hs:Sz s j) (hij:i+j+1≤2048):Calls Tryz.prog 54 #[v,u] w (RatP (r - s) w):=by
 have L0:=Lib.hid (And.intro (hr.lenN (by omega)) (And.intro (hr.lenD (by omega)) (And.intro (hs.lenN (by omega)) (hs.lenD (by omega)))))
 have M0:Hid (Len ((r.den:Int)*s.den)):=Lib.hid (len_lt (mul_lt hr.den hs.den) (by omega))
 have X0:Hid (Len (r.num*s.den)):=Lib.hid (len_lt (mul_lt hr.1 hs.den) (by omega))
 have X1:Hid (Len (s.num*r.den)):=Lib.hid (len_lt (mul_lt hs.1 hr.den) (by omega))
 have M3:Hid (Len (r.num*s.den - s.num*r.den)):=Lib.hid (len_lt (sub_lt (n:=i+j) (mul_lt hr.1 hs.den) (by rw [Nat.add_comm];exact mul_lt hs.1 hr.den)) (by omega))
 have HS:=Lib.hid (And.intro hr (And.intro hs (show i+j≤2048 by omega)))
 obtain⟨nx,ax,qx,cx,bx,kx,dx,rfl⟩:=hv.form
 obtain⟨ny,ay,qy,cy,by_,ky,dy,rfl⟩:=hu.form
 have Vx:=Lib.hid hv
 have Vy:=Lib.hid hu
 clear hv hu hr hs hij
 obtain⟨x1,hw,hx,Kx,Ky,Kr⟩:=boxQ3 w #[.bool nx,.slice ax qx cx,.bool false,.slice bx kx dx] 38 #[.bool ny,.slice ay qy cy,.bool false,.slice by_ ky dy] 38 #[.bool false,.slice none 0 0,.bool false,.slice none 0 0] 38
 replace hw:=Lib.hid hw
 have Vx:=Lib.hid (Vx.out.ext hx)
 have Vy:=Lib.hid (Vy.out.ext hx)
 go_enter Tryz.func54,Tryz.ntmps54
 go_upto_region 1 with fail
 try simp only [Nat.add_assoc,Nat.reduceAdd,Nat.add_zero]
 rw [hw.out]
 clear hw
 have hs0:=hx.size
 obtain⟨cx0,cx1,cx2,cx3⟩:=bk4 Kx
 obtain⟨cy0,cy1,cy2,cy3⟩:=bk4 Ky
 obtain⟨cr0,cr1,cr2,cr3⟩:=bk4 Kr
 go_wp2_with fail
 with_reducible refine(refR_valid_ok Vx.out Vy.out L0.out.1 L0.out.2.1 L0.out.2.2.1 L0.out.2.2.2).mono ?_
 clear cx0 cx1 cx2 cx3 cy0 cy1 cy2 cy3 cr0 cr1 cr2 cr3
 rintro e x2 ⟨rfl,hy⟩
 replace hx:=hx.trans hy
 replace Kx:=kE Kx hy
 replace Ky:=kE Ky hy
 replace Kr:=kE Kr hy
 replace Vx:=Lib.hid (Vx.out.ext hy)
 replace Vy:=Lib.hid (Vy.out.ext hy)
 clear hy
 obtain⟨cx0,cx1,cx2,cx3⟩:=bk4 Kx
 obtain⟨cy0,cy1,cy2,cy3⟩:=bk4 Ky
 obtain⟨cr0,cr1,cr2,cr3⟩:=bk4 Kr
 have hsz2:=hx.size
 go_wp2_with fail
 with_reducible refine(refR_cross Vx.out Vy.out HS.out.1 HS.out.2.1 HS.out.2.2).mono ?_
 clear cx0 cx1 cx2 cx3 cy0 cy1 cy2 cy3 cr0 cr1 cr2 cr3
 rintro e x3 ⟨v,u,rfl,hv,hu,hy⟩
 replace hx:=hx.trans hy
 replace Kx:=kE Kx hy
 replace Ky:=kE Ky hy
 replace Kr:=kE Kr hy
 replace Vx:=Lib.hid (Vx.out.ext hy)
 replace Vy:=Lib.hid (Vy.out.ext hy)
 clear hy
 have hsz:=hsz2
 obtain⟨np,ap,qp,cp,rfl,hv',hf'⟩:=hv.two
 have Vp:=Lib.hid hv'
 have Fp:=Lib.hid (fun A hA=>Nat.le_trans hsz (hf' A hA))
 clear hv' hf' hsz
 have hsz:=hsz2
 obtain⟨nq,aq,qq,cq,rfl,hv',hf'⟩:=hu.two
 have Vq:=Lib.hid hv'
 have Fq:=Lib.hid (fun A hA=>Nat.le_trans hsz (hf' A hA))
 clear hv' hf' hsz
 go_upto_region 4 with fail
 have hl:Ext x3 ((x3.alloc (.cells #[.bool np,.slice ap qp cp] 36)).alloc (.cells #[.bool nq,.slice aq qq cq] 36)):=(Ext.alloc _ _).alloc' _
 have lxp:w.heap.size<x3.heap.size:=Kx.out.lt
 have lyp:w.heap.size+1<x3.heap.size:=Ky.out.lt
 have lrp:w.heap.size+2<x3.heap.size:=Kr.out.lt
 have hpp:w.heap.size≤x3.heap.size:=hx.size
 replace hx:=hx.trans hl
 replace Kx:=kE Kx hl
 replace Ky:=kE Ky hl
 replace Kr:=kE Kr hl
 replace Vx:=Lib.hid (Vx.out.ext hl)
 replace Vy:=Lib.hid (Vy.out.ext hl)
 replace Vp:=Lib.hid (Vp.out.ext hl)
 replace Vq:=Lib.hid (Vq.out.ext hl)
 have Kp:=Lib.hid ((Blk.new0 x3 #[.bool np,.slice ap qp cp] 36).alloc (.cells #[.bool nq,.slice aq qq cq] 36))
 have Kq:=Lib.hid (Blk.new1 x3 (.cells #[.bool np,.slice ap qp cp] 36) #[.bool nq,.slice aq qq cq] 36)
 clear hl
 generalize (x3.alloc (.cells #[.bool np,.slice ap qp cp] 36)).alloc (.cells #[.bool nq,.slice aq qq cq] 36)=x4 at *
 generalize x3.heap.size=pp at *
 obtain⟨cx0,cx1,cx2,cx3⟩:=bk4 Kx
 obtain⟨cy0,cy1,cy2,cy3⟩:=bk4 Ky
 obtain⟨cr0,cr1,cr2,cr3⟩:=bk4 Kr
 obtain⟨cp0,cp1⟩:=bk2 Kp
 obtain⟨cq0,cq1⟩:=bk2 Kq
 have hsz:=hx.size
 go_wp2_with fail
 with_reducible refine(rSub_val Vp.out Vq.out X0.out X1.out M3.out).mono ?_
 clear cx0 cx1 cx2 cx3 cy0 cy1 cy2 cy3 cr0 cr1 cr2 cr3 cp0 cp1 cq0 cq1
 rintro e x5 ⟨v,rfl,hv,hy⟩
 replace hx:=hx.trans hy
 replace Kx:=kE Kx hy
 replace Ky:=kE Ky hy
 replace Kr:=kE Kr hy
 replace Kp:=kE Kp hy
 replace Kq:=kE Kq hy
 replace Vx:=Lib.hid (Vx.out.ext hy)
 replace Vy:=Lib.hid (Vy.out.ext hy)
 replace Vp:=Lib.hid (Vp.out.ext hy)
 replace Vq:=Lib.hid (Vq.out.ext hy)
 clear hy
 obtain⟨nf,af,qf,cf,rfl,hv',hf'⟩:=hv.two
 have Vf:=Lib.hid hv'
 have Ff:=Lib.hid (fun A hA=>Nat.le_trans hsz (hf' A hA))
 clear hv' hf' hsz
 go_upto_region 7 with fail
 have hl:=Ext.alloc x5 (.cells #[.bool nf,.slice af qf cf] 36)
 have lxf:w.heap.size<x5.heap.size:=Kx.out.lt
 have lyf:w.heap.size+1<x5.heap.size:=Ky.out.lt
 have lrf:w.heap.size+2<x5.heap.size:=Kr.out.lt
 have lpf:pp<x5.heap.size:=Kp.out.lt
 have lqf:pp+1<x5.heap.size:=Kq.out.lt
 have hpf:w.heap.size≤x5.heap.size:=hx.size
 replace hx:=hx.trans hl
 replace Kx:=kE Kx hl
 replace Ky:=kE Ky hl
 replace Kr:=kE Kr hl
 replace Kp:=kE Kp hl
 replace Kq:=kE Kq hl
 replace Vx:=Lib.hid (Vx.out.ext hl)
 replace Vy:=Lib.hid (Vy.out.ext hl)
 replace Vp:=Lib.hid (Vp.out.ext hl)
 replace Vq:=Lib.hid (Vq.out.ext hl)
 replace Vf:=Lib.hid (Vf.out.ext hl)
 have Kf:=Lib.hid (Blk.new0 x5 #[.bool nf,.slice af qf cf] 36)
 clear hl
 generalize x5.alloc (.cells #[.bool nf,.slice af qf cf] 36)=x6 at *
 generalize x5.heap.size=pf at *
 clear Vp Vq
 clear Kp Kq
 obtain⟨cx0,cx1,cx2,cx3⟩:=bk4 Kx
 obtain⟨cy0,cy1,cy2,cy3⟩:=bk4 Ky
 obtain⟨cr0,cr1,cr2,cr3⟩:=bk4 Kr
 obtain⟨cf0,cf1⟩:=bk2 Kf
 have hsz:=hx.size
 go_wp2_with fail
 with_reducible refine(refR_over Vf.out Vx.out.den Vy.out.den M3.out L0.out.2.1 L0.out.2.2.2 M0.out (den_mul_ne r s)).mono ?_
 clear cx0 cx1 cx2 cx3 cy0 cy1 cy2 cy3 cr0 cr1 cr2 cr3 cf0 cf1
 rintro e x7 ⟨v,rfl,hv,hy⟩
 replace hx:=hx.trans hy
 replace Kx:=kE Kx hy
 replace Ky:=kE Ky hy
 replace Kr:=kE Kr hy
 replace Kf:=kE Kf hy
 replace Vx:=Lib.hid (Vx.out.ext hy)
 replace Vy:=Lib.hid (Vy.out.ext hy)
 replace Vf:=Lib.hid (Vf.out.ext hy)
 clear hy
 rw [←sub_divInt] at hv
 obtain⟨nv,av,qv,cv,bv,kv,dv,rfl,hv',hf',hg'⟩:=hv
 have Vv:=Lib.hid hv'
 have Fv:=Lib.hid (fun A hA=>Nat.le_trans hsz (hf' A hA))
 have Gv:=Lib.hid (fun A hA=>Nat.le_trans hsz (hg' A hA))
 clear hv' hf' hg' hsz
 clear Vx Vy Vf
 obtain⟨cx0,cx1,cx2,cx3⟩:=bk4 Kx
 obtain⟨cy0,cy1,cy2,cy3⟩:=bk4 Ky
 obtain⟨cr0,cr1,cr2,cr3⟩:=bk4 Kr
 obtain⟨cf0,cf1⟩:=bk2 Kf
 obtain⟨g0,z0,g1,z1,g2,z2,g3,z3⟩:=bp4 Kr (.bool nv) (.slice av qv cv) (.bool false) (.slice bv kv dv)
 go_wp2_with fail
 clear g0 z0 g1 z1 g2 z2 g3 z3
 clear cx0 cx1 cx2 cx3 cy0 cy1 cy2 cy3 cr0 cr1 cr2 cr3 cf0 cf1
 replace Vv:=(by first | exact rv4 Vv Kr (.bool nv) (.slice av qv cv) (.bool false) (.slice bv kv dv) rfl rfl rfl rfl | exact bv4 Vv Kr (.bool nv) (.slice av qv cv) (.bool false) (.slice bv kv dv) rfl rfl rfl rfl)
 replace hx:=bx4 hx (w.heap.size+2) (.bool nv) (.slice av qv cv) (.bool false) (.slice bv kv dv) (by omega)
 replace Kx:=bo4 Kx (w.heap.size+2) (.bool nv) (.slice av qv cv) (.bool false) (.slice bv kv dv) (by omega)
 replace Ky:=bo4 Ky (w.heap.size+2) (.bool nv) (.slice av qv cv) (.bool false) (.slice bv kv dv) (by omega)
 replace Kr:=bs4 Kr (.bool nv) (.slice av qv cv) (.bool false) (.slice bv kv dv)
 replace Kf:=bo4 Kf (w.heap.size+2) (.bool nv) (.slice av qv cv) (.bool false) (.slice bv kv dv) (by omega)
 generalize ((((x7).setCell ⟨w.heap.size+2,0,none⟩ (.bool nv)).setCell ⟨w.heap.size+2,1,none⟩ (.slice av qv cv)).setCell ⟨w.heap.size+2,2,none⟩ (.bool false)).setCell ⟨w.heap.size+2,3,none⟩ (.slice bv kv dv)=x8 at *
 obtain⟨cr0,cr1,cr2,cr3⟩:=bk4 Kr
 refine bodyPost_ret (v:=.tuple #[.agg #[.bool nv,.slice av qv cv,.bool false,.slice bv kv dv],.int .i64 0]) (by simp [results,Tryz.results54,go_sem,cr0,cr1,cr2,cr3]) rfl ?_
 exact⟨_,rfl,⟨_,_,_,_,_,_,_,rfl,Vv.out,Fv.out,Gv.out⟩,hx⟩
set_option maxHeartbeats 2000000 in
theorem rQuo_valR {v u:Value} {r s:Rat} {i j:Nat} {w:World} (hv:RatV w v r) (hu:RatV w u s) (hr:Sz r i) (hs:Sz s j) (hij:i+j≤2048) (h0:s≠0):Calls Tryz.prog 60 #[v,u] w (RatP (r / s) w):=by
 have L0:=Lib.hid (And.intro (hr.lenN (by omega)) (And.intro (hr.lenD (by omega)) (And.intro (hs.lenN (by omega)) (hs.lenD (by omega)))))
 have M0:Hid (Len (r.num*s.den)):=Lib.hid (len_lt (mul_lt hr.1 hs.den) (by omega))
 have M1:Hid (Len ((r.den:Int)*s.num)):=Lib.hid (len_lt (mul_lt hr.den hs.1) (by omega))
 have H0:=Lib.hid h0
 clear h0
 have HS:=Lib.hid (And.intro hr (And.intro hs (show i+j≤2048 by omega)))
 obtain⟨nx,ax,qx,cx,bx,kx,dx,rfl⟩:=hv.form
 obtain⟨ny,ay,qy,cy,by_,ky,dy,rfl⟩:=hu.form
 have Vx:=Lib.hid hv
 have Vy:=Lib.hid hu
 clear hv hu hr hs hij
 obtain⟨x1,hw,hx,Kx,Ky,Kr⟩:=boxQ3 w #[.bool nx,.slice ax qx cx,.bool false,.slice bx kx dx] 38 #[.bool ny,.slice ay qy cy,.bool false,.slice by_ ky dy] 38 #[.bool false,.slice none 0 0,.bool false,.slice none 0 0] 38
 replace hw:=Lib.hid hw
 have Vx:=Lib.hid (Vx.out.ext hx)
 have Vy:=Lib.hid (Vy.out.ext hx)
 go_enter Tryz.func60,Tryz.ntmps60
 go_upto_region 1 with fail
 try simp only [Nat.add_assoc,Nat.reduceAdd,Nat.add_zero]
 rw [hw.out]
 clear hw
 have hs0:=hx.size
 obtain⟨cx0,cx1,cx2,cx3⟩:=bk4 Kx
 obtain⟨cy0,cy1,cy2,cy3⟩:=bk4 Ky
 obtain⟨cr0,cr1,cr2,cr3⟩:=bk4 Kr
 go_wp2_with fail
 with_reducible refine(refR_valid_ok Vx.out Vy.out L0.out.1 L0.out.2.1 L0.out.2.2.1 L0.out.2.2.2).mono ?_
 clear cx0 cx1 cx2 cx3 cy0 cy1 cy2 cy3 cr0 cr1 cr2 cr3
 rintro e x2 ⟨rfl,hy⟩
 replace hx:=hx.trans hy
 replace Kx:=kE Kx hy
 replace Ky:=kE Ky hy
 replace Kr:=kE Kr hy
 replace Vx:=Lib.hid (Vx.out.ext hy)
 replace Vy:=Lib.hid (Vy.out.ext hy)
 clear hy
 have hq0:0<qy∧qy≤9223372036854775807:=⟨Nat.pos_of_ne_zero (fun e=>H0.out (Vy.out.num_len.1 e)),Vy.out.num.le⟩
 have HQ:=Lib.hid hq0
 clear hq0
 obtain⟨cx0,cx1,cx2,cx3⟩:=bk4 Kx
 obtain⟨cy0,cy1,cy2,cy3⟩:=bk4 Ky
 obtain⟨cr0,cr1,cr2,cr3⟩:=bk4 Kr
 go_wp2_with fail
 with_reducible refine(refR_zero_no _ _ _ _ _ HQ.out).mono ?_
 clear cx0 cx1 cx2 cx3 cy0 cy1 cy2 cy3 cr0 cr1 cr2 cr3
 rintro e x3 ⟨rfl,hy⟩
 replace hx:=hx.trans hy
 replace Kx:=kE Kx hy
 replace Ky:=kE Ky hy
 replace Kr:=kE Kr hy
 replace Vx:=Lib.hid (Vx.out.ext hy)
 replace Vy:=Lib.hid (Vy.out.ext hy)
 clear hy
 obtain⟨cx0,cx1,cx2,cx3⟩:=bk4 Kx
 obtain⟨cy0,cy1,cy2,cy3⟩:=bk4 Ky
 obtain⟨cr0,cr1,cr2,cr3⟩:=bk4 Kr
 have hsz:=hx.size
 go_wp2_with fail
 with_reducible refine(rMul_val Vx.out.num Vy.out.den L0.out.1 L0.out.2.2.2 M0.out).mono ?_
 clear cx0 cx1 cx2 cx3 cy0 cy1 cy2 cy3 cr0 cr1 cr2 cr3
 rintro e x4 ⟨v,rfl,hv,hy⟩
 replace hx:=hx.trans hy
 replace Kx:=kE Kx hy
 replace Ky:=kE Ky hy
 replace Kr:=kE Kr hy
 replace Vx:=Lib.hid (Vx.out.ext hy)
 replace Vy:=Lib.hid (Vy.out.ext hy)
 clear hy
 obtain⟨nf,af,qf,cf,rfl,hv',hf'⟩:=hv.two
 have Vf:=Lib.hid hv'
 have Ff:=Lib.hid (fun A hA=>Nat.le_trans hsz (hf' A hA))
 clear hv' hf' hsz
 go_upto_region 6 with fail
 have hl:=Ext.alloc x4 (.cells #[.bool nf,.slice af qf cf] 36)
 have lxf:w.heap.size<x4.heap.size:=Kx.out.lt
 have lyf:w.heap.size+1<x4.heap.size:=Ky.out.lt
 have lrf:w.heap.size+2<x4.heap.size:=Kr.out.lt
 have hpf:w.heap.size≤x4.heap.size:=hx.size
 replace hx:=hx.trans hl
 replace Kx:=kE Kx hl
 replace Ky:=kE Ky hl
 replace Kr:=kE Kr hl
 replace Vx:=Lib.hid (Vx.out.ext hl)
 replace Vy:=Lib.hid (Vy.out.ext hl)
 replace Vf:=Lib.hid (Vf.out.ext hl)
 have Kf:=Lib.hid (Blk.new0 x4 #[.bool nf,.slice af qf cf] 36)
 clear hl
 generalize x4.alloc (.cells #[.bool nf,.slice af qf cf] 36)=x5 at *
 generalize x4.heap.size=pf at *
 obtain⟨cx0,cx1,cx2,cx3⟩:=bk4 Kx
 obtain⟨cy0,cy1,cy2,cy3⟩:=bk4 Ky
 obtain⟨cr0,cr1,cr2,cr3⟩:=bk4 Kr
 obtain⟨cf0,cf1⟩:=bk2 Kf
 have hsz:=hx.size
 go_wp2_with fail
 with_reducible refine(refR_over Vf.out Vx.out.den Vy.out.num M0.out L0.out.2.1 L0.out.2.2.1 M1.out (quo_den_ne r H0.out)).mono ?_
 clear cx0 cx1 cx2 cx3 cy0 cy1 cy2 cy3 cr0 cr1 cr2 cr3 cf0 cf1
 rintro e x6 ⟨v,rfl,hv,hy⟩
 replace hx:=hx.trans hy
 replace Kx:=kE Kx hy
 replace Ky:=kE Ky hy
 replace Kr:=kE Kr hy
 replace Kf:=kE Kf hy
 replace Vx:=Lib.hid (Vx.out.ext hy)
 replace Vy:=Lib.hid (Vy.out.ext hy)
 replace Vf:=Lib.hid (Vf.out.ext hy)
 clear hy
 rw [←quo_divInt] at hv
 obtain⟨nv,av,qv,cv,bv,kv,dv,rfl,hv',hf',hg'⟩:=hv
 have Vv:=Lib.hid hv'
 have Fv:=Lib.hid (fun A hA=>Nat.le_trans hsz (hf' A hA))
 have Gv:=Lib.hid (fun A hA=>Nat.le_trans hsz (hg' A hA))
 clear hv' hf' hg' hsz
 clear Vx Vy Vf
 obtain⟨cx0,cx1,cx2,cx3⟩:=bk4 Kx
 obtain⟨cy0,cy1,cy2,cy3⟩:=bk4 Ky
 obtain⟨cr0,cr1,cr2,cr3⟩:=bk4 Kr
 obtain⟨cf0,cf1⟩:=bk2 Kf
 obtain⟨g0,z0,g1,z1,g2,z2,g3,z3⟩:=bp4 Kr (.bool nv) (.slice av qv cv) (.bool false) (.slice bv kv dv)
 go_wp2_with fail
 clear g0 z0 g1 z1 g2 z2 g3 z3
 clear cx0 cx1 cx2 cx3 cy0 cy1 cy2 cy3 cr0 cr1 cr2 cr3 cf0 cf1
 replace Vv:=(by first | exact rv4 Vv Kr (.bool nv) (.slice av qv cv) (.bool false) (.slice bv kv dv) rfl rfl rfl rfl | exact bv4 Vv Kr (.bool nv) (.slice av qv cv) (.bool false) (.slice bv kv dv) rfl rfl rfl rfl)
 replace hx:=bx4 hx (w.heap.size+2) (.bool nv) (.slice av qv cv) (.bool false) (.slice bv kv dv) (by omega)
 replace Kx:=bo4 Kx (w.heap.size+2) (.bool nv) (.slice av qv cv) (.bool false) (.slice bv kv dv) (by omega)
 replace Ky:=bo4 Ky (w.heap.size+2) (.bool nv) (.slice av qv cv) (.bool false) (.slice bv kv dv) (by omega)
 replace Kr:=bs4 Kr (.bool nv) (.slice av qv cv) (.bool false) (.slice bv kv dv)
 replace Kf:=bo4 Kf (w.heap.size+2) (.bool nv) (.slice av qv cv) (.bool false) (.slice bv kv dv) (by omega)
 generalize ((((x6).setCell ⟨w.heap.size+2,0,none⟩ (.bool nv)).setCell ⟨w.heap.size+2,1,none⟩ (.slice av qv cv)).setCell ⟨w.heap.size+2,2,none⟩ (.bool false)).setCell ⟨w.heap.size+2,3,none⟩ (.slice bv kv dv)=x7 at *
 obtain⟨cr0,cr1,cr2,cr3⟩:=bk4 Kr
 refine bodyPost_ret (v:=.tuple #[.agg #[.bool nv,.slice av qv cv,.bool false,.slice bv kv dv],.int .i64 0]) (by simp [results,Tryz.results60,go_sem,cr0,cr1,cr2,cr3]) rfl ?_
 exact⟨_,rfl,⟨_,_,_,_,_,_,_,rfl,Vv.out,Fv.out,Gv.out⟩,hx⟩
theorem rcheckR_val {v:Value} {r:Rat} {w:World} (hv:RatV w v r) (l1:Len r.num) (l2:Len (r.den:Int)):Calls Tryz.prog 22 #[v] w fun e w'=>e=.returned (.int .i64 0)∧Ext w w':=by
 obtain⟨nx,ax,qx,cx,bx,kx,dx,rfl⟩:=hv.form
 obtain⟨l,rfl,hi,hb⟩:=hv.num.parts
 obtain⟨m,rfl,hj,hc⟩:=hv.den.parts
 have:=refR_Check nx false ax bx cx dx l m w hi hj
 rw [big_okR hb hc l1 l2] at this
 exact this
end Go.Proofs.YtolffmmkjnhkkaaGreat
namespace Go.Proofs.YtolffmmkjnhkkaaGreat
open Go.RowKit Go BigFrame
set_option maxRecDepth 100000
set_option linter.unusedSimpArgs false
set_option linter.unusedVariables false
end Go.Proofs.YtolffmmkjnhkkaaGreat
