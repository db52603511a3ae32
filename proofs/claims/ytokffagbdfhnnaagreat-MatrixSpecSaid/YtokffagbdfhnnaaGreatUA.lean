import Derived.Test.YtokffagbdfhnnaaGreatU9
import Derived.OwnWalk
import Derived.Deep.QuietTactic
namespace Go.Proofs.YtokffagbdfhnnaaGreat
open Go.RowKit Go BigFrame Go.Shelf
set_option maxRecDepth 100000
set_option linter.unusedSimpArgs false
set_option linter.unusedVariables false
attribute [local go_sem] Oper.semAt_some
set_option maxHeartbeats 4000000 in
theorem matrix_Apply1 (ns:Bool) (as_:Option Addr) (qs cs:Nat) (ms:Bool) (bs:Option Addr) (ks ds:Nat) (nu:Bool) (au:Option Addr) (qu cu:Nat) (mu:Bool) (bu:Option Addr) (ku du:Nat) (nv:Bool) (av:Option Addr) (qv cv:Nat) (mv:Bool) (bv:Option Addr) (kv dv:Nat)
 (s u v:Rat) (i j k:Nat) (w:World) (hs:RatV w (.agg #[.bool ns,.slice as_ qs cs,.bool ms,.slice bs ks ds]) s) (hu:RatV w (.agg #[.bool nu,.slice au qu cu,.bool mu,.slice bu ku du]) u) (hv:RatV w (.agg #[.bool nv,.slice av qv cv,.bool mv,.slice bv kv dv]) v)
 (zs:Sz s i) (zu:Sz u j) (zv:Sz v k) (hz:i+ (j+k)+1≤2048):
 Calls Tryz.prog 39 #[.agg #[.bool ns,.slice as_ qs cs,.bool ms,.slice bs ks ds],.agg #[.bool nu,.slice au qu cu,.bool mu,.slice bu ku du],.agg #[.bool nv,.slice av qv cv,.bool mv,.slice bv kv dv]] w (RatU (s+u*v) w):=by
 have VS:=Lib.hid hs
 have VU:=Lib.hid hu
 have VV:=Lib.hid hv
 have ZS:=Lib.hid zs
 have ZU:=Lib.hid zu
 have ZV:=Lib.hid zv
 clear hs hu hv zs zu zv
 obtain⟨x1,hw,hx,Ks,Ku,Kv,Kr⟩:=boxQ4 w #[.bool ns,.slice as_ qs cs,.bool ms,.slice bs ks ds] 44 #[.bool nu,.slice au qu cu,.bool mu,.slice bu ku du] 44 #[.bool nv,.slice av qv cv,.bool mv,.slice bv kv dv] 44 #[.bool false,.slice none 0 0,.bool false,.slice none 0 0] 44
 replace hw:=Lib.hid hw
 go_enter Tryz.func39,Tryz.ntmps39
 go_upto_region 1 with fail
 try simp only [Nat.add_assoc,Nat.reduceAdd,Nat.add_zero]
 rw [hw.out]
 clear hw
 have hs0:=hx.size
 replace VS:=Lib.hid (VS.out.ext hx)
 replace VU:=Lib.hid (VU.out.ext hx)
 replace VV:=Lib.hid (VV.out.ext hx)
 obtain⟨cu0,cu1,cu2,cu3⟩:=bk4 Ku
 obtain⟨cv0,cv1,cv2,cv3⟩:=bk4 Kv
 have hsz:=hx.size
 go_wp2_with fail
 with_reducible refine(ratio_Mul VU.out VV.out ZU.out ZV.out (by omega)).mono ?_
 clear cu0 cu1 cu2 cu3 cv0 cv1 cv2 cv3
 rintro e x2 ⟨v9,rfl,hv,hy⟩
 replace hx:=hx.trans hy
 replace Ks:=kE Ks hy
 replace Ku:=kE Ku hy
 replace Kv:=kE Kv hy
 replace Kr:=kE Kr hy
 replace VS:=Lib.hid (VS.out.ext hy)
 replace VU:=Lib.hid (VU.out.ext hy)
 replace VV:=Lib.hid (VV.out.ext hy)
 clear hy
 obtain⟨np,ap,qp,cp,bp,kp,dp,rfl,hv',hf',hg'⟩:=hv
 have Vp:=Lib.hid hv'
 have Fp:=Lib.hid (fun A hA=>Nat.le_trans hsz (hf' A hA))
 have Gp:=Lib.hid (fun A hA=>Nat.le_trans hsz (hg' A hA))
 clear hv' hf' hg' hsz
 go_upto_region 2 with fail
 have hl:=Ext.alloc x2 (.cells #[.bool np,.slice ap qp cp,.bool false,.slice bp kp dp] 44)
 have lsq:w.heap.size<x2.heap.size:=Ks.out.lt
 have luq:w.heap.size+1<x2.heap.size:=Ku.out.lt
 have lvq:w.heap.size+2<x2.heap.size:=Kv.out.lt
 have lrq:w.heap.size+3<x2.heap.size:=Kr.out.lt
 have hpq:w.heap.size≤x2.heap.size:=hx.size
 replace hx:=hx.trans hl
 replace Ks:=kE Ks hl
 replace Ku:=kE Ku hl
 replace Kv:=kE Kv hl
 replace Kr:=kE Kr hl
 replace VS:=Lib.hid (VS.out.ext hl)
 replace VU:=Lib.hid (VU.out.ext hl)
 replace VV:=Lib.hid (VV.out.ext hl)
 replace Vp:=Lib.hid (Vp.out.ext hl)
 have Kq:=Lib.hid (Blk.new0 x2 #[.bool np,.slice ap qp cp,.bool false,.slice bp kp dp] 44)
 clear hl
 generalize x2.alloc (.cells #[.bool np,.slice ap qp cp,.bool false,.slice bp kp dp] 44)=x3 at *
 generalize x2.heap.size=pq at *
 obtain⟨cs0,cs1,cs2,cs3⟩:=bk4 Ks
 obtain⟨cq0,cq1,cq2,cq3⟩:=bk4 Kq
 have hsz:=hx.size
 go_wp2_with fail
 with_reducible refine(ratio_Add VS.out Vp.out ZS.out (ZU.out.mul ZV.out) (by omega)).mono ?_
 clear cs0 cs1 cs2 cs3 cq0 cq1 cq2 cq3
 rintro e x4 ⟨v9,rfl,hv,hy⟩
 replace hx:=hx.trans hy
 replace Ks:=kE Ks hy
 replace Ku:=kE Ku hy
 replace Kv:=kE Kv hy
 replace Kr:=kE Kr hy
 replace Kq:=kE Kq hy
 replace VS:=Lib.hid (VS.out.ext hy)
 replace VU:=Lib.hid (VU.out.ext hy)
 replace VV:=Lib.hid (VV.out.ext hy)
 replace Vp:=Lib.hid (Vp.out.ext hy)
 clear hy
 obtain⟨nx,ax,qx,cx,bx,kx,dx,rfl,hv',hf',hg'⟩:=hv
 have Vx:=Lib.hid hv'
 have Fx:=Lib.hid (fun A hA=>Nat.le_trans hsz (hf' A hA))
 have Gx:=Lib.hid (fun A hA=>Nat.le_trans hsz (hg' A hA))
 clear hv' hf' hg' hsz
 obtain⟨g0,z0,g1,z1,g2,z2,g3,z3⟩:=bp4 Ks (.bool nx) (.slice ax qx cx) (.bool false) (.slice bx kx dx)
 go_upto_region 3 with fail
 clear g0 z0 g1 z1 g2 z2 g3 z3
 replace VS:=(by first | exact rv4 VS Ks (.bool nx) (.slice ax qx cx) (.bool false) (.slice bx kx dx) rfl rfl rfl rfl | exact bv4 VS Ks (.bool nx) (.slice ax qx cx) (.bool false) (.slice bx kx dx) rfl rfl rfl rfl)
 replace VU:=(by first | exact rv4 VU Ks (.bool nx) (.slice ax qx cx) (.bool false) (.slice bx kx dx) rfl rfl rfl rfl | exact bv4 VU Ks (.bool nx) (.slice ax qx cx) (.bool false) (.slice bx kx dx) rfl rfl rfl rfl)
 replace VV:=(by first | exact rv4 VV Ks (.bool nx) (.slice ax qx cx) (.bool false) (.slice bx kx dx) rfl rfl rfl rfl | exact bv4 VV Ks (.bool nx) (.slice ax qx cx) (.bool false) (.slice bx kx dx) rfl rfl rfl rfl)
 replace Vp:=(by first | exact rv4 Vp Ks (.bool nx) (.slice ax qx cx) (.bool false) (.slice bx kx dx) rfl rfl rfl rfl | exact bv4 Vp Ks (.bool nx) (.slice ax qx cx) (.bool false) (.slice bx kx dx) rfl rfl rfl rfl)
 replace Vx:=(by first | exact rv4 Vx Ks (.bool nx) (.slice ax qx cx) (.bool false) (.slice bx kx dx) rfl rfl rfl rfl | exact bv4 Vx Ks (.bool nx) (.slice ax qx cx) (.bool false) (.slice bx kx dx) rfl rfl rfl rfl)
 replace hx:=bx4 hx (w.heap.size) (.bool nx) (.slice ax qx cx) (.bool false) (.slice bx kx dx) (by omega)
 replace Ks:=bs4 Ks (.bool nx) (.slice ax qx cx) (.bool false) (.slice bx kx dx)
 replace Ku:=bo4 Ku (w.heap.size) (.bool nx) (.slice ax qx cx) (.bool false) (.slice bx kx dx) (by omega)
 replace Kv:=bo4 Kv (w.heap.size) (.bool nx) (.slice ax qx cx) (.bool false) (.slice bx kx dx) (by omega)
 replace Kr:=bo4 Kr (w.heap.size) (.bool nx) (.slice ax qx cx) (.bool false) (.slice bx kx dx) (by omega)
 replace Kq:=bo4 Kq (w.heap.size) (.bool nx) (.slice ax qx cx) (.bool false) (.slice bx kx dx) (by omega)
 generalize ((((x4).setCell ⟨w.heap.size,0,none⟩ (.bool nx)).setCell ⟨w.heap.size,1,none⟩ (.slice ax qx cx)).setCell ⟨w.heap.size,2,none⟩ (.bool false)).setCell ⟨w.heap.size,3,none⟩ (.slice bx kx dx)=x5 at *
 obtain⟨cs0,cs1,cs2,cs3⟩:=bk4 Ks
 obtain⟨g0,z0,g1,z1,g2,z2,g3,z3⟩:=bp4 Kr (.bool nx) (.slice ax qx cx) (.bool false) (.slice bx kx dx)
 go_wp2_with fail
 clear g0 z0 g1 z1 g2 z2 g3 z3
 clear cs0 cs1 cs2 cs3
 replace VS:=(by first | exact rv4 VS Kr (.bool nx) (.slice ax qx cx) (.bool false) (.slice bx kx dx) rfl rfl rfl rfl | exact bv4 VS Kr (.bool nx) (.slice ax qx cx) (.bool false) (.slice bx kx dx) rfl rfl rfl rfl)
 replace VU:=(by first | exact rv4 VU Kr (.bool nx) (.slice ax qx cx) (.bool false) (.slice bx kx dx) rfl rfl rfl rfl | exact bv4 VU Kr (.bool nx) (.slice ax qx cx) (.bool false) (.slice bx kx dx) rfl rfl rfl rfl)
 replace VV:=(by first | exact rv4 VV Kr (.bool nx) (.slice ax qx cx) (.bool false) (.slice bx kx dx) rfl rfl rfl rfl | exact bv4 VV Kr (.bool nx) (.slice ax qx cx) (.bool false) (.slice bx kx dx) rfl rfl rfl rfl)
 replace Vp:=(by first | exact rv4 Vp Kr (.bool nx) (.slice ax qx cx) (.bool false) (.slice bx kx dx) rfl rfl rfl rfl | exact bv4 Vp Kr (.bool nx) (.slice ax qx cx) (.bool false) (.slice bx kx dx) rfl rfl rfl rfl)
 replace Vx:=(by first | exact rv4 Vx Kr (.bool nx) (.slice ax qx cx) (.bool false) (.slice bx kx dx) rfl rfl rfl rfl | exact bv4 Vx Kr (.bool nx) (.slice ax qx cx) (.bool false) (.slice bx kx dx) rfl rfl rfl rfl)
 replace hx:=bx4 hx (w.heap.size+3) (.bool nx) (.slice ax qx cx) (.bool false) (.slice bx kx dx) (by omega)
 replace Ks:=bo4 Ks (w.heap.size+3) (.bool nx) (.slice ax qx cx) (.bool false) (.slice bx kx dx) (by omega)
 replace Ku:=bo4 Ku (w.heap.size+3) (.bool nx) (.slice ax qx cx) (.bool false) (.slice bx kx dx) (by omega)
 replace Kv:=bo4 Kv (w.heap.size+3) (.bool nx) (.slice ax qx cx) (.bool false) (.slice bx kx dx) (by omega)
 replace Kr:=bs4 Kr (.bool nx) (.slice ax qx cx) (.bool false) (.slice bx kx dx)
 replace Kq:=bo4 Kq (w.heap.size+3) (.bool nx) (.slice ax qx cx) (.bool false) (.slice bx kx dx) (by omega)
 generalize ((((x5).setCell ⟨w.heap.size+3,0,none⟩ (.bool nx)).setCell ⟨w.heap.size+3,1,none⟩ (.slice ax qx cx)).setCell ⟨w.heap.size+3,2,none⟩ (.bool false)).setCell ⟨w.heap.size+3,3,none⟩ (.slice bx kx dx)=x6 at *
 obtain⟨cr0,cr1,cr2,cr3⟩:=bk4 Kr
 refine bodyPost_ret (v:=.agg #[.bool nx,.slice ax qx cx,.bool false,.slice bx kx dx]) (by simp [results,Tryz.results39,go_sem,cr0,cr1,cr2,cr3]) rfl ?_
 exact⟨_,rfl,⟨_,_,_,_,_,_,_,rfl,Vx.out,Fx.out,Gx.out⟩,hx⟩
theorem dot_sz {f x:Nat→Rat}:∀{n:Nat},(∀c,c<n→Sz (f c) 2∧Sz (x c) 2)→Sz (dotX n f x) (1+5*n)
 | 0,_=>by unfold dotX;rw [sq_nil];exact⟨by decide,by decide⟩
 | n+1,h=>by
  have ih:=dot_sz (n:=n) fun c hc=>h c (by omega)
  unfold dotX at ih ⊢
  rw [sq_succ]
  have h2:=h n (by omega)
  exact(ih.add (h2.1.mul h2.2)).mono (by omega)
def RatB (r:Rat) (B:Nat) (w:World) (e:Ending) (w':World):Prop:=∃v,e=.returned v∧RatN w' v r B∧Ext w w'
theorem RowR.head {w:World} {a:Option Addr} {cap N:Nat} {V:Nat→RatC} {f:Nat→Rat} (h:RowR w a cap N V f) {i:Nat} (hi:i<N):∃b o,a=some ⟨b,o,none⟩:=by
 cases a with
 | none=>have:=h.nil rfl;have:=h.le;omega
 | some A=>
  obtain⟨h0,_⟩:=h.cells A rfl i hi
  obtain⟨b,o,s⟩:=A
  dsimp only at h0
  exact⟨b,o,by rw [h0]⟩
set_option maxHeartbeats 8000000 in
theorem matrix_folded (a:Option Addr) (cap N:Nat) (V:Nat→RatC) (f:Nat→Rat) (b:Option Addr) (cb:Nat) (U:Nat→RatC) (x:Nat→Rat) (nz:Bool) (az:Option Addr) (qz cz:Nat) (bz:Option Addr) (kz dz:Nat) (B:Nat) (w:World)
 (ha:RowR w a cap N V f) (hb:RowR w b cb N U x) (hz:RatV w (.agg #[.bool nz,.slice az qz cz,.bool false,.slice bz kz dz]) 0) (hfz:(∀A,az=some A→B≤A.block)∧∀A,bz=some A→B≤A.block) (hB:B≤w.heap.size) (hsz:∀c,c<N→Sz (f c) 2∧Sz (x c) 2) (hN:N≤100):
 Calls Tryz.prog 37 #[.slice a N cap,.slice b N cb,.agg #[.bool nz,.slice az qz cz,.bool false,.slice bz kz dz],.func (.func 39) #[] #[]] w (RatB (dotX N f x) B w):=by
 have hle:=ha.le
 have hmx:=ha.mx
 have ble:=hb.le
 have bmx:=hb.mx
 have HA:=Lib.hid ha
 have HB:=Lib.hid hb
 have HZ:=Lib.hid hsz
 have HFZ:=Lib.hid hfz
 have HBB:=Lib.hid hB
 have HV0:=Lib.hid hz
 clear ha hb hsz hfz hz
 obtain⟨x1,hw,hx,Ks0,Kr0⟩:=boxQ2 w #[.bool nz,.slice az qz cz,.bool false,.slice bz kz dz] 44 #[.bool false,.slice none 0 0,.bool false,.slice none 0 0] 44
 replace hw:=Lib.hid hw
 go_enter Tryz.func37,Tryz.ntmps37
 go_upto_region 1 with fail
 try simp only [Nat.add_assoc,Nat.reduceAdd,Nat.add_zero]
 rw [hw.out]
 clear hw
 have HX0:=Lib.hid hx
 replace HV0:=Lib.hid (HV0.out.ext hx)
 clear hx
 go_wp2_with fail
 go_loopw [13] (fun v wr=>∃i:Nat,i≤N∧v=.int .i64 i∧∃t:RatC,Blk wr w.heap.size #[.bool t.n,.slice t.a t.q t.c,.bool t.m,.slice t.b t.k t.d] 44∧Blk wr (w.heap.size+1) #[.bool false,.slice none 0 0,.bool false,.slice none 0 0] 44∧RatV wr t.val (dotX i f x)∧t.m=false∧((∀A,t.a=some A→B≤A.block)∧∀A,t.b=some A→B≤A.block)∧Ext w wr) (fun v _=>N - (intOf v).toNat)
 case atStart=>exact⟨0,Nat.zero_le _,rfl,⟨nz,az,qz,cz,false,bz,kz,dz⟩,Ks0.out,Kr0.out,HV0.out,rfl,HFZ.out,HX0.out⟩
 case round=>
  obtain⟨i,hi,rfl,⟨nt,at1,qt,ct,mt,bt,kt,dt⟩,hks,hkr,hvt,hmt,hft,hxr⟩:=hrel
  dsimp only [RatC.val] at hks hvt hmt hft
  subst hmt
  have i0:(0:Int)≤(i:Int):=by omega
  by_cases hiN:i<N
  ·have i1:(i:Int)< (N:Int):=by omega
   have hw1:IntKind.i64.wrap ((i:Int)+1)= (i:Int)+1:=IntWalk.i64_in _ (by omega)
   have hA:=HA.out.ext hxr
   have hB':=HB.out.ext hxr
   obtain⟨ba,oa,rfl⟩:=HA.out.head hiN
   obtain⟨bb,ob,rfl⟩:=HB.out.head hiN
   obtain⟨_,c0,c1,c2,c3⟩:=hA.cells _ rfl i hiN
   obtain⟨_,d0,d1,d2,d3⟩:=hB'.cells _ rfl i hiN
   have hlb:bb<w.heap.size:=by obtain⟨_,h1,_⟩:=HB.out.cells _ rfl i hiN;exact lt_of_cell h1
   have vx:=hA.val i hiN
   have vy:=hB'.val i hiN
   generalize V i=xc at *
   obtain⟨nx,ax,qx,cx,mx,bx,kx,dx⟩:=xc
   generalize U i=yc at *
   obtain⟨ny,ay,qy,cy,my,by_,ky,dy⟩:=yc
   dsimp only [RatC.val] at c0 c1 c2 c3 d0 d1 d2 d3 vx vy
   have hya:=Ext.alloc wr (.cells #[.bool nx,.slice ax qx cx,.bool mx,.slice bx kx dx] 44)
   have Kx:=Lib.hid (Blk.new0 wr #[.bool nx,.slice ax qx cx,.bool mx,.slice bx kx dx] 44)
   have HX:=Lib.hid (hxr.trans hya)
   have Ks:=Lib.hid (hks.ext hya)
   have Kr:=Lib.hid (hkr.ext hya)
   have VT:=Lib.hid (hvt.ext hya)
   have VX:=Lib.hid (vx.ext hya)
   have VY:=Lib.hid (vy.ext hya)
   have HSZ:=Lib.hid hxr.size
   have ZT:=Lib.hid (dot_sz (n:=i) fun c hc=>HZ.out c (by omega))
   replace d0:=cell_exQ hya d0
   replace d1:=cell_exQ hya d1
   replace d2:=cell_exQ hya d2
   replace d3:=cell_exQ hya d3
   have hlr:=hkr.lt
   clear hA hB' hks hkr hvt hft hxr vx vy hya
   go_upto_region 4 with fail
   generalize wr.alloc (.cells #[.bool nx,.slice ax qx cx,.bool mx,.slice bx kx dx] 44)=x3 at *
   generalize wr.heap.size=pb at *
   clear c0 c1 c2 c3
   have hyd:Ext x3 (World.drew x3):=(Ext.refl _).drew
   replace HX:=Lib.hid (Ext.trans HX.out hyd)
   replace Ks:=kE Ks hyd
   replace Kr:=kE Kr hyd
   replace VT:=Lib.hid (VT.out.ext hyd)
   replace VX:=Lib.hid (VX.out.ext hyd)
   replace VY:=Lib.hid (VY.out.ext hyd)
   have hBx:B≤(World.drew x3).heap.size:=Nat.le_trans HBB.out HX.out.size
   have s0:World.cell? (World.drew x3) ⟨pb,0,none⟩=some (.bool nx):=(Kx.out.ext hyd).cell rfl
   have s1:World.cell? (World.drew x3) ⟨pb,1,none⟩=some (.slice ax qx cx):=(Kx.out.ext hyd).cell rfl
   have s2:World.cell? (World.drew x3) ⟨pb,2,none⟩=some (.bool mx):=(Kx.out.ext hyd).cell rfl
   have s3:World.cell? (World.drew x3) ⟨pb,3,none⟩=some (.slice bx kx dx):=(Kx.out.ext hyd).cell rfl
   have t0:World.cell? (World.drew x3) ⟨bb,ob+i*4,none⟩=some (.bool ny):=d0
   have t1:World.cell? (World.drew x3) ⟨bb,ob+i*4+1,none⟩=some (.slice ay qy cy):=d1
   have t2:World.cell? (World.drew x3) ⟨bb,ob+i*4+2,none⟩=some (.bool my):=d2
   have t3:World.cell? (World.drew x3) ⟨bb,ob+i*4+3,none⟩=some (.slice by_ ky dy):=d3
   obtain⟨k0,k1,k2,k3⟩:=bk4 Ks
   clear d0 d1 d2 d3 hyd Kx
   refine wp_region_held_drew (S:=(fun w'=>World.cell? w' ⟨pb,0,none⟩=some (.bool nx)∧World.cell? w' ⟨pb,1,none⟩=some (.slice ax qx cx)∧World.cell? w' ⟨pb,2,none⟩=some (.bool mx)∧World.cell? w' ⟨pb,3,none⟩=some (.slice bx kx dx)∧World.cell? w' ⟨bb,ob+i*4,none⟩=some (.bool ny)∧World.cell? w' ⟨bb,ob+i*4+1,none⟩=some (.slice ay qy cy)∧World.cell? w' ⟨bb,ob+i*4+2,none⟩=some (.bool my)∧World.cell? w' ⟨bb,ob+i*4+3,none⟩=some (.slice by_ ky dy))) (by kernel_rfl) ?_ (fun hHeld=>?_)
   ·exact⟨s0,s1,s2,s3,t0,t1,t2,t3⟩
   (try simp only [pur,Nat.reduceAdd])
   generalize World.drew x3=x4 at *
   refine tk (v:=?_) 0 rfl (by kernel_rfl) (fun _ _ _ h=>h) (by rfl) ?_ (by assumption) ?_
   rotate_left
   ·(intro w hSw;(try dsimp only at hSw);(try go_simp);(try with_reducible rfl))
   (try simp only [Act.put,pus])
   refine tk (v:=?_) 2 rfl (by kernel_rfl) (fun _ _ _ h=>h) (by rfl) ?_ (by assumption) ?_
   rotate_left
   ·(intro w hSw;(try dsimp only at hSw);(try go_simp);(try with_reducible rfl))
   (try simp only [Act.put,pus])
   refine tk (v:=?_) 3 rfl (by kernel_rfl) (fun _ _ _ h=>h) (by rfl) ?_ (by assumption) ?_
   rotate_left
   ·(intro w hSw;(try dsimp only at hSw);(try go_simp);(try with_reducible rfl))
   (try simp only [Act.put,pus])
   refine tk (v:=?_) 4 rfl (by kernel_rfl) (fun _ _ _ h=>h) (by rfl) ?_ (by assumption) ?_
   rotate_left
   ·(intro w hSw;(try dsimp only at hSw);(try go_simp);(try with_reducible rfl))
   (try simp only [Act.put,pus])
   refine tk (v:=?_) 5 rfl (by kernel_rfl) (fun _ _ _ h=>h) (by rfl) ?_ (by assumption) ?_
   rotate_left
   ·(intro w hSw;(try dsimp only at hSw);(try go_simp);(try with_reducible rfl))
   (try simp only [Act.put,pus])
   refine tk (v:=?_) 6 rfl (by kernel_rfl) (fun _ _ _ h=>h) (by rfl) ?_ (by assumption) ?_
   rotate_left
   ·(intro w hSw;(try dsimp only at hSw);(try go_simp);(try with_reducible rfl))
   (try simp only [Act.put,pus])
   refine wpAnyH_ready (rs:=[1]) (by kernel_rfl) (by simp) ?_
   refine AllReadyH.cons (o:=_) rfl (fun K hK=>?_) ?_
   ·go_simp
    refine hK.out _ _ ?_ (fun hHeld2=>?_)
    ·exact⟨s0,s1,s2,s3,t0,t1,t2,t3⟩
    clear hK K hHeld
    have hHeld:=hHeld2
    clear hHeld2
    (try simp only [Act.put,pus])
    refine wpAnyH_ready (rs:=[7]) (by kernel_rfl) (by simp) ?_
    refine AllReadyH.cons (o:=_) rfl (fun K hK=>?_) ?_
    ·go_simp
     (with_reducible refine(matrix_Apply1 nt at1 qt ct false bt kt dt nx ax qx cx mx bx kx dx ny ay qy cy my by_ ky dy _ _ _ (1+5*i) 2 2 _ VT.out VX.out VY.out ZT.out (HZ.out i hiN).1 (HZ.out i hiN).2 (by omega)).mono ?_);rintro e9 y1 ⟨v9,rfl,hv,hy⟩;have hsz:=HX.out.size;obtain⟨nq,aq,qq,cq,bq,kq,dq,rfl,hv',hf',hg'⟩:=hv;have VQ:=Lib.hid hv';have HFQ:=Lib.hid (And.intro (fun A hA=>Nat.le_trans hBx (hf' A hA)) (fun A hA=>Nat.le_trans hBx (hg' A hA)));replace HX:=Lib.hid (Ext.trans HX.out hy);replace Ks:=kE Ks hy;replace Kr:=kE Kr hy;replace s0:=cell_exQ hy s0;replace s1:=cell_exQ hy s1;replace s2:=cell_exQ hy s2;replace s3:=cell_exQ hy s3;replace t0:=cell_exQ hy t0;replace t1:=cell_exQ hy t1;replace t2:=cell_exQ hy t2;replace t3:=cell_exQ hy t3;clear hy hv' hf' hg' hsz VT VX VY k0 k1 k2 k3
     refine hK.out _ _ ?_ (fun hHeld2=>?_)
     ·exact⟨s0,s1,s2,s3,t0,t1,t2,t3⟩
     clear hK K hHeld
     have hHeld:=hHeld2
     clear hHeld2
     (try simp only [Act.put,pus])
     refine wpAnyH_ready (rs:=[8]) (by kernel_rfl) (by simp) ?_
     refine AllReadyH.cons (o:=_) rfl (fun K hK=>?_) ?_
     ·obtain⟨g0,z0,g1,z1,g2,z2,g3,z3⟩:=bp4 Ks (.bool nq) (.slice aq qq cq) (.bool false) (.slice bq kq dq);go_simp;clear g0 z0 g1 z1 g2 z2 g3 z3;replace VQ:=rv4 VQ Ks (.bool nq) (.slice aq qq cq) (.bool false) (.slice bq kq dq) rfl rfl rfl rfl;replace HX:=Lib.hid (bx4 HX.out (w.heap.size) (.bool nq) (.slice aq qq cq) (.bool false) (.slice bq kq dq) (Nat.le_refl _));replace Kr:=bo4 Kr (w.heap.size) (.bool nq) (.slice aq qq cq) (.bool false) (.slice bq kq dq) (by omega);replace s0:=bf4 s0 (w.heap.size) (.bool nq) (.slice aq qq cq) (.bool false) (.slice bq kq dq) (by omega);replace s1:=bf4 s1 (w.heap.size) (.bool nq) (.slice aq qq cq) (.bool false) (.slice bq kq dq) (by omega);replace s2:=bf4 s2 (w.heap.size) (.bool nq) (.slice aq qq cq) (.bool false) (.slice bq kq dq) (by omega);replace s3:=bf4 s3 (w.heap.size) (.bool nq) (.slice aq qq cq) (.bool false) (.slice bq kq dq) (by omega);replace t0:=bf4 t0 (w.heap.size) (.bool nq) (.slice aq qq cq) (.bool false) (.slice bq kq dq) (by omega);replace t1:=bf4 t1 (w.heap.size) (.bool nq) (.slice aq qq cq) (.bool false) (.slice bq kq dq) (by omega);replace t2:=bf4 t2 (w.heap.size) (.bool nq) (.slice aq qq cq) (.bool false) (.slice bq kq dq) (by omega);replace t3:=bf4 t3 (w.heap.size) (.bool nq) (.slice aq qq cq) (.bool false) (.slice bq kq dq) (by omega);replace Ks:=bs4 Ks (.bool nq) (.slice aq qq cq) (.bool false) (.slice bq kq dq)
      refine hK.out _ _ ?_ (fun hHeld2=>?_)
      ·exact⟨s0,s1,s2,s3,t0,t1,t2,t3⟩
      clear hK K hHeld
      have hHeld:=hHeld2
      clear hHeld2
      (try simp only [Act.put,pus])
      refine wpAnyH_done (by kernel_rfl) ?_ _
      go_wp2_with fail
      go_roundw
      case rel=>exact⟨i+1,by omega,by go_num,⟨nq,aq,qq,cq,false,bq,kq,dq⟩,Ks.out,Kr.out,VQ.out,rfl,HFQ.out,HX.out⟩
      case measure=>simp [intOf];omega
     exact AllReadyH.nil
    exact AllReadyH.nil
   exact AllReadyH.nil
  ·have i1:¬ (i:Int)< (N:Int):=by omega
   have hie:i=N:=by omega
   subst hie
   have Ks:=Lib.hid hks
   have Kr:=Lib.hid hkr
   have VT:=Lib.hid hvt
   have HFT:=Lib.hid hft
   have HX:=Lib.hid hxr
   clear hks hkr hvt hft hxr
   obtain⟨k0,k1,k2,k3⟩:=bk4 Ks
   obtain⟨g0,z0,g1,z1,g2,z2,g3,z3⟩:=bp4 Kr (.bool nt) (.slice at1 qt ct) (.bool false) (.slice bt kt dt)
   go_wp2_with fail
   clear g0 z0 g1 z1 g2 z2 g3 z3 k0 k1 k2 k3
   replace VT:=rv4 VT Kr (.bool nt) (.slice at1 qt ct) (.bool false) (.slice bt kt dt) rfl rfl rfl rfl
   replace HX:=Lib.hid (bx4 HX.out (w.heap.size+1) (.bool nt) (.slice at1 qt ct) (.bool false) (.slice bt kt dt) (by omega))
   replace Kr:=bs4 Kr (.bool nt) (.slice at1 qt ct) (.bool false) (.slice bt kt dt)
   obtain⟨k0,k1,k2,k3⟩:=bk4 Kr
   refine bodyPost_ret (v:=.agg #[.bool nt,.slice at1 qt ct,.bool false,.slice bt kt dt]) (by simp [results,Tryz.results37,go_sem,k0,k1,k2,k3]) rfl ?_
   exact⟨_,rfl,⟨_,_,_,_,_,_,_,rfl,VT.out,HFT.out.1,HFT.out.2⟩,HX.out⟩
theorem err_sz {x:RatA} (h:errX x=0):Sz (valA x) 2:=by
 obtain⟨h1,h2⟩:=err_valA h
 refine⟨?_,?_⟩
 ·rw [pow_digits];exact Nat.lt_of_lt_of_le h1 (Nat.pow_le_pow_right (by omega) (by omega))
 ·rw [pow_digits];exact Nat.lt_of_lt_of_le h2 (Nat.pow_le_pow_right (by omega) (by omega))
def vecF (L:List RatA):Nat→Rat:=fun c=>valA (L.getD c noA)
def vecV (L:List RatA):Nat→RatC:=fun c=>let x:=L.getD c noA;⟨x.n,x.a,x.l.length,x.c,x.n2,x.b,x.m.length,x.d⟩
theorem els_read {L:List RatA} (h:elsE L=0) {w:World} {a:Option Addr} {cap:Nat} (k:RatsI w a cap L):RowR w a cap L.length (vecV L) (vecF L):=
 ⟨k.le,k.mx,k.nil,fun A hA c hc=>by
  have e:L.getD c noA=L[c]:=by rw [List.getD_eq_getElem?_getD,List.getElem?_eq_getElem hc];rfl
  obtain⟨g0,g1,g2,g3,g4⟩:=k.cells A hA c hc
  unfold vecV
  rw [e]
  exact⟨g0,g1,g2,g3,g4⟩,fun c hc=>by
  have e:L.getD c noA=L[c]:=by rw [List.getD_eq_getElem?_getD,List.getElem?_eq_getElem hc];rfl
  have:=els_mem h hc
  unfold vecV vecF
  rw [e] at this ⊢
  exact(ok_valA (errX_0 this).1).1 w (k.ints c hc)⟩
def appF (A:List (List RatA)) (L:List RatA):Nat→Rat:=fun r=>dotX (widA A) (mxA A r) (vecF L)
def appN (A:List (List RatA)) (L:List RatA):Nat:=if vecE A L (widA A)=0 then A.length else 0
def ApplyP (A:List (List RatA)) (L:List RatA) (w:World) (e:Ending) (w':World):Prop:=
 ∃ (a:Option Addr) (cap:Nat) (V:Nat→RatC),e=.returned (.tuple #[.slice a (appN A L) cap,.int .i64 (vecE A L (widA A))])∧RowR w' a cap (appN A L) V (appF A L)∧Ext w w'
theorem OwnRats.reads {w:World} {B:Nat} {v:Value} {L:List RatC} {rs:List Rat} {f:Nat→Rat} {N:Nat} (h:OwnRats w B v L rs) (hN:L.length=N) (hf:∀c,c<N→rs.getD c 0=f c):∃a cap V,v=.slice a N cap∧RowR w a cap N V f:=by
 subst hN
 by_cases h0:0<L.length
 ·obtain⟨g,cap,rfl,_,h1,h2,h3⟩:=h.fill h0
  exact⟨_,cap,_,rfl,h3.read ⟨h1,h2⟩ hf⟩
 ·obtain⟨a,cap,rfl,h1,h2⟩:=h.form
  have hn:a=none→cap=0:=fun e9=>by
   rcases h.own.2 with⟨h1,_⟩ | ⟨gx,cx,cur,h1,_⟩
   ·simp only [Value.slice.injEq] at h1;exact h1.2.2
   ·simp only [Value.slice.injEq,e9] at h1;exact absurd h1.1 (by simp)
  exact⟨a,cap,fun _=>⟨false,none,0,0,false,none,0,0⟩,rfl,h1,h2,hn,fun A hA c hc=>by omega,fun c hc=>by omega⟩
set_option maxHeartbeats 8000000 in
theorem matrix_Apply (a:Option Addr) (cap:Nat) (A:List (List RatA)) (s:Option Addr) (sc:Nat) (L:List RatA) (w:World) (h:RRows w a cap A) (k:RatsI w s sc L) (hL:L.length≤1000):
 Calls Tryz.prog 16 #[.slice a A.length cap,.slice s L.length sc] w (ApplyP A L w):=by
 have hle:=h.le
 have hmx:=h.mx
 have sle:=k.le
 have smx:=k.mx
 have HH:=Lib.hid h
 have HK:=Lib.hid k
 clear h k
 have HV:=Lib.hid (matrix_vector a cap A s sc L (widA A) w HH.out HK.out hL)
 have HWD:Hid (0<A.length→∃b o a' c',a=some ⟨b,o,none⟩∧w.cell? ⟨b,o,none⟩=some (.slice a' (widA A) c')):=Lib.hid fun h0=>by
  obtain⟨b,o,rfl⟩:=HH.out.head h0
  obtain⟨L0,ar,cr,e1,e2,_⟩:=HH.out.get h0
  refine⟨b,o,ar,cr,rfl,?_⟩
  have:widA A=L0.length:=by unfold widA;rw [List.getD_eq_getElem?_getD,e1];rfl
  rw [this]
  simpa using e2
 by_cases hz:vecE A L (widA A)=0
 ·obtain⟨z1,z2,z3⟩:=vecE_0 hz
  have hc:=chkE_0 z1
  have HR:=Lib.hid (fun W (k:Ext w W)=>chk_read z1 (RRows.ext k HH.out))
  have HX0:=Lib.hid (fun W (k:Ext w W)=>els_read z3 (HK.out.ext k))
  have h17:A.length≤17:=hc.1
  have hLw:L.length=widA A:=by omega
  have hw17:widA A≤1000:=by omega
  have HNN:Hid (appN A L=A.length):=Lib.hid (if_pos hz)
  have HZZ:=Lib.hid hz
  have HSZ:Hid (∀r,r<A.length→∀c,c<widA A→Sz (mxA A r c) 2∧Sz (vecF L c) 2):=Lib.hid fun r hr c hc=>⟨err_sz (chk_mat z1 hr hc).2,err_sz (els_mem z3 (by omega))⟩
  have hw18:widA A≤17∨A.length=0:=by
   by_cases h0:A.length=0
   ·exact .inr h0
   ·exact .inl (hc.2.1 _ (mem_of_lt (show 0<A.length by omega)))
  have HLW:=Lib.hid hLw
  rw [hz] at HV
  clear hc hz z1 z2 z3 hLw
  go_enter Tryz.func16,Tryz.ntmps16
  go_wp2_with fail
  refine(matrix_width a cap A.length (widA A) w HWD.out).mono ?_
  rintro e x0 ⟨rfl,rfl⟩
  rw [wid_if]
  go_wp2_with fail
  refine HV.out.mono ?_
  rintro e x1 ⟨rfl,hy⟩
  have HX:=Lib.hid hy
  clear hy HV HWD
  go_wp2_with fail
  go_loopw [4,18] (fun s4 v wr=>∃q:Nat,q≤A.length∧v=.int .i64 q∧∃K,OwnRats wr x1.heap.size s4 K ((List.range q).map (appF A L))∧Ext x1 wr) (fun _ v _=>A.length - (intOf v).toNat)
  case atStart=>exact⟨0,Nat.zero_le _,rfl,[],OwnRats.nil _ _,Ext.refl _⟩
  case round=>
   obtain⟨q,hq,rfl,K,hO,hxr⟩:=hrel
   have q0:(0:Int)≤(q:Int):=by omega
   obtain⟨va,vc,rfl,hvl,hvc⟩:=hO.form
   have hKl:K.length=q:=by have:=hO.len;rwa [List.length_map,List.length_range] at this
   have HO:=Lib.hid hO
   have HXR:=Lib.hid hxr
   have HKL:=Lib.hid hKl
   clear hO hxr hKl
   by_cases hqm:q<A.length
   ·have q1:(q:Int)< (A.length:Int):=by omega
    have hw1:IntKind.i64.wrap ((q:Int)+1)= (q:Int)+1:=IntWalk.i64_in _ (by omega)
    have hXX:=HX.out.trans HXR.out
    obtain⟨b,o,rfl⟩:=(HR.out w (Ext.refl _)).head hqm
    obtain⟨_,ar,cr,h1,hrw⟩:=(HR.out wr hXX).cells _ rfl q hqm
    dsimp only at h1
    have HRW:=Lib.hid hrw
    have HRX:=Lib.hid (HX0.out wr hXX)
    clear hrw hXX
    go_wp2_with fail
    refine(matrix_zero _).mono ?_
    rintro e9 y1 ⟨v9,rfl,⟨nz,az,qz,cz,bz,kz,dz,rfl,hv',hf',hg'⟩,hy⟩
    have hfo:=matrix_folded ar cr (widA A) (vxA A q) (mxA A q) s sc (vecV L) (vecF L) nz az qz cz bz kz dz wr.heap.size y1 (HRW.out.ext hy) (by rw [←HLW.out];exact HRX.out.ext hy) hv' ⟨hf',hg'⟩ hy.size (fun c hc=>HSZ.out q hqm c hc) (by omega)
    have HFO:Hid (Calls Tryz.prog 37 #[.slice ar (widA A) cr,.slice s L.length sc,.agg #[.bool nz,.slice az qz cz,.bool false,.slice bz kz dz],.func (.func 39) #[] #[]] y1 (RatB (dotX (widA A) (mxA A q) (vecF L)) wr.heap.size y1)):=Lib.hid (by rw [HLW.out];exact hfo)
    have HXR2:=Lib.hid (HXR.out.trans hy)
    have HO2:=Lib.hid (HO.out.ext hy)
    have hlt:=HO.out.lt
    have HLT:=Lib.hid hlt
    clear hfo hv' hf' hg' hy h1 HRX HRW hlt HXR HO
    go_wp2_with fail
    refine HFO.out.mono ?_
    rintro e9 y2 ⟨v9,rfl,⟨nd,ad,qd,cd,bd,kd,dd,rfl,hv',hf',hg'⟩,hy⟩
    have hoff:RatC.Off ⟨nd,ad,qd,cd,false,bd,kd,dd⟩ (Value.slice va K.length vc).ownBlock:=⟨fun _ A' hA e=>by have:=hf' A' hA;have:=(HLT.out _ e).2;omega,fun _ A' hA e=>by have:=hg' A' hA;have:=(HLT.out _ e).2;omega⟩
    have hya:=Ext.alloc y2 (.cells #[.bool nd,.slice ad qd cd,.bool false,.slice bd kd dd] 44)
    have HBz:=Lib.hid (Blk.new0 y2 #[.bool nd,.slice ad qd cd,.bool false,.slice bd kd dd] 44)
    have HXa:=Lib.hid ((HXR2.out.trans hy).trans hya)
    have HOa:=Lib.hid ((HO2.out.ext hy).ext hya)
    have HVa:Hid (RatV (y2.alloc (.cells #[.bool nd,.slice ad qd cd,.bool false,.slice bd kd dd] 44)) (.agg #[.bool nd,.slice ad qd cd,.bool false,.slice bd kd dd]) (appF A L q)):=Lib.hid (RatV.ext hv' hya)
    have HOFF:=Lib.hid hoff
    clear hoff hya hy hv' hf' hg' HFO HXR2 HO2
    go_wp2_with (at_builtin;refine wpl_append_rat rfl (.tmp 22) (.tmp 27) rfl HXa.out rfl HOa.out rfl (x:=⟨nd,ad,qd,cd,false,bd,kd,dd⟩) (r:=appF A L q) HBz.out HVa.out HOFF.out (by have:=HKL.out;omega) ?_;intro v' w3 hO' hE' hg' hat')
    obtain⟨ua,uc,rfl,hul,huc⟩:=hO'.form
    go_roundw
    case rel=>exact⟨q+1,by omega,by go_num,_,(by rw [List.range_succ,List.map_append];exact hO'),hE'⟩
    case measure=>simp [intOf];omega
   ·have q1:¬ (q:Int)< (A.length:Int):=by omega
    have hqe:q=A.length:=by omega
    have HP:Hid (ApplyP A L w (.returned (.tuple #[.slice va K.length vc,.int .i64 0])) wr):=Lib.hid (by
     obtain⟨a9,c9,V9,e9,hr9⟩:=HO.out.reads (f:=appF A L) (N:=A.length) (by have:=HKL.out;omega) (fun c hc=>by
      rw [List.getD_eq_getElem?_getD,List.getElem?_map,List.getElem?_range (by omega)];rfl)
     rw [e9]
     exact⟨a9,c9,V9,by rw [HNN.out,HZZ.out],by rw [HNN.out];exact hr9,HX.out.trans HXR.out⟩)
    clear hqe
    go_wp2_with fail
    go_ret2
    exact HP.out
 ·have g1:(vecE A L (widA A) != 0)=true:=by simp [hz]
  have HP0:Hid (∀W,Ext w W→ApplyP A L w (.returned (.tuple #[.slice none 0 0,.int .i64 (vecE A L (widA A))])) W):=Lib.hid fun W hW=>⟨none,0,fun _=>⟨false,none,0,0,false,none,0,0⟩,by unfold appN;rw [if_neg hz],by unfold appN;rw [if_neg hz];exact RowR.nil' _ _ _,hW⟩
  go_enter Tryz.func16,Tryz.ntmps16
  go_wp2_with fail
  refine(matrix_width a cap A.length (widA A) w HWD.out).mono ?_
  rintro e x0 ⟨rfl,rfl⟩
  rw [wid_if]
  go_wp2_with fail
  refine HV.out.mono ?_
  rintro e x1 ⟨rfl,hy⟩
  have HP:=Lib.hid (HP0.out x1 hy)
  clear hy hz HP0
  go_wp2_with fail
  go_ret2
  exact HP.out
end Go.Proofs.YtokffagbdfhnnaaGreat
