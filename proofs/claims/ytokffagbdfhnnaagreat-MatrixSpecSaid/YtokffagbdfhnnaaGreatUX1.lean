import Derived.Test.YtokffagbdfhnnaaGreatUI
import Derived.Test.YtokffagbdfhnnaaGreatUB
import Derived.OwnWalk
import Derived.Below
import Derived.Deep.QuietTactic
import Derived.Deep.Cut
namespace Go.Proofs.YtokffagbdfhnnaaGreat
open Go.RowKit Go BigFrame Go.Shelf
set_option maxRecDepth 100000
set_option linter.unusedSimpArgs false
set_option linter.unusedVariables false
attribute [local go_sem] Oper.semAt_some
theorem ref_Zero (w:World):Calls Tryz.prog 45 #[] w (RatU 0 w):=by
 obtain⟨x1,hw,hx,Kr⟩:=boxQ1 w #[.bool false,.slice none 0 0,.bool false,.slice none 0 0] 44
 replace hw:=Lib.hid hw
 go_enter Tryz.func45,Tryz.ntmps45
 go_upto_region 1 with fail
 try simp only [Nat.add_assoc,Nat.reduceAdd,Nat.add_zero]
 rw [hw.out]
 clear hw
 have hs0:=hx.size
 have hsz:=hx.size
 go_wp2_with fail
 with_reducible refine(rMakeR 0 1 _ (by omega) (by omega) (by omega)).mono ?_
 rintro e x2 ⟨v,rfl,hv,hy⟩
 replace hx:=hx.trans hy
 replace Kr:=kE Kr hy
 clear hy
 obtain⟨nv,av,qv,cv,bv,kv,dv,rfl,hv',hf',hg'⟩:=hv
 have Vv:=Lib.hid hv'
 have Fv:=Lib.hid (fun A hA=>Nat.le_trans hsz (hf' A hA))
 have Gv:=Lib.hid (fun A hA=>Nat.le_trans hsz (hg' A hA))
 clear hv' hf' hg' hsz
 rw [show Rat.divInt 0 1=0 from by decide +kernel] at Vv
 go_upto_region 2 with fail
 have hl:=Ext.alloc x2 (.cells #[.bool nv,.slice av qv cv,.bool false,.slice bv kv dv] 44)
 have lrx:w.heap.size<x2.heap.size:=Kr.out.lt
 have hpx:w.heap.size≤x2.heap.size:=hx.size
 replace hx:=hx.trans hl
 replace Kr:=kE Kr hl
 replace Vv:=Lib.hid (Vv.out.ext hl)
 have Kx:=Lib.hid (Blk.new0 x2 #[.bool nv,.slice av qv cv,.bool false,.slice bv kv dv] 44)
 clear hl
 generalize x2.alloc (.cells #[.bool nv,.slice av qv cv,.bool false,.slice bv kv dv] 44)=x3 at *
 generalize x2.heap.size=px at *
 obtain⟨cx0,cx1,cx2,cx3⟩:=bk4 Kx
 obtain⟨g0,z0,g1,z1,g2,z2,g3,z3⟩:=bp4 Kr (.bool nv) (.slice av qv cv) (.bool false) (.slice bv kv dv)
 go_wp2_with fail
 clear g0 z0 g1 z1 g2 z2 g3 z3
 clear cx0 cx1 cx2 cx3
 replace Vv:=(by first | exact rv4 Vv Kr (.bool nv) (.slice av qv cv) (.bool false) (.slice bv kv dv) rfl rfl rfl rfl | exact bv4 Vv Kr (.bool nv) (.slice av qv cv) (.bool false) (.slice bv kv dv) rfl rfl rfl rfl)
 replace hx:=bx4 hx (w.heap.size) (.bool nv) (.slice av qv cv) (.bool false) (.slice bv kv dv) (by omega)
 replace Kr:=bs4 Kr (.bool nv) (.slice av qv cv) (.bool false) (.slice bv kv dv)
 replace Kx:=bo4 Kx (w.heap.size) (.bool nv) (.slice av qv cv) (.bool false) (.slice bv kv dv) (by omega)
 generalize ((((x3).setCell ⟨w.heap.size,0,none⟩ (.bool nv)).setCell ⟨w.heap.size,1,none⟩ (.slice av qv cv)).setCell ⟨w.heap.size,2,none⟩ (.bool false)).setCell ⟨w.heap.size,3,none⟩ (.slice bv kv dv)=x4 at *
 obtain⟨cr0,cr1,cr2,cr3⟩:=bk4 Kr
 refine bodyPost_ret (v:=.agg #[.bool nv,.slice av qv cv,.bool false,.slice bv kv dv]) (by simp [results,Tryz.results45,go_sem,cr0,cr1,cr2,cr3]) rfl ?_
 exact⟨_,rfl,⟨_,_,_,_,_,_,_,rfl,Vv.out,Fv.out,Gv.out⟩,hx⟩
theorem ref_One (w:World):Calls Tryz.prog 46 #[] w (RatU 1 w):=by
 obtain⟨x1,hw,hx,Kr⟩:=boxQ1 w #[.bool false,.slice none 0 0,.bool false,.slice none 0 0] 44
 replace hw:=Lib.hid hw
 go_enter Tryz.func46,Tryz.ntmps46
 go_upto_region 1 with fail
 try simp only [Nat.add_assoc,Nat.reduceAdd,Nat.add_zero]
 rw [hw.out]
 clear hw
 have hs0:=hx.size
 have hsz:=hx.size
 go_wp2_with fail
 with_reducible refine(rMakeR 1 1 _ (by omega) (by omega) (by omega)).mono ?_
 rintro e x2 ⟨v,rfl,hv,hy⟩
 replace hx:=hx.trans hy
 replace Kr:=kE Kr hy
 clear hy
 obtain⟨nv,av,qv,cv,bv,kv,dv,rfl,hv',hf',hg'⟩:=hv
 have Vv:=Lib.hid hv'
 have Fv:=Lib.hid (fun A hA=>Nat.le_trans hsz (hf' A hA))
 have Gv:=Lib.hid (fun A hA=>Nat.le_trans hsz (hg' A hA))
 clear hv' hf' hg' hsz
 rw [show Rat.divInt 1 1=1 from by decide +kernel] at Vv
 go_upto_region 2 with fail
 have hl:=Ext.alloc x2 (.cells #[.bool nv,.slice av qv cv,.bool false,.slice bv kv dv] 44)
 have lrx:w.heap.size<x2.heap.size:=Kr.out.lt
 have hpx:w.heap.size≤x2.heap.size:=hx.size
 replace hx:=hx.trans hl
 replace Kr:=kE Kr hl
 replace Vv:=Lib.hid (Vv.out.ext hl)
 have Kx:=Lib.hid (Blk.new0 x2 #[.bool nv,.slice av qv cv,.bool false,.slice bv kv dv] 44)
 clear hl
 generalize x2.alloc (.cells #[.bool nv,.slice av qv cv,.bool false,.slice bv kv dv] 44)=x3 at *
 generalize x2.heap.size=px at *
 obtain⟨cx0,cx1,cx2,cx3⟩:=bk4 Kx
 obtain⟨g0,z0,g1,z1,g2,z2,g3,z3⟩:=bp4 Kr (.bool nv) (.slice av qv cv) (.bool false) (.slice bv kv dv)
 go_wp2_with fail
 clear g0 z0 g1 z1 g2 z2 g3 z3
 clear cx0 cx1 cx2 cx3
 replace Vv:=(by first | exact rv4 Vv Kr (.bool nv) (.slice av qv cv) (.bool false) (.slice bv kv dv) rfl rfl rfl rfl | exact bv4 Vv Kr (.bool nv) (.slice av qv cv) (.bool false) (.slice bv kv dv) rfl rfl rfl rfl)
 replace hx:=bx4 hx (w.heap.size) (.bool nv) (.slice av qv cv) (.bool false) (.slice bv kv dv) (by omega)
 replace Kr:=bs4 Kr (.bool nv) (.slice av qv cv) (.bool false) (.slice bv kv dv)
 replace Kx:=bo4 Kx (w.heap.size) (.bool nv) (.slice av qv cv) (.bool false) (.slice bv kv dv) (by omega)
 generalize ((((x3).setCell ⟨w.heap.size,0,none⟩ (.bool nv)).setCell ⟨w.heap.size,1,none⟩ (.slice av qv cv)).setCell ⟨w.heap.size,2,none⟩ (.bool false)).setCell ⟨w.heap.size,3,none⟩ (.slice bv kv dv)=x4 at *
 obtain⟨cr0,cr1,cr2,cr3⟩:=bk4 Kr
 refine bodyPost_ret (v:=.agg #[.bool nv,.slice av qv cv,.bool false,.slice bv kv dv]) (by simp [results,Tryz.results46,go_sem,cr0,cr1,cr2,cr3]) rfl ?_
 exact⟨_,rfl,⟨_,_,_,_,_,_,_,rfl,Vv.out,Fv.out,Gv.out⟩,hx⟩
theorem ref_Is (n m:Bool) (a b:Option Addr) (q c k d:Nat) (r:Rat) (w:World) (h:RatV w (.agg #[.bool n,.slice a q c,.bool m,.slice b k d]) r):
 Calls Tryz.prog 53 #[.agg #[.bool n,.slice a q c,.bool m,.slice b k d]] w fun e w'=>e=.returned (.bool (decide (r=0)))∧Ext w w':=by
 have h0:q=0↔r=0:=(BigV.len0 h.num).trans num_zero
 have hx:=Ext.alloc w (.cells #[.bool n,.slice a q c,.bool m,.slice b k d] 44)
 have hb:=Blk.new0 w #[.bool n,.slice a q c,.bool m,.slice b k d] 44
 have c1:=hb.cell (i:=1) rfl
 have hd:decide (q=0)=decide (r=0):=by simp only [h0]
 have HX:=Lib.hid hx
 have HD:=Lib.hid hd
 clear h h0 hb hx hd
 go_enter Tryz.func53,Tryz.ntmps53
 go_wp2_with fail
 go_ret
 have hq:(((q:Nat):Int) == 0)=decide (q=0):=by rw [Bool.eq_iff_iff];simp
 exact⟨congrArg (fun x=>Ending.returned (Value.bool x)) (hq.trans HD.out),HX.out⟩
def OwnP (rs:List Rat) (w:World) (e:Ending) (w':World):Prop:=∃ (v:Value) (K:List RatC),e=.returned v∧OwnRats w' w.heap.size v K rs∧(∀x∈K,∀o,o<w.heap.size→x.Off (some o))∧Ext w w'
set_option maxHeartbeats 8000000 in
theorem ref_scaled (a:Option Addr) (cap N:Nat) (V:Nat→RatC) (f:Nat→Rat) (nb mb:Bool) (ab bb_:Option Addr) (qb cb kb db:Nat) (b:Rat) (p q:Nat) (w:World) (ha:RowR w a cap N V f) (hb:RatV w (.agg #[.bool nb,.slice ab qb cb,.bool mb,.slice bb_ kb db]) b) (hsz:(∀c,c<N→Sz (f c) p)∧Sz b q∧p+q≤2048∧b≠0) (hN:N≤1000):
 Calls Tryz.prog 54 #[.slice a N cap,.agg #[.bool nb,.slice ab qb cb,.bool mb,.slice bb_ kb db]] w (OwnP ((List.range N).map fun c=>f c / b) w):=by
 have hle:=ha.le
 have hmx:=ha.mx
 have HA:=Lib.hid ha
 have HZ:=Lib.hid hsz
 have HB:=Lib.hid hb
 clear ha hsz hb
 have hx0:=Ext.alloc w (.cells #[.bool nb,.slice ab qb cb,.bool mb,.slice bb_ kb db] 44)
 have Kb:=Lib.hid (Blk.new0 w #[.bool nb,.slice ab qb cb,.bool mb,.slice bb_ kb db] 44)
 have HX0:=Lib.hid hx0
 go_enter Tryz.func54,Tryz.ntmps54
 go_upto_region 1 with fail
 generalize w.alloc (.cells #[.bool nb,.slice ab qb cb,.bool mb,.slice bb_ kb db] 44)=x0 at *
 have HKB:Hid (∀W,Ext x0 W→Blk W w.heap.size #[.bool nb,.slice ab qb cb,.bool mb,.slice bb_ kb db] 44):=Lib.hid fun W k=>Kb.out.ext k
 generalize hpb:w.heap.size=pb at Kb HKB ⊢
 clear Kb hx0
 go_wp2_with fail
 ·go_loopw [5,6] (fun s5 v wr=>∃i:Nat,i≤N∧v=.int .i64 i∧∃K,OwnRats wr x0.heap.size s5 K ((List.range i).map fun c=>f c / b)∧(∀x∈K,∀o,o<x0.heap.size→x.Off (some o))∧Ext x0 wr) (fun _ v _=>N - (intOf v).toNat)
  case atStart=>exact⟨0,Nat.zero_le _,rfl,[],OwnRats.nil _ _,fun x hx=>(by cases hx),Ext.refl _⟩
  case round=>
   obtain⟨i,hi,rfl,K,hO,hOK,hx⟩:=hrel
   have i0:(0:Int)≤(i:Int):=by omega
   obtain⟨va,vc,rfl,hvl,hvc⟩:=hO.form
   have hKl:K.length=i:=by have:=hO.len;rwa [List.length_map,List.length_range] at this
   have HO:=Lib.hid hO
   have HOK:=Lib.hid hOK
   have HXR:=Lib.hid hx
   have hx9:=hx
   replace hx:Ext w wr:=HX0.out.trans hx
   have HKL:=Lib.hid hKl
   clear hO hOK hKl
   by_cases hiN:i<N
   ·have i1:(i:Int)< (N:Int):=by omega
    have hw1:IntKind.i64.wrap ((i:Int)+1)= (i:Int)+1:=IntWalk.i64_in _ (by omega)
    obtain⟨ba,oa,rfl⟩:=(HA.out).head hiN
    obtain⟨_,c0,c1,c2,c3⟩:=(HA.out.ext hx).cells _ rfl i hiN
    have vx:=(HA.out.ext hx).val i hiN
    generalize V i=xc at *
    obtain⟨nx,ax,qx,cx,mx,bx,kx,dx⟩:=xc
    dsimp only [RatC.val] at c0 c1 c2 c3 vx
    have VX:=Lib.hid vx
    clear vx
    have VB:=Lib.hid (HB.out.ext hx)
    obtain⟨e0,e1,e2,e3⟩:=bk4 (Lib.hid (HKB.out wr hx9))
    go_upto_region 5 with fail
    go_cut [7,8] (fun s1 s2 wx=>∃ (p:Nat) (nd:Bool) (ad:Option Addr) (qd cd:Nat) (bd:Option Addr) (kd dd:Nat),s1=.pointer (some ⟨p,0,none⟩)∧s2=.int .i64 0∧Blk wx p #[.bool nd,.slice ad qd cd,.bool false,.slice bd kd dd] 44∧RatV wx (.agg #[.bool nd,.slice ad qd cd,.bool false,.slice bd kd dd]) (f i / b)∧((∀A',ad=some A'→wr.heap.size≤A'.block)∧∀A',bd=some A'→wr.heap.size≤A'.block)∧wr.heap.size≤p∧Ext wr wx)
    case first=>
     have hE:Ext wr (World.drew wr):=(Ext.refl _).drew
     have hyd:Ext wr (World.drew wr):=(Ext.refl _).drew
     replace hx:=hx.trans hyd
     replace VX:=Lib.hid (VX.out.ext hyd)
     replace VB:=Lib.hid (VB.out.ext hyd)
     clear hyd
     have s0:World.cell? (World.drew wr) ⟨ba,oa+i*4,none⟩=some (.bool nx):=c0
     have s1:World.cell? (World.drew wr) ⟨ba,oa+i*4+1,none⟩=some (.slice ax qx cx):=c1
     have s2:World.cell? (World.drew wr) ⟨ba,oa+i*4+2,none⟩=some (.bool mx):=c2
     have s3:World.cell? (World.drew wr) ⟨ba,oa+i*4+3,none⟩=some (.slice bx kx dx):=c3
     have s4:World.cell? (World.drew wr) ⟨pb,0,none⟩=some (.bool nb):=e0
     have s5:World.cell? (World.drew wr) ⟨pb,1,none⟩=some (.slice ab qb cb):=e1
     have s6:World.cell? (World.drew wr) ⟨pb,2,none⟩=some (.bool mb):=e2
     have s7:World.cell? (World.drew wr) ⟨pb,3,none⟩=some (.slice bb_ kb db):=e3
     refine wp_region_held_drew (S:=(fun w'=>World.cell? w' ⟨ba,oa+i*4,none⟩=some (.bool nx)∧World.cell? w' ⟨ba,oa+i*4+1,none⟩=some (.slice ax qx cx)∧World.cell? w' ⟨ba,oa+i*4+2,none⟩=some (.bool mx)∧World.cell? w' ⟨ba,oa+i*4+3,none⟩=some (.slice bx kx dx)∧World.cell? w' ⟨pb,0,none⟩=some (.bool nb)∧World.cell? w' ⟨pb,1,none⟩=some (.slice ab qb cb)∧World.cell? w' ⟨pb,2,none⟩=some (.bool mb)∧World.cell? w' ⟨pb,3,none⟩=some (.slice bb_ kb db))) (by kernel_rfl) ?_ (fun hHeld=>?_)
     ·exact⟨s0,s1,s2,s3,s4,s5,s6,s7⟩
     (try simp only [pur,Nat.reduceAdd])
     generalize World.drew wr=x71 at *
     refine tk (v:=?_) 0 rfl (by kernel_rfl) (fun _ _ _ h=>h) (by rfl) ?_ (by assumption) ?_
     rotate_left
     ·(intro w hSw;(try dsimp only at hSw);(try go_simp);(try with_reducible rfl))
     (try simp only [Act.put,pus])
     refine tk (v:=?_) 1 rfl (by kernel_rfl) (fun _ _ _ h=>h) (by rfl) ?_ (by assumption) ?_
     rotate_left
     ·(intro w hSw;(try dsimp only at hSw);(try go_simp);(try with_reducible rfl))
     (try simp only [Act.put,pus])
     refine tk (v:=?_) 2 rfl (by kernel_rfl) (fun _ _ _ h=>h) (by rfl) ?_ (by assumption) ?_
     rotate_left
     ·(intro w hSw;(try dsimp only at hSw);(try go_simp);(try with_reducible rfl))
     (try simp only [Act.put,pus])
     refine tk (v:=?_) 3 rfl (by kernel_rfl) (fun _ _ _ h=>h) (by rfl) ?_ (by assumption) ?_
     rotate_left
     ·(intro w hSw;(try dsimp only at hSw);(try go_simp);(try with_reducible rfl))
     (try simp only [Act.put,pus])
     refine tk (v:=?_) 4 rfl (by kernel_rfl) (fun _ _ _ h=>h) (by rfl) ?_ (by assumption) ?_
     rotate_left
     ·(intro w hSw;(try dsimp only at hSw);(try go_simp);(try with_reducible rfl))
     (try simp only [Act.put,pus])
     refine wpAnyH_ready (rs:=[5,9]) (by kernel_rfl) (by simp) ?_
     refine AllReadyH.cons (o:=_) rfl (fun K hK=>?_) ?_
     ·go_simp
      have hzx:=hE.size;(with_reducible refine(rQuo_valR VX.out VB.out (HZ.out.1 i hiN) HZ.out.2.1 HZ.out.2.2.1 HZ.out.2.2.2).mono ?_);rintro e x72 ⟨v1,rfl,hv,hy⟩;replace hE:=hE.trans hy;replace hx:=hx.trans hy;replace s0:=cell_exQ hy s0;replace s1:=cell_exQ hy s1;replace s2:=cell_exQ hy s2;replace s3:=cell_exQ hy s3;replace s4:=cell_exQ hy s4;replace s5:=cell_exQ hy s5;replace s6:=cell_exQ hy s6;replace s7:=cell_exQ hy s7;replace VX:=Lib.hid (VX.out.ext hy);replace VB:=Lib.hid (VB.out.ext hy);clear hy;obtain⟨nd,ad,qd,cd,bd,kd,dd,rfl,hv',hf',hg'⟩:=hv;have Vd:=Lib.hid hv';have Fd:=Lib.hid (And.intro (fun A' hA=>Nat.le_trans hzx (hf' A' hA)) (fun A' hA=>Nat.le_trans hzx (hg' A' hA)));clear hv' hf' hg' hzx
      refine hK.out _ _ ?_ (fun hHeld2=>?_)
      ·exact⟨s0,s1,s2,s3,s4,s5,s6,s7⟩
      clear hK K hHeld
      have hHeld:=hHeld2
      clear hHeld2
      (try simp only [Act.put,pus])
      refine tk (v:=?_) 6 rfl (by kernel_rfl) (fun _ _ _ h=>h) (by rfl) ?_ (by assumption) ?_
      rotate_left
      ·(intro w hSw;(try dsimp only at hSw);(try go_simp);(try with_reducible rfl))
      (try simp only [Act.put,pus])
      refine tk (v:=?_) 7 rfl (by kernel_rfl) (fun _ _ _ h=>h) (by rfl) ?_ (by assumption) ?_
      rotate_left
      ·(intro w hSw;(try dsimp only at hSw);(try go_simp);(try with_reducible rfl))
      (try simp only [Act.put,pus])
      refine tk (v:=?_) 8 rfl (by kernel_rfl) (fun _ _ _ h=>h) (by rfl) ?_ (by assumption) ?_
      rotate_left
      ·(intro w hSw;(try dsimp only at hSw);(try go_simp);(try with_reducible rfl))
      (try simp only [Act.put,pus])
      refine wpAnyH_ready (rs:=[9]) (by kernel_rfl) (by simp) ?_
      refine AllReadyH.cons (o:=_) rfl (fun K hK=>?_) ?_
      ·go_simp
       have hy:Ext x72 (World.alloc x72 (.cells #[.bool false,.slice none 0 0,.bool false,.slice none 0 0] 44)):=Ext.alloc _ _;have hpd:w.heap.size≤Array.size (World.heap x72):=hx.size;have hqd:=hE.size;replace hE:=hE.trans hy;replace hx:=hx.trans hy;have md0:=lt_of_cell s0;replace s0:=cell_exQ hy s0;replace s1:=cell_exQ hy s1;replace s2:=cell_exQ hy s2;replace s3:=cell_exQ hy s3;have md4:=lt_of_cell s4;replace s4:=cell_exQ hy s4;replace s5:=cell_exQ hy s5;replace s6:=cell_exQ hy s6;replace s7:=cell_exQ hy s7;replace VX:=Lib.hid (VX.out.ext hy);replace VB:=Lib.hid (VB.out.ext hy);replace Vd:=Lib.hid (Vd.out.ext hy);have Kd:=Lib.hid (Blk.new0 x72 #[.bool false,.slice none 0 0,.bool false,.slice none 0 0] 44);clear hy;generalize World.alloc x72 (.cells #[.bool false,.slice none 0 0,.bool false,.slice none 0 0] 44)=x73 at *;generalize Array.size (World.heap x72)=pd at *
       refine hK.out _ _ ?_ (fun hHeld2=>?_)
       ·exact⟨s0,s1,s2,s3,s4,s5,s6,s7⟩
       clear hK K hHeld
       have hHeld:=hHeld2
       clear hHeld2
       (try simp only [Act.put,pus])
       refine wpAnyH_ready (rs:=[10]) (by kernel_rfl) (by simp) ?_
       refine AllReadyH.cons (o:=_) rfl (fun K hK=>?_) ?_
       ·obtain⟨g0,z0,g1,z1,g2,z2,g3,z3⟩:=bp4 Kd (.bool nd) (.slice ad qd cd) (.bool false) (.slice bd kd dd);go_simp;clear g0 z0 g1 z1 g2 z2 g3 z3;replace Vd:=(by first | exact rv4 Vd Kd (.bool nd) (.slice ad qd cd) (.bool false) (.slice bd kd dd) rfl rfl rfl rfl | exact bv4 Vd Kd (.bool nd) (.slice ad qd cd) (.bool false) (.slice bd kd dd) rfl rfl rfl rfl);replace hx:=bx4 hx (pd) (.bool nd) (.slice ad qd cd) (.bool false) (.slice bd kd dd) (by omega);replace hE:=bx4 hE (pd) (.bool nd) (.slice ad qd cd) (.bool false) (.slice bd kd dd) (by omega);replace s0:=bf4 s0 (pd) (.bool nd) (.slice ad qd cd) (.bool false) (.slice bd kd dd) (by omega);replace s1:=bf4 s1 (pd) (.bool nd) (.slice ad qd cd) (.bool false) (.slice bd kd dd) (by omega);replace s2:=bf4 s2 (pd) (.bool nd) (.slice ad qd cd) (.bool false) (.slice bd kd dd) (by omega);replace s3:=bf4 s3 (pd) (.bool nd) (.slice ad qd cd) (.bool false) (.slice bd kd dd) (by omega);replace s4:=bf4 s4 (pd) (.bool nd) (.slice ad qd cd) (.bool false) (.slice bd kd dd) (by omega);replace s5:=bf4 s5 (pd) (.bool nd) (.slice ad qd cd) (.bool false) (.slice bd kd dd) (by omega);replace s6:=bf4 s6 (pd) (.bool nd) (.slice ad qd cd) (.bool false) (.slice bd kd dd) (by omega);replace s7:=bf4 s7 (pd) (.bool nd) (.slice ad qd cd) (.bool false) (.slice bd kd dd) (by omega);replace Kd:=bs4 Kd (.bool nd) (.slice ad qd cd) (.bool false) (.slice bd kd dd);generalize (World.setCell (World.setCell (World.setCell (World.setCell x73 ⟨pd,0,none⟩ (.bool nd)) ⟨pd,1,none⟩ (.slice ad qd cd)) ⟨pd,2,none⟩ (.bool false)) ⟨pd,3,none⟩ (.slice bd kd dd))=xe at *
        refine hK.out _ _ ?_ (fun hHeld2=>?_)
        ·exact⟨s0,s1,s2,s3,s4,s5,s6,s7⟩
        clear hK K hHeld
        have hHeld:=hHeld2
        clear hHeld2
        (try simp only [Act.put,pus])
        refine tk (v:=?_) 11 rfl (by kernel_rfl) (fun _ _ _ h=>h) (by rfl) ?_ (by assumption) ?_
        rotate_left
        ·(intro w hSw;(try dsimp only at hSw);(try go_simp);(try with_reducible rfl))
        (try simp only [Act.put,pus])
        refine wpAnyH_done (by kernel_rfl) ?_ _
        (go_wp2_with fail;go_meet;exact⟨_,_,_,_,_,_,_,_,rfl,rfl,Kd.out,Vd.out,Fd.out,hqd,hE⟩)
       exact AllReadyH.nil
      exact AllReadyH.nil
     refine AllReadyH.cons (o:=_) rfl (fun K hK=>?_) ?_
     ·go_simp
      have hy:Ext x71 (World.alloc x71 (.cells #[.bool false,.slice none 0 0,.bool false,.slice none 0 0] 44)):=Ext.alloc _ _;have hpd:w.heap.size≤Array.size (World.heap x71):=hx.size;have hqd:=hE.size;replace hE:=hE.trans hy;replace hx:=hx.trans hy;have md0:=lt_of_cell s0;replace s0:=cell_exQ hy s0;replace s1:=cell_exQ hy s1;replace s2:=cell_exQ hy s2;replace s3:=cell_exQ hy s3;have md4:=lt_of_cell s4;replace s4:=cell_exQ hy s4;replace s5:=cell_exQ hy s5;replace s6:=cell_exQ hy s6;replace s7:=cell_exQ hy s7;replace VX:=Lib.hid (VX.out.ext hy);replace VB:=Lib.hid (VB.out.ext hy);have Kd:=Lib.hid (Blk.new0 x71 #[.bool false,.slice none 0 0,.bool false,.slice none 0 0] 44);clear hy;generalize World.alloc x71 (.cells #[.bool false,.slice none 0 0,.bool false,.slice none 0 0] 44)=x74 at *;generalize Array.size (World.heap x71)=pd at *
      refine hK.out _ _ ?_ (fun hHeld2=>?_)
      ·exact⟨s0,s1,s2,s3,s4,s5,s6,s7⟩
      clear hK K hHeld
      have hHeld:=hHeld2
      clear hHeld2
      (try simp only [Act.put,pus])
      refine wpAnyH_ready (rs:=[5]) (by kernel_rfl) (by simp) ?_
      refine AllReadyH.cons (o:=_) rfl (fun K hK=>?_) ?_
      ·go_simp
       have hzx:=hE.size;(with_reducible refine(rQuo_valR VX.out VB.out (HZ.out.1 i hiN) HZ.out.2.1 HZ.out.2.2.1 HZ.out.2.2.2).mono ?_);rintro e x75 ⟨v1,rfl,hv,hy⟩;replace hE:=hE.trans hy;replace hx:=hx.trans hy;replace s0:=cell_exQ hy s0;replace s1:=cell_exQ hy s1;replace s2:=cell_exQ hy s2;replace s3:=cell_exQ hy s3;replace s4:=cell_exQ hy s4;replace s5:=cell_exQ hy s5;replace s6:=cell_exQ hy s6;replace s7:=cell_exQ hy s7;replace Kd:=kE Kd hy;replace VX:=Lib.hid (VX.out.ext hy);replace VB:=Lib.hid (VB.out.ext hy);clear hy;obtain⟨nd,ad,qd,cd,bd,kd,dd,rfl,hv',hf',hg'⟩:=hv;have Vd:=Lib.hid hv';have Fd:=Lib.hid (And.intro (fun A' hA=>Nat.le_trans hzx (hf' A' hA)) (fun A' hA=>Nat.le_trans hzx (hg' A' hA)));clear hv' hf' hg' hzx
       refine hK.out _ _ ?_ (fun hHeld2=>?_)
       ·exact⟨s0,s1,s2,s3,s4,s5,s6,s7⟩
       clear hK K hHeld
       have hHeld:=hHeld2
       clear hHeld2
       (try simp only [Act.put,pus])
       refine tk (v:=?_) 6 rfl (by kernel_rfl) (fun _ _ _ h=>h) (by rfl) ?_ (by assumption) ?_
       rotate_left
       ·(intro w hSw;(try dsimp only at hSw);(try go_simp);(try with_reducible rfl))
       (try simp only [Act.put,pus])
       refine tk (v:=?_) 7 rfl (by kernel_rfl) (fun _ _ _ h=>h) (by rfl) ?_ (by assumption) ?_
       rotate_left
       ·(intro w hSw;(try dsimp only at hSw);(try go_simp);(try with_reducible rfl))
       (try simp only [Act.put,pus])
       refine tk (v:=?_) 8 rfl (by kernel_rfl) (fun _ _ _ h=>h) (by rfl) ?_ (by assumption) ?_
       rotate_left
       ·(intro w hSw;(try dsimp only at hSw);(try go_simp);(try with_reducible rfl))
       (try simp only [Act.put,pus])
       refine wpAnyH_ready (rs:=[10]) (by kernel_rfl) (by simp) ?_
       refine AllReadyH.cons (o:=_) rfl (fun K hK=>?_) ?_
       ·obtain⟨g0,z0,g1,z1,g2,z2,g3,z3⟩:=bp4 Kd (.bool nd) (.slice ad qd cd) (.bool false) (.slice bd kd dd);go_simp;clear g0 z0 g1 z1 g2 z2 g3 z3;replace Vd:=(by first | exact rv4 Vd Kd (.bool nd) (.slice ad qd cd) (.bool false) (.slice bd kd dd) rfl rfl rfl rfl | exact bv4 Vd Kd (.bool nd) (.slice ad qd cd) (.bool false) (.slice bd kd dd) rfl rfl rfl rfl);replace hx:=bx4 hx (pd) (.bool nd) (.slice ad qd cd) (.bool false) (.slice bd kd dd) (by omega);replace hE:=bx4 hE (pd) (.bool nd) (.slice ad qd cd) (.bool false) (.slice bd kd dd) (by omega);replace s0:=bf4 s0 (pd) (.bool nd) (.slice ad qd cd) (.bool false) (.slice bd kd dd) (by omega);replace s1:=bf4 s1 (pd) (.bool nd) (.slice ad qd cd) (.bool false) (.slice bd kd dd) (by omega);replace s2:=bf4 s2 (pd) (.bool nd) (.slice ad qd cd) (.bool false) (.slice bd kd dd) (by omega);replace s3:=bf4 s3 (pd) (.bool nd) (.slice ad qd cd) (.bool false) (.slice bd kd dd) (by omega);replace s4:=bf4 s4 (pd) (.bool nd) (.slice ad qd cd) (.bool false) (.slice bd kd dd) (by omega);replace s5:=bf4 s5 (pd) (.bool nd) (.slice ad qd cd) (.bool false) (.slice bd kd dd) (by omega);replace s6:=bf4 s6 (pd) (.bool nd) (.slice ad qd cd) (.bool false) (.slice bd kd dd) (by omega);replace s7:=bf4 s7 (pd) (.bool nd) (.slice ad qd cd) (.bool false) (.slice bd kd dd) (by omega);replace Kd:=bs4 Kd (.bool nd) (.slice ad qd cd) (.bool false) (.slice bd kd dd);generalize (World.setCell (World.setCell (World.setCell (World.setCell x75 ⟨pd,0,none⟩ (.bool nd)) ⟨pd,1,none⟩ (.slice ad qd cd)) ⟨pd,2,none⟩ (.bool false)) ⟨pd,3,none⟩ (.slice bd kd dd))=xe at *
        refine hK.out _ _ ?_ (fun hHeld2=>?_)
        ·exact⟨s0,s1,s2,s3,s4,s5,s6,s7⟩
        clear hK K hHeld
        have hHeld:=hHeld2
        clear hHeld2
        (try simp only [Act.put,pus])
        refine tk (v:=?_) 11 rfl (by kernel_rfl) (fun _ _ _ h=>h) (by rfl) ?_ (by assumption) ?_
        rotate_left
        ·(intro w hSw;(try dsimp only at hSw);(try go_simp);(try with_reducible rfl))
        (try simp only [Act.put,pus])
        refine wpAnyH_done (by kernel_rfl) ?_ _
        (go_wp2_with fail;go_meet;exact⟨_,_,_,_,_,_,_,_,rfl,rfl,Kd.out,Vd.out,Fd.out,hqd,hE⟩)
       exact AllReadyH.nil
      exact AllReadyH.nil
     exact AllReadyH.nil
    case rest=>
    obtain⟨pd,nd,ad,qd,cd,bd,kd,dd,rfl,rfl,hkd,hvd,hfd,hpd,hyd⟩:=hcut
    have HXD:=Lib.hid (HXR.out.trans hyd)
    have HOD:=Lib.hid (HO.out.ext hyd)
    have hlt:=HO.out.lt
    have hws:=HXR.out.size
    have hya:=Ext.alloc wc (.cells #[.bool nd,.slice ad qd cd,.bool false,.slice bd kd dd] 44)
    have HBz:=Lib.hid (Blk.new0 wc #[.bool nd,.slice ad qd cd,.bool false,.slice bd kd dd] 44)
    have HXa:=Lib.hid (HXD.out.trans hya)
    have HOa:=Lib.hid (HOD.out.ext hya)
    have HVa:=Lib.hid (RatV.ext hvd hya)
    have hfd1:=hfd.1
    have hfd2:=hfd.2
    have HOFF:Hid (RatC.Off ⟨nd,ad,qd,cd,false,bd,kd,dd⟩ (Value.slice va K.length vc).ownBlock):=Lib.hid ⟨fun _ A' hA e=>by have:=hfd1 A' hA;have:=(hlt _ e).2;omega,fun _ A' hA e=>by have:=hfd2 A' hA;have:=(hlt _ e).2;omega⟩
    have HOF2:Hid (∀o,o<x0.heap.size→RatC.Off ⟨nd,ad,qd,cd,false,bd,kd,dd⟩ (some o)):=Lib.hid fun o ho=>⟨fun _ A' hA e=>by have:=hfd1 A' hA;injection e with e;omega,fun _ A' hA e=>by have:=hfd2 A' hA;injection e with e;omega⟩
    obtain⟨k0_,k1_,k2_,k3_⟩:=bk4 (Lib.hid hkd)
    clear hya hvd hlt hfd hfd1 hfd2 HO HOD HXR HXD hyd
    go_wp2_with (at_builtin;refine wpl_append_rat rfl (.tmp 24) (.tmp 26) rfl HXa.out rfl HOa.out rfl (x:=⟨nd,ad,qd,cd,false,bd,kd,dd⟩) (r:=f i / b) HBz.out HVa.out HOFF.out (by have:=HKL.out;omega) ?_;intro v' w3 hO' hE' hg' hat')
    obtain⟨ua,uc,rfl,hul,huc⟩:=hO'.form
    go_roundw
    case rel=>exact⟨i+1,by omega,by go_num,_,(by rw [List.range_succ,List.map_append];exact hO'),fun y hy o ho=>(List.mem_append.1 hy).elim (fun h=>HOK.out y h o ho) (fun h=>by rw [List.mem_singleton.1 h];exact HOF2.out o ho),hE'⟩
    case measure=>simp [intOf];omega
   ·have i1:¬ (i:Int)< (N:Int):=by omega
    obtain rfl:i=N:=by omega
    have HP:Hid (OwnP ((List.range i).map fun c=>f c / b) w (.returned (.slice va K.length vc)) wr):=Lib.hid ⟨_,K,rfl,HO.out.low HX0.out.size,fun x hx o ho=>HOK.out x hx o (Nat.lt_of_lt_of_le ho HX0.out.size),HX0.out.trans HXR.out⟩
    clear HO HOK HXR HKL
    go_wp2_with fail
    go_ret
    exact HP.out
set_option maxHeartbeats 8000000 in
theorem ref_lessR (a:Option Addr) (cap N:Nat) (V:Nat→RatC) (f:Nat→Rat) (o:Option Addr) (co:Nat) (U:Nat→RatC) (h:Nat→Rat) (nb mb:Bool) (ab bb_:Option Addr) (qb cb kb db:Nat) (b:Rat) (p q z:Nat) (w:World) (ha:RowR w a cap N V f) (ho2:RowR w o co N U h) (hb:RatV w (.agg #[.bool nb,.slice ab qb cb,.bool mb,.slice bb_ kb db]) b) (hsz:(∀c,c<N→Sz (f c) p)∧(∀c,c<N→Sz (h c) q)∧Sz b z∧p+ (q+z)+1≤2048) (hN:N≤1000):
 Calls Tryz.prog 55 #[.slice a N cap,.slice o N co,.agg #[.bool nb,.slice ab qb cb,.bool mb,.slice bb_ kb db]] w (OwnP ((List.range N).map fun c=>f c - h c*b) w):=by
 have hle:=ha.le
 have hmx:=ha.mx
 have HA:=Lib.hid ha
 have HZ:=Lib.hid hsz
 have HB:=Lib.hid hb
 clear ha hsz hb
 have ole:=ho2.le
 have omx:=ho2.mx
 have HO2:=Lib.hid ho2
 clear ho2
 have hx0:=Ext.alloc w (.cells #[.bool nb,.slice ab qb cb,.bool mb,.slice bb_ kb db] 44)
 have Kb:=Lib.hid (Blk.new0 w #[.bool nb,.slice ab qb cb,.bool mb,.slice bb_ kb db] 44)
 have HX0:=Lib.hid hx0
 go_enter Tryz.func55,Tryz.ntmps55
 go_upto_region 1 with fail
 generalize w.alloc (.cells #[.bool nb,.slice ab qb cb,.bool mb,.slice bb_ kb db] 44)=x0 at *
 have HKB:Hid (∀W,Ext x0 W→Blk W w.heap.size #[.bool nb,.slice ab qb cb,.bool mb,.slice bb_ kb db] 44):=Lib.hid fun W k=>Kb.out.ext k
 generalize hpb:w.heap.size=pb at Kb HKB ⊢
 clear Kb hx0
 go_wp2_with fail
 ·go_loopw [7,8] (fun s5 v wr=>∃i:Nat,i≤N∧v=.int .i64 i∧∃K,OwnRats wr x0.heap.size s5 K ((List.range i).map fun c=>f c - h c*b)∧(∀x∈K,∀o,o<x0.heap.size→x.Off (some o))∧Ext x0 wr) (fun _ v _=>N - (intOf v).toNat)
  case atStart=>exact⟨0,Nat.zero_le _,rfl,[],OwnRats.nil _ _,fun x hx=>(by cases hx),Ext.refl _⟩
  case round=>
   obtain⟨i,hi,rfl,K,hO,hOK,hx⟩:=hrel
   have i0:(0:Int)≤(i:Int):=by omega
   obtain⟨va,vc,rfl,hvl,hvc⟩:=hO.form
   have hKl:K.length=i:=by have:=hO.len;rwa [List.length_map,List.length_range] at this
   have HO:=Lib.hid hO
   have HOK:=Lib.hid hOK
   have HXR:=Lib.hid hx
   have hx9:=hx
   replace hx:Ext w wr:=HX0.out.trans hx
   have HKL:=Lib.hid hKl
   clear hO hOK hKl
   by_cases hiN:i<N
   ·have i1:(i:Int)< (N:Int):=by omega
    have hw1:IntKind.i64.wrap ((i:Int)+1)= (i:Int)+1:=IntWalk.i64_in _ (by omega)
    have VB:=Lib.hid (HB.out.ext hx)
    obtain⟨e0,e1,e2,e3⟩:=bk4 (Lib.hid (HKB.out wr hx9))
    obtain⟨bb,ob,rfl⟩:=(HO2.out).head hiN
    obtain⟨_,d0,d1,d2,d3⟩:=(HO2.out.ext hx).cells _ rfl i hiN
    have vy:=(HO2.out.ext hx).val i hiN
    generalize U i=yc at *
    obtain⟨ny,ay,qy,cy,my,by_,ky,dy⟩:=yc
    dsimp only [RatC.val] at d0 d1 d2 d3 vy
    have VY:=Lib.hid vy
    clear vy
    go_upto_region 5 with fail
    go_cut [9,10] (fun s1 s2 wx=>∃ (p:Nat) (nd:Bool) (ad:Option Addr) (qd cd:Nat) (bd:Option Addr) (kd dd:Nat),s1=.pointer (some ⟨p,0,none⟩)∧s2=.int .i64 0∧Blk wx p #[.bool nd,.slice ad qd cd,.bool false,.slice bd kd dd] 44∧RatV wx (.agg #[.bool nd,.slice ad qd cd,.bool false,.slice bd kd dd]) (h i*b)∧((∀A',ad=some A'→wr.heap.size≤A'.block)∧∀A',bd=some A'→wr.heap.size≤A'.block)∧wr.heap.size≤p∧Ext wr wx)
    case first=>
     have hE:Ext wr (World.drew wr):=(Ext.refl _).drew
     have hyd:Ext wr (World.drew wr):=(Ext.refl _).drew
     replace hx:=hx.trans hyd
     replace VY:=Lib.hid (VY.out.ext hyd)
     replace VB:=Lib.hid (VB.out.ext hyd)
     clear hyd
     have s0:World.cell? (World.drew wr) ⟨bb,ob+i*4,none⟩=some (.bool ny):=d0
     have s1:World.cell? (World.drew wr) ⟨bb,ob+i*4+1,none⟩=some (.slice ay qy cy):=d1
     have s2:World.cell? (World.drew wr) ⟨bb,ob+i*4+2,none⟩=some (.bool my):=d2
     have s3:World.cell? (World.drew wr) ⟨bb,ob+i*4+3,none⟩=some (.slice by_ ky dy):=d3
     have s4:World.cell? (World.drew wr) ⟨pb,0,none⟩=some (.bool nb):=e0
     have s5:World.cell? (World.drew wr) ⟨pb,1,none⟩=some (.slice ab qb cb):=e1
     have s6:World.cell? (World.drew wr) ⟨pb,2,none⟩=some (.bool mb):=e2
     have s7:World.cell? (World.drew wr) ⟨pb,3,none⟩=some (.slice bb_ kb db):=e3
     refine wp_region_held_drew (S:=(fun w'=>World.cell? w' ⟨bb,ob+i*4,none⟩=some (.bool ny)∧World.cell? w' ⟨bb,ob+i*4+1,none⟩=some (.slice ay qy cy)∧World.cell? w' ⟨bb,ob+i*4+2,none⟩=some (.bool my)∧World.cell? w' ⟨bb,ob+i*4+3,none⟩=some (.slice by_ ky dy)∧World.cell? w' ⟨pb,0,none⟩=some (.bool nb)∧World.cell? w' ⟨pb,1,none⟩=some (.slice ab qb cb)∧World.cell? w' ⟨pb,2,none⟩=some (.bool mb)∧World.cell? w' ⟨pb,3,none⟩=some (.slice bb_ kb db))) (by kernel_rfl) ?_ (fun hHeld=>?_)
     ·exact⟨s0,s1,s2,s3,s4,s5,s6,s7⟩
     (try simp only [pur,Nat.reduceAdd])
     generalize World.drew wr=x71 at *
     refine tk (v:=?_) 0 rfl (by kernel_rfl) (fun _ _ _ h=>h) (by rfl) ?_ (by assumption) ?_
     rotate_left
     ·(intro w hSw;(try dsimp only at hSw);(try go_simp);(try with_reducible rfl))
     (try simp only [Act.put,pus])
     refine tk (v:=?_) 1 rfl (by kernel_rfl) (fun _ _ _ h=>h) (by rfl) ?_ (by assumption) ?_
     rotate_left
     ·(intro w hSw;(try dsimp only at hSw);(try go_simp);(try with_reducible rfl))
     (try simp only [Act.put,pus])
     refine tk (v:=?_) 2 rfl (by kernel_rfl) (fun _ _ _ h=>h) (by rfl) ?_ (by assumption) ?_
     rotate_left
     ·(intro w hSw;(try dsimp only at hSw);(try go_simp);(try with_reducible rfl))
     (try simp only [Act.put,pus])
     refine tk (v:=?_) 3 rfl (by kernel_rfl) (fun _ _ _ h=>h) (by rfl) ?_ (by assumption) ?_
     rotate_left
     ·(intro w hSw;(try dsimp only at hSw);(try go_simp);(try with_reducible rfl))
     (try simp only [Act.put,pus])
     refine tk (v:=?_) 4 rfl (by kernel_rfl) (fun _ _ _ h=>h) (by rfl) ?_ (by assumption) ?_
     rotate_left
     ·(intro w hSw;(try dsimp only at hSw);(try go_simp);(try with_reducible rfl))
     (try simp only [Act.put,pus])
     refine wpAnyH_ready (rs:=[5,9]) (by kernel_rfl) (by simp) ?_
     refine AllReadyH.cons (o:=_) rfl (fun K hK=>?_) ?_
     ·go_simp
      have hzx:=hE.size;(with_reducible refine(rMul_valR VY.out VB.out (HZ.out.2.1 i hiN) HZ.out.2.2.1 (by have:=HZ.out.2.2.2;omega)).mono ?_);rintro e x72 ⟨v1,rfl,hv,hy⟩;replace hE:=hE.trans hy;replace hx:=hx.trans hy;replace s0:=cell_exQ hy s0;replace s1:=cell_exQ hy s1;replace s2:=cell_exQ hy s2;replace s3:=cell_exQ hy s3;replace s4:=cell_exQ hy s4;replace s5:=cell_exQ hy s5;replace s6:=cell_exQ hy s6;replace s7:=cell_exQ hy s7;replace VY:=Lib.hid (VY.out.ext hy);replace VB:=Lib.hid (VB.out.ext hy);clear hy;obtain⟨nd,ad,qd,cd,bd,kd,dd,rfl,hv',hf',hg'⟩:=hv;have Vd:=Lib.hid hv';have Fd:=Lib.hid (And.intro (fun A' hA=>Nat.le_trans hzx (hf' A' hA)) (fun A' hA=>Nat.le_trans hzx (hg' A' hA)));clear hv' hf' hg' hzx
      refine hK.out _ _ ?_ (fun hHeld2=>?_)
      ·exact⟨s0,s1,s2,s3,s4,s5,s6,s7⟩
      clear hK K hHeld
      have hHeld:=hHeld2
      clear hHeld2
      (try simp only [Act.put,pus])
      refine tk (v:=?_) 6 rfl (by kernel_rfl) (fun _ _ _ h=>h) (by rfl) ?_ (by assumption) ?_
      rotate_left
      ·(intro w hSw;(try dsimp only at hSw);(try go_simp);(try with_reducible rfl))
      (try simp only [Act.put,pus])
      refine tk (v:=?_) 7 rfl (by kernel_rfl) (fun _ _ _ h=>h) (by rfl) ?_ (by assumption) ?_
      rotate_left
      ·(intro w hSw;(try dsimp only at hSw);(try go_simp);(try with_reducible rfl))
      (try simp only [Act.put,pus])
      refine tk (v:=?_) 8 rfl (by kernel_rfl) (fun _ _ _ h=>h) (by rfl) ?_ (by assumption) ?_
      rotate_left
      ·(intro w hSw;(try dsimp only at hSw);(try go_simp);(try with_reducible rfl))
      (try simp only [Act.put,pus])
      refine wpAnyH_ready (rs:=[9]) (by kernel_rfl) (by simp) ?_
      refine AllReadyH.cons (o:=_) rfl (fun K hK=>?_) ?_
      ·go_simp
       have hy:Ext x72 (World.alloc x72 (.cells #[.bool false,.slice none 0 0,.bool false,.slice none 0 0] 44)):=Ext.alloc _ _;have hpd:w.heap.size≤Array.size (World.heap x72):=hx.size;have hqd:=hE.size;replace hE:=hE.trans hy;replace hx:=hx.trans hy;have md0:=lt_of_cell s0;replace s0:=cell_exQ hy s0;replace s1:=cell_exQ hy s1;replace s2:=cell_exQ hy s2;replace s3:=cell_exQ hy s3;have md4:=lt_of_cell s4;replace s4:=cell_exQ hy s4;replace s5:=cell_exQ hy s5;replace s6:=cell_exQ hy s6;replace s7:=cell_exQ hy s7;replace VY:=Lib.hid (VY.out.ext hy);replace VB:=Lib.hid (VB.out.ext hy);replace Vd:=Lib.hid (Vd.out.ext hy);have Kd:=Lib.hid (Blk.new0 x72 #[.bool false,.slice none 0 0,.bool false,.slice none 0 0] 44);clear hy;generalize World.alloc x72 (.cells #[.bool false,.slice none 0 0,.bool false,.slice none 0 0] 44)=x73 at *;generalize Array.size (World.heap x72)=pd at *
       refine hK.out _ _ ?_ (fun hHeld2=>?_)
       ·exact⟨s0,s1,s2,s3,s4,s5,s6,s7⟩
       clear hK K hHeld
       have hHeld:=hHeld2
       clear hHeld2
       (try simp only [Act.put,pus])
       refine wpAnyH_ready (rs:=[10]) (by kernel_rfl) (by simp) ?_
       refine AllReadyH.cons (o:=_) rfl (fun K hK=>?_) ?_
       ·obtain⟨g0,z0,g1,z1,g2,z2,g3,z3⟩:=bp4 Kd (.bool nd) (.slice ad qd cd) (.bool false) (.slice bd kd dd);go_simp;clear g0 z0 g1 z1 g2 z2 g3 z3;replace Vd:=(by first | exact rv4 Vd Kd (.bool nd) (.slice ad qd cd) (.bool false) (.slice bd kd dd) rfl rfl rfl rfl | exact bv4 Vd Kd (.bool nd) (.slice ad qd cd) (.bool false) (.slice bd kd dd) rfl rfl rfl rfl);replace hx:=bx4 hx (pd) (.bool nd) (.slice ad qd cd) (.bool false) (.slice bd kd dd) (by omega);replace hE:=bx4 hE (pd) (.bool nd) (.slice ad qd cd) (.bool false) (.slice bd kd dd) (by omega);replace s0:=bf4 s0 (pd) (.bool nd) (.slice ad qd cd) (.bool false) (.slice bd kd dd) (by omega);replace s1:=bf4 s1 (pd) (.bool nd) (.slice ad qd cd) (.bool false) (.slice bd kd dd) (by omega);replace s2:=bf4 s2 (pd) (.bool nd) (.slice ad qd cd) (.bool false) (.slice bd kd dd) (by omega);replace s3:=bf4 s3 (pd) (.bool nd) (.slice ad qd cd) (.bool false) (.slice bd kd dd) (by omega);replace s4:=bf4 s4 (pd) (.bool nd) (.slice ad qd cd) (.bool false) (.slice bd kd dd) (by omega);replace s5:=bf4 s5 (pd) (.bool nd) (.slice ad qd cd) (.bool false) (.slice bd kd dd) (by omega);replace s6:=bf4 s6 (pd) (.bool nd) (.slice ad qd cd) (.bool false) (.slice bd kd dd) (by omega);replace s7:=bf4 s7 (pd) (.bool nd) (.slice ad qd cd) (.bool false) (.slice bd kd dd) (by omega);replace Kd:=bs4 Kd (.bool nd) (.slice ad qd cd) (.bool false) (.slice bd kd dd);generalize (World.setCell (World.setCell (World.setCell (World.setCell x73 ⟨pd,0,none⟩ (.bool nd)) ⟨pd,1,none⟩ (.slice ad qd cd)) ⟨pd,2,none⟩ (.bool false)) ⟨pd,3,none⟩ (.slice bd kd dd))=xe at *
        refine hK.out _ _ ?_ (fun hHeld2=>?_)
        ·exact⟨s0,s1,s2,s3,s4,s5,s6,s7⟩
        clear hK K hHeld
        have hHeld:=hHeld2
        clear hHeld2
        (try simp only [Act.put,pus])
        refine tk (v:=?_) 11 rfl (by kernel_rfl) (fun _ _ _ h=>h) (by rfl) ?_ (by assumption) ?_
        rotate_left
        ·(intro w hSw;(try dsimp only at hSw);(try go_simp);(try with_reducible rfl))
        (try simp only [Act.put,pus])
        refine wpAnyH_done (by kernel_rfl) ?_ _
        (go_wp2_with fail;go_meet;exact⟨_,_,_,_,_,_,_,_,rfl,rfl,Kd.out,Vd.out,Fd.out,hqd,hE⟩)
       exact AllReadyH.nil
      exact AllReadyH.nil
     refine AllReadyH.cons (o:=_) rfl (fun K hK=>?_) ?_
     ·go_simp
      have hy:Ext x71 (World.alloc x71 (.cells #[.bool false,.slice none 0 0,.bool false,.slice none 0 0] 44)):=Ext.alloc _ _;have hpd:w.heap.size≤Array.size (World.heap x71):=hx.size;have hqd:=hE.size;replace hE:=hE.trans hy;replace hx:=hx.trans hy;have md0:=lt_of_cell s0;replace s0:=cell_exQ hy s0;replace s1:=cell_exQ hy s1;replace s2:=cell_exQ hy s2;replace s3:=cell_exQ hy s3;have md4:=lt_of_cell s4;replace s4:=cell_exQ hy s4;replace s5:=cell_exQ hy s5;replace s6:=cell_exQ hy s6;replace s7:=cell_exQ hy s7;replace VY:=Lib.hid (VY.out.ext hy);replace VB:=Lib.hid (VB.out.ext hy);have Kd:=Lib.hid (Blk.new0 x71 #[.bool false,.slice none 0 0,.bool false,.slice none 0 0] 44);clear hy;generalize World.alloc x71 (.cells #[.bool false,.slice none 0 0,.bool false,.slice none 0 0] 44)=x74 at *;generalize Array.size (World.heap x71)=pd at *
      refine hK.out _ _ ?_ (fun hHeld2=>?_)
      ·exact⟨s0,s1,s2,s3,s4,s5,s6,s7⟩
      clear hK K hHeld
      have hHeld:=hHeld2
      clear hHeld2
      (try simp only [Act.put,pus])
      refine wpAnyH_ready (rs:=[5]) (by kernel_rfl) (by simp) ?_
      refine AllReadyH.cons (o:=_) rfl (fun K hK=>?_) ?_
      ·go_simp
       have hzx:=hE.size;(with_reducible refine(rMul_valR VY.out VB.out (HZ.out.2.1 i hiN) HZ.out.2.2.1 (by have:=HZ.out.2.2.2;omega)).mono ?_);rintro e x75 ⟨v1,rfl,hv,hy⟩;replace hE:=hE.trans hy;replace hx:=hx.trans hy;replace s0:=cell_exQ hy s0;replace s1:=cell_exQ hy s1;replace s2:=cell_exQ hy s2;replace s3:=cell_exQ hy s3;replace s4:=cell_exQ hy s4;replace s5:=cell_exQ hy s5;replace s6:=cell_exQ hy s6;replace s7:=cell_exQ hy s7;replace Kd:=kE Kd hy;replace VY:=Lib.hid (VY.out.ext hy);replace VB:=Lib.hid (VB.out.ext hy);clear hy;obtain⟨nd,ad,qd,cd,bd,kd,dd,rfl,hv',hf',hg'⟩:=hv;have Vd:=Lib.hid hv';have Fd:=Lib.hid (And.intro (fun A' hA=>Nat.le_trans hzx (hf' A' hA)) (fun A' hA=>Nat.le_trans hzx (hg' A' hA)));clear hv' hf' hg' hzx
       refine hK.out _ _ ?_ (fun hHeld2=>?_)
       ·exact⟨s0,s1,s2,s3,s4,s5,s6,s7⟩
       clear hK K hHeld
       have hHeld:=hHeld2
       clear hHeld2
       (try simp only [Act.put,pus])
       refine tk (v:=?_) 6 rfl (by kernel_rfl) (fun _ _ _ h=>h) (by rfl) ?_ (by assumption) ?_
       rotate_left
       ·(intro w hSw;(try dsimp only at hSw);(try go_simp);(try with_reducible rfl))
       (try simp only [Act.put,pus])
       refine tk (v:=?_) 7 rfl (by kernel_rfl) (fun _ _ _ h=>h) (by rfl) ?_ (by assumption) ?_
       rotate_left
       ·(intro w hSw;(try dsimp only at hSw);(try go_simp);(try with_reducible rfl))
       (try simp only [Act.put,pus])
       refine tk (v:=?_) 8 rfl (by kernel_rfl) (fun _ _ _ h=>h) (by rfl) ?_ (by assumption) ?_
       rotate_left
       ·(intro w hSw;(try dsimp only at hSw);(try go_simp);(try with_reducible rfl))
       (try simp only [Act.put,pus])
       refine wpAnyH_ready (rs:=[10]) (by kernel_rfl) (by simp) ?_
       refine AllReadyH.cons (o:=_) rfl (fun K hK=>?_) ?_
       ·obtain⟨g0,z0,g1,z1,g2,z2,g3,z3⟩:=bp4 Kd (.bool nd) (.slice ad qd cd) (.bool false) (.slice bd kd dd);go_simp;clear g0 z0 g1 z1 g2 z2 g3 z3;replace Vd:=(by first | exact rv4 Vd Kd (.bool nd) (.slice ad qd cd) (.bool false) (.slice bd kd dd) rfl rfl rfl rfl | exact bv4 Vd Kd (.bool nd) (.slice ad qd cd) (.bool false) (.slice bd kd dd) rfl rfl rfl rfl);replace hx:=bx4 hx (pd) (.bool nd) (.slice ad qd cd) (.bool false) (.slice bd kd dd) (by omega);replace hE:=bx4 hE (pd) (.bool nd) (.slice ad qd cd) (.bool false) (.slice bd kd dd) (by omega);replace s0:=bf4 s0 (pd) (.bool nd) (.slice ad qd cd) (.bool false) (.slice bd kd dd) (by omega);replace s1:=bf4 s1 (pd) (.bool nd) (.slice ad qd cd) (.bool false) (.slice bd kd dd) (by omega);replace s2:=bf4 s2 (pd) (.bool nd) (.slice ad qd cd) (.bool false) (.slice bd kd dd) (by omega);replace s3:=bf4 s3 (pd) (.bool nd) (.slice ad qd cd) (.bool false) (.slice bd kd dd) (by omega);replace s4:=bf4 s4 (pd) (.bool nd) (.slice ad qd cd) (.bool false) (.slice bd kd dd) (by omega);replace s5:=bf4 s5 (pd) (.bool nd) (.slice ad qd cd) (.bool false) (.slice bd kd dd) (by omega);replace s6:=bf4 s6 (pd) (.bool nd) (.slice ad qd cd) (.bool false) (.slice bd kd dd) (by omega);replace s7:=bf4 s7 (pd) (.bool nd) (.slice ad qd cd) (.bool false) (.slice bd kd dd) (by omega);replace Kd:=bs4 Kd (.bool nd) (.slice ad qd cd) (.bool false) (.slice bd kd dd);generalize (World.setCell (World.setCell (World.setCell (World.setCell x75 ⟨pd,0,none⟩ (.bool nd)) ⟨pd,1,none⟩ (.slice ad qd cd)) ⟨pd,2,none⟩ (.bool false)) ⟨pd,3,none⟩ (.slice bd kd dd))=xe at *
        refine hK.out _ _ ?_ (fun hHeld2=>?_)
        ·exact⟨s0,s1,s2,s3,s4,s5,s6,s7⟩
        clear hK K hHeld
        have hHeld:=hHeld2
        clear hHeld2
        (try simp only [Act.put,pus])
        refine tk (v:=?_) 11 rfl (by kernel_rfl) (fun _ _ _ h=>h) (by rfl) ?_ (by assumption) ?_
        rotate_left
        ·(intro w hSw;(try dsimp only at hSw);(try go_simp);(try with_reducible rfl))
        (try simp only [Act.put,pus])
        refine wpAnyH_done (by kernel_rfl) ?_ _
        (go_wp2_with fail;go_meet;exact⟨_,_,_,_,_,_,_,_,rfl,rfl,Kd.out,Vd.out,Fd.out,hqd,hE⟩)
       exact AllReadyH.nil
      exact AllReadyH.nil
     exact AllReadyH.nil
    case rest=>
    obtain⟨pm,nm,am,qm,cm,bm,km,dm,rfl,rfl,hkm,hvm,hfm,hpm,hym⟩:=hcut
    generalize hwx:wc=w1 at *
    clear hwx e0 e1 e2 e3 d0 d1 d2 d3 VY VB
    have hx1:Ext w w1:=hx.trans hym
    obtain⟨ba,oa,rfl⟩:=(HA.out).head hiN
    obtain⟨_,c0,c1,c2,c3⟩:=(HA.out.ext hx1).cells _ rfl i hiN
    have vx:=(HA.out.ext hx1).val i hiN
    generalize V i=xc at *
    obtain⟨nx,ax,qx,cx,mx,bx,kx,dx⟩:=xc
    dsimp only [RatC.val] at c0 c1 c2 c3 vx
    have VX:=Lib.hid vx
    clear vx
    have VM:=Lib.hid hvm
    obtain⟨g0,g1,g2,g3⟩:=bk4 (Lib.hid hkm)
    have hx:=hx1
    clear hkm hvm hfm
    go_upto_region 6 with fail
    go_cut [11,12] (fun s1 s2 wx=>∃ (p:Nat) (nd:Bool) (ad:Option Addr) (qd cd:Nat) (bd:Option Addr) (kd dd:Nat),s1=.pointer (some ⟨p,0,none⟩)∧s2=.int .i64 0∧Blk wx p #[.bool nd,.slice ad qd cd,.bool false,.slice bd kd dd] 44∧RatV wx (.agg #[.bool nd,.slice ad qd cd,.bool false,.slice bd kd dd]) (f i - h i*b)∧((∀A',ad=some A'→w1.heap.size≤A'.block)∧∀A',bd=some A'→w1.heap.size≤A'.block)∧w1.heap.size≤p∧Ext w1 wx)
    case first=>
     have hE:Ext w1 (World.drew w1):=(Ext.refl _).drew
     have hyd:Ext w1 (World.drew w1):=(Ext.refl _).drew
     replace hx:=hx.trans hyd
     replace VX:=Lib.hid (VX.out.ext hyd)
     replace VM:=Lib.hid (VM.out.ext hyd)
     clear hyd
     have s0:World.cell? (World.drew w1) ⟨ba,oa+i*4,none⟩=some (.bool nx):=c0
     have s1:World.cell? (World.drew w1) ⟨ba,oa+i*4+1,none⟩=some (.slice ax qx cx):=c1
     have s2:World.cell? (World.drew w1) ⟨ba,oa+i*4+2,none⟩=some (.bool mx):=c2
     have s3:World.cell? (World.drew w1) ⟨ba,oa+i*4+3,none⟩=some (.slice bx kx dx):=c3
     have s4:World.cell? (World.drew w1) ⟨pm,0,none⟩=some (.bool nm):=g0
     have s5:World.cell? (World.drew w1) ⟨pm,1,none⟩=some (.slice am qm cm):=g1
     have s6:World.cell? (World.drew w1) ⟨pm,2,none⟩=some (.bool false):=g2
     have s7:World.cell? (World.drew w1) ⟨pm,3,none⟩=some (.slice bm km dm):=g3
     refine wp_region_held_drew (S:=(fun w'=>World.cell? w' ⟨ba,oa+i*4,none⟩=some (.bool nx)∧World.cell? w' ⟨ba,oa+i*4+1,none⟩=some (.slice ax qx cx)∧World.cell? w' ⟨ba,oa+i*4+2,none⟩=some (.bool mx)∧World.cell? w' ⟨ba,oa+i*4+3,none⟩=some (.slice bx kx dx)∧World.cell? w' ⟨pm,0,none⟩=some (.bool nm)∧World.cell? w' ⟨pm,1,none⟩=some (.slice am qm cm)∧World.cell? w' ⟨pm,2,none⟩=some (.bool false)∧World.cell? w' ⟨pm,3,none⟩=some (.slice bm km dm))) (by kernel_rfl) ?_ (fun hHeld=>?_)
     ·exact⟨s0,s1,s2,s3,s4,s5,s6,s7⟩
     (try simp only [pur,Nat.reduceAdd])
     generalize World.drew w1=x71 at *
     refine tk (v:=?_) 0 rfl (by kernel_rfl) (fun _ _ _ h=>h) (by rfl) ?_ (by assumption) ?_
     rotate_left
     ·(intro w hSw;(try dsimp only at hSw);(try go_simp);(try with_reducible rfl))
     (try simp only [Act.put,pus])
     refine tk (v:=?_) 1 rfl (by kernel_rfl) (fun _ _ _ h=>h) (by rfl) ?_ (by assumption) ?_
     rotate_left
     ·(intro w hSw;(try dsimp only at hSw);(try go_simp);(try with_reducible rfl))
     (try simp only [Act.put,pus])
     refine tk (v:=?_) 2 rfl (by kernel_rfl) (fun _ _ _ h=>h) (by rfl) ?_ (by assumption) ?_
     rotate_left
     ·(intro w hSw;(try dsimp only at hSw);(try go_simp);(try with_reducible rfl))
     (try simp only [Act.put,pus])
     refine tk (v:=?_) 3 rfl (by kernel_rfl) (fun _ _ _ h=>h) (by rfl) ?_ (by assumption) ?_
     rotate_left
     ·(intro w hSw;(try dsimp only at hSw);(try go_simp);(try with_reducible rfl))
     (try simp only [Act.put,pus])
     refine tk (v:=?_) 4 rfl (by kernel_rfl) (fun _ _ _ h=>h) (by rfl) ?_ (by assumption) ?_
     rotate_left
     ·(intro w hSw;(try dsimp only at hSw);(try go_simp);(try with_reducible rfl))
     (try simp only [Act.put,pus])
     refine wpAnyH_ready (rs:=[5,9]) (by kernel_rfl) (by simp) ?_
     refine AllReadyH.cons (o:=_) rfl (fun K hK=>?_) ?_
     ·go_simp
      have hzx:=hE.size;(with_reducible refine(rSub_valR VX.out VM.out (HZ.out.1 i hiN) ((HZ.out.2.1 i hiN).mul HZ.out.2.2.1) HZ.out.2.2.2).mono ?_);rintro e x72 ⟨v1,rfl,hv,hy⟩;replace hE:=hE.trans hy;replace hx:=hx.trans hy;replace s0:=cell_exQ hy s0;replace s1:=cell_exQ hy s1;replace s2:=cell_exQ hy s2;replace s3:=cell_exQ hy s3;replace s4:=cell_exQ hy s4;replace s5:=cell_exQ hy s5;replace s6:=cell_exQ hy s6;replace s7:=cell_exQ hy s7;replace VX:=Lib.hid (VX.out.ext hy);replace VM:=Lib.hid (VM.out.ext hy);clear hy;obtain⟨nd,ad,qd,cd,bd,kd,dd,rfl,hv',hf',hg'⟩:=hv;have Vd:=Lib.hid hv';have Fd:=Lib.hid (And.intro (fun A' hA=>Nat.le_trans hzx (hf' A' hA)) (fun A' hA=>Nat.le_trans hzx (hg' A' hA)));clear hv' hf' hg' hzx
      refine hK.out _ _ ?_ (fun hHeld2=>?_)
      ·exact⟨s0,s1,s2,s3,s4,s5,s6,s7⟩
      clear hK K hHeld
      have hHeld:=hHeld2
      clear hHeld2
      (try simp only [Act.put,pus])
      refine tk (v:=?_) 6 rfl (by kernel_rfl) (fun _ _ _ h=>h) (by rfl) ?_ (by assumption) ?_
      rotate_left
      ·(intro w hSw;(try dsimp only at hSw);(try go_simp);(try with_reducible rfl))
      (try simp only [Act.put,pus])
      refine tk (v:=?_) 7 rfl (by kernel_rfl) (fun _ _ _ h=>h) (by rfl) ?_ (by assumption) ?_
      rotate_left
      ·(intro w hSw;(try dsimp only at hSw);(try go_simp);(try with_reducible rfl))
      (try simp only [Act.put,pus])
      refine tk (v:=?_) 8 rfl (by kernel_rfl) (fun _ _ _ h=>h) (by rfl) ?_ (by assumption) ?_
      rotate_left
      ·(intro w hSw;(try dsimp only at hSw);(try go_simp);(try with_reducible rfl))
      (try simp only [Act.put,pus])
      refine wpAnyH_ready (rs:=[9]) (by kernel_rfl) (by simp) ?_
      refine AllReadyH.cons (o:=_) rfl (fun K hK=>?_) ?_
      ·go_simp
       have hy:Ext x72 (World.alloc x72 (.cells #[.bool false,.slice none 0 0,.bool false,.slice none 0 0] 44)):=Ext.alloc _ _;have hpd:w.heap.size≤Array.size (World.heap x72):=hx.size;have hqd:=hE.size;replace hE:=hE.trans hy;replace hx:=hx.trans hy;have md0:=lt_of_cell s0;replace s0:=cell_exQ hy s0;replace s1:=cell_exQ hy s1;replace s2:=cell_exQ hy s2;replace s3:=cell_exQ hy s3;have md4:=lt_of_cell s4;replace s4:=cell_exQ hy s4;replace s5:=cell_exQ hy s5;replace s6:=cell_exQ hy s6;replace s7:=cell_exQ hy s7;replace VX:=Lib.hid (VX.out.ext hy);replace VM:=Lib.hid (VM.out.ext hy);replace Vd:=Lib.hid (Vd.out.ext hy);have Kd:=Lib.hid (Blk.new0 x72 #[.bool false,.slice none 0 0,.bool false,.slice none 0 0] 44);clear hy;generalize World.alloc x72 (.cells #[.bool false,.slice none 0 0,.bool false,.slice none 0 0] 44)=x73 at *;generalize Array.size (World.heap x72)=pd at *
       refine hK.out _ _ ?_ (fun hHeld2=>?_)
       ·exact⟨s0,s1,s2,s3,s4,s5,s6,s7⟩
       clear hK K hHeld
       have hHeld:=hHeld2
       clear hHeld2
       (try simp only [Act.put,pus])
       refine wpAnyH_ready (rs:=[10]) (by kernel_rfl) (by simp) ?_
       refine AllReadyH.cons (o:=_) rfl (fun K hK=>?_) ?_
       ·obtain⟨g0,z0,g1,z1,g2,z2,g3,z3⟩:=bp4 Kd (.bool nd) (.slice ad qd cd) (.bool false) (.slice bd kd dd);go_simp;clear g0 z0 g1 z1 g2 z2 g3 z3;replace Vd:=(by first | exact rv4 Vd Kd (.bool nd) (.slice ad qd cd) (.bool false) (.slice bd kd dd) rfl rfl rfl rfl | exact bv4 Vd Kd (.bool nd) (.slice ad qd cd) (.bool false) (.slice bd kd dd) rfl rfl rfl rfl);replace hx:=bx4 hx (pd) (.bool nd) (.slice ad qd cd) (.bool false) (.slice bd kd dd) (by omega);replace hE:=bx4 hE (pd) (.bool nd) (.slice ad qd cd) (.bool false) (.slice bd kd dd) (by omega);replace s0:=bf4 s0 (pd) (.bool nd) (.slice ad qd cd) (.bool false) (.slice bd kd dd) (by omega);replace s1:=bf4 s1 (pd) (.bool nd) (.slice ad qd cd) (.bool false) (.slice bd kd dd) (by omega);replace s2:=bf4 s2 (pd) (.bool nd) (.slice ad qd cd) (.bool false) (.slice bd kd dd) (by omega);replace s3:=bf4 s3 (pd) (.bool nd) (.slice ad qd cd) (.bool false) (.slice bd kd dd) (by omega);replace s4:=bf4 s4 (pd) (.bool nd) (.slice ad qd cd) (.bool false) (.slice bd kd dd) (by omega);replace s5:=bf4 s5 (pd) (.bool nd) (.slice ad qd cd) (.bool false) (.slice bd kd dd) (by omega);replace s6:=bf4 s6 (pd) (.bool nd) (.slice ad qd cd) (.bool false) (.slice bd kd dd) (by omega);replace s7:=bf4 s7 (pd) (.bool nd) (.slice ad qd cd) (.bool false) (.slice bd kd dd) (by omega);replace Kd:=bs4 Kd (.bool nd) (.slice ad qd cd) (.bool false) (.slice bd kd dd);generalize (World.setCell (World.setCell (World.setCell (World.setCell x73 ⟨pd,0,none⟩ (.bool nd)) ⟨pd,1,none⟩ (.slice ad qd cd)) ⟨pd,2,none⟩ (.bool false)) ⟨pd,3,none⟩ (.slice bd kd dd))=xe at *
        refine hK.out _ _ ?_ (fun hHeld2=>?_)
        ·exact⟨s0,s1,s2,s3,s4,s5,s6,s7⟩
        clear hK K hHeld
        have hHeld:=hHeld2
        clear hHeld2
        (try simp only [Act.put,pus])
        refine tk (v:=?_) 11 rfl (by kernel_rfl) (fun _ _ _ h=>h) (by rfl) ?_ (by assumption) ?_
        rotate_left
        ·(intro w hSw;(try dsimp only at hSw);(try go_simp);(try with_reducible rfl))
        (try simp only [Act.put,pus])
        refine wpAnyH_done (by kernel_rfl) ?_ _
        (go_wp2_with fail;go_meet;exact⟨_,_,_,_,_,_,_,_,rfl,rfl,Kd.out,Vd.out,Fd.out,hqd,hE⟩)
       exact AllReadyH.nil
      exact AllReadyH.nil
     refine AllReadyH.cons (o:=_) rfl (fun K hK=>?_) ?_
     ·go_simp
      have hy:Ext x71 (World.alloc x71 (.cells #[.bool false,.slice none 0 0,.bool false,.slice none 0 0] 44)):=Ext.alloc _ _;have hpd:w.heap.size≤Array.size (World.heap x71):=hx.size;have hqd:=hE.size;replace hE:=hE.trans hy;replace hx:=hx.trans hy;have md0:=lt_of_cell s0;replace s0:=cell_exQ hy s0;replace s1:=cell_exQ hy s1;replace s2:=cell_exQ hy s2;replace s3:=cell_exQ hy s3;have md4:=lt_of_cell s4;replace s4:=cell_exQ hy s4;replace s5:=cell_exQ hy s5;replace s6:=cell_exQ hy s6;replace s7:=cell_exQ hy s7;replace VX:=Lib.hid (VX.out.ext hy);replace VM:=Lib.hid (VM.out.ext hy);have Kd:=Lib.hid (Blk.new0 x71 #[.bool false,.slice none 0 0,.bool false,.slice none 0 0] 44);clear hy;generalize World.alloc x71 (.cells #[.bool false,.slice none 0 0,.bool false,.slice none 0 0] 44)=x74 at *;generalize Array.size (World.heap x71)=pd at *
      refine hK.out _ _ ?_ (fun hHeld2=>?_)
      ·exact⟨s0,s1,s2,s3,s4,s5,s6,s7⟩
      clear hK K hHeld
      have hHeld:=hHeld2
      clear hHeld2
      (try simp only [Act.put,pus])
      refine wpAnyH_ready (rs:=[5]) (by kernel_rfl) (by simp) ?_
      refine AllReadyH.cons (o:=_) rfl (fun K hK=>?_) ?_
      ·go_simp
       have hzx:=hE.size;(with_reducible refine(rSub_valR VX.out VM.out (HZ.out.1 i hiN) ((HZ.out.2.1 i hiN).mul HZ.out.2.2.1) HZ.out.2.2.2).mono ?_);rintro e x75 ⟨v1,rfl,hv,hy⟩;replace hE:=hE.trans hy;replace hx:=hx.trans hy;replace s0:=cell_exQ hy s0;replace s1:=cell_exQ hy s1;replace s2:=cell_exQ hy s2;replace s3:=cell_exQ hy s3;replace s4:=cell_exQ hy s4;replace s5:=cell_exQ hy s5;replace s6:=cell_exQ hy s6;replace s7:=cell_exQ hy s7;replace Kd:=kE Kd hy;replace VX:=Lib.hid (VX.out.ext hy);replace VM:=Lib.hid (VM.out.ext hy);clear hy;obtain⟨nd,ad,qd,cd,bd,kd,dd,rfl,hv',hf',hg'⟩:=hv;have Vd:=Lib.hid hv';have Fd:=Lib.hid (And.intro (fun A' hA=>Nat.le_trans hzx (hf' A' hA)) (fun A' hA=>Nat.le_trans hzx (hg' A' hA)));clear hv' hf' hg' hzx
       refine hK.out _ _ ?_ (fun hHeld2=>?_)
       ·exact⟨s0,s1,s2,s3,s4,s5,s6,s7⟩
       clear hK K hHeld
       have hHeld:=hHeld2
       clear hHeld2
       (try simp only [Act.put,pus])
       refine tk (v:=?_) 6 rfl (by kernel_rfl) (fun _ _ _ h=>h) (by rfl) ?_ (by assumption) ?_
       rotate_left
       ·(intro w hSw;(try dsimp only at hSw);(try go_simp);(try with_reducible rfl))
       (try simp only [Act.put,pus])
       refine tk (v:=?_) 7 rfl (by kernel_rfl) (fun _ _ _ h=>h) (by rfl) ?_ (by assumption) ?_
       rotate_left
       ·(intro w hSw;(try dsimp only at hSw);(try go_simp);(try with_reducible rfl))
       (try simp only [Act.put,pus])
       refine tk (v:=?_) 8 rfl (by kernel_rfl) (fun _ _ _ h=>h) (by rfl) ?_ (by assumption) ?_
       rotate_left
       ·(intro w hSw;(try dsimp only at hSw);(try go_simp);(try with_reducible rfl))
       (try simp only [Act.put,pus])
       refine wpAnyH_ready (rs:=[10]) (by kernel_rfl) (by simp) ?_
       refine AllReadyH.cons (o:=_) rfl (fun K hK=>?_) ?_
       ·obtain⟨g0,z0,g1,z1,g2,z2,g3,z3⟩:=bp4 Kd (.bool nd) (.slice ad qd cd) (.bool false) (.slice bd kd dd);go_simp;clear g0 z0 g1 z1 g2 z2 g3 z3;replace Vd:=(by first | exact rv4 Vd Kd (.bool nd) (.slice ad qd cd) (.bool false) (.slice bd kd dd) rfl rfl rfl rfl | exact bv4 Vd Kd (.bool nd) (.slice ad qd cd) (.bool false) (.slice bd kd dd) rfl rfl rfl rfl);replace hx:=bx4 hx (pd) (.bool nd) (.slice ad qd cd) (.bool false) (.slice bd kd dd) (by omega);replace hE:=bx4 hE (pd) (.bool nd) (.slice ad qd cd) (.bool false) (.slice bd kd dd) (by omega);replace s0:=bf4 s0 (pd) (.bool nd) (.slice ad qd cd) (.bool false) (.slice bd kd dd) (by omega);replace s1:=bf4 s1 (pd) (.bool nd) (.slice ad qd cd) (.bool false) (.slice bd kd dd) (by omega);replace s2:=bf4 s2 (pd) (.bool nd) (.slice ad qd cd) (.bool false) (.slice bd kd dd) (by omega);replace s3:=bf4 s3 (pd) (.bool nd) (.slice ad qd cd) (.bool false) (.slice bd kd dd) (by omega);replace s4:=bf4 s4 (pd) (.bool nd) (.slice ad qd cd) (.bool false) (.slice bd kd dd) (by omega);replace s5:=bf4 s5 (pd) (.bool nd) (.slice ad qd cd) (.bool false) (.slice bd kd dd) (by omega);replace s6:=bf4 s6 (pd) (.bool nd) (.slice ad qd cd) (.bool false) (.slice bd kd dd) (by omega);replace s7:=bf4 s7 (pd) (.bool nd) (.slice ad qd cd) (.bool false) (.slice bd kd dd) (by omega);replace Kd:=bs4 Kd (.bool nd) (.slice ad qd cd) (.bool false) (.slice bd kd dd);generalize (World.setCell (World.setCell (World.setCell (World.setCell x75 ⟨pd,0,none⟩ (.bool nd)) ⟨pd,1,none⟩ (.slice ad qd cd)) ⟨pd,2,none⟩ (.bool false)) ⟨pd,3,none⟩ (.slice bd kd dd))=xe at *
        refine hK.out _ _ ?_ (fun hHeld2=>?_)
        ·exact⟨s0,s1,s2,s3,s4,s5,s6,s7⟩
        clear hK K hHeld
        have hHeld:=hHeld2
        clear hHeld2
        (try simp only [Act.put,pus])
        refine tk (v:=?_) 11 rfl (by kernel_rfl) (fun _ _ _ h=>h) (by rfl) ?_ (by assumption) ?_
        rotate_left
        ·(intro w hSw;(try dsimp only at hSw);(try go_simp);(try with_reducible rfl))
        (try simp only [Act.put,pus])
        refine wpAnyH_done (by kernel_rfl) ?_ _
        (go_wp2_with fail;go_meet;exact⟨_,_,_,_,_,_,_,_,rfl,rfl,Kd.out,Vd.out,Fd.out,hqd,hE⟩)
       exact AllReadyH.nil
      exact AllReadyH.nil
     exact AllReadyH.nil
    case rest=>
    obtain⟨pd,nd,ad,qd,cd,bd,kd,dd,rfl,rfl,hkd,hvd,hfd,hpd,hyd⟩:=hcut
    have hyz:=hym.trans hyd
    clear c0 c1 c2 c3 VX VM g0 g1 g2 g3 hyd
    have HXD:=Lib.hid (HXR.out.trans hyz)
    have HOD:=Lib.hid (HO.out.ext hyz)
    have hlt:=HO.out.lt
    have hws:=HXR.out.size
    have hya:=Ext.alloc wc (.cells #[.bool nd,.slice ad qd cd,.bool false,.slice bd kd dd] 44)
    have HBz:=Lib.hid (Blk.new0 wc #[.bool nd,.slice ad qd cd,.bool false,.slice bd kd dd] 44)
    have HXa:=Lib.hid (HXD.out.trans hya)
    have HOa:=Lib.hid (HOD.out.ext hya)
    have HVa:=Lib.hid (RatV.ext hvd hya)
    have hw1s:=hym.size
    have hfd1:=hfd.1
    have hfd2:=hfd.2
    have HOFF:Hid (RatC.Off ⟨nd,ad,qd,cd,false,bd,kd,dd⟩ (Value.slice va K.length vc).ownBlock):=Lib.hid ⟨fun _ A' hA e=>by have:=hfd1 A' hA;have:=(hlt _ e).2;omega,fun _ A' hA e=>by have:=hfd2 A' hA;have:=(hlt _ e).2;omega⟩
    have HOF2:Hid (∀o,o<x0.heap.size→RatC.Off ⟨nd,ad,qd,cd,false,bd,kd,dd⟩ (some o)):=Lib.hid fun o ho=>⟨fun _ A' hA e=>by have:=hfd1 A' hA;injection e with e;omega,fun _ A' hA e=>by have:=hfd2 A' hA;injection e with e;omega⟩
    obtain⟨k0_,k1_,k2_,k3_⟩:=bk4 (Lib.hid hkd)
    clear hya hvd hlt hfd hfd1 hfd2 HO HOD HXR HXD hyz
    go_wp2_with (at_builtin;refine wpl_append_rat rfl (.tmp 37) (.tmp 39) rfl HXa.out rfl HOa.out rfl (x:=⟨nd,ad,qd,cd,false,bd,kd,dd⟩) (r:=f i - h i*b) HBz.out HVa.out HOFF.out (by have:=HKL.out;omega) ?_;intro v' w3 hO' hE' hg' hat')
    obtain⟨ua,uc,rfl,hul,huc⟩:=hO'.form
    go_roundw
    case rel=>exact⟨i+1,by omega,by go_num,_,(by rw [List.range_succ,List.map_append];exact hO'),fun y hy o ho=>(List.mem_append.1 hy).elim (fun h=>HOK.out y h o ho) (fun h=>by rw [List.mem_singleton.1 h];exact HOF2.out o ho),hE'⟩
    case measure=>simp [intOf];omega
   ·have i1:¬ (i:Int)< (N:Int):=by omega
    obtain rfl:i=N:=by omega
    have HP:Hid (OwnP ((List.range i).map fun c=>f c - h c*b) w (.returned (.slice va K.length vc)) wr):=Lib.hid ⟨_,K,rfl,HO.out.low HX0.out.size,fun x hx o ho=>HOK.out x hx o (Nat.lt_of_lt_of_le ho HX0.out.size),HX0.out.trans HXR.out⟩
    clear HO HOK HXR HKL
    go_wp2_with fail
    go_ret
    exact HP.out
theorem dot_szG {f x:Nat→Rat} {p q:Nat}:∀{n:Nat},(∀c,c<n→Sz (f c) p∧Sz (x c) q)→Sz (dotX n f x) (1+ (p+q+1)*n)
 | 0,_=>by unfold dotX;rw [sq_nil,Nat.mul_zero];exact⟨by decide,by decide⟩
 | n+1,h=>by
  have ih:=dot_szG (n:=n) fun c hc=>h c (by omega)
  unfold dotX at ih ⊢
  rw [sq_succ]
  have h2:=h n (by omega)
  have e:1+ (p+q+1)* (n+1)=1+ (p+q+1)*n+ (p+q)+1:=by rw [Nat.mul_succ];omega
  rw [e]
  exact ih.add (h2.1.mul h2.2)
set_option maxHeartbeats 8000000 in
theorem ref_Sum (a:Option Addr) (cap N:Nat) (V:Nat→RatC) (f:Nat→Rat) (b:Option Addr) (cb:Nat) (U:Nat→RatC) (h:Nat→Rat) (p q:Nat) (w:World) (ha:RowR w a cap N V f) (ho2:RowR w b cb N U h) (hsz:∀c,c<N→Sz (f c) p∧Sz (h c) q) (hN:1+ (p+q+1)*N≤2048):
 Calls Tryz.prog 42 #[.slice a N cap,.slice b N cb] w (RatU (dotX N f h) w):=by
 have hle:=ha.le
 have hmx:=ha.mx
 have ole:=ho2.le
 have omx:=ho2.mx
 have HA:=Lib.hid ha
 have HO2:=Lib.hid ho2
 have HZ:=Lib.hid hsz
 have HN:=Lib.hid hN
 clear ha ho2 hsz hN
 obtain⟨x1,hw,hx,Kr⟩:=boxQ1 w #[.bool false,.slice none 0 0,.bool false,.slice none 0 0] 44
 replace hw:=Lib.hid hw
 go_enter Tryz.func42,Tryz.ntmps42
 go_upto_region 1 with fail
 try simp only [Nat.add_assoc,Nat.reduceAdd,Nat.add_zero]
 rw [hw.out]
 clear hw
 have hs0:=hx.size
 have hsz:=hx.size
 go_wp2_with fail
 with_reducible refine(ref_Zero _).mono ?_
 rintro e x2 ⟨v,rfl,hv,hy⟩
 replace hx:=hx.trans hy
 replace Kr:=kE Kr hy
 clear hy
 obtain⟨nz,az,qz,cz,bz,kz,dz,rfl,hv',hf',hg'⟩:=hv
 have Vz:=Lib.hid hv'
 have Fz:=Lib.hid (fun A hA=>Nat.le_trans hsz (hf' A hA))
 have Gz:=Lib.hid (fun A hA=>Nat.le_trans hsz (hg' A hA))
 clear hv' hf' hg' hsz
 go_upto_region 2 with fail
 have hl:=Ext.alloc x2 (.cells #[.bool nz,.slice az qz cz,.bool false,.slice bz kz dz] 44)
 have lrs:w.heap.size<x2.heap.size:=Kr.out.lt
 have hps:w.heap.size≤x2.heap.size:=hx.size
 replace hx:=hx.trans hl
 replace Kr:=kE Kr hl
 replace Vz:=Lib.hid (Vz.out.ext hl)
 have Ks:=Lib.hid (Blk.new0 x2 #[.bool nz,.slice az qz cz,.bool false,.slice bz kz dz] 44)
 clear hl
 generalize x2.alloc (.cells #[.bool nz,.slice az qz cz,.bool false,.slice bz kz dz] 44)=x3 at *
 generalize x2.heap.size=ps at *
 have HX0:=Lib.hid hx
 have hpsr:=lrs
 clear hx
 go_wp2_with fail
 go_loopw [6] (fun v wr=>∃i:Nat,i≤N∧v=.int .i64 i∧∃t:RatC,Blk wr w.heap.size #[.bool false,.slice none 0 0,.bool false,.slice none 0 0] 44∧Blk wr ps #[.bool t.n,.slice t.a t.q t.c,.bool t.m,.slice t.b t.k t.d] 44∧RatV wr t.val (dotX i f h)∧t.m=false∧((∀A,t.a=some A→w.heap.size≤A.block)∧∀A,t.b=some A→w.heap.size≤A.block)∧Ext w wr) (fun v _=>N - (intOf v).toNat)
 case atStart=>exact⟨0,Nat.zero_le _,rfl,⟨nz,az,qz,cz,false,bz,kz,dz⟩,Kr.out,Ks.out,Vz.out,rfl,⟨Fz.out,Gz.out⟩,HX0.out⟩
 case round=>
  obtain⟨i,hi,rfl,⟨nt,at1,qt,ct,mt,bt,kt,dt⟩,hkr,hks,hvt,hmt,hft,hx⟩:=hrel
  dsimp only [RatC.val] at hks hvt hmt hft
  subst hmt
  have Kr:=Lib.hid hkr
  have Ks:=Lib.hid hks
  have VT:=Lib.hid hvt
  have FT:=Lib.hid hft
  have i0:(0:Int)≤(i:Int):=by omega
  clear hkr hks hvt hft
  by_cases hiN:i<N
  ·have i1:(i:Int)< (N:Int):=by omega
   have hw1:IntKind.i64.wrap ((i:Int)+1)= (i:Int)+1:=IntWalk.i64_in _ (by omega)
   obtain⟨ba,oa,rfl⟩:=(HA.out).head hiN
   obtain⟨_,c0,c1,c2,c3⟩:=(HA.out.ext hx).cells _ rfl i hiN
   have vx:=(HA.out.ext hx).val i hiN
   generalize V i=xc at *
   obtain⟨nx,ax,qx,cx,mx,bx,kx,dx⟩:=xc
   dsimp only [RatC.val] at c0 c1 c2 c3 vx
   have VX:=Lib.hid vx
   clear vx
   obtain⟨bb,ob,rfl⟩:=(HO2.out).head hiN
   obtain⟨_,d0,d1,d2,d3⟩:=(HO2.out.ext hx).cells _ rfl i hiN
   have vy:=(HO2.out.ext hx).val i hiN
   generalize U i=yc at *
   obtain⟨ny,ay,qy,cy,my,by_,ky,dy⟩:=yc
   dsimp only [RatC.val] at d0 d1 d2 d3 vy
   have VY:=Lib.hid vy
   clear vy
   have ZT:Hid (Sz (dotX i f h) (1+ (p+q+1)*i)):=Lib.hid (dot_szG (n:=i) fun c hc=>HZ.out c (by omega))
   have hmN:(p+q+1)* (i+1)≤(p+q+1)*N:=Nat.mul_le_mul_left _ (by omega)
   have HMN:Hid (1+ (p+q+1)*i+ (p+q)+1≤2048):=Lib.hid (by have:=HN.out;rw [Nat.mul_succ] at hmN;omega)
   have HPQ:Hid (p+q≤2048):=Lib.hid (by have:=HMN.out;omega)
   clear hmN
   go_upto_region 5 with fail
   go_cut [7,8] (fun s1 s2 wx=>∃ (p:Nat) (nd:Bool) (ad:Option Addr) (qd cd:Nat) (bd:Option Addr) (kd dd:Nat),s1=.pointer (some ⟨p,0,none⟩)∧s2=.int .i64 0∧Blk wx p #[.bool nd,.slice ad qd cd,.bool false,.slice bd kd dd] 44∧RatV wx (.agg #[.bool nd,.slice ad qd cd,.bool false,.slice bd kd dd]) (f i*h i)∧((∀A',ad=some A'→wr.heap.size≤A'.block)∧∀A',bd=some A'→wr.heap.size≤A'.block)∧wr.heap.size≤p∧Ext wr wx)
   case first=>
    have hE:Ext wr (World.drew wr):=(Ext.refl _).drew
    have hyd:Ext wr (World.drew wr):=(Ext.refl _).drew
    replace hx:=hx.trans hyd
    replace VX:=Lib.hid (VX.out.ext hyd)
    replace VY:=Lib.hid (VY.out.ext hyd)
    clear hyd
    have s0:World.cell? (World.drew wr) ⟨ba,oa+i*4,none⟩=some (.bool nx):=c0
    have s1:World.cell? (World.drew wr) ⟨ba,oa+i*4+1,none⟩=some (.slice ax qx cx):=c1
    have s2:World.cell? (World.drew wr) ⟨ba,oa+i*4+2,none⟩=some (.bool mx):=c2
    have s3:World.cell? (World.drew wr) ⟨ba,oa+i*4+3,none⟩=some (.slice bx kx dx):=c3
    have s4:World.cell? (World.drew wr) ⟨bb,ob+i*4,none⟩=some (.bool ny):=d0
    have s5:World.cell? (World.drew wr) ⟨bb,ob+i*4+1,none⟩=some (.slice ay qy cy):=d1
    have s6:World.cell? (World.drew wr) ⟨bb,ob+i*4+2,none⟩=some (.bool my):=d2
    have s7:World.cell? (World.drew wr) ⟨bb,ob+i*4+3,none⟩=some (.slice by_ ky dy):=d3
    refine wp_region_held_drew (S:=(fun w'=>World.cell? w' ⟨ba,oa+i*4,none⟩=some (.bool nx)∧World.cell? w' ⟨ba,oa+i*4+1,none⟩=some (.slice ax qx cx)∧World.cell? w' ⟨ba,oa+i*4+2,none⟩=some (.bool mx)∧World.cell? w' ⟨ba,oa+i*4+3,none⟩=some (.slice bx kx dx)∧World.cell? w' ⟨bb,ob+i*4,none⟩=some (.bool ny)∧World.cell? w' ⟨bb,ob+i*4+1,none⟩=some (.slice ay qy cy)∧World.cell? w' ⟨bb,ob+i*4+2,none⟩=some (.bool my)∧World.cell? w' ⟨bb,ob+i*4+3,none⟩=some (.slice by_ ky dy))) (by kernel_rfl) ?_ (fun hHeld=>?_)
    ·exact⟨s0,s1,s2,s3,s4,s5,s6,s7⟩
    (try simp only [pur,Nat.reduceAdd])
    generalize World.drew wr=x71 at *
    refine tk (v:=?_) 0 rfl (by kernel_rfl) (fun _ _ _ h=>h) (by rfl) ?_ (by assumption) ?_
    rotate_left
    ·(intro w hSw;(try dsimp only at hSw);(try go_simp);(try with_reducible rfl))
    (try simp only [Act.put,pus])
    refine tk (v:=?_) 1 rfl (by kernel_rfl) (fun _ _ _ h=>h) (by rfl) ?_ (by assumption) ?_
    rotate_left
    ·(intro w hSw;(try dsimp only at hSw);(try go_simp);(try with_reducible rfl))
    (try simp only [Act.put,pus])
    refine tk (v:=?_) 2 rfl (by kernel_rfl) (fun _ _ _ h=>h) (by rfl) ?_ (by assumption) ?_
    rotate_left
    ·(intro w hSw;(try dsimp only at hSw);(try go_simp);(try with_reducible rfl))
    (try simp only [Act.put,pus])
    refine tk (v:=?_) 3 rfl (by kernel_rfl) (fun _ _ _ h=>h) (by rfl) ?_ (by assumption) ?_
    rotate_left
    ·(intro w hSw;(try dsimp only at hSw);(try go_simp);(try with_reducible rfl))
    (try simp only [Act.put,pus])
    refine tk (v:=?_) 4 rfl (by kernel_rfl) (fun _ _ _ h=>h) (by rfl) ?_ (by assumption) ?_
    rotate_left
    ·(intro w hSw;(try dsimp only at hSw);(try go_simp);(try with_reducible rfl))
    (try simp only [Act.put,pus])
    refine tk (v:=?_) 5 rfl (by kernel_rfl) (fun _ _ _ h=>h) (by rfl) ?_ (by assumption) ?_
    rotate_left
    ·(intro w hSw;(try dsimp only at hSw);(try go_simp);(try with_reducible rfl))
    (try simp only [Act.put,pus])
    refine tk (v:=?_) 6 rfl (by kernel_rfl) (fun _ _ _ h=>h) (by rfl) ?_ (by assumption) ?_
    rotate_left
    ·(intro w hSw;(try dsimp only at hSw);(try go_simp);(try with_reducible rfl))
    (try simp only [Act.put,pus])
    refine tk (v:=?_) 7 rfl (by kernel_rfl) (fun _ _ _ h=>h) (by rfl) ?_ (by assumption) ?_
    rotate_left
    ·(intro w hSw;(try dsimp only at hSw);(try go_simp);(try with_reducible rfl))
    (try simp only [Act.put,pus])
    refine wpAnyH_ready (rs:=[8,12]) (by kernel_rfl) (by simp) ?_
    refine AllReadyH.cons (o:=_) rfl (fun K hK=>?_) ?_
    ·go_simp
     have hzx:=hE.size;(with_reducible refine(rMul_valR VX.out VY.out (HZ.out i hiN).1 (HZ.out i hiN).2 HPQ.out).mono ?_);rintro e x72 ⟨v1,rfl,hv,hy⟩;replace hE:=hE.trans hy;replace hx:=hx.trans hy;replace s0:=cell_exQ hy s0;replace s1:=cell_exQ hy s1;replace s2:=cell_exQ hy s2;replace s3:=cell_exQ hy s3;replace s4:=cell_exQ hy s4;replace s5:=cell_exQ hy s5;replace s6:=cell_exQ hy s6;replace s7:=cell_exQ hy s7;replace VX:=Lib.hid (VX.out.ext hy);replace VY:=Lib.hid (VY.out.ext hy);clear hy;obtain⟨nd,ad,qd,cd,bd,kd,dd,rfl,hv',hf',hg'⟩:=hv;have Vd:=Lib.hid hv';have Fd:=Lib.hid (And.intro (fun A' hA=>Nat.le_trans hzx (hf' A' hA)) (fun A' hA=>Nat.le_trans hzx (hg' A' hA)));clear hv' hf' hg' hzx
     refine hK.out _ _ ?_ (fun hHeld2=>?_)
     ·exact⟨s0,s1,s2,s3,s4,s5,s6,s7⟩
     clear hK K hHeld
     have hHeld:=hHeld2
     clear hHeld2
     (try simp only [Act.put,pus])
     refine tk (v:=?_) 9 rfl (by kernel_rfl) (fun _ _ _ h=>h) (by rfl) ?_ (by assumption) ?_
     rotate_left
     ·(intro w hSw;(try dsimp only at hSw);(try go_simp);(try with_reducible rfl))
     (try simp only [Act.put,pus])
     refine tk (v:=?_) 10 rfl (by kernel_rfl) (fun _ _ _ h=>h) (by rfl) ?_ (by assumption) ?_
     rotate_left
     ·(intro w hSw;(try dsimp only at hSw);(try go_simp);(try with_reducible rfl))
     (try simp only [Act.put,pus])
     refine tk (v:=?_) 11 rfl (by kernel_rfl) (fun _ _ _ h=>h) (by rfl) ?_ (by assumption) ?_
     rotate_left
     ·(intro w hSw;(try dsimp only at hSw);(try go_simp);(try with_reducible rfl))
     (try simp only [Act.put,pus])
     refine wpAnyH_ready (rs:=[12]) (by kernel_rfl) (by simp) ?_
     refine AllReadyH.cons (o:=_) rfl (fun K hK=>?_) ?_
     ·go_simp
      have hy:Ext x72 (World.alloc x72 (.cells #[.bool false,.slice none 0 0,.bool false,.slice none 0 0] 44)):=Ext.alloc _ _;have hpd:w.heap.size≤Array.size (World.heap x72):=hx.size;have hqd:=hE.size;replace hE:=hE.trans hy;replace hx:=hx.trans hy;have md0:=lt_of_cell s0;replace s0:=cell_exQ hy s0;replace s1:=cell_exQ hy s1;replace s2:=cell_exQ hy s2;replace s3:=cell_exQ hy s3;have md4:=lt_of_cell s4;replace s4:=cell_exQ hy s4;replace s5:=cell_exQ hy s5;replace s6:=cell_exQ hy s6;replace s7:=cell_exQ hy s7;replace VX:=Lib.hid (VX.out.ext hy);replace VY:=Lib.hid (VY.out.ext hy);replace Vd:=Lib.hid (Vd.out.ext hy);have Kd:=Lib.hid (Blk.new0 x72 #[.bool false,.slice none 0 0,.bool false,.slice none 0 0] 44);clear hy;generalize World.alloc x72 (.cells #[.bool false,.slice none 0 0,.bool false,.slice none 0 0] 44)=x73 at *;generalize Array.size (World.heap x72)=pd at *
      refine hK.out _ _ ?_ (fun hHeld2=>?_)
      ·exact⟨s0,s1,s2,s3,s4,s5,s6,s7⟩
      clear hK K hHeld
      have hHeld:=hHeld2
      clear hHeld2
      (try simp only [Act.put,pus])
      refine wpAnyH_ready (rs:=[13]) (by kernel_rfl) (by simp) ?_
      refine AllReadyH.cons (o:=_) rfl (fun K hK=>?_) ?_
      ·obtain⟨g0,z0,g1,z1,g2,z2,g3,z3⟩:=bp4 Kd (.bool nd) (.slice ad qd cd) (.bool false) (.slice bd kd dd);go_simp;clear g0 z0 g1 z1 g2 z2 g3 z3;replace Vd:=(by first | exact rv4 Vd Kd (.bool nd) (.slice ad qd cd) (.bool false) (.slice bd kd dd) rfl rfl rfl rfl | exact bv4 Vd Kd (.bool nd) (.slice ad qd cd) (.bool false) (.slice bd kd dd) rfl rfl rfl rfl);replace hx:=bx4 hx (pd) (.bool nd) (.slice ad qd cd) (.bool false) (.slice bd kd dd) (by omega);replace hE:=bx4 hE (pd) (.bool nd) (.slice ad qd cd) (.bool false) (.slice bd kd dd) (by omega);replace s0:=bf4 s0 (pd) (.bool nd) (.slice ad qd cd) (.bool false) (.slice bd kd dd) (by omega);replace s1:=bf4 s1 (pd) (.bool nd) (.slice ad qd cd) (.bool false) (.slice bd kd dd) (by omega);replace s2:=bf4 s2 (pd) (.bool nd) (.slice ad qd cd) (.bool false) (.slice bd kd dd) (by omega);replace s3:=bf4 s3 (pd) (.bool nd) (.slice ad qd cd) (.bool false) (.slice bd kd dd) (by omega);replace s4:=bf4 s4 (pd) (.bool nd) (.slice ad qd cd) (.bool false) (.slice bd kd dd) (by omega);replace s5:=bf4 s5 (pd) (.bool nd) (.slice ad qd cd) (.bool false) (.slice bd kd dd) (by omega);replace s6:=bf4 s6 (pd) (.bool nd) (.slice ad qd cd) (.bool false) (.slice bd kd dd) (by omega);replace s7:=bf4 s7 (pd) (.bool nd) (.slice ad qd cd) (.bool false) (.slice bd kd dd) (by omega);replace Kd:=bs4 Kd (.bool nd) (.slice ad qd cd) (.bool false) (.slice bd kd dd);generalize (World.setCell (World.setCell (World.setCell (World.setCell x73 ⟨pd,0,none⟩ (.bool nd)) ⟨pd,1,none⟩ (.slice ad qd cd)) ⟨pd,2,none⟩ (.bool false)) ⟨pd,3,none⟩ (.slice bd kd dd))=xe at *
       refine hK.out _ _ ?_ (fun hHeld2=>?_)
       ·exact⟨s0,s1,s2,s3,s4,s5,s6,s7⟩
       clear hK K hHeld
       have hHeld:=hHeld2
       clear hHeld2
       (try simp only [Act.put,pus])
       refine tk (v:=?_) 14 rfl (by kernel_rfl) (fun _ _ _ h=>h) (by rfl) ?_ (by assumption) ?_
       rotate_left
       ·(intro w hSw;(try dsimp only at hSw);(try go_simp);(try with_reducible rfl))
       (try simp only [Act.put,pus])
       refine wpAnyH_done (by kernel_rfl) ?_ _
       (go_wp2_with fail;go_meet;exact⟨_,_,_,_,_,_,_,_,rfl,rfl,Kd.out,Vd.out,Fd.out,hqd,hE⟩)
      exact AllReadyH.nil
     exact AllReadyH.nil
    refine AllReadyH.cons (o:=_) rfl (fun K hK=>?_) ?_
    ·go_simp
     have hy:Ext x71 (World.alloc x71 (.cells #[.bool false,.slice none 0 0,.bool false,.slice none 0 0] 44)):=Ext.alloc _ _;have hpd:w.heap.size≤Array.size (World.heap x71):=hx.size;have hqd:=hE.size;replace hE:=hE.trans hy;replace hx:=hx.trans hy;have md0:=lt_of_cell s0;replace s0:=cell_exQ hy s0;replace s1:=cell_exQ hy s1;replace s2:=cell_exQ hy s2;replace s3:=cell_exQ hy s3;have md4:=lt_of_cell s4;replace s4:=cell_exQ hy s4;replace s5:=cell_exQ hy s5;replace s6:=cell_exQ hy s6;replace s7:=cell_exQ hy s7;replace VX:=Lib.hid (VX.out.ext hy);replace VY:=Lib.hid (VY.out.ext hy);have Kd:=Lib.hid (Blk.new0 x71 #[.bool false,.slice none 0 0,.bool false,.slice none 0 0] 44);clear hy;generalize World.alloc x71 (.cells #[.bool false,.slice none 0 0,.bool false,.slice none 0 0] 44)=x74 at *;generalize Array.size (World.heap x71)=pd at *
     refine hK.out _ _ ?_ (fun hHeld2=>?_)
     ·exact⟨s0,s1,s2,s3,s4,s5,s6,s7⟩
     clear hK K hHeld
     have hHeld:=hHeld2
     clear hHeld2
     (try simp only [Act.put,pus])
     refine wpAnyH_ready (rs:=[8]) (by kernel_rfl) (by simp) ?_
     refine AllReadyH.cons (o:=_) rfl (fun K hK=>?_) ?_
     ·go_simp
      have hzx:=hE.size;(with_reducible refine(rMul_valR VX.out VY.out (HZ.out i hiN).1 (HZ.out i hiN).2 HPQ.out).mono ?_);rintro e x75 ⟨v1,rfl,hv,hy⟩;replace hE:=hE.trans hy;replace hx:=hx.trans hy;replace s0:=cell_exQ hy s0;replace s1:=cell_exQ hy s1;replace s2:=cell_exQ hy s2;replace s3:=cell_exQ hy s3;replace s4:=cell_exQ hy s4;replace s5:=cell_exQ hy s5;replace s6:=cell_exQ hy s6;replace s7:=cell_exQ hy s7;replace Kd:=kE Kd hy;replace VX:=Lib.hid (VX.out.ext hy);replace VY:=Lib.hid (VY.out.ext hy);clear hy;obtain⟨nd,ad,qd,cd,bd,kd,dd,rfl,hv',hf',hg'⟩:=hv;have Vd:=Lib.hid hv';have Fd:=Lib.hid (And.intro (fun A' hA=>Nat.le_trans hzx (hf' A' hA)) (fun A' hA=>Nat.le_trans hzx (hg' A' hA)));clear hv' hf' hg' hzx
      refine hK.out _ _ ?_ (fun hHeld2=>?_)
      ·exact⟨s0,s1,s2,s3,s4,s5,s6,s7⟩
      clear hK K hHeld
      have hHeld:=hHeld2
      clear hHeld2
      (try simp only [Act.put,pus])
      refine tk (v:=?_) 9 rfl (by kernel_rfl) (fun _ _ _ h=>h) (by rfl) ?_ (by assumption) ?_
      rotate_left
      ·(intro w hSw;(try dsimp only at hSw);(try go_simp);(try with_reducible rfl))
      (try simp only [Act.put,pus])
      refine tk (v:=?_) 10 rfl (by kernel_rfl) (fun _ _ _ h=>h) (by rfl) ?_ (by assumption) ?_
      rotate_left
      ·(intro w hSw;(try dsimp only at hSw);(try go_simp);(try with_reducible rfl))
      (try simp only [Act.put,pus])
      refine tk (v:=?_) 11 rfl (by kernel_rfl) (fun _ _ _ h=>h) (by rfl) ?_ (by assumption) ?_
      rotate_left
      ·(intro w hSw;(try dsimp only at hSw);(try go_simp);(try with_reducible rfl))
      (try simp only [Act.put,pus])
      refine wpAnyH_ready (rs:=[13]) (by kernel_rfl) (by simp) ?_
      refine AllReadyH.cons (o:=_) rfl (fun K hK=>?_) ?_
      ·obtain⟨g0,z0,g1,z1,g2,z2,g3,z3⟩:=bp4 Kd (.bool nd) (.slice ad qd cd) (.bool false) (.slice bd kd dd);go_simp;clear g0 z0 g1 z1 g2 z2 g3 z3;replace Vd:=(by first | exact rv4 Vd Kd (.bool nd) (.slice ad qd cd) (.bool false) (.slice bd kd dd) rfl rfl rfl rfl | exact bv4 Vd Kd (.bool nd) (.slice ad qd cd) (.bool false) (.slice bd kd dd) rfl rfl rfl rfl);replace hx:=bx4 hx (pd) (.bool nd) (.slice ad qd cd) (.bool false) (.slice bd kd dd) (by omega);replace hE:=bx4 hE (pd) (.bool nd) (.slice ad qd cd) (.bool false) (.slice bd kd dd) (by omega);replace s0:=bf4 s0 (pd) (.bool nd) (.slice ad qd cd) (.bool false) (.slice bd kd dd) (by omega);replace s1:=bf4 s1 (pd) (.bool nd) (.slice ad qd cd) (.bool false) (.slice bd kd dd) (by omega);replace s2:=bf4 s2 (pd) (.bool nd) (.slice ad qd cd) (.bool false) (.slice bd kd dd) (by omega);replace s3:=bf4 s3 (pd) (.bool nd) (.slice ad qd cd) (.bool false) (.slice bd kd dd) (by omega);replace s4:=bf4 s4 (pd) (.bool nd) (.slice ad qd cd) (.bool false) (.slice bd kd dd) (by omega);replace s5:=bf4 s5 (pd) (.bool nd) (.slice ad qd cd) (.bool false) (.slice bd kd dd) (by omega);replace s6:=bf4 s6 (pd) (.bool nd) (.slice ad qd cd) (.bool false) (.slice bd kd dd) (by omega);replace s7:=bf4 s7 (pd) (.bool nd) (.slice ad qd cd) (.bool false) (.slice bd kd dd) (by omega);replace Kd:=bs4 Kd (.bool nd) (.slice ad qd cd) (.bool false) (.slice bd kd dd);generalize (World.setCell (World.setCell (World.setCell (World.setCell x75 ⟨pd,0,none⟩ (.bool nd)) ⟨pd,1,none⟩ (.slice ad qd cd)) ⟨pd,2,none⟩ (.bool false)) ⟨pd,3,none⟩ (.slice bd kd dd))=xe at *
       refine hK.out _ _ ?_ (fun hHeld2=>?_)
       ·exact⟨s0,s1,s2,s3,s4,s5,s6,s7⟩
       clear hK K hHeld
       have hHeld:=hHeld2
       clear hHeld2
       (try simp only [Act.put,pus])
       refine tk (v:=?_) 14 rfl (by kernel_rfl) (fun _ _ _ h=>h) (by rfl) ?_ (by assumption) ?_
       rotate_left
       ·(intro w hSw;(try dsimp only at hSw);(try go_simp);(try with_reducible rfl))
       (try simp only [Act.put,pus])
       refine wpAnyH_done (by kernel_rfl) ?_ _
       (go_wp2_with fail;go_meet;exact⟨_,_,_,_,_,_,_,_,rfl,rfl,Kd.out,Vd.out,Fd.out,hqd,hE⟩)
      exact AllReadyH.nil
     exact AllReadyH.nil
    exact AllReadyH.nil
   case rest=>
   obtain⟨pd,nd,ad,qd,cd,bd,kd,dd,rfl,rfl,hkd,hvd,hfd,hpd,hyd⟩:=hcut
   have hrd:w.heap.size<pd:=Nat.lt_of_lt_of_le Kr.out.lt hpd
   have hsd:ps<pd:=Nat.lt_of_lt_of_le Ks.out.lt hpd
   replace hx:=hx.trans hyd
   replace Kr:=kE Kr hyd
   replace Ks:=kE Ks hyd
   replace VT:=Lib.hid (VT.out.ext hyd)
   have Kd:=Lib.hid hkd
   have Vd:=Lib.hid hvd
   clear hkd hvd hfd hyd c0 c1 c2 c3 d0 d1 d2 d3 VX VY
   obtain⟨cs0,cs1,cs2,cs3⟩:=bk4 Ks
   obtain⟨cd0,cd1,cd2,cd3⟩:=bk4 Kd
   have hsz:=hx.size
   go_wp2_with fail
   with_reducible refine(rAdd_valR VT.out Vd.out ZT.out ((HZ.out i hiN).1.mul (HZ.out i hiN).2) HMN.out).mono ?_
   clear cs0 cs1 cs2 cs3 cd0 cd1 cd2 cd3
   rintro e x91 ⟨v9,rfl,hv,hy⟩
   replace hx:=hx.trans hy
   replace Kr:=kE Kr hy
   replace Ks:=kE Ks hy
   replace Kd:=kE Kd hy
   replace VT:=Lib.hid (VT.out.ext hy)
   replace Vd:=Lib.hid (Vd.out.ext hy)
   clear hy
   obtain⟨nx,ax,qx,cx,bx,kx,dx,rfl,hv',hf',hg'⟩:=hv
   have Vx:=Lib.hid hv'
   have Fx:=Lib.hid (fun A hA=>Nat.le_trans hsz (hf' A hA))
   have Gx:=Lib.hid (fun A hA=>Nat.le_trans hsz (hg' A hA))
   clear hv' hf' hg' hsz
   obtain⟨g0,z0,g1,z1,g2,z2,g3,z3⟩:=bp4 Ks (.bool nx) (.slice ax qx cx) (.bool false) (.slice bx kx dx)
   go_wp2_with fail
   clear g0 z0 g1 z1 g2 z2 g3 z3
   replace VT:=(by first | exact rv4 VT Ks (.bool nx) (.slice ax qx cx) (.bool false) (.slice bx kx dx) rfl rfl rfl rfl | exact bv4 VT Ks (.bool nx) (.slice ax qx cx) (.bool false) (.slice bx kx dx) rfl rfl rfl rfl)
   replace Vd:=(by first | exact rv4 Vd Ks (.bool nx) (.slice ax qx cx) (.bool false) (.slice bx kx dx) rfl rfl rfl rfl | exact bv4 Vd Ks (.bool nx) (.slice ax qx cx) (.bool false) (.slice bx kx dx) rfl rfl rfl rfl)
   replace Vx:=(by first | exact rv4 Vx Ks (.bool nx) (.slice ax qx cx) (.bool false) (.slice bx kx dx) rfl rfl rfl rfl | exact bv4 Vx Ks (.bool nx) (.slice ax qx cx) (.bool false) (.slice bx kx dx) rfl rfl rfl rfl)
   replace hx:=bx4 hx (ps) (.bool nx) (.slice ax qx cx) (.bool false) (.slice bx kx dx) (by omega)
   replace Kr:=bo4 Kr (ps) (.bool nx) (.slice ax qx cx) (.bool false) (.slice bx kx dx) (by omega)
   replace Ks:=bs4 Ks (.bool nx) (.slice ax qx cx) (.bool false) (.slice bx kx dx)
   replace Kd:=bo4 Kd (ps) (.bool nx) (.slice ax qx cx) (.bool false) (.slice bx kx dx) (by omega)
   generalize ((((x91).setCell ⟨ps,0,none⟩ (.bool nx)).setCell ⟨ps,1,none⟩ (.slice ax qx cx)).setCell ⟨ps,2,none⟩ (.bool false)).setCell ⟨ps,3,none⟩ (.slice bx kx dx)=x92 at *
   go_roundw
   case rel=>exact⟨i+1,by omega,by go_num,⟨nx,ax,qx,cx,false,bx,kx,dx⟩,Kr.out,Ks.out,Vx.out,rfl,⟨Fx.out,Gx.out⟩,hx⟩
   case measure=>simp [intOf];omega
  ·have i1:¬ (i:Int)< (N:Int):=by omega
   have hie:i=N:=by omega
   subst hie
   obtain⟨cs0,cs1,cs2,cs3⟩:=bk4 Ks
   obtain⟨g0,z0,g1,z1,g2,z2,g3,z3⟩:=bp4 Kr (.bool nt) (.slice at1 qt ct) (.bool false) (.slice bt kt dt)
   go_wp2_with fail
   clear g0 z0 g1 z1 g2 z2 g3 z3
   clear cs0 cs1 cs2 cs3
   replace VT:=(by first | exact rv4 VT Kr (.bool nt) (.slice at1 qt ct) (.bool false) (.slice bt kt dt) rfl rfl rfl rfl | exact bv4 VT Kr (.bool nt) (.slice at1 qt ct) (.bool false) (.slice bt kt dt) rfl rfl rfl rfl)
   replace hx:=bx4 hx (w.heap.size) (.bool nt) (.slice at1 qt ct) (.bool false) (.slice bt kt dt) (by omega)
   replace Kr:=bs4 Kr (.bool nt) (.slice at1 qt ct) (.bool false) (.slice bt kt dt)
   replace Ks:=bo4 Ks (w.heap.size) (.bool nt) (.slice at1 qt ct) (.bool false) (.slice bt kt dt) (by omega)
   generalize ((((wr).setCell ⟨w.heap.size,0,none⟩ (.bool nt)).setCell ⟨w.heap.size,1,none⟩ (.slice at1 qt ct)).setCell ⟨w.heap.size,2,none⟩ (.bool false)).setCell ⟨w.heap.size,3,none⟩ (.slice bt kt dt)=x121 at *
   obtain⟨cr0,cr1,cr2,cr3⟩:=bk4 Kr
   refine bodyPost_ret (v:=.agg #[.bool nt,.slice at1 qt ct,.bool false,.slice bt kt dt]) (by simp [results,Tryz.results42,go_sem,cr0,cr1,cr2,cr3]) rfl ?_
   exact⟨_,rfl,⟨_,_,_,_,_,_,_,rfl,VT.out,FT.out.1,FT.out.2⟩,hx⟩
end Go.Proofs.YtokffagbdfhnnaaGreat
