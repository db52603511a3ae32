import Derived.Test.YtolffmmkjnhkkaaGreatMB
import Derived.OwnWalk
import Derived.Deep.QuietTactic
namespace Go.Proofs.YtolffmmkjnhkkaaGreat
open Go.RowKit Go BigFrame Go.Shelf
set_option maxRecDepth 100000
set_option linter.unusedSimpArgs false
set_option linter.unusedVariables false
attribute [local go_sem] Oper.semAt_some
theorem knIx_yes (l:List Int) {q:Nat} (h:l.getD q 0≠-1):knIx l (q+1)=knIx l q ++ [q]:=by unfold knIx;rw [List.range_succ,List.filter_append];simp at h;simp [h]
theorem knIx_no (l:List Int) {q:Nat} (h:l.getD q 0= -1):knIx l (q+1)=knIx l q:=by unfold knIx;rw [List.range_succ,List.filter_append];simp at h;simp [h]
def MeanQ (l:List Int) (S:List Rat) (w:World) (e:Ending) (w':World):Prop:=∃c:RatC,e=.returned (.tuple #[c.val,.int .i64 0])∧RO w' c.val (meanO l S)∧FreshC w.heap.size c∧Ext w w'
set_option maxHeartbeats 8000000 in
theorem ref40_mean (a:Option Addr) (cap:Nat) (l:List Int) (s:Option Addr) (sc:Nat) (L:List RatA) (S:List Rat) (w:World) (h:Ints w a cap l) (k:RatsI w s sc L)
 (hV:ValL L S 7) (hls:l.length=S.length) (hm:∀x∈l,-1≤x∧x≤1000) (hl:l.length≤20):
 Calls Tryz.prog 34 #[.slice a l.length cap,.slice s L.length sc] w (MeanQ l S w):=by
 have hle:=h.le
 have hmx:=h.mx
 have sle:=k.le
 have smx:=k.mx
 have HV:=Lib.hid hV
 have HM:=Lib.hid hm
 have HLS:=Lib.hid hls
 obtain⟨x1,hw,hx,Kr⟩:=boxQ1 w #[.bool false,.slice none 0 0,.bool false,.slice none 0 0] 38
 replace hw:=Lib.hid hw
 have HROW:=Lib.hid (ref40_row a cap l s sc L S x1 (h.ext hx) (k.ext hx) hV hls hm (by omega))
 have HH:=Lib.hid h
 clear h k hV hm hls
 go_enter Tryz.func34,Tryz.ntmps34
 go_upto_region 1 with fail
 try simp only [Nat.add_assoc,Nat.reduceAdd,Nat.add_zero]
 rw [hw.out]
 clear hw
 have hs0:=hx.size
 go_wp2_with fail
 refine HROW.out.mono ?_
 rintro e x2 ⟨v,xs,rfl,hO,hF,hy⟩
 obtain⟨va,vc,rfl,hvl,hvc⟩:=hO.form
 replace hx:=hx.trans hy
 replace Kr:=kE Kr hy
 have HO:=Lib.hid hO
 have HXL:=Lib.hid (show xs.length=l.length by have:=hO.len;rw [rowO_len] at this;exact this)
 clear hO hF hy HROW
 have hsz:=hx.size
 go_wp2_with fail
 refine(ref10_Int 0 _ (by omega)).mono ?_
 rintro e x3 ⟨v,rfl,hv,hy⟩
 replace hx:=hx.trans hy
 replace Kr:=kE Kr hy
 replace HO:=Lib.hid (HO.out.ext hy)
 clear hy
 obtain⟨nz,az,qz,cz,bz,kz,dz,rfl,hv',hf',hg'⟩:=hv
 have Vz:=Lib.hid hv'
 clear hv' hf' hg' hsz
 have hoff:∀x∈xs,x.Off (some x3.heap.size):=fun x hx=>by
  obtain⟨i,hi,rfl⟩:=List.getElem_of_mem hx
  exact(HO.out.val i hi).offNew
 have HOF0:=Lib.hid hoff
 have HLT0:=Lib.hid HO.out.lt
 clear hoff
 go_upto_region 5 with fail
 have hl:=Ext.alloc x3 (.cells #[.bool nz,.slice az qz cz,.bool false,.slice bz kz dz] 38)
 have lrs:w.heap.size<x3.heap.size:=Kr.out.lt
 have hps:w.heap.size≤x3.heap.size:=hx.size
 replace hx:=hx.trans hl
 replace Kr:=kE Kr hl
 replace Vz:=Lib.hid (Vz.out.ext hl)
 replace HO:=Lib.hid (HO.out.ext hl)
 have Ks:=Lib.hid (Blk.new0 x3 #[.bool nz,.slice az qz cz,.bool false,.slice bz kz dz] 38)
 clear hl
 generalize x3.alloc (.cells #[.bool nz,.slice az qz cz,.bool false,.slice bz kz dz] 38)=x11 at *
 generalize x3.heap.size=ps at *
 have HX5:=Lib.hid hx
 have HLTs:=Lib.hid Ks.out.lt
 have hrs:w.heap.size<ps:=lrs
 clear hx
 go_wp2_with fail
 go_loopw [9,10] (fun n i wr=>∃q:Nat,q≤l.length∧i=.int .i64 q∧n=.int .i64 ((knIx l q).length:Nat)∧(∃ (nu:Bool) (au:Option Addr) (qu cu:Nat) (bu:Option Addr) (ku du:Nat),Blk wr ps #[.bool nu,.slice au qu cu,.bool false,.slice bu ku du] 38∧RatV wr (.agg #[.bool nu,.slice au qu cu,.bool false,.slice bu ku du]) (sumR l S (knIx l q)))∧OwnOs wr x1.heap.size (.slice va xs.length vc) xs (rowO l S)∧Blk wr w.heap.size #[.bool false,.slice none 0 0,.bool false,.slice none 0 0] 38∧Ext w wr) (fun _ i _=>l.length - (intOf i).toNat)
 case atStart=>exact⟨0,Nat.zero_le _,rfl,rfl,⟨_,_,_,_,_,_,_,Ks.out,Vz.out⟩,HO.out,Kr.out,HX5.out⟩
 case round=>
  obtain⟨q,hq,rfl,rfl,⟨nu,au,qu,cu,bu,ku,du,hbs,hvs⟩,hO,hbr,hx⟩:=hrel
  clear Kr Ks Vz HO HX5 HLTs
  have q1:(0:Int)≤(q:Int):=by omega
  have Ks:=Lib.hid hbs
  have Vu:=Lib.hid hvs
  have HO:=Lib.hid hO
  have Kr:=Lib.hid hbr
  have HPS:=Lib.hid Ks.out.lt
  have HZS:=Lib.hid (sum_sz HV.out HLS.out HM.out (knIx l q) (fun j hj=>by have:=knIx_lt hj;omega))
  have hkl:=knIx_len l q
  clear hbs hvs hO hbr
  have hzs:=hx.size
  by_cases hqn:q<l.length
  ·have q2:(q:Int)< (l.length:Int):=by omega
   have hqx:q<xs.length:=by have:=HXL.out;omega
   have q3:(q:Int)< (xs.length:Int):=by omega
   have hw1:IntKind.i64.wrap ((q:Int)+1)= (q:Int)+1:=IntWalk.i64_in _ (by omega)
   have hw2:IntKind.i64.wrap (((knIx l q).length:Int)+1)= ((knIx l q).length:Int)+1:=IntWalk.i64_in _ (by omega)
   obtain⟨b,o,rfl⟩:=HH.out.head hqn
   obtain⟨z,hz,hc,hz1,hz2⟩:=Ints.get (HH.out.ext hx) hqn
   have HZ:Hid (l.getD q 0=z):=Lib.hid (by rw [List.getD_eq_getElem?_getD,hz];rfl)
   clear hz
   by_cases hzm:z= -1
   ·subst hzm
    have HKN:=Lib.hid (knIx_no l HZ.out)
    have HX:=Lib.hid hx
    go_wp2_with fail
    go_roundw
    case rel=>exact⟨q+1,by omega,by go_num,(by rw [HKN.out]),⟨_,_,_,_,_,_,_,Ks.out,(by rw [HKN.out];exact Vu.out)⟩,HO.out,Kr.out,HX.out⟩
    case measure=>simp [intOf];omega
   ·have HKY:=Lib.hid (knIx_yes l (q:=q) (by rw [HZ.out];exact hzm))
    have HDZ:=Lib.hid (diff_sz HV.out HLS.out HM.out hqn)
    obtain⟨gb,gc,e0,hgB,hgl,-,-⟩:=HO.out.head (by omega)
    simp only [Value.slice.injEq] at e0
    obtain⟨rfl,-,rfl⟩:=e0
    obtain⟨g0,g1,g2,g3⟩:=HO.out.cells hqx
    have V1:=HO.out.val q hqx
    rw [rowO_get l S hqn,HZ.out,if_neg hzm,←HZ.out] at V1
    replace V1:RatV wr xs[q].val (diffR l S q):=V1
    generalize hxq:xs[q]=cx at *
    clear hxq
    obtain⟨n1,a1,q1',c1,m1,b1,k1,d1⟩:=cx
    dsimp only [RatC.val] at g0 g1 g2 g3 V1
    obtain⟨n1',a1',q1'',c1',b1',k1',d1',e1⟩:=V1.form
    simp only [Value.agg.injEq,Array.mk.injEq,List.cons.injEq,Value.bool.injEq,Value.slice.injEq,and_true] at e1
    obtain⟨-,-,rfl,-⟩:=e1
    replace V1:=Lib.hid V1
    go_upto_region 10 with fail
    go_cut [11,12] (fun s1 s2 wx=>∃ (p:Nat) (nd:Bool) (ad:Option Addr) (qd cd:Nat) (bd:Option Addr) (kd dd:Nat),s1=.pointer (some ⟨p,0,none⟩)∧s2=.int .i64 0∧Blk wx p #[.bool nd,.slice ad qd cd,.bool false,.slice bd kd dd] 38∧wr.heap.size≤p∧RatV wx (.agg #[.bool nd,.slice ad qd cd,.bool false,.slice bd kd dd]) (sumR l S (knIx l q)+diffR l S q)∧Ext wr wx)
    case first=>
     have s0:World.cell? wr ⟨ps,0,none⟩=some (.bool nu):=Ks.out.cell rfl
     have s1:World.cell? wr ⟨ps,1,none⟩=some (.slice au qu cu):=Ks.out.cell rfl
     have s2:World.cell? wr ⟨ps,2,none⟩=some (.bool false):=Ks.out.cell rfl
     have s3:World.cell? wr ⟨ps,3,none⟩=some (.slice bu ku du):=Ks.out.cell rfl
     have s4:World.cell? wr ⟨gb,q*4,none⟩=some (.bool n1):=g0
     have s5:World.cell? wr ⟨gb,q*4+1,none⟩=some (.slice a1 q1' c1):=g1
     have s6:World.cell? wr ⟨gb,q*4+2,none⟩=some (.bool false):=g2
     have s7:World.cell? wr ⟨gb,q*4+3,none⟩=some (.slice b1 k1 d1):=g3
     have hE:Ext wr (World.drew wr):=(Ext.refl _).drew
     have hyd:Ext wr (World.drew wr):=(Ext.refl _).drew
     replace hx:=hx.trans hyd
     replace Ks:=kE Ks hyd
     replace Kr:=kE Kr hyd
     replace V1:=Lib.hid (V1.out.ext hyd)
     replace Vu:=Lib.hid (Vu.out.ext hyd)
     clear hyd
     replace s0:World.cell? (World.drew wr) ⟨ps,0,none⟩=some (.bool nu):=s0
     replace s1:World.cell? (World.drew wr) ⟨ps,1,none⟩=some (.slice au qu cu):=s1
     replace s2:World.cell? (World.drew wr) ⟨ps,2,none⟩=some (.bool false):=s2
     replace s3:World.cell? (World.drew wr) ⟨ps,3,none⟩=some (.slice bu ku du):=s3
     replace s4:World.cell? (World.drew wr) ⟨gb,q*4,none⟩=some (.bool n1):=s4
     replace s5:World.cell? (World.drew wr) ⟨gb,q*4+1,none⟩=some (.slice a1 q1' c1):=s5
     replace s6:World.cell? (World.drew wr) ⟨gb,q*4+2,none⟩=some (.bool false):=s6
     replace s7:World.cell? (World.drew wr) ⟨gb,q*4+3,none⟩=some (.slice b1 k1 d1):=s7
     refine wp_region_held_drew (S:=(fun w'=>World.cell? w' ⟨ps,0,none⟩=some (.bool nu)∧World.cell? w' ⟨ps,1,none⟩=some (.slice au qu cu)∧World.cell? w' ⟨ps,2,none⟩=some (.bool false)∧World.cell? w' ⟨ps,3,none⟩=some (.slice bu ku du)∧World.cell? w' ⟨gb,q*4,none⟩=some (.bool n1)∧World.cell? w' ⟨gb,q*4+1,none⟩=some (.slice a1 q1' c1)∧World.cell? w' ⟨gb,q*4+2,none⟩=some (.bool false)∧World.cell? w' ⟨gb,q*4+3,none⟩=some (.slice b1 k1 d1))) (by kernel_rfl) ?_ (fun hHeld=>?_)
     ·exact⟨s0,s1,s2,s3,s4,s5,s6,s7⟩
     (try simp only [pur,Nat.reduceAdd])
     generalize World.drew wr=x41 at *
     refine tk (v:=?_) 0 rfl (by kernel_rfl) (fun _ _ _ h=>h) (by rfl) ?_ (by assumption) ?_
     rotate_left
     ·(intro w hSw;(try dsimp only at hSw);(try go_simp);(try with_reducible rfl))
     (try simp only [Act.put,pus])
     refine tk (v:=?_) 1 rfl (by kernel_rfl) (fun _ _ _ h=>h) (by rfl) ?_ (by assumption) ?_
     rotate_left
     ·(intro w hSw;(try dsimp only at hSw);(try go_simp);(try with_reducible rfl))
     (try simp only [Act.put,pus])
     refine tk (v:=?_) 2 rfl (by kernel_rfl) (fun _ _ _ h=>h) (by rfl) ?_ (by assumption) ?_
     rotate_left
     ·(intro w hSw;(try dsimp only at hSw);(try go_simp);(try with_reducible rfl))
     (try simp only [Act.put,pus])
     refine tk (v:=?_) 3 rfl (by kernel_rfl) (fun _ _ _ h=>h) (by rfl) ?_ (by assumption) ?_
     rotate_left
     ·(intro w hSw;(try dsimp only at hSw);(try go_simp);(try with_reducible rfl))
     (try simp only [Act.put,pus])
     refine tk (v:=?_) 4 rfl (by kernel_rfl) (fun _ _ _ h=>h) (by rfl) ?_ (by assumption) ?_
     rotate_left
     ·(intro w hSw;(try dsimp only at hSw);(try go_simp);(try with_reducible rfl))
     (try simp only [Act.put,pus])
     refine wpAnyH_ready (rs:=[5,9]) (by kernel_rfl) (by simp) ?_
     refine AllReadyH.cons (o:=_) rfl (fun K hK=>?_) ?_
     ·go_simp
      (with_reducible refine(rAdd_valR (i:=10* (knIx l q).length+1) (j:=9) Vu.out V1.out HZS.out HDZ.out (by omega)).mono ?_);rintro e x42 ⟨v1,rfl,hv,hy⟩;replace hE:=hE.trans hy;replace hx:=hx.trans hy;replace s0:=cell_exQ hy s0;replace s1:=cell_exQ hy s1;replace s2:=cell_exQ hy s2;replace s3:=cell_exQ hy s3;replace s4:=cell_exQ hy s4;replace s5:=cell_exQ hy s5;replace s6:=cell_exQ hy s6;replace s7:=cell_exQ hy s7;replace Ks:=kE Ks hy;replace Kr:=kE Kr hy;replace V1:=Lib.hid (V1.out.ext hy);replace Vu:=Lib.hid (Vu.out.ext hy);clear hy;obtain⟨nd,ad,qd,cd,bd,kd,dd,rfl,hv',hf',hg'⟩:=hv;have Vd:=Lib.hid hv';clear hv' hf' hg'
      refine hK.out _ _ ?_ (fun hHeld2=>?_)
      ·exact⟨s0,s1,s2,s3,s4,s5,s6,s7⟩
      clear hK K hHeld
      have hHeld:=hHeld2
      clear hHeld2
      (try simp only [Act.put,pus])
      refine tk (v:=?_) 6 rfl (by kernel_rfl) (fun _ _ _ h=>h) (by rfl) ?_ (by assumption) ?_
      rotate_left
      ·(intro w hSw;(try dsimp only at hSw);(try go_simp);(try with_reducible rfl))
      (try simp only [Act.put,pus])
      refine tk (v:=?_) 7 rfl (by kernel_rfl) (fun _ _ _ h=>h) (by rfl) ?_ (by assumption) ?_
      rotate_left
      ·(intro w hSw;(try dsimp only at hSw);(try go_simp);(try with_reducible rfl))
      (try simp only [Act.put,pus])
      refine tk (v:=?_) 8 rfl (by kernel_rfl) (fun _ _ _ h=>h) (by rfl) ?_ (by assumption) ?_
      rotate_left
      ·(intro w hSw;(try dsimp only at hSw);(try go_simp);(try with_reducible rfl))
      (try simp only [Act.put,pus])
      refine wpAnyH_ready (rs:=[9]) (by kernel_rfl) (by simp) ?_
      refine AllReadyH.cons (o:=_) rfl (fun K hK=>?_) ?_
      ·go_simp
       have hy:Ext x42 (World.alloc x42 (.cells #[.bool false,.slice none 0 0,.bool false,.slice none 0 0] 38)):=Ext.alloc _ _;have lsd:ps<Array.size (World.heap x42):=Ks.out.lt;have lrd:w.heap.size<Array.size (World.heap x42):=Kr.out.lt;have hpd:w.heap.size≤Array.size (World.heap x42):=hx.size;have hqd:=hE.size;replace hE:=hE.trans hy;replace hx:=hx.trans hy;have md0:=lt_of_cell s0;replace s0:=cell_exQ hy s0;have md1:=lt_of_cell s1;replace s1:=cell_exQ hy s1;have md2:=lt_of_cell s2;replace s2:=cell_exQ hy s2;have md3:=lt_of_cell s3;replace s3:=cell_exQ hy s3;have md4:=lt_of_cell s4;replace s4:=cell_exQ hy s4;have md5:=lt_of_cell s5;replace s5:=cell_exQ hy s5;have md6:=lt_of_cell s6;replace s6:=cell_exQ hy s6;have md7:=lt_of_cell s7;replace s7:=cell_exQ hy s7;replace Ks:=kE Ks hy;replace Kr:=kE Kr hy;replace V1:=Lib.hid (V1.out.ext hy);replace Vu:=Lib.hid (Vu.out.ext hy);replace Vd:=Lib.hid (Vd.out.ext hy);have Kd:=Lib.hid (Blk.new0 x42 #[.bool false,.slice none 0 0,.bool false,.slice none 0 0] 38);clear hy;generalize World.alloc x42 (.cells #[.bool false,.slice none 0 0,.bool false,.slice none 0 0] 38)=x43 at *;generalize Array.size (World.heap x42)=pd at *
       refine hK.out _ _ ?_ (fun hHeld2=>?_)
       ·exact⟨s0,s1,s2,s3,s4,s5,s6,s7⟩
       clear hK K hHeld
       have hHeld:=hHeld2
       clear hHeld2
       (try simp only [Act.put,pus])
       refine wpAnyH_ready (rs:=[10]) (by kernel_rfl) (by simp) ?_
       refine AllReadyH.cons (o:=_) rfl (fun K hK=>?_) ?_
       ·obtain⟨g0,z0,g1,z1,g2,z2,g3,z3⟩:=bp4 Kd (.bool nd) (.slice ad qd cd) (.bool false) (.slice bd kd dd);go_simp;clear g0 z0 g1 z1 g2 z2 g3 z3;replace V1:=(by first | exact rv4 V1 Kd (.bool nd) (.slice ad qd cd) (.bool false) (.slice bd kd dd) rfl rfl rfl rfl | exact bv4 V1 Kd (.bool nd) (.slice ad qd cd) (.bool false) (.slice bd kd dd) rfl rfl rfl rfl);replace Vu:=(by first | exact rv4 Vu Kd (.bool nd) (.slice ad qd cd) (.bool false) (.slice bd kd dd) rfl rfl rfl rfl | exact bv4 Vu Kd (.bool nd) (.slice ad qd cd) (.bool false) (.slice bd kd dd) rfl rfl rfl rfl);replace Vd:=(by first | exact rv4 Vd Kd (.bool nd) (.slice ad qd cd) (.bool false) (.slice bd kd dd) rfl rfl rfl rfl | exact bv4 Vd Kd (.bool nd) (.slice ad qd cd) (.bool false) (.slice bd kd dd) rfl rfl rfl rfl);replace hx:=bx4 hx (pd) (.bool nd) (.slice ad qd cd) (.bool false) (.slice bd kd dd) (by omega);replace hE:=bx4 hE (pd) (.bool nd) (.slice ad qd cd) (.bool false) (.slice bd kd dd) (by omega);replace s0:=bf4 s0 (pd) (.bool nd) (.slice ad qd cd) (.bool false) (.slice bd kd dd) (by omega);replace s1:=bf4 s1 (pd) (.bool nd) (.slice ad qd cd) (.bool false) (.slice bd kd dd) (by omega);replace s2:=bf4 s2 (pd) (.bool nd) (.slice ad qd cd) (.bool false) (.slice bd kd dd) (by omega);replace s3:=bf4 s3 (pd) (.bool nd) (.slice ad qd cd) (.bool false) (.slice bd kd dd) (by omega);replace s4:=bf4 s4 (pd) (.bool nd) (.slice ad qd cd) (.bool false) (.slice bd kd dd) (by omega);replace s5:=bf4 s5 (pd) (.bool nd) (.slice ad qd cd) (.bool false) (.slice bd kd dd) (by omega);replace s6:=bf4 s6 (pd) (.bool nd) (.slice ad qd cd) (.bool false) (.slice bd kd dd) (by omega);replace s7:=bf4 s7 (pd) (.bool nd) (.slice ad qd cd) (.bool false) (.slice bd kd dd) (by omega);replace Ks:=bo4 Ks (pd) (.bool nd) (.slice ad qd cd) (.bool false) (.slice bd kd dd) (by omega);replace Kr:=bo4 Kr (pd) (.bool nd) (.slice ad qd cd) (.bool false) (.slice bd kd dd) (by omega);replace Kd:=bs4 Kd (.bool nd) (.slice ad qd cd) (.bool false) (.slice bd kd dd);generalize (World.setCell (World.setCell (World.setCell (World.setCell x43 ⟨pd,0,none⟩ (.bool nd)) ⟨pd,1,none⟩ (.slice ad qd cd)) ⟨pd,2,none⟩ (.bool false)) ⟨pd,3,none⟩ (.slice bd kd dd))=xe at *
        refine hK.out _ _ ?_ (fun hHeld2=>?_)
        ·exact⟨s0,s1,s2,s3,s4,s5,s6,s7⟩
        clear hK K hHeld
        have hHeld:=hHeld2
        clear hHeld2
        (try simp only [Act.put,pus])
        refine tk (v:=?_) 11 rfl (by kernel_rfl) (fun _ _ _ h=>h) (by rfl) ?_ (by assumption) ?_
        rotate_left
        ·(intro w hSw;(try dsimp only at hSw);(try go_simp);(try with_reducible rfl))
        (try simp only [Act.put,pus])
        refine wpAnyH_done (by kernel_rfl) ?_ _
        (go_wp2_with fail;go_meet;exact⟨_,_,_,_,_,_,_,_,rfl,rfl,Kd.out,hqd,Vd.out,hE⟩)
       exact AllReadyH.nil
      exact AllReadyH.nil
     refine AllReadyH.cons (o:=_) rfl (fun K hK=>?_) ?_
     ·go_simp
      have hy:Ext x41 (World.alloc x41 (.cells #[.bool false,.slice none 0 0,.bool false,.slice none 0 0] 38)):=Ext.alloc _ _;have lsd:ps<Array.size (World.heap x41):=Ks.out.lt;have lrd:w.heap.size<Array.size (World.heap x41):=Kr.out.lt;have hpd:w.heap.size≤Array.size (World.heap x41):=hx.size;have hqd:=hE.size;replace hE:=hE.trans hy;replace hx:=hx.trans hy;have md0:=lt_of_cell s0;replace s0:=cell_exQ hy s0;have md1:=lt_of_cell s1;replace s1:=cell_exQ hy s1;have md2:=lt_of_cell s2;replace s2:=cell_exQ hy s2;have md3:=lt_of_cell s3;replace s3:=cell_exQ hy s3;have md4:=lt_of_cell s4;replace s4:=cell_exQ hy s4;have md5:=lt_of_cell s5;replace s5:=cell_exQ hy s5;have md6:=lt_of_cell s6;replace s6:=cell_exQ hy s6;have md7:=lt_of_cell s7;replace s7:=cell_exQ hy s7;replace Ks:=kE Ks hy;replace Kr:=kE Kr hy;replace V1:=Lib.hid (V1.out.ext hy);replace Vu:=Lib.hid (Vu.out.ext hy);have Kd:=Lib.hid (Blk.new0 x41 #[.bool false,.slice none 0 0,.bool false,.slice none 0 0] 38);clear hy;generalize World.alloc x41 (.cells #[.bool false,.slice none 0 0,.bool false,.slice none 0 0] 38)=x44 at *;generalize Array.size (World.heap x41)=pd at *
      refine hK.out _ _ ?_ (fun hHeld2=>?_)
      ·exact⟨s0,s1,s2,s3,s4,s5,s6,s7⟩
      clear hK K hHeld
      have hHeld:=hHeld2
      clear hHeld2
      (try simp only [Act.put,pus])
      refine wpAnyH_ready (rs:=[5]) (by kernel_rfl) (by simp) ?_
      refine AllReadyH.cons (o:=_) rfl (fun K hK=>?_) ?_
      ·go_simp
       (with_reducible refine(rAdd_valR (i:=10* (knIx l q).length+1) (j:=9) Vu.out V1.out HZS.out HDZ.out (by omega)).mono ?_);rintro e x45 ⟨v1,rfl,hv,hy⟩;replace hE:=hE.trans hy;replace hx:=hx.trans hy;replace s0:=cell_exQ hy s0;replace s1:=cell_exQ hy s1;replace s2:=cell_exQ hy s2;replace s3:=cell_exQ hy s3;replace s4:=cell_exQ hy s4;replace s5:=cell_exQ hy s5;replace s6:=cell_exQ hy s6;replace s7:=cell_exQ hy s7;replace Ks:=kE Ks hy;replace Kr:=kE Kr hy;replace Kd:=kE Kd hy;replace V1:=Lib.hid (V1.out.ext hy);replace Vu:=Lib.hid (Vu.out.ext hy);clear hy;obtain⟨nd,ad,qd,cd,bd,kd,dd,rfl,hv',hf',hg'⟩:=hv;have Vd:=Lib.hid hv';clear hv' hf' hg'
       refine hK.out _ _ ?_ (fun hHeld2=>?_)
       ·exact⟨s0,s1,s2,s3,s4,s5,s6,s7⟩
       clear hK K hHeld
       have hHeld:=hHeld2
       clear hHeld2
       (try simp only [Act.put,pus])
       refine tk (v:=?_) 6 rfl (by kernel_rfl) (fun _ _ _ h=>h) (by rfl) ?_ (by assumption) ?_
       rotate_left
       ·(intro w hSw;(try dsimp only at hSw);(try go_simp);(try with_reducible rfl))
       (try simp only [Act.put,pus])
       refine tk (v:=?_) 7 rfl (by kernel_rfl) (fun _ _ _ h=>h) (by rfl) ?_ (by assumption) ?_
       rotate_left
       ·(intro w hSw;(try dsimp only at hSw);(try go_simp);(try with_reducible rfl))
       (try simp only [Act.put,pus])
       refine tk (v:=?_) 8 rfl (by kernel_rfl) (fun _ _ _ h=>h) (by rfl) ?_ (by assumption) ?_
       rotate_left
       ·(intro w hSw;(try dsimp only at hSw);(try go_simp);(try with_reducible rfl))
       (try simp only [Act.put,pus])
       refine wpAnyH_ready (rs:=[10]) (by kernel_rfl) (by simp) ?_
       refine AllReadyH.cons (o:=_) rfl (fun K hK=>?_) ?_
       ·obtain⟨g0,z0,g1,z1,g2,z2,g3,z3⟩:=bp4 Kd (.bool nd) (.slice ad qd cd) (.bool false) (.slice bd kd dd);go_simp;clear g0 z0 g1 z1 g2 z2 g3 z3;replace V1:=(by first | exact rv4 V1 Kd (.bool nd) (.slice ad qd cd) (.bool false) (.slice bd kd dd) rfl rfl rfl rfl | exact bv4 V1 Kd (.bool nd) (.slice ad qd cd) (.bool false) (.slice bd kd dd) rfl rfl rfl rfl);replace Vu:=(by first | exact rv4 Vu Kd (.bool nd) (.slice ad qd cd) (.bool false) (.slice bd kd dd) rfl rfl rfl rfl | exact bv4 Vu Kd (.bool nd) (.slice ad qd cd) (.bool false) (.slice bd kd dd) rfl rfl rfl rfl);replace Vd:=(by first | exact rv4 Vd Kd (.bool nd) (.slice ad qd cd) (.bool false) (.slice bd kd dd) rfl rfl rfl rfl | exact bv4 Vd Kd (.bool nd) (.slice ad qd cd) (.bool false) (.slice bd kd dd) rfl rfl rfl rfl);replace hx:=bx4 hx (pd) (.bool nd) (.slice ad qd cd) (.bool false) (.slice bd kd dd) (by omega);replace hE:=bx4 hE (pd) (.bool nd) (.slice ad qd cd) (.bool false) (.slice bd kd dd) (by omega);replace s0:=bf4 s0 (pd) (.bool nd) (.slice ad qd cd) (.bool false) (.slice bd kd dd) (by omega);replace s1:=bf4 s1 (pd) (.bool nd) (.slice ad qd cd) (.bool false) (.slice bd kd dd) (by omega);replace s2:=bf4 s2 (pd) (.bool nd) (.slice ad qd cd) (.bool false) (.slice bd kd dd) (by omega);replace s3:=bf4 s3 (pd) (.bool nd) (.slice ad qd cd) (.bool false) (.slice bd kd dd) (by omega);replace s4:=bf4 s4 (pd) (.bool nd) (.slice ad qd cd) (.bool false) (.slice bd kd dd) (by omega);replace s5:=bf4 s5 (pd) (.bool nd) (.slice ad qd cd) (.bool false) (.slice bd kd dd) (by omega);replace s6:=bf4 s6 (pd) (.bool nd) (.slice ad qd cd) (.bool false) (.slice bd kd dd) (by omega);replace s7:=bf4 s7 (pd) (.bool nd) (.slice ad qd cd) (.bool false) (.slice bd kd dd) (by omega);replace Ks:=bo4 Ks (pd) (.bool nd) (.slice ad qd cd) (.bool false) (.slice bd kd dd) (by omega);replace Kr:=bo4 Kr (pd) (.bool nd) (.slice ad qd cd) (.bool false) (.slice bd kd dd) (by omega);replace Kd:=bs4 Kd (.bool nd) (.slice ad qd cd) (.bool false) (.slice bd kd dd);generalize (World.setCell (World.setCell (World.setCell (World.setCell x45 ⟨pd,0,none⟩ (.bool nd)) ⟨pd,1,none⟩ (.slice ad qd cd)) ⟨pd,2,none⟩ (.bool false)) ⟨pd,3,none⟩ (.slice bd kd dd))=xe at *
        refine hK.out _ _ ?_ (fun hHeld2=>?_)
        ·exact⟨s0,s1,s2,s3,s4,s5,s6,s7⟩
        clear hK K hHeld
        have hHeld:=hHeld2
        clear hHeld2
        (try simp only [Act.put,pus])
        refine tk (v:=?_) 11 rfl (by kernel_rfl) (fun _ _ _ h=>h) (by rfl) ?_ (by assumption) ?_
        rotate_left
        ·(intro w hSw;(try dsimp only at hSw);(try go_simp);(try with_reducible rfl))
        (try simp only [Act.put,pus])
        refine wpAnyH_done (by kernel_rfl) ?_ _
        (go_wp2_with fail;go_meet;exact⟨_,_,_,_,_,_,_,_,rfl,rfl,Kd.out,hqd,Vd.out,hE⟩)
       exact AllReadyH.nil
      exact AllReadyH.nil
     exact AllReadyH.nil
    case rest=>
     obtain⟨pd,nd,ad,qd,cd,bd,kd,dd,rfl,rfl,hB,hpd,hv,hy⟩:=hcut
     replace hx:=hx.trans hy
     replace HO:=Lib.hid (HO.out.ext hy)
     replace Ks:=kE Ks hy
     replace Kr:=kE Kr hy
     have hpl:=Ks.out.lt
     have HVd:=Lib.hid hv
     have Kd:=Lib.hid hB
     have hps:ps<wr.heap.size:=HPS.out
     obtain⟨t0,t1,t2,t3⟩:=bk4 Kd
     obtain⟨u0,y0,u1,y1,u2,y2,u3,y3⟩:=bp4 Ks (.bool nd) (.slice ad qd cd) (.bool false) (.slice bd kd dd)
     have hoS:=HO.out.other (p:=ps) (fun e=>by have:=HLT0.out ps e;omega) HOF0.out 0 (.bool nd)
     have hoS:=hoS.other (p:=ps) (fun e=>by have:=HLT0.out ps e;omega) HOF0.out 1 (.slice ad qd cd)
     have hoS:=hoS.other (p:=ps) (fun e=>by have:=HLT0.out ps e;omega) HOF0.out 2 (.bool false)
     have HOS:=Lib.hid (hoS.other (p:=ps) (fun e=>by have:=HLT0.out ps e;omega) HOF0.out 3 (.slice bd kd dd))
     have Ks2:=bs4 Ks (.bool nd) (.slice ad qd cd) (.bool false) (.slice bd kd dd)
     have Kr2:=bo4 Kr ps (.bool nd) (.slice ad qd cd) (.bool false) (.slice bd kd dd) (by omega)
     have Vd2:=rv4 HVd Ks (.bool nd) (.slice ad qd cd) (.bool false) (.slice bd kd dd) rfl rfl rfl rfl
     have HX2:=Lib.hid (bx4 hx ps (.bool nd) (.slice ad qd cd) (.bool false) (.slice bd kd dd) (by omega))
     clear hv hB hy hc g0 g1 g2 g3 hoS hx
     go_wp2_with fail
     go_roundw
     case rel=>exact⟨q+1,by omega,by go_num,(by rw [HKY.out,List.length_append,List.length_singleton];go_num),⟨_,_,_,_,_,_,_,Ks2.out,(by rw [HKY.out,sumR_snoc];exact Vd2.out)⟩,HOS.out,Kr2.out,HX2.out⟩
     case measure=>simp [intOf];omega
  ·have q2:¬ (q:Int)< (l.length:Int):=by omega
   have q3:¬ (q:Int)< (xs.length:Int):=by have:=HXL.out;omega
   have hqe:q=l.length:=by omega
   subst hqe
   have HN:Hid ((knIx l l.length).length= (knIx l l.length).length):=Lib.hid rfl
   obtain⟨m,hmn⟩:∃m,(knIx l l.length).length=m:=⟨_,rfl⟩
   rw [hmn]
   have HL:=Lib.hid hmn
   rw [hmn] at hkl HZS
   by_cases hm0:m=0
   ·subst hm0
    have hk0:knIx l l.length=[]:=List.eq_nil_of_length_eq_zero HL.out
    have HK0:=Lib.hid hk0
    obtain⟨u0,y0,u1,y1,u2,y2,u3,y3⟩:=bp4 Kr (.bool false) (.slice none 0 0) (.bool false) (.slice none 0 0)
    have Kr2:=bs4 Kr (.bool false) (.slice none 0 0) (.bool false) (.slice none 0 0)
    have HX2:=Lib.hid (bx4 hx w.heap.size (.bool false) (.slice none 0 0) (.bool false) (.slice none 0 0) (Nat.le_refl _))
    clear hx
    go_wp2_with fail
    obtain⟨r0,r1,r2,r3⟩:=bk4 Kr2
    refine bodyPost_ret (v:=.tuple #[.agg #[.bool false,.slice none 0 0,.bool false,.slice none 0 0],.int .i64 0]) (by simp [results,Tryz.results34,go_sem,r0,r1,r2,r3]) rfl ?_
    refine⟨zeroC,rfl,?_,⟨fun h=>absurd h (by simp),fun h=>absurd h (by simp)⟩,HX2.out⟩
    rw [show meanO l S=none from if_pos HK0.out]
    rfl
   ·have hmz:((m:Nat):Int)≠0:=by omega
    have HK0:Hid (knIx l l.length≠[]):=Lib.hid (fun e=>by have:=HL.out;rw [e] at this;exact hm0 this.symm)
    have HMQ:Hid ((((m:Nat):Int):Rat)≠0):=Lib.hid (fun e=>hmz (by exact_mod_cast e))
    go_upto_region 17 with fail
    have s0:World.cell? wr ⟨ps,0,none⟩=some (.bool nu):=Ks.out.cell rfl
    have s1:World.cell? wr ⟨ps,1,none⟩=some (.slice au qu cu):=Ks.out.cell rfl
    have s2:World.cell? wr ⟨ps,2,none⟩=some (.bool false):=Ks.out.cell rfl
    have s3:World.cell? wr ⟨ps,3,none⟩=some (.slice bu ku du):=Ks.out.cell rfl
    have hE:Ext wr (World.drew wr):=(Ext.refl _).drew
    have hyd:Ext wr (World.drew wr):=(Ext.refl _).drew
    replace hx:=hx.trans hyd
    replace Ks:=kE Ks hyd
    replace Kr:=kE Kr hyd
    replace Vu:=Lib.hid (Vu.out.ext hyd)
    clear hyd
    replace s0:World.cell? (World.drew wr) ⟨ps,0,none⟩=some (.bool nu):=s0
    replace s1:World.cell? (World.drew wr) ⟨ps,1,none⟩=some (.slice au qu cu):=s1
    replace s2:World.cell? (World.drew wr) ⟨ps,2,none⟩=some (.bool false):=s2
    replace s3:World.cell? (World.drew wr) ⟨ps,3,none⟩=some (.slice bu ku du):=s3
    refine wp_region_held_drew (S:=(fun w'=>World.cell? w' ⟨ps,0,none⟩=some (.bool nu)∧World.cell? w' ⟨ps,1,none⟩=some (.slice au qu cu)∧World.cell? w' ⟨ps,2,none⟩=some (.bool false)∧World.cell? w' ⟨ps,3,none⟩=some (.slice bu ku du))) (by kernel_rfl) ?_ (fun hHeld=>?_)
    ·exact⟨s0,s1,s2,s3⟩
    (try simp only [pur,Nat.reduceAdd])
    generalize World.drew wr=x61 at *
    refine tk (v:=?_) 0 rfl (by kernel_rfl) (fun _ _ _ h=>h) (by rfl) ?_ (by assumption) ?_
    rotate_left
    ·(intro w hSw;(try dsimp only at hSw);(try go_simp);(try with_reducible rfl))
    (try simp only [Act.put,pus])
    refine tk (v:=?_) 1 rfl (by kernel_rfl) (fun _ _ _ h=>h) (by rfl) ?_ (by assumption) ?_
    rotate_left
    ·(intro w hSw;(try dsimp only at hSw);(try go_simp);(try with_reducible rfl))
    (try simp only [Act.put,pus])
    refine wpAnyH_ready (rs:=[2]) (by kernel_rfl) (by simp) ?_
    refine AllReadyH.cons (o:=_) rfl (fun K hK=>?_) ?_
    ·go_simp
     (with_reducible refine(ref10_Int ((m:Nat):Int) _ (by omega)).mono ?_);rintro e x62 ⟨v,rfl,hv,hy⟩;have hzx:=hx.size;replace hE:=hE.trans hy;replace hx:=hx.trans hy;replace s0:=cell_exQ hy s0;replace s1:=cell_exQ hy s1;replace s2:=cell_exQ hy s2;replace s3:=cell_exQ hy s3;replace Ks:=kE Ks hy;replace Kr:=kE Kr hy;replace Vu:=Lib.hid (Vu.out.ext hy);clear hy;obtain⟨np,ap,qp,cp,bp,kp,dp,rfl,hv',hf',hg'⟩:=hv;have Vp:=Lib.hid hv';have Fp:=Lib.hid (fun A hA=>Nat.le_trans hzx (hf' A hA));have Gp:=Lib.hid (fun A hA=>Nat.le_trans hzx (hg' A hA));clear hv' hf' hg' hzx
     refine hK.out _ _ ?_ (fun hHeld2=>?_)
     ·exact⟨s0,s1,s2,s3⟩
     clear hK K hHeld
     have hHeld:=hHeld2
     clear hHeld2
     (try simp only [Act.put,pus])
     refine wpAnyH_ready (rs:=[3]) (by kernel_rfl) (by simp) ?_
     refine AllReadyH.cons (o:=_) rfl (fun K hK=>?_) ?_
     ·go_simp
      (with_reducible refine(rQuo_valR (i:=10*m+1) (j:=1) Vu.out Vp.out HZS.out (mark_sz (by omega)) (by omega) HMQ.out).mono ?_);rintro e x63 ⟨v,rfl,hv,hy⟩;have hzx:=hx.size;replace hE:=hE.trans hy;replace hx:=hx.trans hy;replace s0:=cell_exQ hy s0;replace s1:=cell_exQ hy s1;replace s2:=cell_exQ hy s2;replace s3:=cell_exQ hy s3;replace Ks:=kE Ks hy;replace Kr:=kE Kr hy;replace Vu:=Lib.hid (Vu.out.ext hy);replace Vp:=Lib.hid (Vp.out.ext hy);clear hy;obtain⟨nq,aq,qq,cq,bq,kq,dq,rfl,hv',hf',hg'⟩:=hv;have Vq:=Lib.hid hv';have Fq:=Lib.hid (fun A hA=>Nat.le_trans hzx (hf' A hA));have Gq:=Lib.hid (fun A hA=>Nat.le_trans hzx (hg' A hA));clear hv' hf' hg' hzx
      refine hK.out _ _ ?_ (fun hHeld2=>?_)
      ·exact⟨s0,s1,s2,s3⟩
      clear hK K hHeld
      have hHeld:=hHeld2
      clear hHeld2
      (try simp only [Act.put,pus])
      refine tk (v:=?_) 4 rfl (by kernel_rfl) (fun _ _ _ h=>h) (by rfl) ?_ (by assumption) ?_
      rotate_left
      ·(intro w hSw;(try dsimp only at hSw);(try go_simp);(try with_reducible rfl))
      (try simp only [Act.put,pus])
      refine tk (v:=?_) 5 rfl (by kernel_rfl) (fun _ _ _ h=>h) (by rfl) ?_ (by assumption) ?_
      rotate_left
      ·(intro w hSw;(try dsimp only at hSw);(try go_simp);(try with_reducible rfl))
      (try simp only [Act.put,pus])
      refine wpAnyH_ready (rs:=[6]) (by kernel_rfl) (by simp) ?_
      refine AllReadyH.cons (o:=_) rfl (fun K hK=>?_) ?_
      ·obtain⟨g0,z0,g1,z1,g2,z2,g3,z3⟩:=bp4 Kr (.bool nq) (.slice aq qq cq) (.bool false) (.slice bq kq dq);go_simp;clear g0 z0 g1 z1 g2 z2 g3 z3;replace Vu:=(by first | exact rv4 Vu Kr (.bool nq) (.slice aq qq cq) (.bool false) (.slice bq kq dq) rfl rfl rfl rfl | exact bv4 Vu Kr (.bool nq) (.slice aq qq cq) (.bool false) (.slice bq kq dq) rfl rfl rfl rfl);replace Vp:=(by first | exact rv4 Vp Kr (.bool nq) (.slice aq qq cq) (.bool false) (.slice bq kq dq) rfl rfl rfl rfl | exact bv4 Vp Kr (.bool nq) (.slice aq qq cq) (.bool false) (.slice bq kq dq) rfl rfl rfl rfl);replace Vq:=(by first | exact rv4 Vq Kr (.bool nq) (.slice aq qq cq) (.bool false) (.slice bq kq dq) rfl rfl rfl rfl | exact bv4 Vq Kr (.bool nq) (.slice aq qq cq) (.bool false) (.slice bq kq dq) rfl rfl rfl rfl);replace hx:=bx4 hx (w.heap.size) (.bool nq) (.slice aq qq cq) (.bool false) (.slice bq kq dq) (by omega);replace s0:=bf4 s0 (w.heap.size) (.bool nq) (.slice aq qq cq) (.bool false) (.slice bq kq dq) (by omega);replace s1:=bf4 s1 (w.heap.size) (.bool nq) (.slice aq qq cq) (.bool false) (.slice bq kq dq) (by omega);replace s2:=bf4 s2 (w.heap.size) (.bool nq) (.slice aq qq cq) (.bool false) (.slice bq kq dq) (by omega);replace s3:=bf4 s3 (w.heap.size) (.bool nq) (.slice aq qq cq) (.bool false) (.slice bq kq dq) (by omega);replace Ks:=bo4 Ks (w.heap.size) (.bool nq) (.slice aq qq cq) (.bool false) (.slice bq kq dq) (by omega);replace Kr:=bs4 Kr (.bool nq) (.slice aq qq cq) (.bool false) (.slice bq kq dq);clear hE;generalize (World.setCell (World.setCell (World.setCell (World.setCell x63 ⟨w.heap.size,0,none⟩ (.bool nq)) ⟨w.heap.size,1,none⟩ (.slice aq qq cq)) ⟨w.heap.size,2,none⟩ (.bool false)) ⟨w.heap.size,3,none⟩ (.slice bq kq dq))=x64 at *;have hE:=Ext.refl x64
       refine hK.out _ _ ?_ (fun hHeld2=>?_)
       ·exact⟨s0,s1,s2,s3⟩
       clear hK K hHeld
       have hHeld:=hHeld2
       clear hHeld2
       (try simp only [Act.put,pus])
       refine tk (v:=?_) 7 rfl (by kernel_rfl) (fun _ _ _ h=>h) (by rfl) ?_ (by assumption) ?_
       rotate_left
       ·(intro w hSw;(try dsimp only at hSw);(try go_simp);(try with_reducible rfl))
       (try simp only [Act.put,pus])
       refine wpAnyH_done (by kernel_rfl) ?_ _
       go_wp2_with fail
       obtain⟨r0,r1,r2,r3⟩:=bk4 Kr
       refine bodyPost_ret (v:=.tuple #[.agg #[.bool nq,.slice aq qq cq,.bool false,.slice bq kq dq],.int .i64 0]) (by simp [results,Tryz.results34,go_sem,r0,r1,r2,r3]) rfl ?_
       refine⟨⟨nq,aq,qq,cq,false,bq,kq,dq⟩,rfl,?_,⟨fun _=>Fq.out,fun _=>Gq.out⟩,hx⟩
       rw [show meanO l S=some (sumR l S (knIx l l.length) / (((m:Nat):Int):Rat)) from(if_neg HK0.out).trans (by rw [HL.out];rfl)]
       exact Vq.out
      exact AllReadyH.nil
     exact AllReadyH.nil
    exact AllReadyH.nil
end Go.Proofs.YtolffmmkjnhkkaaGreat
