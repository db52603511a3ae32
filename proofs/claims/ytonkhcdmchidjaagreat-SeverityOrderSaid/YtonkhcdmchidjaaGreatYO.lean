import Derived.Test.YtonkhcdmchidjaaGreatYL
set_option maxHeartbeats 16000000
namespace Go.Proofs.YtonkhcdmchidjaaGreat
open Go.RowKit Go BigFrame Go.Shelf
set_option maxRecDepth 100000
set_option linter.all false
attribute [local go_sem] Oper.semAt_some
theorem zC4 (qa:Option Addr) (qc:Nat) (LQ:List RatA) (xa:Option Addr) (xc:Nat) (LX:List RatA) (i k:Nat) (mark:Int) (zi zj z2:Nat) (w:World) (hq:RatsI w qa qc LQ) (hx:RatsI w xa xc LX) (hoq:∀x∈LQ,x.ok=true) (hox:∀x∈LX,x.ok=true) (hi:i<LQ.length) (hk:k<LX.length) (hm:-1000000≤mark∧mark≤1000000)
 (h1:Sz (zFk (LQ.getD i noA)) zi) (h2:Sz ((mark:Rat) - zFk (LQ.getD i noA)) z2) (h3:Sz (zFk (LX.getD k noA)) zj) (hz1:1+zi+1≤2048) (hz2:z2+zj+1≤2048):
 Calls Tryz.prog 70 #[.agg #[.slice qa LQ.length qc,.slice xa LX.length xc],.agg #[.int .i64 (i:Int),.int .i64 (k:Int)],.int .i64 mark] w (zNN ((mark:Rat) - zFk (LQ.getD i noA) - zFk (LX.getD k noA)) w):=by
 obtain⟨qb,qo,rfl⟩:=hq.head hi;obtain⟨xb,xo,rfl⟩:=hx.head hk;obtain⟨qn,qd,qe,ql,qm,qf,qg,qk,hg1,q0,q1,q2,q3,iq1,iq2⟩:=hq.get hi;obtain⟨xn,xd,xe,xl,xm,xf,xg,xk,hg2,x0,x1,x2,x3,ix1,ix2⟩:=hx.get hk;have eq1:LQ.getD i noA= ⟨qn,qd,qe,ql,qm,qf,qg,qk⟩:=by rw [List.getD_eq_getElem?_getD,hg1];rfl
 have ex1:LX.getD k noA= ⟨xn,xd,xe,xl,xm,xf,xg,xk⟩:=by rw [List.getD_eq_getElem?_getD,hg2];rfl
 have hvq:=(zCt (hoq _ (List.mem_of_getElem? hg1))).1 w ⟨iq1,iq2⟩;have hvx:=(zCt (hox _ (List.mem_of_getElem? hg2))).1 w ⟨ix1,ix2⟩;rw [←eq1] at hvq;rw [←ex1] at hvx;obtain⟨rq,hrq⟩:∃rq,zFk (LQ.getD i noA)=rq:=⟨_,rfl⟩
 obtain⟨rx,hrx⟩:∃rx,zFk (LX.getD k noA)=rx:=⟨_,rfl⟩
 rw [hrq] at hvq h1 h2 ⊢;rw [hrx] at hvx h3 ⊢;rw [eq1] at hvq;rw [ex1] at hvx;replace hvq:RatV w (.agg #[.bool qn,.slice qd ql.length qe,.bool qm,.slice qf qk.length qg]) rq:=hvq;replace hvx:RatV w (.agg #[.bool xn,.slice xd xl.length xe,.bool xm,.slice xf xk.length xg]) rx:=hvx;have qle:=hq.le;have qmx:=hq.mx;have xle:=hx.le;have xmx:=hx.mx;have i0:(0:Int)≤(i:Int):=by omega
 have i1:(i:Int)< (LQ.length:Int):=by omega
 have k0:(0:Int)≤(k:Int):=by omega
 have k1:(k:Int)< (LX.length:Int):=by omega
 have hqb:=World.block_lt_of_cell? w _ q0;have hxb:=World.block_lt_of_cell? w _ x0;dsimp only at hqb hxb;have HZ0:Hid (Sz (mark:Rat) 1):=dH (by rw [←zBE];exact zBk (by omega) (by decide) (by decide));have HZ1:=dH h1;have HZ2:=dH hz1;have HZ3:=dH h2;have HZ4:=dH h3;have HZ5:=dH hz2;clear hq hx hoq hox hi hk h1 h2 h3 hz1 hz2 hg1 hg2 iq1 iq2 ix1 ix2 eq1 ex1 hrq hrx;obtain⟨y,hw,hx,Kf,Ka,HP⟩:=zGJ w #[.slice (some ⟨qb,qo,none⟩) LQ.length qc,.slice (some ⟨xb,xo,none⟩) LX.length xc] 25 #[.int .i64 (i:Int),.int .i64 (k:Int)] 95 #[.bool false,.slice none 0 0,.bool false,.slice none 0 0] 38;replace hw:=dH hw;go_enter Tryz.func70,Tryz.ntmps70;go_upto_region 1 with fail
 try simp only [Nat.add_assoc,Nat.reduceAdd,Nat.add_zero]
 rw [hw.out];clear hw;have hyd:Ext y (World.drew y):=(Ext.refl _).drew;have HVQ:=dH ((RatV.ext hvq hx).ext hyd);have HVX:=dH ((RatV.ext hvx hx).ext hyd);have s4:=zA0 hyd (zA0 hx q0);have s5:=zA0 hyd (zA0 hx q1);have s6:=zA0 hyd (zA0 hx q2);have s7:=zA0 hyd (zA0 hx q3);have s8:=zA0 hyd (zA0 hx x0);have s9:=zA0 hyd (zA0 hx x1);have s10:=zA0 hyd (zA0 hx x2);have s11:=zA0 hyd (zA0 hx x3);obtain⟨s0,s1⟩:=bk2 (kE Kf hyd);obtain⟨s2,s3⟩:=bk2 (kE Ka hyd);replace HP:=kE HP hyd;replace hx:=hx.trans hyd;clear hyd hvq hvx q0 q1 q2 q3 x0 x1 x2 x3 Kf Ka;refine wp_region_held_drew (S:=(fun w'=>w'.cell? ⟨w.heap.size,0,none⟩=some (.slice (some ⟨qb,qo,none⟩) LQ.length qc)∧w'.cell? ⟨w.heap.size,1,none⟩=some (.slice (some ⟨xb,xo,none⟩) LX.length xc)∧w'.cell? ⟨w.heap.size+1,0,none⟩=some (.int .i64 (i:Int))∧w'.cell? ⟨w.heap.size+1,1,none⟩=some (.int .i64 (k:Int))∧w'.cell? ⟨qb,qo+i*4,none⟩=some (.bool qn)∧w'.cell? ⟨qb,qo+i*4+1,none⟩=some (.slice qd ql.length qe)∧w'.cell? ⟨qb,qo+i*4+2,none⟩=some (.bool qm)∧w'.cell? ⟨qb,qo+i*4+3,none⟩=some (.slice qf qk.length qg)∧w'.cell? ⟨xb,xo+k*4,none⟩=some (.bool xn)∧w'.cell? ⟨xb,xo+k*4+1,none⟩=some (.slice xd xl.length xe)∧w'.cell? ⟨xb,xo+k*4+2,none⟩=some (.bool xm)∧w'.cell? ⟨xb,xo+k*4+3,none⟩=some (.slice xf xk.length xg))) (by kernel_rfl) ?_ (fun hHeld=>?_)
 ·exact⟨s0,s1,s2,s3,s4,s5,s6,s7,s8,s9,s10,s11⟩
 (try simp only [pur,Nat.reduceAdd])
 generalize World.drew y=y0 at *
 iterate 13
  refine tkR [0,2,3,4,5,6,7,12,13,14,15,16,17] (v:=?_) rfl rfl (by kernel_rfl) (fun _ _ _ h=>h) (by rfl) ?_ (by assumption) ?_;rotate_left
  ·(intro w hSw;(try dsimp only at hSw);(try go_simp);(try with_reducible rfl))
  (try simp only [Act.put,pus])
 repeat' first
  | (refine tkR [9,10,19,20] (v:=?_) rfl rfl (by decide +kernel) (fun _ _ _ h=>h) (by rfl) ?_ (by assumption) ?_
     rotate_left
     ·(intro w hSw;(try dsimp only at hSw);(try go_simp);(try with_reducible rfl))
     (try simp only [Act.put,pus]))
  | (refine wpAnyH_done (by decide +kernel) ?_ _
     go_wp2_with fail;obtain⟨r0,r1,r2,r3⟩:=bk4 HP5;refine bodyPost_ret (v:=.agg #[.bool n4,.slice a4 q4 c4,.bool false,.slice b4 k4 d4]) (by simp [results,Tryz.results70,go_sem,r0,r1,r2,r3]) rfl ?_
     exact⟨_,rfl,⟨n4,a4,q4,c4,b4,k4,d4,rfl,HV5.out,HF4.out,HG4.out⟩,HX5.out⟩)
  | (refine rdR [1,8,11,18,21,22] (by decide +kernel) (zAt ?_ (zAt ?_ (zAt ?_ (zAt ?_ (zAt ?_ (zAt ?_ zFw))))))
     first
     | exact noR (by decide +kernel)
     | (refine isR (o:=_) rfl (fun K hK=>?_)
        go_simp
        (with_reducible refine(zAC mark 1 _ (by omega) (by omega) (by omega)).mono ?_);rintro e1 y1 ⟨v1,rfl,⟨n1,a1,q1,c1,b1,k1,d1,rfl,hv',hf',hg'⟩,hE⟩;replace HP:=kE HP hE;replace HVQ:=dH (RatV.ext HVQ.out hE);replace HVX:=dH (RatV.ext HVX.out hE);have HV1:=dH hv';replace hx:=hx.trans hE;replace s0:=zA0 hE s0;replace s1:=zA0 hE s1;replace s2:=zA0 hE s2;replace s3:=zA0 hE s3;replace s4:=zA0 hE s4;replace s5:=zA0 hE s5;replace s6:=zA0 hE s6;replace s7:=zA0 hE s7;replace s8:=zA0 hE s8;replace s9:=zA0 hE s9;replace s10:=zA0 hE s10;replace s11:=zA0 hE s11;clear hE hv' hf' hg';rw [zBE] at HV1
        rotate_left)
     first
     | exact noR (by decide +kernel)
     | (refine isR (o:=_) rfl (fun K hK=>?_)
        go_simp
        (with_reducible refine(zDq (v:=.agg #[.bool n1,.slice a1 q1 c1,.bool false,.slice b1 k1 d1]) (u:=.agg #[.bool qn,.slice qd ql.length qe,.bool qm,.slice qf qk.length qg]) HV1.out HVQ.out HZ0.out HZ1.out HZ2.out).mono ?_);rintro e2 y2 ⟨v2,rfl,⟨n2,a2,q2,c2,b2,k2,d2,rfl,hv',hf',hg'⟩,hE⟩;replace HP:=kE HP hE;replace HVX:=dH (RatV.ext HVX.out hE);have HV2:=dH hv';replace hx:=hx.trans hE;replace s0:=zA0 hE s0;replace s1:=zA0 hE s1;replace s2:=zA0 hE s2;replace s3:=zA0 hE s3;replace s4:=zA0 hE s4;replace s5:=zA0 hE s5;replace s6:=zA0 hE s6;replace s7:=zA0 hE s7;replace s8:=zA0 hE s8;replace s9:=zA0 hE s9;replace s10:=zA0 hE s10;replace s11:=zA0 hE s11;clear hE hv' hf' hg' HV1 HVQ
        rotate_left)
     first
     | exact noR (by decide +kernel)
     | (refine isR (o:=_) rfl (fun K hK=>?_)
        go_simp
        (with_reducible refine(zAG n2 false a2 b2 q2 c2 k2 d2 _).mono ?_);rintro e3 y3 ⟨rfl,hE⟩;replace HP:=kE HP hE;replace HVX:=dH (RatV.ext HVX.out hE);replace HV2:=dH (RatV.ext HV2.out hE);replace hx:=hx.trans hE;replace s0:=zA0 hE s0;replace s1:=zA0 hE s1;replace s2:=zA0 hE s2;replace s3:=zA0 hE s3;replace s4:=zA0 hE s4;replace s5:=zA0 hE s5;replace s6:=zA0 hE s6;replace s7:=zA0 hE s7;replace s8:=zA0 hE s8;replace s9:=zA0 hE s9;replace s10:=zA0 hE s10;replace s11:=zA0 hE s11;clear hE
        rotate_left)
     first
     | exact noR (by decide +kernel)
     | (refine isR (o:=_) rfl (fun K hK=>?_)
        go_simp
        (with_reducible refine(zDq (v:=.agg #[.bool n2,.slice a2 q2 c2,.bool false,.slice b2 k2 d2]) (u:=.agg #[.bool xn,.slice xd xl.length xe,.bool xm,.slice xf xk.length xg]) HV2.out HVX.out HZ3.out HZ4.out HZ5.out).mono ?_);rintro e4 y4 ⟨v4,rfl,⟨n4,a4,q4,c4,b4,k4,d4,rfl,hv',hf',hg'⟩,hE⟩;have hxs:=hx.size;have HF4:=dH (fun A hA=>Nat.le_trans hxs (hf' A hA));have HG4:=dH (fun A hA=>Nat.le_trans hxs (hg' A hA));replace HP:=kE HP hE;have HV4:=dH hv';replace hx:=hx.trans hE;replace s0:=zA0 hE s0;replace s1:=zA0 hE s1;replace s2:=zA0 hE s2;replace s3:=zA0 hE s3;replace s4:=zA0 hE s4;replace s5:=zA0 hE s5;replace s6:=zA0 hE s6;replace s7:=zA0 hE s7;replace s8:=zA0 hE s8;replace s9:=zA0 hE s9;replace s10:=zA0 hE s10;replace s11:=zA0 hE s11;clear hE hv' hf' hg' HV2 HVX hxs
        rotate_left)
     first
     | exact noR (by decide +kernel)
     | (refine isR (o:=_) rfl (fun K hK=>?_)
        go_simp
        (with_reducible refine(zAG n4 false a4 b4 q4 c4 k4 d4 _).mono ?_);rintro e5 y5 ⟨rfl,hE⟩;replace HP:=kE HP hE;replace HV4:=dH (RatV.ext HV4.out hE);replace hx:=hx.trans hE;replace s0:=zA0 hE s0;replace s1:=zA0 hE s1;replace s2:=zA0 hE s2;replace s3:=zA0 hE s3;replace s4:=zA0 hE s4;replace s5:=zA0 hE s5;replace s6:=zA0 hE s6;replace s7:=zA0 hE s7;replace s8:=zA0 hE s8;replace s9:=zA0 hE s9;replace s10:=zA0 hE s10;replace s11:=zA0 hE s11;clear hE
        rotate_left)
     first
     | exact noR (by decide +kernel)
     | (refine isR (o:=_) rfl (fun K hK=>?_)
        obtain⟨g0,z0,g1,z1,g2,z2,g3,z3⟩:=bp4 HP (.bool n4) (.slice a4 q4 c4) (.bool false) (.slice b4 k4 d4);have HV5:=rv4 HV4 HP (.bool n4) (.slice a4 q4 c4) (.bool false) (.slice b4 k4 d4) rfl rfl rfl rfl;have HP5:=bs4 HP (.bool n4) (.slice a4 q4 c4) (.bool false) (.slice b4 k4 d4);have HX5:=dH (bx4 hx (w.heap.size+2) (.bool n4) (.slice a4 q4 c4) (.bool false) (.slice b4 k4 d4) (by omega));have hsb:=zNa HP.out (.bool n4) (.slice a4 q4 c4) (.bool false) (.slice b4 k4 d4);replace s0:=hsb.cell s0 (fun e=>by replace e:=Option.some.inj e;dsimp only at e;omega);replace s1:=hsb.cell s1 (fun e=>by replace e:=Option.some.inj e;dsimp only at e;omega);replace s2:=hsb.cell s2 (fun e=>by replace e:=Option.some.inj e;dsimp only at e;omega);replace s3:=hsb.cell s3 (fun e=>by replace e:=Option.some.inj e;dsimp only at e;omega);replace s4:=hsb.cell s4 (fun e=>by replace e:=Option.some.inj e;dsimp only at e;omega);replace s5:=hsb.cell s5 (fun e=>by replace e:=Option.some.inj e;dsimp only at e;omega);replace s6:=hsb.cell s6 (fun e=>by replace e:=Option.some.inj e;dsimp only at e;omega);replace s7:=hsb.cell s7 (fun e=>by replace e:=Option.some.inj e;dsimp only at e;omega);replace s8:=hsb.cell s8 (fun e=>by replace e:=Option.some.inj e;dsimp only at e;omega);replace s9:=hsb.cell s9 (fun e=>by replace e:=Option.some.inj e;dsimp only at e;omega);replace s10:=hsb.cell s10 (fun e=>by replace e:=Option.some.inj e;dsimp only at e;omega);replace s11:=hsb.cell s11 (fun e=>by replace e:=Option.some.inj e;dsimp only at e;omega);clear hsb;go_simp;clear g0 z0 g1 z1 g2 z2 g3 z3
        rotate_left)
     all_goals (
      refine hK.out _ _ ?_ ?_
      ·exact⟨s0,s1,s2,s3,s4,s5,s6,s7,s8,s9,s10,s11⟩
      clear hK K hHeld;intro hHeld
      (try simp only [Act.put,pus])))
theorem zE6 (a:Option Addr) (cap N:Nat) (V:Nat→RatC) (f:Nat→Rat) (zi zj:Nat) (w:World) (h:RowR w a cap N V f) (hN:N≤1000000) (h1:∀k,k<N→Sz (sq f k) zi) (h2:∀k,k<N→Sz (f k) zj) (hz:zi+zj+1≤2048):Calls Tryz.prog 72 #[.slice a N cap] w (zNN (sq f N) w):=by
 obtain⟨y,hw,hx,Kr⟩:=zCh w #[.bool false,.slice none 0 0,.bool false,.slice none 0 0] 38;replace hw:=dH hw;have HH:=dH h;have hle:=h.le;have hmx:=h.mx;have HZ1:=dH h1;have HZ2:=dH h2;have HZ3:=dH hz;clear h h1 h2 hz;go_enter Tryz.func72,Tryz.ntmps72;go_upto_region 1 with fail
 try simp only [Nat.add_assoc,Nat.reduceAdd,Nat.add_zero]
 rw [hw.out];clear hw;obtain⟨r0,r1,r2,r3⟩:=bk4 Kr;have hs0:=hx.size;have hs1:=Kr.out.lt;go_wp2_with fail
 with_reducible refine(zAC 0 1 _ (by omega) (by omega) (by omega)).mono ?_
 rintro e1 y1 ⟨v1,rfl,⟨n1,a1,q1,c1,b1,k1,d1,rfl,hv',hf',hg'⟩,hE⟩;clear r0 r1 r2 r3;replace Kr:=kE Kr hE;have hv2:RatV y1 (.agg #[.bool n1,.slice a1 q1 c1,.bool false,.slice b1 k1 d1]) (sq f 0):=by rw [zBB];rwa [show Rat.divInt 0 1=0 by decide +kernel] at hv'
 have HF1:=dH (fun A hA=>Nat.le_trans hs0 (hf' A hA));have HG1:=dH (fun A hA=>Nat.le_trans hs0 (hg' A hA));replace hx:=hx.trans hE;go_upto_region 2 with fail;have hya:=Ext.alloc y1 (.cells #[.bool n1,.slice a1 q1 c1,.bool false,.slice b1 k1 d1] 38);have HB:=dH (Blk.new0 y1 #[.bool n1,.slice a1 q1 c1,.bool false,.slice b1 k1 d1] 38);replace Kr:=kE Kr hya;have HV:=dH (RatV.ext hv2 hya);have hbw:w.heap.size+1≤y1.heap.size:=by have:=hE.size;omega
 replace hx:=hx.trans hya;clear hE hya hv' hf' hg' hv2;generalize y1.alloc (.cells #[.bool n1,.slice a1 q1 c1,.bool false,.slice b1 k1 d1] 38)=y2 at *;generalize y1.heap.size=p at *;have HX:=dH hx;clear hx;go_wp2_with fail
 go_loopw [9] (fun v wr=>∃q:Nat,q≤N∧v=.int .i64 q∧∃ (n1:Bool) (a1:Option Addr) (q1 c1:Nat) (b1:Option Addr) (k1 d1:Nat),Blk wr p #[.bool n1,.slice a1 q1 c1,.bool false,.slice b1 k1 d1] 38∧RatV wr (.agg #[.bool n1,.slice a1 q1 c1,.bool false,.slice b1 k1 d1]) (sq f q)∧(∀A,a1=some A→w.heap.size≤A.block)∧(∀A,b1=some A→w.heap.size≤A.block)∧Blk wr w.heap.size #[.bool false,.slice none 0 0,.bool false,.slice none 0 0] 38∧Ext w wr) (fun v _=>N - (intOf v).toNat)
 case atStart=>exact⟨0,Nat.zero_le _,rfl,n1,a1,q1,c1,b1,k1,d1,HB.out,HV.out,HF1.out,HG1.out,Kr.out,HX.out⟩
 case round=>
  obtain⟨q,hq,rfl,n1,a1,q1,c1,b1,k1,d1,hb,hv,hf,hg,hr,hx⟩:=hrel;generalize wr=z at *;clear HB HV HF1 HG1 Kr HX;have HB:=dH hb;have HV:=dH hv;have HF1:=dH hf;have HG1:=dH hg;have Kr:=dH hr;have HX:=dH hx;clear hb hv hf hg hr hx;have q0:(0:Int)≤(q:Int):=by omega
  by_cases hqn:q<N
  ·have q1':(q:Int)< (N:Int):=by omega
   have hw1:IntKind.i64.wrap ((q:Int)+1)= (q:Int)+1:=IntWalk.i64_in _ (by omega);have hrow:=HH.out.ext HX.out;have hax:∃bx ox,a=some ⟨bx,ox,none⟩:=by
    cases a with
    | none=>have:=hrow.nil rfl;omega
    | some A=>
     obtain⟨h0,_⟩:=hrow.cells A rfl q hqn;obtain⟨bx,ox,sx⟩:=A;dsimp only at h0;subst h0;exact⟨bx,ox,rfl⟩
   obtain⟨bx,ox,rfl⟩:=hax;obtain⟨_,x0,x1,x2,x3⟩:=hrow.cells _ rfl q hqn;have hvx:=hrow.val q hqn;dsimp only at x0 x1 x2 x3;obtain⟨cx,hcx9⟩:∃cx,cx=V q:=⟨_,rfl⟩
   rw [←hcx9] at x0 x1 x2 x3 hvx;obtain⟨nx,xa,xq,xc,mx,xb,xk,xd⟩:=cx;dsimp only [RatC.val] at x0 x1 x2 x3 hvx;have HVX:=dH hvx;clear hrow hvx hcx9;go_upto_region 5 with fail;have hya:=Ext.alloc z (.cells #[.bool nx,.slice xa xq xc,.bool mx,.slice xb xk xd] 38);obtain⟨e0,e1,e2,e3⟩:=bk4 (dH (Blk.new0 z #[.bool nx,.slice xa xq xc,.bool mx,.slice xb xk xd] 38));replace HB:=kE HB hya;replace HV:=dH (RatV.ext HV.out hya);replace HVX:=dH (RatV.ext HVX.out hya);replace Kr:=kE Kr hya;replace HX:=dH (HX.out.trans hya);clear hya x0 x1 x2 x3;generalize z.alloc (.cells #[.bool nx,.slice xa xq xc,.bool mx,.slice xb xk xd] 38)=z1 at *;obtain⟨s0,s1,s2,s3⟩:=bk4 HB;go_wp2_with fail
   with_reducible refine(zDp (v:=.agg #[.bool n1,.slice a1 q1 c1,.bool false,.slice b1 k1 d1]) (u:=.agg #[.bool nx,.slice xa xq xc,.bool mx,.slice xb xk xd]) HV.out HVX.out (HZ1.out q hqn) (HZ2.out q hqn) HZ3.out).mono ?_
   rintro e2 z2 ⟨v2,rfl,⟨n2,a2,q2,c2,b2,k2,d2,rfl,hv',hf',hg'⟩,hE⟩;have hzs:=HX.out.size;have HF2:=dH (fun A hA=>Nat.le_trans hzs (hf' A hA));have HG2:=dH (fun A hA=>Nat.le_trans hzs (hg' A hA));have HV2:=dH hv';replace HB:=kE HB hE;replace Kr:=kE Kr hE;replace HX:=dH (HX.out.trans hE);clear hE hv' hf' hg' s0 s1 s2 s3 e0 e1 e2 e3 HV HVX hzs HF1 HG1;go_wp2_with fail
   with_reducible refine(zAG n2 false a2 b2 q2 c2 k2 d2 _).mono ?_
   rintro e3 z3 ⟨rfl,hE⟩;replace HB:=kE HB hE;replace Kr:=kE Kr hE;replace HV2:=dH (RatV.ext HV2.out hE);replace HX:=dH (HX.out.trans hE);clear hE;obtain⟨g0,z0,g1,z1',g2,z2',g3,z3'⟩:=bp4 HB (.bool n2) (.slice a2 q2 c2) (.bool false) (.slice b2 k2 d2);have HV3:=rv4 HV2 HB (.bool n2) (.slice a2 q2 c2) (.bool false) (.slice b2 k2 d2) rfl rfl rfl rfl;have HB3:=bs4 HB (.bool n2) (.slice a2 q2 c2) (.bool false) (.slice b2 k2 d2);have Kr3:=bo4 Kr p (.bool n2) (.slice a2 q2 c2) (.bool false) (.slice b2 k2 d2) (by omega);have HX3:=dH (bx4 HX.out p (.bool n2) (.slice a2 q2 c2) (.bool false) (.slice b2 k2 d2) (by omega));clear HB Kr HX HV2;go_wp2_with fail;go_roundw
   case rel=>exact⟨q+1,by omega,by go_num,n2,a2,q2,c2,b2,k2,d2,HB3.out,by rw [zAv];exact HV3.out,HF2.out,HG2.out,Kr3.out,HX3.out⟩
   case measure=>simp [intOf];omega
  ·have q1':¬ (q:Int)< (N:Int):=by omega
   obtain rfl:q=N:=by omega
   obtain⟨s0,s1,s2,s3⟩:=bk4 HB;obtain⟨g0,z0,g1,z1',g2,z2',g3,z3'⟩:=bp4 Kr (.bool n1) (.slice a1 q1 c1) (.bool false) (.slice b1 k1 d1);have HV3:=rv4 HV Kr (.bool n1) (.slice a1 q1 c1) (.bool false) (.slice b1 k1 d1) rfl rfl rfl rfl;have Kr3:=bs4 Kr (.bool n1) (.slice a1 q1 c1) (.bool false) (.slice b1 k1 d1);have HX3:=dH (bx4 HX.out w.heap.size (.bool n1) (.slice a1 q1 c1) (.bool false) (.slice b1 k1 d1) (Nat.le_refl _));clear HB Kr HX HV;go_wp2_with fail;obtain⟨r0,r1,r2,r3⟩:=bk4 Kr3;refine bodyPost_ret (v:=.agg #[.bool n1,.slice a1 q1 c1,.bool false,.slice b1 k1 d1]) (by simp [results,Tryz.results72,go_sem,r0,r1,r2,r3]) rfl ?_;exact⟨_,rfl,⟨n1,a1,q1,c1,b1,k1,d1,rfl,HV3.out,HF1.out,HG1.out⟩,HX3.out⟩
end Go.Proofs.YtonkhcdmchidjaaGreat
namespace Go.Proofs.YtonkhcdmchidjaaGreat
open Go.RowKit Go BigFrame Go.Shelf
set_option maxRecDepth 100000
set_option linter.all false
theorem zKs (l:List Rat) (x:Rat):(l ++ [x]).sum=l.sum+x:=by rw [List.sum_append];simp;grind
theorem zDB (l:List Rat):∀k,k≤l.length→sq (fun c=>l.getD c 0) k= (l.take k).sum
 | 0,_=>by rw [zBB];simp
 | k+1,h=>by
  have hk:k<l.length:=by omega
  rw [zAv,zDB l k (by omega),List.take_succ_eq_append_getElem hk,zKs,List.getD_eq_getElem?_getD,List.getElem?_eq_getElem hk];rfl
def zHi (xs:List (Nat × Nat)) (g:Nat × Nat→Rat):Rat:=(xs.map g).sum
theorem zLH (g:Nat × Nat→Rat):zHi [] g=0:=rfl
theorem zIw (xs ys:List (Nat × Nat)) (g:Nat × Nat→Rat):zHi (xs ++ ys) g=zHi xs g+zHi ys g:=by unfold zHi;rw [List.map_append,List.sum_append]
theorem zLI (p:Nat × Nat) (g:Nat × Nat→Rat):zHi [p] g=g p:=by unfold zHi;simp;grind
theorem zIx (m:List (List Int)) (i:Nat) (g:Nat × Nat→Rat):∀k,zHi (zBb m i k) g=sq (fun j=>kS m i j*g (i,j)) k
 | 0=>by rw [zBB];rfl
 | k+1=>by
  rw [zDQ,zIw,zIx m i g k,zAv]
  congr 1
  unfold kS;by_cases h:mkS m i k= -1
  ·rw [if_neg (by simpa using h),if_neg (by simpa using h),zLH];grind
  ·rw [if_pos h,if_pos h,zLI];grind
theorem zEo (m:List (List Int)) (J:Nat) (g:Nat × Nat→Rat):∀E,(∀i,i<E→zE5 m i=J)→zHi (knS m E 0) g=sq (fun i=>sq (fun j=>kS m i j*g (i,j)) J) E
 | 0,_=>by rw [zBB];rfl
 | E+1,h=>by
  rw [zCI,show knS m E (zE5 m E)=knS m E 0 ++ zBb m E (zE5 m E) by unfold knS;simp [zBb],zIw,zEo m J g E fun i hi=>h i (by omega),zAv,zIx,h E (by omega)]
def zGm (i:Nat) (p:Nat × Nat):Bool:=decide (p.1=i)
def zGn (k:Nat) (p:Nat × Nat):Bool:=decide (p.2=k)
theorem zD9 (P:Nat × Nat→Bool) (g:Nat × Nat→Rat):∀xs,zHi (xs.filter P) g=zHi xs (fun p=>if P p then g p else 0)
 | []=>rfl
 | p :: xs=>by
  have ih:=zD9 P g xs;unfold zHi at ih ⊢;by_cases h:P p=true
  ·rw [List.filter_cons_of_pos h,List.map_cons,List.map_cons,List.sum_cons,List.sum_cons,ih,if_pos h]
  ·rw [List.filter_cons_of_neg h,List.map_cons,List.sum_cons,ih,if_neg h];grind
theorem zOi {m:List (List Int)} {J:Nat} (h:Tab m J) {i:Nat} (hi:i<m.length) (g:Nat × Nat→Rat):zHi ((knS m m.length 0).filter (zGm i)) g=sq (fun j=>kS m i j*g (i,j)) J:=by
 rw [zD9,zEo m J _ m.length h.len,zCq hi fun r _ hne=>zBq fun j _=>by
  rw [if_neg (by simpa [zGm] using hne)];grind]
 exact zA3 fun j _=>by rw [if_pos (by simp [zGm])]
theorem zOj {m:List (List Int)} {J:Nat} (h:Tab m J) {k:Nat} (hk:k<J) (g:Nat × Nat→Rat):zHi ((knS m m.length 0).filter (zGn k)) g=sq (fun i=>kS m i k*g (i,k)) m.length:=by
 rw [zD9,zEo m J _ m.length h.len];refine zA3 fun i _=>?_;rw [zCq hk fun j _ hne=>by rw [if_neg (by simpa [zGn] using hne)];grind,if_pos (by simp [zGn])]
def Ov (D B:Nat) (r:Rat):Prop:=∃z:Int,z.natAbs<B∧r= (z:Rat) / (D:Rat)
theorem Ov.mono {D B B':Nat} {r:Rat} (h:Ov D B r) (hB:B≤B'):Ov D B' r:=by
 obtain⟨z,hz,e⟩:=h;exact⟨z,by omega,e⟩
theorem Ov.add {D A B:Nat} (h0:0<D) {r s:Rat} (h:Ov D A r) (k:Ov D B s):Ov D (A+B) (r+s):=by
 obtain⟨z,hz,rfl⟩:=h;obtain⟨y,hy,rfl⟩:=k;refine⟨z+y,by omega,?_⟩;have hD:=zG6 h0;rw [Rat.intCast_add];grind
theorem Ov.sub {D A B:Nat} (h0:0<D) {r s:Rat} (h:Ov D A r) (k:Ov D B s):Ov D (A+B) (r - s):=by
 obtain⟨z,hz,rfl⟩:=h;obtain⟨y,hy,rfl⟩:=k;refine⟨z - y,by omega,?_⟩;have hD:=zG6 h0;rw [Rat.intCast_sub];grind
theorem Ov.mul {D A B:Nat} (h0:0<D) {r s:Rat} (h:Ov D A r) (k:Ov D B s):Ov (D*D) (A*B) (r*s):=by
 obtain⟨z,hz,rfl⟩:=h;obtain⟨y,hy,rfl⟩:=k;refine⟨z*y,by rw [Int.natAbs_mul];exact Nat.mul_lt_mul'' hz hy,?_⟩;have hD:=zG6 h0;rw [Rat.intCast_mul,Rat.natCast_mul];grind
theorem Ov.int {D:Nat} (h0:0<D) {z:Int} {B:Nat} (hz:z.natAbs<B):Ov D (B*D) (z:Rat):=by
 refine⟨z*D,?_,?_⟩
 ·rw [Int.natAbs_mul,Int.natAbs_natCast];exact Nat.mul_lt_mul_of_pos_right hz h0
 ·have hD:=zG6 h0;rw [Rat.intCast_mul,Rat.intCast_natCast];grind
theorem Ov.zero {D:Nat} (h0:0<D) {B:Nat} (hB:0<B):Ov D B 0:=⟨0,by simpa using hB,by rw [Rat.div_def];grind⟩
theorem Ov.sum {D B:Nat} (h0:0<D):∀{l:List Rat},(∀r∈l,Ov D B r)→Ov D (l.length*B+1) l.sum
 | [],_=>Ov.zero h0 (by omega)
 | r :: l,h=>by
  have h1:=Ov.sum h0 (l:=l) fun s hs=>h s (List.mem_cons_of_mem _ hs);have h2:=(h r List.mem_cons_self).add h0 h1;rw [List.sum_cons];refine h2.mono ?_;rw [List.length_cons,Nat.add_mul,Nat.one_mul];omega
theorem Ov.szE {D B E k:Nat} {r:Rat} (h:Ov D B r) (h0:0<D) (h1:D<2 ^ E) (hB:B≤2 ^ E) (hk:E≤30*k):Sz r k:=by
 obtain⟨z,hz,e⟩:=h;exact zCJ h0 h1 (Nat.lt_of_lt_of_le hz hB) hk hk e
structure OvF (D B:Nat) (n E:Nat) (q x:Nat→Rat):Prop where
 d0:0<D
 q:∀i,i<E→Ov D B (q i)
 x:∀k,k<n→Ov D B (x k)
def zBn (m:List (List Int)) (q x:Nat→Rat) (p:Nat × Nat):Rat:=((mkS m p.1 p.2:Int):Rat) - q p.1 - x p.2
section
variable {D B n E:Nat} {q x:Nat→Rat} {m:List (List Int)}
theorem OvF.mq (h:OvF D B n E q x) (hT:Tab m n) {i k:Nat} (hi:i<E):Ov D (1002*D+B) (((mkS m i k:Int):Rat) - q i):=by
 refine(Ov.int h.d0 (B:=1002) ?_).sub h.d0 (h.q i hi);have:=hT.mks i k;omega
theorem OvF.res (h:OvF D B n E q x) (hT:Tab m n) {p:Nat × Nat} (hi:p.1<E) (hk:p.2<n):Ov D (1002*D+B+B) (zBn m q x p):=(h.mq hT hi).sub h.d0 (h.x p.2 hk)
end
attribute [local go_sem] Oper.semAt_some
theorem zGo {m:List (List Int)} {n:Nat} (h:zHb m) (hn:(m.headD []).length=n):Tab m n:=by
 by_cases h0:0<m.length
 ·exact zMn h hn h0
 ·have hm:m=[]:=List.eq_nil_of_length_eq_zero (by omega);subst hm;have h9:n=0:=by rw [←hn];rfl
  subst h9;exact⟨fun i hi=>absurd hi (by simp),by omega,by simp,fun i k=>by unfold mkS;simp⟩
theorem zFH {m:List (List Int)} {LQ LX:List RatA} (h:zBF m LQ LX=true):LQ.length=m.length∧LX.length= (m.headD []).length∧(∀x∈LQ,x.ok=true)∧∀x∈LX,x.ok=true:=by
 unfold zBF at h;rw [Bool.and_eq_true,Bool.and_eq_true] at h;obtain⟨⟨h1,h2⟩,h3⟩:=h;rw [List.all_append,Bool.and_eq_true] at h3;exact⟨of_decide_eq_true h1,of_decide_eq_true h2,List.all_eq_true.1 h3.1,List.all_eq_true.1 h3.2⟩
theorem zEX {n₀ B1 B2 sb i N:Nat} {W y8 w9:World} {own:Option Nat} (v:Value) (hE:Ext W y8) (hg:y8.grownBy w9 own) (hc:∀r,own=some r→∃cs t f,y8.heap[r]? =some (Obj.cells cs t f)) (hN:∀r,own=some r→N≤r) (h1:B1<N) (h2:B2<N) (hn:n₀≤N) (hW:n₀≤W.heap.size) (s1:B1≠sb) (s2:B2≠sb) (s0:n₀≤sb):
 KeepsOthers W (w9.setCell ⟨sb,i,none⟩ v)∧KpS n₀ B1 B2 W (w9.setCell ⟨sb,i,none⟩ v):=by
 refine⟨(hE.others.trans (zEI hg hc)).trans (KeepsOthers.setCell _ _ _),?_,fun cs t k=>?_,fun cs t k=>?_⟩
 ·have b1:Below n₀ W y8:=⟨hE.os,hE.tape,hE.output,hE.size,fun k hk=>hE.block k (by omega)⟩
  exact(b1.grown hg (Nat.le_trans hW hE.size) fun k e=>Nat.le_trans hn (hN k e)).setCell (p:=⟨sb,i,none⟩) s0 v
 ·exact(zA5 (k.ext hE) hg (fun e=>by have:=hN _ e;omega)).other (p:=⟨sb,i,none⟩) s1 v
 ·exact(zA5 (k.ext hE) hg (fun e=>by have:=hN _ e;omega)).other (p:=⟨sb,i,none⟩) s2 v
theorem zHj {w:World} {B:Nat} {t:TypeId} {k n:Nat} {v:Value} {xs:List Value} (h:w.ownsRow B t k v n xs):∀r,v.ownBlock=some r→∃cs t f,w.heap[r]? =some (Obj.cells cs t f):=fun r e=>by
 rcases h.2 with⟨rfl,_⟩ | ⟨g,cap,cur,rfl,hb,hg,_⟩
 ·cases e
 ·cases e;exact⟨_,_,_,hg⟩
theorem zLJ {x y8 w9:World} {B0 sb vc uc:Nat} {va ua:Option Addr} {Kx:List RatC} {c:RatC} {rs:List Rat} {r:Rat} (HO:OwnRats y8 x.heap.size (.slice va Kx.length vc) Kx rs) (hO:OwnRats w9 B0 (.slice ua (Kx.length+1) uc) (Kx ++ [c]) (rs ++ [r]))
 (hgr:y8.grownBy w9 (Value.slice va Kx.length vc).ownBlock) (hat:(Value.slice ua (Kx.length+1) uc).ownBlock= (Value.slice va Kx.length vc).ownBlock∨(Value.slice ua (Kx.length+1) uc).ownBlock=some y8.heap.size) (hF:Blk y8 sb #[.slice va Kx.length vc] 23) (hx:x.heap.size≤y8.heap.size) (hg:x.grownBy y8 (some sb)):
 OwnRats (w9.setCell ⟨sb,0,none⟩ (.slice ua (Kx.length+1) uc)) x.heap.size (.slice ua (Kx.length+1) uc) (Kx ++ [c]) (rs ++ [r])∧Blk (w9.setCell ⟨sb,0,none⟩ (.slice ua (Kx.length+1) uc)) sb #[.slice ua (Kx.length+1) uc] 23∧x.grownBy (w9.setCell ⟨sb,0,none⟩ (.slice ua (Kx.length+1) uc)) (some sb)∧w9.frozen? ⟨sb,0,none⟩=false∧w9.cell? ⟨sb,0,none⟩=some (.slice va Kx.length vc):=by
 have hF9:=zA5 hF hgr (zAI HO.own hF (by decide));refine⟨(hO.high fun g e=>?_).keptB hF9 (by decide) (zAc rfl) (zAa w9 sb 0 _),hF9.set 0 _,(hg.andThen hgr fun j e=>.inl (HO.lt j e).1).trans (zAa w9 sb 0 _),hF9.free 0,hF9.cell rfl⟩;rcases hat with h | h
 ·exact(HO.lt g (h ▸ e)).1
 ·rw [h] at e;cases e;exact hx
theorem OwnRats.keepW {A B:World} (k:KeepW A B) {b:Nat} {v:Value} {Kx:List RatC} {rs:List Rat} (h:OwnRats A b v Kx rs):OwnRats B b v Kx rs:=⟨h.len,k.own h.own,fun i hi=>k.rat (h.val i hi),h.apart⟩
def SqI (xL:World) (sb:Nat) (g:Nat × Nat→Rat) (xs:List (Nat × Nat)) (W:World):Prop:=∃vv Kx,Blk W sb #[vv] 23∧OwnRats W xL.heap.size vv Kx (xs.map g)∧xL.grownBy W (some sb)
theorem SqI.own (xL:World) (sb:Nat) (g:Nat × Nat→Rat):OwnFrom xL.heap.size (SqI xL sb g):=fun xs W W' row h hg hr=>by
 obtain⟨vv,Kx,hb,ho,hx⟩:=h;have k:=zBa hg fun r e=>(hr r e).2;exact⟨vv,Kx,k.blk hb,ho.keepW k,hx.andThen hg fun j e=>.inl (hr j e).1⟩
theorem zLK {m:List (List Int)} {n:Nat} (hT:Tab m n) (hn:(m.headD []).length=n) {q x:Nat→Rat}:((knS m m.length 0).map (fun p=>zBn m q x p*zBn m q x p)).sum= (zAi m).loss q x:=by
 show zHi _ _=_;rw [zEo m n _ m.length hT.len];unfold Mks.loss;refine zA3 fun i _=>?_;show _=sq _ (m.headD []).length;rw [hn];refine zA3 fun k _=>?_;show kS m i k*_=kS m i k*_;unfold zBn Mks.r;show kS m i k*_=kS m i k* ((kS m i k* (mkS m i k:Rat) - q i - x k)* (kS m i k* (mkS m i k:Rat) - q i - x k));unfold kS
 split
 ·grind
 ·grind
section
variable {D e n:Nat} {q x:Nat→Rat} {m:List (List Int)} {l:List Rat}
theorem zGp (h:OvF D (2 ^ e) n m.length q x) (hT:Tab m n) (hD:D<2 ^ e) {p:Nat × Nat} (hp:p∈knS m m.length 0):Ov D (2 ^ (e+10)) (zBn m q x p):=by
 have hE:0<m.length:=by
  by_cases h0:0<m.length
  ·exact h0
  ·rw [show m.length=0 by omega] at hp;cases hp
 have h1:p.1<m.length∧p.2<n:=by
  have e9:knS m m.length 0=knS m (m.length - 1) n:=by
   have e:m.length= (m.length - 1)+1:=by omega
   rw [e,zCI,hT.len _ (by omega),←e]
  rw [e9] at hp;have:=zHg hT (by omega) (Nat.le_refl _) hp;exact⟨this.1,this.2.1⟩
 refine(h.res hT h1.1 h1.2).mono ?_;have hp2:(2:Nat) ^ e*1004≤2 ^ (e+10):=by rw [Nat.pow_add];exact Nat.mul_le_mul_left _ (by omega)
 omega
theorem zGq (e:Nat):(2:Nat) ^ e*2 ^ e=2 ^ (2*e):=by rw [←Nat.pow_add];congr 1;omega
theorem zNi (h:OvF D (2 ^ e) n m.length q x) (hT:Tab m n) (hD:D<2 ^ e) (hl:(knS m m.length 0).map (fun p=>zBn m q x p*zBn m q x p)=l) (hlen:l.length≤1024) (he:e≤14900) (k:Nat) (hk:k≤l.length):Sz (l.take k).sum 1000:=by
 have h1:Ov (D*D) ((l.take k).length* (2 ^ (e+10)*2 ^ (e+10))+1) (l.take k).sum:=Ov.sum (Nat.mul_pos h.d0 h.d0) fun r hr=>by
  have hr:=List.mem_of_mem_take hr;rw [←hl] at hr;obtain⟨p,hp,rfl⟩:=List.mem_map.1 hr;have:=zGp h hT hD hp;exact this.mul h.d0 this
 have hDD:D*D<2 ^ (2*e):=by rw [←zGq];exact Nat.mul_lt_mul'' hD hD
 refine h1.szE (E:=2*e+31) (Nat.mul_pos h.d0 h.d0) (Nat.lt_of_lt_of_le hDD (Nat.pow_le_pow_right (by omega) (by omega))) ?_ (by omega);rw [zGq,show 2* (e+10)=2*e+20 by omega,show 2*e+31= (2*e+20)+11 by omega,Nat.pow_add 2 (2*e+20) 11];have hp0:0< (2:Nat) ^ (2*e+20):=Nat.pow_pos (by omega);have hlk:(l.take k).length≤1024:=by rw [List.length_take];omega
 have:=Nat.mul_le_mul_right (2 ^ (2*e+20)) hlk;omega
theorem zNj (h:OvF D (2 ^ e) n m.length q x) (hT:Tab m n) (hD:D<2 ^ e) (hl:(knS m m.length 0).map (fun p=>zBn m q x p*zBn m q x p)=l) (he:e≤14900) (k:Nat) (hk:k<l.length):Sz (l.getD k 0) 1000:=by
 rw [List.getD_eq_getElem?_getD,List.getElem?_eq_getElem hk,Option.getD_some];have hr:=List.getElem_mem hk;obtain⟨r,hr2⟩:∃r,l[k]=r:=⟨_,rfl⟩
 rw [hr2] at hr ⊢;rw [←hl] at hr;obtain⟨p,hp,rfl⟩:=List.mem_map.1 hr;have h0:=zGp h hT hD hp;have h1:=h0.mul h.d0 h0;have hDD:D*D<2 ^ (2*e):=by rw [←zGq];exact Nat.mul_lt_mul'' hD hD
 refine h1.szE (E:=2*e+31) (Nat.mul_pos h.d0 h.d0) (Nat.lt_of_lt_of_le hDD (Nat.pow_le_pow_right (by omega) (by omega))) ?_ (by omega);rw [zGq];exact Nat.pow_le_pow_right (by omega) (by omega)
end
def zOk (c:Int) (w:World) (e:Ending) (w':World):Prop:=e=.returned (.tuple #[zJJ,.int .i64 c])∧Ext w w'
theorem zKt (a:Option Addr) (cap:Nat) (m:List (List Int)) (qa:Option Addr) (qc:Nat) (LQ:List RatA) (xa:Option Addr) (xc:Nat) (LX:List RatA) (w:World) (h:Rows w a cap m) (hq:RatsI w qa qc LQ) (hx':RatsI w xa xc LX) (hl1:LQ.length≤400) (hl2:LX.length≤400) (hE:zBJ m=0) (hF:zBF m LQ LX=false):Calls Tryz.prog 21 #[.slice a m.length cap,.agg #[.slice qa LQ.length qc,.slice xa LX.length xc]] w (zOk 380 w):=by
 obtain⟨x1,hw,hx,Kf,Kx,Ke⟩:=zGJ w #[.slice qa LQ.length qc,.slice xa LX.length xc] 25 #[.bool false,.slice none 0 0,.bool false,.slice none 0 0] 38 #[.int .i64 0] 29;replace hw:=dH hw;have HA:=dH (zAD a cap m x1 (h.ext hx));have HH:=dH h;have HQ:=dH hq;have HX:=dH hx';have HFO:=dH hF;have hle:=h.le;have hmx:=h.mx;have qle:=hq.le;have qmx:=hq.mx;have xle:=hx'.le;have xmx:=hx'.mx;clear h hq hx' hF
 go_enter_defers Tryz.func21,Tryz.ntmps21
 go_upto_region 1 with fail
 try simp only [Nat.add_assoc,Nat.reduceAdd,Nat.add_zero]
 rw [hw.out];clear hw;have hs0:=hx.size;go_wp2_with fail;refine HA.out.mono ?_;clear HA;rintro e x2 ⟨rfl,hy⟩;replace hx:=hx.trans hy;replace Kf:=kE Kf hy;replace Kx:=kE Kx hy;replace Ke:=kE Ke hy;clear hy;rw [hE,show zBQ 0=.returned (.tuple #[]) from rfl];obtain⟨k0,k1⟩:=bk2 Kf;go_wp2_with fail;refine(zBG a cap m qa qc LQ xa xc LX _ (HH.out.ext hx) (HQ.out.ext hx) (HX.out.ext hx) hl1 hl2).mono ?_;rw [HFO.out,show zDS false=zBN 380 from rfl];rintro e x3 ⟨rfl,hy⟩;replace hx:=hx.trans hy;replace Kx:=kE Kx hy;replace Ke:=kE Ke hy;clear hy k0 k1 Kf HH HQ HX;obtain⟨E,hE9⟩:∃E:Int,E=380:=⟨_,rfl⟩
 rw [←hE9];clear hE9;go_wp2_with fail;refine leaves_cons (f:=52) (args:=#[.pointer (some ⟨w.heap.size+2,0,none⟩)]) (by simp) (by simp [go_sem]) ?_;refine(zAl ⟨w.heap.size+2,0,none⟩ 0 E [] _ (bk1 Ke) (Ke.out.free 0)).mono ?_;rintro e u' w'' ⟨rfl,rfl,rfl⟩;replace Kx:=bo1 Kx (w.heap.size+2) (.int .i64 E) (by omega);replace Ke:=bs1 Ke (.int .i64 E);have e0:=bk1 Ke;obtain⟨e1,e2,e3,e4⟩:=bk4 Kx;have HX9:Hid (Ext w (World.setCell _ ⟨w.heap.size+2,0,none⟩ (.int .i64 E))):=dH (hx.set (p:=⟨w.heap.size+2,0,none⟩) (by dsimp only;omega) _);simp [Leaves,settle,results,Tryz.results21,go_sem,e0,e1,e2,e3,e4];exact⟨rfl,HX9.out⟩
theorem zNk (a:Option Addr) (cap:Nat) (m:List (List Int)) (n:Nat) (qa:Option Addr) (qc:Nat) (LQ:List RatA) (xa:Option Addr) (xc:Nat) (LX:List RatA) (D e:Nat) (w:World) (h:Rows w a cap m) (hq:RatsI w qa qc LQ) (hx:RatsI w xa xc LX) (hE:zBJ m=0) (hF:zBF m LQ LX=true) (hn:(m.headD []).length=n)
 (hov:OvF D (2 ^ e) n m.length (zAq LQ) (zAq LX)) (hD:D<2 ^ e) (he:e≤14900):Calls Tryz.prog 21 #[.slice a m.length cap,.agg #[.slice qa LQ.length qc,.slice xa LX.length xc]] w (zHJ ((zAi m).loss (zAq LQ) (zAq LX)) w):=by
 have HT:=dH (zGo (zAJ hE) hn);have h64:=HT.out.e64;have h16:=HT.out.j16;obtain⟨f1,f2,f3,f4⟩:=zFH hF;have HFP:=dH (And.intro f3 f4);rw [hn] at f2;have HFL:=dH (And.intro f1 f2);have hl1:LQ.length≤400:=by omega
 have hl2:LX.length≤400:=by omega
 clear f1 f2 f3 f4;obtain⟨y,hw,hy,Kf,Kx,Ke⟩:=zGJ w #[.slice qa LQ.length qc,.slice xa LX.length xc] 25 #[.bool false,.slice none 0 0,.bool false,.slice none 0 0] 38 #[.int .i64 0] 29;replace hw:=dH hw;have HA:=dH (zAD a cap m y (h.ext hy));have HH:=dH h;have HQ:=dH hq;have HX:=dH hx;have HFO:=dH hF;have HN:=dH hn;have HOV:=dH hov;have HD:=dH hD;have hle:=h.le;have hmx:=h.mx;have qle:=hq.le;have qmx:=hq.mx;have xle:=hx.le;have xmx:=hx.mx;clear h hq hx hF hn hov hD;refine(callsIn_wide (n:=5)).1 ?_;refine callsIn_of_wp_marks Tryz.func21 rfl trivial ?_ rfl;simp only [Tryz.ntmps21,List.size_toArray,List.length_cons,List.length_nil,Nat.reduceAdd,Nat.reduceSub,Array.replicate_succ,Array.replicate_zero,List.push_toArray,List.append_toArray,List.nil_append,List.cons_append];refine wpIn_wide.2 ?_;go_upto_region 1 with fail
 try simp only [Nat.add_assoc,Nat.reduceAdd,Nat.add_zero]
 rw [hw.out];clear hw;go_wp2_with fail;refine HA.out.mono ?_;clear HA;rintro e0 x2 ⟨rfl,hy2⟩;replace hy:=hy.trans hy2;replace Kf:=kE Kf hy2;replace Kx:=kE Kx hy2;replace Ke:=kE Ke hy2;clear hy2;rw [hE,show zBQ 0=.returned (.tuple #[]) from rfl];obtain⟨k0,k1⟩:=bk2 Kf;go_wp2_with fail;refine(zBG a cap m qa qc LQ xa xc LX _ (HH.out.ext hy) (HQ.out.ext hy) (HX.out.ext hy) hl1 hl2).mono ?_;rw [HFO.out,show zDS true=.returned (.tuple #[]) from rfl];rintro e0 x3 ⟨rfl,hy2⟩;replace hy:=hy.trans hy2;replace Kf:=kE Kf hy2;replace Kx:=kE Kx hy2;replace Ke:=kE Ke hy2;clear hy2 k0 k1;have hs3:=hy.size;have hke:=Ke.out.lt;go_upto_region 5 with fail;have hz:=Ext.alloc x3 (.cells #[.slice none 0 0] 23);have Ks:=dH (Blk.new0 x3 #[.slice none 0 0] 23);replace hy:=hy.trans hz;replace Kf:=kE Kf hz;replace Kx:=kE Kx hz;replace Ke:=kE Ke hz;clear hz;generalize x3.alloc (.cells #[.slice none 0 0] 23)=x4 at *;generalize x3.heap.size=sb at *
 go_cut [16] from 15 to 17 (fun s1 wx=>s1=.func (.func 122) #[] #[.pointer (some ⟨x4.heap.size,0,none⟩),.pointer (some ⟨x4.heap.size+1,0,none⟩)]∧Blk wx x4.heap.size #[.slice a m.length cap] 22∧Blk wx (x4.heap.size+1) #[.func (.func 55) #[] #[]] 84∧Ext x4 wx)
 case first=>
  go_wp2_with fail;refine(zBi a m.length cap x4).mono ?_;rintro e0 w9 ⟨rfl,rfl⟩;have HB1:=dH ((Blk.new0 x4 #[.slice a m.length cap] 22).alloc (.cells #[.func (.func 55) #[] #[]] 84));have HB2:=dH (Blk.new1 x4 (.cells #[.slice a m.length cap] 22) #[.func (.func 55) #[] #[]] 84);have HE9:=dH (((Ext.refl x4).alloc' (.cells #[.slice a m.length cap] 22)).alloc' (.cells #[.func (.func 55) #[] #[]] 84));generalize (x4.alloc (.cells #[.slice a m.length cap] 22)).alloc (.cells #[.func (.func 55) #[] #[]] 84)=x9 at *;go_wp2_with fail;go_meet;exact⟨rfl,HB1.out,HB2.out,HE9.out⟩
 case rest=>
 obtain⟨rfl,hb1,hb2,hz⟩:=hcut;have hsb:=Ks.out.lt;replace hy:=hy.trans hz;replace Kf:=kE Kf hz;replace Kx:=kE Kx hz;replace Ke:=kE Ke hz;replace Ks:=kE Ks hz;have hB1:=hb1.lt;have hB2:=hb2.lt;have hwx:=hy.size;have HXL:=dH hy;have HB1:=dH hb1;have HB2:=dH hb2;clear hz hy hb1 hb2;generalize wc=xL at *;have HI0:Hid (SqI xL sb (fun p=>zBn m (zAq LQ) (zAq LX) p*zBn m (zAq LQ) (zAq LX) p) [] xL):=dH ⟨_,[],Ks.out,OwnRats.nil _ _,World.grownBy.refl _ _⟩;clear Ks;go_wp2_with fail;refine(wpIn_wide (n:=5)).1 ?_
 refine zAH (by omega) (gf:=122) (lb:=#[.pointer (some ⟨x4.heap.size,0,none⟩),.pointer (some ⟨x4.heap.size+1,0,none⟩)]) rfl (enters_of Tryz.func122 (by kernel_rfl) rfl)
  (zDv 4 x4.heap.size (x4.heap.size+1) a cap m w xL HH.out HXL.out HB1.out HB2.out) (fun h k=>KpS.trans h k) (fun W l o o' h1 h2 h3 h4=>KpS.b (w:=xL) hwx W l o o' h1 h2 h3 h4) (fun _=>rfl)
  (SqI xL sb (fun p=>zBn m (zAq LQ) (zAq LX) p*zBn m (zAq LQ) (zAq LX) p)) (fun _ _ _=>False) (SqI.own _ _ _) (fun _ _ _ _ _ h _ _=>h.elim) (OkS.own m _) HI0.out
  (fun W o h=>KpS.ext (Ext.alloc W o) (Nat.le_trans hwx h)) (fun p=>#[.int .i64 (p.1:Int),.int .i64 (p.2:Int)]) 95 ?a1 ?assign ?body ?done ?stop
 case assign=>
  intro lp p W K hK
  gi_wp2
  generalize W.heap.size=bb at *;exact hK
 case body=>
  rintro lp pre ⟨i,k⟩ W ⟨vv,Kv,hb,ho,hg⟩ ⟨i0,k0,hi,hk,hm,hxs⟩ b hbx hbw;obtain⟨rfl,hxe⟩:=List.append_inj' hxs rfl;cases hxe
  clear hxs;dsimp only;rw [HT.out.len i hi] at hk;have hmk:=HT.out.mks i k;have hpl:=zEU HT.out hi (Nat.le_of_lt hk);have hKl:Kv.length= (knS m i k).length:=by have:=ho.len;rwa [List.length_map] at this
  obtain⟨va,vc,rfl,hvl,hvc⟩:=ho.form;have hWE:Ext w W:=Below.grown HXL.out hg HXL.out.size (fun r e=>by cases e;omega);have hkf:=zA5 Kf.out hg (fun e=>by have:=Option.some.inj e;omega);obtain⟨k0,k1⟩:=bk2 (dH hkf);have hcx:Blk W b #[.int .i64 (i:Int),.int .i64 (k:Int)] 95:=hbx;obtain⟨b0,b1⟩:=bk2 (dH hcx);have hr1:=HOV.out.mq HT.out (i:=i) (k:=k) hi;have hr2:=HOV.out.res HT.out (p:=(i,k)) hi hk;have hp2:(2:Nat) ^ e*1004≤2 ^ (e+10):=by rw [Nat.pow_add];exact Nat.mul_le_mul_left _ (by omega)
  have hD0:=HD.out;have hSZ1:Sz (zAq LQ i) 500:=(HOV.out.q i hi).szE HOV.out.d0 HD.out (Nat.le_refl _) (by omega);have hSZ2:Sz (zAq LX k) 500:=(HOV.out.x k hk).szE HOV.out.d0 HD.out (Nat.le_refl _) (by omega);have hDE:D<2 ^ (e+10):=Nat.lt_of_lt_of_le HD.out (Nat.pow_le_pow_right (by omega) (by omega));have hSZ3:Sz (((mkS m i k:Int):Rat) - zAq LQ i) 500:=hr1.szE (E:=e+10) HOV.out.d0 hDE (by omega) (by omega);have HSZ4:Hid (Sz (zBn m (zAq LQ) (zAq LX) (i,k)) 500):=dH (hr2.szE (E:=e+10) HOV.out.d0 hDE (by omega) (by omega));have HRS:=dH (zC4 qa qc LQ xa xc LX i k (mkS m i k) 500 500 500 W (HQ.out.ext hWE) (HX.out.ext hWE) HFP.out.1 HFP.out.2 (by have:=HFL.out.1;omega) (by have:=HFL.out.2;omega) (by omega) hSZ1 hSZ3 hSZ2 (by omega) (by omega));have HB:=dH hb;have HO:=dH ho;have HG:=dH hg;have HWE:=dH hWE;have HKL:=dH hKl;have hgs:=hg.size;clear hb ho hg hWE hkf hcx hbx hKl hr1 hr2 hp2 hD0 hSZ1 hSZ2 hSZ3 hDE hm hmk
  gi_wp2
  refine⟨trivial,(callsIn_wide.2 HRS.out).mono ?_⟩;rintro e' y1 ⟨v1,rfl,⟨n1,a1,q1,c1,b1',k1',d1,rfl,hv',hf',hg'⟩,hz⟩;clear k0 k1 b0 b1 HRS;have HV:Hid (RatV y1 (.agg #[.bool n1,.slice a1 q1 c1,.bool false,.slice b1' k1' d1]) (zBn m (zAq LQ) (zAq LX) (i,k))):=dH hv';gi_upto_region 9 with fail;have hza:=Ext.alloc y1 (.cells #[.bool n1,.slice a1 q1 c1,.bool false,.slice b1' k1' d1] 38);have HRB:=dH (Blk.new0 y1 #[.bool n1,.slice a1 q1 c1,.bool false,.slice b1' k1' d1] 38);have hrs:sb≠y1.heap.size:=by have:=hz.size;omega
  have HRB9:Hid (∀r,(Value.slice va Kv.length vc).ownBlock=some r→r=y1.heap.size→False):=dH (fun r e e2=>by have:=(HO.out.lt r e).2;have:=hz.size;omega)
  have HRN:Hid (∀x∈Kv,x.Off (some y1.heap.size)):=dH (fun x hx=>by
   obtain⟨i9,hi9,rfl⟩:=List.getElem_of_mem hx
   exact(HO.out.val i9 hi9).newB hz.size)
  have HE0:=dH (hz.trans hza);replace HV:=dH (RatV.ext HV.out hza);clear hza hz hv' hf' hg';generalize y1.alloc (.cells #[.bool n1,.slice a1 q1 c1,.bool false,.slice b1' k1' d1] 38)=y2 at *;generalize y1.heap.size=rb at *;have hyd:Ext y2 (World.drew y2):=(Ext.refl _).drew;have hE0:=HE0.out.trans hyd;replace HV:=dH (RatV.ext HV.out hyd);replace HB:=dH (HB.out.ext hE0);replace HO:=dH (HO.out.ext hE0);have s4:World.cell? (World.drew y2) ⟨sb,0,none⟩=some (.slice va Kv.length vc):=HB.out.cell rfl;obtain⟨s0,s1,s2,s3⟩:=bk4 (dH (HRB.out.ext hyd));clear hyd HE0 HRB;refine zA8 (S:=(fun w'=>w'.cell? ⟨rb,0,none⟩=some (.bool n1)∧w'.cell? ⟨rb,1,none⟩=some (.slice a1 q1 c1)∧w'.cell? ⟨rb,2,none⟩=some (.bool false)∧w'.cell? ⟨rb,3,none⟩=some (.slice b1' k1' d1))) (by kernel_rfl) (by kernel_rfl) (by rintro⟨_,_,h⟩;exact h) ?_ (fun hHeld=>?_)
  ·exact⟨s0,s1,s2,s3⟩
  (try simp only [pur,Nat.reduceAdd])
  generalize World.drew y2=y3 at *
  iterate 2
   refine tkR [1,2] (v:=?_) rfl rfl (by kernel_rfl) (fun _ _ _ h=>h) (by rfl) ?_ (by assumption) ?_;rotate_left
   ·(intro w hSw;(try dsimp only at hSw);(try go_simp);(try with_reducible rfl))
   (try simp only [Act.put,pus])
  repeat' first
   | (refine tkR [4,5] (v:=?_) rfl rfl (by decide +kernel) (fun _ _ _ h=>h) (by rfl) ?_ (by assumption) ?_
      rotate_left
      ·(intro w hSw;(try dsimp only at hSw);(try go_simp);(try with_reducible rfl))
      (try simp only [Act.put,pus]))
   | (refine wpAnyH_done (by decide +kernel) ?_ _
      gi_wp2_with fail
      exact⟨HKP.out.1,HKP.out.2,_,_,HPU.out.2.1,(by rw [List.map_append,List.map_singleton];exact HPU.out.1),HPU.out.2.2.1⟩)
   | (refine rdR [0,3,6,7,8,9] (by decide +kernel) (zAt ?_ (zAt ?_ (zAt ?_ (zAt ?_ (zAt ?_ (zAt ?_ zFw))))))
      first
      | exact noR (by decide +kernel)
      | (refine isR (o:=_) rfl (fun K hK=>?_)
         go_simp
         rotate_left)
      first
      | exact noR (by decide +kernel)
      | (refine isR (o:=_) rfl (fun K hK=>?_)
         go_simp
         (with_reducible refine(zED (v:=.agg #[.bool n1,.slice a1 q1 c1,.bool false,.slice b1' k1' d1]) (u:=.agg #[.bool n1,.slice a1 q1 c1,.bool false,.slice b1' k1' d1]) HV.out HV.out HSZ4.out HSZ4.out (by omega)).mono ?_);rintro e5 y5 ⟨v5,rfl,⟨n5,a5,q5,c5,b5,k5,d5,rfl,hv',hf',hg'⟩,hE⟩;have hlt:=HO.out.lt;have HOFF:Hid (RatC.Off ⟨n5,a5,q5,c5,false,b5,k5,d5⟩ (Value.slice va Kv.length vc).ownBlock):=dH ⟨fun _ A hA e=>by have:=hf' A hA;have:=(hlt _ e).2;omega,fun _ A hA e=>by have:=hg' A hA;have:=(hlt _ e).2;omega⟩;replace HO:=dH (HO.out.ext hE);replace HB:=dH (HB.out.ext hE);have hE0:=hE0.trans hE;replace s0:=zA0 hE s0;replace s1:=zA0 hE s1;replace s2:=zA0 hE s2;replace s3:=zA0 hE s3;replace s4:=zA0 hE s4;have HV5:=dH hv';clear hE hv' hf' hg' hlt HV
         rotate_left)
      first
      | exact noR (by decide +kernel)
      | (refine isR (o:=_) rfl (fun K hK=>?_)
         go_simp
         (with_reducible refine(zAG n5 false a5 b5 q5 c5 k5 d5 _).mono ?_);rintro e6 y6 ⟨rfl,hE⟩;replace HO:=dH (HO.out.ext hE);replace HB:=dH (HB.out.ext hE);have hE0:=hE0.trans hE;replace s0:=zA0 hE s0;replace s1:=zA0 hE s1;replace s2:=zA0 hE s2;replace s3:=zA0 hE s3;replace s4:=zA0 hE s4;replace HV5:=dH (RatV.ext HV5.out hE);clear hE
         rotate_left)
      first
      | exact noR (by decide +kernel)
      | (refine isR (o:=_) rfl (fun K hK=>?_)
         go_simp;have hE:=Ext.alloc y6 (.cells #[.bool n5,.slice a5 q5 c5,.bool false,.slice b5 k5 d5] 38);replace HO:=dH (HO.out.ext hE);replace HB:=dH (HB.out.ext hE);have hE0:=hE0.trans hE;replace s0:=zA0 hE s0;replace s1:=zA0 hE s1;replace s2:=zA0 hE s2;replace s3:=zA0 hE s3;replace s4:=zA0 hE s4;replace HV5:=dH (RatV.ext HV5.out hE);have HBz:=dH (Blk.new0 y6 #[.bool n5,.slice a5 q5 c5,.bool false,.slice b5 k5 d5] 38);clear hE;generalize Array.size (World.heap y6)=kb2 at *;generalize World.alloc y6 (.cells #[.bool n5,.slice a5 q5 c5,.bool false,.slice b5 k5 d5] 38)=y8 at *
         rotate_left)
      first
      | exact noR (by decide +kernel)
      | (refine isR (o:=_) rfl (fun K hK=>?_)
         refine zAP (a0:=w) rfl (.tmp 23) (.tmp 30) rfl (HWE.out.trans hE0) rfl (HO.out.low HXL.out.size) rfl (x:=⟨n5,a5,q5,c5,false,b5,k5,d5⟩) (r:=zBn m (zAq LQ) (zAq LX) (i,k)*zBn m (zAq LQ) (zAq LX) (i,k)) HBz.out HV5.out HOFF.out (by have:=HKL.out;omega) ?_;intro v' w9 hO' hE' hgr hat';obtain⟨ua,uc,e9,hul,huc⟩:=hO'.form;rw [List.length_append,List.length_singleton] at e9;subst e9;have HPU:=dH (zLJ HO.out hO' hgr hat' HB.out (Nat.le_trans hgs hE0.size) (HG.out.trans (zDz hE0 _)));have HKP:=dH (zEX (n₀:=w.heap.size) (B1:=x4.heap.size) (B2:=x4.heap.size+1) (sb:=sb) (i:=0) (N:=xL.heap.size) (.slice ua (Kv.length+1) uc) hE0 hgr (zHj HO.out.own) (fun r e=>(HO.out.lt r e).1) hB1 hB2 hwx (Nat.le_trans hwx hgs) (by omega) (by omega) (by omega));have hF9:=HPU.out.2.2.2.1;have hC9:=HPU.out.2.2.2.2;have hrb:some rb≠(Value.slice va Kv.length vc).ownBlock:=(fun e=>HRB9.out _ e.symm rfl);replace s0:=hgr.cell s0 hrb;replace s1:=hgr.cell s1 hrb;replace s2:=hgr.cell s2 hrb;replace s3:=hgr.cell s3 hrb;clear s4 HB HO
         rotate_left)
      first
      | exact noR (by decide +kernel)
      | (refine isR (o:=_) rfl (fun K hK=>?_)
         go_simp;have hsb:=zAa w9 sb 0 (.slice ua (Kv.length+1) uc);have hrn:some rb≠some sb:=(fun e=>hrs (Option.some.inj e).symm);replace s0:=hsb.cell s0 hrn;replace s1:=hsb.cell s1 hrn;replace s2:=hsb.cell s2 hrn;replace s3:=hsb.cell s3 hrn;clear hF9 hC9 hsb
         rotate_left)
      all_goals (
       refine hK.out _ _ ?_ ?_
       ·exact⟨s0,s1,s2,s3⟩
       clear hK K hHeld;intro hHeld
       (try simp only [Act.put,pus])))
 case done=>
  rintro D1 xs W hD1 hS ⟨vv,Kv,hb,ho,hg⟩ hK;rw [show xs=knS m m.length 0 from hS] at ho;have HDf:=dH hK;replace Kx:=dH (zA5 Kx.out hg (fun e=>by have:=Option.some.inj e;omega));replace Ke:=dH (zA5 Ke.out hg (fun e=>by have:=Option.some.inj e;omega));have hWE:Ext w W:=Below.grown HXL.out hg HXL.out.size (fun r e=>by cases e;omega);obtain⟨va,vc,rfl,hvl,hvc⟩:=ho.form;obtain⟨l,hl⟩:∃l,(knS m m.length 0).map (fun p=>zBn m (zAq LQ) (zAq LX) p*zBn m (zAq LQ) (zAq LX) p)=l:=⟨_,rfl⟩
  have hls:l.sum= (zAi m).loss (zAq LQ) (zAq LX):=by rw [←hl];exact zLK HT.out HN.out
  rw [hl] at ho;have hKl:Kv.length=l.length:=ho.len;have hlen:l.length≤1024:=by
   rw [←hl,List.length_map];have h1:=zER HT.out.len (Nat.le_refl m.length) (Nat.zero_le n);have:m.length*n≤64*16:=Nat.mul_le_mul h64 h16;omega
  have hsz:=fun k (hk:k≤l.length)=>zNi HOV.out HT.out HD.out hl hlen he k hk;have hsx:∀k,k<l.length→Sz (l.getD k 0) 1000:=fun k hk=>zNj HOV.out HT.out HD.out hl he k hk;obtain⟨a5,c5,Vl,e5,hrow⟩:=ho.reads (N:=Kv.length) (f:=fun c=>l.getD c 0) rfl (fun c _=>rfl);cases e5
  have HSM:=dH (zE6 va vc Kv.length Vl (fun c=>l.getD c 0) 1000 1000 W hrow (by omega) (fun k hk=>by rw [zDB l k (by omega)];exact hsz k (by omega)) (fun k hk=>hsx k (by omega)) (by omega));have HLS:Hid (sq (fun c=>l.getD c 0) Kv.length= (zAi m).loss (zAq LQ) (zAq LX)):=dH (by rw [hKl,zDB l _ (Nat.le_refl _),List.take_length,hls]);rw [hKl] at hvl hb HSM HLS;obtain⟨N,hN⟩:∃N,l.length=N:=⟨_,rfl⟩
  rw [hN] at hvl hb HSM HLS hlen;have k0:W.cell? ⟨sb,0,none⟩=some (.slice va N vc):=hb.cell rfl;clear ho hl hls hKl hsz hsx hrow hN hg hb hK;go_wp2_with fail;refine HSM.out.mono ?_;rintro e' y1 ⟨v1,rfl,⟨n1,a1,q1,c1,b1,k1,d1,rfl,hv',hf',hg'⟩,hz⟩;have hwW:=hWE.size;have HF1:=dH (fun A hA=>Nat.le_trans hwW (hf' A hA));have HG1:=dH (fun A hA=>Nat.le_trans hwW (hg' A hA));rw [HLS.out] at hv';replace Kx:=kE Kx hz;replace Ke:=kE Ke hz;replace HDf:=dH (hz.others.same _ _ HDf.out rfl);have hx:=hWE.trans hz;have HV:=dH hv';clear hv' hf' hg' hz hWE k0 HSM HLS;obtain⟨g0,z0,g1,z1,g2,z2,g3,z3⟩:=bp4 Kx (.bool n1) (.slice a1 q1 c1) (.bool false) (.slice b1 k1 d1);have HV2:=rv4 HV Kx (.bool n1) (.slice a1 q1 c1) (.bool false) (.slice b1 k1 d1) rfl rfl rfl rfl;have Kx2:=bs4 Kx (.bool n1) (.slice a1 q1 c1) (.bool false) (.slice b1 k1 d1);have Ke2:=bo4 Ke (w.heap.size+1) (.bool n1) (.slice a1 q1 c1) (.bool false) (.slice b1 k1 d1) (by omega);have hx2:=bx4 hx (w.heap.size+1) (.bool n1) (.slice a1 q1 c1) (.bool false) (.slice b1 k1 d1) (by omega);obtain⟨g4,z4⟩:=bp1 Ke2 (.int .i64 0);have HV3:=rv1 HV2 Ke2 (.int .i64 0) rfl;have Kx3:=bo1 Kx2 (w.heap.size+2) (.int .i64 0) (by omega);have Ke3:=bs1 Ke2 (.int .i64 0);have HX3:=dH (hx2.set (p:=⟨w.heap.size+2,0,none⟩) (by dsimp only;omega) (.int .i64 0));have HD3:=dH ((((((KeepsOthers.setCell y1 ⟨w.heap.size+1,0,none⟩ (.bool n1)).trans (KeepsOthers.setCell _ ⟨w.heap.size+1,1,none⟩ (.slice a1 q1 c1))).trans (KeepsOthers.setCell _ ⟨w.heap.size+1,2,none⟩ (.bool false))).trans (KeepsOthers.setCell _ ⟨w.heap.size+1,3,none⟩ (.slice b1 k1 d1))).trans (KeepsOthers.setCell _ ⟨w.heap.size+2,0,none⟩ (.int .i64 0))).same _ _ HDf.out rfl);clear Kx Kx2 Ke Ke2 hx hx2 HV HV2 HDf;go_wp2_with fail;generalize (((((y1.setCell ⟨w.heap.size+1,0,none⟩ (.bool n1)).setCell ⟨w.heap.size+1,1,none⟩ (.slice a1 q1 c1)).setCell ⟨w.heap.size+1,2,none⟩ (.bool false)).setCell ⟨w.heap.size+1,3,none⟩ (.slice b1 k1 d1)).setCell ⟨w.heap.size+2,0,none⟩ (.int .i64 0))=y9 at *;refine⟨by simp,.inl ⟨D1,_,rfl,run_takeDeferred HD3.out,?_⟩⟩;have k1':=zGk HD3.out;have hX:Ext w (y9.putObj D1 (.deferred none)):=Below.trans HX3.out (belowK_b (n₀:=w.heap.size) (w:=w) (Nat.le_refl _) _ D1 _ _ (by omega) HD3.out rfl rfl);have e0:=bk1 (dH (k1'.blk Ke3.out));obtain⟨r0,r1,r2,r3⟩:=bk4 (dH (k1'.blk Kx3.out));have HP:Hid (zHJ ((zAi m).loss (zAq LQ) (zAq LX)) w (.returned (.tuple #[.agg #[.bool n1,.slice a1 q1 c1,.bool false,.slice b1 k1 d1],.int .i64 0])) (y9.putObj D1 (.deferred none))):=dH ⟨_,rfl,⟨n1,a1,q1,c1,b1,k1,d1,rfl,k1'.rat HV3.out,HF1.out,HG1.out⟩,hX⟩;clear hX HV3 HX3 k1';generalize y9.putObj D1 (.deferred none)=y10 at *;refine⟨by simp,.inr ⟨fun _=>by omega,_,_,52,#[.pointer (some ⟨w.heap.size+2,0,none⟩)],rfl,by simp [go_sem],fun _ _=>trivial,(zAK 4 _ _).mono ?_⟩⟩;rintro e u' w' ⟨rfl,rfl,rfl⟩;refine⟨.tuple #[.agg #[.bool n1,.slice a1 q1 c1,.bool false,.slice b1 k1 d1],.int .i64 0],?_,HP.out⟩;simp [results,Tryz.results21,go_sem,e0,r0,r1,r2,r3]
 case stop=>exact fun _ _ _ _ _ _ h=>h.elim
end Go.Proofs.YtonkhcdmchidjaaGreat
