import Derived.Test.YtonkhcdmchidjaaGreatPKnA
import Derived.Deep.CutBlock
import Derived.Deep.DeepCutAuto
namespace Go.Proofs.YtonkhcdmchidjaaGreat
open Go.RowKit Go BigFrame Go.Shelf
set_option maxRecDepth 100000
set_option linter.all false
set_option maxHeartbeats 8000000 in
theorem zLb (a b:Option Addr) (ca cb j0 la:Nat) (l m:List Int) (w:World) (h:Ints w a ca l) (k:Ints w b cb m) (hl:Norm l) (hm:Norm m) (hmk:m.length=j0+2) (hla:l.length=la) (h1:la≤99990) (hge:zA1 m≤zA1 l):
 Calls Tryz.prog 221 #[.slice a la ca,.slice b (j0+2:Nat) cb] w (zJw l m a w):=by
 obtain⟨i0,hi0,hz0,hz1,hz2⟩:=info_parts zHD;have hne:l≠[]:=fun e=>by
  have h2:=zAL hm (fun e=>by rw [e] at hmk;simp at hmk);rw [e] at hge;simp only [zA1] at hge;omega
 have hlk:j0+2≤la:=by rw [←hmk,←hla];exact zFM hl.digs hm hge
 have hd1:=zIj hm (k:=j0+1) hmk;have hd2:=(hm.digs.getD (j0+1)).2;obtain⟨d,hd⟩:∃d,m.getD (j0+1) 0=d:=⟨_,rfl⟩
 rw [hd] at hd1 hd2;obtain⟨n,hbl,hmn⟩:=movN hd1 hd2;have hn29:=hmn.n29;obtain⟨v1,v2,v3,v4⟩:=zMP hm (k:=j0+1) hmk (by rw [hd];exact hmn);obtain⟨u1,u2,u3,u4,u5⟩:=zJE hl hne hn29;have hfirst:=zJF hl hm (k:=j0+1) hmk hn29 (by omega);obtain⟨bb,bo,rfl⟩:=k.head (i:=j0+1) (by omega);obtain⟨x,hx,hc,_⟩:=Ints.get k (i:=j0+1) (by omega);have hxd:x=d:=by rw [←hd];simp [List.getD,hx]
 subst hxd;have hle1:=h.le;have hmx1:=h.mx;have hle2:=k.le;have hmx2:=k.mx;rw [hla] at hle1;rw [hmk] at hle2;have d2:((j0+2:Nat):Int) - 1= ((j0+1:Nat):Int):=by omega
 have hcv:IntKind.u64.wrap x=x:=by unfold IntKind.wrap;simp [IntKind.signed,IntKind.bits];omega
 have HLZ:=dH (zD1 x w (by omega) (by omega));have d3:64 - ((Lib.bitLen x.toNat:Nat):Int) - 34= (n:Int):=by omega
 obtain⟨bl,hbl2⟩:∃bl,Lib.bitLen x.toNat=bl:=⟨_,rfl⟩
 rw [hbl2] at HLZ d3 hbl;have hM1:=zGE (some ⟨bb,bo,none⟩) cb n m w k hm.digs (by omega) hn29;rw [hmk] at hM1;have HM1:=dH hM1;have HM2:=dH (fun W (hy:Ext w W)=>zGE a ca n l W (h.ext hy) hl.digs (by omega) hn29);rw [hla] at HM2;have HV:=dH (And.intro v1 (And.intro v2 (And.intro v3 v4)));have HU:=dH (And.intro u1 (And.intro u2 (And.intro u3 (And.intro u4 (And.intro u5 hfirst)))));have HI:=dH h;have HNL:=dH (And.intro hl hm);have HLL:=dH (And.intro hmk hla);clear v1 v2 v3 v4 u1 u2 u3 u4 u5 hfirst hM1 h k hl hm hmk hla hx hd hge hne hbl2 hmn;go_enter Tryz.func221,Tryz.ntmps221
 go_wp2_with (go_at_call 229;refine HLZ.out.mono ?_;rintro e w' ⟨rfl,hw⟩;rw [hw];clear hw)
 refine HM1.out.mono ?_;rintro e w1 ⟨vv,rfl,hOv,hy1⟩;obtain⟨gv,cv,rfl,hgv,hgv2,hcv1,hcv2⟩:=hOv.form;obtain⟨_,hIv⟩:=hOv.ints (fun x hx=>by have:=(zA4 _).digs x hx;omega);obtain⟨V,hV⟩:∃V,digs (zA1 m*2 ^ n).toNat=V:=⟨_,rfl⟩
 have hVn:Norm V:=by rw [←hV];exact zA4 _
 obtain⟨q1,q2,q3,q4⟩:=HV.out;rw [hV] at q1 q2 hcv1 hIv ⊢;have q1:V.length=j0+2:=q1;rw [q1] at hcv1 ⊢;have HIv:=dH hIv;have HVN:=dH hVn;have HVV:=dH (And.intro q1 (And.intro q2 (And.intro q3 q4)));have HM3:=dH (HM2.out w1 hy1);clear hOv hIv hVn q1 q2 q3 q4 hc;go_wp2_with fail;refine HM3.out.mono ?_;rintro e w2 ⟨vu,rfl,hOu,hy2⟩;obtain⟨q1,q2,q3,q4,q5,q6⟩:=HU.out;obtain⟨D,hD⟩:∃D,digs (zA1 l*2 ^ n).toNat=D:=⟨_,rfl⟩
 rw [hD] at hOu q1 q2;obtain⟨nd,hnd⟩:∃nd,D.length=nd:=⟨_,rfl⟩
 rw [hnd,HLL.out.2] at q1 q2;have hown:=hOu.own;have hnn:=hOu.nn;rw [hnd] at hown;have HDD:=dH hD;have HND:=dH hnd;have hs1:=hy1.size;have hs2:=hy2.size;obtain⟨X1,X2⟩:=HLL.out;have q2:=q2;obtain⟨mm,hmm⟩:∃mm:Nat,la=mm+ (j0+1):=⟨la - (j0+1),by omega⟩
 have dm:(la:Int) - ((j0:Int)+2)+1= (mm:Int):=by omega
 have HMM:=dH hmm;have hm1:1≤mm:=by omega
 clear hOu hnd q3 q4 q5 q6 X1 X2 hV hD hbl hmm
 go_wp2_with (at_builtin;refine wpList_append_own_at _ rfl (.tmp 33) (.tmp 34) 217 rfl w1.heap.size 3 i0 (.int .i64 0) 1 8 Tryz.underlying217 hi0 hz0 hz1 hz2 rfl (by decide) _ _ _ rfl (hown.alloc _) ⟨w2.heap.size,0,none⟩ 2 2 [.int .i64 0,.int .i64 0] rfl rfl (World.news_of_block (cs:=#[.int .i64 0,.int .i64 0]) (t:=3) (fr:=(0,0)) (heap_alloc_new w2 _)) (by simp [Value.oneCell']) (by unfold maxLen;omega) (by omega) (by simp;omega) ?_;intro v3 w3 hown3 hgrow3 hnil3 hat3)
 have hown3:w3.ownsRow w1.heap.size 3 1 v3 (nd+2) ((D ++ [0,0]).map (Value.int .i64)):=by simpa using hown3
 obtain⟨gu,cu,R,rfl,hgu,hgu2,hcu,hcm,hXB⟩:=XB.of_owns hown3 (fun e=>absurd (hnil3.1 e).2 (by omega)) (la+1);have hy3:Ext w1 w3:=Below.grown (hy2.alloc' (.cells #[.int .i64 0,.int .i64 0] 3)) hgrow3 (by have:=hy2.size;simp;omega) (fun j e=>by have:=zC7 hown e;omega);clear hown3 hnil3 hat3 hgrow3 hown;have hla1:(la:Int)+1≤(cu:Int):=by omega
 have hla2:(la:Int)< (cu:Int):=by omega
 have hla3:(0:Int)≤(la:Int)+1:=by omega
 have hla4:((la:Int)+1).toNat=la+1:=by omega
 have hxy:=hy1.trans hy3;have hs3:=hxy.size;have HX:=dH (And.intro hy1 hy3);have HXB:Hid (XB w3 gu (List.take (la+1) (D ++ [0,0])) R):=dH hXB;clear hXB hy1 hy2 hxy;go_wp2_with fail;have hu62:Tryz.prog.underlying 217=some (.slice (Tryz.prog.elem 217)):=by kernel_rfl
 rw [run_slice_h (ht:=hu62) (h0:=hla3) (h2:=hla1)];simp [go_sem];clear hu62
 go_wp2_with (at_make;refine wpList_make_full _ rfl _ _ 217 rfl w3.heap.size 3 i0 (.int .i64 0) 1 Tryz.underlying217 hi0 hz0 hz1 _ _ _ _ mm rfl rfl rfl rfl (by rw [hz2];omega) (by unfold maxLen;omega) (Nat.le_refl _) ?_;intro w4 hown hgrow)
 have hown:w4.ownsRow w3.heap.size 3 1 (.slice (some ⟨w3.heap.size,0,none⟩) mm mm) mm ((List.replicate mm (0:Int)).map (Value.int .i64)):=by simpa [Value.cells,toList_madeCells_one] using hown
 have hB0:IB w4 w3.heap.size (List.replicate mm 0):=IB.of_owns hown;clear hown;obtain⟨U0,hU0⟩:∃U0,zKO l n=U0:=⟨_,rfl⟩
 have eU:List.take (la+1) (D ++ [0,0])=U0:=by rw [←hU0];unfold zKO;rw [HDD.out,HLL.out.2]
 obtain⟨_,_,q3,q4,q5,q6⟩:=HU.out;obtain⟨_,v2,v3,_⟩:=HVV.out;rw [hU0] at q3 q4 q5 q6;rw [HLL.out.2] at q3 q6;have hmm2:=HMM.out;rw [show la - (j0+1)=mm by omega,←v2] at q6;have hS0:St w1 gu w3.heap.size R U0 (List.replicate mm 0) w4:=⟨by rw [←eU];exact zFN HXB.out hgrow,hB0,zEj HX.out.2 hgrow,by omega,hgu,by have:=HX.out.2.size;omega⟩
 have hLA0:LongAt U0 V mm mm U0 (List.replicate mm 0):=LongAt.start q4 q6;have hv0:0<zA1 V:=by rw [v2];exact v3
 obtain⟨gq,hgq⟩:∃gq,w3.heap.size=gq:=⟨_,rfl⟩
 rw [hgq] at hS0 ⊢;have HV0:=dH hv0;have HU0:=dH (And.intro q3 (And.intro q5 v2));have HLA0:=dH hLA0;have HS0:=dH hS0;have hgq2:gu<gq:=by omega
 have hUl:=q3;clear hLA0 hS0 hgq hB0 eU q3 q4 q5 q6 v2 v3 hv0 hU0 hgrow HXB HM1 HM2 HM3 HU HDD HND HLZ;have HUl:=dH hUl;have hmm3:mm+j0≤99990:=by omega
 have hcl:la+1≤cu:=by omega
 clear hUl hmm2 d2 d3 dm hcv h1 hla1 hla2 hla3 hla4
 go_loopw [10] (fun i wr=>∃k:Nat,∃U Q:List Int,k≤mm∧i=.int .i64 ((k:Int) - 1)∧LongAt U0 V mm k U Q∧St w1 gu gq R U Q wr) (fun i _=>(intOf i+1).toNat)
 case atStart=>exact⟨mm,U0,_,Nat.le_refl _,rfl,HLA0.out,HS0.out⟩
 case round=>
  obtain⟨k,U,Q,hk,rfl,hLA,hSt⟩:=hrel;by_cases hk0:k=0
  ·subst hk0;obtain⟨p1,p2⟩:=zCk hn29;obtain⟨hQ,hT⟩:=hLA.done HV0.out;obtain⟨u1e,u2e,v2e⟩:=HU0.out;obtain⟨b1,b2,b3⟩:=zLa (x:=zA1 l) (y:=zA1 m) (n:=n) hn29;rw [u2e,v2e] at hQ hT;rw [b1] at hQ;rw [b2] at hT;have hmp:0<zA1 m:=by
    have h2:=HV0.out;rw [v2e] at h2;rcases Int.lt_or_le 0 (zA1 m) with h3 | h3
    ·exact h3
    ·have:=Int.mul_le_mul_of_nonneg_right h3 (show(0:Int)≤2 ^ n by omega);omega
   have hr0:=Int.emod_nonneg (zA1 l) (show zA1 m≠0 by omega);have hUl:U.length=la+1:=by rw [hLA.lu,u1e]
   have hIU:=hSt.u.ints (fun x hx=>by have:=hLA.du x hx;omega) (by rw [hUl];exact hcl) hcm;have hTC:=fun W (hy:Ext wr W)=>zC5 _ _ _ W (hIU.ext hy);have hIT:=hIU.take (zAB U).length;rw [←zB1] at hIT;have hvl:zA1 (zAB U) / 2 ^ n=zA1 l % zA1 m:=by
    have:0≤(zA1 l % zA1 m)*2 ^ n:=Int.mul_nonneg hr0 (by omega);rw [hT,zAF,Int.toNat_of_nonneg this,b3]
   have htl:=zCB U;have hSC:=fun W (hy:Ext wr W)=>zGD (some ⟨gu,0,none⟩) cu (zAB U) (2 ^ n) W (hIT.ext hy) (zGA hLA.du) (by have:=HMM.out;omega) p1 (by omega);unfold zJt at hSC;rw [hvl] at hSC;rw [hUl] at hTC;have hIQ:=IB.ints hSt.q (fun x hx=>by have:=hLA.dq x hx;omega) (by rw [hLA.lq];omega);have hTQ:=fun W (hy:Ext wr W)=>zC5 _ _ _ W (hIQ.ext hy);have hIQ2:=hIQ.take (zAB Q).length;rw [←zB1,hQ,hLA.lq] at hIQ2;rw [hQ,hLA.lq] at hTQ;have hshl:∀x:Int,Op.shift .shl .i64 x .i64 (n:Int)=pure (.int .i64 (IntKind.i64.wrap (x*2 ^ n))):=fun x=>by
    rw [shift_shl_any _ _ _ _ (by omega)];have:min (n:Int).toNat IntKind.i64.bits=n:=by simp [IntKind.bits];omega
    rw [this]
   have hwr:IntKind.i64.wrap ((2:Int) ^ n)=2 ^ n:=IntWalk.i64_in _ (by omega);obtain⟨P,hP⟩:∃P:Int,2 ^ n=P:=⟨_,rfl⟩
   rw [hP] at hSC hwr p1 p2;simp only [hP] at hshl;obtain⟨QL,hQL⟩:∃QL,digs (zA1 l / zA1 m).toNat=QL:=⟨_,rfl⟩
   obtain⟨RL,hRL⟩:∃RL,digs (zA1 l % zA1 m).toNat=RL:=⟨_,rfl⟩
   rw [hQL] at hTQ hIQ2;rw [hRL] at hSC;obtain⟨TU,hTU⟩:∃TU,zAB U=TU:=⟨_,rfl⟩
   rw [hTU] at hTC hSC;have HTC:=dH hTC;have HSC:=dH hSC;have HTQ:=dH hTQ;have HIQ:=dH hIQ2;have HQL:=dH hQL;have HRL:=dH hRL;have hxw:=HX.out.1.trans hSt.x;have hsx:=hxw.size;have hqb:=hSt.hq;have hs1x:=HX.out.1.size;clear hQ hT u1e u2e v2e b1 b2 b3 hmp hr0 hUl hIU hTC hIT hvl hSC hIQ hTQ hIQ2 hQL hRL hTU htl hLA hSt;go_upto_region 33 with fail;refine wp_region_held_drew (S:=(fun _=>True)) (by kernel_rfl) ?_ (fun hHeld=>?_)
   ·trivial
   (try simp only [pur,Nat.reduceAdd])
   iterate 3
    refine tkR [0,2,3] (v:=?_) rfl rfl (by kernel_rfl) (fun _ _ _ h=>h) (by rfl) ?_ (by assumption) ?_;rotate_left
    ·(intro w hSw;(try dsimp only at hSw);(try go_simp);(try with_reducible rfl))
    (try simp only [Act.put,pus])
   refine wpAnyH_ready (rs:=[1]) (by kernel_rfl) (by simp) ?_;refine AllReadyH.cons (o:=_) rfl (fun K hK=>?_) ?_
   ·go_simp;refine(HTC.out _ (by with_reducible exact(Ext.refl wr).drew)).mono ?_;rintro e5 w5 ⟨rfl,rfl⟩;refine hK.out _ _ ?_ ?_
    ·trivial
    clear hK K hHeld;intro hHeld
    (try simp only [Act.put,pus])
    refine wpAnyH_ready (rs:=[4]) (by kernel_rfl) (by simp) ?_;refine AllReadyH.cons (o:=_) rfl (fun K hK=>?_) ?_
    ·go_simp
     (with_reducible refine(HSC.out _ (by with_reducible exact(Ext.refl wr).drew)).mono ?_);rintro e6 w6 ⟨v6,rfl,hO6,hy6⟩;obtain⟨a6,c6,rfl,hi6,hb6⟩:=hO6.form0 (by rw [←HRL.out];exact(zA4 _).digs);have hy7:=(Ext.refl wr).drew.trans hy6;have HTQ2:=dH (HTQ.out w6 hy7)
     refine hK.out _ _ ?_ ?_
     ·trivial
     clear hK K hHeld;intro hHeld
     (try simp only [Act.put,pus])
     iterate 4
      refine tkR [5,6,7,8] (v:=?_) rfl rfl (by kernel_rfl) (fun _ _ _ h=>h) (by rfl) ?_ (by assumption) ?_;rotate_left
      ·(intro w hSw;(try dsimp only at hSw);(try go_simp);(try with_reducible rfl))
      (try simp only [Act.put,pus])
     refine wpAnyH_done (by kernel_rfl) ?_ _
     (clear hO6;go_wp2_with fail;refine HTQ2.out.mono ?_;rintro e7 w7 ⟨rfl,rfl⟩;go_wp2_with fail;go_ret2;exact⟨some ⟨gq,0,none⟩,mm,a6,c6,by rw [HQL.out,HRL.out];rfl,by rw [HQL.out];exact HIQ.out.ext hy7,by rw [HRL.out];exact hi6,fun A hA=>by cases hA;dsimp only;omega,fun A hA=>.inl (by have:=hb6 A hA;have h8:wr.heap.size=wr.drew.heap.size:=rfl;omega),hxw.trans hy7⟩)
    exact AllReadyH.nil
   exact AllReadyH.nil
  ·obtain⟨i,rfl⟩:∃i,k=i+1:=⟨k - 1,by omega⟩
   have e1:((i+1:Nat):Int) - 1= (i:Int):=by omega
   rw [e1];obtain⟨z1,_⟩:=HVV.out;have hUl:U.length=mm+j0+2:=by rw [hLA.lu,HUl.out,HMM.out];omega
   have hV1:=zIj HVN.out (k:=j0+1) z1;have hW:=hLA.win HVN.out.digs z1 hV1 (by omega);have hwin:=hLA.window (show i<U.length by omega);have hq:zA1 (U.drop i) / zA1 V<1073741824:=Int.ediv_lt_of_lt_mul HV0.out hwin.2.2;have a0:=hLA.du.getD (i+ (j0+2));have a1:=hLA.du.getD (i+ (j0+1));have a2:=hLA.du.getD (i+j0);have b1:=HVN.out.digs.getD (j0+1);have b2:=HVN.out.digs.getD j0;have c0:=hSt.u.at (i:=i+ (j0+2)) (by omega)
   have c1:=hSt.u.at (i:=i+ (j0+1)) (by omega)
   have c2:=hSt.u.at (i:=i+j0) (by omega)
   have hIv:=HIv.out.ext hSt.x;have e1v:=hIv.at00 (i:=j0+1) (by omega);have e2v:=hIv.at00 (i:=j0) (by omega);obtain⟨u0,hu0⟩:∃x,U.getD (i+ (j0+2)) 0=x:=⟨_,rfl⟩
   obtain⟨u1,hu1⟩:∃x,U.getD (i+ (j0+1)) 0=x:=⟨_,rfl⟩
   obtain⟨u2,hu2⟩:∃x,U.getD (i+j0) 0=x:=⟨_,rfl⟩
   obtain⟨p1,hp1⟩:∃x,V.getD (j0+1) 0=x:=⟨_,rfl⟩
   obtain⟨p2,hp2⟩:∃x,V.getD j0 0=x:=⟨_,rfl⟩
   rw [hu0] at a0 c0 hW;rw [hu1] at a1 c1 hW;rw [hu2] at a2 c2 hW;rw [hp1] at b1 e1v hW hV1;rw [hp2] at b2 e2v hW;have hor:=zFQ u0 u1 (by omega) (by omega) (by omega) (by omega);obtain⟨hd,hhd⟩:∃x,u0*1073741824+u1=x:=⟨_,rfl⟩
   rw [hhd] at hor hW;have hd0:0≤hd:=by omega
   have hd1:hd<1152921504606846976:=by omega
   have HW:=dH hW;have HST:=dH hSt;have HLA:=dH hLA;have HWN:=dH hwin;have HQ:=dH hq;have HE:=dH (And.intro hu0 (And.intro hu1 (And.intro hu2 (And.intro hp1 hp2))));have hmm2:=HMM.out;have g0:(0:Int)≤(i:Int):=by omega
   have g1:(i:Int)+ ((j0:Int)+2)< (la:Int)+1:=by omega
   have g2:(i:Int)+ ((j0:Int)+2) - 1< (la:Int)+1:=by omega
   have g3:(0:Int)≤(i:Int)+ ((j0:Int)+2):=by omega
   have g4:(0:Int)≤(i:Int)+ ((j0:Int)+2) - 1:=by omega
   have t1:((i:Int)+ ((j0:Int)+2)).toNat=i+ (j0+2):=by omega
   have t2:((i:Int)+ ((j0:Int)+2) - 1).toNat=i+ (j0+1):=by omega
   clear hW hSt hLA hwin hq hu0 hu1 hu2 hp1 hp2 hhd hIv hUl e1 hmm2;go_wp2_with fail
   go_quiet (fail)
   go_upto_block 2 with fail
   go_cut [12] (fun s12 wx=>∃g:Int,s12=.int .i64 g∧GsR p1 hd (zA1 (U.drop i) / zA1 V) g∧g≤zA1 (U.drop i) / zA1 V+1∧St w1 gu gq R U Q wx)
   case first=>
    go_wp2_with fail;have HST2:=dH (HST.out.drewN nq);generalize wr.drewN nq=wq at *
    go_loopw [12] (fun s wx=>∃g:Int,s=.int .i64 g∧GsR p1 hd (zA1 (U.drop i) / zA1 V) g∧∃N,wx=wq.drewN N) (fun s _=>(intOf s).toNat)
    case atStart=>exact⟨_,rfl,HW.out.gsr1 HWN.out.2.2 b1.2 (by have:=HQ.out;omega) hd0,0,rfl⟩
    case round=>
     obtain⟨g,rfl,hg,N,rfl⟩:=hrel;have HG:=dH hg;obtain⟨⟨y1,y2,y3,y4⟩,y5⟩:=hg;have m1:0≤g*p1:=Int.mul_nonneg y2 (by omega);have m2:g*p1≤1073741823*1073741823:=Int.mul_le_mul (by omega) (by omega) (by omega) (by omega);have m3:0≤g*p2:=Int.mul_nonneg y2 (by omega);have m4:g*p2≤1073741823*1073741823:=Int.mul_le_mul (by omega) (by omega) (by omega) (by omega);obtain⟨gp,hgp⟩:∃gp,g*p1=gp:=⟨_,rfl⟩
     obtain⟨gr,hgr⟩:∃gr,g*p2=gr:=⟨_,rfl⟩
     obtain⟨rm,hrm⟩:∃rm,hd - gp=rm:=⟨_,rfl⟩
     rw [hgp] at y4 y5 m1 m2;rw [hgr] at m3 m4;rw [hrm] at y5;have k0:0≤rm:=by omega
     have hor:=zFQ rm u2 (by omega) (by omega) (by omega) (by omega);have w1x:IntKind.i64.wrap gp=gp:=IntWalk.i64_in _ (by omega);have w2x:IntKind.i64.wrap gr=gr:=IntWalk.i64_in _ (by omega);have w3x:IntKind.i64.wrap rm=rm:=IntWalk.i64_in _ (by omega);have w4x:IntKind.i64.wrap (rm*1073741824)=rm*1073741824:=IntWalk.i64_in _ (by omega);have hIv:=HIv.out.ext HST2.out.x;obtain⟨z1,_⟩:=HVV.out;have e1v:=hIv.at00 (i:=j0+1) (by omega);have e2v:=hIv.at00 (i:=j0) (by omega);obtain⟨_,_,hu2,hp1,hp2⟩:=HE.out;have hUl:U.length=mm+j0+2:=by rw [HLA.out.lu,HUl.out,HMM.out];omega
     have c2:=HST2.out.u.at (i:=i+j0) (by omega)
     rw [hu2] at c2;rw [hp1] at e1v;rw [hp2] at e2v;have g5:(i:Int)+ ((j0:Int)+2) - 2< (la:Int)+1:=by have:=HMM.out;omega
     have g6:(0:Int)≤(i:Int)+ ((j0:Int)+2) - 2:=by omega
     have t3:((i:Int)+ ((j0:Int)+2) - 2).toNat=i+j0:=by omega
     have t4:((j0:Int)+2 - 2).toNat=j0:=by omega
     have t5:((j0:Int)+2 - 1).toNat=j0+1:=by omega
     have g7:(0:Int)≤(j0:Int)+2 - 2:=by omega
     have g8:(j0:Int)+2 - 2< (j0:Int)+2:=by omega
     have g9:(0:Int)≤(j0:Int)+2 - 1:=by omega
     have g10:(j0:Int)+2 - 1< (j0:Int)+2:=by omega
     clear hu2 hp1 hp2 hUl hIv z1 y1;by_cases ht:rm*1073741824+u2<gr
     ·have d1:decide (rm*1073741824+u2<gr)=true:=by simpa using ht
      by_cases hr:rm≤1073741823
      ·have d2:decide (rm≤1073741823)=true:=by simpa using hr
       have HR:=dH (And.intro ht hr);clear ht hr;go_upto_region 12 with fail
       go_quiet (fail)
       go_wp2_with fail;go_roundw
       case rel=>exact⟨g - 1,rfl,(GsR.down HW.out HG.out b1.2 (by rw [hgp,hrm,hgr];exact HR.out.1) (by rw [hgp,hrm];exact HR.out.2)).1,_,rfl⟩
       case measure=>
        have:=(GsR.down HW.out HG.out b1.2 (by rw [hgp,hrm,hgr];exact HR.out.1) (by rw [hgp,hrm];exact HR.out.2)).2;simp [intOf];omega
      ·have d2:decide (rm≤1073741823)=false:=by simpa using hr
       have HR:=dH (show 1073741823<rm by omega);clear ht hr;go_upto_region 12 with fail
       go_quiet (fail)
       go_wp2_with fail;go_meet;exact⟨g,rfl,HG.out,HW.out.stay2 y2 (by omega) (.inr (by rw [hgp,hrm];exact HR.out)),(HST2.out.drewN _).drewN _⟩
     ·have d1:decide (rm*1073741824+u2<gr)=false:=by simpa using ht
      have HR:=dH (show gr≤rm*1073741824+u2 by omega);clear ht;go_upto_region 12 with fail
      go_quiet (fail)
      go_wp2_with fail;go_meet;exact⟨g,rfl,HG.out,HW.out.stay2 y2 (by omega) (.inl (by rw [hgp,hrm,hgr];exact HR.out)),(HST2.out.drewN _).drewN _⟩
   case rest=>
   obtain⟨g,rfl,hg,hg2,hSt⟩:=hcut;obtain⟨z1,_⟩:=HVV.out;have hR:Rnd U0 V mm i (j0+2) U Q g:=⟨HLA.out,HVN.out.digs,z1,HV0.out,by omega,by rw [HLA.out.lu,HUl.out];have:=HMM.out;omega,hg.g0,by have:=hg.gB;omega,hg.lo,hg2⟩
   have HR:=dH hR;have HS:=dH hSt;obtain⟨⟨y1,y2,y3,_⟩,_⟩:=hg;have hUl:U.length=mm+j0+2:=by rw [HLA.out.lu,HUl.out,HMM.out];omega
   have HUL:=dH hUl;have HY:=dH (And.intro y1 hg2);clear hR hSt hg2 c0 c1 c2 e1v e2v hor y1 hUl z1 HST HW HWN HE a0 a1 a2 b1 b2 hV1 hd0 hd1;go_wp2_with fail
   go_loopw [13,121] (fun o j wx=>∃n2:Nat,n2≤j0+2∧j=.int .i64 n2∧o=.int .i64 (zAm (off U V i g) n2)∧St w1 gu gq R (zML U V i g n2) Q wx) (fun _ j _=>(j0+2) - (intOf j).toNat)
   case atStart=>exact⟨0,Nat.zero_le _,rfl,rfl,by rw [zJB];exact HS.out⟩
   case round=>
    obtain⟨j,hj,rfl,rfl,hSj⟩:=hrel;by_cases hjk:j<j0+2
    ·have hmm2:=HMM.out;have hUl:=HUL.out;obtain⟨z1,_⟩:=HVV.out;obtain⟨s1,s2⟩:=HR.out.bd j;obtain⟨s3,s4⟩:=zBY (off U V i g) (b:=1152921504606846976) (by omega) HR.out.bd j;have hcs:zAm (off U V i g) (j+1)= (off U V i g j+zAm (off U V i g) j) / 1073741824:=rfl;have hset:=zL8 (U:=U) (V:=V) (i:=i) (g:=g) (j:=j) (by omega);have hlen:=zIh (U:=U) (V:=V) (i:=i) (g:=g) (j:=j) (by omega);have hcu:=hSj.u.at (i:=i+j) (by rw [hlen];omega)
     rw [zIg (by omega) (Nat.le_refl _)] at hcu;have hcv:=(HIv.out.ext hSj.x).at00 (i:=j) (by omega);have hfu:=Blk.free hSj.u (i+j);have ho:=zMK U V i g j;have du:=HLA.out.du.getD (i+j);have dv:=HVN.out.digs.getD j;have HSJ:=dH hSj;obtain⟨x1,hx1⟩:∃x,U.getD (i+j) 0=x:=⟨_,rfl⟩
     obtain⟨x2,hx2⟩:∃x,V.getD j 0=x:=⟨_,rfl⟩
     obtain⟨s,hs⟩:∃x,off U V i g j=x:=⟨_,rfl⟩
     obtain⟨c,hc⟩:∃x,zAm (off U V i g) j=x:=⟨_,rfl⟩
     rw [hx1] at hcu du ho;rw [hx2] at hcv dv ho;rw [hs] at s1 s2 hcs hset ho;rw [hc] at s3 s4 hcs hset ⊢;have m1:0≤g*x2:=Int.mul_nonneg y2 (by omega);have m2:g*x2≤1073741823*1073741823:=Int.mul_le_mul (by omega) (by omega) (by omega) (by omega);obtain⟨gp,hgp⟩:∃gp,g*x2=gp:=⟨_,rfl⟩
     rw [hgp] at m1 m2 ho;have w1x:IntKind.i64.wrap gp=gp:=IntWalk.i64_in _ (by omega);have w2x:IntKind.i64.wrap (x1 - gp)=x1 - gp:=IntWalk.i64_in _ (by omega);have w3x:IntKind.i64.wrap (s+c)=s+c:=IntWalk.i64_in _ (by omega);have ho2:x1 - gp=s:=ho.symm;have hand:=zDm (s+c);have HCS:=dH hcs;have HSET:=dH hset;have HLEN:=dH hlen;have g5:(i:Int)+ (j:Int)< (la:Int)+1:=by omega
     have g6:(0:Int)≤(i:Int)+ (j:Int):=by omega
     have t3:((i:Int)+ (j:Int)).toNat=i+j:=by omega
     have g7:(0:Int)≤(j:Int):=by omega
     have g8:(j:Int)< (j0:Int)+2:=by omega
     clear hmm2 hUl z1 hcs hset hlen hSj hx1 hx2 hs hc ho hj;go_upto_region 18 with fail
     go_quiet (fail)
     go_wp2_with fail;go_roundw
     case rel=>
      refine⟨j+1,by omega,by go_num,by rw [HCS.out],?_⟩;rw [←HSET.out];exact((HSJ.out.drewN nq).setU (i:=i+j) (by rw [HLEN.out,HUL.out];have:=HMM.out;omega) _)
     case measure=>simp [intOf];omega
    ·obtain rfl:j=j0+2:=by omega
     have hmm2:=HMM.out;have hUl:=HUL.out;have hlen:=zIh (U:=U) (V:=V) (i:=i) (g:=g) (j:=j0+2) (by omega);have hcu:=hSj.u.at (i:=i+ (j0+2)) (by rw [hlen];omega)
     rw [zIg (by omega) (Nat.le_refl _)] at hcu;have hfu:=Blk.free hSj.u (i+ (j0+2));have du:=HLA.out.du.getD (i+ (j0+2));obtain⟨s3,s4⟩:=zBY (off U V i g) (b:=1152921504606846976) (by omega) HR.out.bd (j0+2);have ht:zHw U V i (j0+2) g=U.getD (i+ (j0+2)) 0+zAm (off U V i g) (j0+2):=rfl;have hS2:=hSj.setU (i:=i+ (j0+2)) (by rw [hlen];omega) (zHw U V i (j0+2) g);rw [zMM (by omega)] at hS2;obtain⟨x1,hx1⟩:∃x,U.getD (i+ (j0+2)) 0=x:=⟨_,rfl⟩
     obtain⟨c,hc⟩:∃x,zAm (off U V i g) (j0+2)=x:=⟨_,rfl⟩
     obtain⟨tt,htt⟩:∃x,zHw U V i (j0+2) g=x:=⟨_,rfl⟩
     rw [hx1] at hcu du ht;rw [hc] at s3 s4 ht ⊢;rw [htt] at hS2 ht;have ht2:x1+c=tt:=ht.symm;have HS2:=dH hS2;have HTT:=dH htt;have g5:(i:Int)+ ((j0:Int)+2)< (la:Int)+1:=by omega
     have g6:(0:Int)≤(i:Int)+ ((j0:Int)+2):=by omega
     have t3:((i:Int)+ ((j0:Int)+2)).toNat=i+ (j0+2):=by omega
     clear hmm2 hUl hlen hSj hx1 hc ht htt hS2 hj hjk;go_upto_region 22 with fail;generalize wr.setCell ⟨gu,i+ (j0+2),none⟩ (.int .i64 tt)=ws at *;have hUl:=HUL.out;have hmm2:=HMM.out;have hct:=HS2.out.u.at (i:=i+ (j0+2)) (by rw [HR.out.sub_drop.2.2];omega)
     rw [zIi (by omega),HTT.out] at hct;have hcq:=HS2.out.q.at (i:=i) (by rw [HLA.out.lq];omega)
     have hfq:=Blk.free HS2.out.q i;have him:(i:Int)< (mm:Int):=by omega
     have hqm:mm≤9223372036854775807:=by omega
     clear hcu hfu hUl hmm2;by_cases hgq:g=zA1 (U.drop i) / zA1 V
     ·obtain⟨ht0,hL⟩:=HR.out.good hgq;rw [HTT.out] at ht0;subst ht0;have HL:=dH hL;have HGQ:=dH hgq;clear hL hgq ht2;go_wp2_with fail;go_roundw
      case rel=>exact⟨i,_,_,by omega,rfl,HL.out,HS2.out.setQ i g⟩
      case measure=>simp [intOf]
     ·have hgq2:g=zA1 (U.drop i) / zA1 V+1:=by have:=HY.out;omega
      have hneg:=HR.out.over hgq2;have hB:=HR.out.back hgq2;rw [HTT.out] at hneg;have HGQ:=dH hgq2;have HB:=dH hB;have d1:decide (tt<0)=true:=by simpa using hneg
      clear hgq hgq2 hB;go_wp2_with fail
      go_loopw [16,169] (fun o j wx=>∃n2:Nat,n2≤j0+2∧j=.int .i64 n2∧o=.int .i64 (zAm (bck U V i (j0+2) g) n2)∧St w1 gu gq R (onU U V i (j0+2) g n2) Q wx) (fun _ j _=>(j0+2) - (intOf j).toNat)
      case atStart=>exact⟨0,Nat.zero_le _,rfl,rfl,by rw [zL9];exact HS2.out⟩
      case round=>
       clear hct hcq hfq;obtain⟨j,hj,rfl,rfl,hSj⟩:=hrel;by_cases hjk:j<j0+2
       ·have hmm2:=HMM.out;have hUl:=HUL.out;obtain⟨z1,_⟩:=HVV.out;obtain⟨s1,s2⟩:=HR.out.bbd j;obtain⟨s3,s4⟩:=zBY (bck U V i (j0+2) g) (b:=1152921504606846976) (by omega) HR.out.bbd j;have hcs:zAm (bck U V i (j0+2) g) (j+1)= (bck U V i (j0+2) g j+zAm (bck U V i (j0+2) g) j) / 1073741824:=rfl;have hset:=HR.out.onU_set (j:=j) hjk;have hlen:=HR.out.onU_len (j:=j) (by omega);have hcu:=hSj.u.at (i:=i+j) (by rw [hlen];omega)
        rw [HR.out.onU_get (by omega) (Nat.le_refl _)] at hcu;have hcv:=(HIv.out.ext hSj.x).at00 (i:=j) (by omega);have hfu:=Blk.free hSj.u (i+j);have ho:=zMN (U:=U) (V:=V) (i:=i) (g:=g) (k:=j0+2) (j:=j) (by omega) hjk;have dv:=HVN.out.digs.getD j;have HSJ:=dH hSj;obtain⟨x1,hx1⟩:∃x,(zFs U V i (j0+2) g).getD (i+j) 0=x:=⟨_,rfl⟩
        obtain⟨x2,hx2⟩:∃x,V.getD j 0=x:=⟨_,rfl⟩
        obtain⟨s,hs⟩:∃x,bck U V i (j0+2) g j=x:=⟨_,rfl⟩
        obtain⟨c,hc⟩:∃x,zAm (bck U V i (j0+2) g) j=x:=⟨_,rfl⟩
        rw [hx1] at hcu ho;rw [hx2] at hcv dv ho;rw [hs] at s1 s2 hcs hset ho;rw [hc] at s3 s4 hcs hset ⊢;have w2x:IntKind.i64.wrap (x1+x2)=x1+x2:=IntWalk.i64_in _ (by omega);have w3x:IntKind.i64.wrap (s+c)=s+c:=IntWalk.i64_in _ (by omega);have ho2:x1+x2=s:=ho.symm;have hand:=zDm (s+c);have HCS:=dH hcs;have HSET:=dH hset;have HLEN:=dH hlen;have g5:(i:Int)+ (j:Int)< (la:Int)+1:=by omega
        have g6:(0:Int)≤(i:Int)+ (j:Int):=by omega
        have t3:((i:Int)+ (j:Int)).toNat=i+j:=by omega
        have g7:(0:Int)≤(j:Int):=by omega
        have g8:(j:Int)< (j0:Int)+2:=by omega
        clear hmm2 hUl z1 hcs hset hlen hSj hx1 hx2 hs hc ho hj;go_upto_region 28 with fail
        go_quiet (fail)
        go_wp2_with fail;go_roundw
        case rel=>
         refine⟨j+1,by omega,by go_num,by rw [HCS.out],?_⟩;rw [←HSET.out];exact((HSJ.out.drewN nq).setU (i:=i+j) (by rw [HLEN.out,HUL.out];have:=HMM.out;omega) _)
        case measure=>simp [intOf];omega
       ·obtain rfl:j=j0+2:=by omega
        have hmm2:=HMM.out;have hUl:=HUL.out;have hlen:=HR.out.onU_len (j:=j0+2) (Nat.le_refl _);have hcu:=hSj.u.at (i:=i+ (j0+2)) (by rw [hlen];omega)
        rw [HR.out.onU_get (by omega) (Nat.le_refl _),zIi (by omega),HTT.out] at hcu;have hfu:=Blk.free hSj.u (i+ (j0+2));obtain⟨s3,s4⟩:=zBY (bck U V i (j0+2) g) (b:=1152921504606846976) (by omega) HR.out.bbd (j0+2);have ht:zMO U V i (j0+2) g=zHw U V i (j0+2) g+zAm (bck U V i (j0+2) g) (j0+2):=rfl;have hS3:=hSj.setU (i:=i+ (j0+2)) (by rw [hlen];omega) (zMO U V i (j0+2) g);obtain⟨c,hc⟩:∃x,zAm (bck U V i (j0+2) g) (j0+2)=x:=⟨_,rfl⟩
        obtain⟨tb,htb⟩:∃x,zMO U V i (j0+2) g=x:=⟨_,rfl⟩
        rw [HTT.out] at ht;rw [hc] at s3 s4 ht ⊢;rw [htb] at hS3 ht;have ht2:tt+c=tb:=ht.symm;have HS3:=dH hS3;have HTB:=dH htb;have hcq:=hS3.q.at (i:=i) (by rw [HLA.out.lq];omega)
        have hfq:=Blk.free hS3.q i;have g5:(i:Int)+ ((j0:Int)+2)< (la:Int)+1:=by omega
        have g6:(0:Int)≤(i:Int)+ ((j0:Int)+2):=by omega
        have t3:((i:Int)+ ((j0:Int)+2)).toNat=i+ (j0+2):=by omega
        have b3:-9223372036854775808≤tt+c∧tt+c≤9223372036854775807:=by omega
        clear hmm2 hUl hlen hSj hc ht htb hS3 hj hjk;go_upto_region 32 with fail;generalize wr.setCell ⟨gu,i+ (j0+2),none⟩ (.int .i64 tb)=wt at *;clear hcu hfu b3;go_wp2_with fail;go_roundw
        case rel=>exact⟨i,_,_,by omega,rfl,HB.out,by rw [HTB.out];exact HS3.out.setQ i (g - 1)⟩
        case measure=>simp [intOf]
end Go.Proofs.YtonkhcdmchidjaaGreat
