import Derived.Test.YtonkhcdmchidjaaGreatZL
namespace Go.Proofs.YtonkhcdmchidjaaGreat
open Go.RowKit Go BigFrame Go.Shelf
set_option maxRecDepth 100000
set_option linter.all false
attribute [local go_sem] Oper.semAt_some
theorem zKN (m:List (List Int)) (i k q:Nat):(List.range (q+1)).map (fun a=>zIH k (m.getD ((a+i) % m.length) []))= (List.range q).map (fun a=>zIH k (m.getD ((a+i) % m.length) [])) ++ [zIH k (m.getD ((q+i) % m.length) [])]:=by rw [List.range_succ,List.map_append];rfl
set_option maxHeartbeats 16000000 in
theorem zI7 (a:Option Addr) (cap:Nat) (m:List (List Int)) (z0 z1:Nat) (w:World) (h:Rows w a cap m) (he:z0≤255) (hj:z1≤255):Calls Tryz.prog 6 #[.slice a m.length cap,.int .u8 (z0:Int),.int .u8 (z1:Int)] w fun e w'=>e=.returned (.bool true)∧Ext w w':=by
 have HH:=dH h;have hmle:=h.le;have hmmx:=h.mx;have HSN:=dH (zJn w);clear h;go_enter Tryz.func6,Tryz.ntmps6;go_wp2_with fail;refine HSN.out.mono ?_;rintro e x1 ⟨rfl,hx⟩;clear HSN;have HRT:=dH (zI5 a cap m x1 (HH.out.ext hx));go_wp2_with fail;refine HRT.out.mono ?_;rintro e x2 ⟨c,rfl,hc,hy⟩;replace hx:=hx.trans hy;clear hy HRT;cases c
 ·clear hc;go_wp2_with fail;go_ret;exact⟨rfl,hx⟩
 have HRB:=dH (hc.1 rfl);clear hc;have m0:=HRB.out.e0;have m6:=HRB.out.e6;obtain⟨J,hJ⟩:∃J,(m.headD []).length=J:=⟨_,rfl⟩
 have j0:0<J:=by rw [←hJ];exact HRB.out.n0
 have j4:J≤4:=by rw [←hJ];exact HRB.out.n4
 have HJ:=dH hJ;clear hJ;have HX:=dH hx;clear hx;have t1:((z0:Int)).tmod (m.length:Int)= ((z0 % m.length:Nat):Int):=by rw [Int.tmod_eq_emod_of_nonneg (by omega)];rfl
 have t2:((z1:Int)).tmod (J:Int)= ((z1 % J:Nat):Int):=by rw [Int.tmod_eq_emod_of_nonneg (by omega)];rfl
 have t3:IntKind.i64.wrap (z0:Int)= (z0:Int):=IntWalk.i64_in _ (by omega);have t4:IntKind.i64.wrap (z1:Int)= (z1:Int):=IntWalk.i64_in _ (by omega);have hm0:¬m=[]:=fun e=>by rw [e] at m0;simp at m0
 have hj0:¬J=0:=by omega
 have hi:=Nat.mod_lt z0 m0;have hk:=Nat.mod_lt z1 j0;obtain⟨b,o,rfl⟩:=HH.out.head m0;obtain⟨r0,a0,c0,hr0,hc0,hI0⟩:=Rows.get (HH.out.ext HX.out) m0;simp only [Nat.add_zero] at hc0;have hl0:r0.length=J:=by
  rw [←HJ.out]
  cases m with
  | nil=>simp at m0
  | cons x t=>simp at hr0;rw [←hr0];rfl
 rw [hl0] at hc0;clear hr0 hI0 hl0;go_upto_region 5 with fail
 go_cut [7,8] (fun s1 s2 wx=>s1=.int .i64 ((z0 % m.length:Nat):Int)∧s2=.int .i64 ((z1 % J:Nat):Int)∧Ext x2 wx)
 case first=>
  have hE:Ext x2 (World.drew x2):=(Ext.refl _).drew;have s0:=zA0 hE hc0;refine wp_region_held_drew (S:=(fun w'=>w'.cell? ⟨b,o,none⟩=some (.slice a0 J c0))) (by kernel_rfl) ?_ (fun hHeld=>?_)
  ·exact s0
  (try simp only [pur,Nat.reduceAdd])
  generalize World.drew x2=x3 at *
  iterate 14
   refine tkR [0,1,2,3,4,5,6,7,8,9,10,11,12,13] (v:=?_) rfl rfl (by kernel_rfl) (fun _ _ _ h=>h) (by rfl) ?_ (by assumption) ?_;rotate_left
   ·(intro w hSw;(try dsimp only at hSw);(try go_simp);(try with_reducible rfl))
   (try simp only [Act.put,pus])
  refine wpAnyH_done (by kernel_rfl) ?_ _;go_wp2_with fail;go_meet;exact⟨rfl,rfl,hE⟩
 case rest=>
 obtain⟨rfl,rfl,hy⟩:=hcut;replace HX:=dH (HX.out.trans hy);clear hy t1 t2 t3 t4 hc0 hm0 hj0;generalize z0 % m.length=i at *;generalize z1 % J=k at *;generalize hwc:wc=y0 at *;clear hwc;have k0:(0:Int)≤(k:Int):=by omega
 have k1:(k:Int)< (J:Int):=by omega
 have i0:(0:Int)≤(i:Int):=by omega
 have HRM:=dH (zKK (i:=i) (k:=k) HRB.out hi (by rw [HJ.out];exact hk));go_wp2_with fail
 go_loopw [9,36] (fun v c wr=>∃q:Nat,q≤m.length∧c=.int .i64 (q:Int)∧OwnL zFp wr w.heap.size 34 v ((List.range q).map (fun a=>zIH k (m.getD ((a+i) % m.length) [])))∧Ext w wr) (fun _ c _=>m.length - (intOf c).toNat)
 case atStart=>exact⟨0,Nat.zero_le _,rfl,OwnL.nil _ _ _,HX.out⟩
 case round=>
  obtain⟨q,hq,rfl,how,hxr⟩:=hrel;generalize wr=z at *;have q0:(0:Int)≤(q:Int):=by omega
  have HOW:=dH how;have HXR:=dH hxr;clear how hxr;by_cases hqm:q<m.length
  ·have q1:(q:Int)< (m.length:Int):=by omega
   have hw1:IntKind.i64.wrap ((q:Int)+1)= (q:Int)+1:=IntWalk.i64_in _ (by omega);have hw2:IntKind.i64.wrap ((q:Int)+ (i:Int))= (q:Int)+ (i:Int):=IntWalk.i64_in _ (by omega);have t1:((q:Int)+ (i:Int)).tmod (m.length:Int)= (((q+i) % m.length:Nat):Int):=by rw [Int.tmod_eq_emod_of_nonneg (by omega)];rfl
   have hm0:¬m=[]:=fun e=>by rw [e] at m0;simp at m0
   have hr:=Nat.mod_lt (q+i) m0;have HSU:=dH (zKN m i k q);generalize (q+i) % m.length=r at *;have r0:(0:Int)≤(r:Int):=by omega
   have r1:(r:Int)< (m.length:Int):=by omega
   obtain⟨l,ra,rc,hl,hc,hI⟩:=Rows.get (HH.out.ext HXR.out) hr;have hlJ:l.length=J:=by rw [←HJ.out];exact(zAJ HRB.out.ask).same l (List.mem_of_getElem? hl)
   have hlb:∀x∈l,-1≤x∧x≤1000:=fun x hx=>(zAJ HRB.out.ask).mark l (List.mem_of_getElem? hl) x hx;rw [List.getD_eq_getElem?_getD,hl,Option.getD_some] at HSU;have rle:=hI.le;have rmx:=hI.mx;rw [hlJ] at hc rle;obtain⟨a1,c1,hs1,hI1,p1,p2⟩:=zNx (z:=(k:Int)) hI rfl hlJ (Nat.le_of_lt hk);obtain⟨a2,c2,hs2,hI2,p3,p4⟩:=sl_to (z:=(k:Int)) hI rfl hlJ (Nat.le_of_lt hk);obtain⟨N1,hN1⟩:∃N1,N1=J - k:=⟨_,rfl⟩
   rw [←hN1] at hs1 p1;have HL1:Hid ((l.drop k).length=N1):=dH (by rw [List.length_drop];omega);have HL2:Hid ((l.take k).length=k):=dH (by rw [List.length_take];omega);have H1:=dH hI1;have H2:=dH hI2;have HLB:=dH hlb;have HNJ:Hid (N1+k=J):=dH (by omega);have hN4:N1≤4:=by omega
   clear hl hI hlJ hlb hI1 hI2 hN1;go_upto_region 11 with fail;have hE:Ext z (World.drew z):=(Ext.refl _).drew;refine wp_region_held_drew (S:=(fun _=>True)) (by kernel_rfl) ?_ (fun hHeld=>?_)
   ·trivial
   (try simp only [pur,Nat.reduceAdd])
   generalize World.drew z=y1 at *
   iterate 7
    refine tkR [0,2,3,4,6,7,8] (v:=?_) rfl rfl (by kernel_rfl) (fun _ _ _ h=>h) (by rfl) ?_ (by assumption) ?_;rotate_left
    ·(intro w hSw;(try dsimp only at hSw);(try go_simp);(try with_reducible rfl))
    (try simp only [Act.put,pus])
   repeat' first
    | (refine tkR [12] (v:=?_) rfl rfl (by decide +kernel) (fun _ _ _ h=>h) (by rfl) ?_ (by assumption) ?_
       rotate_left
       ·(intro w hSw;(try dsimp only at hSw);(try go_simp);(try with_reducible rfl))
       (try simp only [Act.put,pus]))
    | (refine wpAnyH_done (by decide +kernel) ?_ _
       go_wp2_with fail;go_roundw
       case rel=>exact⟨q+1,by omega,by go_num,by rw [HSU.out];exact HO6.out,HX6.out⟩
       case measure=>simp [intOf];omega)
    | (refine rdR [1,5,9,10,11] (by decide +kernel) (zAt ?_ (zAt ?_ (zAt ?_ (zAt ?_ (zAt ?_ zFw)))))
       first
       | exact noR (by decide +kernel)
       | (refine isR (o:=_) rfl (fun K hK=>?_)
          go_simp;obtain⟨hO,hE2⟩:=zM2 hE;replace hE:=hE2;clear hE2;generalize World.alloc y1 (.cells #[] 3)=y2 at *;generalize Array.size (World.heap y1)=g0 at *;generalize Value.slice (some ⟨g0,0,none⟩) 0 0=v0 at *
          rotate_left)
       first
       | exact noR (by decide +kernel)
       | (refine isR (o:=_) rfl (fun K hK=>?_)
          refine zCy (by rfl) (.tmp 49) (.tmp 52) (by rfl) hE (by rfl) hO (ad:=a1) (c:=c1) (n:=N1) (l:=l.drop k) (by rfl) HL1.out (H1.out.ext hE) (by have h1:=HL1.out;simp only [List.length_nil];omega) ?_;intro v1 y4 hO1 hE1 hF;have hE:=hE1;have hO:=hO1
          rotate_left)
       first
       | exact noR (by decide +kernel)
       | (refine isR (o:=_) rfl (fun K hK=>?_)
          refine zCy (by rfl) (.tmp 53) (.tmp 56) (by rfl) hE (by rfl) hO (ad:=a2) (c:=c2) (n:=k) (l:=l.take k) (by rfl) HL2.out (H2.out.ext hE) (by have h1:=HL1.out;have h2:=HL2.out;simp only [List.length_append,List.length_nil];omega) ?_;intro v3 y9 hO3 hE3 hF3;rw [List.nil_append] at hO3;obtain⟨g3,cp3,e3,hI3,hg3⟩:∃g c,v3=.slice (some ⟨g,0,none⟩) J c∧zFp y9 (.slice (some ⟨g,0,none⟩) J c) (zIH k l)∧z.heap.size≤g:=(by have hm:∀x∈l.drop k ++ l.take k,-9223372036854775808≤x∧x≤9223372036854775807:=(fun x hx=>by have:=HLB.out x (zIJ (k:=k) hx);omega);obtain⟨g,c,e,h1,h2⟩:=hO3.look hm;have hl:(l.drop k ++ l.take k).length=J:=(by rw [List.length_append,HL1.out,HL2.out,HNJ.out]);rw [hl] at e;exact⟨g,c,e,⟨_,_,by rw [←hl];rfl,h1⟩,h2⟩);subst e3;have HI3:=dH hI3;have hE:=hE3;clear hI3 hO3
          rotate_left)
       first
       | exact noR (by decide +kernel)
       | (refine isR (o:=_) rfl (fun K hK=>?_)
          go_simp;have hB:=Blk.new0 y9 #[.slice (some ⟨g3,0,none⟩) J cp3] 34;have hy:=Ext.alloc y9 (.cells #[.slice (some ⟨g3,0,none⟩) J cp3] 34);replace HI3:=dH (rdInts.ext _ _ _ _ hy HI3.out);replace hE:=hE.trans hy;clear hy;generalize World.alloc y9 (.cells #[.slice (some ⟨g3,0,none⟩) J cp3] 34)=y10 at *;generalize Array.size (World.heap y9)=pn at *
          rotate_left)
       first
       | exact noR (by decide +kernel)
       | (refine isR (o:=_) rfl (fun K hK=>?_)
          refine zEg rdInts rfl (.tmp 48) (.tmp 58) 22 34 rfl Tryz.underlying22 (z:=.slice none 0 0) rfl zH5 (HXR.out.trans hE) rfl (HOW.out.ext rdInts hE) rfl hB HI3.out (fun A n c e hn e2=>by simp only [Value.slice.injEq,Option.some.injEq] at e;obtain⟨e,-,-⟩:=e;have h1:=(HOW.out.lt _ e2).2;rw [←e] at h1;dsimp only at h1;omega) (by simp;omega) ?_;intro va vc w6 hown6 hx6;rw [List.length_map,List.length_range] at hown6;have HO6:=dH hown6;have HX6:=dH hx6;clear hown6 hx6
          rotate_left)
       all_goals (
        refine hK.out _ _ ?_ ?_
        ·trivial
        clear hK K hHeld;intro hHeld
        (try simp only [Act.put,pus])))
  ·have q1:¬ (q:Int)< (m.length:Int):=by omega
   obtain rfl:q=m.length:=by omega
   obtain⟨va,vc,e,hsl⟩:=HOW.out.sl;rw [List.length_map,List.length_range] at e;subst e;have HR:Hid (Rows z va vc (zDj m i k)):=dH hsl;have HF1:=dH (zHo _ cap m z (HH.out.ext HXR.out) HRB.out);have HHD:=dH (zFa (i:=i) (k:=k) (zAJ HRB.out.ask) m0);rw [HJ.out] at HF1 HHD;clear hsl HOW;go_wp2_with fail;refine HF1.out.mono ?_;intro e x5 hG;obtain⟨qa,qc,xa,xc,Vq,Vx,f,rfl,hqr,hxr,hfx,hy⟩:=hG;have HFT:=dH (hfx.fits HJ.out HRB.out.ok);have HFR:=dH (zM1 (i:=i) (k:=k) HRB.out hi (by rw [HJ.out];exact hk) HFT.out);rw [HJ.out] at HFR;obtain⟨q,hq⟩:∃q:Nat→Rat,q=fun i=>(zAi m).q f i:=⟨_,rfl⟩
   rw [←hq] at hqr;have e0:∀i,(zAi m).q f i=q i:=fun i=>by rw [hq]
   simp only [e0] at HFR;replace HR:=dH (HR.out.ext hy);replace HXR:=dH (HXR.out.trans hy);have HQ:=dH hqr;have HX5:=dH hxr;clear HF1 HFT hqr hxr hfx hq e0;go_upto_region 14 with fail;have hl:=Ext.alloc x5 (.cells #[.slice qa m.length qc,.slice xa J xc] 25);have K1:=dH (Blk.new0 x5 #[.slice qa m.length qc,.slice xa J xc] 25);replace HR:=dH (HR.out.ext hl);replace HXR:=dH (HXR.out.trans hl);replace HQ:=dH (HQ.out.ext hl);replace HX5:=dH (HX5.out.ext hl);clear hl hy;generalize x5.alloc (.cells #[.slice qa m.length qc,.slice xa J xc] 25)=x6 at *;generalize x5.heap.size=p1 at *;have HF2:=dH (zF9 va vc (zDj m i k) m.length J _ _ x6 zBu HHD.out HR.out HRM.out HFR.out);go_wp2_with fail;refine HF2.out.mono ?_;intro e x7 hG;obtain⟨qb,qd,xb,xd,Vp,Vy,rfl,h1,h2,hy⟩:=hG;have HP:=dH h1;have HY:=dH h2;replace HXR:=dH (HXR.out.trans hy);replace HQ:=dH (HQ.out.ext hy);replace HX5:=dH (HX5.out.ext hy);replace K1:=kE K1 hy;clear hy h1 h2 HF2 HR HFR HRM HHD;go_upto_region 15 with fail;have hl:=Ext.alloc x7 (.cells #[.slice qb m.length qd,.slice xb J xd] 25);have K2:=dH (Blk.new0 x7 #[.slice qb m.length qd,.slice xb J xd] 25);replace HP:=dH (HP.out.ext hl);replace HY:=dH (HY.out.ext hl);replace HXR:=dH (HXR.out.trans hl);replace HQ:=dH (HQ.out.ext hl);replace HX5:=dH (HX5.out.ext hl);replace K1:=kE K1 hl;clear hl;generalize x7.alloc (.cells #[.slice qb m.length qd,.slice xb J xd] 25)=x8 at *;generalize x7.heap.size=p2 at *;obtain⟨r0,a0,c0,hr0,hc0,hI0⟩:=Rows.get (HH.out.ext HXR.out) m0;simp only [Nat.add_zero] at hc0;have hl0:r0.length=J:=by
    rw [←HJ.out]
    cases m with
    | nil=>simp at m0
    | cons x t=>simp at hr0;rw [←hr0];rfl
   rw [hl0] at hc0;clear hr0 hI0 hl0
   go_cut [94] (fun v wx=>v=.bool false∧Ext x8 wx)
   case first=>
    have hE:Ext x8 (World.drew x8):=(Ext.refl _).drew;have s0:=zA0 hE hc0;obtain⟨s1,s2⟩:=bk2 (kE K1 hE);refine wp_region_held_drew (S:=(fun w'=>w'.cell? ⟨b,o,none⟩=some (.slice a0 J c0)∧w'.cell? ⟨p1,0,none⟩=some (.slice qa m.length qc)∧w'.cell? ⟨p1,1,none⟩=some (.slice xa J xc))) (by kernel_rfl) ?_ (fun hHeld=>?_)
    ·exact⟨s0,s1,s2⟩
    (try simp only [pur,Nat.reduceAdd])
    generalize World.drew x8=x9 at *
    iterate 24
     refine tkR [0,1,2,3,4,5,6,7,8,9,10,11,12,13,14,15,16,17,18,19,20,21,22,23] (v:=?_) rfl rfl (by kernel_rfl) (fun _ _ _ h=>h) (by rfl) ?_ (by assumption) ?_;rotate_left
     ·(intro w hSw;(try dsimp only at hSw);(try go_simp);(try with_reducible rfl))
     (try simp only [Act.put,pus])
    refine wpAnyH_done (by kernel_rfl) ?_ _;go_wp2_with fail;go_meet;exact⟨rfl,hE⟩
   case rest=>
   obtain⟨rfl,hy⟩:=hcut;replace HP:=dH (HP.out.ext hy);replace HY:=dH (HY.out.ext hy);replace HXR:=dH (HXR.out.trans hy);replace HQ:=dH (HQ.out.ext hy);replace HX5:=dH (HX5.out.ext hy);replace K1:=kE K1 hy;replace K2:=kE K2 hy;clear hy hc0;generalize hwc:wc=x9 at *;clear hwc;obtain⟨a1,c1,hs1,hI1⟩:=zIL (z:=(i:Int)) HQ.out rfl (Nat.le_of_lt hi);obtain⟨a2,c2,hs2,hI2⟩:=zMx (z:=(i:Int)) HQ.out rfl (Nat.le_of_lt hi);obtain⟨a3,c3,hs3,hI3⟩:=zIL (z:=(k:Int)) HX5.out rfl (Nat.le_of_lt hk);obtain⟨a4,c4,hs4,hI4⟩:=zMx (z:=(k:Int)) HX5.out rfl (Nat.le_of_lt hk);have RL1:=dH (zIK q hi);have RL2:=dH (zIK f hk);have RN1:=dH (zKM (fun c=>Vq (i+c)) Vq hi);have RN2:=dH (zKM (fun c=>Vx (k+c)) Vx hk);obtain⟨N1,hN1⟩:∃N1,N1=m.length - i:=⟨_,rfl⟩
   obtain⟨N3,hN3⟩:∃N3,N3=J - k:=⟨_,rfl⟩
   rw [←hN1] at hs1 hI1 RL1 RN1;rw [←hN3] at hs3 hI3 RL2 RN2;have hN16:N1≤6:=by omega
   have hN34:N3≤4:=by omega
   have H1:=dH hI1;have H2:=dH hI2;have H3:=dH hI3;have H4:=dH hI4;clear hI1 hI2 hI3 hI4 hN1 hN3 HQ HX5;go_upto_region 17 with fail
   go_cut [16] (fun v wx=>∃ (p3:Nat) (qe:Option Addr) (qf:Nat) (xe:Option Addr) (xf:Nat) (Ve Vf:Nat→RatC),v=.pointer (some ⟨p3,0,none⟩)∧Blk wx p3 #[.slice qe m.length qf,.slice xe J xf] 25∧RowR wx qe qf m.length Ve (fun a=>q ((a+i) % m.length))∧RowR wx xe xf J Vf (fun c=>f ((c+k) % J))∧Ext x9 wx)
   case first=>
    have HT:=dH (TwoR.start (Ext.refl x9).drew);obtain⟨s1,s2⟩:=bk2 (kE K1 HT.out.e);have hp1:=K1.out.lt;refine wp_region_held_drew (S:=(fun w'=>w'.cell? ⟨p1,0,none⟩=some (.slice qa m.length qc)∧w'.cell? ⟨p1,1,none⟩=some (.slice xa J xc))) (by kernel_rfl) ?_ (fun hHeld=>?_)
    ·exact⟨s1,s2⟩
    (try simp only [pur,Nat.reduceAdd])
    generalize World.drew x9=y at *
    iterate 16
     refine tkR [1,2,3,4,6,7,8,9,12,13,14,15,17,18,19,20] (v:=?_) rfl rfl (by kernel_rfl) (fun _ _ _ h=>h) (by rfl) ?_ (by assumption) ?_;rotate_left
     ·(intro w hSw;(try dsimp only at hSw);(try go_simp);(try with_reducible rfl))
     (try simp only [Act.put,pus])
    repeat' first
     | (refine tkR [22] (v:=?_) rfl rfl (by decide +kernel) (fun _ _ _ h=>h) (by rfl) ?_ (by assumption) ?_
        rotate_left
        ·(intro w hSw;(try dsimp only at hSw);(try go_simp);(try with_reducible rfl))
        (try simp only [Act.put,pus]))
     | (refine wpAnyH_done (by decide +kernel) ?_ _
        go_wp2_with fail;go_meet;obtain⟨q8,d8,V8,e8,h8⟩:=HT2.out.a.reads RN1.out RL1.out;obtain⟨q7,d7,V7,e7,h7⟩:=HT2.out.b.reads RN2.out RL2.out;simp only [Value.slice.injEq] at e8 e7;obtain⟨rfl,-,rfl⟩:=e8;obtain⟨rfl,-,rfl⟩:=e7
        exact⟨_,_,_,_,_,_,_,rfl,KB2.out,h8,h7,HT2.out.e⟩)
     | (refine rdR [0,5,10,11,16,21,23,24] (by decide +kernel) (zAt ?_ (zAt ?_ (zAt ?_ (zAt ?_ (zAt ?_ (zAt ?_ (zAt ?_ (zAt ?_ zFw))))))))
        first
        | exact noR (by decide +kernel)
        | (refine isR (o:=_) rfl (fun K hK=>?_)
           go_simp;have hy:=Ext.alloc y (.cells #[] 38);replace HT:=dH HT.out.newA;(try replace KB:=kE KB hy);clear hy s1 s2;obtain⟨s1,s2⟩:=bk2 (kE K1 HT.out.e);generalize Value.slice (some ⟨Array.size (World.heap y),0,none⟩) 0 0=vA at *;generalize World.alloc y (.cells #[] 38)=y at *
           rotate_left)
        first
        | exact noR (by decide +kernel)
        | (refine isR (o:=_) rfl (fun K hK=>?_)
           refine zFc (by rfl) (.tmp 95) (.tmp 99) (by rfl) HT.out (by rfl) (by rfl) H1.out (by simp;omega) ?_;intro vA y hT2 hg2;(try have KB:=dH (HT.out.boxA KB.out hg2));clear hg2;have HT:=dH hT2;clear hT2 s1 s2;obtain⟨s1,s2⟩:=bk2 (kE K1 HT.out.e)
           rotate_left)
        first
        | exact noR (by decide +kernel)
        | (refine isR (o:=_) rfl (fun K hK=>?_)
           refine zFc (by rfl) (.tmp 100) (.tmp 104) (by rfl) HT.out (by rfl) (by rfl) H2.out (by simp;omega) ?_;intro vA y hT2 hg2;(try have KB:=dH (HT.out.boxA KB.out hg2));clear hg2;have HT:=dH hT2;clear hT2 s1 s2;obtain⟨s1,s2⟩:=bk2 (kE K1 HT.out.e);obtain⟨a9A,c9A,e9,-,-⟩:=HT.out.a.form;rw [RN1.out] at e9;subst e9
           rotate_left)
        first
        | exact noR (by decide +kernel)
        | (refine isR (o:=_) rfl (fun K hK=>?_)
           go_simp;have hy:=Ext.alloc y (.cells #[] 38);replace HT:=dH HT.out.newB;(try replace KB:=kE KB hy);clear hy s1 s2;obtain⟨s1,s2⟩:=bk2 (kE K1 HT.out.e);generalize Value.slice (some ⟨Array.size (World.heap y),0,none⟩) 0 0=vB at *;generalize World.alloc y (.cells #[] 38)=y at *
           rotate_left)
        first
        | exact noR (by decide +kernel)
        | (refine isR (o:=_) rfl (fun K hK=>?_)
           refine zHu (by rfl) (.tmp 106) (.tmp 110) (by rfl) HT.out (by rfl) (by rfl) H3.out (by simp;omega) ?_;intro vB y hT2 hg2;(try have KB:=dH (HT.out.boxB KB.out hg2));clear hg2;have HT:=dH hT2;clear hT2 s1 s2;obtain⟨s1,s2⟩:=bk2 (kE K1 HT.out.e)
           rotate_left)
        first
        | exact noR (by decide +kernel)
        | (refine isR (o:=_) rfl (fun K hK=>?_)
           refine zHu (by rfl) (.tmp 111) (.tmp 115) (by rfl) HT.out (by rfl) (by rfl) H4.out (by simp;omega) ?_;intro vB y hT2 hg2;(try have KB:=dH (HT.out.boxB KB.out hg2));clear hg2;have HT:=dH hT2;clear hT2 s1 s2;obtain⟨s1,s2⟩:=bk2 (kE K1 HT.out.e);obtain⟨a9B,c9B,e9,-,-⟩:=HT.out.b.form;rw [RN2.out] at e9;subst e9
           rotate_left)
        first
        | exact noR (by decide +kernel)
        | (refine isR (o:=_) rfl (fun K hK=>?_)
           go_simp;have hy:=Ext.alloc y (.cells #[.slice none 0 0,.slice none 0 0] 25);have KB:=dH (Blk.new0 y #[.slice none 0 0,.slice none 0 0] 25);have hlb:x9.heap.size≤y.heap.size:=HT.out.e.size;replace HT:=dH (HT.out.ext hy);clear hy s1 s2;obtain⟨s1,s2⟩:=bk2 (kE K1 HT.out.e);generalize Array.size (World.heap y)=pb at *;generalize World.alloc y (.cells #[.slice none 0 0,.slice none 0 0] 25)=y at *
           rotate_left)
        first
        | exact noR (by decide +kernel)
        | (refine isR (o:=_) rfl (fun K hK=>?_)
           have g0:=KB.out.cell (i:=0) (v:=.slice none 0 0) rfl;have z0:=KB.out.free 0;have g1:=(KB.out.set 0 (.slice a9A m.length c9A)).cell (i:=1) (v:=.slice none 0 0) rfl;have z1:=(KB.out.set 0 (.slice a9A m.length c9A)).free 1;go_simp;clear g0 z0 g1 z1;have HT2:=dH ((HT.out.set (j:=0) KB.out hlb (.slice a9A m.length c9A)).set (j:=1) (KB.out.set 0 (.slice a9A m.length c9A)) hlb (.slice a9B J c9B));have KB2:=dH ((KB.out.set 0 (.slice a9A m.length c9A)).set 1 (.slice a9B J c9B));clear s1 s2;obtain⟨s1,s2⟩:=bk2 (kE K1 HT2.out.e)
           rotate_left)
        all_goals (
         refine hK.out _ _ ?_ ?_
         ·exact⟨s1,s2⟩
         clear hK K hHeld;intro hHeld
         (try simp only [Act.put,pus])))
   case rest=>
   obtain⟨p3,qe,qf,xe,xf,Ve,Vf,rfl,hK3,hq3,hx3,hy⟩:=hcut;have HE:=dH hq3;have HFx:=dH hx3;have K3:=dH hK3;replace K2:=kE K2 hy;replace HP:=dH (HP.out.ext hy);replace HY:=dH (HY.out.ext hy);replace HXR:=dH (HXR.out.trans hy);clear hy hK3 hq3 hx3;generalize hwc:wc=x10 at *;clear hwc;obtain⟨s1,s2⟩:=bk2 K2;obtain⟨s3,s4⟩:=bk2 K3;have HSM:=dH (zDV _ _ _ _ _ _ _ _ _ _ _ _ _ _ _ _ _ _ _ _ x10 HP.out HY.out HE.out HFx.out);rw [zEa] at HSM;go_wp2_with fail;refine HSM.out.mono ?_;rintro e x11 ⟨rfl,hy⟩;replace HXR:=dH (HXR.out.trans hy);clear hy HSM;go_wp2_with fail;go_ret;exact⟨rfl,HXR.out⟩
theorem zHv (a:Option Addr) (cap:Nat) (m:List (List Int)) (n1 n2:Int) (w:World) (h:Rows w a cap m) (h1:0≤n1∧n1≤255) (h2:0≤n2∧n2≤255):Calls Tryz.prog 6 #[.slice a m.length cap,.int .u8 n1,.int .u8 n2] w fun e w'=>e=.returned (.bool true)∧Ext w w':=by
 obtain⟨z0,rfl⟩:∃z:Nat,n1= (z:Int):=⟨n1.toNat,by omega⟩
 obtain⟨z1,rfl⟩:∃z:Nat,n2= (z:Int):=⟨n2.toNat,by omega⟩
 exact zI7 a cap m z0 z1 w h (by omega) (by omega)
end Go.Proofs.YtonkhcdmchidjaaGreat
