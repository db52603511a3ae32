import Derived.Test.YtonkhcdmchidjaaGreatPNews
import Derived.Test.YtonkhcdmchidjaaGreatPRefB
namespace Go.Proofs.YtonkhcdmchidjaaGreat
open Go.RowKit Go BigFrame Go.Shelf
set_option maxRecDepth 100000
set_option linter.all false
def zOb (l m:List Int) (w:World) (e:Ending) (w':World):Prop:=
 ∃aq cq ar cr,e=.returned (.tuple #[.slice aq (digs (zA1 l / zA1 m).toNat).length cq,.slice ar (digs (zA1 l % zA1 m).toNat).length cr])∧
  Ints w' aq cq (digs (zA1 l / zA1 m).toNat)∧Ints w' ar cr (digs (zA1 l % zA1 m).toNat)∧(∀A,aq=some A→w.heap.size≤A.block)∧(∀A,ar=some A→w.heap.size≤A.block)∧Ext w w'
theorem DivAt.begin {l m:List Int} {st la:Nat} (hl:Digs l) (hm:Norm m) (hla:l.length=la) (hmp:0<m.length) (hst:st=la+1 - m.length):DivAt l (zA1 m) st (List.replicate la 0) (zA1 (zAi (l.drop st))):=by
 have hne:m≠[]:=fun e=>by rw [e] at hmp;simp at hmp
 refine⟨by simp [hla],fun x hx=>by have:=List.eq_of_mem_replicate hx;omega,zA3 (zGW (hl.drop st)),?_,?_⟩
 ·rw [zED];have h1:=zAA (hl.drop st);have h2:=zDj hm hne;rw [List.length_drop,hla] at h1;have h3:=zCl (show la - st≤m.length - 1 by omega);omega
 ·rw [zED];have:zA1 (List.drop st (List.replicate la 0))=0:=by
   rw [List.drop_replicate]
   have:∀n,zA1 (List.replicate n 0)=0:=fun n=>by induction n with
    | zero=>rfl
    | succ n ih=>rw [List.replicate_succ,zA1,ih];rfl
   exact this _
  rw [this,Int.zero_mul,Int.zero_add]
theorem zLz {Q:List Int} {i:Nat} (h:Q.getD i 0=0):Q.set i 0=Q:=by
 by_cases hi:i<Q.length
 ·have:Q[i]=0:=by simpa [List.getD,hi] using h
  rw [←this];exact List.set_getElem_self hi
 ·exact List.set_eq_of_length_le (by omega)
theorem zH6 {Q:List Int} {i j:Nat} (h:i≠j) (x:Int):(Q.set i x).getD j 0=Q.getD j 0:=by
 simp [List.getD,List.getElem?_set,h]
structure RefR (l m:List Int) (i:Nat) (Q R:List Int):Prop where
 d:DivAt l (zA1 m) (i+1) Q (zA1 R)
 z:∀j,j<i+1→Q.getD j 0=0
theorem RefR.skip {l m:List Int} {i:Nat} {Q R R1:List Int} (h:RefR l m i Q R) (hl:Digs l) (hi:i<l.length) (h1:zA1 R1=l.getD i 0+1073741824*zA1 R) (h0:0≤zA1 R1) (hlt:zA1 R1<zA1 m):
 DivAt l (zA1 m) i Q (zA1 R1)∧∀j,j<i→Q.getD j 0=0:=by
 have:=h.d.step hl hi;rw [show zA1 R*1073741824+l.getD i 0=zA1 R1 by omega,Int.ediv_eq_zero_of_lt h0 hlt,Int.emod_eq_of_lt h0 hlt,zLz (h.z i (by omega))] at this;exact⟨this,fun j hj=>h.z j (by omega)⟩
theorem RefR.take {l m:List Int} {i:Nat} {Q R R1 R2:List Int} (h:RefR l m i Q R) (hl:Digs l) (hi:i<l.length) (h1:zA1 R1=l.getD i 0+1073741824*zA1 R) (h2:zA1 R2=zA1 R1 % zA1 m):
 DivAt l (zA1 m) i (Q.set i (zA1 R1 / zA1 m)) (zA1 R2)∧∀j,j<i→(Q.set i (zA1 R1 / zA1 m)).getD j 0=0:=by
 have:=h.d.step hl hi;rw [show zA1 R*1073741824+l.getD i 0=zA1 R1 by omega,←h2] at this;exact⟨this,fun j hj=>by rw [zH6 (by omega)];exact h.z j (by omega)⟩
theorem zNd {w:World} {g:Nat} {L:List Int} (h:IB w g L):g<w.heap.size:=Blk.lt h
set_option maxHeartbeats 8000000 in
theorem zCX (a b:Option Addr) (ca cb la lb st:Nat) (l m:List Int) (w:World) (h:Ints w a ca l) (k:Ints w b cb m) (hl:Digs l) (hm:Norm m) (hmp:0<lb) (hmk:m.length=lb) (hla:l.length=la) (hst:st=la+1 - lb) (h1:la≤90000) (h2:lb≤90000):
 Calls Tryz.prog 143 #[.slice a la ca,.slice b lb cb] w (zOb l m w):=by
 obtain⟨i0,hi0,hz0,hz1,hz2⟩:=info_parts zEW;have hle1:=h.le;have hmx1:=h.mx;have hle2:=k.le;have hmx2:=k.mx;rw [hla] at hle1;rw [hmk] at hle2;have hst0:(if 0< (la:Int) - (lb:Int)+1 then(la:Int) - (lb:Int)+1 else 0)= (st:Int):=by split <;> omega
 have hst1:st≤la:=by omega
 have hst2:(0:Int)≤(st:Int):=by omega
 have hst3:(st:Int)≤(la:Int):=by omega
 have HI:=dH h;have HK:=dH k;have HLL:=dH (And.intro hla hmk);have HST:=dH hst;have HD:=dH hl;have HM:=dH hm;have hu22:Tryz.prog.underlying 34=some (.slice (Tryz.prog.elem 34)):=by kernel_rfl
 have HU22:=dH hu22;have HS0:=dH hst0;have HS2:=dH hst2;have HS3:=dH hst3;have hdr:=h.sliced (k:=st) (by omega);have hdl:(l.drop st).length=la - st:=by rw [List.length_drop,hla]
 have hsl:∀W:World,(Instr.slice 34 (.slice a la ca) (some (.int .i64 (st:Int))) none none).run Tryz.prog W=.ok (.slice (if ca=st then a else a.map (·.add (st*1))) (la - st) (ca - st)) W:=fun W=>by
  rw [run_slice_l (ht:=hu22) (h0:=hst2) (h1:=hst3)];simp [go_sem]
 obtain⟨ad,had⟩:∃ad,(if ca=st then a else a.map (·.add (st*1)))=ad:=⟨_,rfl⟩
 rw [had] at hdr hsl;have HDR:=dH hdr;have HDL:=dH hdl;have HS1:=dH hst1;clear h k hl hm hmk hla hst hu22 hst0 hst2 hst3 hst1 hdr hdl had;go_enter Tryz.func143,Tryz.ntmps143
 go_upto_region 3 with(at_make;refine wpList_make_full _ rfl _ _ 34 rfl w.heap.size 3 i0 (.int .i64 0) 1 Tryz.underlying34 hi0 hz0 hz1 _ _ _ _ la rfl rfl rfl rfl (by rw [hz2];omega) (by unfold maxLen;omega) (Nat.le_refl _) ?_;intro w2 hown hgrow)
 rw [HS0.out];have hown:w2.ownsRow w.heap.size 3 1 (.slice (some ⟨w.heap.size,0,none⟩) la la) la ((List.replicate la (0:Int)).map (Value.int .i64)):=by simpa [Value.cells,toList_madeCells_one] using hown
 have hB0:IB w2 w.heap.size (List.replicate la 0):=IB.of_owns hown;have hx0:Ext w w2:=zCT (Ext.refl w) hgrow;have hDR1:=HDR.out.ext (hx0.alloc' (.cells #[] 3));have hs2:=hB0.lt;have HB0:=dH hB0;have HX0:=dH hx0;clear hown hgrow hB0
 go_wp2_with (at_builtin;refine zDa rfl (.tmp 23) (.tmp 26) 34 rfl Tryz.underlying34 (Ext.alloc w2 _) _ [] rfl (OwnI.new w2) _ _ _ _ rfl HDL.out hDR1 (by rw [HDL.out];simp only [List.length_nil];omega) ?_;intro v3 w3 hO3 hy3)
 rw [List.nil_append] at hO3;have hdd:=HD.out.drop st;obtain⟨g3,c3,rfl,hi3,hb3⟩:=hO3.look hdd.bd;have hT3:=zCV _ _ _ _ hi3;have hO4:=hO3.takeO (zB6 (l.drop st));rw [←zAr] at hO4;have hbeg:=DivAt.begin HD.out HM.out HLL.out.1 (by rw [HLL.out.2];exact hmp) (st:=st) (by rw [HLL.out.2];exact HST.out);have hn4:=zES _ hdd;obtain⟨R0,hR0⟩:∃R0,zAi (l.drop st)=R0:=⟨_,rfl⟩
 rw [HDL.out] at hT3;rw [hR0] at hT3 hO4 hbeg hn4;have HT3:=dH hT3;have HO4:=dH (hO4.base (B':=w.heap.size+1) hs2);have HBE:=dH hbeg;have HN4:=dH hn4;have HX3:=dH (HX0.out.trans hy3);have HB3:Hid (IB w3 w.heap.size (List.replicate la 0)):=dH (Blk.ext HB0.out hy3);clear hO3 hT3 hO4 hbeg hn4 hR0 hi3 hdd hy3 hDR1;simp only [HDL.out];go_wp2_with fail;refine HT3.out.mono ?_;rintro e w4 ⟨rfl,rfl⟩;have hst1:=HS1.out;have hs3:=zNd HB3.out;have HU0:Hid (DivAt l (zA1 m) st (List.replicate la 0) (zA1 R0)∧∀j,j<st→(List.replicate la (0:Int)).getD j 0=0):=dH ⟨HBE.out,fun j hj=>by simp [List.getD,List.getElem?_replicate];split <;> rfl⟩;clear hs2 hs3 HB0 HX0 HDR HDL hb3;go_wp2_with fail
 go_loopw [8,9] (fun vr i wx=>∃ (k:Nat) (Q R:List Int),k≤st∧i=.int .i64 ((k:Int) - 1)∧OwnI wx (w.heap.size+1) vr R∧Norm R∧(DivAt l (zA1 m) k Q (zA1 R)∧∀j,j<k→Q.getD j 0=0)∧IB wx w.heap.size Q∧Ext w wx) (fun _ i _=>(intOf i+1).toNat)
 case atStart=>exact⟨st,_,R0,Nat.le_refl _,rfl,HO4.out,HN4.out,HU0.out,HB3.out,HX3.out⟩
 case round=>
  clear HO4 HN4 HU0 HB3 HX3 HBE HT3;obtain⟨k,Q,R,hk,rfl,hOr,hNr,hQr,hBr,hxr⟩:=hrel;obtain⟨gr,cr,rfl,hir,hbr⟩:=hOr.look hNr.digs.bd;by_cases hk0:k=0
  ·subst hk0;obtain⟨hQ,hR⟩:=hQr.1.done;have hql:Q.length=la:=by rw [hQr.1.1,HLL.out.1]
   have hIQ:=IB.ints hBr hQr.1.2.1.bd (by rw [hql];omega);have hTQ:=zCV _ _ _ _ hIQ;have hIT:=hIQ.take (zAi Q).length;rw [←zAr,hQ,hql] at hIT;rw [hQ,hql] at hTQ;have hRL:R=digs (zA1 l % zA1 m).toNat:=by rw [←hR];exact(zCA hNr).symm
   have HF:Hid (zOb l m w (.returned (.tuple #[.slice (some ⟨w.heap.size,0,none⟩) (digs (zA1 l / zA1 m).toNat).length la,.slice (some ⟨gr,0,none⟩) R.length cr])) wr):=dH
    ⟨_,_,_,_,by rw [←hRL],hIT,by rw [←hRL];exact hir,fun A hA=>by cases hA;exact Nat.le_refl _,fun A hA=>by cases hA;dsimp only;omega,hxr⟩
   have HTQ:=dH hTQ;clear hQ hR hql hIQ hTQ hIT hRL hOr hNr hQr hBr hir hxr;go_wp2_with fail;refine HTQ.out.mono ?_;rintro e w5 ⟨rfl,rfl⟩;go_wp2_with fail
   go_ret2
   exact HF.out
  ·obtain⟨i,rfl⟩:∃i,k=i+1:=⟨k - 1,by omega⟩
   have e1:((i+1:Nat):Int) - 1= (i:Int):=by omega
   rw [e1];have hil:i<l.length:=by have:=HLL.out.1;omega
   obtain⟨ba,oa,rfl⟩:=(HI.out).head hil;obtain⟨x,hx,hc,_⟩:=Ints.get (HI.out.ext hxr) hil;have hxd:=HD.out.getD i;rw [zB2 hx] at hxd;have HRR:=dH (show RefR l m i Q R from⟨hQr.1,hQr.2⟩);have HX:=dH (And.intro (zB2 hx) hil);have HB:Hid (IB wr w.heap.size Q):=dH hBr;have HXR:=dH hxr;have HIR:=dH (hir.ext (Ext.alloc wr (.cells #[.int .i64 x] 3)));have hrl:R.length≤lb:=by
    have a1:=hQr.1.2.2.2.1;have a2:=zEE HM.out.digs hNr (by omega);rw [HLL.out.2] at a2;exact a2
   have HNR:=dH hNr;have g1:(0:Int)≤(i:Int):=by omega
   have g2:(i:Int)< (la:Int):=by have:=HLL.out.1;omega
   clear hx hOr hNr hQr hBr hxr hir hil e1
   go_wp2_with (at_builtin;refine zDa rfl (.tmp 39) (.tmp 40) 34 rfl Tryz.underlying34 (Ext.alloc wr _) _ [x] rfl (OwnI.one wr x) _ _ _ _ rfl rfl HIR.out (by simp only [List.length_singleton];omega) ?_;intro v4 w4 hO4 hy4)
   have hd4:Digs ([x] ++ R):=(show Digs [x] from fun y hy=>by obtain rfl:=List.mem_singleton.1 hy;exact hxd).append HNR.out.digs;obtain⟨g4,c4,rfl,hi4,hb4⟩:=hO4.look hd4.bd;have hT4:=zCV _ _ _ _ hi4;have hO5:=hO4.takeO (zB6 ([x] ++ R));rw [←zAr] at hO5;have hn5:=zES _ hd4;have hv5:zA1 (zAi ([x] ++ R))=l.getD i 0+1073741824*zA1 R:=by rw [zED,HX.out.1];rfl
   have hl5:=zB6 ([x] ++ R);have hll5:([x] ++ R).length=R.length+1:=by simp [Nat.add_comm]
   rw [hll5] at hT4 hl5;obtain⟨R1,hR1⟩:∃R1,zAi ([x] ++ R)=R1:=⟨_,rfl⟩
   rw [hR1] at hT4 hO5 hn5 hv5 hl5;simp only [hll5];have hsr:=zNd HB.out;have hb5:w.heap.size+1≤wr.heap.size:=hsr;have hO5:=hO5.base hb5;obtain⟨_,_,e5,hi5,_⟩:=hO5.look hn5.digs.bd;cases e5
   have hC5:=zK5 _ b _ cb R1 m w4 hi5 (HK.out.ext (HXR.out.trans hy4)) hn5 HM.out;rw [HLL.out.2] at hC5;have HT4:=dH hT4;have HC5:=dH hC5;have HO5:=dH hO5;have HN5:=dH hn5;have HV5:=dH hv5;have HX5:=dH (HXR.out.trans hy4);have HB5:Hid (IB w4 w.heap.size Q):=dH (Blk.ext HB.out hy4);clear hO4 hd4 hi4 hT4 hll5 hR1 hO5 hn5 hv5 hC5 hi5 hy4 hc HIR;go_wp2_with fail;refine HT4.out.mono ?_;rintro e w5 ⟨rfl,rfl⟩;go_wp2_with fail;refine HC5.out.mono ?_;rintro e w5 ⟨rfl,hy5⟩;by_cases hlt:zA1 R1<zA1 m
   ·have hcm:zBh (zA1 R1) (zA1 m)= -1:=zCm hlt;have h0:=zA3 HN5.out.digs;have HF:=dH (HRR.out.skip HD.out HX.out.2 HV5.out h0 hlt);clear hlt h0;go_wp2_with fail;go_roundw
    case rel=>exact⟨i,Q,R1,by omega,rfl,HO5.out.ext hy5,HN5.out,HF.out,Blk.ext HB5.out hy5,HX5.out.trans hy5⟩
    case measure=>simp [intOf]
   ·have hcm:decide (zBh (zA1 R1) (zA1 m)<0)=false:=by rw [decide_eq_false_iff_not];unfold zBh;split <;> (try split) <;> omega
    obtain⟨cm,hcm2⟩:∃cm,zBh (zA1 R1) (zA1 m)=cm:=⟨_,rfl⟩
    rw [hcm2] at hcm ⊢;clear hcm2;go_wp2_with fail;have hi5:=(HO5.out.look HN5.out.digs.bd)
    obtain⟨_,_,e5,hi5,_⟩:=hi5;cases e5
    have hm0:0<zA1 m:=zAM HM.out (fun e=>by have:=HLL.out.2;rw [e] at this;simp at this;omega);have h0:=zA3 HN5.out.digs;have hrr:zA1 R<zA1 m:=HRR.out.d.2.2.2.1;have hr0:=zA3 HNR.out.digs;have hR1:zA1 R1<1073741824*zA1 m:=by
     rw [HV5.out];have:=HX.out.1;omega
    obtain⟨t,ht⟩:∃t,zA1 R1 / zA1 m=t:=⟨_,rfl⟩
    have ht0:0≤t:=by rw [←ht];exact Int.ediv_nonneg h0 (by omega)
    have ht1:t≤1073741823:=by
     have:zA1 R1 / zA1 m<1073741824:=Int.ediv_lt_of_lt_mul hm0 hR1;omega
    have HT:=dH (show ∀M:Int,M≤t↔M*zA1 m≤zA1 R1 from fun M=>by rw [←ht];exact Int.le_ediv_iff_mul_le hm0);have HTT:=dH ht;have HI5:=dH hi5;have HY5:=dH hy5;have HM0:=dH hm0;clear hi5 hm0 h0 hrr hr0 hR1 ht hlt hy5
    go_loopw [10,11] (fun lo hi wx=>∃p q:Int,lo=.int .i64 p∧hi=.int .i64 q∧0≤p∧p≤t∧t≤q∧q≤1073741823∧Ext w4 wx) (fun lo hi _=>(intOf hi - intOf lo).toNat)
    case atStart=>exact⟨0,1073741823,rfl,rfl,by omega,ht0,ht1,by omega,HY5.out⟩
    case round=>
     obtain⟨p,q,rfl,rfl,hp0,hpt,htq,hq1,hxx⟩:=hrel;by_cases hpq:p<q
     ·obtain⟨M,hM⟩:∃M,(p+q+1) / 2=M:=⟨_,rfl⟩
      have hM1:p<M:=by omega
      have hM2:M≤q:=by omega
      have hdM:Digs [M]:=fun y hy=>by obtain rfl:=List.mem_singleton.1 hy;omega
      have hIM:Ints (wr.alloc (.cells #[.int .i64 M] 3)) (some ⟨wr.heap.size,0,none⟩) 1 [M]:=IB.ints (g:=wr.heap.size) (L:=[M]) (Blk.new0 wr #[.int .i64 M] 3) hdM.bd (by simp);have hkm:=(HK.out.ext HX5.out).ext (hxx.alloc' (.cells #[.int .i64 M] 3));have hTM:=zH4 _ b 1 cb [M] m _ hIM hkm hdM HM.out.digs (by rw [HLL.out.2];simp only [List.length_singleton];omega);have hvM:zA1 [M]=M:=by simp [zA1]
      rw [hvM,HLL.out.2] at hTM;have HTM:=dH hTM;have HXX:=dH (hxx.alloc' (.cells #[.int .i64 M] 3));have hdm:0≤M*zA1 m:=Int.mul_nonneg (by omega) (by have:=HM0.out;omega);have HDM:=dH hdm;clear hdM hIM hkm hTM hvM hxx hdm;go_wp2_with fail;rw [hM];refine HTM.out.mono ?_;rintro e w6 ⟨v6,rfl,hO6,hy6⟩;obtain⟨g6,c6,rfl,hi6,_⟩:=hO6.look (zA2 _).digs.bd;have hxx6:=HXX.out.trans hy6;have hC6:=zK5 _ _ _ _ _ R1 w6 hi6 (HI5.out.ext hxx6) (zA2 _) HN5.out;have hv6:zA1 (digs (M*zA1 m).toNat)=M*zA1 m:=by rw [zAs,Int.toNat_of_nonneg HDM.out]
      rw [hv6] at hC6;have HC6:=dH hC6;clear hO6 hi6 hC6 hy6 hv6;go_wp2_with fail;refine HC6.out.mono ?_;rintro e w7 ⟨rfl,hy7⟩;have hxx7:=hxx6.trans hy7;by_cases hMt:M≤t
      ·have hcc:decide (zBh (M*zA1 m) (zA1 R1)≤0)=true:=by
        have:=(HT.out M).1 hMt;rw [decide_eq_true_eq];unfold zBh;split <;> (try split) <;> omega
       obtain⟨cc,hcc2⟩:∃cc,zBh (M*zA1 m) (zA1 R1)=cc:=⟨_,rfl⟩
       rw [hcc2] at hcc ⊢;clear hcc2;go_wp2_with fail;go_roundw
       case rel=>exact⟨M,q,rfl,rfl,by omega,hMt,htq,hq1,hxx7⟩
       case measure=>simp [intOf];omega
      ·have hcc:decide (zBh (M*zA1 m) (zA1 R1)≤0)=false:=by
        have:zA1 R1<M*zA1 m:=by
         rcases Int.lt_or_le (zA1 R1) (M*zA1 m) with h | h
         ·exact h
         ·exact absurd ((HT.out M).2 h) hMt
        rw [decide_eq_false_iff_not];unfold zBh;split <;> (try split) <;> omega
       obtain⟨cc,hcc2⟩:∃cc,zBh (M*zA1 m) (zA1 R1)=cc:=⟨_,rfl⟩
       rw [hcc2] at hcc ⊢;clear hcc2;go_wp2_with fail;go_roundw
       case rel=>exact⟨p,M - 1,rfl,rfl,hp0,hpt,by omega,by omega,hxx7⟩
       case measure=>simp [intOf];omega
     ·have hp:p=t:=by omega
      have hq:q=t:=by omega
      subst hp;subst hq;have hBq:IB wr w.heap.size Q:=Blk.ext HB5.out hxx;have hql:Q.length=la:=by rw [HRR.out.d.1,HLL.out.1]
      have hcq:=hBq.at (i:=i) (by rw [hql];omega)
      have hfq:=Blk.free hBq i;have hBs:=IB.put hBq i q;have hxs:=(HX5.out.trans hxx).set (p:=⟨w.heap.size,i,none⟩) (Nat.le_refl _) (.int .i64 q);have hIs:=(HI5.out.ext hxx).put (p:=⟨w.heap.size,i,none⟩) (by dsimp only;omega) (.int .i64 q);have HBs:Hid (IB (wr.setCell ⟨w.heap.size,i,none⟩ (.int .i64 q)) w.heap.size (Q.set i q)):=dH hBs;have HXs:=dH hxs;have HIs:=dH hIs;clear hBq hql hBs hxs hIs hxx;go_upto_region 17 with fail;generalize wr.setCell ⟨w.heap.size,i,none⟩ (.int .i64 q)=ws at *;have hdM:Digs [q]:=fun y hy=>by obtain rfl:=List.mem_singleton.1 hy;omega
      have hIM:Ints (ws.alloc (.cells #[.int .i64 q] 3)) (some ⟨ws.heap.size,0,none⟩) 1 [q]:=IB.ints (g:=ws.heap.size) (L:=[q]) (Blk.new0 ws #[.int .i64 q] 3) hdM.bd (by simp);have hTM:=zH4 _ b 1 cb [q] m _ hIM ((HK.out.ext HXs.out).ext (Ext.alloc _ _)) hdM HM.out.digs (by rw [HLL.out.2];simp only [List.length_singleton];omega);have hvM:zA1 [q]=q:=by simp [zA1]
      rw [hvM,HLL.out.2] at hTM;have HTM:=dH hTM;have hdm:0≤q*zA1 m:=Int.mul_nonneg (by omega) (by have:=HM0.out;omega);have hle:=(HT.out q).1 (Int.le_refl _);have HDM:=dH (And.intro hdm hle);clear hdM hIM hTM hvM hdm hle hcq hfq;go_wp2_with fail;refine HTM.out.mono ?_;rintro e w6 ⟨v6,rfl,hO6,hy6⟩;obtain⟨g6,c6,rfl,hi6,_⟩:=hO6.look (zA2 _).digs.bd;have hxx6:=(Ext.alloc ws (.cells #[.int .i64 q] 3)).trans hy6;have hv6:zA1 (digs (q*zA1 m).toNat)=q*zA1 m:=by rw [zAs,Int.toNat_of_nonneg HDM.out.1]
      have hL6:=zID _ _ _ _ R1 _ w6 (HIs.out.ext hxx6) hi6 HN5.out.digs (zA2 _) (by omega) (by rw [hv6];exact HDM.out.2);rw [hv6] at hL6;have HL6:=dH hL6;have HXX6:=dH hxx6;clear hO6 hi6 hL6 hy6 hv6 hxx6;go_wp2_with fail;refine HL6.out.mono ?_;rintro e w7 ⟨v7,rfl,hO7,hy7⟩;have hxx7:=HXX6.out.trans hy7;have hv7:zA1 (digs (zA1 R1 - q*zA1 m).toNat)=zA1 R1 % zA1 m:=by
       have a1:=HDM.out.2;have a2:=Int.mul_ediv_add_emod (zA1 R1) (zA1 m);rw [HTT.out,Int.mul_comm] at a2;rw [zAs];have a3:=Int.emod_nonneg (zA1 R1) (show zA1 m≠0 by have:=HM0.out;omega);omega
      have hF:=HRR.out.take HD.out HX.out.2 HV5.out hv7;rw [HTT.out] at hF;have HF:=dH hF;have HO7:=dH (hO7.base (B':=w.heap.size+1) (by have:=zNd (show IB w6 w.heap.size _ from Blk.ext HBs.out HXX6.out);omega));have HXX7:=dH hxx7;clear hO7 hy7 hxx7 hv7 hF;go_wp2_with fail;go_roundw
      case rel=>exact⟨i,_,_,by omega,rfl,HO7.out,zA2 _,HF.out,Blk.ext HBs.out HXX7.out,HXs.out.trans HXX7.out⟩
      case measure=>simp [intOf]
end Go.Proofs.YtonkhcdmchidjaaGreat
