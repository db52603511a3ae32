import Derived.Test.YtonkhcdmchidjaaGreatPDiv
set_option maxHeartbeats 4000000
namespace Go.Proofs.YtonkhcdmchidjaaGreat
open Go.RowKit Go BigFrame Go.Shelf
set_option maxRecDepth 100000
set_option linter.all false
theorem zCV (a:Option Addr) (cap:Nat) (l:List Int) (w:World) (h:Ints w a cap l):
 Calls Tryz.prog 193 #[.slice a l.length cap] w fun e w'=>e=.returned (.slice a (zAi l).length cap)∧w=w':=by
 have hle:=h.le;have hmx:=h.mx;go_enter Tryz.func193,Tryz.ntmps193;go_wp2_with fail
 go_loop [3] (fun n=>∃k:Nat,k≤l.length∧n=.int .i64 k∧zAi (l.take k)=zAi l) (fun n=>(intOf n).toNat)
 case atStart=>exact⟨l.length,Nat.le_refl _,rfl,by rw [List.take_length]⟩
 case round=>
  obtain⟨k,hk,rfl,ht⟩:=hrel;by_cases hk0:0<k
  ·obtain⟨j,rfl⟩:∃j,k=j+1:=⟨k - 1,by omega⟩
   obtain⟨b,o,rfl⟩:=h.head (i:=j) (by omega);obtain⟨x,hx,hc,_⟩:=Ints.get h (i:=j) (by omega);have hT:=zAR hx;have d1:decide (0< ((j+1:Nat):Int))=true:=by simp only [decide_eq_true_eq];omega
   have d1':decide (0<j+1)=true:=by simp
   have d2:((j+1:Nat):Int) - 1= (j:Int):=by omega
   have g1:(0:Int)≤(j:Int):=by omega
   have g2:(j:Int)< (l.length:Int):=by omega
   by_cases h0:x=0
   ·subst h0;have HT:=dH (show zAi (l.take j)=zAi l by rw [←ht,hT,zCa]);clear ht hT hx;go_wp2_with fail
    go_round
    case rel=>exact⟨j,by omega,by go_num,HT.out⟩
    case measure=>simp [intOf]
   ·have d3:(x == 0)=false:=by simpa using h0
    have HT:=dH (show(zAi l).length=j+1 by rw [←ht,hT,zCx _ h0,List.length_append,List.length_take];simp only [List.length_singleton];omega);clear ht hT hx h0;go_wp2_with fail;go_ret;exact⟨by rw [HT.out];rfl,rfl⟩
  ·obtain rfl:k=0:=by omega
   have HT:=dH (show(zAi l).length=0 by rw [←ht];rfl);clear ht;go_wp2_with fail;go_ret;exact⟨by rw [HT.out];rfl,rfl⟩
theorem zF0 (a:Option Addr) (cap:Nat) (l:List Int) (i:Nat) (w:World) (h:Ints w a cap l):
 Calls Tryz.prog 194 #[.slice a l.length cap,.int .i64 i] w fun e w'=>e=.returned (.int .i64 (l.getD i 0))∧w=w':=by
 have hle:=h.le;have hmx:=h.mx;by_cases hi:i<l.length
 ·have d1:decide ((i:Int)< (l.length:Int))=true:=by simp only [decide_eq_true_eq];omega
  obtain⟨b,o,rfl⟩:=h.head hi;obtain⟨x,hx,hc,_⟩:=Ints.get h hi;have HX:=dH (zB2 hx);have g1:(0:Int)≤(i:Int):=by omega
  have g2:(i:Int)< (l.length:Int):=by omega
  clear hx;go_enter Tryz.func194,Tryz.ntmps194;go_wp2_with fail;go_ret;exact⟨by rw [HX.out];rfl,rfl⟩
 ·have d1:decide ((i:Int)< (l.length:Int))=false:=by simp only [decide_eq_false_iff_not];omega
  have HX:=dH (zEF (l:=l) (i:=i) (by omega));go_enter Tryz.func194,Tryz.ntmps194;go_wp2_with fail;go_ret;exact⟨by rw [HX.out];rfl,rfl⟩
theorem zCW {w w':World} (h:Ext w w') {b o:Nat} {v:Value} (e:w.cell? ⟨b,o,none⟩=some v):w'.cell? ⟨b,o,none⟩=some v:=(h.cell (p:=⟨b,o,none⟩) (zAa e)).trans e
theorem zHV (a b:Option Addr) (ca cb:Nat) (l m:List Int) (w:World) (hl:Norm l) (hm:Norm m) (hne:l.length≠m.length):
 Calls Tryz.prog 139 #[.slice a l.length ca,.slice b m.length cb] w fun e w'=>e=.returned (.int .i64 (zBh (zA1 l) (zA1 m)))∧Ext w w':=by
 have d1:((l.length:Int) != (m.length:Int))=true:=by simp only [bne_iff_ne,ne_eq];omega
 by_cases hlt:l.length<m.length
 ·have d2:decide ((l.length:Int)< (m.length:Int))=true:=by simp only [decide_eq_true_eq];omega
  have HV:=dH (zCm (zBX hl.digs hm hlt));clear hl hm hne;go_enter Tryz.func139,Tryz.ntmps139;go_wp2_with fail;go_ret;exact⟨by rw [HV.out];rfl,Ext.refl _⟩
 ·have d2:decide ((l.length:Int)< (m.length:Int))=false:=by simp only [decide_eq_false_iff_not];omega
  have HV:=dH (zET (zBX hm.digs hl (by omega)));clear hl hm hne;go_enter Tryz.func139,Tryz.ntmps139;go_wp2_with fail;go_ret;exact⟨by rw [HV.out];rfl,Ext.refl _⟩
theorem zJf (n:Nat) (a b:Option Addr) (ca cb:Nat) (l m:List Int) (w:World) (h:Ints w a ca l) (k:Ints w b cb m) (hl:Norm l) (hm:Norm m) (h1:l.length=n) (h2:m.length=n):
 Calls Tryz.prog 139 #[.slice a n ca,.slice b n cb] w fun e w'=>e=.returned (.int .i64 (zBh (zA1 l) (zA1 m)))∧Ext w w':=by
 have hle1:=h.le;have hmx1:=h.mx;rw [h1] at hle1;have HL:=dH h1;have HM:=dH h2;have HI:=dH h;have HI2:=dH k;have HN1:=dH hl;have HN2:=dH hm;clear h1 h2 h k hl hm;go_enter Tryz.func139,Tryz.ntmps139;go_wp2_with fail
 go_loopw [5] (fun i wr=>∃k:Nat,k≤n∧i=.int .i64 ((k:Int) - 1)∧l.drop k=m.drop k∧Ext w wr) (fun i _=>(intOf i+1).toNat)
 case atStart=>exact⟨n,Nat.le_refl _,rfl,by rw [List.drop_eq_nil_of_le (by rw [HL.out];exact Nat.le_refl _),List.drop_eq_nil_of_le (by rw [HM.out];exact Nat.le_refl _)],Ext.refl _⟩
 case round=>
  obtain⟨k,hk,rfl,hd,hxr⟩:=hrel;by_cases hk0:0<k
  ·obtain⟨i,rfl⟩:∃i,k=i+1:=⟨k - 1,by omega⟩
   have ei:((i+1:Nat):Int) - 1= (i:Int):=by omega
   rw [ei];have hin:i<n:=by omega
   obtain⟨b1,o1,rfl,ha⟩:=HI.out.atN HL.out hin;obtain⟨b2,o2,rfl,hb⟩:=HI2.out.atN HM.out hin;have ha:=ha i hin;have hb:=hb i hin;obtain⟨x,hx⟩:∃x,l.getD i 0=x:=⟨_,rfl⟩
   obtain⟨y,hy⟩:∃y,m.getD i 0=y:=⟨_,rfl⟩
   rw [hx] at ha;rw [hy] at hb;have L1:=zAq ((hxr.cell (p:=⟨b1,o1+i,none⟩) (zAa ha)).trans ha);have L2:=zAq ((hxr.cell (p:=⟨b2,o2+i,none⟩) (zAa hb)).trans hb);have HX:=dH hx;have HY:=dH hy;have HD:=dH hd;have g1:(0:Int)≤(i:Int):=by omega
   have g2:(i:Int)< (n:Int):=by omega
   clear ha hb hx hy hd ei hk0;rcases Int.lt_trichotomy x y with hxy | hxy | hxy
   ·have t1:decide (x<y)=true:=by simpa using hxy
    have HV:=dH (zCm (zBW HN1.out.digs HN2.out.digs (by rw [HL.out,HM.out]) (by rw [HL.out];exact hin) HD.out (by rw [HX.out,HY.out];exact hxy)));go_upto_region 8 with fail;refine zAm (by kernel_rfl) (by kernel_rfl) ?_;repeat (go_big_quiet_step (fail))
    refine wpQuiet_nil ?_;rintro _ ⟨⟨W1,HW1⟩,rfl⟩;(try dsimp only);go_wp2_with fail;go_ret;exact⟨by rw [HV.out];rfl,hxr.trans HW1⟩
   ·subst hxy;have t1:decide (x<x)=false:=by simp
    go_upto_region 8 with fail;refine zAm (by kernel_rfl) (by kernel_rfl) ?_;repeat (go_big_quiet_step (fail))
    refine wpQuiet_nil ?_;rintro w7 ⟨⟨W2,HW2⟩,rfl⟩;(try dsimp only);have M1:=zAq (zCW HW2 (L1 ⟨_,Ext.refl _⟩));have M2:=zAq (zCW HW2 (L2 ⟨_,Ext.refl _⟩));clear L1 L2;go_upto_region 10 with fail;refine zAm (by kernel_rfl) (by kernel_rfl) ?_;repeat (go_big_quiet_step (fail))
    refine wpQuiet_nil ?_;rintro w8 ⟨⟨W3,HW3⟩,rfl⟩;(try dsimp only);go_wp2_with fail;go_roundw
    case rel=>exact⟨i,by omega,rfl,by rw [zAL (l:=l) (by rw [HL.out];exact hin),zAL (l:=m) (by rw [HM.out];exact hin),HX.out,HY.out,HD.out],hxr.trans (HW2.trans HW3)⟩
    case measure=>first | (simp [intOf];done) | (simp [intOf];omega)
   ·have t1:decide (x<y)=false:=by simp only [decide_eq_false_iff_not];omega
    have t2:decide (y<x)=true:=by simpa using hxy
    have HV:=dH (zET (zBW HN2.out.digs HN1.out.digs (by rw [HL.out,HM.out]) (by rw [HM.out];exact hin) HD.out.symm (by rw [HX.out,HY.out];exact hxy)));go_upto_region 8 with fail;refine zAm (by kernel_rfl) (by kernel_rfl) ?_;repeat (go_big_quiet_step (fail))
    refine wpQuiet_nil ?_;rintro w7 ⟨⟨W2,HW2⟩,rfl⟩;(try dsimp only);have M1:=zAq (zCW HW2 (L1 ⟨_,Ext.refl _⟩));have M2:=zAq (zCW HW2 (L2 ⟨_,Ext.refl _⟩));clear L1 L2;go_upto_region 10 with fail;refine zAm (by kernel_rfl) (by kernel_rfl) ?_;repeat (go_big_quiet_step (fail))
    refine wpQuiet_nil ?_;rintro w8 ⟨⟨W3,HW3⟩,rfl⟩;(try dsimp only);go_wp2_with fail;go_ret;exact⟨by rw [HV.out];rfl,hxr.trans (HW2.trans HW3)⟩
  ·obtain rfl:k=0:=by omega
   have hlm:l=m:=by simpa using hd
   subst hlm;have HV:=dH (zJR (zA1 l));go_wp2_with fail;go_ret;exact⟨by rw [HV.out];rfl,hxr⟩
theorem zK5 (a b:Option Addr) (ca cb:Nat) (l m:List Int) (w:World) (h:Ints w a ca l) (k:Ints w b cb m) (hl:Norm l) (hm:Norm m):
 Calls Tryz.prog 139 #[.slice a l.length ca,.slice b m.length cb] w fun e w'=>e=.returned (.int .i64 (zBh (zA1 l) (zA1 m)))∧Ext w w':=by
 by_cases he:l.length=m.length
 ·have:=zJf m.length a b ca cb l m w h k hl hm he rfl;rw [he];exact this
 ·exact zHV a b ca cb l m w hl hm he
theorem zH4 (a b:Option Addr) (ca cb:Nat) (l m:List Int) (w:World) (h:Ints w a ca l) (k:Ints w b cb m) (hl:Digs l) (hm:Digs m) (h1:l.length+m.length≤99999):
 Calls Tryz.prog 189 #[.slice a l.length ca,.slice b m.length cb] w (zMV (digs (zA1 l*zA1 m).toNat) w):=by
 obtain⟨i0,hi0,hz0,hz1,hz2⟩:=info_parts zEW;have hle1:=h.le;have hmx1:=h.mx;have hle2:=k.le;have hmx2:=k.mx;obtain⟨n,hn⟩:∃n,l.length+m.length=n:=⟨_,rfl⟩
 have hn2:(l.length:Int)+ (m.length:Int)= (n:Int):=by omega
 have HI:=dH h;have HI2:=dH k;have HD1:=dH hl;have HD2:=dH hm;clear h k hl hm;go_enter Tryz.func189,Tryz.ntmps189
 go_wp2_with (at_make;refine wpList_make_full _ rfl _ _ 34 rfl w.heap.size 3 i0 (.int .i64 0) 1 Tryz.underlying34 hi0 hz0 hz1 _ _ _ _ n rfl rfl rfl rfl (by rw [hz2];omega) (by unfold maxLen;omega) (Nat.le_refl _) ?_;intro w2 hown hgrow)
 have hown:w2.ownsRow w.heap.size 3 1 (.slice (some ⟨w.heap.size,0,none⟩) n n) n ((List.replicate n (0:Int)).map (Value.int .i64)):=by simpa [Value.cells,toList_madeCells_one] using hown
 have hB0:IB w2 w.heap.size (List.replicate n 0):=IB.of_owns hown;have hx0:Ext w w2:=zCT (Ext.refl w) hgrow;have hst:=RowM.start l m;rw [hn] at hst;have HST:=dH hst;clear hown hgrow hst;obtain⟨g,hg⟩:∃g,w.heap.size=g:=⟨_,rfl⟩
 rw [hg] at hB0 ⊢;have HG:=dH hg;have HN:=dH hn;clear hg
 go_loopw [6] (fun i wr=>∃ (k:Nat) (M:List Int),k≤l.length∧i=.int .i64 k∧RowM l m k M∧IB wr g M∧Ext w wr) (fun i _=>l.length - (intOf i).toNat)
 case atStart=>exact⟨0,_,Nat.zero_le _,rfl,HST.out,hB0,hx0⟩
 case round=>
  clear hB0 hx0 HST;obtain⟨i,M,hi,rfl,hR,hBr,hxr⟩:=hrel;by_cases hil:i<l.length
  ·obtain⟨b1,o1,rfl⟩:=(HI.out).head hil;obtain⟨x,hx,hc,_⟩:=Ints.get (HI.out.ext hxr) hil;have hxd:=HD1.out.getD i;rw [zB2 hx] at hxd;have HX:=dH (zB2 hx);have HR:=dH hR;have HB:Hid (IB wr g M):=dH hBr;have HXR:=dH hxr;have g1:(0:Int)≤(i:Int):=by omega
   have g2:(i:Int)< (l.length:Int):=by omega
   have HXI:=dH (show l[i]=x by have:=zB2 hx;rw [←this];simp [List.getD,hil]);clear hx hR hBr hc;go_wp2_with fail
   go_loopw [7,8] (fun o j w3=>∃ (k:Nat) (M:List Int) (z:Int),k≤m.length∧j=.int .i64 k∧o=.int .i64 z∧ColM l m i k x M z∧IB w3 g M∧Ext w w3) (fun _ j _=>m.length - (intOf j).toNat)
   case atStart=>exact⟨0,M,0,Nat.zero_le _,rfl,rfl,HR.out.col x,HB.out,HXR.out⟩
   case round=>
    clear HR HB HXR hxr;obtain⟨k,M2,z,hk,rfl,rfl,hC,hB2,hx2⟩:=hrel;obtain⟨z0,z1⟩:0≤z∧z<1073741824:=⟨hC.o0,hC.o1⟩
    by_cases hkm:k<m.length
    ·obtain⟨b2,o2,rfl⟩:=(HI2.out).head hkm;obtain⟨y,hy,hc2,_⟩:=Ints.get (HI2.out.ext hx2) hkm;have hyd:=HD2.out.getD k;rw [zB2 hy] at hyd;obtain⟨b3,b4,b5,b6⟩:=hC.bd hxd hyd;have e1:=IB.at hB2 (i:=i+k) (by rw [hC.len];omega);have ea:=((HI.out.ext hx2).cell (i:=i) hil).1;rw [HXI.out] at ea;have f1:=hB2.free (i+k);have hdg:=hC.dig.getD (i+k);have hstep:=fun s hs=>hC.step (s:=s) hil hkm hxd HD2.out (zB2 hy) hs;generalize M2.getD (i+k) 0=u at *;obtain⟨p,hp⟩:∃p,x*y=p:=⟨_,rfl⟩
     rw [hp] at b3 b4 b5 b6;obtain⟨s,hs⟩:∃s,u+p+z=s:=⟨_,rfl⟩
     have hst:=hstep s (by rw [hp];exact hs);have HS:=dH hst;have HB2:Hid (IB wr g M2):=dH hB2;have HX2:=dH hx2;have L1:=zAq ea;have L2:=zAq hc2;have L3:=zAq e1;have hw1:IntKind.i64.wrap p=p:=IntWalk.i64_in _ (by omega);have hw2:IntKind.i64.wrap (u+p)=u+p:=IntWalk.i64_in _ (by omega);have hw3:IntKind.i64.wrap s=s:=IntWalk.i64_in _ (by rw [hs] at b5 b6;omega);have g3:(0:Int)≤(k:Int):=by omega
     have g4:(k:Int)< (m.length:Int):=by omega
     have g5:(0:Int)≤(i:Int)+ (k:Int):=by omega
     have g6:(i:Int)+ (k:Int)< (n:Int):=by omega
     rw [hs] at b5 b6;clear hy hstep hst hB2 hC ea hc2 e1 f1;go_upto_region 9 with fail;refine zAm (by kernel_rfl) (by kernel_rfl) ?_;repeat (go_big_quiet_step (fail))
     refine wpQuiet_nil ?_;rintro w7 ⟨⟨W2,HW2⟩,rfl⟩;(try dsimp only);have HB2:Hid (IB w7 g M2):=dH (Blk.ext HB2.out HW2);have HX2:=dH (hx2.trans HW2);have e1:=IB.at HB2.out (i:=i+k) (by have:=HS.out.len;simp only [List.length_set] at this;rw [this];omega);have f1:=Blk.free HB2.out (i+k);clear L1 L2 L3 hw1 hw2 hw3 hx2;go_wp2_with fail;go_roundw
     case rel=>
      refine⟨k+1,_,_,by omega,by go_num,rfl,HS.out,IB.put HB2.out _ _,HX2.out.set (p:=⟨g,i+k,none⟩) (by dsimp only;rw [HG.out];exact Nat.le_refl _) _⟩
     case measure=>simp [intOf];omega
    ·obtain rfl:k=m.length:=by omega
     have hdn:=hC.done hil HX.out;have e1:=IB.at hB2 (i:=i+m.length) (by rw [hC.len];omega);have f1:=hB2.free (i+m.length);have HS:=dH hdn;have HB2:Hid (IB wr g M2):=dH hB2;have HX2:=dH hx2;have g5:(0:Int)≤(i:Int)+ (m.length:Int):=by omega
     have g6:(i:Int)+ (m.length:Int)< (n:Int):=by omega
     clear hdn hB2 hx2 hC;go_wp2_with fail;go_roundw
     case rel=>exact⟨i+1,_,by omega,by go_num,HS.out,IB.put HB2.out _ _,HX2.out.set (p:=⟨g,i+m.length,none⟩) (by dsimp only;rw [HG.out];exact Nat.le_refl _) _⟩
     case measure=>simp [intOf];omega
  ·obtain rfl:i=l.length:=by omega
   have hdg:=hR.dig;have hTr:=hR.done;have hMn:M.length=n:=by rw [hR.len];exact HN.out
   have hI:=IB.ints hBr (fun x hx=>by have:=hdg x hx;omega) (by rw [hMn];omega);have hT:=zCV _ _ _ wr hI;have hO:=IB.own (base:=w.heap.size) hBr (by rw [HG.out];exact Nat.le_refl _) (by rw [hMn];unfold maxLen;omega) (zB6 M);rw [←zAr,hTr,hMn] at hO;rw [hTr,hMn] at hT;have HT:=dH hT;have HO:=dH hO;have HXR:=dH hxr;clear hR hBr hI hT hO hdg hTr hxr;go_wp2_with fail;refine HT.out.mono ?_;rintro e w4 ⟨rfl,rfl⟩;go_wp2_with fail;go_ret;exact⟨_,rfl,HO.out,HXR.out⟩
def ValP (z:Int) (L:Nat) (w:World) (e:Ending) (w':World):Prop:=∃v R,e=.returned v∧OwnI w' w.heap.size v R∧Digs R∧zA1 R=z∧R.length≤L∧Ext w w'
theorem zK6 {l m:List Int} (hl:Digs l) (hm:Digs m):∀k,0≤zA9 (fun i=>l.getD i 0+m.getD i 0) k∧zA9 (fun i=>l.getD i 0+m.getD i 0) k≤1
 | 0=>by simp [zA9]
 | k+1=>by
  have ih:=zK6 hl hm k;have h1:=hl.getD k;have h2:=hm.getD k;simp only [zA9];omega
theorem zLx {l m:List Int} {k:Nat} (h1:l.length≤k) (h2:m.length≤k) (hc:zA9 (fun i=>l.getD i 0+m.getD i 0) k=0):zA1 (zAj (fun i=>l.getD i 0+m.getD i 0) k)=zA1 l+zA1 m:=by
 have:=zCz (fun i=>l.getD i 0+m.getD i 0) k;rw [hc,Int.mul_zero,Int.add_zero,zDC,zAT l _ h1,zAT m _ h2] at this;exact this
theorem zLy (a b:Option Addr) (ca cb:Nat) (l m:List Int) (w:World) (h:Ints w a ca l) (k:Ints w b cb m) (hl:Digs l) (hm:Digs m) (N:Nat) (h1:l.length≤N) (h2:m.length≤N) (hN:N≤99998):
 Calls Tryz.prog 138 #[.slice a l.length ca,.slice b m.length cb] w (ValP (zA1 l+zA1 m) (N+1) w):=by
 obtain⟨i0,hi0,hz0,hz1,hz2⟩:=info_parts zEW;have HI:=dH h;have HI2:=dH k;have HC:=dH (zK6 hl hm);have HV:=dH (fun k h1 h2 hc=>zLx (l:=l) (m:=m) (k:=k) h1 h2 hc);have hD1:=hl;have hD2:=hm;have HD1:=dH hl;have HD2:=dH hm;have o0:=dH (OwnI.new w);have hx0:Ext w (w.alloc (.cells #[] 3)):=(by repeat (first | with_reducible exact Ext.refl _ | with_reducible assumption | with_reducible refine Ext.drewN ?_ _ | with_reducible refine Ext.drew ?_ | with_reducible refine Ext.alloc' ?_ _ | with_reducible refine Ext.set ?_ (by dsimp only;omega) _))
 obtain⟨s,hs⟩:∃s:Nat→Int,(fun i=>l.getD i 0+m.getD i 0)=s:=⟨_,rfl⟩
 rw [hs] at HC HV;have HS:=dH (fun i=>show l.getD i 0+m.getD i 0=s i by rw [←hs]);clear h k hl hm hD1 hD2 hs;go_enter Tryz.func138,Tryz.ntmps138;go_wp2_with fail;generalize w.alloc (.cells #[] 3)=w1 at *
 go_loopw [5,6,7] (fun v o i wr=>∃k:Nat,k≤N+1∧i=.int .i64 k∧o=.int .i64 (zA9 s k)∧OwnI wr w.heap.size v (zAj s k)∧Ext w wr) (fun _ _ i _=>N+2 - (intOf i).toNat)
 case atStart=>exact⟨0,Nat.zero_le _,rfl,rfl,o0.out,hx0⟩
 case round=>
  clear o0 hx0;obtain⟨k,hk,rfl,rfl,hO,hxr⟩:=hrel;obtain⟨g,cp,rfl,hg1,hg2,hg3,hg4⟩:=hO.form;have hll:=zA5 s k;rw [hll] at hg3;obtain⟨q1,q2⟩:=HC.out k;obtain⟨r1,r2⟩:=HC.out (k+1);have hcs:zA9 s (k+1)= (s k+zA9 s k) / 1073741824:=rfl;have hls:zAj s (k+1)=zAj s k ++ [(s k+zA9 s k) % 1073741824]:=rfl;have D1:=zF0 a ca l k wr (HI.out.ext hxr);have D2:=zF0 b cb m k wr (HI2.out.ext hxr);have x1:=HD1.out.getD k;have x2:=HD2.out.getD k;have hsk:=HS.out k;have hlast:k=N+1→zA9 s k=0:=fun e=>by
   subst e;have h0:s N=0:=by rw [←HS.out N,zEF (by omega),zEF (by omega)];rfl
   have hc:=HC.out N;show(s N+zA9 s N) / 1073741824=0;omega
  by_cases hgo:k<l.length∨k<m.length∨0<zA9 s k
  ·have hkN:k≤N:=by
    rcases hgo with h | h | h
    ·omega
    ·omega
    ·rcases Nat.lt_or_ge N k with h3 | h3
     ·have:=hlast (by omega);omega
     ·exact h3
   have HLS:=dH hls;have HCS:=dH hcs;generalize zA9 s k=c at *;generalize hck:zAj s k=CL at *;generalize l.getD k 0=x at *;generalize m.getD k 0=y at *;generalize s k=t at *;subst hsk;have HLL:=dH hll;have HD1':=dH D1;have HD2':=dH D2;have HOO:=dH hO;have hm0:(0:Int)≤(x+y+c) % 1073741824:=by omega
   clear hls hcs hll D1 D2 hlast r1 r2 hck;by_cases c1:k<l.length
   case' pos=>have t1:decide ((k:Int)< (l.length:Int))=true:=by simp only [decide_eq_true_eq];omega
   case' neg=>
    have t1:decide ((k:Int)< (l.length:Int))=false:=by simp only [decide_eq_false_iff_not];omega
    by_cases c2:k<m.length
    case' pos=>have t2:decide ((k:Int)< (m.length:Int))=true:=by simp only [decide_eq_true_eq];omega
    case' neg=>
     have t2:decide ((k:Int)< (m.length:Int))=false:=by simp only [decide_eq_false_iff_not];omega
     have t3:decide (0<c)=true:=by simp only [decide_eq_true_eq];omega
   all_goals
    clear hgo;go_wp2_with fail;refine HD1'.out.mono ?_;rintro e w2 ⟨rfl,rfl⟩;go_wp2_with fail;refine HD2'.out.mono ?_;rintro e w2 ⟨rfl,rfl⟩;have hown:=HOO.out.own;rw [HLL.out] at hown ⊢
    go_wp2_with (at_builtin;refine wpList_append_own_at _ rfl (.tmp 35) (.tmp 38) 34 rfl w.heap.size 3 i0 (.int .i64 0) 1 8 Tryz.underlying34 hi0 hz0 hz1 hz2 rfl (by decide) _ _ _ rfl (hown.alloc _) ⟨wr.heap.size,0,none⟩ 1 1 [.int .i64 ((x+y+c) % 1073741824)] rfl rfl (World.news_of_block (cs:=#[.int .i64 ((x+y+c) % 1073741824)]) (t:=3) (fr:=(0,0)) (heap_alloc_new wr _)) (by simp [Value.oneCell']) (by unfold maxLen;omega) (by omega) (by have:=hxr.size;simp;omega) ?_;intro v2 w3 hown2 hgrow2 hnil2 hat2)
    have hE:Ext w w3:=Below.grown (hxr.alloc' (.cells #[.int .i64 ((x+y+c) % 1073741824)] 3)) hgrow2 (by have:=hxr.size;simp;omega) (fun j e=>zBn HOO.out.own e);have hO2:OwnI w3 w.heap.size v2 (CL ++ [(x+y+c) % 1073741824]):=⟨fun e=>absurd (hnil2.1 e).2 (by omega),by rw [List.length_append,HLL.out,List.map_append];exact hown2⟩
    clear hown2 hgrow2 hnil2 hat2 hown;go_wp2_with fail;go_roundw
    case rel=>exact⟨k+1,by omega,by go_num,by rw [HCS.out],by rw [HLS.out];exact hO2,hE⟩
    case measure=>simp [intOf];omega
  ·have c1:¬k<l.length:=fun h=>hgo (.inl h);have c2:¬k<m.length:=fun h=>hgo (.inr (.inl h));have c3:¬0<zA9 s k:=fun h=>hgo (.inr (.inr h));have t1:decide ((k:Int)< (l.length:Int))=false:=by simp only [decide_eq_false_iff_not];omega
   have t2:decide ((k:Int)< (m.length:Int))=false:=by simp only [decide_eq_false_iff_not];omega
   have t3:decide (0<zA9 s k)=false:=by simpa using c3
   have hval:=HV.out k (by omega) (by omega) (by omega);have hdg:=zAD s k;have HRET:=dH (show ValP (zA1 l+zA1 m) (N+1) w (.returned (.slice (some ⟨g,0,none⟩) (zAj s k).length cp)) wr from⟨_,_,rfl,hO,hdg,hval,by rw [hll];exact hk,hxr⟩);clear hval hdg hO D1 D2 hlast hsk hls hcs hgo;generalize zA9 s k=c at *;go_wp2_with fail;go_ret;have hfin:=HRET.out;rw [hll] at hfin;exact hfin
theorem OwnI.takeO {w:World} {B g n cp:Nat} {L:List Int} (h:OwnI w B (.slice (some ⟨g,0,none⟩) n cp) L) {k:Nat} (hk:k≤L.length):OwnI w B (.slice (some ⟨g,0,none⟩) k cp) (L.take k):=by
 obtain⟨hn,h1,h2⟩:=h;refine⟨by simp,by simp,?_⟩;rcases h2 with⟨e,_⟩ | ⟨g',cap',cur,e,hb,hg,hn',hm',hs',ht'⟩
 ·exact absurd e (by simp)
 ·simp only [Value.slice.injEq,Option.some.injEq,Addr.mk.injEq,and_true,true_and] at e;obtain⟨rfl,e1,rfl⟩:=e;refine .inr ⟨g,cp,cur,by simp;omega,hb,hg,by simp;omega,hm',hs',?_⟩;rw [List.map_take,←ht',List.take_take]
  congr 1
  simp
def zFK (l m:List Int) (i:Nat):Int:=l.getD i 0 - m.getD i 0
theorem zH5 {l m:List Int} (hl:Digs l) (hm:Digs m):∀k,-1≤zA9 (zFK l m) k∧zA9 (zFK l m) k≤0
 | 0=>by simp [zA9]
 | k+1=>by
  have ih:=zH5 hl hm k;have h1:=hl.getD k;have h2:=hm.getD k;simp only [zA9,zFK] at ih ⊢;omega
theorem zID (a b:Option Addr) (ca cb:Nat) (l m:List Int) (w:World) (h:Ints w a ca l) (k:Ints w b cb m) (hl:Digs l) (hm:Norm m) (h1:l.length≤99998) (hge:zA1 m≤zA1 l):
 Calls Tryz.prog 140 #[.slice a l.length ca,.slice b m.length cb] w (zMV (digs (zA1 l - zA1 m).toNat) w):=by
 obtain⟨i0,hi0,hz0,hz1,hz2⟩:=info_parts zEW;have hle1:=h.le;have hmx1:=h.mx;have HI:=dH h;have HI2:=dH k;have HC:=dH (zH5 hl hm.digs);have HFIT:=dH (zIr hl hm hge);have HD1:=dH hl;have HD2:=dH hm.digs;have o0:=dH (OwnI.new w);have hx0:Ext w (w.alloc (.cells #[] 3)):=(by repeat (first | with_reducible exact Ext.refl _ | with_reducible assumption | with_reducible refine Ext.drewN ?_ _ | with_reducible refine Ext.drew ?_ | with_reducible refine Ext.alloc' ?_ _ | with_reducible refine Ext.set ?_ (by dsimp only;omega) _))
 clear h k hl hm hge;go_enter Tryz.func140,Tryz.ntmps140;go_wp2_with fail;generalize w.alloc (.cells #[] 3)=w1 at *
 go_loopw [5,6,7] (fun v o i wr=>∃k:Nat,k≤l.length∧i=.int .i64 k∧o=.int .i64 (- zA9 (zFK l m) k)∧OwnI wr w.heap.size v (zAj (zFK l m) k)∧Ext w wr) (fun _ _ i _=>l.length - (intOf i).toNat)
 case atStart=>exact⟨0,Nat.zero_le _,rfl,rfl,o0.out,hx0⟩
 case round=>
  clear o0 hx0;obtain⟨k,hk,rfl,rfl,hO,hxr⟩:=hrel;obtain⟨g,cp,rfl,hg1,hg2,hg3,hg4⟩:=hO.form;have hll:=zA5 (zFK l m) k;rw [hll] at hg3;obtain⟨q1,q2⟩:=HC.out k;by_cases hgo:k<l.length
  ·have hcs:zA9 (zFK l m) (k+1)= (zFK l m k+zA9 (zFK l m) k) / 1073741824:=rfl;have hls:zAj (zFK l m) (k+1)=zAj (zFK l m) k ++ [(zFK l m k+zA9 (zFK l m) k) % 1073741824]:=rfl;obtain⟨b1,o1,rfl,ha⟩:=HI.out.atN rfl hgo;have ha:=ha k hgo;have C2:=dH (fun W:zEx wr=>zC9 (W:=W) (zF0 b cb m k W.1 (HI2.out.ext (hxr.trans W.2))));have L1:=zAq ((hxr.cell (p:=⟨b1,o1+k,none⟩) (zAa ha)).trans ha);obtain⟨x1,x2⟩:=HD1.out.getD k;obtain⟨y1,y2⟩:=HD2.out.getD k;have hss:zFK l m k=l.getD k 0 - m.getD k 0:=rfl;generalize zA9 (zFK l m) k=c at *;generalize hck:zAj (zFK l m) k=CL at *;generalize l.getD k 0=x at *;generalize m.getD k 0=y at *;generalize zFK l m k=t at *;subst hss;have HLS:=dH hls;have HCS:=dH hcs;have HLL:=dH hll;have HOO:=dH hO;have hw1:IntKind.i64.wrap (x - y)=x - y:=IntWalk.i64_in _ (by omega);have hw2:IntKind.i64.wrap (x - y - -c)=x - y+c:=by rw [show x - y - -c=x - y+c by omega];exact IntWalk.i64_in _ (by omega)
   have g1:(0:Int)≤(k:Int):=by omega
   have g2:(k:Int)< (l.length:Int):=by omega
   clear hls hcs hll ha hck;go_upto_region 6 with fail;refine zAm (by kernel_rfl) (by kernel_rfl) ?_;repeat (go_big_quiet_step ((go_at_call 194;with_reducible exact C2.out _)))
   refine wpQuiet_nil ?_;rintro w7 ⟨⟨W2,HW2⟩,rfl⟩;(try dsimp only);clear L1 C2 hw1 hw2;have hown:=(HOO.out.ext HW2).own;rw [HLL.out] at hown ⊢;obtain⟨D,hD⟩:∃D,x - y+c=D:=⟨_,rfl⟩
   rw [hD] at HLS HCS ⊢;by_cases hneg:D<0
   ·have t1:decide (D<0)=true:=by simpa using hneg
    obtain⟨E,hE0⟩:∃E,D+1073741824=E:=⟨_,rfl⟩
    have HE:=dH (show D % 1073741824=E by omega);have HF:=dH (show -(D / 1073741824)=1 by omega)
    go_wp2_with (at_builtin;refine wpList_append_own_at _ rfl (.tmp 30) (.tmp 32) 34 rfl w.heap.size 3 i0 (.int .i64 0) 1 8 Tryz.underlying34 hi0 hz0 hz1 hz2 rfl (by decide) _ _ _ rfl (hown.alloc _) ⟨w7.heap.size,0,none⟩ 1 1 [.int .i64 E] rfl rfl (World.news_of_block (cs:=#[.int .i64 E]) (t:=3) (fr:=(0,0)) (heap_alloc_new w7 _)) (by simp [Value.oneCell']) (by unfold maxLen;omega) (by omega) (by have:=hxr.size;have:=HW2.size;simp;omega) ?_;intro v2 w3 hown2 hgrow2 hnil2 hat2)
    have hE:Ext w w3:=Below.grown ((hxr.trans HW2).alloc' (.cells #[.int .i64 E] 3)) hgrow2 (by have:=hxr.size;have:=HW2.size;simp;omega) (fun j e=>zBn HOO.out.own e);have hO2:OwnI w3 w.heap.size v2 (CL ++ [E]):=⟨fun e=>absurd (hnil2.1 e).2 (by omega),by rw [List.length_append,HLL.out,List.map_append];exact hown2⟩
    clear hown2 hgrow2 hnil2 hat2 hown;go_wp2_with fail;go_roundw
    case rel=>exact⟨k+1,by omega,by go_num,by rw [HCS.out,HF.out],by rw [HLS.out,HE.out];exact hO2,hE⟩
    case measure=>simp [intOf];omega
   ·have t1:decide (D<0)=false:=by simpa using hneg
    obtain⟨E,hE0⟩:∃E,D=E:=⟨_,rfl⟩
    subst hE0;have HE:=dH (show D % 1073741824=D by omega);have HF:=dH (show -(D / 1073741824)=0 by omega)
    go_wp2_with (at_builtin;refine wpList_append_own_at _ rfl (.tmp 30) (.tmp 32) 34 rfl w.heap.size 3 i0 (.int .i64 0) 1 8 Tryz.underlying34 hi0 hz0 hz1 hz2 rfl (by decide) _ _ _ rfl (hown.alloc _) ⟨w7.heap.size,0,none⟩ 1 1 [.int .i64 D] rfl rfl (World.news_of_block (cs:=#[.int .i64 D]) (t:=3) (fr:=(0,0)) (heap_alloc_new w7 _)) (by simp [Value.oneCell']) (by unfold maxLen;omega) (by omega) (by have:=hxr.size;have:=HW2.size;simp;omega) ?_;intro v2 w3 hown2 hgrow2 hnil2 hat2)
    have hE:Ext w w3:=Below.grown ((hxr.trans HW2).alloc' (.cells #[.int .i64 D] 3)) hgrow2 (by have:=hxr.size;have:=HW2.size;simp;omega) (fun j e=>zBn HOO.out.own e);have hO2:OwnI w3 w.heap.size v2 (CL ++ [D]):=⟨fun e=>absurd (hnil2.1 e).2 (by omega),by rw [List.length_append,HLL.out,List.map_append];exact hown2⟩
    clear hown2 hgrow2 hnil2 hat2 hown;go_wp2_with fail;go_roundw
    case rel=>exact⟨k+1,by omega,by go_num,by rw [HCS.out,HF.out],by rw [HLS.out,HE.out];exact hO2,hE⟩
    case measure=>simp [intOf];omega
  ·obtain rfl:k=l.length:=by omega
   have hdg:=zAD (zFK l m) l.length;have hI:=(hO.ints (fun x hx=>by have:=hdg x hx;omega)).2;have hT:=zCV _ _ _ wr hI;have hfit:zAi (zAj (zFK l m) l.length)=digs (zA1 l - zA1 m).toNat:=HFIT.out;have hfin:=hO.takeO (k:=(zAi (zAj (zFK l m) l.length)).length) (zB6 _);rw [←zAr] at hfin;rw [hfit] at hT hfin;have HT:=dH hT;have HFIN:=dH hfin;clear hT hfin hI hO hdg hfit;rw [hll] at HT ⊢;go_wp2_with fail;refine HT.out.mono ?_;rintro e w4 ⟨rfl,rfl⟩;go_wp2_with fail;go_ret;exact⟨_,rfl,HFIN.out,hxr⟩
theorem zFz (neg:Bool) (a:Option Addr) (cap:Nat) (l:List Int) (w:World) (h:Ints w a cap l) (hl:2048<l.length):
 Calls Tryz.prog 87 #[.agg #[.bool neg,.slice a l.length cap]] w fun e w'=>e=.returned (.int .i64 (zEl (zAZ neg l)))∧Ext w w':=by
 have hle:=h.le;have hmx:=h.mx;have hx:=Ext.alloc w (.cells #[.bool neg,.slice a l.length cap] 36);have B1:=dH (Blk.new0 w #[.bool neg,.slice a l.length cap] 36);have c1:=B1.out.cell (i:=0) (v:=.bool neg) rfl;have c2:=B1.out.cell (i:=1) (v:=.slice a l.length cap) rfl;have e1:decide (2048< (l.length:Int))=true:=by simp only [decide_eq_true_eq];omega
 have HE:=dH (show zEl (zAZ neg l)=90 by unfold zAZ;rw [decide_eq_false (show ¬l.length≤2048 by omega)];rfl);go_enter Tryz.func87,Tryz.ntmps87;go_upto_region 1 with fail;generalize w.alloc (.cells #[.bool neg,.slice a l.length cap] 36)=w1 at *;go_wp2_with fail;go_ret;exact⟨by rw [HE.out];rfl,hx⟩
theorem zFL {l:List Int} {k:Nat} {x:Int} {p:Int→Bool} (h:l[k]? =some x) (hp:p x=true):l.any p=true:=List.any_eq_true.2 ⟨x,List.mem_of_getElem? h,hp⟩
theorem zGg (neg:Bool) (a:Option Addr) (cap:Nat) (w:World):
 Calls Tryz.prog 87 #[.agg #[.bool neg,.slice a 0 cap]] w fun e w'=>e=.returned (.int .i64 (zEl (zAZ neg [])))∧Ext w w':=by
 have hx:=Ext.alloc w (.cells #[.bool neg,.slice a 0 cap] 36);have B1:=dH (Blk.new0 w #[.bool neg,.slice a 0 cap] 36);have c1:=B1.out.cell (i:=0) (v:=.bool neg) rfl;have c2:=B1.out.cell (i:=1) (v:=.slice a 0 cap) rfl
 cases neg with
 | true=>
  go_enter Tryz.func87,Tryz.ntmps87;go_upto_region 1 with fail;generalize w.alloc (.cells #[.bool true,.slice a 0 cap] 36)=w1 at *;go_wp2_with fail;go_ret;exact⟨rfl,hx⟩
 | false=>
  go_enter Tryz.func87,Tryz.ntmps87;go_upto_region 1 with fail;generalize w.alloc (.cells #[.bool false,.slice a 0 cap] 36)=w1 at *;go_wp2_with fail
  go_loop [4] (fun i=>i=.int .i64 0) (fun _=>0)
  case atStart=>rfl
  case round=>
   subst hrel;go_wp2_with fail;go_ret;exact⟨rfl,hx⟩
theorem zGh (neg:Bool) (a:Option Addr) (cap:Nat) (l:List Int) (w:World) (h:Ints w a cap l) (hl:l.length≤2048) (hp:0<l.length):
 Calls Tryz.prog 87 #[.agg #[.bool neg,.slice a l.length cap]] w fun e w'=>e=.returned (.int .i64 (zEl (zAZ neg l)))∧Ext w w':=by
 have hle:=h.le;have hmx:=h.mx;have hx:=Ext.alloc w (.cells #[.bool neg,.slice a l.length cap] 36);have B1:=dH (Blk.new0 w #[.bool neg,.slice a l.length cap] 36);have c1:=B1.out.cell (i:=0) (v:=.bool neg) rfl;have c2:=B1.out.cell (i:=1) (v:=.slice a l.length cap) rfl;have hI:=h.ext hx;have e1:decide (2048< (l.length:Int))=false:=by simp only [decide_eq_false_iff_not];omega
 have e2:((l.length:Int) == 0)=false:=by simp only [beq_eq_false_iff_ne];omega
 have e3:decide (0< (l.length:Int))=true:=by simp only [decide_eq_true_eq];omega
 have e3':decide (0<l.length)=true:=by simpa using hp
 have hE:zAZ neg l= (decide (l.length≤2048) && !(neg && decide (l.length=0)) && !(decide (0<l.length) && l.getD (l.length - 1) 0 == 0) && !(l.any zGQ)):=rfl;rw [decide_eq_true hl,decide_eq_false (show ¬l.length=0 by omega),decide_eq_true hp,Bool.and_false,Bool.not_false,Bool.true_and,Bool.true_and,Bool.true_and] at hE;obtain⟨j,hj⟩:∃j,l.length=j+1:=⟨l.length - 1,by omega⟩
 obtain⟨b,o,rfl⟩:=hI.head (i:=j) (by omega);obtain⟨x0,hx1,hc,_⟩:=Ints.get hI (i:=j) (by omega);rw [show l.length - 1=j by omega,zB2 hx1] at hE;have e4:(l.length:Int) - 1= (j:Int):=by omega
 have g1:(0:Int)≤(j:Int):=by omega
 have g2:(j:Int)< (l.length:Int):=by omega
 generalize hEE:zAZ neg l=E at *;have HX:=dH hx;have HI:=dH hI;clear hI hx1 h hEE hx hj;by_cases h0:x0=0
 ·subst h0;have HE:=dH (show zEl E=90 by rw [hE];rfl);clear hE;go_enter Tryz.func87,Tryz.ntmps87;go_upto_region 1 with fail;generalize w.alloc (.cells #[.bool neg,.slice (some ⟨b,o,none⟩) l.length cap] 36)=w1 at *;go_wp2_with fail;go_ret;exact⟨by rw [HE.out];rfl,HX.out⟩
 ·have t0:(x0 == 0)=false:=by simpa using h0
  rw [t0,Bool.not_false,Bool.true_and] at hE;have HE:=dH hE;clear hE h0;go_enter Tryz.func87,Tryz.ntmps87;go_upto_region 1 with fail;generalize w.alloc (.cells #[.bool neg,.slice (some ⟨b,o,none⟩) l.length cap] 36)=w1 at *;go_wp2_with fail;clear hc
  go_loop [4] (fun i=>∃k:Nat,k≤l.length∧i=.int .i64 k∧(l.take k).any zGQ=false) (fun i=>l.length - (intOf i).toNat)
  case atStart=>exact⟨0,Nat.zero_le _,rfl,rfl⟩
  case round=>
   obtain⟨k,hk,rfl,hno⟩:=hrel;have HNO:=dH hno;clear hno;by_cases hkn:k<l.length
   ·obtain⟨x,hx1,hc,_⟩:=Ints.get HI.out hkn;have hT:=dH (zAR hx1);have g1:(0:Int)≤(k:Int):=by omega
    have g2:(k:Int)< (l.length:Int):=by omega
    by_cases h1:x<0
    ·have t1:decide (x<0)=true:=by simpa using h1
     have HB:=dH (show l.any zGQ=true from zFL hx1 (by unfold zGQ;rw [t1];rfl));clear hx1 h1;go_wp2_with fail;go_ret;exact⟨by rw [HE.out,HB.out];rfl,HX.out⟩
    ·have t1:decide (x<0)=false:=by simpa using h1
     by_cases h2:1073741824≤x
     ·have t2:decide (1073741824≤x)=true:=by simpa using h2
      have HB:=dH (show l.any zGQ=true from zFL hx1 (by unfold zGQ;rw [decide_eq_true (show 1073741823<x by omega),Bool.or_true]));clear hx1 h1 h2;go_wp2_with fail;go_ret;exact⟨by rw [HE.out,HB.out];rfl,HX.out⟩
     ·have t2:decide (1073741824≤x)=false:=by simpa using h2
      have HB:=dH (show(l.take (k+1)).any zGQ=false by rw [hT.out,List.any_append,HNO.out];simp [zGQ];omega);clear hx1 h1 h2;go_wp2_with fail
      go_round
      case rel=>exact⟨k+1,by omega,by go_num,HB.out⟩
      case measure=>simp [intOf];omega
   ·obtain rfl:k=l.length:=by omega
    have HB:=dH (show l.any zGQ=false by have:=HNO.out;rwa [List.take_length] at this);go_wp2_with fail;go_ret;exact⟨by rw [HE.out,HB.out];rfl,HX.out⟩
theorem zCe (neg:Bool) (a:Option Addr) (cap:Nat) (l:List Int) (w:World) (h:Ints w a cap l):
 Calls Tryz.prog 87 #[.agg #[.bool neg,.slice a l.length cap]] w fun e w'=>e=.returned (.int .i64 (zEl (zAZ neg l)))∧Ext w w':=by
 rcases Nat.lt_or_ge 2048 l.length with h1 | h1
 ·exact zFz neg a cap l w h h1
 ·rcases Nat.eq_zero_or_pos l.length with h2 | h2
  ·obtain rfl:=List.length_eq_zero_iff.1 h2;exact zGg neg a cap w
  ·exact zGh neg a cap l w h h1 h2
theorem zGi (n1 n2:Bool) (a b:Option Addr) (ca cb:Nat) (l m:List Int) (w:World) (h:Ints w a ca l) (k:Ints w b cb m):
 Calls Tryz.prog 136 #[.agg #[.bool n1,.slice a l.length ca],.agg #[.bool n2,.slice b m.length cb]] w fun e w'=>e=.returned (.int .i64 (zEl (zAZ n1 l && zAZ n2 m)))∧Ext w w':=by
 have hx:Ext w ((w.alloc (.cells #[.bool n1,.slice a l.length ca] 36)).alloc (.cells #[.bool n2,.slice b m.length cb] 36)):=(by repeat (first | with_reducible exact Ext.refl _ | with_reducible assumption | with_reducible refine Ext.drewN ?_ _ | with_reducible refine Ext.drew ?_ | with_reducible refine Ext.alloc' ?_ _ | with_reducible refine Ext.set ?_ (by dsimp only;omega) _))
 have B1:=(Blk.new0 w #[.bool n1,.slice a l.length ca] 36).alloc (.cells #[.bool n2,.slice b m.length cb] 36);have B2:=Blk.new1 w (.cells #[.bool n1,.slice a l.length ca] 36) #[.bool n2,.slice b m.length cb] 36;obtain⟨w1,hw1⟩:∃w1,(w.alloc (.cells #[.bool n1,.slice a l.length ca] 36)).alloc (.cells #[.bool n2,.slice b m.length cb] 36)=w1:=⟨_,rfl⟩
 rw [hw1] at hx B1 B2;have HC1:=zCe n1 a ca l w1 (h.ext hx);have HC2:=dH (fun W (hy:Ext w1 W)=>zCe n2 b cb m W (k.ext (hx.trans hy)));have c0:=B1.cell (i:=0) (v:=.bool n1) rfl;have c1:=B1.cell (i:=1) (v:=.slice a l.length ca) rfl;have HB2:=dH B2;have HW:=dH hw1;generalize zAZ n1 l=t1 at *;generalize zAZ n2 m=t2 at *;clear B1 B2 hw1 h k
 cases t1 with
 | false=>
  have HC:=dH (show Calls Tryz.prog 87 _ w1 fun e w'=>e=.returned (.int .i64 90)∧Ext w1 w' from HC1);clear HC1 HC2;go_enter Tryz.func136,Tryz.ntmps136;go_upto_region 1 with fail;rw [HW.out];go_wp2_with fail;refine HC.out.mono ?_;rintro e w2 ⟨rfl,hy⟩;go_wp2_with fail;go_ret;exact⟨rfl,hx.trans hy⟩
 | true=>
  have HC:=dH (show Calls Tryz.prog 87 _ w1 fun e w'=>e=.returned (.int .i64 0)∧Ext w1 w' from HC1);clear HC1;go_enter Tryz.func136,Tryz.ntmps136;go_upto_region 1 with fail;rw [HW.out];go_wp2_with fail;refine HC.out.mono ?_;rintro e w2 ⟨rfl,hy⟩;have B2:=HB2.out.ext hy;have c2:=B2.cell (i:=0) (v:=.bool n2) rfl;have c3:=B2.cell (i:=1) (v:=.slice b m.length cb) rfl;have HD:=dH (HC2.out w2 hy);clear HC2 B2;go_wp2_with fail;refine HD.out.mono ?_;rintro e w3 ⟨rfl,hy3⟩;go_wp2_with fail;go_ret;exact⟨by rw [Bool.true_and];rfl,hx.trans (hy.trans hy3)⟩
theorem zBG (neg:Bool) (a:Option Addr) (cap:Nat) (l:List Int) (w:World) (h:Ints w a cap l) (hlen:(zAi l).length≤2048):
 Calls Tryz.prog 137 #[.bool neg,.slice a l.length cap] w fun e w'=>e=.returned (.tuple #[.agg #[.bool (neg && decide (0< (zAi l).length)),.slice a (zAi l).length cap],.int .i64 0])∧Ext w w':=by
 have hmx:=h.mx;have hle:=h.le;have htl:=zB6 l;have hx:=Ext.alloc w (.cells #[.bool false,.slice none 0 0] 36);have B1:=dH (Blk.new0 w #[.bool false,.slice none 0 0] 36);have hT:=zCV a cap l _ (h.ext hx);generalize zAi l=L at *;have HT:=dH hT;clear hT h;have hx2:=fun v u=>(hx.set (p:=⟨w.heap.size,0,none⟩) (Nat.le_refl _) v).set (p:=⟨w.heap.size,1,none⟩) (Nat.le_refl _) u;have e1:decide (2048< (L.length:Int))=false:=by simp only [decide_eq_false_iff_not];omega
 have c0:=B1.out.cell (i:=0) (v:=.bool false) rfl;have c1:=B1.out.cell (i:=1) (v:=.slice none 0 0) rfl;have f0:=B1.out.free 0;have f1:=B1.out.free 1;have HX:=dH hx2;clear hx2
 cases neg with
 | true=>
  go_enter Tryz.func137,Tryz.ntmps137;go_upto_region 1 with fail;generalize w.alloc (.cells #[.bool false,.slice none 0 0] 36)=w1 at *;go_wp2_with fail;refine HT.out.mono ?_;rintro e w2 ⟨rfl,rfl⟩;go_wp2_with fail;have k2:=(B1.out.set 0 (.bool (decide (0<L.length)))).set 1 (.slice a L.length cap);have e0:=k2.cell (i:=0) (v:=.bool (decide (0<L.length))) rfl;have e1:=k2.cell (i:=1) (v:=.slice a L.length cap) rfl;refine bodyPost_ret (v:=.tuple #[.agg #[.bool (decide (0<L.length)),.slice a L.length cap],.int .i64 0]) (by simp [results,Tryz.results137,go_sem,e0,e1]) rfl ?_;exact⟨rfl,HX.out _ _⟩
 | false=>
  go_enter Tryz.func137,Tryz.ntmps137;go_upto_region 1 with fail;generalize w.alloc (.cells #[.bool false,.slice none 0 0] 36)=w1 at *;go_wp2_with fail;refine HT.out.mono ?_;rintro e w2 ⟨rfl,rfl⟩;go_wp2_with fail;have k2:=(B1.out.set 0 (.bool false)).set 1 (.slice a L.length cap);have e0:=k2.cell (i:=0) (v:=.bool false) rfl;have e1:=k2.cell (i:=1) (v:=.slice a L.length cap) rfl;refine bodyPost_ret (v:=.tuple #[.agg #[.bool false,.slice a L.length cap],.int .i64 0]) (by simp [results,Tryz.results137,go_sem,e0,e1]) rfl ?_;exact⟨rfl,HX.out _ _⟩
end Go.Proofs.YtonkhcdmchidjaaGreat
