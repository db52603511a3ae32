import Derived.Test.YtonkhcdmchidjaaGreatZH
namespace Go.Proofs.YtonkhcdmchidjaaGreat
open Go.RowKit Go BigFrame Go.Shelf
set_option maxRecDepth 100000
set_option linter.all false
attribute [local go_sem] Oper.semAt_some
def zMo (_:World) (v:Value) (n:Int):Prop:=v=.int .u8 n∧0≤n∧n≤255
theorem rdU8:zMC zMo where
 ext:=fun _ _ _ _ _ h=>h
 grown:=fun _ _ _ _ _ h _ _=>h
 new:=fun w v x h A n c e _=>by rw [h.1] at e;cases e
 one:=fun w v x h=>by rw [h.1];rfl
theorem SlOf.getZ {α:Type} {R:World→Value→α→Prop} {w:World} {b o cap:Nat} {xs:List α} (h:SlOf R w (some ⟨b,o,none⟩) cap xs) {i:Nat} (hi:i<xs.length):∃x v,xs[i]? =some x∧w.cell? ⟨b,o+i,none⟩=some v∧R w v x:=by
 obtain⟨-,v,hv,hr⟩:=h.cells _ rfl i hi;exact⟨xs[i],v,List.getElem?_eq_getElem hi,hv,hr⟩
theorem zEP {l:List Int} {i:Nat} {x:Int} (h:l[i]? =some x):l.getD i 0=x:=by rw [List.getD_eq_getElem?_getD,h];rfl
theorem zMp {A B:List Int} {ms:List Bool} {i k:Nat} (h:¬i*B.length+k<ms.length):zLa A B ms i k=A.getD i 0+B.getD k 0:=by
 unfold zLa;rw [List.getD_eq_getElem?_getD,List.getElem?_eq_none (by omega)];rfl
theorem zO1 {A B:List Int} {ms:List Bool} {i k:Nat} {b:Bool} (h:ms[i*B.length+k]? =some b):zLa A B ms i k=if b then -1 else A.getD i 0+B.getD k 0:=by
 unfold zLa;rw [List.getD_eq_getElem?_getD,h];rfl
theorem zBD {α:Type} (f:Nat→α) (k:Nat):(List.range (k+1)).map f= (List.range k).map f ++ [f k]:=by rw [List.range_succ,List.map_append];rfl
theorem zAP {α:Type} (f:Nat→α) (k:Nat):((List.range k).map f).length=k:=by simp
theorem zJK {x y8 w9:World} {B0 fb vc uc:Nat} {va ua:Option Addr} {f1:Value} {Kx:List RatC} {c:RatC} {rs:List Rat} {r:Rat} (HO:OwnRats y8 x.heap.size (.slice va Kx.length vc) Kx rs) (hO:OwnRats w9 B0 (.slice ua (Kx.length+1) uc) (Kx ++ [c]) (rs ++ [r]))
 (hgr:y8.grownBy w9 (Value.slice va Kx.length vc).ownBlock) (hat:(Value.slice ua (Kx.length+1) uc).ownBlock= (Value.slice va Kx.length vc).ownBlock∨(Value.slice ua (Kx.length+1) uc).ownBlock=some y8.heap.size) (hF:Blk y8 fb #[.slice va Kx.length vc,f1] 25) (hn:noInt #[.slice va Kx.length vc,f1]) (hx:x.heap.size≤y8.heap.size) (hg:x.grownBy y8 (some fb)):
 OwnRats (w9.setCell ⟨fb,0,none⟩ (.slice ua (Kx.length+1) uc)) x.heap.size (.slice ua (Kx.length+1) uc) (Kx ++ [c]) (rs ++ [r])∧Blk (w9.setCell ⟨fb,0,none⟩ (.slice ua (Kx.length+1) uc)) fb #[.slice ua (Kx.length+1) uc,f1] 25∧x.grownBy (w9.setCell ⟨fb,0,none⟩ (.slice ua (Kx.length+1) uc)) (some fb)∧w9.frozen? ⟨fb,0,none⟩=false∧w9.cell? ⟨fb,0,none⟩=some (.slice va Kx.length vc):=by
 have hF9:=zA6 hF hgr (zAS HO.own hF (by decide));refine⟨(hO.high fun g e=>?_).keptB hF9 (by decide) hn (zAb w9 fb 0 _),hF9.set 0 _,(hg.andThen hgr fun j e=>.inl (HO.lt j e).1).trans (zAb w9 fb 0 _),hF9.free 0,hF9.cell rfl⟩;rcases hat with h | h
 ·exact(HO.lt g (h ▸ e)).1
 ·rw [h] at e;cases e;exact hx
theorem zJL {x y8 w9:World} {B0 fb vc uc:Nat} {va ua:Option Addr} {f0:Value} {Kx:List RatC} {c:RatC} {rs:List Rat} {r:Rat} (HO:OwnRats y8 x.heap.size (.slice va Kx.length vc) Kx rs) (hO:OwnRats w9 B0 (.slice ua (Kx.length+1) uc) (Kx ++ [c]) (rs ++ [r]))
 (hgr:y8.grownBy w9 (Value.slice va Kx.length vc).ownBlock) (hat:(Value.slice ua (Kx.length+1) uc).ownBlock= (Value.slice va Kx.length vc).ownBlock∨(Value.slice ua (Kx.length+1) uc).ownBlock=some y8.heap.size) (hF:Blk y8 fb #[f0,.slice va Kx.length vc] 25) (hn:noInt #[f0,.slice va Kx.length vc]) (hx:x.heap.size≤y8.heap.size) (hg:x.grownBy y8 (some fb)):
 OwnRats (w9.setCell ⟨fb,1,none⟩ (.slice ua (Kx.length+1) uc)) x.heap.size (.slice ua (Kx.length+1) uc) (Kx ++ [c]) (rs ++ [r])∧Blk (w9.setCell ⟨fb,1,none⟩ (.slice ua (Kx.length+1) uc)) fb #[f0,.slice ua (Kx.length+1) uc] 25∧x.grownBy (w9.setCell ⟨fb,1,none⟩ (.slice ua (Kx.length+1) uc)) (some fb)∧w9.frozen? ⟨fb,1,none⟩=false∧w9.cell? ⟨fb,1,none⟩=some (.slice va Kx.length vc):=by
 have hF9:=zA6 hF hgr (zAS HO.own hF (by decide));refine⟨(hO.high fun g e=>?_).keptB hF9 (by decide) hn (zAb w9 fb 1 _),hF9.set 1 _,(hg.andThen hgr fun j e=>.inl (HO.lt j e).1).trans (zAb w9 fb 1 _),hF9.free 1,hF9.cell (i:=1) rfl⟩;rcases hat with h | h
 ·exact(HO.lt g (h ▸ e)).1
 ·rw [h] at e;cases e;exact hx
theorem zG0 (f:Nat→Rat) {n c:Nat} (h:c<n):((List.range n).map f).getD c 0=f c:=by rw [List.getD_eq_getElem?_getD,List.getElem?_map,List.getElem?_range h];rfl
theorem zMU {w:World} {a:Option Addr} {cap:Nat} {l:List Int} (h:SlOf zMo w a cap l):∀x∈l,0≤x∧x≤255:=fun x hx=>by
 obtain⟨i,hi,rfl⟩:=List.getElem_of_mem hx
 cases a with
 | none=>have:=h.nil rfl;have:=h.le;omega
 | some A=>
  obtain⟨-,v,-,hr⟩:=h.cells A rfl i hi;exact hr.2
def zP1 (w:World) (e:Ending) (w':World):Prop:=e=.returned (.bool true)∧Ext w w'
def zP2:Prop:=∀w,Calls Tryz.prog 14 #[] w (zP1 w)
set_option maxHeartbeats 16000000 in
theorem zHM (hS:zP2) (aa:Option Addr) (ca:Nat) (A:List Int) (ab:Option Addr) (cb:Nat) (B:List Int) (am:Option Addr) (cm:Nat) (ms:List Bool) (w:World) (hA:SlOf zMo w aa ca A) (hB:SlOf zMo w ab cb B) (hM:Bools w am cm ms):Calls Tryz.prog 5 #[.slice aa A.length ca,.slice ab B.length cb,.slice am ms.length cm] w (zP1 w):=by
 have HA:=dH hA;have HB:=dH hB;have HM:=dH hM;have hale:=hA.le;have hamx:=hA.mx;have hble:=hB.le;have hbmx:=hB.mx;have hmle:=hM.le;have hmmx:=hM.mx;have HSN:=dH (hS w);clear hA hB hM hS;go_enter Tryz.func5,Tryz.ntmps5;go_wp2_with fail;refine HSN.out.mono ?_;rintro e x1 ⟨rfl,hx⟩;clear HSN;by_cases hok:0<A.length∧A.length≤6∧0<B.length∧B.length≤4
 ·obtain⟨a0,a6,b0,b4⟩:=hok;have i1:((A.length:Int) == 0)=false:=by simp only [beq_eq_false_iff_ne];omega
  have i2:¬ (6:Int)< (A.length:Int):=by omega
  have i3:((B.length:Int) == 0)=false:=by simp only [beq_eq_false_iff_ne];omega
  have i4:¬ (4:Int)< (B.length:Int):=by omega
  have HX:=dH hx;clear hx;go_wp2_with fail;clear i1 i2 i3 i4
  go_loopw [7,8,53] (fun v n i wr=>∃q N:Nat,q≤A.length∧i=.int .i64 q∧n=.int .i64 N∧N=q*B.length∧OwnL zGT wr w.heap.size 34 v ((List.range q).map (zIq A B ms))∧Ext w wr) (fun _ _ i _=>A.length - (intOf i).toNat)
  case atStart=>exact⟨0,0,Nat.zero_le _,rfl,rfl,by omega,OwnL.nil _ _ _,HX.out⟩
  case round=>
   obtain⟨q,N,hq,rfl,rfl,hN,how,hxr⟩:=hrel;generalize wr=x3 at *;have q0:(0:Int)≤(q:Int):=by omega
   by_cases hqn:q<A.length
   ·have q1:(q:Int)< (A.length:Int):=by omega
    have hw1:IntKind.i64.wrap ((q:Int)+1)= (q:Int)+1:=IntWalk.i64_in _ (by omega);obtain⟨b,o,rfl⟩:=HA.out.head hqn;obtain⟨x,v,hx,hc,rfl,hx1,hx2⟩:=SlOf.getZ (HA.out.ext rdU8.ext hxr) hqn;have HGX:=dH (zEP hx);have HOW:=dH how;have HX3:=dH hxr;have HN:=dH hN;have hqJ:q*B.length≤6*4:=Nat.mul_le_mul (by omega) b4;have hNb:N≤24:=by omega
    clear hx how hxr hqJ hN HX;go_wp2_with fail
    go_loopw [8,12,59] (fun n v i wr=>∃k M:Nat,k≤B.length∧i=.int .i64 k∧n=.int .i64 M∧M=N+k∧OwnL zJO wr x3.heap.size 3 v ((List.range k).map (zLa A B ms q))∧Ext x3 wr) (fun _ _ i _=>B.length - (intOf i).toNat)
    case atStart=>exact⟨0,N,Nat.zero_le _,rfl,rfl,by omega,OwnL.nil _ _ _,Ext.refl _⟩
    case round=>
     obtain⟨k,M,hk,rfl,rfl,hM,how2,hxr2⟩:=hrel;generalize wr=x4 at *;have k0:(0:Int)≤(k:Int):=by omega
     have hMb:M≤28:=by omega
     by_cases hkl:k<B.length
     ·have k1:(k:Int)< (B.length:Int):=by omega
      have hw2:IntKind.i64.wrap ((k:Int)+1)= (k:Int)+1:=IntWalk.i64_in _ (by omega);have hw3:IntKind.i64.wrap ((M:Int)+1)= (M:Int)+1:=IntWalk.i64_in _ (by omega);obtain⟨b2,o2,rfl⟩:=HB.out.head hkl;obtain⟨y,v2,hy,hc2,rfl,hy1,hy2⟩:=SlOf.getZ (HB.out.ext rdU8.ext (HX3.out.trans hxr2)) hkl;have hw4:IntKind.i64.wrap x=x:=IntWalk.i64_in _ (by omega);have hw5:IntKind.i64.wrap y=y:=IntWalk.i64_in _ (by omega);have hw6:IntKind.i64.wrap (x+y)=x+y:=IntWalk.i64_in _ (by omega);have HGY:=dH (zEP hy);have HOW2:=dH how2;have HX4:=dH hxr2;have HMM:=dH hM;have M0:(0:Int)≤(M:Int):=by omega
      have hMq:M=q*B.length+k:=by rw [hM,HN.out]
      have HMQ:=dH hMq;clear hy how2 hxr2 hM hMq;by_cases hml:M<ms.length
      ·have m1:(M:Int)< (ms.length:Int):=by omega
       obtain⟨b3,o3,rfl⟩:=HM.out.head hml;obtain⟨mb,v3,hmb,hc3,rfl⟩:=SlOf.getZ (HM.out.ext (HX3.out.trans HX4.out)) hml;have HMK:=dH (zO1 (A:=A) (B:=B) (i:=q) (k:=k) (b:=mb) (by rw [←HMQ.out];exact hmb));clear hmb;cases mb
       ·have HMV:Hid (zLa A B ms q k=x+y):=dH (by rw [HMK.out,HGX.out,HGY.out];rfl);have HOW4:=dH (HOW2.out.ext zMm (Ext.alloc x4 (.cells #[.int .i64 (x+y)] 3)));have HX5:=dH (HX4.out.alloc' (.cells #[.int .i64 (x+y)] 3));clear HOW2
        go_wp2_with (at_builtin;refine zBR rfl (.tmp 80) (.tmp 82) 34 rfl Tryz.underlying34 HX5.out rfl HOW4.out rfl (Blk.new0 x4 _ _) (by omega) (by rw [zAP];omega) ?_;intro va vc w6 hown6 hx6 hg6)
        go_roundw
        case rel=>exact⟨k+1,M+1,by omega,by go_num,by go_num,by have:=HMM.out;omega,by rw [zAP] at hown6;rw [zBD,HMV.out];exact hown6,hx6⟩
        case measure=>simp [intOf];omega
       ·have HMV:Hid (zLa A B ms q k= -1):=dH (by rw [HMK.out];rfl);have HOW4:=dH (HOW2.out.ext zMm (Ext.alloc x4 (.cells #[.int .i64 (-1)] 3)));have HX5:=dH (HX4.out.alloc' (.cells #[.int .i64 (-1)] 3));clear HOW2
        go_wp2_with (at_builtin;refine zBR rfl (.tmp 80) (.tmp 82) 34 rfl Tryz.underlying34 HX5.out rfl HOW4.out rfl (Blk.new0 x4 _ _) (by omega) (by rw [zAP];omega) ?_;intro va vc w6 hown6 hx6 hg6)
        go_roundw
        case rel=>exact⟨k+1,M+1,by omega,by go_num,by go_num,by have:=HMM.out;omega,by rw [zAP] at hown6;rw [zBD,HMV.out];exact hown6,hx6⟩
        case measure=>simp [intOf];omega
      ·have m1:¬ (M:Int)< (ms.length:Int):=by omega
       have HMK:=dH (zMp (A:=A) (B:=B) (ms:=ms) (i:=q) (k:=k) (by rw [←HMQ.out];exact hml));have HMV:Hid (zLa A B ms q k=x+y):=dH (by rw [HMK.out,HGX.out,HGY.out]);have HOW4:=dH (HOW2.out.ext zMm (Ext.alloc x4 (.cells #[.int .i64 (x+y)] 3)));have HX5:=dH (HX4.out.alloc' (.cells #[.int .i64 (x+y)] 3));clear HOW2
       go_wp2_with (at_builtin;refine zBR rfl (.tmp 80) (.tmp 82) 34 rfl Tryz.underlying34 HX5.out rfl HOW4.out rfl (Blk.new0 x4 _ _) (by omega) (by rw [zAP];omega) ?_;intro va vc w6 hown6 hx6 hg6)
       go_roundw
       case rel=>exact⟨k+1,M+1,by omega,by go_num,by go_num,by have:=HMM.out;omega,by rw [zAP] at hown6;rw [zBD,HMV.out];exact hown6,hx6⟩
       case measure=>simp [intOf];omega
     ·have k1:¬ (k:Int)< (B.length:Int):=by omega
      obtain rfl:k=B.length:=by omega
      obtain⟨va2,vc2,e2,hs2⟩:=how2.sl;rw [zAP] at e2;subst e2;have HS2:Hid (zGT x4 (.slice va2 B.length vc2) (zIq A B ms q)):=dH ⟨va2,vc2,by rw [zHL],hs2⟩;have HLT2:=dH how2.lt;have HLT:=dH HOW.out.lt;have HOW4:=dH ((HOW.out.ext rdInts hxr2).ext rdInts (Ext.alloc x4 (.cells #[.slice va2 B.length vc2] 34)));have HX5:=dH ((HX3.out.trans hxr2).alloc' (.cells #[.slice va2 B.length vc2] 34));have HU5:Hid (zGT (x4.alloc (.cells #[.slice va2 B.length vc2] 34)) (.slice va2 B.length vc2) (zIq A B ms q)):=dH (rdInts.ext _ _ _ _ (Ext.alloc _ _) HS2.out);have HMM:Hid (M= (q+1)*B.length):=dH (by rw [hM,HN.out,Nat.add_mul,Nat.one_mul]);clear how2 hs2 hxr2 hM
      go_wp2_with (at_builtin;refine zCO rdInts rfl (.tmp 85) (.tmp 87) 22 34 rfl Tryz.underlying22 (z:=.slice none 0 0) rfl zL9 HX5.out rfl HOW4.out rfl (Blk.new0 x4 _ _) HU5.out (fun A n c e hn e2=>by simp only [Value.slice.injEq] at e;obtain⟨rfl,rfl,rfl⟩:=e;have h1:=(HLT2.out _ rfl).1;have h2:=(HLT.out _ e2).2;omega) (by rw [zAP];omega) ?_;intro va vc w6 hown6 hx6 hg6)
      go_roundw
      case rel=>exact⟨q+1,M,by omega,by go_num,rfl,HMM.out,by rw [zAP] at hown6;rw [zBD];exact hown6,hx6⟩
      case measure=>simp [intOf];omega
   ·have q1:¬ (q:Int)< (A.length:Int):=by omega
    obtain rfl:q=A.length:=by omega
    obtain⟨va,vc,e,-⟩:=how.form;rw [zAP] at e;subst e;have HR:Hid (Rows x3 va vc (exM A B ms)):=dH how.slice.2;have HRT:=dH (zIm va vc (exM A B ms) x3 HR.out);rw [zEi] at HRT;have HX3:=dH hxr;clear how hxr hN HX;go_wp2_with fail;refine HRT.out.mono ?_;rintro e x5 ⟨c,rfl,hc,hy⟩;replace HR:=dH (HR.out.ext hy);replace HX3:=dH (HX3.out.trans hy);clear hy HRT;cases c
    ·clear hc;go_wp2_with fail;go_ret;exact⟨rfl,HX3.out⟩
    ·have HRB:=dH (hc.1 rfl);clear hc;go_wp2_with fail
     go_loopw [9,95] (fun s i wr=>∃ (k:Nat) (S:Int),k≤B.length∧i=.int .i64 k∧s=.int .i64 S∧S= (B.take k).sum∧0≤S∧S≤255* (k:Int)∧x5=wr) (fun _ i _=>B.length - (intOf i).toNat)
     case atStart=>exact⟨0,0,Nat.zero_le _,rfl,rfl,rfl,by omega,by omega,rfl⟩
     case round=>
      obtain⟨k,S,hk,rfl,rfl,hS,hS0,hS1,rfl⟩:=hrel;have k0:(0:Int)≤(k:Int):=by omega
      by_cases hkl:k<B.length
      ·have k1:(k:Int)< (B.length:Int):=by omega
       have hw2:IntKind.i64.wrap ((k:Int)+1)= (k:Int)+1:=IntWalk.i64_in _ (by omega);obtain⟨b2,o2,rfl⟩:=HB.out.head hkl;obtain⟨y,v2,hy,hc2,rfl,hy1,hy2⟩:=SlOf.getZ (HB.out.ext rdU8.ext HX3.out) hkl;have hw5:IntKind.i64.wrap y=y:=IntWalk.i64_in _ (by omega);have hw6:IntKind.i64.wrap (S+y)=S+y:=IntWalk.i64_in _ (by omega);have HSS:Hid (S+y= (B.take (k+1)).sum):=dH (by rw [zAR hy,List.sum_append,List.sum_cons,List.sum_nil,Int.add_zero,hS]);clear hy hS;go_wp2_with fail;go_roundw
       case rel=>exact⟨k+1,S+y,by omega,by go_num,rfl,HSS.out,by omega,by omega,(by first | rfl | trivial)⟩
       case measure=>simp [intOf];omega
      ·have k1:¬ (k:Int)< (B.length:Int):=by omega
       have HSB:Hid (B.sum=S):=dH (by rw [hS,List.take_of_length_le (by omega)]);have hS2:S≤1020:=by omega
       clear hS hS1;go_upto_region 30 with fail;have h29:=Ext.alloc x5 (.cells #[.slice none 0 0,.slice none 0 0] 25);have HF0:=dH (Blk.new0 x5 #[.slice none 0 0,.slice none 0 0] 25);have HR6:=dH (HR.out.ext h29);have HX6:=dH (HX3.out.trans h29);have HPB:Hid (w.heap.size≤x5.heap.size):=dH HX3.out.size;have hp6:x5.heap.size< (x5.alloc (.cells #[.slice none 0 0,.slice none 0 0] 25)).heap.size:=by simp
       have HP6:=dH hp6;have H56:=dH h29;clear h29 hp6 HX3;generalize x5.alloc (.cells #[.slice none 0 0,.slice none 0 0] 25)=x6 at *;generalize hpb:x5.heap.size=pb at *;have HP5:=dH hpb;clear hpb;go_wp2_with fail
       go_loopw [106] (fun i wr=>∃q:Nat,q≤A.length∧i=.int .i64 q∧∃vv Kx,OwnRats wr x6.heap.size vv Kx ((List.range q).map (exQ A B))∧Blk wr pb #[vv,.slice none 0 0] 25∧x6.grownBy wr (some pb)) (fun i _=>A.length - (intOf i).toNat)
       case atStart=>exact⟨0,Nat.zero_le _,rfl,_,[],OwnRats.nil _ _,HF0.out,World.grownBy.refl _ _⟩
       case round=>
        obtain⟨q,hq,rfl,vv,Kx,ho,hb,hg⟩:=hrel;generalize wr=z at *;have q0:(0:Int)≤(q:Int):=by omega
        have hKl:Kx.length=q:=by have:=ho.len;rwa [zAP] at this
        obtain⟨va9,vc9,rfl,hvl,hvc⟩:=ho.form;have HO:=dH ho;have HFB:=dH hb;have HG:=dH hg;have HKL:=dH hKl;clear ho hb hg hKl;by_cases hqm:q<A.length
        ·have q1:(q:Int)< (A.length:Int):=by omega
         have hw1:IntKind.i64.wrap ((q:Int)+1)= (q:Int)+1:=IntWalk.i64_in _ (by omega);have hxr:Ext w z:=Below.grown HX6.out HG.out HX6.out.size (fun b e=>by cases e;exact HPB.out);obtain⟨b2,o2,rfl⟩:=HA.out.head hqm;obtain⟨y,v2,hy,hc2,rfl,hy1,hy2⟩:=SlOf.getZ (HA.out.ext rdU8.ext hxr) hqm;have hyJ:0≤y* (B.length:Int)∧y* (B.length:Int)≤1020:=by
          have:B.length=1∨B.length=2∨B.length=3∨B.length=4:=by omega
          rcases this with e | e | e | e <;> rw [e] <;> omega
         have hw5:IntKind.i64.wrap y=y:=IntWalk.i64_in _ (by omega);have hw6:IntKind.i64.wrap (y* (B.length:Int))=y* (B.length:Int):=IntWalk.i64_in _ (by omega);have hw7:IntKind.i64.wrap (y* (B.length:Int)+S)=y* (B.length:Int)+S:=IntWalk.i64_in _ (by omega);have HFQ:Hid (exQ A B q=Rat.divInt (y* (B.length:Int)+S) (B.length:Int)):=dH (by unfold exQ;rw [zEP hy,HSB.out]);have HXR:=dH hxr;have HRM:=dH (zMv (y* (B.length:Int)+S) (B.length:Int) z (by omega) (by omega) (by omega));rw [←HFQ.out] at HRM;clear hy hxr hyJ HFQ;go_wp2_with fail
         with_reducible refine HRM.out.mono ?_
         rintro e4 y1 ⟨v4,rfl,⟨n4,a4,q4,c4,b4',k4,d4,rfl,hv',hf',hg'⟩,hE1⟩;clear HRM hc2;go_upto_region 34 with fail;have hy2:=Ext.alloc y1 (.cells #[.bool n4,.slice a4 q4 c4,.bool false,.slice b4' k4 d4] 38);have HQB:=dH (Blk.new0 y1 #[.bool n4,.slice a4 q4 c4,.bool false,.slice b4' k4 d4] 38);have hE2:=hE1.trans hy2;have HV:=dH (RatV.ext hv' hy2);have HO2:=dH (HO.out.ext hE2);have HFB2:=dH (HFB.out.ext hE2);have hlt:=HO.out.lt;have HOFF:Hid (RatC.Off ⟨n4,a4,q4,c4,false,b4',k4,d4⟩ (Value.slice va9 Kx.length vc9).ownBlock):=dH ⟨fun _ A hA e=>by have:=hf' A hA;have:=(hlt _ e).2;omega,fun _ A hA e=>by have:=hg' A hA;have:=(hlt _ e).2;omega⟩;have HG2:=dH (HG.out.trans (zBu hE2 (some pb)));have HXR2:=dH (HXR.out.trans hE2);clear hy2 hE1 hE2 hv' hf' hg' hlt HO HFB HG HXR;generalize y1.alloc (.cells #[.bool n4,.slice a4 q4 c4,.bool false,.slice b4' k4 d4] 38)=y2 at *;generalize y1.heap.size=qb at *;obtain⟨s1,s2,s3,s4⟩:=bk4 HQB;have s0:=HFB2.out.cell (i:=0) (v:=.slice va9 Kx.length vc9) rfl;have hya:=Ext.alloc y2 (.cells #[.bool n4,.slice a4 q4 c4,.bool false,.slice b4' k4 d4] 38);have HBz:=dH (Blk.new0 y2 #[.bool n4,.slice a4 q4 c4,.bool false,.slice b4' k4 d4] 38);have HOa:=dH (HO2.out.ext hya);have HFa:=dH (HFB2.out.ext hya);have HVa:=dH (RatV.ext HV.out hya);have HGa:=dH (HG2.out.trans (zBu hya (some pb)));have HXa:=dH (HXR2.out.trans hya);have HZ8:Hid (x6.heap.size≤(y2.alloc (.cells #[.bool n4,.slice a4 q4 c4,.bool false,.slice b4' k4 d4] 38)).heap.size):=dH HGa.out.size;clear hya HO2 HFB2 HV HG2;have HOl:=dH (HOa.out.low (B':=w.heap.size) HX6.out.size)
         go_wp2_with (at_builtin;refine zB4 rfl (.tmp 124) (.tmp 126) rfl HXa.out rfl HOl.out rfl (x:=⟨n4,a4,q4,c4,false,b4',k4,d4⟩) (r:=exQ A B q) HBz.out HVa.out HOFF.out (by have:=HKL.out;omega) ?_;intro v' w3 hO' hE' hg' hat';obtain⟨ua,uc,hue,hul,huc⟩:=hO'.form;subst hue;rw [List.length_append,List.length_singleton] at *;obtain⟨hp1,hp2,hp3,hp4,hp5⟩:=zJK HOa.out hO' hg' hat' HFa.out (zA8 rfl) HZ8.out HGa.out)
         have HP1:=dH hp1;have HP2:=dH hp2;have HP3:=dH hp3;clear hp1 hp2 hp3 hO' hg' hat';go_roundw
         case rel=>exact⟨q+1,by omega,by go_num,_,_,by rw [zBD];exact HP1.out,HP2.out,HP3.out⟩
         case measure=>simp [intOf];omega
        ·have q1:¬ (q:Int)< (A.length:Int):=by omega
         obtain rfl:q=A.length:=by omega
         obtain⟨qa,qc,V7,e7,h7⟩:=HO.out.reads HKL.out (f:=exQ A B) (fun c hc=>zG0 _ hc);rw [e7] at HFB HO;have HQ7:=dH h7;have HX7:Hid (Ext w z):=dH (Below.grown HX6.out HG.out HX6.out.size (fun b e=>by cases e;exact HPB.out));have H57:Hid (Ext x5 z):=dH (Below.grown H56.out HG.out H56.out.size (fun b e=>by cases e;exact Nat.le_of_eq HP5.out));have HF7:=HFB;clear h7 e7 HO HFB HG hvl hvc hq q1 hqm H56 HX6 HF0 HR6 HKL HP6;generalize z=x7 at *;go_wp2_with fail
         go_loopw [132] (fun i wr=>∃q:Nat,q≤B.length∧i=.int .i64 q∧∃vv Kx,OwnRats wr x7.heap.size vv Kx ((List.range q).map (exX B))∧Blk wr pb #[.slice qa A.length qc,vv] 25∧x7.grownBy wr (some pb)) (fun i _=>B.length - (intOf i).toNat)
         case atStart=>exact⟨0,Nat.zero_le _,rfl,_,[],OwnRats.nil _ _,HF7.out,World.grownBy.refl _ _⟩
         case round=>
          obtain⟨q,hq,rfl,vv,Kx,ho,hb,hg⟩:=hrel;generalize wr=z at *;have q0:(0:Int)≤(q:Int):=by omega
          have hKl:Kx.length=q:=by have:=ho.len;rwa [zAP] at this
          obtain⟨va9,vc9,rfl,hvl,hvc⟩:=ho.form;have HO:=dH ho;have HFB:=dH hb;have HG:=dH hg;have HKL:=dH hKl;clear ho hb hg hKl;by_cases hqm:q<B.length
          ·have q1:(q:Int)< (B.length:Int):=by omega
           have hw1:IntKind.i64.wrap ((q:Int)+1)= (q:Int)+1:=IntWalk.i64_in _ (by omega);have hxr:Ext w z:=Below.grown HX7.out HG.out HX7.out.size (fun b e=>by cases e;exact HPB.out);obtain⟨b2,o2,rfl⟩:=HB.out.head hqm;obtain⟨y,v2,hy,hc2,rfl,hy1,hy2⟩:=SlOf.getZ (HB.out.ext rdU8.ext hxr) hqm;have hyJ:0≤y* (B.length:Int)∧y* (B.length:Int)≤1020:=by
            have:B.length=1∨B.length=2∨B.length=3∨B.length=4:=by omega
            rcases this with e | e | e | e <;> rw [e] <;> omega
           have hw5:IntKind.i64.wrap y=y:=IntWalk.i64_in _ (by omega);have hw6:IntKind.i64.wrap (y* (B.length:Int))=y* (B.length:Int):=IntWalk.i64_in _ (by omega);have hw7:IntKind.i64.wrap (y* (B.length:Int) - S)=y* (B.length:Int) - S:=IntWalk.i64_in _ (by omega);have HFQ:Hid (exX B q=Rat.divInt (y* (B.length:Int) - S) (B.length:Int)):=dH (by unfold exX;rw [zEP hy,HSB.out]);have HXR:=dH hxr;have HRM:=dH (zMv (y* (B.length:Int) - S) (B.length:Int) z (by omega) (by omega) (by omega));rw [←HFQ.out] at HRM;clear hy hxr hyJ HFQ;go_wp2_with fail
           with_reducible refine HRM.out.mono ?_
           rintro e4 y1 ⟨v4,rfl,⟨n4,a4,q4,c4,b4',k4,d4,rfl,hv',hf',hg'⟩,hE1⟩;clear HRM hc2;go_upto_region 40 with fail;have hy2:=Ext.alloc y1 (.cells #[.bool n4,.slice a4 q4 c4,.bool false,.slice b4' k4 d4] 38);have HQB:=dH (Blk.new0 y1 #[.bool n4,.slice a4 q4 c4,.bool false,.slice b4' k4 d4] 38);have hE2:=hE1.trans hy2;have HV:=dH (RatV.ext hv' hy2);have HO2:=dH (HO.out.ext hE2);have HFB2:=dH (HFB.out.ext hE2);have hlt:=HO.out.lt;have HOFF:Hid (RatC.Off ⟨n4,a4,q4,c4,false,b4',k4,d4⟩ (Value.slice va9 Kx.length vc9).ownBlock):=dH ⟨fun _ A hA e=>by have:=hf' A hA;have:=(hlt _ e).2;omega,fun _ A hA e=>by have:=hg' A hA;have:=(hlt _ e).2;omega⟩;have HG2:=dH (HG.out.trans (zBu hE2 (some pb)));have HXR2:=dH (HXR.out.trans hE2);clear hy2 hE1 hE2 hv' hf' hg' hlt HO HFB HG HXR;generalize y1.alloc (.cells #[.bool n4,.slice a4 q4 c4,.bool false,.slice b4' k4 d4] 38)=y2 at *;generalize y1.heap.size=qb at *;obtain⟨s1,s2,s3,s4⟩:=bk4 HQB;have s0:=HFB2.out.cell (i:=1) (v:=.slice va9 Kx.length vc9) rfl;have hya:=Ext.alloc y2 (.cells #[.bool n4,.slice a4 q4 c4,.bool false,.slice b4' k4 d4] 38);have HBz:=dH (Blk.new0 y2 #[.bool n4,.slice a4 q4 c4,.bool false,.slice b4' k4 d4] 38);have HOa:=dH (HO2.out.ext hya);have HFa:=dH (HFB2.out.ext hya);have HVa:=dH (RatV.ext HV.out hya);have HGa:=dH (HG2.out.trans (zBu hya (some pb)));have HXa:=dH (HXR2.out.trans hya);have HZ8:Hid (x7.heap.size≤(y2.alloc (.cells #[.bool n4,.slice a4 q4 c4,.bool false,.slice b4' k4 d4] 38)).heap.size):=dH HGa.out.size;clear hya HO2 HFB2 HV HG2;have HOl:=dH (HOa.out.low (B':=w.heap.size) HX7.out.size)
           go_wp2_with (at_builtin;refine zB4 rfl (.tmp 150) (.tmp 152) rfl HXa.out rfl HOl.out rfl (x:=⟨n4,a4,q4,c4,false,b4',k4,d4⟩) (r:=exX B q) HBz.out HVa.out HOFF.out (by have:=HKL.out;omega) ?_;intro v' w3 hO' hE' hg' hat';obtain⟨ua,uc,hue,hul,huc⟩:=hO'.form;subst hue;rw [List.length_append,List.length_singleton] at *;obtain⟨hp1,hp2,hp3,hp4,hp5⟩:=zJL HOa.out hO' hg' hat' HFa.out (zA8 rfl) HZ8.out HGa.out)
           have HP1:=dH hp1;have HP2:=dH hp2;have HP3:=dH hp3;clear hp1 hp2 hp3 hO' hg' hat';go_roundw
           case rel=>exact⟨q+1,by omega,by go_num,_,_,by rw [zBD];exact HP1.out,HP2.out,HP3.out⟩
           case measure=>simp [intOf];omega
          ·have q1:¬ (q:Int)< (B.length:Int):=by omega
           obtain rfl:q=B.length:=by omega
           obtain⟨xa,xc,V8,e8,h8⟩:=HO.out.reads HKL.out (f:=exX B) (fun c hc=>zG0 _ hc);rw [e8] at HFB HO;have HQ8:Hid (RowR z qa qc A.length V7 (exQ A B)):=dH (HQ7.out.grown HG.out (HQ7.out.offB a0 HF7.out (zNF (fun _ e=>by cases e) (fun _ e=>by cases e))) fun c hc=>(HQ7.out.val c hc).offB HF7.out (zA8 rfl));have HX8:=dH h8;have HR8:Hid (Rows z va vc (exM A B ms)):=dH (HR.out.ext (Below.grown H57.out HG.out H57.out.size (fun b e=>by cases e;exact Nat.le_of_eq HP5.out)));have hx:Ext w z:=Below.grown HX7.out HG.out HX7.out.size (fun b e=>by cases e;exact HPB.out);have HFT:=dH (zFw va vc (exM A B ms) A.length B.length (exQ A B) (exX B) z zEi (zD6 a0) HR8.out HRB.out (zNZ a0 b0));have HAK:=dH HRB.out.ask;have HOV:Hid (OvF B.length (2 ^ 12) B.length (exM A B ms).length (exQ A B) (exX B)):=dH (ex_ov b0 b4 (zMU HA.out) (zMU HB.out) _);have HLZ:Hid ((zAl (exM A B ms)).loss (exQ A B) (exX B)=0):=dH (zO0 a0 b0);clear h8 e8 HO HG hvl hvc hq q1 hqm H57 HX7 HF7 HR HKL HQ7 HP5;generalize z=x8 at *;go_wp2_with fail;refine HFT.out.mono ?_;rintro e x9 ⟨fa,fc,ga,gc,Vf,Vg,rfl,h1,h2,hy⟩;go_upto_region 43 with fail;have hl:=Ext.alloc x9 (.cells #[.slice fa A.length fc,.slice ga B.length gc] 25);have Kt:=dH (Blk.new0 x9 #[.slice fa A.length fc,.slice ga B.length gc] 25);have hpt:w.heap.size≤x9.heap.size:=(hx.trans hy).size;have hyl:=hy.trans hl;have HF1:=dH (h1.ext hl);have HF2:=dH (h2.ext hl);replace hx:=hx.trans hyl;have Kf:=dH (HFB.out.ext hyl);replace HQ8:=dH (HQ8.out.ext hyl);replace HX8:=dH (HX8.out.ext hyl);replace HR8:=dH (HR8.out.ext hyl);clear hl hyl hy h1 h2 HFB HFT;generalize x9.alloc (.cells #[.slice fa A.length fc,.slice ga B.length gc] 25)=x10 at *;generalize x9.heap.size=pt at *;have HLS:=dH (zGP va vc (exM A B ms) A.length B.length qa qc xa xc V7 V8 (exQ A B) (exX B) B.length 12 x10 HR8.out zEi (zD6 a0) HQ8.out HX8.out HAK.out HOV.out (by omega) (by omega));rw [HLZ.out] at HLS;obtain⟨c0,c1⟩:=bk2 Kf;go_wp2_with fail
           with_reducible refine HLS.out.mono ?_
           rintro e x11 ⟨v4,rfl,⟨n4,a4,q4,c4,b4',k4,d4,rfl,hv',hf',hg'⟩,hy⟩;have hq4:q4=0:=(BigV.len0 hv'.num).2 rfl;subst hq4;clear c0 c1 HLS;go_upto_region 44 with fail;have hl:=Ext.alloc x11 (.cells #[.bool n4,.slice a4 0 c4,.bool false,.slice b4' k4 d4] 38);have Kl:=dH (Blk.new0 x11 #[.bool n4,.slice a4 0 c4,.bool false,.slice b4' k4 d4] 38);have hyl:=hy.trans hl;have VL:=dH (RatV.ext hv' hl);replace hx:=hx.trans hyl;replace Kf:=dH (Kf.out.ext hyl);replace Kt:=dH (Kt.out.ext hyl);replace HQ8:=dH (HQ8.out.ext hyl);replace HX8:=dH (HX8.out.ext hyl);replace HF1:=dH (HF1.out.ext hyl);replace HF2:=dH (HF2.out.ext hyl);clear hl hyl hy hv' hf' hg' HR8;generalize x11.alloc (.cells #[.bool n4,.slice a4 0 c4,.bool false,.slice b4' k4 d4] 38)=x12 at *;generalize x11.heap.size=pl at *;have HSF:=zEv A.length B.length (exQ A B) (exX B);have HZ0:decide ((0:Rat)= ((0:Int):Rat))=true:=decide_eq_true (by decide +kernel);have s0:x12.cell? ⟨pt,0,none⟩=some (.slice fa A.length fc):=Kt.out.cell (i:=0) (v:=.slice fa A.length fc) rfl;have s1:x12.cell? ⟨pt,1,none⟩=some (.slice ga B.length gc):=Kt.out.cell (i:=1) (v:=.slice ga B.length gc) rfl;have s2:x12.cell? ⟨pb,0,none⟩=some (.slice qa A.length qc):=Kf.out.cell (i:=0) (v:=.slice qa A.length qc) rfl;have s3:x12.cell? ⟨pb,1,none⟩=some (.slice xa B.length xc):=Kf.out.cell (i:=1) (v:=.slice xa B.length xc) rfl;have s4:x12.cell? ⟨pl,0,none⟩=some (.bool n4):=Kl.out.cell (i:=0) (v:=.bool n4) rfl;have s5:x12.cell? ⟨pl,1,none⟩=some (.slice a4 0 c4):=Kl.out.cell (i:=1) (v:=.slice a4 0 c4) rfl;have s6:x12.cell? ⟨pl,2,none⟩=some (.bool false):=Kl.out.cell (i:=2) (v:=.bool false) rfl;have s7:x12.cell? ⟨pl,3,none⟩=some (.slice b4' k4 d4):=Kl.out.cell (i:=3) (v:=.slice b4' k4 d4) rfl;have hE:Ext x12 (World.drew x12):=(Ext.refl _).drew;have hyd:Ext x12 (World.drew x12):=(Ext.refl _).drew;replace hx:=hx.trans hyd;replace Kf:=kE Kf hyd;replace Kt:=kE Kt hyd;replace Kl:=kE Kl hyd;replace HQ8:=dH (HQ8.out.ext hyd);replace HX8:=dH (HX8.out.ext hyd);replace HF1:=dH (HF1.out.ext hyd);replace HF2:=dH (HF2.out.ext hyd);replace VL:=dH (VL.out.ext hyd);clear hyd;replace s0:World.cell? (World.drew x12) ⟨pt,0,none⟩=some (.slice fa A.length fc):=s0;replace s1:World.cell? (World.drew x12) ⟨pt,1,none⟩=some (.slice ga B.length gc):=s1;replace s2:World.cell? (World.drew x12) ⟨pb,0,none⟩=some (.slice qa A.length qc):=s2;replace s3:World.cell? (World.drew x12) ⟨pb,1,none⟩=some (.slice xa B.length xc):=s3;replace s4:World.cell? (World.drew x12) ⟨pl,0,none⟩=some (.bool n4):=s4;replace s5:World.cell? (World.drew x12) ⟨pl,1,none⟩=some (.slice a4 0 c4):=s5;replace s6:World.cell? (World.drew x12) ⟨pl,2,none⟩=some (.bool false):=s6;replace s7:World.cell? (World.drew x12) ⟨pl,3,none⟩=some (.slice b4' k4 d4):=s7;refine wp_region_held_drew (S:=(fun w'=>w'.cell? ⟨pt,0,none⟩=some (.slice fa A.length fc)∧w'.cell? ⟨pt,1,none⟩=some (.slice ga B.length gc)∧w'.cell? ⟨pb,0,none⟩=some (.slice qa A.length qc)∧w'.cell? ⟨pb,1,none⟩=some (.slice xa B.length xc)∧w'.cell? ⟨pl,0,none⟩=some (.bool n4)∧w'.cell? ⟨pl,1,none⟩=some (.slice a4 0 c4)∧w'.cell? ⟨pl,2,none⟩=some (.bool false)∧w'.cell? ⟨pl,3,none⟩=some (.slice b4' k4 d4))) (by kernel_rfl) ?_ (fun hHeld=>?_)
           ·exact⟨s0,s1,s2,s3,s4,s5,s6,s7⟩
           (try simp only [pur,Nat.reduceAdd])
           generalize World.drew x12=x13 at *
           iterate 9
            refine tkR [0,1,2,3,4,5,6,7,8] (v:=?_) rfl rfl (by kernel_rfl) (fun _ _ _ h=>h) (by rfl) ?_ (by assumption) ?_;rotate_left
            ·(intro w hSw;(try dsimp only at hSw);(try go_simp);(try with_reducible rfl))
            (try simp only [Act.put,pus])
           repeat' first
            | (refine tkR [10,11,12,13,14,15,16,17,18,19,22,23] (v:=?_) rfl rfl (by decide +kernel) (fun _ _ _ h=>h) (by rfl) ?_ (by assumption) ?_
               rotate_left
               ·(intro w hSw;(try dsimp only at hSw);(try go_simp);(try with_reducible rfl))
               (try simp only [Act.put,pus]))
            | (refine wpAnyH_done (by decide +kernel) ?_ _
               go_wp2_with fail;go_ret
               exact⟨rfl,hx⟩)
            | (refine rdR [9,20,21] (by decide +kernel) (zAE ?_ (zAE ?_ (zAE ?_ zGq)))
               first
               | exact noR (by decide +kernel)
               | (refine isR (o:=_) rfl (fun K hK=>?_)
                  go_simp
                  (with_reducible refine(zEg _ _ _ _ _ _ _ _ A.length A.length B.length B.length _ _ _ _ _ _ _ _ _ HF1.out HF2.out HQ8.out HX8.out).mono ?_);rintro e x14 ⟨rfl,hy⟩;replace hE:=hE.trans hy;replace hx:=hx.trans hy;replace s0:=zA0 hy s0;replace s1:=zA0 hy s1;replace s2:=zA0 hy s2;replace s3:=zA0 hy s3;replace s4:=zA0 hy s4;replace s5:=zA0 hy s5;replace s6:=zA0 hy s6;replace s7:=zA0 hy s7;replace Kf:=kE Kf hy;replace Kt:=kE Kt hy;replace Kl:=kE Kl hy;replace HQ8:=dH (HQ8.out.ext hy);replace HX8:=dH (HX8.out.ext hy);replace HF1:=dH (HF1.out.ext hy);replace HF2:=dH (HF2.out.ext hy);replace VL:=dH (VL.out.ext hy);clear hy;rw [HSF]
                  rotate_left)
               first
               | exact noR (by decide +kernel)
               | (refine isR (o:=_) rfl (fun K hK=>?_)
                  go_simp
                  (with_reducible refine(zDW 0 _ (by omega)).mono ?_);rintro e x15 ⟨v0,rfl,hv,hy⟩;replace hE:=hE.trans hy;replace hx:=hx.trans hy;replace s0:=zA0 hy s0;replace s1:=zA0 hy s1;replace s2:=zA0 hy s2;replace s3:=zA0 hy s3;replace s4:=zA0 hy s4;replace s5:=zA0 hy s5;replace s6:=zA0 hy s6;replace s7:=zA0 hy s7;replace Kf:=kE Kf hy;replace Kt:=kE Kt hy;replace Kl:=kE Kl hy;replace HQ8:=dH (HQ8.out.ext hy);replace HX8:=dH (HX8.out.ext hy);replace HF1:=dH (HF1.out.ext hy);replace HF2:=dH (HF2.out.ext hy);replace VL:=dH (VL.out.ext hy);clear hy;obtain⟨n0,aq0,q0,c0,bq0,k0,d0,rfl,hv',hf',hg'⟩:=hv;have V0:=dH hv';clear hv' hf' hg'
                  rotate_left)
               first
               | exact noR (by decide +kernel)
               | (refine isR (o:=_) rfl (fun K hK=>?_)
                  go_simp
                  (with_reducible refine(zEK VL.out V0.out).mono ?_);rintro e x16 ⟨rfl,hy⟩;replace hE:=hE.trans hy;replace hx:=hx.trans hy;replace s0:=zA0 hy s0;replace s1:=zA0 hy s1;replace s2:=zA0 hy s2;replace s3:=zA0 hy s3;replace s4:=zA0 hy s4;replace s5:=zA0 hy s5;replace s6:=zA0 hy s6;replace s7:=zA0 hy s7;replace Kf:=kE Kf hy;replace Kt:=kE Kt hy;replace Kl:=kE Kl hy;replace HQ8:=dH (HQ8.out.ext hy);replace HX8:=dH (HX8.out.ext hy);replace HF1:=dH (HF1.out.ext hy);replace HF2:=dH (HF2.out.ext hy);replace VL:=dH (VL.out.ext hy);replace V0:=dH (V0.out.ext hy);clear hy;rw [HZ0]
                  rotate_left)
               all_goals (
                refine hK.out _ _ ?_ ?_
                ·exact⟨s0,s1,s2,s3,s4,s5,s6,s7⟩
                clear hK K hHeld;intro hHeld
                (try simp only [Act.put,pus])))
 ·have HX:=dH hx;clear hx;by_cases a1:A.length=0
  ·have i1:((A.length:Int) == 0)=true:=by simp only [beq_iff_eq];omega
   go_wp2_with fail;go_ret;exact⟨rfl,HX.out⟩
  ·have i1:((A.length:Int) == 0)=false:=by simp only [beq_eq_false_iff_ne];omega
   by_cases a2:6<A.length
   ·have i2:(6:Int)< (A.length:Int):=by omega
    go_wp2_with fail;go_ret;exact⟨rfl,HX.out⟩
   ·have i2:¬ (6:Int)< (A.length:Int):=by omega
    by_cases a3:B.length=0
    ·have i3:((B.length:Int) == 0)=true:=by simp only [beq_iff_eq];omega
     go_wp2_with fail;go_ret;exact⟨rfl,HX.out⟩
    ·have i3:((B.length:Int) == 0)=false:=by simp only [beq_eq_false_iff_ne];omega
     have i4:(4:Int)< (B.length:Int):=by omega
     go_wp2_with fail
     all_goals (go_ret;exact⟨rfl,HX.out⟩)
end Go.Proofs.YtonkhcdmchidjaaGreat
