import Derived.Test.YtonkhcdmchidjaaGreatY3
set_option maxHeartbeats 16000000
namespace Go.Proofs.YtonkhcdmchidjaaGreat
open Go.RowKit Go BigFrame Go.Shelf
set_option maxRecDepth 100000
set_option linter.all false
attribute [local go_sem] Oper.semAt_some
theorem zK7 (fp:FuncId) (caps:Array Value) (B:List Bool→Bool) (a:Option Addr) (cap:Nat) (m:List (List Bool)) (w:World) (h:BRows w a cap m) (hen:∀args w,(callFunc fp args).run Tryz.prog w=.ok (.enter fp args) w)
 (hp:∀a cap x,x∈m→Bools w a cap x→Calls Tryz.prog fp (#[.slice a x.length cap] ++ caps) w fun e W'=>e=.returned (.bool (B x))∧w=W') (hn:m.any B=false):
 Calls Tryz.prog 203 #[.slice a m.length cap,.func (.func fp) #[] caps] w fun e w'=>e=.returned (.int .i64 (-1))∧w=w':=by
 have hle:=h.le;have hmx:=h.mx;have HN:=dH hn;have HP:=dH hp;have HEN:=dH hen;clear hn hp hen;go_enter Tryz.func203,Tryz.ntmps203;go_wp2_with fail
 go_loop [8] (fun i=>∃k:Nat,k≤m.length∧i=.int .i64 k) (fun i=>m.length - (intOf i).toNat)
 case atStart=>exact⟨0,Nat.zero_le _,rfl⟩
 case round=>
  obtain⟨k,hk,rfl⟩:=hrel;by_cases hkn:k<m.length
  ·obtain⟨b,o,rfl⟩:=h.head hkn;obtain⟨x,a2,cap2,hx,hc,hI⟩:=BRows.get h hkn;have hmem:=List.mem_of_getElem? hx;have ho:B x=false:=by
    have:=List.any_eq_false.1 HN.out x hmem
    simpa using this
   have hO:=HP.out a2 cap2 x hmem hI;rw [ho] at hO;have HO:=dH hO;have g1:(0:Int)≤(k:Int):=by omega
   have g2:(k:Int)< (m.length:Int):=by omega
   clear hx hO ho hmem;have hen:=HEN.out;go_wp2_with fail;refine HO.out.mono ?_;rintro e w' ⟨rfl,rfl⟩;go_wp2_with fail
   go_round
   case rel=>exact⟨k+1,by omega,by go_num⟩
   case measure=>simp [intOf];omega
  ·obtain rfl:k=m.length:=by omega
   go_wp2_with fail;go_ret;exact⟨rfl,rfl⟩
theorem zK8 (fp:FuncId) (caps:Array Value) (B:List Bool→Bool) (a:Option Addr) (cap:Nat) (m:List (List Bool)) (w:World) (h:BRows w a cap m) (hen:∀args w,(callFunc fp args).run Tryz.prog w=.ok (.enter fp args) w)
 (hp:∀a cap x,x∈m→Bools w a cap x→Calls Tryz.prog fp (#[.slice a x.length cap] ++ caps) w fun e W'=>e=.returned (.bool (B x))∧w=W') (hn:m.any B=true):
 Calls Tryz.prog 203 #[.slice a m.length cap,.func (.func fp) #[] caps] w (zK3 w):=by
 have hle:=h.le;have hmx:=h.mx;have HN:=dH hn;have HP:=dH hp;have HEN:=dH hen;clear hn hp hen;go_enter Tryz.func203,Tryz.ntmps203;go_wp2_with fail
 go_loop [8] (fun i=>∃k:Nat,k≤m.length∧i=.int .i64 k∧(m.take k).any B=false) (fun i=>m.length - (intOf i).toNat)
 case atStart=>exact⟨0,Nat.zero_le _,rfl,rfl⟩
 case round=>
  obtain⟨k,hk,rfl,hno⟩:=hrel;have HNO:=dH hno;clear hno;by_cases hkn:k<m.length
  ·obtain⟨b,o,rfl⟩:=h.head hkn;obtain⟨x,a2,cap2,hx,hc,hI⟩:=BRows.get h hkn;have hmem:=List.mem_of_getElem? hx;have hO:=HP.out a2 cap2 x hmem hI;have hT:=dH (zB0 hx);have g1:(0:Int)≤(k:Int):=by omega
   have g2:(k:Int)< (m.length:Int):=by omega
   clear hx hmem
   cases ho:B x with
   | false=>
    rw [ho] at hO;have HO:=dH hO;have Ho:=dH ho;clear ho hO;have hen:=HEN.out;go_wp2_with fail;refine HO.out.mono ?_;rintro e w' ⟨rfl,rfl⟩;go_wp2_with fail
    go_round
    case rel=>exact⟨k+1,by omega,by go_num,by rw [hT.out,List.any_append,HNO.out];simp [Ho.out]⟩
    case measure=>simp [intOf];omega
   | true=>
    rw [ho] at hO;have HO:=dH hO;clear ho hO;have hen:=HEN.out;go_wp2_with fail;refine HO.out.mono ?_;rintro e w' ⟨rfl,rfl⟩;go_wp2_with fail;go_ret;exact⟨k,rfl,rfl⟩
  ·obtain rfl:k=m.length:=by omega
   exfalso;have:=HNO.out;rw [List.take_length,HN.out] at this;cases this
theorem zH7 (fp:FuncId) (caps:Array Value) (B:List Bool→Bool) (a:Option Addr) (cap:Nat) (m:List (List Bool)) (w:World) (h:BRows w a cap m) (hen:∀args w,(callFunc fp args).run Tryz.prog w=.ok (.enter fp args) w)
 (hp:∀a cap x,x∈m→Bools w a cap x→Calls Tryz.prog fp (#[.slice a x.length cap] ++ caps) w fun e W'=>e=.returned (.bool (B x))∧w=W'):
 Calls Tryz.prog 172 #[.slice a m.length cap,.func (.func fp) #[] caps] w fun e w'=>e=.returned (.bool (m.any B))∧w=w':=by
 have hle:=h.le;have hmx:=h.mx
 cases hn:m.any B with
 | false=>
  have HI:=dH (zK7 fp caps B a cap m w h hen hp hn);clear hn hen hp;go_enter Tryz.func172,Tryz.ntmps172
  go_wp2_with (go_at_call 203;refine HI.out.mono ?_;rintro e w' ⟨rfl,rfl⟩)
  go_ret;exact⟨rfl,rfl⟩
 | true=>
  have HI:=dH (zK8 fp caps B a cap m w h hen hp hn);clear hn hen hp;go_enter Tryz.func172,Tryz.ntmps172
  go_wp2_with (go_at_call 203;refine HI.out.mono ?_;rintro e w' ⟨i,rfl,rfl⟩)
  go_ret;exact⟨rfl,rfl⟩
structure zNy (m:List (List Bool)) (n:Nat):Prop where
 ents:m.length≤64
 wide:n≤16
 row:∀r∈m,r.length=n
theorem zFC (a:Option Addr) (cap:Nat) (m:List (List Bool)) (n:Nat) (w:World) (h:BRows w a cap m) (ht:zNy m n) (h0:0<m.length):Calls Tryz.prog 161 #[.slice a m.length cap] w fun e w'=>e=.returned (.int .i64 n)∧w=w':=by
 have hle:=h.le;have hmx:=h.mx;obtain⟨b,o,rfl⟩:=h.head h0;obtain⟨r,ar,cr,hr,hc,hI⟩:=BRows.get h h0;simp only [Nat.add_zero] at hc;have hl:=ht.row r (List.mem_of_getElem? hr);have e1:((m.length:Int) == 0)=false:=by rw [beq_eq_false_iff_ne];omega
 have g1:(0:Int)< (m.length:Int):=by omega
 have HL:=dH hl;clear hr hI hl ht h;go_enter Tryz.func161,Tryz.ntmps161;go_wp2_with fail;go_ret;exact⟨by rw [HL.out];rfl,rfl⟩
theorem zJ8 (a:Option Addr) (n cap:Nat) (w:World) (h:n≤16):Calls Tryz.prog 170 #[.slice a n cap] w fun e w'=>e=.returned (.bool false)∧w=w':=by
 have d1:decide ((16:Int)< (n:Int))=false:=decide_eq_false (by omega);have d2:¬16<n:=by omega
 go_enter Tryz.func170,Tryz.ntmps170;go_wp2_with fail;go_ret;exact⟨zBM (by first | rfl | (rw [decide_eq_false d2]) | simp [d2]),rfl⟩
theorem zK9 (ar:Option Addr) (n cr:Nat) (Bm:Nat) (a:Option Addr) (cap:Nat) (m:List (List Bool)) (w:World) (h:BRows w a cap m) (ht:zNy m n) (h0:0<m.length) (hb:Blk w Bm #[.slice a m.length cap] 64):
 Calls Tryz.prog 171 #[.slice ar n cr,.pointer (some ⟨Bm,0,none⟩)] w fun e w'=>e=.returned (.bool false)∧w=w':=by
 have c0:=hb.cell (i:=0) rfl;have HW:=dH (zFC a cap m n w h ht h0);have e1:((n:Int) != (n:Int))=false:=by simp
 clear h ht hb;go_enter Tryz.func171,Tryz.ntmps171;go_wp2_with fail;refine HW.out.mono ?_;rintro e w' ⟨rfl,rfl⟩;go_wp2_with fail;go_ret;exact⟨zBM (by first | rfl | exact e1),rfl⟩
theorem zHV (w:World):Calls Tryz.prog 118 #[.int .i64 0] w fun e w'=>e=.returned (.tuple #[])∧Ext w w':=by
 have hx:=Ext.refl w;go_enter Tryz.func118,Tryz.ntmps118;go_wp2_with fail
 go_end0
 exact⟨rfl,hx⟩
theorem zHW (a:Option Addr) (cap:Nat) (m:List (List Bool)) (n:Nat) (w:World) (h:BRows w a cap m) (ht:zNy m n) (h0:0<m.length):Calls Tryz.prog 119 #[.slice a m.length cap] w fun e w'=>e=.returned (.int .i64 0)∧Ext w w':=by
 have hmf:∀ (fn:Fn) (first cap:Array Value) (w:World),(Instr.makeFunc fn first cap).run Tryz.prog w=.ok (.func fn first cap) w:=fun _ _ _ _=>rfl;have hle:=h.le;have hmx:=h.mx;obtain⟨x1,hw,hx,Kb⟩:=zCh w #[.slice a m.length cap] 64;replace hw:=dH hw;have t1:decide ((64:Int)< (m.length:Int))=false:=decide_eq_false (by have:=ht.ents;omega);have hen1:∀args w,(callFunc 170 args).run Tryz.prog w=.ok (.enter 170 args) w:=fun _ _=>rfl;have hen2:∀args w,(callFunc 171 args).run Tryz.prog w=.ok (.enter 171 args) w:=fun _ _=>rfl;have hany:m.any (fun _=>false)=false:=by rw [List.any_eq_false];intro x _;simp
 have HC1:=dH (zH7 170 #[] (fun _=>false) a cap m x1 (h.ext hx) hen1 (fun a c x hxm _=>zJ8 a x.length c x1 (by rw [ht.row x hxm];exact ht.wide)));have HC2:=dH (zH7 171 #[.pointer (some ⟨w.heap.size,0,none⟩)] (fun _=>false) a cap m x1 (h.ext hx) hen2 (fun a2 c2 x hxm _=>by rw [ht.row x hxm];exact zK9 a2 n c2 w.heap.size a cap m x1 (h.ext hx) ht h0 Kb.out));rw [hany] at HC1 HC2;have HX:=dH hx;have c0:=Kb.out.cell (i:=0) rfl;clear h ht hx hen1 hen2 hany;go_enter Tryz.func119,Tryz.ntmps119;go_upto_region 1 with fail;rw [hw.out];clear hw;go_wp2_with fail;refine HC1.out.mono ?_;rintro e x2 ⟨rfl,rfl⟩;go_wp2_with fail;refine HC2.out.mono ?_;rintro e x2 ⟨rfl,rfl⟩;go_wp2_with fail;go_ret;exact⟨rfl,HX.out⟩
def FoB (w:World) (F:Nat) (up:Nat→Nat) (N:Nat) (parts:Int):Prop:=∃cs,Blk w F cs 157∧cs.size=81∧N≤80∧(∀i,i<N→cs[i]? =some (.int .i64 (up i)))∧cs[80]? =some (.int .i64 parts)
section
variable {w w':World} {F N:Nat} {up:Nat→Nat} {parts:Int}
theorem FoB.lt (h:FoB w F up N parts):F<w.heap.size:=by obtain⟨cs,hb,_⟩:=h;exact hb.lt
theorem FoB.ext (h:FoB w F up N parts) (k:Ext w w'):FoB w' F up N parts:=by obtain⟨cs,hb,h⟩:=h;exact⟨cs,hb.ext k,h⟩
theorem FoB.at (h:FoB w F up N parts) {i:Nat} (hi:i<N):w.cell? ⟨F,i,none⟩=some (.int .i64 (up i)):=by obtain⟨cs,hb,_,_,hc,_⟩:=h;exact hb.cell (hc i hi)
theorem FoB.atP (h:FoB w F up N parts):w.cell? ⟨F,80,none⟩=some (.int .i64 parts):=by obtain⟨cs,hb,_,_,_,hp⟩:=h;exact hb.cell hp
theorem FoB.free (h:FoB w F up N parts) (i:Nat):w.frozen? ⟨F,i,none⟩=false:=by obtain⟨cs,hb,_⟩:=h;exact hb.free i
theorem FoB.put (h:FoB w F up N parts) {i:Nat} (hi:i<N) (x:Nat):FoB (w.setCell ⟨F,i,none⟩ (.int .i64 x)) F (zDi up i x) N parts:=by
 obtain⟨cs,hb,hs,hN,hc,hp⟩:=h;refine⟨_,hb.set i (.int .i64 x),by simp [hs],hN,fun j hj=>?_,?_⟩
 ·unfold zDi;by_cases e:j=i
  ·subst e;rw [if_pos rfl];exact zBC (by omega)
  ·rw [if_neg e,Array.getElem?_setIfInBounds,if_neg (fun h=>e h.symm)];exact hc j hj
 ·rw [Array.getElem?_setIfInBounds,if_neg (by omega)];exact hp
theorem FoB.putP (h:FoB w F up N parts) (x:Int):FoB (w.setCell ⟨F,80,none⟩ (.int .i64 x)) F up N x:=by
 obtain⟨cs,hb,hs,hN,hc,hp⟩:=h;refine⟨_,hb.set 80 (.int .i64 x),by simp [hs],hN,fun j hj=>?_,zBC (by omega)⟩;rw [Array.getElem?_setIfInBounds,if_neg (by omega)];exact hc j hj
theorem FoB.n80 (h:FoB w F up N parts):N≤80:=by obtain⟨cs,hb,hs,hN,_⟩:=h;exact hN
end
def zNY (F N:Nat) (up lab rk:Nat→Nat) (parts:Int) (n:Nat) (w:World) (e:Ending) (w':World):Prop:=∃up',e=.returned (.int .i64 (lab n:Nat))∧FoX N up' lab rk∧FoB w' F up' N parts∧zAf up' N=zAf up N∧w.grownBy w' (some F)
theorem zEO (F N n:Nat) (up lab rk:Nat→Nat) (parts:Int) (w:World) (h:FoB w F up N parts) (hf:FoX N up lab rk) (hn:n<N):Calls Tryz.prog 205 #[.pointer (some ⟨F,0,none⟩),.int .i64 n] w (zNY F N up lab rk parts n w):=by
 have hN:=h.n80;have HH:=dH h;have HF:=dH hf;clear h hf;go_enter Tryz.func205,Tryz.ntmps205;go_wp2_with fail
 go_loopw [1] (fun v wr=>∃q:Nat,q<N∧v=.int .i64 q∧lab q=lab n∧∃up',FoX N up' lab rk∧FoB wr F up' N parts∧zAf up' N=zAf up N∧w.grownBy wr (some F)) (fun v _=>rk (intOf v).toNat)
 case atStart=>exact⟨n,hn,rfl,rfl,up,HF.out,HH.out,rfl,World.grownBy.refl _ _⟩
 case round=>
  obtain⟨q,hq,rfl,hlq,up',hfo,hfb,hrt,hg⟩:=hrel;generalize wr=w1 at *;have q0:(0:Int)≤(q:Int):=by omega
  have q8:(q:Int)<80:=by omega
  have c0:=hfb.at hq;have HFO:=dH hfo;have HFB:=dH hfb;have HRT:=dH hrt;have HG:=dH hg;have HLQ:=dH hlq;by_cases hr:up' q=q
  ·have t1:(((up' q:Nat):Int) != (q:Int))=false:=by simp [hr]
   have hlab:lab n=q:=by rw [←hlq];exact hfo.root q hq hr
   have HP:Hid (zNY F N up lab rk parts n w (.returned (.int .i64 (q:Nat))) w1):=dH ⟨up',by rw [hlab],hfo,hfb,hrt,hg⟩;clear hfo hfb hrt hg hlq hr hlab;go_wp2_with fail;go_ret;exact HP.out
  ·have t1:(((up' q:Nat):Int) != (q:Int))=true:=by simp;omega
   have hp:=hfo.lt q hq;have HHF:=dH (hfo.half hq hr)
   have HDEC:Hid (rk (up' (up' q))<rk q):=dH (by
    have d1:=hfo.dec q hq hr;by_cases e:up' (up' q)=up' q
    ·rw [e];exact d1
    ·have:=hfo.dec _ hp e;omega)
   have HLB:Hid (lab (up' (up' q))=lab n):=dH (by rw [hfo.same _ hp,hfo.same q hq,hlq]);have HLT:=dH (hfo.lt _ hp);have HRH:=dH (hfo.roots_half hq hr);have p0:(0:Int)≤((up' q:Nat):Int):=by omega
   have p8:((up' q:Nat):Int)<80:=by omega
   have c1:=hfb.at hp;have HQN:=dH hr;clear hfo hrt hg hlq hr;go_upto_region 2 with fail;have hyd:Ext w1 (World.drew w1):=(Ext.refl _).drew;have hf9:=HFB.out.ext hyd;replace c0:=hf9.at hq;replace c1:=hf9.at hp;have f0:=hf9.free q;have HPUT:=dH (hf9.put hq (up' (up' q)));have HG9:Hid (w.grownBy ((World.drew w1).setCell ⟨F,q,none⟩ (.int .i64 (up' (up' q):Nat))) (some F)):=dH (zB6 (zB6 HG.out ⟨hyd.os,hyd.tape,hyd.output,hyd.size,fun k hk _=>hyd.block k hk⟩) (zAa _ F q _));clear hyd hf9 HFB HG hfb;refine wp_region_held_drew (S:=(fun _=>True)) (by kernel_rfl) ?_ (fun hHeld=>?_)
   ·trivial
   (try simp only [pur,Nat.reduceAdd])
   generalize World.drew w1=x9 at *
   iterate 12
    refine tkR [0,1,2,3,4,5,6,7,9,10,13,14] (v:=?_) rfl rfl (by kernel_rfl) (fun _ _ _ h=>h) (by rfl) ?_ (by assumption) ?_;rotate_left
    ·(intro w hSw;(try dsimp only at hSw);(try go_simp);(try with_reducible rfl))
    (try simp only [Act.put,pus])
   repeat' first
    | (refine tkR [11,15] (v:=?_) rfl rfl (by decide +kernel) (fun _ _ _ h=>h) (by rfl) ?_ (by assumption) ?_
       rotate_left
       ·(intro w hSw;(try dsimp only at hSw);(try go_simp);(try with_reducible rfl))
       (try simp only [Act.put,pus]))
    | (refine wpAnyH_done (by decide +kernel) ?_ _
       go_wp2_with fail
       exact⟨⟨up' (up' q),HLT.out,rfl,HLB.out,_,HHF.out,HPUT.out,HRH.out.trans HRT.out,HG9.out⟩,by simpa [intOf] using HDEC.out⟩)
    | (refine rdR [8,12,16] (by decide +kernel) (zAt ?_ (zAt ?_ (zAt ?_ zFw)))
       iterate 3
        first
        | exact noR (by decide +kernel)
        | (refine isR (o:=_) rfl (fun K hK=>?_)
           go_simp
           rotate_left)
       all_goals (
        refine hK.out _ _ ?_ ?_
        ·trivial
        clear hK K hHeld;intro hHeld
        (try simp only [Act.put,pus])))
def zMZ (F N:Nat) (up lab rk:Nat→Nat) (parts:Int) (a b:Nat) (w:World) (e:Ending) (w':World):Prop:=∃up',FoX N up' lab rk∧zAf up' N=zAf up N∧
 ((lab a=lab b∧e=.returned (.bool false)∧FoB w' F up' N parts∧w.grownBy w' (some F))∨(lab a≠lab b∧e=.returned (.bool true)∧FoB w' F (zDi up' (lab b) (lab a)) N (parts - 1)∧w.grownBy w' (some F)))
theorem zHX (F N a b:Nat) (up lab rk:Nat→Nat) (parts:Int) (w:World) (h:FoB w F up N parts) (hf:FoX N up lab rk) (ha:a<N) (hb:b<N) (hp:-1000≤parts∧parts≤1000):Calls Tryz.prog 174 #[.pointer (some ⟨F,0,none⟩),.int .i64 a,.int .i64 b] w (zMZ F N up lab rk parts a b w):=by
 have hN:=h.n80;have HH:=dH h;have HF:=dH hf;clear h hf;go_enter Tryz.func174,Tryz.ntmps174;go_wp2_with fail;refine(zEO F N a up lab rk parts w HH.out HF.out ha).mono ?_;rintro e w1 ⟨up1,rfl,hf1,hb1,hr1,hg1⟩;have HF1:=dH hf1;have HB1:=dH hb1;have HR1:=dH hr1;have HG1:=dH hg1;clear hf1 hb1 hr1 hg1;go_wp2_with fail;refine(zEO F N b up1 lab rk parts w1 HB1.out HF1.out hb).mono ?_;rintro e w2 ⟨up2,rfl,hf2,hb2,hr2,hg2⟩;have HG2:=dH (zB6 HG1.out hg2);have HR2:=dH (hr2.trans HR1.out);have HF2:=dH hf2;obtain⟨la1,la2⟩:=HF.out.end' a ha;obtain⟨lb1,lb2⟩:=HF.out.end' b hb;by_cases he:lab a=lab b
 ·have t1:(((lab a:Nat):Int) == ((lab b:Nat):Int))=true:=by simp [he]
  have HP:Hid (zMZ F N up lab rk parts a b w (.returned (.bool false)) w2):=dH ⟨up2,hf2,HR2.out,.inl ⟨he,rfl,hb2,HG2.out⟩⟩;clear hf2 hb2 hr2 hg2 he la2 lb2;go_wp2_with fail;go_ret;exact HP.out
 ·have t1:(((lab a:Nat):Int) == ((lab b:Nat):Int))=false:=by rw [beq_eq_false_iff_ne];omega
  have b0:(0:Int)≤((lab b:Nat):Int):=by omega
  have b8:((lab b:Nat):Int)<80:=by omega
  have c0:=hb2.at lb1;have f0:=hb2.free (lab b);have h3:=hb2.put lb1 (lab a);have c1:=h3.atP;have f1:=h3.free 80;have h4:=h3.putP (parts - 1);have hw1:IntKind.i64.wrap (parts - 1)=parts - 1:=IntWalk.i64_in _ (by omega);have HP:Hid (zMZ F N up lab rk parts a b w (.returned (.bool true)) ((w2.setCell ⟨F,lab b,none⟩ (.int .i64 (lab a:Nat))).setCell ⟨F,80,none⟩ (.int .i64 (parts - 1)))):=dH ⟨up2,hf2,HR2.out,.inr ⟨he,rfl,h4,zB6 (zB6 HG2.out (zAa _ F _ _)) (zAa _ F _ _)⟩⟩;clear hf2 hb2 hr2 hg2 he la2 lb2 h3 h4;go_wp2_with fail;go_ret;exact HP.out
theorem zKa (a:Option Addr) (cap:Nat) (l:List Int) (x:Int) (w:World) (h:Ints w a cap l):Calls Tryz.prog 204 #[.slice a l.length cap,.int .i64 x] w fun e w'=>(∃k:Int,e=.returned (.int .i64 k)∧decide (0≤k)=l.contains x)∧w=w':=by
 have hle:=h.le;have hmx:=h.mx;go_enter Tryz.func204,Tryz.ntmps204;go_wp2_with fail
 go_loop [8] (fun i=>∃k:Nat,k≤l.length∧i=.int .i64 k∧(l.take k).contains x=false) (fun i=>l.length - (intOf i).toNat)
 case atStart=>exact⟨0,Nat.zero_le _,rfl,rfl⟩
 case round=>
  obtain⟨k,hk,rfl,hno⟩:=hrel;have g1:(0:Int)≤(k:Int):=by omega
  by_cases hkn:k<l.length
  ·obtain⟨b,o,rfl⟩:=h.head hkn;obtain⟨y,hy,hc,_⟩:=Ints.get h hkn;have g2:(k:Int)< (l.length:Int):=by omega
   have HY:=dH hy;have HNO:=dH hno;clear hy hno;by_cases he:x=y
   ·have t1:(x == y)=true:=by simp [he]
    have HT:Hid (l.contains x=true):=dH (by rw [List.contains_iff_mem,he];exact List.mem_of_getElem? HY.out);clear he;go_wp2_with fail;go_ret;exact⟨⟨k,rfl,by first | exact(decide_eq_true g1).trans HT.out.symm | (simp only [HT.out,decide_eq_true_eq];exact g1) | (rw [eq_comm,HT.out];simp;exact g1) | (have:=HT.out;simp at this;simp [this])⟩,rfl⟩
   ·have t1:(x == y)=false:=by simpa using he
    have HN:Hid ((l.take (k+1)).contains x=false):=dH (by
     rw [zB0 HY.out,Bool.eq_false_iff];intro hm;rw [List.contains_iff_mem,List.mem_append,List.mem_singleton] at hm;rcases hm with hm | hm
     ·have:=HNO.out;rw [Bool.eq_false_iff] at this;exact this (List.contains_iff_mem.2 hm)
     ·exact he hm)
    clear he;go_wp2_with fail
    go_round
    case rel=>exact⟨k+1,by omega,by go_num,HN.out⟩
    case measure=>simp [intOf];omega
  ·have g2:¬ (k:Int)< (l.length:Int):=by omega
   have HT:Hid (l.contains x=false):=dH (by rw [List.take_of_length_le (by omega)] at hno;exact hno);clear hno;go_wp2_with fail;go_ret;exact⟨⟨-1,rfl,by first | exact HT.out.symm | (have:=HT.out;simp at this;simp [this])⟩,rfl⟩
theorem zH8 (a:Option Addr) (cap:Nat) (l:List Int) (x:Int) (w:World) (h:Ints w a cap l):Calls Tryz.prog 173 #[.slice a l.length cap,.int .i64 x] w fun e w'=>e=.returned (.bool (l.contains x))∧w=w':=by
 have hle:=h.le;have hmx:=h.mx;have HI:=dH (zKa a cap l x w h);clear h;generalize l.contains x=r at *;go_enter Tryz.func173,Tryz.ntmps173;go_wp2_with fail;refine HI.out.mono ?_;rintro e w' ⟨⟨k,rfl,hk⟩,rfl⟩;cases r
 ·have t1:decide (0≤k)=false:=hk;go_wp2_with fail;go_ret;exact⟨zBM (by first | rfl | exact t1),rfl⟩
 ·have t1:decide (0≤k)=true:=hk;go_wp2_with fail;go_ret;exact⟨zBM (by first | rfl | exact t1),rfl⟩
def edB (m:List (List Bool)) (out:List Int) (i j:Nat):Bool:=((m.getD i []).getD j false) && !out.contains (j:Int)
structure zNZ (n₀:Nat) (A B:World):Prop where
 low:Below n₀ A B
 fo:∀r cs,Blk A r cs 157→Blk B r cs 157
def zMi (m:List (List Bool)) (n:Nat) (out:List Int) (Jn:Nat→World→Prop) (w0:World) (e:Ending) (w':World):Prop:=∃F up lab rk,e=.returned (.pointer (some ⟨F,0,none⟩))∧PartX m.length n (edB m out) m.length 0 up lab rk∧
 FoB w' F up (m.length+n) ((zAf up (m.length+n):Int) - out.length)∧(∃c,Jn c w')∧Ext w0 w'
def FoI (w:World) (F q:Nat) (parts:Int):Prop:=∃cs,Blk w F cs 157∧cs.size=81∧(∀i,i<q→cs[i]? =some (.int .i64 (i:Int)))∧cs[80]? =some (.int .i64 parts)
theorem FoI.put {w:World} {F q:Nat} {parts:Int} (h:FoI w F q parts) (hq:q<80):(∃u,w.cell? ⟨F,q,none⟩=some u)∧w.frozen? ⟨F,q,none⟩=false∧FoI (w.setCell ⟨F,q,none⟩ (.int .i64 (q:Int))) F (q+1) parts:=by
 obtain⟨cs,hb,hs,hc,hp⟩:=h;refine⟨⟨cs[q]'(by omega),hb.cell (Array.getElem?_eq_getElem (by omega))⟩,hb.free q,_,hb.set q (.int .i64 (q:Int)),by simp [hs],fun i hi=>?_,?_⟩
 ·by_cases e:i=q
  ·subst e;exact zBC (by omega)
  ·rw [Array.getElem?_setIfInBounds,if_neg (fun h=>e h.symm)];exact hc i (by omega)
 ·rw [Array.getElem?_setIfInBounds,if_neg (by omega)];exact hp
theorem zN0 {m:List (List Bool)} {out:List Int} {i k:Nat} {r:List Bool} {y:Bool} (hr:m[i]? =some r) (hy:r[k]? =some y):edB m out i k= (y && !out.contains (k:Int)):=by
 unfold edB;rw [show m.getD i []=r from by rw [List.getD_eq_getElem?_getD,hr];rfl,List.getD_eq_getElem?_getD,hy,Option.getD_some]
theorem zHY (a:Option Addr) (cap:Nat) (m:List (List Bool)) (n:Nat) (oa:Option Addr) (oc:Nat) (out:List Int) (fp:Nat) (first:Array Value) (Jn:Nat→World→Prop) (w0 w:World) (hE0:Ext w0 w) (h:BRows w0 a cap m) (ht:zNy m n) (h0:0<m.length) (ho:Ints w0 oa oc out) (hol:out.length≤100)
 (hJ:Jn 0 w) (hJs:∀c W W' r cs,Jn c W→w.heap.size≤r→Blk W r cs 157→W.grownBy W' (some r)→Jn c W') (hJa:∀c W W',Jn c W→Ext W W'→Jn c W')
 (hen:∀args w,(callFunc fp args).run Tryz.prog w=.ok (.enter fp args) w)
 (hcall:∀c W (i k:Nat),c≤100→Jn c W→Ext w0 W→Calls Tryz.prog fp (first ++ #[.agg #[.int .i64 (i:Int),.int .i64 (k:Int)]]) W fun e W'=>e=.returned (.tuple #[])∧Jn (c+1) W'∧zNZ w0.heap.size W W'):
 Calls Tryz.prog 120 #[.slice a m.length cap,.slice oa out.length oc,.func (.func fp) first #[]] w (zMi m n out Jn w0):=by
 have hle:=h.le;have hmx:=h.mx;have ole:=ho.le;have omx:=ho.mx;have hE:=ht.ents;have hn:=ht.wide;have HH:=dH h;have HO:=dH ho;have HT:=dH ht;have HJS:=dH hJs;have HJA:=dH hJa;have HCALL:=dH hcall;have HEN:=dH hen;have HJ:=dH hJ;have HEW:=dH hE0;clear h ho hE0 ht hJs hJa hcall hen hJ;have hw1:IntKind.i64.wrap ((m.length:Int)+ (n:Int))= (m.length:Int)+ (n:Int):=IntWalk.i64_in _ (by omega);have hw2:IntKind.i64.wrap ((m.length:Int)+ (n:Int) - (out.length:Int))= (m.length:Int)+ (n:Int) - (out.length:Int):=IntWalk.i64_in _ (by omega);go_enter Tryz.func120,Tryz.ntmps120;go_wp2_with fail;refine(zFC a cap m n w (HH.out.ext HEW.out) HT.out h0).mono ?_;rintro e w1 ⟨rfl,rfl⟩;go_upto_region 3 with fail;have hzs:(Tryz.zeroCells157).size=81:=by kernel_rfl
 have hE0:Ext w (w.alloc (.cells (Tryz.zeroCells157.setIfInBounds 80 (.int .i64 ((m.length:Int)+ (n:Int) - (out.length:Int)))) 157)):=Ext.alloc _ _
 have hF0:FoI (w.alloc (.cells (Tryz.zeroCells157.setIfInBounds 80 (.int .i64 ((m.length:Int)+ (n:Int) - (out.length:Int)))) 157)) w.heap.size 0 ((m.length:Int)+ (n:Int) - (out.length:Int)):=
  ⟨_,Blk.new0 w _ _,by simp [hzs],fun i hi=>by omega,zBC (by omega)⟩
 have HJ1:=dH (HJA.out _ _ _ HJ.out hE0);have HE0:=dH (HEW.out.trans hE0);have HF0:=dH hF0;obtain⟨F,hF⟩:∃F,F=w.heap.size:=⟨_,rfl⟩
 rw [←hF] at HF0;have HFE:=dH hF;clear hE0 hF0 hzs HJ;generalize w.alloc (.cells (Tryz.zeroCells157.setIfInBounds 80 (.int .i64 ((m.length:Int)+ (n:Int) - (out.length:Int)))) 157)=x1 at *;rw [show Array.size w.heap=F from hF.symm];obtain⟨N,hN⟩:∃N,m.length+n=N:=⟨_,rfl⟩
 have hNi:(m.length:Int)+ (n:Int)= (N:Int):=by omega
 rw [hNi] at hw1 hw2 HF0 ⊢;clear hF;go_wp2_with fail
 go_loopw [29] (fun v wr=>∃q:Nat,q≤N∧v=.int .i64 q∧FoI wr F q ((N:Int) - (out.length:Int))∧Jn 0 wr∧Ext w0 wr) (fun v _=>N - (intOf v).toNat)
 case atStart=>exact⟨0,Nat.zero_le _,rfl,HF0.out,HJ1.out,HE0.out⟩
 case round=>
  obtain⟨q,hq,rfl,hfi,hj,hx⟩:=hrel;generalize wr=wA at *;have q0:(0:Int)≤(q:Int):=by omega
  by_cases hqN:q<N
  ·have q1:(q:Int)< (N:Int):=by omega
   have q8:(q:Int)<80:=by omega
   have hw3:IntKind.i64.wrap ((q:Int)+1)= (q:Int)+1:=IntWalk.i64_in _ (by omega);obtain⟨⟨u,c0⟩,f0,h3⟩:=hfi.put (by omega);obtain⟨csF,hbF,_⟩:=hfi;have HFI:=dH h3;have HJ2:=dH (HJS.out _ wA _ F csF hj (by have:=HFE.out;omega) hbF (zAa wA F q (.int .i64 (q:Int))));have HX2:Hid (Ext w0 (wA.setCell ⟨F,q,none⟩ (.int .i64 (q:Int)))):=dH (hx.set (p:=⟨F,q,none⟩) (by have:=HFE.out;have:=HEW.out.size;dsimp only;omega) _);clear h3 hbF hj hx;go_wp2_with fail;go_roundw
   case rel=>exact⟨q+1,by omega,by go_num,HFI.out,HJ2.out,HX2.out⟩
   case measure=>simp [intOf];omega
  ·obtain rfl:q=N:=by omega
   have q1:¬ (q:Int)< (q:Int):=by omega
   have HFB:Hid (FoB wA F (fun n=>n) q ((q:Int) - (out.length:Int))):=dH (by
    obtain⟨cs,hb,hs,hc,hp⟩:=hfi
    exact⟨cs,hb,hs,by omega,hc,hp⟩)
   have HJ2:=dH hj;have HX2:=dH hx;clear hfi hj hx HJ1 HE0 HF0 hw1 hw2;go_wp2_with fail
   go_loopw [41] (fun v wr=>∃i:Nat,i≤m.length∧v=.int .i64 i∧∃up lab rk,PartX m.length n (edB m out) i 0 up lab rk∧FoB wr F up q ((zAf up q:Int) - (out.length:Int))∧(∃c,c+zAf up q=q∧Jn c wr)∧Ext w0 wr) (fun v _=>m.length - (intOf v).toNat)
   case atStart=>exact⟨0,Nat.zero_le _,rfl,_,_,_,PartX.start _ _ _,by rw [zD5];exact HFB.out,⟨0,by rw [zD5];omega,HJ2.out⟩,HX2.out⟩
   case round=>
    obtain⟨i,hi,rfl,up,lab,rk,hpx,hfb,hj,hx⟩:=hrel;generalize wr=wB at *;have i0:(0:Int)≤(i:Int):=by omega
    by_cases him:i<m.length
    ·have i1:(i:Int)< (m.length:Int):=by omega
     have hw3:IntKind.i64.wrap ((i:Int)+1)= (i:Int)+1:=IntWalk.i64_in _ (by omega);obtain⟨b,o,rfl⟩:=HH.out.head him;obtain⟨r,ar,cr,hr,hc0,hI0⟩:=BRows.get HH.out him;have hc:=zA0 hx hc0;have hrl:=HT.out.row r (List.mem_of_getElem? hr);have rle:=hI0.le;have rmx:=hI0.mx;rw [hrl] at hc rle;have HR:=dH hr;have HI0:=dH hI0;have HRL:=dH hrl;have HPX:=dH hpx;have HFB2:=dH hfb;have HJ3:=dH hj;have HX3:=dH hx;clear hr hI0 hc0 hrl hpx hfb hj hx;go_wp2_with fail
     go_loopw [48] (fun v wr=>∃k:Nat,k≤n∧v=.int .i64 k∧∃up lab rk,PartX m.length n (edB m out) i k up lab rk∧FoB wr F up q ((zAf up q:Int) - (out.length:Int))∧(∃c,c+zAf up q=q∧Jn c wr)∧Ext w0 wr) (fun v _=>n - (intOf v).toNat)
     case atStart=>exact⟨0,Nat.zero_le _,rfl,_,_,_,HPX.out,HFB2.out,HJ3.out,HX3.out⟩
     case round=>
      obtain⟨k,hk,rfl,up2,lab2,rk2,hpx,hfb,hj,hx⟩:=hrel;generalize wr=wC at *;have k0:(0:Int)≤(k:Int):=by omega
      by_cases hkn:k<n
      ·have k1:(k:Int)< (n:Int):=by omega
       have hw4:IntKind.i64.wrap ((k:Int)+1)= (k:Int)+1:=IntWalk.i64_in _ (by omega);have hw5:IntKind.i64.wrap ((m.length:Int)+ (k:Int))= (m.length:Int)+ (k:Int):=IntWalk.i64_in _ (by omega);have hkr:k<r.length:=by rw [HRL.out];exact hkn
       obtain⟨b2,o2,rfl⟩:=HI0.out.head hkr;obtain⟨y,hy,hcy⟩:=Bools.get (HI0.out.ext hx) hkr;have hed:=zN0 (out:=out) HR.out hy;have HPX2:=dH hpx;have HFB3:=dH hfb;have HJ4:=dH hj;have HX4:=dH hx;clear hy hpx hfb hj hx;cases y
       ·have HS:=dH (HPX2.out.skip (.inl (by rw [hed];rfl)));clear hed;go_wp2_with fail;go_roundw
        case rel=>exact⟨k+1,by omega,by go_num,_,_,_,HS.out,HFB3.out,HJ4.out,HX4.out⟩
        case measure=>simp [intOf];omega
       ·have HC:=dH (zH8 oa oc out (k:Int) wC (HO.out.ext HX4.out));cases hout:out.contains (k:Int)
        ·rw [hout] at HC;rw [hout] at hed;have HED:Hid (edB m out i k=true):=dH hed;have hjn:((m.length+k:Nat):Int)= (m.length:Int)+ (k:Int):=by push_cast;rfl
         have HJO:=dH (zHX F q i (m.length+k) up2 lab2 rk2 _ wC HFB3.out (by rw [←hN];exact HPX2.out.fo) (by omega) (by omega) (by
          have:∀N,zAf up2 N≤N:=fun N=>by
           induction N with
           | zero=>exact Nat.le_refl _
           | succ N ih=>unfold zAf;split <;> omega
          have:=this q
          omega))
         rw [hjn] at HJO;clear hed hout hjn;go_wp2_with fail;refine HC.out.mono ?_;rintro e w5 ⟨rfl,rfl⟩;go_wp2_with fail;refine HJO.out.mono ?_;rintro e w6 ⟨up3,hf3,hr3,(⟨hl,rfl,hfb3,hg3⟩ | ⟨hl,rfl,hfb3,hg3⟩)⟩
         ·have HS:=dH ((HPX2.out.half (by rw [hN];exact hf3)).skip (.inr hl));have HFB4:Hid (FoB w6 F up3 q ((zAf up3 q:Int) - (out.length:Int))):=dH (by rw [hr3];exact hfb3);obtain⟨csF,hbF,_⟩:=HFB3.out;obtain⟨c,hcq,hJc⟩:=HJ4.out;have hJ5:=HJS.out c wC w6 F csF hJc (by have:=HFE.out;omega) hbF hg3;have HJ5:Hid (∃c,c+zAf up3 q=q∧Jn c w6):=dH ⟨c,by rw [hr3];exact hcq,hJ5⟩;have HX5:Hid (Ext w0 w6):=dH (Below.grown HX4.out hg3 HX4.out.size (fun r e=>by cases e;have:=HFE.out;have:=HEW.out.size;omega));clear hf3 hr3 hl hfb3 hg3 hbF;go_wp2_with fail;go_roundw
          case rel=>exact⟨k+1,by omega,by go_num,_,_,_,HS.out,HFB4.out,HJ5.out,HX5.out⟩
          case measure=>simp [intOf];omega
         ·have hph:=HPX2.out.half (up':=up3) (by rw [hN];exact hf3);obtain⟨lb1,lb2⟩:=hf3.end' (m.length+k) (by omega);have hrj:=zFA (up:=up3) (a:=lab2 i) lb2 hl lb1;have HS:=dH (hph.join him hkn HED.out hl)
          have HFB4:Hid (FoB w6 F (zDi up3 (lab2 (m.length+k)) (lab2 i)) q ((zAf (zDi up3 (lab2 (m.length+k)) (lab2 i)) q:Int) - (out.length:Int))):=dH (by
           have e1:((zAf (zDi up3 (lab2 (m.length+k)) (lab2 i)) q:Int) - (out.length:Int))= (zAf up2 q:Int) - (out.length:Int) - 1:=by omega
           rw [e1];exact hfb3)
          obtain⟨csF,hbF,_⟩:=HFB3.out;obtain⟨c,hcq,hJc⟩:=HJ4.out;have hJ5:=HJS.out c wC w6 F csF hJc (by have:=HFE.out;omega) hbF hg3;have HJ5:=dH hJ5;have HCQ:Hid (c+1+zAf (zDi up3 (lab2 (m.length+k)) (lab2 i)) q=q):=dH (by rw [hr3] at hrj;omega);have hc100:c≤100:=by omega
          have HX5:Hid (Ext w0 w6):=dH (Below.grown HX4.out hg3 HX4.out.size (fun r e=>by cases e;have:=HFE.out;have:=HEW.out.size;omega));clear hf3 hr3 hl hfb3 hg3 hbF hph hrj lb1 lb2;have hen:=HEN.out;go_wp2_with fail;refine(HCALL.out c w6 i k hc100 HJ5.out HX5.out).mono ?_;rintro e w7 ⟨rfl,hj7,hkp⟩
          have HFB5:Hid (FoB w7 F (zDi up3 (lab2 (m.length+k)) (lab2 i)) q ((zAf (zDi up3 (lab2 (m.length+k)) (lab2 i)) q:Int) - (out.length:Int))):=dH (by
           obtain⟨cs,hb,h⟩:=HFB4.out
           exact⟨cs,hkp.fo F cs hb,h⟩)
          have HJ6:Hid (∃c,c+zAf (zDi up3 (lab2 (m.length+k)) (lab2 i)) q=q∧Jn c w7):=dH ⟨c+1,HCQ.out,hj7⟩;have HX6:Hid (Ext w0 w7):=dH (Below.trans HX5.out hkp.low);clear hj7 hkp;go_wp2_with fail;go_roundw
          case rel=>exact⟨k+1,by omega,by go_num,_,_,_,HS.out,HFB5.out,HJ6.out,HX6.out⟩
          case measure=>simp [intOf];omega
        ·rw [hout] at HC;have HS:=dH (HPX2.out.skip (.inl (by rw [hed,hout];rfl)));clear hed hout;go_wp2_with fail;refine HC.out.mono ?_;rintro e w5 ⟨rfl,rfl⟩;go_wp2_with fail;go_roundw
         case rel=>exact⟨k+1,by omega,by go_num,_,_,_,HS.out,HFB3.out,HJ4.out,HX4.out⟩
         case measure=>simp [intOf];omega
      ·have k1:¬ (k:Int)< (n:Int):=by omega
       obtain rfl:k=n:=by omega
       have HS:=dH hpx.next
       have HFB3:=dH hfb;have HJ4:=dH hj;have HX4:=dH hx;clear hpx hfb hj hx;go_wp2_with fail;go_roundw
       case rel=>exact⟨i+1,by omega,by go_num,_,_,_,HS.out,HFB3.out,HJ4.out,HX4.out⟩
       case measure=>simp [intOf];omega
    ·have i1:¬ (i:Int)< (m.length:Int):=by omega
     obtain rfl:i=m.length:=by omega
     have HP:Hid (zMi m n out Jn w0 (.returned (.pointer (some ⟨F,0,none⟩))) wB):=dH ⟨F,up,lab,rk,rfl,hpx,by rw [hN];exact hfb,(by obtain⟨c,_,h⟩:=hj;exact⟨c,h⟩),hx⟩;clear hpx hfb hj hx;go_wp2_with fail;go_ret;exact HP.out
end Go.Proofs.YtonkhcdmchidjaaGreat
