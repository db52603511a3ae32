import Derived.Test.YtolffmmkjnhkkaaGreatM7
import Derived.OwnWalk
import Derived.Deep.QuietTactic
namespace Go.Proofs.YtolffmmkjnhkkaaGreat
open Go.RowKit Go BigFrame Go.Shelf
set_option maxRecDepth 100000
set_option linter.unusedSimpArgs false
set_option linter.unusedVariables false
attribute [local go_sem] Oper.semAt_some
def MkRP (F:List (Option Rat)) (w:World) (e:Ending) (w':World):Prop:=∃v x,e=.returned v∧RowD.Rd w' v x∧x.R=F∧(∀o:Option Nat,(∀g,o=some g→g<w.heap.size)→x.Off o)∧Ext w w'
def RowsRP (E:Int) (Rs:List (List (Option Rat))) (w:World) (e:Ending) (w':World):Prop:=
 (E=0∧∃v xs,e=.returned (.tuple #[v,.int .i64 0])∧OwnG (fun w v (x:RowD)=>x.Rd w v) RowD.Off w' w.heap.size 23 v xs∧xs.map (·.R)=Rs∧Ext w w')∨(E≠0∧e=.returned (.tuple #[.slice none 0 0,.int .i64 E])∧Ext w w')
set_option maxHeartbeats 8000000 in
theorem corrected_rowsR (a:Option Addr) (cap:Nat) (m:List (List Int)) (s:Option Addr) (sc:Nat) (L:List RatA) (Bv:Nat) (F:List Int→List (Option Rat)) (w:World) (h:Rows w a cap m) (k:RatsI w s sc L)
 (hf:errM m L.length (L.any fun x=>!x.ok)=0→∀W,Ext w W→∀r∈m,∀a c,Ints W a c r→Calls Tryz.prog 26 #[.slice a r.length c,.pointer (some ⟨Bv,0,none⟩)] W (MkRP (F r) W)):
 Calls Tryz.prog 25 #[.slice a m.length cap,.slice s L.length sc,.func (.func 26) #[] #[.pointer (some ⟨Bv,0,none⟩)]] w (RowsRP (errM m L.length (L.any fun x=>!x.ok)) (m.map F) w):=by
 have hmf:∀ (fn:Fn) (first cap:Array Value) (w:World),(Instr.makeFunc fn first cap).run Tryz.prog w=.ok (.func fn first cap) w:=fun _ _ _ _=>rfl
 have hle:=h.le
 have hmx:=h.mx
 have sle:=k.le
 have smx:=k.mx
 obtain⟨x1,hw,hx,Kl,Ke⟩:=boxQ2 w #[.slice none 0 0] 26 #[.int .i64 0] 27
 replace hw:=Lib.hid hw
 have HC:=corrected_check a cap m s sc L x1 (h.ext hx) (k.ext hx)
 obtain⟨E,hE⟩:∃E,errM m L.length (L.any fun x=>!x.ok)=E:=⟨_,rfl⟩
 rw [hE] at HC hf ⊢
 have HE:Hid (4096<m.length→E≠0):=Lib.hid (fun h e=>by rw [e] at hE;unfold errM at hE;rw [if_pos (.inl h)] at hE;cases hE)
 have HC:=Lib.hid HC
 have HH:=Lib.hid h
 have HF:=Lib.hid hf
 clear h k hE hf
 go_enter_defers Tryz.func25,Tryz.ntmps25
 go_upto_region 1 with fail
 try simp only [Nat.add_assoc,Nat.reduceAdd,Nat.add_zero]
 rw [hw.out]
 clear hw
 go_wp2_with fail
 refine HC.out.mono ?_
 rintro e x2 ⟨rfl,hy⟩
 replace hx:=hx.trans hy
 replace Kl:=kE Kl hy
 replace Ke:=kE Ke hy
 have hszw:=hx.size
 clear hy HC
 by_cases hE0:E=0
 ·subst hE0
  rw [show chkEnd 0=.returned (.tuple #[]) from rfl]
  have hm4:m.length≤4096:=Nat.le_of_not_lt fun h=>HE.out h rfl
  have HX2:=Lib.hid hx
  clear HE hx
  go_wp2_with fail
  go_loopw [16] (fun i wr=>∃q:Nat,q≤m.length∧i=.int .i64 q∧∃ (v:Value) (xs:List RowD),(OwnG (fun w v (x:RowD)=>x.Rd w v) RowD.Off wr w.heap.size 23 v xs∧xs.map (·.R)= (m.take q).map F)∧(∀x∈xs,x.Off (some w.heap.size)∧x.Off (some (w.heap.size+1)))∧Blk wr w.heap.size #[v] 26∧Blk wr (w.heap.size+1) #[.int .i64 0] 27∧Ext w wr) (fun i _=>m.length - (intOf i).toNat)
  case atStart=>exact⟨0,Nat.zero_le _,rfl,_,[],⟨OwnG.nil _ _ _,rfl⟩,(fun x hx=>by cases hx),Kl.out,Ke.out,HX2.out⟩
  case round=>
   obtain⟨q,hq,rfl,v,xs,hO,hoff,hl,he,hxr⟩:=hrel
   clear Kl Ke HX2
   have q1:(0:Int)≤(q:Int):=by omega
   obtain⟨va,vc,rfl,hvl,hvc⟩:=hO.1.form
   have HO:=Lib.hid hO
   have HOF:=Lib.hid hoff
   have Kl:=Lib.hid hl
   have Ke:=Lib.hid he
   have HXR:=Lib.hid hxr
   clear hO hoff hl he
   by_cases hqn:q<m.length
   ·have q2:(q:Int)< (m.length:Int):=by omega
    obtain⟨b,o,rfl⟩:=HH.out.head hqn
    obtain⟨r,a3,c3,hr,hc,hI⟩:=Rows.get (HH.out.ext hxr) hqn
    have hw1:IntKind.i64.wrap ((q:Int)+1)= (q:Int)+1:=IntWalk.i64_in _ (by omega)
    have HR:=Lib.hid hr
    have HI:=Lib.hid hI
    clear hr hI
    go_upto_region 7 with fail
    have hE:Ext wr wr.drew:=(Ext.refl wr).drew
    replace Kl:=kE Kl hE
    replace Ke:=kE Ke hE
    replace hxr:=hxr.trans hE
    have hO:=HO.out.1.ext rdRow hE
    have hz:=hxr.size
    have HXL:=Lib.hid (show xs.length=q from by have:=congrArg List.length HO.out.2;rw [List.length_map,List.length_map,List.length_take] at this;omega)
    have s0:=bk1 Kl
    clear hc
    refine wp_region_noPanic ?_
    refine wp_region_held_drew (S:=(fun w'=>True)) (by kernel_rfl) ?_ (fun hHeld=>?_)
    ·trivial
    (try simp only [pur,Nat.reduceAdd])
    refine tk (v:=?_) 1 rfl (by kernel_rfl) (fun _ _ _ h=>h) (by rfl) ?_ (by assumption) ?_
    rotate_left
    ·(intro w hSw;(try dsimp only at hSw);(try go_simp);(try with_reducible rfl))
    (try simp only [Act.put,pus])
    refine tk (v:=?_) 2 rfl (by kernel_rfl) (fun _ _ _ h=>h) (by rfl) ?_ (by assumption) ?_
    rotate_left
    ·(intro w hSw;(try dsimp only at hSw);(try go_simp);(try with_reducible rfl))
    (try simp only [Act.put,pus])
    refine wpAnyH_ready (rs:=[0,3]) (by kernel_rfl) (by simp) ?_
    refine AllReadyH.cons (o:=_) rfl (fun K hK=>?_) ?_
    ·go_simp
     refine hK.out _ _ ?_ (fun hHeld2=>?_)
     ·trivial
     clear hK K hHeld
     have hHeld:=hHeld2
     clear hHeld2
     (try simp only [Act.put,pus])
     refine wpAnyH_ready (rs:=[3]) (by kernel_rfl) (by simp) ?_
     refine AllReadyH.cons (o:=_) rfl (fun K hK=>?_) ?_
     ·go_simp
      have hlt0:=hO.lt;have hz0:=hxr.size;have hk0:=Ke.out.lt;(with_reducible refine(HF.out (by simp) _ hxr r (List.mem_of_getElem? HR.out) a3 c3 (HI.out.ext hE)).mono ?_);rintro e y1 ⟨v1,x1,rfl,hrd,hxR,hfr,hy⟩;obtain⟨b1,d1,hb1⟩:∃b1 d1,v1=.slice b1 x1.V.length d1:=⟨_,_,hrd.eq⟩;subst hb1;have hfo:=hfr (Value.slice va xs.length vc).ownBlock (fun g e=>(hlt0 g e).2);have hfr1:=hfr (some w.heap.size) (fun g e=>by cases e;omega);have hfr2:=hfr (some (w.heap.size+1)) (fun g e=>by cases e;omega);clear hfr;replace s0:=cell_exQ hy s0;replace hO:=hO.ext rdRow hy;replace Kl:=kE Kl hy;replace Ke:=kE Ke hy;replace hxr:=hxr.trans hy;clear hy hlt0 hz0 hk0
      refine hK.out _ _ ?_ (fun hHeld2=>?_)
      ·trivial
      clear hK K hHeld
      have hHeld:=hHeld2
      clear hHeld2
      (try simp only [Act.put,pus])
      refine wpAnyH_ready (rs:=[4]) (by kernel_rfl) (by simp) ?_
      refine AllReadyH.cons (o:=_) rfl (fun K hK=>?_) ?_
      ·go_simp
       have hy:Ext y1 (y1.alloc (.cells #[.slice b1 x1.V.length d1] 23)):=Ext.alloc _ _;have hb:=Blk.new0 y1 #[.slice b1 x1.V.length d1] 23;replace hrd:=hrd.ext hy;replace s0:=cell_exQ hy s0;replace hO:=hO.ext rdRow hy;replace Kl:=kE Kl hy;replace Ke:=kE Ke hy;replace hxr:=hxr.trans hy;clear hy;generalize y1.alloc (.cells #[.slice b1 x1.V.length d1] 23)=y2 at *;generalize y1.heap.size=gb at *
       refine hK.out _ _ ?_ (fun hHeld2=>?_)
       ·trivial
       clear hK K hHeld
       have hHeld:=hHeld2
       clear hHeld2
       (try simp only [Act.put,pus])
       refine wpAnyH_ready (rs:=[5]) (by kernel_rfl) (by simp) ?_
       refine AllReadyH.cons (o:=_) rfl (fun K hK=>?_) ?_
       ·refine step_append_ownG rdRow (by rfl) (.tmp 20) (.tmp 24) 26 23 (by rfl) Tryz.underlying26 (z:=.slice none 0 0) rfl infoRowR hxr (by rfl) hO (by rfl) hb hrd hfo (by have:=HXL.out;omega) ?_;intro ua uc y4 hO4 hx4 hg4;replace hxr:=hx4;have ap1:=hO.apart Kl.out (by decide);have ap2:=hO.apart Ke.out (by decide);replace Kl:=Lib.hid (Kl.out.grown hg4 ap1);replace Ke:=Lib.hid (Ke.out.grown hg4 ap2);replace hO:=hO4;clear ap1 ap2 hO4 hx4 hg4 s0
        refine hK.out _ _ ?_ (fun hHeld2=>?_)
        ·trivial
        clear hK K hHeld
        have hHeld:=hHeld2
        clear hHeld2
        (try simp only [Act.put,pus])
        refine wpAnyH_ready (rs:=[6]) (by kernel_rfl) (by simp) ?_
        refine AllReadyH.cons (o:=_) rfl (fun K hK=>?_) ?_
        ·obtain⟨g0,z0⟩:=bp1 Kl (.slice ua (xs.length+1) uc);go_simp;clear g0 z0;have hoff2:∀x∈xs ++ [x1],x.Off (some w.heap.size)∧x.Off (some (w.heap.size+1)):=(fun x hx=>by rcases List.mem_append.1 hx with h | h;exact HOF.out x h;rw [List.mem_singleton.1 h];exact⟨hfr1,hfr2⟩);replace hO:=hO.other rdRow (hO.apart Kl.out (by decide)) (fun x hx=>(hoff2 x hx).1) 0 (.slice ua (xs.length+1) uc);replace Kl:=bs1 Kl (.slice ua (xs.length+1) uc);replace Ke:=bo1 Ke w.heap.size (.slice ua (xs.length+1) uc) (by omega);replace hxr:=Ext.set (p:=⟨w.heap.size,0,none⟩) hxr (by dsimp only;omega) (.slice ua (xs.length+1) uc);have hMap:(xs ++ [x1]).map (·.R)= (m.take (q+1)).map F:=(by rw [take_get HR.out,List.map_append,List.map_append,HO.out.2,List.map_singleton,List.map_singleton,hxR]);generalize World.setCell y4 ⟨w.heap.size,0,none⟩ (.slice ua (xs.length+1) uc)=y5 at *
         refine hK.out _ _ ?_ (fun hHeld2=>?_)
         ·trivial
         clear hK K hHeld
         have hHeld:=hHeld2
         clear hHeld2
         (try simp only [Act.put,pus])
         refine wpAnyH_done (by kernel_rfl) ?_ _
         refine NoPanic.normal ?_
         clear hHeld
         go_wp2_with fail
         go_roundw
         case rel=>exact⟨q+1,by omega,by go_num,_,_,⟨hO,hMap⟩,hoff2,Kl.out,Ke.out,hxr⟩
         case measure=>simp [intOf];omega
        exact AllReadyH.nil
       exact AllReadyH.nil
      exact AllReadyH.nil
     exact AllReadyH.nil
    refine AllReadyH.cons (o:=_) rfl (fun K hK=>?_) ?_
    ·go_simp
     have hlt0:=hO.lt;have hz0:=hxr.size;have hk0:=Ke.out.lt;(with_reducible refine(HF.out (by simp) _ hxr r (List.mem_of_getElem? HR.out) a3 c3 (HI.out.ext hE)).mono ?_);rintro e y1 ⟨v1,x1,rfl,hrd,hxR,hfr,hy⟩;obtain⟨b1,d1,hb1⟩:∃b1 d1,v1=.slice b1 x1.V.length d1:=⟨_,_,hrd.eq⟩;subst hb1;have hfo:=hfr (Value.slice va xs.length vc).ownBlock (fun g e=>(hlt0 g e).2);have hfr1:=hfr (some w.heap.size) (fun g e=>by cases e;omega);have hfr2:=hfr (some (w.heap.size+1)) (fun g e=>by cases e;omega);clear hfr;replace s0:=cell_exQ hy s0;replace hO:=hO.ext rdRow hy;replace Kl:=kE Kl hy;replace Ke:=kE Ke hy;replace hxr:=hxr.trans hy;clear hy hlt0 hz0 hk0
     refine hK.out _ _ ?_ (fun hHeld2=>?_)
     ·trivial
     clear hK K hHeld
     have hHeld:=hHeld2
     clear hHeld2
     (try simp only [Act.put,pus])
     refine wpAnyH_ready (rs:=[0,4]) (by kernel_rfl) (by simp) ?_
     refine AllReadyH.cons (o:=_) rfl (fun K hK=>?_) ?_
     ·go_simp
      refine hK.out _ _ ?_ (fun hHeld2=>?_)
      ·trivial
      clear hK K hHeld
      have hHeld:=hHeld2
      clear hHeld2
      (try simp only [Act.put,pus])
      refine wpAnyH_ready (rs:=[4]) (by kernel_rfl) (by simp) ?_
      refine AllReadyH.cons (o:=_) rfl (fun K hK=>?_) ?_
      ·go_simp
       have hy:Ext y1 (y1.alloc (.cells #[.slice b1 x1.V.length d1] 23)):=Ext.alloc _ _;have hb:=Blk.new0 y1 #[.slice b1 x1.V.length d1] 23;replace hrd:=hrd.ext hy;replace s0:=cell_exQ hy s0;replace hO:=hO.ext rdRow hy;replace Kl:=kE Kl hy;replace Ke:=kE Ke hy;replace hxr:=hxr.trans hy;clear hy;generalize y1.alloc (.cells #[.slice b1 x1.V.length d1] 23)=y2 at *;generalize y1.heap.size=gb at *
       refine hK.out _ _ ?_ (fun hHeld2=>?_)
       ·trivial
       clear hK K hHeld
       have hHeld:=hHeld2
       clear hHeld2
       (try simp only [Act.put,pus])
       refine wpAnyH_ready (rs:=[5]) (by kernel_rfl) (by simp) ?_
       refine AllReadyH.cons (o:=_) rfl (fun K hK=>?_) ?_
       ·refine step_append_ownG rdRow (by rfl) (.tmp 20) (.tmp 24) 26 23 (by rfl) Tryz.underlying26 (z:=.slice none 0 0) rfl infoRowR hxr (by rfl) hO (by rfl) hb hrd hfo (by have:=HXL.out;omega) ?_;intro ua uc y4 hO4 hx4 hg4;replace hxr:=hx4;have ap1:=hO.apart Kl.out (by decide);have ap2:=hO.apart Ke.out (by decide);replace Kl:=Lib.hid (Kl.out.grown hg4 ap1);replace Ke:=Lib.hid (Ke.out.grown hg4 ap2);replace hO:=hO4;clear ap1 ap2 hO4 hx4 hg4 s0
        refine hK.out _ _ ?_ (fun hHeld2=>?_)
        ·trivial
        clear hK K hHeld
        have hHeld:=hHeld2
        clear hHeld2
        (try simp only [Act.put,pus])
        refine wpAnyH_ready (rs:=[6]) (by kernel_rfl) (by simp) ?_
        refine AllReadyH.cons (o:=_) rfl (fun K hK=>?_) ?_
        ·obtain⟨g0,z0⟩:=bp1 Kl (.slice ua (xs.length+1) uc);go_simp;clear g0 z0;have hoff2:∀x∈xs ++ [x1],x.Off (some w.heap.size)∧x.Off (some (w.heap.size+1)):=(fun x hx=>by rcases List.mem_append.1 hx with h | h;exact HOF.out x h;rw [List.mem_singleton.1 h];exact⟨hfr1,hfr2⟩);replace hO:=hO.other rdRow (hO.apart Kl.out (by decide)) (fun x hx=>(hoff2 x hx).1) 0 (.slice ua (xs.length+1) uc);replace Kl:=bs1 Kl (.slice ua (xs.length+1) uc);replace Ke:=bo1 Ke w.heap.size (.slice ua (xs.length+1) uc) (by omega);replace hxr:=Ext.set (p:=⟨w.heap.size,0,none⟩) hxr (by dsimp only;omega) (.slice ua (xs.length+1) uc);have hMap:(xs ++ [x1]).map (·.R)= (m.take (q+1)).map F:=(by rw [take_get HR.out,List.map_append,List.map_append,HO.out.2,List.map_singleton,List.map_singleton,hxR]);generalize World.setCell y4 ⟨w.heap.size,0,none⟩ (.slice ua (xs.length+1) uc)=y5 at *
         refine hK.out _ _ ?_ (fun hHeld2=>?_)
         ·trivial
         clear hK K hHeld
         have hHeld:=hHeld2
         clear hHeld2
         (try simp only [Act.put,pus])
         refine wpAnyH_done (by kernel_rfl) ?_ _
         refine NoPanic.normal ?_
         clear hHeld
         go_wp2_with fail
         go_roundw
         case rel=>exact⟨q+1,by omega,by go_num,_,_,⟨hO,hMap⟩,hoff2,Kl.out,Ke.out,hxr⟩
         case measure=>simp [intOf];omega
        exact AllReadyH.nil
       exact AllReadyH.nil
      exact AllReadyH.nil
     refine AllReadyH.cons (o:=_) rfl (fun K hK=>?_) ?_
     ·go_simp
      have hy:Ext y1 (y1.alloc (.cells #[.slice b1 x1.V.length d1] 23)):=Ext.alloc _ _;have hb:=Blk.new0 y1 #[.slice b1 x1.V.length d1] 23;replace hrd:=hrd.ext hy;replace s0:=cell_exQ hy s0;replace hO:=hO.ext rdRow hy;replace Kl:=kE Kl hy;replace Ke:=kE Ke hy;replace hxr:=hxr.trans hy;clear hy;generalize y1.alloc (.cells #[.slice b1 x1.V.length d1] 23)=y2 at *;generalize y1.heap.size=gb at *
      refine hK.out _ _ ?_ (fun hHeld2=>?_)
      ·trivial
      clear hK K hHeld
      have hHeld:=hHeld2
      clear hHeld2
      (try simp only [Act.put,pus])
      refine wpAnyH_ready (rs:=[0]) (by kernel_rfl) (by simp) ?_
      refine AllReadyH.cons (o:=_) rfl (fun K hK=>?_) ?_
      ·go_simp
       refine hK.out _ _ ?_ (fun hHeld2=>?_)
       ·trivial
       clear hK K hHeld
       have hHeld:=hHeld2
       clear hHeld2
       (try simp only [Act.put,pus])
       refine wpAnyH_ready (rs:=[5]) (by kernel_rfl) (by simp) ?_
       refine AllReadyH.cons (o:=_) rfl (fun K hK=>?_) ?_
       ·refine step_append_ownG rdRow (by rfl) (.tmp 20) (.tmp 24) 26 23 (by rfl) Tryz.underlying26 (z:=.slice none 0 0) rfl infoRowR hxr (by rfl) hO (by rfl) hb hrd hfo (by have:=HXL.out;omega) ?_;intro ua uc y4 hO4 hx4 hg4;replace hxr:=hx4;have ap1:=hO.apart Kl.out (by decide);have ap2:=hO.apart Ke.out (by decide);replace Kl:=Lib.hid (Kl.out.grown hg4 ap1);replace Ke:=Lib.hid (Ke.out.grown hg4 ap2);replace hO:=hO4;clear ap1 ap2 hO4 hx4 hg4 s0
        refine hK.out _ _ ?_ (fun hHeld2=>?_)
        ·trivial
        clear hK K hHeld
        have hHeld:=hHeld2
        clear hHeld2
        (try simp only [Act.put,pus])
        refine wpAnyH_ready (rs:=[6]) (by kernel_rfl) (by simp) ?_
        refine AllReadyH.cons (o:=_) rfl (fun K hK=>?_) ?_
        ·obtain⟨g0,z0⟩:=bp1 Kl (.slice ua (xs.length+1) uc);go_simp;clear g0 z0;have hoff2:∀x∈xs ++ [x1],x.Off (some w.heap.size)∧x.Off (some (w.heap.size+1)):=(fun x hx=>by rcases List.mem_append.1 hx with h | h;exact HOF.out x h;rw [List.mem_singleton.1 h];exact⟨hfr1,hfr2⟩);replace hO:=hO.other rdRow (hO.apart Kl.out (by decide)) (fun x hx=>(hoff2 x hx).1) 0 (.slice ua (xs.length+1) uc);replace Kl:=bs1 Kl (.slice ua (xs.length+1) uc);replace Ke:=bo1 Ke w.heap.size (.slice ua (xs.length+1) uc) (by omega);replace hxr:=Ext.set (p:=⟨w.heap.size,0,none⟩) hxr (by dsimp only;omega) (.slice ua (xs.length+1) uc);have hMap:(xs ++ [x1]).map (·.R)= (m.take (q+1)).map F:=(by rw [take_get HR.out,List.map_append,List.map_append,HO.out.2,List.map_singleton,List.map_singleton,hxR]);generalize World.setCell y4 ⟨w.heap.size,0,none⟩ (.slice ua (xs.length+1) uc)=y5 at *
         refine hK.out _ _ ?_ (fun hHeld2=>?_)
         ·trivial
         clear hK K hHeld
         have hHeld:=hHeld2
         clear hHeld2
         (try simp only [Act.put,pus])
         refine wpAnyH_done (by kernel_rfl) ?_ _
         refine NoPanic.normal ?_
         clear hHeld
         go_wp2_with fail
         go_roundw
         case rel=>exact⟨q+1,by omega,by go_num,_,_,⟨hO,hMap⟩,hoff2,Kl.out,Ke.out,hxr⟩
         case measure=>simp [intOf];omega
        exact AllReadyH.nil
       exact AllReadyH.nil
      exact AllReadyH.nil
     exact AllReadyH.nil
    exact AllReadyH.nil
   ·have q2:¬ (q:Int)< (m.length:Int):=by omega
    have hqe:q=m.length:=by omega
    subst hqe
    have HO2:=Lib.hid (by have:=HO.out;rwa [List.take_length] at this)
    clear HO
    have c0:=bk1 Kl
    obtain⟨g0,z0⟩:=bp1 Kl (.slice va xs.length vc)
    have Kl2:=bs1 Kl (.slice va xs.length vc)
    have Ke2:=bo1 Ke w.heap.size (.slice va xs.length vc) (by omega)
    obtain⟨g1,z1⟩:=bp1 Ke2 (.int .i64 0)
    have Kl3:=bo1 Kl2 (w.heap.size+1) (.int .i64 0) (by omega)
    have Ke3:=bs1 Ke2 (.int .i64 0)
    go_wp2_with fail
    have d0:=bk1 Kl3
    have d1:=bk1 Ke3
    refine leaves_cons (f:=51) (args:=#[.pointer (some ⟨w.heap.size+1,0,none⟩)]) (by simp) (by simp [go_sem]) ?_
    refine(mcaught_idle ⟨w.heap.size+1,0,none⟩ _).mono ?_
    rintro e u' w'' ⟨rfl,rfl,rfl⟩
    simp only [settle]
    refine leaves_cons (f:=50) (args:=#[.pointer (some ⟨w.heap.size+1,0,none⟩),.pointer (some ⟨w.heap.size,0,none⟩)]) (by simp) (by simp [go_sem]) ?_
    refine(rows1_okR (w.heap.size+1) w.heap.size _ Ke3.out).mono ?_
    rintro e u' w'' ⟨rfl,rfl,rfl⟩
    have hfin:RowsRP 0 (m.map F) w (.returned (.tuple #[.slice va xs.length vc,.int .i64 0])) ((wr.setCell ⟨w.heap.size,0,none⟩ (.slice va xs.length vc)).setCell ⟨w.heap.size+1,0,none⟩ (.int .i64 0)):=by
     refine .inl ⟨rfl,_,xs,rfl,?_,HO2.out.2,(HXR.out.set (p:=⟨w.heap.size,0,none⟩) (by dsimp only;omega) _).set (p:=⟨w.heap.size+1,0,none⟩) (by dsimp only;omega) _⟩
     have o1:=HO2.out.1.other rdRow (HO2.out.1.apart Kl.out (by decide)) (fun x hx=>(HOF.out x hx).1) 0 (.slice va xs.length vc)
     exact o1.other rdRow (o1.apart Ke2.out (by decide)) (fun x hx=>(HOF.out x hx).2) 0 (.int .i64 0)
    simp [Leaves,settle,results,Tryz.results25,go_sem,d0,d1]
    exact hfin
 ·rw [show chkEnd E=stopEnd E from if_neg hE0]
  have HX2:=Lib.hid hx
  go_wp2_with fail
  refine leaves_cons (f:=51) (args:=#[.pointer (some ⟨w.heap.size+1,0,none⟩)]) (by simp) (by simp [go_sem]) ?_
  refine(mcaught_panicking (w.heap.size+1) 0 E [] _ Ke.out).mono ?_
  rintro e u' w'' ⟨rfl,rfl,x3,hy,rfl⟩
  have HX3:=Lib.hid (HX2.out.trans hy)
  replace Kl:=bo1 (kE Kl hy) (w.heap.size+1) (.int .i64 E) (by omega)
  replace Ke:=bs1 (kE Ke hy) (.int .i64 E)
  simp only [settle]
  refine leaves_cons (f:=50) (args:=#[.pointer (some ⟨w.heap.size+1,0,none⟩),.pointer (some ⟨w.heap.size,0,none⟩)]) (by simp) (by simp [go_sem]) ?_
  refine(rows1_errR (w.heap.size+1) w.heap.size E _ _ _ Ke.out hE0 Kl.out).mono ?_
  rintro e u' w'' ⟨rfl,rfl,rfl⟩
  replace Ke:=bo1 Ke w.heap.size (.slice none 0 0) (by omega)
  replace Kl:=bs1 Kl (.slice none 0 0)
  have e0:=bk1 Ke
  have e1:=bk1 Kl
  simp [Leaves,settle,results,Tryz.results25,go_sem,e0,e1]
  exact .inr ⟨hE0,rfl,(HX3.out.set (p:=⟨w.heap.size+1,0,none⟩) (by dsimp only;omega) _).set (p:=⟨w.heap.size,0,none⟩) (by dsimp only;omega) _⟩
end Go.Proofs.YtolffmmkjnhkkaaGreat
namespace Go.Proofs.YtolffmmkjnhkkaaGreat
open Go.RowKit Go BigFrame Go.Shelf
set_option maxRecDepth 100000
set_option linter.unusedSimpArgs false
set_option linter.unusedVariables false
attribute [local go_sem] Oper.semAt_some
def MkP (F:Option Rat) (w:World) (e:Ending) (w':World):Prop:=∃c:RatC,e=.returned c.val∧RO w' c.val F∧FreshC w.heap.size c∧Ext w w'
def RowsP (E:Int) (Rs:List (Option Rat)) (w:World) (e:Ending) (w':World):Prop:=
 (E=0∧∃v xs,e=.returned (.tuple #[v,.int .i64 0])∧OwnOs w' w.heap.size v xs Rs∧Ext w w')∨(E≠0∧e=.returned (.tuple #[.slice none 0 0,.int .i64 E])∧Ext w w')
set_option maxHeartbeats 8000000 in
theorem corrected_rows (a:Option Addr) (cap:Nat) (m:List (List Int)) (s:Option Addr) (sc:Nat) (L:List RatA) (Bv:Nat) (F:List Int→Option Rat) (w:World) (h:Rows w a cap m) (k:RatsI w s sc L)
 (hf:errM m L.length (L.any fun x=>!x.ok)=0→∀W,Ext w W→∀r∈m,∀a c,Ints W a c r→Calls Tryz.prog 31 #[.slice a r.length c,.pointer (some ⟨Bv,0,none⟩)] W (MkP (F r) W)):
 Calls Tryz.prog 30 #[.slice a m.length cap,.slice s L.length sc,.func (.func 31) #[] #[.pointer (some ⟨Bv,0,none⟩)]] w (RowsP (errM m L.length (L.any fun x=>!x.ok)) (m.map F) w):=by
 have hmf:∀ (fn:Fn) (first cap:Array Value) (w:World),(Instr.makeFunc fn first cap).run Tryz.prog w=.ok (.func fn first cap) w:=fun _ _ _ _=>rfl
 have hle:=h.le
 have hmx:=h.mx
 have sle:=k.le
 have smx:=k.mx
 obtain⟨x1,hw,hx,Kl,Ke⟩:=boxQ2 w #[.slice none 0 0] 23 #[.int .i64 0] 27
 replace hw:=Lib.hid hw
 have HC:=corrected_check a cap m s sc L x1 (h.ext hx) (k.ext hx)
 obtain⟨E,hE⟩:∃E,errM m L.length (L.any fun x=>!x.ok)=E:=⟨_,rfl⟩
 rw [hE] at HC hf ⊢
 have HE:Hid (4096<m.length→E≠0):=Lib.hid (fun h e=>by rw [e] at hE;unfold errM at hE;rw [if_pos (.inl h)] at hE;cases hE)
 have HC:=Lib.hid HC
 have HH:=Lib.hid h
 have HF:=Lib.hid hf
 clear h k hE hf
 go_enter_defers Tryz.func30,Tryz.ntmps30
 go_upto_region 1 with fail
 try simp only [Nat.add_assoc,Nat.reduceAdd,Nat.add_zero]
 rw [hw.out]
 clear hw
 go_wp2_with fail
 refine HC.out.mono ?_
 rintro e x2 ⟨rfl,hy⟩
 replace hx:=hx.trans hy
 replace Kl:=kE Kl hy
 replace Ke:=kE Ke hy
 have hszw:=hx.size
 clear hy HC
 by_cases hE0:E=0
 ·subst hE0
  rw [show chkEnd 0=.returned (.tuple #[]) from rfl]
  have hm4:m.length≤4096:=Nat.le_of_not_lt fun h=>HE.out h rfl
  have HX2:=Lib.hid hx
  clear HE hx
  go_wp2_with fail
  go_loopw [16] (fun i wr=>∃q:Nat,q≤m.length∧i=.int .i64 q∧∃ (v:Value) (xs:List RatC),(OwnOs wr w.heap.size v xs ((m.take q).map F))∧(∀x∈xs,x.Off (some w.heap.size)∧x.Off (some (w.heap.size+1)))∧Blk wr w.heap.size #[v] 23∧Blk wr (w.heap.size+1) #[.int .i64 0] 27∧Ext w wr) (fun i _=>m.length - (intOf i).toNat)
  case atStart=>exact⟨0,Nat.zero_le _,rfl,_,[],OwnOs.nil _ _,(fun x hx=>by cases hx),Kl.out,Ke.out,HX2.out⟩
  case round=>
   obtain⟨q,hq,rfl,v,xs,hO,hoff,hl,he,hxr⟩:=hrel
   clear Kl Ke HX2
   have q1:(0:Int)≤(q:Int):=by omega
   obtain⟨va,vc,rfl,hvl,hvc⟩:=hO.form
   have HO:=Lib.hid hO
   have HOF:=Lib.hid hoff
   have Kl:=Lib.hid hl
   have Ke:=Lib.hid he
   have HXR:=Lib.hid hxr
   clear hO hoff hl he
   by_cases hqn:q<m.length
   ·have q2:(q:Int)< (m.length:Int):=by omega
    obtain⟨b,o,rfl⟩:=HH.out.head hqn
    obtain⟨r,a3,c3,hr,hc,hI⟩:=Rows.get (HH.out.ext hxr) hqn
    have hw1:IntKind.i64.wrap ((q:Int)+1)= (q:Int)+1:=IntWalk.i64_in _ (by omega)
    have HR:=Lib.hid hr
    have HI:=Lib.hid hI
    clear hr hI
    go_upto_region 7 with fail
    have hE:Ext wr wr.drew:=(Ext.refl wr).drew
    replace Kl:=kE Kl hE
    replace Ke:=kE Ke hE
    replace hxr:=hxr.trans hE
    have hO:=HO.out.ext hE
    have hz:=hxr.size
    have HXL:=Lib.hid (show xs.length=q from by have:=HO.out.len;rw [List.length_map,List.length_take] at this;omega)
    have s0:=bk1 Kl
    clear hc
    refine wp_region_noPanic ?_
    refine wp_region_held_drew (S:=(fun w'=>True)) (by kernel_rfl) ?_ (fun hHeld=>?_)
    ·trivial
    (try simp only [pur,Nat.reduceAdd])
    refine tk (v:=?_) 1 rfl (by kernel_rfl) (fun _ _ _ h=>h) (by rfl) ?_ (by assumption) ?_
    rotate_left
    ·(intro w hSw;(try dsimp only at hSw);(try go_simp);(try with_reducible rfl))
    (try simp only [Act.put,pus])
    refine tk (v:=?_) 2 rfl (by kernel_rfl) (fun _ _ _ h=>h) (by rfl) ?_ (by assumption) ?_
    rotate_left
    ·(intro w hSw;(try dsimp only at hSw);(try go_simp);(try with_reducible rfl))
    (try simp only [Act.put,pus])
    refine wpAnyH_ready (rs:=[0,3]) (by kernel_rfl) (by simp) ?_
    refine AllReadyH.cons (o:=_) rfl (fun K hK=>?_) ?_
    ·go_simp
     refine hK.out _ _ ?_ (fun hHeld2=>?_)
     ·trivial
     clear hK K hHeld
     have hHeld:=hHeld2
     clear hHeld2
     (try simp only [Act.put,pus])
     refine wpAnyH_ready (rs:=[3]) (by kernel_rfl) (by simp) ?_
     refine AllReadyH.cons (o:=_) rfl (fun K hK=>?_) ?_
     ·go_simp
      have hlt0:=hO.lt;have hz0:=hxr.size;have hk0:=Ke.out.lt;(with_reducible refine(HF.out (by simp) _ hxr r (List.mem_of_getElem? HR.out) a3 c3 (HI.out.ext hE)).mono ?_);rintro e y1 ⟨⟨n1,a1,q1',c1,m1,b1,k1,d1⟩,rfl,hrd,hfr,hy⟩;have hfo:=hfr.off (o:=(Value.slice va xs.length vc).ownBlock) (fun g e=>(hlt0 g e).2);have hfr1:=hfr.off (o:=some w.heap.size) (fun g e=>by cases e;omega);have hfr2:=hfr.off (o:=some (w.heap.size+1)) (fun g e=>by cases e;omega);clear hfr;replace s0:=cell_exQ hy s0;replace hO:=hO.ext hy;replace Kl:=kE Kl hy;replace Ke:=kE Ke hy;replace hxr:=hxr.trans hy;clear hy hlt0 hz0 hk0
      refine hK.out _ _ ?_ (fun hHeld2=>?_)
      ·trivial
      clear hK K hHeld
      have hHeld:=hHeld2
      clear hHeld2
      (try simp only [Act.put,pus])
      refine wpAnyH_ready (rs:=[4]) (by kernel_rfl) (by simp) ?_
      refine AllReadyH.cons (o:=_) rfl (fun K hK=>?_) ?_
      ·go_simp
       have hy:Ext y1 (y1.alloc (.cells #[.bool n1,.slice a1 q1' c1,.bool m1,.slice b1 k1 d1] 38)):=Ext.alloc _ _;have hb:=Blk.new0 y1 #[.bool n1,.slice a1 q1' c1,.bool m1,.slice b1 k1 d1] 38;replace hrd:=hrd.ext hy;replace s0:=cell_exQ hy s0;replace hO:=hO.ext hy;replace Kl:=kE Kl hy;replace Ke:=kE Ke hy;replace hxr:=hxr.trans hy;clear hy;generalize y1.alloc (.cells #[.bool n1,.slice a1 q1' c1,.bool m1,.slice b1 k1 d1] 38)=y2 at *;generalize y1.heap.size=gb at *
       refine hK.out _ _ ?_ (fun hHeld2=>?_)
       ·trivial
       clear hK K hHeld
       have hHeld:=hHeld2
       clear hHeld2
       (try simp only [Act.put,pus])
       refine wpAnyH_ready (rs:=[5]) (by kernel_rfl) (by simp) ?_
       refine AllReadyH.cons (o:=_) rfl (fun K hK=>?_) ?_
       ·refine step_append_o (by rfl) (.tmp 20) (.tmp 24) (by rfl) hxr (by rfl) hO (by rfl) (x:=⟨n1,a1,q1',c1,m1,b1,k1,d1⟩) hb hrd hfo (by have:=HXL.out;omega) ?_;intro v4 y4 hO4 hx4 hg4 hat4;clear hat4;obtain⟨ua,uc,rfl,-,-⟩:=hO4.form;rw [List.length_append,List.length_singleton] at hO4 ⊢;replace hxr:=hx4;have ap1:=hO.apartO Kl.out (by decide);have ap2:=hO.apartO Ke.out (by decide);replace Kl:=Lib.hid (Kl.out.grown hg4 ap1);replace Ke:=Lib.hid (Ke.out.grown hg4 ap2);replace hO:=hO4;clear ap1 ap2 hO4 hx4 hg4 s0
        refine hK.out _ _ ?_ (fun hHeld2=>?_)
        ·trivial
        clear hK K hHeld
        have hHeld:=hHeld2
        clear hHeld2
        (try simp only [Act.put,pus])
        refine wpAnyH_ready (rs:=[6]) (by kernel_rfl) (by simp) ?_
        refine AllReadyH.cons (o:=_) rfl (fun K hK=>?_) ?_
        ·obtain⟨g0,z0⟩:=bp1 Kl (.slice ua (xs.length+1) uc);go_simp;clear g0 z0;have hoff2:∀x∈xs ++ [⟨n1,a1,q1',c1,m1,b1,k1,d1⟩],x.Off (some w.heap.size)∧x.Off (some (w.heap.size+1)):=(fun x hx=>by rcases List.mem_append.1 hx with h | h;exact HOF.out x h;rw [List.mem_singleton.1 h];exact⟨hfr1,hfr2⟩);replace hO:=hO.other (hO.apartO Kl.out (by decide)) (fun x hx=>(hoff2 x hx).1) 0 (.slice ua (xs.length+1) uc);replace Kl:=bs1 Kl (.slice ua (xs.length+1) uc);replace Ke:=bo1 Ke w.heap.size (.slice ua (xs.length+1) uc) (by omega);replace hxr:=Ext.set (p:=⟨w.heap.size,0,none⟩) hxr (by dsimp only;omega) (.slice ua (xs.length+1) uc);rw [show(m.take q).map F ++ [F r]= (m.take (q+1)).map F from(by rw [take_get HR.out,List.map_append,List.map_singleton])] at hO;generalize World.setCell y4 ⟨w.heap.size,0,none⟩ (.slice ua (xs.length+1) uc)=y5 at *
         refine hK.out _ _ ?_ (fun hHeld2=>?_)
         ·trivial
         clear hK K hHeld
         have hHeld:=hHeld2
         clear hHeld2
         (try simp only [Act.put,pus])
         refine wpAnyH_done (by kernel_rfl) ?_ _
         refine NoPanic.normal ?_
         clear hHeld
         go_wp2_with fail
         go_roundw
         case rel=>exact⟨q+1,by omega,by go_num,_,_,hO,hoff2,Kl.out,Ke.out,hxr⟩
         case measure=>simp [intOf];omega
        exact AllReadyH.nil
       exact AllReadyH.nil
      exact AllReadyH.nil
     exact AllReadyH.nil
    refine AllReadyH.cons (o:=_) rfl (fun K hK=>?_) ?_
    ·go_simp
     have hlt0:=hO.lt;have hz0:=hxr.size;have hk0:=Ke.out.lt;(with_reducible refine(HF.out (by simp) _ hxr r (List.mem_of_getElem? HR.out) a3 c3 (HI.out.ext hE)).mono ?_);rintro e y1 ⟨⟨n1,a1,q1',c1,m1,b1,k1,d1⟩,rfl,hrd,hfr,hy⟩;have hfo:=hfr.off (o:=(Value.slice va xs.length vc).ownBlock) (fun g e=>(hlt0 g e).2);have hfr1:=hfr.off (o:=some w.heap.size) (fun g e=>by cases e;omega);have hfr2:=hfr.off (o:=some (w.heap.size+1)) (fun g e=>by cases e;omega);clear hfr;replace s0:=cell_exQ hy s0;replace hO:=hO.ext hy;replace Kl:=kE Kl hy;replace Ke:=kE Ke hy;replace hxr:=hxr.trans hy;clear hy hlt0 hz0 hk0
     refine hK.out _ _ ?_ (fun hHeld2=>?_)
     ·trivial
     clear hK K hHeld
     have hHeld:=hHeld2
     clear hHeld2
     (try simp only [Act.put,pus])
     refine wpAnyH_ready (rs:=[0,4]) (by kernel_rfl) (by simp) ?_
     refine AllReadyH.cons (o:=_) rfl (fun K hK=>?_) ?_
     ·go_simp
      refine hK.out _ _ ?_ (fun hHeld2=>?_)
      ·trivial
      clear hK K hHeld
      have hHeld:=hHeld2
      clear hHeld2
      (try simp only [Act.put,pus])
      refine wpAnyH_ready (rs:=[4]) (by kernel_rfl) (by simp) ?_
      refine AllReadyH.cons (o:=_) rfl (fun K hK=>?_) ?_
      ·go_simp
       have hy:Ext y1 (y1.alloc (.cells #[.bool n1,.slice a1 q1' c1,.bool m1,.slice b1 k1 d1] 38)):=Ext.alloc _ _;have hb:=Blk.new0 y1 #[.bool n1,.slice a1 q1' c1,.bool m1,.slice b1 k1 d1] 38;replace hrd:=hrd.ext hy;replace s0:=cell_exQ hy s0;replace hO:=hO.ext hy;replace Kl:=kE Kl hy;replace Ke:=kE Ke hy;replace hxr:=hxr.trans hy;clear hy;generalize y1.alloc (.cells #[.bool n1,.slice a1 q1' c1,.bool m1,.slice b1 k1 d1] 38)=y2 at *;generalize y1.heap.size=gb at *
       refine hK.out _ _ ?_ (fun hHeld2=>?_)
       ·trivial
       clear hK K hHeld
       have hHeld:=hHeld2
       clear hHeld2
       (try simp only [Act.put,pus])
       refine wpAnyH_ready (rs:=[5]) (by kernel_rfl) (by simp) ?_
       refine AllReadyH.cons (o:=_) rfl (fun K hK=>?_) ?_
       ·refine step_append_o (by rfl) (.tmp 20) (.tmp 24) (by rfl) hxr (by rfl) hO (by rfl) (x:=⟨n1,a1,q1',c1,m1,b1,k1,d1⟩) hb hrd hfo (by have:=HXL.out;omega) ?_;intro v4 y4 hO4 hx4 hg4 hat4;clear hat4;obtain⟨ua,uc,rfl,-,-⟩:=hO4.form;rw [List.length_append,List.length_singleton] at hO4 ⊢;replace hxr:=hx4;have ap1:=hO.apartO Kl.out (by decide);have ap2:=hO.apartO Ke.out (by decide);replace Kl:=Lib.hid (Kl.out.grown hg4 ap1);replace Ke:=Lib.hid (Ke.out.grown hg4 ap2);replace hO:=hO4;clear ap1 ap2 hO4 hx4 hg4 s0
        refine hK.out _ _ ?_ (fun hHeld2=>?_)
        ·trivial
        clear hK K hHeld
        have hHeld:=hHeld2
        clear hHeld2
        (try simp only [Act.put,pus])
        refine wpAnyH_ready (rs:=[6]) (by kernel_rfl) (by simp) ?_
        refine AllReadyH.cons (o:=_) rfl (fun K hK=>?_) ?_
        ·obtain⟨g0,z0⟩:=bp1 Kl (.slice ua (xs.length+1) uc);go_simp;clear g0 z0;have hoff2:∀x∈xs ++ [⟨n1,a1,q1',c1,m1,b1,k1,d1⟩],x.Off (some w.heap.size)∧x.Off (some (w.heap.size+1)):=(fun x hx=>by rcases List.mem_append.1 hx with h | h;exact HOF.out x h;rw [List.mem_singleton.1 h];exact⟨hfr1,hfr2⟩);replace hO:=hO.other (hO.apartO Kl.out (by decide)) (fun x hx=>(hoff2 x hx).1) 0 (.slice ua (xs.length+1) uc);replace Kl:=bs1 Kl (.slice ua (xs.length+1) uc);replace Ke:=bo1 Ke w.heap.size (.slice ua (xs.length+1) uc) (by omega);replace hxr:=Ext.set (p:=⟨w.heap.size,0,none⟩) hxr (by dsimp only;omega) (.slice ua (xs.length+1) uc);rw [show(m.take q).map F ++ [F r]= (m.take (q+1)).map F from(by rw [take_get HR.out,List.map_append,List.map_singleton])] at hO;generalize World.setCell y4 ⟨w.heap.size,0,none⟩ (.slice ua (xs.length+1) uc)=y5 at *
         refine hK.out _ _ ?_ (fun hHeld2=>?_)
         ·trivial
         clear hK K hHeld
         have hHeld:=hHeld2
         clear hHeld2
         (try simp only [Act.put,pus])
         refine wpAnyH_done (by kernel_rfl) ?_ _
         refine NoPanic.normal ?_
         clear hHeld
         go_wp2_with fail
         go_roundw
         case rel=>exact⟨q+1,by omega,by go_num,_,_,hO,hoff2,Kl.out,Ke.out,hxr⟩
         case measure=>simp [intOf];omega
        exact AllReadyH.nil
       exact AllReadyH.nil
      exact AllReadyH.nil
     refine AllReadyH.cons (o:=_) rfl (fun K hK=>?_) ?_
     ·go_simp
      have hy:Ext y1 (y1.alloc (.cells #[.bool n1,.slice a1 q1' c1,.bool m1,.slice b1 k1 d1] 38)):=Ext.alloc _ _;have hb:=Blk.new0 y1 #[.bool n1,.slice a1 q1' c1,.bool m1,.slice b1 k1 d1] 38;replace hrd:=hrd.ext hy;replace s0:=cell_exQ hy s0;replace hO:=hO.ext hy;replace Kl:=kE Kl hy;replace Ke:=kE Ke hy;replace hxr:=hxr.trans hy;clear hy;generalize y1.alloc (.cells #[.bool n1,.slice a1 q1' c1,.bool m1,.slice b1 k1 d1] 38)=y2 at *;generalize y1.heap.size=gb at *
      refine hK.out _ _ ?_ (fun hHeld2=>?_)
      ·trivial
      clear hK K hHeld
      have hHeld:=hHeld2
      clear hHeld2
      (try simp only [Act.put,pus])
      refine wpAnyH_ready (rs:=[0]) (by kernel_rfl) (by simp) ?_
      refine AllReadyH.cons (o:=_) rfl (fun K hK=>?_) ?_
      ·go_simp
       refine hK.out _ _ ?_ (fun hHeld2=>?_)
       ·trivial
       clear hK K hHeld
       have hHeld:=hHeld2
       clear hHeld2
       (try simp only [Act.put,pus])
       refine wpAnyH_ready (rs:=[5]) (by kernel_rfl) (by simp) ?_
       refine AllReadyH.cons (o:=_) rfl (fun K hK=>?_) ?_
       ·refine step_append_o (by rfl) (.tmp 20) (.tmp 24) (by rfl) hxr (by rfl) hO (by rfl) (x:=⟨n1,a1,q1',c1,m1,b1,k1,d1⟩) hb hrd hfo (by have:=HXL.out;omega) ?_;intro v4 y4 hO4 hx4 hg4 hat4;clear hat4;obtain⟨ua,uc,rfl,-,-⟩:=hO4.form;rw [List.length_append,List.length_singleton] at hO4 ⊢;replace hxr:=hx4;have ap1:=hO.apartO Kl.out (by decide);have ap2:=hO.apartO Ke.out (by decide);replace Kl:=Lib.hid (Kl.out.grown hg4 ap1);replace Ke:=Lib.hid (Ke.out.grown hg4 ap2);replace hO:=hO4;clear ap1 ap2 hO4 hx4 hg4 s0
        refine hK.out _ _ ?_ (fun hHeld2=>?_)
        ·trivial
        clear hK K hHeld
        have hHeld:=hHeld2
        clear hHeld2
        (try simp only [Act.put,pus])
        refine wpAnyH_ready (rs:=[6]) (by kernel_rfl) (by simp) ?_
        refine AllReadyH.cons (o:=_) rfl (fun K hK=>?_) ?_
        ·obtain⟨g0,z0⟩:=bp1 Kl (.slice ua (xs.length+1) uc);go_simp;clear g0 z0;have hoff2:∀x∈xs ++ [⟨n1,a1,q1',c1,m1,b1,k1,d1⟩],x.Off (some w.heap.size)∧x.Off (some (w.heap.size+1)):=(fun x hx=>by rcases List.mem_append.1 hx with h | h;exact HOF.out x h;rw [List.mem_singleton.1 h];exact⟨hfr1,hfr2⟩);replace hO:=hO.other (hO.apartO Kl.out (by decide)) (fun x hx=>(hoff2 x hx).1) 0 (.slice ua (xs.length+1) uc);replace Kl:=bs1 Kl (.slice ua (xs.length+1) uc);replace Ke:=bo1 Ke w.heap.size (.slice ua (xs.length+1) uc) (by omega);replace hxr:=Ext.set (p:=⟨w.heap.size,0,none⟩) hxr (by dsimp only;omega) (.slice ua (xs.length+1) uc);rw [show(m.take q).map F ++ [F r]= (m.take (q+1)).map F from(by rw [take_get HR.out,List.map_append,List.map_singleton])] at hO;generalize World.setCell y4 ⟨w.heap.size,0,none⟩ (.slice ua (xs.length+1) uc)=y5 at *
         refine hK.out _ _ ?_ (fun hHeld2=>?_)
         ·trivial
         clear hK K hHeld
         have hHeld:=hHeld2
         clear hHeld2
         (try simp only [Act.put,pus])
         refine wpAnyH_done (by kernel_rfl) ?_ _
         refine NoPanic.normal ?_
         clear hHeld
         go_wp2_with fail
         go_roundw
         case rel=>exact⟨q+1,by omega,by go_num,_,_,hO,hoff2,Kl.out,Ke.out,hxr⟩
         case measure=>simp [intOf];omega
        exact AllReadyH.nil
       exact AllReadyH.nil
      exact AllReadyH.nil
     exact AllReadyH.nil
    exact AllReadyH.nil
   ·have q2:¬ (q:Int)< (m.length:Int):=by omega
    have hqe:q=m.length:=by omega
    subst hqe
    have HO2:=Lib.hid (by have:=HO.out;rwa [List.take_length] at this)
    clear HO
    have c0:=bk1 Kl
    obtain⟨g0,z0⟩:=bp1 Kl (.slice va xs.length vc)
    have Kl2:=bs1 Kl (.slice va xs.length vc)
    have Ke2:=bo1 Ke w.heap.size (.slice va xs.length vc) (by omega)
    obtain⟨g1,z1⟩:=bp1 Ke2 (.int .i64 0)
    have Kl3:=bo1 Kl2 (w.heap.size+1) (.int .i64 0) (by omega)
    have Ke3:=bs1 Ke2 (.int .i64 0)
    go_wp2_with fail
    have d0:=bk1 Kl3
    have d1:=bk1 Ke3
    refine leaves_cons (f:=51) (args:=#[.pointer (some ⟨w.heap.size+1,0,none⟩)]) (by simp) (by simp [go_sem]) ?_
    refine(mcaught_idle ⟨w.heap.size+1,0,none⟩ _).mono ?_
    rintro e u' w'' ⟨rfl,rfl,rfl⟩
    simp only [settle]
    refine leaves_cons (f:=56) (args:=#[.pointer (some ⟨w.heap.size+1,0,none⟩),.pointer (some ⟨w.heap.size,0,none⟩)]) (by simp) (by simp [go_sem]) ?_
    refine(rows1_ok (w.heap.size+1) w.heap.size _ Ke3.out).mono ?_
    rintro e u' w'' ⟨rfl,rfl,rfl⟩
    have hfin:RowsP 0 (m.map F) w (.returned (.tuple #[.slice va xs.length vc,.int .i64 0])) ((wr.setCell ⟨w.heap.size,0,none⟩ (.slice va xs.length vc)).setCell ⟨w.heap.size+1,0,none⟩ (.int .i64 0)):=by
     refine .inl ⟨rfl,_,xs,rfl,?_,(HXR.out.set (p:=⟨w.heap.size,0,none⟩) (by dsimp only;omega) _).set (p:=⟨w.heap.size+1,0,none⟩) (by dsimp only;omega) _⟩
     have o1:=HO2.out.other (HO2.out.apartO Kl.out (by decide)) (fun x hx=>(HOF.out x hx).1) 0 (.slice va xs.length vc)
     exact o1.other (o1.apartO Ke2.out (by decide)) (fun x hx=>(HOF.out x hx).2) 0 (.int .i64 0)
    simp [Leaves,settle,results,Tryz.results30,go_sem,d0,d1]
    exact hfin
 ·rw [show chkEnd E=stopEnd E from if_neg hE0]
  have HX2:=Lib.hid hx
  go_wp2_with fail
  refine leaves_cons (f:=51) (args:=#[.pointer (some ⟨w.heap.size+1,0,none⟩)]) (by simp) (by simp [go_sem]) ?_
  refine(mcaught_panicking (w.heap.size+1) 0 E [] _ Ke.out).mono ?_
  rintro e u' w'' ⟨rfl,rfl,x3,hy,rfl⟩
  have HX3:=Lib.hid (HX2.out.trans hy)
  replace Kl:=bo1 (kE Kl hy) (w.heap.size+1) (.int .i64 E) (by omega)
  replace Ke:=bs1 (kE Ke hy) (.int .i64 E)
  simp only [settle]
  refine leaves_cons (f:=56) (args:=#[.pointer (some ⟨w.heap.size+1,0,none⟩),.pointer (some ⟨w.heap.size,0,none⟩)]) (by simp) (by simp [go_sem]) ?_
  refine(rows1_err (w.heap.size+1) w.heap.size E _ _ _ Ke.out hE0 Kl.out).mono ?_
  rintro e u' w'' ⟨rfl,rfl,rfl⟩
  replace Ke:=bo1 Ke w.heap.size (.slice none 0 0) (by omega)
  replace Kl:=bs1 Kl (.slice none 0 0)
  have e0:=bk1 Ke
  have e1:=bk1 Kl
  simp [Leaves,settle,results,Tryz.results30,go_sem,e0,e1]
  exact .inr ⟨hE0,rfl,(HX3.out.set (p:=⟨w.heap.size+1,0,none⟩) (by dsimp only;omega) _).set (p:=⟨w.heap.size,0,none⟩) (by dsimp only;omega) _⟩
end Go.Proofs.YtolffmmkjnhkkaaGreat
namespace Go.Proofs.YtolffmmkjnhkkaaGreat
open Go.RowKit Go BigFrame Go.Shelf
set_option maxRecDepth 100000
set_option linter.unusedSimpArgs false
set_option linter.unusedVariables false
attribute [local go_sem] Oper.semAt_some
theorem errM_ok {m:List (List Int)} {n:Nat} {b:Bool} (h:errM m n b=0):m.length≤4096∧n≤256∧b=false∧∀r∈m,r.length=n∧∀x∈r,-1≤x∧x≤1000:=by
 unfold errM at h
 split at h
 ·cases h
 rename_i h1
 split at h
 ·cases h
 rename_i h2
 split at h
 ·cases h
 rename_i h3
 split at h
 ·cases h
 rename_i h4
 split at h
 ·cases h
 rename_i h5
 refine⟨by omega,by omega,by simpa using h5,fun r hr=>?_⟩
 have hp:0<m.length:=List.length_pos_of_mem hr
 have e:(m.headD []).length=n:=by
  refine Decidable.byContradiction fun hne=>h4 ⟨hp,hne⟩
 have h6:wrongM (m.headD []).length r=false:=by
  cases hb:wrongM (m.headD []).length r with
  | false=>rfl
  | true=>exact absurd (List.any_eq_true.2 ⟨r,hr,hb⟩) h3
 unfold wrongM at h6
 rw [Bool.or_eq_false_iff,decide_eq_false_iff_not,e] at h6
 refine⟨by have:=h6.1;omega,fun x hx=>?_⟩
 have h7:badM x=false:=by
  cases hb:badM x with
  | false=>rfl
  | true=>have:=h6.2;rw [List.any_eq_true.2 ⟨x,hx,hb⟩] at this;cases this
 unfold badM at h7
 rw [Bool.or_eq_false_iff,decide_eq_false_iff_not,decide_eq_false_iff_not] at h7
 omega
theorem RowsRP.low {E:Int} {Rs:List (List (Option Rat))} {w x:World} {e:Ending} {w':World} (hx:Ext w x) (h:RowsRP E Rs x e w'):RowsRP E Rs w e w':=by
 rcases h with⟨h0,v,xs,h1,h2,h3,h4⟩ | ⟨h0,h1,h2⟩
 ·exact .inl ⟨h0,v,xs,h1,h2.low hx.size,h3,hx.trans h4⟩
 ·exact .inr ⟨h0,h1,hx.trans h2⟩
theorem RowsP.low {E:Int} {Rs:List (Option Rat)} {w x:World} {e:Ending} {w':World} (hx:Ext w x) (h:RowsP E Rs x e w'):RowsP E Rs w e w':=by
 rcases h with⟨h0,v,xs,h1,h2,h4⟩ | ⟨h0,h1,h2⟩
 ·exact .inl ⟨h0,v,xs,h1,h2.low hx.size,hx.trans h4⟩
 ·exact .inr ⟨h0,h1,hx.trans h2⟩
set_option maxHeartbeats 4000000 in
theorem corrected_Marks (a:Option Addr) (cap:Nat) (m:List (List Int)) (s:Option Addr) (sc:Nat) (L:List RatA) (S:List Rat) (w:World) (h:Rows w a cap m) (k:RatsI w s sc L)
 (hS:errM m L.length (L.any fun x=>!x.ok)=0→ValL L S 7∧L.length≤20):
 Calls Tryz.prog 9 #[.slice a m.length cap,.slice s L.length sc] w (RowsRP (errM m L.length (L.any fun x=>!x.ok)) (m.map fun r=>rowO r S) w):=by
 have hmf:∀ (fn:Fn) (first cap:Array Value) (w:World),(Instr.makeFunc fn first cap).run Tryz.prog w=.ok (.func fn first cap) w:=fun _ _ _ _=>rfl
 have hle:=h.le
 have hmx:=h.mx
 have sle:=k.le
 have smx:=k.mx
 obtain⟨x1,hw,hx,Kb⟩:=boxQ1 w #[.slice s L.length sc] 23
 replace hw:=Lib.hid hw
 have HC:=Lib.hid (corrected_rowsR a cap m s sc L w.heap.size (fun r=>rowO r S) x1 (h.ext hx) (k.ext hx) (fun h0 W hW r hr a c hI=>by
  obtain⟨g1,g2⟩:=hS h0
  obtain⟨g3,g4,g5,g6⟩:=errM_ok h0
  obtain⟨g7,g8⟩:=g6 r hr
  have g9:=g1.1
  exact corrected_marks1 a c r s sc L S w.heap.size W hI ((k.ext hx).ext hW) (Kb.out.ext hW) g1 (by omega) g8 (by omega)))
 obtain⟨E,hE⟩:∃E,errM m L.length (L.any fun x=>!x.ok)=E:=⟨_,rfl⟩
 rw [hE] at HC ⊢
 have HX:=Lib.hid hx
 clear h k hS hE
 go_enter Tryz.func9,Tryz.ntmps9
 go_upto_region 1 with fail
 try simp only [Nat.add_assoc,Nat.reduceAdd,Nat.add_zero]
 rw [hw.out]
 clear hw
 have c0:=bk1 Kb
 go_wp2_with fail
 refine HC.out.mono ?_
 rintro e x2 (⟨rfl,v,xs,rfl,h1,h2,h3⟩ | ⟨h0,rfl,h2⟩)
 ·have hfin:RowsRP 0 (m.map fun r=>rowO r S) w (.returned (.tuple #[v,.int .i64 0])) x2:=RowsRP.low HX.out (.inl ⟨rfl,v,xs,rfl,h1,h2,h3⟩)
  obtain⟨va,vc,rfl,-,-⟩:=h1.form
  have HF:=Lib.hid hfin
  clear hfin h1 h2 h3
  go_wp2_with fail
  go_ret2
  exact HF.out
 ·have hfin:RowsRP E (m.map fun r=>rowO r S) w (.returned (.tuple #[.slice none 0 0,.int .i64 E])) x2:=RowsRP.low HX.out (.inr ⟨h0,rfl,h2⟩)
  have HF:=Lib.hid hfin
  clear hfin h2
  go_wp2_with fail
  go_ret2
  exact HF.out
set_option maxHeartbeats 4000000 in
theorem corrected_Means (a:Option Addr) (cap:Nat) (m:List (List Int)) (s:Option Addr) (sc:Nat) (L:List RatA) (S:List Rat) (w:World) (h:Rows w a cap m) (k:RatsI w s sc L)
 (hS:errM m L.length (L.any fun x=>!x.ok)=0→ValL L S 7∧L.length≤20):
 Calls Tryz.prog 11 #[.slice a m.length cap,.slice s L.length sc] w (RowsP (errM m L.length (L.any fun x=>!x.ok)) (m.map fun r=>meanO r S) w):=by
 have hmf:∀ (fn:Fn) (first cap:Array Value) (w:World),(Instr.makeFunc fn first cap).run Tryz.prog w=.ok (.func fn first cap) w:=fun _ _ _ _=>rfl
 have hle:=h.le
 have hmx:=h.mx
 have sle:=k.le
 have smx:=k.mx
 obtain⟨x1,hw,hx,Kb⟩:=boxQ1 w #[.slice s L.length sc] 23
 replace hw:=Lib.hid hw
 have HC:=Lib.hid (corrected_rows a cap m s sc L w.heap.size (fun r=>meanO r S) x1 (h.ext hx) (k.ext hx) (fun h0 W hW r hr a c hI=>by
  obtain⟨g1,g2⟩:=hS h0
  obtain⟨g3,g4,g5,g6⟩:=errM_ok h0
  obtain⟨g7,g8⟩:=g6 r hr
  have g9:=g1.1
  exact corrected_means1 a c r s sc L S w.heap.size W hI ((k.ext hx).ext hW) (Kb.out.ext hW) g1 (by omega) g8 (by omega)))
 obtain⟨E,hE⟩:∃E,errM m L.length (L.any fun x=>!x.ok)=E:=⟨_,rfl⟩
 rw [hE] at HC ⊢
 have HX:=Lib.hid hx
 clear h k hS hE
 go_enter Tryz.func11,Tryz.ntmps11
 go_upto_region 1 with fail
 try simp only [Nat.add_assoc,Nat.reduceAdd,Nat.add_zero]
 rw [hw.out]
 clear hw
 have c0:=bk1 Kb
 go_wp2_with fail
 refine HC.out.mono ?_
 rintro e x2 (⟨rfl,v,xs,rfl,h1,h2⟩ | ⟨h0,rfl,h2⟩)
 ·have hfin:RowsP 0 (m.map fun r=>meanO r S) w (.returned (.tuple #[v,.int .i64 0])) x2:=RowsP.low HX.out (.inl ⟨rfl,v,xs,rfl,h1,h2⟩)
  obtain⟨va,vc,rfl,-,-⟩:=h1.form
  have HF:=Lib.hid hfin
  clear hfin h1 h2
  go_wp2_with fail
  go_ret2
  exact HF.out
 ·have hfin:RowsP E (m.map fun r=>meanO r S) w (.returned (.tuple #[.slice none 0 0,.int .i64 E])) x2:=RowsP.low HX.out (.inr ⟨h0,rfl,h2⟩)
  have HF:=Lib.hid hfin
  clear hfin h2
  go_wp2_with fail
  go_ret2
  exact HF.out
end Go.Proofs.YtolffmmkjnhkkaaGreat
