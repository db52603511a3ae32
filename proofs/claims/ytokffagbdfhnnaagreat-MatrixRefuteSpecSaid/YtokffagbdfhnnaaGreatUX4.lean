import Derived.Test.YtokffagbdfhnnaaGreatUX2
import Derived.Test.YtokffagbdfhnnaaGreatUE
import Derived.OwnWalk
import Derived.Below
import Derived.Deep.QuietTactic
import Derived.Deep.Cut
namespace Go.Proofs.YtokffagbdfhnnaaGreat
open Go.RowKit Go BigFrame Go.Shelf
set_option maxRecDepth 100000
set_option linter.unusedSimpArgs false
set_option linter.unusedVariables false
attribute [local go_sem] Oper.semAt_some
set_option maxHeartbeats 4000000 in
theorem ref_vector (a:Option Addr) (cap:Nat) (A:List (List RatA)) (s:Option Addr) (sc:Nat) (L:List RatA) (n:Int) (w:World) (h:RRows w a cap A) (k:RatsI w s sc L) (hL:L.length≤1000):
 Calls Tryz.prog 32 #[.slice a A.length cap,.slice s L.length sc,.int .i64 n] w fun e w'=>e=.returned (.int .i64 (vecE A L n))∧Ext w w':=by
 have hle:=h.le
 have hmx:=h.mx
 have sle:=k.le
 have smx:=k.mx
 have HC:=Lib.hid (ref_Check11 a cap A w h)
 have HK:=Lib.hid k
 clear h k
 go_enter Tryz.func32,Tryz.ntmps32
 go_wp2_with fail
 refine HC.out.mono ?_
 rintro e x1 ⟨rfl,hy⟩
 have HX:=Lib.hid hy
 have HK1:=Lib.hid (HK.out.ext hy)
 clear hy HC HK
 by_cases hz:chkE A=0
 ·rw [hz]
  by_cases hn:(L.length:Int)=n
  ·have HE2:Hid (vecE A L n=elsE L):=Lib.hid (by unfold vecE;rw [if_neg (by simpa using hz),if_neg (by simpa using hn)])
   have g1:((L.length:Int) != n)=false:=by simp [hn]
   clear hz hn
   go_wp2_with fail
   refine(ref_elements s sc L _ HK1.out hL).mono ?_
   rintro e x2 ⟨rfl,hy⟩
   replace HX:=Lib.hid (HX.out.trans hy)
   clear hy
   go_wp2_with fail
   go_ret
   exact⟨(congrArg (fun z=>Ending.returned (Value.int .i64 z)) HE2.out).symm,HX.out⟩
  ·have HE2:Hid (vecE A L n=110):=Lib.hid (by unfold vecE;rw [if_neg (by simpa using hz),if_pos hn])
   have g1:((L.length:Int) != n)=true:=by simp [hn]
   clear hz hn
   go_wp2_with fail
   go_ret
   exact⟨(congrArg (fun z=>Ending.returned (Value.int .i64 z)) HE2.out).symm,HX.out⟩
 ·have HE2:Hid (vecE A L n=chkE A):=Lib.hid (by unfold vecE;rw [if_pos hz])
  have g1:(chkE A != 0)=true:=by simp [hz]
  clear hz
  go_wp2_with fail
  go_ret
  exact⟨(congrArg (fun z=>Ending.returned (Value.int .i64 z)) HE2.out).symm,HX.out⟩
set_option maxHeartbeats 4000000 in
theorem ref_Rank (a:Option Addr) (cap:Nat) (A:List (List RatA)) (w:World) (h:RRows w a cap A) (hf:chkE A=0→FewX A):
 Calls Tryz.prog 10 #[.slice a A.length cap] w fun e w'=>e=.returned (.tuple #[.int .i64 (rankA A),.int .i64 (chkE A)])∧Ext w w':=by
 have hle:=h.le
 have hmx:=h.mx
 have HH:=Lib.hid h
 clear h
 by_cases hz:chkE A=0
 ·have hfew:=hf hz
  have hc:=chkE_0 hz
  have HC:=Lib.hid (chk_cd hz)
  have HR:=Lib.hid (fun W (k:Ext w W)=>chk_read hz (RRows.ext k HH.out))
  have h17:A.length≤17:=hc.1
  have hw17:widA A≤17:=by
   by_cases h0:A.length=0
   ·rw [List.eq_nil_of_length_eq_zero h0];decide
   ·have:=hc.2.1 _ (mem_of_lt (show 0<A.length by omega));exact this
  have HK:Hid (rankA A= ((elimX A.length (mxA A) (widA A)).ps.length:Int)):=Lib.hid (if_pos hz)
  have HF:Hid (2 ^ widA A* (30* (A.length*widA A)+61+1)≤40920):=Lib.hid hfew
  have HCH:=Lib.hid (ref_Check11 a cap A w HH.out)
  rw [hz] at HCH ⊢
  clear hc hfew hf hz
  go_enter Tryz.func10,Tryz.ntmps10
  go_wp2_with fail
  refine HCH.out.mono ?_
  rintro e x1 ⟨rfl,hy⟩
  have HX:=Lib.hid hy
  have HX1:=Lib.hid hy
  clear hy HCH
  go_wp2_with fail
  refine(ref_Columns a cap A.length (widA A) x1 (HR.out x1 HX.out).wid).mono ?_
  rintro e x2 ⟨rfl,rfl⟩
  rw [wid_if]
  go_wp2_with fail
  refine(ref_reduced a cap A.length (widA A) (widA A) (vxA A) (mxA A) (30* (A.length*widA A)+61) _ (HR.out x1 HX.out) HC.out (Nat.le_refl _) (by omega) (by omega) HF.out).mono ?_
  rintro e x3 ⟨g,cg,vp,ad,val,V,rfl,_,hs,_,_,hy⟩
  obtain⟨av,cv,rfl⟩:=row_form hs.piv
  replace HX:=Lib.hid (HX.out.trans hy)
  clear hs hy
  go_wp2_with fail
  go_ret2
  exact⟨(congrArg (fun z=>Ending.returned (.tuple #[Value.int .i64 z,.int .i64 0])) HK.out).symm,HX.out⟩
 ·have HK:Hid (rankA A=0):=Lib.hid (if_neg hz)
  have g1:(chkE A != 0)=true:=by simp [hz]
  go_enter Tryz.func10,Tryz.ntmps10
  go_wp2_with fail
  refine(ref_Check11 a cap A w HH.out).mono ?_
  rintro e x1 ⟨rfl,hy⟩
  have HX:=Lib.hid hy
  clear hy hz hf
  go_wp2_with fail
  go_ret2
  exact⟨(congrArg (fun z=>Ending.returned (.tuple #[Value.int .i64 z,.int .i64 (chkE A)])) HK.out).symm,HX.out⟩
end Go.Proofs.YtokffagbdfhnnaaGreat
namespace Go.Proofs.YtokffagbdfhnnaaGreat
open Go.RowKit Go BigFrame Go.Shelf
set_option maxRecDepth 100000
set_option linter.unusedSimpArgs false
set_option linter.unusedVariables false
attribute [local go_sem] Oper.semAt_some
def augF (n:Nat) (M:Mx) (f:Nat→Rat):Mx:=fun r c=>if c<n then M r c else f r
def SolS (m n:Nat) (S:StX) (w:World) (e:Ending) (w':World):Prop:=∃ (a:Option Addr) (cap:Nat) (V:Nat→RatC),e=.returned (.tuple #[.slice a (if okB m n S then n else 0) cap,.bool (okB m n S)])∧
 RowR w' a cap (if okB m n S then n else 0) V (solX n S)∧Ext w w'
abbrev noC:RatC:=⟨false,none,0,0,false,none,0,0⟩
theorem RedS.pivot {w:World} {B g m N:Nat} {val:Nat→Value} {V:Nat→Nat→RatC} {M:Mx} {vp:Value} {ps:List Nat} (h:RedS w B g m N val V M vp ps) {i k:Nat} (hi:ps[i]? =some k):
 ∃b cv,vp=.slice (some ⟨b,0,none⟩) ps.length cv∧w.cell? ⟨b,i,none⟩=some (.int .i64 k):=by
 have hl:i<ps.length:=(List.getElem?_eq_some_iff.1 hi).1
 rcases h.piv.2 with⟨_,h0⟩ | ⟨b,cv,cur,rfl,_⟩
 ·omega
 ·refine⟨b,cv,rfl,?_⟩
  have:=World.ownsRow.cellAt h.piv i (by omega)
  rw [List.getElem?_map,hi] at this
  exact this
theorem augF_row {w:World} {n q:Nat} {V:Nat→Nat→RatC} {M:Mx} {f:Nat→Rat} {x:RatC} (h:∀c,c<n→RatV w (V q c).val (M q c)) (hx:RatV w x.val (f q)):∀c,c<n+1→RatV w (snocU n (V q) x c).val (augF n M f q c):=fun c hc=>by
 unfold snocU augF
 by_cases e:c<n
 ·rw [if_pos e,if_pos e];exact h c e
 ·rw [if_neg e,if_neg e];exact hx
set_option maxHeartbeats 32000000 in
theorem ref_solve (a:Option Addr) (cap m n:Nat) (V:Nat→Nat→RatC) (M:Mx) (s:Option Addr) (sc:Nat) (U:Nat→RatC) (f:Nat→Rat) (e:Nat) (w:World) (h:MatR w a cap m n V M) (k:RowR w s sc m U f) (hcd:CdX m (n+1) e (augF n M f)) (hn:n≤90) (hm:m≤90) (he:2 ^ n* (e+1)≤40920):
 Calls Tryz.prog 33 #[.slice a m cap,.slice s m sc,.int .i64 n] w (SolP m n (augF n M f) w):=by
 have hle:=h.le
 have hmx:=h.mx
 have sle:=k.le
 have smx:=k.mx
 have HH:=Lib.hid h
 have HK:=Lib.hid k
 have HCD:=Lib.hid hcd
 have HF:=Lib.hid he
 clear h k hcd he
 go_enter Tryz.func33,Tryz.ntmps33
 go_wp2_with fail
 go_loopw [8,9] (fun s8 v wr=>∃q:Nat,q≤m∧v=.int .i64 q∧∃g cp V' M',RowsO wr w.heap.size q (n+1) s8 g cp V' M'∧(∀r,r<q→∀c,c<n+1→M' r c=augF n M f r c)∧Ext w wr) (fun _ v _=>m - (intOf v).toNat)
 case atStart=>exact⟨0,Nat.zero_le _,rfl,fun _=>0,fun _=>0,fun _ _=>⟨false,none,0,0,false,none,0,0⟩,fun _ _=>0,RowsO.nil _ _ _ _ _ _ _,fun r hr=>by omega,Ext.refl _⟩
 case round=>
  obtain⟨q,hq,rfl,g,cp,V',M',hro,hmq,hxr⟩:=hrel
  have q0:(0:Int)≤(q:Int):=by omega
  obtain⟨av,cv,rfl⟩:=row_form hro.own
  by_cases hqm:q<m
  ·have q1:(q:Int)< (m:Int):=by omega
   have hw1:IntKind.i64.wrap ((q:Int)+1)= (q:Int)+1:=IntWalk.i64_in _ (by omega)
   obtain⟨b,o,rfl⟩:=HH.out.head hqm
   obtain⟨_,ar,cr,h1,hrw⟩:=HH.out.cells _ rfl q hqm
   dsimp only at h1
   obtain⟨bs,os,rfl⟩:=HK.out.head hqm
   obtain⟨_,c0,c1,c2,c3⟩:=HK.out.cells _ rfl q hqm
   have hvq:=HK.out.val q hqm
   dsimp only at c0 c1 c2 c3
   generalize U q=x at *
   obtain⟨n1,ad,ql,c,n2,b',km,dd⟩:=x
   dsimp only [RatC.val] at c0 c1 c2 c3 hvq
   have HAV:=Lib.hid (augF_row (V:=V) (M:=M) (x:=⟨n1,ad,ql,c,n2,b',km,dd⟩) hrw.val hvq)
   have hrle:=hrw.le
   have hrmx:=hrw.mx
   have HRW:=Lib.hid (hrw.ext hxr)
   have HRO:=Lib.hid hro
   have HXW:=Lib.hid hxr
   have HMQ:=Lib.hid hmq
   have s0c:=Lib.hid (fun(W:World) (k:Ext w W)=>And.intro (cell_exQ k h1) (And.intro (cell_exQ k c0) (And.intro (cell_exQ k c1) (And.intro (cell_exQ k c2) (cell_exQ k c3)))))
   clear h1 hrw c0 c1 c2 c3 hvq hro hxr hmq
   go_upto_region 5 with fail
   have HE:Hid (Ext wr (World.drew wr)):=Lib.hid (Ext.refl _).drew
   have HEW:=Lib.hid (Ext.trans HXW.out HE.out)
   refine wp_region_held_drew (S:=(fun w'=>World.cell? w' ⟨b,o+q,none⟩=some (.slice ar n cr)∧World.cell? w' ⟨bs,os+q*4,none⟩=some (.bool n1)∧World.cell? w' ⟨bs,os+q*4+1,none⟩=some (.slice ad ql c)∧World.cell? w' ⟨bs,os+q*4+2,none⟩=some (.bool n2)∧World.cell? w' ⟨bs,os+q*4+3,none⟩=some (.slice b' km dd))) (by kernel_rfl) ?_ (fun hHeld=>?_)
   ·exact s0c.out _ HEW.out
   (try simp only [pur,Nat.reduceAdd])
   generalize World.drew wr=x3 at *
   refine tk (v:=?_) 0 rfl (by kernel_rfl) (fun _ _ _ h=>h) (by rfl) ?_ (by assumption) ?_
   rotate_left
   ·(intro w hSw;(try dsimp only at hSw);(try go_simp);(try with_reducible rfl))
   (try simp only [Act.put,pus])
   refine tk (v:=?_) 2 rfl (by kernel_rfl) (fun _ _ _ h=>h) (by rfl) ?_ (by assumption) ?_
   rotate_left
   ·(intro w hSw;(try dsimp only at hSw);(try go_simp);(try with_reducible rfl))
   (try simp only [Act.put,pus])
   refine tk (v:=?_) 3 rfl (by kernel_rfl) (fun _ _ _ h=>h) (by rfl) ?_ (by assumption) ?_
   rotate_left
   ·(intro w hSw;(try dsimp only at hSw);(try go_simp);(try with_reducible rfl))
   (try simp only [Act.put,pus])
   refine tk (v:=?_) 4 rfl (by kernel_rfl) (fun _ _ _ h=>h) (by rfl) ?_ (by assumption) ?_
   rotate_left
   ·(intro w hSw;(try dsimp only at hSw);(try go_simp);(try with_reducible rfl))
   (try simp only [Act.put,pus])
   refine tk (v:=?_) 5 rfl (by kernel_rfl) (fun _ _ _ h=>h) (by rfl) ?_ (by assumption) ?_
   rotate_left
   ·(intro w hSw;(try dsimp only at hSw);(try go_simp);(try with_reducible rfl))
   (try simp only [Act.put,pus])
   refine tk (v:=?_) 7 rfl (by kernel_rfl) (fun _ _ _ h=>h) (by rfl) ?_ (by assumption) ?_
   rotate_left
   ·(intro w hSw;(try dsimp only at hSw);(try go_simp);(try with_reducible rfl))
   (try simp only [Act.put,pus])
   refine tk (v:=?_) 8 rfl (by kernel_rfl) (fun _ _ _ h=>h) (by rfl) ?_ (by assumption) ?_
   rotate_left
   ·(intro w hSw;(try dsimp only at hSw);(try go_simp);(try with_reducible rfl))
   (try simp only [Act.put,pus])
   refine tk (v:=?_) 9 rfl (by kernel_rfl) (fun _ _ _ h=>h) (by rfl) ?_ (by assumption) ?_
   rotate_left
   ·(intro w hSw;(try dsimp only at hSw);(try go_simp);(try with_reducible rfl))
   (try simp only [Act.put,pus])
   refine tk (v:=?_) 10 rfl (by kernel_rfl) (fun _ _ _ h=>h) (by rfl) ?_ (by assumption) ?_
   rotate_left
   ·(intro w hSw;(try dsimp only at hSw);(try go_simp);(try with_reducible rfl))
   (try simp only [Act.put,pus])
   refine wpAnyH_ready (rs:=[1,11]) (by kernel_rfl) (by simp) ?_
   refine AllReadyH.cons (o:=_) rfl (fun K hK=>?_) ?_
   ·go_simp
    have hy:=Ext.alloc x3 (.cells #[] 44);have HO:=Lib.hid (ownEmpty (k:=4) (B:=wr.heap.size) (Blk.new0 x3 #[] 44) HE.out.size);replace HE:=Lib.hid (Ext.trans HE.out hy);replace HEW:=Lib.hid (Ext.trans HXW.out HE.out);clear hy;generalize World.alloc x3 (.cells #[] 44)=x4 at *;generalize Array.size (World.heap x3)=b1 at *
    refine hK.out _ _ ?_ (fun hHeld2=>?_)
    ·exact s0c.out _ HEW.out
    clear hK K hHeld
    have hHeld:=hHeld2
    clear hHeld2
    (try simp only [Act.put,pus])
    refine wpAnyH_ready (rs:=[6,11]) (by kernel_rfl) (by simp) ?_
    refine AllReadyH.cons (o:=_) rfl (fun K hK=>?_) ?_
    ·refine step_append_row rfl (.tmp 25) (.tmp 29) 23 44 rfl (z:=.agg #[.bool false,.slice none 0 0,.bool false,.slice none 0 0]) (k:=4) (by_:=64) Tryz.underlying23 infoRatU rfl (by decide) (B:=wr.heap.size) HE.out.size rfl HO.out rfl HRW.out.nil0 (news:=newsU n (V q)) (newsU_len _ _) (fun A' hA=>by subst hA;exact(HRW.out.ext HE.out).news) (newsU_one _ _) (by omega) (by omega) ?_;intro v6 x5 ho hg hnl hat;simp only [Nat.zero_add,List.nil_append] at ho;obtain⟨a6,c6,rfl⟩:=row_form ho;replace HE:Hid (Ext wr x5):=Lib.hid (Below.grown HE.out hg HE.out.size (fun r e=>(World.ownsRow.lt HO.out r e).1));replace HEW:=Lib.hid (Ext.trans HXW.out HE.out);have HO1:=Lib.hid ho;clear HO;have HO:=HO1;clear HO1 ho hg hnl hat
     refine hK.out _ _ ?_ (fun hHeld2=>?_)
     ·exact s0c.out _ HEW.out
     clear hK K hHeld
     have hHeld:=hHeld2
     clear hHeld2
     (try simp only [Act.put,pus])
     refine wpAnyH_ready (rs:=[11]) (by kernel_rfl) (by simp) ?_
     refine AllReadyH.cons (o:=_) rfl (fun K hK=>?_) ?_
     ·go_simp
      have hy:=Ext.alloc x5 (.cells #[.bool n1,.slice ad ql c,.bool n2,.slice b' km dd] 44);have K2:=Lib.hid (Blk.new0 x5 #[.bool n1,.slice ad ql c,.bool n2,.slice b' km dd] 44);have HNE:Hid (Value.ownBlock (.slice a6 n c6)≠some x5.heap.size):=Lib.hid (fun e=>by have:=(World.ownsRow.lt HO.out _ e).2;omega);replace HO:=Lib.hid (ownsRow_ext HO.out hy);replace HE:=Lib.hid (Ext.trans HE.out hy);replace HEW:=Lib.hid (Ext.trans HXW.out HE.out);clear hy;generalize World.alloc x5 (.cells #[.bool n1,.slice ad ql c,.bool n2,.slice b' km dd] 44)=x55 at *;generalize Array.size (World.heap x5)=b2 at *
      refine hK.out _ _ ?_ (fun hHeld2=>?_)
      ·exact s0c.out _ HEW.out
      clear hK K hHeld
      have hHeld:=hHeld2
      clear hHeld2
      (try simp only [Act.put,pus])
      refine wpAnyH_ready (rs:=[12]) (by kernel_rfl) (by simp) ?_
      refine AllReadyH.cons (o:=_) rfl (fun K hK=>?_) ?_
      ·refine step_append_row rfl (.tmp 30) (.tmp 35) 23 44 rfl (z:=.agg #[.bool false,.slice none 0 0,.bool false,.slice none 0 0]) (k:=4) (by_:=64) Tryz.underlying23 infoRatU rfl (by decide) (B:=wr.heap.size) HE.out.size rfl HO.out rfl (fun e=>by cases e) (news:=[.bool n1,.slice ad ql c,.bool n2,.slice b' km dd]) rfl (fun A' hA=>by cases hA;exact four_news K2.out) (four_one _ _ _ _ _ _ _ _) (by omega) (by omega) ?_;intro v7 x6 ho hg hnl hat;obtain⟨gq,cq,rfl,hgq,hcq,hcm⟩:=grow_form ho;have HR5:=Lib.hid (rowB_more (x:=⟨n1,ad,ql,c,n2,b',km,dd⟩) ho);replace HE:Hid (Ext wr x6):=Lib.hid (Below.grown HE.out hg HE.out.size (fun r e=>(World.ownsRow.lt HO.out r e).1));replace HEW:=Lib.hid (Ext.trans HXW.out HE.out);have HCQ:=Lib.hid (And.intro hcq hcm);clear ho hg hnl hat hgq hcq hcm K2 HO
       refine hK.out _ _ ?_ (fun hHeld2=>?_)
       ·exact s0c.out _ HEW.out
       clear hK K hHeld
       have hHeld:=hHeld2
       clear hHeld2
       (try simp only [Act.put,pus])
       refine wpAnyH_ready (rs:=[13]) (by kernel_rfl) (by simp) ?_
       refine AllReadyH.cons (o:=_) rfl (fun K hK=>?_) ?_
       ·go_simp
        have hy:=Ext.alloc x6 (.cells #[.slice (some ⟨gq,0,none⟩) (n+1) cq] 23);replace HR5:=Lib.hid (HR5.out.ext hy);have K3:=Lib.hid (Blk.new0 x6 #[.slice (some ⟨gq,0,none⟩) (n+1) cq] 23);replace HE:=Lib.hid (Ext.trans HE.out hy);replace HEW:=Lib.hid (Ext.trans HXW.out HE.out);clear hy;generalize World.alloc x6 (.cells #[.slice (some ⟨gq,0,none⟩) (n+1) cq] 23)=x7 at *;generalize Array.size (World.heap x6)=b3 at *
        refine hK.out _ _ ?_ (fun hHeld2=>?_)
        ·exact s0c.out _ HEW.out
        clear hK K hHeld
        have hHeld:=hHeld2
        clear hHeld2
        (try simp only [Act.put,pus])
        refine wpAnyH_ready (rs:=[14]) (by kernel_rfl) (by simp) ?_
        refine AllReadyH.cons (o:=_) rfl (fun K hK=>?_) ?_
        ·refine step_append_row rfl (.tmp 24) (.tmp 37) 22 23 rfl (z:=.slice none 0 0) (k:=1) (by_:=24) Tryz.underlying22 infoRowU rfl (by decide) (B:=w.heap.size) HEW.out.size rfl (HRO.out.ext HE.out).own rfl (fun e=>by cases e) (news:=[.slice (some ⟨gq,0,none⟩) (n+1) cq]) rfl (fun A' hA j u hu=>by cases hA;exact one_news K3.out hu) (fun u hu=>by rw [List.mem_singleton.1 hu];rfl) (by omega) (by omega) ?_;intro v9 x8 ho hg hnl hat;obtain⟨a9,c9,rfl⟩:=row_form ho;have HR9:=Lib.hid ((HRO.out.ext HE.out).push ho hg hat HR5.out (fun c' hc'=>(HAV.out c' hc').ext HEW.out) (fun c' hc'=>old_off (HAV.out c' hc') (fun g' e=>(World.ownsRow.lt HRO.out.own g' e).1)) HCQ.out);replace HEW:Hid (Ext w x8):=Lib.hid (Below.grown HEW.out hg HEW.out.size (fun r e=>(World.ownsRow.lt HRO.out.own r e).1));clear ho hg hnl hat HRO HR5 K3 HE
         refine hK.out _ _ ?_ (fun hHeld2=>?_)
         ·exact s0c.out _ HEW.out
         clear hK K hHeld
         have hHeld:=hHeld2
         clear hHeld2
         (try simp only [Act.put,pus])
         refine tk (v:=?_) 15 rfl (by kernel_rfl) (fun _ _ _ h=>h) (by rfl) ?_ (by assumption) ?_
         rotate_left
         ·(intro w hSw;(try dsimp only at hSw);(try go_simp);(try with_reducible rfl))
         (try simp only [Act.put,pus])
         refine wpAnyH_done (by kernel_rfl) ?_ _
         go_wp2_with fail
         go_roundw
         case rel=>exact⟨q+1,by omega,by go_num,_,_,_,_,HR9.out,fun r hr c' hc'=>(if e:r=q then(by rw [if_pos e,e]) else(by rw [if_neg e];exact HMQ.out r (by omega) c' hc')),HEW.out⟩
         case measure=>simp [intOf];omega
        exact AllReadyH.nil
       exact AllReadyH.nil
      exact AllReadyH.nil
     exact AllReadyH.nil
    refine AllReadyH.cons (o:=_) rfl (fun K hK=>?_) ?_
    ·go_simp
     have hy:=Ext.alloc x4 (.cells #[.bool n1,.slice ad ql c,.bool n2,.slice b' km dd] 44);have K2:=Lib.hid (Blk.new0 x4 #[.bool n1,.slice ad ql c,.bool n2,.slice b' km dd] 44);have HNE:Hid (Value.ownBlock (.slice (some ⟨b1,0,none⟩) 0 0)≠some x4.heap.size):=Lib.hid (fun e=>by have:=(World.ownsRow.lt HO.out _ e).2;omega);replace HO:=Lib.hid (ownsRow_ext HO.out hy);replace HE:=Lib.hid (Ext.trans HE.out hy);replace HEW:=Lib.hid (Ext.trans HXW.out HE.out);clear hy;generalize World.alloc x4 (.cells #[.bool n1,.slice ad ql c,.bool n2,.slice b' km dd] 44)=x5 at *;generalize Array.size (World.heap x4)=b2 at *
     refine hK.out _ _ ?_ (fun hHeld2=>?_)
     ·exact s0c.out _ HEW.out
     clear hK K hHeld
     have hHeld:=hHeld2
     clear hHeld2
     (try simp only [Act.put,pus])
     refine wpAnyH_ready (rs:=[6]) (by kernel_rfl) (by simp) ?_
     refine AllReadyH.cons (o:=_) rfl (fun K hK=>?_) ?_
     ·refine step_append_row rfl (.tmp 25) (.tmp 29) 23 44 rfl (z:=.agg #[.bool false,.slice none 0 0,.bool false,.slice none 0 0]) (k:=4) (by_:=64) Tryz.underlying23 infoRatU rfl (by decide) (B:=wr.heap.size) HE.out.size rfl HO.out rfl HRW.out.nil0 (news:=newsU n (V q)) (newsU_len _ _) (fun A' hA=>by subst hA;exact(HRW.out.ext HE.out).news) (newsU_one _ _) (by omega) (by omega) ?_;intro v6 x55 ho hg hnl hat;simp only [Nat.zero_add,List.nil_append] at ho;obtain⟨a6,c6,rfl⟩:=row_form ho;replace HE:Hid (Ext wr x55):=Lib.hid (Below.grown HE.out hg HE.out.size (fun r e=>(World.ownsRow.lt HO.out r e).1));replace HEW:=Lib.hid (Ext.trans HXW.out HE.out);have HNE0:=HNE;have hlt:=K2.out.lt;replace HNE:Hid (Value.ownBlock (.slice a6 n c6)≠some b2):=Lib.hid (fun e=>by rcases hat with h9 | h9;exact HNE.out (h9.symm.trans e);rw [h9] at e;simp only [Option.some.injEq] at e;omega);replace K2:=Lib.hid (blkGrown K2.out hg HNE0.out);clear hlt;have HO1:=Lib.hid ho;clear HO;have HO:=HO1;clear HO1 ho hg hnl hat
      refine hK.out _ _ ?_ (fun hHeld2=>?_)
      ·exact s0c.out _ HEW.out
      clear hK K hHeld
      have hHeld:=hHeld2
      clear hHeld2
      (try simp only [Act.put,pus])
      refine wpAnyH_ready (rs:=[12]) (by kernel_rfl) (by simp) ?_
      refine AllReadyH.cons (o:=_) rfl (fun K hK=>?_) ?_
      ·refine step_append_row rfl (.tmp 30) (.tmp 35) 23 44 rfl (z:=.agg #[.bool false,.slice none 0 0,.bool false,.slice none 0 0]) (k:=4) (by_:=64) Tryz.underlying23 infoRatU rfl (by decide) (B:=wr.heap.size) HE.out.size rfl HO.out rfl (fun e=>by cases e) (news:=[.bool n1,.slice ad ql c,.bool n2,.slice b' km dd]) rfl (fun A' hA=>by cases hA;exact four_news K2.out) (four_one _ _ _ _ _ _ _ _) (by omega) (by omega) ?_;intro v7 x6 ho hg hnl hat;obtain⟨gq,cq,rfl,hgq,hcq,hcm⟩:=grow_form ho;have HR5:=Lib.hid (rowB_more (x:=⟨n1,ad,ql,c,n2,b',km,dd⟩) ho);replace HE:Hid (Ext wr x6):=Lib.hid (Below.grown HE.out hg HE.out.size (fun r e=>(World.ownsRow.lt HO.out r e).1));replace HEW:=Lib.hid (Ext.trans HXW.out HE.out);have HCQ:=Lib.hid (And.intro hcq hcm);clear ho hg hnl hat hgq hcq hcm K2 HO
       refine hK.out _ _ ?_ (fun hHeld2=>?_)
       ·exact s0c.out _ HEW.out
       clear hK K hHeld
       have hHeld:=hHeld2
       clear hHeld2
       (try simp only [Act.put,pus])
       refine wpAnyH_ready (rs:=[13]) (by kernel_rfl) (by simp) ?_
       refine AllReadyH.cons (o:=_) rfl (fun K hK=>?_) ?_
       ·go_simp
        have hy:=Ext.alloc x6 (.cells #[.slice (some ⟨gq,0,none⟩) (n+1) cq] 23);replace HR5:=Lib.hid (HR5.out.ext hy);have K3:=Lib.hid (Blk.new0 x6 #[.slice (some ⟨gq,0,none⟩) (n+1) cq] 23);replace HE:=Lib.hid (Ext.trans HE.out hy);replace HEW:=Lib.hid (Ext.trans HXW.out HE.out);clear hy;generalize World.alloc x6 (.cells #[.slice (some ⟨gq,0,none⟩) (n+1) cq] 23)=x7 at *;generalize Array.size (World.heap x6)=b3 at *
        refine hK.out _ _ ?_ (fun hHeld2=>?_)
        ·exact s0c.out _ HEW.out
        clear hK K hHeld
        have hHeld:=hHeld2
        clear hHeld2
        (try simp only [Act.put,pus])
        refine wpAnyH_ready (rs:=[14]) (by kernel_rfl) (by simp) ?_
        refine AllReadyH.cons (o:=_) rfl (fun K hK=>?_) ?_
        ·refine step_append_row rfl (.tmp 24) (.tmp 37) 22 23 rfl (z:=.slice none 0 0) (k:=1) (by_:=24) Tryz.underlying22 infoRowU rfl (by decide) (B:=w.heap.size) HEW.out.size rfl (HRO.out.ext HE.out).own rfl (fun e=>by cases e) (news:=[.slice (some ⟨gq,0,none⟩) (n+1) cq]) rfl (fun A' hA j u hu=>by cases hA;exact one_news K3.out hu) (fun u hu=>by rw [List.mem_singleton.1 hu];rfl) (by omega) (by omega) ?_;intro v9 x8 ho hg hnl hat;obtain⟨a9,c9,rfl⟩:=row_form ho;have HR9:=Lib.hid ((HRO.out.ext HE.out).push ho hg hat HR5.out (fun c' hc'=>(HAV.out c' hc').ext HEW.out) (fun c' hc'=>old_off (HAV.out c' hc') (fun g' e=>(World.ownsRow.lt HRO.out.own g' e).1)) HCQ.out);replace HEW:Hid (Ext w x8):=Lib.hid (Below.grown HEW.out hg HEW.out.size (fun r e=>(World.ownsRow.lt HRO.out.own r e).1));clear ho hg hnl hat HRO HR5 K3 HE
         refine hK.out _ _ ?_ (fun hHeld2=>?_)
         ·exact s0c.out _ HEW.out
         clear hK K hHeld
         have hHeld:=hHeld2
         clear hHeld2
         (try simp only [Act.put,pus])
         refine tk (v:=?_) 15 rfl (by kernel_rfl) (fun _ _ _ h=>h) (by rfl) ?_ (by assumption) ?_
         rotate_left
         ·(intro w hSw;(try dsimp only at hSw);(try go_simp);(try with_reducible rfl))
         (try simp only [Act.put,pus])
         refine wpAnyH_done (by kernel_rfl) ?_ _
         go_wp2_with fail
         go_roundw
         case rel=>exact⟨q+1,by omega,by go_num,_,_,_,_,HR9.out,fun r hr c' hc'=>(if e:r=q then(by rw [if_pos e,e]) else(by rw [if_neg e];exact HMQ.out r (by omega) c' hc')),HEW.out⟩
         case measure=>simp [intOf];omega
        exact AllReadyH.nil
       exact AllReadyH.nil
      exact AllReadyH.nil
     exact AllReadyH.nil
    exact AllReadyH.nil
   refine AllReadyH.cons (o:=_) rfl (fun K hK=>?_) ?_
   ·go_simp
    have hy:=Ext.alloc x3 (.cells #[.bool n1,.slice ad ql c,.bool n2,.slice b' km dd] 44);have K2:=Lib.hid (Blk.new0 x3 #[.bool n1,.slice ad ql c,.bool n2,.slice b' km dd] 44);replace HE:=Lib.hid (Ext.trans HE.out hy);replace HEW:=Lib.hid (Ext.trans HXW.out HE.out);clear hy;generalize World.alloc x3 (.cells #[.bool n1,.slice ad ql c,.bool n2,.slice b' km dd] 44)=x4 at *;generalize Array.size (World.heap x3)=b2 at *
    refine hK.out _ _ ?_ (fun hHeld2=>?_)
    ·exact s0c.out _ HEW.out
    clear hK K hHeld
    have hHeld:=hHeld2
    clear hHeld2
    (try simp only [Act.put,pus])
    refine wpAnyH_ready (rs:=[1]) (by kernel_rfl) (by simp) ?_
    refine AllReadyH.cons (o:=_) rfl (fun K hK=>?_) ?_
    ·go_simp
     have hy:=Ext.alloc x4 (.cells #[] 44);have HO:=Lib.hid (ownEmpty (k:=4) (B:=wr.heap.size) (Blk.new0 x4 #[] 44) HE.out.size);have hlt:=K2.out.lt;have HNE:Hid (Value.ownBlock (.slice (some ⟨x4.heap.size,0,none⟩) 0 0)≠some b2):=Lib.hid (fun e=>by simp only [Value.ownBlock,Option.some.injEq] at e;omega);replace K2:=Lib.hid (K2.out.ext hy);clear hlt;replace HE:=Lib.hid (Ext.trans HE.out hy);replace HEW:=Lib.hid (Ext.trans HXW.out HE.out);clear hy;generalize World.alloc x4 (.cells #[] 44)=x5 at *;generalize Array.size (World.heap x4)=b1 at *
     refine hK.out _ _ ?_ (fun hHeld2=>?_)
     ·exact s0c.out _ HEW.out
     clear hK K hHeld
     have hHeld:=hHeld2
     clear hHeld2
     (try simp only [Act.put,pus])
     refine wpAnyH_ready (rs:=[6]) (by kernel_rfl) (by simp) ?_
     refine AllReadyH.cons (o:=_) rfl (fun K hK=>?_) ?_
     ·refine step_append_row rfl (.tmp 25) (.tmp 29) 23 44 rfl (z:=.agg #[.bool false,.slice none 0 0,.bool false,.slice none 0 0]) (k:=4) (by_:=64) Tryz.underlying23 infoRatU rfl (by decide) (B:=wr.heap.size) HE.out.size rfl HO.out rfl HRW.out.nil0 (news:=newsU n (V q)) (newsU_len _ _) (fun A' hA=>by subst hA;exact(HRW.out.ext HE.out).news) (newsU_one _ _) (by omega) (by omega) ?_;intro v6 x55 ho hg hnl hat;simp only [Nat.zero_add,List.nil_append] at ho;obtain⟨a6,c6,rfl⟩:=row_form ho;replace HE:Hid (Ext wr x55):=Lib.hid (Below.grown HE.out hg HE.out.size (fun r e=>(World.ownsRow.lt HO.out r e).1));replace HEW:=Lib.hid (Ext.trans HXW.out HE.out);have HNE0:=HNE;have hlt:=K2.out.lt;replace HNE:Hid (Value.ownBlock (.slice a6 n c6)≠some b2):=Lib.hid (fun e=>by rcases hat with h9 | h9;exact HNE.out (h9.symm.trans e);rw [h9] at e;simp only [Option.some.injEq] at e;omega);replace K2:=Lib.hid (blkGrown K2.out hg HNE0.out);clear hlt;have HO1:=Lib.hid ho;clear HO;have HO:=HO1;clear HO1 ho hg hnl hat
      refine hK.out _ _ ?_ (fun hHeld2=>?_)
      ·exact s0c.out _ HEW.out
      clear hK K hHeld
      have hHeld:=hHeld2
      clear hHeld2
      (try simp only [Act.put,pus])
      refine wpAnyH_ready (rs:=[12]) (by kernel_rfl) (by simp) ?_
      refine AllReadyH.cons (o:=_) rfl (fun K hK=>?_) ?_
      ·refine step_append_row rfl (.tmp 30) (.tmp 35) 23 44 rfl (z:=.agg #[.bool false,.slice none 0 0,.bool false,.slice none 0 0]) (k:=4) (by_:=64) Tryz.underlying23 infoRatU rfl (by decide) (B:=wr.heap.size) HE.out.size rfl HO.out rfl (fun e=>by cases e) (news:=[.bool n1,.slice ad ql c,.bool n2,.slice b' km dd]) rfl (fun A' hA=>by cases hA;exact four_news K2.out) (four_one _ _ _ _ _ _ _ _) (by omega) (by omega) ?_;intro v7 x6 ho hg hnl hat;obtain⟨gq,cq,rfl,hgq,hcq,hcm⟩:=grow_form ho;have HR5:=Lib.hid (rowB_more (x:=⟨n1,ad,ql,c,n2,b',km,dd⟩) ho);replace HE:Hid (Ext wr x6):=Lib.hid (Below.grown HE.out hg HE.out.size (fun r e=>(World.ownsRow.lt HO.out r e).1));replace HEW:=Lib.hid (Ext.trans HXW.out HE.out);have HCQ:=Lib.hid (And.intro hcq hcm);clear ho hg hnl hat hgq hcq hcm K2 HO
       refine hK.out _ _ ?_ (fun hHeld2=>?_)
       ·exact s0c.out _ HEW.out
       clear hK K hHeld
       have hHeld:=hHeld2
       clear hHeld2
       (try simp only [Act.put,pus])
       refine wpAnyH_ready (rs:=[13]) (by kernel_rfl) (by simp) ?_
       refine AllReadyH.cons (o:=_) rfl (fun K hK=>?_) ?_
       ·go_simp
        have hy:=Ext.alloc x6 (.cells #[.slice (some ⟨gq,0,none⟩) (n+1) cq] 23);replace HR5:=Lib.hid (HR5.out.ext hy);have K3:=Lib.hid (Blk.new0 x6 #[.slice (some ⟨gq,0,none⟩) (n+1) cq] 23);replace HE:=Lib.hid (Ext.trans HE.out hy);replace HEW:=Lib.hid (Ext.trans HXW.out HE.out);clear hy;generalize World.alloc x6 (.cells #[.slice (some ⟨gq,0,none⟩) (n+1) cq] 23)=x7 at *;generalize Array.size (World.heap x6)=b3 at *
        refine hK.out _ _ ?_ (fun hHeld2=>?_)
        ·exact s0c.out _ HEW.out
        clear hK K hHeld
        have hHeld:=hHeld2
        clear hHeld2
        (try simp only [Act.put,pus])
        refine wpAnyH_ready (rs:=[14]) (by kernel_rfl) (by simp) ?_
        refine AllReadyH.cons (o:=_) rfl (fun K hK=>?_) ?_
        ·refine step_append_row rfl (.tmp 24) (.tmp 37) 22 23 rfl (z:=.slice none 0 0) (k:=1) (by_:=24) Tryz.underlying22 infoRowU rfl (by decide) (B:=w.heap.size) HEW.out.size rfl (HRO.out.ext HE.out).own rfl (fun e=>by cases e) (news:=[.slice (some ⟨gq,0,none⟩) (n+1) cq]) rfl (fun A' hA j u hu=>by cases hA;exact one_news K3.out hu) (fun u hu=>by rw [List.mem_singleton.1 hu];rfl) (by omega) (by omega) ?_;intro v9 x8 ho hg hnl hat;obtain⟨a9,c9,rfl⟩:=row_form ho;have HR9:=Lib.hid ((HRO.out.ext HE.out).push ho hg hat HR5.out (fun c' hc'=>(HAV.out c' hc').ext HEW.out) (fun c' hc'=>old_off (HAV.out c' hc') (fun g' e=>(World.ownsRow.lt HRO.out.own g' e).1)) HCQ.out);replace HEW:Hid (Ext w x8):=Lib.hid (Below.grown HEW.out hg HEW.out.size (fun r e=>(World.ownsRow.lt HRO.out.own r e).1));clear ho hg hnl hat HRO HR5 K3 HE
         refine hK.out _ _ ?_ (fun hHeld2=>?_)
         ·exact s0c.out _ HEW.out
         clear hK K hHeld
         have hHeld:=hHeld2
         clear hHeld2
         (try simp only [Act.put,pus])
         refine tk (v:=?_) 15 rfl (by kernel_rfl) (fun _ _ _ h=>h) (by rfl) ?_ (by assumption) ?_
         rotate_left
         ·(intro w hSw;(try dsimp only at hSw);(try go_simp);(try with_reducible rfl))
         (try simp only [Act.put,pus])
         refine wpAnyH_done (by kernel_rfl) ?_ _
         go_wp2_with fail
         go_roundw
         case rel=>exact⟨q+1,by omega,by go_num,_,_,_,_,HR9.out,fun r hr c' hc'=>(if e:r=q then(by rw [if_pos e,e]) else(by rw [if_neg e];exact HMQ.out r (by omega) c' hc')),HEW.out⟩
         case measure=>simp [intOf];omega
        exact AllReadyH.nil
       exact AllReadyH.nil
      exact AllReadyH.nil
     exact AllReadyH.nil
    exact AllReadyH.nil
   exact AllReadyH.nil
  ·have q1:¬ (q:Int)< (m:Int):=by omega
   have hqe:m=q:=by omega
   subst hqe
   obtain⟨ra,rc,e9,hmat⟩:=hro.mat
   simp only [Value.slice.injEq,true_and] at e9
   obtain⟨rfl,rfl⟩:=e9
   have HM:=Lib.hid (hmat.congr hmq)
   have HX2:=Lib.hid hxr
   have hrle:=hmat.le
   have hrmx:=hmat.mx
   have HRED:=Lib.hid (ref_reduced av cv m (n+1) n V' (augF n M f) e wr HM.out HCD.out (by omega) (by omega) (by omega) HF.out)
   have HSP:Hid (∀e' w',SolS m n (elimX m (augF n M f) n) w e' w'→SolP m n (augF n M f) w e' w'):=Lib.hid fun e' w' h=>h
   have hech:=elimX_ech m (augF n M f) n
   have HECH:=Lib.hid hech
   have hdm:=hech.le
   have hdn:=(rank_le m n (augF n M f)).2
   unfold RedP at HRED
   clear hro hmat hmq hxr HM HCD HF hech HH HK
   generalize elimX m (augF n M f) n=S at *
   obtain⟨d,hd⟩:∃d,S.ps.length=d:=⟨_,rfl⟩
   have HD:=Lib.hid hd
   rw [hd] at HRED hdm hdn
   clear hd
   go_wp2_with fail
   refine HRED.out.mono ?_
   rintro e1 x3 ⟨gg,cg,vp,ad,val,VV,rfl,had,hs,hcg,hcx,hy⟩
   obtain⟨pv,pc,rfl⟩:=row_form hs.piv
   have HS:=Lib.hid hs
   have HAD:=Lib.hid had
   have HX3:=Lib.hid (HX2.out.trans hy)
   rw [HD.out]
   clear hs had hy HRED HX2 hle hmx sle smx
   go_wp2_with fail
   go_loopw [13] (fun v wr=>∃i:Nat,i≤m - d∧v=.int .i64 i∧(∀r,r<i→S.M (d+r) n=0)∧Ext x3 wr) (fun v _=>(m - d) - (intOf v).toNat)
   case atStart=>exact⟨0,Nat.zero_le _,rfl,fun r hr=>by omega,Ext.refl _⟩
   case round=>
    obtain⟨i,hi,rfl,hal,hxr⟩:=hrel
    have i0:(0:Int)≤(i:Int):=by omega
    by_cases him:i<m - d
    ·have i1:(i:Int)< ((m - d:Nat):Int):=by omega
     have hw1:IntKind.i64.wrap ((i:Int)+1)= (i:Int)+1:=IntWalk.i64_in _ (by omega)
     obtain rfl:=HAD.out (by omega)
     have hs:=HS.out.ext hxr
     have hdi:d+i<m:=by omega
     have hci:=hs.blk.cell hdi
     obtain⟨aj,cj,ej,hrj,_,_⟩:=hs.row (d+i) hdi
     rw [ej] at hci
     obtain⟨bj,oj,rfl⟩:=hrj.head (Nat.lt_succ_self n)
     obtain⟨_,c0,c1,c2,c3⟩:=hrj.cells _ rfl n (Nat.lt_succ_self n)
     have hv:=hrj.val n (Nat.lt_succ_self n)
     have jle:=hrj.le
     have jmx:=hrj.mx
     have n0:(0:Int)≤(n:Int):=by omega
     have n1:(n:Int)< ((n+1:Nat):Int):=by omega
     generalize hx:VV (d+i) n=x at *
     obtain⟨nx,ax,qx,cx,mx,bx,kx,dx⟩:=x
     dsimp only [RatC.val] at c0 c1 c2 c3 hv
     have HV:=Lib.hid hv
     have HXR:=Lib.hid hxr
     have HAL:=Lib.hid hal
     clear hs hv hx hxr hal hrj ej
     go_wp2_with fail
     refine(ref_Is nx mx ax bx qx cx kx dx _ _ HV.out).mono ?_
     rintro e9 y1 ⟨rfl,hy⟩
     have HX4:=Lib.hid (HXR.out.trans hy)
     clear hy c0 c1 c2 c3 hci HV
     by_cases hz:S.M (d+i) n=0
     ·rw [decide_eq_true hz]
      have HZ:=Lib.hid hz
      clear hz
      go_wp2_with fail
      go_roundw
      case rel=>exact⟨i+1,by omega,by go_num,fun r hr=>(by
       by_cases e:r=i
       ·rw [e];exact HZ.out
       ·exact HAL.out r (by omega)),HX4.out⟩
      case measure=>simp [intOf];omega
     ·rw [decide_eq_false hz]
      have hok:okB m n S=false:=by
       cases hb:okB m n S
       ·rfl
       ·exact absurd (okB_iff.1 hb (d+i) (by have:=HD.out;omega) hdi) hz
      have HOK:Hid (SolP m n (augF n M f) w (.returned (.tuple #[.slice none 0 0,.bool false])) y1):=Lib.hid (HSP.out _ _ ⟨none,0,fun _=>noC,by rw [hok];rfl,by rw [hok];exact RowR.nil' _ _ _,HX3.out.trans HX4.out⟩)
      clear hz hok
      go_wp2_with fail
      go_ret2
      exact HOK.out
    ·have i1:¬ (i:Int)< ((m - d:Nat):Int):=by omega
     have hok:okB m n S=true:=okB_iff.2 fun r h1 h2=>by
      have:=hal (r - d) (by rw [HD.out] at h1;omega)
      rwa [show d+ (r - d)=r from by rw [HD.out] at h1;omega] at this
     have HOK:Hid (∀e' w',(∃a cap V,e'=Ending.returned (.tuple #[.slice a n cap,.bool true])∧RowR w' a cap n V (solX n S)∧Ext w w')→SolP m n (augF n M f) w e' w'):=Lib.hid fun e' w' h=>HSP.out e' w' (by unfold SolS;rw [hok];exact h)
     have HS5:=Lib.hid (HS.out.ext hxr)
     have HX5:=Lib.hid (HX3.out.trans hxr)
     clear hal hok hxr HS HX3 HAD HSP
     generalize hwr:wr=x5 at *
     clear hwr
     have n0:(0:Int)≤(n:Int):=by omega
     have n1:(n:Int)< ((n+1:Nat):Int):=by omega
     have hple:=World.ownsRow.lt HS5.out.piv
     clear hple
     go_wp2_with fail
     go_loopw [14,15] (fun s v wr=>∃k:Nat,k≤n∧v=.int .i64 k∧∃L,OwnRats wr x5.heap.size s L ((List.range k).map (solX n S))∧Ext x5 wr) (fun _ v _=>n - (intOf v).toNat)
     case atStart=>exact⟨0,Nat.zero_le _,rfl,[],OwnRats.nil _ _,Ext.refl _⟩
     case round=>
      obtain⟨k,hk,rfl,L,hO,hxr⟩:=hrel
      have k0:(0:Int)≤(k:Int):=by omega
      obtain⟨va,vc,rfl,hvl,hvc⟩:=hO.form
      have hLl:L.length=k:=by have:=hO.len;rwa [List.length_map,List.length_range] at this
      have HLL:=Lib.hid hLl
      have HO:=Lib.hid hO
      have HXR:=Lib.hid hxr
      clear hO hxr hLl
      by_cases hkn:k<n
      ·have k1:(k:Int)< (n:Int):=by omega
       have hw1:IntKind.i64.wrap ((k:Int)+1)= (k:Int)+1:=IntWalk.i64_in _ (by omega)
       go_wp2_with fail
       refine(ref_Zero _).mono ?_
       rintro e9 y1 ⟨v9,rfl,⟨nz,az,qz,cz,bz,kz,dz,rfl,hv',hf',hg'⟩,hy⟩
       have hlt:=HO.out.lt
       have hoff:RatC.Off ⟨nz,az,qz,cz,false,bz,kz,dz⟩ (Value.slice va L.length vc).ownBlock:=⟨fun _ A hA e=>by have:=hf' A hA;have:=(hlt _ e).2;omega,fun _ A hA e=>by have:=hg' A hA;have:=(hlt _ e).2;omega⟩
       have hya:=Ext.alloc y1 (.cells #[.bool nz,.slice az qz cz,.bool false,.slice bz kz dz] 44)
       have HBz:=Lib.hid (Blk.new0 y1 #[.bool nz,.slice az qz cz,.bool false,.slice bz kz dz] 44)
       have HXy:=Lib.hid (HXR.out.trans hy)
       have HYA:=Lib.hid hya
       have HOy:=Lib.hid (HO.out.ext hy)
       have HVa:=Lib.hid (RatV.ext hv' hya)
       have HOFF:=Lib.hid hoff
       clear hlt hoff hya hy hv' hf' hg' HO HXR
       go_wp2_with fail
       generalize y1.alloc (.cells #[.bool nz,.slice az qz cz,.bool false,.slice bz kz dz] 44)=x6 at *
       go_loopw [17] (fun v wr=>∃i:Nat,i≤d∧v=.int .i64 i∧∃t:RatC,Blk wr y1.heap.size #[.bool t.n,.slice t.a t.q t.c,.bool t.m,.slice t.b t.k t.d] 44∧RatV wr t.val (if k∈S.ps.take i then S.M (S.ps.idxOf k) n else 0)∧t.Off (Value.slice va L.length vc).ownBlock∧Ext y1 wr) (fun v _=>d - (intOf v).toNat)
       case atStart=>exact⟨0,Nat.zero_le _,rfl,⟨nz,az,qz,cz,false,bz,kz,dz⟩,HBz.out,by rw [List.take_zero,if_neg (by simp)];exact HVa.out,HOFF.out,HYA.out⟩
       case round=>
        obtain⟨i,hi,rfl,⟨nt,at1,qt,ct,mt,bt,kt,dt⟩,hkb,hvt,hot,hxr⟩:=hrel
        dsimp only [RatC.val] at hkb hvt
        have i0:(0:Int)≤(i:Int):=by omega
        have HB:=Lib.hid hkb
        by_cases hid:i<d
        ·have i1:(i:Int)< (d:Int):=by omega
         have hw2:IntKind.i64.wrap ((i:Int)+1)= (i:Int)+1:=IntWalk.i64_in _ (by omega)
         have hlt:i<S.ps.length:=by have:=HD.out;omega
         obtain⟨kk,hkk⟩:∃kk,S.ps[i]? =some kk:=⟨_,List.getElem?_eq_getElem hlt⟩
         have hst:=sol_step (c:=k) (f:=fun c=>if c∈S.ps.take i then S.M (S.ps.idxOf c) n else 0) HECH.out hkk rfl
         have hst:(if k=kk then S.M i n else if k∈S.ps.take i then S.M (S.ps.idxOf k) n else 0)=if k∈S.ps.take (i+1) then S.M (S.ps.idxOf k) n else 0:=hst
         have hs:=HS5.out.ext (HXy.out.trans hxr)
         obtain⟨b9,cv9,e9,c9⟩:=hs.pivot hkk
         simp only [Value.slice.injEq] at e9
         obtain⟨rfl,-,rfl⟩:=e9
         have HVT:=Lib.hid hvt
         have HOT:=Lib.hid hot
         have HXR:=Lib.hid hxr
         by_cases hke:kk=k
         ·subst hke
          have g1:((kk:Int) == (kk:Int))=true:=by simp
          have him:i<m:=by omega
          have hci:=hs.blk.cell him
          obtain⟨aj,cj,ej,hrj,_,_⟩:=hs.row i him
          rw [ej] at hci
          obtain⟨bj,oj,rfl⟩:=hrj.head (Nat.lt_succ_self n)
          obtain⟨_,c0,c1,c2,c3⟩:=hrj.cells _ rfl n (Nat.lt_succ_self n)
          have hv:=hrj.val n (Nat.lt_succ_self n)
          obtain⟨a5,c5,e5,hr5,_,_⟩:=HS5.out.row i him
          have hv5:=hr5.val n (Nat.lt_succ_self n)
          have jle:=hrj.le
          have jmx:=hrj.mx
          generalize hx:VV i n=x at *
          obtain⟨nx,ax,qx,cx,mx,bx,kx,dx⟩:=x
          dsimp only [RatC.val] at c0 c1 c2 c3 hv hv5
          rw [if_pos rfl] at hst
          rw [hst] at hv
          have HOX:Hid (RatC.Off ⟨nx,ax,qx,cx,mx,bx,kx,dx⟩ (Value.slice va L.length vc).ownBlock):=Lib.hid (old_off hv5 fun g' e=>(HOy.out.lt g' e).1)
          have HV2:=rv4 (Lib.hid hv) HB (.bool nx) (.slice ax qx cx) (.bool mx) (.slice bx kx dx) rfl rfl rfl rfl
          have HB2:=bs4 HB (.bool nx) (.slice ax qx cx) (.bool mx) (.slice bx kx dx)
          have HX2:=Lib.hid (bx4 hxr y1.heap.size (.bool nx) (.slice ax qx cx) (.bool mx) (.slice bx kx dx) (Nat.le_refl _))
          obtain⟨p0,z0,p1,z1,p2,z2,p3,z3⟩:=bp4 HB (.bool nx) (.slice ax qx cx) (.bool mx) (.slice bx kx dx)
          clear hs hkb hvt hot hxr hkk hst ej e5 hr5 hv5 hv hx hrj HVT HOT HXR
          go_wp2_with fail
          clear p0 z0 p1 z1 p2 z2 p3 z3 c0 c1 c2 c3 hci c9
          go_roundw
          case rel=>exact⟨i+1,by omega,by go_num,⟨nx,ax,qx,cx,mx,bx,kx,dx⟩,HB2.out,HV2.out,HOX.out,HX2.out⟩
          case measure=>simp [intOf];omega
         ·have g1:((kk:Int) == (k:Int))=false:=by rw [beq_eq_false_iff_ne];omega
          rw [if_neg (fun e=>hke e.symm)] at hst
          rw [hst] at HVT
          clear hs hkb hvt hot hxr hkk hst hke
          go_wp2_with fail
          go_roundw
          case rel=>exact⟨i+1,by omega,by go_num,⟨nt,at1,qt,ct,mt,bt,kt,dt⟩,HB.out,HVT.out,HOT.out,HXR.out⟩
          case measure=>simp [intOf];omega
        ·have i1:¬ (i:Int)< (d:Int):=by omega
         have hT:S.ps.take i=S.ps:=List.take_of_length_le (by have:=HD.out;omega)
         rw [hT] at hvt
         have HVT:=Lib.hid (show RatV wr (.agg #[.bool nt,.slice at1 qt ct,.bool mt,.slice bt kt dt]) (solX n S k) from hvt)
         obtain⟨c0,c1,c2,c3⟩:=bk4 HB
         have hya:=Ext.alloc wr (.cells #[.bool nt,.slice at1 qt ct,.bool mt,.slice bt kt dt] 44)
         have HBz2:=Lib.hid (Blk.new0 wr #[.bool nt,.slice at1 qt ct,.bool mt,.slice bt kt dt] 44)
         have HXa:=Lib.hid ((HXy.out.trans hxr).trans hya)
         have HOa:=Lib.hid ((HOy.out.ext hxr).ext hya)
         have HVa2:=Lib.hid (RatV.ext HVT.out hya)
         have HOT:=Lib.hid hot
         clear hkb hvt hot hxr hT hya HVT HBz HVa HOFF HYA
         go_wp2_with (at_builtin;refine wpl_append_rat rfl (.tmp 86) (.tmp 88) rfl HXa.out rfl HOa.out rfl (x:=⟨nt,at1,qt,ct,mt,bt,kt,dt⟩) (r:=solX n S k) HBz2.out HVa2.out HOT.out (by have:=HLL.out;omega) ?_;intro v' w3 hO' hE' hg' hat')
         obtain⟨ua,uc,rfl,hul,huc⟩:=hO'.form
         go_roundw
         case rel=>exact⟨k+1,by omega,by go_num,_,(by rw [List.range_succ,List.map_append];exact hO'),hE'⟩
         case measure=>simp [intOf];omega
      ·have k1:¬ (k:Int)< (n:Int):=by omega
       have hke:k=n:=by omega
       subst hke
       obtain⟨ra,rc,VR,e9,hR⟩:=HO.out.reads (f:=solX k S) (N:=k) HLL.out (fun c hc=>by rw [List.getD_eq_getElem?_getD,List.getElem?_map,List.getElem?_range hc];rfl)
       simp only [Value.slice.injEq] at e9
       obtain⟨rfl,-,rfl⟩:=e9
       have HF2:=Lib.hid (HOK.out _ wr ⟨va,vc,VR,rfl,hR,HX5.out.trans HXR.out⟩)
       rw [HLL.out]
       clear hR
       go_wp2_with fail
       go_ret2
       exact HF2.out
end Go.Proofs.YtokffagbdfhnnaaGreat
