import Derived.Test.YtonkhcdmchidjaaGreatYO
set_option maxHeartbeats 16000000
namespace Go.Proofs.YtonkhcdmchidjaaGreat
open Go.RowKit Go BigFrame Go.Shelf
set_option maxRecDepth 100000
set_option linter.all false
structure FamR (W:World) (B M:Nat) (v:Nat→Value) (K:Nat→List RatC) (rs:Nat→List Rat):Prop where
 row:∀t,t<M→OwnRats W B (v t) (K t) (rs t)
 ne:∀s t,s<M→t<M→s≠t→(v s).ownBlock=none∨(v s).ownBlock≠(v t).ownBlock
 off:∀s t,s<M→t<M→∀x∈K s,x.Off (v t).ownBlock
def zEp {α:Type} (f:Nat→α) (s:Nat) (a:α):Nat→α:=fun t=>if t=s then a else f t
section
variable {W W':World} {B M:Nat} {v:Nat→Value} {K:Nat→List RatC} {rs:Nat→List Rat}
theorem FamR.nil (W:World) (B M:Nat):FamR W B M (fun _=>.slice none 0 0) (fun _=>[]) (fun _=>[]):=⟨fun _ _=>OwnRats.nil _ _,fun _ _ _ _ _=>.inl rfl,fun _ _ _ _ x hx=>by cases hx⟩
theorem FamR.ext (h:FamR W B M v K rs) (k:Ext W W'):FamR W' B M v K rs:=⟨fun t ht=>(h.row t ht).ext k,h.ne,h.off⟩
theorem FamR.keepW (h:FamR W B M v K rs) (k:KeepW W W'):FamR W' B M v K rs:=⟨fun t ht=>(h.row t ht).keepW k,h.ne,h.off⟩
theorem FamR.setB (h:FamR W B M v K rs) {p:Nat} {cs:Array Value} {t:TypeId} (hB:Blk W p cs t) (ht:38≠t) (hc:noInt cs) (i:Nat) (u:Value):FamR (W.setCell ⟨p,i,none⟩ u) B M v K rs:=
 ⟨fun t ht2=>(h.row t ht2).keptB hB ht hc (zAa W p i u),h.ne,h.off⟩
theorem FamR.congr (h:FamR W B M v K rs) {rs':Nat→List Rat} (e:∀t,t<M→rs t=rs' t):FamR W B M v K rs':=⟨fun t ht=>e t ht ▸ h.row t ht,h.ne,h.off⟩
theorem FamR.lt (h:FamR W B M v K rs) {t:Nat} (ht:t<M):∀g,(v t).ownBlock=some g→B≤g∧g<W.heap.size:=(h.row t ht).lt
theorem FamR.push (h:FamR W B M v K rs) {s:Nat} (hs:s<M) {v':Value} {c:RatC} {r:Rat} (hO:OwnRats W' B v' (K s ++ [c]) (rs s ++ [r])) (hg:W.grownBy W' (v s).ownBlock) (hat:v'.ownBlock= (v s).ownBlock∨v'.ownBlock=some W.heap.size) (hV:RatV W c.val r) (hc:∀t,t<M→c.Off (v t).ownBlock):
 FamR W' B M (zEp v s v') (zEp K s (K s ++ [c])) (zEp rs s (rs s ++ [r])):=by
 have hfar:∀t,t<M→t≠s→v'.ownBlock=none∨v'.ownBlock≠(v t).ownBlock:=fun t ht hne=>by
  rcases hat with e | e
  ·rw [e];exact h.ne s t hs ht fun e2=>hne e2.symm
  ·rw [e];exact .inr fun e2=>by have:=(h.lt ht _ e2.symm).2;omega
 refine⟨fun t ht=>?_,fun a b ha hb hab=>?_,fun a b ha hb x hx=>?_⟩
 ·unfold zEp;by_cases e:t=s
  ·rw [if_pos e,if_pos e,if_pos e];exact hO
  ·rw [if_neg e,if_neg e,if_neg e];exact(h.row t ht).kept hg (h.ne t s ht hs e) (h.off t s ht hs)
 ·unfold zEp;by_cases e1:a=s
  ·rw [if_pos e1,if_neg (by omega)];exact hfar b hb (by omega)
  ·rw [if_neg e1];by_cases e2:b=s
   ·rw [if_pos e2];by_cases e3:(v a).ownBlock=none
    ·exact .inl e3
    ·rcases hfar a ha e1 with e | e
     ·exact .inr fun e4=>e3 (e4.trans e)
     ·exact .inr fun e4=>e e4.symm
   ·rw [if_neg e2];exact h.ne a b ha hb hab
 ·have hold:∀t,t<M→∀y∈K t,y.Off v'.ownBlock:=fun t ht y hy=>by
   rcases hat with e | e
   ·rw [e];exact h.off t s ht hs y hy
   ·rw [e];obtain⟨i,hi,rfl⟩:=List.getElem_of_mem hy;exact((h.row t ht).val i hi).offNew
  have hnew:c.Off v'.ownBlock:=by
   rcases hat with e | e
   ·rw [e];exact hc s hs
   ·rw [e];exact hV.offNew
  unfold zEp at hx ⊢;by_cases e1:a=s
  ·rw [if_pos e1] at hx;rcases List.mem_append.1 hx with hx | hx
   ·split
    ·exact hold s hs x hx
    ·exact h.off s b hs hb x hx
   ·rw [List.mem_singleton.1 hx]
    split
    ·exact hnew
    ·exact hc b hb
  ·rw [if_neg e1] at hx
   split
   ·exact hold a ha x hx
   ·exact h.off a b ha hb x hx
end
def TabS (W:World) (g m:Nat) (val:Nat→Value):Prop:=Blk W g ((List.range m).map val).toArray 23
section
variable {W W':World} {g m:Nat} {val:Nat→Value}
theorem TabS.cell (h:TabS W g m val) {r:Nat} (hr:r<m):W.cell? ⟨g,r,none⟩=some (val r):=Blk.cell (cs:=((List.range m).map val).toArray) h (by simp [hr])
theorem TabS.free (h:TabS W g m val) (r:Nat):W.frozen? ⟨g,r,none⟩=false:=Blk.free (cs:=((List.range m).map val).toArray) h r
theorem TabS.noInt (hv:∀r,r<m→∃a n c,val r=.slice a n c):noInt ((List.range m).map val).toArray:=fun i n hi=>by
 by_cases hl:i<m
 ·obtain⟨a,q,c,e⟩:=hv i hl;simp [hl,e] at hi
 ·simp [hl] at hi
theorem TabS.put (h:TabS W g m val) {r:Nat} (hr:r<m) (u:Value):TabS (W.setCell ⟨g,r,none⟩ u) g m (fun t=>if t=r then u else val t):=by
 have h1:=Blk.set (cs:=((List.range m).map val).toArray) h r u;unfold TabS;have e:((List.range m).map val).toArray.setIfInBounds r u= ((List.range m).map fun t=>if t=r then u else val t).toArray:=by
  refine Array.ext' ?_;rw [Array.toList_setIfInBounds];refine List.ext_getElem? fun j=>?_;by_cases hj:j<m
  ·rw [List.getElem?_set,List.getElem?_map,List.getElem?_map,List.getElem?_range hj,Option.map_some,Option.map_some];by_cases e:r=j
   ·subst e;rw [if_pos rfl,if_pos (by simpa using hj),if_pos rfl]
   ·rw [if_neg e,if_neg fun e2=>e e2.symm]
  ·rw [List.getElem?_eq_none (by simp;omega),List.getElem?_eq_none (by simp;omega)]
 rw [←e];exact h1
theorem TabS.ext (h:TabS W g m val) (k:Ext W W'):TabS W' g m val:=Blk.ext h k
theorem TabS.grown (h:TabS W g m val) {row:Option Nat} (hg:W.grownBy W' row) (hr:row≠some g):TabS W' g m val:=zA5 h hg hr
theorem TabS.other (h:TabS W g m val) {p i:Nat} (hp:g≠p) (u:Value):TabS (W.setCell ⟨p,i,none⟩ u) g m val:=Blk.other (p:=⟨p,i,none⟩) h hp u
theorem TabS.congr (h:TabS W g m val) {val':Nat→Value} (e:∀r,r<m→val r=val' r):TabS W g m val':=by
 unfold TabS at h ⊢;rw [←List.map_congr_left (f:=val) (g:=val') fun r hr=>e r (List.mem_range.1 hr)];exact h
end
structure Keep2 (g1 g2:Nat) (A B:World):Prop where
 os:B.os=A.os
 tape:B.tape=A.tape
 output:B.output=A.output
 size:A.heap.size≤B.heap.size
 block:∀k,k<A.heap.size→k≠g1→k≠g2→B.heap[k]? =A.heap[k]?
section
variable {g1 g2:Nat} {A B C:World}
theorem Keep2.refl (g1 g2:Nat) (A:World):Keep2 g1 g2 A A:=⟨rfl,rfl,rfl,Nat.le_refl _,fun _ _ _ _=>rfl⟩
theorem Keep2.ext (h:Keep2 g1 g2 A B) (k:Ext B C):Keep2 g1 g2 A C:=⟨k.os.trans h.os,k.tape.trans h.tape,k.output.trans h.output,Nat.le_trans h.size k.size,fun i hi e1 e2=>(k.block i (Nat.lt_of_lt_of_le hi h.size)).trans (h.block i hi e1 e2)⟩
theorem Keep2.grown (h:Keep2 g1 g2 A B) {row:Option Nat} (k:B.grownBy C row) (hr:∀r,row=some r→A.heap.size≤r∨r=g1∨r=g2):Keep2 g1 g2 A C:=
 ⟨k.os.trans h.os,k.tape.trans h.tape,k.output.trans h.output,Nat.le_trans h.size k.size,fun i hi e1 e2=>(k.block i (Nat.lt_of_lt_of_le hi h.size) (fun e=>by rcases hr i e.symm with h9 | h9 | h9 <;> omega)).trans (h.block i hi e1 e2)⟩
theorem Keep2.blk (h:Keep2 g1 g2 A B) {b:Nat} {cs:Array Value} {t:TypeId} (hb:Blk A b cs t) (h1:b≠g1) (h2:b≠g2):Blk B b cs t:=(h.block b hb.lt h1 h2).trans hb
theorem Keep2.below (h:Keep2 g1 g2 A B) {w:World} (hx:Ext w A) (h1:w.heap.size≤g1) (h2:w.heap.size≤g2):Ext w B:=
 Below.trans hx ⟨h.os,h.tape,h.output,h.size,fun k hk=>h.block k (Nat.lt_of_lt_of_le hk hx.size) (by omega) (by omega)⟩
end
def rsF (E:Nat) (g:Nat × Nat→Rat) (xs:List (Nat × Nat)) (t:Nat):List Rat:=(xs.filter (if t<E then zGm t else zGn (t - E))).map g
theorem zLL {E:Nat} (g:Nat × Nat→Rat) (xs:List (Nat × Nat)) {i k:Nat} (hi:i<E) (t:Nat):rsF E g (xs ++ [(i,k)]) t=zEp (zEp (rsF E g xs) i (rsF E g xs i ++ [g (i,k)])) (E+k) (rsF E g xs (E+k) ++ [g (i,k)]) t:=by
 unfold rsF zEp;by_cases h1:t=E+k
 ·subst h1;rw [if_pos rfl,if_neg (by omega),show E+k - E=k by omega,List.filter_append,List.map_append]
  congr 1
  simp [zGn]
 ·rw [if_neg h1];by_cases h2:t=i
  ·subst h2;rw [if_pos rfl,if_pos hi,List.filter_append,List.map_append]
   congr 1
   simp [zGm]
  ·rw [if_neg h2,List.filter_append,List.map_append];by_cases h3:t<E
   ·simp only [h3,if_true];have:List.filter (zGm t) [(i,k)]=[]:=by simp [zGm];omega
    rw [this];simp
   ·simp only [h3,if_false];have:List.filter (zGn (t - E)) [(i,k)]=[]:=by simp [zGn];omega
    rw [this];simp
attribute [local go_sem] Oper.semAt_some
theorem zEY {α:Type} (n:Nat) (a:α):(List.range n).map (fun _=>a)=List.replicate n a:=by
 refine List.ext_getElem? fun j=>?_;by_cases hj:j<n
 ·rw [List.getElem?_map,List.getElem?_range hj,List.getElem?_replicate,if_pos hj,Option.map_some]
 ·rw [List.getElem?_eq_none (by simp;omega),List.getElem?_eq_none (by simp;omega)]
theorem zCT {ops:Array Oper} {o:Oper} {a:Act} {K:Act→World→Prop} {Q:Exit→Act→World→Prop} {E:Prop} (hgd:o.guard=none) (l c:Operand)
 (ho:o.op=Op.makeSlice 55 l c) {w:World} {n:Nat} (hl:a.eval l=.int .i64 (n:Int)) (hc:a.eval c=.int .i64 (n:Int)) (hn:n≤1000000)
 (h:∀g w',g=w.heap.size→TabS w' g n (fun _=>.slice none 0 0)→Ext w w'→K (a.put o.dst (.slice (some ⟨g,0,none⟩) n n)) w'):
 if Region.wanted o (yielded ops a.tmps)=true then Oper.wp Tryz.prog o a w K Q else E:=by
 have hw:Region.wanted o (yielded ops a.tmps)=true:=by simp [Region.wanted,hgd]
 rw [if_pos hw];obtain⟨i0,hi0,hz0,hz1,hz2⟩:=info_parts zBh;have hr:=run_makeSlice (P:=Tryz.prog) (w:=w) 55 23 i0 (.slice none 0 0) Tryz.underlying55 hi0 hz0 .i64 .i64 (n:Int) (n:Int) (by omega) (by omega) (by rw [hz1];omega) (by rw [hz2];omega) (by omega);have e:madeCells (Value.cells (.slice none 0 0)) ((n:Int).toNat*i0.size)= ((List.range n).map fun _=>Value.slice none 0 0).toArray:=by
  rw [hz1,Nat.mul_one,Int.toNat_natCast];refine Array.ext' ?_;simp [Value.cells,toList_madeCells_one];exact(zEY n _).symm
 rw [e,Int.toNat_natCast] at hr;unfold Oper.wp execOp;simp only [ho,hl,hc,Sem.run_bind,Sem.run_pure,Result.andThen_ok,hr];exact h _ _ rfl (Blk.new0 w _ _) (Ext.alloc w _)
theorem zLM {fb E J cap qc xc:Nat} {a qa xa:Option Addr} {x:World} (hK:Hid (Blk x fb #[.slice qa E qc,.slice xa J xc] 25)) (hm:E≤400) (hj:J≤400) {K':Act→World→Prop} {Q':Exit→Act→World→Prop} {defs:List Deferred} {l1 l2 l4 l5 l8 l9 ah ai aj hZ ia ak al ap aY bT dW dX bU bV aZ bf gM bg bh dY bW bX aA aB aC aD aE aG aH aI aJ aK aL aM aN dT dU dV bi bw bA bB bC bD bE bG bH bI bJ bK bL bM bN bO bP bQ bR bS aO aP aQ aR aS aT aU aV aW aX l6 l7:Value}
 (hfin:∀ (lf ip lh li iq ir lk:Value) (p6 p7 ge gj:Nat) (w':World),Blk w' p6 #[.slice (some ⟨ge,0,none⟩) E E] 55→Blk w' p7 #[.slice (some ⟨gj,0,none⟩) J J] 55→TabS w' ge E (fun _=>.slice none 0 0)→TabS w' gj J (fun _=>.slice none 0 0)→ge≠gj→x.heap.size≤ge→x.heap.size≤gj→x.heap.size≤p6→x.heap.size≤p7→Ext x w'→K' ⟨#[.slice a E cap,l1,l2,.pointer (some ⟨fb,0,none⟩),l4,l5,.pointer (some ⟨p6,0,none⟩),.pointer (some ⟨p7,0,none⟩),l8,l9,ah,ai,aj,hZ,ia,ak,al,ap,lf,ip,lh,li,iq,ir,lk,bf,gM,bg,bh,dY,bW,bX,aA,aB,aC,aD,aE,aG,aH,aI,aJ,aK,aL,aM,aN,dT,dU,dV,bi,bw,bA,bB,bC,bD,bE,bG,bH,bI,bJ,bK,bL,bM,bN,bO,bP,bQ,bR,bS,aO,aP,aQ,aR,aS,aT,aU,aV,aW,aX],defs⟩ w'):
 Code.wp Tryz.prog ((Tryz.f19.body.bind (zBc 4)).getD .skip) (Exit.then K' Q') ⟨#[.slice a E cap,l1,l2,.pointer (some ⟨fb,0,none⟩),l4,l5,l6,l7,l8,l9,ah,ai,aj,hZ,ia,ak,al,ap,aY,bT,dW,dX,bU,bV,aZ,bf,gM,bg,bh,dY,bW,bX,aA,aB,aC,aD,aE,aG,aH,aI,aJ,aK,aL,aM,aN,dT,dU,dV,bi,bw,bA,bB,bC,bD,bE,bG,bH,bI,bJ,bK,bL,bM,bN,bO,bP,bQ,bR,bS,aO,aP,aQ,aR,aS,aT,aU,aV,aW,aX],defs⟩ x:=by
 conv=>arg 2;whnf
 obtain⟨s0,s1⟩:=bk2 hK;have hx:Ext x (World.drew x):=(Ext.refl _).drew;replace s0:=zA0 hx s0;replace s1:=zA0 hx s1;have hp0:=hK.out.lt;clear hK;refine wp_region_noPanic ?_;refine wp_region_held_drew (S:=(fun w'=>w'.cell? ⟨fb,0,none⟩=some (.slice qa E qc)∧w'.cell? ⟨fb,1,none⟩=some (.slice xa J xc))) (by kernel_rfl) ?_ (fun hHeld=>?_)
 ·exact⟨s0,s1⟩
 (try simp only [pur,Nat.reduceAdd])
 generalize World.drew x=y at *
 iterate 5
  refine tkR [0,1,3,4,5] (v:=?_) rfl rfl (by kernel_rfl) (fun _ _ _ h=>h) (by rfl) ?_ (by assumption) ?_;rotate_left
  ·(intro w hSw;(try dsimp only at hSw);(try go_simp);(try with_reducible rfl))
  (try simp only [Act.put,pus])
 repeat' first
  | (refine wpAnyH_done (by decide +kernel) ?_ _
     refine NoPanic.normal ?_;show K' _ _
     exact hfin _ _ _ _ _ _ _ p6 p7 ge gj _ (bo1 H2 p7 (.slice (some ⟨gj,0,none⟩) J J) d67).out (bs1 H3 (.slice (some ⟨gj,0,none⟩) J J)).out (H0.out.other (i:=0) (fun e=>zAz H0.out H3.out (show 23≠55 from by decide) e) _) (H1.out.other (i:=0) (fun e=>zAz H1.out H3.out (show 23≠55 from by decide) e) _) d01 hg0 hg1 hp6 hp7 (hx.set (p:=⟨p7,0,none⟩) hp7 _))
  | (refine rdR [2,6,7,8,9,10] (by decide +kernel) (zAt ?_ (zAt ?_ (zAt ?_ (zAt ?_ (zAt ?_ (zAt ?_ zFw))))))
     first
     | exact noR (by decide +kernel)
     | (refine isR (o:=_) rfl (fun K hK=>?_)
        refine zCT rfl (.tmp 19) (.tmp 19) rfl rfl rfl (by omega) ?_;intro ge y hge hB hE;have hgl:=hx.size;(try have d01:ge≠gj:=by have:=Blk.lt H1.out;omega);(try replace H0:=dH (H0.out.ext hE));(try replace H1:=dH (H1.out.ext hE));(try replace H2:=kE H2 hE);(try replace H3:=kE H3 hE);replace s0:=zA0 hE s0;replace s1:=zA0 hE s1;replace hx:=hx.trans hE;clear hE;have H0:=dH hB;clear hB;have hg0:x.heap.size≤ge:=(by omega);clear hge hgl
        rotate_left)
     first
     | exact noR (by decide +kernel)
     | (refine isR (o:=_) rfl (fun K hK=>?_)
        refine zCT rfl (.tmp 23) (.tmp 23) rfl rfl rfl (by omega) ?_;intro gj y hgj hB hE;have hgl:=hx.size;(try have d01:ge≠gj:=by have:=Blk.lt H0.out;omega);(try replace H0:=dH (H0.out.ext hE));(try replace H1:=dH (H1.out.ext hE));(try replace H2:=kE H2 hE);(try replace H3:=kE H3 hE);replace s0:=zA0 hE s0;replace s1:=zA0 hE s1;replace hx:=hx.trans hE;clear hE;have H1:=dH hB;clear hB;have hg1:x.heap.size≤gj:=(by omega);clear hgj hgl
        rotate_left)
     first
     | exact noR (by decide +kernel)
     | (refine isR (o:=_) rfl (fun K hK=>?_)
        go_simp;have hE:=Ext.alloc y (.cells #[.slice none 0 0] 55);have hp6:x.heap.size≤y.heap.size:=hx.size;(try have d67:y.heap.size≠p7:=by have:=H3.out.lt;omega);(try replace H0:=dH (H0.out.ext hE));(try replace H1:=dH (H1.out.ext hE));(try replace H2:=kE H2 hE);(try replace H3:=kE H3 hE);replace s0:=zA0 hE s0;replace s1:=zA0 hE s1;replace hx:=hx.trans hE;clear hE;have H2:=dH (Blk.new0 y #[.slice none 0 0] 55);generalize Array.size (World.heap y)=p6 at *;generalize World.alloc y (.cells #[.slice none 0 0] 55)=y at *
        rotate_left)
     first
     | exact noR (by decide +kernel)
     | (refine isR (o:=_) rfl (fun K hK=>?_)
        go_simp;have hE:=Ext.alloc y (.cells #[.slice none 0 0] 55);have hp7:x.heap.size≤y.heap.size:=hx.size;(try have d67:p6≠y.heap.size:=by have:=H2.out.lt;omega);(try replace H0:=dH (H0.out.ext hE));(try replace H1:=dH (H1.out.ext hE));(try replace H2:=kE H2 hE);(try replace H3:=kE H3 hE);replace s0:=zA0 hE s0;replace s1:=zA0 hE s1;replace hx:=hx.trans hE;clear hE;have H3:=dH (Blk.new0 y #[.slice none 0 0] 55);generalize Array.size (World.heap y)=p7 at *;generalize World.alloc y (.cells #[.slice none 0 0] 55)=y at *
        rotate_left)
     first
     | exact noR (by decide +kernel)
     | (refine isR (o:=_) rfl (fun K hK=>?_)
        obtain⟨g0,z0⟩:=bp1 H2 (.slice (some ⟨ge,0,none⟩) E E);go_simp;clear g0 z0;have n6:fb≠p6:=(by omega);have n7:fb≠p7:=(by omega);replace s0:=zB7 s0 (g:=p6) (i:=0) n6 (.slice (some ⟨ge,0,none⟩) E E);replace s1:=zB7 s1 (g:=p6) (i:=0) n6 (.slice (some ⟨ge,0,none⟩) E E);replace H3:=bo1 H3 p6 (.slice (some ⟨ge,0,none⟩) E E) (fun e=>d67 e.symm);have e0:=(fun e=>zAz H0.out H2.out (show 23≠55 from by decide) e:ge≠p6);(try have e1:=(fun e=>zAz H1.out H2.out (show 23≠55 from by decide) e:gj≠p6));replace H0:=dH (H0.out.other (i:=0) e0 (.slice (some ⟨ge,0,none⟩) E E));(try replace H1:=dH (H1.out.other (i:=0) e1 (.slice (some ⟨ge,0,none⟩) E E)));replace H2:=bs1 H2 (.slice (some ⟨ge,0,none⟩) E E);replace hx:=hx.set (p:=⟨p6,0,none⟩) hp6 (.slice (some ⟨ge,0,none⟩) E E);generalize World.setCell y ⟨p6,0,none⟩ (.slice (some ⟨ge,0,none⟩) E E)=y at *
        rotate_left)
     first
     | exact noR (by decide +kernel)
     | (refine isR (o:=_) rfl (fun K hK=>?_)
        obtain⟨g0,z0⟩:=bp1 H3 (.slice (some ⟨gj,0,none⟩) J J);go_simp;clear g0 z0;replace s0:=zB7 s0 (g:=p7) (i:=0) n7 (.slice (some ⟨gj,0,none⟩) J J);replace s1:=zB7 s1 (g:=p7) (i:=0) n7 (.slice (some ⟨gj,0,none⟩) J J)
        rotate_left)
     all_goals (
      refine hK.out _ _ ?_ ?_
      ·exact⟨s0,s1⟩
      clear hK K hHeld;intro hHeld
      (try simp only [Act.put,pus])))
def ChkI (xL:World) (ge gj E J:Nat) (g:Nat × Nat→Rat) (xs:List (Nat × Nat)) (W:World):Prop:=
 ∃v K,FamR W xL.heap.size (E+J) v K (rsF E g xs)∧TabS W ge E v∧TabS W gj J (fun k=>v (E+k))∧Keep2 ge gj xL W
theorem ChkI.own (xL:World) (ge gj E J:Nat) (g:Nat × Nat→Rat):OwnFrom xL.heap.size (ChkI xL ge gj E J g):=fun xs W W' row h hg hr=>by
 obtain⟨v,K,hf,h1,h2,hk⟩:=h;have k:=zBa hg fun r e=>(hr r e).2;exact⟨v,K,hf.keepW k,k.blk h1,k.blk h2,hk.grown hg fun r e=>.inl (hr r e).1⟩
theorem zDC {W:World} {B M:Nat} {v:Nat→Value} {K:Nat→List RatC} {rs:Nat→List Rat} (h:FamR W B M v K rs):∀r,r<M→∃a n c,v r=.slice a n c:=fun r hr=>by
 obtain⟨a,c,e,_⟩:=(h.row r hr).form;exact⟨a,_,c,e⟩
theorem zLN {y w9:World} {B B0 M s vc uc:Nat} {v:Nat→Value} {K:Nat→List RatC} {rs:Nat→List Rat} {va ua:Option Addr} {c:RatC} {r:Rat} (HF:FamR y B M v K rs) (hs:s<M) (hv:v s=.slice va (K s).length vc) (hO:OwnRats w9 B0 (.slice ua ((K s).length+1) uc) (K s ++ [c]) (rs s ++ [r]))
 (hgr:y.grownBy w9 (Value.slice va (K s).length vc).ownBlock) (hat:(Value.slice ua ((K s).length+1) uc).ownBlock= (Value.slice va (K s).length vc).ownBlock∨(Value.slice ua ((K s).length+1) uc).ownBlock=some y.heap.size) (hV:RatV y c.val r) (hc:∀t,t<M→c.Off (v t).ownBlock) (hB:B≤y.heap.size):
 FamR w9 B M (zEp v s (.slice ua ((K s).length+1) uc)) (zEp K s (K s ++ [c])) (zEp rs s (rs s ++ [r]))∧(∀t,t<M→c.Off (zEp v s (.slice ua ((K s).length+1) uc) t).ownBlock)∧RatV w9 c.val r:=by
 rw [←hv] at hgr hat;have hO':OwnRats w9 B (.slice ua ((K s).length+1) uc) (K s ++ [c]) (rs s ++ [r]):=hO.high fun g e=>by
  rcases hat with h | h
  ·exact(HF.lt hs g (h ▸ e)).1
  ·rw [h] at e;cases e;exact hB
 refine⟨HF.push hs hO' hgr hat hV hc,fun t ht=>?_,RatV.grown hV hgr (hc s hs)⟩;unfold zEp
 split
 ·rcases hat with h | h
  ·rw [h];exact hc s hs
  ·rw [h];exact hV.offNew
 ·exact hc t ht
structure St9 (xL W y:World) (n₀ B1 ge gj E n rb b p6 p7 i k:Nat) (c:RatC) (r:Rat) (v:Nat→Value) (K:Nat→List RatC) (rs:Nat→List Rat):Prop where
 fam:FamR y xL.heap.size (E+n) v K rs
 te:TabS y ge E v
 tj:TabS y gj n (fun k=>v (E+k))
 kp:Keep2 ge gj xL y
 krb:Blk y rb #[.bool c.n,.slice c.a c.q c.c,.bool c.m,.slice c.b c.k c.d] 38
 kb:Blk y b #[.int .i64 (i:Int),.int .i64 (k:Int)] 95
 kp6:Blk y p6 #[.slice (some ⟨ge,0,none⟩) E E] 55
 kp7:Blk y p7 #[.slice (some ⟨gj,0,none⟩) n n] 55
 val:RatV y c.val r
 off:∀t,t<E+n→c.Off (v t).ownBlock
 rbf:∀t,t<E+n→(v t).ownBlock≠some rb
 ot:KeepsOthers W y
 ks:KpS n₀ B1 (B1+1) W y
section
variable {xL W y y' w9:World} {n₀ B1 ge gj E n rb b p6 p7 i k:Nat} {c:RatC} {r:Rat} {v:Nat→Value} {K:Nat→List RatC} {rs:Nat→List Rat}
theorem St9.ext (h:St9 xL W y n₀ B1 ge gj E n rb b p6 p7 i k c r v K rs) (x:Ext y y') (hW:n₀≤W.heap.size):St9 xL W y' n₀ B1 ge gj E n rb b p6 p7 i k c r v K rs:=
 ⟨h.fam.ext x,h.te.ext x,h.tj.ext x,h.kp.ext x,h.krb.ext x,h.kb.ext x,h.kp6.ext x,h.kp7.ext x,h.val.ext x,h.off,h.rbf,h.ot.trans x.others,h.ks.trans (KpS.ext x (Nat.le_trans hW h.ot.size))⟩
theorem St9.push (h:St9 xL W y n₀ B1 ge gj E n rb b p6 p7 i k c r v K rs) {s:Nat} (hs:s<E+n) {va ua:Option Addr} {vc uc B0:Nat} (hv:v s=.slice va (K s).length vc) (hO:OwnRats w9 B0 (.slice ua ((K s).length+1) uc) (K s ++ [c]) (rs s ++ [r])) (hgr:y.grownBy w9 (Value.slice va (K s).length vc).ownBlock)
 (hat:(Value.slice ua ((K s).length+1) uc).ownBlock= (Value.slice va (K s).length vc).ownBlock∨(Value.slice ua ((K s).length+1) uc).ownBlock=some y.heap.size) (hW:n₀≤W.heap.size) (hB:B1+1<xL.heap.size) (hn:n₀≤xL.heap.size) (hge:n₀≤ge∧ge<B1) (hgj:n₀≤gj∧gj<B1) (hne:ge≠gj):
 (Blk w9 rb #[.bool c.n,.slice c.a c.q c.c,.bool c.m,.slice c.b c.k c.d] 38∧Blk w9 b #[.int .i64 (i:Int),.int .i64 (k:Int)] 95∧Blk w9 p6 #[.slice (some ⟨ge,0,none⟩) E E] 55∧Blk w9 p7 #[.slice (some ⟨gj,0,none⟩) n n] 55)∧TabS w9 ge E v∧TabS w9 gj n (fun k=>v (E+k))∧
 (∀g q,(g=ge∧q=s∧s<E)∨(g=gj∧E+q=s)→St9 xL W (w9.setCell ⟨g,q,none⟩ (.slice ua ((K s).length+1) uc)) n₀ B1 ge gj E n rb b p6 p7 i k c r (zEp v s (.slice ua ((K s).length+1) uc)) (zEp K s (K s ++ [c])) (zEp rs s (rs s ++ [r]))):=by
 obtain⟨f1,f2,f3⟩:=zLN h.fam hs hv hO hgr hat h.val h.off h.kp.size;have hrow:=(h.fam.row s hs).own;rw [hv] at hrow;have hN:∀r,(Value.slice va (K s).length vc).ownBlock=some r→xL.heap.size≤r:=fun r e=>(h.fam.lt hs r (hv ▸ e)).1;have t1:=h.te.grown hgr (fun e=>zAI hrow h.te (by decide) e);have t2:=h.tj.grown hgr (fun e=>zAI hrow h.tj (by decide) e);have k6:=zA5 h.kp6 hgr (fun e=>zAI hrow h.kp6 (by decide) e);have k7:=zA5 h.kp7 hgr (fun e=>zAI hrow h.kp7 (by decide) e);have kb:=zA5 h.kb hgr (fun e=>zAI hrow h.kb (by decide) e);have kr:=zA5 h.krb hgr (fun e=>h.rbf s hs (hv ▸ e));refine⟨⟨kr,kb,k6,k7⟩,t1,t2,fun g q hgq=>?_⟩;have hgg:n₀≤g∧g<B1∧(g=ge∨g=gj):=by
  rcases hgq with⟨e,_⟩ | ⟨e,_⟩
  ·subst e;exact⟨hge.1,hge.2,.inl rfl⟩
  ·subst e;exact⟨hgj.1,hgj.2,.inr rfl⟩
 obtain⟨cs,hT,hni⟩:∃cs,Blk w9 g cs 23∧noInt cs:=by
  rcases hgg.2.2 with e | e
  ·subst e;exact⟨_,t1,TabS.noInt fun r hr=>zDC h.fam r (by omega)⟩
  ·subst e;exact⟨_,t2,TabS.noInt (val:=fun k=>v (E+k)) fun r hr=>zDC h.fam (E+r) (by omega)⟩
 have hkk:=zEX (n₀:=n₀) (B1:=B1) (B2:=B1+1) (sb:=g) (i:=q) (N:=xL.heap.size) (.slice ua ((K s).length+1) uc) (Ext.refl y) hgr (zHj hrow) hN (by omega) hB hn (Nat.le_trans hW h.ot.size) (by omega) (by omega) hgg.1;have hsb:=zAa w9 g q (.slice ua ((K s).length+1) uc);refine⟨f1.setB hT (by decide) hni q _,?_,?_,(h.kp.grown hgr fun r e=>.inl (hN r e)).grown hsb fun r e=>(Option.some.inj e) ▸ .inr hgg.2.2,kr.other (p:=⟨g,q,none⟩) (fun e=>zAz kr hT (by decide) e) _,kb.other (p:=⟨g,q,none⟩) (fun e=>zAz kb hT (by decide) e) _,k6.other (p:=⟨g,q,none⟩) (fun e=>zAz k6 hT (by decide) e) _,k7.other (p:=⟨g,q,none⟩) (fun e=>zAz k7 hT (by decide) e) _,f3.grown hsb (f3.offB hT hni),f2,fun t ht=>?_,h.ot.trans hkk.1,h.ks.trans hkk.2⟩
 ·rcases hgq with⟨rfl,rfl,hsE⟩ | ⟨rfl,hq⟩
  ·exact(t1.put hsE _).congr fun r hr=>rfl
  ·exact(t1.other (p:=g) (i:=q) hne _).congr fun r hr=>by unfold zEp;rw [if_neg (by omega)]
 ·rcases hgq with⟨rfl,rfl,hsE⟩ | ⟨rfl,hq⟩
  ·exact(t2.other (p:=g) (i:=q) (fun e=>hne e.symm) _).congr fun r hr=>by unfold zEp;rw [if_neg (by omega)]
  ·exact(t2.put (r:=q) (by omega) _).congr fun r hr=>by
    unfold zEp;by_cases e:r=q
    ·rw [if_pos e,if_pos (by omega)]
    ·rw [if_neg e,if_neg (by omega)]
 ·unfold zEp
  split
  ·rcases hat with e | e
   ·rw [e,←hv];exact h.rbf s hs
   ·rw [e];exact fun e2=>by have:=h.krb.lt;have:=Option.some.inj e2;omega
  ·exact h.rbf t ht
end
theorem TabS.slC {W:World} {g m:Nat} {val:Nat→Value} (h:TabS W g m val) (hv:∀r,r<m→∃a n c,val r=.slice a n c) (hm:m≤1000000):SlC W 1 (some ⟨g,0,none⟩) m m ((List.range m).map val) where
 le:=Nat.le_refl _
 mx:=by omega
 nil e:=by cases e
 len:=by simp
 at' A hA j u hu:=by
  cases hA
  have hj:j<m:=by
   have:=(List.getElem?_eq_some_iff.1 hu).1
   simpa using this
  rw [List.getElem?_map,List.getElem?_range hj,Option.map_some] at hu;cases hu
  rw [Addr.add_off,Nat.zero_add];exact h.cell hj
 one u hu:=by
  obtain⟨r,hr,rfl⟩:=List.mem_map.1 hu;obtain⟨a,n,c,e⟩:=hv r (List.mem_range.1 hr);rw [e];rfl
theorem zLO {w:World} {a:Option Addr} {cap:Nat} {L:List RatA} (h:RatsI w a cap L) (hok:∀x∈L,x.ok=true):RowR w a cap L.length (zNV L) (zAq L) where
 le:=h.le
 mx:=h.mx
 nil:=h.nil
 cells A hA c hc:=by
  have e:L.getD c noA=L[c]:=by rw [List.getD_eq_getElem?_getD,List.getElem?_eq_getElem hc];rfl
  have:=h.cells A hA c hc;unfold zNV;rw [e];exact this
 val c hc:=by
  have e:L.getD c noA=L[c]:=by rw [List.getD_eq_getElem?_getD,List.getElem?_eq_getElem hc];rfl
  unfold zNV zAq;rw [e];exact(zCt (hok _ (List.getElem_mem hc))).1 w (h.ints c hc)
section
variable {D e n:Nat} {q x:Nat→Rat} {m:List (List Int)}
theorem zMo {t:Nat} {r:Rat} (hr:r∈rsF m.length (zBn m q x) (knS m m.length 0) t):∃p∈knS m m.length 0,r=zBn m q x p:=by
 unfold rsF at hr;obtain⟨p,hp,rfl⟩:=List.mem_map.1 hr;exact⟨p,(List.mem_filter.1 hp).1,rfl⟩
theorem zNl (hT:Tab m n):(knS m m.length 0).length≤1024:=by
 have h1:=zER hT.len (Nat.le_refl m.length) (Nat.zero_le n);have:m.length*n≤64*16:=Nat.mul_le_mul hT.e64 hT.j16;omega
theorem zMp (hT:Tab m n) (t:Nat):(rsF m.length (zBn m q x) (knS m m.length 0) t).length≤1024:=by
 unfold rsF;rw [List.length_map];exact Nat.le_trans (List.length_filter_le _ _) (zNl hT)
theorem rs_sz (h:OvF D (2 ^ e) n m.length q x) (hT:Tab m n) (hD:D<2 ^ e) (he:e≤14900) (t k:Nat):Sz ((rsF m.length (zBn m q x) (knS m m.length 0) t).take k).sum 500:=by
 have h1:Ov D (((rsF m.length (zBn m q x) (knS m m.length 0) t).take k).length*2 ^ (e+10)+1) ((rsF m.length (zBn m q x) (knS m m.length 0) t).take k).sum:=Ov.sum h.d0 fun r hr=>by
  obtain⟨p,hp,rfl⟩:=zMo (List.mem_of_mem_take hr);exact zGp h hT hD hp
 refine h1.szE (E:=e+21) h.d0 (Nat.lt_of_lt_of_le hD (Nat.pow_le_pow_right (by omega) (by omega))) ?_ (by omega);rw [show e+21= (e+10)+11 by omega,Nat.pow_add 2 (e+10) 11];have hp0:0< (2:Nat) ^ (e+10):=Nat.pow_pos (by omega);have hlk:((rsF m.length (zBn m q x) (knS m m.length 0) t).take k).length≤1024:=by rw [List.length_take];have:=zMp (q:=q) (x:=x) hT t;omega
 have:=Nat.mul_le_mul_right (2 ^ (e+10)) hlk;omega
theorem rs_sx (h:OvF D (2 ^ e) n m.length q x) (hT:Tab m n) (hD:D<2 ^ e) (he:e≤14900) (t k:Nat) (hk:k< (rsF m.length (zBn m q x) (knS m m.length 0) t).length):Sz ((rsF m.length (zBn m q x) (knS m m.length 0) t).getD k 0) 500:=by
 rw [List.getD_eq_getElem?_getD,List.getElem?_eq_getElem hk,Option.getD_some];obtain⟨p,hp,e9⟩:=zMo (List.getElem_mem hk);rw [e9];exact(zGp h hT hD hp).szE (E:=e+10) h.d0 (Nat.lt_of_lt_of_le hD (Nat.pow_le_pow_right (by omega) (by omega))) (Nat.le_refl _) (by omega)
theorem zOl (h:OvF D (2 ^ e) n m.length q x) (hn:n≤16) (hD:D<2 ^ e) (he:e≤14900) (k:Nat) (hk:k≤n):Sz (sq x k) 500:=by
 have key:∀k,k≤n→Ov D (k*2 ^ e+1) (sq x k):=fun k=>by
  induction k with
  | zero=>exact fun _=>by rw [zBB];exact Ov.zero h.d0 (by omega)
  | succ k ih=>
   intro hk;rw [zAv];refine((ih (by omega)).add h.d0 (h.x k (by omega))).mono ?_;rw [Nat.add_mul,Nat.one_mul];omega
 refine(key k hk).szE (E:=e+5) h.d0 (Nat.lt_of_lt_of_le hD (Nat.pow_le_pow_right (by omega) (by omega))) ?_ (by omega);rw [Nat.pow_add];have hp0:0< (2:Nat) ^ e:=Nat.pow_pos (by omega);have:=Nat.mul_le_mul_right (2 ^ e) (show k≤16 by omega);omega
def zIy (m:List (List Int)) (n:Nat) (q x:Nat→Rat) (t:Nat):Rat:=if t<m.length+n then(rsF m.length (zBn m q x) (knS m m.length 0) t).sum else sq x n
theorem zOm (i k:Nat):kS m i k*zBn m q x (i,k)=kS m i k* (zAi m).r q x i k:=by
 unfold zBn Mks.r;show kS m i k*_=kS m i k* (kS m i k* (mkS m i k:Rat) - q i - x k);unfold kS
 split
 ·grind
 ·grind
theorem zLP (hT:Tab m n) (hn:(m.headD []).length=n):(∀t,t<m.length+n+1→zIy m n q x t=0)↔(zAi m).Fits q x:=by
 have e1:∀i,i<m.length→zIy m n q x i=sq (fun k=>(zAi m).K i k* (zAi m).r q x i k) (zAi m).J:=fun i hi=>by
  unfold zIy rsF;rw [if_pos (by omega),if_pos hi,show(((knS m m.length 0).filter (zGm i)).map (zBn m q x)).sum=zHi ((knS m m.length 0).filter (zGm i)) (zBn m q x) from rfl,zOi hT hi];show _=sq _ (m.headD []).length;rw [hn];exact zA3 fun k _=>zOm i k
 have e2:∀k,k<n→zIy m n q x (m.length+k)=sq (fun i=>(zAi m).K i k* (zAi m).r q x i k) (zAi m).E:=fun k hk=>by
  unfold zIy rsF;rw [if_pos (by omega),if_neg (by omega),show m.length+k - m.length=k by omega,show(((knS m m.length 0).filter (zGn k)).map (zBn m q x)).sum=zHi ((knS m m.length 0).filter (zGn k)) (zBn m q x) from rfl,zOj hT hk];exact zA3 fun i _=>zOm i k
 have e3:zIy m n q x (m.length+n)=sq x (zAi m).J:=by
  unfold zIy;rw [if_neg (by omega)];show _=sq x (m.headD []).length;rw [hn]
 constructor
 ·intro h;refine⟨fun i hi=>?_,fun k hk=>?_,?_⟩
  ·rw [←e1 i hi];exact h i (by have:i<m.length:=hi;omega)
  ·have hk2:k<n:=by rw [←hn];exact hk
   rw [←e2 k hk2];exact h _ (by omega)
  ·rw [←e3];exact h _ (by omega)
 ·rintro⟨h1,h2,h3⟩ t ht;by_cases c1:t<m.length
  ·rw [e1 t c1];exact h1 t c1
  ·by_cases c2:t<m.length+n
   ·have e9:t=m.length+ (t - m.length):=by omega
    rw [e9,e2 _ (by omega)];exact h2 _ (by show t - m.length< (m.headD []).length;rw [hn];omega)
   ·have e9:t=m.length+n:=by omega
    rw [e9,e3];exact h3
end
def zKu (m:List (List Int)) (n:Nat) (q x:Nat→Rat) (k:Nat):Bool:=(List.range k).all fun t=>decide (zIy m n q x t=0)
theorem zKv (m:List (List Int)) (n:Nat) (q x:Nat→Rat) (k:Nat):zKu m n q x (k+1)= (zKu m n q x k && decide (zIy m n q x k=0)):=by
 unfold zKu;rw [List.range_succ,List.all_append];simp
theorem allS_iff {m:List (List Int)} {n:Nat} {q x:Nat→Rat} {k:Nat}:zKu m n q x k=true↔∀t,t<k→zIy m n q x t=0:=by
 unfold zKu;rw [List.all_eq_true];exact⟨fun h t ht=>by have:=h t (List.mem_range.2 ht);simpa using this,fun h t ht=>by simpa using h t (List.mem_range.1 ht)⟩
theorem zDa {w:World} {B B':Nat} {t:TypeId} {k n:Nat} {v:Value} {xs:List Value} (h:w.ownsRow B t k v n xs) (hB:B'≤B):w.ownsRow B' t k v n xs:=by
 refine⟨h.1,?_⟩;rcases h.2 with h2 | ⟨g,cap,cur,e,hb,hg⟩
 ·exact .inl h2
 ·exact .inr ⟨g,cap,cur,e,by omega,hg⟩
def zMq (m:List (List Int)) (q x:Nat→Rat) (w:World) (e:Ending) (w':World):Prop:=∃ok:Bool,e=.returned (.tuple #[.bool ok,.int .i64 0])∧(ok=true↔(zAi m).Fits q x)∧Ext w w'
theorem zIz (a:Option Addr) (cap:Nat) (m:List (List Int)) (n:Nat) (qa:Option Addr) (qc:Nat) (LQ:List RatA) (xa:Option Addr) (xc:Nat) (LX:List RatA) (D e:Nat) (w:World) (h:Rows w a cap m) (hq:RatsI w qa qc LQ) (hx:RatsI w xa xc LX) (hE:zBJ m=0) (hF:zBF m LQ LX=true) (hn:(m.headD []).length=n)
 (hov:OvF D (2 ^ e) n m.length (zAq LQ) (zAq LX)) (hD:D<2 ^ e) (he:e≤14900):Calls Tryz.prog 19 #[.slice a m.length cap,.agg #[.slice qa LQ.length qc,.slice xa LX.length xc]] w (zMq m (zAq LQ) (zAq LX) w):=by
 have HT:=dH (zGo (zAJ hE) hn);have h64:=HT.out.e64;have h16:=HT.out.j16;obtain⟨f1,f2,f3,f4⟩:=zFH hF;have HFP:=dH (And.intro f3 f4);rw [hn] at f2;have HFL:=dH (And.intro f1 f2);have hl1:LQ.length≤400:=by omega
 have hl2:LX.length≤400:=by omega
 clear f1 f2 f3 f4;obtain⟨y,hw,hy,Kf,Ke⟩:=zGI w #[.slice qa LQ.length qc,.slice xa LX.length xc] 25 #[.int .i64 0] 29;replace hw:=dH hw;have HA:=dH (zAD a cap m y (h.ext hy));have HH:=dH h;have HQ:=dH hq;have HX:=dH hx;have HFO:=dH hF;have HN:=dH hn;have HOV:=dH hov;have HD:=dH hD;have hle:=h.le;have hmx:=h.mx;have qle:=hq.le;have qmx:=hq.mx;have xle:=hx.le;have xmx:=hx.mx;clear h hq hx hF hn hov hD;refine(callsIn_wide (n:=5)).1 ?_;refine callsIn_of_wp_marks Tryz.func19 rfl trivial ?_ rfl;simp only [Tryz.ntmps19,List.size_toArray,List.length_cons,List.length_nil,Nat.reduceAdd,Nat.reduceSub,Array.replicate_succ,Array.replicate_zero,List.push_toArray,List.append_toArray,List.nil_append,List.cons_append];refine wpIn_wide.2 ?_;go_upto_region 1 with fail
 try simp only [Nat.add_assoc,Nat.reduceAdd,Nat.add_zero]
 rw [hw.out];clear hw;go_wp2_with fail;refine HA.out.mono ?_;clear HA;rintro e0 x2 ⟨rfl,hy2⟩;replace hy:=hy.trans hy2;replace Kf:=kE Kf hy2;replace Ke:=kE Ke hy2;clear hy2;rw [hE,show zBQ 0=.returned (.tuple #[]) from rfl];obtain⟨k0,k1⟩:=bk2 Kf;go_wp2_with fail;refine(zBG a cap m qa qc LQ xa xc LX _ (HH.out.ext hy) (HQ.out.ext hy) (HX.out.ext hy) hl1 hl2).mono ?_;rw [HFO.out,show zDS true=.returned (.tuple #[]) from rfl];rintro e0 x3 ⟨rfl,hy2⟩;replace hy:=hy.trans hy2;replace Kf:=kE Kf hy2;replace Ke:=kE Ke hy2;clear hy2 k0 k1;have hs3:=hy.size;have hke:=Ke.out.lt;have HLX:Hid (LX.length=n):=dH HFL.out.2;have HLQ:Hid (LQ.length=m.length):=dH HFL.out.1;rw [HFL.out.1,HFL.out.2] at Kf;go_upto_region 4 with fail;refine zAX (c':=((Tryz.f19.body.bind (zBc 4)).getD .skip)) (by kernel_rfl) ?_;apply zLM Kf (by omega) (by omega)
 intros
 rename_i p6 p7 ge gj x4 hp6 hp7 hge hgj hgn g1 g2 g3 g4 hz;replace hy:=hy.trans hz;replace Kf:=kE Kf hz;replace Ke:=kE Ke hz;clear hz;go_upto_region 5 with fail;dsimp only
 go_cut [26] from 25 to 27 (fun s1 wx=>s1=.func (.func 122) #[] #[.pointer (some ⟨x4.heap.size,0,none⟩),.pointer (some ⟨x4.heap.size+1,0,none⟩)]∧Blk wx x4.heap.size #[.slice a m.length cap] 22∧Blk wx (x4.heap.size+1) #[.func (.func 55) #[] #[]] 84∧Ext x4 wx)
 case first=>
  go_wp2_with fail;refine(zBi a m.length cap x4).mono ?_;rintro e0 w9 ⟨rfl,rfl⟩;have HB1:=dH ((Blk.new0 x4 #[.slice a m.length cap] 22).alloc (.cells #[.func (.func 55) #[] #[]] 84));have HB2:=dH (Blk.new1 x4 (.cells #[.slice a m.length cap] 22) #[.func (.func 55) #[] #[]] 84);have HE9:=dH (((Ext.refl x4).alloc' (.cells #[.slice a m.length cap] 22)).alloc' (.cells #[.func (.func 55) #[] #[]] 84));generalize (x4.alloc (.cells #[.slice a m.length cap] 22)).alloc (.cells #[.func (.func 55) #[] #[]] 84)=x9 at *;go_wp2_with fail;go_meet;exact⟨rfl,HB1.out,HB2.out,HE9.out⟩
 case rest=>
 obtain⟨rfl,hb1,hb2,hz⟩:=hcut;have hgl:=Blk.lt hge;have hgl2:=Blk.lt hgj;have hpl6:=hp6.lt;have hpl7:=hp7.lt;obtain⟨B1,hB1e⟩:∃B1,x4.heap.size=B1:=⟨_,rfl⟩
 rw [hB1e] at hb1 hb2 hgl hgl2 hpl6 hpl7 ⊢;replace hy:=hy.trans hz;replace Kf:=kE Kf hz;replace Ke:=kE Ke hz;have HP6:=dH (hp6.ext hz);have HP7:=dH (hp7.ext hz);have hB1:=hb1.lt;have hB2:=hb2.lt;have hwx:=hy.size;have HXL:=dH hy;have HB1:=dH hb1;have HB2:=dH hb2;have HGE:Hid (ge≠gj):=dH hgn;have HNG:Hid (p6≠ge∧p6≠gj∧p7≠ge∧p7≠gj):=dH ⟨fun e=>zAz hp6 hge (by decide) e,fun e=>zAz hp6 hgj (by decide) e,fun e=>zAz hp7 hge (by decide) e,fun e=>zAz hp7 hgj (by decide) e⟩;have HG1:Hid (w.heap.size≤ge∧ge<B1):=dH (by omega);have HG2:Hid (w.heap.size≤gj∧gj<B1):=dH (by omega);generalize wc=xL at *;have HI0:Hid (ChkI xL ge gj m.length n (zBn m (zAq LQ) (zAq LX)) [] xL):=dH ⟨fun _=>.slice none 0 0,fun _=>[],(FamR.nil _ _ _).congr fun t _=>by unfold rsF;simp,hge.ext hz,hgj.ext hz,Keep2.refl _ _ _⟩;clear hz hy hb1 hb2 hge hgj hp6 hp7 hgn;go_wp2_with fail;refine(wpIn_wide (n:=5)).1 ?_
 refine zAH (by omega) (gf:=122) (lb:=#[.pointer (some ⟨B1,0,none⟩),.pointer (some ⟨B1+1,0,none⟩)]) rfl (enters_of Tryz.func122 (by kernel_rfl) rfl)
  (zDv 4 B1 (B1+1) a cap m w xL HH.out HXL.out HB1.out HB2.out) (fun h k=>KpS.trans h k) (fun W l o o' h1 h2 h3 h4=>KpS.b (w:=xL) hwx W l o o' h1 h2 h3 h4) (fun _=>rfl)
  (ChkI xL ge gj m.length n (zBn m (zAq LQ) (zAq LX))) (fun _ _ _=>False) (ChkI.own _ _ _ _ _ _) (fun _ _ _ _ _ h _ _=>h.elim) (OkS.own m _) HI0.out
  (fun W o h=>KpS.ext (Ext.alloc W o) (Nat.le_trans hwx h)) (fun p=>#[.int .i64 (p.1:Int),.int .i64 (p.2:Int)]) 95 ?a1 ?assign ?body ?done ?stop
 case assign=>
  intro lp p W K hK
  gi_wp2
  generalize W.heap.size=bb at *;exact hK
 case body=>
  rintro lp pre ⟨i,k⟩ W ⟨v,Kc,hf,hte,htj,hkp⟩ ⟨i0,k0,hi,hk,hm,hxs⟩ b hbx hbw;obtain⟨rfl,hxe⟩:=List.append_inj' hxs rfl;cases hxe
  clear hxs;dsimp only;rw [HT.out.len i hi] at hk;have hmk:=HT.out.mks i k;have hpl:=zEU HT.out hi (Nat.le_of_lt hk);have hKl:∀t,t<m.length+n→(Kc t).length≤1024:=fun t ht=>by
   have h9:=(hf.row t ht).len;unfold rsF at h9;rw [List.length_map] at h9;exact Nat.le_trans (Nat.le_of_eq h9) (Nat.le_trans (List.length_filter_le _ _) hpl)
  have hWE:Ext w W:=hkp.below HXL.out (by omega) (by omega);have hkf:=hkp.blk Kf.out (by omega) (by omega);obtain⟨k0,k1⟩:=bk2 (dH hkf);have hcx:Blk W b #[.int .i64 (i:Int),.int .i64 (k:Int)] 95:=hbx;obtain⟨b0,b1⟩:=bk2 (dH hcx);have hr1:=HOV.out.mq HT.out (i:=i) (k:=k) hi;have hp2:(2:Nat) ^ e*1004≤2 ^ (e+10):=by rw [Nat.pow_add];exact Nat.mul_le_mul_left _ (by omega)
  have hD0:=HD.out;have hSZ1:Sz (zAq LQ i) 500:=(HOV.out.q i hi).szE HOV.out.d0 HD.out (Nat.le_refl _) (by omega);have hSZ2:Sz (zAq LX k) 500:=(HOV.out.x k hk).szE HOV.out.d0 HD.out (Nat.le_refl _) (by omega);have hDE:D<2 ^ (e+10):=Nat.lt_of_lt_of_le HD.out (Nat.pow_le_pow_right (by omega) (by omega));have hSZ3:Sz (((mkS m i k:Int):Rat) - zAq LQ i) 500:=hr1.szE (E:=e+10) HOV.out.d0 hDE (by omega) (by omega);have HRS:=dH (zC4 qa qc LQ xa xc LX i k (mkS m i k) 500 500 500 W (HQ.out.ext hWE) (HX.out.ext hWE) HFP.out.1 HFP.out.2 (by have:=HFL.out.1;omega) (by have:=HFL.out.2;omega) (by omega) hSZ1 hSZ3 hSZ2 (by omega) (by omega));rw [HLQ.out,HLX.out] at HRS;have HF:=dH hf;have HTE:=dH hte;have HTJ:=dH htj;have HKP:=dH hkp;have HBX:=dH hcx;have HWE:=dH hWE;have HKL:=dH hKl;have hgs:=hkp.size;have HQ6:=dH (hkp.blk HP6.out HNG.out.1 HNG.out.2.1);have HQ7:=dH (hkp.blk HP7.out HNG.out.2.2.1 HNG.out.2.2.2);clear hf hte htj hkp hWE hkf hcx hbx hKl hr1 hp2 hD0 hSZ1 hSZ2 hSZ3 hDE hm hmk hpl
  gi_wp2
  refine⟨trivial,(callsIn_wide.2 HRS.out).mono ?_⟩;rintro e' y1 ⟨v1,rfl,⟨n1,a1,q1,c1,b1',k1',d1,rfl,hv',hf',hg'⟩,hz⟩;clear k0 k1 b0 b1 HRS;have HV:Hid (RatV y1 (.agg #[.bool n1,.slice a1 q1 c1,.bool false,.slice b1' k1' d1]) (zBn m (zAq LQ) (zAq LX) (i,k))):=dH hv';have HCO:Hid (∀t,t<m.length+n→RatC.Off ⟨n1,a1,q1,c1,false,b1',k1',d1⟩ (v t).ownBlock):=dH (fun t ht=>⟨fun _ A hA e9=>by have h8:=hf' A hA;have h9:=(HF.out.lt ht _ e9).2;omega,fun _ A hA e9=>by have h8:=hg' A hA;have h9:=(HF.out.lt ht _ e9).2;omega⟩);gi_upto_region 9 with fail;have hza:=Ext.alloc y1 (.cells #[.bool n1,.slice a1 q1 c1,.bool false,.slice b1' k1' d1] 38);have HRB:=dH (Blk.new0 y1 #[.bool n1,.slice a1 q1 c1,.bool false,.slice b1' k1' d1] 38);have HRO:Hid (∀t,t<m.length+n→(v t).ownBlock=some y1.heap.size→False):=dH (fun t ht e9=>by have h8:=(HF.out.lt ht _ e9).2;have h9:=hz.size;omega);have hE1:=hz.trans hza;replace HV:=dH (RatV.ext HV.out hza);replace HF:=dH (HF.out.ext hE1);replace HTE:=dH (HTE.out.ext hE1);replace HTJ:=dH (HTJ.out.ext hE1);replace HKP:=dH (HKP.out.ext hE1);replace HBX:=dH (HBX.out.ext hE1);replace HQ6:=dH (HQ6.out.ext hE1);replace HQ7:=dH (HQ7.out.ext hE1);have hsz1:=hE1.size;have HE1:=dH hE1;clear hza hz hv' hf' hg' hE1;generalize y1.alloc (.cells #[.bool n1,.slice a1 q1 c1,.bool false,.slice b1' k1' d1] 38)=y2 at *;generalize y1.heap.size=rb at *;have hWs:w.heap.size≤W.heap.size:=Nat.le_trans hwx hgs;have HS:Hid (St9 xL W y2 w.heap.size B1 ge gj m.length n rb b p6 p7 i k ⟨n1,a1,q1,c1,false,b1',k1',d1⟩ (zBn m (zAq LQ) (zAq LX) (i,k)) v Kc (rsF m.length (zBn m (zAq LQ) (zAq LX)) (knS m i k))):=dH ⟨HF.out,HTE.out,HTJ.out,HKP.out,HRB.out,HBX.out,HQ6.out,HQ7.out,HV.out,HCO.out,HRO.out,HE1.out.others,KpS.ext HE1.out hWs⟩;have hiM:i<m.length+n:=by omega
  have hkM:m.length+k<m.length+n:=by omega
  have hiE:i<m.length:=hi;have hkJ:k<n:=hk;have i0':(0:Int)≤(i:Int):=by omega
  have i1':(i:Int)< (m.length:Int):=by omega
  have k0':(0:Int)≤(k:Int):=by omega
  have k1'':(k:Int)< (n:Int):=by omega
  have HWY:=dH (HWE.out.trans HE1.out);clear HF HTE HTJ HKP HRB HBX HQ6 HQ7 HV HCO HRO HE1
  gi_cut [] from 33 (fun wx=>∃v Kc,St9 xL W wx w.heap.size B1 ge gj m.length n rb b p6 p7 i k ⟨n1,a1,q1,c1,false,b1',k1',d1⟩ (zBn m (zAq LQ) (zAq LX) (i,k)) v Kc (zEp (rsF m.length (zBn m (zAq LQ) (zAq LX)) (knS m i k)) i (rsF m.length (zBn m (zAq LQ) (zAq LX)) (knS m i k) i ++ [zBn m (zAq LQ) (zAq LX) (i,k)]))∧(∀t,t<m.length+n→(Kc t).length≤1025)∧Ext w wx)
  case first=>
   obtain⟨va,vc,hvs,_,_⟩:=(HS.out.fam.row (i) hiM).form;have HVS:=dH hvs;clear hvs;have hE0:Ext y2 (World.drew y2):=(Ext.refl _).drew;replace HS:=dH (HS.out.ext hE0 hWs);have s0:World.cell? (World.drew y2) ⟨p6,0,none⟩=some (.slice (some ⟨ge,0,none⟩) m.length m.length):=(HS.out.kp6).cell rfl;have s1:World.cell? (World.drew y2) ⟨b,0,none⟩=some (.int .i64 (i:Int)):=(HS.out.kb).cell rfl;have s2:World.cell? (World.drew y2) ⟨rb,0,none⟩=some (.bool n1):=(HS.out.krb).cell rfl;have s3:World.cell? (World.drew y2) ⟨rb,1,none⟩=some (.slice a1 q1 c1):=(HS.out.krb).cell rfl;have s4:World.cell? (World.drew y2) ⟨rb,2,none⟩=some (.bool false):=(HS.out.krb).cell rfl;have s5:World.cell? (World.drew y2) ⟨rb,3,none⟩=some (.slice b1' k1' d1):=(HS.out.krb).cell rfl;have s6:World.cell? (World.drew y2) ⟨ge,i,none⟩=some (.slice va (Kc (i)).length vc):=by have h9:=TabS.cell (HS.out.te) hiE;rw [HVS.out] at h9;exact h9
   refine zA8 (S:=(fun w'=>w'.cell? ⟨p6,0,none⟩=some (.slice (some ⟨ge,0,none⟩) m.length m.length)∧w'.cell? ⟨b,0,none⟩=some (.int .i64 (i:Int))∧w'.cell? ⟨rb,0,none⟩=some (.bool n1)∧w'.cell? ⟨rb,1,none⟩=some (.slice a1 q1 c1)∧w'.cell? ⟨rb,2,none⟩=some (.bool false)∧w'.cell? ⟨rb,3,none⟩=some (.slice b1' k1' d1))) (by kernel_rfl) (by kernel_rfl) (by rintro⟨_,_,h⟩;exact h) ?_ (fun hHeld=>?_)
   ·exact⟨s0,s1,s2,s3,s4,s5⟩
   (try simp only [pur,Nat.reduceAdd])
   generalize World.drew y2=y3 at *
   iterate 8
    refine tkR [0,1,2,3,4,5,6,8] (v:=?_) rfl rfl (by kernel_rfl) (fun _ _ _ h=>h) (by rfl) ?_ (by assumption) ?_;rotate_left
    ·(intro w hSw;(try dsimp only at hSw);(try go_simp);(try with_reducible rfl))
    (try simp only [Act.put,pus])
   repeat' first
    | (refine tkR [11] (v:=?_) rfl rfl (by decide +kernel) (fun _ _ _ h=>h) (by rfl) ?_ (by assumption) ?_
       rotate_left
       ·(intro w hSw;(try dsimp only at hSw);(try go_simp);(try with_reducible rfl))
       (try simp only [Act.put,pus]))
    | (refine wpAnyH_done (by decide +kernel) ?_ _
       gi_wp2_with fail;gi_meet
       exact⟨_,_,HSN.out,fun t ht=>by unfold zEp;split;rw [List.length_append,List.length_singleton];have:=HKL.out i hiM;omega;have:=HKL.out t ht;omega,HXN.out⟩)
    | (refine rdR [7,9,10,12] (by decide +kernel) (zAt ?_ (zAt ?_ (zAt ?_ (zAt ?_ zFw))))
       first
       | exact noR (by decide +kernel)
       | (refine isR (o:=_) rfl (fun K hK=>?_)
          go_simp
          rotate_left)
       first
       | exact noR (by decide +kernel)
       | (refine isR (o:=_) rfl (fun K hK=>?_)
          go_simp;have hE:=Ext.alloc y3 (.cells #[.bool n1,.slice a1 q1 c1,.bool false,.slice b1' k1' d1] 38);replace HS:=dH (HS.out.ext hE hWs);have hE0:=hE0.trans hE;replace s0:=zA0 hE s0;replace s1:=zA0 hE s1;replace s2:=zA0 hE s2;replace s3:=zA0 hE s3;replace s4:=zA0 hE s4;replace s5:=zA0 hE s5;replace s6:=zA0 hE s6;have HBz:=dH (Blk.new0 y3 #[.bool n1,.slice a1 q1 c1,.bool false,.slice b1' k1' d1] 38);clear hE;generalize Array.size (World.heap y3)=kb2 at *;generalize World.alloc y3 (.cells #[.bool n1,.slice a1 q1 c1,.bool false,.slice b1' k1' d1] 38)=y4 at *
          rotate_left)
       first
       | exact noR (by decide +kernel)
       | (refine isR (o:=_) rfl (fun K hK=>?_)
          have hrow:=HS.out.fam.row (i) hiM;rw [HVS.out] at hrow;have hcs:=HS.out.off (i) hiM;rw [HVS.out] at hcs;refine zAP (a0:=w) rfl (.tmp 40) (.tmp 42) rfl (HWY.out.trans hE0) rfl (hrow.low HXL.out.size) rfl (x:=⟨n1,a1,q1,c1,false,b1',k1',d1⟩) (r:=zBn m (zAq LQ) (zAq LX) (i,k)) HBz.out HS.out.val hcs (by have:=HKL.out (i) hiM;omega) ?_;intro v' w9 hO' hE' hgr hat';obtain⟨ua,uc,e9,hul,huc⟩:=hO'.form;rw [List.length_append,List.length_singleton] at e9;subst e9;obtain⟨⟨krb,kb,kp6,kp7⟩,ta,tb,hnx⟩:=HS.out.push hiM HVS.out hO' hgr hat' hWs hB2 hwx HG1.out HG2.out HGE.out;have HSN:=dH (hnx ge i (.inl ⟨rfl,rfl,hiE⟩));have HXN:=dH (hE'.set (p:=⟨ge,i,none⟩) (by have:=HG1.out;have:=HG2.out;dsimp only;omega) (.slice ua ((Kc (i)).length+1) uc));have hf9:=TabS.free (ta) (i);have hc9:=TabS.cell (ta) hiE;rw [HVS.out] at hc9;replace s0:w9.cell? ⟨p6,0,none⟩=some (.slice (some ⟨ge,0,none⟩) m.length m.length):=(kp6).cell rfl;replace s1:w9.cell? ⟨b,0,none⟩=some (.int .i64 (i:Int)):=(kb).cell rfl;replace s2:w9.cell? ⟨rb,0,none⟩=some (.bool n1):=(krb).cell rfl;replace s3:w9.cell? ⟨rb,1,none⟩=some (.slice a1 q1 c1):=(krb).cell rfl;replace s4:w9.cell? ⟨rb,2,none⟩=some (.bool false):=(krb).cell rfl;replace s5:w9.cell? ⟨rb,3,none⟩=some (.slice b1' k1' d1):=(krb).cell rfl;clear s6 HS krb kb kp6 kp7 ta tb hnx hrow hcs hgr hat'
          rotate_left)
       first
       | exact noR (by decide +kernel)
       | (refine isR (o:=_) rfl (fun K hK=>?_)
          go_simp;replace s0:World.cell? (World.setCell w9 ⟨ge,i,none⟩ (.slice ua ((Kc (i)).length+1) uc)) ⟨p6,0,none⟩=some (.slice (some ⟨ge,0,none⟩) m.length m.length):=(HSN.out.kp6).cell rfl;replace s1:World.cell? (World.setCell w9 ⟨ge,i,none⟩ (.slice ua ((Kc (i)).length+1) uc)) ⟨b,0,none⟩=some (.int .i64 (i:Int)):=(HSN.out.kb).cell rfl;replace s2:World.cell? (World.setCell w9 ⟨ge,i,none⟩ (.slice ua ((Kc (i)).length+1) uc)) ⟨rb,0,none⟩=some (.bool n1):=(HSN.out.krb).cell rfl;replace s3:World.cell? (World.setCell w9 ⟨ge,i,none⟩ (.slice ua ((Kc (i)).length+1) uc)) ⟨rb,1,none⟩=some (.slice a1 q1 c1):=(HSN.out.krb).cell rfl;replace s4:World.cell? (World.setCell w9 ⟨ge,i,none⟩ (.slice ua ((Kc (i)).length+1) uc)) ⟨rb,2,none⟩=some (.bool false):=(HSN.out.krb).cell rfl;replace s5:World.cell? (World.setCell w9 ⟨ge,i,none⟩ (.slice ua ((Kc (i)).length+1) uc)) ⟨rb,3,none⟩=some (.slice b1' k1' d1):=(HSN.out.krb).cell rfl;clear hf9 hc9
          rotate_left)
       all_goals (
        refine hK.out _ _ ?_ ?_
        ·exact⟨s0,s1,s2,s3,s4,s5⟩
        clear hK K hHeld;intro hHeld
        (try simp only [Act.put,pus])))
  case rest=>
  obtain⟨v,Kc,hs9,hk9,hw9⟩:=hcut;generalize wc=y2 at *;have HS:=dH hs9;have HKL:=dH hk9;have HWY:=dH hw9;clear hs9 hk9 hw9;gi_upto_region 10 with fail;obtain⟨va,vc,hvs,_,_⟩:=(HS.out.fam.row (m.length+k) hkM).form;have HVS:=dH hvs;clear hvs;have hE0:Ext y2 (World.drew y2):=(Ext.refl _).drew;replace HS:=dH (HS.out.ext hE0 hWs);have s0:World.cell? (World.drew y2) ⟨p7,0,none⟩=some (.slice (some ⟨gj,0,none⟩) n n):=(HS.out.kp7).cell rfl;have s1:World.cell? (World.drew y2) ⟨b,1,none⟩=some (.int .i64 (k:Int)):=(HS.out.kb).cell rfl;have s2:World.cell? (World.drew y2) ⟨rb,0,none⟩=some (.bool n1):=(HS.out.krb).cell rfl;have s3:World.cell? (World.drew y2) ⟨rb,1,none⟩=some (.slice a1 q1 c1):=(HS.out.krb).cell rfl;have s4:World.cell? (World.drew y2) ⟨rb,2,none⟩=some (.bool false):=(HS.out.krb).cell rfl;have s5:World.cell? (World.drew y2) ⟨rb,3,none⟩=some (.slice b1' k1' d1):=(HS.out.krb).cell rfl;have s6:World.cell? (World.drew y2) ⟨gj,k,none⟩=some (.slice va (Kc (m.length+k)).length vc):=by have h9:=TabS.cell (HS.out.tj) hkJ;rw [HVS.out] at h9;exact h9
  refine zA8 (S:=(fun w'=>w'.cell? ⟨p7,0,none⟩=some (.slice (some ⟨gj,0,none⟩) n n)∧w'.cell? ⟨b,1,none⟩=some (.int .i64 (k:Int))∧w'.cell? ⟨rb,0,none⟩=some (.bool n1)∧w'.cell? ⟨rb,1,none⟩=some (.slice a1 q1 c1)∧w'.cell? ⟨rb,2,none⟩=some (.bool false)∧w'.cell? ⟨rb,3,none⟩=some (.slice b1' k1' d1))) (by kernel_rfl) (by kernel_rfl) (by rintro⟨_,_,h⟩;exact h) ?_ (fun hHeld=>?_)
  ·exact⟨s0,s1,s2,s3,s4,s5⟩
  (try simp only [pur,Nat.reduceAdd])
  generalize World.drew y2=y3 at *
  iterate 8
   refine tkR [0,1,2,3,4,5,6,8] (v:=?_) rfl rfl (by kernel_rfl) (fun _ _ _ h=>h) (by rfl) ?_ (by assumption) ?_;rotate_left
   ·(intro w hSw;(try dsimp only at hSw);(try go_simp);(try with_reducible rfl))
   (try simp only [Act.put,pus])
  repeat' first
   | (refine tkR [11] (v:=?_) rfl rfl (by decide +kernel) (fun _ _ _ h=>h) (by rfl) ?_ (by assumption) ?_
      rotate_left
      ·(intro w hSw;(try dsimp only at hSw);(try go_simp);(try with_reducible rfl))
      (try simp only [Act.put,pus]))
   | (refine wpAnyH_done (by decide +kernel) ?_ _
      gi_wp2_with fail
      exact⟨HSN.out.ot,HSN.out.ks,_,_,HSN.out.fam.congr fun t ht=>(by rw [zLL _ _ hiE,show zEp (rsF m.length (zBn m (zAq LQ) (zAq LX)) (knS m i k)) i (rsF m.length (zBn m (zAq LQ) (zAq LX)) (knS m i k) i ++ [zBn m (zAq LQ) (zAq LX) (i,k)]) (m.length+k)=rsF m.length (zBn m (zAq LQ) (zAq LX)) (knS m i k) (m.length+k) from if_neg (by omega)]),HSN.out.te,HSN.out.tj,HSN.out.kp⟩)
   | (refine rdR [7,9,10,12] (by decide +kernel) (zAt ?_ (zAt ?_ (zAt ?_ (zAt ?_ zFw))))
      first
      | exact noR (by decide +kernel)
      | (refine isR (o:=_) rfl (fun K hK=>?_)
         go_simp
         rotate_left)
      first
      | exact noR (by decide +kernel)
      | (refine isR (o:=_) rfl (fun K hK=>?_)
         go_simp;have hE:=Ext.alloc y3 (.cells #[.bool n1,.slice a1 q1 c1,.bool false,.slice b1' k1' d1] 38);replace HS:=dH (HS.out.ext hE hWs);have hE0:=hE0.trans hE;replace s0:=zA0 hE s0;replace s1:=zA0 hE s1;replace s2:=zA0 hE s2;replace s3:=zA0 hE s3;replace s4:=zA0 hE s4;replace s5:=zA0 hE s5;replace s6:=zA0 hE s6;have HBz:=dH (Blk.new0 y3 #[.bool n1,.slice a1 q1 c1,.bool false,.slice b1' k1' d1] 38);clear hE;generalize Array.size (World.heap y3)=kb2 at *;generalize World.alloc y3 (.cells #[.bool n1,.slice a1 q1 c1,.bool false,.slice b1' k1' d1] 38)=y4 at *
         rotate_left)
      first
      | exact noR (by decide +kernel)
      | (refine isR (o:=_) rfl (fun K hK=>?_)
         have hrow:=HS.out.fam.row (m.length+k) hkM;rw [HVS.out] at hrow;have hcs:=HS.out.off (m.length+k) hkM;rw [HVS.out] at hcs;refine zAP (a0:=w) rfl (.tmp 52) (.tmp 54) rfl (HWY.out.trans hE0) rfl (hrow.low HXL.out.size) rfl (x:=⟨n1,a1,q1,c1,false,b1',k1',d1⟩) (r:=zBn m (zAq LQ) (zAq LX) (i,k)) HBz.out HS.out.val hcs (by have:=HKL.out (m.length+k) hkM;omega) ?_;intro v' w9 hO' hE' hgr hat';obtain⟨ua,uc,e9,hul,huc⟩:=hO'.form;rw [List.length_append,List.length_singleton] at e9;subst e9;obtain⟨⟨krb,kb,kp6,kp7⟩,ta,tb,hnx⟩:=HS.out.push hkM HVS.out hO' hgr hat' hWs hB2 hwx HG1.out HG2.out HGE.out;have HSN:=dH (hnx gj k (.inr ⟨rfl,rfl⟩));have HXN:=dH (hE'.set (p:=⟨gj,k,none⟩) (by have:=HG1.out;have:=HG2.out;dsimp only;omega) (.slice ua ((Kc (m.length+k)).length+1) uc));have hf9:=TabS.free (tb) (k);have hc9:=TabS.cell (tb) hkJ;rw [HVS.out] at hc9;replace s0:w9.cell? ⟨p7,0,none⟩=some (.slice (some ⟨gj,0,none⟩) n n):=(kp7).cell rfl;replace s1:w9.cell? ⟨b,1,none⟩=some (.int .i64 (k:Int)):=(kb).cell rfl;replace s2:w9.cell? ⟨rb,0,none⟩=some (.bool n1):=(krb).cell rfl;replace s3:w9.cell? ⟨rb,1,none⟩=some (.slice a1 q1 c1):=(krb).cell rfl;replace s4:w9.cell? ⟨rb,2,none⟩=some (.bool false):=(krb).cell rfl;replace s5:w9.cell? ⟨rb,3,none⟩=some (.slice b1' k1' d1):=(krb).cell rfl;clear s6 HS krb kb kp6 kp7 ta tb hnx hrow hcs hgr hat'
         rotate_left)
      first
      | exact noR (by decide +kernel)
      | (refine isR (o:=_) rfl (fun K hK=>?_)
         go_simp;replace s0:World.cell? (World.setCell w9 ⟨gj,k,none⟩ (.slice ua ((Kc (m.length+k)).length+1) uc)) ⟨p7,0,none⟩=some (.slice (some ⟨gj,0,none⟩) n n):=(HSN.out.kp7).cell rfl;replace s1:World.cell? (World.setCell w9 ⟨gj,k,none⟩ (.slice ua ((Kc (m.length+k)).length+1) uc)) ⟨b,1,none⟩=some (.int .i64 (k:Int)):=(HSN.out.kb).cell rfl;replace s2:World.cell? (World.setCell w9 ⟨gj,k,none⟩ (.slice ua ((Kc (m.length+k)).length+1) uc)) ⟨rb,0,none⟩=some (.bool n1):=(HSN.out.krb).cell rfl;replace s3:World.cell? (World.setCell w9 ⟨gj,k,none⟩ (.slice ua ((Kc (m.length+k)).length+1) uc)) ⟨rb,1,none⟩=some (.slice a1 q1 c1):=(HSN.out.krb).cell rfl;replace s4:World.cell? (World.setCell w9 ⟨gj,k,none⟩ (.slice ua ((Kc (m.length+k)).length+1) uc)) ⟨rb,2,none⟩=some (.bool false):=(HSN.out.krb).cell rfl;replace s5:World.cell? (World.setCell w9 ⟨gj,k,none⟩ (.slice ua ((Kc (m.length+k)).length+1) uc)) ⟨rb,3,none⟩=some (.slice b1' k1' d1):=(HSN.out.krb).cell rfl;clear hf9 hc9
         rotate_left)
      all_goals (
       refine hK.out _ _ ?_ ?_
       ·exact⟨s0,s1,s2,s3,s4,s5⟩
       clear hK K hHeld;intro hHeld
       (try simp only [Act.put,pus])))
 case done=>
  rintro D1 xs W hD1 hS ⟨v,Kc,hf,hte,htj,hkp⟩ hK;rw [show xs=knS m m.length 0 from hS] at hf;have HDf:=dH hK;replace Kf:=dH (hkp.blk Kf.out (by omega) (by omega));replace Ke:=dH (hkp.blk Ke.out (by omega) (by omega));replace HP6:=dH (hkp.blk HP6.out HNG.out.1 HNG.out.2.1);replace HP7:=dH (hkp.blk HP7.out HNG.out.2.2.1 HNG.out.2.2.2);have hWE:Ext w W:=hkp.below HXL.out (by omega) (by omega);have hWL:=hkp.size;have HF:=dH hf;have HTE:=dH hte;have HTJ:=dH htj;have HWE:=dH hWE;have hxn:=HX.out.le;clear hf hte htj hkp hWE hK hS HI0;go_upto_region 12 with fail
  go_cut [64,65,66] from 57 to 67 (fun s1 s2 s3 wx=>∃va vc,s1=.slice va (m.length+n+1) vc∧s2=.int .i64 ((m.length:Int)+ (n:Int)+1)∧s3=.int .i64 0∧wx.ownsRow W.heap.size 23 1 (.slice va (m.length+n+1) vc) (m.length+n+1) (((List.range m.length).map v ++ (List.range n).map fun k=>v (m.length+k)) ++ [.slice xa n xc])∧Ext W wx)
  case first=>
   have hE0:Ext W (World.drew W):=(Ext.refl _).drew;have s0:World.cell? (World.drew W) ⟨p6,0,none⟩=some (.slice (some ⟨ge,0,none⟩) m.length m.length):=(HP6.out.ext hE0).cell rfl;have s1:World.cell? (World.drew W) ⟨p7,0,none⟩=some (.slice (some ⟨gj,0,none⟩) n n):=(HP7.out.ext hE0).cell rfl;have s2:World.cell? (World.drew W) ⟨w.heap.size,1,none⟩=some (.slice xa n xc):=(Kf.out.ext hE0).cell rfl;have HS1:=dH (HTE.out.slC (fun r hr=>zDC HF.out r (by omega)) (by omega));have HS2:=dH (HTJ.out.slC (fun r hr=>zDC HF.out (m.length+r) (by omega)) (by omega));refine wp_region_noPanic ?_;refine wp_region_held_drew (S:=(fun w'=>w'.cell? ⟨p6,0,none⟩=some (.slice (some ⟨ge,0,none⟩) m.length m.length)∧w'.cell? ⟨p7,0,none⟩=some (.slice (some ⟨gj,0,none⟩) n n)∧w'.cell? ⟨w.heap.size,1,none⟩=some (.slice xa n xc))) (by kernel_rfl) ?_ (fun hHeld=>?_)
   ·exact⟨s0,s1,s2⟩
   (try simp only [pur,Nat.reduceAdd])
   generalize World.drew W=y0 at *
   iterate 5
    refine tkR [0,1,4,5,9] (v:=?_) rfl rfl (by kernel_rfl) (fun _ _ _ h=>h) (by rfl) ?_ (by assumption) ?_;rotate_left
    ·(intro w hSw;(try dsimp only at hSw);(try go_simp);(try with_reducible rfl))
    (try simp only [Act.put,pus])
   refine wpAnyH_ready (rs:=[2,6]) (by kernel_rfl) (by simp) ?_;refine AllReadyH.cons (o:=_) rfl (fun K hK=>?_) ?_
   ·go_simp;have hE:=Ext.alloc y0 (.cells #[.slice (some ⟨ge,0,none⟩) m.length m.length,.slice (some ⟨gj,0,none⟩) n n] 55);(try replace HE0:=dH (HE0.out.ext hE));replace s0:=zA0 hE s0;replace s1:=zA0 hE s1;replace s2:=zA0 hE s2;have hE0:=hE0.trans hE;(try replace HCC:=dH (zAg HCC.out hE));(try replace HG:=kE HG hE);(try replace HU:=kE HU hE);have HG:=dH (Blk.new0 y0 #[.slice (some ⟨ge,0,none⟩) m.length m.length,.slice (some ⟨gj,0,none⟩) n n] 55);clear hE;generalize Array.size (World.heap y0)=kg at *;generalize World.alloc y0 (.cells #[.slice (some ⟨ge,0,none⟩) m.length m.length,.slice (some ⟨gj,0,none⟩) n n] 55)=y0 at *;refine hK.out _ _ ?_ ?_
    ·exact⟨s0,s1,s2⟩
    clear hK K hHeld;intro hHeld
    (try simp only [Act.put,pus])
    refine wpAnyH_ready (rs:=[3,6]) (by kernel_rfl) (by simp) ?_;refine AllReadyH.cons (o:=_) rfl (fun K hK=>?_) ?_
    ·go_simp
     (with_reducible refine(zGl (some ⟨ge,0,none⟩) (some ⟨gj,0,none⟩) m.length m.length n n _ _ kg _ (HS1.out.ext hE0) (HS2.out.ext hE0) HG.out (by omega) (by omega)).mono ?_);rintro e5 y5 ⟨v5,rfl,ho5,hE⟩;have hys:=hE0.size;have HCC:=dH (zDa ho5 hys);obtain⟨a5,c5,rfl⟩:=zAh ho5;(try replace HE0:=dH (HE0.out.ext hE));replace s0:=zA0 hE s0;replace s1:=zA0 hE s1;replace s2:=zA0 hE s2;have hE0:=hE0.trans hE;(try replace HG:=kE HG hE);(try replace HU:=kE HU hE);clear hE ho5 hys
     refine hK.out _ _ ?_ ?_
     ·exact⟨s0,s1,s2⟩
     clear hK K hHeld;intro hHeld
     (try simp only [Act.put,pus])
     refine wpAnyH_ready (rs:=[6]) (by kernel_rfl) (by simp) ?_;refine AllReadyH.cons (o:=_) rfl (fun K hK=>?_) ?_
     ·go_simp;have hE:=Ext.alloc y5 (.cells #[.slice xa n xc] 23);(try replace HE0:=dH (HE0.out.ext hE));replace s0:=zA0 hE s0;replace s1:=zA0 hE s1;replace s2:=zA0 hE s2;have hE0:=hE0.trans hE;(try replace HCC:=dH (zAg HCC.out hE));(try replace HG:=kE HG hE);(try replace HU:=kE HU hE);have HU:=dH (Blk.new0 y5 #[.slice xa n xc] 23);clear hE;generalize Array.size (World.heap y5)=ku at *;generalize World.alloc y5 (.cells #[.slice xa n xc] 23)=y5 at *;refine hK.out _ _ ?_ ?_
      ·exact⟨s0,s1,s2⟩
      clear hK K hHeld;intro hHeld
      (try simp only [Act.put,pus])
      refine wpAnyH_ready (rs:=[7]) (by kernel_rfl) (by simp) ?_;refine AllReadyH.cons (o:=_) rfl (fun K hK=>?_) ?_
      ·refine zAk rfl (.tmp 60) (.tmp 63) 55 23 rfl (z:=.slice none 0 0) (k:=1) (by_:=24) Tryz.underlying55 zBh rfl (by decide) (B:=W.heap.size) hE0.size rfl HCC.out rfl (fun e=>by cases e) (news:=[.slice xa n xc]) rfl (fun A' hA j u hu=>by cases hA;exact zCH HU.out hu) (fun u hu=>by rw [List.mem_singleton.1 hu];rfl) (by omega) (by omega) ?_;intro v9 x9 ho hg hnl hat;obtain⟨a9,c9,rfl⟩:=zAh ho;have HOW:=dH ho;have hEn:Ext W x9:=Below.grown hE0 hg hE0.size (fun r e=>(World.ownsRow.lt HCC.out r e).1);have HEN:=dH hEn;replace s0:=zA0 hEn (HP6.out.cell (i:=0) rfl);replace s1:=zA0 hEn (HP7.out.cell (i:=0) rfl);replace s2:=zA0 hEn (Kf.out.cell (i:=1) rfl);clear ho hg hnl hat hEn HCC HU;refine hK.out _ _ ?_ ?_
       ·exact⟨s0,s1,s2⟩
       clear hK K hHeld;intro hHeld
       (try simp only [Act.put,pus])
       refine tk (v:=?_) 8 rfl (by kernel_rfl) (fun _ _ _ h=>h) (by rfl) ?_ (by assumption) ?_;rotate_left
       ·(intro w hSw;(try dsimp only at hSw);(try go_simp);(try with_reducible rfl))
       (try simp only [Act.put,pus])
       refine wpAnyH_done (by kernel_rfl) ?_ _;refine NoPanic.normal ?_;go_wp2_with fail;go_meet;exact⟨_,_,rfl,by simp,rfl,HOW.out,HEN.out⟩
      exact AllReadyH.nil
     exact AllReadyH.nil
    refine AllReadyH.cons (o:=_) rfl (fun K hK=>?_) ?_
    ·go_simp;have hE:=Ext.alloc y0 (.cells #[.slice xa n xc] 23);(try replace HE0:=dH (HE0.out.ext hE));replace s0:=zA0 hE s0;replace s1:=zA0 hE s1;replace s2:=zA0 hE s2;have hE0:=hE0.trans hE;(try replace HCC:=dH (zAg HCC.out hE));(try replace HG:=kE HG hE);(try replace HU:=kE HU hE);have HU:=dH (Blk.new0 y0 #[.slice xa n xc] 23);clear hE;generalize Array.size (World.heap y0)=ku at *;generalize World.alloc y0 (.cells #[.slice xa n xc] 23)=y0 at *;refine hK.out _ _ ?_ ?_
     ·exact⟨s0,s1,s2⟩
     clear hK K hHeld;intro hHeld
     (try simp only [Act.put,pus])
     refine wpAnyH_ready (rs:=[3]) (by kernel_rfl) (by simp) ?_;refine AllReadyH.cons (o:=_) rfl (fun K hK=>?_) ?_
     ·go_simp
      (with_reducible refine(zGl (some ⟨ge,0,none⟩) (some ⟨gj,0,none⟩) m.length m.length n n _ _ kg _ (HS1.out.ext hE0) (HS2.out.ext hE0) HG.out (by omega) (by omega)).mono ?_);rintro e5 y5 ⟨v5,rfl,ho5,hE⟩;have hys:=hE0.size;have HCC:=dH (zDa ho5 hys);obtain⟨a5,c5,rfl⟩:=zAh ho5;(try replace HE0:=dH (HE0.out.ext hE));replace s0:=zA0 hE s0;replace s1:=zA0 hE s1;replace s2:=zA0 hE s2;have hE0:=hE0.trans hE;(try replace HG:=kE HG hE);(try replace HU:=kE HU hE);clear hE ho5 hys
      refine hK.out _ _ ?_ ?_
      ·exact⟨s0,s1,s2⟩
      clear hK K hHeld;intro hHeld
      (try simp only [Act.put,pus])
      refine wpAnyH_ready (rs:=[7]) (by kernel_rfl) (by simp) ?_;refine AllReadyH.cons (o:=_) rfl (fun K hK=>?_) ?_
      ·refine zAk rfl (.tmp 60) (.tmp 63) 55 23 rfl (z:=.slice none 0 0) (k:=1) (by_:=24) Tryz.underlying55 zBh rfl (by decide) (B:=W.heap.size) hE0.size rfl HCC.out rfl (fun e=>by cases e) (news:=[.slice xa n xc]) rfl (fun A' hA j u hu=>by cases hA;exact zCH HU.out hu) (fun u hu=>by rw [List.mem_singleton.1 hu];rfl) (by omega) (by omega) ?_;intro v9 x9 ho hg hnl hat;obtain⟨a9,c9,rfl⟩:=zAh ho;have HOW:=dH ho;have hEn:Ext W x9:=Below.grown hE0 hg hE0.size (fun r e=>(World.ownsRow.lt HCC.out r e).1);have HEN:=dH hEn;replace s0:=zA0 hEn (HP6.out.cell (i:=0) rfl);replace s1:=zA0 hEn (HP7.out.cell (i:=0) rfl);replace s2:=zA0 hEn (Kf.out.cell (i:=1) rfl);clear ho hg hnl hat hEn HCC HU;refine hK.out _ _ ?_ ?_
       ·exact⟨s0,s1,s2⟩
       clear hK K hHeld;intro hHeld
       (try simp only [Act.put,pus])
       refine tk (v:=?_) 8 rfl (by kernel_rfl) (fun _ _ _ h=>h) (by rfl) ?_ (by assumption) ?_;rotate_left
       ·(intro w hSw;(try dsimp only at hSw);(try go_simp);(try with_reducible rfl))
       (try simp only [Act.put,pus])
       refine wpAnyH_done (by kernel_rfl) ?_ _;refine NoPanic.normal ?_;go_wp2_with fail;go_meet;exact⟨_,_,rfl,by simp,rfl,HOW.out,HEN.out⟩
      exact AllReadyH.nil
     exact AllReadyH.nil
    exact AllReadyH.nil
   refine AllReadyH.cons (o:=_) rfl (fun K hK=>?_) ?_
   ·go_simp;have hE:=Ext.alloc y0 (.cells #[.slice xa n xc] 23);(try replace HE0:=dH (HE0.out.ext hE));replace s0:=zA0 hE s0;replace s1:=zA0 hE s1;replace s2:=zA0 hE s2;have hE0:=hE0.trans hE;(try replace HCC:=dH (zAg HCC.out hE));(try replace HG:=kE HG hE);(try replace HU:=kE HU hE);have HU:=dH (Blk.new0 y0 #[.slice xa n xc] 23);clear hE;generalize Array.size (World.heap y0)=ku at *;generalize World.alloc y0 (.cells #[.slice xa n xc] 23)=y0 at *;refine hK.out _ _ ?_ ?_
    ·exact⟨s0,s1,s2⟩
    clear hK K hHeld;intro hHeld
    (try simp only [Act.put,pus])
    refine wpAnyH_ready (rs:=[2]) (by kernel_rfl) (by simp) ?_;refine AllReadyH.cons (o:=_) rfl (fun K hK=>?_) ?_
    ·go_simp;have hE:=Ext.alloc y0 (.cells #[.slice (some ⟨ge,0,none⟩) m.length m.length,.slice (some ⟨gj,0,none⟩) n n] 55);(try replace HE0:=dH (HE0.out.ext hE));replace s0:=zA0 hE s0;replace s1:=zA0 hE s1;replace s2:=zA0 hE s2;have hE0:=hE0.trans hE;(try replace HCC:=dH (zAg HCC.out hE));(try replace HG:=kE HG hE);(try replace HU:=kE HU hE);have HG:=dH (Blk.new0 y0 #[.slice (some ⟨ge,0,none⟩) m.length m.length,.slice (some ⟨gj,0,none⟩) n n] 55);clear hE;generalize Array.size (World.heap y0)=kg at *;generalize World.alloc y0 (.cells #[.slice (some ⟨ge,0,none⟩) m.length m.length,.slice (some ⟨gj,0,none⟩) n n] 55)=y0 at *;refine hK.out _ _ ?_ ?_
     ·exact⟨s0,s1,s2⟩
     clear hK K hHeld;intro hHeld
     (try simp only [Act.put,pus])
     refine wpAnyH_ready (rs:=[3]) (by kernel_rfl) (by simp) ?_;refine AllReadyH.cons (o:=_) rfl (fun K hK=>?_) ?_
     ·go_simp
      (with_reducible refine(zGl (some ⟨ge,0,none⟩) (some ⟨gj,0,none⟩) m.length m.length n n _ _ kg _ (HS1.out.ext hE0) (HS2.out.ext hE0) HG.out (by omega) (by omega)).mono ?_);rintro e5 y5 ⟨v5,rfl,ho5,hE⟩;have hys:=hE0.size;have HCC:=dH (zDa ho5 hys);obtain⟨a5,c5,rfl⟩:=zAh ho5;(try replace HE0:=dH (HE0.out.ext hE));replace s0:=zA0 hE s0;replace s1:=zA0 hE s1;replace s2:=zA0 hE s2;have hE0:=hE0.trans hE;(try replace HG:=kE HG hE);(try replace HU:=kE HU hE);clear hE ho5 hys
      refine hK.out _ _ ?_ ?_
      ·exact⟨s0,s1,s2⟩
      clear hK K hHeld;intro hHeld
      (try simp only [Act.put,pus])
      refine wpAnyH_ready (rs:=[7]) (by kernel_rfl) (by simp) ?_;refine AllReadyH.cons (o:=_) rfl (fun K hK=>?_) ?_
      ·refine zAk rfl (.tmp 60) (.tmp 63) 55 23 rfl (z:=.slice none 0 0) (k:=1) (by_:=24) Tryz.underlying55 zBh rfl (by decide) (B:=W.heap.size) hE0.size rfl HCC.out rfl (fun e=>by cases e) (news:=[.slice xa n xc]) rfl (fun A' hA j u hu=>by cases hA;exact zCH HU.out hu) (fun u hu=>by rw [List.mem_singleton.1 hu];rfl) (by omega) (by omega) ?_;intro v9 x9 ho hg hnl hat;obtain⟨a9,c9,rfl⟩:=zAh ho;have HOW:=dH ho;have hEn:Ext W x9:=Below.grown hE0 hg hE0.size (fun r e=>(World.ownsRow.lt HCC.out r e).1);have HEN:=dH hEn;replace s0:=zA0 hEn (HP6.out.cell (i:=0) rfl);replace s1:=zA0 hEn (HP7.out.cell (i:=0) rfl);replace s2:=zA0 hEn (Kf.out.cell (i:=1) rfl);clear ho hg hnl hat hEn HCC HU;refine hK.out _ _ ?_ ?_
       ·exact⟨s0,s1,s2⟩
       clear hK K hHeld;intro hHeld
       (try simp only [Act.put,pus])
       refine tk (v:=?_) 8 rfl (by kernel_rfl) (fun _ _ _ h=>h) (by rfl) ?_ (by assumption) ?_;rotate_left
       ·(intro w hSw;(try dsimp only at hSw);(try go_simp);(try with_reducible rfl))
       (try simp only [Act.put,pus])
       refine wpAnyH_done (by kernel_rfl) ?_ _;refine NoPanic.normal ?_;go_wp2_with fail;go_meet;exact⟨_,_,rfl,by simp,rfl,HOW.out,HEN.out⟩
      exact AllReadyH.nil
     exact AllReadyH.nil
    exact AllReadyH.nil
   exact AllReadyH.nil
  case rest=>
  obtain⟨va,vc,rfl,rfl,rfl,how,hz⟩:=hcut;generalize wc=y1 at *;have HOW:=dH how;have HZ:=dH hz;have hN:m.length+n+1≤801:=by omega
  clear how hz;have HRX:Hid (RowR w xa xc n (zNV LX) (zAq LX)):=dH (HLX.out ▸ zLO HX.out HFP.out.2);go_wp2_with fail
  go_loopw [4,66] (fun s i wr=>∃q:Nat,q≤m.length+n+1∧i=.int .i64 q∧s=.bool (zKu m n (zAq LQ) (zAq LX) q)∧Ext y1 wr) (fun _ i _=>m.length+n+1 - (intOf i).toNat)
  case atStart=>exact⟨0,Nat.zero_le _,rfl,rfl,Ext.refl _⟩
  case round=>
   obtain⟨q,hq,rfl,rfl,hxr⟩:=hrel;generalize wr=z at *;have q0:(0:Int)≤(q:Int):=by omega
   by_cases hqn:q<m.length+n+1
   ·have q1:(q:Int)< (m.length:Int)+ (n:Int)+1:=by omega
    have hw1:IntKind.i64.wrap ((q:Int)+1)= (q:Int)+1:=IntWalk.i64_in _ (by omega);have hzE:Ext w z:=HWE.out.trans (HZ.out.trans hxr);obtain⟨ra,rn,rc,VR,f,hcell,hrow,hrl,hs1,hs2,hsum⟩:∃ (ra:Option Addr) (rn rc:Nat) (VR:Nat→RatC) (f:Nat→Rat),(((List.range m.length).map v ++ (List.range n).map fun k=>v (m.length+k)) ++ [.slice xa n xc])[q]? =some (.slice ra rn rc)∧RowR z ra rc rn VR f∧rn≤1024∧(∀k,k<rn→Sz (sq f k) 500)∧(∀k,k<rn→Sz (f k) 500)∧sq f rn=zIy m n (zAq LQ) (zAq LX) q:=by
     by_cases c1:q<m.length+n
     ·have ho:=(HF.out.row q c1).ext (HZ.out.trans hxr);obtain⟨l,hl⟩:∃l,rsF m.length (zBn m (zAq LQ) (zAq LX)) (knS m m.length 0) q=l:=⟨_,rfl⟩
      have hsz:=fun k=>rs_sz HOV.out HT.out HD.out he q k;have hsx:=fun k hk=>rs_sx HOV.out HT.out HD.out he q k hk;have hln:l.length≤1024:=by rw [←hl];exact zMp HT.out q
      rw [hl] at ho hsz hsx;have hkl:(Kc q).length=l.length:=ho.len;obtain⟨ra,rc,VR,ev,hrow⟩:=ho.reads (f:=fun c=>l.getD c 0) hkl (fun c _=>rfl);refine⟨ra,l.length,rc,VR,fun c=>l.getD c 0,?_,hrow,hln,fun k hk=>?_,fun k hk=>hsx k hk,?_⟩
      ·rw [←ev,List.getElem?_append_left (by simp;omega)];by_cases c2:q<m.length
       ·rw [List.getElem?_append_left (by simp;omega),List.getElem?_map,List.getElem?_range c2];rfl
       ·rw [List.getElem?_append_right (by simp;omega),List.length_map,List.length_range,List.getElem?_map,List.getElem?_range (by omega),Option.map_some,show m.length+ (q - m.length)=q by omega]
      ·rw [zDB l k (by omega)];exact hsz k
      ·rw [zDB l _ (Nat.le_refl _),List.take_length];unfold zIy;rw [if_pos c1,hl]
     ·have hqe:q=m.length+n:=by omega
      refine⟨xa,n,xc,zNV LX,zAq LX,?_,HRX.out.ext hzE,by omega,fun k hk=>zOl HOV.out h16 HD.out he k (by omega),fun k hk=>(HOV.out.x k hk).szE HOV.out.d0 HD.out (Nat.le_refl _) (by omega),?_⟩
      ·rw [List.getElem?_append_right (by simp;omega),hqe];simp
      ·unfold zIy;rw [if_neg c1]
    obtain⟨gv,rfl,hcl⟩:∃gv,va=some ⟨gv,0,none⟩∧z.cell? ⟨gv,q,none⟩=some (.slice ra rn rc):=by
     rcases HOW.out.2 with⟨e9,_⟩ | ⟨gv,cap9,cur,e9,_⟩
     ·cases e9
     ·have hh:=HOW.out;cases e9
      exact⟨gv,rfl,zA0 hxr ((World.ownsRow.cellAt hh q (by omega)).trans hcell)⟩
    have HSM:=dH (zE6 ra rc rn VR f 500 500 z hrow (by omega) hs1 hs2 (by omega));rw [hsum] at HSM;have HXR:=dH hxr;have HAS:=dH (zKv m n (zAq LQ) (zAq LX) q);clear hcell hrow hs1 hs2 hsum hxr hzE;obtain⟨rq,hrq⟩:∃rq,zIy m n (zAq LQ) (zAq LX) q=rq:=⟨_,rfl⟩
    rw [hrq] at HSM HAS;clear hrq;obtain⟨b0,hb0⟩:∃b0,zKu m n (zAq LQ) (zAq LX) q=b0:=⟨_,rfl⟩
    rw [hb0] at HAS ⊢;have HB0:=dH hb0;clear hb0;have rmx:rn≤9223372036854775807:=by omega
    go_wp2_with fail;refine HSM.out.mono ?_;rintro e' z1 ⟨v1,rfl,⟨n1,a1,q1',c1,b1,k1,d1,rfl,hv',hf',hg'⟩,hz⟩;have hl0:=hv'.num.len0;have hfl0:∀W,(Instr.field 38 (.agg #[.bool n1,.slice a1 q1' c1,.bool false,.slice b1 k1 d1]) 0).run Tryz.prog W=.ok (.agg #[.bool n1,.slice a1 q1' c1]) W:=fun _=>by kernel_rfl
    have hfl1:∀W,(Instr.field 36 (.agg #[.bool n1,.slice a1 q1' c1]) 1).run Tryz.prog W=.ok (.slice a1 q1' c1) W:=fun _=>by kernel_rfl
    have HXR2:=dH (HXR.out.trans hz);clear hz hcl hf' hg' HSM;by_cases hr0:rq=0
    ·have hq0:q1'=0:=hl0.2 (by rw [hr0];rfl);subst hq0;have HA1:Hid (zKu m n (zAq LQ) (zAq LX) (q+1)=b0):=dH (by rw [HAS.out,decide_eq_true hr0,Bool.and_true]);clear hv' hl0 hr0;go_wp2_with fail;go_roundw
     case rel=>exact⟨q+1,by omega,by go_num,by rw [HA1.out],HXR2.out⟩
     case measure=>simp [intOf];omega
    ·have hq0:0<q1':=by
      by_cases h9:q1'=0
      ·exact absurd (Rat.num_eq_zero.1 (hl0.1 h9)) hr0
      ·omega
     have hq0':(0:Int)< (q1':Int):=by omega
     have HA1:Hid (zKu m n (zAq LQ) (zAq LX) (q+1)=false):=dH (by rw [HAS.out,decide_eq_false hr0,Bool.and_false]);clear hv' hl0 hr0;go_wp2_with fail;go_roundw
     case rel=>exact⟨q+1,by omega,by go_num,by rw [HA1.out],HXR2.out⟩
     case measure=>simp [intOf];omega
   ·have q1:¬ (q:Int)< (m.length:Int)+ (n:Int)+1:=by omega
    obtain rfl:q=m.length+n+1:=by omega
    have HYZ:=dH (HZ.out.trans hxr);have HEZ:=dH (HWE.out.trans HYZ.out);have HIF:Hid (zKu m n (zAq LQ) (zAq LX) (m.length+n+1)=true↔(zAi m).Fits (zAq LQ) (zAq LX)):=dH (allS_iff.trans (zLP HT.out HN.out));clear hxr;obtain⟨bo,hbo⟩:∃bo,zKu m n (zAq LQ) (zAq LX) (m.length+n+1)=bo:=⟨_,rfl⟩
    rw [hbo] at HIF ⊢;clear hbo;replace Ke:=kE Ke HYZ.out;replace HDf:=dH (HYZ.out.others.same _ _ HDf.out rfl);obtain⟨g4,z4⟩:=bp1 Ke (.int .i64 0);have Ke3:=bs1 Ke (.int .i64 0);have HX3:=dH (HEZ.out.set (p:=⟨w.heap.size+1,0,none⟩) (by dsimp only;omega) (.int .i64 0));have HD3:=dH ((KeepsOthers.setCell z ⟨w.heap.size+1,0,none⟩ (.int .i64 0)).same _ _ HDf.out rfl);clear Ke HDf HEZ HYZ;go_wp2_with fail;generalize z.setCell ⟨w.heap.size+1,0,none⟩ (.int .i64 0)=y9 at *;refine⟨by simp,.inl ⟨D1,_,rfl,run_takeDeferred HD3.out,?_⟩⟩;have k1':=zGk HD3.out;have hX:Ext w (y9.putObj D1 (.deferred none)):=Below.trans HX3.out (belowK_b (n₀:=w.heap.size) (w:=w) (Nat.le_refl _) _ D1 _ _ (by omega) HD3.out rfl rfl);have e0:=bk1 (dH (k1'.blk Ke3.out));have HP9:=dH hX;clear hX HX3 k1';generalize y9.putObj D1 (.deferred none)=y10 at *;refine⟨by simp,.inr ⟨fun _=>by omega,_,_,52,#[.pointer (some ⟨w.heap.size+1,0,none⟩)],rfl,by simp [go_sem],fun _ _=>trivial,(zAK 4 _ _).mono ?_⟩⟩;rintro e u' w' ⟨rfl,rfl,rfl⟩;refine⟨.tuple #[.bool bo,.int .i64 0],?_,bo,rfl,HIF.out,HP9.out⟩;simp [results,Tryz.results19,go_sem,e0]
 case stop=>exact fun _ _ _ _ _ _ h=>h.elim
def CheckE (c:Int) (w:World) (e:Ending) (w':World):Prop:=e=.returned (.tuple #[.bool false,.int .i64 c])∧Ext w w'
end Go.Proofs.YtonkhcdmchidjaaGreat
