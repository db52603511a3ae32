import Derived.Test.YtonkhcdmchidjaaGreatU4
import Derived.Test.YtonkhcdmchidjaaGreatUG
import Derived.Test.YtonkhcdmchidjaaGreatU6
set_option maxHeartbeats 16000000
namespace Go.Proofs.YtonkhcdmchidjaaGreat
open Go.RowKit Go BigFrame Go.Shelf
set_option maxRecDepth 100000
set_option linter.all false
def zC0 (N:Nat) (V:Nat→RatC):List Value:=(List.range N).flatMap fun c=>(V c).cells
theorem zDP (N:Nat) (V:Nat→RatC):zC0 (N+1) V=zC0 N V ++ (V N).cells:=by unfold zC0;rw [List.range_succ,List.flatMap_append];simp
theorem zCs (N:Nat) (V:Nat→RatC):(zC0 N V).length=N*4:=by
 induction N with
 | zero=>rfl
 | succ N ih=>rw [zDP,List.length_append,ih];simp [RatC.cells];omega
theorem zGV (N:Nat) (V:Nat→RatC):∀u∈zC0 N V,u.oneCell'=true:=fun u hu=>by
 obtain⟨c,_,hc⟩:=List.mem_flatMap.1 hu;simp only [RatC.cells,List.mem_cons,List.not_mem_nil,or_false] at hc;rcases hc with rfl | rfl | rfl | rfl <;> rfl
theorem zGW {N:Nat} {V:Nat→RatC} {c:Nat} (h:c<N):(zC0 N V)[c*4]? =some (.bool (V c).n)∧(zC0 N V)[c*4+1]? =some (.slice (V c).a (V c).q (V c).c)∧(zC0 N V)[c*4+2]? =some (.bool (V c).m)∧(zC0 N V)[c*4+3]? =some (.slice (V c).b (V c).k (V c).d):=by
 induction N with
 | zero=>omega
 | succ N ih=>
  have hl:=zCs N V;rw [zDP];by_cases e:c=N
  ·subst e;rw [List.getElem?_append_right (by omega),List.getElem?_append_right (by omega),List.getElem?_append_right (by omega),List.getElem?_append_right (by omega),hl];simp [RatC.cells]
  ·rw [List.getElem?_append_left (by omega),List.getElem?_append_left (by omega),List.getElem?_append_left (by omega),List.getElem?_append_left (by omega)];exact ih (by omega)
structure RowR (w:World) (a:Option Addr) (cap N:Nat) (V:Nat→RatC) (f:Nat→Rat):Prop where
 le:N≤cap
 mx:cap≤9223372036854775807
 nil:a=none→cap=0
 cells:∀A,a=some A→∀c,c<N→A.spot=none∧w.cell? ⟨A.block,A.off+c*4,none⟩=some (.bool (V c).n)∧w.cell? ⟨A.block,A.off+c*4+1,none⟩=some (.slice (V c).a (V c).q (V c).c)∧
  w.cell? ⟨A.block,A.off+c*4+2,none⟩=some (.bool (V c).m)∧w.cell? ⟨A.block,A.off+c*4+3,none⟩=some (.slice (V c).b (V c).k (V c).d)
 val:∀c,c<N→RatV w (V c).val (f c)
section
variable {w w':World} {a:Option Addr} {cap N:Nat} {V:Nat→RatC} {f:Nat→Rat}
theorem RowR.ext (h:RowR w a cap N V f) (k:Ext w w'):RowR w' a cap N V f:=
 ⟨h.le,h.mx,h.nil,fun A hA c hc=>by
  obtain⟨h0,h1,h2,h3,h4⟩:=h.cells A hA c hc
  exact⟨h0,zA0 k h1,zA0 k h2,zA0 k h3,zA0 k h4⟩,fun c hc=>(h.val c hc).ext k⟩
theorem RowR.nil0 (h:RowR w a cap N V f):a=none→N=0∧cap=0:=fun e=>by have:=h.nil e;have:=h.le;omega
theorem RowR.news {A:Addr} (h:RowR w (some A) cap N V f):∀ (j:Nat) (u:Value),(zC0 N V)[j]? =some u→w.cell? (A.add j)=some u:=fun j u hu=>by
 have hj:j<N*4:=by have:=(List.getElem?_eq_some_iff.1 hu).1;rwa [zCs] at this
 have hc:j / 4<N:=by omega
 obtain⟨h0,h1,h2,h3,h4⟩:=h.cells A rfl (j / 4) hc;obtain⟨g1,g2,g3,g4⟩:=zGW (V:=V) hc;obtain⟨b,o,s⟩:=A;dsimp only at h0 h1 h2 h3 h4;subst h0;rw [Addr.add_off];have:j=j / 4*4∨j=j / 4*4+1∨j=j / 4*4+2∨j=j / 4*4+3:=by omega
 rcases this with e | e | e | e
 ·rw [←e] at g1 h1;rw [g1] at hu;rw [h1,←hu]
 ·rw [←e] at g2;rw [Nat.add_assoc,←e] at h2;rw [g2] at hu;rw [h2,←hu]
 ·rw [←e] at g3;rw [Nat.add_assoc,←e] at h3;rw [g3] at hu;rw [h3,←hu]
 ·rw [←e] at g4;rw [Nat.add_assoc,←e] at h4;rw [g4] at hu;rw [h4,←hu]
end
structure MatR (w:World) (a:Option Addr) (cap m N:Nat) (V:Nat→Nat→RatC) (M:Mx):Prop where
 le:m≤cap
 mx:cap≤9223372036854775807
 nil:a=none→cap=0
 cells:∀A,a=some A→∀r,r<m→A.spot=none∧∃a' c',w.cell? ⟨A.block,A.off+r,none⟩=some (.slice a' N c')∧RowR w a' c' N (V r) (M r)
section
variable {w w':World} {a:Option Addr} {cap m N:Nat} {V:Nat→Nat→RatC} {M:Mx}
theorem MatR.ext (h:MatR w a cap m N V M) (k:Ext w w'):MatR w' a cap m N V M:=
 ⟨h.le,h.mx,h.nil,fun A hA r hr=>by
  obtain⟨h0,a',c',h1,h2⟩:=h.cells A hA r hr
  exact⟨h0,a',c',zA0 k h1,h2.ext k⟩⟩
theorem MatR.head (h:MatR w a cap m N V M) {r:Nat} (hr:r<m):∃b o,a=some ⟨b,o,none⟩:=by
 cases a with
 | none=>have:=h.nil rfl;have:=h.le;omega
 | some A=>
  obtain⟨h0,_⟩:=h.cells A rfl r hr;obtain⟨b,o,s⟩:=A;dsimp only at h0;exact⟨b,o,by rw [h0]⟩
theorem MatR.val (h:MatR w a cap m N V M) {r c:Nat} (hr:r<m) (hc:c<N):RatV w (V r c).val (M r c):=by
 obtain⟨b,o,rfl⟩:=h.head hr;obtain⟨_,_,_,_,h2⟩:=h.cells _ rfl r hr;exact h2.val c hc
end
theorem ownEmpty {w:World} {b:Nat} {t:TypeId} {k B:Nat} (h:Blk w b #[] t) (hB:B≤b):w.ownsRow B t k (.slice (some ⟨b,0,none⟩) 0 0) 0 []:=
 ⟨by simp,.inr ⟨b,0,#[],rfl,hB,h,Nat.le_refl _,by unfold maxLen;omega,by simp,by simp⟩⟩
theorem zGX {w:World} {B:Nat} {t:TypeId} {k n:Nat} {v:Value} {xs:List Value} {b m:Nat} (h:w.ownsRow B t k v (0+n) xs) (hn:v=.slice none 0 0↔Value.slice (some ⟨b,0,none⟩) 0 0=.slice none 0 0∧m=0):
 ∃g cap,v=.slice (some ⟨g,0,none⟩) n cap∧B≤g∧n≤cap∧cap≤9223372036854775807:=by
 rw [Nat.zero_add] at h;rcases h.2 with⟨rfl,_⟩ | ⟨g,cap,cur,rfl,hb,_,h1,h2,_⟩
 ·exact absurd (hn.1 rfl).1 (by simp)
 ·exact⟨g,cap,rfl,hb,h1,by unfold maxLen at h2;exact h2⟩
theorem zAh {w:World} {B:Nat} {t:TypeId} {k n:Nat} {v:Value} {xs:List Value} (h:w.ownsRow B t k v n xs):∃a cap,v=.slice a n cap:=by
 rcases h.2 with⟨rfl,h0⟩ | ⟨g,cap,cur,rfl,_⟩
 ·exact⟨none,0,by rw [h0]⟩
 ·exact⟨_,_,rfl⟩
theorem zEK {w:World} {B:Nat} {g cap n N:Nat} {V:Nat→RatC} (h:w.ownsRow B 38 4 (.slice (some ⟨g,0,none⟩) N cap) n ([] ++ zC0 N V)):RowB w g N V:=by
 rcases h.2 with⟨e,_⟩ | ⟨g',cap',cur,e,hb,hg,h1,h2,h3,h4⟩
 ·cases e
 ·simp only [Value.slice.injEq,Option.some.injEq,Addr.mk.injEq,and_true,true_and] at e;obtain⟨rfl,rfl,rfl⟩:=e;refine⟨cur,hg,fun c hc=>?_⟩;obtain⟨g1,g2,g3,g4⟩:=zGW (V:=V) hc;have key:∀j u,(zC0 N V)[j]? =some u→cur[j]? =some u:=fun j u hu=>by
   rw [List.nil_append] at h4;rw [←h4,List.getElem?_take] at hu
   split at hu
   ·simpa using hu
   ·cases hu
  exact⟨key _ _ g1,key _ _ g2,key _ _ g3,key _ _ g4⟩
theorem zCH {w:World} {b:Nat} {v:Value} {t:TypeId} (h:Blk w b #[v] t) {j:Nat} {u:Value} (hu:[v][j]? =some u):w.cell? ((⟨b,0,none⟩:Addr).add j)=some u:=by
 rw [Addr.add_off];have:j=0:=by have:=(List.getElem?_eq_some_iff.1 hu).1;simp at this;exact this
 subst this;simp only [List.getElem?_cons_zero,Option.some.injEq] at hu;subst hu;exact h.cell rfl
structure Beg (w:World) (B p q N:Nat) (vr:Value) (g cp:Nat→Nat) (V:Nat→Nat→RatC):Prop where
 box:Blk w p #[.slice none 0 0,vr] 210
 own:w.ownsRow B 23 1 vr q ((List.range q).map fun r=>Value.slice (some ⟨g r,0,none⟩) N (cp r))
 row:∀r,r<q→RowB w (g r) N (V r)
 cap:∀r,r<q→N≤cp r∧cp r≤9223372036854775807
 inj:∀r s,r<q→s<q→g r=g s→r=s
 low:B≤p∧∀r,r<q→B≤g r
section
variable {w w':World} {B p q N:Nat} {vr:Value} {g cp:Nat→Nat} {V:Nat→Nat→RatC}
theorem Beg.ext (h:Beg w B p q N vr g cp V) (k:Ext w w'):Beg w' B p q N vr g cp V:=⟨h.box.ext k,zAg h.own k,fun r hr=>(h.row r hr).ext k,h.cap,h.inj,h.low⟩
theorem Beg.lt (h:Beg w B p q N vr g cp V):∀b,w.heap.size≤b→b≠p∧vr.ownBlock≠some b∧∀r,r<q→g r≠b:=fun b hb=>
 ⟨fun e=>by have:=h.box.lt;omega,fun e=>by have:=World.ownsRow.lt h.own b e;omega,fun r hr e=>by have:=(h.row r hr).lt;omega⟩
theorem Beg.grown (h:Beg w B p q N vr g cp V) {b:Nat} (hg:w.grownBy w' (some b)) (hb:b≠p∧vr.ownBlock≠some b∧∀r,r<q→g r≠b):Beg w' B p q N vr g cp V:=
 ⟨zA5 h.box hg fun e=>hb.1 (by injection e),zBs h.own hg (.inr hb.2.1),fun r hr=>(h.row r hr).grown hg fun e=>hb.2.2 r hr (by injection e with e;exact e.symm),h.cap,h.inj,h.low⟩
theorem Beg.push (h:Beg w B p q N vr g cp V) {vr':Value} {gq cq b0:Nat} (ho:w'.ownsRow B 23 1 vr' (q+1) (((List.range q).map fun r=>Value.slice (some ⟨g r,0,none⟩) N (cp r)) ++ [.slice (some ⟨gq,0,none⟩) N cq])) (hg:w.grownBy w' vr.ownBlock)
 (hR:RowB w gq N (V q)) (hlt:∀b,b0≤b→b≠p∧vr.ownBlock≠some b∧∀r,r<q→g r≠b) (hgq:b0≤gq) (hcq:N≤cq∧cq≤9223372036854775807) (hB:B≤b0):
 Beg (w'.setCell ⟨p,1,none⟩ vr') B p (q+1) N vr' (fun r=>if r=q then gq else g r) (fun r=>if r=q then cq else cp r) V:=by
 have hb1:=zA5 h.box hg (zAI h.own h.box (by decide));have hg2:=zAa w' p 1 vr';refine⟨hb1.set 1 vr',?_,fun r hr=>?_,fun r hr=>?_,fun r s hr hs e=>?_,h.low.1,fun r hr=>?_⟩
 ·have:=zBs ho hg2 (.inr (zAI ho hb1 (by decide)));rw [List.range_succ,List.map_append,List.map_singleton,if_pos rfl,if_pos rfl]
  rw [List.map_congr_left (g:=fun r=>Value.slice (some ⟨g r,0,none⟩) N (cp r)) fun r hr=>by
   have:=List.mem_range.1 hr
   rw [if_neg (by omega),if_neg (by omega)]]
  exact this
 ·have key:∀{x:Nat} {U:Nat→RatC},RowB w x N U→RowB (w'.setCell ⟨p,1,none⟩ vr') x N U:=fun {x U} hx=>by
   obtain⟨cs,k1,k2⟩:=id hx;have k3:=hx.grown hg (zAI h.own k1 (by decide));obtain⟨cs',k4,_⟩:=id k3;exact k3.grown hg2 fun e=>zAz hb1 k4 (by decide) (by injection e)
  by_cases e:r=q
  ·rw [if_pos e,e];exact key hR
  ·rw [if_neg e];exact key (h.row r (by omega))
 ·by_cases e:r=q
  ·rw [if_pos e];exact hcq
  ·rw [if_neg e];exact h.cap r (by omega)
 ·have hne:=(hlt gq hgq).2.2;by_cases e1:r=q
  ·by_cases e2:s=q
   ·omega
   ·rw [if_pos e1,if_neg e2] at e;exact absurd e.symm (hne s (by omega))
  ·by_cases e2:s=q
   ·rw [if_neg e1,if_pos e2] at e;exact absurd e (hne r (by omega))
   ·rw [if_neg e1,if_neg e2] at e;exact h.inj r s (by omega) (by omega) e
 ·by_cases e:r=q
  ·rw [if_pos e];omega
  ·rw [if_neg e];exact h.low.2 r (by omega)
theorem Beg.sys {m:Nat} (h:Beg w B p m N vr g cp V) {w0:World} {M:Mx} (hB:B=w0.heap.size) (hE:Ext w0 w) (hv:∀r,r<m→∀c,c<N→RatV w0 (V r c).val (M r c)):∃ra R rc,Sys w B p m N ra R rc g cp V M (.slice none 0 0) []:=by
 subst hB;have hoff:∀r,r<m→∀c,c<N→∀b,w0.heap.size≤b→(V r c).Off (some b):=fun r hr c hc b hb=>
  ⟨fun hq A hA e=>by have:=(hv r hr c hc).num.lt hq A hA;simp only [Option.some.injEq] at e;omega,fun hq A hA e=>by have:=(hv r hr c hc).den.lt hq A hA;simp only [Option.some.injEq] at e;omega⟩
 have hnil:∀r,r<m→∀c,c<N→(V r c).Off (Value.slice none 0 0).ownBlock:=fun r hr c hc=>⟨fun _ _ _ e=>(by cases e),fun _ _ _ e=>(by cases e)⟩
 rcases h.own.2 with⟨rfl,rfl⟩ | ⟨R,rc,cur,rfl,hb,hg,h1,h2,h3,h4⟩
 ·exact⟨none,0,0,h.box,fun h=>by omega,⟨by omega,by omega⟩,fun h=>by omega,h.row,h.cap,h.inj,fun r hr=>by omega,fun r hr=>by omega,fun r hr=>by omega,World.ownsRow_nil _ _ _ _,fun b hb=>by
   rcases hb with rfl | ⟨h0,_⟩ | ⟨r,hr,_⟩
   ·exact h.low.1
   ·omega
   ·omega⟩
 ·have hlow:∀b,zFy p m R g b→w0.heap.size≤b:=fun b hb'=>by
   rcases hb' with rfl | ⟨h0,rfl⟩ | ⟨r,hr,rfl⟩
   ·exact h.low.1
   ·exact hb
   ·exact h.low.2 r hr
  exact⟨some ⟨R,0,none⟩,R,rc,h.box,fun _=>rfl,⟨h1,by unfold maxLen at h2;exact h2⟩,fun _=>⟨cur,hg,fun r hr=>by
   have e1:((List.range m).map fun r=>Value.slice (some ⟨g r,0,none⟩) N (cp r))[r]? =some (.slice (some ⟨g r,0,none⟩) N (cp r)):=by
    rw [List.getElem?_map,List.getElem?_range hr];rfl
   rw [←h4,List.getElem?_take] at e1
   split at e1
   ·simpa using e1
   ·cases e1⟩,h.row,h.cap,h.inj,fun r hr c hc=>(hv r hr c hc).ext hE,fun r hr c hc b hb'=>hoff r hr c hc b (hlow b hb'),hnil,World.ownsRow_nil _ _ _ _,hlow⟩
end
def BegP (m N:Nat) (V:Nat→Nat→RatC) (M:Mx) (w:World) (e:Ending) (w':World):Prop:=∃p ra R rc g cp,e=.returned (.pointer (some ⟨p,0,none⟩))∧Sys w' w.heap.size p m N ra R rc g cp V M (.slice none 0 0) []∧Ext w w'
theorem zGY (a:Option Addr) (cap m N:Nat) (V:Nat→Nat→RatC) (M:Mx) (w:World) (h:MatR w a cap m N V M) (hm:m≤100) (hN:N≤100):
 Calls Tryz.prog 177 #[.slice a m cap] w (BegP m N V M w):=by
 have hle:=h.le;have hmx:=h.mx;have HH:=dH h;clear h;go_enter Tryz.func177,Tryz.ntmps177;have hx:=Ext.alloc w (.cells #[.slice none 0 0,.slice none 0 0] 210);have hbx:=Blk.new0 w #[.slice none 0 0,.slice none 0 0] 210;go_upto_region 2 with fail;have HX:=dH hx;have hb:Beg (w.alloc (.cells #[.slice none 0 0,.slice none 0 0] 210)) w.heap.size w.heap.size 0 N (.slice none 0 0) (fun _=>0) (fun _=>0) V:=⟨hbx,World.ownsRow_nil _ _ _ _,fun r hr=>by omega,fun r hr=>by omega,fun r s hr=>by omega,Nat.le_refl _,fun r hr=>by omega⟩
 have HBG0:=dH hb;clear hx hbx hb;generalize w.alloc (.cells #[.slice none 0 0,.slice none 0 0] 210)=x1 at *;go_wp2_with fail
 go_loopw [10] (fun v wr=>∃q:Nat,q≤m∧v=.int .i64 q∧(∃vr g cp,Beg wr w.heap.size w.heap.size q N vr g cp V)∧Ext w wr) (fun v _=>m - (intOf v).toNat)
 case atStart=>exact⟨0,Nat.zero_le _,rfl,⟨_,_,_,HBG0.out⟩,HX.out⟩
 case round=>
  obtain⟨q,hq,rfl,⟨vr,g,cp,hb⟩,hE⟩:=hrel;have q0':(0:Int)≤(q:Int):=by omega
  by_cases hqm:q<m
  ·have q1':(q:Int)< (m:Int):=by omega
   have hw1:IntKind.i64.wrap ((q:Int)+1)= (q:Int)+1:=IntWalk.i64_in _ (by omega);obtain⟨b,o,rfl⟩:=HH.out.head hqm;obtain⟨_,ar,cr,hcr,hRR⟩:=(HH.out.ext hE).cells _ rfl q hqm;obtain⟨_,ar',cr',hcr',hRR'⟩:=HH.out.cells _ rfl q hqm;dsimp only at hcr hcr';have e0:=zA0 hE hcr';rw [hcr] at e0;simp only [Option.some.injEq,Value.slice.injEq,true_and] at e0;obtain⟨rfl,rfl⟩:=e0;obtain⟨av,cv,rfl⟩:=zAh hb.own;have HBG:=dH hb;have HE:=dH hE;have HRR:=dH hRR';clear hb hE hRR hRR' hcr';go_upto_region 5 with fail;have hyd:Ext wr (World.drew wr):=(Ext.refl _).drew;replace HBG:=dH (HBG.out.ext hyd);replace HE:=dH (HE.out.trans hyd);have t1:World.cell? (World.drew wr) ⟨w.heap.size,1,none⟩=some (.slice av q cv):=HBG.out.box.cell rfl;clear hyd hcr;refine wp_region_held_drew (S:=(fun _=>True)) (by kernel_rfl) ?_ (fun hHeld=>?_)
   ·trivial
   (try simp only [pur,Nat.reduceAdd])
   generalize World.drew wr=x3 at *
   iterate 5
    refine tkR [0,1,2,3,6] (v:=?_) rfl rfl (by kernel_rfl) (fun _ _ _ h=>h) (by rfl) ?_ (by assumption) ?_;rotate_left
    ·(intro w hSw;(try dsimp only at hSw);(try go_simp);(try with_reducible rfl))
    (try simp only [Act.put,pus])
   repeat' first
    | (refine tkR [10,11] (v:=?_) rfl rfl (by decide +kernel) (fun _ _ _ h=>h) (by rfl) ?_ (by assumption) ?_
       rotate_left
       ·(intro w hSw;(try dsimp only at hSw);(try go_simp);(try with_reducible rfl))
       (try simp only [Act.put,pus]))
    | (refine wpAnyH_done (by decide +kernel) ?_ _
       go_wp2_with fail;go_roundw
       case rel=>exact⟨q+1,by omega,by go_num,⟨_,_,_,HB9.out⟩,HE.out⟩
       case measure=>simp [intOf];omega)
    | (refine rdR [4,5,7,8,9,12] (by decide +kernel) (zAt ?_ (zAt ?_ (zAt ?_ (zAt ?_ (zAt ?_ (zAt ?_ zFw))))))
       first
       | exact noR (by decide +kernel)
       | (refine isR (o:=_) rfl (fun K hK=>?_)
          go_simp
          rotate_left)
       first
       | exact noR (by decide +kernel)
       | (refine isR (o:=_) rfl (fun K hK=>?_)
          go_simp;have hy:=Ext.alloc x3 (.cells #[] 38);have hb0l:=HBG.out.lt;replace HBG:=dH (HBG.out.ext hy);have HWB:=dH HE.out.size;replace HE:=dH (Ext.trans HE.out hy);have K0:=dH (Blk.new0 x3 #[] 38);have HL0:=dH hb0l;replace t1:=zA0 hy t1;clear hy hb0l;generalize World.alloc x3 (.cells #[] 38)=xa at *;generalize Array.size (World.heap x3)=b0 at *
          rotate_left)
       first
       | exact noR (by decide +kernel)
       | (refine isR (o:=_) rfl (fun K hK=>?_)
          refine zAk rfl (.tmp 19) (.tmp 20) 23 38 rfl (z:=.agg #[.bool false,.slice none 0 0,.bool false,.slice none 0 0]) (k:=4) (by_:=64) Tryz.underlying23 zDs rfl (by decide) (B:=b0) (by have:=K0.out.lt;omega) rfl (ownEmpty K0.out (Nat.le_refl _)) rfl HRR.out.nil0 (zCs N (V q)) (fun A hA=>by cases hA;exact(HRR.out.ext HE.out).news) (zGV N (V q)) (by omega) (by omega) ?_;intro v7 x7 ho hg hnl hat;obtain⟨gq,cq,rfl,hgq,hcq,hcm⟩:=zGX ho hnl;have HR7:=dH (zEK ho);replace HBG:=dH (HBG.out.grown hg (HL0.out b0 (Nat.le_refl _)));replace HE:=dH (Below.grown HE.out hg HE.out.size (fun r e=>by cases e;exact HWB.out));replace t1:x7.cell? ⟨w.heap.size,1,none⟩=some (.slice av q cv):=HBG.out.box.cell rfl;have HGQ:=dH hgq;have HCQ:=dH (And.intro hcq hcm);clear ho hg hnl hat hgq hcq hcm K0
          rotate_left)
       first
       | exact noR (by decide +kernel)
       | (refine isR (o:=_) rfl (fun K hK=>?_)
          go_simp;have hy:=Ext.alloc x7 (.cells #[.slice (some ⟨gq,0,none⟩) N cq] 23);replace HBG:=dH (HBG.out.ext hy);replace HE:=dH (Ext.trans HE.out hy);replace HR7:=dH (HR7.out.ext hy);have K1:=dH (Blk.new0 x7 #[.slice (some ⟨gq,0,none⟩) N cq] 23);replace t1:=zA0 hy t1;clear hy;generalize World.alloc x7 (.cells #[.slice (some ⟨gq,0,none⟩) N cq] 23)=x8 at *;generalize Array.size (World.heap x7)=b1 at *
          rotate_left)
       first
       | exact noR (by decide +kernel)
       | (refine isR (o:=_) rfl (fun K hK=>?_)
          refine zAk rfl (.tmp 18) (.tmp 22) 55 23 rfl (z:=.slice none 0 0) (k:=1) (by_:=24) Tryz.underlying55 zBh rfl (by decide) (B:=w.heap.size) HE.out.size rfl HBG.out.own rfl (fun e=>by cases e) (news:=[.slice (some ⟨gq,0,none⟩) N cq]) rfl (fun A hA j u hu=>by cases hA;exact zCH K1.out hu) (fun u hu=>by rw [List.mem_singleton.1 hu];rfl) (by omega) (by omega) ?_;intro v9 x9 ho hg hnl hat;obtain⟨a9,c9,rfl⟩:=zAh ho;have HB9:=dH (HBG.out.push ho hg HR7.out HL0.out HGQ.out HCQ.out HWB.out);replace HE:=dH (Below.grown HE.out hg HE.out.size (fun r e=>(World.ownsRow.lt HBG.out.own r e).1));have HP9:=dH (zA5 HBG.out.box hg (zAI HBG.out.own HBG.out.box (by decide)));clear ho hg hnl hat HBG HR7 K1 t1
          rotate_left)
       first
       | exact noR (by decide +kernel)
       | (refine isR (o:=_) rfl (fun K hK=>?_)
          have p0:=HP9.out.cell (i:=1) rfl;have p1:=HP9.out.free 1;go_simp;clear p0 p1;replace HE:=dH (Ext.set HE.out (p:=⟨w.heap.size,1,none⟩) (Nat.le_refl _) (.slice a9 (q+1) c9))
          rotate_left)
       all_goals (
        refine hK.out _ _ ?_ ?_
        ·trivial
        clear hK K hHeld;intro hHeld
        (try simp only [Act.put,pus])))
  ·have q1':¬ (q:Int)< (m:Int):=by omega
   obtain rfl:q=m:=by omega
   obtain⟨ra,R,rc,hs⟩:=hb.sys rfl hE (fun r hr c hc=>HH.out.val hr hc);have HS:=dH hs;have HE:=dH hE;clear hb hE hs;go_wp2_with fail;go_ret;exact⟨_,_,_,_,_,_,rfl,HS.out,HE.out⟩
attribute [local go_sem] Oper.semAt_some
def okB (m n:Nat) (s:StX):Bool:=(List.range m).all fun r=>decide (r<s.ps.length) || decide (s.M r n=0)
theorem zHR {m n:Nat} {s:StX}:okB m n s=true↔OkX m n s:=by
 unfold okB OkX;rw [List.all_eq_true]
 constructor
 ·intro h r h1 h2;have:=h r (List.mem_range.2 h2);simp only [Bool.or_eq_true,decide_eq_true_eq] at this;exact this.resolve_left (by omega)
 ·intro h r hr;simp only [Bool.or_eq_true,decide_eq_true_eq];by_cases h1:r<s.ps.length
  ·exact .inl h1
  ·exact .inr (h r (by omega) (List.mem_range.1 hr))
def SolP (m n:Nat) (A:Mx) (w:World) (e:Ending) (w':World):Prop:=∃ (a:Option Addr) (cap:Nat) (V:Nat→RatC),e=.returned (.tuple #[.slice a (if okB m n (zAe m A n) then n else 0) cap,.bool (okB m n (zAe m A n))])∧
 RowR w' a cap (if okB m n (zAe m A n) then n else 0) V (zJo n (zAe m A n))∧Ext w w'
theorem RowR.nil' (w:World) (V:Nat→RatC) (f:Nat→Rat):RowR w none 0 0 V f:=⟨by omega,by omega,fun _=>rfl,fun A h=>(by cases h),fun c h=>(by omega)⟩
theorem Sys.pivot {w:World} {B p m N:Nat} {ra:Option Addr} {R rc:Nat} {g cp:Nat→Nat} {V:Nat→Nat→RatC} {M:Mx} {va:Value} {ps:List Nat} (h:Sys w B p m N ra R rc g cp V M va ps) {i k:Nat} (hi:ps[i]? =some k):
 ∃b cv,va=.slice (some ⟨b,0,none⟩) ps.length cv∧w.cell? ⟨b,i,none⟩=some (.int .i64 k):=by
 have hl:i<ps.length:=(List.getElem?_eq_some_iff.1 hi).1;rcases h.atl.2 with⟨_,h0⟩ | ⟨b,cv,cur,rfl,_⟩
 ·omega
 ·refine⟨b,cv,rfl,?_⟩;have:=World.ownsRow.cellAt h.atl i (by omega);rw [List.getElem?_map,hi] at this;exact this
structure Fill (w:World) (g N:Nat) (V:Nat→RatC) (f:Nat→Rat):Prop where
 row:RowB w g N V
 val:∀c,c<N→RatV w (V c).val (f c)
 off:∀c,c<N→(V c).Off (some g)
theorem Fill.put {w:World} {g N k:Nat} {V:Nat→RatC} {f:Nat→Rat} (h:Fill w g N V f) (hk:k<N) {x:RatC} {q:Rat} (hx:RatV w x.val q) (ho:x.Off (some g)):
 Fill (zJ0 w g k x) g N (fun c=>if c=k then x else V c) (fun c=>if c=k then q else f c):=by
 have hg:=zEE w g k x;refine⟨(h.row.put hk x).2,fun c hc=>?_,fun c hc=>?_⟩
 ·by_cases e:c=k
  ·rw [if_pos e,if_pos e];exact hx.grown hg ho
  ·rw [if_neg e,if_neg e];exact(h.val c hc).grown hg (h.off c hc)
 ·by_cases e:c=k
  ·rw [if_pos e];exact ho
  ·rw [if_neg e];exact h.off c hc
theorem Fill.ext {w w':World} {g N:Nat} {V:Nat→RatC} {f:Nat→Rat} (h:Fill w g N V f) (k:Ext w w'):Fill w' g N V f:=⟨h.row.ext k,fun c hc=>(h.val c hc).ext k,h.off⟩
theorem Fill.read {w:World} {g N cap:Nat} {V:Nat→RatC} {f f':Nat→Rat} (h:Fill w g N V f) (hc:N≤cap∧cap≤9223372036854775807) (hf:∀c,c<N→f c=f' c):RowR w (some ⟨g,0,none⟩) cap N V f':=
 ⟨hc.1,hc.2,fun e=>(by cases e),fun A hA c hcN=>by
  cases hA
  obtain⟨h0,h1,h2,h3⟩:=h.row.cells hcN;simp only [Nat.zero_add]
  exact⟨trivial,h0,h1,h2,h3⟩,fun c hcN=>by rw [←hf c hcN];exact h.val c hcN⟩
theorem OwnRats.fill {w:World} {B:Nat} {v:Value} {L:List RatC} {rs:List Rat} (h:OwnRats w B v L rs) (hl:0<L.length):∃g cap,v=.slice (some ⟨g,0,none⟩) L.length cap∧B≤g∧L.length≤cap∧cap≤9223372036854775807∧Fill w g L.length (fun c=>L.getD c ⟨false,none,0,0,false,none,0,0⟩) (fun c=>rs.getD c 0):=by
 have hcell:=h.own;rcases h.own.2 with⟨rfl,h0⟩ | ⟨g,cap,cur,rfl,hb,hg,h1,h2,h3,h4⟩
 ·omega
 ·have hgd:∀c (hc:c<L.length),L.getD c ⟨false,none,0,0,false,none,0,0⟩=L[c]:=fun c hc=>by rw [List.getD_eq_getElem?_getD,List.getElem?_eq_getElem hc];rfl
  refine⟨g,cap,rfl,hb,h1,by unfold maxLen at h2;exact h2,⟨cur,hg,fun c hc=>?_⟩,fun c hc=>?_,fun c hc=>?_⟩
  ·obtain⟨e1,e2,e3,e4⟩:=zGP L c hc;have key:∀j u,(L.flatMap RatC.cells)[j]? =some u→cur[j]? =some u:=fun j u hu=>by
    rw [←h4,List.getElem?_take] at hu
    split at hu
    ·simpa using hu
    ·cases hu
   show zJM cur c (L.getD c ⟨false,none,0,0,false,none,0,0⟩);rw [hgd c hc];unfold zJM;rw [Nat.mul_comm c 4];exact⟨key _ _ e1,key _ _ e2,key _ _ e3,key _ _ e4⟩
  ·rw [hgd c hc];exact h.val c hc
  ·rw [hgd c hc];exact h.apart _ (List.getElem_mem hc)
theorem zLo {m n i k c:Nat} {A:Mx} {s:StX} {f:Nat→Rat} (h:zMb m A n s) (hk:s.ps[i]? =some k) (hf:f c=if c∈s.ps.take i then s.M (s.ps.idxOf c) n else 0):
 (if c=k then s.M i n else f c)=if c∈s.ps.take (i+1) then s.M (s.ps.idxOf c) n else 0:=by
 obtain⟨hi,rfl⟩:=List.getElem?_eq_some_iff.1 hk;have e1:s.ps.take (i+1)=s.ps.take i ++ [s.ps[i]]:=by rw [List.take_add_one,List.getElem?_eq_getElem hi];rfl
 rw [e1,hf];by_cases h1:c=s.ps[i]
 ·rw [if_pos h1,h1,if_pos (List.mem_append_right _ (List.mem_singleton.2 rfl)),zMc h hi]
 ·rw [if_neg h1];by_cases h2:c∈s.ps.take i
  ·rw [if_pos h2,if_pos (List.mem_append_left _ h2)]
  ·rw [if_neg h2,if_neg fun h3=>(List.mem_append.1 h3).elim h2 fun h4=>h1 (List.mem_singleton.1 h4)]
theorem zGZ (a:Option Addr) (cap m n:Nat) (V:Nat→Nat→RatC) (A:Mx) (e:Nat) (w:World) (h:MatR w a cap m (n+1) V A) (hcd:CdX m (n+1) e A) (hn:n≤90) (hm:m≤90) (he:2 ^ n* (e+1)≤40920):
 Calls Tryz.prog 124 #[.slice a m cap,.int .i64 n] w (SolP m n A w):=by
 have hle:=h.le;have hmx:=h.mx;have HB:=dH (zGY a cap m (n+1) V A w h (by omega) (by omega));have HCD:=dH hcd;clear h hcd;go_enter Tryz.func124,Tryz.ntmps124;go_wp2_with fail;refine HB.out.mono ?_;rintro e1 x1 ⟨p,ra,R,rc,g,cp,rfl,hs,hy⟩;have HS:=dH hs;have HX:=dH hy;clear hs hy HB;go_wp2_with fail;refine(zG8 w.heap.size p m (n+1) ra R rc g cp V A _ n e x1 HS.out HCD.out (by omega) (by omega) (by omega) he HX.out.size).mono ?_;rintro e2 x2 ⟨⟨v2,rfl⟩,⟨g2,cp2,V2,va2,hs2⟩,hb2⟩;have HX2:Hid (Ext w x2):=dH (Below.trans HX.out hb2);have hech:=zAQ m A n;have HECH:=dH hech;have hdm:=hech.le;have hdn:=(zHN m n A).2;obtain⟨d,hd⟩:∃d,(zAe m A n).ps.length=d:=⟨_,rfl⟩
 have HD:=dH hd;obtain⟨av,cv,hva⟩:=zHP hs2.atl;subst hva;rw [hd] at hs2 hdm hdn;have HS2:=dH hs2;have hrc:=hs2.hrc;clear hs2 hb2 hech hd HS HX;go_upto_region 3 with fail;have hS3:=HS2.out.ext (Ext.refl x2).drew;have HS3:=dH hS3;have s0:World.cell? (World.drew x2) ⟨p,0,none⟩=some (.slice av d cv):=hS3.box.cell rfl;have s1:World.cell? (World.drew x2) ⟨p,1,none⟩=some (.slice ra m rc):=hS3.box.cell rfl;have hE3:Ext x2 (World.drew x2):=(Ext.refl _).drew;clear hS3;have z0:(0:Int)≤(d:Int):=by omega
 have z1:(d:Int)≤(m:Int):=by omega
 have z2:(d:Int)≤(rc:Int):=by omega
 have z3:(m:Int) - (d:Int)= ((m - d:Nat):Int):=by omega
 go_cut [24,25,26] (fun s24 s25 s26 wx=>∃ (a24:Option Addr) (c24:Nat),s24=.slice a24 (m - d) c24∧s25=.int .i64 ((m - d:Nat):Int)∧s26=.int .i64 0∧(0<m - d→a24=some ⟨R,d,none⟩)∧(m - d≤c24∧c24≤9223372036854775807)∧Ext x2 wx)
 case first=>
  by_cases hk:d=rc
  ·subst hk;refine wp_region_held_drew (S:=(fun w'=>w'.cell? ⟨p,0,none⟩=some (.slice av d cv)∧w'.cell? ⟨p,1,none⟩=some (.slice ra m d))) (by kernel_rfl) ?_ (fun hHeld=>?_)
   ·exact⟨s0,s1⟩
   (try simp only [pur,Nat.reduceAdd])
   generalize World.drew x2=x3 at *
   iterate 8
    refine tkR [0,1,2,3,4,5,6,10] (v:=?_) rfl rfl (by kernel_rfl) (fun _ _ _ h=>h) (by rfl) ?_ (by assumption) ?_;rotate_left
    ·(intro w hSw;(try dsimp only at hSw);(try go_simp);(try with_reducible rfl))
    (try simp only [Act.put,pus])
   refine wpAnyH_ready (rs:=[7]) (by kernel_rfl) (by simp) ?_;refine AllReadyH.cons (o:=_) rfl (fun K hK=>?_) ?_
   ·go_simp
    (with_reducible refine(zCb p av d cv _ s0).mono ?_);rintro e9 y1 ⟨rfl,rfl⟩
    refine hK.out _ _ ?_ ?_
    ·exact⟨s0,s1⟩
    clear hK K hHeld;intro hHeld
    (try simp only [Act.put,pus])
    iterate 2
     refine tkR [8,9] (v:=?_) rfl rfl (by kernel_rfl) (fun _ _ _ h=>h) (by rfl) ?_ (by assumption) ?_;rotate_left
     ·(intro w hSw;(try dsimp only at hSw);(try go_simp);(try with_reducible rfl))
     (try simp only [Act.put,pus])
    refine wpAnyH_done (by kernel_rfl) ?_ _;go_wp2_with fail;go_meet;have hmd:m - d=0:=by omega
    exact⟨_,_,by rw [hmd],by rw [hmd];rfl,rfl,fun h=>(by omega),⟨by omega,by omega⟩,hE3⟩
   exact AllReadyH.nil
  ·have hk2:¬ (rc:Int)= (d:Int):=by omega
   have hk3:¬rc=d:=by omega
   refine wp_region_held_drew (S:=(fun w'=>w'.cell? ⟨p,0,none⟩=some (.slice av d cv)∧w'.cell? ⟨p,1,none⟩=some (.slice ra m rc))) (by kernel_rfl) ?_ (fun hHeld=>?_)
   ·exact⟨s0,s1⟩
   (try simp only [pur,Nat.reduceAdd])
   generalize World.drew x2=x3 at *
   iterate 8
    refine tkR [0,1,2,3,4,5,6,10] (v:=?_) rfl rfl (by kernel_rfl) (fun _ _ _ h=>h) (by rfl) ?_ (by assumption) ?_;rotate_left
    ·(intro w hSw;(try dsimp only at hSw);(try go_simp);(try with_reducible rfl))
    (try simp only [Act.put,pus])
   refine wpAnyH_ready (rs:=[7]) (by kernel_rfl) (by simp) ?_;refine AllReadyH.cons (o:=_) rfl (fun K hK=>?_) ?_
   ·go_simp
    (with_reducible refine(zCb p av d cv _ s0).mono ?_);rintro e9 y1 ⟨rfl,rfl⟩
    refine hK.out _ _ ?_ ?_
    ·exact⟨s0,s1⟩
    clear hK K hHeld;intro hHeld
    (try simp only [Act.put,pus])
    iterate 2
     refine tkR [8,9] (v:=?_) rfl rfl (by kernel_rfl) (fun _ _ _ h=>h) (by rfl) ?_ (by assumption) ?_;rotate_left
     ·(intro w hSw;(try dsimp only at hSw);(try go_simp);(try with_reducible rfl))
     (try simp only [Act.put,pus])
    refine wpAnyH_done (by kernel_rfl) ?_ _;go_wp2_with fail;go_meet;exact⟨_,_,rfl,rfl,rfl,fun h=>(by rw [HS3.out.hra (by omega),Option.map_some,Addr.add_off,Nat.zero_add]),⟨by omega,by omega⟩,hE3⟩
   exact AllReadyH.nil
 case rest=>
  obtain⟨a24,c24,rfl,rfl,rfl,ha24,hc24,hy⟩:=hcut;have HY:=dH hy;have HA:=dH ha24;clear hy ha24 hE3 s0 s1 HS3 z3;go_wp2_with fail
  go_loopw [4,26] (fun s v wr=>∃q:Nat,q≤m - d∧s=.slice none 0 0∧v=.int .i64 q∧(∀r,r<q→(zAe m A n).M (d+r) n=0)∧Ext x2 wr) (fun _ v _=>(m - d) - (intOf v).toNat)
  case atStart=>exact⟨0,Nat.zero_le _,rfl,rfl,fun r hr=>by omega,HY.out⟩
  case round=>
   obtain⟨q,hq,rfl,rfl,hal,hxr⟩:=hrel;have q0:(0:Int)≤(q:Int):=by omega
   by_cases hqm:q<m - d
   ·have q1:(q:Int)< ((m - d:Nat):Int):=by omega
    have hw1:IntKind.i64.wrap ((q:Int)+1)= (q:Int)+1:=IntWalk.i64_in _ (by omega);obtain rfl:=HA.out (by omega);have hs:=HS2.out.ext hxr;have hdq:d+q<m:=by omega
    have c0:=hs.top hdq;have hcp:=hs.cap (d+q) hdq;have n0:(0:Int)≤(n:Int):=by omega
    have n1:(n:Int)< ((n+1:Nat):Int):=by omega
    obtain⟨e0,e1,e2,e3⟩:=(hs.row (d+q) hdq).cells (c:=n) (by omega);have hv:=hs.val (d+q) hdq n (by omega);generalize hx:V2 (d+q) n=x at *;obtain⟨nx,ax,qx,cx,mx,bx,kx,dx⟩:=x;dsimp only [RatC.val] at e0 e1 e2 e3 hv;have HV:=dH hv;have HXR:=dH hxr;have HAL:=dH hal;clear hs hv hx hxr hal;go_wp2_with fail;refine(zEF nx mx ax bx qx cx kx dx _ _ HV.out).mono ?_;rintro e9 y1 ⟨rfl,hy⟩;have HX4:=dH (HXR.out.trans hy);clear hy e0 e1 e2 e3 c0 HV;by_cases hz:(zAe m A n).M (d+q) n=0
    ·rw [decide_eq_true hz];have HZ:=dH hz;clear hz;go_wp2_with fail;go_roundw
     case rel=>exact⟨q+1,by omega,rfl,by go_num,fun r hr=>(by
      by_cases e:r=q
      ·rw [e];exact HZ.out
      ·exact HAL.out r (by omega)),HX4.out⟩
     case measure=>simp [intOf];omega
    ·rw [decide_eq_false hz];have hok:okB m n (zAe m A n)=false:=by
      cases hb:okB m n (zAe m A n)
      ·rfl
      ·exact absurd (zHR.1 hb (d+q) (by rw [HD.out];omega) hdq) hz
     have HOK:Hid (SolP m n A w (.returned (.tuple #[.slice none 0 0,.bool false])) y1):=dH ⟨none,0,fun _=>⟨false,none,0,0,false,none,0,0⟩,by rw [hok];rfl,by rw [hok];exact RowR.nil' _ _ _,HX2.out.trans HX4.out⟩;clear hz hok;go_wp2_with fail
     go_ret2
     exact HOK.out
   ·have q1:¬ (q:Int)< ((m - d:Nat):Int):=by omega
    have hok:okB m n (zAe m A n)=true:=zHR.2 fun r h1 h2=>by
     have:=hal (r - d) (by rw [HD.out] at h1;omega)
     rwa [show d+ (r - d)=r from by rw [HD.out] at h1;omega] at this
    have HOK:=dH hok;have HXR:=dH hxr;have HS5:=dH (HS2.out.ext hxr);have HX5:=dH (HX2.out.trans hxr);clear hal hok hxr HS2 HXR HX2 HY HA;generalize hwr:wr=x5 at *;clear hwr;have n0:(0:Int)≤(n:Int):=by omega
    go_wp2_with fail
    go_loopw [4,38] (fun s v wr=>∃c:Nat,c≤n∧v=.int .i64 c∧∃L,OwnRats wr x5.heap.size s L (List.replicate c 0)∧Ext x5 wr) (fun _ v _=>n - (intOf v).toNat)
    case atStart=>exact⟨0,Nat.zero_le _,rfl,[],OwnRats.nil _ _,Ext.refl _⟩
    case round=>
     obtain⟨c,hc,rfl,L,hO,hxr⟩:=hrel;have c0:(0:Int)≤(c:Int):=by omega
     obtain⟨va,vc,rfl,hvl,hvc⟩:=hO.form;have hLl:L.length=c:=by have:=hO.len;rwa [List.length_replicate] at this
     have HLL:=dH hLl;have HO:=dH hO;have HXR:=dH hxr;clear hO hxr hLl;by_cases hcn:c<n
     ·have c1:(c:Int)< (n:Int):=by omega
      have hw1:IntKind.i64.wrap ((c:Int)+1)= (c:Int)+1:=IntWalk.i64_in _ (by omega);go_wp2_with fail;refine(zHQ _).mono ?_;rintro e9 y1 ⟨v9,rfl,⟨nz,az,qz,cz,bz,kz,dz,rfl,hv',hf',hg'⟩,hy⟩;have hlt:=HO.out.lt;have hoff:RatC.Off ⟨nz,az,qz,cz,false,bz,kz,dz⟩ (Value.slice va L.length vc).ownBlock:=⟨fun _ A hA e=>by have:=hf' A hA;have:=(hlt _ e).2;omega,fun _ A hA e=>by have:=hg' A hA;have:=(hlt _ e).2;omega⟩
      have hya:=Ext.alloc y1 (.cells #[.bool nz,.slice az qz cz,.bool false,.slice bz kz dz] 38);have HBz:=dH (Blk.new0 y1 #[.bool nz,.slice az qz cz,.bool false,.slice bz kz dz] 38);have HXa:=dH ((HXR.out.trans hy).trans hya);have HOa:=dH ((HO.out.ext hy).ext hya);have HVa:=dH (RatV.ext hv' hya);have HOFF:=dH hoff;clear hlt hoff hya hy hv' hf' hg' HO HXR
      go_wp2_with (at_builtin;refine zBU rfl (.tmp 40) (.tmp 42) rfl HXa.out rfl HOa.out rfl (x:=⟨nz,az,qz,cz,false,bz,kz,dz⟩) (r:=0) HBz.out HVa.out HOFF.out (by have:=HLL.out;omega) ?_;intro v' w3 hO' hE' hg' hat')
      obtain⟨ua,uc,rfl,hul,huc⟩:=hO'.form;go_roundw
      case rel=>exact⟨c+1,by omega,by go_num,_,(by rw [List.replicate_succ'];exact hO'),hE'⟩
      case measure=>simp [intOf];omega
     ·have c1:¬ (c:Int)< (n:Int):=by omega
      have hce:c=n:=by omega
      have HFL:Hid (0<n→∃gx,va=some ⟨gx,0,none⟩∧x5.heap.size≤gx∧Fill wr gx n (fun c=>L.getD c ⟨false,none,0,0,false,none,0,0⟩) (fun _=>0)):=dH fun h0=>by
       obtain⟨gx,cx,e1,e2,e3,e4,e5⟩:=HO.out.fill (by have:=HLL.out;omega);simp only [Value.slice.injEq,true_and] at e1;refine⟨gx,e1.1,e2,?_⟩;rw [show L.length=n by have:=HLL.out;omega] at e5;refine⟨e5.row,fun c2 hc2=>?_,e5.off⟩;have h9:=e5.val c2 hc2;have e0:(List.replicate c (0:Rat)).getD c2 0=0:=by rw [List.getD_eq_getElem?_getD,List.getElem?_replicate];split <;> rfl
       rw [e0] at h9;exact h9
      have hvn:va=none→vc=0:=fun e9=>by
       rcases HO.out.own.2 with⟨h1,_⟩ | ⟨gx,cx,cur,h1,_⟩
       ·simp only [Value.slice.injEq] at h1;exact h1.2.2
       ·simp only [Value.slice.injEq,e9] at h1;exact absurd h1.1 (by simp)
      have HVN:=dH hvn;clear hvn;have hLn:L.length=n:=by have:=HLL.out;omega
      rw [hLn] at hvl ⊢;have HS6:=dH (HS5.out.ext HXR.out);have s0:wr.cell? ⟨p,0,none⟩=some (.slice av d cv):=HS6.out.box.cell rfl;generalize (fun c=>L.getD c ⟨false,none,0,0,false,none,0,0⟩:Nat→RatC)=V0 at *;clear hLn HLL HO hce;go_wp2_with fail;clear s0;generalize hwr:wr=x6 at *;clear hwr
      go_loopw [51] (fun v wr=>∃i:Nat,i≤d∧v=.int .i64 i∧Ext x5 wr∧(0<n→∃gx V f,va=some ⟨gx,0,none⟩∧x5.heap.size≤gx∧Fill wr gx n V f∧∀c,c<n→f c=if c∈(zAe m A n).ps.take i then(zAe m A n).M ((zAe m A n).ps.idxOf c) n else 0)) (fun v _=>d - (intOf v).toNat)
      case atStart=>exact⟨0,Nat.zero_le _,rfl,HXR.out,fun h0=>by
       obtain⟨gx,e1,e2,e3⟩:=HFL.out h0
       exact⟨gx,_,_,e1,e2,e3,fun c hc=>by rw [List.take_zero,if_neg (by simp)]⟩⟩
      case round=>
       obtain⟨i,hi,rfl,hxy,hfl⟩:=hrel;have i0:(0:Int)≤(i:Int):=by omega
       by_cases hid:i<d
       ·have i1:(i:Int)< (d:Int):=by omega
        have hw1:IntKind.i64.wrap ((i:Int)+1)= (i:Int)+1:=IntWalk.i64_in _ (by omega);obtain⟨k,hk⟩:∃k,(zAe m A n).ps[i]? =some k:=⟨_,List.getElem?_eq_getElem (by rw [HD.out];exact hid)⟩
        have hkn:k<n:=HECH.out.lt k (List.mem_of_getElem? hk);obtain⟨b9,cv9,e9,c9⟩:=(HS5.out.ext hxy).pivot hk;simp only [Value.slice.injEq] at e9;obtain⟨rfl,-,rfl⟩:=e9;have him:i<m:=by omega
        have hs:=HS5.out.ext hxy;have s1:wr.cell? ⟨p,1,none⟩=some (.slice ra m rc):=hs.box.cell rfl;obtain rfl:=hs.hra (by omega);have c0:=hs.top him;have hcp:=hs.cap i him;have n1:(n:Int)< ((n+1:Nat):Int):=by omega
        have k0:(0:Int)≤(k:Int):=by omega
        have k1:(k:Int)< (n:Int):=by omega
        obtain⟨e0,e1,e2,e3⟩:=(hs.row i him).cells (c:=n) (by omega);have hv:=hs.val i him n (by omega);have hv5:=HS5.out.val i him n (by omega);obtain⟨gx,V,f,rfl,hgx,hf,hfe⟩:=hfl (by omega);generalize hx:V2 i n=x at *;obtain⟨nx,ax,qx,cx,mx,bx,kx,dx⟩:=x;dsimp only [RatC.val] at e0 e1 e2 e3 hv hv5;have hoff:RatC.Off ⟨nx,ax,qx,cx,mx,bx,kx,dx⟩ (some gx):=⟨fun hq A hA e=>by have:=hv5.num.lt hq A hA;simp only [Option.some.injEq] at e;omega,fun hq A hA e=>by have:=hv5.den.lt hq A hA;simp only [Option.some.injEq] at e;omega⟩
        obtain⟨PP,_⟩:=hf.row.put hkn ⟨nx,ax,qx,cx,mx,bx,kx,dx⟩;obtain⟨p0,p1,p2,p3,⟨_,p4⟩,⟨_,p5⟩,⟨_,p6⟩,⟨_,p7⟩⟩:=PP;dsimp only at p0 p1 p2 p3 p4 p5 p6 p7;have HF2:=dH (hf.put hkn hv hoff);have HXY:Hid (Ext x5 (zJ0 wr gx k ⟨nx,ax,qx,cx,mx,bx,kx,dx⟩)):=dH ((((hxy.set (p:=⟨gx,k*4,none⟩) hgx _).set (p:=⟨gx,k*4+1,none⟩) hgx _).set (p:=⟨gx,k*4+2,none⟩) hgx _).set (p:=⟨gx,k*4+3,none⟩) hgx _);have HFE:=dH hfe;have HK:=dH hk;have HGX:=dH hgx;clear hs hv hv5 hx hoff hf hfe hfl hxy hgx hk;go_wp2_with fail;clear p0 p1 p2 p3 p4 p5 p6 p7;go_roundw
        case rel=>exact⟨i+1,by omega,by go_num,HXY.out,fun _=>⟨gx,_,_,rfl,HGX.out,HF2.out,fun c hc=>zLo HECH.out HK.out (HFE.out c hc)⟩⟩
        case measure=>simp [intOf];omega
       ·have i1:¬ (i:Int)< (d:Int):=by omega
        have HSO:Hid (SolP m n A w (.returned (.tuple #[.slice va n vc,.bool true])) wr):=dH (by
         by_cases h0:0<n
         ·obtain⟨gx,V,f,rfl,hgx,hf,hfe⟩:=hfl h0;refine⟨_,vc,V,by rw [HOK.out];rfl,?_,HX5.out.trans hxy⟩;rw [HOK.out,if_pos rfl];refine hf.read ⟨hvl,hvc⟩ fun c hc=>?_;rw [hfe c hc,List.take_of_length_le (by rw [HD.out];omega)];rfl
         ·refine⟨va,vc,fun _=>⟨false,none,0,0,false,none,0,0⟩,by rw [HOK.out];rfl,?_,HX5.out.trans hxy⟩;rw [HOK.out,if_pos rfl]
          exact⟨hvl,hvc,HVN.out,fun A hA c hc=>by omega,fun c hc=>by omega⟩)
        clear hfl hxy;go_wp2_with fail
        go_ret2
        exact HSO.out
end Go.Proofs.YtonkhcdmchidjaaGreat
