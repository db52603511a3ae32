import Derived.Test.YtokffagbdfhnnaaGreatQ5
import Derived.Test.YtokffagbdfhnnaaGreatQM1
import Derived.Test.YtokffagbdfhnnaaGreatQR1
import Derived.Test.YtokffagbdfhnnaaGreatQM2
import Derived.Test.YtokffagbdfhnnaaGreatPNews
import Derived.Test.YtokffagbdfhnnaaGreatR0
import Derived.Test.YtokffagbdfhnnaaGreatU1
namespace Go.Proofs.YtokffagbdfhnnaaGreat
open Go.RowKit Go BigFrame
set_option maxRecDepth 100000
set_option linter.unusedSimpArgs false
set_option linter.unusedVariables false
theorem grownThen {a b c:World} {row:Option Nat} (h:a.grownBy b row) (k:b.grownBy c row):a.grownBy c row:=
 ⟨k.os.trans h.os,k.tape.trans h.tape,k.output.trans h.output,Nat.le_trans h.size k.size,fun i hi hne=>(k.block i (Nat.lt_of_lt_of_le hi h.size) hne).trans (h.block i hi hne)⟩
theorem grownSet (w:World) (p i:Nat) (u:Value):w.grownBy (w.setCell ⟨p,i,none⟩ u) (some p):=⟨rfl,rfl,rfl,by simp,fun k hk hne=>Below.heap_setCell _ ⟨p,i,none⟩ _ _ (fun e=>hne (by rw [e]))⟩
theorem blkGrown {w w':World} {b:Nat} {cs:Array Value} {t:TypeId} {row:Option Nat} (h:Blk w b cs t) (hg:w.grownBy w' row) (hr:row≠some b):Blk w' b cs t:=(hg.block b h.lt (fun e=>hr e.symm)).trans h
theorem blkNe {w:World} {b b':Nat} {cs cs':Array Value} {t t':TypeId} (h:Blk w b cs t) (k:Blk w b' cs' t') (ht:t≠t'):b≠b':=fun e=>by
 subst e
 unfold Blk at h k
 rw [h] at k
 simp only [Option.some.injEq,Obj.cells.injEq] at k
 exact ht k.2.1
theorem rowGrown {w w':World} {B:Nat} {e:TypeId} {s:Nat} {v:Value} {n:Nat} {xs:List Value} {row:Option Nat} (h:w.ownsRow B e s v n xs) (hg:w.grownBy w' row) (hr:v.ownBlock=none∨v.ownBlock≠row):w'.ownsRow B e s v n xs:=by
 refine⟨h.1,?_⟩
 rcases h.2 with h2 | ⟨g,cap,cur,rfl,hb,hg2,hrest⟩
 ·exact .inl h2
 ·refine .inr ⟨g,cap,cur,rfl,hb,?_,hrest⟩
  have hlt:g<w.heap.size:=(Array.getElem?_eq_some_iff.1 hg2).1
  refine(hg.block g hlt fun e=>?_).trans hg2
  rcases hr with hr | hr
  ·cases hr
  ·exact hr e
theorem rowNe {w:World} {B:Nat} {e:TypeId} {s:Nat} {v:Value} {n:Nat} {xs:List Value} (h:w.ownsRow B e s v n xs) {b:Nat} {cs:Array Value} {t:TypeId} (k:Blk w b cs t) (ht:e≠t):v.ownBlock≠some b:=fun eq=>by
 rcases h.2 with⟨rfl,_⟩ | ⟨g,cap,cur,rfl,hb,hg2,_⟩
 ·cases eq
 ·simp only [Value.ownBlock,Option.some.injEq] at eq
  exact blkNe (show Blk w g cur e from hg2) k ht eq
def CellsX (cs:Array Value) (i:Nat) (x:RatC):Prop:=cs[i*4]? =some (.bool x.n)∧cs[i*4+1]? =some (.slice x.a x.q x.c)∧cs[i*4+2]? =some (.bool x.m)∧cs[i*4+3]? =some (.slice x.b x.k x.d)
def RowB (w:World) (g N:Nat) (V:Nat→RatC):Prop:=∃cs,Blk w g cs 44∧∀c,c<N→CellsX cs c (V c)
section
variable {w w':World} {g N:Nat} {V:Nat→RatC}
theorem RowB.ext (h:RowB w g N V) (k:Ext w w'):RowB w' g N V:=by
 obtain⟨cs,hb,hc⟩:=h
 exact⟨cs,hb.ext k,hc⟩
theorem RowB.grown (h:RowB w g N V) {row:Option Nat} (hg:w.grownBy w' row) (hr:row≠some g):RowB w' g N V:=by
 obtain⟨cs,hb,hc⟩:=h
 exact⟨cs,blkGrown hb hg hr,hc⟩
theorem RowB.lt (h:RowB w g N V):g<w.heap.size:=by
 obtain⟨cs,hb,hc⟩:=h
 exact hb.lt
theorem RowB.cells (h:RowB w g N V) {c:Nat} (hc:c<N):w.cell? ⟨g,c*4,none⟩=some (.bool (V c).n)∧w.cell? ⟨g,c*4+1,none⟩=some (.slice (V c).a (V c).q (V c).c)∧w.cell? ⟨g,c*4+2,none⟩=some (.bool (V c).m)∧w.cell? ⟨g,c*4+3,none⟩=some (.slice (V c).b (V c).k (V c).d):=by
 obtain⟨cs,hb,h4⟩:=h
 obtain⟨h0,h1,h2,h3⟩:=h4 c hc
 exact⟨hb.cell h0,hb.cell h1,hb.cell h2,hb.cell h3⟩
end
def set4U (w:World) (g i:Nat) (x:RatC):World:=(((w.setCell ⟨g,i*4,none⟩ (.bool x.n)).setCell ⟨g,i*4+1,none⟩ (.slice x.a x.q x.c)).setCell ⟨g,i*4+2,none⟩ (.bool x.m)).setCell ⟨g,i*4+3,none⟩ (.slice x.b x.k x.d)
theorem grown4 (w:World) (g i:Nat) (x:RatC):w.grownBy (set4U w g i x) (some g):=grownThen (grownThen (grownThen (grownSet _ _ _ _) (grownSet _ _ _ _)) (grownSet _ _ _ _)) (grownSet _ _ _ _)
structure Put4U (w:World) (g i:Nat) (x:RatC):Prop where
 f0:w.frozen? ⟨g,i*4,none⟩=false
 f1:(w.setCell ⟨g,i*4,none⟩ (.bool x.n)).frozen? ⟨g,i*4+1,none⟩=false
 f2:((w.setCell ⟨g,i*4,none⟩ (.bool x.n)).setCell ⟨g,i*4+1,none⟩ (.slice x.a x.q x.c)).frozen? ⟨g,i*4+2,none⟩=false
 f3:(((w.setCell ⟨g,i*4,none⟩ (.bool x.n)).setCell ⟨g,i*4+1,none⟩ (.slice x.a x.q x.c)).setCell ⟨g,i*4+2,none⟩ (.bool x.m)).frozen? ⟨g,i*4+3,none⟩=false
 c0:∃u,w.cell? ⟨g,i*4,none⟩=some u
 c1:∃u,(w.setCell ⟨g,i*4,none⟩ (.bool x.n)).cell? ⟨g,i*4+1,none⟩=some u
 c2:∃u,((w.setCell ⟨g,i*4,none⟩ (.bool x.n)).setCell ⟨g,i*4+1,none⟩ (.slice x.a x.q x.c)).cell? ⟨g,i*4+2,none⟩=some u
 c3:∃u,(((w.setCell ⟨g,i*4,none⟩ (.bool x.n)).setCell ⟨g,i*4+1,none⟩ (.slice x.a x.q x.c)).setCell ⟨g,i*4+2,none⟩ (.bool x.m)).cell? ⟨g,i*4+3,none⟩=some u
theorem setSelf {cs:Array Value} {i:Nat} {v:Value} (h:i<cs.size):(cs.setIfInBounds i v)[i]? =some v:=by simp [h]
theorem RowB.put {w:World} {g N i:Nat} {V:Nat→RatC} (h:RowB w g N V) (hi:i<N) (x:RatC):Put4U w g i x∧RowB (set4U w g i x) g N (fun c=>if c=i then x else V c):=by
 obtain⟨cs,hb,hc⟩:=h
 obtain⟨e0,e1,e2,e3⟩:=hc i hi
 have b1:=hb.set (i*4) (.bool x.n)
 have b2:=b1.set (i*4+1) (.slice x.a x.q x.c)
 have b3:=b2.set (i*4+2) (.bool x.m)
 have b4:=b3.set (i*4+3) (.slice x.b x.k x.d)
 have hsz:i*4+3<cs.size:=(Array.getElem?_eq_some_iff.1 e3).1
 refine⟨⟨hb.free _,b1.free _,b2.free _,b3.free _,⟨_,hb.cell e0⟩,⟨_,b1.cell (v:=.slice (V i).a (V i).q (V i).c) (by rw [Array.getElem?_setIfInBounds_ne (by omega)];exact e1)⟩,
  ⟨_,b2.cell (v:=.bool (V i).m) (by rw [Array.getElem?_setIfInBounds_ne (by omega),Array.getElem?_setIfInBounds_ne (by omega)];exact e2)⟩,
  ⟨_,b3.cell (v:=.slice (V i).b (V i).k (V i).d) (by rw [Array.getElem?_setIfInBounds_ne (by omega),Array.getElem?_setIfInBounds_ne (by omega),Array.getElem?_setIfInBounds_ne (by omega)];exact e3)⟩⟩,_,b4,fun j hj=>?_⟩
 obtain⟨d0,d1,d2,d3⟩:=hc j hj
 dsimp only
 by_cases hij:j=i
 ·subst hij
  rw [if_pos rfl]
  refine⟨?_,?_,?_,?_⟩
  ·rw [Array.getElem?_setIfInBounds_ne (by omega),Array.getElem?_setIfInBounds_ne (by omega),Array.getElem?_setIfInBounds_ne (by omega),setSelf (by omega)]
  ·rw [Array.getElem?_setIfInBounds_ne (by omega),Array.getElem?_setIfInBounds_ne (by omega),setSelf (by simp only [Array.size_setIfInBounds];omega)]
  ·rw [Array.getElem?_setIfInBounds_ne (by omega),setSelf (by simp only [Array.size_setIfInBounds];omega)]
  ·rw [setSelf (by simp only [Array.size_setIfInBounds];omega)]
 ·rw [if_neg hij]
  refine⟨?_,?_,?_,?_⟩
  ·rw [Array.getElem?_setIfInBounds_ne (by omega),Array.getElem?_setIfInBounds_ne (by omega),Array.getElem?_setIfInBounds_ne (by omega),Array.getElem?_setIfInBounds_ne (by omega)];exact d0
  ·rw [Array.getElem?_setIfInBounds_ne (by omega),Array.getElem?_setIfInBounds_ne (by omega),Array.getElem?_setIfInBounds_ne (by omega),Array.getElem?_setIfInBounds_ne (by omega)];exact d1
  ·rw [Array.getElem?_setIfInBounds_ne (by omega),Array.getElem?_setIfInBounds_ne (by omega),Array.getElem?_setIfInBounds_ne (by omega),Array.getElem?_setIfInBounds_ne (by omega)];exact d2
  ·rw [Array.getElem?_setIfInBounds_ne (by omega),Array.getElem?_setIfInBounds_ne (by omega),Array.getElem?_setIfInBounds_ne (by omega),Array.getElem?_setIfInBounds_ne (by omega)];exact d3
def sw {α:Type} (f:Nat→α) (d i:Nat):Nat→α:=fun r=>if r=d then f i else if r=i then f d else f r
theorem sw_at {α:Type} (f:Nat→α) (d i r:Nat):∃s,sw f d i r=f s∧(s=d∨s=i∨s=r):=by
 unfold sw
 split
 ·exact⟨i,rfl,.inr (.inl rfl)⟩
 ·split
  ·exact⟨d,rfl,.inl rfl⟩
  ·exact⟨r,rfl,.inr (.inr rfl)⟩
def SysB (p m R:Nat) (g:Nat→Nat) (b:Nat):Prop:=b=p∨(0<m∧b=R)∨∃r,r<m∧b=g r
structure Sys (w:World) (B p m N:Nat) (ra:Option Addr) (R rc:Nat) (g cp:Nat→Nat) (V:Nat→Nat→RatC) (M:Mx) (va:Value) (ps:List Nat):Prop where
 box:Blk w p #[va,.slice ra m rc] 54
 hra:0<m→ra=some ⟨R,0,none⟩
 hrc:m≤rc∧rc≤9223372036854775807
 rows:0<m→∃cs,Blk w R cs 23∧∀r,r<m→cs[r]? =some (.slice (some ⟨g r,0,none⟩) N (cp r))
 row:∀r,r<m→RowB w (g r) N (V r)
 cap:∀r,r<m→N≤cp r∧cp r≤9223372036854775807
 inj:∀r s,r<m→s<m→g r=g s→r=s
 val:∀r,r<m→∀c,c<N→RatV w (V r c).val (M r c)
 off:∀r,r<m→∀c,c<N→∀b,SysB p m R g b→(V r c).Off (some b)
 offA:∀r,r<m→∀c,c<N→(V r c).Off va.ownBlock
 atl:w.ownsRow B 3 1 va ps.length (ps.map fun k:Nat=>Value.int .i64 k)
 low:∀b,SysB p m R g b→B≤b
structure SysX (w:World) (p m R:Nat) (g:Nat→Nat) (va:Value) (x:RatC) (q:Rat):Prop where
 val:RatV w x.val q
 off:∀b,SysB p m R g b→x.Off (some b)
 offA:x.Off va.ownBlock
theorem SysX.ext {w w':World} {p m R:Nat} {g:Nat→Nat} {va:Value} {x:RatC} {q:Rat} (h:SysX w p m R g va x q) (k:Ext w w'):SysX w' p m R g va x q:=⟨h.val.ext k,h.off,h.offA⟩
theorem SysX.put {w w':World} {p m R:Nat} {g:Nat→Nat} {va:Value} {x:RatC} {q:Rat} (h:SysX w p m R g va x q) {b:Nat} (hb:SysB p m R g b) (k:w.grownBy w' (some b)):SysX w' p m R g va x q:=⟨h.val.grown k (h.off b hb),h.off,h.offA⟩
section
variable {w w':World} {B p m N:Nat} {ra:Option Addr} {R rc:Nat} {g cp:Nat→Nat} {V:Nat→Nat→RatC} {M:Mx} {va:Value} {ps:List Nat}
theorem Sys.ext (h:Sys w B p m N ra R rc g cp V M va ps) (k:Ext w w'):Sys w' B p m N ra R rc g cp V M va ps:=
 ⟨h.box.ext k,h.hra,h.hrc,fun hm=>by obtain⟨cs,h1,h2⟩:=h.rows hm;exact⟨cs,h1.ext k,h2⟩,fun r hr=>(h.row r hr).ext k,h.cap,h.inj,fun r hr c hc=>(h.val r hr c hc).ext k,h.off,h.offA,ownsRow_ext h.atl k,h.low⟩
theorem Sys.x (h:Sys w B p m N ra R rc g cp V M va ps) {r c:Nat} (hr:r<m) (hc:c<N):SysX w p m R g va (V r c) (M r c):=⟨h.val r hr c hc,h.off r hr c hc,h.offA r hr c hc⟩
theorem Sys.lt (h:Sys w B p m N ra R rc g cp V M va ps):∀b,SysB p m R g b→b<w.heap.size:=by
 rintro b (rfl | ⟨hm,rfl⟩ | ⟨r,hr,rfl⟩)
 ·exact h.box.lt
 ·obtain⟨cs,h1,_⟩:=h.rows hm
  exact h1.lt
 ·exact(h.row r hr).lt
theorem Sys.fresh (h:Sys w B p m N ra R rc g cp V M va ps) {x:RatC} {q:Rat} (hx:RatV w' x.val q) (k:Ext w w') (hf:(0<x.q→∀A,x.a=some A→w.heap.size≤A.block)∧(0<x.k→∀A,x.b=some A→w.heap.size≤A.block)):SysX w' p m R g va x q:=by
 have key:∀b,b<w.heap.size→x.Off (some b):=fun b hb=>⟨fun hq A hA e=>by have:=hf.1 hq A hA;simp only [Option.some.injEq] at e;omega,fun hq A hA e=>by have:=hf.2 hq A hA;simp only [Option.some.injEq] at e;omega⟩
 refine⟨hx,fun b hb=>key b (h.lt b hb),?_⟩
 cases hv:va.ownBlock with
 | none=>exact⟨fun _ _ _ e=>(by cases e),fun _ _ _ e=>(by cases e)⟩
 | some b=>exact key b (World.ownsRow.lt h.atl b hv).2
theorem Sys.top (h:Sys w B p m N ra R rc g cp V M va ps) {r:Nat} (hr:r<m):w.cell? ⟨R,r,none⟩=some (.slice (some ⟨g r,0,none⟩) N (cp r)):=by
 obtain⟨cs,h1,h2⟩:=h.rows (by omega)
 exact h1.cell (h2 r hr)
theorem Sys.put (h:Sys w B p m N ra R rc g cp V M va ps) {r c:Nat} (hr:r<m) (hc:c<N) {x:RatC} {q:Rat} (hx:SysX w p m R g va x q):
 Sys (set4U w (g r) c x) B p m N ra R rc g cp (fun r' c'=>if r'=r∧c'=c then x else V r' c') (fun r' c'=>if r'=r∧c'=c then q else M r' c') va ps:=by
 have hg:=grown4 w (g r) c x
 obtain⟨cs0,hb0,_⟩:=id (h.row r hr)
 have hB:SysB p m R g (g r):=.inr (.inr ⟨r,hr,rfl⟩)
 refine⟨blkGrown h.box hg fun e=>blkNe h.box hb0 (by decide) (by injection e with e;exact e.symm),h.hra,h.hrc,fun hm=>?_,fun r' hr'=>?_,h.cap,h.inj,fun r' hr' c' hc'=>?_,fun r' hr' c' hc'=>?_,fun r' hr' c' hc'=>?_,rowGrown h.atl hg (.inr (rowNe h.atl hb0 (by decide))),h.low⟩
 ·obtain⟨cs,h1,h2⟩:=h.rows hm
  exact⟨cs,blkGrown h1 hg fun e=>blkNe h1 hb0 (by decide) (by injection e with e;exact e.symm),h2⟩
 ·by_cases e:r'=r
  ·subst e
   have:=((h.row r' hr').put hc x).2
   simpa using this
  ·have:=(h.row r' hr').grown hg fun e2=>e (h.inj r r' hr hr' (by injection e2)).symm
   simpa [e] using this
 ·by_cases e:r'=r∧c'=c
  ·simp only [if_pos e]
   exact(hx.put hB hg).val
  ·simp only [if_neg e]
   exact((h.x hr' hc').put hB hg).val
 ·by_cases e:r'=r∧c'=c
  ·simp only [if_pos e]
   exact hx.off
  ·simp only [if_neg e]
   exact h.off r' hr' c' hc'
 ·by_cases e:r'=r∧c'=c
  ·simp only [if_pos e]
   exact hx.offA
  ·simp only [if_neg e]
   exact h.offA r' hr' c' hc'
theorem sysB_sw {d i:Nat} (hd:d<m) (hi:i<m) {b:Nat}:SysB p m R (sw g d i) b↔SysB p m R g b:=by
 constructor
 ·rintro(rfl | h | ⟨r,hr,rfl⟩)
  ·exact .inl rfl
  ·exact .inr (.inl h)
  ·obtain⟨s,e,hs⟩:=sw_at g d i r
   exact .inr (.inr ⟨s,by omega,e⟩)
 ·rintro(rfl | h | ⟨r,hr,rfl⟩)
  ·exact .inl rfl
  ·exact .inr (.inl h)
  ·by_cases e1:r=d
   ·by_cases e2:i=d
    ·exact .inr (.inr ⟨d,hd,by unfold sw;rw [if_pos rfl,e2,e1]⟩)
    ·exact .inr (.inr ⟨i,hi,by unfold sw;rw [if_neg e2,if_pos rfl,e1]⟩)
   ·by_cases e2:r=i
    ·exact .inr (.inr ⟨d,hd,by unfold sw;rw [if_pos rfl,e2]⟩)
    ·exact .inr (.inr ⟨r,hr,by unfold sw;rw [if_neg e1,if_neg e2]⟩)
theorem SysX.sw {x:RatC} {q:Rat} (h:SysX w p m R g va x q) {d i:Nat} (hd:d<m) (hi:i<m):SysX w p m R (sw g d i) va x q:=⟨h.val,fun b hb=>h.off b ((sysB_sw hd hi).1 hb),h.offA⟩
theorem Sys.swap (h:Sys w B p m N ra R rc g cp V M va ps) {d i:Nat} (hd:d<m) (hi:i<m):
 Sys ((w.setCell ⟨R,d,none⟩ (.slice (some ⟨g i,0,none⟩) N (cp i))).setCell ⟨R,i,none⟩ (.slice (some ⟨g d,0,none⟩) N (cp d))) B p m N ra R rc (sw g d i) (sw cp d i) (sw V d i) (swapX M d i) va ps:=by
 have hm:0<m:=by omega
 obtain⟨cs,h1,h2⟩:=h.rows hm
 have hg:=grownThen (grownSet w R d (.slice (some ⟨g i,0,none⟩) N (cp i))) (grownSet _ R i (.slice (some ⟨g d,0,none⟩) N (cp d)))
 have hB:SysB p m R g R:=.inr (.inl ⟨hm,rfl⟩)
 have hM:swapX M d i=sw M d i:=rfl
 rw [hM]
 have low:∀b,SysB p m R (sw g d i) b→SysB p m R g b:=fun b=>(sysB_sw hd hi).1
 have slt:∀r,r<m→∃s,s<m∧sw g d i r=g s∧sw cp d i r=cp s∧sw V d i r=V s∧sw M d i r=M s:=fun r hr=>by
  unfold sw
  split
  ·exact⟨i,hi,rfl,rfl,rfl,rfl⟩
  ·split
   ·exact⟨d,hd,rfl,rfl,rfl,rfl⟩
   ·exact⟨r,hr,rfl,rfl,rfl,rfl⟩
 refine⟨blkGrown h.box hg fun e=>blkNe h.box h1 (by decide) (by injection e with e;exact e.symm),h.hra,h.hrc,fun _=>⟨_,(h1.set d _).set i _,fun r hr=>?_⟩,fun r hr=>?_,fun r hr=>?_,fun r s hr hs e=>?_,fun r hr c hc=>?_,fun r hr c hc b hb=>?_,fun r hr c hc=>?_,
  rowGrown h.atl hg (.inr (rowNe h.atl h1 (by decide))),fun b hb=>h.low b (low b hb)⟩
 ·have hz:∀r,r<m→r<cs.size:=fun r hr=>(Array.getElem?_eq_some_iff.1 (h2 r hr)).1
  by_cases e1:r=i
  ·subst e1
   rw [setSelf (by simp only [Array.size_setIfInBounds];exact hz r hr)]
   unfold sw
   by_cases e2:r=d
   ·rw [if_pos e2,if_pos e2,e2]
   ·rw [if_neg e2,if_neg e2,if_pos rfl,if_pos rfl]
  ·rw [Array.getElem?_setIfInBounds_ne (by omega)]
   unfold sw
   by_cases e2:r=d
   ·subst e2
    rw [setSelf (hz r hr),if_pos rfl,if_pos rfl]
   ·rw [Array.getElem?_setIfInBounds_ne (by omega),if_neg e2,if_neg e2,if_neg e1,if_neg e1]
    exact h2 r hr
 ·obtain⟨s,hs,e1,e2,e3,e4⟩:=slt r hr
  rw [e1,e3]
  obtain⟨cs0,hb0,_⟩:=id (h.row s hs)
  exact(h.row s hs).grown hg fun e=>blkNe h1 hb0 (by decide) (by injection e)
 ·obtain⟨s,hs,e1,e2,e3,e4⟩:=slt r hr
  rw [e2]
  exact h.cap s hs
 ·have key:∀r s,r<m→s<m→sw g d i r=sw g d i s→r=s:=by
   intro r s hr hs e
   unfold sw at e
   split at e <;> split at e <;> (try split at e) <;> (try split at e) <;> (have:=h.inj _ _ (by omega) (by omega) e;omega)
  exact key r s hr hs e
 ·obtain⟨s,hs,e1,e2,e3,e4⟩:=slt r hr
  rw [e3,e4]
  exact((h.x hs hc).put hB hg).val
 ·obtain⟨s,hs,e1,e2,e3,e4⟩:=slt r hr
  rw [e3]
  exact h.off s hs c hc b (low b hb)
 ·obtain⟨s,hs,e1,e2,e3,e4⟩:=slt r hr
  rw [e3]
  exact h.offA s hs c hc
theorem Sys.push (h:Sys w B p m N ra R rc g cp V M va ps) {va':Value} {k:Nat} (ho:w'.ownsRow B 3 1 va' (ps.length+1) ((ps.map fun k:Nat=>Value.int .i64 k) ++ [.int .i64 k])) (hg:w.grownBy w' va.ownBlock) (hat:va'.ownBlock=va.ownBlock∨va'.ownBlock=some w.heap.size):
 Sys (w'.setCell ⟨p,0,none⟩ va') B p m N ra R rc g cp V M va' (ps ++ [k]):=by
 have hb1:Blk w' p #[va,.slice ra m rc] 54:=blkGrown h.box hg (rowNe h.atl h.box (by decide))
 have hg2:=grownSet w' p 0 va'
 have hBp:SysB p m R g p:=.inl rfl
 have hv1:∀r,r<m→∀c,c<N→RatV w' (V r c).val (M r c):=fun r hr c hc=>(h.val r hr c hc).grown hg (h.offA r hr c hc)
 refine⟨hb1.set 0 va',h.hra,h.hrc,fun hm=>?_,fun r hr=>?_,h.cap,h.inj,fun r hr c hc=>(hv1 r hr c hc).grown hg2 (h.off r hr c hc p hBp),h.off,fun r hr c hc=>?_,?_,h.low⟩
 ·obtain⟨cs,h1,h2⟩:=h.rows hm
  have h3:=blkGrown h1 hg (rowNe h.atl h1 (by decide))
  exact⟨cs,blkGrown h3 hg2 fun e=>blkNe hb1 h3 (by decide) (by injection e),h2⟩
 ·obtain⟨cs0,hb0,_⟩:=id (h.row r hr)
  have h3:=(h.row r hr).grown hg (rowNe h.atl hb0 (by decide))
  obtain⟨cs1,hb1',_⟩:=id h3
  exact h3.grown hg2 fun e=>blkNe hb1 hb1' (by decide) (by injection e)
 ·rcases hat with e | e
  ·rw [e];exact h.offA r hr c hc
  ·rw [e];exact RatV.offNew (h.val r hr c hc)
 ·have:=rowGrown ho hg2 (.inr (rowNe ho hb1 (by decide)))
  simpa using this
end
end Go.Proofs.YtokffagbdfhnnaaGreat
