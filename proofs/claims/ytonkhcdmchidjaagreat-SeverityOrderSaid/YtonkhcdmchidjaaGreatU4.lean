import Derived.Test.YtonkhcdmchidjaaGreatQM1
import Derived.Test.YtonkhcdmchidjaaGreatPRefD
import Derived.Test.YtonkhcdmchidjaaGreatR0
import Derived.Test.YtonkhcdmchidjaaGreatU1
import Derived.Sort.CutIn
set_option maxHeartbeats 16000000
namespace Go.Proofs.YtonkhcdmchidjaaGreat
open Go.RowKit Go BigFrame
set_option maxRecDepth 100000
set_option linter.all false
theorem zB6 {a b c:World} {row:Option Nat} (h:a.grownBy b row) (k:b.grownBy c row):a.grownBy c row:=
 ⟨k.os.trans h.os,k.tape.trans h.tape,k.output.trans h.output,Nat.le_trans h.size k.size,fun i hi hne=>(k.block i (Nat.lt_of_lt_of_le hi h.size) hne).trans (h.block i hi hne)⟩
theorem zAa (w:World) (p i:Nat) (u:Value):w.grownBy (w.setCell ⟨p,i,none⟩ u) (some p):=⟨rfl,rfl,rfl,by simp,fun k hk hne=>Below.heap_setCell _ ⟨p,i,none⟩ _ _ (fun e=>hne (by rw [e]))⟩
theorem zA5 {w w':World} {b:Nat} {cs:Array Value} {t:TypeId} {row:Option Nat} (h:Blk w b cs t) (hg:w.grownBy w' row) (hr:row≠some b):Blk w' b cs t:=(hg.block b h.lt (fun e=>hr e.symm)).trans h
theorem zAz {w:World} {b b':Nat} {cs cs':Array Value} {t t':TypeId} (h:Blk w b cs t) (k:Blk w b' cs' t') (ht:t≠t'):b≠b':=fun e=>by
 subst e;unfold Blk at h k;rw [h] at k;simp only [Option.some.injEq,Obj.cells.injEq] at k;exact ht k.2.1
theorem zBs {w w':World} {B:Nat} {e:TypeId} {s:Nat} {v:Value} {n:Nat} {xs:List Value} {row:Option Nat} (h:w.ownsRow B e s v n xs) (hg:w.grownBy w' row) (hr:v.ownBlock=none∨v.ownBlock≠row):w'.ownsRow B e s v n xs:=by
 refine⟨h.1,?_⟩;rcases h.2 with h2 | ⟨g,cap,cur,rfl,hb,hg2,hrest⟩
 ·exact .inl h2
 ·refine .inr ⟨g,cap,cur,rfl,hb,?_,hrest⟩;have hlt:g<w.heap.size:=(Array.getElem?_eq_some_iff.1 hg2).1;refine(hg.block g hlt fun e=>?_).trans hg2;rcases hr with hr | hr
  ·cases hr
  ·exact hr e
theorem zAI {w:World} {B:Nat} {e:TypeId} {s:Nat} {v:Value} {n:Nat} {xs:List Value} (h:w.ownsRow B e s v n xs) {b:Nat} {cs:Array Value} {t:TypeId} (k:Blk w b cs t) (ht:e≠t):v.ownBlock≠some b:=fun eq=>by
 rcases h.2 with⟨rfl,_⟩ | ⟨g,cap,cur,rfl,hb,hg2,_⟩
 ·cases eq
 ·simp only [Value.ownBlock,Option.some.injEq] at eq;exact zAz (show Blk w g cur e from hg2) k ht eq
def zJM (cs:Array Value) (i:Nat) (x:RatC):Prop:=cs[i*4]? =some (.bool x.n)∧cs[i*4+1]? =some (.slice x.a x.q x.c)∧cs[i*4+2]? =some (.bool x.m)∧cs[i*4+3]? =some (.slice x.b x.k x.d)
def RowB (w:World) (g N:Nat) (V:Nat→RatC):Prop:=∃cs,Blk w g cs 38∧∀c,c<N→zJM cs c (V c)
section
variable {w w':World} {g N:Nat} {V:Nat→RatC}
theorem RowB.ext (h:RowB w g N V) (k:Ext w w'):RowB w' g N V:=by
 obtain⟨cs,hb,hc⟩:=h;exact⟨cs,hb.ext k,hc⟩
theorem RowB.grown (h:RowB w g N V) {row:Option Nat} (hg:w.grownBy w' row) (hr:row≠some g):RowB w' g N V:=by
 obtain⟨cs,hb,hc⟩:=h;exact⟨cs,zA5 hb hg hr,hc⟩
theorem RowB.lt (h:RowB w g N V):g<w.heap.size:=by
 obtain⟨cs,hb,hc⟩:=h;exact hb.lt
theorem RowB.cells (h:RowB w g N V) {c:Nat} (hc:c<N):w.cell? ⟨g,c*4,none⟩=some (.bool (V c).n)∧w.cell? ⟨g,c*4+1,none⟩=some (.slice (V c).a (V c).q (V c).c)∧w.cell? ⟨g,c*4+2,none⟩=some (.bool (V c).m)∧w.cell? ⟨g,c*4+3,none⟩=some (.slice (V c).b (V c).k (V c).d):=by
 obtain⟨cs,hb,h4⟩:=h;obtain⟨h0,h1,h2,h3⟩:=h4 c hc;exact⟨hb.cell h0,hb.cell h1,hb.cell h2,hb.cell h3⟩
end
def zJ0 (w:World) (g i:Nat) (x:RatC):World:=(((w.setCell ⟨g,i*4,none⟩ (.bool x.n)).setCell ⟨g,i*4+1,none⟩ (.slice x.a x.q x.c)).setCell ⟨g,i*4+2,none⟩ (.bool x.m)).setCell ⟨g,i*4+3,none⟩ (.slice x.b x.k x.d)
theorem zEE (w:World) (g i:Nat) (x:RatC):w.grownBy (zJ0 w g i x) (some g):=zB6 (zB6 (zB6 (zAa _ _ _ _) (zAa _ _ _ _)) (zAa _ _ _ _)) (zAa _ _ _ _)
structure Put4U (w:World) (g i:Nat) (x:RatC):Prop where
 f0:w.frozen? ⟨g,i*4,none⟩=false
 f1:(w.setCell ⟨g,i*4,none⟩ (.bool x.n)).frozen? ⟨g,i*4+1,none⟩=false
 f2:((w.setCell ⟨g,i*4,none⟩ (.bool x.n)).setCell ⟨g,i*4+1,none⟩ (.slice x.a x.q x.c)).frozen? ⟨g,i*4+2,none⟩=false
 f3:(((w.setCell ⟨g,i*4,none⟩ (.bool x.n)).setCell ⟨g,i*4+1,none⟩ (.slice x.a x.q x.c)).setCell ⟨g,i*4+2,none⟩ (.bool x.m)).frozen? ⟨g,i*4+3,none⟩=false
 c0:∃u,w.cell? ⟨g,i*4,none⟩=some u
 c1:∃u,(w.setCell ⟨g,i*4,none⟩ (.bool x.n)).cell? ⟨g,i*4+1,none⟩=some u
 c2:∃u,((w.setCell ⟨g,i*4,none⟩ (.bool x.n)).setCell ⟨g,i*4+1,none⟩ (.slice x.a x.q x.c)).cell? ⟨g,i*4+2,none⟩=some u
 c3:∃u,(((w.setCell ⟨g,i*4,none⟩ (.bool x.n)).setCell ⟨g,i*4+1,none⟩ (.slice x.a x.q x.c)).setCell ⟨g,i*4+2,none⟩ (.bool x.m)).cell? ⟨g,i*4+3,none⟩=some u
theorem zBC {cs:Array Value} {i:Nat} {v:Value} (h:i<cs.size):(cs.setIfInBounds i v)[i]? =some v:=by simp [h]
theorem RowB.put {w:World} {g N i:Nat} {V:Nat→RatC} (h:RowB w g N V) (hi:i<N) (x:RatC):Put4U w g i x∧RowB (zJ0 w g i x) g N (fun c=>if c=i then x else V c):=by
 obtain⟨cs,hb,hc⟩:=h;obtain⟨e0,e1,e2,e3⟩:=hc i hi;have b1:=hb.set (i*4) (.bool x.n);have b2:=b1.set (i*4+1) (.slice x.a x.q x.c);have b3:=b2.set (i*4+2) (.bool x.m);have b4:=b3.set (i*4+3) (.slice x.b x.k x.d);have hsz:i*4+3<cs.size:=(Array.getElem?_eq_some_iff.1 e3).1
 refine⟨⟨hb.free _,b1.free _,b2.free _,b3.free _,⟨_,hb.cell e0⟩,⟨_,b1.cell (v:=.slice (V i).a (V i).q (V i).c) (by rw [Array.getElem?_setIfInBounds_ne (by omega)];exact e1)⟩,
  ⟨_,b2.cell (v:=.bool (V i).m) (by rw [Array.getElem?_setIfInBounds_ne (by omega),Array.getElem?_setIfInBounds_ne (by omega)];exact e2)⟩,
  ⟨_,b3.cell (v:=.slice (V i).b (V i).k (V i).d) (by rw [Array.getElem?_setIfInBounds_ne (by omega),Array.getElem?_setIfInBounds_ne (by omega),Array.getElem?_setIfInBounds_ne (by omega)];exact e3)⟩⟩,_,b4,fun j hj=>?_⟩
 obtain⟨d0,d1,d2,d3⟩:=hc j hj;dsimp only;by_cases hij:j=i
 ·subst hij;rw [if_pos rfl];refine⟨?_,?_,?_,?_⟩
  ·rw [Array.getElem?_setIfInBounds_ne (by omega),Array.getElem?_setIfInBounds_ne (by omega),Array.getElem?_setIfInBounds_ne (by omega),zBC (by omega)]
  ·rw [Array.getElem?_setIfInBounds_ne (by omega),Array.getElem?_setIfInBounds_ne (by omega),zBC (by simp only [Array.size_setIfInBounds];omega)]
  ·rw [Array.getElem?_setIfInBounds_ne (by omega),zBC (by simp only [Array.size_setIfInBounds];omega)]
  ·rw [zBC (by simp only [Array.size_setIfInBounds];omega)]
 ·rw [if_neg hij];refine⟨?_,?_,?_,?_⟩
  ·rw [Array.getElem?_setIfInBounds_ne (by omega),Array.getElem?_setIfInBounds_ne (by omega),Array.getElem?_setIfInBounds_ne (by omega),Array.getElem?_setIfInBounds_ne (by omega)];exact d0
  ·rw [Array.getElem?_setIfInBounds_ne (by omega),Array.getElem?_setIfInBounds_ne (by omega),Array.getElem?_setIfInBounds_ne (by omega),Array.getElem?_setIfInBounds_ne (by omega)];exact d1
  ·rw [Array.getElem?_setIfInBounds_ne (by omega),Array.getElem?_setIfInBounds_ne (by omega),Array.getElem?_setIfInBounds_ne (by omega),Array.getElem?_setIfInBounds_ne (by omega)];exact d2
  ·rw [Array.getElem?_setIfInBounds_ne (by omega),Array.getElem?_setIfInBounds_ne (by omega),Array.getElem?_setIfInBounds_ne (by omega),Array.getElem?_setIfInBounds_ne (by omega)];exact d3
def sw {α:Type} (f:Nat→α) (d i:Nat):Nat→α:=fun r=>if r=d then f i else if r=i then f d else f r
theorem sw_at {α:Type} (f:Nat→α) (d i r:Nat):∃s,sw f d i r=f s∧(s=d∨s=i∨s=r):=by
 unfold sw
 split
 ·exact⟨i,rfl,.inr (.inl rfl)⟩
 ·split
  ·exact⟨d,rfl,.inl rfl⟩
  ·exact⟨r,rfl,.inr (.inr rfl)⟩
def zFy (p m R:Nat) (g:Nat→Nat) (b:Nat):Prop:=b=p∨(0<m∧b=R)∨∃r,r<m∧b=g r
structure Sys (w:World) (B p m N:Nat) (ra:Option Addr) (R rc:Nat) (g cp:Nat→Nat) (V:Nat→Nat→RatC) (M:Mx) (va:Value) (ps:List Nat):Prop where
 box:Blk w p #[va,.slice ra m rc] 210
 hra:0<m→ra=some ⟨R,0,none⟩
 hrc:m≤rc∧rc≤9223372036854775807
 rows:0<m→∃cs,Blk w R cs 23∧∀r,r<m→cs[r]? =some (.slice (some ⟨g r,0,none⟩) N (cp r))
 row:∀r,r<m→RowB w (g r) N (V r)
 cap:∀r,r<m→N≤cp r∧cp r≤9223372036854775807
 inj:∀r s,r<m→s<m→g r=g s→r=s
 val:∀r,r<m→∀c,c<N→RatV w (V r c).val (M r c)
 off:∀r,r<m→∀c,c<N→∀b,zFy p m R g b→(V r c).Off (some b)
 offA:∀r,r<m→∀c,c<N→(V r c).Off va.ownBlock
 atl:w.ownsRow B 3 1 va ps.length (ps.map fun k:Nat=>Value.int .i64 k)
 low:∀b,zFy p m R g b→B≤b
structure SysX (w:World) (p m R:Nat) (g:Nat→Nat) (va:Value) (x:RatC) (q:Rat):Prop where
 val:RatV w x.val q
 off:∀b,zFy p m R g b→x.Off (some b)
 offA:x.Off va.ownBlock
theorem SysX.ext {w w':World} {p m R:Nat} {g:Nat→Nat} {va:Value} {x:RatC} {q:Rat} (h:SysX w p m R g va x q) (k:Ext w w'):SysX w' p m R g va x q:=⟨h.val.ext k,h.off,h.offA⟩
theorem SysX.put {w w':World} {p m R:Nat} {g:Nat→Nat} {va:Value} {x:RatC} {q:Rat} (h:SysX w p m R g va x q) {b:Nat} (hb:zFy p m R g b) (k:w.grownBy w' (some b)):SysX w' p m R g va x q:=⟨h.val.grown k (h.off b hb),h.off,h.offA⟩
section
variable {w w':World} {B p m N:Nat} {ra:Option Addr} {R rc:Nat} {g cp:Nat→Nat} {V:Nat→Nat→RatC} {M:Mx} {va:Value} {ps:List Nat}
theorem Sys.ext (h:Sys w B p m N ra R rc g cp V M va ps) (k:Ext w w'):Sys w' B p m N ra R rc g cp V M va ps:=
 ⟨h.box.ext k,h.hra,h.hrc,fun hm=>by obtain⟨cs,h1,h2⟩:=h.rows hm;exact⟨cs,h1.ext k,h2⟩,fun r hr=>(h.row r hr).ext k,h.cap,h.inj,fun r hr c hc=>(h.val r hr c hc).ext k,h.off,h.offA,zAg h.atl k,h.low⟩
theorem Sys.x (h:Sys w B p m N ra R rc g cp V M va ps) {r c:Nat} (hr:r<m) (hc:c<N):SysX w p m R g va (V r c) (M r c):=⟨h.val r hr c hc,h.off r hr c hc,h.offA r hr c hc⟩
theorem Sys.lt (h:Sys w B p m N ra R rc g cp V M va ps):∀b,zFy p m R g b→b<w.heap.size:=by
 rintro b (rfl | ⟨hm,rfl⟩ | ⟨r,hr,rfl⟩)
 ·exact h.box.lt
 ·obtain⟨cs,h1,_⟩:=h.rows hm;exact h1.lt
 ·exact(h.row r hr).lt
theorem Sys.fresh (h:Sys w B p m N ra R rc g cp V M va ps) {x:RatC} {q:Rat} (hx:RatV w' x.val q) (k:Ext w w') (hf:(0<x.q→∀A,x.a=some A→w.heap.size≤A.block)∧(0<x.k→∀A,x.b=some A→w.heap.size≤A.block)):SysX w' p m R g va x q:=by
 have key:∀b,b<w.heap.size→x.Off (some b):=fun b hb=>⟨fun hq A hA e=>by have:=hf.1 hq A hA;simp only [Option.some.injEq] at e;omega,fun hq A hA e=>by have:=hf.2 hq A hA;simp only [Option.some.injEq] at e;omega⟩
 refine⟨hx,fun b hb=>key b (h.lt b hb),?_⟩
 cases hv:va.ownBlock with
 | none=>exact⟨fun _ _ _ e=>(by cases e),fun _ _ _ e=>(by cases e)⟩
 | some b=>exact key b (World.ownsRow.lt h.atl b hv).2
theorem Sys.top (h:Sys w B p m N ra R rc g cp V M va ps) {r:Nat} (hr:r<m):w.cell? ⟨R,r,none⟩=some (.slice (some ⟨g r,0,none⟩) N (cp r)):=by
 obtain⟨cs,h1,h2⟩:=h.rows (by omega);exact h1.cell (h2 r hr)
theorem Sys.put (h:Sys w B p m N ra R rc g cp V M va ps) {r c:Nat} (hr:r<m) (hc:c<N) {x:RatC} {q:Rat} (hx:SysX w p m R g va x q):
 Sys (zJ0 w (g r) c x) B p m N ra R rc g cp (fun r' c'=>if r'=r∧c'=c then x else V r' c') (fun r' c'=>if r'=r∧c'=c then q else M r' c') va ps:=by
 have hg:=zEE w (g r) c x;obtain⟨cs0,hb0,_⟩:=id (h.row r hr);have hB:zFy p m R g (g r):=.inr (.inr ⟨r,hr,rfl⟩);refine⟨zA5 h.box hg fun e=>zAz h.box hb0 (by decide) (by injection e with e;exact e.symm),h.hra,h.hrc,fun hm=>?_,fun r' hr'=>?_,h.cap,h.inj,fun r' hr' c' hc'=>?_,fun r' hr' c' hc'=>?_,fun r' hr' c' hc'=>?_,zBs h.atl hg (.inr (zAI h.atl hb0 (by decide))),h.low⟩
 ·obtain⟨cs,h1,h2⟩:=h.rows hm;exact⟨cs,zA5 h1 hg fun e=>zAz h1 hb0 (by decide) (by injection e with e;exact e.symm),h2⟩
 ·by_cases e:r'=r
  ·subst e;have:=((h.row r' hr').put hc x).2
   simpa using this
  ·have:=(h.row r' hr').grown hg fun e2=>e (h.inj r r' hr hr' (by injection e2)).symm
   simpa [e] using this
 ·by_cases e:r'=r∧c'=c
  ·simp only [if_pos e];exact(hx.put hB hg).val
  ·simp only [if_neg e];exact((h.x hr' hc').put hB hg).val
 ·by_cases e:r'=r∧c'=c
  ·simp only [if_pos e];exact hx.off
  ·simp only [if_neg e];exact h.off r' hr' c' hc'
 ·by_cases e:r'=r∧c'=c
  ·simp only [if_pos e];exact hx.offA
  ·simp only [if_neg e];exact h.offA r' hr' c' hc'
theorem zJN {d i:Nat} (hd:d<m) (hi:i<m) {b:Nat}:zFy p m R (sw g d i) b↔zFy p m R g b:=by
 constructor
 ·rintro(rfl | h | ⟨r,hr,rfl⟩)
  ·exact .inl rfl
  ·exact .inr (.inl h)
  ·obtain⟨s,e,hs⟩:=sw_at g d i r;exact .inr (.inr ⟨s,by omega,e⟩)
 ·rintro(rfl | h | ⟨r,hr,rfl⟩)
  ·exact .inl rfl
  ·exact .inr (.inl h)
  ·by_cases e1:r=d
   ·by_cases e2:i=d
    ·exact .inr (.inr ⟨d,hd,by unfold sw;rw [if_pos rfl,e2,e1]⟩)
    ·exact .inr (.inr ⟨i,hi,by unfold sw;rw [if_neg e2,if_pos rfl,e1]⟩)
   ·by_cases e2:r=i
    ·exact .inr (.inr ⟨d,hd,by unfold sw;rw [if_pos rfl,e2]⟩)
    ·exact .inr (.inr ⟨r,hr,by unfold sw;rw [if_neg e1,if_neg e2]⟩)
theorem SysX.sw {x:RatC} {q:Rat} (h:SysX w p m R g va x q) {d i:Nat} (hd:d<m) (hi:i<m):SysX w p m R (sw g d i) va x q:=⟨h.val,fun b hb=>h.off b ((zJN hd hi).1 hb),h.offA⟩
theorem Sys.swap (h:Sys w B p m N ra R rc g cp V M va ps) {d i:Nat} (hd:d<m) (hi:i<m):
 Sys ((w.setCell ⟨R,d,none⟩ (.slice (some ⟨g i,0,none⟩) N (cp i))).setCell ⟨R,i,none⟩ (.slice (some ⟨g d,0,none⟩) N (cp d))) B p m N ra R rc (sw g d i) (sw cp d i) (sw V d i) (zBK M d i) va ps:=by
 have hm:0<m:=by omega
 obtain⟨cs,h1,h2⟩:=h.rows hm;have hg:=zB6 (zAa w R d (.slice (some ⟨g i,0,none⟩) N (cp i))) (zAa _ R i (.slice (some ⟨g d,0,none⟩) N (cp d)));have hB:zFy p m R g R:=.inr (.inl ⟨hm,rfl⟩);have hM:zBK M d i=sw M d i:=rfl;rw [hM];have low:∀b,zFy p m R (sw g d i) b→zFy p m R g b:=fun b=>(zJN hd hi).1;have slt:∀r,r<m→∃s,s<m∧sw g d i r=g s∧sw cp d i r=cp s∧sw V d i r=V s∧sw M d i r=M s:=fun r hr=>by
  unfold sw
  split
  ·exact⟨i,hi,rfl,rfl,rfl,rfl⟩
  ·split
   ·exact⟨d,hd,rfl,rfl,rfl,rfl⟩
   ·exact⟨r,hr,rfl,rfl,rfl,rfl⟩
 refine⟨zA5 h.box hg fun e=>zAz h.box h1 (by decide) (by injection e with e;exact e.symm),h.hra,h.hrc,fun _=>⟨_,(h1.set d _).set i _,fun r hr=>?_⟩,fun r hr=>?_,fun r hr=>?_,fun r s hr hs e=>?_,fun r hr c hc=>?_,fun r hr c hc b hb=>?_,fun r hr c hc=>?_,
  zBs h.atl hg (.inr (zAI h.atl h1 (by decide))),fun b hb=>h.low b (low b hb)⟩
 ·have hz:∀r,r<m→r<cs.size:=fun r hr=>(Array.getElem?_eq_some_iff.1 (h2 r hr)).1;by_cases e1:r=i
  ·subst e1;rw [zBC (by simp only [Array.size_setIfInBounds];exact hz r hr)];unfold sw;by_cases e2:r=d
   ·rw [if_pos e2,if_pos e2,e2]
   ·rw [if_neg e2,if_neg e2,if_pos rfl,if_pos rfl]
  ·rw [Array.getElem?_setIfInBounds_ne (by omega)];unfold sw;by_cases e2:r=d
   ·subst e2;rw [zBC (hz r hr),if_pos rfl,if_pos rfl]
   ·rw [Array.getElem?_setIfInBounds_ne (by omega),if_neg e2,if_neg e2,if_neg e1,if_neg e1];exact h2 r hr
 ·obtain⟨s,hs,e1,e2,e3,e4⟩:=slt r hr;rw [e1,e3];obtain⟨cs0,hb0,_⟩:=id (h.row s hs);exact(h.row s hs).grown hg fun e=>zAz h1 hb0 (by decide) (by injection e)
 ·obtain⟨s,hs,e1,e2,e3,e4⟩:=slt r hr;rw [e2];exact h.cap s hs
 ·have key:∀r s,r<m→s<m→sw g d i r=sw g d i s→r=s:=by
   intro r s hr hs e;unfold sw at e
   split at e <;> split at e <;> (try split at e) <;> (try split at e) <;> (have:=h.inj _ _ (by omega) (by omega) e;omega)
  exact key r s hr hs e
 ·obtain⟨s,hs,e1,e2,e3,e4⟩:=slt r hr;rw [e3,e4];exact((h.x hs hc).put hB hg).val
 ·obtain⟨s,hs,e1,e2,e3,e4⟩:=slt r hr;rw [e3];exact h.off s hs c hc b (low b hb)
 ·obtain⟨s,hs,e1,e2,e3,e4⟩:=slt r hr;rw [e3];exact h.offA s hs c hc
theorem Sys.push (h:Sys w B p m N ra R rc g cp V M va ps) {va':Value} {k:Nat} (ho:w'.ownsRow B 3 1 va' (ps.length+1) ((ps.map fun k:Nat=>Value.int .i64 k) ++ [.int .i64 k])) (hg:w.grownBy w' va.ownBlock) (hat:va'.ownBlock=va.ownBlock∨va'.ownBlock=some w.heap.size):
 Sys (w'.setCell ⟨p,0,none⟩ va') B p m N ra R rc g cp V M va' (ps ++ [k]):=by
 have hb1:Blk w' p #[va,.slice ra m rc] 210:=zA5 h.box hg (zAI h.atl h.box (by decide));have hg2:=zAa w' p 0 va';have hBp:zFy p m R g p:=.inl rfl;have hv1:∀r,r<m→∀c,c<N→RatV w' (V r c).val (M r c):=fun r hr c hc=>(h.val r hr c hc).grown hg (h.offA r hr c hc);refine⟨hb1.set 0 va',h.hra,h.hrc,fun hm=>?_,fun r hr=>?_,h.cap,h.inj,fun r hr c hc=>(hv1 r hr c hc).grown hg2 (h.off r hr c hc p hBp),h.off,fun r hr c hc=>?_,?_,h.low⟩
 ·obtain⟨cs,h1,h2⟩:=h.rows hm;have h3:=zA5 h1 hg (zAI h.atl h1 (by decide));exact⟨cs,zA5 h3 hg2 fun e=>zAz hb1 h3 (by decide) (by injection e),h2⟩
 ·obtain⟨cs0,hb0,_⟩:=id (h.row r hr);have h3:=(h.row r hr).grown hg (zAI h.atl hb0 (by decide));obtain⟨cs1,hb1',_⟩:=id h3;exact h3.grown hg2 fun e=>zAz hb1 hb1' (by decide) (by injection e)
 ·rcases hat with e | e
  ·rw [e];exact h.offA r hr c hc
  ·rw [e];exact RatV.offNew (h.val r hr c hc)
 ·have:=zBs ho hg2 (.inr (zAI ho hb1 (by decide)))
  simpa using this
end
end Go.Proofs.YtonkhcdmchidjaaGreat
namespace Go.Proofs.YtonkhcdmchidjaaGreat
open Go.RowKit Go Go.Shelf
set_option maxRecDepth 100000
def SeqS {α:Type} (n:Nat) (P:Program) (g:Nat) (lb:Array Value) (encs:α→Array Value) (Ok Rd S:List α→World→Prop) (w:World):Prop:=
 ∀ (l:Nat) (J:List α→World→Prop) (W:World),Below w.heap.size w W→AbidesFrom W.heap.size J→
  (∀pre x W1,J pre W1→Ok (pre ++ [x]) W1→YieldAt Fence.wide (n - 1) P l (encs x) W1 fun e W'=>e=.returned (.bool true)∧J (pre ++ [x]) W'∧Rd (pre ++ [x]) W')→
  J [] W→Rd [] W→CallsIn Fence.wide n P g (#[.func (.yield l) #[] #[]] ++ lb) W fun e W'=>(∃v,e=.returned v)∧∃xs,S xs W'∧J xs W'
section
variable {P:Program} {n:Nat}
theorem zD3 {α:Type} {g:Operand} {ps:Array Tmp} {assign body:Code} {Q:Exit→Act→World→Prop} {a:Act} {w:World}
 (h1:1≤n) {gf:Nat} {lb:Array Value} (hg:a.eval g=.func (.func gf) #[] lb) (eg:∀args w,(callFunc gf args).run P w=.ok (.enter gf args) w)
 {encs:α→Array Value} {Ok Rd S:List α→World→Prop} (hseq:SeqS (n - 1) P gf lb encs Ok Rd S w)
 (hps:∀x,(encs x).size=ps.size)
 (I:List α→World→Prop) (hI:OwnFrom w.heap.size I) (hOk:OwnFrom w.heap.size Ok) (hRd:OwnFrom w.heap.size Rd) (hS:OwnFrom w.heap.size S) (h0:I [] w) (hr0:Rd [] w) (a₁:α→Act)
 (hassign:∀ (l:Nat) (x:α) (W:World) (K:Act→World→Prop),K (a₁ x) W→
   assign.wpIn (Fence.wide.inRound l) (n - 1 - 1) P (Exit.then K (fun _ _ _=>False)) {tmps:=(ps.zip (encs x)).foldl (fun t (p,v)=>t.setIfInBounds p v) a.tmps,defers:=[]} W)
 (hbody:∀ (l:Nat) (pre:List α) (x:α) (W:World),I pre W→Ok (pre ++ [x]) W→body.wpIn (Fence.wide.inRound l) (n - 1 - 1) P (ownPostK (fun _ W'=>Rd (pre ++ [x]) W') I (fun _ _ _=>False) (pre ++ [x]) W) (a₁ x) W)
 (hdone:∀ (D:Nat) (xs:List α) (W:World),w.heap.size≤D→S xs W→I xs W→W.heap[D]? =some (.deferred (some []))→Q .normal {a with defers:={target:=.collected D,args:=#[]} :: a.defers} W):
 (Code.rangeFunc g ps assign body).wpIn Fence.wide n P Q a w:=by
 refine wpIn_rangeFunc ?_;intro fn hfn;rw [show Fence.wide.round=none from rfl];obtain⟨rec,hrec⟩:∃rec:LoopState→Option Code→Loop,rec=fun st pe=>{state:=st,pending:=pe,fn,tmps:=a.tmps,params:=ps,assign,body,defers:=w.heap.size}:=⟨_,rfl⟩
 obtain⟨W1,hW1⟩:∃W1,(w.alloc (.deferred (some []))).alloc (.loop (rec .ready none))=W1:=⟨_,rfl⟩
 have hL1:W1.heap[w.heap.size+1]? =some (.loop (rec .ready none)):=by
  rw [←hW1];have:=World.alloc_heap_new (w.alloc (.deferred (some []))) (.loop (rec .ready none));rwa [World.size_alloc] at this
 have hK1:W1.heap[w.heap.size]? =some (.deferred (some [])):=by
  rw [←hW1];exact(Below.heap_alloc _ _ _ (by simp)).trans (World.alloc_heap_new w _)
 have hI1:I [] W1:=by rw [←hW1];exact hI.alloc _ (hI.alloc _ h0)
 have hr1:Rd [] W1:=by rw [←hW1];exact hRd.alloc _ (hRd.alloc _ hr0)
 have hb1:Below w.heap.size w W1:=by
  rw [←hW1];exact((Below.refl _ w).alloc (Nat.le_refl _) _).alloc (by simp) _
 refine⟨w.heap.size+1,[{target:=.collected w.heap.size,args:=#[]}],W1,{target:=.fn (.func gf) lb,args:=#[.func (.yield (w.heap.size+1)) #[] #[]]},W1,gf,
  #[.func (.yield (w.heap.size+1)) #[] #[]] ++ lb,W1,?_,?_,?_,?_,fun _=>h1,?_⟩
 ·rw [←hW1,hrec];exact run_enterLoop_outer _ _ _ _ _
 ·simp only [resolve,hg];simp [go_sem]
 ·intro f' hf';trivial
 ·simp [invoke,go_sem,eg]
 ·have hnw:∀{A B:World} {row:Option Nat},(∀r,row=some r→W1.heap.size≤r∧∃o:Obj,A.heap[r]? =some o∧o.isWalk=true)→(∀r,row=some r→w.heap.size≤r∧∃o:Obj,A.heap[r]? =some o∧o.isCells=false):=
   fun hr r e=>by obtain⟨hB,o,ho,hw⟩:=hr r e;exact⟨by rw [←hW1] at hB;simp at hB;omega,o,ho,Obj.not_cells_of_walk hw⟩
  refine(hseq (w.heap.size+1)
   (fun pre W=>I pre W∧W.heap[w.heap.size+1]? =some (.loop (rec .ready none))∧W.heap[w.heap.size]? =some (.deferred (some [])))
   W1 hb1
   (fun s A B row hs hg' hr=>⟨hI s A B row hs.1 hg' (hnw (B:=B) hr),(grownBy_keeps hg' (fun r e=>(hr r e).2) hs.2.1 rfl).trans hs.2.1,(grownBy_keeps hg' (fun r e=>(hr r e).2) hs.2.2 rfl).trans hs.2.2⟩)
   ?_ ⟨hI1,hL1,hK1⟩ hr1).mono ?_
  ·rintro pre x W ⟨hi,hl,hk⟩ hok;have hlt:w.heap.size+1<W.heap.size:=(Array.getElem?_eq_some_iff.1 hl).1;have hy:=run_yield (P:=P) (args:=encs x) hl (by rw [hrec];exact hps x);rw [hrec] at hy;refine⟨fn,_,assign,body,hy,roundIn_of_wpIn hfn (hassign _ x W _ ⟨_,run_beginRound hl (by rw [hrec]),?_⟩)⟩;have hl2:(W.putObj (w.heap.size+1) (.loop {rec .ready none with state:=.busy})).heap[w.heap.size+1]? =some (.loop {rec .ready none with state:=.busy}):=World.putObj_heap_same hlt;have hk2:(W.putObj (w.heap.size+1) (.loop {rec .ready none with state:=.busy})).heap[w.heap.size]? =some (.deferred (some [])):=(World.putObj_heap_other (by omega)).trans hk;refine wpIn_mono (hbody _ pre x _ (hI.putObj _ hi (by omega) hl rfl) (hOk.putObj _ hok (by omega) hl rfl)) ?_
   have fin:∀ (jump:Option Code) (W3:World),KeepsOthers (W.putObj (w.heap.size+1) (.loop {rec .ready none with state:=.busy})) W3→
    (Instr.endRound (w.heap.size+1) jump).run P W3=.ok (.bool jump.isNone) (W3.putObj (w.heap.size+1) (.loop (rec (if jump.isNone then .ready else .done) jump)))∧
    W3.heap[w.heap.size+1]? =some (.loop {rec .ready none with state:=.busy})∧
    (W3.putObj (w.heap.size+1) (.loop (rec (if jump.isNone then .ready else .done) jump))).heap[w.heap.size+1]? =some (.loop (rec (if jump.isNone then .ready else .done) jump))∧
    (W3.putObj (w.heap.size+1) (.loop (rec (if jump.isNone then .ready else .done) jump))).heap[w.heap.size]? =some (.deferred (some [])):=fun jump W3 hk3=>by
    have hl3:=hk3.same _ _ hl2 rfl;have:=run_endRound (P:=P) jump hl3;rw [hrec] at this ⊢;exact⟨this,by rw [hrec] at hl3;exact hl3,World.putObj_heap_same (Array.getElem?_eq_some_iff.1 hl3).1,(World.putObj_heap_other (by omega)).trans (hk3.same _ _ hk2 rfl)⟩
   rintro e a3 W3 hp
   cases e with
   | normal=>
    obtain⟨hk3,hrd3,hi3⟩:=hp;obtain⟨hr,hl3,hl4,hk4⟩:=fin none W3 hk3;exact⟨_,_,hr,rfl,⟨hI.putObj _ hi3 (by omega) hl3 rfl,hl4,hk4⟩,hRd.putObj _ hrd3 (by omega) hl3 rfl⟩
   | ret=>exact hp.2.elim
   | exit id=>exact hp.2.elim
   | goto t=>exact hp.2.elim
   | panic ch=>exact hp.elim
   | outgrown=>exact hp.elim
  ·rintro e W2 ⟨⟨v,rfl⟩,xs,hS2,hi,hl,hk⟩;exact⟨none,_,by have:=run_endLoop (P:=P) hl (by rw [hrec];simp);rw [hrec] at this;exact this,hdone _ xs _ (Nat.le_refl _) (hS.putObj _ hS2 (by omega) hl rfl) (hI.putObj _ hi (by omega) hl rfl) ((World.putObj_heap_other (by omega)).trans hk)⟩
end
end Go.Proofs.YtonkhcdmchidjaaGreat
namespace Go.Proofs.YtonkhcdmchidjaaGreat
open Go.RowKit Go BigFrame Go.Shelf
set_option maxRecDepth 100000
set_option linter.all false
theorem zG7 {A B:World} (h:Ext A B):A.grownBy B none:=⟨h.os,h.tape,h.output,h.size,fun k hk _=>h.block k hk⟩
theorem zLk {q:Rat}:q.num=0↔q=0:=Rat.num_eq_zero
theorem zEF (n m:Bool) (a b:Option Addr) (q c k d:Nat) (r:Rat) (w:World) (h:RatV w (.agg #[.bool n,.slice a q c,.bool m,.slice b k d]) r):
 Calls Tryz.prog 180 #[.agg #[.bool n,.slice a q c,.bool m,.slice b k d]] w fun e w'=>e=.returned (.bool (decide (r=0)))∧Ext w w':=by
 have h0:q=0↔r=0:=(BigV.len0 h.num).trans zLk;have hx:=Ext.alloc w (.cells #[.bool n,.slice a q c,.bool m,.slice b k d] 38);have hb:=Blk.new0 w #[.bool n,.slice a q c,.bool m,.slice b k d] 38;have c1:=hb.cell (i:=1) rfl;have hd:decide (q=0)=decide (r=0):=by simp only [h0]
 have HX:=dH hx;have HD:=dH hd;clear h h0 hb hx hd;go_enter Tryz.func180,Tryz.ntmps180;go_wp2_with fail;go_ret;have hq:(((q:Nat):Int) == 0)=decide (q=0):=by rw [Bool.eq_iff_iff];simp
 exact⟨congrArg (fun x=>Ending.returned (Value.bool x)) (hq.trans HD.out),HX.out⟩
theorem zCb (p:Nat) (a:Option Addr) (l c:Nat) (w:World) (h:w.cell? ⟨p,0,none⟩=some (.slice a l c)):
 Calls Tryz.prog 179 #[.pointer (some ⟨p,0,none⟩)] w fun e w'=>e=.returned (.int .i64 l)∧w=w':=by
 go_enter Tryz.func179,Tryz.ntmps179;go_wp2_with fail;go_ret;exact⟨rfl,rfl⟩
theorem zFj (p:Nat) (n:Int) (w:World):
 Calls Tryz.prog 207 #[.pointer (some ⟨p,0,none⟩),.int .i64 n] w fun e w'=>e=.returned (.func (.func 219) #[] #[.pointer (some ⟨w.heap.size+1,0,none⟩),.pointer (some ⟨w.heap.size,0,none⟩)])∧
  w'= (w.alloc (.cells #[.pointer (some ⟨p,0,none⟩)] 204)).alloc (.cells #[.int .i64 n] 3):=by
 go_enter Tryz.func207,Tryz.ntmps207;go_wp2_with fail;go_ret;exact⟨by simp,rfl⟩
def zEG (l:List (Nat × Nat)):Nat:=match l.getLast? with | none=>0 | some x=>x.1+1
theorem zCG (l:List (Nat × Nat)) (x:Nat × Nat):zEG (l ++ [x])=x.1+1:=by unfold zEG;rw [List.getLast?_concat]
def OkC (m n:Nat) (A:Mx) (l:List (Nat × Nat)) (_:World):Prop:=∀pre x,l=pre ++ [x]→x.1<n∧zAe m A x.1=zAe m A (zEG pre)∧zDN (zAe m A x.1).M x.1 (zAe m A x.1).ps.length (m - (zAe m A x.1).ps.length)=some x.2
def RdC (B p m N:Nat) (ra:Option Addr) (R rc bn bs n:Nat) (A:Mx) (l:List (Nat × Nat)) (W:World):Prop:=
 (∃g cp V va,Sys W B p m N ra R rc g cp V (zAe m A (zEG l)).M va (zAe m A (zEG l)).ps∧va.ownBlock≠some bn)∧Blk W bn #[.int .i64 n] 3∧Blk W bs #[.pointer (some ⟨p,0,none⟩)] 204
def EndC (m n:Nat) (A:Mx) (l:List (Nat × Nat)) (_:World):Prop:=zAe m A n=zAe m A (zEG l)
theorem zGR {M:Mx} {k m:Nat}:∀{j d i:Nat},d+j=m→d≤i→i<m→(∀r,d≤r→r<i→M r k=0)→M i k≠0→zDN M k d j=some i
 | 0,d,i,h,h1,h2,_,_=>by omega
 | j+1,d,i,h,h1,h2,h3,h4=>by
  unfold zDN;by_cases e:d=i
  ·subst e;rw [if_pos h4]
  ·rw [if_neg (by simpa using h3 d (Nat.le_refl _) (by omega))];exact zGR (by omega) (by omega) h2 (fun r hr1 hr2=>h3 r (by omega) hr2) h4
theorem zJO {M:Mx} {k m:Nat}:∀{j d:Nat},d+j=m→(∀r,d≤r→r<m→M r k=0)→zDN M k d j=none
 | 0,d,_,_=>rfl
 | j+1,d,h,h3=>by
  unfold zDN;rw [if_neg (by simpa using h3 d (Nat.le_refl _) (by omega))];exact zJO (by omega) fun r h1 h2=>h3 r (by omega) h2
theorem RdC.ext {B p m N:Nat} {ra:Option Addr} {R rc bn bs n:Nat} {A:Mx} {l:List (Nat × Nat)} {W W':World} (h:RdC B p m N ra R rc bn bs n A l W) (k:Ext W W'):RdC B p m N ra R rc bn bs n A l W':=by
 obtain⟨⟨g,cp,V,va,hs,hv⟩,h1,h2⟩:=h;exact⟨⟨g,cp,V,va,hs.ext k,hv⟩,h1.ext k,h2.ext k⟩
theorem zHO (nn:Nat) (B p m N:Nat) (ra:Option Addr) (R rc bn bs n:Nat) (A:Mx) (hn:n≤N) (hN:N≤1000) (hm:m≤1000) (w:World):
 SeqS nn Tryz.prog 219 #[.pointer (some ⟨bn,0,none⟩),.pointer (some ⟨bs,0,none⟩)] (fun x:Nat × Nat=>#[.int .i64 x.1,.int .i64 x.2]) (OkC m n A) (RdC B p m N ra R rc bn bs n A) (EndC m n A) w:=fun lp J W hW hJ hY h0 hr0=>by
 obtain⟨_,hbn,hbs⟩:=id hr0;have c0:=hbn.cell (i:=0) rfl;have HR0:=dH hr0;clear hbn hbs hr0;refine callsIn_of_wp Tryz.func219 rfl trivial ?_ rfl;simp only [Tryz.ntmps219,List.size_toArray,List.length_cons,List.length_nil,Nat.reduceAdd,Nat.reduceSub,Array.replicate_succ,Array.replicate_zero,List.push_toArray,List.append_toArray,List.nil_append,List.cons_append]
 gi_wp2
 gi_loopw [7] (fun i wr=>∃ (k:Nat) (xs:List (Nat × Nat)),k≤n∧i=.int .i64 k∧zAe m A k=zAe m A (zEG xs)∧zEG xs≤k∧J xs wr∧RdC B p m N ra R rc bn bs n A xs wr) (fun i _=>n - (intOf i).toNat)
 case atStart=>exact⟨0,[],Nat.zero_le _,rfl,rfl,Nat.le_refl _,h0,HR0.out⟩
 case round=>
  obtain⟨k,xs,hk,rfl,hel,hnx,hJs,hrd⟩:=hrel;clear c0;by_cases hlt:k<n
  ·have g1:(0:Int)≤(k:Int):=by omega
   have g2:(k:Int)< (n:Int):=by omega
   obtain⟨⟨g,cp,V,va,hs,_⟩,hbn,hbs⟩:=id hrd;have d0:=hbs.cell (i:=0) rfl;have d1:=hs.box.cell (i:=0) rfl;have d2:=hs.box.cell (i:=1) rfl;obtain⟨av,lv,cv,hva,hvl⟩:∃a l c,va=.slice a l c∧l= (zAe m A (zEG xs)).ps.length:=by
    rcases hs.atl.2 with⟨rfl,h0⟩ | ⟨_,_,_,rfl,_⟩
    ·exact⟨_,_,_,rfl,h0.symm⟩
    ·exact⟨_,_,_,rfl,rfl⟩
   subst hva;have HS:=dH hs;have HRD:=dH hrd;have HJ:=dH hJs;have HEL:=dH hel;have HNX:=dH hnx;have HLV:=dH hvl;clear hs hrd hJs hel hnx hbn hbs hvl
   gi_wp2
   refine⟨trivial,fun h=>(by cases h),?_⟩;refine(callsIn_wide.2 (zCb p av lv cv _ d1)).mono ?_;rintro e w2 ⟨rfl,rfl⟩;clear d0 d1 d2
   gi_wp2
   gi_loopw [5] (fun i wx=>∃r:Nat,lv≤r∧r≤m∧i=.int .i64 r∧(∀s,lv≤s→s<r→(zAe m A k).M s k=0)∧J xs wx∧RdC B p m N ra R rc bn bs n A xs wx) (fun i _=>m - (intOf i).toNat)
   case atStart=>exact⟨lv,Nat.le_refl _,by have:=(zAQ m A (zEG xs)).le;have:=HLV.out;omega,rfl,fun s h1 h2=>by omega,HJ.out,HRD.out⟩
   case round=>
    obtain⟨r,hr1,hr2,rfl,hz,hJr,hRr⟩:=hrel;obtain⟨⟨g',cp',V',va',hs,_⟩,hbn,hbs⟩:=id hRr;rw [←HEL.out] at hs;have d0:=hbs.cell (i:=0) rfl;have d2:=hs.box.cell (i:=1) rfl;have r0:(0:Int)≤(r:Int):=by omega
    by_cases hrm:r<m
    ·have r1:(r:Int)< (m:Int):=by omega
     have k1:(k:Int)< (N:Int):=by omega
     obtain rfl:=hs.hra (by omega);have d3:=hs.top hrm;obtain⟨e0,e1,e2,e3⟩:=(hs.row r hrm).cells (c:=k) (by omega);have HV:=dH (hs.val r hrm k (by omega));have hrc:=hs.hrc;have hcp:=hs.cap r hrm;generalize V' r k=x at *;obtain⟨xn,xa,xq,xc,xm,xb,xk,xd⟩:=x;dsimp only [RatC.val] at e0 e1 e2 e3 HV;have HRr:=dH hRr;have HJr:=dH hJr;have HZ:=dH hz;generalize g' r=gr at *;clear hs hbn hbs hRr hJr hz
     gi_wp2
     refine⟨trivial,fun h=>(by cases h),?_⟩;refine(callsIn_wide.2 (zEF xn xm xa xb xq xc xk xd _ _ HV.out)).mono ?_;rintro e w2 ⟨rfl,hy⟩;have hJ2:J xs w2:=hJ _ _ _ none HJr.out (zG7 hy) (fun r e=>by cases e);have hR2:=HRr.out.ext hy;clear e0 e1 e2 e3 d0 d2 d3 hy HV;by_cases hM:(zAe m A k).M r k=0
     ·have hd:decide ((zAe m A k).M r k=0)=true:=decide_eq_true hM;rw [hd];have w1:IntKind.i64.wrap ((r:Int)+1)= (r:Int)+1:=IntWalk.i64_in _ (by omega);have HM:=dH hM;have HJ2:=dH hJ2;have HR2:=dH hR2;clear hM hd hJ2 hR2
      gi_wp2
      go_roundw
      case rel=>exact⟨r+1,by omega,by omega,by go_num,fun s h1 h2=>(by
       by_cases e:s=r
       ·rw [e];exact HM.out
       ·exact HZ.out s h1 (by omega)),HJ2.out,HR2.out⟩
      case measure=>simp [intOf];omega
     ·have hd:decide ((zAe m A k).M r k=0)=false:=decide_eq_false hM;rw [hd];have hps:lv= (zAe m A k).ps.length:=by rw [HEL.out];exact HLV.out
      have hok:OkC m n A (xs ++ [(k,r)]) w2:=fun pre x e=>by
       obtain⟨e1,e2⟩:=List.append_inj' e rfl;subst e1;cases e2
       refine⟨hlt,HEL.out,?_⟩;rw [←hps];exact zGR (m:=m) (by omega) hr1 hrm HZ.out hM
      obtain⟨fn,tmps,assign,body,hy,hR⟩:=hY _ (k,r) w2 hJ2 hok;clear hM hd hJ2 hR2 hok hps
      gi_wp2
      refine⟨fun h=>(by cases h),?_⟩;refine hR.mono ?_;rintro e W3 ⟨rfl,hJ3,hR3⟩;have HJ3:=dH hJ3;have HR3:=dH hR3;clear hJ3 hR3 hy hR;have w1:IntKind.i64.wrap ((k:Int)+1)= (k:Int)+1:=IntWalk.i64_in _ (by omega)
      gi_wp2
      exact⟨⟨k+1,xs ++ [(k,r)],by omega,by go_num,by rw [zCG],by rw [zCG];exact Nat.le_refl _,HJ3.out,HR3.out⟩,by simp [intOf];omega⟩
    ·have r1:¬ (r:Int)< (m:Int):=by omega
     have HRr:=dH hRr;have HJr:=dH hJr;have HZ:=dH hz;clear hs hbn hbs hRr hJr hz;have w1:IntKind.i64.wrap ((k:Int)+1)= (k:Int)+1:=IntWalk.i64_in _ (by omega)
     gi_wp2
     have hcol:zAe m A (k+1)=zAe m A k:=by
      show zKP m (zAe m A k) k=_;unfold zKP;have hps:lv= (zAe m A k).ps.length:=by rw [HEL.out];exact HLV.out
      have:=(zAQ m A k).le;rw [zJO (m:=m) (by omega) fun s h1 h2=>HZ.out s (by omega) (by omega)]
     exact⟨⟨k+1,xs,by omega,by go_num,hcol.trans HEL.out,by have:=HNX.out;omega,HJr.out,HRr.out⟩,by simp [intOf];omega⟩
  ·obtain rfl:k=n:=by omega
   gi_wp2
   go_end0
   exact⟨⟨_,rfl⟩,xs,hel,hJs⟩
attribute [local go_sem] Oper.semAt_some
def KeepW (A B:World):Prop:=A.heap.size≤B.heap.size∧∀ (k:Nat) (cs:Array Value) (t:TypeId) (f:Nat × Nat),A.heap[k]? =some (Obj.cells cs t f)→B.heap[k]? =some (Obj.cells cs t f)
theorem zBa {A B:World} {row:Option Nat} (hg:A.grownBy B row) (hr:∀r,row=some r→∃o:Obj,A.heap[r]? =some o∧o.isCells=false):KeepW A B:=
 ⟨hg.size,fun k cs t f hk=>(hg.block k (Array.getElem?_eq_some_iff.1 hk).1 (fun e=>by
  obtain⟨o,ho,hc⟩:=hr k e.symm;rw [hk] at ho;cases ho
  cases hc)).trans hk⟩
theorem KeepW.cell {A B:World} (h:KeepW A B) {p:Addr} {v:Value} (hc:A.cell? p=some v):B.cell? p=some v:=by
 have hl:=World.block_lt_of_cell? A _ hc;simp only [World.cell?] at hc ⊢
 cases hb:A.heap[p.block]? with
 | none=>rw [hb] at hc;simp at hc
 | some o=>
  cases o with
  | cells cs t f=>rw [h.2 _ _ _ _ hb];rw [hb] at hc;exact hc
  | _=>rw [hb] at hc;simp at hc
theorem KeepW.ints {A B:World} (h:KeepW A B) {a:Option Addr} {cap:Nat} {l:List Int} (k:Ints A a cap l):Ints B a cap l:=
 ⟨k.le,k.mx,k.nil,fun q hq i hi=>by
  obtain⟨h0,v,hv,hr⟩:=k.cells q hq i hi
  exact⟨h0,v,h.cell hv,hr⟩⟩
theorem KeepW.big {A B:World} (h:KeepW A B) {v:Value} {z:Int} (k:BigV A v z):BigV B v z:=by
 obtain⟨neg,l,⟨a,cap,e,hi⟩,hb⟩:=k;exact⟨neg,l,⟨a,cap,e,h.ints hi⟩,hb⟩
theorem KeepW.rat {A B:World} (h:KeepW A B) {v:Value} {r:Rat} (k:RatV A v r):RatV B v r:=by
 obtain⟨n1,a,q,c,n2,b,k1,d,e,h1,h2⟩:=k;exact⟨n1,a,q,c,n2,b,k1,d,e,h.big h1,h.big h2⟩
theorem KeepW.blk {A B:World} (h:KeepW A B) {b:Nat} {cs:Array Value} {t:TypeId} (k:Blk A b cs t):Blk B b cs t:=h.2 _ _ _ _ k
theorem KeepW.own {A B:World} (h:KeepW A B) {base:Nat} {e:TypeId} {s:Nat} {v:Value} {n:Nat} {xs:List Value} (k:A.ownsRow base e s v n xs):B.ownsRow base e s v n xs:=by
 refine⟨k.1,?_⟩;rcases k.2 with h2 | ⟨g,cap,cur,rfl,hb,hg2,hrest⟩
 ·exact .inl h2
 ·exact .inr ⟨g,cap,cur,rfl,hb,h.2 _ _ _ _ hg2,hrest⟩
theorem Sys.keep {w w':World} {B p m N:Nat} {ra:Option Addr} {R rc:Nat} {g cp:Nat→Nat} {V:Nat→Nat→RatC} {M:Mx} {va:Value} {ps:List Nat} (h:Sys w B p m N ra R rc g cp V M va ps) (k:KeepW w w'):Sys w' B p m N ra R rc g cp V M va ps:=
 ⟨k.blk h.box,h.hra,h.hrc,fun hm=>by obtain⟨cs,h1,h2⟩:=h.rows hm;exact⟨cs,k.blk h1,h2⟩,fun r hr=>by obtain⟨cs,h1,h2⟩:=h.row r hr;exact⟨cs,k.blk h1,h2⟩,h.cap,h.inj,fun r hr c hc=>k.rat (h.val r hr c hc),h.off,h.offA,k.own h.atl,h.low⟩
theorem RdC.own {B p m N:Nat} {ra:Option Addr} {R rc bn bs n:Nat} {A:Mx} (B0:Nat):OwnFrom B0 (RdC B p m N ra R rc bn bs n A):=fun l W W' row h hg hrow=>by
 obtain⟨⟨g,cp,V,va,hs,hv⟩,h1,h2⟩:=h;have k:=zBa hg fun r e=>(hrow r e).2;exact⟨⟨g,cp,V,va,hs.keep k,hv⟩,k.blk h1,k.blk h2⟩
def InvC (B p m N:Nat) (ra:Option Addr) (R rc bn bs n b2:Nat) (A:Mx) (w0:World) (l:List (Nat × Nat)) (W:World):Prop:=
 RdC B p m N ra R rc bn bs n A l W∧Blk W b2 #[.pointer (some ⟨p,0,none⟩)] 204∧Below B w0 W
theorem InvC.own {B p m N:Nat} {ra:Option Addr} {R rc bn bs n b2:Nat} {A:Mx} {w0:World} {B0:Nat} (hB:B≤B0) (hB1:B≤w0.heap.size):OwnFrom B0 (InvC B p m N ra R rc bn bs n b2 A w0):=fun l W W' row h hg hrow=>by
 obtain⟨h1,h2,h3⟩:=h;have k:=zBa hg fun r e=>(hrow r e).2;exact⟨RdC.own B0 l W W' row h1 hg hrow,k.blk h2,h3.grown hg (Nat.le_trans hB1 h3.size) (fun r e=>Nat.le_trans hB (hrow r e).1)⟩
theorem Sys.congr {w:World} {B p m N:Nat} {ra:Option Addr} {R rc:Nat} {g cp:Nat→Nat} {V:Nat→Nat→RatC} {M M':Mx} {va:Value} {ps:List Nat} (h:Sys w B p m N ra R rc g cp V M va ps) (k:∀r,r<m→∀c,c<N→M r c=M' r c):Sys w B p m N ra R rc g cp V M' va ps:=
 ⟨h.box,h.hra,h.hrc,h.rows,h.row,h.cap,h.inj,fun r hr c hc=>by rw [←k r hr c hc];exact h.val r hr c hc,h.off,h.offA,h.atl,h.low⟩
theorem zHP {w:World} {B:Nat} {va:Value} {n:Nat} {xs:List Value} (h:w.ownsRow B 3 1 va n xs):∃a c,va=.slice a n c:=by
 rcases h.2 with⟨rfl,h0⟩ | ⟨_,_,_,rfl,_⟩
 ·exact⟨_,_,by rw [h0]⟩
 ·exact⟨_,_,rfl⟩
theorem Sys.swapPut {w:World} {B p m N:Nat} {ra:Option Addr} {R rc:Nat} {g cp:Nat→Nat} {V:Nat→Nat→RatC} {M:Mx} {va:Value} {ps:List Nat} (h:Sys w B p m N ra R rc g cp V M va ps) {d i:Nat} (hd:d<m) (hi:i<m) (u v:Value):
 w.frozen? ⟨R,d,none⟩=false∧(w.setCell ⟨R,d,none⟩ u).frozen? ⟨R,i,none⟩=false∧(∃x,(w.setCell ⟨R,d,none⟩ u).cell? ⟨R,i,none⟩=some x)∧
  (∀b,b≠R→∀o x,w.cell? ⟨b,o,none⟩=some x→(w.setCell ⟨R,d,none⟩ u).cell? ⟨b,o,none⟩=some x∧((w.setCell ⟨R,d,none⟩ u).setCell ⟨R,i,none⟩ v).cell? ⟨b,o,none⟩=some x):=by
 obtain⟨cs,h1,h2⟩:=h.rows (by omega);have hz:i<cs.size:=(Array.getElem?_eq_some_iff.1 (h2 i hi)).1;refine⟨h1.free d,(h1.set d u).free i,⟨_,(h1.set d u).cell (i:=i) (v:=(cs.setIfInBounds d u)[i]'(by simpa using hz)) (Array.getElem?_eq_getElem _)⟩,fun b hb o x hx=>?_⟩;have e1:(w.setCell ⟨R,d,none⟩ u).cell? ⟨b,o,none⟩=some x:=(World.cell?_setCell_far _ ⟨R,d,none⟩ _ u (by dsimp only;omega)).trans hx;exact⟨e1,(World.cell?_setCell_far _ ⟨R,i,none⟩ _ v (by dsimp only;omega)).trans e1⟩
theorem Sys.ne {w:World} {B p m N:Nat} {ra:Option Addr} {R rc:Nat} {g cp:Nat→Nat} {V:Nat→Nat→RatC} {M:Mx} {va:Value} {ps:List Nat} (h:Sys w B p m N ra R rc g cp V M va ps) (hm:0<m):p≠R∧(∀r,r<m→p≠g r)∧(∀r,r<m→R≠g r):=by
 obtain⟨cs,h1,h2⟩:=h.rows hm;refine⟨zAz h.box h1 (by decide),fun r hr=>?_,fun r hr=>?_⟩
 ·obtain⟨cs0,hb0,_⟩:=h.row r hr;exact zAz h.box hb0 (by decide)
 ·obtain⟨cs0,hb0,_⟩:=h.row r hr;exact zAz h1 hb0 (by decide)
theorem Sys.neBox {w:World} {B p m N:Nat} {ra:Option Addr} {R rc:Nat} {g cp:Nat→Nat} {V:Nat→Nat→RatC} {M:Mx} {va:Value} {ps:List Nat} (h:Sys w B p m N ra R rc g cp V M va ps) {b:Nat} {cs:Array Value} {t:TypeId} (hb:Blk w b cs t) (h1:210≠t) (h2:23≠t) (h3:38≠t):∀x,zFy p m R g x→b≠x:=by
 rintro x (rfl | ⟨hm,rfl⟩ | ⟨r,hr,rfl⟩)
 ·exact fun e=>zAz h.box hb h1 e.symm
 ·obtain⟨cs1,k1,_⟩:=h.rows hm;exact fun e=>zAz k1 hb h2 e.symm
 ·obtain⟨cs1,k1,_⟩:=h.row r hr;exact fun e=>zAz k1 hb h3 e.symm
theorem zJ1 (k:Nat):(1073741824:Nat) ^ k=2 ^ (30*k):=by rw [Nat.pow_mul]
theorem zBZ {x E k:Nat} (h:x<2 ^ E) (hk:E≤30*k):x<1073741824 ^ k:=by
 rw [zJ1];exact Nat.lt_of_lt_of_le h (Nat.pow_le_pow_right (by omega) hk)
theorem CdX.sz {m N E k:Nat} {M:Mx} (h:CdX m N E M) (hk:E≤30*k) {r c:Nat} (hr:r<m) (hc:c<N):Sz (M r c) k:=by
 obtain⟨D,h0,h1,h2⟩:=h;obtain⟨z,h3,h4⟩:=h2 r hr c hc;rw [h4,show((D:Nat):Rat)= (((D:Nat):Int):Rat) from(Rat.intCast_natCast D).symm,←Rat.divInt_eq_div];exact zBk (zBZ h3 hk) (by rw [Int.natAbs_natCast];exact zBZ h1 hk) (by omega)
theorem CdX.szq {m N E k i j c:Nat} {M:Mx} (h:CdX m N E M) (hk:E≤30*k) (hi:i<m) (hc:c<N) (hj:j<N) (hne:M i j≠0):Sz (M i c / M i j) k:=by
 obtain⟨D,h0,h1,h2⟩:=h;obtain⟨z,h3,h4⟩:=h2 i hi c hc;obtain⟨y,h5,h6⟩:=h2 i hi j hj;have hD:=zG6 h0;have hy:y≠0:=fun e=>hne (by rw [h6,e];grind);have hyr:(y:Rat)≠0:=fun e=>hy (by exact_mod_cast e);rw [h4,h6,show(z:Rat) / (D:Rat) / ((y:Rat) / (D:Rat))= (z:Rat) / (y:Rat) from by grind,←Rat.divInt_eq_div];exact zBk (zBZ h3 hk) (zBZ h5 hk) hy
theorem zJ2 (f:Nat→Rat) (S:Mx) (x:Rat) (d c r c':Nat):(if r=d∧c'=c then f c / x else if r=d∧c'<c then f c' / x else S r c')=if r=d∧c'<c+1 then f c' / x else S r c':=by
 by_cases h1:r=d∧c'=c
 ·rw [if_pos h1,if_pos ⟨h1.1,by omega⟩,h1.2]
 ·rw [if_neg h1];by_cases h2:r=d∧c'<c
  ·rw [if_pos h2,if_pos ⟨h2.1,by omega⟩]
  ·rw [if_neg h2,if_neg (by omega)]
theorem zJP (S R:Mx) (f:Nat→Rat) (x:Rat) (j c r c':Nat):(if r=j∧c'=c then S j c - f c*x else if r=j∧c'<c then S j c' - f c'*x else R r c')=if r=j∧c'<c+1 then S j c' - f c'*x else R r c':=by
 by_cases h1:r=j∧c'=c
 ·rw [if_pos h1,if_pos ⟨h1.1,by omega⟩,h1.2]
 ·rw [if_neg h1];by_cases h2:r=j∧c'<c
  ·rw [if_pos h2,if_pos ⟨h2.1,by omega⟩]
  ·rw [if_neg h2,if_neg (by omega)]
theorem zLl:(Tryz.prog.info? 3).map (fun i=>(i.zero,i.size,i.bytes))=some (some (.int .i64 0),1,8):=by kernel_rfl
theorem zEH {ops:Array Oper} {o:Oper} {a:Act} {K:Act→World→Prop} {Q:Exit→Act→World→Prop} {E:Prop} (hgd:o.guard=none) (s y:Operand)
 (ho:o.op=.call {callee:=.builtin .append,args:=#[s,y],argTypes:=#[34,34]}) {w:World} {B:Nat} (hB:B≤w.heap.size) {v:Value} {n:Nat} {xs:List Value} (hs:a.eval s=v) (hown:w.ownsRow B 3 1 v n xs)
 {g:Nat} (hy:a.eval y=.slice (some ⟨g,0,none⟩) 1 1) {t:TypeId} {z:Int} (hb:Blk w g #[.int .i64 z] t) (hlen:n≤1000000)
 (h:∀v' w',w'.ownsRow B 3 1 v' (n+1) (xs ++ [.int .i64 z])→w.grownBy w' v.ownBlock→(v'.ownBlock=v.ownBlock∨v'.ownBlock=some w.heap.size)→K (a.put o.dst v') w'):
 if Region.wanted o (yielded ops a.tmps)=true then Oper.wp Tryz.prog o a w K Q else E:=by
 have hw:Region.wanted o (yielded ops a.tmps)=true:=by simp [Region.wanted,hgd]
 rw [if_pos hw];obtain⟨i0,hi0,hz0,hz1,hz2⟩:=info_parts zLl
 obtain⟨v',w',hr,h1,h2,h3,h4⟩:=run_append_own_at w B 34 o.type 3 i0 _ 1 8 Tryz.underlying34 hi0 hz0 hz1 hz2 rfl (by decide) v n xs hown ⟨g,0,none⟩ 1 1 [.int .i64 z] rfl (fun j u hu=>by
  rw [Addr.add_off];have:j=0:=by
   have:=(List.getElem?_eq_some_iff.1 hu).1;simp at this;exact this
  subst this;simp only [List.getElem?_cons_zero,Option.some.injEq] at hu;subst hu
  exact hb.cell rfl) (fun u hu=>by rw [List.mem_singleton.1 hu];rfl) (by unfold maxLen;omega) (by omega) hB
 unfold Oper.wp execOp;simp only [ho,resolve,invoke,builtin,Sem.run_bind,Sem.run_pure,Result.andThen_ok,List.map_toArray,List.map_cons,List.map_nil,hs,hy,hr];exact h v' w' h1 h2 h4
theorem zEI {w w':World} {b:Option Nat} (hg:w.grownBy w' b) (hc:∀r,b=some r→∃cs t f,w.heap[r]? =some (Obj.cells cs t f)):KeepsOthers w w':=
 ⟨hg.size,fun k o hk ho=>(hg.block k (Array.getElem?_eq_some_iff.1 hk).1 (fun e=>by
  obtain⟨cs,t,f,h⟩:=hc k e.symm;rw [hk] at h;cases h
  cases ho)).trans hk⟩
def zCi (M Sm:Mx) (d i k j:Nat):Mx:=fun r c=>if r=d then M i c / M i k else if r<j then Sm r c - M i c / M i k*Sm r k else Sm r c
structure EnvC (B p n b2 bs:Nat) (w0 W0 W:World):Prop where
 k2:Blk W b2 #[.pointer (some ⟨p,0,none⟩)] 204
 kn:Blk W (bs+1) #[.int .i64 n] 3
 ks:Blk W bs #[.pointer (some ⟨p,0,none⟩)] 204
 bl:Below B w0 W
 lo:B≤W.heap.size
 ot:KeepsOthers W0 W
theorem EnvC.ext {B p n b2 bs:Nat} {w0 W0 W W':World} (h:EnvC B p n b2 bs w0 W0 W) (k:Ext W W'):EnvC B p n b2 bs w0 W0 W':=
 ⟨h.k2.ext k,h.kn.ext k,h.ks.ext k,h.bl.trans (k.mono h.lo),Nat.le_trans h.lo k.size,h.ot.trans k.others⟩
theorem EnvC.set {B p n b2 bs:Nat} {w0 W0 W:World} (h:EnvC B p n b2 bs w0 W0 W) {b:Nat} (hb:B≤b) (h2:b2≠b) (hn:bs+1≠b) (hs:bs≠b) (i:Nat) (u:Value):EnvC B p n b2 bs w0 W0 (W.setCell ⟨b,i,none⟩ u):=
 ⟨h.k2.other (p:=⟨b,i,none⟩) h2 u,h.kn.other (p:=⟨b,i,none⟩) hn u,h.ks.other (p:=⟨b,i,none⟩) hs u,h.bl.setCell (p:=⟨b,i,none⟩) hb u,by have:=h.lo;simp;exact this,h.ot.trans (KeepsOthers.setCell _ _ _)⟩
theorem EnvC.off {B p n b2 bs:Nat} {w0 W0 W:World} (h:EnvC B p n b2 bs w0 W0 W) {m N:Nat} {ra:Option Addr} {R rc:Nat} {g cp:Nat→Nat} {V:Nat→Nat→RatC} {M:Mx} {va:Value} {ps:List Nat} (k:Sys W B p m N ra R rc g cp V M va ps) {b:Nat} (hb:zFy p m R g b):B≤b∧b2≠b∧bs+1≠b∧bs≠b:=
 ⟨k.low b hb,k.neBox h.k2 (by decide) (by decide) (by decide) b hb,k.neBox h.kn (by decide) (by decide) (by decide) b hb,k.neBox h.ks (by decide) (by decide) (by decide) b hb⟩
theorem EnvC.put {B p n b2 bs:Nat} {w0 W0 W:World} (h:EnvC B p n b2 bs w0 W0 W) {b:Nat} (hb:B≤b∧b2≠b∧bs+1≠b∧bs≠b) (i:Nat) (u:Value):EnvC B p n b2 bs w0 W0 (W.setCell ⟨b,i,none⟩ u):=h.set hb.1 hb.2.1 hb.2.2.1 hb.2.2.2 i u
theorem EnvC.put4 {B p n b2 bs:Nat} {w0 W0 W:World} (h:EnvC B p n b2 bs w0 W0 W) {b:Nat} (hb:B≤b∧b2≠b∧bs+1≠b∧bs≠b) (i:Nat) (x:RatC):EnvC B p n b2 bs w0 W0 (zJ0 W b i x):=(((h.put hb _ _).put hb _ _).put hb _ _).put hb _ _
theorem EnvC.at {B p n b2 bs:Nat} {w0 W0 W W':World} (h:EnvC B p n b2 bs w0 W0 W) {va:Value} {l:Nat} {xs:List Value} (ho:W.ownsRow B 3 1 va l xs) (hna:va.ownBlock≠some (bs+1)) (hg:W.grownBy W' va.ownBlock):EnvC B p n b2 bs w0 W0 W':=by
 refine⟨zA5 h.k2 hg (zAI ho h.k2 (by decide)),zA5 h.kn hg hna,zA5 h.ks hg (zAI ho h.ks (by decide)),h.bl.grown hg h.lo (fun r e=>(World.ownsRow.lt ho r e).1),Nat.le_trans h.lo hg.size,h.ot.trans (zEI hg fun r e=>?_)⟩;rcases ho.2 with⟨rfl,_⟩ | ⟨g,cap,cur,rfl,_,h2,_⟩
 ·cases e
 ·simp only [Value.ownBlock,Option.some.injEq] at e;subst e;exact⟨_,_,_,h2⟩
theorem zG8 (B p m N:Nat) (ra:Option Addr) (R rc:Nat) (g cp:Nat→Nat) (V:Nat→Nat→RatC) (A:Mx) (va:Value) (n e:Nat) (w:World) (hs:Sys w B p m N ra R rc g cp V A va []) (hcd:CdX m N e A) (hn:n≤N) (hN:N≤100) (hm:m≤100) (he:2 ^ n* (e+1)≤40920) (hB:B≤w.heap.size):
 Calls Tryz.prog 178 #[.pointer (some ⟨p,0,none⟩),.int .i64 n] w fun e w'=>(∃v,e=.returned v)∧(∃g cp V va,Sys w' B p m N ra R rc g cp V (zAe m A n).M va (zAe m A n).ps)∧Below B w w':=by
 have HS:=dH hs;have HCD:=dH hcd;clear hs hcd;refine(callsIn_wide (n:=5)).1 ?_;refine callsIn_of_wp_marks Tryz.func178 rfl trivial ?_ rfl;simp only [Tryz.ntmps178,List.size_toArray,List.length_cons,List.length_nil,Nat.reduceAdd,Nat.reduceSub,Array.replicate_succ,Array.replicate_zero,List.push_toArray,List.append_toArray,List.nil_append,List.cons_append];refine wpIn_wide.2 ?_;have hx:=Ext.alloc w (.cells #[.pointer (some ⟨p,0,none⟩)] 204);have Kb:=dH (Blk.new0 w #[.pointer (some ⟨p,0,none⟩)] 204);go_upto_region 1 with fail;have HX:=dH hx;have hsz:=hx.size;have HBW:=dH hB;clear hx;generalize w.alloc (.cells #[.pointer (some ⟨p,0,none⟩)] 204)=x1 at *;generalize hb2:w.heap.size=b2 at *;have HB2:=dH hb2;clear hb2;have c0:=Kb.out.cell (i:=0) rfl;go_wp2_with fail;refine(zFj p n x1).mono ?_;rintro e0 w2 ⟨rfl,rfl⟩;have hx2:Ext x1 ((x1.alloc (.cells #[.pointer (some ⟨p,0,none⟩)] 204)).alloc (.cells #[.int .i64 n] 3)):=(Ext.alloc _ _).alloc' _;have k1:=(Blk.new0 x1 #[.pointer (some ⟨p,0,none⟩)] 204).alloc (.cells #[.int .i64 n] 3);have k2:=Blk.new1 x1 (.cells #[.pointer (some ⟨p,0,none⟩)] 204) #[.int .i64 n] 3;have hr0:RdC B p m N ra R rc (x1.heap.size+1) x1.heap.size n A [] ((x1.alloc (.cells #[.pointer (some ⟨p,0,none⟩)] 204)).alloc (.cells #[.int .i64 n] 3)):=⟨⟨g,cp,V,va,(HS.out.ext HX.out).ext hx2,fun e=>by have:=(World.ownsRow.lt (HS.out.ext HX.out).atl _ e).2;omega⟩,k2,k1⟩
 have hi0:InvC B p m N ra R rc (x1.heap.size+1) x1.heap.size n b2 A w [] ((x1.alloc (.cells #[.pointer (some ⟨p,0,none⟩)] 204)).alloc (.cells #[.int .i64 n] 3)):=⟨hr0,Kb.out.ext hx2,(HX.out.trans hx2).mono (by rw [HB2.out];exact HBW.out)⟩
 have HR0:=dH hr0;have HI0:=dH hi0;have hsz2:=hx2.size;clear k1 k2 hr0 hi0 hx2 c0 Kb;generalize (x1.alloc (.cells #[.pointer (some ⟨p,0,none⟩)] 204)).alloc (.cells #[.int .i64 n] 3)=x2 at *;generalize x1.heap.size=bs at *;go_wp2_with fail;refine(wpIn_wide (n:=5)).1 ?_
 refine zD3 (by omega) (gf:=219) (lb:=#[.pointer (some ⟨bs+1,0,none⟩),.pointer (some ⟨bs,0,none⟩)]) rfl (enters_of Tryz.func219 (by kernel_rfl) rfl)
  (zHO 4 B p m N ra R rc (bs+1) bs n A hn (by omega) (by omega) x2) (fun _=>rfl)
  (InvC B p m N ra R rc (bs+1) bs n b2 A w) (InvC.own (by omega) (by rw [HB2.out];exact HBW.out)) (fun _ _ _ _ h _ _=>h) (RdC.own _) (fun _ _ _ _ h _ _=>h) HI0.out HR0.out ?a1 ?assign ?body ?done
 case assign=>
  intro lp x W K hK
  gi_wp2
  exact hK
 case body=>
  rintro lp pre ⟨k,i⟩ W hI hOk;obtain⟨hkn,hel,hfi⟩:=hOk pre (k,i) rfl;dsimp only at hkn hel hfi ⊢;obtain⟨⟨⟨g,cp,V,va,hs,hna⟩,hbn,hbs⟩,hb2,hbl⟩:=hI;rw [←hel] at hs;have hle:=(zAQ m A k).le;have hnx:zAe m A (k+1)= ⟨zBr (zAe m A k).M (zAe m A k).ps.length i k,(zAe m A k).ps ++ [k]⟩:=by
   show zKP m (zAe m A k) k=_;unfold zKP;rw [hfi]
  have HNX:=dH hnx;obtain⟨f1,f2,f3,f4⟩:=zCF hfi;have HCK:=dH (HCD.out.elim (show k≤N by omega));have hpk:(zAe m A k).ps.length≤k:=(zHN m k A).2;clear hel hfi hnx hOk;generalize hst:zAe m A k=st at *;clear hst;obtain⟨M,ps⟩:=st;dsimp only at *;obtain⟨d,hd⟩:∃d,ps.length=d:=⟨_,rfl⟩
  have HD:=dH hd;rw [hd] at f1 f2 f4 hle HNX HCK hpk;have hdm:d<m:=by omega
  have him:i<m:=by omega
  obtain⟨av,cv,rfl⟩:=zHP hs.atl;rw [hd] at hs hna;have d0:=hb2.cell (i:=0) rfl;have d1:=hs.box.cell (i:=0) rfl;have HS:=dH hs;have HEN:Hid (EnvC B p n b2 bs w W W):=dH ⟨hb2,hbn,hbs,hbl,Nat.le_trans (by rw [HB2.out];exact HBW.out) hbl.size,KeepsOthers.refl _⟩;have HF3:=dH f3;have HNA:=dH hna;clear hs hbn hbs hb2 hbl f3 f4 hd hna
  gi_wp2
  refine⟨trivial,(callsIn_wide.2 (zCb p av d cv _ d1)).mono ?_⟩;rintro e1 w2 ⟨rfl,rfl⟩;gi_upto_region 5 with fail;obtain rfl:=HS.out.hra (by omega);have hrc:=HS.out.hrc;have s0:W.cell? ⟨b2,0,none⟩=some (.pointer (some ⟨p,0,none⟩)):=d0;have s1:W.cell? ⟨p,1,none⟩=some (.slice (some ⟨R,0,none⟩) m rc):=HS.out.box.cell rfl;have t0:W.cell? ⟨R,d,none⟩=some (.slice (some ⟨g d,0,none⟩) N (cp d)):=HS.out.top hdm;have t1:W.cell? ⟨R,i,none⟩=some (.slice (some ⟨g i,0,none⟩) N (cp i)):=HS.out.top him;have hyd:Ext W (World.drew W):=(Ext.refl _).drew;have hRB:=HEN.out.off HS.out (b:=R) (.inr (.inl ⟨by omega,rfl⟩));have hb2R:=hRB.2.1;have hpR:=(HS.out.ne (by omega)).1;replace HS:=dH (HS.out.ext hyd);replace HEN:=dH (HEN.out.ext hyd);have d0':(0:Int)≤(d:Int):=by omega
  have d1':(d:Int)< (m:Int):=by omega
  have i0':(0:Int)≤(i:Int):=by omega
  have i1':(i:Int)< (m:Int):=by omega
  obtain⟨z0,z1,z2,z3⟩:=HS.out.swapPut hdm him (.slice (some ⟨g i,0,none⟩) N (cp i)) (.slice (some ⟨g d,0,none⟩) N (cp d));replace s0:World.cell? (World.drew W) ⟨b2,0,none⟩=some (.pointer (some ⟨p,0,none⟩)):=s0;replace s1:World.cell? (World.drew W) ⟨p,1,none⟩=some (.slice (some ⟨R,0,none⟩) m rc):=s1;replace t0:World.cell? (World.drew W) ⟨R,d,none⟩=some (.slice (some ⟨g d,0,none⟩) N (cp d)):=t0;replace t1:World.cell? (World.drew W) ⟨R,i,none⟩=some (.slice (some ⟨g i,0,none⟩) N (cp i)):=t1;obtain⟨sa0,sb0⟩:=z3 b2 hb2R _ _ s0;obtain⟨sa1,sb1⟩:=z3 p hpR _ _ s1;obtain⟨z2x,z2⟩:=z2;clear z3 hyd d0 d1
  gi_cut [] from 144 (fun wx=>Sys wx B p m N (some ⟨R,0,none⟩) R rc (sw g d i) (sw cp d i) (sw V d i) (zBK M d i) (.slice av d cv) ps∧EnvC B p n b2 bs w W wx)
  case first=>
   refine zA8 (S:=(fun w'=>w'.cell? ⟨b2,0,none⟩=some (.pointer (some ⟨p,0,none⟩))∧w'.cell? ⟨p,1,none⟩=some (.slice (some ⟨R,0,none⟩) m rc))) (by kernel_rfl) (by kernel_rfl) (by rintro⟨_,_,h⟩;exact h) ?_ (fun hHeld=>?_)
   ·(first | exact⟨s0,s1⟩ | exact⟨sa0,sa1⟩ | exact⟨sb0,sb1⟩)
   (try simp only [pur,Nat.reduceAdd])
   generalize World.drew W=x3 at *
   iterate 22
    refine tkR [0,1,2,3,4,5,6,7,8,9,10,11,12,13,14,15,17,18,19,20,21,22] (v:=?_) rfl rfl (by kernel_rfl) (fun _ _ _ h=>h) (by rfl) ?_ (by assumption) ?_;rotate_left
    ·(intro w hSw;(try dsimp only at hSw);(try go_simp);(try with_reducible rfl))
    (try simp only [Act.put,pus])
   repeat' first
    | (refine tkR [24,26] (v:=?_) rfl rfl (by decide +kernel) (fun _ _ _ h=>h) (by rfl) ?_ (by assumption) ?_
       rotate_left
       ·(intro w hSw;(try dsimp only at hSw);(try go_simp);(try with_reducible rfl))
       (try simp only [Act.put,pus]))
    | (refine wpAnyH_done (by decide +kernel) ?_ _
       gi_wp2_with fail;gi_meet
       exact⟨HS.out.swap hdm him,(HEN.out.put hRB _ _).put hRB _ _⟩)
    | (refine rdR [16,23,25,27] (by decide +kernel) (zAt ?_ (zAt ?_ (zAt ?_ (zAt ?_ zFw))))
       iterate 4
        first
        | exact noR (by decide +kernel)
        | (refine isR (o:=_) rfl (fun K hK=>?_)
           go_simp
           rotate_left)
       all_goals (
        refine hK.out _ _ ?_ ?_
        ·(first | exact⟨s0,s1⟩ | exact⟨sa0,sa1⟩ | exact⟨sb0,sb1⟩)
        clear hK K hHeld;intro hHeld
        (try simp only [Act.put,pus])))
  case rest=>
   obtain⟨hs,hen⟩:=hcut;have hE:2 ^ d* (e+1) - 1≤30*682:=by
    have h1:2 ^ (d+1)≤2 ^ n:=Nat.pow_le_pow_right (by omega) (by omega);have h2:2 ^ (d+1)* (e+1)≤2 ^ n* (e+1):=Nat.mul_le_mul_right _ h1;rw [Nat.pow_succ,Nat.mul_right_comm] at h2;omega
   have HZ:=dH (fun r c (hr:r<m) (hc:c<N)=>HCK.out.sz hE hr hc);have HZQ:=dH (fun c (hc:c<N)=>HCK.out.szq hE him hc (show k<N by omega) HF3.out);have hM1:zBK M d i d=M i:=by unfold zBK;rw [if_pos rfl]
   have HZ1:=dH (show ∀r c,r<m→c<N→Sz (zBK M d i r c) 682 from fun r c hr hc=>by
    unfold zBK
    split
    ·exact HZ.out i c him hc
    ·split
     ·exact HZ.out d c hdm hc
     ·exact HZ.out r c hr hc)
   have HSX:Hid (zBr M d i k=fun r c=>if r=d then M i c / M i k else zBK M d i r c - M i c / M i k*zBK M d i r k):=dH rfl;have HM1:=dH hM1;clear hM1 HCK HS hE t0 t1 z0 z1 z2 s0 s1 sa0 sa1 sb0 sb1 HEN hRB hb2R hpR;generalize sw g d i=g1 at *;generalize sw cp d i=cp1 at *;generalize sw V d i=V1 at *;generalize hSm:zBK M d i=Sm at *;have HSm:=dH hSm;clear hSm;have hkN:k<N:=by omega
   have k0':(0:Int)≤(k:Int):=by omega
   have k1':(k:Int)< (N:Int):=by omega
   have s0:wc.cell? ⟨b2,0,none⟩=some (.pointer (some ⟨p,0,none⟩)):=hen.k2.cell rfl;have s1:wc.cell? ⟨p,1,none⟩=some (.slice (some ⟨R,0,none⟩) m rc):=hs.box.cell rfl;have s2:=hs.top hdm;have hcp:=hs.cap d hdm;obtain⟨e0,e1,e2,e3⟩:=(hs.row d hdm).cells hkN;have hby:=hs.x hdm hkN;rw [show Sm d k=M i k from congrFun HM1.out k] at hby;have hbyf:=hby;generalize V1 d k=by_ at *;obtain⟨nb,ab,qb,cb,mb,bb,kb,db⟩:=by_;dsimp only [RatC.val] at e0 e1 e2 e3;have HS:=dH hs;have HEN:=dH hen;have HBY:=dH hby;clear hs hen hby hbyf;gi_upto_region 8 with fail;have hl:=Ext.alloc wc (.cells #[.bool nb,.slice ab qb cb,.bool mb,.slice bb kb db] 38);have hb8:=Blk.new0 wc #[.bool nb,.slice ab qb cb,.bool mb,.slice bb kb db] 38;have hoff8:∀x,zFy p m R g1 x→wc.heap.size≠x:=fun x hx=>by have:=HS.out.lt x hx;omega
   replace HS:=dH (HS.out.ext hl);replace HEN:=dH (HEN.out.ext hl);replace HBY:=dH (HBY.out.ext hl);have HB8:=dH hb8;have HO8:=dH hoff8;clear hl hb8 hoff8 e0 e1 e2 e3 s0 s1 s2;generalize wc.alloc (.cells #[.bool nb,.slice ab qb cb,.bool mb,.slice bb kb db] 38)=x4 at *;generalize wc.heap.size=b8 at *
   gi_wp2
   gi_loopw [64] (fun v wr=>∃c:Nat,c≤N∧v=.int .i64 c∧(∃V,Sys wr B p m N (some ⟨R,0,none⟩) R rc g1 cp1 V (fun r c'=>if r=d∧c'<c then M i c' / M i k else Sm r c') (.slice av d cv) ps)∧EnvC B p n b2 bs w W wr∧Blk wr b8 #[.bool nb,.slice ab qb cb,.bool mb,.slice bb kb db] 38∧SysX wr p m R g1 (.slice av d cv) ⟨nb,ab,qb,cb,mb,bb,kb,db⟩ (M i k)) (fun v _=>N - (intOf v).toNat)
   case atStart=>exact⟨0,Nat.zero_le _,rfl,⟨V1,HS.out.congr fun r _ c _=>by rw [if_neg (by omega)]⟩,HEN.out,HB8.out,HBY.out⟩
   case round=>
    obtain⟨c,hc,rfl,⟨V,hs⟩,hen,hb8,hby⟩:=hrel;by_cases hcN:c<N
    ·have c0':(0:Int)≤(c:Int):=by omega
     have c1':(c:Int)< (N:Int):=by omega
     have hw1:IntKind.i64.wrap ((c:Int)+1)= (c:Int)+1:=IntWalk.i64_in _ (by omega);have HS:=dH hs;have HEN:=dH hen;have HB8:=dH hb8;have HBY:=dH hby;clear hs hen hb8 hby;gi_upto_region 11 with fail;have hyd:Ext wr (World.drew wr):=(Ext.refl _).drew;replace HS:=dH (HS.out.ext hyd);replace HEN:=dH (HEN.out.ext hyd);replace HB8:=dH (HB8.out.ext hyd);replace HBY:=dH (HBY.out.ext hyd);have s0:World.cell? (World.drew wr) ⟨b8,0,none⟩=some (.bool nb):=HB8.out.cell rfl;have s1:World.cell? (World.drew wr) ⟨b8,1,none⟩=some (.slice ab qb cb):=HB8.out.cell rfl;have s2:World.cell? (World.drew wr) ⟨b8,2,none⟩=some (.bool mb):=HB8.out.cell rfl;have s3:World.cell? (World.drew wr) ⟨b8,3,none⟩=some (.slice bb kb db):=HB8.out.cell rfl;obtain⟨e0,e1,e2,e3⟩:=(HS.out.row d hdm).cells hcN;have HV:=dH (HS.out.val d hdm c hcN);rw [if_neg (by omega)] at HV;have hgd:zFy p m R g1 (g1 d):=.inr (.inr ⟨d,hdm,rfl⟩);have hge:=HEN.out.off HS.out hgd;generalize hx:V d c=x at *;obtain⟨nx,ax,qx,cx,mx,bx,kx,dx⟩:=x;dsimp only [RatC.val] at e0 e1 e2 e3 HV;clear hyd hx;refine zA8 (S:=(fun w'=>w'.cell? ⟨b8,0,none⟩=some (.bool nb)∧w'.cell? ⟨b8,1,none⟩=some (.slice ab qb cb)∧w'.cell? ⟨b8,2,none⟩=some (.bool mb)∧w'.cell? ⟨b8,3,none⟩=some (.slice bb kb db))) (by kernel_rfl) (by kernel_rfl) (by rintro⟨_,_,h⟩;exact h) ?_ (fun hHeld=>?_)
     ·exact⟨s0,s1,s2,s3⟩
     (try simp only [pur,Nat.reduceAdd])
     generalize World.drew wr=x5 at *
     iterate 6
      refine tkR [0,1,2,3,4,6] (v:=?_) rfl rfl (by kernel_rfl) (fun _ _ _ h=>h) (by rfl) ?_ (by assumption) ?_;rotate_left
      ·(intro w hSw;(try dsimp only at hSw);(try go_simp);(try with_reducible rfl))
      (try simp only [Act.put,pus])
     refine wpAnyH_ready (rs:=[5]) (by kernel_rfl) (by simp) ?_;refine AllReadyH.cons (o:=_) rfl (fun K hK=>?_) ?_
     ·go_simp;refine hK.out _ _ ?_ ?_
      ·exact⟨s0,s1,s2,s3⟩
      clear hK K hHeld;intro hHeld
      (try simp only [Act.put,pus])
      refine wpAnyH_ready (rs:=[7]) (by kernel_rfl) (by simp) ?_;refine AllReadyH.cons (o:=_) rfl (fun K hK=>?_) ?_
      ·go_simp
       (with_reducible refine(zGO HV.out HBY.out.val (HZ1.out d c hdm hcN) (HZ.out i k him hkN) (by omega) HF3.out).mono ?_);rintro e9 y1 ⟨v9,rfl,hv,hy⟩;obtain⟨n9,a9,q9,c9,b9,k9,d9,rfl,hv',hf',hg'⟩:=hv;have HX:=dH (HS.out.fresh (x:=⟨n9,a9,q9,c9,false,b9,k9,d9⟩) hv' hy ⟨fun _=>hf',fun _=>hg'⟩);replace HS:=dH (HS.out.ext hy);replace HEN:=dH (HEN.out.ext hy);replace HB8:=dH (HB8.out.ext hy);replace HBY:=dH (HBY.out.ext hy);replace s0:=zA0 hy s0;replace s1:=zA0 hy s1;replace s2:=zA0 hy s2;replace s3:=zA0 hy s3;clear hy hv' hf' hg' e0 e1 e2 e3 HV
       refine hK.out _ _ ?_ ?_
       ·exact⟨s0,s1,s2,s3⟩
       clear hK K hHeld;intro hHeld
       (try simp only [Act.put,pus])
       iterate 4
        refine tkR [8,9,10,11] (v:=?_) rfl rfl (by kernel_rfl) (fun _ _ _ h=>h) (by rfl) ?_ (by assumption) ?_;rotate_left
        ·(intro w hSw;(try dsimp only at hSw);(try go_simp);(try with_reducible rfl))
        (try simp only [Act.put,pus])
       refine wpAnyH_ready (rs:=[12]) (by kernel_rfl) (by simp) ?_;refine AllReadyH.cons (o:=_) rfl (fun K hK=>?_) ?_
       ·obtain⟨PP,_⟩:=(HS.out.row d hdm).put hcN ⟨n9,a9,q9,c9,false,b9,k9,d9⟩;obtain⟨p0,p1,p2,p3,⟨_,p4⟩,⟨_,p5⟩,⟨_,p6⟩,⟨_,p7⟩⟩:=PP;dsimp only at p0 p1 p2 p3 p4 p5 p6 p7;go_simp;clear p0 p1 p2 p3 p4 p5 p6 p7;replace HB8:=dH (zA5 HB8.out (zEE y1 (g1 d) c ⟨n9,a9,q9,c9,false,b9,k9,d9⟩) (fun e=>HO8.out _ hgd (by injection e with e;exact e.symm)));replace HBY:=dH (HBY.out.put hgd (zEE y1 (g1 d) c ⟨n9,a9,q9,c9,false,b9,k9,d9⟩));replace HEN:=dH (HEN.out.put4 hge c ⟨n9,a9,q9,c9,false,b9,k9,d9⟩);replace HS:=dH (HS.out.put hdm hcN HX.out);replace s0:=HB8.out.cell (i:=0) rfl;replace s1:=HB8.out.cell (i:=1) rfl;replace s2:=HB8.out.cell (i:=2) rfl;replace s3:=HB8.out.cell (i:=3) rfl;refine hK.out _ _ ?_ ?_
        ·exact⟨s0,s1,s2,s3⟩
        clear hK K hHeld;intro hHeld
        (try simp only [Act.put,pus])
        refine wpAnyH_done (by kernel_rfl) ?_ _;gi_wp2_with fail;go_roundw
        case rel=>exact⟨c+1,by omega,by go_num,⟨_,HS.out.congr fun r hr c' hc'=>by rw [HM1.out];exact zJ2 (M i) Sm (M i k) d c r c'⟩,HEN.out,HB8.out,HBY.out⟩
        case measure=>simp [intOf];omega
       exact AllReadyH.nil
      exact AllReadyH.nil
     exact AllReadyH.nil
    ·have hce:c=N:=by omega
     have HS2:=dH (hs.congr (M':=zCi M Sm d i k 0) fun r hr c' hc'=>by
      unfold zCi;by_cases e:r=d
      ·rw [if_pos ⟨e,by omega⟩,if_pos e]
      ·rw [if_neg (fun h=>e h.1),if_neg e,if_neg (by omega)])
     have HEN2:=dH hen;have s0:wr.cell? ⟨b2,0,none⟩=some (.pointer (some ⟨p,0,none⟩)):=hen.k2.cell rfl;have s1:wr.cell? ⟨p,1,none⟩=some (.slice (some ⟨R,0,none⟩) m rc):=hs.box.cell rfl;have c2':¬ (c:Int)< (N:Int):=by omega
     clear hs hen hb8 hby HB8 HBY HO8 HS HEN hce
     gi_wp2
     gi_loopw [85] (fun v wr=>∃j:Nat,j≤m∧v=.int .i64 j∧(∃V,Sys wr B p m N (some ⟨R,0,none⟩) R rc g1 cp1 V (zCi M Sm d i k j) (.slice av d cv) ps)∧EnvC B p n b2 bs w W wr) (fun v _=>m - (intOf v).toNat)
     case atStart=>exact⟨0,Nat.zero_le _,rfl,⟨V,HS2.out⟩,HEN2.out⟩
     case round=>
      obtain⟨j,hj,rfl,⟨V,hs⟩,hen⟩:=hrel;have j0':(0:Int)≤(j:Int):=by omega
      by_cases hjm:j<m
      ·have j1':(j:Int)< (m:Int):=by omega
       have hw1:IntKind.i64.wrap ((j:Int)+1)= (j:Int)+1:=IntWalk.i64_in _ (by omega);have s2:=hs.top hjm;have hcp2:=hs.cap j hjm;by_cases hjd:j=d
       ·have HS:=dH (hs.congr (M':=zCi M Sm d i k (j+1)) fun r hr c' hc'=>by
         unfold zCi;by_cases e:r=d
         ·rw [if_pos e,if_pos e]
         ·rw [if_neg e,if_neg e];by_cases e2:r<j
          ·rw [if_pos e2,if_pos (by omega)]
          ·rw [if_neg e2,if_neg (by omega)])
        have HEN:=dH hen;clear hs hen;subst hjd
        gi_wp2
        refine⟨trivial,?_⟩
        gi_wp2
        go_roundw
        case rel=>exact⟨j+1,by omega,by go_num,⟨V,HS.out⟩,HEN.out⟩
        case measure=>simp [intOf];omega
       ·have hjd':¬ (j:Int)= (d:Int):=by omega
        have hjd2:((j:Int) == (d:Int))=false:=by simp;omega
        obtain⟨e0,e1,e2,e3⟩:=(hs.row j hjm).cells hkN;have hby:=hs.x hjm hkN;have hrj:zCi M Sm d i k j j k=Sm j k:=by unfold zCi;rw [if_neg hjd,if_neg (by omega)]
        rw [hrj] at hby;generalize hx:V j k=x at *;obtain⟨n2,a2,q2,c2,m2,b2',k2,d2⟩:=x;dsimp only [RatC.val] at e0 e1 e2 e3;have HS:=dH hs;have HEN:=dH hen;have HBY2:=dH hby;have HJD:=dH hjd;clear hs hen hby hx hjd hrj
        gi_wp2
        refine⟨trivial,(callsIn_wide.2 (zEF n2 m2 a2 b2' q2 c2 k2 d2 _ _ HBY2.out.val)).mono ?_⟩;rintro e9 y0 ⟨rfl,hy⟩;replace HS:=dH (HS.out.ext hy);replace HEN:=dH (HEN.out.ext hy);replace HBY2:=dH (HBY2.out.ext hy);by_cases hz:Sm j k=0
        ·rw [decide_eq_true hz]
         replace HS:=dH (HS.out.congr (M':=zCi M Sm d i k (j+1)) fun r hr c' hc'=>by
          unfold zCi;by_cases e:r=d
          ·rw [if_pos e,if_pos e]
          ·rw [if_neg e,if_neg e];by_cases e2:r<j
           ·rw [if_pos e2,if_pos (by omega)]
           ·rw [if_neg e2];by_cases e3:r=j
            ·rw [if_pos (by omega),e3,hz];grind
            ·rw [if_neg (by omega)])
         clear e0 e1 e2 e3 hy hz s2
         gi_wp2
         go_roundw
         case rel=>exact⟨j+1,by omega,by go_num,⟨V,HS.out⟩,HEN.out⟩
         case measure=>simp [intOf];omega
        ·rw [decide_eq_false hz];replace e0:=zA0 hy e0;replace e1:=zA0 hy e1;replace e2:=zA0 hy e2;replace e3:=zA0 hy e3;clear hz hy s2;gi_upto_region 18 with fail;have hl:=Ext.alloc y0 (.cells #[.bool n2,.slice a2 q2 c2,.bool m2,.slice b2' k2 d2] 38);have hb12:=Blk.new0 y0 #[.bool n2,.slice a2 q2 c2,.bool m2,.slice b2' k2 d2] 38;have hoff12:∀x,zFy p m R g1 x→y0.heap.size≠x:=fun x hx=>by have:=HS.out.lt x hx;omega
         replace HS:=dH (HS.out.ext hl);replace HEN:=dH (HEN.out.ext hl);replace HBY2:=dH (HBY2.out.ext hl);have HB12:=dH hb12;have HO12:=dH hoff12;clear hl hb12 hoff12 e0 e1 e2 e3;generalize y0.alloc (.cells #[.bool n2,.slice a2 q2 c2,.bool m2,.slice b2' k2 d2] 38)=x6 at *;generalize y0.heap.size=b12 at *;have c2x:True:=trivial
         gi_wp2
         gi_loopw [106] (fun v wr=>∃c:Nat,c≤N∧v=.int .i64 c∧(∃V,Sys wr B p m N (some ⟨R,0,none⟩) R rc g1 cp1 V (fun r c'=>if r=j∧c'<c then Sm j c' - M i c' / M i k*Sm j k else zCi M Sm d i k j r c') (.slice av d cv) ps)∧EnvC B p n b2 bs w W wr∧Blk wr b12 #[.bool n2,.slice a2 q2 c2,.bool m2,.slice b2' k2 d2] 38∧SysX wr p m R g1 (.slice av d cv) ⟨n2,a2,q2,c2,m2,b2',k2,d2⟩ (Sm j k)) (fun v _=>N - (intOf v).toNat)
         case atStart=>exact⟨0,Nat.zero_le _,rfl,⟨V,HS.out.congr fun r _ c _=>by rw [if_neg (by omega)]⟩,HEN.out,HB12.out,HBY2.out⟩
         case round=>
          obtain⟨c,hc,rfl,⟨V,hs⟩,hen,hb12,hby2⟩:=hrel;have c0':(0:Int)≤(c:Int):=by omega
          by_cases hcN:c<N
          ·have c1':(c:Int)< (N:Int):=by omega
           have hw1:IntKind.i64.wrap ((c:Int)+1)= (c:Int)+1:=IntWalk.i64_in _ (by omega);obtain⟨e0,e1,e2,e3⟩:=(hs.row d hdm).cells hcN;have hv1:=hs.val d hdm c hcN;rw [show(if d=j∧c<c then Sm j c - M i c / M i k*Sm j k else zCi M Sm d i k j d c)=M i c / M i k from by rw [if_neg (by omega)];unfold zCi;rw [if_pos rfl]] at hv1;have HS:=dH hs;have HEN:=dH hen;have HB12:=dH hb12;have hrat:=hby2.val;have HBY:=dH hby2;generalize hx:V d c=x at *;obtain⟨nx,ax,qx,cx,mx,bx,kx,dx⟩:=x;dsimp only [RatC.val] at e0 e1 e2 e3 hv1 hrat;have HV1:=dH hv1;have HBY2:=dH hrat;clear hs hen hb12 hby2 hv1 hrat hx;gi_upto_region 21 with fail
           gi_cut [14] from 144 (fun v wx=>∃ (bp:Nat) (n3:Bool) (a3:Option Addr) (q3 c3:Nat) (b3:Option Addr) (k3 d3:Nat),v=.pointer (some ⟨bp,0,none⟩)∧Blk wx bp #[.bool n3,.slice a3 q3 c3,.bool false,.slice b3 k3 d3] 38∧RatV wx (.agg #[.bool n3,.slice a3 q3 c3,.bool false,.slice b3 k3 d3]) (M i c / M i k*Sm j k)∧Ext wr wx∧wr.heap.size≤bp)
           case first=>
            have hE:Ext wr (World.drew wr):=(Ext.refl _).drew;have hyd:Ext wr (World.drew wr):=(Ext.refl _).drew;replace HV1:=dH (HV1.out.ext hyd);replace HBY2:=dH (HBY2.out.ext hyd);clear hyd;have s0:World.cell? (World.drew wr) ⟨g1 d,c*4,none⟩=some (.bool nx):=e0;have s1:World.cell? (World.drew wr) ⟨g1 d,c*4+1,none⟩=some (.slice ax qx cx):=e1;have s2:World.cell? (World.drew wr) ⟨g1 d,c*4+2,none⟩=some (.bool mx):=e2;have s3:World.cell? (World.drew wr) ⟨g1 d,c*4+3,none⟩=some (.slice bx kx dx):=e3;have s4:World.cell? (World.drew wr) ⟨b12,0,none⟩=some (.bool n2):=HB12.out.cell (i:=0) rfl;have s5:World.cell? (World.drew wr) ⟨b12,1,none⟩=some (.slice a2 q2 c2):=HB12.out.cell (i:=1) rfl;have s6:World.cell? (World.drew wr) ⟨b12,2,none⟩=some (.bool m2):=HB12.out.cell (i:=2) rfl;have s7:World.cell? (World.drew wr) ⟨b12,3,none⟩=some (.slice b2' k2 d2):=HB12.out.cell (i:=3) rfl;refine zA8 (S:=(fun w'=>w'.cell? ⟨g1 d,c*4,none⟩=some (.bool nx)∧w'.cell? ⟨g1 d,c*4+1,none⟩=some (.slice ax qx cx)∧w'.cell? ⟨g1 d,c*4+2,none⟩=some (.bool mx)∧w'.cell? ⟨g1 d,c*4+3,none⟩=some (.slice bx kx dx)∧w'.cell? ⟨b12,0,none⟩=some (.bool n2)∧w'.cell? ⟨b12,1,none⟩=some (.slice a2 q2 c2)∧w'.cell? ⟨b12,2,none⟩=some (.bool m2)∧w'.cell? ⟨b12,3,none⟩=some (.slice b2' k2 d2))) (by kernel_rfl) (by kernel_rfl) (by rintro⟨_,_,h⟩;exact h) ?_ (fun hHeld=>?_)
            ·exact⟨s0,s1,s2,s3,s4,s5,s6,s7⟩
            (try simp only [pur,Nat.reduceAdd])
            generalize World.drew wr=x501 at *
            iterate 5
             refine tkR [0,1,2,3,4] (v:=?_) rfl rfl (by kernel_rfl) (fun _ _ _ h=>h) (by rfl) ?_ (by assumption) ?_;rotate_left
             ·(intro w hSw;(try dsimp only at hSw);(try go_simp);(try with_reducible rfl))
             (try simp only [Act.put,pus])
            refine wpAnyH_ready (rs:=[5,9]) (by kernel_rfl) (by simp) ?_;refine AllReadyH.cons (o:=_) rfl (fun K hK=>?_) ?_
            ·go_simp
             (with_reducible refine(zED HV1.out HBY2.out (HZQ.out c hcN) (HZ1.out j k hjm hkN) (by omega)).mono ?_);rintro e x502 ⟨v9,rfl,hv,hy⟩;replace hE:=hE.trans hy;replace s0:=zA0 hy s0;replace s1:=zA0 hy s1;replace s2:=zA0 hy s2;replace s3:=zA0 hy s3;replace s4:=zA0 hy s4;replace s5:=zA0 hy s5;replace s6:=zA0 hy s6;replace s7:=zA0 hy s7;replace HV1:=dH (HV1.out.ext hy);replace HBY2:=dH (HBY2.out.ext hy);clear hy;obtain⟨n3,a3,q3,c3,b3,k3,d3,rfl,hv',hf',hg'⟩:=hv;have Vp:=dH hv';clear hv' hf' hg'
             refine hK.out _ _ ?_ ?_
             ·exact⟨s0,s1,s2,s3,s4,s5,s6,s7⟩
             clear hK K hHeld;intro hHeld
             (try simp only [Act.put,pus])
             iterate 3
              refine tkR [6,7,8] (v:=?_) rfl rfl (by kernel_rfl) (fun _ _ _ h=>h) (by rfl) ?_ (by assumption) ?_;rotate_left
              ·(intro w hSw;(try dsimp only at hSw);(try go_simp);(try with_reducible rfl))
              (try simp only [Act.put,pus])
             refine wpAnyH_ready (rs:=[9]) (by kernel_rfl) (by simp) ?_;refine AllReadyH.cons (o:=_) rfl (fun K hK=>?_) ?_
             ·go_simp;have hy:Ext x502 (World.alloc x502 (.cells #[.bool false,.slice none 0 0,.bool false,.slice none 0 0] 38)):=Ext.alloc _ _;have hpz:=hE.size;have hqp:=hE.size;replace hE:=hE.trans hy;have mp0:=zAd s0;replace s0:=zA0 hy s0;replace s1:=zA0 hy s1;replace s2:=zA0 hy s2;replace s3:=zA0 hy s3;have mp4:=zAd s4;replace s4:=zA0 hy s4;replace s5:=zA0 hy s5;replace s6:=zA0 hy s6;replace s7:=zA0 hy s7;replace HV1:=dH (HV1.out.ext hy);replace HBY2:=dH (HBY2.out.ext hy);replace Vp:=dH (Vp.out.ext hy);have Kp:=dH (Blk.new0 x502 #[.bool false,.slice none 0 0,.bool false,.slice none 0 0] 38);clear hy;generalize World.alloc x502 (.cells #[.bool false,.slice none 0 0,.bool false,.slice none 0 0] 38)=x503 at *;generalize Array.size (World.heap x502)=pp at *;refine hK.out _ _ ?_ ?_
              ·exact⟨s0,s1,s2,s3,s4,s5,s6,s7⟩
              clear hK K hHeld;intro hHeld
              (try simp only [Act.put,pus])
              refine wpAnyH_ready (rs:=[10]) (by kernel_rfl) (by simp) ?_;refine AllReadyH.cons (o:=_) rfl (fun K hK=>?_) ?_
              ·obtain⟨g0,z0,g1,z1,g2,z2,g3,z3⟩:=bp4 Kp (.bool n3) (.slice a3 q3 c3) (.bool false) (.slice b3 k3 d3);go_simp;clear g0 z0 g1 z1 g2 z2 g3 z3;replace HV1:=(by first | exact rv4 HV1 Kp (.bool n3) (.slice a3 q3 c3) (.bool false) (.slice b3 k3 d3) rfl rfl rfl rfl | exact bv4 HV1 Kp (.bool n3) (.slice a3 q3 c3) (.bool false) (.slice b3 k3 d3) rfl rfl rfl rfl);replace HBY2:=(by first | exact rv4 HBY2 Kp (.bool n3) (.slice a3 q3 c3) (.bool false) (.slice b3 k3 d3) rfl rfl rfl rfl | exact bv4 HBY2 Kp (.bool n3) (.slice a3 q3 c3) (.bool false) (.slice b3 k3 d3) rfl rfl rfl rfl);replace Vp:=(by first | exact rv4 Vp Kp (.bool n3) (.slice a3 q3 c3) (.bool false) (.slice b3 k3 d3) rfl rfl rfl rfl | exact bv4 Vp Kp (.bool n3) (.slice a3 q3 c3) (.bool false) (.slice b3 k3 d3) rfl rfl rfl rfl);replace hE:=bx4 hE (pp) (.bool n3) (.slice a3 q3 c3) (.bool false) (.slice b3 k3 d3) (by omega);replace s0:=bf4 s0 (pp) (.bool n3) (.slice a3 q3 c3) (.bool false) (.slice b3 k3 d3) (by omega);replace s1:=bf4 s1 (pp) (.bool n3) (.slice a3 q3 c3) (.bool false) (.slice b3 k3 d3) (by omega);replace s2:=bf4 s2 (pp) (.bool n3) (.slice a3 q3 c3) (.bool false) (.slice b3 k3 d3) (by omega);replace s3:=bf4 s3 (pp) (.bool n3) (.slice a3 q3 c3) (.bool false) (.slice b3 k3 d3) (by omega);replace s4:=bf4 s4 (pp) (.bool n3) (.slice a3 q3 c3) (.bool false) (.slice b3 k3 d3) (by omega);replace s5:=bf4 s5 (pp) (.bool n3) (.slice a3 q3 c3) (.bool false) (.slice b3 k3 d3) (by omega);replace s6:=bf4 s6 (pp) (.bool n3) (.slice a3 q3 c3) (.bool false) (.slice b3 k3 d3) (by omega);replace s7:=bf4 s7 (pp) (.bool n3) (.slice a3 q3 c3) (.bool false) (.slice b3 k3 d3) (by omega);replace Kp:=bs4 Kp (.bool n3) (.slice a3 q3 c3) (.bool false) (.slice b3 k3 d3);generalize (World.setCell (World.setCell (World.setCell (World.setCell x503 ⟨pp,0,none⟩ (.bool n3)) ⟨pp,1,none⟩ (.slice a3 q3 c3)) ⟨pp,2,none⟩ (.bool false)) ⟨pp,3,none⟩ (.slice b3 k3 d3))=xe at *;refine hK.out _ _ ?_ ?_
               ·exact⟨s0,s1,s2,s3,s4,s5,s6,s7⟩
               clear hK K hHeld;intro hHeld
               (try simp only [Act.put,pus])
               refine tk (v:=?_) 11 rfl (by kernel_rfl) (fun _ _ _ h=>h) (by rfl) ?_ (by assumption) ?_;rotate_left
               ·(intro w hSw;(try dsimp only at hSw);(try go_simp);(try with_reducible rfl))
               (try simp only [Act.put,pus])
               refine wpAnyH_done (by kernel_rfl) ?_ _
               (gi_wp2_with fail;gi_meet;exact⟨_,n3,a3,q3,c3,b3,k3,d3,rfl,Kp.out,Vp.out,hE,hpz⟩)
              exact AllReadyH.nil
             exact AllReadyH.nil
            refine AllReadyH.cons (o:=_) rfl (fun K hK=>?_) ?_
            ·go_simp;have hy:Ext x501 (World.alloc x501 (.cells #[.bool false,.slice none 0 0,.bool false,.slice none 0 0] 38)):=Ext.alloc _ _;have hpz:=hE.size;have hqp:=hE.size;replace hE:=hE.trans hy;have mp0:=zAd s0;replace s0:=zA0 hy s0;replace s1:=zA0 hy s1;replace s2:=zA0 hy s2;replace s3:=zA0 hy s3;have mp4:=zAd s4;replace s4:=zA0 hy s4;replace s5:=zA0 hy s5;replace s6:=zA0 hy s6;replace s7:=zA0 hy s7;replace HV1:=dH (HV1.out.ext hy);replace HBY2:=dH (HBY2.out.ext hy);have Kp:=dH (Blk.new0 x501 #[.bool false,.slice none 0 0,.bool false,.slice none 0 0] 38);clear hy;generalize World.alloc x501 (.cells #[.bool false,.slice none 0 0,.bool false,.slice none 0 0] 38)=x504 at *;generalize Array.size (World.heap x501)=pp at *;refine hK.out _ _ ?_ ?_
             ·exact⟨s0,s1,s2,s3,s4,s5,s6,s7⟩
             clear hK K hHeld;intro hHeld
             (try simp only [Act.put,pus])
             refine wpAnyH_ready (rs:=[5]) (by kernel_rfl) (by simp) ?_;refine AllReadyH.cons (o:=_) rfl (fun K hK=>?_) ?_
             ·go_simp
              (with_reducible refine(zED HV1.out HBY2.out (HZQ.out c hcN) (HZ1.out j k hjm hkN) (by omega)).mono ?_);rintro e x505 ⟨v9,rfl,hv,hy⟩;replace hE:=hE.trans hy;replace s0:=zA0 hy s0;replace s1:=zA0 hy s1;replace s2:=zA0 hy s2;replace s3:=zA0 hy s3;replace s4:=zA0 hy s4;replace s5:=zA0 hy s5;replace s6:=zA0 hy s6;replace s7:=zA0 hy s7;replace Kp:=kE Kp hy;replace HV1:=dH (HV1.out.ext hy);replace HBY2:=dH (HBY2.out.ext hy);clear hy;obtain⟨n3,a3,q3,c3,b3,k3,d3,rfl,hv',hf',hg'⟩:=hv;have Vp:=dH hv';clear hv' hf' hg'
              refine hK.out _ _ ?_ ?_
              ·exact⟨s0,s1,s2,s3,s4,s5,s6,s7⟩
              clear hK K hHeld;intro hHeld
              (try simp only [Act.put,pus])
              iterate 3
               refine tkR [6,7,8] (v:=?_) rfl rfl (by kernel_rfl) (fun _ _ _ h=>h) (by rfl) ?_ (by assumption) ?_;rotate_left
               ·(intro w hSw;(try dsimp only at hSw);(try go_simp);(try with_reducible rfl))
               (try simp only [Act.put,pus])
              refine wpAnyH_ready (rs:=[10]) (by kernel_rfl) (by simp) ?_;refine AllReadyH.cons (o:=_) rfl (fun K hK=>?_) ?_
              ·obtain⟨g0,z0,g1,z1,g2,z2,g3,z3⟩:=bp4 Kp (.bool n3) (.slice a3 q3 c3) (.bool false) (.slice b3 k3 d3);go_simp;clear g0 z0 g1 z1 g2 z2 g3 z3;replace HV1:=(by first | exact rv4 HV1 Kp (.bool n3) (.slice a3 q3 c3) (.bool false) (.slice b3 k3 d3) rfl rfl rfl rfl | exact bv4 HV1 Kp (.bool n3) (.slice a3 q3 c3) (.bool false) (.slice b3 k3 d3) rfl rfl rfl rfl);replace HBY2:=(by first | exact rv4 HBY2 Kp (.bool n3) (.slice a3 q3 c3) (.bool false) (.slice b3 k3 d3) rfl rfl rfl rfl | exact bv4 HBY2 Kp (.bool n3) (.slice a3 q3 c3) (.bool false) (.slice b3 k3 d3) rfl rfl rfl rfl);replace Vp:=(by first | exact rv4 Vp Kp (.bool n3) (.slice a3 q3 c3) (.bool false) (.slice b3 k3 d3) rfl rfl rfl rfl | exact bv4 Vp Kp (.bool n3) (.slice a3 q3 c3) (.bool false) (.slice b3 k3 d3) rfl rfl rfl rfl);replace hE:=bx4 hE (pp) (.bool n3) (.slice a3 q3 c3) (.bool false) (.slice b3 k3 d3) (by omega);replace s0:=bf4 s0 (pp) (.bool n3) (.slice a3 q3 c3) (.bool false) (.slice b3 k3 d3) (by omega);replace s1:=bf4 s1 (pp) (.bool n3) (.slice a3 q3 c3) (.bool false) (.slice b3 k3 d3) (by omega);replace s2:=bf4 s2 (pp) (.bool n3) (.slice a3 q3 c3) (.bool false) (.slice b3 k3 d3) (by omega);replace s3:=bf4 s3 (pp) (.bool n3) (.slice a3 q3 c3) (.bool false) (.slice b3 k3 d3) (by omega);replace s4:=bf4 s4 (pp) (.bool n3) (.slice a3 q3 c3) (.bool false) (.slice b3 k3 d3) (by omega);replace s5:=bf4 s5 (pp) (.bool n3) (.slice a3 q3 c3) (.bool false) (.slice b3 k3 d3) (by omega);replace s6:=bf4 s6 (pp) (.bool n3) (.slice a3 q3 c3) (.bool false) (.slice b3 k3 d3) (by omega);replace s7:=bf4 s7 (pp) (.bool n3) (.slice a3 q3 c3) (.bool false) (.slice b3 k3 d3) (by omega);replace Kp:=bs4 Kp (.bool n3) (.slice a3 q3 c3) (.bool false) (.slice b3 k3 d3);generalize (World.setCell (World.setCell (World.setCell (World.setCell x505 ⟨pp,0,none⟩ (.bool n3)) ⟨pp,1,none⟩ (.slice a3 q3 c3)) ⟨pp,2,none⟩ (.bool false)) ⟨pp,3,none⟩ (.slice b3 k3 d3))=xe at *;refine hK.out _ _ ?_ ?_
               ·exact⟨s0,s1,s2,s3,s4,s5,s6,s7⟩
               clear hK K hHeld;intro hHeld
               (try simp only [Act.put,pus])
               refine tk (v:=?_) 11 rfl (by kernel_rfl) (fun _ _ _ h=>h) (by rfl) ?_ (by assumption) ?_;rotate_left
               ·(intro w hSw;(try dsimp only at hSw);(try go_simp);(try with_reducible rfl))
               (try simp only [Act.put,pus])
               refine wpAnyH_done (by kernel_rfl) ?_ _
               (gi_wp2_with fail;gi_meet;exact⟨_,n3,a3,q3,c3,b3,k3,d3,rfl,Kp.out,Vp.out,hE,hpz⟩)
              exact AllReadyH.nil
             exact AllReadyH.nil
            exact AllReadyH.nil
           case rest=>
            obtain⟨bp,n3,a3,q3,c3,b3,k3,d3,rfl,hkp,hvp,hy,hbp⟩:=hcut;have HOp:Hid (∀x,zFy p m R g1 x→bp≠x):=dH fun x hx=>by have:=HS.out.lt x hx;omega
            replace HS:=dH (HS.out.ext hy);replace HEN:=dH (HEN.out.ext hy);replace HB12:=dH (HB12.out.ext hy);replace HBY2:=dH (HBY.out.ext hy);have Kp:=dH hkp;have Vp:=dH hvp;clear e0 e1 e2 e3 HV1 HBY hkp hvp hy hbp;gi_upto_region 22 with fail;have hyd:Ext wc (World.drew wc):=(Ext.refl _).drew;replace HS:=dH (HS.out.ext hyd);replace HEN:=dH (HEN.out.ext hyd);replace HB12:=dH (HB12.out.ext hyd);replace HBY2:=dH (HBY2.out.ext hyd);replace Kp:=dH (Kp.out.ext hyd);replace Vp:=dH (Vp.out.ext hyd);have s0:World.cell? (World.drew wc) ⟨bp,0,none⟩=some (.bool n3):=Kp.out.cell rfl;have s1:World.cell? (World.drew wc) ⟨bp,1,none⟩=some (.slice a3 q3 c3):=Kp.out.cell rfl;have s2:World.cell? (World.drew wc) ⟨bp,2,none⟩=some (.bool false):=Kp.out.cell rfl;have s3:World.cell? (World.drew wc) ⟨bp,3,none⟩=some (.slice b3 k3 d3):=Kp.out.cell rfl;obtain⟨e0,e1,e2,e3⟩:=(HS.out.row j hjm).cells hcN;have hv:=HS.out.val j hjm c hcN;rw [show(if j=j∧c<c then Sm j c - M i c / M i k*Sm j k else zCi M Sm d i k j j c)=Sm j c from by rw [if_neg (by omega)];unfold zCi;rw [if_neg HJD.out,if_neg (by omega)]] at hv;have hgd:zFy p m R g1 (g1 j):=.inr (.inr ⟨j,hjm,rfl⟩);have hge:=HEN.out.off HS.out hgd;generalize hx:V j c=x at *;obtain⟨nx,ax,qx,cx,mx,bx,kx,dx⟩:=x;dsimp only [RatC.val] at e0 e1 e2 e3 hv;have HV:=dH hv;clear hyd hx hv;refine zA8 (S:=(fun w'=>w'.cell? ⟨bp,0,none⟩=some (.bool n3)∧w'.cell? ⟨bp,1,none⟩=some (.slice a3 q3 c3)∧w'.cell? ⟨bp,2,none⟩=some (.bool false)∧w'.cell? ⟨bp,3,none⟩=some (.slice b3 k3 d3))) (by kernel_rfl) (by kernel_rfl) (by rintro⟨_,_,h⟩;exact h) ?_ (fun hHeld=>?_)
            ·exact⟨s0,s1,s2,s3⟩
            (try simp only [pur,Nat.reduceAdd])
            generalize World.drew wc=x5 at *
            iterate 6
             refine tkR [0,1,2,3,4,6] (v:=?_) rfl rfl (by kernel_rfl) (fun _ _ _ h=>h) (by rfl) ?_ (by assumption) ?_;rotate_left
             ·(intro w hSw;(try dsimp only at hSw);(try go_simp);(try with_reducible rfl))
             (try simp only [Act.put,pus])
            refine wpAnyH_ready (rs:=[5]) (by kernel_rfl) (by simp) ?_;refine AllReadyH.cons (o:=_) rfl (fun K hK=>?_) ?_
            ·go_simp;refine hK.out _ _ ?_ ?_
             ·exact⟨s0,s1,s2,s3⟩
             clear hK K hHeld;intro hHeld
             (try simp only [Act.put,pus])
             refine wpAnyH_ready (rs:=[7]) (by kernel_rfl) (by simp) ?_;refine AllReadyH.cons (o:=_) rfl (fun K hK=>?_) ?_
             ·go_simp
              (with_reducible refine(zDq HV.out Vp.out (HZ1.out j c hjm hcN) ((HZQ.out c hcN).mul (HZ1.out j k hjm hkN)) (by omega)).mono ?_);rintro e9 y1 ⟨v9,rfl,hv,hy⟩;obtain⟨n9,a9,q9,c9,b9,k9,d9,rfl,hv',hf',hg'⟩:=hv;have HX:=dH (HS.out.fresh (x:=⟨n9,a9,q9,c9,false,b9,k9,d9⟩) hv' hy ⟨fun _=>hf',fun _=>hg'⟩);replace HS:=dH (HS.out.ext hy);replace HEN:=dH (HEN.out.ext hy);replace HB12:=dH (HB12.out.ext hy);replace HBY2:=dH (HBY2.out.ext hy);replace Kp:=dH (Kp.out.ext hy);replace s0:=zA0 hy s0;replace s1:=zA0 hy s1;replace s2:=zA0 hy s2;replace s3:=zA0 hy s3;clear hy hv' hf' hg' e0 e1 e2 e3 HV
              refine hK.out _ _ ?_ ?_
              ·exact⟨s0,s1,s2,s3⟩
              clear hK K hHeld;intro hHeld
              (try simp only [Act.put,pus])
              iterate 4
               refine tkR [8,9,10,11] (v:=?_) rfl rfl (by kernel_rfl) (fun _ _ _ h=>h) (by rfl) ?_ (by assumption) ?_;rotate_left
               ·(intro w hSw;(try dsimp only at hSw);(try go_simp);(try with_reducible rfl))
               (try simp only [Act.put,pus])
              refine wpAnyH_ready (rs:=[12]) (by kernel_rfl) (by simp) ?_;refine AllReadyH.cons (o:=_) rfl (fun K hK=>?_) ?_
              ·obtain⟨PP,_⟩:=(HS.out.row j hjm).put hcN ⟨n9,a9,q9,c9,false,b9,k9,d9⟩;obtain⟨p0,p1,p2,p3,⟨_,p4⟩,⟨_,p5⟩,⟨_,p6⟩,⟨_,p7⟩⟩:=PP;dsimp only at p0 p1 p2 p3 p4 p5 p6 p7;go_simp;clear p0 p1 p2 p3 p4 p5 p6 p7;replace HB12:=dH (zA5 HB12.out (zEE y1 (g1 j) c ⟨n9,a9,q9,c9,false,b9,k9,d9⟩) (fun e=>HO12.out _ hgd (by injection e with e;exact e.symm)));replace Kp:=dH (zA5 Kp.out (zEE y1 (g1 j) c ⟨n9,a9,q9,c9,false,b9,k9,d9⟩) (fun e=>HOp.out _ hgd (by injection e with e;exact e.symm)));replace HBY2:=dH (HBY2.out.put hgd (zEE y1 (g1 j) c ⟨n9,a9,q9,c9,false,b9,k9,d9⟩));replace HEN:=dH (HEN.out.put4 hge c ⟨n9,a9,q9,c9,false,b9,k9,d9⟩);replace HS:=dH (HS.out.put hjm hcN HX.out);replace s0:=Kp.out.cell (i:=0) rfl;replace s1:=Kp.out.cell (i:=1) rfl;replace s2:=Kp.out.cell (i:=2) rfl;replace s3:=Kp.out.cell (i:=3) rfl;refine hK.out _ _ ?_ ?_
               ·exact⟨s0,s1,s2,s3⟩
               clear hK K hHeld;intro hHeld
               (try simp only [Act.put,pus])
               refine wpAnyH_done (by kernel_rfl) ?_ _;gi_wp2_with fail;go_roundw
               case rel=>exact⟨c+1,by omega,by go_num,⟨_,HS.out.congr fun r hr c' hc'=>zJP Sm (zCi M Sm d i k j) (fun c=>M i c / M i k) (Sm j k) j c r c'⟩,HEN.out,HB12.out,HBY2.out⟩
               case measure=>simp [intOf];omega
              exact AllReadyH.nil
             exact AllReadyH.nil
            exact AllReadyH.nil
          ·have c1':¬ (c:Int)< (N:Int):=by omega
           have HS:=dH (hs.congr (M':=zCi M Sm d i k (j+1)) fun r hr c' hc'=>by
            unfold zCi;by_cases e3:r=j
            ·rw [if_pos ⟨e3,by omega⟩,if_neg (by rw [e3];exact HJD.out),if_pos (by omega),e3]
            ·rw [if_neg (fun h=>e3 h.1)];by_cases e:r=d
             ·rw [if_pos e,if_pos e]
             ·rw [if_neg e,if_neg e];by_cases e2:r<j
              ·rw [if_pos e2,if_pos (by omega)]
              ·rw [if_neg e2,if_neg (by omega)])
           have HEN:=dH hen;clear hs hen hb12 hby2
           gi_wp2
           exact⟨⟨j+1,by omega,by go_num,⟨V,HS.out⟩,HEN.out⟩,by simp [intOf];omega⟩
      ·have j1':¬ (j:Int)< (m:Int):=by omega
       have HS:=dH (hs.congr (M':=zBr M d i k) fun r hr c' hc'=>by
        rw [HSX.out];unfold zCi;by_cases e:r=d
        ·rw [if_pos e];exact(if_pos e).symm
        ·rw [if_neg e,if_pos (by omega)];exact(if_neg e).symm)
       have HEN:=dH hen;clear hs hen HS2 HEN2 s0 s1;gi_upto_region 25 with fail;have hyd:Ext wr (World.drew wr):=(Ext.refl _).drew;replace HS:=dH (HS.out.ext hyd);replace HEN:=dH (HEN.out.ext hyd);have hpB:=HEN.out.off HS.out (b:=p) (.inl rfl);have s0:World.cell? (World.drew wr) ⟨b2,0,none⟩=some (.pointer (some ⟨p,0,none⟩)):=HEN.out.k2.cell rfl;have t0:World.cell? (World.drew wr) ⟨p,0,none⟩=some (.slice av d cv):=HS.out.box.cell rfl;clear hyd;refine zA8 (S:=(fun w'=>w'.cell? ⟨b2,0,none⟩=some (.pointer (some ⟨p,0,none⟩)))) (by kernel_rfl) (by kernel_rfl) (by rintro⟨_,_,h⟩;exact h) ?_ (fun hHeld=>?_)
       ·exact s0
       (try simp only [pur,Nat.reduceAdd])
       generalize World.drew wr=x8 at *
       iterate 6
        refine tkR [0,1,2,3,4,6] (v:=?_) rfl rfl (by kernel_rfl) (fun _ _ _ h=>h) (by rfl) ?_ (by assumption) ?_;rotate_left
        ·(intro w hSw;(try dsimp only at hSw);(try go_simp);(try with_reducible rfl))
        (try simp only [Act.put,pus])
       repeat' first
        | (refine tkR [9,10,11] (v:=?_) rfl rfl (by decide +kernel) (fun _ _ _ h=>h) (by rfl) ?_ (by assumption) ?_
           rotate_left
           ·(intro w hSw;(try dsimp only at hSw);(try go_simp);(try with_reducible rfl))
           (try simp only [Act.put,pus]))
        | (refine wpAnyH_done (by decide +kernel) ?_ _
           gi_wp2_with fail
           exact⟨HE9.out.ot,⟨⟨_,_,_,_,by rw [zCG,HNX.out];exact HSF.out,HNA2.out⟩,HE9.out.kn,HE9.out.ks⟩,⟨⟨⟨_,_,_,_,by rw [zCG,HNX.out];exact HSF.out,HNA2.out⟩,HE9.out.kn,HE9.out.ks⟩,HE9.out.k2,HE9.out.bl⟩⟩)
        | (refine rdR [5,7,8,12] (by decide +kernel) (zAt ?_ (zAt ?_ (zAt ?_ (zAt ?_ zFw))))
           first
           | exact noR (by decide +kernel)
           | (refine isR (o:=_) rfl (fun K hK=>?_)
              go_simp
              rotate_left)
           first
           | exact noR (by decide +kernel)
           | (refine isR (o:=_) rfl (fun K hK=>?_)
              go_simp;have hy:=Ext.alloc x8 (.cells #[.int .i64 k] 3);replace HS:=dH (HS.out.ext hy);replace HEN:=dH (HEN.out.ext hy);replace s0:=zA0 hy s0;replace t0:=zA0 hy t0;have Kk:=dH (Blk.new0 x8 #[.int .i64 k] 3);clear hy;generalize World.alloc x8 (.cells #[.int .i64 k] 3)=x9 at *;generalize Array.size (World.heap x8)=bk at *
              rotate_left)
           first
           | exact noR (by decide +kernel)
           | (refine isR (o:=_) rfl (fun K hK=>?_)
              refine zEH rfl (.tmp 137) (.tmp 139) rfl HEN.out.lo rfl HS.out.atl rfl Kk.out (by have:=HD.out;omega) ?_;intro va' y9 ho hg hat;obtain⟨a9,c9,rfl⟩:=zHP ho;have HE9:=dH (HEN.out.at HS.out.atl HNA.out hg);have hp9:=zA5 HS.out.box hg (zAI HS.out.atl HS.out.box (by decide));have HP9:=dH hp9;replace s0:y9.cell? ⟨b2,0,none⟩=some (.pointer (some ⟨p,0,none⟩)):=HE9.out.k2.cell rfl;have HSF:=dH (HS.out.push ho hg hat);have HNA2:Hid ((Value.slice a9 (ps.length+1) c9).ownBlock≠some (bs+1)):=dH (fun e=>by rcases hat with h | h;exact HNA.out (h.symm.trans e);rw [h] at e;have:=HEN.out.kn.lt;injection e with e;omega);clear ho hg hat hp9 t0 HS HEN Kk HNA
              rotate_left)
           first
           | exact noR (by decide +kernel)
           | (refine isR (o:=_) rfl (fun K hK=>?_)
              have p0:=HP9.out.cell (i:=0) rfl;have p1:=HP9.out.free 0;go_simp;clear p0 p1;replace HE9:=dH (HE9.out.set hpB.1 hpB.2.1 hpB.2.2.1 hpB.2.2.2 0 (.slice a9 (ps.length+1) c9));replace s0:=HE9.out.k2.cell (i:=0) rfl
              rotate_left)
           all_goals (
            refine hK.out _ _ ?_ ?_
            ·exact s0
            clear hK K hHeld;intro hHeld
            (try simp only [Act.put,pus])))
 case done=>
  intro D xs W hD hE hI hK;have HK:=dH hK;have HI:=dH hI;have HE:Hid (zAe m A n=zAe m A (zEG xs)):=dH hE;clear hI hK hE;go_wp2_with fail;refine⟨by simp,.inl ⟨_,_,rfl,run_takeDeferred HK.out,?_⟩⟩;have kk:KeepW W (W.putObj D (.deferred none)):=zBa (grownBy_putObj' W D (.deferred none)) (fun r e=>by cases e;exact⟨_,HK.out,rfl⟩);obtain⟨⟨⟨g',cp',V',va',hs',_⟩,_,_⟩,_,hbl⟩:=HI.out;rw [←HE.out] at hs';exact⟨.tuple #[],by simp [results,Tryz.f178,go_sem],⟨_,rfl⟩,⟨g',cp',V',va',hs'.keep kk⟩,hbl.grown (grownBy_putObj' W D (.deferred none)) (Nat.le_trans (by rw [HB2.out];exact HBW.out) hbl.size) (fun r e=>by cases e;have:=HBW.out;omega)⟩
end Go.Proofs.YtonkhcdmchidjaaGreat
