import Derived.Test.YtonkhcdmchidjaaGreatY6
import Derived.Test.YtonkhcdmchidjaaGreatY4
set_option maxHeartbeats 8000000
namespace Go.Proofs.YtonkhcdmchidjaaGreat
open Go.RowKit Go BigFrame Go.Shelf
set_option maxRecDepth 100000
set_option linter.all false
attribute [local go_sem] Oper.semAt_some
structure SysR (W:World) (P Ra ca n E:Nat) (G:Nat→Nat) (L:Nat→List Int):Prop where
 p:Blk W P #[.slice (some ⟨Ra,0,none⟩) (n+1) ca,.slice (some ⟨G (n+1),0,none⟩) (n+1) (n+1),.slice (some ⟨G (n+2),0,none⟩) E E,.slice (some ⟨G (n+3),0,none⟩) E E] 91
 ra:∃cs,Blk W Ra cs 34∧∀r,r≤n→cs[r]? =some (.slice (some ⟨G r,0,none⟩) n n)
 ca:n+1≤ca∧ca≤9223372036854775807
 ib:∀t,t<n+4→IB W (G t) (L t)
 inj:∀s t,s<n+4→t<n+4→G s=G t→s=t
 len:∀t,t<n+4→(L t).length=if t≤n then n else if t=n+1 then n+1 else E
section
variable {W W':World} {P Ra ca n E:Nat} {G:Nat→Nat} {L:Nat→List Int}
theorem IB.blk {w:World} {g:Nat} {L:List Int} (h:IB w g L):Blk w g (L.map (Value.int .i64)).toArray 3:=h
theorem SysR.ext (h:SysR W P Ra ca n E G L) (k:Ext W W'):SysR W' P Ra ca n E G L:=by
 obtain⟨cs,hb,hc⟩:=h.ra;exact⟨h.p.ext k,⟨cs,hb.ext k,hc⟩,h.ca,fun t ht=>(h.ib t ht).ext k,h.inj,h.len⟩
theorem SysR.row (h:SysR W P Ra ca n E G L) {r:Nat} (hr:r≤n):W.cell? ⟨Ra,r,none⟩=some (.slice (some ⟨G r,0,none⟩) n n):=by
 obtain⟨cs,hb,hc⟩:=h.ra;exact hb.cell (hc r hr)
theorem SysR.at (h:SysR W P Ra ca n E G L) {t i:Nat} (ht:t<n+4) (hi:i< (L t).length):W.cell? ⟨G t,i,none⟩=some (.int .i64 ((L t).getD i 0)):=(h.ib t ht).at hi
theorem SysR.free (h:SysR W P Ra ca n E G L) {t:Nat} (ht:t<n+4) (i:Nat):W.frozen? ⟨G t,i,none⟩=false:=(h.ib t ht).blk.free i
def zGd (L:Nat→List Int) (t i:Nat) (v:Int):Nat→List Int:=fun u=>if u=t then(L t).set i v else L u
theorem SysR.put (h:SysR W P Ra ca n E G L) {t:Nat} (ht:t<n+4) (i:Nat) (v:Int):SysR (W.setCell ⟨G t,i,none⟩ (.int .i64 v)) P Ra ca n E G (zGd L t i v):=by
 have hg:=zAa W (G t) i (.int .i64 v);have hbt:=(h.ib t ht).blk;obtain⟨cs,hb,hc⟩:=h.ra;refine⟨zA5 h.p hg (fun e=>zAz hbt h.p (by decide) (Option.some.inj e)),⟨cs,zA5 hb hg (fun e=>zAz hbt hb (by decide) (Option.some.inj e)),hc⟩,h.ca,fun u hu=>?_,h.inj,fun u hu=>?_⟩
 ·unfold zGd;by_cases e:u=t
  ·subst e;rw [if_pos rfl];exact(h.ib u hu).put i v
  ·rw [if_neg e];exact zA5 (h.ib u hu).blk hg (fun e2=>e (h.inj t u ht hu (Option.some.inj e2)).symm)
 ·unfold zGd;by_cases e:u=t
  ·subst e;rw [if_pos rfl,List.length_set];exact h.len u hu
  ·rw [if_neg e];exact h.len u hu
end
structure PutK (n₀:Nat) (A B:World):Prop where
 low:Below n₀ A B
 nt:∀b cs t,t≠3→Blk A b cs t→Blk B b cs t
 ot:KeepsOthers A B
theorem PutK.refl (n₀:Nat) (A:World):PutK n₀ A A:=⟨Below.refl _ _,fun _ _ _ _ h=>h,KeepsOthers.refl _⟩
theorem PutK.trans {n₀:Nat} {A B C:World} (h:PutK n₀ A B) (k:PutK n₀ B C):PutK n₀ A C:=⟨h.low.trans k.low,fun b cs t ht x=>k.nt b cs t ht (h.nt b cs t ht x),h.ot.trans k.ot⟩
theorem PutK.set {n₀:Nat} {A:World} {g:Nat} {l:List Int} (hb:IB A g l) (hg:n₀≤g) (i:Nat) (v:Value):PutK n₀ A (A.setCell ⟨g,i,none⟩ v):=
 ⟨⟨rfl,rfl,rfl,by simp,fun k hk=>(zAa A g i v).block k (by have:=hb.blk.lt;omega) (fun e=>by cases e;omega)⟩,fun b cs t ht x=>zA5 x (zAa A g i v) (fun e=>zAz hb.blk x (fun e2=>ht e2.symm) (Option.some.inj e)),KeepsOthers.setCell _ _ _⟩
theorem PutK.ext {n₀:Nat} {A B:World} (h:Ext A B) (hn:n₀≤A.heap.size):PutK n₀ A B:=⟨⟨h.os,h.tape,h.output,h.size,fun k hk=>h.block k (by omega)⟩,fun _ _ _ _ k=>k.ext h,h.others⟩
def zAS (row:List Int) (share:Int) (A:List Int):Nat→List Int
 | 0=>A
 | q+1=>if row.getD q (-1)= -1 then zAS row share A q else(zAS row share A q).set q ((zAS row share A q).getD q 0 - share)
theorem zC2 (row:List Int) (share:Int) (A:List Int):∀q,(zAS row share A q).length=A.length
 | 0=>rfl
 | q+1=>by unfold zAS;split;exact zC2 row share A q;rw [List.length_set];exact zC2 row share A q
theorem zGe {l:List Int} {i j:Nat} {v:Int} (hj:j<l.length):(l.set i v).getD j 0=if i=j then v else l.getD j 0:=by
 rw [List.getD_eq_getElem?_getD,List.getD_eq_getElem?_getD,List.getElem?_set];by_cases e:i=j
 ·subst e;rw [if_pos rfl,if_pos rfl,if_pos hj];rfl
 ·rw [if_neg e,if_neg e]
theorem zD7 (row:List Int) (share:Int) (A:List Int) {j:Nat} (hj:j<A.length):∀q,(zAS row share A q).getD j 0=A.getD j 0 - if j<q∧row.getD j (-1)≠-1 then share else 0
 | 0=>by unfold zAS;rw [if_neg (by omega)];omega
 | q+1=>by
  have ih:=zD7 row share A hj q;unfold zAS;by_cases e:row.getD q (-1)= -1
  ·rw [if_pos e,ih];by_cases e2:j=q
   ·subst e2;rw [if_neg (by omega),if_neg (fun h=>h.2 e)]
   ·by_cases e3:j<q∧row.getD j (-1)≠-1
    ·rw [if_pos e3,if_pos ⟨by omega,e3.2⟩]
    ·rw [if_neg e3,if_neg (fun h=>e3 ⟨by omega,h.2⟩)]
  ·rw [if_neg e,zGe (by rw [zC2];exact hj)];by_cases e2:q=j
   ·subst e2;rw [if_pos rfl,ih,if_neg (by omega),if_pos ⟨by omega,e⟩];omega
   ·rw [if_neg e2,ih];by_cases e3:j<q∧row.getD j (-1)≠-1
    ·rw [if_pos e3,if_pos ⟨by omega,e3.2⟩]
    ·rw [if_neg e3,if_neg (fun h=>e3 ⟨by omega,h.2⟩)]
def zMj (n i k:Nat) (mark:Int) (row:List Int) (L:Nat→List Int):Nat→List Int:=
 let share:=720720 / (L (n+2)).getD i 0
 fun u=>if u=n+1 then(L (n+1)).set k ((L (n+1)).getD k 0+ (mark*720720 - (L (n+3)).getD i 0*share)) else if u=k then zAS row share ((L k).set k ((L k).getD k 0+720720)) row.length else L u
def PutP (n₀ P Ra ca n E:Nat) (G:Nat→Nat) (L':Nat→List Int) (w:World) (e:Ending) (w':World):Prop:=e=.returned (.tuple #[])∧SysR w' P Ra ca n E G L'∧PutK n₀ w w'
theorem zH9 (n₀ P Ra ca n E i k:Nat) (G:Nat→Nat) (L:Nat→List Int) (mark:Int) (ar:Option Addr) (cr:Nat) (row:List Int) (w0 w:World) (h:SysR w P Ra ca n E G L) (hn0:∀t,t<n+4→w0.heap.size≤G t) (hE:Ext w0 w) (hI:Ints w0 ar cr row)
 (hi:i<E) (hk:k<n) (hn:n≤16) (hE64:E≤64) (hrow:row.length=n) (hm:-1≤mark∧mark≤1000) (hmany:1≤(L (n+2)).getD i 0∧(L (n+2)).getD i 0≤16) (hsum:0≤(L (n+3)).getD i 0∧(L (n+3)).getD i 0≤16000)
 (hb:-1000000000000000≤(L (n+1)).getD k 0∧(L (n+1)).getD k 0≤1000000000000000) (ha:∀j,j<n→-1000000000000000≤(L k).getD j 0∧(L k).getD j 0≤1000000000000000):
 Calls Tryz.prog 58 #[.pointer (some ⟨P,0,none⟩),.int .i64 i,.int .i64 k,.int .i64 mark,.slice ar n cr] w (PutP w0.heap.size P Ra ca n E G (zMj n i k mark row L) w):=by
 have hca:=h.ca;have hlm:(L (n+2)).length=E:=by have:=h.len (n+2) (by omega);rwa [if_neg (by omega),if_neg (by omega)] at this
 have hls:(L (n+3)).length=E:=by have:=h.len (n+3) (by omega);rwa [if_neg (by omega),if_neg (by omega)] at this
 have hlb:(L (n+1)).length=n+1:=by have:=h.len (n+1) (by omega);rwa [if_neg (by omega),if_pos rfl] at this
 have hlk:(L k).length=n:=by have:=h.len k (by omega);rwa [if_pos (by omega)] at this
 have c2:=h.p.cell (i:=2) rfl;have m0:=h.at (t:=n+2) (i:=i) (by omega) (by rw [hlm];exact hi)
 obtain⟨many,hmy⟩:∃many,(L (n+2)).getD i 0=many:=⟨_,rfl⟩
 obtain⟨sums,hsm⟩:∃sums,(L (n+3)).getD i 0=sums:=⟨_,rfl⟩
 obtain⟨bk,hbk⟩:∃bk,(L (n+1)).getD k 0=bk:=⟨_,rfl⟩
 rw [hmy] at m0 hmany;rw [hsm] at hsum;rw [hbk] at hb;have hdv:(720720:Int).tdiv many=720720 / many:=Int.tdiv_eq_ediv_of_nonneg (by omega);obtain⟨share,hsh⟩:∃share,(720720:Int) / many=share:=⟨_,rfl⟩
 have hs1:0≤share:=by rw [←hsh];exact Int.ediv_nonneg (by omega) (by omega)
 have hs2:share≤720720:=by rw [←hsh];exact Int.ediv_le_self _ (by omega)
 rw [hsh] at hdv;have hq0:many≠0:=by omega
 have i0:(0:Int)≤(i:Int):=by omega
 have i1:(i:Int)< (E:Int):=by omega
 have k0:(0:Int)≤(k:Int):=by omega
 have k1:(k:Int)< (n:Int):=by omega
 have k2:(k:Int)< (n:Int)+1:=by omega
 have hwd:IntKind.i64.wrap share=share:=IntWalk.i64_in _ (by omega);have HH:=dH h;clear h;go_enter Tryz.func58,Tryz.ntmps58;have hss1:0≤sums*share:=Int.mul_nonneg hsum.1 hs1;have hss2:sums*share≤16000*720720:=Int.mul_le_mul hsum.2 hs2 hs1 (by omega);obtain⟨pr,hpr⟩:∃pr,sums*share=pr:=⟨_,rfl⟩
 rw [hpr] at hss1 hss2;have hw1:IntKind.i64.wrap (mark*720720)=mark*720720:=IntWalk.i64_in _ (by omega);have hw2:IntKind.i64.wrap pr=pr:=IntWalk.i64_in _ (by omega);have hw3:IntKind.i64.wrap (mark*720720 - pr)=mark*720720 - pr:=IntWalk.i64_in _ (by omega);have hw4:IntKind.i64.wrap (bk+ (mark*720720 - pr))=bk+ (mark*720720 - pr):=IntWalk.i64_in _ (by omega);have HPE:Hid (∀u,zMj n i k mark row L u=if u=n+1 then(L (n+1)).set k (bk+ (mark*720720 - pr)) else if u=k then zAS row share ((L k).set k ((L k).getD k 0+720720)) row.length else L u):=dH (fun u=>by unfold zMj;rw [hmy,hsm,hbk,hsh,hpr]);have HG0:=dH hn0;have HE:=dH hE;have HI:=dH hI;have HA:=dH ha;have hrle:=hI.le;have hrmx:=hI.mx;clear hn0 hE hI ha hmy;go_upto_region 1 with fail
 try rw [hsh]
 try rw [hpr]
 clear hdv
 go_cut [10] (fun s wx=>s=.int .i64 share∧SysR wx P Ra ca n E G (zGd L (n+1) k (bk+ (mark*720720 - pr)))∧PutK w0.heap.size w wx)
 case first=>
  have hyd:Ext w (World.drew w):=(Ext.refl _).drew;have hh9:=HH.out.ext hyd;have s0:=hh9.p.cell (i:=1) rfl;have s1:=hh9.p.cell (i:=3) rfl;have s2:=hh9.at (t:=n+3) (i:=i) (by omega) (by rw [hls];exact hi)
  have b0:=hh9.at (t:=n+1) (i:=k) (by omega) (by rw [hlb];omega)
  have f0:=hh9.free (t:=n+1) (by omega) k;rw [hsm] at s2;rw [hbk] at b0;have hh2:=hh9.put (t:=n+1) (by omega) k (bk+ (mark*720720 - pr));have e3:zGd L (n+1) k (bk+ (mark*720720 - pr)) (n+3)=L (n+3):=if_neg (by omega);have t0:=hh2.p.cell (i:=1) rfl;have t1:=hh2.p.cell (i:=3) rfl;have t2:=hh2.at (t:=n+3) (i:=i) (by omega) (by rw [e3,hls];exact hi)
  rw [e3,hsm] at t2;have HT:=dH (And.intro t0 (And.intro t1 t2));have HH2:=dH hh2;have HPK:Hid (PutK w0.heap.size w ((World.drew w).setCell ⟨G (n+1),k,none⟩ (.int .i64 (bk+ (mark*720720 - pr))))):=dH ((PutK.ext hyd HE.out.size).trans (PutK.set (hh9.ib (n+1) (by omega)) (HG0.out _ (by omega)) k _));clear hyd hh9 hh2 e3 t0 t1 t2 HH;refine wp_region_held_drew (S:=(fun w'=>w'.cell? ⟨P,1,none⟩=some (.slice (some ⟨G (n+1),0,none⟩) (n+1) (n+1))∧w'.cell? ⟨P,3,none⟩=some (.slice (some ⟨G (n+3),0,none⟩) E E)∧w'.cell? ⟨G (n+3),i,none⟩=some (.int .i64 sums))) (by kernel_rfl) ?_ (fun hHeld=>?_)
  ·exact⟨s0,s1,s2⟩
  (try simp only [pur,Nat.reduceAdd])
  generalize World.drew w=x9 at *
  iterate 19
   refine tkR [0,1,2,3,4,5,6,8,9,10,11,12,13,14,15,16,17,18,19] (v:=?_) rfl rfl (by kernel_rfl) (fun _ _ _ h=>h) (by rfl) ?_ (by assumption) ?_;rotate_left
   ·(intro w hSw;(try dsimp only at hSw);(try go_simp);(try with_reducible rfl))
   (try simp only [Act.put,pus])
  refine wpAnyH_ready (rs:=[7]) (by kernel_rfl) (by simp) ?_;refine AllReadyH.cons (o:=_) rfl (fun K hK=>?_) ?_
  ·go_simp;refine hK.out _ _ ?_ ?_
   ·exact⟨s0,s1,s2⟩
   clear hK K hHeld;intro hHeld
   (try simp only [Act.put,pus])
   iterate 2
    refine tkR [20,21] (v:=?_) rfl rfl (by kernel_rfl) (fun _ _ _ h=>h) (by rfl) ?_ (by assumption) ?_;rotate_left
    ·(intro w hSw;(try dsimp only at hSw);(try go_simp);(try with_reducible rfl))
    (try simp only [Act.put,pus])
   refine wpAnyH_ready (rs:=[22]) (by kernel_rfl) (by simp) ?_;refine AllReadyH.cons (o:=_) rfl (fun K hK=>?_) ?_
   ·go_simp;obtain⟨t0,t1,t2⟩:=HT.out;clear s0 s1 s2;have s0:=t0;have s1:=t1;have s2:=t2;clear t0 t1 t2;refine hK.out _ _ ?_ ?_
    ·exact⟨s0,s1,s2⟩
    clear hK K hHeld;intro hHeld
    (try simp only [Act.put,pus])
    refine wpAnyH_done (by kernel_rfl) ?_ _;go_wp2_with fail;go_meet;exact⟨rfl,HH2.out,HPK.out⟩
   exact AllReadyH.nil
  exact AllReadyH.nil
 case rest=>
 obtain⟨rfl,hh,hpk⟩:=hcut;have hL1:zGd L (n+1) k (bk+ (mark*720720 - pr)) k=L k:=if_neg (by omega);obtain⟨akk,hak⟩:∃akk,(L k).getD k 0=akk:=⟨_,rfl⟩
 have hab:=HA.out k hk;rw [hak] at hab;have hw5:IntKind.i64.wrap (akk+720720)=akk+720720:=IntWalk.i64_in _ (by omega);have c0:=hh.p.cell (i:=0) rfl;have r0:=hh.row (r:=k) (by omega);have a0:=hh.at (t:=k) (i:=k) (by omega) (by rw [hL1,hlk];exact hk)
 have f0:=hh.free (t:=k) (by omega) k;rw [hL1,hak] at a0;have hcn:=hca;have hLq:∀q,(fun u=>if u=n+1 then(L (n+1)).set k (bk+ (mark*720720 - pr)) else if u=k then zAS row share ((L k).set k (akk+720720)) q else L u)= (fun u=>if u=n+1 then(L (n+1)).set k (bk+ (mark*720720 - pr)) else if u=k then zAS row share ((L k).set k (akk+720720)) q else L u):=fun q=>rfl;have h2:=hh.put (t:=k) (by omega) k (akk+720720);have hLe:zGd (zGd L (n+1) k (bk+ (mark*720720 - pr))) k k (akk+720720)= (fun u=>if u=n+1 then(L (n+1)).set k (bk+ (mark*720720 - pr)) else if u=k then zAS row share ((L k).set k (akk+720720)) 0 else L u):=by
  funext u
  unfold zGd;by_cases e1:u=k
  ·rw [if_pos e1,if_neg (show ¬k=n+1 by omega),if_neg (by omega),if_pos e1];rfl
  ·rw [if_neg e1];by_cases e2:u=n+1
   ·rw [if_pos e2,if_pos e2]
   ·rw [if_neg e2,if_neg e2,if_neg e1]
 rw [hLe] at h2;have HS2:=dH h2;have HPK2:Hid (PutK w0.heap.size w (wc.setCell ⟨G k,k,none⟩ (.int .i64 (akk+720720)))):=dH (hpk.trans (PutK.set (hh.ib k (by omega)) (HG0.out k (by omega)) k _));have HAK:=dH hak;have hk3:(k:Int)< (n:Int)+1:=by omega
 clear hh hpk h2 hLe hLq hL1 hak HH;go_upto_region 3 with fail;clear c0 r0 a0 f0;generalize (wc.setCell ⟨G k,k,none⟩ (.int .i64 (akk+720720)))=x2 at *;go_wp2_with fail
 go_loopw [58] (fun v wr=>∃q:Nat,q≤n∧v=.int .i64 q∧SysR wr P Ra ca n E G (fun u=>if u=n+1 then(L (n+1)).set k (bk+ (mark*720720 - pr)) else if u=k then zAS row share ((L k).set k (akk+720720)) q else L u)∧PutK w0.heap.size w wr) (fun v _=>n - (intOf v).toNat)
 case atStart=>exact⟨0,Nat.zero_le _,rfl,HS2.out,HPK2.out⟩
 case round=>
  obtain⟨q,hq,rfl,hs,hp⟩:=hrel;generalize wr=x3 at *;have q0:(0:Int)≤(q:Int):=by omega
  by_cases hqn:q<n
  ·have q1:(q:Int)< (n:Int):=by omega
   have hw6:IntKind.i64.wrap ((q:Int)+1)= (q:Int)+1:=IntWalk.i64_in _ (by omega);have hxr:Ext w0 x3:=Below.trans HE.out hp.low;have hqr:q<row.length:=by omega
   obtain⟨b2,o2,rfl⟩:=HI.out.head hqr;obtain⟨y,hy,hcy,y1,y2⟩:=Ints.get (HI.out.ext hxr) hqr;have hyd:row.getD q (-1)=y:=by rw [List.getD_eq_getElem?_getD,hy];rfl
   have HYD:=dH hyd;have HS3:=dH hs;have HP3:=dH hp;clear hy hyd hxr hs hp;by_cases hmiss:y= -1
   ·have t1:(y != -1)=false:=by simp [hmiss]
    have HR:Hid (∀A,zAS row share A (q+1)=zAS row share A q):=dH (fun A=>by show(if row.getD q (-1)= -1 then _ else _)=_;rw [if_pos (by rw [HYD.out];exact hmiss)]);clear hmiss;go_wp2_with fail;refine(zAA y _).mono ?_;rintro e w9 ⟨rfl,rfl⟩;rw [t1];go_wp2_with fail;go_roundw
    case rel=>exact⟨q+1,by omega,by go_num,by simp only [HR.out];exact HS3.out,HP3.out⟩
    case measure=>simp [intOf];omega
   ·have t1:(y != -1)=true:=by simp [hmiss]
    have hlr:(zAS row share ((L k).set k (akk+720720)) q).length=n:=by rw [zC2,List.length_set,hlk]
    obtain⟨Lq,hLq⟩:∃Lq,Lq= (fun u=>if u=n+1 then(L (n+1)).set k (bk+ (mark*720720 - pr)) else if u=k then zAS row share ((L k).set k (akk+720720)) q else L u):=⟨_,rfl⟩
    rw [←hLq] at HS3;have hLk:Lq k=zAS row share ((L k).set k (akk+720720)) q:=by
     rw [hLq];show(if k=n+1 then _ else if k=k then _ else _)=_;rw [if_neg (by omega),if_pos rfl]
    have c0:=HS3.out.p.cell (i:=0) rfl;have r0:=HS3.out.row (r:=k) (by omega);have a0:=HS3.out.at (t:=k) (i:=q) (by omega) (by rw [hLk,hlr];exact hqn)
    have f0:=HS3.out.free (t:=k) (by omega) q;rw [hLk] at a0;have hv:(zAS row share ((L k).set k (akk+720720)) q).getD q 0=if k=q then akk+720720 else(L k).getD q 0:=by
     rw [zD7 row share _ (by rw [List.length_set,hlk];exact hqn),if_neg (by omega),zGe (by rw [hlk];exact hqn)];omega
    obtain⟨av,hav⟩:∃av,(zAS row share ((L k).set k (akk+720720)) q).getD q 0=av:=⟨_,rfl⟩
    have hab2:=HA.out q hqn;rw [hav] at a0 hv
    have hw7:IntKind.i64.wrap (av - share)=av - share:=IntWalk.i64_in _ (by
     by_cases e:k=q
     ·rw [if_pos e] at hv;omega
     ·rw [if_neg e] at hv;omega)
    have h4:=HS3.out.put (t:=k) (by omega) q (av - share);have hLe:zGd Lq k q (av - share)= (fun u=>if u=n+1 then(L (n+1)).set k (bk+ (mark*720720 - pr)) else if u=k then zAS row share ((L k).set k (akk+720720)) (q+1) else L u):=by
     funext u
     unfold zGd;by_cases e1:u=k
     ·rw [if_pos e1,hLk,if_neg (by omega),if_pos e1];show _=if row.getD q (-1)= -1 then _ else _;rw [if_neg (by rw [HYD.out];exact hmiss),hav]
     ·rw [if_neg e1,hLq];show(if u=n+1 then _ else if u=k then _ else _)=_;by_cases e2:u=n+1
      ·rw [if_pos e2,if_pos e2]
      ·rw [if_neg e2,if_neg e2,if_neg e1,if_neg e1]
    rw [hLe] at h4;have HS4:=dH h4;have HP4:Hid (PutK w0.heap.size w (x3.setCell ⟨G k,q,none⟩ (.int .i64 (av - share)))):=dH (HP3.out.trans (PutK.set (HS3.out.ib k (by omega)) (HG0.out k (by omega)) q _));clear h4 hLe hLk hlr hv hav hab2 hmiss HS3 HP3 hLq;go_wp2_with fail;refine(zAA y _).mono ?_;rintro e w9 ⟨rfl,rfl⟩;rw [t1];go_wp2_with fail;go_roundw
    case rel=>exact⟨q+1,by omega,by go_num,HS4.out,HP4.out⟩
    case measure=>simp [intOf];omega
  ·have q1:¬ (q:Int)< (n:Int):=by omega
   obtain rfl:q=n:=by omega
   have HPP:Hid (PutP w0.heap.size P Ra ca q E G (zMj q i k mark row L) w (.returned (.tuple #[])) x3):=dH ⟨rfl,by
    rw [show zMj q i k mark row L= (fun u=>if u=q+1 then(L (q+1)).set k (bk+ (mark*720720 - pr)) else if u=k then zAS row share ((L k).set k (akk+720720)) q else L u) from by
     funext u
     rw [HPE.out u,hrow,HAK.out]]
    exact hs,hp⟩
   clear hs hp;go_wp2_with fail
   go_end0
   exact HPP.out
theorem zAl (p:Addr) (x e:Int) (older:List PanicEntry) (w:World) (hc:w.cell? p=some (.int .i64 x)) (hz:w.frozen? p=false):
 CallsD Tryz.prog 52 #[.pointer (some p)] (.panicking ({v:=.iface 29 (.int .i64 e),recovered:=false} :: older)) w fun r u' w'=>
  r=.returned (.tuple #[])∧u'=.panicking ({v:=.iface 29 (.int .i64 e),recovered:=true} :: older)∧w'=w.setCell p (.int .i64 e):=by
 have hta:∀ (v:Value) (w:World),(Instr.typeAssert (.iface 29 v) 20 29 true).run Tryz.prog w=.ok (.tuple #[v,.bool true]) w:=fun _ _=>by kernel_rfl
 refine callsD_of_wpS Tryz.func52 rfl fun c₀ cs hu=>?_;apply wpS_seq;apply wpS_region;simp [wpOpsS,go_sem,recoverD,hu,Tryz.ntmps52,Exit.thenS];refine wpS_of_wp ?_;clear hu;refine wp_block ?_;refine wp_seq ?_;refine wp_region ?_;simp [wpOps,wpList,go_sem,Exit.then]
 repeat refine Or.inl ?_
 refine wp_cond_false (c:=.tmp 7) ?_ ?_
 ·simp [Act.eval,Array.replicate]
 refine wp_seq ?_;refine wp_region ?_;simp [wpOps,wpList,go_sem,Exit.then,hta]
 repeat refine Or.inl ?_
 refine wp_cond_true (c:=.tmp 9) ?_ ?_
 ·simp [Act.eval,Array.replicate]
 refine wp_seq ?_;refine wp_region ?_;simp [wpOps,wpList,go_sem,Exit.then]
 repeat refine Or.inl ?_
 refine wp_region ?_;simp [wpOps,wpList,go_sem,Exit.then,Exit.inBlock,hc,hz,bodyPostS,results,Tryz.results52]
theorem zC3 (p:Addr) (w:World):
 CallsD Tryz.prog 117 #[.pointer (some p)] .returning w fun e u' w'=>e=.returned (.tuple #[])∧u'=.returning∧w'=w:=by
 refine callsD_of_wpS Tryz.func117 rfl fun c₀ cs hu=>?_;apply wpS_seq;apply wpS_region;simp [wpOpsS,go_sem,recoverD,hu,Tryz.ntmps117,Exit.thenS];apply wpS_seq;apply wpS_region;simp [wpOpsS,go_sem,Exit.thenS];refine wpS_cond (t:=false) (by simp [Act.eval,Array.replicate]) ?_;simp only [Bool.false_eq_true,if_false];refine wpS_of_wp (wp_skip ?_);cases c₀
 simp_all [bodyPostS,results,Tryz.results117]
theorem zB7 {w:World} {b o g i:Nat} {u:Value} (h:w.cell? ⟨b,o,none⟩=some u) (hne:b≠g) (v:Value):(w.setCell ⟨g,i,none⟩ v).cell? ⟨b,o,none⟩=some u:=by
 have hlt:=World.block_lt_of_cell? w _ h;have:=(zAa w g i v).block b hlt (fun e=>hne (Option.some.inj e));simp only [World.cell?] at h ⊢;rw [this];exact h
theorem zO0:(Tryz.prog.info? 95).map (fun i=>(i.zero,i.size,i.bytes))=some (some (.agg #[.int .i64 0,.int .i64 0]),2,16):=by kernel_rfl
def MkJ (B T:Nat) (c:Nat) (w:World):Prop:=B≤T∧B≤w.heap.size∧∃v xs,Blk w T #[v] 151∧w.ownsRow B 95 2 v c xs
theorem MkJ.ext {B T c:Nat} {w w':World} (h:MkJ B T c w) (k:Ext w w'):MkJ B T c w':=by
 obtain⟨h1,h2,v,xs,hb,ho⟩:=h;exact⟨h1,Nat.le_trans h2 k.size,v,xs,hb.ext k,zAg ho k⟩
theorem MkJ.other {B T c r:Nat} {cs:Array Value} {w w':World} (h:MkJ B T c w) (hr:Blk w r cs 157) (hg:w.grownBy w' (some r)):MkJ B T c w':=by
 obtain⟨h1,h2,v,xs,hb,ho⟩:=h;exact⟨h1,Nat.le_trans h2 hg.size,v,xs,zA5 hb hg (fun e=>zAz hr hb (by decide) (Option.some.inj e)),zBs ho hg (.inr (zAI ho hr (by decide)))⟩
theorem zKb (T B c i k:Nat) (w:World) (h:MkJ B T c w) (hc:c≤100):Calls Tryz.prog 121 #[.pointer (some ⟨T,0,none⟩),.agg #[.int .i64 (i:Int),.int .i64 (k:Int)]] w fun e w'=>e=.returned (.tuple #[])∧MkJ B T (c+1) w'∧zNZ B w w':=by
 obtain⟨hBT,hBw,v,xs,hb,ho⟩:=h;obtain⟨x1,hw,hx,Kx⟩:=zCh w #[.int .i64 (i:Int),.int .i64 (k:Int)] 95;replace hw:=dH hw;have HB:=dH (hb.ext hx);have HO:=dH (zAg ho hx);have HX:=dH hx;have hBx:=Nat.le_trans hBw hx.size;obtain⟨va,vc,rfl⟩:=zAh ho;have hTlt:=hb.lt;have hlt:∀g,(Value.slice va c vc).ownBlock=some g→g<w.heap.size:=fun g e=>(World.ownsRow.lt ho g e).2;clear hb ho hx;go_enter Tryz.func121,Tryz.ntmps121;go_upto_region 1 with fail;rw [hw.out];clear hw;have hyd:Ext x1 (World.drew x1):=(Ext.refl _).drew;replace HB:=dH (HB.out.ext hyd);replace HO:=dH (zAg HO.out hyd);replace Kx:=kE Kx hyd;replace HX:=dH (HX.out.trans hyd);replace hBx:=Nat.le_trans hBx hyd.size;clear hyd;have HKF:Hid (∀r cs,Blk w r cs 157→Blk (World.drew x1) r cs 157):=dH fun r cs h=>h.ext HX.out;have HL:Hid (Below B w (World.drew x1)):=dH ⟨HX.out.os,HX.out.tape,HX.out.output,HX.out.size,fun k hk=>HX.out.block k (by omega)⟩;have c0:=HB.out.cell (i:=0) rfl;obtain⟨s0,s1⟩:=bk2 Kx;obtain⟨bq,hbq⟩:∃bq,bq=w.heap.size:=⟨_,rfl⟩
 rw [←hbq] at Kx s0 s1;rw [show Array.size w.heap=bq from hbq.symm];have hTq:T<bq:=by rw [hbq];exact hTlt
 have HNE:Hid ((Value.slice va c vc).ownBlock≠some bq):=dH (fun e=>by have:=hlt _ e;rw [hbq] at this;omega);clear HX hbq hTlt hlt;refine wp_region_held_drew (S:=(fun w'=>w'.cell? ⟨bq,0,none⟩=some (.int .i64 (i:Int))∧w'.cell? ⟨bq,1,none⟩=some (.int .i64 (k:Int)))) (by kernel_rfl) ?_ (fun hHeld=>?_)
 ·exact⟨s0,s1⟩
 (try simp only [pur,Nat.reduceAdd])
 generalize World.drew x1=x2 at *
 iterate 5
  refine tkR [0,1,2,3,5] (v:=?_) rfl rfl (by kernel_rfl) (fun _ _ _ h=>h) (by rfl) ?_ (by assumption) ?_;rotate_left
  ·(intro w hSw;(try dsimp only at hSw);(try go_simp);(try with_reducible rfl))
  (try simp only [Act.put,pus])
 repeat' first
  | (refine tkR [8,9] (v:=?_) rfl rfl (by decide +kernel) (fun _ _ _ h=>h) (by rfl) ?_ (by assumption) ?_
     rotate_left
     ·(intro w hSw;(try dsimp only at hSw);(try go_simp);(try with_reducible rfl))
     (try simp only [Act.put,pus]))
  | (refine wpAnyH_done (by decide +kernel) ?_ _
     go_wp2_with fail
     go_end0
     exact⟨rfl,⟨hBT,Nat.le_trans hBx (by simp),_,_,HB.out.set 0 (.slice a9 (c+1) c9),zBs HO.out (zAa x4 T 0 _) (.inr (zAI HO.out HB.out (by decide)))⟩,⟨Below.grown HL.out (zAa x4 T 0 _) hBx (fun r e=>by cases e;exact hBT),fun r cs h=>zA5 (HKF.out r cs h) (zAa x4 T 0 _) (fun e=>zAz (HKF.out r cs h) HB.out (by decide) (Option.some.inj e).symm)⟩⟩)
  | (refine rdR [4,6,7,10] (by decide +kernel) (zAt ?_ (zAt ?_ (zAt ?_ (zAt ?_ zFw))))
     first
     | exact noR (by decide +kernel)
     | (refine isR (o:=_) rfl (fun K hK=>?_)
        go_simp
        rotate_left)
     first
     | exact noR (by decide +kernel)
     | (refine isR (o:=_) rfl (fun K hK=>?_)
        go_simp;have hy:=Ext.alloc x2 (.cells #[.int .i64 (i:Int),.int .i64 (k:Int)] 95);replace HL:=dH (HL.out.trans ⟨hy.os,hy.tape,hy.output,hy.size,fun k hk=>hy.block k (by omega)⟩);replace HB:=dH (HB.out.ext hy);replace HO:=dH (zAg HO.out hy);replace Kx:=kE Kx hy;replace hBx:=Nat.le_trans hBx hy.size;replace s0:=zA0 hy s0;replace s1:=zA0 hy s1;replace c0:=zA0 hy c0;replace HKF:Hid (∀r cs,Blk w r cs 157→Blk _ r cs 157):=dH (fun r cs h=>(HKF.out r cs h).ext hy);have K2:=dH (Blk.new0 x2 #[.int .i64 (i:Int),.int .i64 (k:Int)] 95);clear hy;generalize World.alloc x2 (.cells #[.int .i64 (i:Int),.int .i64 (k:Int)] 95)=x3 at *;generalize Array.size (World.heap x2)=b2 at *
        rotate_left)
     first
     | exact noR (by decide +kernel)
     | (refine isR (o:=_) rfl (fun K hK=>?_)
        refine zAk rfl (.tmp 8) (.tmp 10) 85 95 rfl (z:=.agg #[.int .i64 0,.int .i64 0]) (k:=2) (by_:=16) Tryz.underlying85 zO0 rfl (by decide) (B:=B) hBx rfl HO.out rfl (fun e=>by cases e) (news:=[.int .i64 (i:Int),.int .i64 (k:Int)]) rfl (fun A' hA j u hu=>by cases hA;rw [Addr.add_off,Nat.zero_add];exact K2.out.cell (by simpa using hu)) (fun u hu=>by simp only [List.mem_cons,List.not_mem_nil,or_false] at hu;rcases hu with rfl | rfl <;> rfl) (by omega) (by omega) ?_;intro v' x4 ho hg hnl hat;obtain⟨a9,c9,rfl⟩:=zAh ho;have h1:=HB.out;have h2:=HO.out;replace HB:=dH (zA5 h1 hg (zAI h2 h1 (by decide)));replace Kx:=dH (zA5 Kx.out hg HNE.out);replace HKF:Hid (∀r cs,Blk w r cs 157→Blk x4 r cs 157):=dH (fun r cs h=>zA5 (HKF.out r cs h) hg (zAI h2 (HKF.out r cs h) (by decide)));replace HL:Hid (Below B w x4):=dH (Below.grown HL.out hg hBx (fun r e=>(World.ownsRow.lt h2 r e).1));replace hBx:=Nat.le_trans hBx hg.size;clear HO;have HO:=dH ho;obtain⟨s0',s1'⟩:=bk2 Kx;clear s0 s1;have s0:=s0';have s1:=s1';clear s0' s1' h1 h2 ho hg hnl hat K2 HNE c0
        rotate_left)
     first
     | exact noR (by decide +kernel)
     | (refine isR (o:=_) rfl (fun K hK=>?_)
        have p0:=HB.out.cell (i:=0) rfl;have f0:=HB.out.free 0;go_simp;clear p0 f0;replace s0:=zB7 s0 (g:=T) (i:=0) (by omega) (.slice a9 (c+1) c9);replace s1:=zB7 s1 (g:=T) (i:=0) (by omega) (.slice a9 (c+1) c9)
        rotate_left)
     all_goals (
      refine hK.out _ _ ?_ ?_
      ·exact⟨s0,s1⟩
      clear hK K hHeld;intro hHeld
      (try simp only [Act.put,pus])))
def zO1 (m:List (List Bool)) (n:Nat) (w:World) (e:Ending) (w':World):Prop:=∃ (a:Option Addr) (q c:Nat) (b:Bool),e=.returned (.tuple #[.slice a q c,.bool b,.int .i64 0])∧(b=true↔zHT m.length n (edB m []))∧Ext w w'
theorem zFD (a:Option Addr) (cap:Nat) (m:List (List Bool)) (n:Nat) (w:World) (h:BRows w a cap m) (ht:zNy m n) (h0:0<m.length):Calls Tryz.prog 56 #[.slice a m.length cap] w (zO1 m n w):=by
 have hmf:∀ (fn:Fn) (first cap:Array Value) (w:World),(Instr.makeFunc fn first cap).run Tryz.prog w=.ok (.func fn first cap) w:=fun _ _ _ _=>rfl;obtain⟨x1,hw,hx,Ke⟩:=zCh w #[.int .i64 0] 29;replace hw:=dH hw;have HH:=dH h;have HT:=dH ht;have HX:=dH hx;clear h ht hx
 go_enter_defers Tryz.func56,Tryz.ntmps56
 go_upto_region 1 with fail;rw [hw.out];clear hw;go_wp2_with fail;refine(zHW a cap m n x1 (HH.out.ext HX.out) HT.out h0).mono ?_;rintro e x2 ⟨rfl,hy⟩;replace HX:=dH (HX.out.trans hy);replace Ke:=kE Ke hy;clear hy;go_wp2_with fail;refine(zHV _).mono ?_;rintro e x3 ⟨rfl,hy⟩;replace HX:=dH (HX.out.trans hy);replace Ke:=kE Ke hy;clear hy;go_wp2_with fail;have hya:=Ext.alloc x3 (.cells #[.slice none 0 0] 151);have hJ0:MkJ x3.heap.size x3.heap.size 0 (x3.alloc (.cells #[.slice none 0 0] 151)):=⟨Nat.le_refl _,hya.size,_,_,Blk.new0 x3 _ _,World.ownsRow_nil _ _ _ _⟩
 have hnil:Ints x3 none 0 []:=⟨Nat.le_refl _,by simp,fun _=>rfl,fun A hA=>by cases hA⟩
 have hen:∀args w,(callFunc 121 args).run Tryz.prog w=.ok (.enter 121 args) w:=fun _ _=>rfl;have HGR:=dH (zHY a cap m n none 0 [] 121 #[.pointer (some ⟨x3.heap.size,0,none⟩)] (fun c W=>MkJ x3.heap.size x3.heap.size c W) x3 _ hya (HH.out.ext HX.out) HT.out h0 hnil (by simp) hJ0 (fun c W W' r cs hj _ hb hg=>hj.other hb hg) (fun c W W' hj hx=>hj.ext hx) hen (fun c W i k hc hj hx=>zKb x3.heap.size x3.heap.size c i k W hj hc));have hlt:=Ke.out.lt;clear hya hJ0 hnil hen;generalize x3.alloc (.cells #[.slice none 0 0] 151)=x4 at *;generalize x3.heap.size=Tb at *;refine HGR.out.mono ?_;rintro e x5 ⟨F,up,lab,rk,rfl,hpx,hfb,⟨c,hBT,hBw,v,xs,hb,hov⟩,hx5⟩;replace HX:=dH (HX.out.trans hx5);replace Ke:=kE Ke hx5;obtain⟨va,vc,rfl⟩:=zAh hov;have HHB:=dH hb;have HFB:=dH hfb;have HCN:=dH hpx.conn;clear hpx hfb hb hov hx5 HGR;go_upto_region 5 with fail;have hyd:Ext x5 (World.drew x5):=(Ext.refl _).drew;replace HX:=dH (HX.out.trans hyd);replace Ke:=kE Ke hyd;have s0:=(HHB.out.ext hyd).cell (i:=0) rfl;have s1:=(HFB.out.ext hyd).atP;have hTE:Tb≠w.heap.size:=by omega
 have hFE:F≠w.heap.size:=fun e=>by
  obtain⟨cs,hbF,_⟩:=HFB.out;have k1:=Ke.out;subst e;exact zAz (hbF.ext hyd) k1 (by decide) rfl
 clear hyd;have c0:=Ke.out.cell (i:=0) rfl;have f0:=Ke.out.free 0;simp only [List.length_nil,Int.natCast_zero,Int.sub_zero] at s1;have HP:∀b:Bool,(b=true↔zAf up (m.length+n)≤1)→Hid (zO1 m n w (.returned (.tuple #[.slice va c vc,.bool b,.int .i64 0])) ((World.drew x5).setCell ⟨w.heap.size,0,none⟩ (.int .i64 0))):=fun b hb=>dH ⟨va,c,vc,b,rfl,hb.trans HCN.out,HX.out.set (p:=⟨w.heap.size,0,none⟩) (Nat.le_refl _) _⟩;have HR0:=dH ((Ke.out.set 0 (.int .i64 0)).cell (i:=0) (v:=.int .i64 0) rfl);clear HFB HHB HCN HX Ke;by_cases hp:zAf up (m.length+n)≤1
 ·have t1:decide ((zAf up (m.length+n):Int)≤1)=true:=decide_eq_true (by omega);have HP1:=HP true (by simp [hp]);clear HP hp;refine wp_region_noPanic ?_;refine wp_region_held_drew (S:=(fun w'=>w'.cell? ⟨Tb,0,none⟩=some (.slice va c vc)∧w'.cell? ⟨F,80,none⟩=some (.int .i64 (zAf up (m.length+n):Int)))) (by kernel_rfl) ?_ (fun hHeld=>?_)
  ·exact⟨s0,s1⟩
  (try simp only [pur,Nat.reduceAdd])
  generalize World.drew x5=x6 at *
  iterate 9
   refine tkR [0,1,2,3,4,5,6,7,8] (v:=?_) rfl rfl (by kernel_rfl) (fun _ _ _ h=>h) (by rfl) ?_ (by assumption) ?_;rotate_left
   ·(intro w hSw;(try dsimp only at hSw);(try go_simp);(try with_reducible rfl))
   (try simp only [Act.put,pus])
  refine wpAnyH_ready (rs:=[9]) (by kernel_rfl) (by simp) ?_;refine AllReadyH.cons (o:=_) rfl (fun K hK=>?_) ?_
  ·go_simp;replace s0:=zB7 s0 (g:=w.heap.size) (i:=0) hTE (.int .i64 0);replace s1:=zB7 s1 (g:=w.heap.size) (i:=0) hFE (.int .i64 0);refine hK.out _ _ ?_ ?_
   ·exact⟨s0,s1⟩
   clear hK K hHeld;intro hHeld
   (try simp only [Act.put,pus])
   refine wpAnyH_done (by kernel_rfl) ?_ _;refine NoPanic.normal ?_;go_wp2_with fail;refine leaves_cons (f:=117) (args:=#[.pointer (some ⟨w.heap.size,0,none⟩)]) (by simp) (by simp [go_sem]) ?_;refine(zC3 ⟨w.heap.size,0,none⟩ _).mono ?_;rintro e u9 w9 ⟨rfl,rfl,rfl⟩;have cr:=HR0.out;simp [Leaves,settle,results,Tryz.results56,go_sem,cr];exact HP1.out
  exact AllReadyH.nil
 ·have t1:decide ((zAf up (m.length+n):Int)≤1)=false:=decide_eq_false (by omega);have HP1:=HP false (by simp [hp]);clear HP hp;refine wp_region_noPanic ?_;refine wp_region_held_drew (S:=(fun w'=>w'.cell? ⟨Tb,0,none⟩=some (.slice va c vc)∧w'.cell? ⟨F,80,none⟩=some (.int .i64 (zAf up (m.length+n):Int)))) (by kernel_rfl) ?_ (fun hHeld=>?_)
  ·exact⟨s0,s1⟩
  (try simp only [pur,Nat.reduceAdd])
  generalize World.drew x5=x6 at *
  iterate 9
   refine tkR [0,1,2,3,4,5,6,7,8] (v:=?_) rfl rfl (by kernel_rfl) (fun _ _ _ h=>h) (by rfl) ?_ (by assumption) ?_;rotate_left
   ·(intro w hSw;(try dsimp only at hSw);(try go_simp);(try with_reducible rfl))
   (try simp only [Act.put,pus])
  refine wpAnyH_ready (rs:=[9]) (by kernel_rfl) (by simp) ?_;refine AllReadyH.cons (o:=_) rfl (fun K hK=>?_) ?_
  ·go_simp;replace s0:=zB7 s0 (g:=w.heap.size) (i:=0) hTE (.int .i64 0);replace s1:=zB7 s1 (g:=w.heap.size) (i:=0) hFE (.int .i64 0);refine hK.out _ _ ?_ ?_
   ·exact⟨s0,s1⟩
   clear hK K hHeld;intro hHeld
   (try simp only [Act.put,pus])
   refine wpAnyH_done (by kernel_rfl) ?_ _;refine NoPanic.normal ?_;go_wp2_with fail;refine leaves_cons (f:=117) (args:=#[.pointer (some ⟨w.heap.size,0,none⟩)]) (by simp) (by simp [go_sem]) ?_;refine(zC3 ⟨w.heap.size,0,none⟩ _).mono ?_;rintro e u9 w9 ⟨rfl,rfl,rfl⟩;have cr:=HR0.out;simp [Leaves,settle,results,Tryz.results56,go_sem,cr];exact HP1.out
  exact AllReadyH.nil
def zAr (k:Nat):Code→Option Code
 | .block id c=>if id == k then some (.block id c) else zAr k c
 | .seq a b=>match zAr k a with
  | some c=>some c
  | none=>zAr k b
 | .cond _ a b=>match zAr k a with
  | some c=>some c
  | none=>zAr k b
 | .loop c=>zAr k c
 | .scope c=>zAr k c
 | _=>none
theorem zAX {P:Program} {c c':Code} {Q:Exit→Act→World→Prop} {a:Act} {w:World} (h:c=c') (k:Code.wp P c' Q a w):Code.wp P c Q a w:=h ▸ k
theorem zMk:zMh zGx where
 ext:=fun _ _ _ _ _ h=>h
 grown:=fun _ _ _ _ _ h _ _=>h
 new:=fun w v x h A n c e _=>by rw [h] at e;cases e
 one:=fun w v x h=>by rw [h];rfl
theorem zKc:(Tryz.prog.info? 4).map (fun i=>(i.zero,i.size,i.bytes))=some (some (.bool false),1,1):=by kernel_rfl
theorem zEP {a0 w:World} {ops:Array Oper} {rest:List Oper} {o:Oper} {a:Act} {Q:Exit→Act→World→Prop} (hgd:o.guard=none) (s x:Operand) (t:TypeId)
 (ho:o.op=.call {callee:=.builtin .append,args:=#[s,x],argTypes:=#[t,t]}) (ht:Tryz.prog.underlying t=some (.slice 4))
 (hx0:Ext a0 w) {v:Value} {xs:List Bool} (hs:a.eval s=v) (hown:OwnL zGx w a0.heap.size 4 v xs) {g:Nat} (hx:a.eval x=.slice (some ⟨g,0,none⟩) 1 1) {y:Bool} {bt:TypeId} (hb:Blk w g #[.bool y] bt)
 (hlen:xs.length≤1000000)
 (h:∀va vc w',OwnL zGx w' a0.heap.size 4 (.slice va (xs.length+1) vc) (xs ++ [y])→Ext a0 w'→w.grownBy w' v.ownBlock→wpList Tryz.prog ops Q rest (a.put o.dst (.slice va (xs.length+1) vc)) w'):wpList Tryz.prog ops Q (o :: rest) a w:=by
 obtain⟨i0,hi0,hz0,hz1,hz2⟩:=info_parts zKc;obtain⟨vs,hvs,hel⟩:=hown.ex
 refine wpList_append_own_at w hgd s x t ho a0.heap.size 4 i0 (.bool false) 1 1 ht hi0 hz0 hz1 hz2 rfl (by decide) v xs.length vs hs hvs ⟨g,0,none⟩ 1 1 [.bool y] hx rfl (fun j q hq=>by
  have e:((⟨g,0,none⟩:Addr).add j)= ⟨g,j,none⟩:=by unfold Addr.add;split <;> simp_all
  rw [e]
  exact hb.cell (by simpa using hq)) (fun q hq=>by rw [List.mem_singleton.1 hq];rfl) (by unfold maxLen;omega) (by omega) hx0.size ?_
 intro v' w' h1 h2 h3 h4;have hm:=hown.more zMk hvs hel (y:=y) (x:=.bool y) rfl (fun A n c e=>by cases e) h1 h2 h4;obtain⟨va,vc,e,_⟩:=hm.form;rw [List.length_append,List.length_singleton] at e;subst e;exact h va vc w' hm (Below.grown hx0 h2 hx0.size (fun k e=>(hown.lt k e).1)) h2
def zD8 (l:List Int):List Bool:=l.map fun x=>x != -1
def zCO (m:List (List Int)):List (List Bool):=m.map zD8
theorem zJ9 {l:List Int} {k:Nat} {x:Int} (h:l[k]? =some x):zD8 (l.take (k+1))=zD8 (l.take k) ++ [x != -1]:=by unfold zD8;rw [zB0 h,List.map_append];rfl
theorem zJa {m:List (List Int)} {k:Nat} {l:List Int} (h:m[k]? =some l):zCO (m.take (k+1))=zCO (m.take k) ++ [zD8 l]:=by unfold zCO;rw [zB0 h,List.map_append];rfl
theorem zEQ (l:List Int):(zD8 l).length=l.length:=by unfold zD8;simp
theorem zBD (m:List (List Int)):(zCO m).length=m.length:=by unfold zCO;simp
theorem zHa {a:Option Addr} {cap:Nat} {m:List (List Int)} {w0 w:World} (h:Rows w0 a cap m) (hE:Ext w0 w) (hm64:m.length≤64) (hm16:∀r∈m,r.length≤16) {K':Act→World→Prop} {Q':Exit→Act→World→Prop} {defs:List Deferred} {l0 l1 l2 l3 l5 l6 l7 l8 l9 ah ai aj hZ ia ak al ap aY bT dW dX bU bV aZ bf gM bg bh dY bW bX aA aB aC aD aE aG aH aI aJ aK aL aM aN bi bw bA bB bC bD bE bG bH bI bJ bK bL bM bN bO bP bQ bR bS aO aP aQ aR aS aT aU aV aW aX bY bZ dZ ed ee ef eh ek en b7 ci ck cl cA cB gN gO eo fX fY fZ f5 f7 f8 f9 ga gc ep cC gP cD cE cF cG cH cI cJ cK cL cN cO cP cQ cR cS cT cU cV cW cX gQ cY cZ dc de df dg dh di dj dk dn dp dt gR gS er eu ew ey ez eB eC eD eE eF eG dw gT gU eH eI eJ eK eM eN eO eP eQ eR eS eT eW eX eY eZ fa fc fd fe ff fg fh fi fj fk fl fm fq fs ft fu fv fw dA dB dC dD dE dF dG dI dJ dK dL dM dN dO dP dQ dR gV gW gX fx fy fz fA fB fC fD fE fF fG gY gZ hH gd gh gl gn gy gz gA gC gD gE gF gG gH gI gJ gK gL fH fI fJ fK fL fM fN fO fP fQ fR fS fT fU fV fW dS:Value}
 (hfin:∀ (u6 u7 u9 iP iQ iR iS iT iU iV iW iX iY iZ i4 i5 i6 i7 i8 ja u64 jb jc jd:Value) (va:Option Addr) (vc:Nat) (w':World),OwnL zDH w' w.heap.size 52 (.slice va m.length vc) (zCO m)→Ext w w'→K' ⟨#[l0,l1,l2,l3,.slice va m.length vc,l5,u6,u7,l8,u9,ah,ai,aj,hZ,ia,ak,al,ap,aY,bT,dW,dX,bU,bV,aZ,bf,gM,bg,bh,dY,bW,bX,aA,aB,aC,aD,aE,aG,aH,aI,aJ,aK,aL,aM,aN,.slice a m.length cap,.int .i64 (m.length:Nat),iP,iQ,iR,iS,iT,iU,iV,iW,iX,iY,iZ,i4,i5,i6,i7,i8,ja,u64,jb,jc,jd,aO,aP,aQ,aR,aS,aT,aU,aV,aW,aX,bY,bZ,dZ,ed,ee,ef,eh,ek,en,b7,ci,ck,cl,cA,cB,gN,gO,eo,fX,fY,fZ,f5,f7,f8,f9,ga,gc,ep,cC,gP,cD,cE,cF,cG,cH,cI,cJ,cK,cL,cN,cO,cP,cQ,cR,cS,cT,cU,cV,cW,cX,gQ,cY,cZ,dc,de,df,dg,dh,di,dj,dk,dn,dp,dt,gR,gS,er,eu,ew,ey,ez,eB,eC,eD,eE,eF,eG,dw,gT,gU,eH,eI,eJ,eK,eM,eN,eO,eP,eQ,eR,eS,eT,eW,eX,eY,eZ,fa,fc,fd,fe,ff,fg,fh,fi,fj,fk,fl,fm,fq,fs,ft,fu,fv,fw,dA,dB,dC,dD,dE,dF,dG,dI,dJ,dK,dL,dM,dN,dO,dP,dQ,dR,gV,gW,gX,fx,fy,fz,fA,fB,fC,fD,fE,fF,fG,gY,gZ,hH,gd,gh,gl,gn,gy,gz,gA,gC,gD,gE,gF,gG,gH,gI,gJ,gK,gL,fH,fI,fJ,fK,fL,fM,fN,fO,fP,fQ,fR,fS,fT,fU,fV,fW,dS],defs⟩ w'):
 Code.wp Tryz.prog ((Tryz.f17.body.bind (zAr 0)).getD .skip) (Exit.then K' Q') ⟨#[l0,l1,l2,l3,.slice none 0 0,l5,l6,l7,l8,l9,ah,ai,aj,hZ,ia,ak,al,ap,aY,bT,dW,dX,bU,bV,aZ,bf,gM,bg,bh,dY,bW,bX,aA,aB,aC,aD,aE,aG,aH,aI,aJ,aK,aL,aM,aN,.slice a m.length cap,.int .i64 (m.length:Nat),.int .i64 0,bi,bw,bA,bB,bC,bD,bE,bG,bH,bI,bJ,bK,bL,bM,bN,bO,bP,bQ,bR,bS,aO,aP,aQ,aR,aS,aT,aU,aV,aW,aX,bY,bZ,dZ,ed,ee,ef,eh,ek,en,b7,ci,ck,cl,cA,cB,gN,gO,eo,fX,fY,fZ,f5,f7,f8,f9,ga,gc,ep,cC,gP,cD,cE,cF,cG,cH,cI,cJ,cK,cL,cN,cO,cP,cQ,cR,cS,cT,cU,cV,cW,cX,gQ,cY,cZ,dc,de,df,dg,dh,di,dj,dk,dn,dp,dt,gR,gS,er,eu,ew,ey,ez,eB,eC,eD,eE,eF,eG,dw,gT,gU,eH,eI,eJ,eK,eM,eN,eO,eP,eQ,eR,eS,eT,eW,eX,eY,eZ,fa,fc,fd,fe,ff,fg,fh,fi,fj,fk,fl,fm,fq,fs,ft,fu,fv,fw,dA,dB,dC,dD,dE,dF,dG,dI,dJ,dK,dL,dM,dN,dO,dP,dQ,dR,gV,gW,gX,fx,fy,fz,fA,fB,fC,fD,fE,fF,fG,gY,gZ,hH,gd,gh,gl,gn,gy,gz,gA,gC,gD,gE,gF,gG,gH,gI,gJ,gK,gL,fH,fI,fJ,fK,fL,fM,fN,fO,fP,fQ,fR,fS,fT,fU,fV,fW,dS],defs⟩ w:=by
 conv=>arg 2;whnf
 have hle:=h.le;have hmx:=h.mx;have HH:=dH h;have HE:=dH hE;have H16:=dH hm16;have HF:=dH hfin;clear h hE hm16 hfin;go_wp2_with fail
 go_loopw [4,47] (fun v i wr=>∃q:Nat,q≤m.length∧i=.int .i64 q∧OwnL zDH wr w.heap.size 52 v (zCO (m.take q))∧Ext w wr) (fun _ i _=>m.length - (intOf i).toNat)
 case atStart=>exact⟨0,Nat.zero_le _,rfl,OwnL.nil _ _ _,Ext.refl _⟩
 case round=>
  obtain⟨q,hq,rfl,how,hxr⟩:=hrel;generalize wr=x3 at *;have q0:(0:Int)≤(q:Int):=by omega
  have htl:(zCO (m.take q)).length=q:=by rw [zBD,List.length_take];omega
  by_cases hqn:q<m.length
  ·have q1:(q:Int)< (m.length:Int):=by omega
   obtain⟨b,o,rfl⟩:=HH.out.head hqn;obtain⟨l,ar,cr,hl,hc,hI⟩:=Rows.get (HH.out.ext (HE.out.trans hxr)) hqn;have hl16:=H16.out l (List.mem_of_getElem? hl);have rle:=hI.le;have rmx:=hI.mx;have HT:=dH (zJa hl);have HI:=dH hI;have HOW:=dH how;have HX:=dH hxr;have HTL:=dH htl;clear hl hI how hxr htl;go_wp2_with fail
   go_loopw [7,53] (fun v2 i2 wr=>∃k:Nat,k≤l.length∧i2=.int .i64 k∧OwnL zGx wr x3.heap.size 4 v2 (zD8 (l.take k))∧Ext x3 wr) (fun _ i2 _=>l.length - (intOf i2).toNat)
   case atStart=>exact⟨0,Nat.zero_le _,rfl,OwnL.nil _ _ _,Ext.refl _⟩
   case round=>
    obtain⟨k,hk,rfl,how2,hxr2⟩:=hrel;generalize wr=x4 at *;have k0:(0:Int)≤(k:Int):=by omega
    have htl2:(zD8 (l.take k)).length=k:=by rw [zEQ,List.length_take];omega
    have HOW2:=dH how2;have HX2:=dH hxr2;have HTL2:=dH htl2;clear how2 hxr2 htl2;by_cases hkl:k<l.length
    ·have k1:(k:Int)< (l.length:Int):=by omega
     obtain⟨b2,o2,rfl⟩:=HI.out.head hkl;obtain⟨x,hx,hcx,hx1,hx2⟩:=Ints.get (HI.out.ext HX2.out) hkl;have HT2:=dH (zJ9 hx);clear hx;go_wp2_with fail;refine(zAA x _).mono ?_;rintro e w9 ⟨rfl,rfl⟩;clear hcx;generalize hy:(x != -1)=y at *;have HOW4:=dH (HOW2.out.ext zMk (Ext.alloc x4 (.cells #[.bool y] 4)));have HX5:=dH (HX2.out.alloc' (.cells #[.bool y] 4))
     go_wp2_with (at_builtin;refine zEP rfl (.tmp 57) (.tmp 60) 52 rfl Tryz.underlying52 HX5.out rfl HOW4.out rfl (Blk.new0 x4 _ _) (by have:=HTL2.out;omega) ?_;intro va vc w6 hown6 hx6 hg6)
     go_roundw
     case rel=>exact⟨k+1,by omega,by go_num,by rw [HT2.out];exact hown6,hx6⟩
     case measure=>simp [intOf];omega
    ·have k1:¬ (k:Int)< (l.length:Int):=by omega
     have htk:zD8 (l.take k)=zD8 l:=by rw [List.take_of_length_le (by omega)]
     rw [htk] at HOW2 HTL2;obtain⟨va2,vc2,e2,hs2⟩:=HOW2.out.sl;subst e2;have HS2:Hid (zDH x4 (.slice va2 (zD8 l).length vc2) (zD8 l)):=dH ⟨_,_,rfl,hs2⟩;have HLT2:=dH HOW2.out.lt;have HLT:=dH HOW.out.lt;rw [zEQ] at HS2 HOW2 HLT2 ⊢;clear hs2 htk;have HOW4:=dH ((HOW.out.ext rdBools HX2.out).ext rdBools (Ext.alloc x4 (.cells #[.slice va2 l.length vc2] 52)));have HX5:=dH ((HX.out.trans HX2.out).alloc' (.cells #[.slice va2 l.length vc2] 52));have HU5:Hid (zDH (x4.alloc (.cells #[.slice va2 l.length vc2] 52)) (.slice va2 l.length vc2) (zD8 l)):=dH (rdBools.ext _ _ _ _ (Ext.alloc _ _) HS2.out)
     go_wp2_with (at_builtin;refine zEN rdBools rfl (.tmp 63) (.tmp 65) 64 52 rfl Tryz.underlying64 (z:=.slice none 0 0) rfl zJ7 HX5.out rfl HOW4.out rfl (Blk.new0 x4 _ _) HU5.out (fun A n c e hn e2=>by simp only [Value.slice.injEq] at e;obtain⟨rfl,rfl,rfl⟩:=e;have h1:=(HLT2.out _ rfl).1;have h2:=(HLT.out _ e2).2;omega) (by have:=HTL.out;omega) ?_;intro va vc w6 hown6 hx6 hg6)
     go_roundw
     case rel=>exact⟨q+1,by omega,by go_num,by rw [HT.out];exact hown6,hx6⟩
     case measure=>simp [intOf];omega
  ·have q1:¬ (q:Int)< (m.length:Int):=by omega
   obtain rfl:q=m.length:=by omega
   rw [List.take_length] at how;obtain⟨va,vc,e,_⟩:=how.form;rw [zBD] at e;subst e;have HOW:=dH how;have HX:=dH hxr;clear how hxr htl;go_wp2_with fail;exact HF.out _ _ _ _ _ _ _ _ _ _ _ _ _ _ _ _ _ _ _ _ _ _ _ _ _ _ _ HOW.out HX.out
structure zHb (m:List (List Int)):Prop where
 rows:m.length≤64
 wide:∀r∈m,r.length≤16
 same:∀r∈m,r.length= (m.headD []).length
 mark:∀r∈m,∀x∈r,-1≤x∧x≤1000
theorem zAJ {m:List (List Int)} (h:zBJ m=0):zHb m:=by
 unfold zBJ at h;by_cases h1:64<m.length
 ·rw [if_pos h1] at h;cases h
 rw [if_neg h1] at h;by_cases h2:m.any zD6=true
 ·rw [if_pos h2] at h;cases h
 rw [if_neg h2] at h;by_cases h3:m.any (zAR (m.headD []).length)=true
 ·rw [if_pos h3] at h;cases h
 have key:∀r∈m,zD6 r=false∧zAR (m.headD []).length r=false:=fun r hr=>
  ⟨by rw [Bool.eq_false_iff];exact fun e=>h2 (List.any_eq_true.2 ⟨r,hr,e⟩),by rw [Bool.eq_false_iff];exact fun e=>h3 (List.any_eq_true.2 ⟨r,hr,e⟩)⟩
 refine⟨by omega,fun r hr=>?_,fun r hr=>?_,fun r hr x hx=>?_⟩
 ·have:=(key r hr).1;unfold zD6 at this;simpa using this
 ·have:=(key r hr).2;unfold zAR at this;rw [Bool.or_eq_false_iff] at this;simpa using this.1
 ·have:=(key r hr).2;unfold zAR at this;rw [Bool.or_eq_false_iff] at this;have h5:zFB x=false:=by rw [Bool.eq_false_iff];exact fun e=>by rw [List.any_eq_true.2 ⟨x,hx,e⟩] at this;cases this.2
  unfold zFB at h5;simp at h5;omega
theorem zIo {m:List (List Int)} (h:zHb m):zNy (zCO m) (m.headD []).length:=by
 by_cases h0:m.length=0
 ·obtain rfl:=List.eq_nil_of_length_eq_zero h0;exact⟨by decide,by decide,fun r hr=>by cases hr⟩
 ·have h1:(m.headD [])∈m:=by cases m with
   | nil=>simp at h0
   | cons r t=>exact List.mem_cons_self
  exact⟨by rw [zBD];exact h.rows,h.wide _ h1,fun r hr=>by
   obtain⟨l,hl,rfl⟩:=List.mem_map.1 hr;rw [zEQ]
   exact h.same l hl⟩
def zMl (c:Int) (w:World) (e:Ending) (w':World):Prop:=e=.returned (.tuple #[.agg #[.slice none 0 0,.slice none 0 0],.int .i64 c])∧Ext w w'
theorem zN1 (a:Option Addr) (cap:Nat) (m:List (List Int)) (w:World) (h:Rows w a cap m) (hE:zBJ m≠0):Calls Tryz.prog 17 #[.slice a m.length cap] w (zMl (zBJ m) w):=by
 obtain⟨x1,hw,hx,Km,Kf,Ke⟩:=zGJ w #[.slice a m.length cap] 22 #[.slice none 0 0,.slice none 0 0] 25 #[.int .i64 0] 29;replace hw:=dH hw;have HA:=dH (zAD a cap m x1 (h.ext hx));have HH:=dH h;have hle:=h.le;have hmx:=h.mx;clear h
 go_enter_defers Tryz.func17,Tryz.ntmps17
 go_upto_region 1 with fail
 try simp only [Nat.add_assoc,Nat.reduceAdd,Nat.add_zero]
 rw [hw.out];clear hw;have hs0:=hx.size;have c0:=bk1 Km;go_wp2_with fail;refine HA.out.mono ?_;clear c0 HA;rintro e x2 ⟨rfl,hy⟩;replace hx:=hx.trans hy;replace Km:=kE Km hy;replace Kf:=kE Kf hy;replace Ke:=kE Ke hy;clear hy;rw [show zBQ (zBJ m)=zBN (zBJ m) from if_neg hE];generalize zBJ m=E at *;clear Km HH;go_wp2_with fail;refine leaves_cons (f:=52) (args:=#[.pointer (some ⟨w.heap.size+2,0,none⟩)]) (by simp) (by simp [go_sem]) ?_;refine(zAl ⟨w.heap.size+2,0,none⟩ 0 E [] _ (bk1 Ke) (Ke.out.free 0)).mono ?_;rintro e u' w'' ⟨rfl,rfl,rfl⟩;replace Kf:=bo1 Kf (w.heap.size+2) (.int .i64 E) (by omega);replace Ke:=bs1 Ke (.int .i64 E);have e0:=bk1 Ke;obtain⟨e1,e2⟩:=bk2 Kf;have HX9:Hid (Ext w (World.setCell _ ⟨w.heap.size+2,0,none⟩ (.int .i64 E))):=dH (hx.set (p:=⟨w.heap.size+2,0,none⟩) (by dsimp only;omega) _);simp [Leaves,settle,results,Tryz.results17,go_sem,e0,e1,e2];exact⟨rfl,HX9.out⟩
theorem zLz (a:Option Addr) (cap:Nat) (m:List (List Int)) (w:World) (h:Rows w a cap m) (hE:zBJ m=0) (h0:m.length=0):Calls Tryz.prog 17 #[.slice a m.length cap] w (zMl 371 w):=by
 have HZ:=dH h0;clear h0;obtain⟨x1,hw,hx,Km,Kf,Ke⟩:=zGJ w #[.slice a m.length cap] 22 #[.slice none 0 0,.slice none 0 0] 25 #[.int .i64 0] 29;replace hw:=dH hw;have HA:=dH (zAD a cap m x1 (h.ext hx));have HH:=dH h;have hle:=h.le;have hmx:=h.mx;clear h
 go_enter_defers Tryz.func17,Tryz.ntmps17
 go_upto_region 1 with fail
 try simp only [Nat.add_assoc,Nat.reduceAdd,Nat.add_zero]
 rw [hw.out];clear hw;have hs0:=hx.size;have c0:=bk1 Km;go_wp2_with fail;refine HA.out.mono ?_;clear c0 HA;rintro e x2 ⟨rfl,hy⟩;replace hx:=hx.trans hy;replace Km:=kE Km hy;replace Kf:=kE Kf hy;replace Ke:=kE Ke hy;clear hy;rw [hE,show zBQ 0=.returned (.tuple #[]) from rfl];have g0:¬ ((0:Int)< (m.length:Int)):=by have:=HZ.out;omega
 have c0:=bk1 Km;clear HH;go_wp2_with fail;refine(zA9 371 _).mono ?_;clear c0;rintro e x3 ⟨rfl,hy⟩;replace hx:=hx.trans hy;replace Kf:=kE Kf hy;replace Ke:=kE Ke hy;clear hy Km;go_wp2_with fail;refine leaves_cons (f:=52) (args:=#[.pointer (some ⟨w.heap.size+2,0,none⟩)]) (by simp) (by simp [go_sem]) ?_;refine(zAl ⟨w.heap.size+2,0,none⟩ 0 371 [] _ (bk1 Ke) (Ke.out.free 0)).mono ?_;rintro e u' w'' ⟨rfl,rfl,rfl⟩;replace Kf:=bo1 Kf (w.heap.size+2) (.int .i64 371) (by omega);replace Ke:=bs1 Ke (.int .i64 371);have e0:=bk1 Ke;obtain⟨e1,e2⟩:=bk2 Kf;have HX9:Hid (Ext w (World.setCell _ ⟨w.heap.size+2,0,none⟩ (.int .i64 371))):=dH (hx.set (p:=⟨w.heap.size+2,0,none⟩) (by dsimp only;omega) _);simp [Leaves,settle,results,Tryz.results17,go_sem,e0,e1,e2];exact⟨rfl,HX9.out⟩
theorem zLA (a:Option Addr) (cap:Nat) (m:List (List Int)) (w:World) (h:Rows w a cap m) (hE:zBJ m=0) (h0:0<m.length) (h1:(m.headD []).length=0):Calls Tryz.prog 17 #[.slice a m.length cap] w (zMl 371 w):=by
 obtain⟨x1,hw,hx,Km,Kf,Ke⟩:=zGJ w #[.slice a m.length cap] 22 #[.slice none 0 0,.slice none 0 0] 25 #[.int .i64 0] 29;replace hw:=dH hw;have HA:=dH (zAD a cap m x1 (h.ext hx));have HH:=dH h;have hle:=h.le;have hmx:=h.mx;clear h
 go_enter_defers Tryz.func17,Tryz.ntmps17
 go_upto_region 1 with fail
 try simp only [Nat.add_assoc,Nat.reduceAdd,Nat.add_zero]
 rw [hw.out];clear hw;have hs0:=hx.size;have c0:=bk1 Km;go_wp2_with fail;refine HA.out.mono ?_;clear c0 HA;rintro e x2 ⟨rfl,hy⟩;replace hx:=hx.trans hy;replace Km:=kE Km hy;replace Kf:=kE Kf hy;replace Ke:=kE Ke hy;clear hy;rw [hE,show zBQ 0=.returned (.tuple #[]) from rfl];have g0:(0:Int)< (m.length:Int):=by omega
 obtain⟨b,o,rfl⟩:=HH.out.head h0;obtain⟨l,ar,cr,hl,hc,hI⟩:=Rows.get (HH.out.ext hx) h0;have hl0:l.length=0:=by
  cases m with
  | nil=>simp at h0
  | cons r t=>simp only [List.getElem?_cons_zero,Option.some.injEq] at hl;subst hl;exact h1
 rw [hl0] at hc;rw [Nat.add_zero] at hc;have c0:=bk1 Km;clear HH hI hl;go_wp2_with fail;refine(zA9 371 _).mono ?_;clear c0 hc;rintro e x3 ⟨rfl,hy⟩;replace hx:=hx.trans hy;replace Kf:=kE Kf hy;replace Ke:=kE Ke hy;clear hy Km;go_wp2_with fail;refine leaves_cons (f:=52) (args:=#[.pointer (some ⟨w.heap.size+2,0,none⟩)]) (by simp) (by simp [go_sem]) ?_;refine(zAl ⟨w.heap.size+2,0,none⟩ 0 371 [] _ (bk1 Ke) (Ke.out.free 0)).mono ?_;rintro e u' w'' ⟨rfl,rfl,rfl⟩;replace Kf:=bo1 Kf (w.heap.size+2) (.int .i64 371) (by omega);replace Ke:=bs1 Ke (.int .i64 371);have e0:=bk1 Ke;obtain⟨e1,e2⟩:=bk2 Kf;have HX9:Hid (Ext w (World.setCell _ ⟨w.heap.size+2,0,none⟩ (.int .i64 371))):=dH (hx.set (p:=⟨w.heap.size+2,0,none⟩) (by dsimp only;omega) _);simp [Leaves,settle,results,Tryz.results17,go_sem,e0,e1,e2];exact⟨rfl,HX9.out⟩
theorem zKd (a:Option Addr) (cap:Nat) (m:List (List Int)) (w:World) (h:Rows w a cap m) (hE:zBJ m=0) (h0:0<m.length) (h1:0< (m.headD []).length) (hC:¬zHT m.length (m.headD []).length (edB (zCO m) [])):Calls Tryz.prog 17 #[.slice a m.length cap] w (zMl 371 w):=by
 have HOK:=dH (zAJ hE);have HC:=dH hC;clear hC;obtain⟨x1,hw,hx,Km,Kf,Ke⟩:=zGJ w #[.slice a m.length cap] 22 #[.slice none 0 0,.slice none 0 0] 25 #[.int .i64 0] 29;replace hw:=dH hw;have HA:=dH (zAD a cap m x1 (h.ext hx));have HH:=dH h;have hle:=h.le;have hmx:=h.mx;clear h
 go_enter_defers Tryz.func17,Tryz.ntmps17
 go_upto_region 1 with fail
 try simp only [Nat.add_assoc,Nat.reduceAdd,Nat.add_zero]
 rw [hw.out];clear hw;have hs0:=hx.size;have c0:=bk1 Km;go_wp2_with fail;refine HA.out.mono ?_;clear c0 HA;rintro e x2 ⟨rfl,hy⟩;replace hx:=hx.trans hy;replace Km:=kE Km hy;replace Kf:=kE Kf hy;replace Ke:=kE Ke hy;clear hy;rw [hE,show zBQ 0=.returned (.tuple #[]) from rfl];have g0:(0:Int)< (m.length:Int):=by omega
 obtain⟨b,o,rfl⟩:=HH.out.head h0;obtain⟨l,ar,cr,hl,hc,hI⟩:=Rows.get (HH.out.ext hx) h0;have hl0:l.length= (m.headD []).length:=by
  cases m with
  | nil=>simp at h0
  | cons r t=>simp only [List.getElem?_cons_zero,Option.some.injEq] at hl;subst hl;rfl
 have g1:(0:Int)< (l.length:Int):=by omega
 rw [Nat.add_zero] at hc;have c0:=bk1 Km;have g2:decide (0<l.length)=true:=decide_eq_true (by omega);clear hI hl hl0;go_wp2_with fail
 try rw [g2]
 refine(zAb 371 _).mono ?_;clear c0 hc;rintro e x3 ⟨rfl,hy⟩;replace hx:=hx.trans hy;replace Km:=kE Km hy;replace Kf:=kE Kf hy;replace Ke:=kE Ke hy;clear hy g1 g2;have c0:=bk1 Km;go_upto_region 5 with fail
 go_cut [45,46,47] from 45 to 48 (fun s45 s46 s47 wx=>s45=.slice (some ⟨b,o,none⟩) m.length cap∧s46=.int .i64 (m.length:Nat)∧s47=.int .i64 0∧wx=x3)
 case first=>
  go_wp2_with fail;go_meet;exact⟨rfl,rfl,rfl,rfl⟩
 case rest=>
 obtain⟨rfl,rfl,rfl,rfl⟩:=hcut;clear c0;rename_i K9 hK9;refine hK9 _ _ ?_;clear hK9;refine zAX (c':=((Tryz.f17.body.bind (zAr 0)).getD .skip)) (by kernel_rfl) ?_;apply zHa HH.out hx HOK.out.rows HOK.out.wide
 intros
 rename_i x9 HO9 HX9;obtain⟨-,hBR⟩:=HO9.slice;have hBL:=zBD m;have HT:=zFD _ _ _ _ x9 hBR (zIo HOK.out) (by rw [hBL];exact h0);rw [hBL] at HT;have HT:=dH HT;replace hx:=hx.trans HX9;replace Kf:=kE Kf HX9;replace Ke:=kE Ke HX9;clear HO9 hBR HX9 hBL Km HH HOK;go_wp2_with fail;refine HT.out.mono ?_;rintro e x4 ⟨at_,qt,ct,bt,rfl,hbt,hy⟩;rw [zBD] at hbt;obtain rfl:bt=false:=by
  cases bt with
  | false=>rfl
  | true=>exact absurd (hbt.1 rfl) HC.out
 replace hx:=hx.trans hy;replace Kf:=kE Kf hy;replace Ke:=kE Ke hy;clear hy hbt HT HC;go_wp2_with fail;refine(zA9 371 _).mono ?_;rintro e x5 ⟨rfl,hy⟩;replace hx:=hx.trans hy;replace Kf:=kE Kf hy;replace Ke:=kE Ke hy;clear hy;go_wp2_with fail;refine leaves_cons (f:=52) (args:=#[.pointer (some ⟨w.heap.size+2,0,none⟩)]) (by simp) (by simp [go_sem]) ?_;refine(zAl ⟨w.heap.size+2,0,none⟩ 0 371 [] _ (bk1 Ke) (Ke.out.free 0)).mono ?_;rintro e u' w'' ⟨rfl,rfl,rfl⟩;replace Kf:=bo1 Kf (w.heap.size+2) (.int .i64 371) (by omega);replace Ke:=bs1 Ke (.int .i64 371);have e0:=bk1 Ke;obtain⟨e1,e2⟩:=bk2 Kf;have HX9:Hid (Ext w (World.setCell _ ⟨w.heap.size+2,0,none⟩ (.int .i64 371))):=dH (hx.set (p:=⟨w.heap.size+2,0,none⟩) (by dsimp only;omega) _);simp [Leaves,settle,results,Tryz.results17,go_sem,e0,e1,e2];exact⟨rfl,HX9.out⟩
def zBc (k:Nat):Code→Option Code
 | .region id ops m=>if id == k then some (.region id ops m) else none
 | .seq a b=>match zBc k a with
  | some c=>some c
  | none=>zBc k b
 | .cond _ a b=>match zBc k a with
  | some c=>some c
  | none=>zBc k b
 | .block _ c=>zBc k c
 | .loop c=>zBc k c
 | .scope c=>zBc k c
 | _=>none
theorem zIp:(Tryz.prog.info? 3).map (fun i=>(i.zero,i.size,i.bytes))=some (some (.int .i64 0),1,8):=by kernel_rfl
theorem IB.new (w:World) (L:List Int):IB (w.alloc (.cells (L.map (Value.int .i64)).toArray 3)) w.heap.size L:=Blk.new0 w _ _
theorem IB.set4 {y:World} {P g:Nat} {L:List Int} (h:IB y g L) (hne:g≠P) (v0 v1 v2 v3:Value):IB ((((y.setCell ⟨P,0,none⟩ v0).setCell ⟨P,1,none⟩ v1).setCell ⟨P,2,none⟩ v2).setCell ⟨P,3,none⟩ v3) g L:=
 (((h.blk.other (p:=⟨P,0,none⟩) hne v0).other (p:=⟨P,1,none⟩) hne v1).other (p:=⟨P,2,none⟩) hne v2).other (p:=⟨P,3,none⟩) hne v3
theorem zBW {ops:Array Oper} {o:Oper} {a:Act} {K:Act→World→Prop} {Q:Exit→Act→World→Prop} {E:Prop} (hgd:o.guard=none) (l c:Operand)
 (ho:o.op=Op.makeSlice 34 l c) {w:World} {n:Nat} (hl:a.eval l=.int .i64 (n:Int)) (hc:a.eval c=.int .i64 (n:Int)) (hn:n≤1000000)
 (h:∀g w',g=w.heap.size→IB w' g (List.replicate n 0)→Ext w w'→K (a.put o.dst (.slice (some ⟨g,0,none⟩) n n)) w'):
 if Region.wanted o (yielded ops a.tmps)=true then Oper.wp Tryz.prog o a w K Q else E:=by
 have hw:Region.wanted o (yielded ops a.tmps)=true:=by simp [Region.wanted,hgd]
 rw [if_pos hw];obtain⟨i0,hi0,hz0,hz1,hz2⟩:=info_parts zIp;have hr:=run_makeSlice (P:=Tryz.prog) (w:=w) 34 3 i0 (.int .i64 0) Tryz.underlying34 hi0 hz0 .i64 .i64 (n:Int) (n:Int) (by omega) (by omega) (by rw [hz1];omega) (by rw [hz2];omega) (by omega);have e:madeCells (Value.cells (.int .i64 0)) ((n:Int).toNat*i0.size)= ((List.replicate n (0:Int)).map (Value.int .i64)).toArray:=by
  rw [hz1,Nat.mul_one,Int.toNat_natCast];refine Array.ext' ?_;simp [Value.cells,toList_madeCells_one]
 rw [e,Int.toNat_natCast] at hr;unfold Oper.wp execOp;simp only [ho,hl,hc,Sem.run_bind,Sem.run_pure,Result.andThen_ok,hr];exact h _ _ rfl (IB.new w _) (Ext.alloc w _)
structure LayR (B:Nat) (W:World) (P j n E gb gm gs:Nat) (va:Value) (g:Nat→Nat):Prop where
 p:Blk W P #[va,.slice (some ⟨gb,0,none⟩) (n+1) (n+1),.slice (some ⟨gm,0,none⟩) E E,.slice (some ⟨gs,0,none⟩) E E] 91
 own:W.ownsRow B 34 1 va j ((List.range j).map fun r=>Value.slice (some ⟨g r,0,none⟩) n n)
 row:∀r,r<j→IB W (g r) (List.replicate n 0)
 b:IB W gb (List.replicate (n+1) 0)
 m:IB W gm (List.replicate E 0)
 s:IB W gs (List.replicate E 0)
 inj:∀s t,s<j→t<j→g s=g t→s=t
 off:∀r,r<j→g r≠gb∧g r≠gm∧g r≠gs
 low:∀r,r<j→B≤g r
theorem LayR.ext {B:Nat} {W W':World} {P j n E gb gm gs:Nat} {va:Value} {g:Nat→Nat} (h:LayR B W P j n E gb gm gs va g) (k:Ext W W'):LayR B W' P j n E gb gm gs va g:=
 ⟨h.p.ext k,zAg h.own k,fun r hr=>(IB.blk (h.row r hr)).ext k,(IB.blk h.b).ext k,(IB.blk h.m).ext k,(IB.blk h.s).ext k,h.inj,h.off,h.low⟩
theorem LayR.push {B:Nat} {y y3:World} {P j n E gb gm gs gq:Nat} {va va':Value} {g:Nat→Nat} (h:LayR B y P j n E gb gm gs va g) (hq:IB y gq (List.replicate n 0)) (hne:∀r,r<j→g r≠gq) (hnb:gq≠gb∧gq≠gm∧gq≠gs) (hqB:B≤gq)
 (ho:y3.ownsRow B 34 1 va' (j+1) (((List.range j).map fun r=>Value.slice (some ⟨g r,0,none⟩) n n) ++ [.slice (some ⟨gq,0,none⟩) n n])) (hg:y.grownBy y3 va.ownBlock):
 LayR B (y3.setCell ⟨P,0,none⟩ va') P (j+1) n E gb gm gs va' (fun r=>if r=j then gq else g r):=by
 have hI:∀{L:List Int} {k:Nat},IB y k L→IB (y3.setCell ⟨P,0,none⟩ va') k L:=fun {L k} hk=>by
  have h1:=zA5 (IB.blk hk) hg (zAI h.own (IB.blk hk) (by decide));have hp3:=zA5 h.p hg (zAI h.own h.p (by decide));exact h1.other (p:=⟨P,0,none⟩) (zAz h1 hp3 (by decide)) va'
 have hp3:=zA5 h.p hg (zAI h.own h.p (by decide));refine⟨hp3.set 0 va',?_,fun r hr=>?_,hI h.b,hI h.m,hI h.s,fun s t hs ht e=>?_,fun r hr=>?_,fun r hr=>?_⟩
 ·have hl:((List.range (j+1)).map fun r=>Value.slice (some ⟨if r=j then gq else g r,0,none⟩) n n)= ((List.range j).map fun r=>Value.slice (some ⟨g r,0,none⟩) n n) ++ [.slice (some ⟨gq,0,none⟩) n n]:=by
   rw [List.range_succ,List.map_append]
   congr 1
   ·refine List.map_congr_left fun r hr=>?_;have:=List.mem_range.1 hr;rw [if_neg (by omega)]
   ·simp
  rw [hl];exact zBs ho (zAa y3 P 0 va') (.inr (zAI ho hp3 (by decide)))
 ·by_cases e:r=j
  ·rw [if_pos e];exact hI hq
  ·rw [if_neg e];exact hI (h.row r (by omega))
 ·by_cases e1:s=j
  ·by_cases e2:t=j
   ·omega
   ·rw [if_pos e1,if_neg e2] at e;exact absurd e.symm (hne t (by omega))
  ·by_cases e2:t=j
   ·rw [if_neg e1,if_pos e2] at e;exact absurd e (hne s (by omega))
   ·rw [if_neg e1,if_neg e2] at e;exact h.inj s t (by omega) (by omega) e
 ·by_cases e:r=j
  ·rw [if_pos e];exact hnb
  ·rw [if_neg e];exact h.off r (by omega)
 ·by_cases e:r=j
  ·rw [if_pos e];exact hqB
  ·rw [if_neg e];exact h.low r (by omega)
theorem LayR.fresh {B:Nat} {W:World} {P j n E gb gm gs gq:Nat} {va:Value} {g:Nat→Nat} (h:LayR B W P j n E gb gm gs va g) (e:gq=W.heap.size):Hid ((∀r,r<j→g r≠gq)∧(gq≠gb∧gq≠gm∧gq≠gs)):=dH (by
 have h1:=(IB.blk h.b).lt;have h2:=(IB.blk h.m).lt;have h3:=(IB.blk h.s).lt
 exact⟨fun r hr=>by have:=(IB.blk (h.row r hr)).lt;omega,by omega,by omega,by omega⟩)
theorem LayR.cell {B:Nat} {W W':World} {P j n E gb gm gs:Nat} {va:Value} {g:Nat→Nat} (h:LayR B W P j n E gb gm gs va g) (hg:W.grownBy W' va.ownBlock):W'.cell? ⟨P,0,none⟩=some va∧W'.frozen? ⟨P,0,none⟩=false:=by
 have hp3:=zA5 h.p hg (zAI h.own h.p (by decide));exact⟨hp3.cell rfl,hp3.free 0⟩
theorem LayR.extP {x0 W W':World} {P j n E gb gm gs:Nat} {va:Value} {g:Nat→Nat} (h:LayR x0.heap.size W P j n E gb gm gs va g) (hx:Ext x0 W) (hg:W.grownBy W' va.ownBlock) (hP:x0.heap.size≤P) (v:Value):Ext x0 (W'.setCell ⟨P,0,none⟩ v):=by
 have h1:Ext x0 W':=Below.grown hx hg hx.size (fun k e=>(World.ownsRow.lt h.own k e).1);exact h1.set (p:=⟨P,0,none⟩) hP v
theorem zEf {ops:Array Oper} {o:Oper} {a:Act} {K:Act→World→Prop} {Q:Exit→Act→World→Prop} {E:Prop} (hgd:o.guard=none) (s y:Operand)
 (ho:o.op=.call {callee:=.builtin .append,args:=#[s,y],argTypes:=#[22,22]}) {w:World} {B:Nat} (hB:B≤w.heap.size) {v:Value} {n:Nat} {xs:List Value} (hs:a.eval s=v) (hown:w.ownsRow B 34 1 v n xs)
 {g gq m:Nat} (hy:a.eval y=.slice (some ⟨g,0,none⟩) 1 1) (hb:Blk w g #[.slice (some ⟨gq,0,none⟩) m m] 34) (hlen:n≤1000)
 (h:∀v' w',w'.ownsRow B 34 1 v' (n+1) (xs ++ [.slice (some ⟨gq,0,none⟩) m m])→w.grownBy w' v.ownBlock→K (a.put o.dst v') w'):
 if Region.wanted o (yielded ops a.tmps)=true then Oper.wp Tryz.prog o a w K Q else E:=by
 refine zAk hgd s y 22 34 ho (z:=.slice none 0 0) (k:=1) (by_:=24) Tryz.underlying22 zH5 rfl (by decide) hB hs hown hy (fun e=>by cases e) (news:=[.slice (some ⟨gq,0,none⟩) m m]) rfl (fun A hA j u hu=>?_) (fun u hu=>by rw [List.mem_singleton.1 hu];rfl) (by omega) (by decide) (fun v' w' h1 h2 _ _=>h v' w' h1 h2);cases hA
 rw [Addr.add_off];have:j=0:=by
  have:=(List.getElem?_eq_some_iff.1 hu).1;simp at this;exact this
 subst this;simp only [List.getElem?_cons_zero,Option.some.injEq] at hu;subst hu;exact hb.cell rfl
theorem zLB {w:World} {B:Nat} {t:TypeId} {k g n n' cap:Nat} {xs:List Value} (h:w.ownsRow B t k (.slice (some ⟨g,0,none⟩) n' cap) n xs):∃cs:Array Value,Blk w g cs t∧∀ (r:Nat) (u:Value),xs[r]? =some u→cs[r]? =some u:=by
 rcases h.2 with⟨e,_⟩ | ⟨g',cap',cur,e,hb,hg,h1,h2,h3,h4⟩
 ·cases e
 ·simp only [Value.slice.injEq,Option.some.injEq,Addr.mk.injEq,and_true,true_and] at e;obtain⟨rfl,_,rfl⟩:=e;refine⟨cur,hg,fun r u hu=>?_⟩;rw [←h4,List.getElem?_take] at hu
  split at hu
  ·simpa using hu
  ·cases hu
def zJb (n:Nat) (g:Nat→Nat) (gb gm gs:Nat):Nat→Nat:=fun t=>if t≤n then g t else if t=n+1 then gb else if t=n+2 then gm else gs
def zHc (n E:Nat):Nat→List Int:=fun t=>if t≤n then List.replicate n 0 else if t=n+1 then List.replicate (n+1) 0 else List.replicate E 0
theorem LayR.sys {B:Nat} {W:World} {P n E gb gm gs:Nat} {va:Value} {g:Nat→Nat} (h:LayR B W P (n+1) n E gb gm gs va g) (hbm:gb≠gm) (hbs:gb≠gs) (hms:gm≠gs):∃Ra ca,va=.slice (some ⟨Ra,0,none⟩) (n+1) ca∧B≤Ra∧SysR W P Ra ca n E (zJb n g gb gm gs) (zHc n E):=by
 rcases h.own.2 with⟨_,h0⟩ | ⟨Ra,ca,cur,rfl,hB,hg,h1,h2,hc⟩
 ·omega
 have eb:zJb n g gb gm gs (n+1)=gb:=by unfold zJb;rw [if_neg (by omega),if_pos rfl]
 have em:zJb n g gb gm gs (n+2)=gm:=by unfold zJb;rw [if_neg (by omega),if_neg (by omega),if_pos rfl]
 have es:zJb n g gb gm gs (n+3)=gs:=by unfold zJb;rw [if_neg (by omega),if_neg (by omega),if_neg (by omega)]
 obtain⟨cs,hcs,hcr⟩:=zLB h.own;refine⟨Ra,ca,rfl,hB,by rw [eb,em,es];exact h.p,⟨cs,hcs,fun r hr=>?_⟩,⟨h1,by unfold maxLen at h2;omega⟩,fun t ht=>?_,fun s t hs ht e=>?_,fun t ht=>?_⟩
 ·refine hcr r _ ?_;rw [List.getElem?_map,List.getElem?_range (by omega)];unfold zJb;rw [if_pos hr];rfl
 ·unfold zJb zHc;by_cases e1:t≤n
  ·rw [if_pos e1,if_pos e1];exact h.row t (by omega)
  ·rw [if_neg e1,if_neg e1];by_cases e2:t=n+1
   ·rw [if_pos e2,if_pos e2];exact h.b
   ·rw [if_neg e2,if_neg e2];by_cases e3:t=n+2
    ·rw [if_pos e3];exact h.m
    ·rw [if_neg e3];exact h.s
 ·have ho:=h.off;unfold zJb at e;by_cases a1:s≤n
  ·rw [if_pos a1] at e;have:=ho s (by omega);by_cases b1:t≤n
   ·rw [if_pos b1] at e;exact h.inj s t (by omega) (by omega) e
   ·rw [if_neg b1] at e;exfalso;revert e;split
    ·exact this.1
    ·split
     ·exact this.2.1
     ·exact this.2.2
  ·rw [if_neg a1] at e;by_cases b1:t≤n
   ·have:=ho t (by omega);rw [if_pos b1] at e;exfalso;revert e;split
    ·exact fun e=>this.1 e.symm
    ·split
     ·exact fun e=>this.2.1 e.symm
     ·exact fun e=>this.2.2 e.symm
   ·rw [if_neg b1] at e
    revert e
    split <;> split <;> (try split) <;> (try split) <;> intro e <;> first | omega | exact absurd e hbm | exact absurd e hbs | exact absurd e hms | exact absurd e.symm hbm | exact absurd e.symm hbs | exact absurd e.symm hms
 ·unfold zHc
  split
  ·simp
  ·split <;> simp
theorem zN2 {bm m cap:Nat} {a:Option Addr} {x:World} (hK:Hid (Blk x bm #[.slice a m cap] 22)) (hm:m≤64) {K':Act→World→Prop} {Q':Exit→Act→World→Prop} {defs:List Deferred} {l0 l2 l3 l4 l5 l6 l7 l8 l9 ah ai aj hZ ak al ap aY bT dW dX bU bV aZ bf gM bg bh dY bW bX aA aB aC aD aE aG aH aI aJ aK aL aM aN dT dU dV bi bw bA bB bC bD bE bG bH bI bJ bK bL bM bN bO bP bQ bR bS aO aP aQ aR aS aT aU aV aW aX bY bZ dZ ed ee ef eh ek en b7 ci ck cl cA cB gN gO eo fX fY fZ f5 f7 f8 f9 ga gc ep cC gP cD cE cF cG cH cI cJ cK cL cN cO cP cQ cR cS cT cU cV cW cX gQ cY cZ dc de df dg dh di dj dk dn dp dt gR gS er eu ew ey ez eB eC eD eE eF eG dw gT gU eH eI eJ eK eM eN eO eP eQ eR eS eT eW eX eY eZ fa fc fd fe ff fg fh fi fj fk fl fm fq fs ft fu fv fw dA dB dC dD dE dF dG dI dJ dK dL dM dN dO dP dQ dR gV gW gX fx fy fz fA fB fC fD fE fF fG gY gZ hH gd gh gl gn gy gz gA gC gD gE gF gG gH gI gJ gK gL fH fI fJ fK fL fM fN fO fP fQ fR fS fT fU fV fW dS ia:Value}
 (hfin:∀ (je jf jg jh ji jj jk:Value) (P gm gs:Nat) (w':World),Hid (Blk w' P #[.slice none 0 0,.slice none 0 0,.slice (some ⟨gm,0,none⟩) m m,.slice (some ⟨gs,0,none⟩) m m] 91)→IB w' gm (List.replicate m 0)→IB w' gs (List.replicate m 0)→gm≠gs→x.heap.size≤gm→x.heap.size≤gs→x.heap.size≤P→Ext x w'→K' ⟨#[l0,.pointer (some ⟨bm,0,none⟩),l2,l3,l4,l5,l6,l7,l8,l9,ah,ai,aj,hZ,.pointer (some ⟨P,0,none⟩),ak,al,ap,aY,bT,dW,dX,bU,bV,aZ,bf,gM,bg,bh,dY,bW,bX,aA,aB,aC,aD,aE,aG,aH,aI,aJ,aK,aL,aM,aN,dT,dU,dV,bi,bw,bA,bB,bC,bD,bE,bG,bH,bI,bJ,bK,bL,bM,bN,bO,bP,bQ,bR,bS,aO,aP,aQ,aR,aS,aT,aU,aV,aW,aX,bY,bZ,je,jf,jg,jh,ji,jj,jk,b7,ci,ck,cl,cA,cB,gN,gO,eo,fX,fY,fZ,f5,f7,f8,f9,ga,gc,ep,cC,gP,cD,cE,cF,cG,cH,cI,cJ,cK,cL,cN,cO,cP,cQ,cR,cS,cT,cU,cV,cW,cX,gQ,cY,cZ,dc,de,df,dg,dh,di,dj,dk,dn,dp,dt,gR,gS,er,eu,ew,ey,ez,eB,eC,eD,eE,eF,eG,dw,gT,gU,eH,eI,eJ,eK,eM,eN,eO,eP,eQ,eR,eS,eT,eW,eX,eY,eZ,fa,fc,fd,fe,ff,fg,fh,fi,fj,fk,fl,fm,fq,fs,ft,fu,fv,fw,dA,dB,dC,dD,dE,dF,dG,dI,dJ,dK,dL,dM,dN,dO,dP,dQ,dR,gV,gW,gX,fx,fy,fz,fA,fB,fC,fD,fE,fF,fG,gY,gZ,hH,gd,gh,gl,gn,gy,gz,gA,gC,gD,gE,gF,gG,gH,gI,gJ,gK,gL,fH,fI,fJ,fK,fL,fM,fN,fO,fP,fQ,fR,fS,fT,fU,fV,fW,dS],defs⟩ w'):
 Code.wp Tryz.prog ((Tryz.f17.body.bind (zBc 19)).getD .skip) (Exit.then K' Q') ⟨#[l0,.pointer (some ⟨bm,0,none⟩),l2,l3,l4,l5,l6,l7,l8,l9,ah,ai,aj,hZ,ia,ak,al,ap,aY,bT,dW,dX,bU,bV,aZ,bf,gM,bg,bh,dY,bW,bX,aA,aB,aC,aD,aE,aG,aH,aI,aJ,aK,aL,aM,aN,dT,dU,dV,bi,bw,bA,bB,bC,bD,bE,bG,bH,bI,bJ,bK,bL,bM,bN,bO,bP,bQ,bR,bS,aO,aP,aQ,aR,aS,aT,aU,aV,aW,aX,bY,bZ,dZ,ed,ee,ef,eh,ek,en,b7,ci,ck,cl,cA,cB,gN,gO,eo,fX,fY,fZ,f5,f7,f8,f9,ga,gc,ep,cC,gP,cD,cE,cF,cG,cH,cI,cJ,cK,cL,cN,cO,cP,cQ,cR,cS,cT,cU,cV,cW,cX,gQ,cY,cZ,dc,de,df,dg,dh,di,dj,dk,dn,dp,dt,gR,gS,er,eu,ew,ey,ez,eB,eC,eD,eE,eF,eG,dw,gT,gU,eH,eI,eJ,eK,eM,eN,eO,eP,eQ,eR,eS,eT,eW,eX,eY,eZ,fa,fc,fd,fe,ff,fg,fh,fi,fj,fk,fl,fm,fq,fs,ft,fu,fv,fw,dA,dB,dC,dD,dE,dF,dG,dI,dJ,dK,dL,dM,dN,dO,dP,dQ,dR,gV,gW,gX,fx,fy,fz,fA,fB,fC,fD,fE,fF,fG,gY,gZ,hH,gd,gh,gl,gn,gy,gz,gA,gC,gD,gE,gF,gG,gH,gI,gJ,gK,gL,fH,fI,fJ,fK,fL,fM,fN,fO,fP,fQ,fR,fS,fT,fU,fV,fW,dS],defs⟩ x:=by
 conv=>arg 2;whnf
 have s0:=bk1 hK;have hx:Ext x (World.drew x):=(Ext.refl _).drew;replace s0:=zA0 hx s0;have hp0:=hK.out.lt;clear hK;refine wp_region_noPanic ?_;refine wp_region_held_drew (S:=(fun w'=>w'.cell? ⟨bm,0,none⟩=some (.slice a m cap))) (by kernel_rfl) ?_ (fun hHeld=>?_)
 ·exact s0
 (try simp only [pur,Nat.reduceAdd])
 generalize World.drew x=y at *
 iterate 4
  refine tkR [0,1,3,4] (v:=?_) rfl rfl (by kernel_rfl) (fun _ _ _ h=>h) (by rfl) ?_ (by assumption) ?_;rotate_left
  ·(intro w hSw;(try dsimp only at hSw);(try go_simp);(try with_reducible rfl))
  (try simp only [Act.put,pus])
 repeat' first
  | (refine tkR [6] (v:=?_) rfl rfl (by decide +kernel) (fun _ _ _ h=>h) (by rfl) ?_ (by assumption) ?_
     rotate_left
     ·(intro w hSw;(try dsimp only at hSw);(try go_simp);(try with_reducible rfl))
     (try simp only [Act.put,pus]))
  | (refine wpAnyH_done (by decide +kernel) ?_ _
     refine NoPanic.normal ?_;show K' _ _;have hm1:=zAz (IB.blk HM.out) HP.out (show 3≠91 from by decide);have hs1:=zAz (IB.blk HS.out) HP.out (show 3≠91 from by decide)
     exact hfin _ _ _ _ _ _ _ P gm gs _ (bs4 HP (.slice none 0 0) (.slice none 0 0) (.slice (some ⟨gm,0,none⟩) m m) (.slice (some ⟨gs,0,none⟩) m m)) (IB.set4 HM.out hm1 _ _ _ _) (IB.set4 HS.out hs1 _ _ _ _) hd hgm2 hgs2 hp2 ((((hx.set (p:=⟨P,0,none⟩) hp2 _).set (p:=⟨P,1,none⟩) hp2 _).set (p:=⟨P,2,none⟩) hp2 _).set (p:=⟨P,3,none⟩) hp2 _))
  | (refine rdR [2,5,7,8] (by decide +kernel) (zAt ?_ (zAt ?_ (zAt ?_ (zAt ?_ zFw))))
     first
     | exact noR (by decide +kernel)
     | (refine isR (o:=_) rfl (fun K hK=>?_)
        refine zBW rfl (.tmp 81) (.tmp 81) rfl rfl rfl (by omega) ?_;intro gm y hgm hB hE;have hgl:=hx.size;(try have hd:gm≠gs:=by have:=(IB.blk HS.out).lt;omega);(try replace HM:=dH (HM.out.ext hE));(try replace HS:=dH (HS.out.ext hE));(try replace HP:=kE HP hE);replace s0:=zA0 hE s0;replace hx:=hx.trans hE;clear hE;have HM:=dH hB;clear hB;have hgm2:x.heap.size≤gm:=(by omega);clear hgm hgl
        rotate_left)
     first
     | exact noR (by decide +kernel)
     | (refine isR (o:=_) rfl (fun K hK=>?_)
        refine zBW rfl (.tmp 84) (.tmp 84) rfl rfl rfl (by omega) ?_;intro gs y hgs hB hE;have hgl:=hx.size;(try have hd:gm≠gs:=by have:=(IB.blk HM.out).lt;omega);(try replace HM:=dH (HM.out.ext hE));(try replace HS:=dH (HS.out.ext hE));(try replace HP:=kE HP hE);replace s0:=zA0 hE s0;replace hx:=hx.trans hE;clear hE;have HS:=dH hB;clear hB;have hgs2:x.heap.size≤gs:=(by omega);clear hgs hgl
        rotate_left)
     first
     | exact noR (by decide +kernel)
     | (refine isR (o:=_) rfl (fun K hK=>?_)
        go_simp;have hE:=Ext.alloc y (.cells #[.slice none 0 0,.slice none 0 0,.slice none 0 0,.slice none 0 0] 91);have hp2:x.heap.size≤y.heap.size:=hx.size;(try replace HM:=dH (HM.out.ext hE));(try replace HS:=dH (HS.out.ext hE));(try replace HP:=kE HP hE);replace s0:=zA0 hE s0;replace hx:=hx.trans hE;clear hE;have HP:=dH (Blk.new0 y #[.slice none 0 0,.slice none 0 0,.slice none 0 0,.slice none 0 0] 91);generalize Array.size (World.heap y)=P at *;generalize World.alloc y (.cells #[.slice none 0 0,.slice none 0 0,.slice none 0 0,.slice none 0 0] 91)=y at *
        rotate_left)
     first
     | exact noR (by decide +kernel)
     | (refine isR (o:=_) rfl (fun K hK=>?_)
        obtain⟨g0,z0,g1,z1,g2,z2,g3,z3⟩:=bp4 HP (.slice none 0 0) (.slice none 0 0) (.slice (some ⟨gm,0,none⟩) m m) (.slice (some ⟨gs,0,none⟩) m m);go_simp;clear g0 z0 g1 z1 g2 z2 g3 z3;have hne:bm≠P:=(by omega);replace s0:=zB7 (zB7 (zB7 (zB7 s0 (g:=P) (i:=0) hne (.slice none 0 0)) (g:=P) (i:=1) hne (.slice none 0 0)) (g:=P) (i:=2) hne (.slice (some ⟨gm,0,none⟩) m m)) (g:=P) (i:=3) hne (.slice (some ⟨gs,0,none⟩) m m)
        rotate_left)
     all_goals (
      refine hK.out _ _ ?_ ?_
      ·exact s0
      clear hK K hHeld;intro hHeld
      (try simp only [Act.put,pus])))
theorem zN3 {P j n E gb gm gs:Nat} {va:Value} {g:Nat→Nat} {x0 x:World} (h:LayR x0.heap.size x P j n E gb gm gs va g) (hx:Ext x0 x) (hP:x0.heap.size≤P) (hn:n≤16) (hj:j≤n) {Q:Exit→Act→World→Prop} {defs:List Deferred} {l0 l1 l2 l3 l4 l5 l6 l7 l8 l9 ah ai aj ak al ap aY bT dW dX bU bV aZ bf gM bg bh dY bW bX aA aB aC aD aE aG aH aI aJ aK aL aM aN dT dU dV bi bw bA bB bC bD bE bG bH bI bJ bK bL bM bN bO bP bQ bR bS aO aP aQ aR aS aT aU aV aW aX bY bZ dZ ed ee ef eh ek en b7 ci ck cl cA cB gN gO eo fX fY fZ f5 f7 f8 f9 ga gc ep cC gP cD cE cF cG cH cI cJ cK cL cN cO cP cQ cR cS cT cU cV cW cX gQ cY cZ dc de df dg dh di dj dk dn dp dt gR gS er eu ew ey ez eB eC eD eE eF eG dw gT gU eH eI eJ eK eM eN eO eP eQ eR eS eT eW eX eY eZ fa fc fd fe ff fg fh fi fj fk fl fm fq fs ft fu fv fw dA dB dC dD dE dF dG dI dJ dK dL dM dN dO dP dQ dR gV gW gX fx fy fz fA fB fC fD fE fF fG gY gZ hH gd gh gl gn gy gz gA gC gD gE gF gG gH gI gJ gK gL fH fI fJ fK fL fM fN fO fP fQ fR fS fT fU fV fW dS:Value}
 (hfin:∀ (ic ie ig ii ij ik il im io:Value) (va':Value) (g':Nat→Nat) (w':World),LayR x0.heap.size w' P (j+1) n E gb gm gs va' g'→Ext x0 w'→Q .normal ⟨#[l0,l1,l2,l3,l4,l5,l6,l7,l8,l9,ah,ai,aj,.int .i64 (n:Nat),.pointer (some ⟨P,0,none⟩),ak,al,ap,aY,bT,dW,dX,bU,bV,aZ,bf,gM,bg,bh,dY,bW,bX,aA,aB,aC,aD,aE,aG,aH,aI,aJ,aK,aL,aM,aN,dT,dU,dV,bi,bw,bA,bB,bC,bD,bE,bG,bH,bI,bJ,bK,bL,bM,bN,bO,bP,bQ,bR,bS,aO,aP,aQ,aR,aS,aT,aU,aV,aW,aX,bY,bZ,dZ,ed,ee,ef,eh,ek,en,b7,ci,ck,cl,cA,cB,gN,gO,eo,ic,ie,ig,ii,ij,ik,il,im,io,ep,cC,gP,cD,cE,cF,cG,cH,cI,cJ,cK,cL,cN,cO,cP,cQ,cR,cS,cT,cU,cV,cW,cX,gQ,cY,cZ,dc,de,df,dg,dh,di,dj,dk,dn,dp,dt,gR,gS,er,eu,ew,ey,ez,eB,eC,eD,eE,eF,eG,dw,gT,gU,eH,eI,eJ,eK,eM,eN,eO,eP,eQ,eR,eS,eT,eW,eX,eY,eZ,fa,fc,fd,fe,ff,fg,fh,fi,fj,fk,fl,fm,fq,fs,ft,fu,fv,fw,dA,dB,dC,dD,dE,dF,dG,dI,dJ,dK,dL,dM,dN,dO,dP,dQ,dR,gV,gW,gX,fx,fy,fz,fA,fB,fC,fD,fE,fF,fG,gY,gZ,hH,gd,gh,gl,gn,gy,gz,gA,gC,gD,gE,gF,gG,gH,gI,gJ,gK,gL,fH,fI,fJ,fK,fL,fM,fN,fO,fP,fQ,fR,fS,fT,fU,fV,fW,dS],defs⟩ w'):
 Code.wp Tryz.prog ((Tryz.f17.body.bind (zBc 23)).getD .skip) Q ⟨#[l0,l1,l2,l3,l4,l5,l6,l7,l8,l9,ah,ai,aj,.int .i64 (n:Nat),.pointer (some ⟨P,0,none⟩),ak,al,ap,aY,bT,dW,dX,bU,bV,aZ,bf,gM,bg,bh,dY,bW,bX,aA,aB,aC,aD,aE,aG,aH,aI,aJ,aK,aL,aM,aN,dT,dU,dV,bi,bw,bA,bB,bC,bD,bE,bG,bH,bI,bJ,bK,bL,bM,bN,bO,bP,bQ,bR,bS,aO,aP,aQ,aR,aS,aT,aU,aV,aW,aX,bY,bZ,dZ,ed,ee,ef,eh,ek,en,b7,ci,ck,cl,cA,cB,gN,gO,eo,fX,fY,fZ,f5,f7,f8,f9,ga,gc,ep,cC,gP,cD,cE,cF,cG,cH,cI,cJ,cK,cL,cN,cO,cP,cQ,cR,cS,cT,cU,cV,cW,cX,gQ,cY,cZ,dc,de,df,dg,dh,di,dj,dk,dn,dp,dt,gR,gS,er,eu,ew,ey,ez,eB,eC,eD,eE,eF,eG,dw,gT,gU,eH,eI,eJ,eK,eM,eN,eO,eP,eQ,eR,eS,eT,eW,eX,eY,eZ,fa,fc,fd,fe,ff,fg,fh,fi,fj,fk,fl,fm,fq,fs,ft,fu,fv,fw,dA,dB,dC,dD,dE,dF,dG,dI,dJ,dK,dL,dM,dN,dO,dP,dQ,dR,gV,gW,gX,fx,fy,fz,fA,fB,fC,fD,fE,fF,fG,gY,gZ,hH,gd,gh,gl,gn,gy,gz,gA,gC,gD,gE,gF,gG,gH,gI,gJ,gK,gL,fH,fI,fJ,fK,fL,fM,fN,fO,fP,fQ,fR,fS,fT,fU,fV,fW,dS],defs⟩ x:=by
 conv=>arg 2;whnf
 have hy:Ext x (World.drew x):=(Ext.refl _).drew;replace hx:=hx.trans hy;have HL:=dH (h.ext hy);have s0:=HL.out.p.cell (i:=0) rfl;clear h hy;refine wp_region_noPanic ?_;refine wp_region_held_drew (S:=(fun _=>True)) (by kernel_rfl) ?_ (fun hHeld=>?_)
 ·trivial
 (try simp only [pur,Nat.reduceAdd])
 generalize World.drew x=y at *
 iterate 3
  refine tkR [0,1,3] (v:=?_) rfl rfl (by kernel_rfl) (fun _ _ _ h=>h) (by rfl) ?_ (by assumption) ?_;rotate_left
  ·(intro w hSw;(try dsimp only at hSw);(try go_simp);(try with_reducible rfl))
  (try simp only [Act.put,pus])
 repeat' first
  | (refine tkR [7,8] (v:=?_) rfl rfl (by decide +kernel) (fun _ _ _ h=>h) (by rfl) ?_ (by assumption) ?_
     rotate_left
     ·(intro w hSw;(try dsimp only at hSw);(try go_simp);(try with_reducible rfl))
     (try simp only [Act.put,pus]))
  | (refine wpAnyH_done (by decide +kernel) ?_ _
     refine NoPanic.normal ?_
     exact hfin _ _ _ _ _ _ _ _ _ _ _ _ (HL.out.push HQ.out HN.out.1 HN.out.2 hqB HO hg) (HL.out.extP hx hg hP _))
  | (refine rdR [2,4,5,6,9] (by decide +kernel) (zAt ?_ (zAt ?_ (zAt ?_ (zAt ?_ (zAt ?_ zFw)))))
     first
     | exact noR (by decide +kernel)
     | (refine isR (o:=_) rfl (fun K hK=>?_)
        go_simp
        rotate_left)
     first
     | exact noR (by decide +kernel)
     | (refine isR (o:=_) rfl (fun K hK=>?_)
        refine zBW rfl (.tmp 99) (.tmp 99) rfl rfl rfl (by omega) ?_;intro gq y hgq hB hE;have HN:=HL.out.fresh hgq;have hgl:=hx.size;have hqB:x0.heap.size≤gq:=(by omega);replace HL:=dH (HL.out.ext hE);replace s0:=zA0 hE s0;replace hx:=hx.trans hE;clear hE;have HQ:=dH hB;clear hB hgq hgl
        rotate_left)
     first
     | exact noR (by decide +kernel)
     | (refine isR (o:=_) rfl (fun K hK=>?_)
        go_simp;have hE:=Ext.alloc y (.cells #[.slice (some ⟨gq,0,none⟩) n n] 34);replace HL:=dH (HL.out.ext hE);replace HQ:=dH (Blk.ext (IB.blk HQ.out) hE);replace s0:=zA0 hE s0;replace hx:=hx.trans hE;clear hE;have HK:=dH (Blk.new0 y #[.slice (some ⟨gq,0,none⟩) n n] 34);generalize Array.size (World.heap y)=kb at *;generalize World.alloc y (.cells #[.slice (some ⟨gq,0,none⟩) n n] 34)=y at *
        rotate_left)
     first
     | exact noR (by decide +kernel)
     | (refine isR (o:=_) rfl (fun K hK=>?_)
        refine zEf rfl (.tmp 98) (.tmp 101) rfl hx.size rfl HL.out.own rfl HK.out (by omega) ?_;intro va' y3 HO hg;obtain⟨ax,cx,rfl⟩:=zAh HO
        rotate_left)
     first
     | exact noR (by decide +kernel)
     | (refine isR (o:=_) rfl (fun K hK=>?_)
        obtain⟨g0,z0⟩:=HL.out.cell hg;clear s0;go_simp;clear g0 z0
        rotate_left)
     all_goals (
      refine hK.out _ _ ?_ ?_
      ·trivial
      clear hK K hHeld;intro hHeld
      (try simp only [Act.put,pus])))
theorem zO2 {P n E gb gm gs:Nat} {g:Nat→Nat} {x0 x:World} (h:LayR x0.heap.size x P 0 n E gb gm gs (.slice none 0 0) g) (hx:Ext x0 x) (hP:x0.heap.size≤P) (hn:n≤16) {K':Act→World→Prop} {Q':Exit→Act→World→Prop} {defs:List Deferred} {l0 l1 l2 l3 l4 l5 l6 l7 l8 l9 ah ai aj ak al ap aY bT dW dX bU bV aZ bf gM bg bh dY bW bX aA aB aC aD aE aG aH aI aJ aK aL aM aN dT dU dV bi bw bA bB bC bD bE bG bH bI bJ bK bL bM bN bO bP bQ bR bS aO aP aQ aR aS aT aU aV aW aX bY bZ dZ ed ee ef eh ek en b7 ci ck cl cA cB eo fX fY fZ f5 f7 f8 f9 ga gc ep cC gP cD cE cF cG cH cI cJ cK cL cN cO cP cQ cR cS cT cU cV cW cX gQ cY cZ dc de df dg dh di dj dk dn dp dt gR gS er eu ew ey ez eB eC eD eE eF eG dw gT gU eH eI eJ eK eM eN eO eP eQ eR eS eT eW eX eY eZ fa fc fd fe ff fg fh fi fj fk fl fm fq fs ft fu fv fw dA dB dC dD dE dF dG dI dJ dK dL dM dN dO dP dQ dR gV gW gX fx fy fz fA fB fC fD fE fF fG gY gZ hH gd gh gl gn gy gz gA gC gD gE gF gG gH gI gJ gK gL fH fI fJ fK fL fM fN fO fP fQ fR fS fT fU fV fW dS:Value}
 (hfin:∀ (jl jm ic ie ig ii ij ik il im io jn:Value) (va':Value) (g':Nat→Nat) (w':World),LayR x0.heap.size w' P (n+1) n E gb gm gs va' g'→Ext x0 w'→K' ⟨#[l0,l1,l2,l3,l4,l5,l6,l7,l8,l9,ah,ai,aj,.int .i64 (n:Nat),.pointer (some ⟨P,0,none⟩),ak,al,ap,aY,bT,dW,dX,bU,bV,aZ,bf,gM,bg,bh,dY,bW,bX,aA,aB,aC,aD,aE,aG,aH,aI,aJ,aK,aL,aM,aN,dT,dU,dV,bi,bw,bA,bB,bC,bD,bE,bG,bH,bI,bJ,bK,bL,bM,bN,bO,bP,bQ,bR,bS,aO,aP,aQ,aR,aS,aT,aU,aV,aW,aX,bY,bZ,dZ,ed,ee,ef,eh,ek,en,b7,ci,ck,cl,cA,cB,.int .i64 ((n:Int)+1),jl,jm,ic,ie,ig,ii,ij,ik,il,im,io,jn,cC,gP,cD,cE,cF,cG,cH,cI,cJ,cK,cL,cN,cO,cP,cQ,cR,cS,cT,cU,cV,cW,cX,gQ,cY,cZ,dc,de,df,dg,dh,di,dj,dk,dn,dp,dt,gR,gS,er,eu,ew,ey,ez,eB,eC,eD,eE,eF,eG,dw,gT,gU,eH,eI,eJ,eK,eM,eN,eO,eP,eQ,eR,eS,eT,eW,eX,eY,eZ,fa,fc,fd,fe,ff,fg,fh,fi,fj,fk,fl,fm,fq,fs,ft,fu,fv,fw,dA,dB,dC,dD,dE,dF,dG,dI,dJ,dK,dL,dM,dN,dO,dP,dQ,dR,gV,gW,gX,fx,fy,fz,fA,fB,fC,fD,fE,fF,fG,gY,gZ,hH,gd,gh,gl,gn,gy,gz,gA,gC,gD,gE,gF,gG,gH,gI,gJ,gK,gL,fH,fI,fJ,fK,fL,fM,fN,fO,fP,fQ,fR,fS,fT,fU,fV,fW,dS],defs⟩ w'):
 Code.wp Tryz.prog ((Tryz.f17.body.bind (zAr 4)).getD .skip) (Exit.then K' Q') ⟨#[l0,l1,l2,l3,l4,l5,l6,l7,l8,l9,ah,ai,aj,.int .i64 (n:Nat),.pointer (some ⟨P,0,none⟩),ak,al,ap,aY,bT,dW,dX,bU,bV,aZ,bf,gM,bg,bh,dY,bW,bX,aA,aB,aC,aD,aE,aG,aH,aI,aJ,aK,aL,aM,aN,dT,dU,dV,bi,bw,bA,bB,bC,bD,bE,bG,bH,bI,bJ,bK,bL,bM,bN,bO,bP,bQ,bR,bS,aO,aP,aQ,aR,aS,aT,aU,aV,aW,aX,bY,bZ,dZ,ed,ee,ef,eh,ek,en,b7,ci,ck,cl,cA,cB,.int .i64 ((n:Int)+1),.int .i64 0,eo,fX,fY,fZ,f5,f7,f8,f9,ga,gc,ep,cC,gP,cD,cE,cF,cG,cH,cI,cJ,cK,cL,cN,cO,cP,cQ,cR,cS,cT,cU,cV,cW,cX,gQ,cY,cZ,dc,de,df,dg,dh,di,dj,dk,dn,dp,dt,gR,gS,er,eu,ew,ey,ez,eB,eC,eD,eE,eF,eG,dw,gT,gU,eH,eI,eJ,eK,eM,eN,eO,eP,eQ,eR,eS,eT,eW,eX,eY,eZ,fa,fc,fd,fe,ff,fg,fh,fi,fj,fk,fl,fm,fq,fs,ft,fu,fv,fw,dA,dB,dC,dD,dE,dF,dG,dI,dJ,dK,dL,dM,dN,dO,dP,dQ,dR,gV,gW,gX,fx,fy,fz,fA,fB,fC,fD,fE,fF,fG,gY,gZ,hH,gd,gh,gl,gn,gy,gz,gA,gC,gD,gE,gF,gG,gH,gI,gJ,gK,gL,fH,fI,fJ,fK,fL,fM,fN,fO,fP,fQ,fR,fS,fT,fU,fV,fW,dS],defs⟩ x:=by
 conv=>arg 2;whnf
 have HL:=dH h;have HX:=dH hx;have HF:=dH hfin;clear h hx hfin;go_wp2_with fail
 go_loopw [94] (fun i wr=>∃ (q:Nat) (va:Value) (g:Nat→Nat),q≤n+1∧i=.int .i64 q∧LayR x0.heap.size wr P q n E gb gm gs va g∧Ext x0 wr) (fun i _=>n+1 - (intOf i).toNat)
 case atStart=>exact⟨0,_,g,Nat.zero_le _,rfl,HL.out,HX.out⟩
 case round=>
  obtain⟨q,va,g,hq,rfl,hl,hxr⟩:=hrel;generalize wr=x3 at *;clear HL HX;have q0:(0:Int)≤(q:Int):=by omega
  by_cases hqn:q<n+1
  ·have q1:(q:Int)< (n:Int)+1:=by omega
   have hw1:IntKind.i64.wrap ((q:Int)+1)= (q:Int)+1:=IntWalk.i64_in _ (by omega);have HL:=dH hl;have HX:=dH hxr;clear hl hxr;go_upto_region 23 with fail;refine zAX (c':=((Tryz.f17.body.bind (zBc 23)).getD .skip)) (by kernel_rfl) ?_;apply zN3 HL.out HX.out hP hn (by omega)
   intros
   rename_i va2 g2 x4 hl4 hx4;dsimp only [Exit.inBlock,Exit.then];have HL4:=dH hl4;have HX4:=dH hx4;clear hl4 hx4 HL HX;go_wp2_with fail;go_roundw
   case rel=>exact⟨q+1,va2,g2,by omega,by go_num,HL4.out,HX4.out⟩
   case measure=>simp [intOf];omega
  ·have q1:¬ (q:Int)< (n:Int)+1:=by omega
   obtain rfl:q=n+1:=by omega
   have HL:=dH hl;have HX:=dH hxr;clear hl hxr;go_wp2_with fail;exact HF.out _ _ _ _ _ _ _ _ _ _ _ _ _ _ _ HL.out HX.out
end Go.Proofs.YtonkhcdmchidjaaGreat
