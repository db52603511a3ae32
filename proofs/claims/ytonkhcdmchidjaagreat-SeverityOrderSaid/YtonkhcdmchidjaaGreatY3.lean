import Derived.Test.YtonkhcdmchidjaaGreatU9
import Derived.Test.YtonkhcdmchidjaaGreatY1
set_option maxHeartbeats 8000000
namespace Go.Proofs.YtonkhcdmchidjaaGreat
open Go.RowKit Go BigFrame Go.Shelf
set_option maxRecDepth 100000
set_option linter.all false
attribute [local go_sem] Oper.semAt_some
def RatB (r:Rat) (B:Nat) (w:World) (e:Ending) (w':World):Prop:=∃v,e=.returned v∧RatN w' v r B∧Ext w w'
theorem RowR.head {w:World} {a:Option Addr} {cap N:Nat} {V:Nat→RatC} {f:Nat→Rat} (h:RowR w a cap N V f) {i:Nat} (hi:i<N):∃b o,a=some ⟨b,o,none⟩:=by
 cases a with
 | none=>have:=h.nil rfl;have:=h.le;omega
 | some A=>
  obtain⟨h0,_⟩:=h.cells A rfl i hi;obtain⟨b,o,s⟩:=A;dsimp only at h0;exact⟨b,o,by rw [h0]⟩
def zAq (L:List RatA):Nat→Rat:=fun c=>zFk (L.getD c noA)
def zNV (L:List RatA):Nat→RatC:=fun c=>let x:=L.getD c noA;⟨x.n,x.a,x.l.length,x.c,x.n2,x.b,x.m.length,x.d⟩
def appF (A:List (List RatA)) (L:List RatA):Nat→Rat:=fun r=>zCR (zB8 A) (mxA A r) (zAq L)
def appN (A:List (List RatA)) (L:List RatA):Nat:=if zEJ A L (zB8 A)=0 then A.length else 0
def ApplyP (A:List (List RatA)) (L:List RatA) (w:World) (e:Ending) (w':World):Prop:=
 ∃ (a:Option Addr) (cap:Nat) (V:Nat→RatC),e=.returned (.tuple #[.slice a (appN A L) cap,.int .i64 (zEJ A L (zB8 A))])∧RowR w' a cap (appN A L) V (appF A L)∧Ext w w'
theorem OwnRats.reads {w:World} {B:Nat} {v:Value} {L:List RatC} {rs:List Rat} {f:Nat→Rat} {N:Nat} (h:OwnRats w B v L rs) (hN:L.length=N) (hf:∀c,c<N→rs.getD c 0=f c):∃a cap V,v=.slice a N cap∧RowR w a cap N V f:=by
 subst hN;by_cases h0:0<L.length
 ·obtain⟨g,cap,rfl,_,h1,h2,h3⟩:=h.fill h0;exact⟨_,cap,_,rfl,h3.read ⟨h1,h2⟩ hf⟩
 ·obtain⟨a,cap,rfl,h1,h2⟩:=h.form;have hn:a=none→cap=0:=fun e9=>by
   rcases h.own.2 with⟨h1,_⟩ | ⟨gx,cx,cur,h1,_⟩
   ·simp only [Value.slice.injEq] at h1;exact h1.2.2
   ·simp only [Value.slice.injEq,e9] at h1;exact absurd h1.1 (by simp)
  exact⟨a,cap,fun _=>⟨false,none,0,0,false,none,0,0⟩,rfl,h1,h2,hn,fun A hA c hc=>by omega,fun c hc=>by omega⟩
def RatM (w:World) (x:RatC):Option Rat→Prop
 | some r=>RatV w x.val r
 | none=>∃l m:List Int,l.length=x.q∧m.length=x.k∧Ints w x.a x.c l∧Ints w x.b x.d m∧okR x.n l x.m m=false
theorem RatM.ext {w w':World} {x:RatC}:∀{o:Option Rat},RatM w x o→Ext w w'→RatM w' x o
 | some _,h,k=>RatV.ext h k
 | none,⟨l,m,h1,h2,h3,h4,h5⟩,k=>⟨l,m,h1,h2,h3.ext k,h4.ext k,h5⟩
theorem RatM.raw {w:World} {x:RatC}:∀{o:Option Rat},RatM w x o→∃y:RatA,x.val=y.val∧Ints w y.a y.c y.l∧Ints w y.b y.d y.m∧(o=none→y.ok=false)
 | some r,h=>by
  have h':RatV w x.val r:=h;obtain⟨l,e1,h1,_⟩:=h'.num.parts;obtain⟨m,e2,h2,_⟩:=h'.den.parts;exact⟨⟨x.n,x.a,x.c,l,x.m,x.b,x.d,m⟩,by simp only [RatA.val,RatC.val,e1,e2],h1,h2,fun e=>by cases e⟩
 | none,⟨l,m,e1,e2,h1,h2,h3⟩=>⟨⟨x.n,x.a,x.c,l,x.m,x.b,x.d,m⟩,by simp only [RatA.val,RatC.val,e1,e2],h1,h2,fun _=>h3⟩
structure RatsM (w:World) (a:Option Addr) (cap N:Nat) (V:Nat→RatC) (f:Nat→Option Rat):Prop where
 le:N≤cap
 mx:cap≤9223372036854775807
 nil:a=none→cap=0
 cells:∀A,a=some A→∀c,c<N→A.spot=none∧w.cell? ⟨A.block,A.off+c*4,none⟩=some (.bool (V c).n)∧w.cell? ⟨A.block,A.off+c*4+1,none⟩=some (.slice (V c).a (V c).q (V c).c)∧
  w.cell? ⟨A.block,A.off+c*4+2,none⟩=some (.bool (V c).m)∧w.cell? ⟨A.block,A.off+c*4+3,none⟩=some (.slice (V c).b (V c).k (V c).d)
 val:∀c,c<N→RatM w (V c) (f c)
section
variable {w w':World} {a:Option Addr} {cap N:Nat} {V:Nat→RatC} {f:Nat→Option Rat}
theorem RatsM.ext (h:RatsM w a cap N V f) (k:Ext w w'):RatsM w' a cap N V f:=
 ⟨h.le,h.mx,h.nil,fun A hA c hc=>by
  obtain⟨h0,h1,h2,h3,h4⟩:=h.cells A hA c hc
  exact⟨h0,zA0 k h1,zA0 k h2,zA0 k h3,zA0 k h4⟩,fun c hc=>(h.val c hc).ext k⟩
theorem RatsM.head (h:RatsM w a cap N V f) {i:Nat} (hi:i<N):∃b o,a=some ⟨b,o,none⟩:=by
 cases a with
 | none=>have:=h.nil rfl;have:=h.le;omega
 | some A=>
  obtain⟨h0,_⟩:=h.cells A rfl i hi;obtain⟨b,o,s⟩:=A;dsimp only at h0;exact⟨b,o,by rw [h0]⟩
end
def optA (x:RatA):Option Rat:=if x.ok then some (zFk x) else none
def vecO (L:List RatA):Nat→Option Rat:=fun c=>optA (L.getD c noA)
def addO:Option Rat→Option Rat→Option Rat
 | some x,some y=>some (x+y)
 | _,_=>none
def mulO:Option Rat→Option Rat→Option Rat
 | some x,some y=>some (x*y)
 | _,_=>none
def dotM (f g:Nat→Option Rat):Nat→Option Rat
 | 0=>some 0
 | n+1=>addO (dotM f g n) (mulO (f n) (g n))
def SumM (o:Option Rat) (w:World) (e:Ending) (w':World):Prop:=∃ (n:Bool) (a:Option Addr) (q c:Nat) (b:Option Addr) (k d:Nat),e=.returned (.tuple #[.agg #[.bool n,.slice a q c,.bool false,.slice b k d],.bool o.isSome])∧(∀r,o=some r→RatV w' (.agg #[.bool n,.slice a q c,.bool false,.slice b k d]) r)∧Ext w w'
def trnA (A:List (List RatA)) (L:List RatA):Mx:=fun r c=>if r<zB8 A then(if c<A.length then mxA A c r else 0) else if c<A.length then zAq L c else 1
def FewT (A:List (List RatA)):Prop:=2 ^ A.length* (30* ((zB8 A+1)* (A.length+1))+62)≤40920
def zNW (A:List (List RatA)) (L:List RatA):Bool:=decide (zEJ A L A.length=0) && okB (zB8 A+1) A.length (zAe (zB8 A+1) (trnA A L) A.length)
def refN (A:List (List RatA)) (L:List RatA):Nat:=if zNW A L then A.length else 0
def refF (A:List (List RatA)) (L:List RatA):Nat→Rat:=zJo A.length (zAe (zB8 A+1) (trnA A L) A.length)
def RefuteP (A:List (List RatA)) (L:List RatA) (w:World) (e:Ending) (w':World):Prop:=
 ∃ (a:Option Addr) (cap:Nat) (V:Nat→RatC),e=.returned (.tuple #[.slice a (refN A L) cap,.bool (zNW A L),.int .i64 (zEJ A L A.length)])∧RowR w' a cap (refN A L) V (refF A L)∧Ext w w'
def fewX (x:RatA):Bool:=decide (x.l.length≤2) && decide (x.m.length≤2)
def lenF (n:Nat):Bool:=decide (n≤4) || (decide (17<n) && decide (n≤20))
def fewL (L:List RatA):Bool:=lenF L.length && L.all fewX
def fewA (A:List (List RatA)):Bool:=lenF A.length && A.all fewL
def zDt (n m:Nat) (f h:Nat→Rat):Bool:=decide (n=m) && (List.range n).all fun c=>decide (f c=h c)
def ColP (m:Nat) (f:Nat→Rat) (w:World) (e:Ending) (w':World):Prop:=∃ (a:Option Addr) (cap:Nat) (V:Nat→RatC),e=.returned (.slice a m cap)∧RowR w' a cap m V f∧Ext w w'
def solvesB (m N:Nat) (M:Mx) (x:Nat→Option Rat) (b:Nat→Rat):Bool:=(List.range m).all fun r=>decide (dotM (fun c=>some (M r c)) x N=some (b r))
def refutesB (m N L:Nat) (M:Mx) (y:Nat→Option Rat) (b:Nat→Rat):Bool:=
 decide (L=m) && ((List.range N).all (fun k=>decide (dotM (fun r=>some (M r k)) y m=some 0)) && decide (dotM (fun r=>some (b r)) y m=some 1))
end Go.Proofs.YtonkhcdmchidjaaGreat
namespace Go.Proofs.YtonkhcdmchidjaaGreat
open Go.RowKit Go BigFrame Go.Shelf
set_option maxRecDepth 100000
set_option linter.all false
structure zJ6 (y:RatA) (r:Rat):Prop where
 ok:y.ok=true
 val:zFk y=r
def NumP (r:Rat) (w:World) (e:Ending) (w':World):Prop:=∃y:RatA,e=.returned (.agg #[.bool y.n,.slice y.a y.l.length y.c,.bool y.n2,.slice y.b y.m.length y.d])∧RatI w' y∧zJ6 y r∧Ext w w'
theorem zLv {w:World} {n1:Bool} {a:Option Addr} {q c:Nat} {n2:Bool} {b:Option Addr} {k d:Nat} {r:Rat} (h:RatV w (.agg #[.bool n1,.slice a q c,.bool n2,.slice b k d]) r) (l1:Len r.num) (l2:Len (r.den:Int)):
 ∃l m:List Int,l.length=q∧m.length=k∧RatI w ⟨n1,a,c,l,n2,b,d,m⟩∧zJ6 ⟨n1,a,c,l,n2,b,d,m⟩ r:=by
 obtain⟨l,e1,h1,b1⟩:=h.num.parts;obtain⟨m,e2,h2,b2⟩:=h.den.parts;have hok:RatA.ok ⟨n1,a,c,l,n2,b,d,m⟩=true:=zHH b1 b2 l1 l2;refine⟨l,m,e1,e2,⟨h1,h2⟩,hok,?_⟩;obtain⟨_,g1,g2⟩:=zCt hok;have s1:sgn n1 (zA1 l)=r.num:=by have:=b1.2.2;unfold sgn;rw [this]
 have s2:sgn n2 (zA1 m)= (r.den:Int):=by have:=b2.2.2;unfold sgn;rw [this]
 dsimp only at g1 g2;rw [s1] at g1;rw [s2] at g2;exact Rat.ext g1 (by exact_mod_cast g2)
def zC1 (y:RatA):List Value:=[.bool y.n,.slice y.a y.l.length y.c,.bool y.n2,.slice y.b y.m.length y.d]
theorem zMX (w:World):RRows w none 0 []:=⟨by simp,by omega,fun _=>rfl,fun A h=>(by cases h)⟩
def cM (l:List (List Rat)):Mx:=fun r c=>(l.getD r []).getD c 0
section
variable {y1 y2 y3 y4 z1 z2:RatA} (h1:zJ6 y1 (Rat.divInt 1 1)) (h2:zJ6 y2 (Rat.divInt 2 1)) (h3:zJ6 y3 (Rat.divInt 2 1)) (h4:zJ6 y4 (Rat.divInt 4 1))
include h1 h2 h3 h4
end
attribute [local go_sem] Oper.semAt_some
theorem IsRats.ext {w w':World} {v:Value} {L:List RatA} (h:IsRats w v L) (k:Ext w w'):IsRats w' v L:=by
 obtain⟨a,c,e,r⟩:=h;exact⟨a,c,e,r.ext k⟩
structure OldRows (w0 w:World) (B:Nat) (v:Value) (A:List (List RatA)):Prop where
 ex:∃vs,w.ownsRow B 23 1 v A.length vs∧∀i (h:i<A.length),∃x,vs[i]? =some x∧IsRats w0 x A[i]
section
variable {w0 w w':World} {B:Nat} {v v':Value} {A:List (List RatA)}
theorem OldRows.nil (w0 w:World) (B:Nat):OldRows w0 w B (.slice none 0 0) []:=⟨[],World.ownsRow_nil _ _ _ _,fun i h=>absurd h (by simp)⟩
theorem OldRows.ext (h:OldRows w0 w B v A) (k:Ext w w'):OldRows w0 w' B v A:=by
 obtain⟨vs,ho,hx⟩:=h.ex;exact⟨vs,zAg ho k,hx⟩
theorem OldRows.form (h:OldRows w0 w B v A):∃a cap,v=.slice a A.length cap:=by
 obtain⟨vs,ho,_⟩:=h.ex;exact zAh ho
theorem OldRows.read (h:OldRows w0 w B v A) (k:Ext w0 w):∃a cap,v=.slice a A.length cap∧RRows w a cap A:=by
 obtain⟨vs,ho,hx⟩:=h.ex;rcases ho.2 with⟨rfl,h0⟩ | ⟨g,cap,cur,rfl,_,_,h1,h2,_⟩
 ·have:A=[]:=List.eq_nil_of_length_eq_zero h0;subst this;exact⟨none,0,rfl,zMX w⟩
 ·refine⟨_,cap,rfl,⟨h1,by unfold maxLen at h2;omega,by simp,fun A' hA i hi=>?_⟩⟩;cases hA
  obtain⟨x,e,hr⟩:=hx i hi;have:=World.ownsRow.cellAt ho i (by omega);rw [e] at this;exact⟨rfl,x,by simpa using this,hr.ext k⟩
end
def FirstP (A:List (List RatA)) (k:Nat) (w:World) (e:Ending) (w':World):Prop:=∃a cap,e=.returned (.slice a A.length cap)∧RRows w' a cap (A.map fun L=>L.take k)∧Ext w w'
end Go.Proofs.YtonkhcdmchidjaaGreat
namespace Go.Proofs.YtonkhcdmchidjaaGreat
open Go.RowKit Go BigFrame
set_option maxRecDepth 100000
set_option linter.all false
theorem zFz {l:List Int} {k:Nat} (hk:k<l.length):l.take (k+1)=l.take k ++ [l.getD k 0]:=by
 rw [List.take_add_one,List.getElem?_eq_getElem hk];simp [List.getD,hk]
theorem Ints.at0S {w:World} {a:Option Addr} {cap nn:Nat} {l:List Int} (h:Ints w a cap l) (hl:l.length=nn) {i:Nat} (hi:i<nn):∃b o,a=some ⟨b,o,none⟩∧∀j,j<nn→w.cell? ⟨b,o+j,none⟩=some (.int .i64 (l.getD j 0)):=by
 obtain⟨b,o,rfl⟩:=h.head (i:=i) (by omega);refine⟨b,o,rfl,fun j hj=>?_⟩;have:=(h.cell (i:=j) (by omega)).1;rw [this];simp [List.getD,show j<l.length by omega]
theorem zHS {x y:Value} {n n2:Bool} {l l2:List Int} {w:World} (h:BigR w x n l) (h2:BigR w y n2 l2):
 Calls Tryz.prog 79 #[x,y] w fun e w'=>e=.returned (.bool (decide (n=n2∧l=l2)))∧Ext w w':=by
 obtain⟨a,cap,rfl,hi⟩:=h;obtain⟨a2,cap2,rfl,hi2⟩:=h2;obtain⟨B,hB⟩:∃B,decide (n=n2∧l=l2)=B:=⟨_,rfl⟩
 rw [hB];have hle:=hi.le;have hmx:=hi.mx;have hle2:=hi2.le;have hmx2:=hi2.mx;obtain⟨p,hp⟩:∃p,l.length=p:=⟨_,rfl⟩
 obtain⟨q,hq⟩:∃q,l2.length=q:=⟨_,rfl⟩
 rw [hp] at hle ⊢;rw [hq] at hle2 ⊢;have hx:Ext w ((w.alloc (.cells #[.bool n,.slice a p cap] 36)).alloc (.cells #[.bool n2,.slice a2 q cap2] 36)):=(by repeat (first | with_reducible exact Ext.refl _ | with_reducible assumption | with_reducible refine Ext.drewN ?_ _ | with_reducible refine Ext.drew ?_ | with_reducible refine Ext.alloc' ?_ _ | with_reducible refine Ext.set ?_ (by dsimp only;omega) _))
 have k0:=dH ((Blk.new0 w #[.bool n,.slice a p cap] 36).alloc (.cells #[.bool n2,.slice a2 q cap2] 36));have k1:=dH (Blk.new1 w (.cells #[.bool n,.slice a p cap] 36) #[.bool n2,.slice a2 q cap2] 36);have HI:=dH (hi.ext hx);have HI2:=dH (hi2.ext hx);have HB:=dH hB;have HP:=dH hp;have HQ:=dH hq;clear hi hi2 hB hp hq;go_enter Tryz.func79,Tryz.ntmps79;go_upto_region 1 with fail;generalize (w.alloc (.cells #[.bool n,.slice a p cap] 36)).alloc (.cells #[.bool n2,.slice a2 q cap2] 36)=w1 at *;have c0:=k0.out.cell (i:=0) (v:=.bool n) rfl;have c1:=k0.out.cell (i:=1) (v:=.slice a p cap) rfl;have e0:=k1.out.cell (i:=0) (v:=.bool n2) rfl;have e1:=k1.out.cell (i:=1) (v:=.slice a2 q cap2) rfl;by_cases hn:n=n2
 ·subst hn;have d1:(n != n)=false:=by simp
  by_cases hl:p=q
  ·subst hl;have d2:((p:Int) != (p:Int))=false:=by simp
   go_wp2_with fail;clear c0 e0
   go_loopw [5] (fun i wr=>∃k:Nat,k≤p∧i=.int .i64 k∧Hid (l.take k=l2.take k)∧Ext w1 wr) (fun i _=>p - (intOf i).toNat)
   case atStart=>exact⟨0,Nat.zero_le _,rfl,dH rfl,Ext.refl _⟩
   case round=>
    clear c1 e1;obtain⟨k,hk,rfl,hno,hxr⟩:=hrel;have c1:=(k0.out.ext hxr).cell (i:=1) (v:=.slice a p cap) rfl;have e1:=(k1.out.ext hxr).cell (i:=1) (v:=.slice a2 p cap2) rfl;by_cases hkn:k<p
    ·obtain⟨b1,q1,rfl,ha⟩:=(HI.out.ext hxr).at0S HP.out hkn;obtain⟨b2,q2,rfl,hb⟩:=(HI2.out.ext hxr).at0S HQ.out hkn;have ea:=ha k hkn;have eb:=hb k hkn;clear ha hb;have hT1:=dH (zFz (l:=l) (k:=k) (by rw [HP.out];exact hkn));have hT2:=dH (zFz (l:=l2) (k:=k) (by rw [HQ.out];exact hkn));have g1:(0:Int)≤(k:Int):=by omega
     have g2:(k:Int)< (p:Int):=by omega
     obtain⟨x,hx⟩:∃x,l.getD k 0=x:=⟨_,rfl⟩
     obtain⟨y,hy⟩:∃y,l2.getD k 0=y:=⟨_,rfl⟩
     rw [hx] at ea hT1;rw [hy] at eb hT2;by_cases he:x=y
     ·have d3:(x != y)=false:=by simpa using he
      have HE:=dH he;clear hx hy he;go_wp2_with fail
      go_quiet (fail)
      go_wp2_with fail;go_roundw
      case rel=>exact⟨k+1,by omega,by go_num,dH (by rw [hT1.out,hT2.out,hno.out,HE.out]),hxr.drewN _⟩
      case measure=>simp [intOf];omega
     ·have d3:(x != y)=true:=by simpa using he
      have d4:(x == y)=false:=by simpa using he
      have hBf:B=false:=by
       rw [←HB.out,decide_eq_false_iff_not];rintro⟨_,rfl⟩;exact he (hx.symm.trans hy)
      subst hBf;clear hx hy he;go_wp2_with fail
      go_quiet (fail)
      go_wp2_with fail;go_ret;exact⟨rfl,(hx.trans hxr).drewN _⟩
    ·obtain rfl:k=p:=by omega
     have hBt:B=true:=by
      rw [←HB.out,decide_eq_true_iff];refine⟨by trivial,?_⟩;have h:=hno.out
      rwa [List.take_of_length_le (by rw [HP.out];exact Nat.le_refl _),List.take_of_length_le (by rw [HQ.out];exact Nat.le_refl _)] at h
     subst hBt;go_wp2_with fail;go_ret;exact⟨rfl,hx.trans hxr⟩
  ·have d2:((p:Int) != (q:Int))=true:=by simp;omega
   have d4:((p:Int) == (q:Int))=false:=by simp;omega
   have hBf:B=false:=by
    rw [←HB.out,decide_eq_false_iff_not];rintro⟨_,rfl⟩;exact hl (HP.out.symm.trans HQ.out)
   subst hBf;clear hl;go_wp2_with fail;go_ret
   first | exact⟨rfl,hx⟩ | exact⟨trivial,hx⟩
 ·have d1:(n != n2)=true:=by simpa using hn
  have hBf:B=false:=by
   rw [←HB.out,decide_eq_false_iff_not];exact fun h=>hn h.1
  subst hBf;go_wp2_with fail;go_ret
  first | exact⟨rfl,hx⟩ | exact⟨trivial,hx⟩
theorem zCd {x y:Value} {z z2:Int} {w:World} (h:BigV w x z) (h2:BigV w y z2):
 Calls Tryz.prog 79 #[x,y] w fun e w'=>e=.returned (.bool (decide (z=z2)))∧Ext w w':=by
 obtain⟨n,l,r,b⟩:=h;obtain⟨n2,l2,r2,b2⟩:=h2;have:=zHS r r2
 rwa [decide_eq_decide.2 (b.same b2)] at this
theorem zMY {nx mx ny my:Bool} {ax bx ay by_:Option Addr} {qx cx kx dx qy cy ky dy:Nat} {z1 y1 z2 y2:Int} {w:World} (h1:BigV w (.agg #[.bool nx,.slice ax qx cx]) z1) (h2:BigV w (.agg #[.bool mx,.slice bx kx dx]) y1) (h3:BigV w (.agg #[.bool ny,.slice ay qy cy]) z2) (h4:BigV w (.agg #[.bool my,.slice by_ ky dy]) y2) (hc:decide (z1=z2)=false):Calls Tryz.prog 24 #[.agg #[.bool nx,.slice ax qx cx,.bool mx,.slice bx kx dx],.agg #[.bool ny,.slice ay qy cy,.bool my,.slice by_ ky dy]] w fun e w'=>e=.returned (.bool false)∧Ext w w':=by
 have H1:=dH (fun W (hy:Ext w W)=>zCd (h1.ext hy) (h3.ext hy));have H2:=dH (fun W (hy:Ext w W)=>zCd (h2.ext hy) (h4.ext hy));rw [hc] at H1;clear h1 h2 h3 h4 hc;generalize decide (y1=y2)=B at *;obtain⟨x1,hw,hx,Kx,Ky⟩:=zGI w #[.bool nx,.slice ax qx cx,.bool mx,.slice bx kx dx] 38 #[.bool ny,.slice ay qy cy,.bool my,.slice by_ ky dy] 38;replace hw:=dH hw;go_enter Tryz.func24,Tryz.ntmps24;go_upto_region 1 with fail
 try simp only [Nat.add_assoc,Nat.reduceAdd,Nat.add_zero]
 rw [hw.out];clear hw;have hs0:=hx.size;obtain⟨cx0,cx1,cx2,cx3⟩:=bk4 Kx;obtain⟨cy0,cy1,cy2,cy3⟩:=bk4 Ky;go_wp2_with fail
 with_reducible refine(H1.out _ hx).mono ?_
 clear cx0 cx1 cx2 cx3 cy0 cy1 cy2 cy3;rintro e x2 ⟨rfl,hy⟩;replace hx:=hx.trans hy;replace Kx:=kE Kx hy;replace Ky:=kE Ky hy;clear hy;go_wp2_with fail;go_ret;exact⟨rfl,hx⟩
theorem zLw {nx mx ny my:Bool} {ax bx ay by_:Option Addr} {qx cx kx dx qy cy ky dy:Nat} {z1 y1 z2 y2:Int} {w:World} (h1:BigV w (.agg #[.bool nx,.slice ax qx cx]) z1) (h2:BigV w (.agg #[.bool mx,.slice bx kx dx]) y1) (h3:BigV w (.agg #[.bool ny,.slice ay qy cy]) z2) (h4:BigV w (.agg #[.bool my,.slice by_ ky dy]) y2) (hc:decide (z1=z2)=true):Calls Tryz.prog 24 #[.agg #[.bool nx,.slice ax qx cx,.bool mx,.slice bx kx dx],.agg #[.bool ny,.slice ay qy cy,.bool my,.slice by_ ky dy]] w fun e w'=>e=.returned (.bool (decide (y1=y2)))∧Ext w w':=by
 have H1:=dH (fun W (hy:Ext w W)=>zCd (h1.ext hy) (h3.ext hy));have H2:=dH (fun W (hy:Ext w W)=>zCd (h2.ext hy) (h4.ext hy));rw [hc] at H1;clear h1 h2 h3 h4 hc;generalize decide (y1=y2)=B at *;obtain⟨x1,hw,hx,Kx,Ky⟩:=zGI w #[.bool nx,.slice ax qx cx,.bool mx,.slice bx kx dx] 38 #[.bool ny,.slice ay qy cy,.bool my,.slice by_ ky dy] 38;replace hw:=dH hw;go_enter Tryz.func24,Tryz.ntmps24;go_upto_region 1 with fail
 try simp only [Nat.add_assoc,Nat.reduceAdd,Nat.add_zero]
 rw [hw.out];clear hw;have hs0:=hx.size;obtain⟨cx0,cx1,cx2,cx3⟩:=bk4 Kx;obtain⟨cy0,cy1,cy2,cy3⟩:=bk4 Ky;go_wp2_with fail
 with_reducible refine(H1.out _ hx).mono ?_
 clear cx0 cx1 cx2 cx3 cy0 cy1 cy2 cy3;rintro e x2 ⟨rfl,hy⟩;replace hx:=hx.trans hy;replace Kx:=kE Kx hy;replace Ky:=kE Ky hy;clear hy;obtain⟨cx0,cx1,cx2,cx3⟩:=bk4 Kx;obtain⟨cy0,cy1,cy2,cy3⟩:=bk4 Ky;go_wp2_with fail
 with_reducible refine(H2.out _ hx).mono ?_
 clear cx0 cx1 cx2 cx3 cy0 cy1 cy2 cy3;rintro e x3 ⟨rfl,hy⟩;replace hx:=hx.trans hy;replace Kx:=kE Kx hy;replace Ky:=kE Ky hy;clear hy;go_wp2_with fail;go_ret;exact⟨rfl,hx⟩
theorem zLx {nx mx ny my:Bool} {ax bx ay by_:Option Addr} {qx cx kx dx qy cy ky dy:Nat} {z1 y1 z2 y2:Int} {w:World} (h1:BigV w (.agg #[.bool nx,.slice ax qx cx]) z1) (h2:BigV w (.agg #[.bool mx,.slice bx kx dx]) y1) (h3:BigV w (.agg #[.bool ny,.slice ay qy cy]) z2) (h4:BigV w (.agg #[.bool my,.slice by_ ky dy]) y2):Calls Tryz.prog 24 #[.agg #[.bool nx,.slice ax qx cx,.bool mx,.slice bx kx dx],.agg #[.bool ny,.slice ay qy cy,.bool my,.slice by_ ky dy]] w fun e w'=>e=.returned (.bool (decide (z1=z2∧y1=y2)))∧Ext w w':=by
 by_cases h:z1=z2
 ·have:=zLw h1 h2 h3 h4 (decide_eq_true h);rw [show decide (z1=z2∧y1=y2)=decide (y1=y2) by simp [h]];exact this
 ·have:=zMY h1 h2 h3 h4 (decide_eq_false h);rw [decide_eq_false (fun e=>h e.1)];exact this
theorem zGb {v u:Value} {r s:Rat} {w:World} (hv:RatV w v r) (hu:RatV w u s):Calls Tryz.prog 24 #[v,u] w fun e w'=>e=.returned (.bool (decide (r=s)))∧Ext w w':=by
 obtain⟨nx,ax,qx,cx,bx,kx,dx,rfl⟩:=hv.form;obtain⟨ny,ay,qy,cy,by_,ky,dy,rfl⟩:=hu.form;have:=zLx hv.num hv.den hu.num hu.den;rw [show decide (r=s)=decide (r.num=s.num∧(r.den:Int)=s.den) from decide_eq_decide.2 ⟨fun e=>by rw [e];exact⟨rfl,rfl⟩,fun⟨a,b⟩=>Rat.ext a (by omega)⟩];exact this
def fewQ (k n:Nat):Bool:=decide (k≤n) || (decide (2048<k) && decide (k≤2052))
end Go.Proofs.YtonkhcdmchidjaaGreat
namespace Go.Proofs.YtonkhcdmchidjaaGreat
set_option maxRecDepth 100000
set_option linter.all false
structure FoX (N:Nat) (up lab rk:Nat→Nat):Prop where
 lt:∀n,n<N→up n<N
 same:∀n,n<N→lab (up n)=lab n
 root:∀n,n<N→up n=n→lab n=n
 dec:∀n,n<N→up n≠n→rk (up n)<rk n
 end':∀n,n<N→lab n<N∧up (lab n)=lab n
def zDi (f:Nat→Nat) (a x:Nat):Nat→Nat:=fun n=>if n=a then x else f n
theorem FoX.start (N:Nat):FoX N (fun n=>n) (fun n=>n) (fun _=>0):=⟨fun n h=>h,fun n _=>rfl,fun n _ _=>rfl,fun n _ h=>absurd rfl h,fun n h=>⟨h,rfl⟩⟩
theorem FoX.half {N:Nat} {up lab rk:Nat→Nat} (h:FoX N up lab rk) {n:Nat} (hn:n<N) (hne:up n≠n):FoX N (zDi up n (up (up n))) lab rk:=by
 have h1:=h.lt n hn;have h2:=h.dec n hn hne;have h3:rk (up (up n))≤rk (up n):=by
  by_cases e:up (up n)=up n
  ·rw [e];exact Nat.le_refl _
  ·exact Nat.le_of_lt (h.dec _ h1 e)
 refine⟨fun m hm=>?_,fun m hm=>?_,fun m hm e=>?_,fun m hm e=>?_,fun m hm=>?_⟩
 ·unfold zDi;split
  ·exact h.lt _ h1
  ·exact h.lt m hm
 ·unfold zDi;split
  ·rename_i e;rw [h.same _ h1,h.same n hn,e]
  ·exact h.same m hm
 ·unfold zDi at e
  split at e
  ·rename_i e2;rw [e2] at e;exact absurd h2 (by rw [e] at h3;omega)
  ·exact h.root m hm e
 ·unfold zDi at e ⊢
  split
  ·rename_i e2;rw [e2];omega
  ·rename_i e2;rw [if_neg e2] at e;exact h.dec m hm e
 ·obtain⟨k1,k2⟩:=h.end' m hm;refine⟨k1,?_⟩;unfold zDi;rw [if_neg fun e=>hne (by rw [←e];exact k2)];exact k2
theorem FoX.join {N:Nat} {up lab rk:Nat→Nat} (h:FoX N up lab rk) {a b:Nat} (ha:a<N) (hb:b<N) (ra:up a=a) (rb:up b=b) (hne:a≠b):
 FoX N (zDi up b a) (fun x=>if lab x=b then a else lab x) (fun x=>if lab x=b then rk x+rk a+1 else rk x):=by
 have la:=h.root a ha ra;have lb:=h.root b hb rb;refine⟨fun m hm=>?_,fun m hm=>?_,fun m hm e=>?_,fun m hm e=>?_,fun m hm=>?_⟩
 ·unfold zDi;split
  ·exact ha
  ·exact h.lt m hm
 ·unfold zDi;split
  ·rename_i e;rw [e,la,lb,if_pos rfl,if_neg hne]
  ·rw [h.same m hm]
 ·unfold zDi at e
  split at e
  ·rename_i e2;exact absurd (e.trans e2) hne
  ·rename_i e2;have:=h.root m hm e;rw [if_neg (by rw [this];exact e2),this]
 ·unfold zDi at e ⊢
  split
  ·rename_i e2;rw [e2,lb,if_pos rfl,la,if_neg hne];omega
  ·rename_i e2;rw [if_neg e2] at e;have h1:=h.dec m hm e;rw [h.same m hm]
   split
   ·omega
   ·exact h1
 ·obtain⟨k1,k2⟩:=h.end' m hm;unfold zDi
  split
  ·exact⟨ha,by first | exact ra | (rw [if_neg hne];exact ra)⟩
  ·rename_i e;exact⟨k1,by first | exact k2 | (rw [if_neg e];exact k2)⟩
def zAf (up:Nat→Nat):Nat→Nat
 | 0=>0
 | n+1=>zAf up n+if up n=n then 1 else 0
theorem zD4 {f g:Nat→Nat}:∀{N:Nat},(∀n,n<N→(f n=n↔g n=n))→zAf f N=zAf g N
 | 0,_=>rfl
 | N+1,h=>by
  unfold zAf;rw [zD4 fun n hn=>h n (by omega)];have:=h N (by omega);by_cases e:f N=N
  ·rw [if_pos e,if_pos (this.1 e)]
  ·rw [if_neg e,if_neg fun k=>e (this.2 k)]
theorem zD5:∀N,zAf (fun n=>n) N=N
 | 0=>rfl
 | N+1=>by unfold zAf;rw [zD5 N,if_pos rfl]
theorem zFA {up:Nat→Nat} {a b:Nat} (rb:up b=b) (hne:a≠b):∀{N:Nat},b<N→zAf (zDi up b a) N+1=zAf up N
 | N+1,hb=>by
  unfold zAf;by_cases e:b=N
  ·subst e;rw [if_pos rb,show(zDi up b a) b=a from if_pos rfl,if_neg hne];have:zAf (zDi up b a) b=zAf up b:=zD4 fun n hn=>by unfold zDi;rw [if_neg (by omega)]
   omega
  ·have:=zFA rb hne (N:=N) (by omega);rw [show(zDi up b a) N=up N from if_neg fun h=>e h.symm];omega
theorem FoX.roots_half {N:Nat} {up lab rk:Nat→Nat} (h:FoX N up lab rk) {n:Nat} (hn:n<N) (hne:up n≠n):zAf (zDi up n (up (up n))) N=zAf up N:=zD4 fun m hm=>by
 unfold zDi
 split
 ·rename_i e;subst e;refine⟨fun e=>?_,fun e=>absurd e hne⟩;have h2:=h.dec m hn hne;by_cases e2:up (up m)=up m
  ·rw [e2] at e;exact e
  ·have:=h.dec _ (h.lt m hn) e2;rw [e] at this;omega
 ·exact Iff.rfl
theorem zH4 {up:Nat→Nat} {a:Nat} (ra:up a=a):∀{N:Nat},a<N→1≤zAf up N
 | N+1,h=>by
  unfold zAf;by_cases e:a=N
  ·subst e;rw [if_pos ra];omega
  ·have:=zH4 ra (N:=N) (by omega);omega
theorem zEM {up:Nat→Nat} {a b:Nat} (ra:up a=a) (rb:up b=b) (hab:a<b):∀{N:Nat},b<N→2≤zAf up N
 | N+1,h=>by
  unfold zAf;by_cases e:b=N
  ·subst e;rw [if_pos rb];have:=zH4 ra (N:=b) hab;omega
  ·have:=zEM ra rb hab (N:=N) (by omega);omega
theorem FoX.one_part {N:Nat} {up lab rk:Nat→Nat} (h:FoX N up lab rk) (h1:zAf up N≤1):∀m n,m<N→n<N→lab m=lab n:=fun m n hm hn=>by
 obtain⟨a1,a2⟩:=h.end' m hm;obtain⟨b1,b2⟩:=h.end' n hn;rcases Nat.lt_trichotomy (lab m) (lab n) with e | e | e
 ·have:=zEM a2 b2 e b1;omega
 ·exact e
 ·have:=zEM b2 a2 e a1;omega
theorem FoX.few_parts {N:Nat} {up lab rk:Nat→Nat} (h:FoX N up lab rk) (h1:∀m n,m<N→n<N→lab m=lab n):zAf up N≤1:=by
 have key:∀k,k≤N→zAf up k≤1∧(∀j,j<k→up j=j→1≤zAf up k)∧((∀j,j<k→up j≠j)→zAf up k=0):=fun k=>by
  induction k with
  | zero=>intro _;exact⟨by unfold zAf;omega,fun j hj=>by omega,fun _=>rfl⟩
  | succ k ih=>
   intro hk;obtain⟨i1,i2,i3⟩:=ih (by omega);unfold zAf;by_cases e:up k=k
   ·have hz:zAf up k=0:=i3 fun j hj ej=>by
     have e1:=h.root k (by omega) e;have e2:=h.root j (by omega) ej;have:=h1 k j (by omega) (by omega);omega
    rw [if_pos e,hz];exact⟨by omega,fun _ _ _=>by omega,fun hh=>absurd e (hh k (by omega))⟩
   ·rw [if_neg e];refine⟨by omega,fun j hj ej=>?_,fun hh=>by have:=i3 fun j hj=>hh j (by omega);omega⟩;by_cases e2:j=k
    ·subst e2;exact absurd ej e
    ·exact i2 j (by omega) ej
 exact(key N (Nat.le_refl _)).1
structure PartX (E J:Nat) (kn:Nat→Nat→Bool) (i k:Nat) (up lab rk:Nat→Nat):Prop where
 fo:FoX (E+J) up lab rk
 edge:∀a b,a<E→b<J→(a<i∨a=i∧b<k)→kn a b=true→lab a=lab (E+b)
 cons:∀h:Nat→Rat,(∀a b,a<E→b<J→kn a b=true→h a=h (E+b))→∀n,n<E+J→h n=h (lab n)
theorem PartX.start (E J:Nat) (kn:Nat→Nat→Bool):PartX E J kn 0 0 (fun n=>n) (fun n=>n) (fun _=>0):=⟨FoX.start _,fun a b ha hb h=>by omega,fun h _ n _=>rfl⟩
theorem PartX.skip {E J:Nat} {kn:Nat→Nat→Bool} {i k:Nat} {up lab rk:Nat→Nat} (h:PartX E J kn i k up lab rk) (hk:kn i k=false∨lab i=lab (E+k)):PartX E J kn i (k+1) up lab rk:=
 ⟨h.fo,fun a b ha hb hab hkn=>by
  by_cases e:a=i∧b=k
  ·obtain⟨rfl,rfl⟩:=e;rcases hk with e | e
   ·rw [e] at hkn;cases hkn
   ·exact e
  ·exact h.edge a b ha hb (by omega) hkn,h.cons⟩
theorem PartX.next {E J:Nat} {kn:Nat→Nat→Bool} {i:Nat} {up lab rk:Nat→Nat} (h:PartX E J kn i J up lab rk):PartX E J kn (i+1) 0 up lab rk:=⟨h.fo,fun a b ha hb hab hkn=>h.edge a b ha hb (by omega) hkn,h.cons⟩
theorem PartX.join {E J:Nat} {kn:Nat→Nat→Bool} {i k:Nat} {up lab rk:Nat→Nat} (h:PartX E J kn i k up lab rk) (hi:i<E) (hk:k<J) (hkn:kn i k=true) (hne:lab i≠lab (E+k)):
 PartX E J kn i (k+1) (zDi up (lab (E+k)) (lab i)) (fun x=>if lab x=lab (E+k) then lab i else lab x) (fun x=>if lab x=lab (E+k) then rk x+rk (lab i)+1 else rk x):=by
 obtain⟨a1,a2⟩:=h.fo.end' i (by omega);obtain⟨b1,b2⟩:=h.fo.end' (E+k) (by omega);refine⟨h.fo.join a1 b1 a2 b2 hne,fun a b ha hb hab hk2=>?_,fun f hf n hn=>?_⟩
 ·by_cases e:a=i∧b=k
  ·obtain⟨rfl,rfl⟩:=e;rw [if_pos rfl,if_neg hne]
  ·rw [h.edge a b ha hb (by omega) hk2]
 ·have h1:=h.cons f hf n hn
  split
  ·rename_i e;rw [h1,e,←h.cons f hf (E+k) (by omega),←hf i k hi hk hkn,←h.cons f hf i (by omega)]
  ·exact h1
theorem PartX.half {E J:Nat} {kn:Nat→Nat→Bool} {i k:Nat} {up up' lab rk:Nat→Nat} (h:PartX E J kn i k up lab rk) (hf:FoX (E+J) up' lab rk):PartX E J kn i k up' lab rk:=⟨hf,h.edge,h.cons⟩
def zHT (E J:Nat) (kn:Nat→Nat→Bool):Prop:=∀h:Nat→Rat,(∀a b,a<E→b<J→kn a b=true→h a=h (E+b))→∀m n,m<E+J→n<E+J→h m=h n
theorem PartX.conn {E J:Nat} {kn:Nat→Nat→Bool} {up lab rk:Nat→Nat} (h:PartX E J kn E 0 up lab rk):zAf up (E+J)≤1↔zHT E J kn:=by
 constructor
 ·intro h1 f hf m n hm hn;rw [h.cons f hf m hm,h.cons f hf n hn,h.fo.one_part h1 m n hm hn]
 ·intro hc;refine h.fo.few_parts fun m n hm hn=>?_;have:=hc (fun x=>(lab x:Rat)) (fun a b ha hb hk=>by rw [h.edge a b ha hb (by omega) hk]) m n hm hn
  exact_mod_cast this
open Go.RowKit Go BigFrame
def zK2 (x:Value) (o:Option Nat):Prop:=∀A n c,x=.slice (some A) n c→0<n→o≠some A.block
structure zMh {α:Type} (R:World→Value→α→Prop):Prop where
 ext:∀w w' v x,Ext w w'→R w v x→R w' v x
 grown:∀w w' row v x,R w v x→w.grownBy w' row→zK2 v row→R w' v x
 new:∀w v x,R w v x→zK2 v (some w.heap.size)
 one:∀w v x,R w v x→v.oneCell'=true
theorem Ints.grownW {w w':World} {row:Option Nat} {a:Option Addr} {cap:Nat} {l:List Int} (h:Ints w a cap l) (hg:w.grownBy w' row) (hne:0<l.length→∀A,a=some A→row≠some A.block):Ints w' a cap l:=
 ⟨h.le,h.mx,h.nil,fun A hA i hi=>by
  obtain⟨h1,v,hv,hr⟩:=h.cells A hA i hi;refine⟨h1,v,?_,hr⟩;have hlt:=World.block_lt_of_cell? w _ hv;have:=hg.block A.block hlt (fun e=>hne (by omega) A hA e.symm);simp only [World.cell?] at hv ⊢
  rw [this];exact hv⟩
theorem Bools.grownW {w w':World} {row:Option Nat} {a:Option Addr} {cap:Nat} {l:List Bool} (h:Bools w a cap l) (hg:w.grownBy w' row) (hne:0<l.length→∀A,a=some A→row≠some A.block):Bools w' a cap l:=
 ⟨h.le,h.mx,h.nil,fun A hA i hi=>by
  obtain⟨h1,v,hv,hr⟩:=h.cells A hA i hi;refine⟨h1,v,?_,hr⟩;have hlt:=World.block_lt_of_cell? w _ hv;have:=hg.block A.block hlt (fun e=>hne (by omega) A hA e.symm);simp only [World.cell?] at hv ⊢
  rw [this];exact hv⟩
theorem rdInts:zMh zFp where
 ext:=fun w w' v x he ⟨a,c,e,r⟩=>⟨a,c,e,r.ext he⟩
 grown:=fun w w' row v x ⟨a,c,e,r⟩ hg ho=>⟨a,c,e,r.grownW hg fun hl A hA=>ho A x.length c (by rw [e,hA]) hl⟩
 new:=fun w v x ⟨a,c,e,r⟩ A n c' e2 hn=>by
  rw [e] at e2;simp only [Value.slice.injEq] at e2;obtain⟨rfl,rfl,rfl⟩:=e2;obtain⟨_,u,hu,_⟩:=r.cells A rfl 0 hn;have:=World.block_lt_of_cell? w _ hu;dsimp only at this;simp only [ne_eq,Option.some.injEq];omega
 one:=fun w v x ⟨a,c,e,r⟩=>by rw [e];rfl
theorem rdBools:zMh zDH where
 ext:=fun w w' v x he ⟨a,c,e,r⟩=>⟨a,c,e,r.ext he⟩
 grown:=fun w w' row v x ⟨a,c,e,r⟩ hg ho=>⟨a,c,e,r.grownW hg fun hl A hA=>ho A x.length c (by rw [e,hA]) hl⟩
 new:=fun w v x ⟨a,c,e,r⟩ A n c' e2 hn=>by
  rw [e] at e2;simp only [Value.slice.injEq] at e2;obtain⟨rfl,rfl,rfl⟩:=e2;obtain⟨_,u,hu,_⟩:=r.cells A rfl 0 hn;have:=World.block_lt_of_cell? w _ hu;dsimp only at this;simp only [ne_eq,Option.some.injEq];omega
 one:=fun w v x ⟨a,c,e,r⟩=>by rw [e];rfl
structure OwnL {α:Type} (R:World→Value→α→Prop) (w:World) (B:Nat) (t:TypeId) (v:Value) (xs:List α):Prop where
 ex:∃vs:List Value,w.ownsRow B t 1 v xs.length vs∧∀i (h:i<xs.length),∃x,vs[i]? =some x∧R w x xs[i]∧zK2 x v.ownBlock
section
variable {α:Type} {R:World→Value→α→Prop} {w w':World} {B:Nat} {t:TypeId} {v:Value} {xs:List α}
theorem OwnL.nil (w:World) (B:Nat) (t:TypeId):OwnL R w B t (.slice none 0 0) []:=⟨[],World.ownsRow_nil _ _ _ _,fun i h=>absurd h (by simp)⟩
theorem OwnL.ext (hR:zMh R) (h:OwnL R w B t v xs) (k:Ext w w'):OwnL R w' B t v xs:=by
 obtain⟨vs,ho,hx⟩:=h.ex;refine⟨vs,zAg ho k,fun i hi=>?_⟩;obtain⟨x,e,h1,h2⟩:=hx i hi;exact⟨x,e,hR.ext _ _ _ _ k h1,h2⟩
theorem OwnL.low {B':Nat} (h:OwnL R w B t v xs) (hB:B'≤B):OwnL R w B' t v xs:=by
 obtain⟨vs,⟨h1,h2⟩,hx⟩:=h.ex;refine⟨vs,⟨h1,?_⟩,hx⟩;rcases h2 with h2 | ⟨g,cap,cur,e,hb,hg,hr⟩
 ·exact .inl h2
 ·exact .inr ⟨g,cap,cur,e,by omega,hg,hr⟩
theorem OwnL.lt (h:OwnL R w B t v xs):∀g,v.ownBlock=some g→B≤g∧g<w.heap.size:=by
 obtain⟨vs,ho,_⟩:=h.ex;exact fun g e=>World.ownsRow.lt ho g e
theorem OwnL.form (h:OwnL R w B t v xs):∃a cap,v=.slice a xs.length cap∧xs.length≤cap∧cap≤9223372036854775807:=by
 obtain⟨vs,ho,_⟩:=h.ex;rcases ho.2 with⟨rfl,h0⟩ | ⟨g,cap,cur,rfl,_,_,h1,h2,_⟩
 ·exact⟨none,0,by rw [h0],by omega,by omega⟩
 ·exact⟨_,_,rfl,h1,by unfold maxLen at h2;omega⟩
theorem OwnL.sl (h:OwnL R w B t v xs):∃a cap,v=.slice a xs.length cap∧SlOf R w a cap xs:=by
 obtain⟨vs,ho,hx⟩:=h.ex;rcases ho.2 with⟨rfl,h0⟩ | ⟨g,cap,cur,rfl,_,_,h1,h2,_⟩
 ·have:xs=[]:=List.eq_nil_of_length_eq_zero h0;subst this;exact⟨none,0,rfl,⟨by simp,by omega,fun _=>rfl,fun A hA=>by cases hA⟩⟩
 ·refine⟨_,cap,rfl,⟨h1,by unfold maxLen at h2;omega,by simp,fun A hA i hi=>?_⟩⟩;cases hA
  obtain⟨x,e,hr,_⟩:=hx i hi;have:=World.ownsRow.cellAt ho i (by omega);rw [e] at this;exact⟨rfl,x,by simpa using this,hr⟩
theorem OwnL.slice {a:Option Addr} {n cap:Nat} (h:OwnL R w B t (.slice a n cap) xs):n=xs.length∧SlOf R w a cap xs:=by
 obtain⟨a',cap',e,hs⟩:=h.sl;simp only [Value.slice.injEq] at e;obtain⟨rfl,rfl,rfl⟩:=e;exact⟨rfl,hs⟩
theorem OwnL.more (hR:zMh R) (h:OwnL R w B t v xs) {x v':Value} {y:α} {vs:List Value} (hvs:w.ownsRow B t 1 v xs.length vs) (hx:∀i (h:i<xs.length),∃x,vs[i]? =some x∧R w x xs[i]∧zK2 x v.ownBlock)
 (hy:R w x y) (hxo:zK2 x v.ownBlock) (hown:w'.ownsRow B t 1 v' (xs.length+1) (vs ++ [x])) (hg:w.grownBy w' v.ownBlock) (hat:v'.ownBlock=v.ownBlock∨v'.ownBlock=some w.heap.size):
 OwnL R w' B t v' (xs ++ [y]):=by
 have hvl:vs.length=xs.length:=by have:=hvs.1;omega
 have hoff:∀u z,R w u z→zK2 u v.ownBlock→zK2 u v'.ownBlock:=fun u z hu ho=>by
  rcases hat with e | e
  ·rw [e];exact ho
  ·rw [e];exact hR.new _ _ _ hu
 refine⟨vs ++ [x],by rw [List.length_append];exact hown,fun i hi=>?_⟩;rw [List.length_append,List.length_singleton] at hi;by_cases hk:i<xs.length
 ·obtain⟨u,e,h1,h2⟩:=hx i hk;refine⟨u,by rw [List.getElem?_append_left (by omega)];exact e,?_,hoff _ _ h1 h2⟩;rw [List.getElem_append_left hk];exact hR.grown _ _ _ _ _ h1 hg h2
 ·have hi':i=xs.length:=by omega
  subst hi';refine⟨x,by rw [←hvl];simp,?_,hoff _ _ hy hxo⟩;rw [List.getElem_append_right (Nat.le_refl _)];simp only [Nat.sub_self,List.getElem_singleton];exact hR.grown _ _ _ _ _ hy hg hxo
end
theorem zEN {α:Type} {R:World→Value→α→Prop} (hR:zMh R) {a0 w:World} {ops:Array Oper} {rest:List Oper} {o:Oper} {a:Act} {Q:Exit→Act→World→Prop} (hgd:o.guard=none) (s x:Operand) (t et:TypeId)
 (ho:o.op=.call {callee:=.builtin .append,args:=#[s,x],argTypes:=#[t,t]}) (ht:Tryz.prog.underlying t=some (.slice et)) {z:Value} (hz:z.cells.size=1) (hi:(Tryz.prog.info? et).map (fun i=>(i.zero,i.size,i.bytes))=some (some z,1,24))
 (hx0:Ext a0 w) {v:Value} {xs:List α} (hs:a.eval s=v) (hown:OwnL R w a0.heap.size et v xs) {g:Nat} (hx:a.eval x=.slice (some ⟨g,0,none⟩) 1 1) {u:Value} {bt:TypeId} (hb:Blk w g #[u] bt) {y:α} (hu:R w u y) (hoff:zK2 u v.ownBlock)
 (hlen:xs.length≤1000000)
 (h:∀va vc w',OwnL R w' a0.heap.size et (.slice va (xs.length+1) vc) (xs ++ [y])→Ext a0 w'→w.grownBy w' v.ownBlock→wpList Tryz.prog ops Q rest (a.put o.dst (.slice va (xs.length+1) vc)) w'):wpList Tryz.prog ops Q (o :: rest) a w:=by
 obtain⟨i0,hi0,hz0,hz1,hz2⟩:=info_parts hi;obtain⟨vs,hvs,hel⟩:=hown.ex
 refine wpList_append_own_at w hgd s x t ho a0.heap.size et i0 z 1 24 ht hi0 hz0 hz1 hz2 hz (by decide) v xs.length vs hs hvs ⟨g,0,none⟩ 1 1 [u] hx rfl (fun j q hq=>by
  have e:((⟨g,0,none⟩:Addr).add j)= ⟨g,j,none⟩:=by unfold Addr.add;split <;> simp_all
  rw [e]
  exact hb.cell (by simpa using hq)) (fun q hq=>by rw [List.mem_singleton.1 hq];exact hR.one _ _ _ hu) (by unfold maxLen;omega) (by omega) hx0.size ?_
 intro v' w' h1 h2 h3 h4;have hm:=hown.more hR hvs hel hu hoff h1 h2 h4;obtain⟨va,vc,e,_⟩:=hm.form;rw [List.length_append,List.length_singleton] at e;subst e;exact h va vc w' hm (Below.grown hx0 h2 hx0.size (fun k e=>(hown.lt k e).1)) h2
theorem zH5:(Tryz.prog.info? 34).map (fun i=>(i.zero,i.size,i.bytes))=some (some (.slice none 0 0),1,24):=by kernel_rfl
theorem zJ7:(Tryz.prog.info? 52).map (fun i=>(i.zero,i.size,i.bytes))=some (some (.slice none 0 0),1,24):=by kernel_rfl
end Go.Proofs.YtonkhcdmchidjaaGreat
namespace Go.Proofs.YtonkhcdmchidjaaGreat
open Go.RowKit Go BigFrame Go.Shelf
set_option maxRecDepth 100000
set_option linter.all false
section
variable {A:List (List RatA)} {k:Nat}
def rkX (A:List (List RatA)) (k:Nat):Nat:=(zAe A.length (mxA A) k).ps.length
end
theorem RowR.raw {w:World} {a:Option Addr} {cap N:Nat} {V:Nat→RatC} {f:Nat→Rat} (h:RowR w a cap N V f) (hl:∀c,c<N→Len (f c).num∧Len ((f c).den:Int)):
 ∃L:List RatA,L.length=N∧RatsI w a cap L∧∀c,c<N→zJ6 (L.getD c noA) (f c):=by
 have one:∀c,∃y:RatA,c<N→y.n= (V c).n∧y.a= (V c).a∧y.l.length= (V c).q∧y.c= (V c).c∧y.n2= (V c).m∧y.b= (V c).b∧y.m.length= (V c).k∧y.d= (V c).d∧RatI w y∧zJ6 y (f c):=fun c=>by
  by_cases hc:c<N
  ·obtain⟨l,m,e1,e2,hi,hn⟩:=zLv (h.val c hc) (hl c hc).1 (hl c hc).2;exact⟨_,fun _=>⟨rfl,rfl,e1,rfl,rfl,rfl,e2,rfl,hi,hn⟩⟩
  ·exact⟨noA,fun h=>absurd h hc⟩
 obtain⟨g,hg⟩:=Classical.axiomOfChoice one;have hgd:∀c (hc:c< ((List.range N).map g).length),((List.range N).map g)[c]=g c:=fun c hc=>by simp
 refine⟨(List.range N).map g,by simp,⟨by simp;exact h.le,h.mx,h.nil,fun A hA c hc=>?_,fun c hc=>?_⟩,fun c hc=>?_⟩
 ·have hcN:c<N:=by simpa using hc
  rw [hgd c hc];obtain⟨e1,e2,e3,e4,e5,e6,e7,e8,_⟩:=hg c hcN;have:=h.cells A hA c hcN;rw [e1,e2,e3,e4,e5,e6,e7,e8];exact this
 ·have hcN:c<N:=by simpa using hc
  rw [hgd c hc];exact(hg c hcN).2.2.2.2.2.2.2.2.1
 ·have e:((List.range N).map g).getD c noA=g c:=by simp [List.getD_eq_getElem?_getD,hc]
  rw [e];exact(hg c hc).2.2.2.2.2.2.2.2.2
section
variable {A:List (List RatA)} {X B:List RatA}
end
attribute [local go_sem] Oper.semAt_some
def ColQ (m:Nat) (V:Nat→RatC) (f:Nat→Rat) (w:World) (e:Ending) (w':World):Prop:=∃ (v:Value) (K:List RatC),e=.returned v∧OwnRats w' w.heap.size v K ((List.range m).map f)∧(∀x∈K,∃c,c<m∧x=V c)∧Ext w w'
def RowsB (w:World) (g m:Nat) (val:Nat→Value):Prop:=∃cs,Blk w g cs 23∧∀r,r<m→cs[r]? =some (val r)
section
variable {w w':World} {g m:Nat} {val:Nat→Value}
theorem RowsB.ext (h:RowsB w g m val) (k:Ext w w'):RowsB w' g m val:=by
 obtain⟨cs,hb,hc⟩:=h;exact⟨cs,hb.ext k,hc⟩
theorem RowsB.cell (h:RowsB w g m val) {r:Nat} (hr:r<m):w.cell? ⟨g,r,none⟩=some (val r):=by
 obtain⟨cs,hb,hc⟩:=h;exact hb.cell (hc r hr)
theorem RowsB.lt (h:RowsB w g m val):g<w.heap.size:=by
 obtain⟨cs,hb,hc⟩:=h;exact hb.lt
theorem RowsB.free (h:RowsB w g m val) (r:Nat):w.frozen? ⟨g,r,none⟩=false:=by
 obtain⟨cs,hb,hc⟩:=h;exact hb.free r
theorem RowsB.put (h:RowsB w g m val) {i:Nat} (hi:i<m) (u:Value):RowsB (w.setCell ⟨g,i,none⟩ u) g m (fun r=>if r=i then u else val r):=by
 obtain⟨cs,hb,hc⟩:=h;refine⟨_,hb.set i u,fun r hr=>?_⟩;have hsz:i<cs.size:=(Array.getElem?_eq_some_iff.1 (hc i hi)).1;show _=some (if r=i then u else val r);by_cases e:r=i
 ·subst e;rw [if_pos rfl];exact zBC hsz
 ·rw [if_neg e,Array.getElem?_setIfInBounds,if_neg (fun h=>e h.symm)];exact hc r hr
theorem RowsB.grown (h:RowsB w g m val) {row:Option Nat} (hg:w.grownBy w' row) (hr:row≠some g):RowsB w' g m val:=by
 obtain⟨cs,hb,hc⟩:=h;exact⟨cs,zA5 hb hg hr,hc⟩
theorem RowsB.congr {val':Nat→Value} (h:RowsB w g m val) (k:∀r,r<m→val r=val' r):RowsB w g m val':=by
 obtain⟨cs,hb,hc⟩:=h;exact⟨cs,hb,fun r hr=>by rw [←k r hr];exact hc r hr⟩
theorem RowsB.mat {N cap:Nat} {V:Nat→Nat→RatC} {M:Mx} (h:RowsB w g m val) (hv:∀r,r<m→∃a c,val r=.slice a N c∧RowR w a c N (V r) (M r)) (h1:m≤cap) (h2:cap≤9223372036854775807):MatR w (some ⟨g,0,none⟩) cap m N V M:=
 ⟨h1,h2,fun e=>(by cases e),fun A hA r hr=>by
  cases hA
  obtain⟨a,c,e,hrow⟩:=hv r hr;refine⟨rfl,a,c,?_,hrow⟩;have:=h.cell hr;rw [e] at this
  simpa using this⟩
end
theorem RowR.grown {w w':World} {a:Option Addr} {cap N:Nat} {V:Nat→RatC} {f:Nat→Rat} (h:RowR w a cap N V f) {row:Option Nat} (hg:w.grownBy w' row) (hr:∀A,a=some A→row≠some A.block) (ho:∀c,c<N→(V c).Off row):RowR w' a cap N V f:=
 ⟨h.le,h.mx,h.nil,fun A hA c hc=>by
  obtain⟨h0,h1,h2,h3,h4⟩:=h.cells A hA c hc;have key:∀ (j:Nat) (u:Value),w.cell? ⟨A.block,j,none⟩=some u→w'.cell? ⟨A.block,j,none⟩=some u:=fun j u hu=>by
   have hlt:=World.block_lt_of_cell? w _ hu;have:=hg.block A.block hlt (fun e=>hr A hA e.symm);simp only [World.cell?] at hu ⊢;rw [this];exact hu
  exact⟨h0,key _ _ h1,key _ _ h2,key _ _ h3,key _ _ h4⟩,fun c hc=>(h.val c hc).grown hg (ho c hc)⟩
theorem MatR.raw {w:World} {a:Option Addr} {cap m N:Nat} {V:Nat→Nat→RatC} {M:Mx} (h:MatR w a cap m N V M) (hl:∀r,r<m→∀c,c<N→Len (M r c).num∧Len ((M r c).den:Int)):
 ∃A:List (List RatA),A.length=m∧RRows w a cap A∧(∀L∈A,L.length=N)∧∀r,r<m→∀c,c<N→zJ6 ((A.getD r []).getD c noA) (M r c):=by
 have one:∀r,∃L:List RatA,r<m→L.length=N∧(∀A,a=some A→A.spot=none∧∃a' c',w.cell? ⟨A.block,A.off+r,none⟩=some (.slice a' N c')∧RatsI w a' c' L)∧∀c,c<N→zJ6 (L.getD c noA) (M r c):=fun r=>by
  by_cases hr:r<m
  ·obtain⟨b,o,rfl⟩:=h.head hr;obtain⟨h0,a',c',h1,h2⟩:=h.cells _ rfl r hr;obtain⟨L,e1,e2,e3⟩:=h2.raw (hl r hr);exact⟨L,fun _=>⟨e1,fun A hA=>by cases hA;exact⟨rfl,a',c',h1,e2⟩,e3⟩⟩
  ·exact⟨[],fun e=>absurd e hr⟩
 obtain⟨G,hG⟩:=Classical.axiomOfChoice one;have hgd:∀r (hr:r< ((List.range m).map G).length),((List.range m).map G)[r]=G r:=fun r hr=>by simp
 refine⟨(List.range m).map G,by simp,⟨by simp;exact h.le,h.mx,h.nil,fun A hA r hr=>?_⟩,fun L hL=>?_,fun r hr=>?_⟩
 ·have hrm:r<m:=by simpa using hr
  rw [hgd r hr];obtain⟨e1,e2,_⟩:=hG r hrm;obtain⟨h0,a',c',h1,h2⟩:=e2 A hA;exact⟨h0,_,h1,a',c',by rw [e1],h2⟩
 ·obtain⟨r,hr,rfl⟩:=List.mem_map.1 hL;exact(hG r (List.mem_range.1 hr)).1
 ·have e:((List.range m).map G).getD r []=G r:=by simp [List.getD_eq_getElem?_getD,hr]
  rw [e];exact(hG r hr).2.2
section
variable {A B:List (List RatA)} {X Y:List RatA} {M:Mx} {m N:Nat}
end
theorem zAb (E:Int) (w:World):Calls Tryz.prog 54 #[.bool true,.int .i64 E] w fun e w'=>e=.returned (.tuple #[])∧Ext w w':=by
 have hx:=Ext.refl w;go_enter Tryz.func54,Tryz.ntmps54;go_wp2_with fail
 go_end0
 exact⟨rfl,hx⟩
theorem zA9 (E:Int) (w:World):Calls Tryz.prog 54 #[.bool false,.int .i64 E] w fun e w'=>e=zBN E∧Ext w w':=by
 have hx:=Ext.refl w;go_enter Tryz.func54,Tryz.ntmps54;go_wp2_with fail;exact⟨rfl,rfl,hx⟩
theorem zAA (n:Int) (w:World):Calls Tryz.prog 55 #[.int .i64 n] w fun e w'=>e=.returned (.bool (n != -1))∧w=w':=by
 go_enter Tryz.func55,Tryz.ntmps55;go_wp2_with fail;go_ret;exact⟨rfl,rfl⟩
theorem zGc (a:Option Addr) (n cap:Nat) (w:World):Calls Tryz.prog 115 #[.slice a n cap] w fun e w'=>e=.returned (.bool (decide (16<n)))∧w=w':=by
 by_cases h:16<n
 ·have d1:decide ((16:Int)< (n:Int))=true:=decide_eq_true (by omega);go_enter Tryz.func115,Tryz.ntmps115;go_wp2_with fail;go_ret;exact⟨zBM (by first | rfl | (rw [decide_eq_true h]) | simp [h]),rfl⟩
 ·have d1:decide ((16:Int)< (n:Int))=false:=decide_eq_false (by omega);have d2:¬16<n:=h;go_enter Tryz.func115,Tryz.ntmps115;go_wp2_with fail;go_ret;exact⟨zBM (by first | rfl | (rw [decide_eq_false h]) | simp [h]),rfl⟩
theorem zAG (n m:Bool) (a b:Option Addr) (q c k d:Nat) (w:World):Calls Tryz.prog 61 #[.agg #[.bool n,.slice a q c,.bool m,.slice b k d],.int .i64 0] w fun e w'=>e=.returned (.agg #[.bool n,.slice a q c,.bool m,.slice b k d])∧Ext w w':=by
 obtain⟨x1,hw,hx,Kx,Kr⟩:=zGI w #[.bool n,.slice a q c,.bool m,.slice b k d] 38 #[.bool false,.slice none 0 0,.bool false,.slice none 0 0] 38;replace hw:=dH hw;go_enter Tryz.func61,Tryz.ntmps61;go_upto_region 1 with fail
 try simp only [Nat.add_assoc,Nat.reduceAdd,Nat.add_zero]
 rw [hw.out];clear hw;have hs0:=hx.size;obtain⟨cx0,cx1,cx2,cx3⟩:=bk4 Kx;obtain⟨cr0,cr1,cr2,cr3⟩:=bk4 Kr;go_wp2_with fail
 with_reducible refine(zAb 0 _).mono ?_
 clear cx0 cx1 cx2 cx3 cr0 cr1 cr2 cr3;rintro e x2 ⟨rfl,hy⟩;replace hx:=hx.trans hy;replace Kx:=kE Kx hy;replace Kr:=kE Kr hy;clear hy;obtain⟨cx0,cx1,cx2,cx3⟩:=bk4 Kx;obtain⟨g0,z0,g1,z1,g2,z2,g3,z3⟩:=bp4 Kr (.bool n) (.slice a q c) (.bool m) (.slice b k d);go_wp2_with fail;clear g0 z0 g1 z1 g2 z2 g3 z3;clear cx0 cx1 cx2 cx3;replace hx:=bx4 hx (w.heap.size+1) (.bool n) (.slice a q c) (.bool m) (.slice b k d) (by omega);replace Kr:=bs4 Kr (.bool n) (.slice a q c) (.bool m) (.slice b k d);generalize ((((x2).setCell ⟨w.heap.size+1,0,none⟩ (.bool n)).setCell ⟨w.heap.size+1,1,none⟩ (.slice a q c)).setCell ⟨w.heap.size+1,2,none⟩ (.bool m)).setCell ⟨w.heap.size+1,3,none⟩ (.slice b k d)=x3 at *;obtain⟨cr0,cr1,cr2,cr3⟩:=bk4 Kr;refine bodyPost_ret (v:=.agg #[.bool n,.slice a q c,.bool m,.slice b k d]) (by simp [results,Tryz.results61,go_sem,cr0,cr1,cr2,cr3]) rfl ?_;exact⟨rfl,hx⟩
theorem zAC (n d:Int) (w:World) (hn:-9223372036854775808≤n∧n≤9223372036854775807) (hd:-9223372036854775808≤d∧d≤9223372036854775807) (h0:d≠0):Calls Tryz.prog 59 #[.int .i64 n,.int .i64 d] w (zNN (Rat.divInt n d) w):=by
 obtain⟨x1,hw,hx,Kr⟩:=zCh w #[.bool false,.slice none 0 0,.bool false,.slice none 0 0] 38;replace hw:=dH hw;have HM:=dH (fun W=>zFv n d W hn hd h0);clear hn hd h0;go_enter Tryz.func59,Tryz.ntmps59;go_upto_region 1 with fail;rw [hw.out];clear hw;have hsz:=hx.size;go_wp2_with fail;refine(HM.out _).mono ?_;rintro e x2 ⟨v,rfl,⟨nr,ar,qr,cr,br,kr,dr,rfl,hv,hf,hg⟩,hy⟩;have VR:=dH hv;have FR:=dH (fun A hA=>Nat.le_trans hsz (hf A hA));have GR:=dH (fun A hA=>Nat.le_trans hsz (hg A hA));replace hx:=hx.trans hy;replace Kr:=kE Kr hy;clear hy hv hf hg hsz HM;go_wp2_with fail;refine(zAG nr false ar br qr cr kr dr _).mono ?_;rintro e x3 ⟨rfl,hy⟩;replace hx:=hx.trans hy;replace Kr:=kE Kr hy;replace VR:=dH (VR.out.ext hy);clear hy;obtain⟨g0,z0,g1,z1,g2,z2,g3,z3⟩:=bp4 Kr (.bool nr) (.slice ar qr cr) (.bool false) (.slice br kr dr);go_wp2_with fail;clear g0 z0 g1 z1 g2 z2 g3 z3;replace VR:=rv4 VR Kr (.bool nr) (.slice ar qr cr) (.bool false) (.slice br kr dr) rfl rfl rfl rfl;replace hx:=bx4 hx w.heap.size (.bool nr) (.slice ar qr cr) (.bool false) (.slice br kr dr) (Nat.le_refl _);replace Kr:=bs4 Kr (.bool nr) (.slice ar qr cr) (.bool false) (.slice br kr dr);generalize ((((x3).setCell ⟨w.heap.size,0,none⟩ (.bool nr)).setCell ⟨w.heap.size,1,none⟩ (.slice ar qr cr)).setCell ⟨w.heap.size,2,none⟩ (.bool false)).setCell ⟨w.heap.size,3,none⟩ (.slice br kr dr)=x4 at *;obtain⟨cr0,cr1,cr2,cr3⟩:=bk4 Kr;refine bodyPost_ret (v:=.agg #[.bool nr,.slice ar qr cr,.bool false,.slice br kr dr]) (by simp [results,Tryz.results59,go_sem,cr0,cr1,cr2,cr3]) rfl ?_;exact⟨_,rfl,⟨_,_,_,_,_,_,_,rfl,VR.out,FR.out,GR.out⟩,hx⟩
def zK3 (w:World) (e:Ending) (w':World):Prop:=∃i:Nat,e=.returned (.int .i64 i)∧w=w'
theorem zK4 (fp:FuncId) (caps:Array Value) (B:List Int→Bool) (a:Option Addr) (cap:Nat) (m:List (List Int)) (w:World) (h:Rows w a cap m) (hen:∀args w,(callFunc fp args).run Tryz.prog w=.ok (.enter fp args) w)
 (hp:∀a cap x,x∈m→Ints w a cap x→Calls Tryz.prog fp (#[.slice a x.length cap] ++ caps) w fun e W'=>e=.returned (.bool (B x))∧w=W') (hn:m.any B=false):
 Calls Tryz.prog 169 #[.slice a m.length cap,.func (.func fp) #[] caps] w fun e w'=>e=.returned (.int .i64 (-1))∧w=w':=by
 have hle:=h.le;have hmx:=h.mx;have HN:=dH hn;have HP:=dH hp;have HEN:=dH hen;clear hn hp hen;go_enter Tryz.func169,Tryz.ntmps169;go_wp2_with fail
 go_loop [8] (fun i=>∃k:Nat,k≤m.length∧i=.int .i64 k) (fun i=>m.length - (intOf i).toNat)
 case atStart=>exact⟨0,Nat.zero_le _,rfl⟩
 case round=>
  obtain⟨k,hk,rfl⟩:=hrel;by_cases hkn:k<m.length
  ·obtain⟨b,o,rfl⟩:=h.head hkn;obtain⟨x,a2,cap2,hx,hc,hI⟩:=Rows.get h hkn;have hmem:=List.mem_of_getElem? hx;have ho:B x=false:=by
    have:=List.any_eq_false.1 HN.out x hmem
    simpa using this
   have hO:=HP.out a2 cap2 x hmem hI;rw [ho] at hO;have HO:=dH hO;have g1:(0:Int)≤(k:Int):=by omega
   have g2:(k:Int)< (m.length:Int):=by omega
   clear hx hO ho hmem;have hen:=HEN.out;go_wp2_with fail;refine HO.out.mono ?_;rintro e w' ⟨rfl,rfl⟩;go_wp2_with fail
   go_round
   case rel=>exact⟨k+1,by omega,by go_num⟩
   case measure=>simp [intOf];omega
  ·obtain rfl:k=m.length:=by omega
   go_wp2_with fail;go_ret;exact⟨rfl,rfl⟩
theorem zK5 (fp:FuncId) (caps:Array Value) (B:List Int→Bool) (a:Option Addr) (cap:Nat) (m:List (List Int)) (w:World) (h:Rows w a cap m) (hen:∀args w,(callFunc fp args).run Tryz.prog w=.ok (.enter fp args) w)
 (hp:∀a cap x,x∈m→Ints w a cap x→Calls Tryz.prog fp (#[.slice a x.length cap] ++ caps) w fun e W'=>e=.returned (.bool (B x))∧w=W') (hn:m.any B=true):
 Calls Tryz.prog 169 #[.slice a m.length cap,.func (.func fp) #[] caps] w (zK3 w):=by
 have hle:=h.le;have hmx:=h.mx;have HN:=dH hn;have HP:=dH hp;have HEN:=dH hen;clear hn hp hen;go_enter Tryz.func169,Tryz.ntmps169;go_wp2_with fail
 go_loop [8] (fun i=>∃k:Nat,k≤m.length∧i=.int .i64 k∧(m.take k).any B=false) (fun i=>m.length - (intOf i).toNat)
 case atStart=>exact⟨0,Nat.zero_le _,rfl,rfl⟩
 case round=>
  obtain⟨k,hk,rfl,hno⟩:=hrel;have HNO:=dH hno;clear hno;by_cases hkn:k<m.length
  ·obtain⟨b,o,rfl⟩:=h.head hkn;obtain⟨x,a2,cap2,hx,hc,hI⟩:=Rows.get h hkn;have hmem:=List.mem_of_getElem? hx;have hO:=HP.out a2 cap2 x hmem hI;have hT:=dH (zB0 hx);have g1:(0:Int)≤(k:Int):=by omega
   have g2:(k:Int)< (m.length:Int):=by omega
   clear hx hmem
   cases ho:B x with
   | false=>
    rw [ho] at hO;have HO:=dH hO;have Ho:=dH ho;clear ho hO;have hen:=HEN.out;go_wp2_with fail;refine HO.out.mono ?_;rintro e w' ⟨rfl,rfl⟩;go_wp2_with fail
    go_round
    case rel=>exact⟨k+1,by omega,by go_num,by rw [hT.out,List.any_append,HNO.out];simp [Ho.out]⟩
    case measure=>simp [intOf];omega
   | true=>
    rw [ho] at hO;have HO:=dH hO;clear ho hO;have hen:=HEN.out;go_wp2_with fail;refine HO.out.mono ?_;rintro e w' ⟨rfl,rfl⟩;go_wp2_with fail;go_ret;exact⟨k,rfl,rfl⟩
  ·obtain rfl:k=m.length:=by omega
   exfalso;have:=HNO.out;rw [List.take_length,HN.out] at this;cases this
theorem zK6 (fp:FuncId) (caps:Array Value) (B:List Int→Bool) (a:Option Addr) (cap:Nat) (m:List (List Int)) (w:World) (h:Rows w a cap m) (hen:∀args w,(callFunc fp args).run Tryz.prog w=.ok (.enter fp args) w)
 (hp:∀a cap x,x∈m→Ints w a cap x→Calls Tryz.prog fp (#[.slice a x.length cap] ++ caps) w fun e W'=>e=.returned (.bool (B x))∧w=W'):
 Calls Tryz.prog 116 #[.slice a m.length cap,.func (.func fp) #[] caps] w fun e w'=>e=.returned (.bool (m.any B))∧w=w':=by
 have hle:=h.le;have hmx:=h.mx
 cases hn:m.any B with
 | false=>
  have HI:=dH (zK4 fp caps B a cap m w h hen hp hn);clear hn hen hp;go_enter Tryz.func116,Tryz.ntmps116
  go_wp2_with (go_at_call 169;refine HI.out.mono ?_;rintro e w' ⟨rfl,rfl⟩)
  go_ret;exact⟨rfl,rfl⟩
 | true=>
  have HI:=dH (zK5 fp caps B a cap m w h hen hp hn);clear hn hen hp;go_enter Tryz.func116,Tryz.ntmps116
  go_wp2_with (go_at_call 169;refine HI.out.mono ?_;rintro e w' ⟨i,rfl,rfl⟩)
  go_ret;exact⟨rfl,rfl⟩
def zFB (n:Int):Bool:=decide (n< -1) || decide (1000<n)
def zD6 (l:List Int):Bool:=decide (16<l.length)
def zAR (k:Nat) (l:List Int):Bool:=decide (l.length≠k) || l.any zFB
def zBJ (m:List (List Int)):Int:=if 64<m.length then 2 else if m.any zD6=true then 2 else if m.any (zAR (m.headD []).length)=true then 380 else 0
def zBQ (E:Int):Ending:=if E=0 then .returned (.tuple #[]) else zBN E
theorem zH6 {m:List (List Int)} {V:Int} {E:Ending} (he:zBJ m=V) (hV:V≠0) (h:zBQ (zBJ m)=E):zBN V=E:=by
 rw [he] at h;unfold zBQ at h;rw [if_neg hV] at h;exact h
theorem zNX {m:List (List Int)} {E:Ending} (he:zBJ m=0) (h:zBQ (zBJ m)=E):.returned (.tuple #[])=E:=by
 rw [he] at h;unfold zBQ at h;rw [if_pos rfl] at h;exact h
theorem zBl {α:Type} {B:α→Bool} {m:List α} {k:Nat} {x:α} (hx:m[k]? =some x) (h:(m.take k).any B=false) (hb:B x=false):(m.take (k+1)).any B=false:=by
 rw [zB0 hx,List.any_append,h];simp [hb]
theorem zCe {α:Type} {B:α→Bool} {m:List α} {k:Nat} {x:α} (hx:m[k]? =some x) (hb:B x=true):m.any B=true:=List.any_eq_true.2 ⟨x,List.mem_of_getElem? hx,hb⟩
theorem zAD (a:Option Addr) (cap:Nat) (m:List (List Int)) (w:World) (h:Rows w a cap m):Calls Tryz.prog 53 #[.slice a m.length cap] w fun e w'=>e=zBQ (zBJ m)∧Ext w w':=by
 have hle:=h.le;have hmx:=h.mx;obtain⟨E,hE⟩:∃E,zBQ (zBJ m)=E:=⟨_,rfl⟩
 rw [hE];have HE:=dH hE;have HH:=dH h;have hen:∀args w,(callFunc 115 args).run Tryz.prog w=.ok (.enter 115 args) w:=fun _ _=>rfl;have HC:=dH (zK6 115 #[] zD6 a cap m w h hen (fun a c x _ hx=>zGc a x.length c w));clear h hE hen;by_cases h1:64<m.length
 ·have t1:decide ((m.length:Int)≤64)=false:=decide_eq_false (by omega);have HV:Hid (zBN 2=E):=dH (by refine zH6 ?_ (by decide) HE.out;unfold zBJ;rw [if_pos h1]);clear HE HH HC;go_enter Tryz.func53,Tryz.ntmps53;go_wp2_with fail;refine(zA9 2 _).mono ?_;rintro e x1 ⟨rfl,hy⟩;go_wp2_with fail;exact⟨rfl,HV.out,hy⟩
 have t1:decide ((m.length:Int)≤64)=true:=decide_eq_true (by omega);by_cases h2:m.any zD6=true
 ·have HV:Hid (zBN 2=E):=dH (by refine zH6 ?_ (by decide) HE.out;unfold zBJ;rw [if_neg h1,if_pos h2]);rw [h2] at HC;clear HE HH h2;go_enter Tryz.func53,Tryz.ntmps53;go_wp2_with fail;refine HC.out.mono ?_;rintro e x1 ⟨rfl,rfl⟩;go_wp2_with fail;refine(zA9 2 _).mono ?_;rintro e x1 ⟨rfl,hy⟩;go_wp2_with fail;exact⟨rfl,HV.out,hy⟩
 have h2':m.any zD6=false:=by simpa using h2
 have H0:=dH h1;have HNL:=dH h2';rw [h2'] at HC;clear h2 h2';go_enter Tryz.func53,Tryz.ntmps53;go_wp2_with fail;refine HC.out.mono ?_;rintro e x1 ⟨rfl,rfl⟩;go_wp2_with fail;refine(zAb 2 _).mono ?_;rintro e wA ⟨rfl,hy⟩;have HXA:=dH hy;clear hy HC t1;go_wp2_with fail
 go_loopw [19] (fun i wr=>∃k:Nat,k≤m.length∧i=.int .i64 k∧(m.take k).any (zAR (m.headD []).length)=false∧Ext w wr) (fun i _=>m.length - (intOf i).toNat)
 case atStart=>exact⟨0,Nat.zero_le _,rfl,rfl,HXA.out⟩
 case round=>
  obtain⟨i,hi,rfl,hno,hxr⟩:=hrel;generalize wr=wB at *;have HNO:=dH hno;have HXB:=dH hxr;have g1:(0:Int)≤(i:Int):=by omega
  clear hno;by_cases hin:i<m.length
  ·have hp0:0<m.length:=by omega
   obtain⟨b,o,rfl⟩:=HH.out.head hp0;obtain⟨r0,a3,c3,hr0,hc0,hI0⟩:=Rows.get (HH.out.ext hxr) hp0;obtain⟨x,a2,c2,hx,hc,hI⟩:=Rows.get (HH.out.ext hxr) hin;simp only [Nat.add_zero] at hc0;have r0le:=hI0.le;have r0mx:=hI0.mx;have xle:=hI.le;have xmx:=hI.mx;have g2:(i:Int)< (m.length:Int):=by omega
   have g3:(0:Int)< (m.length:Int):=by omega
   have HX:=dH hx;have HI:=dH hI;have HRL:Hid ((m.headD []).length=r0.length):=dH (by rw [List.headD_eq_head?_getD,List.head?_eq_getElem?,hr0];rfl);clear hx hr0 hI0 hI hxr;by_cases hl:x.length=r0.length
   ·have t2:((x.length:Int) == (r0.length:Int))=true:=by simp [hl]
    have HL:=dH hl;clear hl;go_wp2_with fail;refine(zAb 380 _).mono ?_;rintro e x1 ⟨rfl,hy⟩;have HX2:=dH (HXB.out.trans hy);have HX1:=dH hy;clear t2 hc hc0 hy;go_wp2_with fail
    go_loopw [33] (fun i wr=>∃k:Nat,k≤x.length∧i=.int .i64 k∧(x.take k).any zFB=false∧Ext wB wr) (fun i _=>x.length - (intOf i).toNat)
    case atStart=>exact⟨0,Nat.zero_le _,rfl,rfl,HX1.out⟩
    case round=>
     obtain⟨j,hj,rfl,hno,hxr⟩:=hrel;generalize wr=wC at *;have HNJ:=dH hno;have HXC:=dH hxr;have j1:(0:Int)≤(j:Int):=by omega
     clear hno;by_cases hjn:j<x.length
     ·obtain⟨b5,o5,rfl⟩:=HI.out.head hjn;obtain⟨y,hy,hcy,y1,y2⟩:=Ints.get (HI.out.ext hxr) hjn;have HY:=dH hy;have j2:(j:Int)< (x.length:Int):=by omega
      clear hy hxr;by_cases hb1:-1≤y
      ·have t3:decide (-1≤y)=true:=decide_eq_true hb1;by_cases hb2:y≤1000
       ·have t4:decide (y≤1000)=true:=decide_eq_true hb2;have HB:Hid (zFB y=false):=dH (by unfold zFB;rw [decide_eq_false (by omega),decide_eq_false (by omega)];rfl);go_wp2_with fail;refine(zAb 380 _).mono ?_;rintro e x3 ⟨rfl,hy⟩;have HX3:=dH (HXC.out.trans hy);go_wp2_with fail;go_roundw
        case rel=>exact⟨j+1,by omega,by go_num,zBl HY.out HNJ.out HB.out,HX3.out⟩
        case measure=>simp [intOf];omega
       ·have t4:decide (y≤1000)=false:=decide_eq_false hb2
        have HV:Hid (zBN 380=E):=dH (by
         have hb:zFB y=true:=by unfold zFB;rw [decide_eq_true (show 1000<y by omega)];simp
         refine zH6 ?_ (by decide) HE.out;unfold zBJ
         rw [if_neg H0.out,if_neg (by rw [HNL.out];simp),if_pos (zCe HX.out (by unfold zAR;rw [zCe HY.out hb];simp))])
        go_wp2_with fail;refine(zA9 380 _).mono ?_;rintro e x3 ⟨rfl,hy⟩;have HX3:=dH (HXB.out.trans (HXC.out.trans hy));go_wp2_with fail;exact⟨rfl,HV.out,HX3.out⟩
      ·have t3:decide (-1≤y)=false:=decide_eq_false hb1
       have HV:Hid (zBN 380=E):=dH (by
        have hb:zFB y=true:=by unfold zFB;rw [decide_eq_true (show y< -1 by omega)];simp
        refine zH6 ?_ (by decide) HE.out;unfold zBJ
        rw [if_neg H0.out,if_neg (by rw [HNL.out];simp),if_pos (zCe HX.out (by unfold zAR;rw [zCe HY.out hb];simp))])
       go_wp2_with fail;refine(zA9 380 _).mono ?_;rintro e x3 ⟨rfl,hy⟩;have HX3:=dH (HXB.out.trans (HXC.out.trans hy));go_wp2_with fail;exact⟨rfl,HV.out,HX3.out⟩
     ·have HXE:Hid (zAR (m.headD []).length x=false):=dH (by
       have:=HNJ.out;rw [List.take_of_length_le (by omega)] at this;unfold zAR
       rw [this,HRL.out,HL.out];simp)
      have j2:¬ (j:Int)< (x.length:Int):=by omega
      have HX4:=dH (HXB.out.trans HXC.out);clear hxr;go_wp2_with fail;go_roundw
      case rel=>exact⟨i+1,by omega,by go_num,zBl HX.out HNO.out HXE.out,HX4.out⟩
      case measure=>simp [intOf];omega
   ·have t2:((x.length:Int) == (r0.length:Int))=false:=beq_false_of_ne (by omega)
    have HV:Hid (zBN 380=E):=dH (by
     refine zH6 ?_ (by decide) HE.out;unfold zBJ
     rw [if_neg H0.out,if_neg (by rw [HNL.out];simp),if_pos (zCe HX.out (by unfold zAR;rw [HRL.out,decide_eq_true hl];simp))])
    go_wp2_with fail;refine(zA9 380 _).mono ?_;rintro e x1 ⟨rfl,hy⟩;have HX2:=dH (HXB.out.trans hy);go_wp2_with fail;exact⟨rfl,HV.out,HX2.out⟩
  ·have HV:Hid (.returned (.tuple #[])=E):=dH (by
    have HNW:m.any (zAR (m.headD []).length)=false:=by have:=HNO.out;rwa [List.take_of_length_le (by omega)] at this
    refine zNX ?_ HE.out;unfold zBJ
    rw [if_neg H0.out,if_neg (by rw [HNL.out];simp),if_neg (by rw [HNW];simp)])
   have g3:¬ (i:Int)< (m.length:Int):=by omega
   clear HNO;go_wp2_with fail
   go_end0
   exact⟨HV.out,HXB.out⟩
end Go.Proofs.YtonkhcdmchidjaaGreat
