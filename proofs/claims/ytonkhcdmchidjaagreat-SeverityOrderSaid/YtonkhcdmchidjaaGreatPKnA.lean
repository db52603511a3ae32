import Derived.Test.YtonkhcdmchidjaaGreatPDiv
import Derived.Lib.ItoaNum
import Derived.Test.YtonkhcdmchidjaaGreatPLen
namespace Go.Proofs.YtonkhcdmchidjaaGreat
open Go.RowKit Go
theorem zB5 {a b c:Int} (hc:0<c) (h:a*c<b*c):a<b:=Int.lt_of_mul_lt_mul_right h (by omega)
structure Win (v1 v2 V P W head u2 q:Int):Prop where
 p0:0<P
 v1p:1≤v1
 v2p:0≤v2∧v2<1073741824
 vlo:(v1*1073741824+v2)*P≤V
 vhi:V< (v1*1073741824+v2+1)*P
 u2p:0≤u2∧u2<1073741824
 wlo:(head*1073741824+u2)*P≤W
 whi:W< (head*1073741824+u2+1)*P
 q0:0≤q
 qlo:q*V≤W
 qhi:W< (q+1)*V
theorem Win.first {v1 v2 V P W head u2 q:Int} (h:Win v1 v2 V P W head u2 q):q≤head / v1:=by
 refine Int.le_ediv_of_mul_le h.v1p ?_;have h1:q* ((v1*1073741824)*P)≤q*V:=Int.mul_le_mul_of_nonneg_left (Int.le_trans (Int.mul_le_mul_of_nonneg_right (by have:=h.v2p;omega) (Int.le_of_lt h.p0)) h.vlo) h.q0;have h2:(q*v1*1073741824)*P< (head*1073741824+u2+1)*P:=by
  have e:q* ((v1*1073741824)*P)= (q*v1*1073741824)*P:=by simp only [Int.mul_assoc]
  have:=h.qlo;have:=h.whi;omega
 have h3:=zB5 h.p0 h2;have:=h.u2p;generalize q*v1=x at *;omega
theorem Win.down {v1 v2 V P W head u2 q g:Int} (h:Win v1 v2 V P W head u2 q) (hg:0≤g) (ht:head*1073741824+u2<g* (v1*1073741824+v2)):q≤g - 1:=by
 have h1:(head*1073741824+u2+1)*P≤(g* (v1*1073741824+v2))*P:=Int.mul_le_mul_of_nonneg_right (by omega) (Int.le_of_lt h.p0);have h2:g* ((v1*1073741824+v2)*P)≤g*V:=Int.mul_le_mul_of_nonneg_left h.vlo hg;rw [←Int.mul_assoc] at h2;have h3:q*V<g*V:=by have:=h.qlo;have:=h.whi;omega
 have hV:0<V:=by
  have a1:(1:Int)*P≤(v1*1073741824+v2)*P:=Int.mul_le_mul_of_nonneg_right (by have:=h.v1p;have:=h.v2p;omega) (Int.le_of_lt h.p0);have:=h.vlo;have:=h.p0;omega
 have:=zB5 hV h3;omega
theorem Win.stay {v1 v2 V P W head u2 q g:Int} (h:Win v1 v2 V P W head u2 q) (hg:0≤g) (hgB:g<1073741824)
 (ht:g* (v1*1073741824+v2)≤head*1073741824+u2∨1073741823<head - g*v1):g≤q+1:=by
 have hV:1073741824*P≤V:=by
  have a1:(1073741824:Int)*P≤(v1*1073741824+v2)*P:=Int.mul_le_mul_of_nonneg_right (by have:=h.v1p;have:=h.v2p;omega) (Int.le_of_lt h.p0);have:=h.vlo;omega
 have hV0:0<V:=by have:=h.p0;omega
 have hlt:g*V< (q+2)*V:=by
  rcases ht with ht | ht
  ·have h1:(g* (v1*1073741824+v2))*P≤(head*1073741824+u2)*P:=Int.mul_le_mul_of_nonneg_right ht (Int.le_of_lt h.p0);have h2:g*V≤g* ((v1*1073741824+v2+1)*P):=Int.mul_le_mul_of_nonneg_left (Int.le_of_lt h.vhi) hg;have e:g* ((v1*1073741824+v2+1)*P)= (g* (v1*1073741824+v2))*P+g*P:=by
    rw [←Int.mul_assoc,Int.mul_add g,Int.mul_one,Int.add_mul]
   have h3:g*P≤1073741824*P:=Int.mul_le_mul_of_nonneg_right (by omega) (Int.le_of_lt h.p0);have h4:=h.wlo;have h5:=h.qhi;have e2:(q+2)*V= (q+1)*V+V:=by rw [show q+2= (q+1)+1 by omega,Int.add_mul (q+1),Int.one_mul]
   omega
  ·have h1:g*V≤g* ((v1*1073741824+v2+1)*P):=Int.mul_le_mul_of_nonneg_left (Int.le_of_lt h.vhi) hg;have h2:g* ((v1*1073741824+v2+1)*P)≤g* (((v1+1)*1073741824)*P):=Int.mul_le_mul_of_nonneg_left (Int.mul_le_mul_of_nonneg_right (by have:=h.v2p;omega) (Int.le_of_lt h.p0)) hg;have e:g* (((v1+1)*1073741824)*P)= ((g*v1+g)*1073741824)*P:=by
    rw [←Int.mul_assoc,←Int.mul_assoc,Int.mul_add,Int.mul_one]
   have h3:((g*v1+g)*1073741824)*P≤(head*1073741824+u2)*P:=Int.mul_le_mul_of_nonneg_right (by have:=h.u2p;omega) (Int.le_of_lt h.p0);have h4:=h.wlo;have h5:=h.qhi;have e2:(q+2)*V= (q+1)*V+V:=by rw [show q+2= (q+1)+1 by omega,Int.add_mul (q+1),Int.one_mul]
   omega
 have:=zB5 hV0 hlt;omega
theorem top2 (L:List Int) {j:Nat} (hl:L.length=j+2):zA1 L=zA1 (L.take j)+1073741824 ^ j* (L.getD j 0+1073741824*L.getD (j+1) 0):=by
 rw [zCC L (i:=j) (by omega),zAU (l:=L) (i:=j+1) (by omega),zA1,List.drop_eq_nil_of_le (show L.length≤j+1+1 by omega)];simp [zA1]
theorem top3 (L:List Int) {j:Nat} (hl:j+3≤L.length) (h0:zA1 (L.drop (j+3))=0):zA1 L=zA1 (L.take j)+1073741824 ^ j* (L.getD j 0+1073741824* (L.getD (j+1) 0+1073741824*L.getD (j+2) 0)):=by
 rw [zCC L (i:=j) (by omega),zAU (l:=L) (i:=j+1) (by omega),zA1,zAU (l:=L) (i:=j+1+1) (by omega),zA1];rw [show j+1+1+1=j+3 by omega,h0,show j+1+1=j+2 by omega];simp
theorem zM4 {L:List Int} (h:Digs L) {j:Nat} (hj:j≤L.length):0≤zA1 (L.take j)∧zA1 (L.take j)<1073741824 ^ j:=by
 have a:=zA2 (h.take j);have b:=zAy (h.take j);rw [List.length_take,Nat.min_eq_left hj] at b;exact⟨a,b⟩
theorem zNG {V L:List Int} {j:Nat} (hV:Digs V) (hVl:V.length=j+2) (hV1:1≤V.getD (j+1) 0) (hL:Digs L) (hl:j+3≤L.length) (h0:zA1 (L.drop (j+3))=0):
 Win (V.getD (j+1) 0) (V.getD j 0) (zA1 V) (1073741824 ^ j) (zA1 L) (L.getD (j+2) 0*1073741824+L.getD (j+1) 0) (L.getD j 0) (zA1 L / zA1 V):=by
 have hp:=zB4 j;obtain⟨a1,a2⟩:=zM4 hV (show j≤V.length by omega);obtain⟨b1,b2⟩:=zM4 hL (show j≤L.length by omega);have eV:=top2 V hVl;have eL:=top3 L hl h0;have c1:=hV.getD j;have c2:=hL.getD j;have c3:=hL.getD (j+1);have c4:=hL.getD (j+2);generalize zA1 (V.take j)=x at *;generalize zA1 (L.take j)=y at *;generalize V.getD (j+1) 0=v1 at *;generalize V.getD j 0=v2 at *;generalize L.getD (j+2) 0=u0 at *;generalize L.getD (j+1) 0=u1 at *;generalize L.getD j 0=u2 at *;generalize (1073741824:Int) ^ j=P at *;have eV2:zA1 V=x+ (v1*1073741824+v2)*P:=by rw [eV,Int.mul_comm P];congr 2;omega
 have eL2:zA1 L=y+ ((u0*1073741824+u1)*1073741824+u2)*P:=by rw [eL,Int.mul_comm P];congr 2;omega
 have hVp:0<zA1 V:=by
  have:(1:Int)*P≤(v1*1073741824+v2)*P:=Int.mul_le_mul_of_nonneg_right (by omega) (by omega);omega
 have hL0:0≤zA1 L:=zA2 hL;have hq:=Int.mul_ediv_add_emod (zA1 L) (zA1 V);have hm0:=Int.emod_nonneg (zA1 L) (show zA1 V≠0 by omega);have hm1:=Int.emod_lt_of_pos (zA1 L) hVp;have e3:(v1*1073741824+v2+1)*P= (v1*1073741824+v2)*P+P:=by rw [Int.add_mul _ 1,Int.one_mul]
 have e4:((u0*1073741824+u1)*1073741824+u2+1)*P= ((u0*1073741824+u1)*1073741824+u2)*P+P:=by rw [Int.add_mul _ 1,Int.one_mul]
 refine⟨hp,hV1,c1,by omega,by omega,c2,by omega,by omega,Int.ediv_nonneg hL0 (by omega),?_,?_⟩
 ·rw [Int.mul_comm];omega
 ·rw [Int.add_mul,Int.one_mul,Int.mul_comm];omega
theorem zGF:∀ (L:List Int) (k:Nat),k≤L.length→zDG (fun j=>L.getD j 0) k=zA1 (L.take k)
 | L,0,_=>by simp [zDG,sm,zA1]
 | L,k+1,h=>by rw [zB2,zGF L k (by omega),List.take_succ_eq_append_getElem (by omega),zBX,List.length_take,Nat.min_eq_left (by omega)];simp [List.getD,show k<L.length by omega]
def zL6 (L V:List Int) (g:Int) (j:Nat):Int:=L.getD j 0 - g*V.getD j 0
theorem zMJ {L V:List Int} {k:Nat} (g:Int) (hV:V.length=k) (hL:k<L.length):
 zA1 (zAp (zL6 L V g) k)+1073741824 ^ k* (L.getD k 0+zAm (zL6 L V g) k)=zA1 (L.take (k+1)) - g*zA1 V:=by
 have h1:=zDl (zL6 L V g) k;have h2:zDG (zL6 L V g) k=zA1 (L.take k) - g*zA1 V:=by
  have e:(zL6 L V g)=fun j=>L.getD j 0+ -(V.getD j 0*g):=funext fun j=>by unfold zL6;rw [Int.mul_comm g];omega
  rw [e,zEi,zFL (fun j=>V.getD j 0*g),zDI,zGF L k (by omega),zB3 V k (by omega),Int.mul_comm g];omega
 have h3:zA1 (L.take (k+1))=zA1 (L.take k)+1073741824 ^ k*L.getD k 0:=by
  rw [List.take_succ_eq_append_getElem hL,zBX,List.length_take,Nat.min_eq_left (by omega)];simp [List.getD,hL]
 rw [Int.mul_add];omega
def onS (L V:List Int) (j:Nat):Int:=L.getD j 0+V.getD j 0
theorem zNH {L V:List Int} {k:Nat} (hV:V.length=k) (hL:L.length=k) (t:Int):
 zA1 (zAp (onS L V) k)+1073741824 ^ k* (t+zAm (onS L V) k)=zA1 L+1073741824 ^ k*t+zA1 V:=by
 have h1:=zDl (onS L V) k;have h2:zDG (onS L V) k=zA1 L+zA1 V:=by
  unfold onS;rw [zEi,zB3 L k (by omega),zB3 V k (by omega)]
 rw [Int.mul_add];omega
theorem zL7 {x V t P:Int} (hx0:0≤x) (hxP:x<P) (hV:V≤P) (h0:0≤x+P*t) (h1:x+P*t<V):t=0:=by
 rcases Int.lt_trichotomy t 0 with h | h | h
 ·have:P*t≤P* (-1):=Int.mul_le_mul_of_nonneg_left (by omega) (by omega);omega
 ·exact h
 ·have:P*1≤P*t:=Int.mul_le_mul_of_nonneg_left (by omega) (by omega);omega
set_option maxRecDepth 100000
set_option linter.all false
def zFe (U:List Int) (i:Nat) (S:List Int):List Int:=U.take i ++ S ++ U.drop (i+S.length)
theorem zJA (U:List Int) (i:Nat):zFe U i []=U:=by simp [zFe]
theorem zFY {U S:List Int} {i:Nat} (h:i+S.length≤U.length):(zFe U i S).length=U.length:=by simp [zFe];omega
theorem zFZ {U S:List Int} {i:Nat} (h:i+S.length<U.length) (x:Int):(zFe U i S).set (i+S.length) x=zFe U i (S ++ [x]):=by
 have h1:(U.take i).length=i:=by rw [List.length_take];omega
 unfold zFe;rw [List.set_append_right _ _ (by rw [List.length_append,h1];exact Nat.le_refl _),List.length_append,h1,Nat.sub_self,zAU (l:=U) (i:=i+S.length) h,List.set_cons_zero,List.length_append,List.length_singleton,←Nat.add_assoc];simp [List.append_assoc]
theorem zG0 {U S:List Int} {i:Nat} (h:i≤U.length):(zFe U i S).drop i=S ++ U.drop (i+S.length):=by
 have h1:(U.take i).length=i:=by rw [List.length_take];omega
 unfold zFe;rw [List.append_assoc,List.drop_append_of_le_length (by omega),List.drop_eq_nil_of_le (by omega),List.nil_append]
theorem zIe {U S:List Int} {i:Nat} (h:i≤U.length):(zFe U i S).take i=U.take i:=by
 have h1:(U.take i).length=i:=by rw [List.length_take];omega
 unfold zFe;rw [List.append_assoc,List.take_append_of_le_length (by omega),List.take_of_length_le (by omega)]
structure LongAt (U0 V:List Int) (m i:Nat) (U Q:List Int):Prop where
 lu:U.length=U0.length
 du:Digs U
 lq:Q.length=m
 dq:Digs Q
 lt:zA1 (U.drop i)<zA1 V
 eq:zA1 (Q.drop i)*zA1 V+zA1 (U.drop i)=zA1 (U0.drop i)
 low:U.take i=U0.take i
theorem LongAt.start {U0 V:List Int} {m:Nat} (hU:Digs U0) (h:zA1 (U0.drop m)<zA1 V):LongAt U0 V m m U0 (List.replicate m 0):=
 ⟨rfl,hU,by simp,fun x hx=>by have:=List.eq_of_mem_replicate hx;omega,h,by rw [List.drop_eq_nil_of_le (by simp)];simp [zA1],rfl⟩
theorem LongAt.window {U0 V U Q:List Int} {m i:Nat} (h:LongAt U0 V m (i+1) U Q) (hi:i<U.length):
 zA1 (U.drop i)=U.getD i 0+1073741824*zA1 (U.drop (i+1))∧0≤zA1 (U.drop i)∧zA1 (U.drop i)<1073741824*zA1 V:=by
 have h1:zA1 (U.drop i)=U.getD i 0+1073741824*zA1 (U.drop (i+1)):=by rw [zAU hi,zA1]
 have h2:=h.du.getD i;have h3:=h.lt;have h4:=zA2 (h.du.drop (i+1));exact⟨h1,by omega,by omega⟩
theorem zGG {A B:List Int} {i:Nat} (h:A.take (i+1)=B.take (i+1)):A.getD i 0=B.getD i 0:=by
 have:=congrArg (fun l:List Int=>l.getD i 0) h
 simpa [List.getD,List.getElem?_take] using this
theorem LongAt.step {U0 V U Q U':List Int} {m i:Nat} (h:LongAt U0 V m (i+1) U Q) (hi:i<U.length) (him:i<m) (hV:0<zA1 V)
 (lu:U'.length=U.length) (du:Digs U') (low:U'.take i=U.take i) (hr:zA1 (U'.drop i)=zA1 (U.drop i) % zA1 V) (hq:zA1 (U.drop i) / zA1 V<1073741824):
 LongAt U0 V m i U' (Q.set i (zA1 (U.drop i) / zA1 V)):=by
 obtain⟨w1,w2,w3⟩:=h.window hi;have hq0:0≤zA1 (U.drop i) / zA1 V:=Int.ediv_nonneg w2 (by omega);have hset:(Q.set i (zA1 (U.drop i) / zA1 V)).drop i= (zA1 (U.drop i) / zA1 V) :: Q.drop (i+1):=by
  rw [zAU (by simp;rw [h.lq];exact him)];simp only [List.getD,List.getElem?_set];rw [List.drop_set_of_lt (by omega)];simp [show i<Q.length by rw [h.lq];exact him]
 have hg:U.getD i 0=U0.getD i 0:=zGG h.low;refine⟨lu.trans h.lu,du,by simp [h.lq],zFP h.dq i hq0 hq,by rw [hr];exact Int.emod_lt_of_pos _ hV,?_,?_⟩
 ·rw [hset,zA1,hr,zAU (l:=U0) (i:=i) (by rw [←h.lu];exact hi),zA1,←h.eq,←hg];have e:=Int.emod_add_mul_ediv (zA1 (U.drop i)) (zA1 V);generalize zA1 (U.drop i) / zA1 V=q at *;generalize zA1 (U.drop i) % zA1 V=r at *;have e1:(q+1073741824*zA1 (Q.drop (i+1)))*zA1 V=zA1 V*q+1073741824* (zA1 (Q.drop (i+1))*zA1 V):=by
   rw [Int.add_mul,Int.mul_comm q,Int.mul_assoc]
  rw [e1];omega
 ·rw [low];have:=congrArg (List.take i) h.low
  rwa [List.take_take,List.take_take,Nat.min_eq_left (by omega)] at this
theorem LongAt.done {U0 V U Q:List Int} {m:Nat} (h:LongAt U0 V m 0 U Q) (hV:0<zA1 V):zAB Q=digs (zA1 U0 / zA1 V).toNat∧zAB U=digs (zA1 U0 % zA1 V).toNat:=by
 have e:=h.eq;have l:=h.lt;have p:=zA2 h.du;rw [List.drop_zero,List.drop_zero,List.drop_zero] at e;rw [List.drop_zero] at l;obtain⟨a1,a2⟩:=(Int.ediv_emod_unique (a:=zA1 U0) (b:=zA1 V) (r:=zA1 U) (q:=zA1 Q) hV).2 ⟨by rw [←e,Int.mul_comm];omega,p,l⟩;rw [a1,a2];exact⟨zCX h.dq,zCX h.du⟩
theorem zBj (l:List Int) (i j:Nat):(l.drop i).getD j 0=l.getD (i+j) 0:=by
 simp [List.getD,List.getElem?_drop]
theorem zE0 {U S:List Int} {i n:Nat} (h:i+S.length≤U.length) (hn:i+S.length≤n):(zFe U i S).drop n=U.drop n:=by
 have h1:(U.take i ++ S).length=i+S.length:=by rw [List.length_append,List.length_take];omega
 unfold zFe;rw [List.drop_append,h1,List.drop_eq_nil_of_le (by omega),List.nil_append,List.drop_drop]
 congr 1
 omega
theorem zM5 {U S:List Int} {i j:Nat} (h:i≤U.length) (hj:j<S.length):(zFe U i S).getD (i+j) 0=S.getD j 0:=by
 have:=zBj (zFe U i S) i j;rw [←this,zG0 h];simp only [List.getD,List.getElem?_append_left hj]
theorem zIf {U S:List Int} {i n:Nat} (h:i+S.length≤U.length) (hn:i+S.length≤n):(zFe U i S).getD n 0=U.getD n 0:=by
 have h1:=zBj (zFe U i S) n 0;have h2:=zBj U n 0;rw [zE0 h hn] at h1;rw [Nat.add_zero] at h1 h2;rw [←h1,h2]
structure Rnd (U0 V:List Int) (m i k:Nat) (U Q:List Int) (g:Int):Prop where
 at_:LongAt U0 V m (i+1) U Q
 hV:Digs V
 hk:V.length=k
 hV0:0<zA1 V
 him:i<m
 hik:i+k<U.length
 g0:0≤g
 gB:g<1073741824
 lo:zA1 (U.drop i) / zA1 V≤g
 hi:g≤zA1 (U.drop i) / zA1 V+1
def off (U V:List Int) (i:Nat) (g:Int):Nat→Int:=zL6 (U.drop i) V g
theorem Rnd.bd {U0 V U Q:List Int} {m i k:Nat} {g:Int} (h:Rnd U0 V m i k U Q g) (j:Nat):-1152921504606846976≤off U V i g j∧off U V i g j≤1152921504606846976:=by
 have h1:=(h.at_.du.drop i).getD j;have h2:=h.hV.getD j;have h3:=h.g0;have h4:=h.gB;have h5:0≤g*V.getD j 0:=Int.mul_nonneg h3 h2.1;have h6:g*V.getD j 0≤1073741823*1073741823:=Int.mul_le_mul (by omega) (by omega) h2.1 (by omega);unfold off zL6;omega
theorem zMK (U V:List Int) (i:Nat) (g:Int) (j:Nat):off U V i g j=U.getD (i+j) 0 - g*V.getD j 0:=by
 unfold off zL6;rw [zBj]
def zML (U V:List Int) (i:Nat) (g:Int) (j:Nat):List Int:=zFe U i (zAp (off U V i g) j)
theorem zJB (U V:List Int) (i:Nat) (g:Int):zML U V i g 0=U:=zJA U i
theorem zIg {U V:List Int} {i:Nat} {g:Int} {j n:Nat} (h:i+j≤U.length) (hn:i+j≤n):(zML U V i g j).getD n 0=U.getD n 0:=
 zIf (by rw [zA6];exact h) (by rw [zA6];exact hn)
theorem zIh {U V:List Int} {i:Nat} {g:Int} {j:Nat} (h:i+j≤U.length):(zML U V i g j).length=U.length:=zFY (by rw [zA6];exact h)
theorem zL8 {U V:List Int} {i:Nat} {g:Int} {j:Nat} (h:i+j<U.length):(zML U V i g j).set (i+j) ((off U V i g j+zAm (off U V i g) j) % 1073741824)=zML U V i g (j+1):=by
 have:=zFZ (U:=U) (S:=zAp (off U V i g) j) (i:=i) (by rw [zA6];exact h) ((off U V i g j+zAm (off U V i g) j) % 1073741824);rw [zA6] at this;exact this
def zHw (U V:List Int) (i k:Nat) (g:Int):Int:=U.getD (i+k) 0+zAm (off U V i g) k
def zFs (U V:List Int) (i k:Nat) (g:Int):List Int:=zFe U i (zAp (off U V i g) k ++ [zHw U V i k g])
theorem zMM {U V:List Int} {i k:Nat} {g:Int} (h:i+k<U.length):(zML U V i g k).set (i+k) (zHw U V i k g)=zFs U V i k g:=by
 have:=zFZ (U:=U) (S:=zAp (off U V i g) k) (i:=i) (by rw [zA6];exact h) (zHw U V i k g);rw [zA6] at this;exact this
theorem zC9 (L:List Int) {i:Nat} (h:i≤L.length):zA1 L=zA1 (L.take i)+1073741824 ^ i*zA1 (L.drop i):=by
 have h2:=zBy (L.take i) (L.drop i);rw [List.take_append_drop,List.length_take,Nat.min_eq_left h] at h2;exact h2
theorem zJC {L:List Int} (hL:Digs L) {k:Nat} (hk:k≤L.length) {V:Int} (h:zA1 L<V) (hV:V≤1073741824 ^ k):zA1 (L.drop k)=0:=by
 have h1:=zC9 L hk;have h2:=zA2 (hL.take k);have h3:=zA2 (hL.drop k);have hp:=zB4 k;generalize (1073741824:Int) ^ k=P at *;rcases Int.lt_or_le 0 (zA1 (L.drop k)) with h4 | h4
 ·have:P*1≤P*zA1 (L.drop k):=Int.mul_le_mul_of_nonneg_left (by omega) (by omega);omega
 ·omega
theorem Rnd.hiz {U0 V U Q:List Int} {m i k:Nat} {g:Int} (h:Rnd U0 V m i k U Q g):zA1 (U.drop (i+k+1))=0:=by
 have h1:=zAy h.hV;rw [h.hk] at h1;have:=zJC (h.at_.du.drop (i+1)) (k:=k) (by rw [List.length_drop];have:=h.hik;omega) h.at_.lt (by omega);rw [List.drop_drop] at this;rw [show i+k+1=i+1+k by omega];exact this
theorem Rnd.win {U0 V U Q:List Int} {m i k:Nat} {g:Int} (h:Rnd U0 V m i k U Q g):zA1 ((U.drop i).take (k+1))=zA1 (U.drop i):=by
 have h1:=zC9 (U.drop i) (i:=k+1) (by rw [List.length_drop];have:=h.hik;omega);rw [List.drop_drop,show i+ (k+1)=i+k+1 by omega,h.hiz,Int.mul_zero,Int.add_zero] at h1;exact h1.symm
theorem Rnd.sub_val {U0 V U Q:List Int} {m i k:Nat} {g:Int} (h:Rnd U0 V m i k U Q g):
 zA1 (zAp (off U V i g) k)+1073741824 ^ k*zHw U V i k g=zA1 (U.drop i) - g*zA1 V:=by
 have h1:=zMJ (L:=U.drop i) g h.hk (by rw [List.length_drop];have:=h.hik;omega);rw [h.win,zBj] at h1;exact h1
theorem zJD {S:List Int} {T:List Int} (h0:zA1 T=0) (t:Int):zA1 (S ++ [t] ++ T)=zA1 S+1073741824 ^ S.length*t:=by
 rw [zBy,zBX,h0,Int.mul_zero,Int.add_zero]
theorem Rnd.fin {U0 V U Q:List Int} {m i k:Nat} {g:Int} (h:Rnd U0 V m i k U Q g) {U1 S:List Int} {t:Int} (hS:Digs S) (hl:S.length=k) (hlen:U1.length=U.length)
 (htk:U1.take i=U.take i) (hdr:U1.drop i=S ++ [t] ++ U.drop (i+k+1)) (hv:zA1 S+1073741824 ^ k*t=zA1 (U.drop i) - (zA1 (U.drop i) / zA1 V)*zA1 V):
 t=0∧LongAt U0 V m i U1 (Q.set i (zA1 (U.drop i) / zA1 V)):=by
 have hVl:=zAy h.hV;rw [h.hk] at hVl;have e:=Int.emod_add_mul_ediv (zA1 (U.drop i)) (zA1 V);rw [Int.mul_comm (zA1 V)] at e;have m0:=Int.emod_nonneg (zA1 (U.drop i)) (show zA1 V≠0 by have:=h.hV0;omega);have m1:=Int.emod_lt_of_pos (zA1 (U.drop i)) h.hV0;have s0:=zA2 hS;have s1:=zAy hS;rw [hl] at s1;have hr:zA1 S+1073741824 ^ k*t=zA1 (U.drop i) % zA1 V:=by omega
 have ht:t=0:=zL7 s0 s1 (Int.le_of_lt hVl) (by rw [hr];exact m0) (by rw [hr];exact m1);subst ht;refine⟨rfl,?_⟩;have hii:i<U.length:=by have:=h.hik;omega
 have hd:Digs U1:=by
  have h1:=List.take_append_drop i U1;rw [htk,hdr] at h1;rw [←h1];exact(h.at_.du.take i).append ((hS.append (fun x hx=>by obtain rfl:=List.mem_singleton.1 hx;omega)).append (h.at_.du.drop _))
 refine h.at_.step hii h.him h.hV0 hlen hd htk ?_ ?_
 ·rw [hdr,zJD h.hiz,hl];exact hr
 ·have w:=h.at_.window hii;exact Int.ediv_lt_of_lt_mul h.hV0 w.2.2
theorem Rnd.sub_drop {U0 V U Q:List Int} {m i k:Nat} {g:Int} (h:Rnd U0 V m i k U Q g):(zFs U V i k g).drop i=zAp (off U V i g) k ++ [zHw U V i k g] ++ U.drop (i+k+1)∧(zFs U V i k g).take i=U.take i∧(zFs U V i k g).length=U.length:=by
 have h1:=h.hik;unfold zFs;rw [zG0 (by omega),zIe (by omega),zFY (by rw [List.length_append,zA6,List.length_singleton];omega)];refine⟨?_,rfl,rfl⟩;rw [List.length_append,zA6,List.length_singleton,Nat.add_assoc]
theorem Rnd.good {U0 V U Q:List Int} {m i k:Nat} {g:Int} (h:Rnd U0 V m i k U Q g) (hg:g=zA1 (U.drop i) / zA1 V):
 zHw U V i k g=0∧LongAt U0 V m i (zFs U V i k g) (Q.set i g):=by
 obtain⟨a1,a2,a3⟩:=h.sub_drop;have hv:=h.sub_val;have:=h.fin (U1:=zFs U V i k g) (zAM _ k) (zA6 _ k) a3 a2 a1 (by rw [hv,←hg]);rw [←hg] at this;exact this
theorem Rnd.over {U0 V U Q:List Int} {m i k:Nat} {g:Int} (h:Rnd U0 V m i k U Q g) (hg:g=zA1 (U.drop i) / zA1 V+1):zHw U V i k g<0:=by
 have hv:=h.sub_val;have s0:=zA2 (zAM (off U V i g) k);have e:=Int.emod_add_mul_ediv (zA1 (U.drop i)) (zA1 V);have m1:=Int.emod_lt_of_pos (zA1 (U.drop i)) h.hV0;have hp:=zB4 k;rw [hg,Int.add_mul,Int.one_mul,←hg,Int.mul_comm (zA1 (U.drop i) / zA1 V)] at hv;rcases Int.lt_or_le (zHw U V i k g) 0 with h1 | h1
 ·exact h1
 ·have:0≤1073741824 ^ k*zHw U V i k g:=Int.mul_nonneg (by omega) h1;omega
def bck (U V:List Int) (i k:Nat) (g:Int):Nat→Int:=onS (zAp (off U V i g) k) V
def onU (U V:List Int) (i k:Nat) (g:Int) (j:Nat):List Int:=zFe (zFs U V i k g) i (zAp (bck U V i k g) j)
theorem zL9 (U V:List Int) (i k:Nat) (g:Int):onU U V i k g 0=zFs U V i k g:=zJA _ i
theorem zMN {U V:List Int} {i k:Nat} {g:Int} {j:Nat} (h:i≤U.length) (hj:j<k):bck U V i k g j= (zFs U V i k g).getD (i+j) 0+V.getD j 0:=by
 unfold bck onS zFs;rw [zM5 h (by rw [List.length_append,zA6];omega)];simp only [List.getD,List.getElem?_append_left (show j< (zAp (off U V i g) k).length by rw [zA6];exact hj)]
theorem zIi {U V:List Int} {i k:Nat} {g:Int} (h:i≤U.length):(zFs U V i k g).getD (i+k) 0=zHw U V i k g:=by
 unfold zFs;rw [zM5 h (by rw [List.length_append,zA6,List.length_singleton];omega)];have:=zA6 (off U V i g) k;simp only [List.getD,List.getElem?_append_right (Nat.le_of_eq this),this,Nat.sub_self];rfl
theorem Rnd.bbd {U0 V U Q:List Int} {m i k:Nat} {g:Int} (h:Rnd U0 V m i k U Q g) (j:Nat):-1152921504606846976≤bck U V i k g j∧bck U V i k g j≤1152921504606846976:=by
 have h1:=(zAM (off U V i g) k).getD j;have h2:=h.hV.getD j;unfold bck onS;omega
theorem Rnd.onU_get {U0 V U Q:List Int} {m i k:Nat} {g:Int} (h:Rnd U0 V m i k U Q g) {j n:Nat} (hj:j≤k) (hn:i+j≤n):(onU U V i k g j).getD n 0= (zFs U V i k g).getD n 0:=
 zIf (by rw [zA6,h.sub_drop.2.2];have:=h.hik;omega) (by rw [zA6];exact hn)
theorem Rnd.onU_len {U0 V U Q:List Int} {m i k:Nat} {g:Int} (h:Rnd U0 V m i k U Q g) {j:Nat} (hj:j≤k):(onU U V i k g j).length=U.length:=
 (zFY (by rw [zA6,h.sub_drop.2.2];have:=h.hik;omega)).trans h.sub_drop.2.2
theorem Rnd.onU_set {U0 V U Q:List Int} {m i k:Nat} {g:Int} (h:Rnd U0 V m i k U Q g) {j:Nat} (hj:j<k):(onU U V i k g j).set (i+j) ((bck U V i k g j+zAm (bck U V i k g) j) % 1073741824)=onU U V i k g (j+1):=by
 have:=zFZ (U:=zFs U V i k g) (S:=zAp (bck U V i k g) j) (i:=i) (by rw [zA6,h.sub_drop.2.2];have:=h.hik;omega) ((bck U V i k g j+zAm (bck U V i k g) j) % 1073741824);rw [zA6] at this;exact this
def zMO (U V:List Int) (i k:Nat) (g:Int):Int:=zHw U V i k g+zAm (bck U V i k g) k
theorem Rnd.back {U0 V U Q:List Int} {m i k:Nat} {g:Int} (h:Rnd U0 V m i k U Q g) (hg:g=zA1 (U.drop i) / zA1 V+1):
 LongAt U0 V m i ((onU U V i k g k).set (i+k) (zMO U V i k g)) (Q.set i (g - 1)):=by
 obtain⟨a1,a2,a3⟩:=h.sub_drop;have hik:=h.hik;have hset:=zFZ (U:=zFs U V i k g) (S:=zAp (bck U V i k g) k) (i:=i) (by rw [zA6,a3];exact hik) (zMO U V i k g);rw [zA6] at hset;have e:onU U V i k g k=zFe (zFs U V i k g) i (zAp (bck U V i k g) k):=rfl;rw [e,hset];have hgg:g - 1=zA1 (U.drop i) / zA1 V:=by omega
 rw [hgg];refine(h.fin (S:=zAp (bck U V i k g) k) (t:=zMO U V i k g) (zAM _ k) (zA6 _ k) ?_ ?_ ?_ ?_).2
 ·rw [zFY (by rw [List.length_append,zA6,List.length_singleton,a3];omega),a3]
 ·rw [zIe (by omega),a2]
 ·rw [zG0 (by omega),List.length_append,zA6,List.length_singleton];have h3:(zFs U V i k g).drop (i+ (k+1))=U.drop (i+ (k+1)):=by
   unfold zFs;exact zE0 (by rw [List.length_append,zA6,List.length_singleton];omega) (by rw [List.length_append,zA6,List.length_singleton];exact Nat.le_refl _)
  rw [h3,Nat.add_assoc]
 ·have h1:=zNH (L:=zAp (off U V i g) k) h.hk (zA6 _ k) (zHw U V i k g);have h2:=h.sub_val;unfold zMO bck;rw [h1,h2];have:g*zA1 V= (zA1 (U.drop i) / zA1 V)*zA1 V+zA1 V:=by rw [hg,Int.add_mul,Int.one_mul]
  omega
theorem zIj {l:List Int} (h:Norm l) {k:Nat} (hk:l.length=k+1):1≤l.getD k 0:=by
 have hne:l≠[]:=fun e=>by rw [e] at hk;simp at hk
 have h1:=(zEl.1 h).2 hne;have h2:=h.digs.getD k;have e:l.getD k 0=l.getLast hne:=by
  rw [List.getLast_eq_getElem];simp [List.getD,hk]
 rw [e] at h2 ⊢;omega
theorem zM6 {u:Nat} {j:Nat} (h:(1073741824:Int) ^ j≤u):j+1≤(digs u).length:=by
 have h1:=zAy (zA4 u).digs;rw [zAF] at h1;rcases Nat.lt_or_ge j (digs u).length with h2 | h2
 ·exact h2
 ·have:=zC6 h2;omega
structure MovN (d:Int) (n:Nat):Prop where
 n29:n≤29
 up:(d+1)*2 ^ n≤1073741824
theorem movN {d:Int} (h1:1≤d) (h2:d<1073741824):∃n:Nat,Lib.bitLen d.toNat+n=30∧MovN d n:=by
 obtain⟨x,rfl⟩:∃x:Nat,d=x:=⟨d.toNat,by omega⟩
 rw [Int.toNat_natCast];have h64:(2:Nat) ^ 64=18446744073709551616:=by decide
 have h30:(2:Nat) ^ 30=1073741824:=by decide
 have hb:=Lib.bitLenAux_bounds 64 x (by omega) (by omega);have hle:Lib.bitLen x≤30:=Lib.bitLen_le x 30 (by decide) (by omega);obtain⟨b1,b2,b3⟩:=hb
 change 1≤Lib.bitLen x at b1
 change x<2 ^ Lib.bitLen x at b3
 obtain⟨n,hn⟩:∃n,Lib.bitLen x+n=30:=⟨30 - Lib.bitLen x,by omega⟩
 refine⟨n,hn,by omega,?_⟩;have h3:(x+1)*2 ^ n≤2 ^ Lib.bitLen x*2 ^ n:=Nat.mul_le_mul_right _ (by omega);rw [←Nat.pow_add,hn] at h3;have h4:(2:Nat) ^ 30=1073741824:=by decide
 rw [h4] at h3;have h5:(((x+1)*2 ^ n:Nat):Int)≤1073741824:=by omega
 simpa [Int.natCast_mul,Int.natCast_pow] using h5
theorem zMP {m:List Int} (hm:Norm m) {k n:Nat} (hk:m.length=k+1) (hn:MovN (m.getD k 0) n):
 (digs (zA1 m*2 ^ n).toNat).length=k+1∧zA1 (digs (zA1 m*2 ^ n).toNat)=zA1 m*2 ^ n∧0<zA1 m*2 ^ n∧1073741824 ^ k*2 ^ n≤zA1 m*2 ^ n:=by
 obtain⟨p1,p2⟩:=zCk hn.n29;have hne:m≠[]:=fun e=>by rw [e] at hk;simp at hk
 have h1:=zD0 hm hne;rw [hk,Nat.add_sub_cancel] at h1;have hp:=zB4 k;have hpos:0<zA1 m:=by omega
 have h2:0<zA1 m*2 ^ n:=Int.mul_pos hpos (by omega);have h3:zA1 m<1073741824 ^ k* (m.getD k 0+1):=by
  have e:=zC9 m (i:=k) (by omega);rw [zAU (by omega),List.drop_eq_nil_of_le (by omega),zA1,zA1,Int.mul_zero,Int.add_zero] at e;have b:=zAy (hm.digs.take k);rw [List.length_take,Nat.min_eq_left (by omega)] at b;rw [Int.mul_add,Int.mul_one];omega
 have h4:zA1 m*2 ^ n<1073741824 ^ (k+1):=by
  have a1:zA1 m*2 ^ n<1073741824 ^ k* (m.getD k 0+1)*2 ^ n:=Int.mul_lt_mul_of_pos_right h3 (by omega);have a2:1073741824 ^ k* ((m.getD k 0+1)*2 ^ n)≤1073741824 ^ k*1073741824:=Int.mul_le_mul_of_nonneg_left hn.up (by omega);rw [Int.mul_assoc] at a1;rw [Int.pow_succ];omega
 have h5:1073741824 ^ k*2 ^ n≤zA1 m*2 ^ n:=Int.mul_le_mul_of_nonneg_right h1 (by omega);have h6:(1073741824:Int) ^ k*1≤1073741824 ^ k*2 ^ n:=Int.mul_le_mul_of_nonneg_left p1 (by omega);have e:((zA1 m*2 ^ n).toNat:Int)=zA1 m*2 ^ n:=by omega
 refine⟨?_,by rw [zAF,e],h2,h5⟩;have g1:=zM6 (u:=(zA1 m*2 ^ n).toNat) (j:=k) (by rw [e];omega);have g2:(digs (zA1 m*2 ^ n).toNat).length≤k+1:=by
  apply zC8;have:(((zA1 m*2 ^ n).toNat:Nat):Int)< ((1073741824 ^ (k+1):Nat):Int):=by rw [e,Int.natCast_pow];exact h4
  omega
 omega
def zKO (l:List Int) (n:Nat):List Int:=(digs (zA1 l*2 ^ n).toNat ++ [0,0]).take (l.length+1)
theorem zJE {l:List Int} (hl:Norm l) (hne:l≠[]) {n:Nat} (hn:n≤29):
 l.length≤(digs (zA1 l*2 ^ n).toNat).length∧(digs (zA1 l*2 ^ n).toNat).length≤l.length+1∧(zKO l n).length=l.length+1∧Digs (zKO l n)∧zA1 (zKO l n)=zA1 l*2 ^ n:=by
 obtain⟨p1,p2⟩:=zCk hn;have h1:=zD0 hl hne;have hll:=List.length_pos_iff.2 hne;have hpos:0<zA1 l:=zAL hl hne;have h2:0<zA1 l*2 ^ n:=Int.mul_pos hpos (by omega);have e:((zA1 l*2 ^ n).toNat:Int)=zA1 l*2 ^ n:=by omega
 have h3:zA1 l*1≤zA1 l*2 ^ n:=Int.mul_le_mul_of_nonneg_left p1 (by omega);have g1:=zM6 (u:=(zA1 l*2 ^ n).toNat) (j:=l.length - 1) (by rw [e];omega);have h4:zA1 l*2 ^ n<1073741824 ^ (l.length+1):=by
  have a:=zAy hl.digs;have hp:=zB4 l.length;have:zA1 l*2 ^ n≤1073741824 ^ l.length*536870912:=Int.mul_le_mul (by omega) p2 (by omega) (by omega);rw [Int.pow_succ];omega
 have g2:(digs (zA1 l*2 ^ n).toNat).length≤l.length+1:=by
  apply zC8;have:(((zA1 l*2 ^ n).toNat:Nat):Int)< ((1073741824 ^ (l.length+1):Nat):Int):=by rw [e,Int.natCast_pow];exact h4
  omega
 have hd:=(zA4 (zA1 l*2 ^ n).toNat).digs;have hz:Digs [0,0]:=fun x hx=>by simp at hx;omega
 refine⟨by omega,g2,by unfold zKO;rw [List.length_take,List.length_append];simp;omega,(hd.append hz).take _,?_⟩;have hv:=zAF (zA1 l*2 ^ n).toNat;rw [e] at hv;rw [←hv];unfold zKO;rw [hv];generalize digs (zA1 l*2 ^ n).toNat=D at *;rcases Nat.lt_or_ge l.length D.length with h5 | h5
 ·rw [List.take_append_of_le_length (by omega),List.take_of_length_le (by omega)];exact hv
 ·have:l.length+1=D.length+1:=by omega
  rw [this,List.take_length_add_append,zBy,hv];simp [zA1]
theorem zJF {l m:List Int} (hl:Norm l) (hm:Norm m) {k n:Nat} (hk:m.length=k+1) (hn:n≤29) (hkl:k+1≤l.length):
 zA1 ((zKO l n).drop (l.length - k))<zA1 m*2 ^ n:=by
 obtain⟨p1,p2⟩:=zCk hn;have hne:l≠[]:=fun e=>by rw [e] at hkl;simp at hkl
 have hme:m≠[]:=fun e=>by rw [e] at hk;simp at hk
 obtain⟨_,_,a3,a4,a5⟩:=zJE hl hne hn;have h1:=zC9 (zKO l n) (i:=l.length - k) (by omega);have h2:=zA2 (a4.take (l.length - k));have h3:=zD0 hm hme;rw [hk,Nat.add_sub_cancel] at h3;have h4:=zAy hl.digs;have hp:=zB4 (l.length - k);have hs:(1073741824:Int) ^ l.length=1073741824 ^ (l.length - k)*1073741824 ^ k:=by rw [←Int.pow_add];congr 1;omega
 have h5:zA1 l*2 ^ n<1073741824 ^ (l.length - k)* (zA1 m*2 ^ n):=by
  have b1:zA1 l*2 ^ n<1073741824 ^ l.length*2 ^ n:=Int.mul_lt_mul_of_pos_right h4 (by omega);have b2:1073741824 ^ k*2 ^ n≤zA1 m*2 ^ n:=Int.mul_le_mul_of_nonneg_right h3 (by omega);have b3:1073741824 ^ (l.length - k)* (1073741824 ^ k*2 ^ n)≤1073741824 ^ (l.length - k)* (zA1 m*2 ^ n):=Int.mul_le_mul_of_nonneg_left b2 (by omega);rw [hs,Int.mul_assoc] at b1;omega
 rw [a5] at h1;rw [h1] at h5;generalize zA1 (List.drop (l.length - k) (zKO l n))=X at *;generalize zA1 m*2 ^ n=Y at *;rw [Int.mul_comm _ X,Int.mul_comm _ Y] at h5;exact zB5 hp (by omega)
theorem zLa {x y:Int} {n:Nat} (hn:n≤29):(x*2 ^ n) / (y*2 ^ n)=x / y∧(x*2 ^ n) % (y*2 ^ n)= (x % y)*2 ^ n∧((x % y)*2 ^ n) / 2 ^ n=x % y:=by
 obtain⟨p1,p2⟩:=zCk hn;refine⟨Int.mul_ediv_mul_of_pos_left _ _ (by omega),?_,Int.mul_ediv_cancel _ (by omega)⟩;rw [Int.mul_comm x,Int.mul_comm y,Int.mul_emod_mul_of_pos _ _ (by omega),Int.mul_comm]
end Go.Proofs.YtonkhcdmchidjaaGreat
namespace Go.Proofs.YtonkhcdmchidjaaGreat
open Go.RowKit Go BigFrame
set_option maxRecDepth 100000
set_option linter.all false
abbrev XB (W:World) (g:Nat) (U:List Int) (R:List Value):Prop:=Blk W g (U.map (Value.int .i64) ++ R).toArray 3
theorem XB.at {W:World} {g:Nat} {U:List Int} {R:List Value} (h:XB W g U R) {i:Nat} (hi:i<U.length):W.cell? ⟨g,i,none⟩=some (.int .i64 (U.getD i 0)):=
 Blk.cell h (by
  rw [List.getElem?_toArray,List.getElem?_append_left (by simpa using hi)]
  simp [List.getD,hi])
theorem XB.put {W:World} {g:Nat} {U:List Int} {R:List Value} (h:XB W g U R) {i:Nat} (hi:i<U.length) (v:Int):XB (W.setCell ⟨g,i,none⟩ (.int .i64 v)) g (U.set i v) R:=by
 have:=Blk.set h i (.int .i64 v);unfold XB;rw [List.map_set,←List.set_append_left _ _ (by simpa using hi)]
 simpa using this
theorem XB.ints {w:World} {g cap:Nat} {U:List Int} {R:List Value} (h:XB w g U R) (hr:∀x∈U,-9223372036854775808≤x∧x≤9223372036854775807) (hc:U.length≤cap) (hm:cap≤9223372036854775807):Ints w (some ⟨g,0,none⟩) cap U:=by
 refine⟨hc,hm,fun h=>(by cases h),fun A hA i hi=>?_⟩;cases hA
 refine⟨rfl,.int .i64 U[i],?_,rfl,hr _ (List.getElem_mem hi)⟩;have:=h.at hi
 simpa [List.getD,hi] using this
theorem XB.of_owns {w:World} {base n:Nat} {v:Value} {L:List Int} (h:w.ownsRow base 3 1 v n (L.map (Value.int .i64))) (hv:v≠.slice none 0 0) (k:Nat):
 ∃g cap R,v=.slice (some ⟨g,0,none⟩) n cap∧base≤g∧g<w.heap.size∧n≤cap∧cap≤9223372036854775807∧XB w g (L.take k) R:=by
 obtain⟨_,h2⟩:=h;rcases h2 with⟨h',_⟩ | ⟨g,cap,cur,h',hb,hg,hn,hm,hs,ht⟩
 ·exact absurd h' hv
 ·refine⟨g,cap,(L.drop k).map (Value.int .i64) ++ cur.toList.drop (n*1),h',hb,(Array.getElem?_eq_some_iff.1 hg).1,hn,by unfold maxLen at hm;exact hm,?_⟩;have e:cur.toList= (L.take k).map (Value.int .i64) ++ ((L.drop k).map (Value.int .i64) ++ cur.toList.drop (n*1)):=by
   rw [←List.append_assoc,←List.map_append,List.take_append_drop,←ht,List.take_append_drop]
  unfold XB Blk;rw [hg,←e]
structure St (w1:World) (gu gq:Nat) (R:List Value) (U Q:List Int) (W:World):Prop where
 u:XB W gu U R
 q:IB W gq Q
 x:Ext w1 W
 ne:gu≠gq
 hu:w1.heap.size≤gu
 hq:w1.heap.size≤gq
section
variable {w1 W:World} {gu gq:Nat} {R:List Value} {U Q:List Int}
theorem St.drewN (h:St w1 gu gq R U Q W) (n:Nat):St w1 gu gq R U Q (W.drewN n):=⟨Blk.drewN h.u n,Blk.drewN h.q n,h.x.drewN n,h.ne,h.hu,h.hq⟩
theorem St.setU (h:St w1 gu gq R U Q W) {i:Nat} (hi:i<U.length) (v:Int):St w1 gu gq R (U.set i v) Q (W.setCell ⟨gu,i,none⟩ (.int .i64 v)):=
 ⟨h.u.put hi v,Blk.other h.q (p:=⟨gu,i,none⟩) (fun e=>h.ne e.symm) _,h.x.set (p:=⟨gu,i,none⟩) h.hu _,h.ne,h.hu,h.hq⟩
theorem St.setQ (h:St w1 gu gq R U Q W) (i:Nat) (v:Int):St w1 gu gq R U (Q.set i v) (W.setCell ⟨gq,i,none⟩ (.int .i64 v)):=
 ⟨Blk.other h.u (p:=⟨gq,i,none⟩) h.ne _,IB.put h.q i v,h.x.set (p:=⟨gq,i,none⟩) h.hq _,h.ne,h.hu,h.hq⟩
end
theorem Ints.at00 {w:World} {b cap:Nat} {xs:List Int} (h:Ints w (some ⟨b,0,none⟩) cap xs) {i:Nat} (hi:i<xs.length):w.cell? ⟨b,i,none⟩=some (.int .i64 (xs.getD i 0)):=by
 have:=(h.cell hi).1;rw [Nat.zero_add] at this;rw [this];simp [List.getD,hi]
theorem Win.down2 {v1 v2 V P W head u2 q g:Int} (h:Win v1 v2 V P W head u2 q) (hg:0≤g) (ht:(head - g*v1)*1073741824+u2<g*v2):q≤g - 1:=by
 refine h.down hg ?_;rw [Int.mul_add,←Int.mul_assoc];rw [Int.sub_mul] at ht;omega
theorem Win.stay2 {v1 v2 V P W head u2 q g:Int} (h:Win v1 v2 V P W head u2 q) (hg:0≤g) (hgB:g<1073741824)
 (ht:g*v2≤(head - g*v1)*1073741824+u2∨1073741823<head - g*v1):g≤q+1:=by
 refine h.stay hg hgB ?_;rcases ht with ht | ht
 ·left
  rw [Int.mul_add,←Int.mul_assoc];rw [Int.sub_mul] at ht;omega
 ·exact .inr ht
structure GsP (v1 head q g:Int):Prop where
 lo:q≤g
 g0:0≤g
 gB:g≤1073741823
 hd:g*v1≤head
theorem Win.gs0 {v1 v2 V P W head u2 q:Int} (h:Win v1 v2 V P W head u2 q) (hq:q≤1073741823) (hh:0≤head):GsP v1 head q (if 1073741823<head / v1 then 1073741823 else head / v1):=by
 have h1:=h.first
 have h2:=h.v1p;have h3:=Int.ediv_mul_le head (show v1≠0 by omega);have h4:0≤head / v1:=Int.ediv_nonneg hh (by omega)
 split
 ·rename_i hlt;refine⟨hq,by omega,by omega,?_⟩;have:1073741823*v1≤head / v1*v1:=Int.mul_le_mul_of_nonneg_right (by omega) (by omega);omega
 ·exact⟨h1,h4,by omega,h3⟩
theorem GsP.down {v1 v2 V P W head u2 q g:Int} (h:Win v1 v2 V P W head u2 q) (k:GsP v1 head q g) (ht:(head - g*v1)*1073741824+u2<g*v2):GsP v1 head q (g - 1)∧1≤g:=by
 have h1:=h.down2 k.g0 ht;have h2:=h.q0;have h3:=h.v1p;have h4:=k.hd;refine⟨⟨h1,by omega,by have:=k.gB;omega,?_⟩,by omega⟩;rw [Int.sub_mul];omega
theorem LongAt.win {U0 V U Q:List Int} {m i j:Nat} (h:LongAt U0 V m (i+1) U Q) (hV:Digs V) (hk:V.length=j+2) (hv1:1≤V.getD (j+1) 0) (hl:i+ (j+2)<U.length):
 Win (V.getD (j+1) 0) (V.getD j 0) (zA1 V) (1073741824 ^ j) (zA1 (U.drop i)) (U.getD (i+ (j+2)) 0*1073741824+U.getD (i+ (j+1)) 0) (U.getD (i+j) 0) (zA1 (U.drop i) / zA1 V):=by
 have hV2:=zAy hV;rw [hk] at hV2;have hz:=zJC (h.du.drop (i+1)) (k:=j+2) (by rw [List.length_drop];omega) h.lt (by omega);rw [List.drop_drop] at hz;have:=zNG hV hk hv1 (h.du.drop i) (by rw [List.length_drop];omega) (by rw [List.drop_drop,show i+ (j+3)=i+1+ (j+2) by omega];exact hz);rw [zBj,zBj,zBj] at this;exact this
theorem Win.rm0 {v1 v2 V P W head u2 q:Int} (h:Win v1 v2 V P W head u2 q) (hW:W<1073741824*V) (hv:v1<1073741824):head - (if 1073741823<head / v1 then 1073741823 else head / v1)*v1≤2147483647:=by
 have h1:=h.v1p;have h2:=h.v2p;have h4:=h.u2p
 split
 ·have h3:(head*1073741824+u2)*P< (1073741824* (v1*1073741824+v2+1))*P:=by
   rw [Int.mul_assoc 1073741824];have:=h.wlo;have:=h.vhi;omega
  have:=zB5 h.p0 h3;omega
 ·have:=Int.emod_add_mul_ediv head v1;have:=Int.emod_lt_of_pos head (show 0<v1 by omega);rw [Int.mul_comm];omega
structure GsR (v1 head q g:Int):Prop extends GsP v1 head q g where
 rm:head - g*v1≤2147483647
theorem Win.gsr0 {v1 v2 V P W head u2 q:Int} (h:Win v1 v2 V P W head u2 q) (hW:W<1073741824*V) (hv:v1<1073741824) (hq:q≤1073741823) (hh:0≤head):GsR v1 head q (if 1073741823<head / v1 then 1073741823 else head / v1):=
 ⟨h.gs0 hq hh,h.rm0 hW hv⟩
theorem Win.gsr1 {v1 v2 V P W head u2 q:Int} (h:Win v1 v2 V P W head u2 q) (hW:W<1073741824*V) (hv:v1<1073741824) (hq:q≤1073741823) (hh:0≤head):GsR v1 head q (min (head / v1) 1073741823):=by
 have e:min (head / v1) 1073741823=if 1073741823<head / v1 then 1073741823 else head / v1:=by split <;> omega
 rw [e];exact h.gsr0 hW hv hq hh
theorem GsR.down {v1 v2 V P W head u2 q g:Int} (h:Win v1 v2 V P W head u2 q) (k:GsR v1 head q g) (hv:v1<1073741824) (ht:(head - g*v1)*1073741824+u2<g*v2) (hr:head - g*v1≤1073741823):GsR v1 head q (g - 1)∧1≤g:=by
 obtain⟨a,b⟩:=k.toGsP.down h ht;refine⟨⟨a,?_⟩,b⟩;rw [Int.sub_mul];omega
end Go.Proofs.YtonkhcdmchidjaaGreat
