import Derived.Test.YtonkhcdmchidjaaGreatU1
namespace Go.Proofs.YtonkhcdmchidjaaGreat
set_option maxRecDepth 100000
set_option linter.all false
theorem zEL {f:Nat→Rat}:∀{n:Nat},(∀i,i<n→0≤f i)→0≤sq f n
 | 0,_=>by rw [zBB];exact Rat.le_refl
 | n+1,h=>by
  have h1:=zEL (n:=n) fun i hi=>h i (by omega);have h2:=h n (by omega);rw [zAv];grind
theorem zCc {f:Nat→Rat}:∀{n:Nat},(∀i,i<n→0≤f i)→sq f n=0→∀i,i<n→f i=0
 | 0,_,_,i,hi=>by omega
 | n+1,h,h0,i,hi=>by
  have h1:=zEL (n:=n) fun i hi=>h i (by omega);have h2:=h n (by omega);rw [zAv] at h0;have e1:sq f n=0:=by grind
  have e2:f n=0:=by grind
  by_cases e:i=n
  ·rw [e];exact e2
  ·exact zCc (fun i hi=>h i (by omega)) e1 i (by omega)
theorem zJ5 (x:Rat):0≤x*x:=by
 rcases Rat.le_total (a:=0) (b:=x) with h | h
 ·exact Rat.mul_nonneg h h
 ·have h2:0≤-x:=by grind
  have:=Rat.mul_nonneg h2 h2;grind
theorem zLr {x:Rat} (h:x*x=0):x=0:=by
 rcases Rat.mul_eq_zero.1 h with h | h <;> exact h
structure Mks where
 E:Nat
 J:Nat
 K:Nat→Nat→Rat
 v:Nat→Nat→Rat
namespace Mks
variable (g:Mks)
def n (i:Nat):Rat:=sq (g.K i) g.J
def S (i:Nat):Rat:=sq (g.v i) g.J
structure Ok:Prop where
 k01:∀i k,g.K i k=0∨g.K i k=1
 kv:∀i k,g.K i k*g.v i k=g.v i k
 n0:∀i,i<g.E→g.n i≠0
def Conn:Prop:=∀f h:Nat→Rat,(∀i,i<g.E→∀k,k<g.J→g.K i k≠0→f i=h k)→∀k,k<g.J→∀i,i<g.E→f i=h k
def mu (x:Nat→Rat) (i:Nat):Rat:=sq (fun j=>g.K i j*x j) g.J / g.n i
def A (k j:Nat):Rat:=sq (fun i=>g.K i k* ((if j=k then 1 else 0) - g.K i j / g.n i)) g.E
def b (k:Nat):Rat:=sq (fun i=>g.v i k - g.K i k* (g.S i / g.n i)) g.E
def q (x:Nat→Rat) (i:Nat):Rat:=(g.S i - sq (fun k=>g.K i k*x k) g.J) / g.n i
def r (q x:Nat→Rat) (i k:Nat):Rat:=g.v i k - q i - x k
def loss (q x:Nat→Rat):Rat:=sq (fun i=>sq (fun k=>g.K i k* (g.r q x i k*g.r q x i k)) g.J) g.E
structure Fits (q x:Nat→Rat):Prop where
 row:∀i,i<g.E→sq (fun k=>g.K i k*g.r q x i k) g.J=0
 col:∀k,k<g.J→sq (fun i=>g.K i k*g.r q x i k) g.E=0
 sum:sq x g.J=0
variable {g}
theorem zLs {J k:Nat} (hk:k<J) (x:Nat→Rat):sq (fun j=>(if j=k then(1:Rat) else 0)*x j) J=x k:=by
 rw [zCq hk fun i _ hne=>by rw [if_neg hne];grind,if_pos rfl];grind
theorem dotA {k:Nat} (hk:k<g.J) (x:Nat→Rat):zCR g.J (g.A k) x=sq (fun i=>g.K i k* (x k - g.mu x i)) g.E:=by
 unfold zCR A;rw [zA3 (g:=fun c=>sq (fun i=>g.K i k* ((if c=k then 1 else 0) - g.K i c / g.n i)*x c) g.E) fun c _=>by rw [←zBV],zD2];refine zA3 fun i _=>?_;rw [zA3 (g:=fun c=>g.K i k* ((if c=k then(1:Rat) else 0)*x c - (g.K i c*x c)* (g.n i)⁻¹)) fun c _=>by rw [Rat.div_def];grind,zCp,zE1,zLs hk,zBV];unfold mu;rw [Rat.div_def]
theorem zNR (h:g.Ok) {i:Nat} (hi:i<g.E) (x:Nat→Rat):g.n i*g.mu x i=sq (fun j=>g.K i j*x j) g.J:=by
 unfold mu;have h0:=Rat.mul_inv_cancel _ (h.n0 i hi);rw [Rat.div_def];generalize (g.n i)⁻¹=y at *;generalize sq (fun j=>g.K i j*x j) g.J=s at *;generalize g.n i=n at *;grind
theorem zLt (h:g.Ok) {i:Nat} (hi:i<g.E) (x:Nat→Rat):sq (fun k=>g.K i k* (x k - g.mu x i)) g.J=0:=by
 rw [zA3 (g:=fun k=>g.K i k*x k - g.K i k*g.mu x i) fun k _=>by grind,zE1,zBV,←zNR h hi x];unfold n;grind
theorem quad (h:g.Ok) (x:Nat→Rat):sq (fun k=>x k*zCR g.J (g.A k) x) g.J=sq (fun i=>sq (fun k=>g.K i k* ((x k - g.mu x i)* (x k - g.mu x i))) g.J) g.E:=by
 rw [zA3 (g:=fun k=>sq (fun i=>x k* (g.K i k* (x k - g.mu x i))) g.E) fun k hk=>by rw [dotA hk,zCp],zD2];refine zA3 fun i hi=>?_;have h0:=zLt h hi x;rw [zA3 (g:=fun k=>g.K i k* ((x k - g.mu x i)* (x k - g.mu x i))+g.mu x i* (g.K i k* (x k - g.mu x i))) fun k _=>by grind,zGQ,zCp,h0];grind
theorem zH2 (h:g.Ok) (hc:g.Conn) {x:Nat→Rat} (hx:∀k,k<g.J→zCR g.J (g.A k) x=0):∀k,k<g.J→∀i,i<g.E→g.mu x i=x k:=by
 have h0:sq (fun i=>sq (fun k=>g.K i k* ((x k - g.mu x i)* (x k - g.mu x i))) g.J) g.E=0:=by
  rw [←quad h x];exact zBq fun k hk=>by rw [hx k hk];grind
 have hp:∀i k,0≤g.K i k* ((x k - g.mu x i)* (x k - g.mu x i)):=fun i k=>by
  have:=zJ5 (x k - g.mu x i);rcases h.k01 i k with e | e <;> rw [e] <;> grind
 refine hc (g.mu x) x fun i hi k hk hne=>?_;have h1:=zCc (fun k _=>hp i k) (zCc (fun i _=>zEL fun k _=>hp i k) h0 i hi) k hk;rcases Rat.mul_eq_zero.1 h1 with e | e
 ·exact absurd e hne
 ·have:=zLr e;grind
theorem zH3 {x:Nat→Rat} {J:Nat} (h:∀k,k<J→x k=x 0):sq x J= (J:Rat)*x 0:=by
 rw [zA3 (g:=fun _=>1*x 0) fun k hk=>by rw [h k hk];grind,zBV]
 congr 1
 induction J with
 | zero=>rfl
 | succ n ih=>
  rw [zAv,ih fun k hk=>h k (by omega)];push_cast;rfl
theorem zMg {J:Nat} (h:0<J):(J:Rat)≠0:=fun e=>by
 have:J=0:=by exact_mod_cast e
 omega
theorem zLu (h:g.Ok) (hc:g.Conn) (hE:0<g.E) {x y:Nat→Rat} (hx:∀k,k<g.J→zCR g.J (g.A k) x=g.b k) (hy:∀k,k<g.J→zCR g.J (g.A k) y=g.b k) (sx:sq x g.J=0) (sy:sq y g.J=0):∀k,k<g.J→x k=y k:=fun k hk=>by
 have hz:∀k,k<g.J→zCR g.J (g.A k) (fun k=>x k - y k)=0:=fun k hk=>by
  have:zCR g.J (g.A k) (fun k=>x k - y k)=zCR g.J (g.A k) x - zCR g.J (g.A k) y:=by
   unfold zCR;rw [←zE1];exact zA3 fun c _=>by grind
  rw [this,hx k hk,hy k hk];grind
 have hm:=zH2 h hc hz;have hz0:∀k,k<g.J→(fun k=>x k - y k) k= (fun k=>x k - y k) 0:=fun k hk=>(hm k hk 0 hE).symm.trans (hm 0 (by omega) 0 hE);have hs:=zH3 hz0;rw [zE1,sx,sy] at hs;have h2:(x 0 - y 0)=0:=by
  rcases Rat.mul_eq_zero.1 (show(g.J:Rat)* (x 0 - y 0)=0 by rw [←hs];grind) with e | e
  ·exact absurd e (zMg (by omega))
  ·exact e
 have:=hz0 k hk;dsimp only at this;grind
theorem b_sum (h:g.Ok):sq g.b g.J=0:=by
 unfold b;rw [zD2];refine zBq fun i hi=>?_;rw [zE1,zBV,Rat.div_def];have h0:=Rat.mul_inv_cancel _ (h.n0 i hi);show g.S i - g.n i* (g.S i* (g.n i)⁻¹)=0;generalize (g.n i)⁻¹=y at *;generalize g.S i=s at *;generalize g.n i=n at *;grind
theorem A_sym (k j:Nat):g.A k j=g.A j k:=by
 unfold A;refine zA3 fun i _=>?_;by_cases e:j=k
 ·rw [e]
 ·rw [if_neg e,if_neg fun h=>e h.symm,Rat.div_def,Rat.div_def];grind
theorem zNS (h:g.Ok) {i:Nat} (hi:i<g.E):g.mu (fun _=>1) i=1:=by
 unfold mu;rw [zA3 (g:=g.K i) fun j _=>by grind];rw [show sq (g.K i) g.J=g.n i from rfl,Rat.div_def];exact Rat.mul_inv_cancel _ (h.n0 i hi)
theorem zNT (h:g.Ok) {k:Nat} (hk:k<g.J):sq (g.A k) g.J=0:=by
 have h1:=dotA hk (fun _=>1);rw [zBq fun i hi=>by rw [zNS h hi];grind] at h1;rw [←h1];unfold zCR;exact zA3 fun c _=>by grind
structure Sys (g:Mks) (M:Mx) (at':Nat→Nat) (top:Nat):Prop where
 lt:∀k,k<g.J→at' k<g.J+1
 row:∀k,k<g.J→∀j,j<g.J→M (at' k) j=g.A k j
 rhs:∀k,k<g.J→M (at' k) g.J=g.b k
 tlt:top<g.J+1
 one:∀j,j<g.J→M top j=1
 zero:M top g.J=0
 split:∀f,sq f (g.J+1)=f top+sq (fun k=>f (at' k)) g.J
theorem sys_ok (h:g.Ok) (hc:g.Conn) (hE:0<g.E) (hJ:0<g.J) {M:Mx} {at':Nat→Nat} {top:Nat} (s:Sys g M at' top):OkX (g.J+1) g.J (zAe (g.J+1) M g.J):=by
 refine Classical.byContradiction fun hno=>?_;obtain⟨y,h1,h2⟩:=zLi (zAQ (g.J+1) M g.J) hno;have e1:∀c,c<g.J→y top+sq (fun k=>y (at' k)*g.A k c) g.J=0:=fun c hc=>by
  have:=h1 c hc;rw [s.split,s.one c hc,zA3 (g:=fun k=>y (at' k)*g.A k c) fun k hk=>by rw [s.row k hk c hc]] at this;rw [←this];grind
 have e2:sq (fun k=>y (at' k)*g.b k) g.J=1:=by
  rw [s.split,s.zero,zA3 (g:=fun k=>y (at' k)*g.b k) fun k hk=>by rw [s.rhs k hk]] at h2;rw [←h2];grind
 have e3:y top=0:=by
  have h3:sq (fun c=>y top+sq (fun k=>y (at' k)*g.A k c) g.J) g.J=0:=zBq e1;rw [zGQ,zD2,zBq (f:=fun j=>sq (fun i=>y (at' j)*g.A j i) g.J) fun k hk=>by rw [zCp];exact(congrArg (y (at' k)* ·) (zNT h hk)).trans (by grind)] at h3;have h4:=zH3 (x:=fun _=>y top) (J:=g.J) fun _ _=>rfl;rw [h4] at h3;rcases Rat.mul_eq_zero.1 (show(g.J:Rat)*y top=0 by rw [←h3];grind) with e | e
  ·exact absurd e (zMg hJ)
  ·exact e
 have hz:∀k,k<g.J→zCR g.J (g.A k) (fun k=>y (at' k))=0:=fun c hc=>by
  have:=e1 c hc;rw [e3] at this;have h5:zCR g.J (g.A c) (fun k=>y (at' k))=sq (fun k=>y (at' k)*g.A k c) g.J:=by
   unfold zCR;exact zA3 fun k _=>by rw [A_sym c k];grind
  rw [h5];grind
 have hm:=zH2 h hc hz;have hz0:∀k,k<g.J→y (at' k)=y (at' 0):=fun k hk=>(hm k hk 0 hE).symm.trans (hm 0 hJ 0 hE);rw [zA3 (g:=fun k=>y (at' 0)*g.b k) fun k hk=>by rw [hz0 k hk],zCp,b_sum h] at e2;grind
theorem sys_sol (h:g.Ok) (hc:g.Conn) (hE:0<g.E) (hJ:0<g.J) {M:Mx} {at':Nat→Nat} {top:Nat} (s:Sys g M at' top):
 (∀k,k<g.J→zCR g.J (g.A k) (zJo g.J (zAe (g.J+1) M g.J))=g.b k)∧sq (zJo g.J (zAe (g.J+1) M g.J)) g.J=0:=by
 have h1:=zNL (zAQ (g.J+1) M g.J) (sys_ok h hc hE hJ s);generalize zJo g.J (zAe (g.J+1) M g.J)=x at *;refine⟨fun k hk=>?_,?_⟩
 ·have:=h1 _ (s.lt k hk);rw [s.rhs k hk] at this;rw [←this];unfold zCR;exact zA3 fun c hc=>by rw [s.row k hk c hc]
 ·have:=h1 _ s.tlt;rw [s.zero] at this;rw [←this];unfold zCR;exact zA3 fun c hc=>by rw [s.one c hc];grind
theorem zNU (h:g.Ok) {i:Nat} (hi:i<g.E) (x:Nat→Rat):g.n i*g.q x i=g.S i - sq (fun k=>g.K i k*x k) g.J:=by
 unfold q;have h0:=Rat.mul_inv_cancel _ (h.n0 i hi);rw [Rat.div_def];generalize (g.n i)⁻¹=y at *;generalize g.S i - sq (fun k=>g.K i k*x k) g.J=s at *;generalize g.n i=n at *;grind
theorem zK0 (h:g.Ok) (q x:Nat→Rat) (i:Nat):sq (fun k=>g.K i k*g.r q x i k) g.J=g.S i - g.n i*q i - sq (fun k=>g.K i k*x k) g.J:=by
 unfold r;rw [zA3 (g:=fun k=>g.v i k - g.K i k*q i - g.K i k*x k) fun k _=>by have:=h.kv i k;grind,zE1,zE1,zBV];rfl
theorem zK1 (h:g.Ok) {x:Nat→Rat} {k:Nat} (hk:k<g.J):sq (fun i=>g.K i k*g.r (g.q x) x i k) g.E=g.b k - zCR g.J (g.A k) x:=by
 rw [dotA hk];unfold b;rw [←zE1];refine zA3 fun i hi=>?_;unfold r q mu;have:=h.kv i k;rw [Rat.div_def,Rat.div_def,Rat.div_def];generalize (g.n i)⁻¹=y at *;generalize sq (fun j=>g.K i j*x j) g.J=s at *;generalize g.S i=t at *;grind
theorem fits_of (h:g.Ok) {x:Nat→Rat} (hx:∀k,k<g.J→zCR g.J (g.A k) x=g.b k) (sx:sq x g.J=0):g.Fits (g.q x) x:=
 ⟨fun i hi=>by rw [zK0 h,zNU h hi];grind,fun k hk=>by rw [zK1 h hk,hx k hk];grind,sx⟩
theorem Fits.q_eq (h:g.Ok) {q x:Nat→Rat} (f:g.Fits q x) {i:Nat} (hi:i<g.E):q i=g.q x i:=by
 have h1:=f.row i hi;rw [zK0 h] at h1;have h2:=zNU h hi x;have h3:g.n i* (q i - g.q x i)=0:=by grind
 rcases Rat.mul_eq_zero.1 h3 with e | e
 ·exact absurd e (h.n0 i hi)
 ·grind
theorem Fits.eqs (h:g.Ok) {q x:Nat→Rat} (f:g.Fits q x) {k:Nat} (hk:k<g.J):zCR g.J (g.A k) x=g.b k:=by
 have h1:=f.col k hk;rw [zA3 (g:=fun i=>g.K i k*g.r (g.q x) x i k) fun i hi=>by unfold r;rw [f.q_eq h hi],zK1 h hk] at h1;grind
theorem fits_only (h:g.Ok) (hc:g.Conn) (hE:0<g.E) {q x q' x':Nat→Rat} (f:g.Fits q x) (f':g.Fits q' x'):(∀i,i<g.E→q' i=q i)∧∀k,k<g.J→x' k=x k:=by
 have hx:=zLu h hc hE (fun k hk=>f'.eqs h hk) (fun k hk=>f.eqs h hk) f'.sum f.sum;refine⟨fun i hi=>?_,hx⟩;rw [f'.q_eq h hi,f.q_eq h hi];unfold Mks.q;rw [zA3 (g:=fun k=>g.K i k*x k) fun k hk=>by rw [hx k hk]]
end Mks
end Go.Proofs.YtonkhcdmchidjaaGreat
