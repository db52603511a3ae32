import GoSem.ClaimData
namespace Go.Proofs.YtonkhcdmchidjaaGreat
set_option maxRecDepth 100000
set_option linter.all false
def sq (f:Nat→Rat):Nat→Rat
 | 0=>0
 | n+1=>sq f n+f n
theorem zBB (f:Nat→Rat):sq f 0=0:=rfl
theorem zAv (f:Nat→Rat) (n:Nat):sq f (n+1)=sq f n+f n:=rfl
theorem zA3 {f g:Nat→Rat}:∀{n:Nat},(∀i,i<n→f i=g i)→sq f n=sq g n
 | 0,_=>rfl
 | n+1,h=>by rw [zAv,zAv,zA3 fun i hi=>h i (by omega),h n (by omega)]
theorem zHM:∀n,sq (fun _=>0) n=0
 | 0=>rfl
 | n+1=>by rw [zAv,zHM n];grind
theorem zBq {f:Nat→Rat} {n:Nat} (h:∀i,i<n→f i=0):sq f n=0:=by rw [zA3 h,zHM]
theorem zGQ (f g:Nat→Rat):∀n,sq (fun i=>f i+g i) n=sq f n+sq g n
 | 0=>by simp only [zBB];grind
 | n+1=>by simp only [zAv];rw [zGQ f g n];grind
theorem zCp (a:Rat) (f:Nat→Rat):∀n,sq (fun i=>a*f i) n=a*sq f n
 | 0=>by simp only [zBB];grind
 | n+1=>by simp only [zAv];rw [zCp a f n];grind
theorem zBV (a:Rat) (f:Nat→Rat) (n:Nat):sq (fun i=>f i*a) n=sq f n*a:=by
 rw [←Rat.mul_comm a,←zCp];exact zA3 fun i _=>Rat.mul_comm _ _
theorem zE1 (f g:Nat→Rat) (n:Nat):sq (fun i=>f i - g i) n=sq f n - sq g n:=by
 induction n with
 | zero=>simp only [zBB];grind
 | succ n ih=>simp only [zAv];rw [ih];grind
theorem zD2 (f:Nat→Nat→Rat) (n:Nat):∀m,sq (fun i=>sq (fun j=>f i j) n) m=sq (fun j=>sq (fun i=>f i j) m) n
 | 0=>by simp only [zBB];exact(zHM n).symm
 | m+1=>by
  simp only [zAv];rw [zD2 f n m,←zGQ]
theorem zCq {f:Nat→Rat} {k:Nat}:∀{n:Nat},k<n→(∀i,i<n→i≠k→f i=0)→sq f n=f k
 | n+1,hk,h=>by
  rw [zAv];by_cases e:k=n
  ·subst e;rw [zBq fun i hi=>h i (by omega) (by omega)];grind
  ·rw [zCq (by omega) fun i hi hne=>h i (by omega) hne,h n (by omega) (by omega)];grind
abbrev Mx:=Nat→Nat→Rat
def zBK (M:Mx) (d i:Nat):Mx:=fun r=>if r=d then M i else if r=i then M d else M r
def zBr (M:Mx) (d i k:Nat):Mx:=fun r c=>
 if r=d then M i c / M i k else zBK M d i r c - M i c / M i k*zBK M d i r k
def zDN (M:Mx) (k:Nat) (d:Nat):Nat→Option Nat
 | 0=>none
 | j+1=>if M d k≠0 then some d else zDN M k (d+1) j
theorem zCF {M:Mx} {k:Nat}:∀{j d i:Nat},zDN M k d j=some i→d≤i∧i<d+j∧M i k≠0∧∀r,d≤r→r<i→M r k=0
 | j+1,d,i,h=>by
  unfold zDN at h;by_cases e:M d k≠0
  ·rw [if_pos e] at h;cases h;exact⟨Nat.le_refl _,by omega,e,fun r h1 h2=>by omega⟩
  ·rw [if_neg e] at h;obtain⟨h1,h2,h3,h4⟩:=zCF h;refine⟨by omega,by omega,h3,fun r hr1 hr2=>?_⟩;by_cases e2:r=d
   ·subst e2;exact Classical.not_not.1 e
   ·exact h4 r (by omega) hr2
theorem zFx {M:Mx} {k:Nat}:∀{j d:Nat},zDN M k d j=none→∀r,d≤r→r<d+j→M r k=0
 | 0,d,_,r,h1,h2=>by omega
 | j+1,d,h,r,h1,h2=>by
  unfold zDN at h;by_cases e:M d k≠0
  ·rw [if_pos e] at h;cases h
  ·rw [if_neg e] at h;by_cases e2:r=d
   ·subst e2;exact Classical.not_not.1 e
   ·exact zFx h r (by omega) (by omega)
structure StX where
 M:Mx
 ps:List Nat
def zKP (m:Nat) (s:StX) (k:Nat):StX:=
 match zDN s.M k s.ps.length (m - s.ps.length) with
 | none=>s
 | some i=>⟨zBr s.M s.ps.length i k,s.ps ++ [k]⟩
def zAe (m:Nat) (A:Mx):Nat→StX
 | 0=>⟨A,[]⟩
 | n+1=>zKP m (zAe m A n) n
def Comb (m:Nat) (A M:Mx):Prop:=∃T:Nat→Nat→Rat,∀r,r<m→∀c,M r c=sq (fun s=>T r s*A s c) m
theorem Comb.refl (m:Nat) (A:Mx):Comb m A A:=
 ⟨fun r s=>if s=r then 1 else 0,fun r hr c=>by
  show A r c=sq (fun s=>(if s=r then 1 else 0)*A s c) m
  rw [zCq hr fun i _ hne=>by rw [if_neg hne,Rat.zero_mul],if_pos rfl,Rat.one_mul]⟩
theorem Comb.trans {m:Nat} {A B C:Mx} (h:Comb m A B) (k:Comb m B C):Comb m A C:=by
 obtain⟨T,hT⟩:=h;obtain⟨U,hU⟩:=k;refine⟨fun r s=>sq (fun i=>U r i*T i s) m,fun r hr c=>?_⟩;rw [hU r hr c];refine Eq.trans (b:=sq (fun i=>sq (fun s=>U r i*T i s*A s c) m) m) (zA3 fun i hi=>by rw [hT i hi c,←zCp];exact zA3 fun s _=>(Rat.mul_assoc _ _ _).symm) ?_;exact Eq.trans (b:=sq (fun s=>sq (fun i=>U r i*T i s*A s c) m) m) (zD2 _ _ _) (zA3 fun s _=>zBV _ _ _)
theorem Comb.two {m:Nat} {A M:Mx} (h:∀r,r<m→∃s t:Nat,s<m∧t<m∧∃x y:Rat,∀c,M r c=x*A s c+y*A t c):Comb m A M:=by
 refine⟨fun r s=>if hr:r<m then
  (if s= (h r hr).choose then(h r hr).choose_spec.choose_spec.2.2.choose else 0)+ (if s= (h r hr).choose_spec.choose then(h r hr).choose_spec.choose_spec.2.2.choose_spec.choose else 0) else 0,fun r hr c=>?_⟩
 simp only [dif_pos hr];have hs:=(h r hr).choose_spec.choose_spec.1;have ht:=(h r hr).choose_spec.choose_spec.2.1;have he:=(h r hr).choose_spec.choose_spec.2.2.choose_spec.choose_spec c;generalize (h r hr).choose_spec.choose_spec.2.2.choose_spec.choose=y at *;generalize (h r hr).choose_spec.choose_spec.2.2.choose=x at *;generalize (h r hr).choose_spec.choose=t at *;generalize (h r hr).choose=s at *;rw [he]
 rw [show sq (fun i=>((if i=s then x else 0)+ (if i=t then y else 0))*A i c) m=sq (fun i=>(if i=s then x else 0)*A i c) m+sq (fun i=>(if i=t then y else 0)*A i c) m from by
  rw [←zGQ];exact zA3 fun i _=>by grind]
 rw [zCq hs fun i _ hne=>by rw [if_neg hne,Rat.zero_mul],zCq ht fun i _ hne=>by rw [if_neg hne,Rat.zero_mul],if_pos rfl,if_pos rfl]
theorem zJL {m d i k:Nat} {M:Mx} (hd:d≤i) (hi:i<m) (hp:M i k≠0):Comb m M (zBr M d i k)∧Comb m (zBr M d i k) M:=by
 constructor
 ·refine Comb.two fun r hr=>?_;by_cases e:r=d
  ·exact⟨i,i,hi,hi,1 / M i k,0,fun c=>by unfold zBr;rw [if_pos e];grind⟩
  ·by_cases e2:r=i
   ·refine⟨d,i,by omega,hi,1,- (M d k / M i k),fun c=>?_⟩;unfold zBr zBK;simp only [if_neg e,if_pos e2];grind
   ·refine⟨r,i,by omega,hi,1,- (M r k / M i k),fun c=>?_⟩;unfold zBr zBK;simp only [if_neg e,if_neg e2];grind
 ·refine Comb.two fun r hr=>?_;by_cases e2:r=i
  ·refine⟨d,d,by omega,by omega,M i k,0,fun c=>?_⟩;unfold zBr;simp only [if_pos];subst e2;grind
  ·by_cases e:r=d
   ·refine⟨i,d,hi,by omega,1,M d k,fun c=>?_⟩;unfold zBr zBK;simp only [if_pos,if_neg (show ¬i=d by omega)];subst e;grind
   ·refine⟨r,d,by omega,by omega,1,M r k,fun c=>?_⟩;unfold zBr zBK;simp only [if_pos,if_neg e,if_neg e2];grind
structure zMb (m:Nat) (A:Mx) (n:Nat) (s:StX):Prop where
 le:s.ps.length≤m
 lt:∀p∈s.ps,p<n
 inc:s.ps.Pairwise (· < ·)
 to:Comb m A s.M
 fro:Comb m s.M A
 piv:∀j k,s.ps[j]? =some k→∀r,r<m→s.M r k=if r=j then 1 else 0
 low:∀r,s.ps.length≤r→r<m→∀c,c<n→s.M r c=0
 head:∀j k,s.ps[j]? =some k→∀c,c<k→s.M j c=0
theorem zAQ (m:Nat) (A:Mx):∀n,zMb m A n (zAe m A n)
 | 0=>⟨by simp [zAe],by simp [zAe],by simp [zAe],Comb.refl _ _,Comb.refl _ _,by simp [zAe],fun r _ _ c hc=>by omega,by simp [zAe]⟩
 | n+1=>by
  have ih:=zAQ m A n;show zMb m A (n+1) (zKP m (zAe m A n) n);generalize zAe m A n=s at *;unfold zKP
  cases hf:zDN s.M n s.ps.length (m - s.ps.length) with
  | none=>
   have h0:=zFx hf
   exact⟨ih.le,fun p hp=>by have:=ih.lt p hp;omega,ih.inc,ih.to,ih.fro,ih.piv,fun r h1 h2 c hc=>by
    by_cases e:c=n
    ·subst e;exact h0 r h1 (by have:=ih.le;omega)
    ·exact ih.low r h1 h2 c (by omega),ih.head⟩
  | some i=>
   obtain⟨h1,h2,h3,h4⟩:=zCF hf;have hi:i<m:=by omega
   obtain⟨c1,c2⟩:=zJL (M:=s.M) h1 hi h3;have hlow:∀c,c<n→s.M i c=0:=fun c hc=>ih.low i h1 hi c hc;have hne:∀j k,s.ps[j]? =some k→j<s.ps.length∧k<n:=fun j k hjk=>⟨(List.getElem?_eq_some_iff.1 hjk).1,ih.lt k (List.mem_of_getElem? hjk)⟩
   refine⟨by simp;omega,?_,?_,ih.to.trans c1,c2.trans ih.fro,?_,?_,?_⟩
   ·intro p hp;rcases List.mem_append.1 hp with hp | hp
    ·have:=ih.lt p hp;omega
    ·obtain rfl:=List.mem_singleton.1 hp;omega
   ·refine List.pairwise_append.2 ⟨ih.inc,List.pairwise_singleton _ _,fun a ha b hb=>?_⟩;obtain rfl:=List.mem_singleton.1 hb;exact ih.lt a ha
   ·intro j k hjk r hr;by_cases hj:j<s.ps.length
    ·rw [List.getElem?_append_left hj] at hjk;obtain⟨_,hk⟩:=hne j k hjk;have hz:s.M i k=0:=hlow k hk;show zBr s.M s.ps.length i n r k=_;unfold zBr;by_cases e:r=s.ps.length
     ·rw [if_pos e,hz,if_neg (by omega)];grind
     ·rw [if_neg e,hz];unfold zBK;rw [if_neg e];by_cases e2:r=i
      ·subst e2;rw [if_pos rfl,if_neg (by omega)];have:=ih.piv j k hjk s.ps.length (by omega);rw [if_neg (by omega)] at this;rw [this];grind
      ·rw [if_neg e2,ih.piv j k hjk r hr];grind
    ·have hjl:j=s.ps.length:=by
      have:=(List.getElem?_eq_some_iff.1 hjk).1;simp at this;omega
     subst hjl;simp at hjk;subst hjk;show zBr s.M s.ps.length i n r n=_;unfold zBr;by_cases e:r=s.ps.length
     ·rw [if_pos e,if_pos e];grind
     ·rw [if_neg e,if_neg e];grind
   ·intro r hr1 hr2 c hc;have hr1':s.ps.length<r:=by rw [List.length_append] at hr1;exact hr1
    show zBr s.M s.ps.length i n r c=0;unfold zBr;rw [if_neg (by omega)];have hsw:∀c,c<n→zBK s.M s.ps.length i r c=0:=by
     intro c hc;unfold zBK;rw [if_neg (by omega)];by_cases e2:r=i
     ·rw [if_pos e2];exact ih.low _ (Nat.le_refl _) (by omega) c hc
     ·rw [if_neg e2];exact ih.low r (by omega) hr2 c hc
    by_cases e:c=n
    ·subst e;grind
    ·rw [hsw c (by omega),hlow c (by omega)];grind
   ·intro j k hjk c hc;by_cases hj:j<s.ps.length
    ·rw [List.getElem?_append_left hj] at hjk;obtain⟨_,hk⟩:=hne j k hjk;show zBr s.M s.ps.length i n j c=0;unfold zBr zBK;rw [if_neg (by omega),if_neg (by omega),if_neg (by omega),ih.head j k hjk c hc,hlow c (by omega)];grind
    ·have hjl:j=s.ps.length:=by
      have:=(List.getElem?_eq_some_iff.1 hjk).1;simp at this;omega
     subst hjl;simp at hjk;subst hjk;show zBr s.M s.ps.length i n s.ps.length c=0;unfold zBr;rw [if_pos rfl,hlow c hc];grind
def zCR (n:Nat) (R x:Nat→Rat):Rat:=sq (fun c=>R c*x c) n
def KerX (m n:Nat) (A:Mx) (z:Nat→Rat):Prop:=∀r,r<m→zCR n (A r) z=0
theorem zLg {m n r:Nat} {A M:Mx} {T:Nat→Nat→Rat} {x:Nat→Rat} (h:∀c,M r c=sq (fun s=>T r s*A s c) m):zCR n (M r) x=sq (fun s=>T r s*zCR n (A s) x) m:=by
 unfold zCR;refine Eq.trans (b:=sq (fun c=>sq (fun s=>T r s* (A s c*x c)) m) n) (zA3 fun c _=>by rw [h c,←zBV];exact zA3 fun s _=>Rat.mul_assoc _ _ _) ?_;exact Eq.trans (b:=sq (fun s=>sq (fun c=>T r s* (A s c*x c)) n) m) (zD2 _ _ _) (zA3 fun s _=>zCp _ _ _)
def OkX (m n:Nat) (s:StX):Prop:=∀r,s.ps.length≤r→r<m→s.M r n=0
def zJo (n:Nat) (s:StX) (c:Nat):Rat:=if c∈s.ps then s.M (s.ps.idxOf c) n else 0
theorem zMc {s:StX} {m n:Nat} {A:Mx} (h:zMb m A n s) {r:Nat} (hr:r<s.ps.length):s.ps.idxOf s.ps[r]=r:=
 have nd:s.ps.Nodup:=h.inc.imp fun hab=>Nat.ne_of_lt hab
 nd.idxOf_getElem r hr
theorem zMU {m n:Nat} {A:Mx} {s:StX} (h:zMb m A n s) {x:Nat→Rat} (hx:∀c,c<n→¬c∈s.ps→x c=0) {r:Nat} (hr:r<s.ps.length):zCR n (s.M r) x=x s.ps[r]:=by
 have hrm:r<m:=Nat.lt_of_lt_of_le hr h.le;have hlt:=h.lt _ (List.getElem_mem hr);unfold zCR
 rw [zCq hlt fun c hc hne=>by
  by_cases e3:c∈s.ps
  ·obtain⟨j,hjl,hjc⟩:=List.getElem_of_mem e3;rw [h.piv j c (by rw [←hjc];exact List.getElem?_eq_getElem hjl) r hrm,if_neg (fun e=>hne (by subst e;exact hjc.symm))];grind
  ·rw [hx c hc e3];grind]
 rw [h.piv r _ (List.getElem?_eq_getElem hr) r hrm,if_pos rfl];grind
theorem zMV {m n:Nat} {A:Mx} {s:StX} (h:zMb m A n s) (x:Nat→Rat) {r:Nat} (hr:s.ps.length≤r) (hm:r<m):zCR n (s.M r) x=0:=
 zBq fun c hc=>by rw [h.low r hr hm c hc];grind
theorem zLh {n c:Nat} {s:StX} (h:¬c∈s.ps):zJo n s c=0:=if_neg h
theorem zNL {m n:Nat} {A:Mx} {s:StX} (h:zMb m A n s) (ho:OkX m n s):∀r,r<m→zCR n (A r) (zJo n s)=A r n:=by
 have key:∀r,r<m→zCR n (s.M r) (zJo n s)=s.M r n:=by
  intro r hr;by_cases hp:r<s.ps.length
  ·rw [zMU h (fun c _ hc=>zLh hc) hp];unfold zJo;rw [if_pos (List.getElem_mem hp),zMc h hp]
  ·rw [zMV h _ (by omega) hr,ho r (by omega) hr]
 obtain⟨T,hT⟩:=h.fro;intro r hr;rw [zLg (hT r hr),hT r hr n];exact zA3 fun i hi=>by rw [key i hi]
theorem zLi {m n:Nat} {A:Mx} {s:StX} (h:zMb m A n s) (ho:¬OkX m n s):∃y:Nat→Rat,(∀c,c<n→sq (fun r=>y r*A r c) m=0)∧sq (fun r=>y r*A r n) m=1:=by
 obtain⟨r,h1,h2,h3⟩:∃r,s.ps.length≤r∧r<m∧s.M r n≠0:=by
  refine Classical.byContradiction fun hc=>ho fun r h1 h2=>Classical.byContradiction fun h3=>hc ⟨r,h1,h2,h3⟩
 obtain⟨T,hT⟩:=h.to;refine⟨fun i=>T r i / s.M r n,fun c hc=>?_,?_⟩
 ·have:=hT r h2 c;rw [h.low r h1 h2 c hc] at this;rw [show sq (fun i=>T r i / s.M r n*A i c) m=sq (fun i=>T r i*A i c) m* (1 / s.M r n) from by rw [←zBV];exact zA3 fun i _=>by grind];rw [←this];grind
 ·have:=hT r h2 n;rw [show sq (fun i=>T r i / s.M r n*A i n) m=sq (fun i=>T r i*A i n) m* (1 / s.M r n) from by rw [←zBV];exact zA3 fun i _=>by grind];rw [←this];grind
theorem zLj {l:List Nat} (h:l.Pairwise (· < ·)) {n:Nat} (hn:∀x∈l,x<n):l.length≤n:=by
 induction l generalizing n with
 | nil=>simp
 | cons x l ih=>
  have h1:=List.pairwise_cons.1 h;have hx:=hn x (by simp);have:=ih (n:=n - 1 - x)
  suffices hs:∀ (l:List Nat) (a:Nat),l.Pairwise (· < ·)→(∀y∈l,a<y∧y<n)→a<n→l.length≤n - 1 - a by
   have:=hs l x h1.2 (fun y hy=>⟨h1.1 y hy,hn y (by simp [hy])⟩) hx;simp;omega
  intro l
  induction l with
  | nil=>intro a _ _ _;simp
  | cons y l ih=>
   intro a hp ha han;have hp1:=List.pairwise_cons.1 hp;have:=ih y hp1.2 (fun z hz=>⟨hp1.1 z hz,(ha z (by simp [hz])).2⟩) (ha y (by simp)).2;have:=(ha y (by simp)).1;have:=(ha y (by simp)).2;simp;omega
theorem zHN (m n:Nat) (A:Mx):(zAe m A n).ps.length≤m∧(zAe m A n).ps.length≤n:=
 ⟨(zAQ m A n).le,zLj (zAQ m A n).inc (zAQ m A n).lt⟩
def CdX (m N e:Nat) (A:Mx):Prop:=∃D:Nat,0<D∧D<2 ^ e∧∀r,r<m→∀c,c<N→∃z:Int,z.natAbs<2 ^ e∧A r c= (z:Rat) / (D:Rat)
theorem CdX.mono {m N e e':Nat} {A:Mx} (h:CdX m N e A) (he:e≤e'):CdX m N e' A:=by
 obtain⟨D,h0,h1,h2⟩:=h;have hp:2 ^ e≤2 ^ e':=Nat.pow_le_pow_right (by omega) he;exact⟨D,h0,by omega,fun r hr c hc=>by obtain⟨z,h3,h4⟩:=h2 r hr c hc;exact⟨z,by omega,h4⟩⟩
theorem zG6 {D:Nat} (h:0<D):(D:Rat)≠0:=by
 intro e;have:((D:Nat):Rat)= ((0:Nat):Rat):=e;have:=Rat.natCast_inj.1 this;omega
theorem zDr {x y:Int} {a b:Nat} (hx:x.natAbs<2 ^ a) (hy:y.natAbs<2 ^ b):(x*y).natAbs<2 ^ (a+b):=by
 rw [Int.natAbs_mul,Nat.pow_add];exact Nat.mul_lt_mul'' hx hy
theorem zNM {z w x y:Int} {e:Nat} (h1:z.natAbs<2 ^ e) (h2:w.natAbs<2 ^ e) (h3:x.natAbs<2 ^ e) (h4:y.natAbs<2 ^ e):(z*w - x*y).natAbs<2 ^ (2*e+1):=by
 have a:=zDr h1 h2;have b:=zDr h3 h4;rw [Nat.pow_succ,show 2*e=e+e by omega];generalize z*w=p at *;generalize x*y=q at *;generalize 2 ^ (e+e)=g at *;omega
theorem CdX.step {m N e d i k:Nat} {M:Mx} (h:CdX m N e M) (hd:d≤i) (hi:i<m) (hk:k<N) (hp:M i k≠0):CdX m N (2*e+1) (zBr M d i k):=by
 obtain⟨D,h0,h1,h2⟩:=h;obtain⟨p,hp1,hp2⟩:=h2 i hi k hk;have hDr:=zG6 h0;have hpz:p≠0:=fun e=>hp (by rw [hp2,e];grind);have hpr:(p:Rat)≠0:=fun e=>hpz (by exact_mod_cast e);have hpn:0<p.natAbs:=Int.natAbs_pos.2 hpz;have hDp:D*p.natAbs<2 ^ (2*e+1):=by
  have:=zDr (x:=(D:Int)) (y:=p) (a:=e) (b:=e) (by simpa using h1) hp1;rw [Int.natAbs_mul,Int.natAbs_natCast] at this;exact Nat.lt_of_lt_of_le this (Nat.pow_le_pow_right (by omega) (by omega))
 have hsw:∀r,r<m→∀c,c<N→∃z:Int,z.natAbs<2 ^ e∧zBK M d i r c= (z:Rat) / (D:Rat):=by
  intro r hr c hc;unfold zBK;by_cases e1:r=d
  ·rw [if_pos e1];exact h2 i hi c hc
  ·rw [if_neg e1];by_cases e2:r=i
   ·rw [if_pos e2];exact h2 d (by omega) c hc
   ·rw [if_neg e2];exact h2 r hr c hc
 have hsg:((p.natAbs:Nat):Rat)= (p:Rat)∨((p.natAbs:Nat):Rat)= - (p:Rat):=by
  rcases Int.natAbs_eq p with hq | hq
  ·left
   have:((p.natAbs:Int):Rat)= (p:Rat):=congrArg _ hq.symm
   rwa [Rat.intCast_natCast] at this
  ·right
   have:(((p.natAbs:Int)):Rat)= ((-p:Int):Rat):=congrArg _ (by omega);rw [Rat.intCast_natCast,Rat.intCast_neg] at this;exact this
 refine⟨D*p.natAbs,Nat.mul_pos h0 hpn,hDp,fun r hr c hc=>?_⟩;have hcast:((D*p.natAbs:Nat):Rat)= (D:Rat)* ((p.natAbs:Nat):Rat):=by push_cast;rfl
 rw [hcast];obtain⟨zi,zi1,zi2⟩:=h2 i hi c hc;unfold zBr;by_cases e1:r=d
 ·rw [if_pos e1,zi2,hp2];have ha:(zi*D).natAbs<2 ^ (2*e+1):=by
   have:=zDr (x:=zi) (y:=(D:Int)) (a:=e) (b:=e) zi1 (by simpa using h1);exact Nat.lt_of_lt_of_le this (Nat.pow_le_pow_right (by omega) (by omega))
  rcases hsg with hg | hg
  ·refine⟨zi*D,ha,?_⟩;rw [hg];push_cast;grind
  ·refine⟨-(zi*D),by rw [Int.natAbs_neg];exact ha,?_⟩;rw [hg];push_cast;grind
 ·rw [if_neg e1];obtain⟨zr,zr1,zr2⟩:=hsw r hr c hc;obtain⟨zk,zk1,zk2⟩:=hsw r hr k hk;rw [zi2,hp2,zr2,zk2];have hb:=zNM zr1 hp1 zi1 zk1;rcases hsg with hg | hg
  ·refine⟨zr*p - zi*zk,hb,?_⟩;rw [hg];push_cast;grind
  ·refine⟨-(zr*p - zi*zk),by rw [Int.natAbs_neg];exact hb,?_⟩;rw [hg];push_cast;grind
theorem CdX.elim {m N e:Nat} {A:Mx} (h:CdX m N e A):∀{n:Nat},n≤N→CdX m N (2 ^ (zAe m A n).ps.length* (e+1) - 1) (zAe m A n).M
 | 0,_=>by simpa [zAe] using h
 | n+1,hn=>by
  have ih:=h.elim (show n≤N by omega);have el:=(zAQ m A n).le;show CdX m N (2 ^ (zKP m (zAe m A n) n).ps.length* (e+1) - 1) (zKP m (zAe m A n) n).M;generalize zAe m A n=s at *;unfold zKP
  cases hf:zDN s.M n s.ps.length (m - s.ps.length) with
  | none=>exact ih
  | some i=>
   obtain⟨h1,h2,h3,h4⟩:=zCF hf;have:=ih.step h1 (show i<m by omega) (show n<N by omega) h3;refine this.mono ?_;have hpos:0<2 ^ s.ps.length* (e+1):=Nat.mul_pos (Nat.pow_pos (by omega)) (by omega);show _≤2 ^ (s.ps ++ [n]).length* (e+1) - 1;rw [List.length_append,List.length_singleton,Nat.pow_succ,Nat.mul_right_comm];omega
end Go.Proofs.YtonkhcdmchidjaaGreat
