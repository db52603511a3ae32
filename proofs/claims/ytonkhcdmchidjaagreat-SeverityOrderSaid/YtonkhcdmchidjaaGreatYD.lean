import Derived.Test.YtonkhcdmchidjaaGreatYB
namespace Go.Proofs.YtonkhcdmchidjaaGreat
set_option maxRecDepth 100000
set_option linter.all false
def zCu (xs:List (Nat × Nat)) (f:Nat × Nat→Int):Int:=(xs.map f).sum
theorem zIq (f:Nat × Nat→Int):zCu [] f=0:=rfl
theorem zGf (xs ys:List (Nat × Nat)) (f:Nat × Nat→Int):zCu (xs ++ ys) f=zCu xs f+zCu ys f:=by unfold zCu;rw [List.map_append,List.sum_append]
theorem zIr (p:Nat × Nat) (f:Nat × Nat→Int):zCu [p] f=f p:=by unfold zCu;simp
theorem zCv (xs:List (Nat × Nat)) (p:Nat × Nat) (f:Nat × Nat→Int):zCu (xs ++ [p]) f=zCu xs f+f p:=by rw [zGf,zIr]
def kS (m:List (List Int)) (i k:Nat):Rat:=if mkS m i k≠-1 then 1 else 0
theorem zDw (m:List (List Int)) (i:Nat) (f:Nat × Nat→Int):∀k,((zCu (zBb m i k) f:Int):Rat)=sq (fun j=>kS m i j* (f (i,j):Rat)) k
 | 0=>by rw [zBB];rfl
 | k+1=>by
  rw [zDQ,zGf,Rat.intCast_add,zDw m i f k,zAv]
  congr 1
  unfold kS;by_cases h:mkS m i k= -1
  ·rw [if_neg (by simpa using h),if_neg (by simpa using h),zIq];grind
  ·rw [if_pos h,if_pos h,zIr];grind
theorem zEm (m:List (List Int)) (J:Nat) (f:Nat × Nat→Int):∀E,(∀i,i<E→zE5 m i=J)→((zCu (knS m E 0) f:Int):Rat)=sq (fun i=>sq (fun j=>kS m i j* (f (i,j):Rat)) J) E
 | 0,_=>by rw [zBB];rfl
 | E+1,h=>by
  rw [zCI,show knS m E (zE5 m E)=knS m E 0 ++ zBb m E (zE5 m E) by unfold knS;simp [zBb],zGf,Rat.intCast_add,zEm m J f E fun i hi=>h i (by omega),zAv,zDw,h E (by omega)]
theorem zBd {f:Nat × Nat→Int} {lo hi:Int}:∀ (xs:List (Nat × Nat)),(∀p∈xs,lo≤f p∧f p≤hi)→(xs.length:Int)*lo≤zCu xs f∧zCu xs f≤(xs.length:Int)*hi
 | [],_=>by rw [zIq];simp
 | p :: xs,h=>by
  have h1:=zBd xs fun q hq=>h q (List.mem_cons_of_mem _ hq);have h2:=h p List.mem_cons_self;have e:zCu (p :: xs) f=f p+zCu xs f:=by unfold zCu;simp
  rw [e,List.length_cons];push_cast;have e1:((xs.length:Int)+1)*lo=xs.length*lo+lo:=by rw [Int.add_mul,Int.one_mul]
  have e2:((xs.length:Int)+1)*hi=xs.length*hi+hi:=by rw [Int.add_mul,Int.one_mul]
  rw [e1,e2];omega
theorem zCw (m:List (List Int)) (i k:Nat):(zBb m i k).length≤k:=by
 unfold zBb;rw [List.length_map];exact Nat.le_trans (List.length_filter_le _ _) (by simp)
theorem zER {m:List (List Int)} {J:Nat} (h:∀i,i<m.length→zE5 m i=J):∀{i k:Nat},i≤m.length→k≤J→(knS m i k).length≤i*J+k
 | 0,k,_,_=>by have:=zCw m 0 k;unfold knS;simp;omega
 | i+1,k,hi,hk=>by
  have h1:=zER h (i:=i) (k:=0) (by omega) (by omega);have e:knS m (i+1) k=knS m i 0 ++ zBb m i (zE5 m i) ++ zBb m (i+1) k:=by unfold knS;rw [List.range_succ,List.flatMap_append];simp [zBb]
  have h2:=zCw m i (zE5 m i);have h3:=zCw m (i+1) k;have h4:=h i (by omega);have h5:(i+1)*J=i*J+J:=by rw [Nat.add_mul,Nat.one_mul]
  rw [e,List.length_append,List.length_append];omega
structure Tab (m:List (List Int)) (J:Nat):Prop where
 len:∀i,i<m.length→zE5 m i=J
 j16:J≤16
 e64:m.length≤64
 mks:∀i k,-1≤mkS m i k∧mkS m i k≤1000
theorem zN4 {f:Nat→Rat} {n r:Nat} (h:r<n):sq (fun i=>if i=r then f i else 0) n=f r:=by
 rw [zCq h fun i _ hne=>if_neg hne,if_pos rfl]
theorem zHd {m:List (List Int)} {J:Nat} (h:Tab m J) {r:Nat} (hr:r<m.length) (f:Nat × Nat→Int):zCu (knS m m.length 0) (fun p=>if p.1=r then f p else 0)=zCu (zBb m r (zE5 m r)) f:=by
 rw [←Rat.intCast_inj,zEm m J _ m.length h.len,zDw,h.len r hr]
 rw [zA3 (g:=fun i=>if i=r then sq (fun j=>kS m i j* (f (i,j):Rat)) J else 0) fun i _=>by
  by_cases e:i=r
  ·subst e;rw [if_pos rfl];exact zA3 fun j _=>by rw [if_pos rfl]
  ·rw [if_neg e];exact zBq fun j _=>by rw [if_neg e];grind]
 exact zN4 hr
def zBe (m:List (List Int)) (i:Nat):Int:=zCu (zBb m i (zE5 m i)) fun _=>1
def zBL (m:List (List Int)) (i:Nat):Int:=zCu (zBb m i (zE5 m i)) fun p=>mkS m p.1 p.2
def zBp (m:List (List Int)) (i:Nat):Int:=720720 / zBe m i
theorem zHe (m:List (List Int)) (i:Nat):zBe m i= (zBb m i (zE5 m i)).length:=by
 unfold zBe zCu;generalize zBb m i (zE5 m i)=l
 induction l with
 | nil=>rfl
 | cons a l ih=>simp only [List.map_cons,List.sum_cons,ih,List.length_cons];omega
theorem zO3 {m:List (List Int)} {i k n:Nat} (hk:k<n) (h:mkS m i k≠-1):(i,k)∈zBb m i n:=by
 unfold zBb;exact List.mem_map.2 ⟨k,List.mem_filter.2 ⟨List.mem_range.2 hk,by simpa using h⟩,rfl⟩
theorem zES {m:List (List Int)} {i n:Nat} {p:Nat × Nat} (h:p∈zBb m i n):p.1=i∧p.2<n∧mkS m p.1 p.2≠-1:=by
 unfold zBb at h;obtain⟨j,hj,rfl⟩:=List.mem_map.1 h;obtain⟨h1,h2⟩:=List.mem_filter.1 hj;exact⟨rfl,List.mem_range.1 h1,by simpa using h2⟩
section
variable {m:List (List Int)} {J:Nat}
theorem zDR (h:Tab m J) {i:Nat} (hi:i<m.length):0≤zBe m i∧zBe m i≤16:=by
 have h1:=zCw m i (zE5 m i);have h2:=h.len i hi;have h3:=h.j16;rw [zHe];omega
theorem zGg (h:Tab m J) {i k:Nat} (hi:i<m.length) (hk:k<J) (hm:mkS m i k≠-1):1≤zBe m i:=by
 have h1:=zO3 (n:=zE5 m i) (by rw [h.len i hi];exact hk) hm;have:=List.length_pos_of_mem h1;rw [zHe];omega
theorem zET (h:Tab m J) {i:Nat} (hi:i<m.length):0≤zBL m i∧zBL m i≤16000:=by
 have h1:=zCw m i (zE5 m i);have h2:=h.len i hi;have h3:=h.j16;have h4:=zBd (lo:=0) (hi:=1000) (f:=fun p=>mkS m p.1 p.2) (zBb m i (zE5 m i)) fun p hp=>by
  have:=h.mks p.1 p.2;have:=(zES hp).2.2;omega
 unfold zBL;omega
theorem zKe {x:Int} (h:1≤x∧x≤16):(720720 / x)*x=720720:=by
 obtain⟨h1,h2⟩:=h;have:x=1∨x=2∨x=3∨x=4∨x=5∨x=6∨x=7∨x=8∨x=9∨x=10∨x=11∨x=12∨x=13∨x=14∨x=15∨x=16:=by omega
 rcases this with rfl | rfl | rfl | rfl | rfl | rfl | rfl | rfl | rfl | rfl | rfl | rfl | rfl | rfl | rfl | rfl <;> decide
def aF (m:List (List Int)) (k j:Nat):Nat × Nat→Int:=fun p=>if p.2=k then(if j=k then 720720 else 0) - (if mkS m p.1 j≠-1 then zBp m p.1 else 0) else 0
def bF (m:List (List Int)) (k:Nat):Nat × Nat→Int:=fun p=>if p.2=k then mkS m p.1 k*720720 - zBL m p.1*zBp m p.1 else 0
def zAi (m:List (List Int)):Mks:=⟨m.length,(m.headD []).length,kS m,fun i k=>kS m i k* (mkS m i k:Rat)⟩
theorem zLC (h:Tab m J) (hJ:(m.headD []).length=J) {i:Nat} (hi:i<m.length):((zBe m i:Int):Rat)= (zAi m).n i:=by
 unfold zBe;rw [zDw,h.len i hi,←hJ];refine zA3 fun k _=>?_;show kS m i k* ((1:Int):Rat)=kS m i k;rw [Rat.intCast_one];grind
theorem zO4 (h:Tab m J) (hJ:(m.headD []).length=J) {i:Nat} (hi:i<m.length):((zBL m i:Int):Rat)= (zAi m).S i:=by
 unfold zBL;rw [zDw,h.len i hi,←hJ];rfl
theorem zHf (h:Tab m J) {i:Nat} (hi:i<m.length) (h1:1≤zBe m i):((zBp m i:Int):Rat)* ((zBe m i:Int):Rat)=720720:=by
 rw [←Rat.intCast_mul];unfold zBp;rw [zKe ⟨h1,(zDR h hi).2⟩];rfl
theorem mks_A (h:Tab m J) (hJ:(m.headD []).length=J) {k:Nat} (hk:k<J) (j:Nat):((zCu (knS m m.length 0) (aF m k j):Int):Rat)=720720* (zAi m).A k j:=by
 rw [zEm m J _ m.length h.len];unfold Mks.A;rw [←zCp];refine zA3 fun i hi=>?_;rw [zCq hk fun l _ hne=>by unfold aF;rw [if_neg hne];grind];show kS m i k*_=720720* (kS m i k* ((if j=k then 1 else 0) - kS m i j / (zAi m).n i));unfold aF;rw [if_pos rfl,←zLC h hJ hi];dsimp only;by_cases e:mkS m i k= -1
 ·have:kS m i k=0:=by unfold kS;rw [if_neg (by simpa using e)]
  rw [this];grind
 ·have h1:=zGg h hi hk e;have h2:=zHf h hi h1;have hK:kS m i k=1:=by unfold kS;rw [if_pos e]
  have hJK:((if mkS m i j≠-1 then zBp m i else 0:Int):Rat)=kS m i j* ((zBp m i:Int):Rat):=by
   unfold kS
   split
   ·grind
   ·grind
  have hD:((if j=k then 720720 else 0:Int):Rat)=720720* (if j=k then 1 else 0):=by
   split
   ·show(720720:Rat)=_;grind
   ·show(0:Rat)=_;grind
  rw [Rat.intCast_sub,hJK,hD,hK,Rat.div_def];have hn0:((zBe m i:Int):Rat)≠0:=fun e0=>by rw [e0] at h2;grind
  have h3:=Rat.mul_inv_cancel _ hn0;generalize ((zBe m i:Int):Rat)=n at *;generalize ((zBp m i:Int):Rat)=s at *;generalize n⁻¹=y at *;have h4:s=720720*y:=by grind
  rw [h4];grind
theorem mks_b (h:Tab m J) (hJ:(m.headD []).length=J) {k:Nat} (hk:k<J):((zCu (knS m m.length 0) (bF m k):Int):Rat)=720720* (zAi m).b k:=by
 rw [zEm m J _ m.length h.len];unfold Mks.b;rw [←zCp];refine zA3 fun i hi=>?_;rw [zCq hk fun l _ hne=>by unfold bF;rw [if_neg hne];grind];show kS m i k*_=720720* (kS m i k* (mkS m i k:Rat) - kS m i k* ((zAi m).S i / (zAi m).n i));unfold bF;rw [if_pos rfl,←zLC h hJ hi,←zO4 h hJ hi];dsimp only;by_cases e:mkS m i k= -1
 ·have:kS m i k=0:=by unfold kS;rw [if_neg (by simpa using e)]
  rw [this];grind
 ·have h1:=zGg h hi hk e;have h2:=zHf h hi h1;have hK:kS m i k=1:=by unfold kS;rw [if_pos e]
  rw [Rat.intCast_sub,Rat.intCast_mul,Rat.intCast_mul,hK,Rat.div_def,show((720720:Int):Rat)=720720 from rfl];have hn0:((zBe m i:Int):Rat)≠0:=fun e0=>by rw [e0] at h2;grind
  have h3:=Rat.mul_inv_cancel _ hn0;generalize ((zBe m i:Int):Rat)=n at *;generalize ((zBp m i:Int):Rat)=s at *;generalize n⁻¹=y at *;have h4:s=720720*y:=by grind
  rw [h4];grind
end
theorem zBt {E i:Nat} {f:Nat→Int} {v:Int} {g:Nat→Int} (h:∀j,j<E→g j=if j=i then v else f j):((List.range E).map f).set i v= (List.range E).map g:=by
 refine List.ext_getElem? fun j=>?_;by_cases hj:j<E
 ·rw [List.getElem?_set,List.getElem?_map,List.getElem?_map,List.getElem?_range hj,Option.map_some,Option.map_some];have:=h j hj;by_cases e:i=j
  ·subst e;rw [if_pos rfl] at this;rw [if_pos rfl,if_pos (by simpa using hj),this]
  ·rw [if_neg fun e2=>e e2.symm] at this;rw [if_neg e,this]
 ·rw [List.getElem?_eq_none (by simp;omega),List.getElem?_eq_none (by simp;omega)]
theorem zA7 {E i:Nat} {f:Nat→Int} (h:i<E):((List.range E).map f).getD i 0=f i:=by
 rw [List.getD_eq_getElem?_getD,List.getElem?_map,List.getElem?_range h];rfl
theorem zAW {E:Nat} {f:Nat→Int} (h:∀j,j<E→f j=0):(List.range E).map f=List.replicate E 0:=by
 refine List.ext_getElem? fun j=>?_;by_cases hj:j<E
 ·rw [List.getElem?_map,List.getElem?_range hj,List.getElem?_replicate,if_pos hj,Option.map_some,h j hj]
 ·rw [List.getElem?_eq_none (by simp;omega),List.getElem?_eq_none (by simp;omega)]
theorem zKf {l:List Int} {E:Nat} {f:Nat→Int} (hl:l.length=E) (h:∀j,j<E→l.getD j 0=f j):l= (List.range E).map f:=by
 refine List.ext_getElem? fun j=>?_;by_cases hj:j<E
 ·rw [List.getElem?_map,List.getElem?_range hj,Option.map_some,←h j hj,List.getD_eq_getElem?_getD,List.getElem?_eq_getElem (by omega)];rfl
 ·rw [List.getElem?_eq_none (by omega),List.getElem?_eq_none (by simp;omega)]
def zDx (xs:List (Nat × Nat)) (i:Nat):Int:=zCu xs fun p=>if p.1=i then 1 else 0
def zDy (m:List (List Int)) (xs:List (Nat × Nat)) (i:Nat):Int:=zCu xs fun p=>if p.1=i then mkS m p.1 p.2 else 0
def L6 (m:List (List Int)) (n E:Nat) (xs:List (Nat × Nat)):Nat→List Int:=fun u=>
 if u≤n+1 then zHc n E u else if u=n+2 then(List.range E).map (zDx xs) else(List.range E).map (zDy m xs)
theorem zO5 (m:List (List Int)) (n E:Nat):L6 m n E []=zHc n E:=by
 funext u
 unfold L6;by_cases h:u≤n+1
 ·rw [if_pos h]
 ·rw [if_neg h];have e:zHc n E u=List.replicate E 0:=by unfold zHc;rw [if_neg (by omega),if_neg (by omega)]
  rw [e]
  split
  ·exact zAW fun _ _=>rfl
  ·exact zAW fun _ _=>rfl
theorem L6_2 (m:List (List Int)) (n E:Nat) (xs:List (Nat × Nat)):L6 m n E xs (n+2)= (List.range E).map (zDx xs):=by unfold L6;rw [if_neg (by omega),if_pos rfl]
theorem L6_3 (m:List (List Int)) (n E:Nat) (xs:List (Nat × Nat)):L6 m n E xs (n+3)= (List.range E).map (zDy m xs):=by unfold L6;rw [if_neg (by omega),if_neg (by omega)]
theorem zJc (xs:List (Nat × Nat)) (i k j:Nat):zDx (xs ++ [(i,k)]) j=if j=i then zDx xs i+1 else zDx xs j:=by
 unfold zDx;rw [zCv];by_cases e:j=i
 ·subst e;simp
 ·rw [if_neg e,if_neg fun e2=>e e2.symm];omega
theorem zJd (m:List (List Int)) (xs:List (Nat × Nat)) (i k j:Nat):zDy m (xs ++ [(i,k)]) j=if j=i then zDy m xs i+mkS m i k else zDy m xs j:=by
 unfold zDy;rw [zCv];by_cases e:j=i
 ·subst e;simp
 ·rw [if_neg e,if_neg fun e2=>e e2.symm];omega
def L8 (m:List (List Int)) (n E:Nat) (xs:List (Nat × Nat)):Nat→List Int:=fun u=>
 if u<n then(List.range n).map (fun j=>zCu xs (aF m u j)) else if u=n then List.replicate n 0 else if u=n+1 then(List.range (n+1)).map (fun k=>zCu xs (bF m k)) else if u=n+2 then(List.range E).map (zBe m) else(List.range E).map (zBL m)
section
variable {m:List (List Int)} {n:Nat}
theorem L8_n (E:Nat) (xs:List (Nat × Nat)):L8 m n E xs n=List.replicate n 0:=by unfold L8;rw [if_neg (by omega),if_pos rfl]
theorem zO6 (E:Nat) (xs:List (Nat × Nat)):L8 m n E xs (n+1)= (List.range (n+1)).map (fun k=>zCu xs (bF m k)):=by unfold L8;rw [if_neg (by omega),if_neg (by omega),if_pos rfl]
theorem L8_2 (E:Nat) (xs:List (Nat × Nat)):L8 m n E xs (n+2)= (List.range E).map (zBe m):=by unfold L8;rw [if_neg (by omega),if_neg (by omega),if_neg (by omega),if_pos rfl]
theorem L8_3 (E:Nat) (xs:List (Nat × Nat)):L8 m n E xs (n+3)= (List.range E).map (zBL m):=by unfold L8;rw [if_neg (by omega),if_neg (by omega),if_neg (by omega),if_neg (by omega)]
theorem L8_k {k:Nat} (hk:k<n) (E:Nat) (xs:List (Nat × Nat)):L8 m n E xs k= (List.range n).map (fun j=>zCu xs (aF m k j)):=by unfold L8;rw [if_pos hk]
theorem zO7 (h:Tab m n):L6 m n m.length (knS m m.length 0)=L8 m n m.length []:=by
 funext u
 by_cases h1:u≤n+1
 ·unfold L6;rw [if_pos h1];unfold zHc L8;by_cases h2:u<n
  ·rw [if_pos (by omega),if_pos h2];exact(zAW fun _ _=>rfl).symm
  ·by_cases h3:u=n
   ·rw [if_pos (by omega),if_neg h2,if_pos h3]
   ·rw [if_neg (by omega),if_pos (by omega),if_neg h2,if_neg h3,if_pos (by omega)];exact(zAW fun _ _=>rfl).symm
 ·unfold L6 L8;rw [if_neg h1,if_neg (show ¬u<n by omega),if_neg (show ¬u=n by omega),if_neg (show ¬u=n+1 by omega)];by_cases h2:u=n+2
  ·rw [if_pos h2,if_pos h2];refine List.map_congr_left fun i hi=>?_;unfold zDx zBe;exact zHd h (List.mem_range.1 hi) (fun _=>1)
  ·rw [if_neg h2,if_neg h2];refine List.map_congr_left fun i hi=>?_;unfold zDy zBL;exact zHd h (List.mem_range.1 hi) (fun p=>mkS m p.1 p.2)
theorem SysR.congr {W:World} {P Ra ca n E:Nat} {G:Nat→Nat} {L L':Nat→List Int} (h:SysR W P Ra ca n E G L) (e:∀t,t<n+4→L t=L' t):SysR W P Ra ca n E G L':=
 ⟨h.p,h.ra,h.ca,fun t ht=>e t ht ▸ h.ib t ht,h.inj,fun t ht=>by rw [←e t ht];exact h.len t ht⟩
theorem zN5 {E:Nat} {xs:List (Nat × Nat)} {i k:Nat} {u:Nat} (hu:u<n+4):
 zGd (zGd (L6 m n E xs) (n+2) i (zDx xs i+1)) (n+3) i (zDy m xs i+mkS m i k) u=L6 m n E (xs ++ [(i,k)]) u:=by
 unfold zGd;by_cases h3:u=n+3
 ·rw [if_pos h3,if_neg (by omega),L6_3,h3,L6_3];exact zBt fun j _=>zJd m xs i k j
 ·rw [if_neg h3];by_cases h2:u=n+2
  ·rw [if_pos h2,L6_2,h2,L6_2];exact zBt fun j _=>zJc xs i k j
  ·rw [if_neg h2];unfold L6;rw [if_pos (by omega),if_pos (by omega)]
theorem zO8 (m:List (List Int)) (i k k' j:Nat):aF m k' j (i,k)=if k=k' then(if j=k' then 720720 else 0) - (if mkS m i j≠-1 then zBp m i else 0) else 0:=rfl
theorem bF_at (m:List (List Int)) (i k k':Nat):bF m k' (i,k)=if k=k' then mkS m i k'*720720 - zBL m i*zBp m i else 0:=rfl
theorem zN6 {E:Nat} {xs:List (Nat × Nat)} {i k:Nat} (hi:i<E) (hk:k<n) (hl:(m.getD i []).length=n) {u:Nat} (hu:u<n+4):
 zMj n i k (mkS m i k) (m.getD i []) (L8 m n E xs) u=L8 m n E (xs ++ [(i,k)]) u:=by
 unfold zMj
 try dsimp only
 rw [L8_2,L8_3,zA7 hi,zA7 hi,zO6,zA7 (by omega:k<n+1),L8_k hk,zA7 hk];by_cases h1:u=n+1
 ·rw [if_pos h1,h1,zO6];refine zBt fun j _=>?_;rw [zCv,bF_at];by_cases e:j=k
  ·subst e;rw [if_pos rfl,if_pos rfl];rfl
  ·rw [if_neg e,if_neg fun e2=>e e2.symm];omega
 ·rw [if_neg h1];by_cases h2:u=k
  ·rw [if_pos h2,h2,L8_k hk];refine zKf (by rw [zC2,List.length_set,List.length_map,List.length_range]) fun j hj=>?_;rw [zD7 _ _ _ (by rw [List.length_set,List.length_map,List.length_range];exact hj),zGe (by rw [List.length_map,List.length_range];exact hj),zCv,zO8,if_pos rfl,zA7 hj,hl];have e1:(m.getD i []).getD j (-1)=mkS m i j:=rfl;have e2:(720720:Int) / zBe m i=zBp m i:=rfl;rw [e1,e2];by_cases a1:k=j
   ·subst a1;rw [if_pos rfl,if_pos rfl];by_cases a2:mkS m i k= -1
    ·rw [if_neg (fun h=>h.2 a2),if_neg (fun h=>h a2)];omega
    ·rw [if_pos ⟨hj,a2⟩,if_pos a2];omega
   ·rw [if_neg a1,if_neg (show ¬j=k from fun e=>a1 e.symm)];by_cases a2:mkS m i j= -1
    ·rw [if_neg (show ¬ (j<n∧mkS m i j≠-1) from fun h=>h.2 a2),if_neg (show ¬mkS m i j≠-1 from fun h=>h a2)];omega
    ·rw [if_pos (show j<n∧mkS m i j≠-1 from⟨hj,a2⟩),if_pos a2];omega
  ·rw [if_neg h2];unfold L8;by_cases h3:u<n
   ·rw [if_pos h3,if_pos h3];refine List.map_congr_left fun j _=>?_;rw [zCv,zO8,if_neg fun e=>h2 e.symm];omega
   ·rw [if_neg h3,if_neg h3];by_cases h4:u=n
    ·rw [if_pos h4,if_pos h4]
    ·rw [if_neg h4,if_neg h4,if_neg h1,if_neg h1]
theorem zHg {i k:Nat} (h:Tab m n) (hi:i<m.length) (hk:k≤n) {p:Nat × Nat} (hp:p∈knS m i k):p.1<m.length∧p.2<n∧mkS m p.1 p.2≠-1:=by
 unfold knS at hp;rcases List.mem_append.1 hp with hp | hp
 ·obtain⟨r,hr,hp⟩:=List.mem_flatMap.1 hp;have hr:=List.mem_range.1 hr;obtain⟨h1,h2,h3⟩:=zES hp;rw [h.len r (by omega)] at h2;exact⟨by omega,h2,h3⟩
 ·obtain⟨h1,h2,h3⟩:=zES hp;exact⟨by omega,by omega,h3⟩
theorem zIs (h:Tab m n) {i:Nat} (hi:i<m.length):0≤zBp m i∧zBp m i≤720720:=by
 have:=zDR h hi;unfold zBp;exact⟨Int.ediv_nonneg (by omega) this.1,Int.ediv_le_self _ (by omega)⟩
theorem zJe (h:Tab m n) {i:Nat} (hi:i<m.length):0≤zBL m i*zBp m i∧zBL m i*zBp m i≤16000*720720:=by
 have h1:=zET h hi;have h2:=zIs h hi;exact⟨Int.mul_nonneg h1.1 h2.1,Int.mul_le_mul h1.2 h2.2 h2.1 (by omega)⟩
theorem zEU (h:Tab m n) {i k:Nat} (hi:i<m.length) (hk:k≤n):(knS m i k).length≤1024:=by
 have h1:=zER h.len (by omega:i≤m.length) hk;have h2:=h.j16;have h3:=h.e64;have:i*n≤63*16:=Nat.mul_le_mul (by omega) (by omega);omega
theorem zKg (h:Tab m n) {xs:List (Nat × Nat)} (hl:xs.length≤1024) (hx:∀p∈xs,p.1<m.length) (k:Nat):-1000000000000000≤zCu xs (bF m k)∧zCu xs (bF m k)≤1000000000000000:=by
 have h1:=zBd (lo:=-20000000000) (hi:=20000000000) (f:=bF m k) xs fun p hp=>by
  have h1:=zJe h (hx p hp);have h2:=h.mks p.1 k;unfold bF
  split
  ·omega
  ·omega
 omega
theorem zKh (h:Tab m n) {xs:List (Nat × Nat)} (hl:xs.length≤1024) (hx:∀p∈xs,p.1<m.length) (k j:Nat):-1000000000000000≤zCu xs (aF m k j)∧zCu xs (aF m k j)≤1000000000000000:=by
 have h1:=zBd (lo:=-20000000000) (hi:=20000000000) (f:=aF m k j) xs fun p hp=>by
  have h1:=zIs h (hx p hp);unfold aF
  split
  ·split <;> split <;> omega
  ·omega
 omega
theorem zO9 {i:Nat} (h:Tab m n) {xs:List (Nat × Nat)} (hx:∀p∈xs,p.2<n):zCu xs (bF m n)=0:=by
 have h1:=zBd (lo:=0) (hi:=0) (f:=bF m n) xs fun p hp=>by
  have:=hx p hp;unfold bF;rw [if_neg (by omega)];omega
 omega
theorem zKi (h:Tab m n) {i k:Nat} (hi:i<m.length) (hk:k<n) (j:Nat):0≤zDx (knS m i k) j∧zDx (knS m i k) j≤1024:=by
 have h1:=zBd (lo:=0) (hi:=1) (f:=fun p=>if p.1=j then 1 else 0) (knS m i k) fun p hp=>by split <;> omega
 have h2:=zEU h hi (by omega:k≤n);unfold zDx;omega
theorem zKj (h:Tab m n) {i k:Nat} (hi:i<m.length) (hk:k<n) (j:Nat):0≤zDy m (knS m i k) j∧zDy m (knS m i k) j≤1024000:=by
 have h1:=zBd (lo:=0) (hi:=1000) (f:=fun p=>if p.1=j then mkS m p.1 p.2 else 0) (knS m i k) fun p hp=>by
  have:=h.mks p.1 p.2;have:=(zHg h hi (by omega:k≤n) hp).2.2
  split <;> omega
 have h2:=zEU h hi (by omega:k≤n);unfold zDy;omega
end
def L9 (m:List (List Int)) (n E q:Nat):Nat→List Int:=fun u=>if u=n then(List.range n).map (fun j=>if j<q then 720720 else 0) else L8 m n E (knS m m.length 0) u
theorem L9_0 (m:List (List Int)) (n E:Nat):L9 m n E 0=L8 m n E (knS m m.length 0):=by
 funext u
 unfold L9
 split
 ·next h=>rw [h,L8_n];exact zAW fun j _=>if_neg (by omega)
 ·rfl
theorem zN7 (m:List (List Int)) (n E q:Nat):zGd (L9 m n E q) n q 720720=L9 m n E (q+1):=by
 funext u
 unfold zGd;by_cases h:u=n
 ·rw [if_pos h];unfold L9;rw [if_pos rfl,if_pos h];refine zBt fun j _=>?_;by_cases e:j=q
  ·rw [if_pos e,if_pos (by omega)]
  ·rw [if_neg e];by_cases e2:j<q
   ·rw [if_pos e2,if_pos (by omega)]
   ·rw [if_neg e2,if_neg (by omega)]
 ·rw [if_neg h];unfold L9;rw [if_neg h,if_neg h]
end Go.Proofs.YtonkhcdmchidjaaGreat
