import Derived.Test.YtonkhcdmchidjaaGreatYG
import Derived.RecoverIn
namespace Go.Proofs.YtonkhcdmchidjaaGreat
set_option maxRecDepth 100000
set_option linter.all false
theorem zHh:∀{A:List (List RatA)},(∀L∈A,zDh L=0)→zDO A=0
 | [],_=>rfl
 | L :: A,h=>by unfold zDO;rw [if_pos (h L (by simp))];exact zHh fun M hM=>h M (by simp [hM])
theorem zGh:∀{L:List RatA},(∀x∈L,zGw x=0)→zDh L=0
 | [],_=>rfl
 | x :: L,h=>by unfold zDh;rw [if_pos (h x (by simp))];exact zGh fun y hy=>h y (by simp [hy])
theorem zNd {A:List (List RatA)} {N:Nat} (h1:A.length≤17) (h2:N≤17) (h3:∀L∈A,L.length=N) (h4:∀L∈A,∀x∈L,zGw x=0):zE3 A=0:=by
 rw [zGS h1 (fun L hL=>by have:=h3 L hL;omega) (fun L hL=>by
  cases A with
  | nil=>cases hL
  | cons K A=>rw [h3 L hL];exact(h3 K (by simp)).symm)]
 exact zHh fun L hL=>zGh (h4 L hL)
theorem zIt {y:RatA} {r:Rat} (h:zJ6 y r) (h1:(r.num.natAbs:Int)<1152921504606846976) (h2:((r.den:Int).natAbs:Int)<1073741824):zGw y=0:=by
 obtain⟨_,e1,e2⟩:=zCt h.ok;unfold zGw smX;rw [if_pos h.ok,←e1,←e2,h.val,decide_eq_true h1,decide_eq_true h2];rfl
theorem zFF {z:Int} (h:-1000000000000000000≤z∧z≤1000000000000000000):((Rat.divInt z 720720).num.natAbs:Int)<1152921504606846976∧(((Rat.divInt z 720720).den:Int).natAbs:Int)<1073741824:=by
 obtain⟨a,b⟩:=zEy (z:=z) (y:=720720) (by omega);rw [a,b];have e1:(z / ((Int.gcd z 720720:Nat):Int)).natAbs≤z.natAbs:=by
  rw [Int.natAbs_ediv_of_dvd (Int.gcd_dvd_left z 720720),Int.natAbs_natCast];exact Nat.div_le_self _ _
 have e2:((720720:Int) / ((Int.gcd z 720720:Nat):Int)).natAbs≤(720720:Int).natAbs:=by
  rw [Int.natAbs_ediv_of_dvd (Int.gcd_dvd_right z 720720),Int.natAbs_natCast];exact Nat.div_le_self _ _
 omega
theorem zKn {z:Int} (h:-1000000000000000000≤z∧z≤1000000000000000000):Sz (Rat.divInt z 720720) 2:=zBk (by omega) (by decide) (by decide)
theorem zGi {z:Int} {r:Rat} (h:(z:Rat)=720720*r):Rat.divInt z 720720=r:=by
 rw [Rat.divInt_eq_div,h,show(((720720:Int)):Rat)=720720 from rfl];grind
section
variable {m:List (List Int)} {n:Nat}
theorem zKo (h:Tab m n) (hn:(m.headD []).length=n) (h0:0<n) (hC:(zAi m).Conn):(zAi m).Ok where
 k01 i k:=by show kS m i k=0∨kS m i k=1;unfold kS;split <;> simp
 kv i k:=by
  show kS m i k* (kS m i k* (mkS m i k:Rat))=kS m i k* (mkS m i k:Rat);unfold kS;split <;> grind
 n0 i hi e:=by
  have hz:∀k,k<n→kS m i k=0:=by
   have h1:sq (kS m i) n=0:=by rw [←hn];exact e
   exact zCc (fun k _=>by unfold kS;split <;> decide) h1
  have:=hC (fun r=>if r=i then 1 else 0) (fun _=>0) (fun r hr k hk hne=>by
   by_cases e2:r=i
   ·subst e2;exact absurd (hz k (by rw [←hn];exact hk)) hne
   ·exact if_neg e2) 0 (by rw [←hn] at h0;exact h0) i hi
  rw [if_pos rfl] at this;exact absurd this (by decide)
theorem zLD (h:Tab m n) (hn:(m.headD []).length=n) (hO:(zAi m).Ok) {i:Nat} (hi:i<m.length):1≤zBe m i:=by
 have h1:=zDR h hi;have h2:=hO.n0 i hi;rw [←zLC h hn hi] at h2;have:zBe m i≠0:=fun e=>h2 (by rw [e];rfl);omega
theorem zDA (h:Tab m n) (hE:0<m.length) (t:Nat) (ht:t<n+4) (j:Nat):-1000000000000000000≤(L9 m n m.length n t).getD j 0∧(L9 m n m.length n t).getD j 0≤1000000000000000000:=by
 have hall:∀p∈knS m m.length 0,p.1<m.length:=fun p hp=>by
  have:knS m m.length 0=knS m (m.length - 1) n:=by
   have e:m.length= (m.length - 1)+1:=by omega
   rw [e,zCI,h.len _ (by omega),←e]
  rw [this] at hp;exact(zHg h (by omega) (Nat.le_refl _) hp).1
 have hlen:(knS m m.length 0).length≤1024:=by
  have h1:=zER h.len (Nat.le_refl m.length) (Nat.zero_le n);have h2:=h.j16;have h3:=h.e64;have:m.length*n≤64*16:=Nat.mul_le_mul h3 h2;omega
 have key:∀{E:Nat} {f:Nat→Int},(∀i,i<E→-1000000000000000000≤f i∧f i≤1000000000000000000)→-1000000000000000000≤((List.range E).map f).getD j 0∧((List.range E).map f).getD j 0≤1000000000000000000:=fun {E f} hf=>by
  by_cases hj:j<E
  ·rw [zA7 hj];exact hf j hj
  ·rw [List.getD_eq_getElem?_getD,List.getElem?_eq_none (by simp;omega)];simp
 unfold L9;by_cases h1:t=n
 ·rw [if_pos h1];exact key fun i _=>by split <;> omega
 ·rw [if_neg h1];unfold L8;by_cases h2:t<n
  ·rw [if_pos h2];exact key fun i _=>by have:=zKh h hlen hall t i;omega
  ·rw [if_neg h2,if_neg h1];by_cases h3:t=n+1
   ·rw [if_pos h3];exact key fun i _=>by have:=zKg h hlen hall i;omega
   ·rw [if_neg h3];by_cases h4:t=n+2
    ·rw [if_pos h4];exact key fun i hi=>by have:=zDR h hi;omega
    ·rw [if_neg h4];exact key fun i hi=>by have:=zET h hi;omega
theorem zI0 (e:Nat):(0:Int).natAbs<2 ^ e:=by rw [Int.natAbs_zero];exact Nat.pow_pos (by omega)
theorem zKp (e D:Nat):∃z:Int,z.natAbs<2 ^ e∧(0:Rat)= (z:Rat) / (D:Rat):=⟨0,zI0 _,by rw [Rat.div_def];grind⟩
structure FitX (m:List (List Int)) (n:Nat) (f:Nat→Rat):Prop where
 eqs:∀k,k<n→zCR n ((zAi m).A k) f= (zAi m).b k
 sum:sq f n=0
 over:∃D:Nat,0<D∧D<2 ^ 12992∧∀c,c<n→∃z:Int,z.natAbs<2 ^ 12992∧f c= (z:Rat) / (D:Rat)
theorem zNe {T:List (List RatA)} {X:List RatA} (h:Tab m n) (hn:(m.headD []).length=n) (hC:(zAi m).Conn) (hE:0<m.length) (h0:0<n) (h4:n≤4) (hT:T.length=n+1) (hL:∀L∈T,L.length=n)
 (hx:∀r,r<n+1→∀c,c<n→zJ6 ((T.getD r []).getD c noA) (Rat.divInt ((L9 m n m.length n r).getD c 0) 720720)) (hX:X.length=n+1) (hb:∀r,r<n+1→zJ6 (X.getD r noA) (Rat.divInt ((L9 m n m.length n (n+1)).getD r 0) 720720)):
 zEJ T X T.length=0∧FewS T∧zGa T X=true∧zMd T X=n∧FitX m n (zNQ T X):=by
 have hO:=zKo h hn h0 hC
 have hw:zB8 T=n:=hL _ (by
  show T.getD 0 []∈T
  rw [List.getD_eq_getElem?_getD,List.getElem?_eq_getElem (by omega)];exact List.getElem_mem _)
 have hc:zE3 T=0:=zNd (N:=n) (by omega) (by omega) hL fun L hL2 x hx2=>by
  obtain⟨r,hr,rfl⟩:=List.getElem_of_mem hL2;obtain⟨c,hc,rfl⟩:=List.getElem_of_mem hx2;have hcn:c<n:=by rw [←hL _ hL2];exact hc
  have e1:T.getD r []=T[r]:=by rw [List.getD_eq_getElem?_getD,List.getElem?_eq_getElem hr];rfl
  have e2:T[r].getD c noA=T[r][c]:=by rw [List.getD_eq_getElem?_getD,List.getElem?_eq_getElem hc];rfl
  have:=hx r (by omega) c hcn;rw [e1,e2] at this;obtain⟨a,b⟩:=zFF (zDA h hE r (by omega) c);exact zIt this a b
 have hv:zEJ T X T.length=0:=by
  unfold zEJ;rw [if_neg (by rw [hc];simp),if_neg (by rw [hX,hT];simp)];refine zGh fun x hx2=>?_;obtain⟨r,hr,rfl⟩:=List.getElem_of_mem hx2;have e1:X.getD r noA=X[r]:=by rw [List.getD_eq_getElem?_getD,List.getElem?_eq_getElem hr];rfl
  have:=hb r (by omega);rw [e1] at this;obtain⟨a,b⟩:=zFF (zDA h hE (n+1) (by omega) r);exact zIt this a b
 have hF:FewS T:=by
  unfold FewS;rw [hw,hT];have:n=1∨n=2∨n=3∨n=4:=by omega
  rcases this with rfl | rfl | rfl | rfl <;> decide
 have hall:∀p∈knS m m.length 0,p.2<n:=fun p hp=>by
  have:knS m m.length 0=knS m (m.length - 1) n:=by
   have e:m.length= (m.length - 1)+1:=by omega
   rw [e,zCI,h.len _ (by omega),←e]
  rw [this] at hp;exact(zHg h (by omega) (Nat.le_refl _) hp).2.1
 have hg:(zAi m).J=n:=hn;have hS:Mks.Sys (zAi m) (zFl T X) (fun k=>k) n:=by
  refine⟨fun k hk=>?_,fun k hk j hj=>?_,fun k hk=>?_,?_,fun j hj=>?_,?_,fun f=>?_⟩
  ·rw [hg] at hk ⊢;omega
  ·rw [hg] at hk hj;unfold zFl;rw [hw,if_pos hj];show zFk _=_;rw [(hx k (by omega) j hj).val];unfold L9;rw [if_neg (by omega),L8_k hk,zA7 hj];exact zGi (mks_A h hn hk j)
  ·rw [hg] at hk ⊢;unfold zFl;rw [hw,if_neg (by omega),(hb k (by omega)).val];unfold L9;rw [if_neg (by omega),zO6,zA7 (by omega)];exact zGi (mks_b h hn hk)
  ·rw [hg];omega
  ·rw [hg] at hj;unfold zFl;rw [hw,if_pos hj];show zFk _=_;rw [(hx n (by omega) j hj).val];unfold L9;rw [if_pos rfl,zA7 hj,if_pos hj];exact zGi (by show(720720:Rat)=720720*1;grind)
  ·rw [hg];unfold zFl;rw [hw,if_neg (by omega),(hb n (by omega)).val];unfold L9;rw [if_neg (by omega),zO6,zA7 (by omega),zO9 (i:=0) h hall];exact zGi (by show(0:Rat)=720720*0;grind)
  ·rw [hg,zAv];grind
 have hok:=Mks.sys_ok hO hC hE (by rw [hg];exact h0) hS;have hso:=Mks.sys_sol hO hC hE (by rw [hg];exact h0) hS;rw [hg] at hok hso;have hsk:zGa T X=true:=by
  unfold zGa;rw [decide_eq_true hv,hw,hT,zHR.2 hok];rfl
 have hfe:zNQ T X=zJo n (zAe (n+1) (zFl T X) n):=by unfold zNQ;rw [hw,hT]
 refine⟨hv,hF,hsk,by unfold zMd;rw [hsk,if_pos rfl,hw],fun k hk=>?_,?_,?_⟩
 ·rw [hfe];exact hso.1 k hk
 ·rw [hfe];exact hso.2
 ·have h1:=zMf hv;rw [hT,hw] at h1;have hps:=zHN (n+1) n (zFl T X)
  have h2:=(h1.elim (n:=n) (by omega)).mono (e':=12992) (by
   have h3:2 ^ (zAe (n+1) (zFl T X) n).ps.length≤2 ^ 4:=Nat.pow_le_pow_right (by omega) (by omega);have h4:(n+1)* (n+1)≤5*5:=Nat.mul_le_mul (by omega) (by omega);have h5:2 ^ (zAe (n+1) (zFl T X) n).ps.length* (30* ((n+1)* (n+1))+61+1)≤2 ^ 4*812:=Nat.mul_le_mul h3 (by omega)
   omega)
  obtain⟨D,d0,d1,d2⟩:=h2;refine⟨D,d0,d1,fun c hc=>?_⟩;rw [hfe];unfold zJo
  split
  ·rename_i hm;exact d2 _ (by have:=List.idxOf_lt_length_iff.2 hm;omega) n (by omega)
  ·exact zKp 12992 D
end
open Go.RowKit Go BigFrame Go.Shelf
attribute [local go_sem] Oper.semAt_some
theorem zGj (n:Nat) (hn:n≤1000000) (w:World):(Instr.makeSlice 34 (.int .i64 (n:Int)) (.int .i64 (n:Int))).run Tryz.prog w=.ok (.slice (some ⟨w.heap.size,0,none⟩) n n) (w.alloc (.cells ((List.replicate n (0:Int)).map (Value.int .i64)).toArray 3)):=by
 obtain⟨i0,hi0,hz0,hz1,hz2⟩:=info_parts zIp;have hr:=run_makeSlice (P:=Tryz.prog) (w:=w) 34 3 i0 (.int .i64 0) Tryz.underlying34 hi0 hz0 .i64 .i64 (n:Int) (n:Int) (by omega) (by omega) (by rw [hz1];omega) (by rw [hz2];omega) (by omega);have e:madeCells (Value.cells (.int .i64 0)) ((n:Int).toNat*i0.size)= ((List.replicate n (0:Int)).map (Value.int .i64)).toArray:=by
  rw [hz1,Nat.mul_one,Int.toNat_natCast];refine Array.ext' ?_;simp [Value.cells,toList_madeCells_one]
 rw [e,Int.toNat_natCast] at hr;exact hr
def FitG (m:List (List Int)) (n:Nat) (w:World) (e:Ending) (w':World):Prop:=
 ∃ (qa:Option Addr) (qc:Nat) (xa:Option Addr) (xc:Nat) (Vq Vx:Nat→RatC) (f:Nat→Rat),e=.returned (.tuple #[.agg #[.slice qa m.length qc,.slice xa n xc],.int .i64 0])∧RowR w' qa qc m.length Vq (fun i=>(zAi m).q f i)∧RowR w' xa xc n Vx f∧FitX m n f∧Ext w w'
theorem zMn {m:List (List Int)} {n:Nat} (h:zHb m) (hn:(m.headD []).length=n) (h0:0<m.length):Tab m n where
 len i hi:=by
  unfold zE5;rw [List.getD_eq_getElem?_getD,List.getElem?_eq_getElem hi,Option.getD_some,h.same _ (List.getElem_mem hi),hn]
 j16:=by
  rw [←hn]
  cases m with
  | nil=>simp at h0
  | cons r t=>exact h.wide r (by simp)
 e64:=h.rows
 mks i k:=by
  unfold mkS;rw [List.getD_eq_getElem?_getD,List.getD_eq_getElem?_getD]
  cases hr:m[i]? with
  | none=>simp
  | some r=>
   rw [Option.getD_some]
   cases hx:r[k]? with
   | none=>simp
   | some x=>exact h.mark r (List.mem_of_getElem? hr) x (List.mem_of_getElem? hx)
theorem zAK (n:Nat) (p:Addr) (w:World):
 CallsDIn Fence.wide n Tryz.prog 52 #[.pointer (some p)] .returning w fun e u' w'=>e=.returned (.tuple #[])∧u'=.returning∧w'=w:=by
 refine callsDIn_of_wpSIn Tryz.func52 rfl trivial fun c₀ cs hu=>?_;apply wpSIn_seq;apply wpSIn_region;simp [wpOpsSIn,go_sem,recoverD,hu,Tryz.ntmps52,Exit.thenS];refine wpSIn_of_wpIn rfl ?_;refine wpIn_wide.2 ?_;refine wp_block ?_;refine wp_seq ?_;refine wp_region ?_;simp [wpOps,wpList,go_sem,Exit.then]
 repeat refine Or.inl ?_
 refine wp_cond_true (c:=.tmp 7) ?_ ?_
 ·simp [Act.eval,Array.replicate]
 refine wp_region ?_;simp [wpOps,wpList,go_sem,Exit.then,Exit.inBlock]
 repeat refine Or.inl ?_
 cases c₀
 simp_all [bodyPostS,results,Tryz.results52]
theorem RowR.keepW {A B:World} (k:KeepW A B) {a:Option Addr} {cap N:Nat} {V:Nat→RatC} {f:Nat→Rat} (h:RowR A a cap N V f):RowR B a cap N V f:=
 ⟨h.le,h.mx,h.nil,fun A hA c hc=>by
  obtain⟨h0,h1,h2,h3,h4⟩:=h.cells A hA c hc
  exact⟨h0,k.cell h1,k.cell h2,k.cell h3,k.cell h4⟩,fun c hc=>k.rat (h.val c hc)⟩
theorem RowR.setB {w:World} {a:Option Addr} {cap N:Nat} {V:Nat→RatC} {f:Nat→Rat} (h:RowR w a cap N V f) (h0:0<N) {p:Nat} {cs:Array Value} {t:TypeId} (hB:Blk w p cs t) (hb:∀ (i:Nat) (b:Bool),cs[i]?≠some (.bool b)) (hc:noInt cs) (i:Nat) (v:Value):RowR (w.setCell ⟨p,i,none⟩ v) a cap N V f:=
 h.grown (zAa w p i v) (h.offB h0 hB hb) fun c hc2=>(h.val c hc2).offB hB hc
theorem zGk {W:World} {D:Nat} (h:W.heap[D]? =some (.deferred (some []))):KeepW W (W.putObj D (.deferred none)):=zBa (grownBy_putObj' W D (.deferred none)) (fun r e=>by cases e;exact⟨_,h,rfl⟩)
theorem noB1 {v:Value} (hv:∀b,v≠.bool b):∀ (i:Nat) (b:Bool),#[v][i]?≠some (.bool b):=fun i b=>by
 match i with
 | 0=>simpa using hv b
 | i+1=>simp
theorem zNz {v u:Value} (hv:∀b,v≠.bool b) (hu:∀b,u≠.bool b):∀ (i:Nat) (b:Bool),#[v,u][i]?≠some (.bool b):=fun i b=>by
 match i with
 | 0=>simpa using hv b
 | 1=>simpa using hu b
 | i+2=>simp
theorem zFG {m:List (List Int)} {n i:Nat} {f:Nat→Rat} {D e:Nat} {s:Int} (h0:0<D) (h1:D<2 ^ e) (hf:∀c,c<n→∃z:Int,z.natAbs<2 ^ e∧f c= (z:Rat) / (D:Rat)) (hs:0≤s∧s≤16000):∀k,k≤n→∃z:Int,z.natAbs≤(16000+k)*2 ^ e∧zCj m i (s:Rat) f k= (z:Rat) / (D:Rat)
 | 0,_=>by
  refine⟨s*D,?_,?_⟩
  ·rw [Int.natAbs_mul,Int.natAbs_natCast];exact Nat.mul_le_mul (by omega) (Nat.le_of_lt h1)
  ·unfold zCj;rw [zBB];have hD:=zG6 h0;rw [Rat.intCast_mul,Rat.intCast_natCast];grind
 | k+1,hk=>by
  obtain⟨z,hz,e1⟩:=zFG (m:=m) (i:=i) h0 h1 hf hs k (by omega);rw [zFE];have e2:(16000+ (k+1))*2 ^ e= (16000+k)*2 ^ e+2 ^ e:=by rw [←Nat.add_assoc,Nat.add_mul,Nat.one_mul]
  by_cases hm:mkS m i k= -1
  ·rw [if_neg (fun h=>h hm)];exact⟨z,by omega,e1⟩
  ·rw [if_pos hm];obtain⟨y,hy,e3⟩:=hf k (by omega);refine⟨z - y,by omega,?_⟩;rw [e1,e3,Rat.intCast_sub];have hD:=zG6 h0;grind
theorem zCJ {D E e k:Nat} (h0:0<D) (h1:D<2 ^ E) {r:Rat} {z:Int} (hz:z.natAbs<2 ^ e) (hk:e≤30*k) (hk2:E≤30*k) (hr:r= (z:Rat) / (D:Rat)):Sz r k:=by
 rw [hr,show((D:Nat):Rat)= (((D:Nat):Int):Rat) from(Rat.intCast_natCast D).symm,←Rat.divInt_eq_div];exact zBk (zBZ hz hk) (by rw [Int.natAbs_natCast];exact zBZ h1 hk2) (by omega)
theorem zLE {z e k:Nat} (hz:z≤(16000+k)*2 ^ e) (hk:k≤16):z<2 ^ (e+15):=by
 rw [Nat.pow_add];have h3:(16000+k)*2 ^ e≤16016*2 ^ e:=Nat.mul_le_mul_right _ (by omega);have h4:16016*2 ^ e<32768*2 ^ e:=Nat.mul_lt_mul_of_pos_right (by omega) (Nat.pow_pos (by omega));have h5:(2:Nat) ^ e*2 ^ 15=32768*2 ^ e:=by rw [Nat.mul_comm]
 exact Nat.lt_of_le_of_lt (Nat.le_trans hz h3) (Nat.lt_of_lt_of_le h4 (Nat.le_of_eq h5.symm))
theorem zLF {m:List (List Int)} {n i:Nat} {f:Nat→Rat} {D e K:Nat} {s:Int} (h0:0<D) (h1:D<2 ^ e) (hf:∀c,c<n→∃z:Int,z.natAbs<2 ^ e∧f c= (z:Rat) / (D:Rat)) (hs:0≤s∧s≤16000) (hn:n≤16) (he:e+15≤30*K) (k:Nat) (hk:k≤n):Sz (zCj m i (s:Rat) f k) K:=by
 obtain⟨z,hz,e1⟩:=zFG (m:=m) (i:=i) h0 h1 hf hs k hk;exact zCJ h0 h1 (zLE hz (by omega)) he (by omega) e1
theorem zLG {n:Nat} {f:Nat→Rat} {D e K:Nat} (h0:0<D) (h1:D<2 ^ e) (hf:∀c,c<n→∃z:Int,z.natAbs<2 ^ e∧f c= (z:Rat) / (D:Rat)) (he:e≤30*K) (c:Nat) (hc:c<n):Sz (f c) K:=by
 obtain⟨z,hz,e1⟩:=hf c hc;exact zCJ h0 h1 hz he he e1
theorem FitX.sz {m:List (List Int)} {n:Nat} {f:Nat→Rat} (h:FitX m n f) (c:Nat) (hc:c<n):Sz (f c) 434:=by
 obtain⟨D,h0,h1,h2⟩:=h.over;exact zLG (e:=12992) h0 h1 h2 (by omega) c hc
theorem FitX.less {m:List (List Int)} {n:Nat} {f:Nat→Rat} (h:FitX m n f) (hT:Tab m n) (hn:n≤16) (i:Nat) (hi:i<m.length) (k:Nat) (hk:k≤n):Sz (zCj m i ((zBL m i:Int):Rat) f k) 434:=by
 obtain⟨D,h0,h1,h2⟩:=h.over;exact zLF (e:=12992) h0 h1 h2 (zET hT hi) hn (by omega) k hk
theorem zOd {m:List (List Int)} {n:Nat} {f:Nat→Rat} (hT:Tab m n) (hn:(m.headD []).length=n) {i:Nat} (hi:i<m.length):zKm m f n i= (zAi m).q f i:=by
 unfold zKm zCj Mks.q;rw [zBE,zLC hT hn hi,zO4 hT hn hi];show _= ((zAi m).S i - sq (fun k=>kS m i k*f k) (m.headD []).length) / (zAi m).n i;rw [hn]
theorem zNf (m:List (List Int)) (n E q:Nat):L9 m n E q (n+2)= (List.range E).map (zBe m):=by unfold L9;rw [if_neg (by omega),L8_2]
theorem zNg (m:List (List Int)) (n E q:Nat):L9 m n E q (n+3)= (List.range E).map (zBL m):=by unfold L9;rw [if_neg (by omega),L8_3]
theorem zIu {m:List (List Int)} {i k:Nat}:edB (zCO m) [] i k=true↔kS m i k≠0:=by
 unfold edB zCO kS mkS;rw [List.getD_eq_getElem?_getD,List.getD_eq_getElem?_getD,List.getElem?_map,List.getD_eq_getElem?_getD,List.getD_eq_getElem?_getD]
 cases hr:m[i]? with
 | none=>simp
 | some r=>
  rw [Option.map_some,Option.getD_some,Option.getD_some];unfold zD8;rw [List.getElem?_map]
  cases hx:r[k]? with
  | none=>simp
  | some x=>
   rw [Option.map_some,Option.getD_some,Option.getD_some];by_cases e:x= -1
   ·simp [e]
   ·simp [e]
theorem zKq {m:List (List Int)} {n:Nat} (hn:(m.headD []).length=n) (h0:0<n) (hE:0<m.length) (h:zHT m.length n (edB (zCO m) [])):(zAi m).Conn:=fun f g hfg k hk i hi=>by
 have hk2:k<n:=by rw [←hn];exact hk
 have hi2:i<m.length:=hi
 have:=h (fun x=>if x<m.length then f x else g (x - m.length)) (fun a b ha hb hab=>by
  rw [if_pos ha,if_neg (by omega),show m.length+b - m.length=b by omega]
  exact hfg a ha b (by show b< (m.headD []).length;rw [hn];exact hb) (zIu.1 hab)) i (m.length+k) (by omega) (by omega)
 rwa [if_pos hi2,if_neg (by omega),show m.length+k - m.length=k by omega] at this
theorem zNh {m:List (List Int)} {n:Nat} (hn:(m.headD []).length=n) (h0:0<n) (hE:0<m.length) (h:(zAi m).Conn):zHT m.length n (edB (zCO m) []):=fun g hg=>by
 have hJ:(zAi m).J=n:=hn;have key:=h g (fun k=>g (m.length+k)) fun i hi k hk hne=>hg i k hi (by rw [←hJ];exact hk) (zIu.2 hne);have one:∀x,x<m.length+n→g x=g 0:=fun x hx=>by
  have e0:=key 0 (by rw [hJ];exact h0) 0 hE;by_cases hl:x<m.length
  ·rw [key 0 (by rw [hJ];exact h0) x hl,←e0]
  ·have:=key (x - m.length) (by rw [hJ];omega) 0 hE;rw [this,show m.length+ (x - m.length)=x by omega]
 intro a b ha hb;rw [one a ha,one b hb]
theorem zOe {w:World} {b:Nat} {cs:Array Value} {t:TypeId} (h:Hid (Blk w b cs t)) (c i:Nat) (v0:Value) (hp:b≠c):Hid (Blk (w.setCell ⟨c,i,none⟩ v0) b cs t):=dH ((h.out).other (p:=⟨c,i,none⟩) hp v0)
set_option maxHeartbeats 16000000 in
theorem zOf (a:Option Addr) (cap:Nat) (m:List (List Int)) (n:Nat) (w:World) (h:Rows w a cap m) (hE:zBJ m=0) (h0:0<m.length) (hn:(m.headD []).length=n) (h1:0<n) (h4:n≤4) (hC:zHT m.length n (edB (zCO m) [])):Calls Tryz.prog 17 #[.slice a m.length cap] w (FitG m n w):=by
 have HOK:=dH (zAJ hE);have HC:=dH hC;clear hC;obtain⟨x1,hw,hx,Km,Kf,Ke⟩:=zGJ w #[.slice a m.length cap] 22 #[.slice none 0 0,.slice none 0 0] 25 #[.int .i64 0] 29;replace hw:=dH hw;have HA:=dH (zAD a cap m x1 (h.ext hx));have HH:=dH h;have hle:=h.le;have hmx:=h.mx;clear h;refine(callsIn_wide (n:=5)).1 ?_;refine callsIn_of_wp_marks Tryz.func17 rfl trivial ?_ rfl;simp only [Tryz.ntmps17,List.size_toArray,List.length_cons,List.length_nil,Nat.reduceAdd,Nat.reduceSub,Array.replicate_succ,Array.replicate_zero,List.push_toArray,List.append_toArray,List.nil_append,List.cons_append];refine wpIn_wide.2 ?_;go_upto_region 1 with fail
 try simp only [Nat.add_assoc,Nat.reduceAdd,Nat.add_zero]
 rw [hw.out];clear hw;have hs0:=hx.size;have c0:=bk1 Km;go_wp2_with fail;refine HA.out.mono ?_;clear c0 HA;rintro e x2 ⟨rfl,hy⟩;replace hx:=hx.trans hy;replace Km:=kE Km hy;replace Kf:=kE Kf hy;replace Ke:=kE Ke hy;clear hy;rw [hE,show zBQ 0=.returned (.tuple #[]) from rfl];have g0:(0:Int)< (m.length:Int):=by omega
 obtain⟨b,o,rfl⟩:=HH.out.head h0;obtain⟨l,ar,cr,hl,hc,hI⟩:=Rows.get (HH.out.ext hx) h0;obtain⟨l9,ar9,cr9,hl9,hc9,hI9⟩:=Rows.get HH.out h0;rw [hl] at hl9;cases hl9
 have hce:=(zA0 hx hc9).symm.trans hc;simp only [Option.some.injEq,Value.slice.injEq] at hce;obtain⟨rfl,-,rfl⟩:=hce;have hl0:l.length=n:=by
  cases m with
  | nil=>simp at h0
  | cons r t=>simp only [List.getElem?_cons_zero,Option.some.injEq] at hl;subst hl;exact hn
 rw [hl0,Nat.add_zero] at hc hc9;have g1:(0:Int)< (n:Int):=by omega
 have c0:=bk1 Km;have g2:decide (0<n)=true:=decide_eq_true (by omega);have HN:=dH hn;have HC9:=dH hc9;clear hI hI9 hl hl0 hn hc9;go_wp2_with fail
 try rw [g2]
 refine(zAb 371 _).mono ?_;clear c0 hc;rintro e x3 ⟨rfl,hy⟩;replace hx:=hx.trans hy;replace Km:=kE Km hy;replace Kf:=kE Kf hy;replace Ke:=kE Ke hy;clear hy g2;have c0:=bk1 Km;go_upto_region 5 with fail
 go_cut [45,46,47] from 45 to 48 (fun s45 s46 s47 wx=>s45=.slice (some ⟨b,o,none⟩) m.length cap∧s46=.int .i64 (m.length:Nat)∧s47=.int .i64 0∧wx=x3)
 case first=>
  go_wp2_with fail;go_meet;exact⟨rfl,rfl,rfl,rfl⟩
 case rest=>
 obtain⟨rfl,rfl,rfl,rfl⟩:=hcut;clear c0;rename_i K9 hK9;refine hK9 _ _ ?_;clear hK9;refine zAX (c':=((Tryz.f17.body.bind (zAr 0)).getD .skip)) (by kernel_rfl) ?_;apply zHa HH.out hx HOK.out.rows HOK.out.wide
 intros
 rename_i x9 HO9 HX9;obtain⟨-,hBR⟩:=HO9.slice;have hBL:=zBD m;have HT:=zFD _ _ _ _ x9 hBR (zIo HOK.out) (by rw [hBL];exact h0);rw [hBL] at HT;have HT:=dH HT;replace hx:=hx.trans HX9;replace Km:=kE Km HX9;replace Kf:=kE Kf HX9;replace Ke:=kE Ke HX9;clear HO9 hBR HX9 hBL;go_wp2_with fail;refine HT.out.mono ?_;rintro e x4 ⟨at_,qt,ct,bt,rfl,hbt,hy⟩;rw [zBD,HN.out] at hbt;obtain rfl:bt=true:=hbt.2 HC.out;replace hx:=hx.trans hy;replace Km:=kE Km hy;replace Kf:=kE Kf hy;replace Ke:=kE Ke hy;clear hy hbt HT;go_wp2_with fail;refine(zAb 371 _).mono ?_;rintro e x5 ⟨rfl,hy⟩;replace hx:=hx.trans hy;replace Km:=kE Km hy;replace Kf:=kE Kf hy;replace Ke:=kE Ke hy;clear hy;have c0:=bk1 Km;have c1:=zA0 hx HC9.out;go_upto_region 19 with fail;clear c0 c1;refine zAX (c':=((Tryz.f17.body.bind (zBc 19)).getD .skip)) (by kernel_rfl) ?_;apply zN2 Km HOK.out.rows
 intros
 rename_i P gm gs x6 HP hbm hbs hms hgm hgs hPs hy;have hs5:=hx.size;have hke:=Ke.out.lt;have hs6:=hy.size;have hlm:=(IB.blk hbm).lt;have hls:=(IB.blk hbs).lt;have HX0:=dH hx;replace hx:=hy;have HBM:=dH hbm;have HBS:=dH hbs;clear hy hbm hbs;obtain⟨ob,hob⟩:∃ob:Obj,ob=.cells ((List.replicate (n+1) (0:Int)).map (Value.int .i64)).toArray 3:=⟨_,rfl⟩
 have hmk:∀w,(Instr.makeSlice 34 (.int .i64 ((n:Int)+1)) (.int .i64 ((n:Int)+1))).run Tryz.prog w=.ok (.slice (some ⟨w.heap.size,0,none⟩) (n+1) (n+1)) (w.alloc ob):=fun w=>by rw [hob];exact zGj (n+1) (by omega) w
 have hw1:IntKind.i64.wrap ((n:Int)+1)= (n:Int)+1:=IntWalk.i64_in _ (by omega);have hya:=Ext.alloc x6 ob;have hp7:=HP.out.ext hya;have c1:World.cell? (x6.alloc ob) ⟨P,1,none⟩=some (.slice none 0 0):=hp7.cell rfl;have f1:=hp7.free 1;have hIB:IB (x6.alloc ob) x6.heap.size (List.replicate (n+1) 0):=by rw [hob];exact IB.new x6 (List.replicate (n+1) 0)
 have hPb:P≠x6.heap.size:=by have:=HP.out.lt;omega
 have HL0:Hid (LayR x5.heap.size ((x6.alloc ob).setCell ⟨P,1,none⟩ (.slice (some ⟨x6.heap.size,0,none⟩) (n+1) (n+1))) P 0 n m.length x6.heap.size gm gs (.slice none 0 0) (fun _=>0)):=dH
  ⟨hp7.set 1 _,World.ownsRow_nil _ _ _ _,fun r hr=>by omega,(IB.blk hIB).other (p:=⟨P,1,none⟩) (fun e=>hPb e.symm) _,(IB.blk (HBM.out)).ext hya |>.other (p:=⟨P,1,none⟩) (fun e=>zAz (IB.blk HBM.out) HP.out (by decide) e) _,(IB.blk (HBS.out)).ext hya |>.other (p:=⟨P,1,none⟩) (fun e=>zAz (IB.blk HBS.out) HP.out (by decide) e) _,fun s t hs=>by omega,fun r hr=>by omega,fun r hr=>by omega⟩
 have hx7:Ext x5 ((x6.alloc ob).setCell ⟨P,1,none⟩ (.slice (some ⟨x6.heap.size,0,none⟩) (n+1) (n+1))):=(hx.trans hya).set (p:=⟨P,1,none⟩) (by dsimp only;omega) _;have HX7:=dH hx7;clear hob hya hp7 hIB hx7 HP HBM HBS hx;go_upto_region 21 with fail;clear c1 f1 hmk;generalize (x6.alloc ob).setCell ⟨P,1,none⟩ (.slice (some ⟨x6.heap.size,0,none⟩) (n+1) (n+1))=x7 at *;generalize hgb:x6.heap.size=gb at *
 go_cut [92,93,94] from 92 to 95 (fun s1 s2 s3 wx=>s2=.int .i64 ((n:Int)+1)∧s3=.int .i64 0∧wx=x7)
 case first=>
  go_wp2_with fail;go_meet;exact⟨rfl,rfl,rfl⟩
 case rest=>
 obtain⟨rfl,rfl,rfl⟩:=hcut;rename_i K9 hK9;refine hK9 _ _ ?_;clear hK9;refine zAX (c':=((Tryz.f17.body.bind (zAr 4)).getD .skip)) (by kernel_rfl) ?_;apply zO2 HL0.out HX7.out (by omega) (by omega)
 intros
 rename_i va2 g2 x8 hl8 hx8;have hk8:=hl8;obtain⟨Ra,ca,rfl,hRa,hsys⟩:=hl8.sys (by omega) (by omega) hms
 have HGl:Hid (∀t,t<n+4→w.heap.size≤zJb n g2 gb gm gs t):=dH (fun t ht=>by
  unfold zJb
  split
  ·exact Nat.le_trans hs5 (hk8.low t (by omega))
  ·split
   ·omega
   ·split <;> omega)
 have HT9:Hid (Tab m n):=dH (zMn HOK.out HN.out h0);obtain⟨G,hG⟩:∃G,zJb n g2 gb gm gs=G:=⟨_,rfl⟩
 rw [hG] at hsys HGl;replace hx:=HX0.out.trans hx8;replace Km:=kE Km hx8;replace Kf:=kE Kf hx8;replace Ke:=kE Ke hx8;have HS8:=dH (hsys.congr (L':=L6 m n m.length []) fun t _=>by rw [zO5]);clear hx8 hk8 hl8 hsys HX0 HX7 HL0;have c0:=bk1 Km;go_upto_region 25 with fail;dsimp only
 go_cut [107] from 106 to 108 (fun s1 wx=>s1=.func (.func 122) #[] #[.pointer (some ⟨x8.heap.size,0,none⟩),.pointer (some ⟨x8.heap.size+1,0,none⟩)]∧Blk wx x8.heap.size #[.slice (some ⟨b,o,none⟩) m.length cap] 22∧Blk wx (x8.heap.size+1) #[.func (.func 55) #[] #[]] 84∧Ext x8 wx)
 case first=>
  go_wp2_with fail;refine(zBi (some ⟨b,o,none⟩) m.length cap x8).mono ?_;rintro e w9 ⟨rfl,rfl⟩;have HB1:=dH ((Blk.new0 x8 #[.slice (some ⟨b,o,none⟩) m.length cap] 22).alloc (.cells #[.func (.func 55) #[] #[]] 84));have HB2:=dH (Blk.new1 x8 (.cells #[.slice (some ⟨b,o,none⟩) m.length cap] 22) #[.func (.func 55) #[] #[]] 84);have HE9:=dH (((Ext.refl x8).alloc' (.cells #[.slice (some ⟨b,o,none⟩) m.length cap] 22)).alloc' (.cells #[.func (.func 55) #[] #[]] 84));generalize (x8.alloc (.cells #[.slice (some ⟨b,o,none⟩) m.length cap] 22)).alloc (.cells #[.func (.func 55) #[] #[]] 84)=x9 at *;clear c0;go_wp2_with fail;go_meet;exact⟨rfl,HB1.out,HB2.out,HE9.out⟩
 case rest=>
 obtain⟨rfl,hb1,hb2,hy⟩:=hcut;rename_i K9 hK9;refine hK9 _ _ ?_;clear hK9 c0;refine zAX (c':=((Tryz.f17.body.bind (zAr 6)).getD .skip)) (by kernel_rfl) ?_;replace hx:=hx.trans hy;replace Km:=kE Km hy;replace Kf:=kE Kf hy;replace Ke:=kE Ke hy;apply zOa HH.out hx hb1 hb2 (HS8.out.ext hy) HGl.out HT9.out
 intros
 rename_i D1 x10 hD1 hs10 hp10 hdf1;have hwD1:w.heap.size≤D1:=Nat.le_trans hx.size hD1;replace hx:Ext w x10:=Below.trans hx hp10.low;replace Km:=dH (hp10.nt _ _ _ (by decide) Km.out);replace Kf:=dH (hp10.nt _ _ _ (by decide) Kf.out);replace Ke:=dH (hp10.nt _ _ _ (by decide) Ke.out);have HD1:=dH hdf1;have HS10:=dH (hs10.congr (L':=L8 m n m.length []) fun t _=>by rw [zO7 HT9.out]);clear hy hb1 hb2 hs10 hp10 hdf1 HS8;have c0:=bk1 Km;go_upto_region 30 with fail;dsimp only
 go_cut [128] from 127 to 129 (fun s1 wx=>s1=.func (.func 122) #[] #[.pointer (some ⟨x10.heap.size,0,none⟩),.pointer (some ⟨x10.heap.size+1,0,none⟩)]∧Blk wx x10.heap.size #[.slice (some ⟨b,o,none⟩) m.length cap] 22∧Blk wx (x10.heap.size+1) #[.func (.func 55) #[] #[]] 84∧Ext x10 wx)
 case first=>
  go_wp2_with fail;refine(zBi (some ⟨b,o,none⟩) m.length cap x10).mono ?_;rintro e w9 ⟨rfl,rfl⟩;have HB1:=dH ((Blk.new0 x10 #[.slice (some ⟨b,o,none⟩) m.length cap] 22).alloc (.cells #[.func (.func 55) #[] #[]] 84));have HB2:=dH (Blk.new1 x10 (.cells #[.slice (some ⟨b,o,none⟩) m.length cap] 22) #[.func (.func 55) #[] #[]] 84);have HE9:=dH (((Ext.refl x10).alloc' (.cells #[.slice (some ⟨b,o,none⟩) m.length cap] 22)).alloc' (.cells #[.func (.func 55) #[] #[]] 84));generalize (x10.alloc (.cells #[.slice (some ⟨b,o,none⟩) m.length cap] 22)).alloc (.cells #[.func (.func 55) #[] #[]] 84)=x9 at *;clear c0;go_wp2_with fail;go_meet;exact⟨rfl,HB1.out,HB2.out,HE9.out⟩
 case rest=>
 obtain⟨rfl,hb1,hb2,hy⟩:=hcut;rename_i K9 hK9;refine hK9 _ _ ?_;clear hK9 c0;refine zAX (c':=((Tryz.f17.body.bind (zAr 8)).getD .skip)) (by kernel_rfl) ?_;replace hx:=hx.trans hy;replace Km:=kE Km hy;replace Kf:=kE Kf hy;replace Ke:=kE Ke hy;replace HD1:=dH (hy.others.same _ _ HD1.out rfl);apply zOb HH.out hx hb1 hb2 Km.out (HS10.out.ext hy) HGl.out HT9.out
 intros
 rename_i D2 x11 hD2 hs11 hp11 hdf2;have hD12:D1<D2:=Nat.lt_of_lt_of_le (Array.getElem?_eq_some_iff.1 HD1.out).1 hD2;replace hx:Ext w x11:=Below.trans hx hp11.low;replace Km:=dH (hp11.nt _ _ _ (by decide) Km.out);replace Kf:=dH (hp11.nt _ _ _ (by decide) Kf.out);replace Ke:=dH (hp11.nt _ _ _ (by decide) Ke.out);replace HD1:=dH (hp11.ot.same _ _ HD1.out rfl);have HD2:=dH hdf2;have HS11:=dH (show SysR x11 P Ra ca n m.length G (L9 m n m.length 0) by rw [L9_0];exact hs11);clear hy hb1 hb2 hs11 hp11 hdf2 HS10;go_upto_region 34 with fail;dsimp only
 go_cut [142,143] from 142 to 144 (fun s1 s2 wx=>s1=.int .i64 (n:Nat)∧s2=.int .i64 0∧wx=x11)
 case first=>
  go_wp2_with fail;go_meet;exact⟨rfl,rfl,rfl⟩
 case rest=>
 obtain⟨rfl,rfl,rfl⟩:=hcut;rename_i K9 hK9;refine hK9 _ _ ?_;clear hK9;refine zAX (c':=((Tryz.f17.body.bind (zAr 10)).getD .skip)) (by kernel_rfl) ?_;apply zN8 HS11.out HGl.out (by omega)
 intros
 rename_i x12 hs12 hp12;replace hx:Ext w x12:=Below.trans hx hp12.low;replace Km:=dH (hp12.nt _ _ _ (by decide) Km.out);replace Kf:=dH (hp12.nt _ _ _ (by decide) Kf.out);replace Ke:=dH (hp12.nt _ _ _ (by decide) Ke.out);replace HD1:=dH (hp12.ot.same _ _ HD1.out rfl);replace HD2:=dH (hp12.ot.same _ _ HD2.out rfl);have HS12:=dH hs12;clear hs12 hp12 HS11;have HCN:Hid ((zAi m).Conn):=dH (zKq HN.out h1 h0 HC.out);have HOm:=dH (zKo HT9.out HN.out h1 HCN.out);go_upto_region 41 with fail
 go_cut [156,157] from 155 to 158 (fun s1 s2 wx=>s1=.int .i64 ((n:Int)+1)∧s2=.int .i64 0∧wx=x12)
 case first=>
  go_wp2_with fail;go_meet;exact⟨rfl,rfl,rfl⟩
 case rest=>
 obtain⟨rfl,rfl,rfl⟩:=hcut;rename_i K9 hK9;refine hK9 _ _ ?_;clear hK9;refine zAX (c':=((Tryz.f17.body.bind (zAr 12)).getD .skip)) (by kernel_rfl) ?_;apply zN9 HS12.out (by omega) (zDA HT9.out h0)
 intros
 rename_i aa ac ba bc val V M Kx rs x13 htn hM hrl hrs hy;replace hx:=hx.trans hy;replace Km:=kE Km hy;replace Kf:=kE Kf hy;replace Ke:=kE Ke hy;replace HD1:=dH (hy.others.same _ _ HD1.out rfl);replace HD2:=dH (hy.others.same _ _ HD2.out rfl);have HS13:=dH (HS12.out.ext hy);obtain⟨a3,c3,e3,hmat⟩:=htn.mat;cases e3
 have hKl:Kx.length=n+1:=htn.want.len.trans hrl;obtain⟨a4,c4,Vb,e4,hrow⟩:=htn.want.reads hKl hrs;cases e4
 have hszM:∀r,r<n+1→∀c,c<n→Len (M r c).num∧Len ((M r c).den:Int):=fun r hr c hc=>by
  rw [hM r hr c hc];have:=zKn (zDA HT9.out h0 r (by omega) c);exact⟨this.lenN (by omega),this.lenD (by omega)⟩
 have hszb:∀r,r<n+1→Len (Rat.divInt ((L9 m n m.length n (n+1)).getD r 0) 720720).num∧Len ((Rat.divInt ((L9 m n m.length n (n+1)).getD r 0) 720720).den:Int):=fun r hr=>by
  have:=zKn (zDA HT9.out h0 (n+1) (by omega) r);exact⟨this.lenN (by omega),this.lenD (by omega)⟩
 obtain⟨TA,hTl,hTR,hTL,hTN⟩:=hmat.raw hszM;obtain⟨XA,hXl,hXR,hXN⟩:=hrow.raw hszb;obtain⟨hv,hF,hso,hsn,hfx⟩:=zNe HT9.out HN.out HCN.out h0 h1 h4 hTl hTL (fun r hr c hc=>by rw [←hM r hr c hc];exact hTN r hr c hc) hXl hXN;have hsv:=zH1 aa ac TA ba bc XA x13 hTR hXR (by omega) (fun _=>hF);rw [hTl,hXl] at hsv;unfold zIn at hsv;rw [hsn,hso,hv] at hsv;have HSV:=dH hsv;have HFX:=dH hfx;clear hy htn hM hrl hrs hmat hrow hKl hszM hszb hTl hTR hTL hTN hXl hXR hXN hv hF hso hsn hsv hfx HS12;go_wp2_with fail;refine HSV.out.mono ?_;rintro e x14 ⟨xa,xc,Vx,rfl,hrow,hy⟩;have HRW:=dH hrow;replace hx:=hx.trans hy;replace Km:=kE Km hy;replace Kf:=kE Kf hy;replace Ke:=kE Ke hy;replace HD1:=dH (hy.others.same _ _ HD1.out rfl);replace HD2:=dH (hy.others.same _ _ HD2.out rfl);have HS14:=dH (HS13.out.ext hy);clear hy hrow HSV HS13;obtain⟨g0,z0⟩:=bp1 Ke (.int .i64 0);go_upto_region 53 with fail;clear g0 z0;replace HRW:=dH (HRW.out.setB h1 Ke.out (noB1 (by simp)) (zAc rfl) 0 (.int .i64 0));replace HS14:=dH (HS14.out.grownT Ke.out (by decide) (by decide) (by decide) (zAa _ _ 0 (.int .i64 0)));replace Km:=zOe Km (w.heap.size+2) 0 (.int .i64 0) (by omega);replace Kf:=zOe Kf (w.heap.size+2) 0 (.int .i64 0) (by omega);replace Ke:=bs1 Ke (.int .i64 0);replace HD1:=dH ((KeepsOthers.setCell x14 ⟨w.heap.size+2,0,none⟩ (.int .i64 0)).same _ _ HD1.out rfl);replace HD2:=dH ((KeepsOthers.setCell x14 ⟨w.heap.size+2,0,none⟩ (.int .i64 0)).same _ _ HD2.out rfl);replace hx:Ext w (x14.setCell ⟨w.heap.size+2,0,none⟩ (.int .i64 0)):=hx.set (p:=⟨w.heap.size+2,0,none⟩) (by dsimp only;omega) _;generalize x14.setCell ⟨w.heap.size+2,0,none⟩ (.int .i64 0)=x15 at *;have e0:=bk1 Ke;go_wp2_with fail;refine(zAb _ _).mono ?_;rintro e x16 ⟨rfl,hy⟩;clear e0;replace hx:=hx.trans hy;replace Km:=kE Km hy;replace Kf:=kE Kf hy;replace Ke:=kE Ke hy;replace HD1:=dH (hy.others.same _ _ HD1.out rfl);replace HD2:=dH (hy.others.same _ _ HD2.out rfl);replace HS14:=dH (HS14.out.ext hy);replace HRW:=dH (HRW.out.ext hy);clear hy;have f1:=Kf.out.free 1;have f2:x16.cell? ⟨w.heap.size+1,1,none⟩=some (.slice none 0 0):=Kf.out.cell rfl;go_upto_region 55 with fail;clear f1 f2;replace HRW:=dH (HRW.out.setB h1 Kf.out (zNz (by simp) (by simp)) (zAc rfl) 1 (.slice xa n xc));replace HS14:=dH (HS14.out.grownT Kf.out (by decide) (by decide) (by decide) (zAa _ _ 1 (.slice xa n xc)));replace Km:=zOe Km (w.heap.size+1) 1 (.slice xa n xc) (by omega);replace Ke:=zOe Ke (w.heap.size+1) 1 (.slice xa n xc) (by omega);have Kf2:Hid (Blk (x16.setCell ⟨w.heap.size+1,1,none⟩ (.slice xa n xc)) (w.heap.size+1) #[.slice none 0 0,.slice xa n xc] 25):=dH (Kf.out.set 1 _);replace HD1:=dH ((KeepsOthers.setCell x16 ⟨w.heap.size+1,1,none⟩ (.slice xa n xc)).same _ _ HD1.out rfl);replace HD2:=dH ((KeepsOthers.setCell x16 ⟨w.heap.size+1,1,none⟩ (.slice xa n xc)).same _ _ HD2.out rfl);replace hx:Ext w (x16.setCell ⟨w.heap.size+1,1,none⟩ (.slice xa n xc)):=hx.set (p:=⟨w.heap.size+1,1,none⟩) (by dsimp only;omega) _;clear Kf;generalize x16.setCell ⟨w.heap.size+1,1,none⟩ (.slice xa n xc)=x17 at *;have c0:=bk1 Km
 go_cut [209,210,211] from 209 to 212 (fun s1 s2 s3 wx=>s1=.slice (some ⟨b,o,none⟩) m.length cap∧s2=.int .i64 (m.length:Nat)∧s3=.int .i64 0∧wx=x17)
 case first=>
  go_wp2_with fail;go_meet;exact⟨rfl,rfl,rfl,rfl⟩
 case rest=>
 obtain⟨rfl,rfl,rfl,rfl⟩:=hcut;rename_i K9 hK9;refine hK9 _ _ ?_;clear hK9 c0;refine zAX (c':=((Tryz.f17.body.bind (zAr 16)).getD .skip)) (by kernel_rfl) ?_;apply zNc HH.out hx (show w.heap.size≤w.heap.size+1 by omega) HS14.out (zNf _ _ _ _) (zNg _ _ _ _) HT9.out (fun i hi=>zLD HT9.out HN.out HOm.out hi) h1 Kf2.out HRW.out (FitX.less HFX.out HT9.out (by omega)) (FitX.sz HFX.out) (by omega) (by omega)
 intros
 rename_i va vc Kq x18 hq hfb hg;have hKq:Kq.length=m.length:=by have:=hq.len;rwa [List.length_map,List.length_range] at this
 obtain⟨a5,c5,Vq,e5,hqr⟩:=hq.reads (f:=fun i=>(zAi m).q (zNQ TA XA) i) hKq (fun i hi=>by rw [List.getD_eq_getElem?_getD,List.getElem?_map,List.getElem?_range hi];exact zOd HT9.out HN.out hi);cases e5
 have hfx:w.heap.size+1<wc.heap.size:=Kf2.out.lt;replace HRW:=dH (HRW.out.grown hg (HRW.out.offB h1 Kf2.out (zNz (by simp) (by simp))) (fun c hc=>(HRW.out.val c hc).offB Kf2.out (zAc rfl)));replace Ke:=dH (zA5 Ke.out hg (fun e=>by have:=Option.some.inj e;omega));have hnD1:D1≠w.heap.size+1:=fun e=>by
  have h9:=HD1.out;rw [e,show wc.heap[w.heap.size+1]? =_ from Kf2.out] at h9;cases h9
 have hnD2:D2≠w.heap.size+1:=fun e=>by
  have h9:=HD2.out;rw [e,show wc.heap[w.heap.size+1]? =_ from Kf2.out] at h9;cases h9
 replace HD1:=dH ((hg.block D1 (Array.getElem?_eq_some_iff.1 HD1.out).1 (fun e=>hnD1 (Option.some.inj e))).trans HD1.out);replace HD2:=dH ((hg.block D2 (Array.getElem?_eq_some_iff.1 HD2.out).1 (fun e=>hnD2 (Option.some.inj e))).trans HD2.out);replace hx:Ext w x18:=Below.grown hx hg hx.size (fun r e=>by cases e;omega);have Kf:=dH hfb;have HQR:=dH hqr;clear hq hfb hg hKq hqr hnD1 hnD2 Kf2 HS14 hfx Km;have s0:x18.cell? ⟨w.heap.size+1,0,none⟩=some (.slice va m.length vc):=Kf.out.cell rfl;have s1:x18.cell? ⟨w.heap.size+1,1,none⟩=some (.slice xa n xc):=Kf.out.cell rfl;obtain⟨p0,q0,p1,q1⟩:=bp2 Kf (.slice va m.length vc) (.slice xa n xc);have Kf2:=bs2 Kf (.slice va m.length vc) (.slice xa n xc);have Ke2:=bo2 Ke (w.heap.size+1) (.slice va m.length vc) (.slice xa n xc) (by omega);obtain⟨p2,q2⟩:=bp1 Ke2 (.int .i64 0);replace HQR:=dH ((HQR.out.setB h0 Kf.out (zNz (by simp) (by simp)) (zAc rfl) 0 (.slice va m.length vc)).setB h0 (Kf.out.set 0 (.slice va m.length vc)) (zNz (by simp) (by simp)) (zAc rfl) 1 (.slice xa n xc));replace HRW:=dH ((HRW.out.setB h1 Kf.out (zNz (by simp) (by simp)) (zAc rfl) 0 (.slice va m.length vc)).setB h1 (Kf.out.set 0 (.slice va m.length vc)) (zNz (by simp) (by simp)) (zAc rfl) 1 (.slice xa n xc));replace HQR:=dH (HQR.out.setB h0 Ke2.out (noB1 (by simp)) (zAc rfl) 0 (.int .i64 0));replace HRW:=dH (HRW.out.setB h1 Ke2.out (noB1 (by simp)) (zAc rfl) 0 (.int .i64 0));have Kf3:=zOe Kf2 (w.heap.size+2) 0 (.int .i64 0) (by omega);have Ke3:=bs1 Ke2 (.int .i64 0);have HKo:=dH (((KeepsOthers.setCell x18 ⟨w.heap.size+1,0,none⟩ (.slice va m.length vc)).trans (KeepsOthers.setCell _ ⟨w.heap.size+1,1,none⟩ (.slice xa n xc))).trans (KeepsOthers.setCell _ ⟨w.heap.size+2,0,none⟩ (.int .i64 0)));replace HD1:=dH (HKo.out.same _ _ HD1.out rfl);replace HD2:=dH (HKo.out.same _ _ HD2.out rfl);have HX:=dH (((hx.set (p:=⟨w.heap.size+1,0,none⟩) (by dsimp only;omega) (.slice va m.length vc)).set (p:=⟨w.heap.size+1,1,none⟩) (by dsimp only;omega) (.slice xa n xc)).set (p:=⟨w.heap.size+2,0,none⟩) (by dsimp only;omega) (.int .i64 0));clear hx Kf Ke Kf2 Ke2 HKo;go_wp2_with fail;generalize ((x18.setCell ⟨w.heap.size+1,0,none⟩ (.slice va m.length vc)).setCell ⟨w.heap.size+1,1,none⟩ (.slice xa n xc)).setCell ⟨w.heap.size+2,0,none⟩ (.int .i64 0)=y at *;refine⟨by simp,.inl ⟨D2,_,rfl,run_takeDeferred HD2.out,?_⟩⟩;have k2:=zGk HD2.out;have d1:(y.putObj D2 (.deferred none)).heap[D1]? =some (.deferred (some [])):=(World.putObj_heap_other (by omega)).trans HD1.out;refine⟨by simp,.inl ⟨D1,_,rfl,run_takeDeferred d1,?_⟩⟩;have k1:=zGk d1;have hX:Ext w ((y.putObj D2 (.deferred none)).putObj D1 (.deferred none)):=Below.trans HX.out ((belowK_b (n₀:=w.heap.size) (w:=w) (Nat.le_refl _) _ D2 _ _ (by omega) HD2.out rfl rfl).trans (belowK_b (n₀:=w.heap.size) (w:=w) (Nat.le_refl _) _ D1 _ _ (by omega) d1 rfl rfl));have hQ:=(HQR.out.keepW k2).keepW k1;have hR:=(HRW.out.keepW k2).keepW k1;have e0:=bk1 (dH (k1.blk (k2.blk Ke3.out)));obtain⟨e1,e2⟩:=bk2 (dH (k1.blk (k2.blk Kf3.out)));have HP:Hid (FitG m n w (.returned (.tuple #[.agg #[.slice va m.length vc,.slice xa n xc],.int .i64 0])) ((y.putObj D2 (.deferred none)).putObj D1 (.deferred none))):=dH ⟨_,_,_,_,_,_,_,rfl,hQ,hR,HFX.out,hX⟩;clear hQ hR hX HQR HRW HX k1 k2 d1;generalize (y.putObj D2 (.deferred none)).putObj D1 (.deferred none)=y2 at *;refine⟨by simp,.inr ⟨fun _=>by omega,_,_,52,#[.pointer (some ⟨w.heap.size+2,0,none⟩)],rfl,by simp [go_sem],fun _ _=>trivial,(zAK 4 _ _).mono ?_⟩⟩;rintro e u' w' ⟨rfl,rfl,rfl⟩;refine⟨.tuple #[.agg #[.slice va m.length vc,.slice xa n xc],.int .i64 0],?_,HP.out⟩;simp [results,Tryz.results17,go_sem,e0,e1,e2]
end Go.Proofs.YtonkhcdmchidjaaGreat
