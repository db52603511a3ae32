import Derived.Test.YtonkhcdmchidjaaGreatPDivA
namespace Go.Proofs.YtonkhcdmchidjaaGreat
open Go.RowKit Go BigFrame
set_option maxRecDepth 100000
set_option linter.all false
theorem zMQ {z:Int} {n:Nat} (h:z.natAbs<1073741824 ^ n) (hn:n≤2048):Len z:=Nat.le_trans (zC8 h) hn
theorem zIk {z:Int} {n:Nat} (h:(digs z.natAbs).length≤n):z.natAbs<1073741824 ^ n:=by
 have h1:=zAy (zA4 z.natAbs).digs;rw [zAF] at h1;have h2:(1073741824:Int) ^ (digs z.natAbs).length≤1073741824 ^ n:=zC6 h;have h3:((z.natAbs:Nat):Int)< ((1073741824 ^ n:Nat):Int):=by rw [Int.natCast_pow];exact Int.lt_of_lt_of_le h1 h2
 exact Int.ofNat_lt.1 h3
theorem zBz {z:Int} {n:Nat} (h:z.natAbs<1073741824 ^ n) (hn:n≤2048):Len z:=zMQ h hn
theorem zBO {x y:Int} {n m:Nat} (hx:x.natAbs<1073741824 ^ n) (hy:y.natAbs<1073741824 ^ m):(x*y).natAbs<1073741824 ^ (n+m):=by
 rw [Int.natAbs_mul,Nat.pow_add];exact Nat.mul_lt_mul'' hx hy
theorem zM7 {x y:Int} {n:Nat} (hx:x.natAbs<1073741824 ^ n) (hy:y.natAbs<1073741824 ^ n):(x+y).natAbs<1073741824 ^ (n+1):=by
 rw [Nat.pow_succ];omega
theorem zNI {x y:Int} {n:Nat} (hx:x.natAbs<1073741824 ^ n) (hy:y.natAbs<1073741824 ^ n):((Int.gcd x y:Nat):Int).natAbs<1073741824 ^ n:=by
 rw [Int.natAbs_natCast];by_cases h:x=0
 ·subst h;rw [Int.gcd_zero_left];exact hy
 ·exact Nat.lt_of_le_of_lt (Nat.le_of_dvd (by omega) (Int.gcd_dvd_natAbs_left x y)) hx
theorem BigV.form {w:World} {v:Value} {z:Int} (h:BigV w v z):∃n a q c,v=.agg #[.bool n,.slice a q c]:=by
 obtain⟨n,l,⟨a,c,e,_⟩,_⟩:=h;exact⟨n,a,l.length,c,e⟩
theorem BigV.pos {n:Bool} {a:Option Addr} {q c:Nat} {z:Int} {w:World} (h:BigV w (.agg #[.bool n,.slice a q c]) z) (hz:0≤z):n=false:=by
 obtain⟨n',l,⟨a',c',e,hi⟩,hb⟩:=h;simp only [Value.agg.injEq,Array.mk.injEq,List.cons.injEq,Value.bool.injEq,Value.slice.injEq,and_true] at e;obtain⟨rfl,_⟩:=e;cases n
 ·rfl
 ·have h1:=hb.2.1 rfl;have h2:=zAL hb.1 h1;have h3:=hb.2.2;simp at h3;omega
theorem BigV.len0 {n:Bool} {a:Option Addr} {q c:Nat} {z:Int} {w:World} (h:BigV w (.agg #[.bool n,.slice a q c]) z):q=0↔z=0:=by
 obtain⟨n',l,⟨a',c',e,hi⟩,hb⟩:=h;simp only [Value.agg.injEq,Array.mk.injEq,List.cons.injEq,Value.bool.injEq,Value.slice.injEq,and_true] at e;obtain⟨rfl,rfl,rfl,rfl⟩:=e
 constructor
 ·intro h;obtain rfl:=List.length_eq_zero_iff.1 h;have:=hb.2.2;simp [zA1] at this;exact this
 ·intro h;by_cases hl:l=[]
  ·rw [hl];rfl
  ·have h1:=zAL hb.1 hl;have h2:=hb.2.2;rw [h] at h2
   split at h2 <;> omega
theorem BigV.le {n:Bool} {a:Option Addr} {q c:Nat} {z:Int} {w:World} (h:BigV w (.agg #[.bool n,.slice a q c]) z):q≤9223372036854775807:=by
 obtain⟨n',l,⟨a',c',e,hi⟩,hb⟩:=h;simp only [Value.agg.injEq,Array.mk.injEq,List.cons.injEq,Value.bool.injEq,Value.slice.injEq,and_true] at e;obtain⟨rfl,rfl,rfl,rfl⟩:=e;exact Nat.le_trans hi.le hi.mx
theorem BigV.box {w:World} {v:Value} {z:Int} {p:Nat} {b:Bool} {a:Option Addr} {q c:Nat} {t:TypeId} (h:BigV w v z) (hB:Blk w p #[.bool b,.slice a q c] t) (i:Nat) (u:Value):BigV (w.setCell ⟨p,i,none⟩ u) v z:=by
 obtain⟨n',l,⟨a',c',rfl,hi⟩,hb⟩:=h;refine⟨n',l,⟨a',c',rfl,hi.putS (fun hp A hA=>?_) u⟩,hb⟩;obtain⟨b0,o0,e0⟩:=hi.head hp;rw [e0] at hA hi;cases hA
 intro e;dsimp only at e;subst e;have h1:=(hi.cell (i:=0) hp).1;rw [Nat.add_zero] at h1;have hB':w.heap[b0]? =some (.cells #[.bool b,.slice a q c] t (0,0)):=hB;simp only [World.cell?,hB'] at h1
 match o0,h1 with
 | 0,h1=>simp at h1
 | 1,h1=>simp at h1
 | k+2,h1=>simp at h1
def RatV (w:World) (v:Value) (r:Rat):Prop:=∃ (n1:Bool) (a:Option Addr) (q c:Nat) (n2:Bool) (b:Option Addr) (k d:Nat),v=.agg #[.bool n1,.slice a q c,.bool n2,.slice b k d]∧BigV w (.agg #[.bool n1,.slice a q c]) r.num∧BigV w (.agg #[.bool n2,.slice b k d]) (r.den:Int)
theorem RatV.ext {w w':World} {v:Value} {r:Rat} (h:RatV w v r) (k:Ext w w'):RatV w' v r:=by
 obtain⟨n1,a,q,c,n2,b,k1,d,e,h1,h2⟩:=h;exact⟨n1,a,q,c,n2,b,k1,d,e,h1.ext k,h2.ext k⟩
theorem RatV.mk {w:World} {r:Rat} {n1 n2:Bool} {a b:Option Addr} {q c k d:Nat} (h1:BigV w (.agg #[.bool n1,.slice a q c]) r.num) (h2:BigV w (.agg #[.bool n2,.slice b k d]) (r.den:Int)):RatV w (.agg #[.bool n1,.slice a q c,.bool n2,.slice b k d]) r:=⟨_,_,_,_,_,_,_,_,rfl,h1,h2⟩
theorem RatV.form {w:World} {v:Value} {r:Rat} (h:RatV w v r):∃n1 a q c b k d,v=.agg #[.bool n1,.slice a q c,.bool false,.slice b k d]:=by
 obtain⟨n1,a,q,c,n2,b,k1,d,e,h1,h2⟩:=h;obtain rfl:=h2.pos (by omega);exact⟨_,_,_,_,_,_,_,e⟩
section
variable {w:World} {r:Rat} {n1 n2:Bool} {a b:Option Addr} {q c k d:Nat}
theorem RatV.num (h:RatV w (.agg #[.bool n1,.slice a q c,.bool n2,.slice b k d]) r):BigV w (.agg #[.bool n1,.slice a q c]) r.num:=by
 obtain⟨m1,a',q',c',m2,b',k',d',e,h1,h2⟩:=h;simp only [Value.agg.injEq,Array.mk.injEq,List.cons.injEq,Value.bool.injEq,Value.slice.injEq,and_true] at e;obtain⟨rfl,⟨rfl,rfl,rfl⟩,rfl,rfl,rfl,rfl⟩:=e;exact h1
theorem RatV.den (h:RatV w (.agg #[.bool n1,.slice a q c,.bool n2,.slice b k d]) r):BigV w (.agg #[.bool n2,.slice b k d]) (r.den:Int):=by
 obtain⟨m1,a',q',c',m2,b',k',d',e,h1,h2⟩:=h;simp only [Value.agg.injEq,Array.mk.injEq,List.cons.injEq,Value.bool.injEq,Value.slice.injEq,and_true] at e;obtain⟨rfl,⟨rfl,rfl,rfl⟩,rfl,rfl,rfl,rfl⟩:=e;exact h2
theorem RatV.num_len (h:RatV w (.agg #[.bool n1,.slice a q c,.bool n2,.slice b k d]) r):q=0↔r=0:=by
 rw [h.num.len0,Rat.num_eq_zero]
theorem RatV.neg_iff (h:RatV w (.agg #[.bool n1,.slice a q c,.bool n2,.slice b k d]) r):n1=decide (r<0):=by
 obtain⟨n',l,⟨a',c',e,hi⟩,hb⟩:=h.num;simp only [Value.agg.injEq,Array.mk.injEq,List.cons.injEq,Value.bool.injEq,Value.slice.injEq,and_true] at e;obtain⟨rfl,_⟩:=e;have h3:=(hb.inj (Big.of r.num)).1;rw [h3]
 congr 1
 have:=Rat.num_nonneg (q:=r);exact propext ⟨fun h=>Rat.not_le.1 (fun h'=>by have:=this.2 h';omega),fun h=>by have h4:=mt this.1 (Rat.not_le.2 h);omega⟩
end
theorem BigN.two {w:World} {v:Value} {z:Int} {B:Nat} (h:BigN w v z B):∃n a q c,v=.agg #[.bool n,.slice a q c]∧BigV w (.agg #[.bool n,.slice a q c]) z∧∀A,a=some A→B≤A.block:=by
 have hv:=h.val;obtain⟨n,a,c,l,rfl,hi,hb,hB⟩:=h;exact⟨n,a,l.length,c,rfl,hv,hB⟩
def RatN (w:World) (v:Value) (r:Rat) (B:Nat):Prop:=∃ (n1:Bool) (a:Option Addr) (q c:Nat) (b:Option Addr) (k d:Nat),v=.agg #[.bool n1,.slice a q c,.bool false,.slice b k d]∧RatV w (.agg #[.bool n1,.slice a q c,.bool false,.slice b k d]) r∧(∀A,a=some A→B≤A.block)∧(∀A,b=some A→B≤A.block)
theorem RatN.val {w:World} {v:Value} {r:Rat} {B:Nat} (h:RatN w v r B):RatV w v r:=by
 obtain⟨_,_,_,_,_,_,_,rfl,h,_⟩:=h;exact h
theorem RatN.ext {w w':World} {v:Value} {r:Rat} {B:Nat} (h:RatN w v r B) (k:Ext w w'):RatN w' v r B:=by
 obtain⟨n1,a,q,c,b,k1,d,e,h1,h2⟩:=h;exact⟨n1,a,q,c,b,k1,d,e,h1.ext k,h2⟩
theorem RatN.base {w:World} {v:Value} {r:Rat} {B B':Nat} (h:RatN w v r B) (hB:B'≤B):RatN w v r B':=by
 obtain⟨n1,a,q,c,b,k1,d,e,h1,h2,h3⟩:=h;exact⟨n1,a,q,c,b,k1,d,e,h1,fun A hA=>Nat.le_trans hB (h2 A hA),fun A hA=>Nat.le_trans hB (h3 A hA)⟩
def noInt (cs:Array Value):Prop:=∀ (i:Nat) (n:Int),cs[i]? =some (Value.int .i64 n)→n=0
theorem noInt.set {cs:Array Value} (h:noInt cs) (i:Nat) {v:Value} (hv:∀n,v=Value.int .i64 n→n=0):noInt (cs.setIfInBounds i v):=by
 intro j n hj;rw [Array.getElem?_setIfInBounds] at hj
 split at hj
 ·split at hj
  ·exact hv n (Option.some.inj hj)
  ·cases hj
 ·exact h j n hj
def zCm (cs:Array Value):Bool:=cs.toList.all fun v=>match v with
 | .int .i64 n=>n == 0
 | _=>true
theorem zAc {cs:Array Value} (h:zCm cs=true):noInt cs:=by
 intro i n hi;have hm:Value.int .i64 n∈cs.toList:=by
  obtain⟨hl,e⟩:=Array.getElem?_eq_some_iff.1 hi;rw [←e];exact Array.getElem_mem_toList hl
 have:=List.all_eq_true.1 h _ hm
 simpa using this
theorem BigV.put {w:World} {v:Value} {z:Int} {p:Nat} {cs:Array Value} {t:TypeId} (h:BigV w v z) (hB:Blk w p cs t) (hc:noInt cs) (i:Nat) (u:Value):BigV (w.setCell ⟨p,i,none⟩ u) v z:=by
 obtain⟨n',l,⟨a',c',rfl,hi⟩,hb⟩:=h;refine⟨n',l,⟨a',c',rfl,hi.putS (fun hp A hA=>?_) u⟩,hb⟩;obtain⟨b0,o0,e0⟩:=hi.head hp;rw [e0] at hA hi;cases hA
 intro e;dsimp only at e;subst e;have hl:l≠[]:=List.ne_nil_of_length_pos hp;have h1:=(hi.cell (i:=l.length - 1) (by omega)).1;have hB':w.heap[b0]? =some (.cells cs t (0,0)):=hB;simp only [World.cell?,hB'] at h1;have h2:l[l.length - 1]'(by omega)=0:=by
  refine hc (o0+ (l.length - 1)) _ ?_
  simpa using h1
 have h3:=(zEl.1 hb.1).2 hl;rw [List.getLast_eq_getElem] at h3;exact h3 h2
theorem RatV.put {w:World} {v:Value} {r:Rat} {p:Nat} {cs:Array Value} {t:TypeId} (h:RatV w v r) (hB:Blk w p cs t) (hc:noInt cs) (i:Nat) (u:Value):RatV (w.setCell ⟨p,i,none⟩ u) v r:=by
 obtain⟨n1,a,q,c,n2,b,k1,d,e,h1,h2⟩:=h;exact⟨n1,a,q,c,n2,b,k1,d,e,h1.put hB hc i u,h2.put hB hc i u⟩
theorem zEy {z y:Int} (hy:0<y):(Rat.divInt z y).num=z / ((Int.gcd z y:Nat):Int)∧((Rat.divInt z y).den:Int)=y / ((Int.gcd z y:Nat):Int):=by
 rw [Rat.num_divInt,Rat.den_divInt,if_neg (by omega),Int.sign_eq_one_of_pos hy,Int.one_mul,Int.gcd_comm y z];refine⟨rfl,?_⟩;rw [Int.natCast_ediv,Int.natAbs_of_nonneg (by omega)]
theorem zG1 {z y:Int} (hy:y<0):(Rat.divInt z y).num= -(z / ((Int.gcd z y:Nat):Int))∧((Rat.divInt z y).den:Int)= -(y / ((Int.gcd z y:Nat):Int)):=by
 have h:=zEy (z:=-z) (y:=-y) (by omega);rw [Rat.neg_divInt_neg] at h;have hg:Int.gcd (-z) (-y)=Int.gcd z y:=by rw [Int.neg_gcd,Int.gcd_neg]
 rw [hg,Int.neg_ediv_of_dvd (Int.gcd_dvd_left z y),Int.neg_ediv_of_dvd (Int.gcd_dvd_right z y)] at h;exact h
theorem zMR (r:Rat):Int.gcd r.num (r.den:Int)=1:=by
 have:=r.reduced;unfold Nat.Coprime at this;rw [Int.gcd,Int.natAbs_natCast];exact this
theorem zBA (r:Rat):(0:Int)<r.den:=by have:=r.den_nz;omega
def Sz (r:Rat) (k:Nat):Prop:=r.num.natAbs<1073741824 ^ k∧r.den<1073741824 ^ k
theorem Sz.mono {r:Rat} {k j:Nat} (h:Sz r k) (hj:k≤j):Sz r j:=by
 have h1:(1073741824:Nat) ^ k≤1073741824 ^ j:=Nat.pow_le_pow_right (by omega) hj;exact⟨Nat.lt_of_lt_of_le h.1 h1,Nat.lt_of_lt_of_le h.2 h1⟩
theorem Sz.lenN {r:Rat} {k:Nat} (h:Sz r k) (hk:k≤2048):Len r.num:=zBz h.1 hk
theorem Sz.lenD {r:Rat} {k:Nat} (h:Sz r k) (hk:k≤2048):Len (r.den:Int):=zBz (by rw [Int.natAbs_natCast];exact h.2) hk
theorem Sz.neg {r:Rat} {k:Nat} (h:Sz r k):Sz (-r) k:=⟨by rw [Rat.neg_num,Int.natAbs_neg];exact h.1,h.2⟩
theorem Sz.den {r:Rat} {k:Nat} (h:Sz r k):((r.den:Int)).natAbs<1073741824 ^ k:=by rw [Int.natAbs_natCast];exact h.2
theorem zEz {z y:Int} {k:Nat} (h:z.natAbs<1073741824 ^ k):(z / ((Int.gcd z y:Nat):Int)).natAbs<1073741824 ^ k:=by
 rw [Int.natAbs_ediv_of_dvd (Int.gcd_dvd_left z y),Int.natAbs_natCast];exact Nat.lt_of_le_of_lt (Nat.div_le_self _ _) h
theorem zBk {z y:Int} {k:Nat} (h1:z.natAbs<1073741824 ^ k) (h2:y.natAbs<1073741824 ^ k) (hy:y≠0):Sz (Rat.divInt z y) k:=by
 have e2:(y / ((Int.gcd z y:Nat):Int)).natAbs<1073741824 ^ k:=by rw [Int.gcd_comm];exact zEz h2
 have e1:(z / ((Int.gcd z y:Nat):Int)).natAbs<1073741824 ^ k:=zEz h1;rcases Int.lt_or_gt_of_ne hy with h | h
 ·obtain⟨a,b⟩:=zG1 (z:=z) h;refine⟨by rw [a,Int.natAbs_neg];exact e1,?_⟩;have:((Rat.divInt z y).den:Int).natAbs<1073741824 ^ k:=by rw [b,Int.natAbs_neg];exact e2
  rwa [Int.natAbs_natCast] at this
 ·obtain⟨a,b⟩:=zEy (z:=z) h;refine⟨by rw [a];exact e1,?_⟩;have:((Rat.divInt z y).den:Int).natAbs<1073741824 ^ k:=by rw [b];exact e2
  rwa [Int.natAbs_natCast] at this
theorem zFt (r s:Rat):r+s=Rat.divInt (r.num*s.den+s.num*r.den) ((r.den:Int)*s.den):=by
 rw [←Int.natCast_mul,Rat.divInt_ofNat,Rat.add_def']
theorem zFu (r s:Rat):r*s=Rat.divInt (r.num*s.num) ((r.den:Int)*s.den):=by
 rw [←Int.natCast_mul,Rat.divInt_ofNat,Rat.mul_def']
theorem zIY (r s:Rat):r / s=Rat.divInt (r.num*s.den) ((r.den:Int)*s.num):=by
 rw [Rat.div_def,Rat.inv_def,←Rat.divInt_mul_divInt,Rat.num_divInt_den]
theorem zCD (r s:Rat):(r.den:Int)*s.den≠0:=Int.ne_of_gt (Int.mul_pos (zBA r) (zBA s))
theorem zIZ (r:Rat) {s:Rat} (hs:s≠0):(r.den:Int)*s.num≠0:=Int.mul_ne_zero (Int.ne_of_gt (zBA r)) (fun e=>hs (Rat.num_eq_zero.1 e))
theorem zHG {x n:Nat} (h:x<1073741824 ^ n):x<1073741824 ^ (n+1):=Nat.lt_of_lt_of_le h (Nat.pow_le_pow_right (by omega) (by omega))
theorem Sz.add {r s:Rat} {i j:Nat} (h:Sz r i) (k:Sz s j):Sz (r+s) (i+j+1):=by
 rw [zFt];exact zBk (zM7 (zBO h.1 k.den) (by rw [Nat.add_comm i j];exact zBO k.1 h.den)) (zHG (zBO h.den k.den)) (zCD r s)
theorem Sz.sub {r s:Rat} {i j:Nat} (h:Sz r i) (k:Sz s j):Sz (r - s) (i+j+1):=by
 rw [Rat.sub_eq_add_neg];exact h.add k.neg
theorem Sz.mul {r s:Rat} {i j:Nat} (h:Sz r i) (k:Sz s j):Sz (r*s) (i+j):=by
 rw [zFu];exact zBk (zBO h.1 k.1) (zBO h.den k.den) (zCD r s)
def cmpR (r s:Rat):Int:=if r<s then -1 else if s<r then 1 else 0
def okR (n1:Bool) (l:List Int) (n2:Bool) (m:List Int):Bool:=zBI n1 l && zBI n2 m && !n2 && decide (0<m.length) && decide (Int.gcd (sgn n1 (zA1 l)) (sgn n2 (zA1 m))=1)
theorem zJG {n1 n2:Bool} {l m:List Int}:okR n1 l n2 m=true↔zBI n1 l=true∧zBI n2 m=true∧n2=false∧0<m.length∧Int.gcd (sgn n1 (zA1 l)) (sgn n2 (zA1 m))=1:=by
 unfold okR;simp only [Bool.and_eq_true,decide_eq_true_eq,Bool.not_eq_true'];exact⟨fun⟨⟨⟨⟨a,b⟩,c⟩,d⟩,e⟩=>⟨a,b,c,d,e⟩,fun⟨a,b,c,d,e⟩=>⟨⟨⟨⟨a,b⟩,c⟩,d⟩,e⟩⟩
theorem zJH {n1 n2:Bool} {l m:List Int} (h:okR n1 l n2 m=true):∃r:Rat,Big n1 l r.num∧Big n2 m (r.den:Int)∧r.num.natAbs<1073741824 ^ l.length∧r.den<1073741824 ^ m.length∧l.length≤2048∧m.length≤2048:=by
 obtain⟨c1,c2,rfl,hm,hg⟩:=zJG.1 h;obtain⟨b1,k1⟩:=zAu c1;obtain⟨b2,k2⟩:=zAu c2;have hp:=zAL b2.1 (List.ne_nil_of_length_pos hm);have e2:sgn false (zA1 m)=zA1 m:=rfl;have e3:((zA1 m).toNat:Int)=zA1 m:=by omega
 rw [e2] at b2 hg;have hr:(sgn n1 (zA1 l)).natAbs.Coprime (zA1 m).toNat:=by
  have:(zA1 m).natAbs= (zA1 m).toNat:=by omega
  unfold Nat.Coprime;rw [←this];exact hg
 refine⟨⟨sgn n1 (zA1 l),(zA1 m).toNat,by omega,hr⟩,b1,by rw [e3];exact b2,?_,?_,k1,k2⟩
 ·exact zIk (by rw [←b1.digs];exact Nat.le_refl _)
 ·have:=zIk (z:=zA1 m) (n:=m.length) (by rw [←b2.digs];exact Nat.le_refl _);dsimp only;omega
theorem zNJ {w:World} {n1 n2:Bool} {l m:List Int} {a b:Option Addr} {c d:Nat} (ha:Ints w a c l) (hb:Ints w b d m) {r:Rat} (h1:Big n1 l r.num) (h2:Big n2 m (r.den:Int)):RatV w (.agg #[.bool n1,.slice a l.length c,.bool n2,.slice b m.length d]) r:=
 RatV.mk ⟨n1,l,⟨a,c,rfl,ha⟩,h1⟩ ⟨n2,m,⟨b,d,rfl,hb⟩,h2⟩
theorem zHH {n1 n2:Bool} {l m:List Int} {r:Rat} (h1:Big n1 l r.num) (h2:Big n2 m (r.den:Int)) (k1:Len r.num) (k2:Len (r.den:Int)):okR n1 l n2 m=true:=by
 have e1:=h1.2.2;have e2:=h2.2.2;have hp:=zBA r;have h0:=zA2 h2.1.digs;refine zJG.2 ⟨h1.chk k1,h2.chk k2,?_,?_,?_⟩
 ·cases n2
  ·rfl
  ·simp at e2;omega
 ·refine List.length_pos_iff.2 fun e=>?_;rw [e] at e2;simp [zA1] at e2;omega
 ·have g1:sgn n1 (zA1 l)=r.num:=e1.symm;have g2:sgn n2 (zA1 m)= (r.den:Int):=e2.symm;rw [g1,g2];exact zMR r
theorem zA0 {w W:World} {g o:Nat} {v:Value} (hx:Ext w W) (h:w.cell? ⟨g,o,none⟩=some v):W.cell? ⟨g,o,none⟩=some v:=(hx.cell (p:=⟨g,o,none⟩) (zAd h)).trans h
theorem BigV.parts {w:World} {n:Bool} {a:Option Addr} {q c:Nat} {z:Int} (h:BigV w (.agg #[.bool n,.slice a q c]) z):∃l:List Int,l.length=q∧Ints w a c l∧Big n l z:=by
 obtain⟨n',l,⟨a',c',e,hi⟩,hb⟩:=h;simp only [Value.agg.injEq,Array.mk.injEq,List.cons.injEq,Value.bool.injEq,Value.slice.injEq,and_true] at e;obtain⟨rfl,rfl,rfl,rfl⟩:=e;exact⟨l,rfl,hi,hb⟩
section
variable {w w':World} {b:Nat} {cs:Array Value} {t:TypeId}
theorem kE (h:Hid (Blk w b cs t)) (k:Ext w w'):Hid (Blk w' b cs t):=dH (h.out.ext k)
theorem bk1 {u0:Value} (h:Hid (Blk w b #[u0] t)):w.cell? ⟨b,0,none⟩=some u0:=h.out.cell rfl
theorem bp1 {u0:Value} (h:Hid (Blk w b #[u0] t)) (v0:Value):World.cell? (w) ⟨b,0,none⟩=some u0∧World.frozen? (w) ⟨b,0,none⟩=false:=⟨(h.out).cell rfl,(h.out).free 0⟩
theorem bs1 {u0:Value} (h:Hid (Blk w b #[u0] t)) (v0:Value):Hid (Blk (w.setCell ⟨b,0,none⟩ v0) b #[v0] t):=dH (show Blk _ _ #[v0] t from(h.out).set 0 v0)
theorem bo1 (h:Hid (Blk w b cs t)) (c:Nat) (v0:Value) (hp:b≠c):Hid (Blk (w.setCell ⟨c,0,none⟩ v0) b cs t):=dH ((h.out).other (p:=⟨c,0,none⟩) hp v0)
theorem bv1 {v:Value} {z:Int} {u0:Value} (h:Hid (BigV w v z)) (k:Hid (Blk w b #[u0] t)) (v0:Value) (n0:zCm #[u0]=true):Hid (BigV (w.setCell ⟨b,0,none⟩ v0) v z):=by
 have a0:=h.out;have b0:=k.out;have a1:=a0.put b0 (zAc n0) 0 v0;exact dH a1
theorem rv1 {v:Value} {z:Rat} {u0:Value} (h:Hid (RatV w v z)) (k:Hid (Blk w b #[u0] t)) (v0:Value) (n0:zCm #[u0]=true):Hid (RatV (w.setCell ⟨b,0,none⟩ v0) v z):=by
 have a0:=h.out;have b0:=k.out;have a1:=a0.put b0 (zAc n0) 0 v0;exact dH a1
theorem bx1 {a:World} (h:Ext a w) (b:Nat) (v0:Value) (hp:a.heap.size≤b):Ext a (w.setCell ⟨b,0,none⟩ v0):=(h).set (p:=⟨b,0,none⟩) hp v0
theorem bf1 {q:Nat} {j:Nat} {y:Value} (h:w.cell? ⟨q,j,none⟩=some y) (b:Nat) (v0:Value) (hp:b≠q):World.cell? (w.setCell ⟨b,0,none⟩ v0) ⟨q,j,none⟩=some y:=by
 rw [World.cell?_setCell_far _ _ _ _ (by dsimp only;exact hp)];exact h
theorem bk2 {u0 u1:Value} (h:Hid (Blk w b #[u0,u1] t)):w.cell? ⟨b,0,none⟩=some u0∧w.cell? ⟨b,1,none⟩=some u1:=⟨h.out.cell rfl,h.out.cell rfl⟩
theorem bp2 {u0 u1:Value} (h:Hid (Blk w b #[u0,u1] t)) (v0 v1:Value):World.cell? (w) ⟨b,0,none⟩=some u0∧World.frozen? (w) ⟨b,0,none⟩=false∧World.cell? (w.setCell ⟨b,0,none⟩ v0) ⟨b,1,none⟩=some u1∧World.frozen? (w.setCell ⟨b,0,none⟩ v0) ⟨b,1,none⟩=false:=⟨(h.out).cell rfl,(h.out).free 0,((h.out).set 0 v0).cell rfl,((h.out).set 0 v0).free 1⟩
theorem bs2 {u0 u1:Value} (h:Hid (Blk w b #[u0,u1] t)) (v0 v1:Value):Hid (Blk ((w.setCell ⟨b,0,none⟩ v0).setCell ⟨b,1,none⟩ v1) b #[v0,v1] t):=dH (show Blk _ _ #[v0,v1] t from((h.out).set 0 v0).set 1 v1)
theorem bo2 (h:Hid (Blk w b cs t)) (c:Nat) (v0 v1:Value) (hp:b≠c):Hid (Blk ((w.setCell ⟨c,0,none⟩ v0).setCell ⟨c,1,none⟩ v1) b cs t):=dH (((h.out).other (p:=⟨c,0,none⟩) hp v0).other (p:=⟨c,1,none⟩) hp v1)
theorem bx2 {a:World} (h:Ext a w) (b:Nat) (v0 v1:Value) (hp:a.heap.size≤b):Ext a ((w.setCell ⟨b,0,none⟩ v0).setCell ⟨b,1,none⟩ v1):=((h).set (p:=⟨b,0,none⟩) hp v0).set (p:=⟨b,1,none⟩) hp v1
theorem bk4 {u0 u1 u2 u3:Value} (h:Hid (Blk w b #[u0,u1,u2,u3] t)):w.cell? ⟨b,0,none⟩=some u0∧w.cell? ⟨b,1,none⟩=some u1∧w.cell? ⟨b,2,none⟩=some u2∧w.cell? ⟨b,3,none⟩=some u3:=⟨h.out.cell rfl,h.out.cell rfl,h.out.cell rfl,h.out.cell rfl⟩
theorem bp4 {u0 u1 u2 u3:Value} (h:Hid (Blk w b #[u0,u1,u2,u3] t)) (v0 v1 v2 v3:Value):World.cell? (w) ⟨b,0,none⟩=some u0∧World.frozen? (w) ⟨b,0,none⟩=false∧World.cell? (w.setCell ⟨b,0,none⟩ v0) ⟨b,1,none⟩=some u1∧World.frozen? (w.setCell ⟨b,0,none⟩ v0) ⟨b,1,none⟩=false∧World.cell? ((w.setCell ⟨b,0,none⟩ v0).setCell ⟨b,1,none⟩ v1) ⟨b,2,none⟩=some u2∧World.frozen? ((w.setCell ⟨b,0,none⟩ v0).setCell ⟨b,1,none⟩ v1) ⟨b,2,none⟩=false∧World.cell? (((w.setCell ⟨b,0,none⟩ v0).setCell ⟨b,1,none⟩ v1).setCell ⟨b,2,none⟩ v2) ⟨b,3,none⟩=some u3∧World.frozen? (((w.setCell ⟨b,0,none⟩ v0).setCell ⟨b,1,none⟩ v1).setCell ⟨b,2,none⟩ v2) ⟨b,3,none⟩=false:=⟨(h.out).cell rfl,(h.out).free 0,((h.out).set 0 v0).cell rfl,((h.out).set 0 v0).free 1,(((h.out).set 0 v0).set 1 v1).cell rfl,(((h.out).set 0 v0).set 1 v1).free 2,((((h.out).set 0 v0).set 1 v1).set 2 v2).cell rfl,((((h.out).set 0 v0).set 1 v1).set 2 v2).free 3⟩
theorem bs4 {u0 u1 u2 u3:Value} (h:Hid (Blk w b #[u0,u1,u2,u3] t)) (v0 v1 v2 v3:Value):Hid (Blk ((((w.setCell ⟨b,0,none⟩ v0).setCell ⟨b,1,none⟩ v1).setCell ⟨b,2,none⟩ v2).setCell ⟨b,3,none⟩ v3) b #[v0,v1,v2,v3] t):=dH (show Blk _ _ #[v0,v1,v2,v3] t from((((h.out).set 0 v0).set 1 v1).set 2 v2).set 3 v3)
theorem bo4 (h:Hid (Blk w b cs t)) (c:Nat) (v0 v1 v2 v3:Value) (hp:b≠c):Hid (Blk ((((w.setCell ⟨c,0,none⟩ v0).setCell ⟨c,1,none⟩ v1).setCell ⟨c,2,none⟩ v2).setCell ⟨c,3,none⟩ v3) b cs t):=dH (((((h.out).other (p:=⟨c,0,none⟩) hp v0).other (p:=⟨c,1,none⟩) hp v1).other (p:=⟨c,2,none⟩) hp v2).other (p:=⟨c,3,none⟩) hp v3)
theorem bv4 {v:Value} {z:Int} {u0 u1 u2 u3:Value} (h:Hid (BigV w v z)) (k:Hid (Blk w b #[u0,u1,u2,u3] t)) (v0 v1 v2 v3:Value) (n0:zCm #[u0,u1,u2,u3]=true) (n1:zCm #[v0,u1,u2,u3]=true) (n2:zCm #[v0,v1,u2,u3]=true) (n3:zCm #[v0,v1,v2,u3]=true):Hid (BigV ((((w.setCell ⟨b,0,none⟩ v0).setCell ⟨b,1,none⟩ v1).setCell ⟨b,2,none⟩ v2).setCell ⟨b,3,none⟩ v3) v z):=by
 have a0:=h.out;have b0:=k.out;have a1:=a0.put b0 (zAc n0) 0 v0;have b1:Blk _ _ #[v0,u1,u2,u3] t:=b0.set 0 v0;have a2:=a1.put b1 (zAc n1) 1 v1;have b2:Blk _ _ #[v0,v1,u2,u3] t:=b1.set 1 v1;have a3:=a2.put b2 (zAc n2) 2 v2;have b3:Blk _ _ #[v0,v1,v2,u3] t:=b2.set 2 v2;have a4:=a3.put b3 (zAc n3) 3 v3;exact dH a4
theorem rv4 {v:Value} {z:Rat} {u0 u1 u2 u3:Value} (h:Hid (RatV w v z)) (k:Hid (Blk w b #[u0,u1,u2,u3] t)) (v0 v1 v2 v3:Value) (n0:zCm #[u0,u1,u2,u3]=true) (n1:zCm #[v0,u1,u2,u3]=true) (n2:zCm #[v0,v1,u2,u3]=true) (n3:zCm #[v0,v1,v2,u3]=true):Hid (RatV ((((w.setCell ⟨b,0,none⟩ v0).setCell ⟨b,1,none⟩ v1).setCell ⟨b,2,none⟩ v2).setCell ⟨b,3,none⟩ v3) v z):=by
 have a0:=h.out;have b0:=k.out;have a1:=a0.put b0 (zAc n0) 0 v0;have b1:Blk _ _ #[v0,u1,u2,u3] t:=b0.set 0 v0;have a2:=a1.put b1 (zAc n1) 1 v1;have b2:Blk _ _ #[v0,v1,u2,u3] t:=b1.set 1 v1;have a3:=a2.put b2 (zAc n2) 2 v2;have b3:Blk _ _ #[v0,v1,v2,u3] t:=b2.set 2 v2;have a4:=a3.put b3 (zAc n3) 3 v3;exact dH a4
theorem bx4 {a:World} (h:Ext a w) (b:Nat) (v0 v1 v2 v3:Value) (hp:a.heap.size≤b):Ext a ((((w.setCell ⟨b,0,none⟩ v0).setCell ⟨b,1,none⟩ v1).setCell ⟨b,2,none⟩ v2).setCell ⟨b,3,none⟩ v3):=((((h).set (p:=⟨b,0,none⟩) hp v0).set (p:=⟨b,1,none⟩) hp v1).set (p:=⟨b,2,none⟩) hp v2).set (p:=⟨b,3,none⟩) hp v3
theorem bf4 {q:Nat} {j:Nat} {y:Value} (h:w.cell? ⟨q,j,none⟩=some y) (b:Nat) (v0 v1 v2 v3:Value) (hp:b≠q):World.cell? ((((w.setCell ⟨b,0,none⟩ v0).setCell ⟨b,1,none⟩ v1).setCell ⟨b,2,none⟩ v2).setCell ⟨b,3,none⟩ v3) ⟨q,j,none⟩=some y:=by
 rw [World.cell?_setCell_far _ _ _ _ (by dsimp only;exact hp)];rw [World.cell?_setCell_far _ _ _ _ (by dsimp only;exact hp)];rw [World.cell?_setCell_far _ _ _ _ (by dsimp only;exact hp)];rw [World.cell?_setCell_far _ _ _ _ (by dsimp only;exact hp)];exact h
theorem zCh (w:World) (c1:Array Value) (t1:TypeId):∃x,w.alloc (.cells c1 t1)=x∧Ext w x∧Hid (Blk x (w.heap.size) c1 t1):=⟨_,rfl,(Ext.refl w).alloc' (.cells c1 t1),dH (by have h:=Blk.new0 w c1 t1;simpa [Nat.add_assoc] using h)⟩
theorem zGI (w:World) (c1:Array Value) (t1:TypeId) (c2:Array Value) (t2:TypeId):∃x,(w.alloc (.cells c1 t1)).alloc (.cells c2 t2)=x∧Ext w x∧Hid (Blk x (w.heap.size) c1 t1)∧Hid (Blk x (w.heap.size+1) c2 t2):=⟨_,rfl,((Ext.refl w).alloc' (.cells c1 t1)).alloc' (.cells c2 t2),dH (by have h:=(Blk.new0 w c1 t1).alloc (.cells c2 t2);simpa [Nat.add_assoc] using h),dH (by have h:=Blk.new0 (w.alloc (.cells c1 t1)) c2 t2;simpa [Nat.add_assoc] using h)⟩
theorem zGJ (w:World) (c1:Array Value) (t1:TypeId) (c2:Array Value) (t2:TypeId) (c3:Array Value) (t3:TypeId):∃x,((w.alloc (.cells c1 t1)).alloc (.cells c2 t2)).alloc (.cells c3 t3)=x∧Ext w x∧Hid (Blk x (w.heap.size) c1 t1)∧Hid (Blk x (w.heap.size+1) c2 t2)∧Hid (Blk x (w.heap.size+2) c3 t3):=⟨_,rfl,(((Ext.refl w).alloc' (.cells c1 t1)).alloc' (.cells c2 t2)).alloc' (.cells c3 t3),dH (by have h:=((Blk.new0 w c1 t1).alloc (.cells c2 t2)).alloc (.cells c3 t3);simpa [Nat.add_assoc] using h),dH (by have h:=(Blk.new0 (w.alloc (.cells c1 t1)) c2 t2).alloc (.cells c3 t3);simpa [Nat.add_assoc] using h),dH (by have h:=Blk.new0 ((w.alloc (.cells c1 t1)).alloc (.cells c2 t2)) c3 t3;simpa [Nat.add_assoc] using h)⟩
theorem zHI (w:World) (c1:Array Value) (t1:TypeId) (c2:Array Value) (t2:TypeId) (c3:Array Value) (t3:TypeId) (c4:Array Value) (t4:TypeId):∃x,(((w.alloc (.cells c1 t1)).alloc (.cells c2 t2)).alloc (.cells c3 t3)).alloc (.cells c4 t4)=x∧Ext w x∧Hid (Blk x (w.heap.size) c1 t1)∧Hid (Blk x (w.heap.size+1) c2 t2)∧Hid (Blk x (w.heap.size+2) c3 t3)∧Hid (Blk x (w.heap.size+3) c4 t4):=⟨_,rfl,((((Ext.refl w).alloc' (.cells c1 t1)).alloc' (.cells c2 t2)).alloc' (.cells c3 t3)).alloc' (.cells c4 t4),dH (by have h:=(((Blk.new0 w c1 t1).alloc (.cells c2 t2)).alloc (.cells c3 t3)).alloc (.cells c4 t4);simpa [Nat.add_assoc] using h),dH (by have h:=((Blk.new0 (w.alloc (.cells c1 t1)) c2 t2).alloc (.cells c3 t3)).alloc (.cells c4 t4);simpa [Nat.add_assoc] using h),dH (by have h:=(Blk.new0 ((w.alloc (.cells c1 t1)).alloc (.cells c2 t2)) c3 t3).alloc (.cells c4 t4);simpa [Nat.add_assoc] using h),dH (by have h:=Blk.new0 (((w.alloc (.cells c1 t1)).alloc (.cells c2 t2)).alloc (.cells c3 t3)) c4 t4;simpa [Nat.add_assoc] using h)⟩
end
end Go.Proofs.YtonkhcdmchidjaaGreat
