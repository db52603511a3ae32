import Derived.Test.YtolffmmkjnhkkaaGreatBase
namespace Go.Proofs.YtolffmmkjnhkkaaGreat
open Go.RowKit Go
def dval:List Int→Int
 | []=>0
 | d :: l=>d+1073741824*dval l
def Norm:List Int→Prop
 | []=>True
 | d :: l=>0≤d∧d<1073741824∧(l=[]→d≠0)∧Norm l
def Digs (l:List Int):Prop:=∀d∈l,0≤d∧d<1073741824
theorem Norm.digs:∀{l:List Int},Norm l→Digs l
 | [],_=>fun d hd=>by simp at hd
 | d :: l,h=>fun x hx=>by
  rcases List.mem_cons.1 hx with rfl | hx
  ·exact⟨h.1,h.2.1⟩
  ·exact Norm.digs h.2.2.2 x hx
theorem Digs.tail {d:Int} {l:List Int} (h:Digs (d :: l)):Digs l:=fun x hx=>h x (by simp [hx])
theorem Digs.head {d:Int} {l:List Int} (h:Digs (d :: l)):0≤d∧d<1073741824:=h d (by simp)
theorem Digs.cons {d:Int} {l:List Int} (h1:0≤d∧d<1073741824) (h:Digs l):Digs (d :: l):=fun x hx=>by
 rcases List.mem_cons.1 hx with rfl | hx
 ·exact h1
 ·exact h x hx
theorem Digs.append {l m:List Int} (h:Digs l) (k:Digs m):Digs (l ++ m):=fun x hx=>(List.mem_append.1 hx).elim (h x) (k x)
theorem Digs.take {l:List Int} (h:Digs l) (n:Nat):Digs (l.take n):=fun x hx=>h x (List.mem_of_mem_take hx)
theorem Digs.drop {l:List Int} (h:Digs l) (n:Nat):Digs (l.drop n):=fun x hx=>h x (List.mem_of_mem_drop hx)
theorem Digs.getD {l:List Int} (h:Digs l) (i:Nat):0≤l.getD i 0∧l.getD i 0<1073741824:=by
 by_cases hi:i<l.length
 ·simp only [List.getD,List.getElem?_eq_getElem hi,Option.getD_some];exact h _ (List.getElem_mem hi)
 ·simp [List.getD,Nat.le_of_not_lt hi]
theorem dval_nonneg:∀{l:List Int},Digs l→0≤dval l
 | [],_=>Int.le_refl _
 | d :: l,h=>by have:=dval_nonneg h.tail;have:=h.head;simp only [dval];omega
theorem dval_pos:∀{l:List Int},Norm l→l≠[]→0<dval l
 | [],_,h=>absurd rfl h
 | d :: l,h,_=>by
  obtain⟨h1,h2,h3,h4⟩:=h
  simp only [dval]
  by_cases hl:l=[]
  ·have:=h3 hl;subst hl;simp [dval];omega
  ·have:=dval_pos h4 hl;omega
theorem dval_append (l m:List Int):dval (l ++ m)=dval l+1073741824 ^ l.length*dval m:=by
 induction l with
 | nil=>simp [dval]
 | cons d l ih=>
  simp only [List.cons_append,dval,ih,List.length_cons,Int.pow_succ]
  rw [Int.mul_add,Int.mul_comm (1073741824 ^ l.length) 1073741824,Int.mul_assoc]
  omega
theorem dval_lt:∀{l:List Int},Digs l→dval l<1073741824 ^ l.length
 | [],_=>by simp [dval]
 | d :: l,h=>by
  have h1:=dval_lt h.tail
  have h2:=h.head
  simp only [dval,List.length_cons,Int.pow_succ]
  omega
theorem dval_ge:∀{l:List Int},Norm l→l≠[]→1073741824 ^ (l.length - 1)≤dval l
 | [],_,h=>absurd rfl h
 | d :: l,h,_=>by
  obtain⟨h1,h2,h3,h4⟩:=h
  simp only [dval,List.length_cons,Nat.add_sub_cancel]
  by_cases hl:l=[]
  ·subst hl;have:=h3 rfl;simp [dval];omega
  ·have h5:=dval_ge h4 hl
   obtain⟨n,hn⟩:∃n,l.length=n+1:=⟨l.length - 1,by have:=List.length_pos_iff.2 hl;omega⟩
   rw [hn] at h5 ⊢
   simp only [Nat.add_sub_cancel] at h5
   rw [Int.pow_succ]
   omega
theorem norm_inj:∀{l m:List Int},Norm l→Norm m→dval l=dval m→l=m
 | [],[],_,_,_=>rfl
 | [],d :: m,_,hm,h=>by have:=dval_pos hm (by simp);simp only [dval] at h this;omega
 | d :: l,[],hl,_,h=>by have:=dval_pos hl (by simp);simp only [dval] at h this;omega
 | d :: l,e :: m,hl,hm,h=>by
  obtain⟨a1,a2,_,a4⟩:=hl
  obtain⟨b1,b2,_,b4⟩:=hm
  simp only [dval] at h
  have hd:d=e:=by omega
  rw [norm_inj a4 b4 (by omega),hd]
theorem norm_snoc:∀{l:List Int} {d:Int},Digs l→0<d→d<1073741824→Norm (l ++ [d])
 | [],d,_,h1,h2=>⟨by omega,h2,fun _=>by omega,trivial⟩
 | x :: l,d,h,h1,h2=>⟨h.head.1,h.head.2,fun e=>by simp at e,norm_snoc h.tail h1 h2⟩
theorem norm_iff {l:List Int}:Norm l↔Digs l∧(∀h:l≠[],l.getLast h≠0):=by
 constructor
 ·intro h
  refine⟨h.digs,?_⟩
  induction l with
  | nil=>intro h;exact absurd rfl h
  | cons d l ih=>
   intro _
   obtain⟨h1,h2,h3,h4⟩:=h
   by_cases hl:l=[]
   ·subst hl;simpa using h3 rfl
   ·rw [List.getLast_cons hl];exact ih h4 hl
 ·rintro⟨h,hl⟩
  by_cases e:l=[]
  ·subst e;trivial
  ·have h1:=List.dropLast_concat_getLast e
   rw [←h1]
   have h2:=h _ (List.getLast_mem e)
   have:=hl e
   exact norm_snoc (fun x hx=>h x (List.dropLast_subset l hx)) (by omega) h2.2
def digs (u:Nat):List Int:=if h:u=0 then [] else((u % 1073741824:Nat):Int) :: digs (u / 1073741824)
termination_by u
decreasing_by omega
theorem digs_zero:digs 0=[]:=by unfold digs;simp
theorem digs_pos {u:Nat} (h:0<u):digs u= ((u % 1073741824:Nat):Int) :: digs (u / 1073741824):=by
 rw [digs];simp [show u≠0 by omega]
theorem digs_norm (u:Nat):Norm (digs u):=by
 induction u using Nat.strongRecOn with
 | _ u ih=>
  by_cases h:u=0
  ·subst h;rw [digs_zero];trivial
  ·rw [digs_pos (by omega)]
   refine⟨by omega,by omega,fun e=>?_,ih _ (by omega)⟩
   by_cases h2:u / 1073741824=0
   ·omega
   ·rw [digs_pos (by omega)] at e;cases e
theorem digs_val (u:Nat):dval (digs u)=u:=by
 induction u using Nat.strongRecOn with
 | _ u ih=>
  by_cases h:u=0
  ·subst h;rw [digs_zero];rfl
  ·rw [digs_pos (by omega),dval,ih _ (by omega)];omega
theorem digs_of {l:List Int} (h:Norm l):digs (dval l).toNat=l:=by
 have:=dval_nonneg h.digs
 exact norm_inj (digs_norm _) h (by rw [digs_val];omega)
theorem digs_len {u n:Nat} (h:u<1073741824 ^ n):(digs u).length≤n:=by
 rcases Nat.lt_or_ge n (digs u).length with h1 | h1
 ·have h2:=dval_ge (digs_norm u) (fun e=>by rw [e] at h1;simp at h1)
  rw [digs_val] at h2
  have h3:(1073741824:Nat) ^ n≤1073741824 ^ ((digs u).length - 1):=Nat.pow_le_pow_right (by omega) (by omega)
  have h4:((1073741824 ^ ((digs u).length - 1):Nat):Int)≤u:=by rw [Int.natCast_pow];exact h2
  omega
 ·exact h1
def BigR (w:World) (v:Value) (neg:Bool) (l:List Int):Prop:=∃ (a:Option Addr) (cap:Nat),v=.agg #[.bool neg,.slice a l.length cap]∧Ints w a cap l
def Big (neg:Bool) (l:List Int) (z:Int):Prop:=Norm l∧(neg=true→l≠[])∧z=if neg then - dval l else dval l
def BigV (w:World) (v:Value) (z:Int):Prop:=∃ (neg:Bool) (l:List Int),BigR w v neg l∧Big neg l z
theorem BigR.ext {w w':World} {v:Value} {neg:Bool} {l:List Int} (h:BigR w v neg l) (k:Ext w w'):BigR w' v neg l:=by
 obtain⟨a,cap,e,hi⟩:=h
 exact⟨a,cap,e,hi.ext k⟩
theorem BigV.ext {w w':World} {v:Value} {z:Int} (h:BigV w v z) (k:Ext w w'):BigV w' v z:=by
 obtain⟨neg,l,hr,hb⟩:=h
 exact⟨neg,l,hr.ext k,hb⟩
theorem Big.inj {n n':Bool} {l l':List Int} {z:Int} (h:Big n l z) (h':Big n' l' z):n=n'∧l=l':=by
 obtain⟨h1,h2,h3⟩:=h
 obtain⟨k1,k2,k3⟩:=h'
 have a:=dval_nonneg h1.digs
 have b:=dval_nonneg k1.digs
 cases n <;> cases n' <;> simp at h2 k2 h3 k3
 ·exact⟨rfl,norm_inj h1 k1 (by omega)⟩
 ·have:=dval_pos k1 k2;omega
 ·have:=dval_pos h1 h2;omega
 ·exact⟨rfl,norm_inj h1 k1 (by omega)⟩
theorem Big.same {n n':Bool} {l l':List Int} {z z':Int} (h:Big n l z) (h':Big n' l' z'):(n=n'∧l=l')↔z=z':=by
 constructor
 ·rintro⟨rfl,rfl⟩;rw [h.2.2,h'.2.2]
 ·rintro rfl;exact h.inj h'
theorem Big.of (z:Int):Big (decide (z<0)) (digs z.natAbs) z:=by
 refine⟨digs_norm _,fun h=>?_,?_⟩
 ·have:z<0:=by simpa using h
  rw [digs_pos (by omega)];simp
 ·rw [digs_val]
  by_cases h:z<0
  ·rw [if_pos (by simpa using h)];omega
  ·rw [if_neg (by simpa using h)];omega
theorem BigV.zero (w:World):BigV w (.agg #[.bool false,.slice none 0 0]) 0:=⟨false,[],⟨none,0,rfl,Nat.le_refl _,by omega,fun _=>rfl,fun A hA=>by cases hA⟩,trivial,by simp,rfl⟩
end Go.Proofs.YtolffmmkjnhkkaaGreat
