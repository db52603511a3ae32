import Derived.Test.YtonkhcdmchidjaaGreatBase
namespace Go.Proofs.YtonkhcdmchidjaaGreat
open Go.RowKit Go
def zA1:List Int→Int
 | []=>0
 | d :: l=>d+1073741824*zA1 l
def Norm:List Int→Prop
 | []=>True
 | d :: l=>0≤d∧d<1073741824∧(l=[]→d≠0)∧Norm l
def Digs (l:List Int):Prop:=∀d∈l,0≤d∧d<1073741824
theorem Norm.digs:∀{l:List Int},Norm l→Digs l
 | [],_=>fun d hd=>by simp at hd
 | d :: l,h=>fun x hx=>by
  rcases List.mem_cons.1 hx with rfl | hx
  ·exact⟨h.1,h.2.1⟩
  ·exact Norm.digs h.2.2.2 x hx
theorem Digs.tail {d:Int} {l:List Int} (h:Digs (d :: l)):Digs l:=fun x hx=>h x (by simp [hx])
theorem Digs.head {d:Int} {l:List Int} (h:Digs (d :: l)):0≤d∧d<1073741824:=h d (by simp)
theorem Digs.cons {d:Int} {l:List Int} (h1:0≤d∧d<1073741824) (h:Digs l):Digs (d :: l):=fun x hx=>by
 rcases List.mem_cons.1 hx with rfl | hx
 ·exact h1
 ·exact h x hx
theorem Digs.append {l m:List Int} (h:Digs l) (k:Digs m):Digs (l ++ m):=fun x hx=>(List.mem_append.1 hx).elim (h x) (k x)
theorem Digs.take {l:List Int} (h:Digs l) (n:Nat):Digs (l.take n):=fun x hx=>h x (List.mem_of_mem_take hx)
theorem Digs.drop {l:List Int} (h:Digs l) (n:Nat):Digs (l.drop n):=fun x hx=>h x (List.mem_of_mem_drop hx)
theorem Digs.getD {l:List Int} (h:Digs l) (i:Nat):0≤l.getD i 0∧l.getD i 0<1073741824:=by
 by_cases hi:i<l.length
 ·simp only [List.getD,List.getElem?_eq_getElem hi,Option.getD_some];exact h _ (List.getElem_mem hi)
 ·simp [List.getD,Nat.le_of_not_lt hi]
theorem zA2:∀{l:List Int},Digs l→0≤zA1 l
 | [],_=>Int.le_refl _
 | d :: l,h=>by have:=zA2 h.tail;have:=h.head;simp only [zA1];omega
theorem zAL:∀{l:List Int},Norm l→l≠[]→0<zA1 l
 | [],_,h=>absurd rfl h
 | d :: l,h,_=>by
  obtain⟨h1,h2,h3,h4⟩:=h;simp only [zA1];by_cases hl:l=[]
  ·have:=h3 hl;subst hl;simp [zA1];omega
  ·have:=zAL h4 hl;omega
theorem zBy (l m:List Int):zA1 (l ++ m)=zA1 l+1073741824 ^ l.length*zA1 m:=by
 induction l with
 | nil=>simp [zA1]
 | cons d l ih=>
  simp only [List.cons_append,zA1,ih,List.length_cons,Int.pow_succ];rw [Int.mul_add,Int.mul_comm (1073741824 ^ l.length) 1073741824,Int.mul_assoc];omega
theorem zAy:∀{l:List Int},Digs l→zA1 l<1073741824 ^ l.length
 | [],_=>by simp [zA1]
 | d :: l,h=>by
  have h1:=zAy h.tail;have h2:=h.head;simp only [zA1,List.length_cons,Int.pow_succ];omega
theorem zD0:∀{l:List Int},Norm l→l≠[]→1073741824 ^ (l.length - 1)≤zA1 l
 | [],_,h=>absurd rfl h
 | d :: l,h,_=>by
  obtain⟨h1,h2,h3,h4⟩:=h;simp only [zA1,List.length_cons,Nat.add_sub_cancel];by_cases hl:l=[]
  ·subst hl;have:=h3 rfl;simp [zA1];omega
  ·have h5:=zD0 h4 hl;obtain⟨n,hn⟩:∃n,l.length=n+1:=⟨l.length - 1,by have:=List.length_pos_iff.2 hl;omega⟩
   rw [hn] at h5 ⊢;simp only [Nat.add_sub_cancel] at h5;rw [Int.pow_succ];omega
theorem zEk:∀{l m:List Int},Norm l→Norm m→zA1 l=zA1 m→l=m
 | [],[],_,_,_=>rfl
 | [],d :: m,_,hm,h=>by have:=zAL hm (by simp);simp only [zA1] at h this;omega
 | d :: l,[],hl,_,h=>by have:=zAL hl (by simp);simp only [zA1] at h this;omega
 | d :: l,e :: m,hl,hm,h=>by
  obtain⟨a1,a2,_,a4⟩:=hl;obtain⟨b1,b2,_,b4⟩:=hm;simp only [zA1] at h;have hd:d=e:=by omega
  rw [zEk a4 b4 (by omega),hd]
theorem zEu:∀{l:List Int} {d:Int},Digs l→0<d→d<1073741824→Norm (l ++ [d])
 | [],d,_,h1,h2=>⟨by omega,h2,fun _=>by omega,trivial⟩
 | x :: l,d,h,h1,h2=>⟨h.head.1,h.head.2,fun e=>by simp at e,zEu h.tail h1 h2⟩
theorem zEl {l:List Int}:Norm l↔Digs l∧(∀h:l≠[],l.getLast h≠0):=by
 constructor
 ·intro h;refine⟨h.digs,?_⟩
  induction l with
  | nil=>intro h;exact absurd rfl h
  | cons d l ih=>
   intro _;obtain⟨h1,h2,h3,h4⟩:=h;by_cases hl:l=[]
   ·subst hl;simpa using h3 rfl
   ·rw [List.getLast_cons hl];exact ih h4 hl
 ·rintro⟨h,hl⟩;by_cases e:l=[]
  ·subst e;trivial
  ·have h1:=List.dropLast_concat_getLast e;rw [←h1];have h2:=h _ (List.getLast_mem e);have:=hl e;exact zEu (fun x hx=>h x (List.dropLast_subset l hx)) (by omega) h2.2
def digs (u:Nat):List Int:=if h:u=0 then [] else((u % 1073741824:Nat):Int) :: digs (u / 1073741824)
termination_by u
decreasing_by omega
theorem zAO:digs 0=[]:=by unfold digs;simp
theorem zBf {u:Nat} (h:0<u):digs u= ((u % 1073741824:Nat):Int) :: digs (u / 1073741824):=by
 rw [digs];simp [show u≠0 by omega]
theorem zA4 (u:Nat):Norm (digs u):=by
 induction u using Nat.strongRecOn with
 | _ u ih=>
  by_cases h:u=0
  ·subst h;rw [zAO];trivial
  ·rw [zBf (by omega)];refine⟨by omega,by omega,fun e=>?_,ih _ (by omega)⟩;by_cases h2:u / 1073741824=0
   ·omega
   ·rw [zBf (by omega)] at e;cases e
theorem zAF (u:Nat):zA1 (digs u)=u:=by
 induction u using Nat.strongRecOn with
 | _ u ih=>
  by_cases h:u=0
  ·subst h;rw [zAO];rfl
  ·rw [zBf (by omega),zA1,ih _ (by omega)];omega
theorem zEv {l:List Int} (h:Norm l):digs (zA1 l).toNat=l:=by
 have:=zA2 h.digs;exact zEk (zA4 _) h (by rw [zAF];omega)
theorem zC8 {u n:Nat} (h:u<1073741824 ^ n):(digs u).length≤n:=by
 rcases Nat.lt_or_ge n (digs u).length with h1 | h1
 ·have h2:=zD0 (zA4 u) (fun e=>by rw [e] at h1;simp at h1);rw [zAF] at h2;have h3:(1073741824:Nat) ^ n≤1073741824 ^ ((digs u).length - 1):=Nat.pow_le_pow_right (by omega) (by omega);have h4:((1073741824 ^ ((digs u).length - 1):Nat):Int)≤u:=by rw [Int.natCast_pow];exact h2
  omega
 ·exact h1
def BigR (w:World) (v:Value) (neg:Bool) (l:List Int):Prop:=∃ (a:Option Addr) (cap:Nat),v=.agg #[.bool neg,.slice a l.length cap]∧Ints w a cap l
def Big (neg:Bool) (l:List Int) (z:Int):Prop:=Norm l∧(neg=true→l≠[])∧z=if neg then - zA1 l else zA1 l
def BigV (w:World) (v:Value) (z:Int):Prop:=∃ (neg:Bool) (l:List Int),BigR w v neg l∧Big neg l z
theorem BigR.ext {w w':World} {v:Value} {neg:Bool} {l:List Int} (h:BigR w v neg l) (k:Ext w w'):BigR w' v neg l:=by
 obtain⟨a,cap,e,hi⟩:=h;exact⟨a,cap,e,hi.ext k⟩
theorem BigV.ext {w w':World} {v:Value} {z:Int} (h:BigV w v z) (k:Ext w w'):BigV w' v z:=by
 obtain⟨neg,l,hr,hb⟩:=h;exact⟨neg,l,hr.ext k,hb⟩
theorem Big.inj {n n':Bool} {l l':List Int} {z:Int} (h:Big n l z) (h':Big n' l' z):n=n'∧l=l':=by
 obtain⟨h1,h2,h3⟩:=h;obtain⟨k1,k2,k3⟩:=h';have a:=zA2 h1.digs;have b:=zA2 k1.digs;cases n <;> cases n' <;> simp at h2 k2 h3 k3
 ·exact⟨rfl,zEk h1 k1 (by omega)⟩
 ·have:=zAL k1 k2;omega
 ·have:=zAL h1 h2;omega
 ·exact⟨rfl,zEk h1 k1 (by omega)⟩
theorem Big.same {n n':Bool} {l l':List Int} {z z':Int} (h:Big n l z) (h':Big n' l' z'):(n=n'∧l=l')↔z=z':=by
 constructor
 ·rintro⟨rfl,rfl⟩;rw [h.2.2,h'.2.2]
 ·rintro rfl;exact h.inj h'
theorem Big.of (z:Int):Big (decide (z<0)) (digs z.natAbs) z:=by
 refine⟨zA4 _,fun h=>?_,?_⟩
 ·have:z<0:=by simpa using h
  rw [zBf (by omega)];simp
 ·rw [zAF];by_cases h:z<0
  ·rw [if_pos (by simpa using h)];omega
  ·rw [if_neg (by simpa using h)];omega
theorem BigV.zero (w:World):BigV w (.agg #[.bool false,.slice none 0 0]) 0:=⟨false,[],⟨none,0,rfl,Nat.le_refl _,by omega,fun _=>rfl,fun A hA=>by cases hA⟩,trivial,by simp,rfl⟩
end Go.Proofs.YtonkhcdmchidjaaGreat
