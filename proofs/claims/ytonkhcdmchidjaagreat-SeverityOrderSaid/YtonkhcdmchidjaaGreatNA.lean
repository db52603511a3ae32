import Derived.Test.YtonkhcdmchidjaaGreatNMake2
import Derived.Laws.EntriesVeiled
set_option maxHeartbeats 4000000
namespace Go.Proofs.YtonkhcdmchidjaaGreat
open Go.RowKit Go BigFrame
set_option maxRecDepth 100000
set_option linter.all false
def zAB (l:List Int):List Int:=(l.reverse.dropWhile (· == 0)).reverse
theorem zCA (l:List Int):zAB (l ++ [0])=zAB l:=by simp [zAB]
theorem zDk (l:List Int) {d:Int} (h:d≠0):zAB (l ++ [d])=l ++ [d]:=by simp [zAB,h]
theorem zFJ {P:List Int→Prop} (h0:P []) (h1:∀l d,P l→P (l ++ [d])):∀l,P l:=by
 intro l
 suffices h:∀n (l:List Int),l.length=n→P l from h _ l rfl
 intro n
 induction n with
 | zero=>intro l hl;obtain rfl:=List.length_eq_zero_iff.1 hl;exact h0
 | succ n ih=>
  intro l hl;have hne:l≠[]:=fun e=>by rw [e] at hl;simp at hl
  rw [←List.dropLast_concat_getLast hne];exact h1 _ _ (ih _ (by simp [hl]))
theorem zB1 (l:List Int):zAB l=l.take (zAB l).length:=by
 induction l using zFJ with
 | h0=>rfl
 | h1 l d ih=>
  by_cases h:d=0
  ·subst h;rw [zCA,List.take_append_of_le_length]
   ·exact ih
   ·rw [ih];simp;omega
  ·rw [zDk l h,List.take_length]
theorem zCB (l:List Int):(zAB l).length≤l.length:=by
 have h:=congrArg List.length (zB1 l);rw [List.length_take] at h;omega
theorem zGA {l:List Int} (h:Digs l):Digs (zAB l):=by rw [zB1];exact h.take _
theorem zBX (l:List Int) (d:Int):zA1 (l ++ [d])=zA1 l+1073741824 ^ l.length*d:=by
 rw [zBy];simp [zA1]
theorem zFK (l:List Int):zA1 (zAB l)=zA1 l:=by
 induction l using zFJ with
 | h0=>rfl
 | h1 l d ih=>
  by_cases h:d=0
  ·subst h;rw [zCA,ih,zBX];simp
  ·rw [zDk l h]
theorem zJq (l:List Int) (h:Digs l):Norm (zAB l):=by
 induction l using zFJ with
 | h0=>trivial
 | h1 l d ih=>
  have hl:Digs l:=fun x hx=>h x (by simp [hx]);by_cases e:d=0
  ·subst e;rw [zCA];exact ih hl
  ·rw [zDk l e];have:=h d (by simp);exact zEu hl (by omega) this.2
theorem zCX {l:List Int} (h:Digs l):zAB l=digs (zA1 l).toNat:=by
 have h1:=zJq l h;have h2:=zEv h1;rw [zFK] at h2;exact h2.symm
theorem zAE {l:List Int} (h:Norm l):zAB l=l:=by rw [zCX h.digs,zEv h]
theorem Ints.take {w:World} {a:Option Addr} {cap:Nat} {l:List Int} (h:Ints w a cap l) (k:Nat):Ints w a cap (l.take k):=by
 refine⟨Nat.le_trans (List.length_take_le' _ _) h.le,h.mx,fun e=>?_,fun A hA i hi=>?_⟩
 ·have:=h.nil e;simp [this]
 ·have hi2:i<l.length:=by simp at hi;omega
  obtain⟨h1,u,h2,h3⟩:=h.cells A hA i hi2;refine⟨h1,u,h2,?_⟩;rw [List.getElem_take];exact h3
theorem zC5 (a:Option Addr) (cap:Nat) (l:List Int) (w:World) (h:Ints w a cap l):
 Calls Tryz.prog 217 #[.slice a l.length cap] w fun e w'=>e=.returned (.slice a (zAB l).length cap)∧w=w':=by
 have hle:=h.le;have hmx:=h.mx;go_enter Tryz.func217,Tryz.ntmps217;go_wp2_with fail
 go_loop [3] (fun n=>∃k:Nat,k≤l.length∧n=.int .i64 k∧zAB (l.take k)=zAB l) (fun n=>(intOf n).toNat)
 case atStart=>exact⟨l.length,Nat.le_refl _,rfl,by rw [List.take_length]⟩
 case round=>
  obtain⟨k,hk,rfl,ht⟩:=hrel;by_cases hk0:0<k
  ·obtain⟨j,rfl⟩:∃j,k=j+1:=⟨k - 1,by omega⟩
   obtain⟨b,o,rfl⟩:=h.head (i:=j) (by omega);obtain⟨x,hx,hc,_⟩:=Ints.get h (i:=j) (by omega);have hT:=zB0 hx;have d1:decide (0< ((j+1:Nat):Int))=true:=by simp only [decide_eq_true_eq];omega
   have d1':decide (0<j+1)=true:=by simp
   have d2:((j+1:Nat):Int) - 1= (j:Int):=by omega
   have g1:(0:Int)≤(j:Int):=by omega
   have g2:(j:Int)< (l.length:Int):=by omega
   by_cases h0:x=0
   ·subst h0;have HT:=dH (show zAB (l.take j)=zAB l by rw [←ht,hT,zCA]);clear ht hT hx;go_wp2_with fail
    go_round
    case rel=>exact⟨j,by omega,by go_num,HT.out⟩
    case measure=>simp [intOf]
   ·have d3:(x == 0)=false:=by simpa using h0
    have HT:=dH (show(zAB l).length=j+1 by rw [←ht,hT,zDk _ h0,List.length_append,List.length_take];simp only [List.length_singleton];omega);clear ht hT hx h0;go_wp2_with fail;go_ret;exact⟨by rw [HT.out];rfl,rfl⟩
  ·obtain rfl:k=0:=by omega
   have HT:=dH (show(zAB l).length=0 by rw [←ht];rfl);clear ht;go_wp2_with fail;go_ret;exact⟨by rw [HT.out];rfl,rfl⟩
end Go.Proofs.YtonkhcdmchidjaaGreat
namespace Go.Proofs.YtonkhcdmchidjaaGreat
open Go.RowKit Go BigFrame
def zAm (s:Nat→Int):Nat→Int
 | 0=>0
 | k+1=>(s k+zAm s k) / 1073741824
def zAp (s:Nat→Int):Nat→List Int
 | 0=>[]
 | k+1=>zAp s k ++ [(s k+zAm s k) % 1073741824]
theorem zA6 (s:Nat→Int):∀k,(zAp s k).length=k
 | 0=>rfl
 | k+1=>by simp [zAp,zA6 s k]
theorem zAM (s:Nat→Int):∀k,Digs (zAp s k)
 | 0=>fun d hd=>by simp [zAp] at hd
 | k+1=>by
  refine(zAM s k).append (fun x hx=>?_);obtain rfl:=List.mem_singleton.1 hx;omega
def zDG (s:Nat→Int) (n:Nat):Int:=sm n (fun i=>1073741824 ^ i*s i)
theorem zB2 (s:Nat→Int) (n:Nat):zDG s (n+1)=zDG s n+1073741824 ^ n*s n:=rfl
theorem zDl (s:Nat→Int):∀n,zA1 (zAp s n)+1073741824 ^ n*zAm s n=zDG s n
 | 0=>by simp [zAp,zAm,zDG,sm,zA1]
 | n+1=>by
  have ih:=zDl s n;rw [zB2,←ih,zAp,zBX,zA6,zAm,Int.pow_succ];have h:=Int.mul_ediv_add_emod (s n+zAm s n) 1073741824;have e:(1073741824:Int) ^ n*1073741824* ((s n+zAm s n) / 1073741824)=1073741824 ^ n* (1073741824* ((s n+zAm s n) / 1073741824)):=by rw [Int.mul_assoc]
  rw [e];have e2:(1073741824:Int) ^ n* ((s n+zAm s n) % 1073741824)+1073741824 ^ n* (1073741824* ((s n+zAm s n) / 1073741824))=1073741824 ^ n* (s n+zAm s n):=by
   rw [←Int.mul_add,Int.add_comm,h]
  rw [Int.mul_add] at e2;omega
theorem zBY (s:Nat→Int) {b:Int} (hb:0≤b) (h:∀i,-b≤s i∧s i≤b):∀k,-b - 1≤zAm s k∧zAm s k≤b
 | 0=>by simp only [zAm];omega
 | k+1=>by
  have ih:=zBY s hb h k;have:=h k;simp only [zAm];omega
theorem zEi (s t:Nat→Int) (n:Nat):zDG (fun i=>s i+t i) n=zDG s n+zDG t n:=by
 unfold zDG;rw [←zNB];exact zKQ fun i _=>by rw [Int.mul_add]
theorem zGB (d:Int) (l:List Int):∀n,zDG (fun i=>(d :: l).getD i 0) (n+1)=d+1073741824*zDG (fun i=>l.getD i 0) n
 | 0=>by simp [zDG,sm]
 | n+1=>by
  rw [zB2,zGB d l n,zB2 (fun i=>l.getD i 0) n,Int.mul_add,Int.pow_succ];simp only [List.getD_cons_succ];have:(1073741824:Int) ^ n*1073741824*l.getD n 0=1073741824* (1073741824 ^ n*l.getD n 0):=by rw [Int.mul_comm (1073741824 ^ n) 1073741824,Int.mul_assoc]
  omega
theorem zGC:∀n,zDG (fun _=>0) n=0
 | 0=>rfl
 | n+1=>by rw [zB2,zGC n];simp
theorem zB3:∀ (l:List Int) (n:Nat),l.length≤n→zDG (fun i=>l.getD i 0) n=zA1 l
 | [],n,_=>by
  have:(fun i=>([]:List Int).getD i 0)=fun _=>(0:Int):=funext fun i=>by simp
  rw [this,zGC];rfl
 | d :: l,0,h=>by simp at h
 | d :: l,n+1,h=>by rw [zGB,zB3 l n (by simpa using h)];rfl
theorem zFL (s:Nat→Int):∀n,zDG (fun i=>- s i) n= - zDG s n
 | 0=>rfl
 | n+1=>by rw [zB2,zB2,zFL s n,Int.mul_neg];omega
theorem zDI (s:Nat→Int) (c:Int):∀n,zDG (fun i=>s i*c) n=zDG s n*c
 | 0=>by simp [zDG,sm]
 | n+1=>by rw [zB2,zB2,zDI s c n,Int.add_mul,Int.mul_assoc]
theorem zDJ (s:Nat→Int) (n:Nat) (h0:0≤zDG s n) (h1:zDG s n<1073741824 ^ n):zAB (zAp s n)=digs (zDG s n).toNat:=by
 rw [zCX (zAM s n)];have hv:=zDl s n;have hd:=zAM s n;have a:=zA2 hd;have b:=zAy hd;rw [zA6] at b;have hp:(0:Int)<1073741824 ^ n:=by omega
 suffices zAm s n=0 by rw [this,Int.mul_zero,Int.add_zero] at hv;rw [hv]
 generalize (1073741824:Int) ^ n=p at *;generalize zAm s n=c at *;rcases Int.lt_trichotomy c 0 with h | h | h
 ·have:p*c≤p* (-1):=Int.mul_le_mul_of_nonneg_left (by omega) (by omega);omega
 ·exact h
 ·have:p*1≤p*c:=Int.mul_le_mul_of_nonneg_left (by omega) (by omega);omega
theorem zB4 (n:Nat):(0:Int)<1073741824 ^ n:=Int.pow_pos (by omega)
theorem zC6 {m n:Nat} (h:m≤n):(1073741824:Int) ^ m≤1073741824 ^ n:=by
 have h2:((1073741824 ^ m:Nat):Int)≤((1073741824 ^ n:Nat):Int):=Int.ofNat_le.2 (Nat.pow_le_pow_right (by omega) h);rw [Int.natCast_pow,Int.natCast_pow] at h2;exact h2
theorem zKR {l m:List Int} (hl:Digs l) (hm:Digs m) {n:Nat} (h1:l.length≤n) (h2:m.length≤n):
 zAB (zAp (fun i=>l.getD i 0+m.getD i 0) (n+1))=digs (zA1 l+zA1 m).toNat:=by
 have e:zDG (fun i=>l.getD i 0+m.getD i 0) (n+1)=zA1 l+zA1 m:=by rw [zEi,zB3 l _ (by omega),zB3 m _ (by omega)]
 have a1:=zA2 hl;have a2:=zA2 hm;have b1:=zAy hl;have b2:=zAy hm;have c1:=zC6 h1;have c2:=zC6 h2;have:=zB4 n;rw [zDJ _ _ (by rw [e];omega) (by rw [e,Int.pow_succ];omega),e]
theorem zFM {l m:List Int} (hl:Digs l) (hm:Norm m) (h:zA1 m≤zA1 l):m.length≤l.length:=by
 rcases Nat.lt_or_ge l.length m.length with h1 | h1
 ·have a:=zAy hl;have b:=zD0 hm (fun e=>by rw [e] at h1;simp at h1);have c:=zC6 (show l.length≤m.length - 1 by omega);omega
 ·exact h1
theorem zKS {l m:List Int} (hl:Digs l) (hm:Norm m) (h:zA1 m≤zA1 l):
 zAB (zAp (fun i=>l.getD i 0 - m.getD i 0) l.length)=digs (zA1 l - zA1 m).toNat:=by
 have hlen:=zFM hl hm h;have e:zDG (fun i=>l.getD i 0 - m.getD i 0) l.length=zA1 l - zA1 m:=by
  have:(fun i=>l.getD i 0 - m.getD i 0)=fun i=>l.getD i 0+ - m.getD i 0:=funext fun i=>by omega
  rw [this,zEi,zFL,zB3 l _ (Nat.le_refl _),zB3 m _ hlen];omega
 have a2:=zA2 hm.digs;have b1:=zAy hl;rw [zDJ _ _ (by rw [e];omega) (by rw [e];omega),e]
set_option maxRecDepth 100000
set_option linter.all false
theorem zCY {l:List Int} {i:Nat} {x:Int} (h:l[i]? =some x):l.getD i 0=x:=by simp [List.getD,h]
theorem zKT {l:List Int} {i:Nat} (h:l.length≤i):l.getD i 0=0:=by simp [List.getD,h]
theorem zI8 (a:Option Addr) (cap:Nat) (l:List Int) (i:Nat) (w:World) (h:Ints w a cap l):
 Calls Tryz.prog 224 #[.slice a l.length cap,.int .i64 i] w fun e w'=>e=.returned (.int .i64 (l.getD i 0))∧w=w':=by
 have hle:=h.le;have hmx:=h.mx;by_cases hi:i<l.length
 ·have d1:decide ((i:Int)< (l.length:Int))=true:=by simp only [decide_eq_true_eq];omega
  obtain⟨b,o,rfl⟩:=h.head hi;obtain⟨x,hx,hc,_⟩:=Ints.get h hi;have HX:=dH (zCY hx);have g1:(0:Int)≤(i:Int):=by omega
  have g2:(i:Int)< (l.length:Int):=by omega
  clear hx;go_enter Tryz.func224,Tryz.ntmps224;go_wp2_with fail;go_ret;exact⟨by rw [HX.out];rfl,rfl⟩
 ·have d1:decide ((i:Int)< (l.length:Int))=false:=by simp only [decide_eq_false_iff_not];omega
  have HX:=dH (zKT (l:=l) (i:=i) (by omega));go_enter Tryz.func224,Tryz.ntmps224;go_wp2_with fail;go_ret;exact⟨by rw [HX.out];rfl,rfl⟩
structure Caps (w:World) (p q:Nat) (a b:Option Addr) (ca cb:Nat) (l m:List Int):Prop where
 p:Blk w p #[.slice a l.length ca] 217
 q:Blk w q #[.slice b m.length cb] 217
 l:Ints w a ca l
 m:Ints w b cb m
theorem Caps.ext {w w':World} {p q:Nat} {a b:Option Addr} {ca cb:Nat} {l m:List Int} (h:Caps w p q a b ca cb l m) (k:Ext w w'):Caps w' p q a b ca cb l m:=
 ⟨h.p.ext k,h.q.ext k,h.l.ext k,h.m.ext k⟩
theorem zKU (p q:Nat) (a b:Option Addr) (ca cb:Nat) (l m:List Int) (i:Nat) (w:World) (h:Caps w p q a b ca cb l m) (hl:Digs l) (hm:Digs m) (_hi:i≤4611686018427387904):
 Calls Tryz.prog 223 #[.int .i64 i,.pointer (some ⟨p,0,none⟩),.pointer (some ⟨q,0,none⟩)] w fun e w'=>e=.returned (.int .i64 (l.getD i 0+m.getD i 0))∧Ext w w':=by
 have C1:=dH (fun W:zEq w=>zCz (W:=W) (zI8 a ca l i W.1 (h.l.ext W.2)));have C2:=dH (fun W:zEq w=>zCz (W:=W) (zI8 b cb m i W.1 (h.m.ext W.2)));have L1:=zB9 (h.p.cell (i:=0) rfl);have L2:=zB9 (h.q.cell (i:=0) rfl);have hx:Ext w w:=Ext.refl w;obtain⟨x1,x2⟩:=hl.getD i;obtain⟨y1,y2⟩:=hm.getD i;generalize l.getD i 0=x at *;generalize m.getD i 0=y at *;clear h hl hm;go_enter Tryz.func223,Tryz.ntmps223;go_upto_region 1 with fail;refine zBw (by kernel_rfl) (by kernel_rfl) ?_;repeat (go_big_quiet_step ((go_at_call 224;first | with_reducible exact C1.out _ | with_reducible exact C2.out _)))
 refine wpQuiet_nil ?_;rintro _ ⟨⟨W1,HW1⟩,rfl⟩;(try dsimp only);go_wp2_with fail;go_ret;exact⟨rfl,HW1⟩
theorem zKV (p q:Nat) (a b:Option Addr) (ca cb:Nat) (l m:List Int) (i:Nat) (w:World) (h:Caps w p q a b ca cb l m) (hl:Digs l) (hm:Digs m) (hi:i<l.length):
 Calls Tryz.prog 225 #[.int .i64 i,.pointer (some ⟨p,0,none⟩),.pointer (some ⟨q,0,none⟩)] w fun e w'=>e=.returned (.int .i64 (l.getD i 0 - m.getD i 0))∧Ext w w':=by
 have hle:=h.l.le;have hmx:=h.l.mx;obtain⟨b1,o1,rfl⟩:=h.l.head hi;obtain⟨x,hx,hc,_⟩:=Ints.get h.l hi;have C2:=dH (fun W:zEq w=>zCz (W:=W) (zI8 b cb m i W.1 (h.m.ext W.2)));have L1:=zB9 (h.p.cell (i:=0) rfl);have L2:=zB9 (h.q.cell (i:=0) rfl);have L3:=zB9 hc;have hxx:Ext w w:=Ext.refl w;obtain⟨x1,x2⟩:=hl.getD i;obtain⟨y1,y2⟩:=hm.getD i;rw [zCY hx] at x1 x2 ⊢;have g1:(0:Int)≤(i:Int):=by omega
 have g2:(i:Int)< (l.length:Int):=by omega
 generalize m.getD i 0=y at *;clear h hl hm hc hx;go_enter Tryz.func225,Tryz.ntmps225;go_upto_region 1 with fail;refine zBw (by kernel_rfl) (by kernel_rfl) ?_;repeat (go_big_quiet_step ((go_at_call 224;exact C2.out _)))
 refine wpQuiet_nil ?_;rintro _ ⟨⟨W1,HW1⟩,rfl⟩;(try dsimp only);go_wp2_with fail;go_ret;exact⟨rfl,HW1⟩
theorem zDm (n:Int):bits .and .i64 n 1073741823=n % 1073741824:=by
 have h127:(BitVec.ofInt 64 1073741823).toNat=2 ^ 30 - 1:=by decide
 have key:(BitVec.ofInt 64 n &&& BitVec.ofInt 64 1073741823).toNat= (n % ((2 ^ 64:Nat):Int)).toNat % 2 ^ 30:=by
  rw [BitVec.toNat_and,BitVec.toNat_ofInt,h127,Nat.and_two_pow_sub_one_eq_mod]
 show IntKind.i64.wrap ((BitVec.ofInt 64 n &&& BitVec.ofInt 64 1073741823).toNat:Nat)=n % 1073741824;rw [key,IntKind.wrap_i64];omega
abbrev IB (W:World) (g:Nat) (L:List Int):Prop:=Blk W g (L.map (Value.int .i64)).toArray 3
theorem IB.at {W:World} {g:Nat} {L:List Int} (h:IB W g L) {i:Nat} (hi:i<L.length):W.cell? ⟨g,i,none⟩=some (.int .i64 (L.getD i 0)):=
 Blk.cell h (by simp [List.getD,hi])
theorem IB.put {W:World} {g:Nat} {L:List Int} (h:IB W g L) (i:Nat) (v:Int):IB (W.setCell ⟨g,i,none⟩ (.int .i64 v)) g (L.set i v):=by
 have:=Blk.set h i (.int .i64 v);unfold IB;rw [List.map_set]
 simpa using this
theorem IB.of_owns {w:World} {base g n:Nat} {L:List Int} (h:w.ownsRow base 3 1 (.slice (some ⟨g,0,none⟩) n n) n (L.map (Value.int .i64))):IB w g L:=by
 obtain⟨_,h2⟩:=h;rcases h2 with⟨h',_⟩ | ⟨g',cap',cur,h',_,hg,_,_,hs,ht⟩
 ·cases h'
 ·simp only [Value.slice.injEq,Option.some.injEq,Addr.mk.injEq,and_true,true_and] at h';obtain⟨rfl,rfl⟩:=h';have:cur.toList=L.map (Value.int .i64):=by rw [←ht,List.take_of_length_le (by simp;omega)]
  unfold IB Blk;rw [hg,←this]
theorem IB.own {w:World} {base g:Nat} {L:List Int} (h:IB w g L) (hb:base≤g) (hm:L.length≤maxLen) {k:Nat} (hk:k≤L.length):OwnI w base (.slice (some ⟨g,0,none⟩) k L.length) (L.take k):=by
 refine⟨by simp,by simp [Nat.min_eq_left hk],.inr ⟨g,L.length,(L.map (Value.int .i64)).toArray,?_,hb,h,?_,hm,by simp,?_⟩⟩
 ·simp [Nat.min_eq_left hk]
 ·simp;omega
 ·simp [Nat.min_eq_left hk,List.map_take]
theorem IB.ints {w:World} {g:Nat} {L:List Int} (h:IB w g L) (hr:∀x∈L,-9223372036854775808≤x∧x≤9223372036854775807) (hm:L.length≤9223372036854775807):Ints w (some ⟨g,0,none⟩) L.length L:=by
 refine⟨Nat.le_refl _,hm,fun h=>(by cases h),fun A hA i hi=>?_⟩;cases hA
 refine⟨rfl,.int .i64 L[i],?_,rfl,hr _ (List.getElem_mem hi)⟩;have:=h.at hi
 simpa [List.getD,hi] using this
def zNC (L:List Int) (w:World) (e:Ending) (w':World):Prop:=∃v,e=.returned v∧OwnI w' w.heap.size v L∧Ext w w'
theorem zEj {a w w':World} (h:Ext a w) (hg:w.grownBy w' none):Ext a w':=Below.grown h hg h.size (fun k e=>by cases e)
theorem zFN {w w':World} {b:Nat} {cs:Array Value} {t:TypeId} (h:Blk w b cs t) (hg:w.grownBy w' none):Blk w' b cs t:=(hg.block b h.lt (fun e=>by cases e)).trans h
theorem OwnI.base {w:World} {B B':Nat} {v:Value} {L:List Int} (h:OwnI w B v L) (hb:B'≤B):OwnI w B' v L:=by
 refine⟨h.nn,h.own.1,?_⟩;rcases h.own.2 with h2 | ⟨g,cap,cur,e,h1,hr⟩
 ·exact .inl h2
 ·exact .inr ⟨g,cap,cur,e,Nat.le_trans hb h1,hr⟩
def fill (s:Nat→Int) (n k:Nat):List Int:=zAp s k ++ List.replicate (n - k) 0
theorem zKW (s:Nat→Int) {n k:Nat} (h:k≤n):(fill s n k).length=n:=by simp [fill,zA6];omega
theorem zKX (s:Nat→Int) {n k:Nat} (h:k<n):(fill s n k).set k ((s k+zAm s k) % 1073741824)=fill s n (k+1):=by
 unfold fill;obtain⟨m,hm⟩:∃m,n - k=m+1:=⟨n - k - 1,by omega⟩
 rw [hm,show n - (k+1)=m by omega,List.set_append_right _ _ (by rw [zA6];exact Nat.le_refl _),zA6,Nat.sub_self];simp [List.replicate_succ,zAp]
theorem zCZ (n:Nat) (f:FuncId) (c1 c2:Value) (s:Nat→Int) (w:World) (hn:n≤100000) (hb:∀i,-1152921504606846976≤s i∧s i≤1152921504606846976)
 (hen:∀args w,(callFunc f args).run Tryz.prog w=.ok (.enter f args) w)
 (hf:∀i W,i<n→Ext w W→Calls Tryz.prog f #[.int .i64 i,c1,c2] W fun e W'=>e=.returned (.int .i64 (s i))∧Ext W W'):
 Calls Tryz.prog 222 #[.int .i64 n,.func (.func f) #[] #[c1,c2]] w (zNC (zAB (zAp s n)) w):=by
 obtain⟨i0,hi0,hz0,hz1,hz2⟩:=info_parts zHD;have HF:=dH hf;have HB:=dH hb;have HC:=dH (fun k=>zBY s (b:=1152921504606846976) (by omega) hb k);clear hf hb;go_enter Tryz.func222,Tryz.ntmps222
 go_wp2_with (at_make;refine wpList_make_full _ rfl _ _ 217 rfl w.heap.size 3 i0 (.int .i64 0) 1 Tryz.underlying217 hi0 hz0 hz1 _ _ _ _ n rfl rfl rfl rfl (by rw [hz2];omega) (by unfold maxLen;omega) (Nat.le_refl _) ?_;intro w2 hown hgrow)
 have hown:w2.ownsRow w.heap.size 3 1 (.slice (some ⟨w.heap.size,0,none⟩) n n) n ((List.replicate n (0:Int)).map (Value.int .i64)):=by simpa [Value.cells,toList_madeCells_one] using hown
 have hB0:IB w2 w.heap.size (fill s n 0):=by
  have:=IB.of_owns hown
  simpa [fill,zAp] using this
 have hx0:Ext w w2:=zEj (Ext.refl w) hgrow;clear hown hgrow;obtain⟨g,hg⟩:∃g,w.heap.size=g:=⟨_,rfl⟩
 rw [hg] at hB0 ⊢;have HG:=dH hg;clear hg
 go_loopw [6,13] (fun o i wr=>∃k:Nat,k≤n∧i=.int .i64 k∧o=.int .i64 (zAm s k)∧IB wr g (fill s n k)∧Ext w wr) (fun _ i _=>n - (intOf i).toNat)
 case atStart=>exact⟨0,Nat.zero_le _,rfl,rfl,hB0,hx0⟩
 case round=>
  clear hB0 hx0;obtain⟨k,hk,rfl,rfl,hBr,hxr⟩:=hrel;obtain⟨q1,q2⟩:=HC.out k;by_cases hkn:k<n
  ·have HF1:=dH (HF.out k wr hkn hxr);obtain⟨b1,b2⟩:=HB.out k;have hcs:zAm s (k+1)= (s k+zAm s k) / 1073741824:=rfl;have hfs:=zKX s hkn;have HBr:Hid (IB wr g (fill s n k)):=dH hBr;have hfl:=zKW s (Nat.le_of_lt hkn);generalize hsk:s k=x at *;generalize hck:zAm s k=y at *;have HS:=dH hcs;have HFS:=dH hfs;have hand:=zDm (x+y);have g1:(0:Int)≤(k:Int):=by omega
   have g2:(k:Int)< (n:Int):=by omega
   clear hcs hfs hBr hsk hck;go_wp2_with fail;refine HF1.out.mono ?_;rintro e w3 ⟨rfl,hy⟩;have hB3:IB w3 g (fill s n k):=Blk.ext HBr.out hy;have e1:=hB3.at (i:=k) (by rw [hfl];exact hkn)
   have f1:=hB3.free k;have hx3:=hxr.trans hy;have HB3:Hid (IB w3 g (fill s n k)):=dH hB3;clear hB3 hy;go_wp2_with fail;go_roundw
   case rel=>
    refine⟨k+1,by omega,by go_num,by rw [HS.out],?_,hx3.set (p:=⟨g,k,none⟩) (by dsimp only;rw [HG.out];exact Nat.le_refl _) _⟩;rw [←HFS.out];exact IB.put HB3.out k _
   case measure=>simp [intOf];omega
  ·obtain rfl:k=n:=by omega
   have hL:fill s k k=zAp s k:=by simp [fill]
   have hll:=zA6 s k;have hdg:=zAM s k;have hB4:IB wr g (zAp s k):=by rw [←hL];exact hBr
   have hI:=IB.ints hB4 (fun x hx=>by have:=hdg x hx;omega) (by rw [hll];omega);have hT:=zC5 _ _ _ wr hI;have hO:=IB.own (base:=w.heap.size) hB4 (by rw [HG.out];exact Nat.le_refl _) (by rw [hll];unfold maxLen;omega) (zCB (zAp s k));rw [hll] at hT hO;rw [←zB1] at hO;have HT:=dH hT;have HO:=dH hO;clear hBr hB4 hI hT hO hdg hL;go_wp2_with fail;refine HT.out.mono ?_;rintro e w4 ⟨rfl,rfl⟩;go_wp2_with fail;go_ret;exact⟨_,rfl,HO.out,hxr⟩
end Go.Proofs.YtonkhcdmchidjaaGreat
namespace Go.Proofs.YtonkhcdmchidjaaGreat
open Go.RowKit Go BigFrame Go.Shelf
set_option maxRecDepth 100000
set_option linter.all false
theorem zI9 (l:List Int) (i:Nat) (h:Digs l):-1073741824≤l.getD i 0∧l.getD i 0≤1073741824:=by
 have:=h.getD i;omega
theorem zJr (a b:Option Addr) (ca cb:Nat) (l m:List Int) (w:World) (h:Ints w a ca l) (k:Ints w b cb m) (hl:Digs l) (hm:Digs m) (h1:l.length≤99999) (h2:m.length≤99999):
 Calls Tryz.prog 210 #[.slice a l.length ca,.slice b m.length cb] w (zNC (digs (zA1 l+zA1 m).toNat) w):=by
 have hle1:=h.le;have hmx1:=h.mx;have hle2:=k.le;have hmx2:=k.mx;have hmf:∀ (fn:Fn) (first cap:Array Value) (w:World),(Instr.makeFunc fn first cap).run Tryz.prog w=.ok (.func fn first cap) w:=fun _ _ _ _=>rfl;have hx:Ext w ((w.alloc (.cells #[.slice a l.length ca] 217)).alloc (.cells #[.slice b m.length cb] 217)):=(by repeat (first | with_reducible exact Ext.refl _ | with_reducible assumption | with_reducible refine Ext.drewN ?_ _ | with_reducible refine Ext.drew ?_ | with_reducible refine Ext.alloc' ?_ _ | with_reducible refine Ext.set ?_ (by dsimp only;omega) _))
 have hC:Caps ((w.alloc (.cells #[.slice a l.length ca] 217)).alloc (.cells #[.slice b m.length cb] 217)) w.heap.size (w.heap.size+1) a b ca cb l m:=
  ⟨(Blk.new0 w _ _).alloc _,Blk.new1 w _ _ _,h.ext hx,k.ext hx⟩
 have c1:=hC.p.cell (i:=0) rfl;have c2:=hC.q.cell (i:=0) rfl;have hsz:w.heap.size≤((w.alloc (.cells #[.slice a l.length ca] 217)).alloc (.cells #[.slice b m.length cb] 217)).heap.size:=hx.size
 have hK:=fun n (hn:n≤100000)=>zCZ n 223 (.pointer (some ⟨w.heap.size,0,none⟩)) (.pointer (some ⟨w.heap.size+1,0,none⟩)) (fun i=>l.getD i 0+m.getD i 0) _ hn
  (fun i=>by have:=zI9 l i hl;have:=zI9 m i hm;omega) (enters_of Tryz.func223 (by kernel_rfl) rfl)
  (fun i W hi hW=>zKU _ _ a b ca cb l m i W (hC.ext hW) hl hm (by omega))
 have hfit:=fun n=>zKR hl hm (n:=n);generalize hw1:(w.alloc (.cells #[.slice a l.length ca] 217)).alloc (.cells #[.slice b m.length cb] 217)=w1 at *;by_cases hle:l.length<m.length
 ·have hK1:=hK (m.length+1) (by omega);rw [hfit m.length (by omega) (Nat.le_refl _)] at hK1;have HK:=dH hK1;have HW:=dH hw1;clear hK1 hK hfit hC hw1;go_enter Tryz.func210,Tryz.ntmps210;go_upto_region 1 with fail;rw [HW.out];go_wp2_with fail;refine HK.out.mono ?_;rintro e w2 ⟨v,rfl,hO,hy⟩;go_wp2_with fail;go_ret;exact⟨v,rfl,hO.base hsz,hx.trans hy⟩
 ·have hK1:=hK (l.length+1) (by omega);rw [hfit l.length (Nat.le_refl _) (by omega)] at hK1;have HK:=dH hK1;have HW:=dH hw1;clear hK1 hK hfit hC hw1;go_enter Tryz.func210,Tryz.ntmps210;go_upto_region 1 with fail;rw [HW.out];go_wp2_with fail;refine HK.out.mono ?_;rintro e w2 ⟨v,rfl,hO,hy⟩;go_wp2_with fail;go_ret;exact⟨v,rfl,hO.base hsz,hx.trans hy⟩
theorem zHy (a b:Option Addr) (ca cb:Nat) (l m:List Int) (w:World) (h:Ints w a ca l) (k:Ints w b cb m) (hl:Digs l) (hm:Norm m) (h1:l.length≤99999) (hge:zA1 m≤zA1 l):
 Calls Tryz.prog 211 #[.slice a l.length ca,.slice b m.length cb] w (zNC (digs (zA1 l - zA1 m).toNat) w):=by
 have hle1:=h.le;have hmx1:=h.mx;have hmf:∀ (fn:Fn) (first cap:Array Value) (w:World),(Instr.makeFunc fn first cap).run Tryz.prog w=.ok (.func fn first cap) w:=fun _ _ _ _=>rfl;have hx:Ext w ((w.alloc (.cells #[.slice a l.length ca] 217)).alloc (.cells #[.slice b m.length cb] 217)):=(by repeat (first | with_reducible exact Ext.refl _ | with_reducible assumption | with_reducible refine Ext.drewN ?_ _ | with_reducible refine Ext.drew ?_ | with_reducible refine Ext.alloc' ?_ _ | with_reducible refine Ext.set ?_ (by dsimp only;omega) _))
 have hC:Caps ((w.alloc (.cells #[.slice a l.length ca] 217)).alloc (.cells #[.slice b m.length cb] 217)) w.heap.size (w.heap.size+1) a b ca cb l m:=
  ⟨(Blk.new0 w _ _).alloc _,Blk.new1 w _ _ _,h.ext hx,k.ext hx⟩
 have c1:=hC.p.cell (i:=0) rfl;have hsz:w.heap.size≤((w.alloc (.cells #[.slice a l.length ca] 217)).alloc (.cells #[.slice b m.length cb] 217)).heap.size:=hx.size
 have hK:=zCZ l.length 225 (.pointer (some ⟨w.heap.size,0,none⟩)) (.pointer (some ⟨w.heap.size+1,0,none⟩)) (fun i=>l.getD i 0 - m.getD i 0) _ (by omega)
  (fun i=>by have:=zI9 l i hl;have:=zI9 m i hm.digs;omega) (enters_of Tryz.func225 (by kernel_rfl) rfl)
  (fun i W hi hW=>zKV _ _ a b ca cb l m i W (hC.ext hW) hl hm.digs hi)
 rw [zKS hl hm hge] at hK;have HK:=dH hK;generalize hw1:(w.alloc (.cells #[.slice a l.length ca] 217)).alloc (.cells #[.slice b m.length cb] 217)=w1 at *;have HW:=dH hw1;clear hK hC hw1 hge;go_enter Tryz.func211,Tryz.ntmps211;go_upto_region 1 with fail;rw [HW.out];go_wp2_with fail;refine HK.out.mono ?_;rintro e w2 ⟨v,rfl,hO,hy⟩;go_wp2_with fail;go_ret;exact⟨v,rfl,hO.base hsz,hx.trans hy⟩
theorem zFO:∀ (L:List Int) (p:Nat) (v:Int),p<L.length→zA1 (L.set p v)=zA1 L+1073741824 ^ p* (v - L.getD p 0)
 | [],p,v,h=>by simp at h
 | d :: L,0,v,_=>by simp [zA1];omega
 | d :: L,p+1,v,h=>by
  have ih:=zFO L p v (by simpa using h);simp only [List.set_cons_succ,zA1,ih,List.getD_cons_succ,Int.pow_succ];have:(1073741824:Int) ^ p*1073741824* (v - L.getD p 0)=1073741824* (1073741824 ^ p* (v - L.getD p 0)):=by rw [Int.mul_comm (1073741824 ^ p) 1073741824,Int.mul_assoc]
  omega
theorem zBR {l:List Int} {i:Nat} (h:i<l.length):zA1 (l.take (i+1))=zA1 (l.take i)+1073741824 ^ i*l.getD i 0:=by
 rw [List.take_succ_eq_append_getElem h,zBX,List.length_take,Nat.min_eq_left (by omega)];simp [List.getD,h]
theorem zFP {L:List Int} (h:Digs L) (p:Nat) {v:Int} (h1:0≤v) (h2:v<1073741824):Digs (L.set p v):=fun x hx=>by
 rcases List.mem_or_eq_of_mem_set hx with h3 | h3
 ·exact h _ h3
 ·rw [h3];exact⟨h1,h2⟩
theorem getD_set_ne {L:List Int} {p j:Nat} {v:Int} (h:j≠p):(L.set p v).getD j 0=L.getD j 0:=by
 simp only [List.getD,List.getElem?_set];rw [if_neg (fun e=>h e.symm)]
structure RowM (l m:List Int) (i:Nat) (M:List Int):Prop where
 len:M.length=l.length+m.length
 dig:Digs M
 zer:∀j,i+m.length≤j→M.getD j 0=0
 val:zA1 M=zA1 (l.take i)*zA1 m
theorem RowM.start (l m:List Int):RowM l m 0 (List.replicate (l.length+m.length) 0):=by
 refine⟨by simp,fun x hx=>by have:=List.eq_of_mem_replicate hx;omega,fun j _=>by simp [List.getD,List.getElem?_replicate];split <;> rfl,?_⟩
 have:∀n,zA1 (List.replicate n 0)=0:=fun n=>by induction n with
  | zero=>rfl
  | succ n ih=>simp [List.replicate_succ,zA1,ih]
 rw [this];simp [zA1]
theorem RowM.skip {l m M:List Int} {i:Nat} (h:RowM l m i M) (hi:i<l.length) (h0:l.getD i 0=0):RowM l m (i+1) M:=
 ⟨h.len,h.dig,fun j hj=>h.zer j (by omega),by rw [h.val,zBR hi,h0];simp⟩
structure ColM (l m:List Int) (i k:Nat) (x:Int) (M:List Int) (o:Int):Prop where
 len:M.length=l.length+m.length
 dig:Digs M
 zer:∀j,i+m.length≤j→M.getD j 0=0
 o0:0≤o
 o1:o<1073741824
 val:zA1 M+1073741824 ^ (i+k)*o=zA1 (l.take i)*zA1 m+1073741824 ^ i* (x*zA1 (m.take k))
theorem RowM.col {l m M:List Int} {i:Nat} (h:RowM l m i M) (x:Int):ColM l m i 0 x M 0:=
 ⟨h.len,h.dig,h.zer,by omega,by omega,by rw [h.val];simp [zA1]⟩
theorem ColM.bd {l m M:List Int} {i k:Nat} {x y o:Int} (h:ColM l m i k x M o) (hx:0≤x∧x<1073741824) (hy:0≤y∧y<1073741824):
 0≤x*y∧x*y≤1152921502459363329∧0≤M.getD (i+k) 0+x*y+o∧M.getD (i+k) 0+x*y+o<1152921504606846976:=by
 obtain⟨a1,a2⟩:=h.dig.getD (i+k);have b1:=h.o0;have b2:=h.o1;have c1:0≤x*y:=Int.mul_nonneg hx.1 hy.1;have c2:x*y≤1073741823*1073741823:=Int.mul_le_mul (by omega) (by omega) hy.1 (by omega);omega
theorem ColM.step {l m M:List Int} {i k:Nat} {x y o s:Int} (h:ColM l m i k x M o) (hi:i<l.length) (hk:k<m.length) (hx:0≤x∧x<1073741824) (hm:Digs m) (hy:m.getD k 0=y) (hs:M.getD (i+k) 0+x*y+o=s):
 ColM l m i (k+1) x (M.set (i+k) (s % 1073741824)) (s / 1073741824):=by
 have hyd:=hm.getD k;rw [hy] at hyd;obtain⟨_,_,b3,b4⟩:=h.bd hx hyd;rw [hs] at b3 b4;refine⟨by simp [h.len],zFP h.dig _ (by omega) (by omega),fun j hj=>?_,by omega,by omega,?_⟩
 ·rw [getD_set_ne (by omega)];exact h.zer j hj
 ·have hv:=h.val;rw [zFO _ _ _ (by rw [h.len];omega),zBR hk,hy,show i+ (k+1)=i+k+1 by omega,Int.pow_succ];have e1:(1073741824:Int) ^ i* (x* (zA1 (m.take k)+1073741824 ^ k*y))=1073741824 ^ i* (x*zA1 (m.take k))+1073741824 ^ (i+k)* (x*y):=by
   rw [Int.pow_add,Int.mul_add,Int.mul_add]
   congr 1
   rw [Int.mul_assoc,←Int.mul_assoc x,Int.mul_comm x,Int.mul_assoc]
  rw [e1,←Int.add_assoc,←hv];generalize (1073741824:Int) ^ (i+k)=p;have e2:p*1073741824* (s / 1073741824)=p* (1073741824* (s / 1073741824)):=Int.mul_assoc _ _ _;rw [e2];have e3:s % 1073741824=s - 1073741824* (s / 1073741824):=by omega
  rw [e3];generalize 1073741824* (s / 1073741824)=u;have e4:x*y=s - o - M.getD (i+k) 0:=by omega
  rw [e4];simp only [Int.mul_sub];omega
theorem ColM.done {l m M:List Int} {i:Nat} {x o:Int} (h:ColM l m i m.length x M o) (hi:i<l.length) (hx:l.getD i 0=x):RowM l m (i+1) (M.set (i+m.length) o):=by
 refine⟨by simp [h.len],zFP h.dig _ h.o0 h.o1,fun j hj=>?_,?_⟩
 ·rw [getD_set_ne (by omega)];exact h.zer j (by omega)
 ·have hv:=h.val;rw [zFO _ _ _ (by rw [h.len];omega),h.zer _ (Nat.le_refl _),Int.sub_zero,hv,List.take_length,zBR hi,hx,Int.add_mul,Int.mul_assoc]
theorem RowM.done {l m M:List Int} (h:RowM l m l.length M):zAB M=digs (zA1 l*zA1 m).toNat:=by
 rw [zCX h.dig,h.val,List.take_length]
theorem zMz (a b:Option Addr) (ca cb:Nat) (l m:List Int) (w:World) (h:Ints w a ca l) (k:Ints w b cb m) (hl:Digs l) (hm:Digs m) (h1:l.length+m.length≤99999):
 Calls Tryz.prog 196 #[.slice a l.length ca,.slice b m.length cb] w (zNC (digs (zA1 l*zA1 m).toNat) w):=by
 obtain⟨i0,hi0,hz0,hz1,hz2⟩:=info_parts zHD;have hle1:=h.le;have hmx1:=h.mx;have hle2:=k.le;have hmx2:=k.mx;obtain⟨n,hn⟩:∃n,l.length+m.length=n:=⟨_,rfl⟩
 have hn2:(l.length:Int)+ (m.length:Int)= (n:Int):=by omega
 have HI:=dH h;have HI2:=dH k;have HD1:=dH hl;have HD2:=dH hm;clear h k hl hm;go_enter Tryz.func196,Tryz.ntmps196;go_wp2_with fail
 go_step3
 go_wp2_with (at_make;refine wpList_make_full _ rfl _ _ 217 rfl w.heap.size 3 i0 (.int .i64 0) 1 Tryz.underlying217 hi0 hz0 hz1 _ _ _ _ n rfl rfl rfl rfl (by rw [hz2];omega) (by unfold maxLen;omega) (Nat.le_refl _) ?_;intro w2 hown hgrow)
 have hown:w2.ownsRow w.heap.size 3 1 (.slice (some ⟨w.heap.size,0,none⟩) n n) n ((List.replicate n (0:Int)).map (Value.int .i64)):=by simpa [Value.cells,toList_madeCells_one] using hown
 have hB0:IB w2 w.heap.size (List.replicate n 0):=IB.of_owns hown;have hx0:Ext w w2:=zEj (Ext.refl w) hgrow;have hst:=RowM.start l m;rw [hn] at hst;have HST:=dH hst;clear hown hgrow hst;obtain⟨g,hg⟩:∃g,w.heap.size=g:=⟨_,rfl⟩
 rw [hg] at hB0 ⊢;have HG:=dH hg;have HN:=dH hn;clear hg
 go_step3
 go_wp2_with fail
 go_loopw [20] (fun i wr=>∃ (k:Nat) (M:List Int),k≤l.length∧i=.int .i64 k∧RowM l m k M∧IB wr g M∧Ext w wr) (fun i _=>l.length - (intOf i).toNat)
 case atStart=>exact⟨0,_,Nat.zero_le _,rfl,HST.out,hB0,hx0⟩
 case round=>
  clear hB0 hx0 HST;obtain⟨i,M,hi,rfl,hR,hBr,hxr⟩:=hrel;by_cases hil:i<l.length
  ·obtain⟨b1,o1,rfl⟩:=(HI.out).head hil;obtain⟨x,hx,hc,_⟩:=Ints.get (HI.out.ext hxr) hil;have hxd:=HD1.out.getD i;rw [zCY hx] at hxd;have HX:=dH (zCY hx);have HR:=dH hR;have HB:Hid (IB wr g M):=dH hBr;have HXR:=dH hxr;have g1:(0:Int)≤(i:Int):=by omega
   have g2:(i:Int)< (l.length:Int):=by omega
   clear hx hR hBr;by_cases hx0:x=0
   ·subst hx0;go_wp2_with fail;go_roundw
    case rel=>exact⟨i+1,M,by omega,by go_num,HR.out.skip hil HX.out,HB.out,HXR.out⟩
    case measure=>simp [intOf];omega
   ·have t1:(x == 0)=false:=by simpa using hx0
    clear hx0;go_wp2_with fail;clear hc
    go_loopw [8,29] (fun o j w3=>∃ (k:Nat) (M:List Int) (z:Int),k≤m.length∧j=.int .i64 k∧o=.int .i64 z∧ColM l m i k x M z∧IB w3 g M∧Ext w w3) (fun _ j _=>m.length - (intOf j).toNat)
    case atStart=>exact⟨0,M,0,Nat.zero_le _,rfl,rfl,HR.out.col x,HB.out,HXR.out⟩
    case round=>
     clear HR HB HXR hxr;obtain⟨k,M2,z,hk,rfl,rfl,hC,hB2,hx2⟩:=hrel;obtain⟨z0,z1⟩:0≤z∧z<1073741824:=⟨hC.o0,hC.o1⟩
     by_cases hkm:k<m.length
     ·obtain⟨b2,o2,rfl⟩:=(HI2.out).head hkm;obtain⟨y,hy,hc2,_⟩:=Ints.get (HI2.out.ext hx2) hkm;have hyd:=HD2.out.getD k;rw [zCY hy] at hyd;obtain⟨b3,b4,b5,b6⟩:=hC.bd hxd hyd;have e1:=IB.at hB2 (i:=i+k) (by rw [hC.len];omega);have f1:=hB2.free (i+k);have hdg:=hC.dig.getD (i+k);have hstep:=fun s hs=>hC.step (s:=s) hil hkm hxd HD2.out (zCY hy) hs;generalize M2.getD (i+k) 0=u at *;obtain⟨p,hp⟩:∃p,x*y=p:=⟨_,rfl⟩
      rw [hp] at b3 b4 b5 b6;obtain⟨s,hs⟩:∃s,u+p+z=s:=⟨_,rfl⟩
      have hst:=hstep s (by rw [hp];exact hs);have HS:=dH hst;have HB2:Hid (IB wr g M2):=dH hB2;have HX2:=dH hx2;have hand:=zDm s;have g3:(0:Int)≤(k:Int):=by omega
      have g4:(k:Int)< (m.length:Int):=by omega
      have g5:(0:Int)≤(i:Int)+ (k:Int):=by omega
      have g6:(i:Int)+ (k:Int)< (n:Int):=by omega
      rw [hs] at b5 b6;clear hy hstep hst hB2 hx2 hC;go_wp2_with fail;go_roundw
      case rel=>
       refine⟨k+1,_,_,by omega,by go_num,rfl,HS.out,IB.put HB2.out _ _,HX2.out.set (p:=⟨g,i+k,none⟩) (by dsimp only;rw [HG.out];exact Nat.le_refl _) _⟩
      case measure=>simp [intOf];omega
     ·obtain rfl:k=m.length:=by omega
      have hdn:=hC.done hil HX.out;have e1:=IB.at hB2 (i:=i+m.length) (by rw [hC.len];omega);have f1:=hB2.free (i+m.length);have HS:=dH hdn;have HB2:Hid (IB wr g M2):=dH hB2;have HX2:=dH hx2;have g5:(0:Int)≤(i:Int)+ (m.length:Int):=by omega
      have g6:(i:Int)+ (m.length:Int)< (n:Int):=by omega
      clear hdn hB2 hx2 hC;go_wp2_with fail;go_roundw
      case rel=>exact⟨i+1,_,by omega,by go_num,HS.out,IB.put HB2.out _ _,HX2.out.set (p:=⟨g,i+m.length,none⟩) (by dsimp only;rw [HG.out];exact Nat.le_refl _) _⟩
      case measure=>simp [intOf];omega
  ·obtain rfl:i=l.length:=by omega
   have hdg:=hR.dig;have hTr:=hR.done;have hMn:M.length=n:=by rw [hR.len];exact HN.out
   have hI:=IB.ints hBr (fun x hx=>by have:=hdg x hx;omega) (by rw [hMn];omega);have hT:=zC5 _ _ _ wr hI;have hO:=IB.own (base:=w.heap.size) hBr (by rw [HG.out];exact Nat.le_refl _) (by rw [hMn];unfold maxLen;omega) (zCB M);rw [←zB1,hTr,hMn] at hO;rw [hTr,hMn] at hT;have HT:=dH hT;have HO:=dH hO;have HXR:=dH hxr;clear hR hBr hI hT hO hdg hTr hxr;go_wp2_with fail;refine HT.out.mono ?_;rintro e w4 ⟨rfl,rfl⟩;go_wp2_with fail;go_ret;exact⟨_,rfl,HO.out,HXR.out⟩
end Go.Proofs.YtonkhcdmchidjaaGreat
namespace Go.Proofs.YtonkhcdmchidjaaGreat
def bin:Nat→Nat→Nat
 | _,0=>1
 | 0,_+1=>0
 | n+1,k+1=>bin n k+bin n (k+1)
theorem zIO {d:Int} (h0:0<d) (h1:d<1073741824):Norm [d]∧zA1 [d]=d:=⟨⟨by omega,h1,fun _=>by omega,trivial⟩,by simp [zA1]⟩
end Go.Proofs.YtonkhcdmchidjaaGreat
