import Derived.Test.YtonkhcdmchidjaaGreatBase
import Derived.StillTail
namespace Go.Proofs.YtonkhcdmchidjaaGreat
open Go.RowKit Go
section
variable {P:Program} {ops:Array Oper} {V:Nat→Value}
def NoQ:Exit→Act→World→Prop:=fun _ _ _=>False
def zBm (ops:Array Oper) (d:Nat):Option Tmp:=(ops[d]?).bind (·.dst)
def zAx (ops:Array Oper) (V:Nat→Value):List Nat→Act→Act
 | [],a=>a
 | d :: l,a=>zAx ops V l (a.put (zBm ops d) (V d))
theorem zIA (a:Act) (d:Option Tmp) (v:Value):(a.put d v).tmps.size=a.tmps.size:=by cases d <;> simp [Act.put]
theorem zDb (a:Act) (d:Option Tmp) (v:Value):(a.put d v).defers=a.defers:=by cases d <;> rfl
theorem zDU (a:Act) {d:Option Tmp} {t:Nat} (v:Value) (h:d≠some t):(a.put d v).tmps[t]? =a.tmps[t]? :=by
 cases d with
 | none=>rfl
 | some e=>
  have:e≠t:=fun x=>h (by rw [x]);simp [Act.put,Array.getElem?_setIfInBounds_ne this]
theorem zEZ (a:Act) {d:Option Tmp} {t:Nat} (v:Value) (h:d=some t):(a.put d v).tmps[t]? =if t<a.tmps.size then some v else none:=by
 subst h;simp only [Act.put,Array.getElem?_setIfInBounds,if_true]
theorem zCf:∀ (l:List Nat) (a:Act),(zAx ops V l a).defers=a.defers
 | [],_=>rfl
 | d :: l,a=>by rw [zAx,zCf l,zDb]
theorem zDc:∀ (l:List Nat) (a:Act),(zAx ops V l a).tmps.size=a.tmps.size
 | [],_=>rfl
 | d :: l,a=>by rw [zAx,zDc l,zIA]
theorem zCg {t:Nat}:∀ (l:List Nat) (a:Act),(∀d∈l,zBm ops d≠some t)→(zAx ops V l a).tmps[t]? =a.tmps[t]?
 | [],_,_=>rfl
 | d :: l,a,h=>by rw [zAx,zCg l _ (fun x hx=>h x (by simp [hx])),zDU _ _ (h d (by simp))]
theorem zDd {t j:Nat} (hj:zBm ops j=some t):∀ (l:List Nat) (a:Act),j∈l→(∀d∈l,zBm ops d=some t→d=j)→(zAx ops V l a).tmps[t]? =if t<a.tmps.size then some (V j) else none
 | [],_,h,_=>by cases h
 | d :: l,a,h,hu=>by
  rw [zAx];by_cases hl:j∈l
  ·rw [zDd hj l _ hl (fun x hx=>hu x (by simp [hx])),zIA]
  ·have hd:d=j:=by
    rcases List.mem_cons.1 h with h | h
    ·exact h.symm
    ·exact absurd h hl
   subst hd;rw [zCg l _ (fun x hx hx2=>hl (by rw [←hu x (by simp [hx]) hx2];exact hx)),zEZ _ _ hj]
theorem zF0 (i:Nat):∀ (l:List Nat) (a:Act),zAx ops V (l ++ [i]) a= (zAx ops V l a).put (zBm ops i) (V i)
 | [],_=>rfl
 | d :: l,a=>by rw [List.cons_append,zAx,zAx,zF0 i l]
theorem zE7 {V':Nat→Value}:∀ (l:List Nat) (a:Act),(∀d∈l,V d=V' d)→zAx ops V l a=zAx ops V' l a
 | [],_,_=>rfl
 | d :: l,a,h=>by rw [zAx,zAx,h d (by simp),zE7 l _ (fun x hx=>h x (by simp [hx]))]
theorem zE8 {t:Nat} {l m:List Nat} {a:Act} (h:∀d,zBm ops d=some t→(d∈l↔d∈m)) (hu:∀d e,zBm ops d=some t→zBm ops e=some t→d=e):
 (zAx ops V l a).tmps[t]? = (zAx ops V m a).tmps[t]? :=by
 by_cases hj:∃j∈l,zBm ops j=some t
 ·obtain⟨j,h1,h2⟩:=hj;rw [zDd h2 l a h1 (fun d _ hd=>hu d j hd h2),zDd h2 m a ((h j h2).1 h1) (fun d _ hd=>hu d j hd h2)]
 ·rw [zCg l a (fun d hd h2=>hj ⟨d,hd,h2⟩),zCg m a (fun d hd h2=>hj ⟨d,(h d h2).2 hd,h2⟩)]
theorem zKw {a b:Act} (h1:∀t:Nat,a.tmps[t]? =b.tmps[t]?) (h2:a.defers=b.defers):a=b:=by
 cases a;cases b
 simp only [Act.mk.injEq] at *;exact⟨Array.ext_getElem? h1,h2⟩
theorem zJg {a b:Act} {x:Operand} (h:∀t,x=.tmp t→a.tmps[t]? =b.tmps[t]?):a.eval x=b.eval x:=by
 cases x with
 | tmp t=>simp only [Act.eval,Array.getD_eq_getD_getElem?,h t rfl]
 | _=>rfl
theorem zHk {o:Oper} (hs:∀cs b,o.op≠.select cs b) {a b:Act} (h:∀t∈o.looksAt ops,a.tmps[t]? =b.tmps[t]?):execOp a.eval o=execOp b.eval o:=
 execOp_congr o hs fun x hx=>zJg fun t ht=>h t (by
  subst ht
  exact List.mem_append_left _ (List.mem_filterMap.2 ⟨.tmp t,by simpa using hx,rfl⟩))
theorem zHl {o:Oper} {a b:Act} (h:∀t∈o.looksAt ops,a.tmps[t]? =b.tmps[t]?):Region.wanted o (yielded ops a.tmps)=Region.wanted o (yielded ops b.tmps):=by
 unfold Region.wanted
 cases hg:o.guard with
 | none=>rfl
 | some gw=>
  obtain⟨g,want⟩:=gw;have hy:yielded ops a.tmps g=yielded ops b.tmps g:=by
   unfold yielded
   cases ht:(ops[g]?).bind (·.dst) with
   | none=>rfl
   | some t=>
    have:=h t (by simp [Oper.looksAt,hg,ht]);simp only [Option.bind_some,this]
  simp only [hy]
theorem zIB {o:Oper} {a b:Act} {Q:Exit→Act→World→Prop} {S:Value→World→Prop} {K:Act→World→Prop} (hz:a.tmps.size=b.tmps.size)
 (hK:∀v w1,S v w1→K (a.put o.dst v) w1):∀{r:Result Next},o.upon P b (fun a1 w1=>∃v,a1=b.put o.dst v∧S v w1) NoQ r→o.upon P a K Q r:=by
 have key:∀u w1,(∃v,b.put o.dst u=b.put o.dst v∧S v w1)→K (a.put o.dst u) w1:=fun u w1 ⟨v,h1,h2⟩=>by
  have:a.put o.dst u=a.put o.dst v:=by
   cases hd:o.dst with
   | none=>rfl
   | some d=>
    rw [hd] at h1;by_cases hlt:d<b.tmps.size
    ·have e1:=zEZ b (d:=some d) u rfl;have e2:=zEZ b (d:=some d) v rfl;rw [h1] at e1;have e3:=e1.symm.trans e2;rw [if_pos hlt,if_pos hlt] at e3;rw [Option.some.inj e3]
    ·refine zKw (fun t=>?_) rfl;by_cases ht:t=d
     ·have hlt2:¬t<a.tmps.size:=by rw [hz,ht];exact hlt
      rw [zEZ a u (by rw [ht]),zEZ a v (by rw [ht]),if_neg hlt2,if_neg hlt2]
     ·rw [zDU a u (fun e=>ht (Option.some.inj e).symm),zDU a v (fun e=>ht (Option.some.inj e).symm)]
  rw [this];exact hK v w1 h2
 intro r h
 cases r with
 | ok n w'=>
  cases n <;> simp only [Oper.upon] at h ⊢
  case value u=>exact key _ _ h
  case skip=>exact key _ _ h
  case defer d=>
   obtain⟨v,h1,_⟩:=h;have:=congrArg Act.defers h1;rw [zDb,zDb] at this;exact absurd this (by simp)
  case enter f args=>
   refine Calls.mono h fun e w'' he=>?_
   cases e with
   | returned u=>exact key _ _ he
   | panicked c=>exact he.elim
   | outgrown=>obtain⟨_,_,hf⟩:=he;exact hf.elim
  case row row args=>exact Rows.mono h fun u w'' he=>key _ _ he
 | halt x w'=>
  cases x <;> simp only [Oper.upon] at h ⊢
  case panic u=>exact h.elim
structure DoneF (R:Nat→Value→World→World→Prop) (w0:World) (V:Nat→Value) (B A:Nat→World) (w:World) (i:Nat):Prop where
 rel:R i (V i) (B i) (A i)
 e0:Ext w0 (B i)
 e1:Ext (B i) (A i)
 e2:Ext (A i) w
theorem DoneF.later {R:Nat→Value→World→World→Prop} {w0 w w':World} {V:Nat→Value} {B A:Nat→World} {i:Nat} (h:DoneF R w0 V B A w i) (k:Ext w w'):DoneF R w0 V B A w' i:=
 ⟨h.rel,h.e0,h.e1,h.e2.trans k⟩
def zIC (ops:Array Oper) (D0:Array Bool) (deps:List (List Nat)):Bool:=
 deps.length == ops.size && D0.size == ops.size &&
 ((List.range ops.size).all fun i=>match ops[i]?,deps[i]? with
   | some o,some ds=>
    (match o.op with | .select _ _=>false | _=>true) &&
    (o.after.all fun e=>!Region.binds .any e || decide (e.on<i)) &&
    (ds.all fun d=>!D0.getD d false && o.after.any fun e=>Region.binds .any e && e.on == d) &&
    ((List.range ops.size).all fun j=>match ops[j]? with
      | some oj=>(match oj.dst with
       | none=>true
       | some t=>(i == j || o.dst != some t) && (D0.getD i false || !(o.looksAt ops).contains t || D0.getD j false || ds.contains j || oj.after.any fun e=>Region.binds .any e && e.on == i))
      | none=>true)
   | _,_=>false)
structure zNm (ops:Array Oper) (D0:Array Bool) (i:Nat) (o:Oper) (ds:List Nat):Prop where
 sel:∀cs b,o.op≠.select cs b
 back:∀e∈o.after,Region.binds .any e=true→e.on<i
 wait:∀d∈ds,D0.getD d false=false∧∃e∈o.after,Region.binds .any e=true∧e.on=d
 uniq:∀j t,zBm ops j=some t→o.dst=some t→i=j
 look:D0.getD i false=false→∀j t,zBm ops j=some t→t∈o.looksAt ops→D0.getD j false=true∨j∈ds∨∃oj,ops[j]? =some oj∧∃e∈oj.after,Region.binds .any e=true∧e.on=i
theorem zDe {D0:Array Bool} {deps:List (List Nat)} (h:zIC ops D0 deps=true) {i:Nat} {o:Oper} (hi:ops[i]? =some o):∃ds,deps[i]? =some ds∧zNm ops D0 i o ds:=by
 simp only [zIC,Bool.and_eq_true,beq_iff_eq] at h;obtain⟨⟨hl,_⟩,h⟩:=h;have hlt:i<ops.size:=(Array.getElem?_eq_some_iff.1 hi).1;have h:=List.all_eq_true.1 h i (List.mem_range.2 hlt);have hd:deps[i]? =some deps[i]:=List.getElem?_eq_getElem (by omega);rw [hi,hd] at h;simp only [Bool.and_eq_true] at h;obtain⟨⟨⟨h1,h2⟩,h3⟩,h4⟩:=h;refine⟨_,hd,?_,?_,?_,?_,?_⟩
 ·intro cs b e;rw [e] at h1;exact absurd h1 (by simp)
 ·intro e he hb;have:=Array.all_eq_true_iff_forall_mem.1 h2 e he
  simpa [hb] using this
 ·intro d hd;have:=List.all_eq_true.1 h3 d hd;rw [Bool.and_eq_true,Bool.not_eq_true'] at this;obtain⟨k,hk,hx⟩:=Array.any_eq_true.1 this.2;simp only [Bool.and_eq_true,beq_iff_eq] at hx;exact⟨this.1,_,Array.getElem_mem hk,hx.1,hx.2⟩
 ·intro j t hj ho
  cases hoj:ops[j]? with
  | none=>simp [zBm,hoj] at hj
  | some oj=>
   have hjl:j<ops.size:=(Array.getElem?_eq_some_iff.1 hoj).1;have:=List.all_eq_true.1 h4 j (List.mem_range.2 hjl);have hdj:oj.dst=some t:=by simpa [zBm,hoj] using hj
   simp only [hoj,hdj,ho,Bool.and_eq_true] at this
   simpa using this.1
 ·intro hD j t hj ht
  cases hoj:ops[j]? with
  | none=>simp [zBm,hoj] at hj
  | some oj=>
   have hjl:j<ops.size:=(Array.getElem?_eq_some_iff.1 hoj).1;have:=List.all_eq_true.1 h4 j (List.mem_range.2 hjl);have hdj:oj.dst=some t:=by simpa [zBm,hoj] using hj
   simp only [hoj,hdj,hD,Bool.and_eq_true,Bool.or_eq_true,Bool.not_eq_true',List.contains_eq_mem,decide_eq_false_iff_not,decide_eq_true_eq] at this;rcases this.2 with(((h5 | h5) | h5) | h5) | h5
   ·cases h5
   ·exact absurd ht h5
   ·exact .inl h5
   ·exact .inr (.inl h5)
   ·right;right
    obtain⟨k,hk,hx⟩:=Array.any_eq_true.1 h5;simp only [Bool.and_eq_true,beq_iff_eq] at hx;exact⟨oj,rfl,_,Array.getElem_mem hk,hx.1,hx.2⟩
structure InvF (ops:Array Oper) (D0:Array Bool) (R:Nat→Value→World→World→Prop) (a0:Act) (w0:World) (L:List Nat) (V:Nat→Value) (B A:Nat→World) (D:Array Bool) (a:Act) (w:World):Prop where
 nd:L.Nodup
 mem:∀i,i∈L↔(i<ops.size∧D.getD i false=true∧D0.getD i false=false)
 old:∀i,D0.getD i false=true→D.getD i false=true
 size:D.size=ops.size
 closed:∀i∈L,∀o,ops[i]? =some o→∀e∈o.after,Region.binds .any e=true→D.getD e.on false=true
 facts:∀i∈L,DoneF R w0 V B A w i
 pairs:∀i∈L,∀j∈L,i≠j→Ext (A i) (B j)∨Ext (A j) (B i)
 ext:Ext w0 w
 act:a=zAx ops V L a0
theorem zMr:∀ (L F:List Nat),L.Nodup→(∀x∈L,x∈F)→L.length≤F.length
 | [],_,_,_=>Nat.zero_le _
 | x :: L,F,hd,h=>by
  have hx:=h x (by simp)
  have h1:=zMr L (F.erase x) (List.nodup_cons.1 hd).2 (fun y hy=>by
   have hne:y≠x:=fun e=>(List.nodup_cons.1 hd).1 (e ▸ hy)
   exact(List.mem_erase_of_ne hne).2 (h y (by simp [hy])))
  rw [List.length_erase_of_mem hx] at h1;have h2:=List.length_pos_of_mem hx;simp only [List.length_cons];omega
def zF1 (ops:Array Oper) (D0:Array Bool):List Nat:=(List.range ops.size).filter fun i=>!D0.getD i false
theorem zF2 {S:World→Prop} {D0:Array Bool} {deps:List (List Nat)} {R:Nat→Value→World→World→Prop} {a0:Act} {w0:World} {Q:Exit→Act→World→Prop} (hB:zIC ops D0 deps=true)
 (hS:∀w,Ext w0 w→S w)
 (hstep:∀i o ds,ops[i]? =some o→deps[i]? =some ds→D0.getD i false=false→∀ (V:Nat→Value) (B A:Nat→World) (w:World),Ext w0 w→(∀d∈ds,DoneF R w0 V B A w d)→
   ∀K:Act→World→Prop,Hid (∀v w1,R i v w w1→Ext w w1→K ((zAx ops V ds a0).put o.dst v) w1)→wpOp P ops NoQ i K (zAx ops V ds a0) w)
 (hfin:∀ (V:Nat→Value) (B A:Nat→World) (w:World),(∀i∈zF1 ops D0,DoneF R w0 V B A w i)→(∀i∈zF1 ops D0,∀j∈zF1 ops D0,i≠j→Ext (A i) (B j)∨Ext (A j) (B i))→Ext w0 w→
   Q .normal (zAx ops V (zF1 ops D0) a0) w):
 ∀ (fuel:Nat) (L:List Nat) (V:Nat→Value) (B A:Nat→World) (D:Array Bool) (a:Act) (w:World),InvF ops D0 R a0 w0 L V B A D a w→L.length+fuel= (zF1 ops D0).length→wpAnyH P .any ops Q S fuel D a w:=by
 have left:∀i,i∈zF1 ops D0↔(i<ops.size∧D0.getD i false=false):=fun i=>by
  rw [zF1,List.mem_filter,List.mem_range,Bool.not_eq_true']
 have uniq:∀ (t d e:Nat),zBm ops d=some t→zBm ops e=some t→d=e:=fun t d e h1 h2=>by
  cases hod:ops[d]? with
  | none=>simp [zBm,hod] at h1
  | some od=>
   obtain⟨ds,_,hok⟩:=zDe hB hod;exact hok.uniq e t h2 (by simpa [zBm,hod] using h1)
 have falsy:∀{D:Array Bool} {i:Nat},D.size=ops.size→i<ops.size→D.getD i true=false→D.getD i false=false:=fun hz hi h=>by
  rw [←hz] at hi;simp [hi] at h ⊢;exact h
 have done:∀ (L:List Nat) (V:Nat→Value) (B A:Nat→World) (D:Array Bool) (a:Act) (w:World),InvF ops D0 R a0 w0 L V B A D a w→Region.ready .any ops D=[]→Q .normal a w:=by
  intro L V B A D a w inv hr;have all:∀i,i<ops.size→D.getD i false=true:=by
   intro i
   induction i using Nat.strongRecOn with
   | _ i ih=>
    intro hi;apply Classical.byContradiction;intro hD;have ho:ops[i]? =some ops[i]:=Array.getElem?_eq_getElem hi;obtain⟨ds,_,hok⟩:=zDe hB ho;have:i∈Region.ready .any ops D:=by
     rw [mem_ready];refine⟨?_,_,ho,fun e he hb=>?_⟩
     ·have hsz:i<D.size:=by rw [inv.size];exact hi
      simp [hsz] at hD ⊢;exact hD
     ·have h1:=hok.back e he hb;exact ih e.on h1 (by omega)
    rw [hr] at this;cases this
  have allL:∀i∈zF1 ops D0,i∈L:=fun i hi=>by
   obtain⟨h1,h2⟩:=(left i).1 hi;exact(inv.mem i).2 ⟨h1,all i h1,h2⟩
  have hact:a=zAx ops V (zF1 ops D0) a0:=by
   rw [inv.act];refine zKw (fun t=>zE8 (fun d hd=>?_) (uniq t)) (by rw [zCf,zCf]);refine⟨fun h=>?_,allL d⟩;have:=(inv.mem d).1 h;exact(left d).2 ⟨this.1,this.2.2⟩
  rw [hact];exact hfin V B A w (fun i hi=>inv.facts i (allL i hi)) (fun i hi j hj=>inv.pairs i (allL i hi) j (allL j hj)) inv.ext
 intro fuel
 induction fuel with
 | zero=>
  intro L V B A D a w inv hf;have hr:Region.ready .any ops D=[]:=by
   cases hr:Region.ready .any ops D with
   | nil=>rfl
   | cons i rs=>
    exfalso;have hi:i∈Region.ready .any ops D:=by rw [hr];simp
    obtain⟨h0,o,ho,_⟩:=mem_ready.1 hi;have hlt:i<ops.size:=(Array.getElem?_eq_some_iff.1 ho).1;have hDi:=falsy inv.size hlt h0;have h0i:D0.getD i false=false:=by
     cases h:D0.getD i false with
     | false=>rfl
     | true=>rw [inv.old i h] at hDi;cases hDi
    have hsub:(i :: L).length≤(zF1 ops D0).length:=by
     refine zMr _ _ (List.nodup_cons.2 ⟨fun h=>?_,inv.nd⟩) (fun x hx=>?_)
     ·have:=((inv.mem i).1 h).2.1;rw [hDi] at this;cases this
     ·rcases List.mem_cons.1 hx with rfl | h
      ·exact(left x).2 ⟨hlt,h0i⟩
      ·have:=(inv.mem x).1 h;exact(left x).2 ⟨this.1,this.2.2⟩
    simp at hsub;omega
  exact⟨hr,done L V B A D a w inv hr⟩
 | succ fuel ih=>
  intro L V B A D a w inv hf;refine⟨done L V B A D a w inv,fun i hi=>?_⟩;obtain⟨h0,o,ho,hall⟩:=mem_ready.1 hi;have hlt:i<ops.size:=(Array.getElem?_eq_some_iff.1 ho).1;have hsz:i<D.size:=by rw [inv.size];exact hlt
  have hDi:=falsy inv.size hlt h0;have h0i:D0.getD i false=false:=by
   cases h:D0.getD i false with
   | false=>rfl
   | true=>rw [inv.old i h] at hDi;cases hDi
  have hiL:i ∉ L:=fun h=>by
   have:=((inv.mem i).1 h).2.1;rw [hDi] at this;cases this
  have inside:∀x,D.getD x false=true→x<ops.size:=fun x h=>by
   rw [←inv.size];apply Classical.byContradiction;intro hn;simp [Array.getElem?_eq_none (Nat.le_of_not_lt hn)] at h
  obtain⟨ds,hds,hok⟩:=zDe hB ho;have hdL:∀d∈ds,d∈L:=fun d hd=>by
   obtain⟨h0d,e,he,hb,h1⟩:=hok.wait d hd;have h2:=hall e he hb;rw [h1] at h2;exact(inv.mem d).2 ⟨inside d h2,h2,h0d⟩
  have hlook:∀t∈o.looksAt ops,a.tmps[t]? = (zAx ops V ds a0).tmps[t]? :=fun t ht=>by
   rw [inv.act];refine zE8 (fun d hd=>⟨fun hdl=>?_,hdL d⟩) (uniq t);rcases hok.look h0i d t hd ht with h | h | ⟨oj,hoj,e,he,hb,h1⟩
   ·rw [((inv.mem d).1 hdl).2.2] at h;cases h
   ·exact h
   ·exfalso;have:=inv.closed d hdl oj hoj e he hb;rw [h1,hDi] at this;cases this
  have hst:=hstep i o ds ho hds h0i V B A w inv.ext (fun d hd=>inv.facts d (hdL d hd)) (fun a1 w1=>∃v,a1= (zAx ops V ds a0).put o.dst v∧(R i v w w1∧Ext w w1)) (dH fun v w1 h1 h2=>⟨v,rfl,h1,h2⟩);have hz:a.tmps.size= (zAx ops V ds a0).tmps.size:=by rw [inv.act,zDc,zDc]
  have hK:∀v w1,(R i v w w1∧Ext w w1)→S w1∧wpAnyH P .any ops Q S fuel (D.setIfInBounds i true) (a.put o.dst v) w1:=fun v w1 ⟨h1,h2⟩=>by
   have hne:∀x∈L,x≠i:=fun x hx e=>hiL (e ▸ hx);refine⟨hS w1 (inv.ext.trans h2),ih (L ++ [i]) (fun x=>if x=i then v else V x) (fun x=>if x=i then w else B x) (fun x=>if x=i then w1 else A x) _ _ _ ?_ (by simp;omega)⟩;refine⟨?_,fun x=>?_,fun x hx=>getD_set_true (inv.old x hx),by simp [inv.size],fun x hx ox hox e he hb=>?_,fun x hx=>?_,fun x hx y hy hxy=>?_,inv.ext.trans h2,?_⟩
   ·refine List.nodup_append.2 ⟨inv.nd,by simp,fun x hx y hy=>?_⟩;rw [List.mem_singleton.1 hy];exact hne x hx
   ·rw [List.mem_append,List.mem_singleton]
    constructor
    ·rintro(h | rfl)
     ·have:=(inv.mem x).1 h;exact⟨this.1,getD_set_true this.2.1,this.2.2⟩
     ·exact⟨hlt,by simp [hsz],h0i⟩
    ·rintro⟨h3,h4,h5⟩;by_cases hxi:x=i
     ·exact .inr hxi
     ·rw [Go.getD_set_ne false (fun e=>hxi e.symm)] at h4;exact .inl ((inv.mem x).2 ⟨h3,h4,h5⟩)
   ·rcases List.mem_append.1 hx with h | h
    ·exact getD_set_true (inv.closed x h ox hox e he hb)
    ·rw [List.mem_singleton] at h;subst h;rw [ho] at hox;cases hox
     exact getD_set_true (hall e he hb)
   ·rcases List.mem_append.1 hx with h | h
    ·have:=(inv.facts x h).later h2;have hx:=hne x h;exact⟨by simpa [hx] using this.rel,by simpa [hx] using this.e0,by simpa [hx] using this.e1,by simpa [hx] using this.e2⟩
    ·rw [List.mem_singleton] at h;subst h;exact⟨by simpa using h1,by simpa using inv.ext,by simpa using h2,by simpa using Ext.refl w1⟩
   ·rcases List.mem_append.1 hx with h | h <;> rcases List.mem_append.1 hy with h' | h'
    ·have:=inv.pairs x h y h' hxy
     simpa [hne x h,hne y h'] using this
    ·rw [List.mem_singleton] at h';subst h'
     left
     simpa [hne x h] using (inv.facts x h).e2
    ·rw [List.mem_singleton] at h;subst h
     right
     simpa [hne y h'] using (inv.facts y h').e2
    ·rw [List.mem_singleton] at h h';exact absurd (h.trans h'.symm) hxy
   ·have hdst:zBm ops i=o.dst:=by simp [zBm,ho]
    rw [zF0,hdst,zE7 (V':=V) L a0 (fun d hd=>by simp [hne d hd]),←inv.act];simp
  unfold wpOp at hst ⊢;simp only [ho] at hst ⊢;rw [zHl hlook]
  split
  ·rename_i hw;simp only [hw,if_true] at hst;rcases hst with h | ⟨_,_,_,hf⟩
   ·refine .inl ?_;unfold Oper.wp at h ⊢;rw [zHk hok.sel hlook];exact zIB hz hK h
   ·exact hf.elim
  ·rename_i hw;simp only [hw] at hst;exact zIB (P:=P) (Q:=Q) (o:=o) (S:=fun v w1=>R i v w w1∧Ext w w1) (K:=fun a1 w1=>S w1∧wpAnyH P .any ops Q S fuel (D.setIfInBounds i true) a1 w1) hz hK (r:=.ok .skip w) hst
theorem zAs {S:World→Prop} {Q:Exit→Act→World→Prop} {i:Nat} {oi:Oper} {v:Value} {fuel:Nat} {listed:Array Bool} {a:Act} {w:World} (d:Option Nat) (hi:ops[i]? =some oi) (hd:(oi.dst == d)=true)
 (hs:Region.noSelect ops=true) (hf:Region.free .any ops listed i=true) (hr:(Region.ready .any ops listed).contains i=true)
 (hQ:∀c (a:Act) w,Q (.panic c) (a.put d v) w→Q (.panic c) a w) (hy:YieldsIf P ops S oi v a) (hS:S w)
 (h:wpAnyH P .any ops Q S fuel (listed.setIfInBounds i true) (a.put d v) w):wpAnyH P .any ops Q S (fuel+1) listed a w:=by
 have e:=eq_of_beq hd;subst e;exact wpAnyH_take hi hs hf hr hQ hy hS h
theorem zF3 {S:World→Prop} {id:Nat} {Q:Exit→Act→World→Prop} {a:Act} {w:World} (n:Nat) (listed:List Bool) (hm:P.follows .mixedOrders=true) (hn:(ops.size == n && listed == List.replicate n false)=true) (hS:S w.drew)
 (h:S w.drew→wpAnyH P .any ops Q S n listed.toArray a w.drew):(Code.region id ops true).wp P Q a w:=by
 rw [Bool.and_eq_true,beq_iff_eq,beq_iff_eq] at hn;refine wp_region_held (S:=S) hm ?_;have:=h hS;rw [←hn.1] at this;have e:listed.toArray=Array.replicate ops.size false:=by rw [hn.2,hn.1];simp
 rw [e] at this;exact this
def EqC (c:Value) (v:Value) (w1 w2:World):Prop:=v=c∧w1=w2
def zAT (dsts:List (Option Nat)) (V:Nat→Value):List Nat→Act→Act
 | [],a=>a
 | d :: l,a=>zAT dsts V l (a.put (dsts.getD d none) (V d))
theorem zI1 {dsts:List (Option Nat)} (h:∀d,zBm ops d=dsts.getD d none) (V:Nat→Value):∀ (l:List Nat) (a:Act),zAT dsts V l a=zAx ops V l a
 | [],_=>rfl
 | d :: l,a=>by rw [zAT,zAx,zI1 h V l,h d]
def FactsOf (Rs:List (Value→World→World→Prop)) (w0:World) (V:Nat→Value) (B A:Nat→World) (w:World):List Nat→Prop
 | []=>True
 | d :: l=>DoneF (fun i=>Rs.getD i fun _ _ _=>True) w0 V B A w d∧FactsOf Rs w0 V B A w l
theorem FactsOf.of {Rs:List (Value→World→World→Prop)} {w0 w:World} {V:Nat→Value} {B A:Nat→World}:∀{l:List Nat},(∀d∈l,DoneF (fun i=>Rs.getD i fun _ _ _=>True) w0 V B A w d)→FactsOf Rs w0 V B A w l
 | [],_=>trivial
 | d :: _,h=>⟨h d (by simp),FactsOf.of fun x hx=>h x (by simp [hx])⟩
def zDD (dsts:List (Option Nat)) (tmps:Array Value) (j:Nat):Option Bool:=
 match (dsts.getD j none).bind (tmps[·]?) with
 | some (.bool b)=>some b
 | _=>none
theorem zI2 {dsts:List (Option Nat)} (h:∀d,zBm ops d=dsts.getD d none) (tmps:Array Value) (j:Nat):yielded ops tmps j=zDD dsts tmps j:=by
 unfold yielded zDD;rw [←h j];rfl
def RunF (P:Program) (dsts:List (Option Nat)) (o:Oper) (a:Act) (w:World) (R:Value→World→World→Prop):Prop:=
 ∀K:Act→World→Prop,Hid (∀v w1,R v w w1→Ext w w1→K (a.put o.dst v) w1)→match o.guard with
  | none=>Oper.wp P o a w K NoQ
  | some (g,want)=>if zDD dsts a.tmps g=some want then Oper.wp P o a w K NoQ else K (a.put o.dst undef) w
theorem RunF.op {dsts:List (Option Nat)} (hd:∀d,zBm ops d=dsts.getD d none) {o:Oper} {i:Nat} {a:Act} {w:World} {R:Value→World→World→Prop} (h:RunF P dsts o a w R) (hi:ops[i]? =some o) {K:Act→World→Prop} (hK:Hid (∀v w1,R v w w1→Ext w w1→K (a.put o.dst v) w1)):wpOp P ops NoQ i K a w:=by
 have:=h K hK;unfold wpOp;simp only [hi];unfold Region.wanted
 split at this
 ·rename_i hg;simp only [hg,if_true];exact .inl this
 ·rename_i g want hg;simp only [hg];rw [zI2 hd]
  split at this
  ·rename_i hw;simp only [hw,beq_self_eq_true,if_true];exact .inl this
  ·rename_i hw;have:(zDD dsts a.tmps g == some want)=false:=by
    cases hb:(zDD dsts a.tmps g == some want) with
    | false=>rfl
    | true=>exact absurd (eq_of_beq hb) hw
   simp only [this]
   simpa using ‹K (a.put o.dst undef) w›
def StepsF (P:Program) (ops:Array Oper) (Rs:List (Value→World→World→Prop)) (dsts:List (Option Nat)) (a0:Act) (w0:World):List Bool→List (Value→World→World→Prop)→List Oper→List (List Nat)→Prop
 | true :: bl,_ :: rl,_ :: ol,_ :: l=>StepsF P ops Rs dsts a0 w0 bl rl ol l
 | false :: bl,R :: rl,o :: ol,ds :: l=>
  (∀ (V:Nat→Value) (B A:Nat→World) (w:World),Ext w0 w→FactsOf Rs w0 V B A w ds→RunF P dsts o (zAT dsts V ds a0) w R)∧StepsF P ops Rs dsts a0 w0 bl rl ol l
 | _,_,_,_=>True
theorem StepsF.skip {Rs:List (Value→World→World→Prop)} {dsts:List (Option Nat)} {a0:Act} {w0:World} {bl:List Bool} {R:Value→World→World→Prop} {rl:List (Value→World→World→Prop)} {o:Oper} {ol:List Oper} {ds:List Nat} {l:List (List Nat)}
 (h:StepsF P ops Rs dsts a0 w0 bl rl ol l):StepsF P ops Rs dsts a0 w0 (true :: bl) (R :: rl) (o :: ol) (ds :: l):=h
theorem StepsF.take {Rs:List (Value→World→World→Prop)} {dsts:List (Option Nat)} {a0:Act} {w0:World} {bl:List Bool} {R:Value→World→World→Prop} {rl:List (Value→World→World→Prop)} {o:Oper} {ol:List Oper} {ds:List Nat} {l:List (List Nat)}
 (h:∀ (V:Nat→Value) (B A:Nat→World) (w:World),Ext w0 w→FactsOf Rs w0 V B A w ds→RunF P dsts o (zAT dsts V ds a0) w R) (k:StepsF P ops Rs dsts a0 w0 bl rl ol l):StepsF P ops Rs dsts a0 w0 (false :: bl) (R :: rl) (o :: ol) (ds :: l):=⟨h,k⟩
theorem StepsF.nil {Rs:List (Value→World→World→Prop)} {dsts:List (Option Nat)} {a0:Act} {w0:World}:StepsF P ops Rs dsts a0 w0 [] [] [] []:=trivial
theorem FactsOf.nil {Rs:List (Value→World→World→Prop)} {w0:World} {V:Nat→Value} {B A:Nat→World} {w:World}:FactsOf Rs w0 V B A w []:=trivial
theorem zGr {Rs:List (Value→World→World→Prop)} {dsts:List (Option Nat)} {a0:Act} {w0:World}:∀ (bl:List Bool) (rl:List (Value→World→World→Prop)) (ol:List Oper) (l:List (List Nat)),StepsF P ops Rs dsts a0 w0 bl rl ol l→
 ∀ (i:Nat) (R:Value→World→World→Prop) (o:Oper) (ds:List Nat),bl[i]? =some false→rl[i]? =some R→ol[i]? =some o→l[i]? =some ds→∀ (V:Nat→Value) (B A:Nat→World) (w:World),Ext w0 w→FactsOf Rs w0 V B A w ds→RunF P dsts o (zAT dsts V ds a0) w R
 | [],_,_,_,_,_,_,_,_,h,_,_,_=>by simp at h
 | _ :: _,[],_,_,_,_,_,_,_,_,h,_,_=>by simp at h
 | _ :: _,_ :: _,[],_,_,_,_,_,_,_,_,h,_=>by simp at h
 | _ :: _,_ :: _,_ :: _,[],_,_,_,_,_,_,_,_,h=>by simp at h
 | b :: bl,R :: rl,d :: dl,x :: l,hs,0,R',d',x',h0,h1,h2,h3=>by
  simp only [List.getElem?_cons_zero,Option.some.injEq] at h0 h1 h2 h3;subst h0;subst h1;subst h2;subst h3;exact hs.1
 | true :: bl,R :: rl,d :: dl,x :: l,hs,i+1,R',d',x',h0,h1,h2,h3=>
  zGr bl rl dl l hs i R' d' x' (by simpa using h0) (by simpa using h1) (by simpa using h2) (by simpa using h3)
 | false :: bl,R :: rl,d :: dl,x :: l,hs,i+1,R',d',x',h0,h1,h2,h3=>
  zGr bl rl dl l hs.2 i R' d' x' (by simpa using h0) (by simpa using h1) (by simpa using h2) (by simpa using h3)
def zMs (ops:Array Oper) (listed:List Bool) (dsts:List (Option Nat)) (deps:List (List Nat)) (left:List Nat) (n fuel:Nat):Bool:=
 n == ops.size && listed.length == n && fuel == left.length && left == zF1 ops listed.toArray && dsts == ops.toList.map (·.dst) && zIC ops listed.toArray deps
theorem zHm {S:World→Prop} {fuel:Nat} {Q:Exit→Act→World→Prop} {a:Act} {w:World} {l:List Oper} {listed:List Bool} (left:List Nat) (Rs:List (Value→World→World→Prop)) (dsts:List (Option Nat)) (deps:List (List Nat)) (hB:zMs l.toArray listed dsts deps left Rs.length fuel=true)
 (hS:∀w',Ext w w'→S w')
 (hstep:StepsF P l.toArray Rs dsts a w listed Rs l deps)
 (hfin:∀ (V:Nat→Value) (B A:Nat→World) (w':World),FactsOf Rs w V B A w' left→(∀i∈left,∀j∈left,i≠j→Ext (A i) (B j)∨Ext (A j) (B i))→Ext w w'→
   Q .normal (zAT dsts V left a) w'):wpAnyH P .any l.toArray Q S fuel listed.toArray a w:=by
 simp only [zMs,Bool.and_eq_true,beq_iff_eq] at hB;obtain⟨⟨⟨⟨⟨hn,hl⟩,hf⟩,hleft⟩,hd⟩,hB⟩:=hB;have hdst:∀d,zBm l.toArray d=dsts.getD d none:=fun d=>by
  rw [hd,zBm];simp only [List.getD_eq_getElem?_getD,List.getElem?_map,List.getElem?_toArray];cases l[d]? <;> rfl
 refine zF2 (R:=fun i=>Rs.getD i fun _ _ _=>True) (a0:=a) (w0:=w) (D0:=listed.toArray) hB hS (fun i o ds ho hds h0 V B A w1 h1 h2 K hK=>?_) (fun V B A w' h1 h2 h3=>?_) fuel [] (fun _=>undef) (fun _=>w) (fun _=>w) _ _ _ ?_ (by rw [hf,←hleft];simp)
 ·have hlt:i<l.toArray.size:=(Array.getElem?_eq_some_iff.1 ho).1;have hR:Rs[i]? =some (Rs.getD i fun _ _ _=>True):=by
   rw [List.getD_eq_getElem?_getD,List.getElem?_eq_getElem (by omega)];rfl
  have hb:listed[i]? =some false:=by
   have hlt2:i<listed.length:=by omega
   rw [List.getElem?_eq_getElem hlt2];simp [hlt2] at h0;rw [h0]
  have:=(zGr listed Rs l deps hstep i _ _ _ hb hR (by simpa using ho) hds V B A w1 h1 (FactsOf.of h2)).op hdst ho (K:=K);rw [zI1 hdst] at this;exact this hK
 ·rw [←hleft] at h1 h2 ⊢;have:=hfin V B A w' (FactsOf.of h1) h2 h3
  rwa [zI1 hdst] at this
 ·refine⟨List.nodup_nil,fun i=>⟨fun h=>(by cases h),fun h=>(by rw [h.2.1] at h;exact absurd h.2.2 (by simp))⟩,fun _ h=>h,by simp;simp at hn;omega,fun _ h=>(by cases h),fun _ h=>(by cases h),fun _ h=>(by cases h),Ext.refl w,rfl⟩
end
end Go.Proofs.YtonkhcdmchidjaaGreat
