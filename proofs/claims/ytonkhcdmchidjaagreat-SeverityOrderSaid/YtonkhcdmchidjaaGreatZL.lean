import Derived.Test.YtonkhcdmchidjaaGreatZG
namespace Go.Proofs.YtonkhcdmchidjaaGreat
open Go.RowKit Go BigFrame Go.Shelf
set_option maxRecDepth 100000
set_option linter.all false
theorem zKG {n i a:Nat} (h:i<n) (ha:a<n - i):(a+i) % n=i+a:=by rw [Nat.mod_eq_of_lt (by omega)];omega
theorem zKH {n i c:Nat} (h:i<n) (hc:c<i):(n - i+c+i) % n=c:=by
 rw [show n - i+c+i=c+n from by omega,Nat.add_mod_right,Nat.mod_eq_of_lt (by omega)]
theorem zGu (f:Nat→Rat) (a:Nat):∀b,sq f (a+b)=sq f a+sq (fun c=>f (a+c)) b
 | 0=>by rw [zBB];grind
 | b+1=>by rw [←Nat.add_assoc,zAv,zAv,zGu f a b];grind
theorem zKI (f:Nat→Rat) {n i:Nat} (h:i<n):sq (fun a=>f ((a+i) % n)) n=sq f n:=by
 have e1:sq (fun a=>f ((a+i) % n)) n=sq (fun a=>f ((a+i) % n)) ((n - i)+i):=by rw [Nat.sub_add_cancel (Nat.le_of_lt h)]
 have e2:sq f n=sq f (i+ (n - i)):=by rw [Nat.add_sub_cancel' (Nat.le_of_lt h)]
 rw [e1,e2,zGu _ (n - i) i,zGu f i (n - i),zA3 (g:=fun c=>f (i+c)) fun a ha=>by rw [zKG h ha],zA3 (f:=fun c=>f ((n - i+c+i) % n)) (g:=f) fun c hc=>by rw [zKH h hc]];grind
def zIH {α:Type} (k:Nat) (l:List α):List α:=l.drop k ++ l.take k
theorem zII {α:Type} (k:Nat) (l:List α):(zIH k l).length=l.length:=by
 unfold zIH;rw [List.length_append,List.length_drop,List.length_take];omega
theorem zLZ {α:Type} {k:Nat} {l:List α} (hk:k<l.length) {c:Nat} (hc:c<l.length):(zIH k l)[c]? =l[(c+k) % l.length]? :=by
 unfold zIH;by_cases h:c<l.length - k
 ·rw [List.getElem?_append_left (by rw [List.length_drop];exact h),List.getElem?_drop,zKG hk h]
 ·rw [List.getElem?_append_right (by rw [List.length_drop];omega),List.length_drop];have e:c=l.length - k+ (c - (l.length - k)):=by omega
  rw [List.getElem?_take,if_pos (by omega),e,zKH hk (by omega)]
  congr 1
  omega
theorem zIJ {α:Type} {k:Nat} {l:List α} {x:α} (h:x∈zIH k l):x∈l:=by
 unfold zIH at h;rcases List.mem_append.1 h with h | h
 ·exact List.mem_of_mem_drop h
 ·exact List.mem_of_mem_take h
def zDj (m:List (List Int)) (i k:Nat):List (List Int):=(List.range m.length).map fun a=>zIH k (m.getD ((a+i) % m.length) [])
section
variable {m:List (List Int)} {i k:Nat}
theorem zBu:(zDj m i k).length=m.length:=by unfold zDj;simp
theorem zM0 {a:Nat} (ha:a<m.length):(zDj m i k).getD a []=zIH k (m.getD ((a+i) % m.length) []):=by
 unfold zDj;rw [List.getD_eq_getElem?_getD,List.getElem?_map,List.getElem?_range ha];rfl
theorem zGv {r:List Int} (h:r∈zDj m i k):∃l∈m,r=zIH k l:=by
 unfold zDj at h;obtain⟨a,ha,rfl⟩:=List.mem_map.1 h;have h0:=List.mem_range.1 ha;have hl:(a+i) % m.length<m.length:=Nat.mod_lt _ (by omega);exact⟨_,List.getElem_mem hl,by rw [List.getD_eq_getElem?_getD,List.getElem?_eq_getElem hl,Option.getD_some]⟩
theorem zHt {α:Type} {l:List (List α)} (h:0<l.length):l.headD []∈l:=by
 cases l with
 | nil=>simp at h
 | cons a t=>simp
theorem zFa (hA:zHb m) (h0:0<m.length):((zDj m i k).headD []).length= (m.headD []).length:=by
 obtain⟨l,hl,e⟩:=zGv (m:=m) (i:=i) (k:=k) (zHt (l:=zDj m i k) (by rw [zBu];exact h0));rw [e,zII];exact hA.same l hl
theorem zKJ (hA:zHb m) (hk:k< (m.headD []).length) {a c:Nat} (ha:a<m.length) (hc:c< (m.headD []).length):mkS (zDj m i k) a c=mkS m ((a+i) % m.length) ((c+k) % (m.headD []).length):=by
 unfold mkS;rw [zM0 ha];have hl:(a+i) % m.length<m.length:=Nat.mod_lt _ (by omega);have e:(m.getD ((a+i) % m.length) []).length= (m.headD []).length:=by
  rw [List.getD_eq_getElem?_getD,List.getElem?_eq_getElem hl,Option.getD_some];exact hA.same _ (List.getElem_mem hl)
 rw [List.getD_eq_getElem?_getD,zLZ (by omega) (by omega),←List.getD_eq_getElem?_getD,e]
theorem zOt (h:zHb m):zBJ m=0:=by
 unfold zBJ;have:=h.rows;rw [if_neg (by omega),if_neg,if_neg]
 ·intro e;obtain⟨r,hr,e⟩:=List.any_eq_true.1 e;unfold zAR at e;rw [Bool.or_eq_true] at e;rcases e with e | e
  ·have:=of_decide_eq_true e;exact this (h.same r hr)
  ·obtain⟨x,hx,e⟩:=List.any_eq_true.1 e;have:=h.mark r hr x hx;unfold zFB at e;simp at e;omega
 ·intro e;obtain⟨r,hr,e⟩:=List.any_eq_true.1 e;unfold zD6 at e;have:=of_decide_eq_true e;have:=h.wide r hr;omega
theorem zOu (h:m.length≤6) (h4:∀r∈m,r.length≤4):zDf m=true:=by
 unfold zDf;rw [Bool.and_eq_true];refine⟨by simp;omega,List.all_eq_true.2 fun r hr=>?_⟩;have:=h4 r hr;unfold zFm;simp;omega
theorem zOv {m m':List (List Int)} {a b c d:Nat} (h:mkS m a b=mkS m' c d):kS m a b=kS m' c d:=by unfold kS;rw [h]
theorem zKK (h:RightB m) (hi:i<m.length) (hk:k< (m.headD []).length):RightB (zDj m i k):=by
 have hA:=zAJ h.ask;have hl:∀r∈zDj m i k,r.length= (m.headD []).length:=fun r hr=>by
  obtain⟨l,hl,rfl⟩:=zGv hr;rw [zII];exact hA.same l hl
 have hh:=zFa (i:=i) (k:=k) hA h.e0;refine⟨zOu (by rw [zBu];exact h.e6) (fun r hr=>by rw [hl r hr];exact h.n4),zOt ⟨by rw [zBu];exact hA.rows,fun r hr=>by rw [hl r hr];exact hA.wide _ (zHt h.e0),fun r hr=>by rw [hl r hr,hh],fun r hr x hx=>?_⟩,by rw [zBu];exact h.e0,by rw [hh];exact h.n0,?_⟩
 ·obtain⟨l,hl,rfl⟩:=zGv hr;exact hA.mark l hl x (zIJ hx)
 ·intro f g hf c hc a ha;have ha':a<m.length:=by have h:a< (zDj m i k).length:=ha;rwa [zBu] at h
  have hc':c< (m.headD []).length:=by have h:c< ((zDj m i k).headD []).length:=hc;rwa [hh] at h
  have key:∀{n i a:Nat},i<n→a<n→((a+ (n - i)) % n+i) % n=a:=fun {n i a} hi ha=>by
   rw [Nat.mod_add_mod,show a+ (n - i)+i=a+n from by omega,Nat.add_mod_right,Nat.mod_eq_of_lt ha]
  have key2:∀{n i a:Nat},i<n→a<n→((a+i) % n+ (n - i)) % n=a:=fun {n i a} hi ha=>by
   rw [Nat.mod_add_mod,show a+i+ (n - i)=a+n from by omega,Nat.add_mod_right,Nat.mod_eq_of_lt ha]
  have:=h.conn (fun b=>f ((b+ (m.length - i)) % m.length)) (fun d=>g ((d+ ((m.headD []).length - k)) % (m.headD []).length)) (fun b hb d hd hne=>by
   have hb':b<m.length:=hb;have hd':d< (m.headD []).length:=hd;have hb2:(b+ (m.length - i)) % m.length<m.length:=Nat.mod_lt _ (by omega);have hd2:(d+ ((m.headD []).length - k)) % (m.headD []).length< (m.headD []).length:=Nat.mod_lt _ (by omega);refine hf _ (show _< (zDj m i k).length by rw [zBu];exact hb2) _ (show _< ((zDj m i k).headD []).length by rw [hh];exact hd2) ?_;have e:kS (zDj m i k) ((b+ (m.length - i)) % m.length) ((d+ ((m.headD []).length - k)) % (m.headD []).length)=kS m b d:=zOv (by rw [zKJ hA hk hb2 hd2,key hi hb',key hk hd']);show kS (zDj m i k) _ _≠0;rw [e]
   exact hne) ((c+k) % (m.headD []).length) (Nat.mod_lt _ (by omega)) ((a+i) % m.length) (Nat.mod_lt _ (by omega))
  try dsimp only at this
  rwa [key2 hi ha',key2 hk hc'] at this
theorem zM1 (h:RightB m) (hi:i<m.length) (hk:k< (m.headD []).length) {q x:Nat→Rat} (hf:(zAi m).Fits q x):(zAi (zDj m i k)).Fits (fun a=>q ((a+i) % m.length)) (fun c=>x ((c+k) % (m.headD []).length)):=by
 have hA:=zAJ h.ask;have hh:=zFa (i:=i) (k:=k) hA h.e0;have e:∀{a c:Nat},a<m.length→c< (m.headD []).length→(zAi (zDj m i k)).K a c* (zAi (zDj m i k)).r (fun a=>q ((a+i) % m.length)) (fun c=>x ((c+k) % (m.headD []).length)) a c= (zAi m).K ((a+i) % m.length) ((c+k) % (m.headD []).length)* (zAi m).r q x ((a+i) % m.length) ((c+k) % (m.headD []).length):=fun {a c} ha hc=>by
  show kS (zDj m i k) a c* (kS (zDj m i k) a c* (mkS (zDj m i k) a c:Rat) - _ - _)=kS m _ _* (kS m _ _* (mkS m _ _:Rat) - _ - _);have e1:=zKJ (i:=i) hA hk ha hc;rw [zOv e1,e1]
 constructor
 ·intro a ha;have ha':a<m.length:=by have h:a< (zDj m i k).length:=ha;rwa [zBu] at h
  show sq _ ((zDj m i k).headD []).length=0;rw [hh,zA3 fun c hc=>e ha' hc,zKI (fun c=>(zAi m).K ((a+i) % m.length) c* (zAi m).r q x ((a+i) % m.length) c) hk];exact hf.row _ (Nat.mod_lt _ (by omega))
 ·intro c hc;have hc':c< (m.headD []).length:=by have h:c< ((zDj m i k).headD []).length:=hc;rwa [hh] at h
  show sq _ (zDj m i k).length=0;rw [zBu,zA3 fun a ha=>e ha hc',zKI (fun a=>(zAi m).K a ((c+k) % (m.headD []).length)* (zAi m).r q x a ((c+k) % (m.headD []).length)) hi];exact hf.col _ (Nat.mod_lt _ (by omega))
 ·show sq _ ((zDj m i k).headD []).length=0;rw [hh,zKI x hk];exact hf.sum
end
theorem zFo {a0 w:World} (hx0:Ext a0 w) {v:Value} {L:List Int} (hown:OwnI w a0.heap.size v L) {ad:Option Addr} {n c:Nat} {l:List Int} (hn:l.length=n) (hI:Ints w ad c l) (hlen:L.length+l.length≤1000000) (ty:TypeId):
 ∃v' w',(Builtin.append_ #[34,34] ty #[v,.slice ad n c]).run Tryz.prog w=.ok v' w'∧OwnI w' a0.heap.size v' (L ++ l)∧Ext a0 w'∧(∀p cs t,Blk w p cs t→v.ownBlock≠some p→Blk w' p cs t∧v'.ownBlock≠some p):=by
 obtain⟨i0,hi0,hz0,hz1,hz2⟩:=info_parts zHD;subst hn
 cases ad with
 | none=>
  have hc:=hI.nil rfl;have hl:l=[]:=List.length_eq_zero_iff.1 (by have:=hI.le;omega);subst hl hc;exact⟨v,w,run_append_owned_none (P:=Tryz.prog) (w:=w) a0.heap.size 34 ty 3 i0 1 Tryz.underlying34 hi0 v L.length (L.map (Value.int .i64)) hown.own,by rw [List.append_nil];exact hown,hx0,fun p cs t hp hne=>⟨hp,hne⟩⟩
 | some A=>
  have key:∃v' w',(Builtin.append_ #[34,34] ty #[v,.slice (some A) l.length c]).run Tryz.prog w=.ok v' w'∧w'.ownsRow a0.heap.size 3 1 v' (L.length+l.length) (L.map (Value.int .i64) ++ l.map (Value.int .i64))∧w.grownBy w' v.ownBlock∧
   (v'=.slice none 0 0↔v=.slice none 0 0∧l.length=0)∧(v'.ownBlock=v.ownBlock∨v'.ownBlock=some w.heap.size):=by
   refine run_append_own_at w a0.heap.size 34 ty 3 i0 (.int .i64 0) 1 8 Tryz.underlying34 hi0 hz0 hz1 hz2 rfl (by decide) v L.length (L.map (Value.int .i64)) hown.own A l.length c (l.map (Value.int .i64)) (by simp) ?_ (fun u hu=>by obtain⟨z,_,rfl⟩:=List.mem_map.1 hu;rfl) (by unfold maxLen;omega) (by omega) hx0.size;by_cases hl:l=[]
   ·subst hl;intro j u hu;simp at hu
   ·obtain⟨b,o',e⟩:=hI.head (i:=0) (List.length_pos_iff.2 hl);cases e
    exact hI.news0
  obtain⟨v',w',h0,h1,h2,h3,h4⟩:=key;obtain⟨g,cap,rfl,hb,hg,_⟩:=hown.form
  refine⟨v',w',h0,⟨fun e=>absurd (h3.1 e).1 hown.nn,by simpa using h1⟩,Below.grown hx0 h2 hx0.size (fun k e=>by
   simp only [Value.ownBlock,Option.some.injEq] at e
   omega),fun p cs t hp hne=>⟨(h2.block p hp.lt (Ne.symm hne)).trans hp,?_⟩⟩
  rcases h4 with h4 | h4
  ·rw [h4];exact hne
  ·rw [h4];intro e;have:=hp.lt;cases e;omega
theorem zCy {ops:Array Oper} {o:Oper} {a:Act} {K:Act→World→Prop} {Q:Exit→Act→World→Prop} {E:Prop} (hgd:o.guard=none) (s x:Operand)
 (ho:o.op=.call {callee:=.builtin .append,args:=#[s,x],argTypes:=#[34,34]}) {a0 w:World} (hx0:Ext a0 w) {v:Value} (hs:a.eval s=v) {L:List Int} (hown:OwnI w a0.heap.size v L) {ad:Option Addr} {n c:Nat} {l:List Int}
 (hx:a.eval x=.slice ad n c) (hn:l.length=n) (hI:Ints w ad c l) (hlen:L.length+l.length≤1000000)
 (h:∀v' w',OwnI w' a0.heap.size v' (L ++ l)→Ext a0 w'→(∀p cs t,Blk w p cs t→v.ownBlock≠some p→Blk w' p cs t∧v'.ownBlock≠some p)→K (a.put o.dst v') w'):
 if Region.wanted o (yielded ops a.tmps)=true then Oper.wp Tryz.prog o a w K Q else E:=by
 have hw:Region.wanted o (yielded ops a.tmps)=true:=by simp [Region.wanted,hgd]
 rw [if_pos hw];obtain⟨v',w',hr,h1,h2,h3⟩:=zFo hx0 hown hn hI hlen o.type;unfold Oper.wp execOp;simp only [ho,resolve,invoke,builtin,Sem.run_bind,Sem.run_pure,Result.andThen_ok,List.map_toArray,List.map_cons,List.map_nil,hs,hx,hr];exact h v' w' h1 h2 h3
theorem zFb {α:Type} {R:World→Value→α→Prop} (hR:zMh R) {a0 w:World} (t et:TypeId) (ht:Tryz.prog.underlying t=some (.slice et)) {z:Value} (hz:z.cells.size=1) (hi:(Tryz.prog.info? et).map (fun i=>(i.zero,i.size,i.bytes))=some (some z,1,24))
 (hx0:Ext a0 w) {v:Value} {xs:List α} (hown:OwnL R w a0.heap.size et v xs) {g:Nat} {u:Value} {bt:TypeId} (hb:Blk w g #[u] bt) {y:α} (hu:R w u y) (hoff:zK2 u v.ownBlock) (hlen:xs.length≤1000000) (ty:TypeId):
 ∃va vc w',(Builtin.append_ #[t,t] ty #[v,.slice (some ⟨g,0,none⟩) 1 1]).run Tryz.prog w=.ok (.slice va (xs.length+1) vc) w'∧OwnL R w' a0.heap.size et (.slice va (xs.length+1) vc) (xs ++ [y])∧Ext a0 w'∧w.grownBy w' v.ownBlock:=by
 obtain⟨i0,hi0,hz0,hz1,hz2⟩:=info_parts hi;obtain⟨vs,hvs,hel⟩:=hown.ex
 obtain⟨v',w',h0,h1,h2,h3,h4⟩:=run_append_own_at w a0.heap.size t ty et i0 z 1 24 ht hi0 hz0 hz1 hz2 hz (by decide) v xs.length vs hvs ⟨g,0,none⟩ 1 1 [u] rfl (fun j q hq=>by
  have e:((⟨g,0,none⟩:Addr).add j)= ⟨g,j,none⟩:=by unfold Addr.add;split <;> simp_all
  rw [e]
  exact hb.cell (by simpa using hq)) (fun q hq=>by rw [List.mem_singleton.1 hq];exact hR.one _ _ _ hu) (by unfold maxLen;omega) (by omega) hx0.size
 have hm:=hown.more hR hvs hel hu hoff h1 h2 h4;obtain⟨va,vc,e,_⟩:=hm.form;rw [List.length_append,List.length_singleton] at e;subst e;exact⟨va,vc,w',h0,hm,Below.grown hx0 h2 hx0.size (fun k e=>(hown.lt k e).1),h2⟩
theorem zEg {α:Type} {R:World→Value→α→Prop} (hR:zMh R) {ops:Array Oper} {o:Oper} {a:Act} {K:Act→World→Prop} {Q:Exit→Act→World→Prop} {E:Prop} (hgd:o.guard=none) (s x:Operand) (t et:TypeId)
 (ho:o.op=.call {callee:=.builtin .append,args:=#[s,x],argTypes:=#[t,t]}) (ht:Tryz.prog.underlying t=some (.slice et)) {z:Value} (hz:z.cells.size=1) (hi:(Tryz.prog.info? et).map (fun i=>(i.zero,i.size,i.bytes))=some (some z,1,24)) {a0 w:World}
 (hx0:Ext a0 w) {v:Value} {xs:List α} (hs:a.eval s=v) (hown:OwnL R w a0.heap.size et v xs) {g:Nat} (hx:a.eval x=.slice (some ⟨g,0,none⟩) 1 1) {u:Value} {bt:TypeId} (hb:Blk w g #[u] bt) {y:α} (hu:R w u y) (hoff:zK2 u v.ownBlock) (hlen:xs.length≤1000000)
 (h:∀va vc w',OwnL R w' a0.heap.size et (.slice va (xs.length+1) vc) (xs ++ [y])→Ext a0 w'→K (a.put o.dst (.slice va (xs.length+1) vc)) w'):
 if Region.wanted o (yielded ops a.tmps)=true then Oper.wp Tryz.prog o a w K Q else E:=by
 have hw:Region.wanted o (yielded ops a.tmps)=true:=by simp [Region.wanted,hgd]
 rw [if_pos hw];obtain⟨va,vc,w',hr,h1,h2,_⟩:=zFb hR t et ht hz hi hx0 hown hb hu hoff hlen o.type;unfold Oper.wp execOp;simp only [ho,resolve,invoke,builtin,Sem.run_bind,Sem.run_pure,Result.andThen_ok,List.map_toArray,List.map_cons,List.map_nil,hs,hx,hr];exact h va vc w' h1 h2
theorem zM2 {a0 y:World} (hE:Ext a0 y):OwnI (y.alloc (.cells #[] 3)) a0.heap.size (.slice (some ⟨y.heap.size,0,none⟩) 0 0) []∧Ext a0 (y.alloc (.cells #[] 3)):=by
 refine⟨?_,hE.alloc' _⟩;have h:=OwnI.new y;refine⟨h.nn,h.own.1,?_⟩;rcases h.own.2 with h2 | ⟨g,cap,cur,e,hb,r⟩
 ·exact .inl h2
 ·exact .inr ⟨g,cap,cur,e,Nat.le_trans hE.size hb,r⟩
theorem OwnI.off {w:World} {B:Nat} {v:Value} {L:List Int} (h:OwnI w B v L) {o:Option Nat} (ho:∀g,o=some g→g<B):zK2 v o:=by
 obtain⟨g,cap,rfl,hb,_⟩:=h.form;intro A n c e hn e2;simp only [Value.slice.injEq,Option.some.injEq] at e;obtain⟨rfl,_⟩:=e;have:=ho _ e2;dsimp only at this;omega
theorem Ints.preW {w:World} {a:Option Addr} {cap:Nat} {l:List Int} (h:Ints w a cap l) {k:Nat} (hk:k≤l.length):Ints w a cap (l.take k):=
 ⟨by have:=h.le;simp;omega,h.mx,h.nil,fun B hB i hi=>by
  have hi2:i<l.length:=by simp at hi;omega
  obtain⟨e,v,hv,r⟩:=h.cells B hB i hi2
  exact⟨e,v,hv,by simpa using r⟩⟩
theorem zNx {a:Option Addr} {cap n k:Nat} {l:List Int} {w:World} {z:Int} (h:Ints w a cap l) (hz:z= (k:Int)) (hn:l.length=n) (hk:k≤n):
 ∃ad c2,(∀W:World,(Instr.slice 34 (.slice a n cap) (some (.int .i64 z)) none none).run Tryz.prog W=.ok (.slice ad (n - k) c2) W)∧Ints w ad c2 (l.drop k)∧n - k≤c2∧c2≤9223372036854775807:=by
 subst hz hn;have hle:=h.le;have hmx:=h.mx;refine⟨if cap=k then a else a.map (·.add (k*1)),cap - k,fun W=>?_,h.sliced hk,by omega,by omega⟩;have hu22:Tryz.prog.underlying 34=some (.slice (Tryz.prog.elem 34)):=by kernel_rfl
 have h2:(0:Int)≤(k:Int):=by omega
 have h3:(k:Int)≤(l.length:Int):=by omega
 rw [run_slice_l (ht:=hu22) (h0:=h2) (h1:=h3)];simp [go_sem]
theorem sl_to {a:Option Addr} {cap n k:Nat} {l:List Int} {w:World} {z:Int} (h:Ints w a cap l) (hz:z= (k:Int)) (hn:l.length=n) (hk:k≤n):
 ∃ad c2,(∀W:World,(Instr.slice 34 (.slice a n cap) none (some (.int .i64 z)) none).run Tryz.prog W=.ok (.slice ad k c2) W)∧Ints w ad c2 (l.take k)∧k≤c2∧c2≤9223372036854775807:=by
 subst hz hn;have hle:=h.le;have hmx:=h.mx;refine⟨if cap=0 then a else a.map (·.add (0*1)),cap,fun W=>?_,?_,by omega,hmx⟩
 ·have hu22:Tryz.prog.underlying 34=some (.slice (Tryz.prog.elem 34)):=by kernel_rfl
  have h2:(0:Int)≤(k:Int):=by omega
  have h3:(k:Int)≤(cap:Int):=by omega
  rw [run_slice_h (ht:=hu22) (h0:=h2) (h2:=h3)];simp [go_sem]
 ·have hs:=h.sliced (k:=0) (by omega);rw [Nat.sub_zero,List.drop_zero] at hs;exact hs.preW hk
theorem zKL:(Tryz.prog.info? 38).map (fun i=>(i.zero,i.size,i.bytes))=some (some (.agg #[.bool false,.slice none 0 0,.bool false,.slice none 0 0]),4,64):=by kernel_rfl
theorem ownR_new {x y:World} (hE:Ext x y):OwnRats (y.alloc (.cells #[] 38)) x.heap.size (.slice (some ⟨y.heap.size,0,none⟩) 0 0) [] []∧Ext x (y.alloc (.cells #[] 38)):=
 ⟨⟨rfl,⟨rfl,.inr ⟨y.heap.size,0,#[],rfl,hE.size,heap_alloc_new y _,Nat.le_refl _,by unfold maxLen;omega,rfl,rfl⟩⟩,fun i hi=>absurd hi (by simp),fun x hx=>by cases hx⟩,hE.alloc' _⟩
theorem OwnRats.adds {x0 w w':World} {v v':Value} {L:List RatC} {rs:List Rat} {ad:Option Addr} {n c:Nat} {V:Nat→RatC} {f:Nat→Rat} (h:OwnRats w x0.heap.size v L rs) (hR:RowR x0 ad c n V f) (hx0:Ext x0 w)
 (hown:w'.ownsRow x0.heap.size 38 4 v' (L.length+n) (L.flatMap RatC.cells ++ zC0 n V)) (hg:w.grownBy w' v.ownBlock) (hat:v'.ownBlock=v.ownBlock∨v'.ownBlock=some w.heap.size):
 OwnRats w' x0.heap.size v' (L ++ (List.range n).map V) (rs ++ (List.range n).map f):=by
 have hl:=h.len;have hoff:∀c,c<n→∀o:Option Nat,(∀g,o=some g→x0.heap.size≤g)→(V c).Off o:=fun c hc o ho=>
  ⟨fun hq A hA e=>by have h1:=(hR.val c hc).num.lt hq A hA;have h2:=ho _ e;omega,fun hq A hA e=>by have h1:=(hR.val c hc).den.lt hq A hA;have h2:=ho _ e;omega⟩
 refine⟨by simp [hl],?_,fun i hi=>?_,fun y hy=>?_⟩
 ·rw [List.length_append,List.length_map,List.length_range,List.flatMap_append];have e:((List.range n).map V).flatMap RatC.cells=zC0 n V:=by unfold zC0;rw [List.flatMap_map]
  rw [e];exact hown
 ·by_cases hk:i<L.length
  ·have e0:(rs ++ (List.range n).map f).getD i 0=rs.getD i 0:=by simp only [List.getD];rw [List.getElem?_append_left (by omega)]
   rw [List.getElem_append_left hk,e0];exact(h.val i hk).grown hg (h.apart _ (List.getElem_mem hk))
  ·have hn:i - L.length<n:=by simp at hi;omega
   have e0:(rs ++ (List.range n).map f).getD i 0=f (i - L.length):=by
    simp only [List.getD];rw [List.getElem?_append_right (by omega),List.getElem?_map,←hl,List.getElem?_range hn];rfl
   rw [List.getElem_append_right (by omega),List.getElem_map,List.getElem_range,e0];exact((hR.val _ hn).ext hx0).grown hg (hoff _ hn _ fun g e=>(h.lt g e).1)
 ·rcases List.mem_append.1 hy with hy | hy
  ·rcases hat with h1 | h1
   ·rw [h1];exact h.apart y hy
   ·rw [h1];obtain⟨i,hi,e3⟩:=List.getElem_of_mem hy;have:=h.val i hi;rw [e3] at this;exact this.offNew
  ·obtain⟨c,hc,rfl⟩:=List.mem_map.1 hy;have hc:=List.mem_range.1 hc;refine hoff c hc _ fun g e=>?_;rcases hat with h1 | h1
   ·rw [h1] at e;exact(h.lt g e).1
   ·rw [h1] at e;cases e;exact hx0.size
theorem zEh {ops:Array Oper} {o:Oper} {a:Act} {K:Act→World→Prop} {Q:Exit→Act→World→Prop} {E:Prop} (hgd:o.guard=none) (s y:Operand)
 (ho:o.op=.call {callee:=.builtin .append,args:=#[s,y],argTypes:=#[23,23]}) {x0 w:World} (hx0:Ext x0 w) {v:Value} (hs:a.eval s=v) {L:List RatC} {rs:List Rat} (hown:OwnRats w x0.heap.size v L rs)
 {ad:Option Addr} {n c:Nat} (hy:a.eval y=.slice ad n c) {V:Nat→RatC} {f:Nat→Rat} (hR:RowR x0 ad c n V f) (hlen:L.length+n≤1000000)
 (h:∀v' w',OwnRats w' x0.heap.size v' (L ++ (List.range n).map V) (rs ++ (List.range n).map f)→Ext x0 w'→w.grownBy w' v.ownBlock→(v'.ownBlock=v.ownBlock∨v'.ownBlock=some w.heap.size)→K (a.put o.dst v') w'):
 if Region.wanted o (yielded ops a.tmps)=true then Oper.wp Tryz.prog o a w K Q else E:=
 zAk hgd s y 23 38 ho (k:=4) (by_:=64) Tryz.underlying23 zKL rfl (by decide) hx0.size hs hown.own hy (fun e=>hR.nil0 e) (zCs n V) (fun A hA=>by
  subst hA
  exact(hR.ext hx0).news) (zGV n V) hlen (by decide) (fun v' w' h1 h2 h3 h4=>h v' w' (hown.adds hR hx0 h1 h2 h4) (Below.grown hx0 h2 hx0.size (fun k e=>(hown.lt k e).1)) h2 h4)
theorem OwnRats.beside {B:Nat} {w w':World} {v:Value} {L:List RatC} {rs:List Rat} {row:Option Nat} (h:OwnRats w B v L rs) (hg:w.grownBy w' row) (hne:∀g,v.ownBlock=some g→row≠some g) (hL:∀x∈L,x.Off row):OwnRats w' B v L rs:=
 ⟨h.len,zBs h.own hg (by
  cases hv:v.ownBlock with
  | none=>exact .inl rfl
  | some g=>exact .inr (fun e=>hne g hv e.symm)),fun i hi=>(h.val i hi).grown hg (hL _ (List.getElem_mem hi)),h.apart⟩
def OldR (x0:World) (x:RatC):Prop:=∀o:Option Nat,(∀g,o=some g→x0.heap.size≤g)→x.Off o
theorem RowR.old {x0:World} {ad:Option Addr} {c n:Nat} {V:Nat→RatC} {f:Nat→Rat} (h:RowR x0 ad c n V f):∀x∈(List.range n).map V,OldR x0 x:=fun x hx=>by
 obtain⟨c,hc,rfl⟩:=List.mem_map.1 hx;have hc:=List.mem_range.1 hc;exact fun o ho=>⟨fun hq A hA e=>by have h1:=(h.val c hc).num.lt hq A hA;have h2:=ho _ e;omega,fun hq A hA e=>by have h1:=(h.val c hc).den.lt hq A hA;have h2:=ho _ e;omega⟩
structure TwoR (x0 W:World) (v1 v2:Value) (L1 L2:List RatC) (r1 r2:List Rat):Prop where
 e:Ext x0 W
 a:OwnRats W x0.heap.size v1 L1 r1
 b:OwnRats W x0.heap.size v2 L2 r2
 ne:∀g,v1.ownBlock=some g→v2.ownBlock≠some g
 o1:∀x∈L1,OldR x0 x
 o2:∀x∈L2,OldR x0 x
section
variable {x0 W W':World} {v1 v2:Value} {L1 L2:List RatC} {r1 r2:List Rat}
theorem TwoR.start (h:Ext x0 W):TwoR x0 W (.slice none 0 0) (.slice none 0 0) [] [] [] []:=⟨h,OwnRats.nil _ _,OwnRats.nil _ _,fun g e=>by(cases e),fun x hx=>by(cases hx),fun x hx=>by(cases hx)⟩
theorem TwoR.ext (h:TwoR x0 W v1 v2 L1 L2 r1 r2) (k:Ext W W'):TwoR x0 W' v1 v2 L1 L2 r1 r2:=⟨h.e.trans k,h.a.ext k,h.b.ext k,h.ne,h.o1,h.o2⟩
theorem TwoR.swap (h:TwoR x0 W v1 v2 L1 L2 r1 r2):TwoR x0 W v2 v1 L2 L1 r2 r1:=⟨h.e,h.b,h.a,fun g e e2=>h.ne g e2 e,h.o2,h.o1⟩
theorem TwoR.newA (h:TwoR x0 W v1 v2 L1 L2 r1 r2):TwoR x0 (W.alloc (.cells #[] 38)) (.slice (some ⟨W.heap.size,0,none⟩) 0 0) v2 [] L2 [] r2:=
 ⟨h.e.alloc' _,(ownR_new h.e).1,h.b.ext (Ext.alloc _ _),fun g e e2=>by
  have h1:=(h.b.lt g e2).2;simp only [Value.ownBlock,Option.some.injEq] at e
  omega,fun x hx=>by(cases hx),h.o2⟩
theorem TwoR.newB (h:TwoR x0 W v1 v2 L1 L2 r1 r2):TwoR x0 (W.alloc (.cells #[] 38)) v1 (.slice (some ⟨W.heap.size,0,none⟩) 0 0) L1 [] r1 []:=h.swap.newA.swap
theorem TwoR.set (h:TwoR x0 W v1 v2 L1 L2 r1 r2) {p j:Nat} {cs:Array Value} (hp:Blk W p cs 25) (hl:x0.heap.size≤p) (u:Value):TwoR x0 (W.setCell ⟨p,j,none⟩ u) v1 v2 L1 L2 r1 r2:=
 ⟨h.e.set (p:=⟨p,j,none⟩) hl u,h.a.beside (zAa W p j u) (fun g e e2=>zAI h.a.own hp (by decide) (e.trans e2.symm)) (fun x hx=>h.o1 x hx _ (fun g e=>by cases e;exact hl)),
  h.b.beside (zAa W p j u) (fun g e e2=>zAI h.b.own hp (by decide) (e.trans e2.symm)) (fun x hx=>h.o2 x hx _ (fun g e=>by cases e;exact hl)),h.ne,h.o1,h.o2⟩
theorem zFc {ops:Array Oper} {o:Oper} {a:Act} {K:Act→World→Prop} {Q:Exit→Act→World→Prop} {E:Prop} (hgd:o.guard=none) (s y:Operand)
 (ho:o.op=.call {callee:=.builtin .append,args:=#[s,y],argTypes:=#[23,23]}) (ht:TwoR x0 W v1 v2 L1 L2 r1 r2) (hs:a.eval s=v1)
 {ad:Option Addr} {n c:Nat} (hy:a.eval y=.slice ad n c) {V:Nat→RatC} {f:Nat→Rat} (hR:RowR x0 ad c n V f) (hlen:L1.length+n≤1000000)
 (h:∀v' w',TwoR x0 w' v' v2 (L1 ++ (List.range n).map V) L2 (r1 ++ (List.range n).map f) r2→W.grownBy w' v1.ownBlock→K (a.put o.dst v') w'):
 if Region.wanted o (yielded ops a.tmps)=true then Oper.wp Tryz.prog o a W K Q else E:=
 zEh hgd s y ho ht.e hs ht.a hy hR hlen fun v' w' h1 h2 h3 h4=>h v' w' ⟨h2,h1,ht.b.beside h3 (fun g e e2=>ht.ne g e2 e) (fun x hx=>ht.o2 x hx _ fun g e=>(ht.a.lt g e).1),fun g e e2=>by
  rcases h4 with h4 | h4
  ·rw [h4] at e;exact ht.ne g e e2
  ·rw [h4] at e;have:=(ht.b.lt g e2).2;cases e
   omega,fun x hx=>by
  rcases List.mem_append.1 hx with hx | hx
  ·exact ht.o1 x hx
  ·exact hR.old x hx,ht.o2⟩ h3
theorem zHu {ops:Array Oper} {o:Oper} {a:Act} {K:Act→World→Prop} {Q:Exit→Act→World→Prop} {E:Prop} (hgd:o.guard=none) (s y:Operand)
 (ho:o.op=.call {callee:=.builtin .append,args:=#[s,y],argTypes:=#[23,23]}) (ht:TwoR x0 W v1 v2 L1 L2 r1 r2) (hs:a.eval s=v2)
 {ad:Option Addr} {n c:Nat} (hy:a.eval y=.slice ad n c) {V:Nat→RatC} {f:Nat→Rat} (hR:RowR x0 ad c n V f) (hlen:L2.length+n≤1000000)
 (h:∀v' w',TwoR x0 w' v1 v' L1 (L2 ++ (List.range n).map V) r1 (r2 ++ (List.range n).map f)→W.grownBy w' v2.ownBlock→K (a.put o.dst v') w'):
 if Region.wanted o (yielded ops a.tmps)=true then Oper.wp Tryz.prog o a W K Q else E:=
 zFc hgd s y ho ht.swap hs hy hR hlen fun v' w' h1 h2=>h v' w' h1.swap h2
theorem TwoR.boxA (h:TwoR x0 W v1 v2 L1 L2 r1 r2) {p:Nat} {cs:Array Value} (hp:Blk W p cs 25) (hg:W.grownBy W' v1.ownBlock):Blk W' p cs 25:=zA5 hp hg (zAI h.a.own hp (by decide))
theorem TwoR.boxB (h:TwoR x0 W v1 v2 L1 L2 r1 r2) {p:Nat} {cs:Array Value} (hp:Blk W p cs 25) (hg:W.grownBy W' v2.ownBlock):Blk W' p cs 25:=zA5 hp hg (zAI h.b.own hp (by decide))
end
theorem zIK (f:Nat→Rat) {n i:Nat} (h:i<n):∀c,c<n→(([] ++ (List.range (n - i)).map (fun c=>f (i+c))) ++ (List.range i).map f).getD c 0=f ((c+i) % n):=fun c hc=>by
 rw [List.nil_append,List.getD_eq_getElem?_getD];by_cases h1:c<n - i
 ·rw [List.getElem?_append_left (by simp;omega),List.getElem?_map,List.getElem?_range h1,zKG h h1];rfl
 ·have e:c=n - i+ (c - (n - i)):=by omega
  have h2:(c+i) % n=c - (n - i):=by
   have:=zKH (n:=n) (i:=i) (c:=c - (n - i)) h (by omega)
   rwa [←e] at this
  rw [List.getElem?_append_right (by simp;omega),List.length_map,List.length_range,List.getElem?_map,List.getElem?_range (by omega),h2];rfl
theorem zKM {α:Type} (V:Nat→α) (U:Nat→α) {n i:Nat} (h:i<n):(([] ++ (List.range (n - i)).map V) ++ (List.range i).map U).length=n:=by
 rw [List.nil_append,List.length_append,List.length_map,List.length_map,List.length_range,List.length_range];omega
theorem RowR.from {w:World} {a:Option Addr} {cap N:Nat} {V:Nat→RatC} {f:Nat→Rat} (h:RowR w a cap N V f) {k:Nat} (hk:k≤N):RowR w (if cap=k then a else a.map (·.add (k*4))) (cap - k) (N - k) (fun c=>V (k+c)) (fun c=>f (k+c)):=by
 have hle:=h.le;refine⟨by omega,by have:=h.mx;omega,fun e=>?_,fun A hA c hc=>?_,fun c hc=>h.val _ (by omega)⟩
 ·by_cases hc:cap=k
  ·omega
  ·rw [if_neg hc] at e
   cases a with
   | none=>have:=h.nil rfl;omega
   | some A=>simp at e
 ·rw [if_neg (by omega)] at hA
  cases a with
  | none=>simp at hA
  | some B=>
   obtain⟨b,o,sp⟩:=B;obtain⟨h0,h1,h2,h3,h4⟩:=h.cells _ rfl (k+c) (by omega);dsimp only at h0;subst h0;simp only [Option.map_some,Option.some.injEq,Addr.add_off] at hA;subst hA;have e:∀j,o+k*4+c*4+j=o+ (k+c)*4+j:=fun j=>by omega
   have e0:=e 0;simp only [Nat.add_zero] at e0;dsimp only;rw [e 1,e 2,e 3,e0];exact⟨rfl,h1,h2,h3,h4⟩
theorem RowR.upto {w:World} {a:Option Addr} {cap N:Nat} {V:Nat→RatC} {f:Nat→Rat} (h:RowR w a cap N V f) {k:Nat} (hk:k≤N):RowR w (if cap=0 then a else a.map (·.add (0*4))) cap k V f:=by
 have hle:=h.le;refine⟨by omega,h.mx,fun e=>?_,fun A hA c hc=>?_,fun c hc=>h.val _ (by omega)⟩
 ·by_cases hc:cap=0
  ·exact hc
  ·rw [if_neg hc] at e
   cases a with
   | none=>exact h.nil rfl
   | some A=>simp at e
 ·rw [if_neg (by omega)] at hA
  cases a with
  | none=>simp at hA
  | some B=>
   obtain⟨b,o,sp⟩:=B;have hh:=h.cells _ rfl c (by omega);have h0:=hh.1;dsimp only at h0;subst h0;simp only [Option.map_some,Option.some.injEq,Nat.zero_mul,Addr.add_off,Nat.add_zero] at hA;subst hA;exact hh
theorem zIL {a:Option Addr} {cap n k:Nat} {V:Nat→RatC} {f:Nat→Rat} {w:World} {z:Int} (h:RowR w a cap n V f) (hz:z= (k:Int)) (hk:k≤n):
 ∃ad c2,(∀W:World,(Instr.slice 23 (.slice a n cap) (some (.int .i64 z)) none none).run Tryz.prog W=.ok (.slice ad (n - k) c2) W)∧RowR w ad c2 (n - k) (fun c=>V (k+c)) (fun c=>f (k+c)):=by
 subst hz;have hle:=h.le;have hmx:=h.mx;refine⟨if cap=k then a else a.map (·.add (k*4)),cap - k,fun W=>?_,h.from hk⟩;have hu22:Tryz.prog.underlying 23=some (.slice (Tryz.prog.elem 23)):=by kernel_rfl
 have h2:(0:Int)≤(k:Int):=by omega
 have h3:(k:Int)≤(n:Int):=by omega
 rw [run_slice_l (ht:=hu22) (h0:=h2) (h1:=h3)];simp [go_sem]
theorem zMx {a:Option Addr} {cap n k:Nat} {V:Nat→RatC} {f:Nat→Rat} {w:World} {z:Int} (h:RowR w a cap n V f) (hz:z= (k:Int)) (hk:k≤n):
 ∃ad c2,(∀W:World,(Instr.slice 23 (.slice a n cap) none (some (.int .i64 z)) none).run Tryz.prog W=.ok (.slice ad k c2) W)∧RowR w ad c2 k V f:=by
 subst hz;have hle:=h.le;have hmx:=h.mx;refine⟨if cap=0 then a else a.map (·.add (0*4)),cap,fun W=>?_,h.upto hk⟩;have hu22:Tryz.prog.underlying 23=some (.slice (Tryz.prog.elem 23)):=by kernel_rfl
 have h2:(0:Int)≤(k:Int):=by omega
 have h3:(k:Int)≤(cap:Int):=by omega
 rw [run_slice_h (ht:=hu22) (h0:=h2) (h2:=h3)];simp [go_sem]
end Go.Proofs.YtonkhcdmchidjaaGreat
