import Derived.Test.YtokffagbdfhnnaaGreatU3
import Derived.OwnWalk
import Derived.Deep.QuietTactic
import Derived.Sort.CutIn
namespace Go.Proofs.YtokffagbdfhnnaaGreat
open Go.RowKit Go BigFrame Go.Shelf
set_option maxRecDepth 100000
set_option linter.unusedSimpArgs false
set_option linter.unusedVariables false
attribute [local go_sem] Oper.semAt_some
def KeepW (A B:World):Prop:=A.heap.size≤B.heap.size∧∀ (k:Nat) (cs:Array Value) (t:TypeId) (f:Nat × Nat),A.heap[k]? =some (Obj.cells cs t f)→B.heap[k]? =some (Obj.cells cs t f)
theorem keepW_grown {A B:World} {row:Option Nat} (hg:A.grownBy B row) (hr:∀r,row=some r→∃o:Obj,A.heap[r]? =some o∧o.isCells=false):KeepW A B:=
 ⟨hg.size,fun k cs t f hk=>(hg.block k (Array.getElem?_eq_some_iff.1 hk).1 (fun e=>by
  obtain⟨o,ho,hc⟩:=hr k e.symm
  rw [hk] at ho
  cases ho
  cases hc)).trans hk⟩
theorem KeepW.cell {A B:World} (h:KeepW A B) {p:Addr} {v:Value} (hc:A.cell? p=some v):B.cell? p=some v:=by
 have hl:=World.block_lt_of_cell? A _ hc
 simp only [World.cell?] at hc ⊢
 cases hb:A.heap[p.block]? with
 | none=>rw [hb] at hc;simp at hc
 | some o=>
  cases o with
  | cells cs t f=>rw [h.2 _ _ _ _ hb];rw [hb] at hc;exact hc
  | _=>rw [hb] at hc;simp at hc
theorem KeepW.ints {A B:World} (h:KeepW A B) {a:Option Addr} {cap:Nat} {l:List Int} (k:Ints A a cap l):Ints B a cap l:=
 ⟨k.le,k.mx,k.nil,fun q hq i hi=>by
  obtain⟨h0,v,hv,hr⟩:=k.cells q hq i hi
  exact⟨h0,v,h.cell hv,hr⟩⟩
theorem KeepW.big {A B:World} (h:KeepW A B) {v:Value} {z:Int} (k:BigV A v z):BigV B v z:=by
 obtain⟨neg,l,⟨a,cap,e,hi⟩,hb⟩:=k
 exact⟨neg,l,⟨a,cap,e,h.ints hi⟩,hb⟩
theorem KeepW.rat {A B:World} (h:KeepW A B) {v:Value} {r:Rat} (k:RatV A v r):RatV B v r:=by
 obtain⟨n1,a,q,c,n2,b,k1,d,e,h1,h2⟩:=k
 exact⟨n1,a,q,c,n2,b,k1,d,e,h.big h1,h.big h2⟩
theorem KeepW.blk {A B:World} (h:KeepW A B) {b:Nat} {cs:Array Value} {t:TypeId} (k:Blk A b cs t):Blk B b cs t:=h.2 _ _ _ _ k
theorem KeepW.own {A B:World} (h:KeepW A B) {base:Nat} {e:TypeId} {s:Nat} {v:Value} {n:Nat} {xs:List Value} (k:A.ownsRow base e s v n xs):B.ownsRow base e s v n xs:=by
 refine⟨k.1,?_⟩
 rcases k.2 with h2 | ⟨g,cap,cur,rfl,hb,hg2,hrest⟩
 ·exact .inl h2
 ·exact .inr ⟨g,cap,cur,rfl,hb,h.2 _ _ _ _ hg2,hrest⟩
theorem Sys.keep {w w':World} {B p m N:Nat} {ra:Option Addr} {R rc:Nat} {g cp:Nat→Nat} {V:Nat→Nat→RatC} {M:Mx} {va:Value} {ps:List Nat} (h:Sys w B p m N ra R rc g cp V M va ps) (k:KeepW w w'):Sys w' B p m N ra R rc g cp V M va ps:=
 ⟨k.blk h.box,h.hra,h.hrc,fun hm=>by obtain⟨cs,h1,h2⟩:=h.rows hm;exact⟨cs,k.blk h1,h2⟩,fun r hr=>by obtain⟨cs,h1,h2⟩:=h.row r hr;exact⟨cs,k.blk h1,h2⟩,h.cap,h.inj,fun r hr c hc=>k.rat (h.val r hr c hc),h.off,h.offA,k.own h.atl,h.low⟩
theorem RdC.own {B p m N:Nat} {ra:Option Addr} {R rc bn bs n:Nat} {A:Mx} (B0:Nat):OwnFrom B0 (RdC B p m N ra R rc bn bs n A):=fun l W W' row h hg hrow=>by
 obtain⟨⟨g,cp,V,va,hs,hv⟩,h1,h2⟩:=h
 have k:=keepW_grown hg fun r e=>(hrow r e).2
 exact⟨⟨g,cp,V,va,hs.keep k,hv⟩,k.blk h1,k.blk h2⟩
def InvC (B p m N:Nat) (ra:Option Addr) (R rc bn bs n b2:Nat) (A:Mx) (w0:World) (l:List (Nat × Nat)) (W:World):Prop:=
 RdC B p m N ra R rc bn bs n A l W∧Blk W b2 #[.pointer (some ⟨p,0,none⟩)] 47∧Below B w0 W
theorem InvC.own {B p m N:Nat} {ra:Option Addr} {R rc bn bs n b2:Nat} {A:Mx} {w0:World} {B0:Nat} (hB:B≤B0) (hB1:B≤w0.heap.size):OwnFrom B0 (InvC B p m N ra R rc bn bs n b2 A w0):=fun l W W' row h hg hrow=>by
 obtain⟨h1,h2,h3⟩:=h
 have k:=keepW_grown hg fun r e=>(hrow r e).2
 exact⟨RdC.own B0 l W W' row h1 hg hrow,k.blk h2,h3.grown hg (Nat.le_trans hB1 h3.size) (fun r e=>Nat.le_trans hB (hrow r e).1)⟩
theorem Sys.congr {w:World} {B p m N:Nat} {ra:Option Addr} {R rc:Nat} {g cp:Nat→Nat} {V:Nat→Nat→RatC} {M M':Mx} {va:Value} {ps:List Nat} (h:Sys w B p m N ra R rc g cp V M va ps) (k:∀r,r<m→∀c,c<N→M r c=M' r c):Sys w B p m N ra R rc g cp V M' va ps:=
 ⟨h.box,h.hra,h.hrc,h.rows,h.row,h.cap,h.inj,fun r hr c hc=>by rw [←k r hr c hc];exact h.val r hr c hc,h.off,h.offA,h.atl,h.low⟩
theorem at_form {w:World} {B:Nat} {va:Value} {n:Nat} {xs:List Value} (h:w.ownsRow B 3 1 va n xs):∃a c,va=.slice a n c:=by
 rcases h.2 with⟨rfl,h0⟩ | ⟨_,_,_,rfl,_⟩
 ·exact⟨_,_,by rw [h0]⟩
 ·exact⟨_,_,rfl⟩
theorem Sys.swapPut {w:World} {B p m N:Nat} {ra:Option Addr} {R rc:Nat} {g cp:Nat→Nat} {V:Nat→Nat→RatC} {M:Mx} {va:Value} {ps:List Nat} (h:Sys w B p m N ra R rc g cp V M va ps) {d i:Nat} (hd:d<m) (hi:i<m) (u v:Value):
 w.frozen? ⟨R,d,none⟩=false∧(w.setCell ⟨R,d,none⟩ u).frozen? ⟨R,i,none⟩=false∧(∃x,(w.setCell ⟨R,d,none⟩ u).cell? ⟨R,i,none⟩=some x)∧
  (∀b,b≠R→∀o x,w.cell? ⟨b,o,none⟩=some x→(w.setCell ⟨R,d,none⟩ u).cell? ⟨b,o,none⟩=some x∧((w.setCell ⟨R,d,none⟩ u).setCell ⟨R,i,none⟩ v).cell? ⟨b,o,none⟩=some x):=by
 obtain⟨cs,h1,h2⟩:=h.rows (by omega)
 have hz:i<cs.size:=(Array.getElem?_eq_some_iff.1 (h2 i hi)).1
 refine⟨h1.free d,(h1.set d u).free i,⟨_,(h1.set d u).cell (i:=i) (v:=(cs.setIfInBounds d u)[i]'(by simpa using hz)) (Array.getElem?_eq_getElem _)⟩,fun b hb o x hx=>?_⟩
 have e1:(w.setCell ⟨R,d,none⟩ u).cell? ⟨b,o,none⟩=some x:=(World.cell?_setCell_far _ ⟨R,d,none⟩ _ u (by dsimp only;omega)).trans hx
 exact⟨e1,(World.cell?_setCell_far _ ⟨R,i,none⟩ _ v (by dsimp only;omega)).trans e1⟩
theorem Sys.ne {w:World} {B p m N:Nat} {ra:Option Addr} {R rc:Nat} {g cp:Nat→Nat} {V:Nat→Nat→RatC} {M:Mx} {va:Value} {ps:List Nat} (h:Sys w B p m N ra R rc g cp V M va ps) (hm:0<m):p≠R∧(∀r,r<m→p≠g r)∧(∀r,r<m→R≠g r):=by
 obtain⟨cs,h1,h2⟩:=h.rows hm
 refine⟨blkNe h.box h1 (by decide),fun r hr=>?_,fun r hr=>?_⟩
 ·obtain⟨cs0,hb0,_⟩:=h.row r hr
  exact blkNe h.box hb0 (by decide)
 ·obtain⟨cs0,hb0,_⟩:=h.row r hr
  exact blkNe h1 hb0 (by decide)
theorem Sys.neBox {w:World} {B p m N:Nat} {ra:Option Addr} {R rc:Nat} {g cp:Nat→Nat} {V:Nat→Nat→RatC} {M:Mx} {va:Value} {ps:List Nat} (h:Sys w B p m N ra R rc g cp V M va ps) {b:Nat} {cs:Array Value} {t:TypeId} (hb:Blk w b cs t) (h1:54≠t) (h2:23≠t) (h3:44≠t):∀x,SysB p m R g x→b≠x:=by
 rintro x (rfl | ⟨hm,rfl⟩ | ⟨r,hr,rfl⟩)
 ·exact fun e=>blkNe h.box hb h1 e.symm
 ·obtain⟨cs1,k1,_⟩:=h.rows hm
  exact fun e=>blkNe k1 hb h2 e.symm
 ·obtain⟨cs1,k1,_⟩:=h.row r hr
  exact fun e=>blkNe k1 hb h3 e.symm
theorem pow_digits (k:Nat):(1073741824:Nat) ^ k=2 ^ (30*k):=by rw [Nat.pow_mul]
theorem lt_digits {x E k:Nat} (h:x<2 ^ E) (hk:E≤30*k):x<1073741824 ^ k:=by
 rw [pow_digits]
 exact Nat.lt_of_lt_of_le h (Nat.pow_le_pow_right (by omega) hk)
theorem CdX.sz {m N E k:Nat} {M:Mx} (h:CdX m N E M) (hk:E≤30*k) {r c:Nat} (hr:r<m) (hc:c<N):Sz (M r c) k:=by
 obtain⟨D,h0,h1,h2⟩:=h
 obtain⟨z,h3,h4⟩:=h2 r hr c hc
 rw [h4,show((D:Nat):Rat)= (((D:Nat):Int):Rat) from(Rat.intCast_natCast D).symm,←Rat.divInt_eq_div]
 exact divInt_sz (lt_digits h3 hk) (by rw [Int.natAbs_natCast];exact lt_digits h1 hk) (by omega)
theorem CdX.szq {m N E k i j c:Nat} {M:Mx} (h:CdX m N E M) (hk:E≤30*k) (hi:i<m) (hc:c<N) (hj:j<N) (hne:M i j≠0):Sz (M i c / M i j) k:=by
 obtain⟨D,h0,h1,h2⟩:=h
 obtain⟨z,h3,h4⟩:=h2 i hi c hc
 obtain⟨y,h5,h6⟩:=h2 i hi j hj
 have hD:=ratne h0
 have hy:y≠0:=fun e=>hne (by rw [h6,e];grind)
 have hyr:(y:Rat)≠0:=fun e=>hy (by exact_mod_cast e)
 rw [h4,h6,show(z:Rat) / (D:Rat) / ((y:Rat) / (D:Rat))= (z:Rat) / (y:Rat) from by grind,←Rat.divInt_eq_div]
 exact divInt_sz (lt_digits h3 hk) (lt_digits h5 hk) hy
theorem scale_step (f:Nat→Rat) (S:Mx) (x:Rat) (d c r c':Nat):(if r=d∧c'=c then f c / x else if r=d∧c'<c then f c' / x else S r c')=if r=d∧c'<c+1 then f c' / x else S r c':=by
 by_cases h1:r=d∧c'=c
 ·rw [if_pos h1,if_pos ⟨h1.1,by omega⟩,h1.2]
 ·rw [if_neg h1]
  by_cases h2:r=d∧c'<c
  ·rw [if_pos h2,if_pos ⟨h2.1,by omega⟩]
  ·rw [if_neg h2,if_neg (by omega)]
theorem elim_step (S R:Mx) (f:Nat→Rat) (x:Rat) (j c r c':Nat):(if r=j∧c'=c then S j c - f c*x else if r=j∧c'<c then S j c' - f c'*x else R r c')=if r=j∧c'<c+1 then S j c' - f c'*x else R r c':=by
 by_cases h1:r=j∧c'=c
 ·rw [if_pos h1,if_pos ⟨h1.1,by omega⟩,h1.2]
 ·rw [if_neg h1]
  by_cases h2:r=j∧c'<c
  ·rw [if_pos h2,if_pos ⟨h2.1,by omega⟩]
  ·rw [if_neg h2,if_neg (by omega)]
theorem infoIntU:(Tryz.prog.info? 3).map (fun i=>(i.zero,i.size,i.bytes))=some (some (.int .i64 0),1,8):=by kernel_rfl
theorem step_append_int {ops:Array Oper} {o:Oper} {a:Act} {K:Act→World→Prop} {Q:Exit→Act→World→Prop} {E:Prop} (hgd:o.guard=none) (s y:Operand)
 (ho:o.op=.call {callee:=.builtin .append,args:=#[s,y],argTypes:=#[40,40]}) {w:World} {B:Nat} (hB:B≤w.heap.size) {v:Value} {n:Nat} {xs:List Value} (hs:a.eval s=v) (hown:w.ownsRow B 3 1 v n xs)
 {g:Nat} (hy:a.eval y=.slice (some ⟨g,0,none⟩) 1 1) {t:TypeId} {z:Int} (hb:Blk w g #[.int .i64 z] t) (hlen:n≤1000000)
 (h:∀v' w',w'.ownsRow B 3 1 v' (n+1) (xs ++ [.int .i64 z])→w.grownBy w' v.ownBlock→(v'.ownBlock=v.ownBlock∨v'.ownBlock=some w.heap.size)→K (a.put o.dst v') w'):
 if Region.wanted o (yielded ops a.tmps)=true then Oper.wp Tryz.prog o a w K Q else E:=by
 have hw:Region.wanted o (yielded ops a.tmps)=true:=by simp [Region.wanted,hgd]
 rw [if_pos hw]
 obtain⟨i0,hi0,hz0,hz1,hz2⟩:=info_parts infoIntU
 obtain⟨v',w',hr,h1,h2,h3,h4⟩:=run_append_own_at w B 40 o.type 3 i0 _ 1 8 Tryz.underlying40 hi0 hz0 hz1 hz2 rfl (by decide) v n xs hown ⟨g,0,none⟩ 1 1 [.int .i64 z] rfl (fun j u hu=>by
  rw [Addr.add_off]
  have:j=0:=by
   have:=(List.getElem?_eq_some_iff.1 hu).1
   simp at this
   exact this
  subst this
  simp only [List.getElem?_cons_zero,Option.some.injEq] at hu
  subst hu
  exact hb.cell rfl) (fun u hu=>by rw [List.mem_singleton.1 hu];rfl) (by unfold maxLen;omega) (by omega) hB
 unfold Oper.wp execOp
 simp only [ho,resolve,invoke,builtin,Sem.run_bind,Sem.run_pure,Result.andThen_ok,List.map_toArray,List.map_cons,List.map_nil,hs,hy,hr]
 exact h v' w' h1 h2 h4
theorem othersGrown {w w':World} {b:Option Nat} (hg:w.grownBy w' b) (hc:∀r,b=some r→∃cs t f,w.heap[r]? =some (Obj.cells cs t f)):KeepsOthers w w':=
 ⟨hg.size,fun k o hk ho=>(hg.block k (Array.getElem?_eq_some_iff.1 hk).1 (fun e=>by
  obtain⟨cs,t,f,h⟩:=hc k e.symm
  rw [hk] at h
  cases h
  cases ho)).trans hk⟩
def rowsX (M Sm:Mx) (d i k j:Nat):Mx:=fun r c=>if r=d then M i c / M i k else if r<j then Sm r c - M i c / M i k*Sm r k else Sm r c
structure EnvC (B p n b2 bs:Nat) (w0 W0 W:World):Prop where
 k2:Blk W b2 #[.pointer (some ⟨p,0,none⟩)] 47
 kn:Blk W (bs+1) #[.int .i64 n] 3
 ks:Blk W bs #[.pointer (some ⟨p,0,none⟩)] 47
 bl:Below B w0 W
 lo:B≤W.heap.size
 ot:KeepsOthers W0 W
theorem EnvC.ext {B p n b2 bs:Nat} {w0 W0 W W':World} (h:EnvC B p n b2 bs w0 W0 W) (k:Ext W W'):EnvC B p n b2 bs w0 W0 W':=
 ⟨h.k2.ext k,h.kn.ext k,h.ks.ext k,h.bl.trans (k.mono h.lo),Nat.le_trans h.lo k.size,h.ot.trans k.others⟩
theorem EnvC.set {B p n b2 bs:Nat} {w0 W0 W:World} (h:EnvC B p n b2 bs w0 W0 W) {b:Nat} (hb:B≤b) (h2:b2≠b) (hn:bs+1≠b) (hs:bs≠b) (i:Nat) (u:Value):EnvC B p n b2 bs w0 W0 (W.setCell ⟨b,i,none⟩ u):=
 ⟨h.k2.other (p:=⟨b,i,none⟩) h2 u,h.kn.other (p:=⟨b,i,none⟩) hn u,h.ks.other (p:=⟨b,i,none⟩) hs u,h.bl.setCell (p:=⟨b,i,none⟩) hb u,by have:=h.lo;simp;exact this,h.ot.trans (KeepsOthers.setCell _ _ _)⟩
theorem EnvC.off {B p n b2 bs:Nat} {w0 W0 W:World} (h:EnvC B p n b2 bs w0 W0 W) {m N:Nat} {ra:Option Addr} {R rc:Nat} {g cp:Nat→Nat} {V:Nat→Nat→RatC} {M:Mx} {va:Value} {ps:List Nat} (k:Sys W B p m N ra R rc g cp V M va ps) {b:Nat} (hb:SysB p m R g b):B≤b∧b2≠b∧bs+1≠b∧bs≠b:=
 ⟨k.low b hb,k.neBox h.k2 (by decide) (by decide) (by decide) b hb,k.neBox h.kn (by decide) (by decide) (by decide) b hb,k.neBox h.ks (by decide) (by decide) (by decide) b hb⟩
theorem EnvC.put {B p n b2 bs:Nat} {w0 W0 W:World} (h:EnvC B p n b2 bs w0 W0 W) {b:Nat} (hb:B≤b∧b2≠b∧bs+1≠b∧bs≠b) (i:Nat) (u:Value):EnvC B p n b2 bs w0 W0 (W.setCell ⟨b,i,none⟩ u):=h.set hb.1 hb.2.1 hb.2.2.1 hb.2.2.2 i u
theorem EnvC.put4 {B p n b2 bs:Nat} {w0 W0 W:World} (h:EnvC B p n b2 bs w0 W0 W) {b:Nat} (hb:B≤b∧b2≠b∧bs+1≠b∧bs≠b) (i:Nat) (x:RatC):EnvC B p n b2 bs w0 W0 (set4U W b i x):=(((h.put hb _ _).put hb _ _).put hb _ _).put hb _ _
theorem EnvC.at {B p n b2 bs:Nat} {w0 W0 W W':World} (h:EnvC B p n b2 bs w0 W0 W) {va:Value} {l:Nat} {xs:List Value} (ho:W.ownsRow B 3 1 va l xs) (hna:va.ownBlock≠some (bs+1)) (hg:W.grownBy W' va.ownBlock):EnvC B p n b2 bs w0 W0 W':=by
 refine⟨blkGrown h.k2 hg (rowNe ho h.k2 (by decide)),blkGrown h.kn hg hna,blkGrown h.ks hg (rowNe ho h.ks (by decide)),h.bl.grown hg h.lo (fun r e=>(World.ownsRow.lt ho r e).1),Nat.le_trans h.lo hg.size,h.ot.trans (othersGrown hg fun r e=>?_)⟩
 rcases ho.2 with⟨rfl,_⟩ | ⟨g,cap,cur,rfl,_,h2,_⟩
 ·cases e
 ·simp only [Value.ownBlock,Option.some.injEq] at e
  subst e
  exact⟨_,_,_,h2⟩
set_option maxHeartbeats 16000000 in
theorem system_reduce (B p m N:Nat) (ra:Option Addr) (R rc:Nat) (g cp:Nat→Nat) (V:Nat→Nat→RatC) (A:Mx) (va:Value) (n e:Nat) (w:World) (hs:Sys w B p m N ra R rc g cp V A va []) (hcd:CdX m N e A) (hn:n≤N) (hN:N≤100) (hm:m≤100) (he:2 ^ n* (e+1)≤40920) (hB:B≤w.heap.size):
 Calls Tryz.prog 26 #[.pointer (some ⟨p,0,none⟩),.int .i64 n] w fun e w'=>(∃v,e=.returned v)∧(∃g cp V va,Sys w' B p m N ra R rc g cp V (elimX m A n).M va (elimX m A n).ps)∧Below B w w':=by
 have HS:=Lib.hid hs
 have HCD:=Lib.hid hcd
 clear hs hcd
 refine(callsIn_wide (n:=5)).1 ?_
 refine callsIn_of_wp_marks Tryz.func26 rfl trivial ?_ rfl
 simp only [Tryz.ntmps26,List.size_toArray,List.length_cons,List.length_nil,Nat.reduceAdd,Nat.reduceSub,Array.replicate_succ,Array.replicate_zero,List.push_toArray,List.append_toArray,List.nil_append,List.cons_append]
 refine wpIn_wide.2 ?_
 have hx:=Ext.alloc w (.cells #[.pointer (some ⟨p,0,none⟩)] 47)
 have Kb:=Lib.hid (Blk.new0 w #[.pointer (some ⟨p,0,none⟩)] 47)
 go_upto_region 1 with fail
 have HX:=Lib.hid hx
 have hsz:=hx.size
 have HBW:=Lib.hid hB
 clear hx
 generalize w.alloc (.cells #[.pointer (some ⟨p,0,none⟩)] 47)=x1 at *
 generalize hb2:w.heap.size=b2 at *
 have HB2:=Lib.hid hb2
 clear hb2
 have c0:=Kb.out.cell (i:=0) rfl
 go_wp2_with fail
 refine(system_columns p n x1).mono ?_
 rintro e0 w2 ⟨rfl,rfl⟩
 have hx2:Ext x1 ((x1.alloc (.cells #[.pointer (some ⟨p,0,none⟩)] 47)).alloc (.cells #[.int .i64 n] 3)):=(Ext.alloc _ _).alloc' _
 have k1:=(Blk.new0 x1 #[.pointer (some ⟨p,0,none⟩)] 47).alloc (.cells #[.int .i64 n] 3)
 have k2:=Blk.new1 x1 (.cells #[.pointer (some ⟨p,0,none⟩)] 47) #[.int .i64 n] 3
 have hr0:RdC B p m N ra R rc (x1.heap.size+1) x1.heap.size n A [] ((x1.alloc (.cells #[.pointer (some ⟨p,0,none⟩)] 47)).alloc (.cells #[.int .i64 n] 3)):=⟨⟨g,cp,V,va,(HS.out.ext HX.out).ext hx2,fun e=>by have:=(World.ownsRow.lt (HS.out.ext HX.out).atl _ e).2;omega⟩,k2,k1⟩
 have hi0:InvC B p m N ra R rc (x1.heap.size+1) x1.heap.size n b2 A w [] ((x1.alloc (.cells #[.pointer (some ⟨p,0,none⟩)] 47)).alloc (.cells #[.int .i64 n] 3)):=⟨hr0,Kb.out.ext hx2,(HX.out.trans hx2).mono (by rw [HB2.out];exact HBW.out)⟩
 have HR0:=Lib.hid hr0
 have HI0:=Lib.hid hi0
 have hsz2:=hx2.size
 clear k1 k2 hr0 hi0 hx2 c0 Kb
 generalize (x1.alloc (.cells #[.pointer (some ⟨p,0,none⟩)] 47)).alloc (.cells #[.int .i64 n] 3)=x2 at *
 generalize x1.heap.size=bs at *
 go_wp2_with fail
 refine(wpIn_wide (n:=5)).1 ?_
 refine wpIn_rangeFunc_ownS (by omega) (gf:=72) (lb:=#[.pointer (some ⟨bs+1,0,none⟩),.pointer (some ⟨bs,0,none⟩)]) rfl (enters_of Tryz.func72 (by kernel_rfl) rfl)
  (columns_seq 4 B p m N ra R rc (bs+1) bs n A hn (by omega) (by omega) x2) (fun _=>rfl)
  (InvC B p m N ra R rc (bs+1) bs n b2 A w) (InvC.own (by omega) (by rw [HB2.out];exact HBW.out)) (fun _ _ _ _ h _ _=>h) (RdC.own _) (fun _ _ _ _ h _ _=>h) HI0.out HR0.out ?a1 ?assign ?body ?done
 case assign=>
  intro lp x W K hK
  gi_wp2
  exact hK
 case body=>
  rintro lp pre ⟨k,i⟩ W hI hOk
  obtain⟨hkn,hel,hfi⟩:=hOk pre (k,i) rfl
  dsimp only at hkn hel hfi ⊢
  obtain⟨⟨⟨g,cp,V,va,hs,hna⟩,hbn,hbs⟩,hb2,hbl⟩:=hI
  rw [←hel] at hs
  have hle:=(elimX_ech m A k).le
  have hnx:elimX m A (k+1)= ⟨stepX (elimX m A k).M (elimX m A k).ps.length i k,(elimX m A k).ps ++ [k]⟩:=by
   show colX m (elimX m A k) k=_
   unfold colX
   rw [hfi]
  have HNX:=Lib.hid hnx
  obtain⟨f1,f2,f3,f4⟩:=findX_some hfi
  have HCK:=Lib.hid (HCD.out.elim (show k≤N by omega))
  have hpk:(elimX m A k).ps.length≤k:=(rank_le m k A).2
  clear hel hfi hnx hOk
  generalize hst:elimX m A k=st at *
  clear hst
  obtain⟨M,ps⟩:=st
  dsimp only at *
  obtain⟨d,hd⟩:∃d,ps.length=d:=⟨_,rfl⟩
  have HD:=Lib.hid hd
  rw [hd] at f1 f2 f4 hle HNX HCK hpk
  have hdm:d<m:=by omega
  have him:i<m:=by omega
  obtain⟨av,cv,rfl⟩:=at_form hs.atl
  rw [hd] at hs hna
  have d0:=hb2.cell (i:=0) rfl
  have d1:=hs.box.cell (i:=0) rfl
  have HS:=Lib.hid hs
  have HEN:Hid (EnvC B p n b2 bs w W W):=Lib.hid ⟨hb2,hbn,hbs,hbl,Nat.le_trans (by rw [HB2.out];exact HBW.out) hbl.size,KeepsOthers.refl _⟩
  have HF3:=Lib.hid f3
  have HNA:=Lib.hid hna
  clear hs hbn hbs hb2 hbl f3 f4 hd hna
  gi_wp2
  refine⟨trivial,(callsIn_wide.2 (pivots_many p av d cv _ d1)).mono ?_⟩
  rintro e1 w2 ⟨rfl,rfl⟩
  gi_upto_region 5 with fail
  obtain rfl:=HS.out.hra (by omega)
  have hrc:=HS.out.hrc
  have s0:World.cell? W ⟨b2,0,none⟩=some (.pointer (some ⟨p,0,none⟩)):=d0
  have s1:World.cell? W ⟨p,1,none⟩=some (.slice (some ⟨R,0,none⟩) m rc):=HS.out.box.cell rfl
  have t0:World.cell? W ⟨R,d,none⟩=some (.slice (some ⟨g d,0,none⟩) N (cp d)):=HS.out.top hdm
  have t1:World.cell? W ⟨R,i,none⟩=some (.slice (some ⟨g i,0,none⟩) N (cp i)):=HS.out.top him
  have hyd:Ext W (World.drew W):=(Ext.refl _).drew
  have hRB:=HEN.out.off HS.out (b:=R) (.inr (.inl ⟨by omega,rfl⟩))
  have hb2R:=hRB.2.1
  have hpR:=(HS.out.ne (by omega)).1
  replace HS:=Lib.hid (HS.out.ext hyd)
  replace HEN:=Lib.hid (HEN.out.ext hyd)
  have d0':(0:Int)≤(d:Int):=by omega
  have d1':(d:Int)< (m:Int):=by omega
  have i0':(0:Int)≤(i:Int):=by omega
  have i1':(i:Int)< (m:Int):=by omega
  obtain⟨z0,z1,z2,z3⟩:=HS.out.swapPut hdm him (.slice (some ⟨g i,0,none⟩) N (cp i)) (.slice (some ⟨g d,0,none⟩) N (cp d))
  replace s0:World.cell? (World.drew W) ⟨b2,0,none⟩=some (.pointer (some ⟨p,0,none⟩)):=s0
  replace s1:World.cell? (World.drew W) ⟨p,1,none⟩=some (.slice (some ⟨R,0,none⟩) m rc):=s1
  replace t0:World.cell? (World.drew W) ⟨R,d,none⟩=some (.slice (some ⟨g d,0,none⟩) N (cp d)):=t0
  replace t1:World.cell? (World.drew W) ⟨R,i,none⟩=some (.slice (some ⟨g i,0,none⟩) N (cp i)):=t1
  obtain⟨sa0,sb0⟩:=z3 b2 hb2R _ _ s0
  obtain⟨sa1,sb1⟩:=z3 p hpR _ _ s1
  obtain⟨z2x,z2⟩:=z2
  clear z3 hyd d0 d1
  gi_cut [] from 144 (fun wx=>Sys wx B p m N (some ⟨R,0,none⟩) R rc (sw g d i) (sw cp d i) (sw V d i) (swapX M d i) (.slice av d cv) ps∧EnvC B p n b2 bs w W wx)
  case first=>
   refine wpIn_region_held_drew (S:=(fun w'=>World.cell? w' ⟨b2,0,none⟩=some (.pointer (some ⟨p,0,none⟩))∧World.cell? w' ⟨p,1,none⟩=some (.slice (some ⟨R,0,none⟩) m rc))) (by kernel_rfl) (by kernel_rfl) (by rintro⟨_,_,h⟩;exact h) ?_ (fun hHeld=>?_)
   ·(first | exact⟨s0,s1⟩ | exact⟨sa0,sa1⟩ | exact⟨sb0,sb1⟩)
   (try simp only [pur,Nat.reduceAdd])
   generalize World.drew W=x3 at *
   refine tk (v:=?_) 0 rfl (by kernel_rfl) (fun _ _ _ h=>h) (by rfl) ?_ (by assumption) ?_
   rotate_left
   ·(intro w hSw;(try dsimp only at hSw);(try go_simp);(try with_reducible rfl))
   (try simp only [Act.put,pus])
   refine tk (v:=?_) 1 rfl (by kernel_rfl) (fun _ _ _ h=>h) (by rfl) ?_ (by assumption) ?_
   rotate_left
   ·(intro w hSw;(try dsimp only at hSw);(try go_simp);(try with_reducible rfl))
   (try simp only [Act.put,pus])
   refine tk (v:=?_) 2 rfl (by kernel_rfl) (fun _ _ _ h=>h) (by rfl) ?_ (by assumption) ?_
   rotate_left
   ·(intro w hSw;(try dsimp only at hSw);(try go_simp);(try with_reducible rfl))
   (try simp only [Act.put,pus])
   refine tk (v:=?_) 3 rfl (by kernel_rfl) (fun _ _ _ h=>h) (by rfl) ?_ (by assumption) ?_
   rotate_left
   ·(intro w hSw;(try dsimp only at hSw);(try go_simp);(try with_reducible rfl))
   (try simp only [Act.put,pus])
   refine tk (v:=?_) 4 rfl (by kernel_rfl) (fun _ _ _ h=>h) (by rfl) ?_ (by assumption) ?_
   rotate_left
   ·(intro w hSw;(try dsimp only at hSw);(try go_simp);(try with_reducible rfl))
   (try simp only [Act.put,pus])
   refine tk (v:=?_) 5 rfl (by kernel_rfl) (fun _ _ _ h=>h) (by rfl) ?_ (by assumption) ?_
   rotate_left
   ·(intro w hSw;(try dsimp only at hSw);(try go_simp);(try with_reducible rfl))
   (try simp only [Act.put,pus])
   refine tk (v:=?_) 6 rfl (by kernel_rfl) (fun _ _ _ h=>h) (by rfl) ?_ (by assumption) ?_
   rotate_left
   ·(intro w hSw;(try dsimp only at hSw);(try go_simp);(try with_reducible rfl))
   (try simp only [Act.put,pus])
   refine tk (v:=?_) 7 rfl (by kernel_rfl) (fun _ _ _ h=>h) (by rfl) ?_ (by assumption) ?_
   rotate_left
   ·(intro w hSw;(try dsimp only at hSw);(try go_simp);(try with_reducible rfl))
   (try simp only [Act.put,pus])
   refine tk (v:=?_) 8 rfl (by kernel_rfl) (fun _ _ _ h=>h) (by rfl) ?_ (by assumption) ?_
   rotate_left
   ·(intro w hSw;(try dsimp only at hSw);(try go_simp);(try with_reducible rfl))
   (try simp only [Act.put,pus])
   refine tk (v:=?_) 9 rfl (by kernel_rfl) (fun _ _ _ h=>h) (by rfl) ?_ (by assumption) ?_
   rotate_left
   ·(intro w hSw;(try dsimp only at hSw);(try go_simp);(try with_reducible rfl))
   (try simp only [Act.put,pus])
   refine tk (v:=?_) 10 rfl (by kernel_rfl) (fun _ _ _ h=>h) (by rfl) ?_ (by assumption) ?_
   rotate_left
   ·(intro w hSw;(try dsimp only at hSw);(try go_simp);(try with_reducible rfl))
   (try simp only [Act.put,pus])
   refine tk (v:=?_) 11 rfl (by kernel_rfl) (fun _ _ _ h=>h) (by rfl) ?_ (by assumption) ?_
   rotate_left
   ·(intro w hSw;(try dsimp only at hSw);(try go_simp);(try with_reducible rfl))
   (try simp only [Act.put,pus])
   refine tk (v:=?_) 12 rfl (by kernel_rfl) (fun _ _ _ h=>h) (by rfl) ?_ (by assumption) ?_
   rotate_left
   ·(intro w hSw;(try dsimp only at hSw);(try go_simp);(try with_reducible rfl))
   (try simp only [Act.put,pus])
   refine tk (v:=?_) 13 rfl (by kernel_rfl) (fun _ _ _ h=>h) (by rfl) ?_ (by assumption) ?_
   rotate_left
   ·(intro w hSw;(try dsimp only at hSw);(try go_simp);(try with_reducible rfl))
   (try simp only [Act.put,pus])
   refine tk (v:=?_) 14 rfl (by kernel_rfl) (fun _ _ _ h=>h) (by rfl) ?_ (by assumption) ?_
   rotate_left
   ·(intro w hSw;(try dsimp only at hSw);(try go_simp);(try with_reducible rfl))
   (try simp only [Act.put,pus])
   refine tk (v:=?_) 15 rfl (by kernel_rfl) (fun _ _ _ h=>h) (by rfl) ?_ (by assumption) ?_
   rotate_left
   ·(intro w hSw;(try dsimp only at hSw);(try go_simp);(try with_reducible rfl))
   (try simp only [Act.put,pus])
   refine tk (v:=?_) 17 rfl (by kernel_rfl) (fun _ _ _ h=>h) (by rfl) ?_ (by assumption) ?_
   rotate_left
   ·(intro w hSw;(try dsimp only at hSw);(try go_simp);(try with_reducible rfl))
   (try simp only [Act.put,pus])
   refine tk (v:=?_) 18 rfl (by kernel_rfl) (fun _ _ _ h=>h) (by rfl) ?_ (by assumption) ?_
   rotate_left
   ·(intro w hSw;(try dsimp only at hSw);(try go_simp);(try with_reducible rfl))
   (try simp only [Act.put,pus])
   refine tk (v:=?_) 19 rfl (by kernel_rfl) (fun _ _ _ h=>h) (by rfl) ?_ (by assumption) ?_
   rotate_left
   ·(intro w hSw;(try dsimp only at hSw);(try go_simp);(try with_reducible rfl))
   (try simp only [Act.put,pus])
   refine tk (v:=?_) 20 rfl (by kernel_rfl) (fun _ _ _ h=>h) (by rfl) ?_ (by assumption) ?_
   rotate_left
   ·(intro w hSw;(try dsimp only at hSw);(try go_simp);(try with_reducible rfl))
   (try simp only [Act.put,pus])
   refine tk (v:=?_) 21 rfl (by kernel_rfl) (fun _ _ _ h=>h) (by rfl) ?_ (by assumption) ?_
   rotate_left
   ·(intro w hSw;(try dsimp only at hSw);(try go_simp);(try with_reducible rfl))
   (try simp only [Act.put,pus])
   refine tk (v:=?_) 22 rfl (by kernel_rfl) (fun _ _ _ h=>h) (by rfl) ?_ (by assumption) ?_
   rotate_left
   ·(intro w hSw;(try dsimp only at hSw);(try go_simp);(try with_reducible rfl))
   (try simp only [Act.put,pus])
   refine wpAnyH_ready (rs:=[16,23]) (by kernel_rfl) (by simp) ?_
   refine AllReadyH.cons (o:=_) rfl (fun K hK=>?_) ?_
   ·go_simp
    refine hK.out _ _ ?_ (fun hHeld2=>?_)
    ·(first | exact⟨s0,s1⟩ | exact⟨sa0,sa1⟩ | exact⟨sb0,sb1⟩)
    clear hK K hHeld
    have hHeld:=hHeld2
    clear hHeld2
    (try simp only [Act.put,pus])
    refine wpAnyH_ready (rs:=[23]) (by kernel_rfl) (by simp) ?_
    refine AllReadyH.cons (o:=_) rfl (fun K hK=>?_) ?_
    ·go_simp
     refine hK.out _ _ ?_ (fun hHeld2=>?_)
     ·(first | exact⟨s0,s1⟩ | exact⟨sa0,sa1⟩ | exact⟨sb0,sb1⟩)
     clear hK K hHeld
     have hHeld:=hHeld2
     clear hHeld2
     (try simp only [Act.put,pus])
     refine tk (v:=?_) 24 rfl (by kernel_rfl) (fun _ _ _ h=>h) (by rfl) ?_ (by assumption) ?_
     rotate_left
     ·(intro w hSw;(try dsimp only at hSw);(try go_simp);(try with_reducible rfl))
     (try simp only [Act.put,pus])
     refine wpAnyH_ready (rs:=[25]) (by kernel_rfl) (by simp) ?_
     refine AllReadyH.cons (o:=_) rfl (fun K hK=>?_) ?_
     ·go_simp
      refine hK.out _ _ ?_ (fun hHeld2=>?_)
      ·(first | exact⟨s0,s1⟩ | exact⟨sa0,sa1⟩ | exact⟨sb0,sb1⟩)
      clear hK K hHeld
      have hHeld:=hHeld2
      clear hHeld2
      (try simp only [Act.put,pus])
      refine tk (v:=?_) 26 rfl (by kernel_rfl) (fun _ _ _ h=>h) (by rfl) ?_ (by assumption) ?_
      rotate_left
      ·(intro w hSw;(try dsimp only at hSw);(try go_simp);(try with_reducible rfl))
      (try simp only [Act.put,pus])
      refine wpAnyH_ready (rs:=[27]) (by kernel_rfl) (by simp) ?_
      refine AllReadyH.cons (o:=_) rfl (fun K hK=>?_) ?_
      ·go_simp
       refine hK.out _ _ ?_ (fun hHeld2=>?_)
       ·(first | exact⟨s0,s1⟩ | exact⟨sa0,sa1⟩ | exact⟨sb0,sb1⟩)
       clear hK K hHeld
       have hHeld:=hHeld2
       clear hHeld2
       (try simp only [Act.put,pus])
       refine wpAnyH_done (by kernel_rfl) ?_ _
       gi_wp2_with fail
       gi_meet
       exact⟨HS.out.swap hdm him,(HEN.out.put hRB _ _).put hRB _ _⟩
      exact AllReadyH.nil
     exact AllReadyH.nil
    exact AllReadyH.nil
   refine AllReadyH.cons (o:=_) rfl (fun K hK=>?_) ?_
   ·go_simp
    refine hK.out _ _ ?_ (fun hHeld2=>?_)
    ·(first | exact⟨s0,s1⟩ | exact⟨sa0,sa1⟩ | exact⟨sb0,sb1⟩)
    clear hK K hHeld
    have hHeld:=hHeld2
    clear hHeld2
    (try simp only [Act.put,pus])
    refine wpAnyH_ready (rs:=[16]) (by kernel_rfl) (by simp) ?_
    refine AllReadyH.cons (o:=_) rfl (fun K hK=>?_) ?_
    ·go_simp
     refine hK.out _ _ ?_ (fun hHeld2=>?_)
     ·(first | exact⟨s0,s1⟩ | exact⟨sa0,sa1⟩ | exact⟨sb0,sb1⟩)
     clear hK K hHeld
     have hHeld:=hHeld2
     clear hHeld2
     (try simp only [Act.put,pus])
     refine tk (v:=?_) 24 rfl (by kernel_rfl) (fun _ _ _ h=>h) (by rfl) ?_ (by assumption) ?_
     rotate_left
     ·(intro w hSw;(try dsimp only at hSw);(try go_simp);(try with_reducible rfl))
     (try simp only [Act.put,pus])
     refine wpAnyH_ready (rs:=[25]) (by kernel_rfl) (by simp) ?_
     refine AllReadyH.cons (o:=_) rfl (fun K hK=>?_) ?_
     ·go_simp
      refine hK.out _ _ ?_ (fun hHeld2=>?_)
      ·(first | exact⟨s0,s1⟩ | exact⟨sa0,sa1⟩ | exact⟨sb0,sb1⟩)
      clear hK K hHeld
      have hHeld:=hHeld2
      clear hHeld2
      (try simp only [Act.put,pus])
      refine tk (v:=?_) 26 rfl (by kernel_rfl) (fun _ _ _ h=>h) (by rfl) ?_ (by assumption) ?_
      rotate_left
      ·(intro w hSw;(try dsimp only at hSw);(try go_simp);(try with_reducible rfl))
      (try simp only [Act.put,pus])
      refine wpAnyH_ready (rs:=[27]) (by kernel_rfl) (by simp) ?_
      refine AllReadyH.cons (o:=_) rfl (fun K hK=>?_) ?_
      ·go_simp
       refine hK.out _ _ ?_ (fun hHeld2=>?_)
       ·(first | exact⟨s0,s1⟩ | exact⟨sa0,sa1⟩ | exact⟨sb0,sb1⟩)
       clear hK K hHeld
       have hHeld:=hHeld2
       clear hHeld2
       (try simp only [Act.put,pus])
       refine wpAnyH_done (by kernel_rfl) ?_ _
       gi_wp2_with fail
       gi_meet
       exact⟨HS.out.swap hdm him,(HEN.out.put hRB _ _).put hRB _ _⟩
      exact AllReadyH.nil
     exact AllReadyH.nil
    exact AllReadyH.nil
   exact AllReadyH.nil
  case rest=>
   obtain⟨hs,hen⟩:=hcut
   have hE:2 ^ d* (e+1) - 1≤30*682:=by
    have h1:2 ^ (d+1)≤2 ^ n:=Nat.pow_le_pow_right (by omega) (by omega)
    have h2:2 ^ (d+1)* (e+1)≤2 ^ n* (e+1):=Nat.mul_le_mul_right _ h1
    rw [Nat.pow_succ,Nat.mul_right_comm] at h2
    omega
   have HZ:=Lib.hid (fun r c (hr:r<m) (hc:c<N)=>HCK.out.sz hE hr hc)
   have HZQ:=Lib.hid (fun c (hc:c<N)=>HCK.out.szq hE him hc (show k<N by omega) HF3.out)
   have hM1:swapX M d i d=M i:=by unfold swapX;rw [if_pos rfl]
   have HZ1:=Lib.hid (show ∀r c,r<m→c<N→Sz (swapX M d i r c) 682 from fun r c hr hc=>by
    unfold swapX
    split
    ·exact HZ.out i c him hc
    ·split
     ·exact HZ.out d c hdm hc
     ·exact HZ.out r c hr hc)
   have HSX:Hid (stepX M d i k=fun r c=>if r=d then M i c / M i k else swapX M d i r c - M i c / M i k*swapX M d i r k):=Lib.hid rfl
   have HM1:=Lib.hid hM1
   clear hM1 HCK HS hE t0 t1 z0 z1 z2 s0 s1 sa0 sa1 sb0 sb1 HEN hRB hb2R hpR
   generalize sw g d i=g1 at *
   generalize sw cp d i=cp1 at *
   generalize sw V d i=V1 at *
   generalize hSm:swapX M d i=Sm at *
   have HSm:=Lib.hid hSm
   clear hSm
   have hkN:k<N:=by omega
   have k0':(0:Int)≤(k:Int):=by omega
   have k1':(k:Int)< (N:Int):=by omega
   have s0:World.cell? wc ⟨b2,0,none⟩=some (.pointer (some ⟨p,0,none⟩)):=hen.k2.cell rfl
   have s1:World.cell? wc ⟨p,1,none⟩=some (.slice (some ⟨R,0,none⟩) m rc):=hs.box.cell rfl
   have s2:=hs.top hdm
   have hcp:=hs.cap d hdm
   obtain⟨e0,e1,e2,e3⟩:=(hs.row d hdm).cells hkN
   have hby:=hs.x hdm hkN
   rw [show Sm d k=M i k from congrFun HM1.out k] at hby
   have hbyf:=hby
   generalize V1 d k=by_ at *
   obtain⟨nb,ab,qb,cb,mb,bb,kb,db⟩:=by_
   dsimp only [RatC.val] at e0 e1 e2 e3
   have HS:=Lib.hid hs
   have HEN:=Lib.hid hen
   have HBY:=Lib.hid hby
   clear hs hen hby hbyf
   gi_upto_region 8 with fail
   have hl:=Ext.alloc wc (.cells #[.bool nb,.slice ab qb cb,.bool mb,.slice bb kb db] 44)
   have hb8:=Blk.new0 wc #[.bool nb,.slice ab qb cb,.bool mb,.slice bb kb db] 44
   have hoff8:∀x,SysB p m R g1 x→wc.heap.size≠x:=fun x hx=>by have:=HS.out.lt x hx;omega
   replace HS:=Lib.hid (HS.out.ext hl)
   replace HEN:=Lib.hid (HEN.out.ext hl)
   replace HBY:=Lib.hid (HBY.out.ext hl)
   have HB8:=Lib.hid hb8
   have HO8:=Lib.hid hoff8
   clear hl hb8 hoff8 e0 e1 e2 e3 s0 s1 s2
   generalize wc.alloc (.cells #[.bool nb,.slice ab qb cb,.bool mb,.slice bb kb db] 44)=x4 at *
   generalize wc.heap.size=b8 at *
   gi_wp2
   gi_loopw [64] (fun v wr=>∃c:Nat,c≤N∧v=.int .i64 c∧(∃V,Sys wr B p m N (some ⟨R,0,none⟩) R rc g1 cp1 V (fun r c'=>if r=d∧c'<c then M i c' / M i k else Sm r c') (.slice av d cv) ps)∧EnvC B p n b2 bs w W wr∧Blk wr b8 #[.bool nb,.slice ab qb cb,.bool mb,.slice bb kb db] 44∧SysX wr p m R g1 (.slice av d cv) ⟨nb,ab,qb,cb,mb,bb,kb,db⟩ (M i k)) (fun v _=>N - (intOf v).toNat)
   case atStart=>exact⟨0,Nat.zero_le _,rfl,⟨V1,HS.out.congr fun r _ c _=>by rw [if_neg (by omega)]⟩,HEN.out,HB8.out,HBY.out⟩
   case round=>
    obtain⟨c,hc,rfl,⟨V,hs⟩,hen,hb8,hby⟩:=hrel
    by_cases hcN:c<N
    ·have c0':(0:Int)≤(c:Int):=by omega
     have c1':(c:Int)< (N:Int):=by omega
     have hw1:IntKind.i64.wrap ((c:Int)+1)= (c:Int)+1:=IntWalk.i64_in _ (by omega)
     have HS:=Lib.hid hs
     have HEN:=Lib.hid hen
     have HB8:=Lib.hid hb8
     have HBY:=Lib.hid hby
     clear hs hen hb8 hby
     gi_upto_region 11 with fail
     have hyd:Ext wr (World.drew wr):=(Ext.refl _).drew
     replace HS:=Lib.hid (HS.out.ext hyd)
     replace HEN:=Lib.hid (HEN.out.ext hyd)
     replace HB8:=Lib.hid (HB8.out.ext hyd)
     replace HBY:=Lib.hid (HBY.out.ext hyd)
     have s0:World.cell? (World.drew wr) ⟨b8,0,none⟩=some (.bool nb):=HB8.out.cell rfl
     have s1:World.cell? (World.drew wr) ⟨b8,1,none⟩=some (.slice ab qb cb):=HB8.out.cell rfl
     have s2:World.cell? (World.drew wr) ⟨b8,2,none⟩=some (.bool mb):=HB8.out.cell rfl
     have s3:World.cell? (World.drew wr) ⟨b8,3,none⟩=some (.slice bb kb db):=HB8.out.cell rfl
     obtain⟨e0,e1,e2,e3⟩:=(HS.out.row d hdm).cells hcN
     have HV:=Lib.hid (HS.out.val d hdm c hcN)
     rw [if_neg (by omega)] at HV
     have hgd:SysB p m R g1 (g1 d):=.inr (.inr ⟨d,hdm,rfl⟩)
     have hge:=HEN.out.off HS.out hgd
     generalize hx:V d c=x at *
     obtain⟨nx,ax,qx,cx,mx,bx,kx,dx⟩:=x
     dsimp only [RatC.val] at e0 e1 e2 e3 HV
     clear hyd hx
     refine wpIn_region_held_drew (S:=(fun w'=>World.cell? w' ⟨b8,0,none⟩=some (.bool nb)∧World.cell? w' ⟨b8,1,none⟩=some (.slice ab qb cb)∧World.cell? w' ⟨b8,2,none⟩=some (.bool mb)∧World.cell? w' ⟨b8,3,none⟩=some (.slice bb kb db))) (by kernel_rfl) (by kernel_rfl) (by rintro⟨_,_,h⟩;exact h) ?_ (fun hHeld=>?_)
     ·exact⟨s0,s1,s2,s3⟩
     (try simp only [pur,Nat.reduceAdd])
     generalize World.drew wr=x5 at *
     refine tk (v:=?_) 0 rfl (by kernel_rfl) (fun _ _ _ h=>h) (by rfl) ?_ (by assumption) ?_
     rotate_left
     ·(intro w hSw;(try dsimp only at hSw);(try go_simp);(try with_reducible rfl))
     (try simp only [Act.put,pus])
     refine tk (v:=?_) 1 rfl (by kernel_rfl) (fun _ _ _ h=>h) (by rfl) ?_ (by assumption) ?_
     rotate_left
     ·(intro w hSw;(try dsimp only at hSw);(try go_simp);(try with_reducible rfl))
     (try simp only [Act.put,pus])
     refine tk (v:=?_) 2 rfl (by kernel_rfl) (fun _ _ _ h=>h) (by rfl) ?_ (by assumption) ?_
     rotate_left
     ·(intro w hSw;(try dsimp only at hSw);(try go_simp);(try with_reducible rfl))
     (try simp only [Act.put,pus])
     refine tk (v:=?_) 3 rfl (by kernel_rfl) (fun _ _ _ h=>h) (by rfl) ?_ (by assumption) ?_
     rotate_left
     ·(intro w hSw;(try dsimp only at hSw);(try go_simp);(try with_reducible rfl))
     (try simp only [Act.put,pus])
     refine tk (v:=?_) 4 rfl (by kernel_rfl) (fun _ _ _ h=>h) (by rfl) ?_ (by assumption) ?_
     rotate_left
     ·(intro w hSw;(try dsimp only at hSw);(try go_simp);(try with_reducible rfl))
     (try simp only [Act.put,pus])
     refine tk (v:=?_) 6 rfl (by kernel_rfl) (fun _ _ _ h=>h) (by rfl) ?_ (by assumption) ?_
     rotate_left
     ·(intro w hSw;(try dsimp only at hSw);(try go_simp);(try with_reducible rfl))
     (try simp only [Act.put,pus])
     refine wpAnyH_ready (rs:=[5]) (by kernel_rfl) (by simp) ?_
     refine AllReadyH.cons (o:=_) rfl (fun K hK=>?_) ?_
     ·go_simp
      refine hK.out _ _ ?_ (fun hHeld2=>?_)
      ·exact⟨s0,s1,s2,s3⟩
      clear hK K hHeld
      have hHeld:=hHeld2
      clear hHeld2
      (try simp only [Act.put,pus])
      refine wpAnyH_ready (rs:=[7]) (by kernel_rfl) (by simp) ?_
      refine AllReadyH.cons (o:=_) rfl (fun K hK=>?_) ?_
      ·go_simp
       (with_reducible refine(ratio_Quo HV.out HBY.out.val (HZ1.out d c hdm hcN) (HZ.out i k him hkN) (by omega) HF3.out).mono ?_);rintro e9 y1 ⟨v9,rfl,hv,hy⟩;obtain⟨n9,a9,q9,c9,b9,k9,d9,rfl,hv',hf',hg'⟩:=hv;have HX:=Lib.hid (HS.out.fresh (x:=⟨n9,a9,q9,c9,false,b9,k9,d9⟩) hv' hy ⟨fun _=>hf',fun _=>hg'⟩);replace HS:=Lib.hid (HS.out.ext hy);replace HEN:=Lib.hid (HEN.out.ext hy);replace HB8:=Lib.hid (HB8.out.ext hy);replace HBY:=Lib.hid (HBY.out.ext hy);replace s0:=cell_exQ hy s0;replace s1:=cell_exQ hy s1;replace s2:=cell_exQ hy s2;replace s3:=cell_exQ hy s3;clear hy hv' hf' hg' e0 e1 e2 e3 HV
       refine hK.out _ _ ?_ (fun hHeld2=>?_)
       ·exact⟨s0,s1,s2,s3⟩
       clear hK K hHeld
       have hHeld:=hHeld2
       clear hHeld2
       (try simp only [Act.put,pus])
       refine tk (v:=?_) 8 rfl (by kernel_rfl) (fun _ _ _ h=>h) (by rfl) ?_ (by assumption) ?_
       rotate_left
       ·(intro w hSw;(try dsimp only at hSw);(try go_simp);(try with_reducible rfl))
       (try simp only [Act.put,pus])
       refine tk (v:=?_) 9 rfl (by kernel_rfl) (fun _ _ _ h=>h) (by rfl) ?_ (by assumption) ?_
       rotate_left
       ·(intro w hSw;(try dsimp only at hSw);(try go_simp);(try with_reducible rfl))
       (try simp only [Act.put,pus])
       refine tk (v:=?_) 10 rfl (by kernel_rfl) (fun _ _ _ h=>h) (by rfl) ?_ (by assumption) ?_
       rotate_left
       ·(intro w hSw;(try dsimp only at hSw);(try go_simp);(try with_reducible rfl))
       (try simp only [Act.put,pus])
       refine tk (v:=?_) 11 rfl (by kernel_rfl) (fun _ _ _ h=>h) (by rfl) ?_ (by assumption) ?_
       rotate_left
       ·(intro w hSw;(try dsimp only at hSw);(try go_simp);(try with_reducible rfl))
       (try simp only [Act.put,pus])
       refine wpAnyH_ready (rs:=[12]) (by kernel_rfl) (by simp) ?_
       refine AllReadyH.cons (o:=_) rfl (fun K hK=>?_) ?_
       ·obtain⟨PP,_⟩:=(HS.out.row d hdm).put hcN ⟨n9,a9,q9,c9,false,b9,k9,d9⟩;obtain⟨p0,p1,p2,p3,⟨_,p4⟩,⟨_,p5⟩,⟨_,p6⟩,⟨_,p7⟩⟩:=PP;dsimp only at p0 p1 p2 p3 p4 p5 p6 p7;go_simp;clear p0 p1 p2 p3 p4 p5 p6 p7;replace HB8:=Lib.hid (blkGrown HB8.out (grown4 y1 (g1 d) c ⟨n9,a9,q9,c9,false,b9,k9,d9⟩) (fun e=>HO8.out _ hgd (by injection e with e;exact e.symm)));replace HBY:=Lib.hid (HBY.out.put hgd (grown4 y1 (g1 d) c ⟨n9,a9,q9,c9,false,b9,k9,d9⟩));replace HEN:=Lib.hid (HEN.out.put4 hge c ⟨n9,a9,q9,c9,false,b9,k9,d9⟩);replace HS:=Lib.hid (HS.out.put hdm hcN HX.out);replace s0:=HB8.out.cell (i:=0) rfl;replace s1:=HB8.out.cell (i:=1) rfl;replace s2:=HB8.out.cell (i:=2) rfl;replace s3:=HB8.out.cell (i:=3) rfl
        refine hK.out _ _ ?_ (fun hHeld2=>?_)
        ·exact⟨s0,s1,s2,s3⟩
        clear hK K hHeld
        have hHeld:=hHeld2
        clear hHeld2
        (try simp only [Act.put,pus])
        refine wpAnyH_done (by kernel_rfl) ?_ _
        gi_wp2_with fail
        go_roundw
        case rel=>exact⟨c+1,by omega,by go_num,⟨_,HS.out.congr fun r hr c' hc'=>by rw [HM1.out];exact scale_step (M i) Sm (M i k) d c r c'⟩,HEN.out,HB8.out,HBY.out⟩
        case measure=>simp [intOf];omega
       exact AllReadyH.nil
      exact AllReadyH.nil
     exact AllReadyH.nil
    ·have hce:c=N:=by omega
     have HS2:=Lib.hid (hs.congr (M':=rowsX M Sm d i k 0) fun r hr c' hc'=>by
      unfold rowsX
      by_cases e:r=d
      ·rw [if_pos ⟨e,by omega⟩,if_pos e]
      ·rw [if_neg (fun h=>e h.1),if_neg e,if_neg (by omega)])
     have HEN2:=Lib.hid hen
     have s0:World.cell? wr ⟨b2,0,none⟩=some (.pointer (some ⟨p,0,none⟩)):=hen.k2.cell rfl
     have s1:World.cell? wr ⟨p,1,none⟩=some (.slice (some ⟨R,0,none⟩) m rc):=hs.box.cell rfl
     have c2':¬ (c:Int)< (N:Int):=by omega
     clear hs hen hb8 hby HB8 HBY HO8 HS HEN hce
     gi_wp2
     gi_loopw [85] (fun v wr=>∃j:Nat,j≤m∧v=.int .i64 j∧(∃V,Sys wr B p m N (some ⟨R,0,none⟩) R rc g1 cp1 V (rowsX M Sm d i k j) (.slice av d cv) ps)∧EnvC B p n b2 bs w W wr) (fun v _=>m - (intOf v).toNat)
     case atStart=>exact⟨0,Nat.zero_le _,rfl,⟨V,HS2.out⟩,HEN2.out⟩
     case round=>
      obtain⟨j,hj,rfl,⟨V,hs⟩,hen⟩:=hrel
      have j0':(0:Int)≤(j:Int):=by omega
      by_cases hjm:j<m
      ·have j1':(j:Int)< (m:Int):=by omega
       have hw1:IntKind.i64.wrap ((j:Int)+1)= (j:Int)+1:=IntWalk.i64_in _ (by omega)
       have s2:=hs.top hjm
       have hcp2:=hs.cap j hjm
       by_cases hjd:j=d
       ·have HS:=Lib.hid (hs.congr (M':=rowsX M Sm d i k (j+1)) fun r hr c' hc'=>by
         unfold rowsX
         by_cases e:r=d
         ·rw [if_pos e,if_pos e]
         ·rw [if_neg e,if_neg e]
          by_cases e2:r<j
          ·rw [if_pos e2,if_pos (by omega)]
          ·rw [if_neg e2,if_neg (by omega)])
        have HEN:=Lib.hid hen
        clear hs hen
        subst hjd
        gi_wp2
        refine⟨trivial,?_⟩
        gi_wp2
        go_roundw
        case rel=>exact⟨j+1,by omega,by go_num,⟨V,HS.out⟩,HEN.out⟩
        case measure=>simp [intOf];omega
       ·have hjd':¬ (j:Int)= (d:Int):=by omega
        have hjd2:((j:Int) == (d:Int))=false:=by simp;omega
        obtain⟨e0,e1,e2,e3⟩:=(hs.row j hjm).cells hkN
        have hby:=hs.x hjm hkN
        have hrj:rowsX M Sm d i k j j k=Sm j k:=by unfold rowsX;rw [if_neg hjd,if_neg (by omega)]
        rw [hrj] at hby
        generalize hx:V j k=x at *
        obtain⟨n2,a2,q2,c2,m2,b2',k2,d2⟩:=x
        dsimp only [RatC.val] at e0 e1 e2 e3
        have HS:=Lib.hid hs
        have HEN:=Lib.hid hen
        have HBY2:=Lib.hid hby
        have HJD:=Lib.hid hjd
        clear hs hen hby hx hjd hrj
        gi_wp2
        refine⟨trivial,(callsIn_wide.2 (matrix_is n2 m2 a2 b2' q2 c2 k2 d2 _ _ HBY2.out.val)).mono ?_⟩
        rintro e9 y0 ⟨rfl,hy⟩
        replace HS:=Lib.hid (HS.out.ext hy)
        replace HEN:=Lib.hid (HEN.out.ext hy)
        replace HBY2:=Lib.hid (HBY2.out.ext hy)
        by_cases hz:Sm j k=0
        ·rw [decide_eq_true hz]
         replace HS:=Lib.hid (HS.out.congr (M':=rowsX M Sm d i k (j+1)) fun r hr c' hc'=>by
          unfold rowsX
          by_cases e:r=d
          ·rw [if_pos e,if_pos e]
          ·rw [if_neg e,if_neg e]
           by_cases e2:r<j
           ·rw [if_pos e2,if_pos (by omega)]
           ·rw [if_neg e2]
            by_cases e3:r=j
            ·rw [if_pos (by omega),e3,hz];grind
            ·rw [if_neg (by omega)])
         clear e0 e1 e2 e3 hy hz s2
         gi_wp2
         go_roundw
         case rel=>exact⟨j+1,by omega,by go_num,⟨V,HS.out⟩,HEN.out⟩
         case measure=>simp [intOf];omega
        ·rw [decide_eq_false hz]
         replace e0:=cell_exQ hy e0
         replace e1:=cell_exQ hy e1
         replace e2:=cell_exQ hy e2
         replace e3:=cell_exQ hy e3
         clear hz hy s2
         gi_upto_region 18 with fail
         have hl:=Ext.alloc y0 (.cells #[.bool n2,.slice a2 q2 c2,.bool m2,.slice b2' k2 d2] 44)
         have hb12:=Blk.new0 y0 #[.bool n2,.slice a2 q2 c2,.bool m2,.slice b2' k2 d2] 44
         have hoff12:∀x,SysB p m R g1 x→y0.heap.size≠x:=fun x hx=>by have:=HS.out.lt x hx;omega
         replace HS:=Lib.hid (HS.out.ext hl)
         replace HEN:=Lib.hid (HEN.out.ext hl)
         replace HBY2:=Lib.hid (HBY2.out.ext hl)
         have HB12:=Lib.hid hb12
         have HO12:=Lib.hid hoff12
         clear hl hb12 hoff12 e0 e1 e2 e3
         generalize y0.alloc (.cells #[.bool n2,.slice a2 q2 c2,.bool m2,.slice b2' k2 d2] 44)=x6 at *
         generalize y0.heap.size=b12 at *
         have c2x:True:=trivial
         gi_wp2
         gi_loopw [106] (fun v wr=>∃c:Nat,c≤N∧v=.int .i64 c∧(∃V,Sys wr B p m N (some ⟨R,0,none⟩) R rc g1 cp1 V (fun r c'=>if r=j∧c'<c then Sm j c' - M i c' / M i k*Sm j k else rowsX M Sm d i k j r c') (.slice av d cv) ps)∧EnvC B p n b2 bs w W wr∧Blk wr b12 #[.bool n2,.slice a2 q2 c2,.bool m2,.slice b2' k2 d2] 44∧SysX wr p m R g1 (.slice av d cv) ⟨n2,a2,q2,c2,m2,b2',k2,d2⟩ (Sm j k)) (fun v _=>N - (intOf v).toNat)
         case atStart=>exact⟨0,Nat.zero_le _,rfl,⟨V,HS.out.congr fun r _ c _=>by rw [if_neg (by omega)]⟩,HEN.out,HB12.out,HBY2.out⟩
         case round=>
          obtain⟨c,hc,rfl,⟨V,hs⟩,hen,hb12,hby2⟩:=hrel
          have c0':(0:Int)≤(c:Int):=by omega
          by_cases hcN:c<N
          ·have c1':(c:Int)< (N:Int):=by omega
           have hw1:IntKind.i64.wrap ((c:Int)+1)= (c:Int)+1:=IntWalk.i64_in _ (by omega)
           obtain⟨e0,e1,e2,e3⟩:=(hs.row d hdm).cells hcN
           have hv1:=hs.val d hdm c hcN
           rw [show(if d=j∧c<c then Sm j c - M i c / M i k*Sm j k else rowsX M Sm d i k j d c)=M i c / M i k from by rw [if_neg (by omega)];unfold rowsX;rw [if_pos rfl]] at hv1
           have HS:=Lib.hid hs
           have HEN:=Lib.hid hen
           have HB12:=Lib.hid hb12
           have hrat:=hby2.val
           have HBY:=Lib.hid hby2
           generalize hx:V d c=x at *
           obtain⟨nx,ax,qx,cx,mx,bx,kx,dx⟩:=x
           dsimp only [RatC.val] at e0 e1 e2 e3 hv1 hrat
           have HV1:=Lib.hid hv1
           have HBY2:=Lib.hid hrat
           clear hs hen hb12 hby2 hv1 hrat hx
           gi_upto_region 21 with fail
           gi_cut [14] from 144 (fun v wx=>∃ (bp:Nat) (n3:Bool) (a3:Option Addr) (q3 c3:Nat) (b3:Option Addr) (k3 d3:Nat),v=.pointer (some ⟨bp,0,none⟩)∧Blk wx bp #[.bool n3,.slice a3 q3 c3,.bool false,.slice b3 k3 d3] 44∧RatV wx (.agg #[.bool n3,.slice a3 q3 c3,.bool false,.slice b3 k3 d3]) (M i c / M i k*Sm j k)∧Ext wr wx∧wr.heap.size≤bp)
           case first=>
            have hE:Ext wr (World.drew wr):=(Ext.refl _).drew
            have hyd:Ext wr (World.drew wr):=(Ext.refl _).drew
            replace HV1:=Lib.hid (HV1.out.ext hyd)
            replace HBY2:=Lib.hid (HBY2.out.ext hyd)
            clear hyd
            have s0:World.cell? (World.drew wr) ⟨g1 d,c*4,none⟩=some (.bool nx):=e0
            have s1:World.cell? (World.drew wr) ⟨g1 d,c*4+1,none⟩=some (.slice ax qx cx):=e1
            have s2:World.cell? (World.drew wr) ⟨g1 d,c*4+2,none⟩=some (.bool mx):=e2
            have s3:World.cell? (World.drew wr) ⟨g1 d,c*4+3,none⟩=some (.slice bx kx dx):=e3
            have s4:World.cell? (World.drew wr) ⟨b12,0,none⟩=some (.bool n2):=HB12.out.cell (i:=0) rfl
            have s5:World.cell? (World.drew wr) ⟨b12,1,none⟩=some (.slice a2 q2 c2):=HB12.out.cell (i:=1) rfl
            have s6:World.cell? (World.drew wr) ⟨b12,2,none⟩=some (.bool m2):=HB12.out.cell (i:=2) rfl
            have s7:World.cell? (World.drew wr) ⟨b12,3,none⟩=some (.slice b2' k2 d2):=HB12.out.cell (i:=3) rfl
            refine wpIn_region_held_drew (S:=(fun w'=>World.cell? w' ⟨g1 d,c*4,none⟩=some (.bool nx)∧World.cell? w' ⟨g1 d,c*4+1,none⟩=some (.slice ax qx cx)∧World.cell? w' ⟨g1 d,c*4+2,none⟩=some (.bool mx)∧World.cell? w' ⟨g1 d,c*4+3,none⟩=some (.slice bx kx dx)∧World.cell? w' ⟨b12,0,none⟩=some (.bool n2)∧World.cell? w' ⟨b12,1,none⟩=some (.slice a2 q2 c2)∧World.cell? w' ⟨b12,2,none⟩=some (.bool m2)∧World.cell? w' ⟨b12,3,none⟩=some (.slice b2' k2 d2))) (by kernel_rfl) (by kernel_rfl) (by rintro⟨_,_,h⟩;exact h) ?_ (fun hHeld=>?_)
            ·exact⟨s0,s1,s2,s3,s4,s5,s6,s7⟩
            (try simp only [pur,Nat.reduceAdd])
            generalize World.drew wr=x501 at *
            refine tk (v:=?_) 0 rfl (by kernel_rfl) (fun _ _ _ h=>h) (by rfl) ?_ (by assumption) ?_
            rotate_left
            ·(intro w hSw;(try dsimp only at hSw);(try go_simp);(try with_reducible rfl))
            (try simp only [Act.put,pus])
            refine tk (v:=?_) 1 rfl (by kernel_rfl) (fun _ _ _ h=>h) (by rfl) ?_ (by assumption) ?_
            rotate_left
            ·(intro w hSw;(try dsimp only at hSw);(try go_simp);(try with_reducible rfl))
            (try simp only [Act.put,pus])
            refine tk (v:=?_) 2 rfl (by kernel_rfl) (fun _ _ _ h=>h) (by rfl) ?_ (by assumption) ?_
            rotate_left
            ·(intro w hSw;(try dsimp only at hSw);(try go_simp);(try with_reducible rfl))
            (try simp only [Act.put,pus])
            refine tk (v:=?_) 3 rfl (by kernel_rfl) (fun _ _ _ h=>h) (by rfl) ?_ (by assumption) ?_
            rotate_left
            ·(intro w hSw;(try dsimp only at hSw);(try go_simp);(try with_reducible rfl))
            (try simp only [Act.put,pus])
            refine tk (v:=?_) 4 rfl (by kernel_rfl) (fun _ _ _ h=>h) (by rfl) ?_ (by assumption) ?_
            rotate_left
            ·(intro w hSw;(try dsimp only at hSw);(try go_simp);(try with_reducible rfl))
            (try simp only [Act.put,pus])
            refine wpAnyH_ready (rs:=[5,9]) (by kernel_rfl) (by simp) ?_
            refine AllReadyH.cons (o:=_) rfl (fun K hK=>?_) ?_
            ·go_simp
             (with_reducible refine(ratio_Mul HV1.out HBY2.out (HZQ.out c hcN) (HZ1.out j k hjm hkN) (by omega)).mono ?_);rintro e x502 ⟨v9,rfl,hv,hy⟩;replace hE:=hE.trans hy;replace s0:=cell_exQ hy s0;replace s1:=cell_exQ hy s1;replace s2:=cell_exQ hy s2;replace s3:=cell_exQ hy s3;replace s4:=cell_exQ hy s4;replace s5:=cell_exQ hy s5;replace s6:=cell_exQ hy s6;replace s7:=cell_exQ hy s7;replace HV1:=Lib.hid (HV1.out.ext hy);replace HBY2:=Lib.hid (HBY2.out.ext hy);clear hy;obtain⟨n3,a3,q3,c3,b3,k3,d3,rfl,hv',hf',hg'⟩:=hv;have Vp:=Lib.hid hv';clear hv' hf' hg'
             refine hK.out _ _ ?_ (fun hHeld2=>?_)
             ·exact⟨s0,s1,s2,s3,s4,s5,s6,s7⟩
             clear hK K hHeld
             have hHeld:=hHeld2
             clear hHeld2
             (try simp only [Act.put,pus])
             refine tk (v:=?_) 6 rfl (by kernel_rfl) (fun _ _ _ h=>h) (by rfl) ?_ (by assumption) ?_
             rotate_left
             ·(intro w hSw;(try dsimp only at hSw);(try go_simp);(try with_reducible rfl))
             (try simp only [Act.put,pus])
             refine tk (v:=?_) 7 rfl (by kernel_rfl) (fun _ _ _ h=>h) (by rfl) ?_ (by assumption) ?_
             rotate_left
             ·(intro w hSw;(try dsimp only at hSw);(try go_simp);(try with_reducible rfl))
             (try simp only [Act.put,pus])
             refine tk (v:=?_) 8 rfl (by kernel_rfl) (fun _ _ _ h=>h) (by rfl) ?_ (by assumption) ?_
             rotate_left
             ·(intro w hSw;(try dsimp only at hSw);(try go_simp);(try with_reducible rfl))
             (try simp only [Act.put,pus])
             refine wpAnyH_ready (rs:=[9]) (by kernel_rfl) (by simp) ?_
             refine AllReadyH.cons (o:=_) rfl (fun K hK=>?_) ?_
             ·go_simp
              have hy:Ext x502 (World.alloc x502 (.cells #[.bool false,.slice none 0 0,.bool false,.slice none 0 0] 44)):=Ext.alloc _ _;have hpz:=hE.size;have hqp:=hE.size;replace hE:=hE.trans hy;have mp0:=lt_of_cell s0;replace s0:=cell_exQ hy s0;replace s1:=cell_exQ hy s1;replace s2:=cell_exQ hy s2;replace s3:=cell_exQ hy s3;have mp4:=lt_of_cell s4;replace s4:=cell_exQ hy s4;replace s5:=cell_exQ hy s5;replace s6:=cell_exQ hy s6;replace s7:=cell_exQ hy s7;replace HV1:=Lib.hid (HV1.out.ext hy);replace HBY2:=Lib.hid (HBY2.out.ext hy);replace Vp:=Lib.hid (Vp.out.ext hy);have Kp:=Lib.hid (Blk.new0 x502 #[.bool false,.slice none 0 0,.bool false,.slice none 0 0] 44);clear hy;generalize World.alloc x502 (.cells #[.bool false,.slice none 0 0,.bool false,.slice none 0 0] 44)=x503 at *;generalize Array.size (World.heap x502)=pp at *
              refine hK.out _ _ ?_ (fun hHeld2=>?_)
              ·exact⟨s0,s1,s2,s3,s4,s5,s6,s7⟩
              clear hK K hHeld
              have hHeld:=hHeld2
              clear hHeld2
              (try simp only [Act.put,pus])
              refine wpAnyH_ready (rs:=[10]) (by kernel_rfl) (by simp) ?_
              refine AllReadyH.cons (o:=_) rfl (fun K hK=>?_) ?_
              ·obtain⟨g0,z0,g1,z1,g2,z2,g3,z3⟩:=bp4 Kp (.bool n3) (.slice a3 q3 c3) (.bool false) (.slice b3 k3 d3);go_simp;clear g0 z0 g1 z1 g2 z2 g3 z3;replace HV1:=(by first | exact rv4 HV1 Kp (.bool n3) (.slice a3 q3 c3) (.bool false) (.slice b3 k3 d3) rfl rfl rfl rfl | exact bv4 HV1 Kp (.bool n3) (.slice a3 q3 c3) (.bool false) (.slice b3 k3 d3) rfl rfl rfl rfl);replace HBY2:=(by first | exact rv4 HBY2 Kp (.bool n3) (.slice a3 q3 c3) (.bool false) (.slice b3 k3 d3) rfl rfl rfl rfl | exact bv4 HBY2 Kp (.bool n3) (.slice a3 q3 c3) (.bool false) (.slice b3 k3 d3) rfl rfl rfl rfl);replace Vp:=(by first | exact rv4 Vp Kp (.bool n3) (.slice a3 q3 c3) (.bool false) (.slice b3 k3 d3) rfl rfl rfl rfl | exact bv4 Vp Kp (.bool n3) (.slice a3 q3 c3) (.bool false) (.slice b3 k3 d3) rfl rfl rfl rfl);replace hE:=bx4 hE (pp) (.bool n3) (.slice a3 q3 c3) (.bool false) (.slice b3 k3 d3) (by omega);replace s0:=bf4 s0 (pp) (.bool n3) (.slice a3 q3 c3) (.bool false) (.slice b3 k3 d3) (by omega);replace s1:=bf4 s1 (pp) (.bool n3) (.slice a3 q3 c3) (.bool false) (.slice b3 k3 d3) (by omega);replace s2:=bf4 s2 (pp) (.bool n3) (.slice a3 q3 c3) (.bool false) (.slice b3 k3 d3) (by omega);replace s3:=bf4 s3 (pp) (.bool n3) (.slice a3 q3 c3) (.bool false) (.slice b3 k3 d3) (by omega);replace s4:=bf4 s4 (pp) (.bool n3) (.slice a3 q3 c3) (.bool false) (.slice b3 k3 d3) (by omega);replace s5:=bf4 s5 (pp) (.bool n3) (.slice a3 q3 c3) (.bool false) (.slice b3 k3 d3) (by omega);replace s6:=bf4 s6 (pp) (.bool n3) (.slice a3 q3 c3) (.bool false) (.slice b3 k3 d3) (by omega);replace s7:=bf4 s7 (pp) (.bool n3) (.slice a3 q3 c3) (.bool false) (.slice b3 k3 d3) (by omega);replace Kp:=bs4 Kp (.bool n3) (.slice a3 q3 c3) (.bool false) (.slice b3 k3 d3);generalize (World.setCell (World.setCell (World.setCell (World.setCell x503 ⟨pp,0,none⟩ (.bool n3)) ⟨pp,1,none⟩ (.slice a3 q3 c3)) ⟨pp,2,none⟩ (.bool false)) ⟨pp,3,none⟩ (.slice b3 k3 d3))=xe at *
               refine hK.out _ _ ?_ (fun hHeld2=>?_)
               ·exact⟨s0,s1,s2,s3,s4,s5,s6,s7⟩
               clear hK K hHeld
               have hHeld:=hHeld2
               clear hHeld2
               (try simp only [Act.put,pus])
               refine tk (v:=?_) 11 rfl (by kernel_rfl) (fun _ _ _ h=>h) (by rfl) ?_ (by assumption) ?_
               rotate_left
               ·(intro w hSw;(try dsimp only at hSw);(try go_simp);(try with_reducible rfl))
               (try simp only [Act.put,pus])
               refine wpAnyH_done (by kernel_rfl) ?_ _
               (gi_wp2_with fail;gi_meet;exact⟨_,n3,a3,q3,c3,b3,k3,d3,rfl,Kp.out,Vp.out,hE,hpz⟩)
              exact AllReadyH.nil
             exact AllReadyH.nil
            refine AllReadyH.cons (o:=_) rfl (fun K hK=>?_) ?_
            ·go_simp
             have hy:Ext x501 (World.alloc x501 (.cells #[.bool false,.slice none 0 0,.bool false,.slice none 0 0] 44)):=Ext.alloc _ _;have hpz:=hE.size;have hqp:=hE.size;replace hE:=hE.trans hy;have mp0:=lt_of_cell s0;replace s0:=cell_exQ hy s0;replace s1:=cell_exQ hy s1;replace s2:=cell_exQ hy s2;replace s3:=cell_exQ hy s3;have mp4:=lt_of_cell s4;replace s4:=cell_exQ hy s4;replace s5:=cell_exQ hy s5;replace s6:=cell_exQ hy s6;replace s7:=cell_exQ hy s7;replace HV1:=Lib.hid (HV1.out.ext hy);replace HBY2:=Lib.hid (HBY2.out.ext hy);have Kp:=Lib.hid (Blk.new0 x501 #[.bool false,.slice none 0 0,.bool false,.slice none 0 0] 44);clear hy;generalize World.alloc x501 (.cells #[.bool false,.slice none 0 0,.bool false,.slice none 0 0] 44)=x504 at *;generalize Array.size (World.heap x501)=pp at *
             refine hK.out _ _ ?_ (fun hHeld2=>?_)
             ·exact⟨s0,s1,s2,s3,s4,s5,s6,s7⟩
             clear hK K hHeld
             have hHeld:=hHeld2
             clear hHeld2
             (try simp only [Act.put,pus])
             refine wpAnyH_ready (rs:=[5]) (by kernel_rfl) (by simp) ?_
             refine AllReadyH.cons (o:=_) rfl (fun K hK=>?_) ?_
             ·go_simp
              (with_reducible refine(ratio_Mul HV1.out HBY2.out (HZQ.out c hcN) (HZ1.out j k hjm hkN) (by omega)).mono ?_);rintro e x505 ⟨v9,rfl,hv,hy⟩;replace hE:=hE.trans hy;replace s0:=cell_exQ hy s0;replace s1:=cell_exQ hy s1;replace s2:=cell_exQ hy s2;replace s3:=cell_exQ hy s3;replace s4:=cell_exQ hy s4;replace s5:=cell_exQ hy s5;replace s6:=cell_exQ hy s6;replace s7:=cell_exQ hy s7;replace Kp:=kE Kp hy;replace HV1:=Lib.hid (HV1.out.ext hy);replace HBY2:=Lib.hid (HBY2.out.ext hy);clear hy;obtain⟨n3,a3,q3,c3,b3,k3,d3,rfl,hv',hf',hg'⟩:=hv;have Vp:=Lib.hid hv';clear hv' hf' hg'
              refine hK.out _ _ ?_ (fun hHeld2=>?_)
              ·exact⟨s0,s1,s2,s3,s4,s5,s6,s7⟩
              clear hK K hHeld
              have hHeld:=hHeld2
              clear hHeld2
              (try simp only [Act.put,pus])
              refine tk (v:=?_) 6 rfl (by kernel_rfl) (fun _ _ _ h=>h) (by rfl) ?_ (by assumption) ?_
              rotate_left
              ·(intro w hSw;(try dsimp only at hSw);(try go_simp);(try with_reducible rfl))
              (try simp only [Act.put,pus])
              refine tk (v:=?_) 7 rfl (by kernel_rfl) (fun _ _ _ h=>h) (by rfl) ?_ (by assumption) ?_
              rotate_left
              ·(intro w hSw;(try dsimp only at hSw);(try go_simp);(try with_reducible rfl))
              (try simp only [Act.put,pus])
              refine tk (v:=?_) 8 rfl (by kernel_rfl) (fun _ _ _ h=>h) (by rfl) ?_ (by assumption) ?_
              rotate_left
              ·(intro w hSw;(try dsimp only at hSw);(try go_simp);(try with_reducible rfl))
              (try simp only [Act.put,pus])
              refine wpAnyH_ready (rs:=[10]) (by kernel_rfl) (by simp) ?_
              refine AllReadyH.cons (o:=_) rfl (fun K hK=>?_) ?_
              ·obtain⟨g0,z0,g1,z1,g2,z2,g3,z3⟩:=bp4 Kp (.bool n3) (.slice a3 q3 c3) (.bool false) (.slice b3 k3 d3);go_simp;clear g0 z0 g1 z1 g2 z2 g3 z3;replace HV1:=(by first | exact rv4 HV1 Kp (.bool n3) (.slice a3 q3 c3) (.bool false) (.slice b3 k3 d3) rfl rfl rfl rfl | exact bv4 HV1 Kp (.bool n3) (.slice a3 q3 c3) (.bool false) (.slice b3 k3 d3) rfl rfl rfl rfl);replace HBY2:=(by first | exact rv4 HBY2 Kp (.bool n3) (.slice a3 q3 c3) (.bool false) (.slice b3 k3 d3) rfl rfl rfl rfl | exact bv4 HBY2 Kp (.bool n3) (.slice a3 q3 c3) (.bool false) (.slice b3 k3 d3) rfl rfl rfl rfl);replace Vp:=(by first | exact rv4 Vp Kp (.bool n3) (.slice a3 q3 c3) (.bool false) (.slice b3 k3 d3) rfl rfl rfl rfl | exact bv4 Vp Kp (.bool n3) (.slice a3 q3 c3) (.bool false) (.slice b3 k3 d3) rfl rfl rfl rfl);replace hE:=bx4 hE (pp) (.bool n3) (.slice a3 q3 c3) (.bool false) (.slice b3 k3 d3) (by omega);replace s0:=bf4 s0 (pp) (.bool n3) (.slice a3 q3 c3) (.bool false) (.slice b3 k3 d3) (by omega);replace s1:=bf4 s1 (pp) (.bool n3) (.slice a3 q3 c3) (.bool false) (.slice b3 k3 d3) (by omega);replace s2:=bf4 s2 (pp) (.bool n3) (.slice a3 q3 c3) (.bool false) (.slice b3 k3 d3) (by omega);replace s3:=bf4 s3 (pp) (.bool n3) (.slice a3 q3 c3) (.bool false) (.slice b3 k3 d3) (by omega);replace s4:=bf4 s4 (pp) (.bool n3) (.slice a3 q3 c3) (.bool false) (.slice b3 k3 d3) (by omega);replace s5:=bf4 s5 (pp) (.bool n3) (.slice a3 q3 c3) (.bool false) (.slice b3 k3 d3) (by omega);replace s6:=bf4 s6 (pp) (.bool n3) (.slice a3 q3 c3) (.bool false) (.slice b3 k3 d3) (by omega);replace s7:=bf4 s7 (pp) (.bool n3) (.slice a3 q3 c3) (.bool false) (.slice b3 k3 d3) (by omega);replace Kp:=bs4 Kp (.bool n3) (.slice a3 q3 c3) (.bool false) (.slice b3 k3 d3);generalize (World.setCell (World.setCell (World.setCell (World.setCell x505 ⟨pp,0,none⟩ (.bool n3)) ⟨pp,1,none⟩ (.slice a3 q3 c3)) ⟨pp,2,none⟩ (.bool false)) ⟨pp,3,none⟩ (.slice b3 k3 d3))=xe at *
               refine hK.out _ _ ?_ (fun hHeld2=>?_)
               ·exact⟨s0,s1,s2,s3,s4,s5,s6,s7⟩
               clear hK K hHeld
               have hHeld:=hHeld2
               clear hHeld2
               (try simp only [Act.put,pus])
               refine tk (v:=?_) 11 rfl (by kernel_rfl) (fun _ _ _ h=>h) (by rfl) ?_ (by assumption) ?_
               rotate_left
               ·(intro w hSw;(try dsimp only at hSw);(try go_simp);(try with_reducible rfl))
               (try simp only [Act.put,pus])
               refine wpAnyH_done (by kernel_rfl) ?_ _
               (gi_wp2_with fail;gi_meet;exact⟨_,n3,a3,q3,c3,b3,k3,d3,rfl,Kp.out,Vp.out,hE,hpz⟩)
              exact AllReadyH.nil
             exact AllReadyH.nil
            exact AllReadyH.nil
           case rest=>
            obtain⟨bp,n3,a3,q3,c3,b3,k3,d3,rfl,hkp,hvp,hy,hbp⟩:=hcut
            have HOp:Hid (∀x,SysB p m R g1 x→bp≠x):=Lib.hid fun x hx=>by have:=HS.out.lt x hx;omega
            replace HS:=Lib.hid (HS.out.ext hy)
            replace HEN:=Lib.hid (HEN.out.ext hy)
            replace HB12:=Lib.hid (HB12.out.ext hy)
            replace HBY2:=Lib.hid (HBY.out.ext hy)
            have Kp:=Lib.hid hkp
            have Vp:=Lib.hid hvp
            clear e0 e1 e2 e3 HV1 HBY hkp hvp hy hbp
            gi_upto_region 22 with fail
            have hyd:Ext wc (World.drew wc):=(Ext.refl _).drew
            replace HS:=Lib.hid (HS.out.ext hyd)
            replace HEN:=Lib.hid (HEN.out.ext hyd)
            replace HB12:=Lib.hid (HB12.out.ext hyd)
            replace HBY2:=Lib.hid (HBY2.out.ext hyd)
            replace Kp:=Lib.hid (Kp.out.ext hyd)
            replace Vp:=Lib.hid (Vp.out.ext hyd)
            have s0:World.cell? (World.drew wc) ⟨bp,0,none⟩=some (.bool n3):=Kp.out.cell rfl
            have s1:World.cell? (World.drew wc) ⟨bp,1,none⟩=some (.slice a3 q3 c3):=Kp.out.cell rfl
            have s2:World.cell? (World.drew wc) ⟨bp,2,none⟩=some (.bool false):=Kp.out.cell rfl
            have s3:World.cell? (World.drew wc) ⟨bp,3,none⟩=some (.slice b3 k3 d3):=Kp.out.cell rfl
            obtain⟨e0,e1,e2,e3⟩:=(HS.out.row j hjm).cells hcN
            have hv:=HS.out.val j hjm c hcN
            rw [show(if j=j∧c<c then Sm j c - M i c / M i k*Sm j k else rowsX M Sm d i k j j c)=Sm j c from by rw [if_neg (by omega)];unfold rowsX;rw [if_neg HJD.out,if_neg (by omega)]] at hv
            have hgd:SysB p m R g1 (g1 j):=.inr (.inr ⟨j,hjm,rfl⟩)
            have hge:=HEN.out.off HS.out hgd
            generalize hx:V j c=x at *
            obtain⟨nx,ax,qx,cx,mx,bx,kx,dx⟩:=x
            dsimp only [RatC.val] at e0 e1 e2 e3 hv
            have HV:=Lib.hid hv
            clear hyd hx hv
            refine wpIn_region_held_drew (S:=(fun w'=>World.cell? w' ⟨bp,0,none⟩=some (.bool n3)∧World.cell? w' ⟨bp,1,none⟩=some (.slice a3 q3 c3)∧World.cell? w' ⟨bp,2,none⟩=some (.bool false)∧World.cell? w' ⟨bp,3,none⟩=some (.slice b3 k3 d3))) (by kernel_rfl) (by kernel_rfl) (by rintro⟨_,_,h⟩;exact h) ?_ (fun hHeld=>?_)
            ·exact⟨s0,s1,s2,s3⟩
            (try simp only [pur,Nat.reduceAdd])
            generalize World.drew wc=x5 at *
            refine tk (v:=?_) 0 rfl (by kernel_rfl) (fun _ _ _ h=>h) (by rfl) ?_ (by assumption) ?_
            rotate_left
            ·(intro w hSw;(try dsimp only at hSw);(try go_simp);(try with_reducible rfl))
            (try simp only [Act.put,pus])
            refine tk (v:=?_) 1 rfl (by kernel_rfl) (fun _ _ _ h=>h) (by rfl) ?_ (by assumption) ?_
            rotate_left
            ·(intro w hSw;(try dsimp only at hSw);(try go_simp);(try with_reducible rfl))
            (try simp only [Act.put,pus])
            refine tk (v:=?_) 2 rfl (by kernel_rfl) (fun _ _ _ h=>h) (by rfl) ?_ (by assumption) ?_
            rotate_left
            ·(intro w hSw;(try dsimp only at hSw);(try go_simp);(try with_reducible rfl))
            (try simp only [Act.put,pus])
            refine tk (v:=?_) 3 rfl (by kernel_rfl) (fun _ _ _ h=>h) (by rfl) ?_ (by assumption) ?_
            rotate_left
            ·(intro w hSw;(try dsimp only at hSw);(try go_simp);(try with_reducible rfl))
            (try simp only [Act.put,pus])
            refine tk (v:=?_) 4 rfl (by kernel_rfl) (fun _ _ _ h=>h) (by rfl) ?_ (by assumption) ?_
            rotate_left
            ·(intro w hSw;(try dsimp only at hSw);(try go_simp);(try with_reducible rfl))
            (try simp only [Act.put,pus])
            refine tk (v:=?_) 6 rfl (by kernel_rfl) (fun _ _ _ h=>h) (by rfl) ?_ (by assumption) ?_
            rotate_left
            ·(intro w hSw;(try dsimp only at hSw);(try go_simp);(try with_reducible rfl))
            (try simp only [Act.put,pus])
            refine wpAnyH_ready (rs:=[5]) (by kernel_rfl) (by simp) ?_
            refine AllReadyH.cons (o:=_) rfl (fun K hK=>?_) ?_
            ·go_simp
             refine hK.out _ _ ?_ (fun hHeld2=>?_)
             ·exact⟨s0,s1,s2,s3⟩
             clear hK K hHeld
             have hHeld:=hHeld2
             clear hHeld2
             (try simp only [Act.put,pus])
             refine wpAnyH_ready (rs:=[7]) (by kernel_rfl) (by simp) ?_
             refine AllReadyH.cons (o:=_) rfl (fun K hK=>?_) ?_
             ·go_simp
              (with_reducible refine(ratio_Sub HV.out Vp.out (HZ1.out j c hjm hcN) ((HZQ.out c hcN).mul (HZ1.out j k hjm hkN)) (by omega)).mono ?_);rintro e9 y1 ⟨v9,rfl,hv,hy⟩;obtain⟨n9,a9,q9,c9,b9,k9,d9,rfl,hv',hf',hg'⟩:=hv;have HX:=Lib.hid (HS.out.fresh (x:=⟨n9,a9,q9,c9,false,b9,k9,d9⟩) hv' hy ⟨fun _=>hf',fun _=>hg'⟩);replace HS:=Lib.hid (HS.out.ext hy);replace HEN:=Lib.hid (HEN.out.ext hy);replace HB12:=Lib.hid (HB12.out.ext hy);replace HBY2:=Lib.hid (HBY2.out.ext hy);replace Kp:=Lib.hid (Kp.out.ext hy);replace s0:=cell_exQ hy s0;replace s1:=cell_exQ hy s1;replace s2:=cell_exQ hy s2;replace s3:=cell_exQ hy s3;clear hy hv' hf' hg' e0 e1 e2 e3 HV
              refine hK.out _ _ ?_ (fun hHeld2=>?_)
              ·exact⟨s0,s1,s2,s3⟩
              clear hK K hHeld
              have hHeld:=hHeld2
              clear hHeld2
              (try simp only [Act.put,pus])
              refine tk (v:=?_) 8 rfl (by kernel_rfl) (fun _ _ _ h=>h) (by rfl) ?_ (by assumption) ?_
              rotate_left
              ·(intro w hSw;(try dsimp only at hSw);(try go_simp);(try with_reducible rfl))
              (try simp only [Act.put,pus])
              refine tk (v:=?_) 9 rfl (by kernel_rfl) (fun _ _ _ h=>h) (by rfl) ?_ (by assumption) ?_
              rotate_left
              ·(intro w hSw;(try dsimp only at hSw);(try go_simp);(try with_reducible rfl))
              (try simp only [Act.put,pus])
              refine tk (v:=?_) 10 rfl (by kernel_rfl) (fun _ _ _ h=>h) (by rfl) ?_ (by assumption) ?_
              rotate_left
              ·(intro w hSw;(try dsimp only at hSw);(try go_simp);(try with_reducible rfl))
              (try simp only [Act.put,pus])
              refine tk (v:=?_) 11 rfl (by kernel_rfl) (fun _ _ _ h=>h) (by rfl) ?_ (by assumption) ?_
              rotate_left
              ·(intro w hSw;(try dsimp only at hSw);(try go_simp);(try with_reducible rfl))
              (try simp only [Act.put,pus])
              refine wpAnyH_ready (rs:=[12]) (by kernel_rfl) (by simp) ?_
              refine AllReadyH.cons (o:=_) rfl (fun K hK=>?_) ?_
              ·obtain⟨PP,_⟩:=(HS.out.row j hjm).put hcN ⟨n9,a9,q9,c9,false,b9,k9,d9⟩;obtain⟨p0,p1,p2,p3,⟨_,p4⟩,⟨_,p5⟩,⟨_,p6⟩,⟨_,p7⟩⟩:=PP;dsimp only at p0 p1 p2 p3 p4 p5 p6 p7;go_simp;clear p0 p1 p2 p3 p4 p5 p6 p7;replace HB12:=Lib.hid (blkGrown HB12.out (grown4 y1 (g1 j) c ⟨n9,a9,q9,c9,false,b9,k9,d9⟩) (fun e=>HO12.out _ hgd (by injection e with e;exact e.symm)));replace Kp:=Lib.hid (blkGrown Kp.out (grown4 y1 (g1 j) c ⟨n9,a9,q9,c9,false,b9,k9,d9⟩) (fun e=>HOp.out _ hgd (by injection e with e;exact e.symm)));replace HBY2:=Lib.hid (HBY2.out.put hgd (grown4 y1 (g1 j) c ⟨n9,a9,q9,c9,false,b9,k9,d9⟩));replace HEN:=Lib.hid (HEN.out.put4 hge c ⟨n9,a9,q9,c9,false,b9,k9,d9⟩);replace HS:=Lib.hid (HS.out.put hjm hcN HX.out);replace s0:=Kp.out.cell (i:=0) rfl;replace s1:=Kp.out.cell (i:=1) rfl;replace s2:=Kp.out.cell (i:=2) rfl;replace s3:=Kp.out.cell (i:=3) rfl
               refine hK.out _ _ ?_ (fun hHeld2=>?_)
               ·exact⟨s0,s1,s2,s3⟩
               clear hK K hHeld
               have hHeld:=hHeld2
               clear hHeld2
               (try simp only [Act.put,pus])
               refine wpAnyH_done (by kernel_rfl) ?_ _
               gi_wp2_with fail
               go_roundw
               case rel=>exact⟨c+1,by omega,by go_num,⟨_,HS.out.congr fun r hr c' hc'=>elim_step Sm (rowsX M Sm d i k j) (fun c=>M i c / M i k) (Sm j k) j c r c'⟩,HEN.out,HB12.out,HBY2.out⟩
               case measure=>simp [intOf];omega
              exact AllReadyH.nil
             exact AllReadyH.nil
            exact AllReadyH.nil
          ·have c1':¬ (c:Int)< (N:Int):=by omega
           have HS:=Lib.hid (hs.congr (M':=rowsX M Sm d i k (j+1)) fun r hr c' hc'=>by
            unfold rowsX
            by_cases e3:r=j
            ·rw [if_pos ⟨e3,by omega⟩,if_neg (by rw [e3];exact HJD.out),if_pos (by omega),e3]
            ·rw [if_neg (fun h=>e3 h.1)]
             by_cases e:r=d
             ·rw [if_pos e,if_pos e]
             ·rw [if_neg e,if_neg e]
              by_cases e2:r<j
              ·rw [if_pos e2,if_pos (by omega)]
              ·rw [if_neg e2,if_neg (by omega)])
           have HEN:=Lib.hid hen
           clear hs hen hb12 hby2
           gi_wp2
           exact⟨⟨j+1,by omega,by go_num,⟨V,HS.out⟩,HEN.out⟩,by simp [intOf];omega⟩
      ·have j1':¬ (j:Int)< (m:Int):=by omega
       have HS:=Lib.hid (hs.congr (M':=stepX M d i k) fun r hr c' hc'=>by
        rw [HSX.out]
        unfold rowsX
        by_cases e:r=d
        ·rw [if_pos e];exact(if_pos e).symm
        ·rw [if_neg e,if_pos (by omega)];exact(if_neg e).symm)
       have HEN:=Lib.hid hen
       clear hs hen HS2 HEN2 s0 s1
       gi_upto_region 25 with fail
       have hyd:Ext wr (World.drew wr):=(Ext.refl _).drew
       replace HS:=Lib.hid (HS.out.ext hyd)
       replace HEN:=Lib.hid (HEN.out.ext hyd)
       have hpB:=HEN.out.off HS.out (b:=p) (.inl rfl)
       have s0:World.cell? (World.drew wr) ⟨b2,0,none⟩=some (.pointer (some ⟨p,0,none⟩)):=HEN.out.k2.cell rfl
       have t0:World.cell? (World.drew wr) ⟨p,0,none⟩=some (.slice av d cv):=HS.out.box.cell rfl
       clear hyd
       refine wpIn_region_held_drew (S:=(fun w'=>World.cell? w' ⟨b2,0,none⟩=some (.pointer (some ⟨p,0,none⟩)))) (by kernel_rfl) (by kernel_rfl) (by rintro⟨_,_,h⟩;exact h) ?_ (fun hHeld=>?_)
       ·exact s0
       (try simp only [pur,Nat.reduceAdd])
       generalize World.drew wr=x8 at *
       refine tk (v:=?_) 0 rfl (by kernel_rfl) (fun _ _ _ h=>h) (by rfl) ?_ (by assumption) ?_
       rotate_left
       ·(intro w hSw;(try dsimp only at hSw);(try go_simp);(try with_reducible rfl))
       (try simp only [Act.put,pus])
       refine tk (v:=?_) 1 rfl (by kernel_rfl) (fun _ _ _ h=>h) (by rfl) ?_ (by assumption) ?_
       rotate_left
       ·(intro w hSw;(try dsimp only at hSw);(try go_simp);(try with_reducible rfl))
       (try simp only [Act.put,pus])
       refine tk (v:=?_) 2 rfl (by kernel_rfl) (fun _ _ _ h=>h) (by rfl) ?_ (by assumption) ?_
       rotate_left
       ·(intro w hSw;(try dsimp only at hSw);(try go_simp);(try with_reducible rfl))
       (try simp only [Act.put,pus])
       refine tk (v:=?_) 3 rfl (by kernel_rfl) (fun _ _ _ h=>h) (by rfl) ?_ (by assumption) ?_
       rotate_left
       ·(intro w hSw;(try dsimp only at hSw);(try go_simp);(try with_reducible rfl))
       (try simp only [Act.put,pus])
       refine tk (v:=?_) 4 rfl (by kernel_rfl) (fun _ _ _ h=>h) (by rfl) ?_ (by assumption) ?_
       rotate_left
       ·(intro w hSw;(try dsimp only at hSw);(try go_simp);(try with_reducible rfl))
       (try simp only [Act.put,pus])
       refine tk (v:=?_) 6 rfl (by kernel_rfl) (fun _ _ _ h=>h) (by rfl) ?_ (by assumption) ?_
       rotate_left
       ·(intro w hSw;(try dsimp only at hSw);(try go_simp);(try with_reducible rfl))
       (try simp only [Act.put,pus])
       refine wpAnyH_ready (rs:=[5,7]) (by kernel_rfl) (by simp) ?_
       refine AllReadyH.cons (o:=_) rfl (fun K hK=>?_) ?_
       ·go_simp
        refine hK.out _ _ ?_ (fun hHeld2=>?_)
        ·exact s0
        clear hK K hHeld
        have hHeld:=hHeld2
        clear hHeld2
        (try simp only [Act.put,pus])
        refine wpAnyH_ready (rs:=[7]) (by kernel_rfl) (by simp) ?_
        refine AllReadyH.cons (o:=_) rfl (fun K hK=>?_) ?_
        ·go_simp
         have hy:=Ext.alloc x8 (.cells #[.int .i64 k] 3);replace HS:=Lib.hid (HS.out.ext hy);replace HEN:=Lib.hid (HEN.out.ext hy);replace s0:=cell_exQ hy s0;replace t0:=cell_exQ hy t0;have Kk:=Lib.hid (Blk.new0 x8 #[.int .i64 k] 3);clear hy;generalize World.alloc x8 (.cells #[.int .i64 k] 3)=x9 at *;generalize Array.size (World.heap x8)=bk at *
         refine hK.out _ _ ?_ (fun hHeld2=>?_)
         ·exact s0
         clear hK K hHeld
         have hHeld:=hHeld2
         clear hHeld2
         (try simp only [Act.put,pus])
         refine wpAnyH_ready (rs:=[8]) (by kernel_rfl) (by simp) ?_
         refine AllReadyH.cons (o:=_) rfl (fun K hK=>?_) ?_
         ·refine step_append_int rfl (.tmp 137) (.tmp 139) rfl HEN.out.lo rfl HS.out.atl rfl Kk.out (by have:=HD.out;omega) ?_;intro va' y9 ho hg hat;obtain⟨a9,c9,rfl⟩:=at_form ho;have HE9:=Lib.hid (HEN.out.at HS.out.atl HNA.out hg);have hp9:=blkGrown HS.out.box hg (rowNe HS.out.atl HS.out.box (by decide));have HP9:=Lib.hid hp9;replace s0:World.cell? y9 ⟨b2,0,none⟩=some (.pointer (some ⟨p,0,none⟩)):=HE9.out.k2.cell rfl;have HSF:=Lib.hid (HS.out.push ho hg hat);have HNA2:Hid ((Value.slice a9 (ps.length+1) c9).ownBlock≠some (bs+1)):=Lib.hid (fun e=>by rcases hat with h | h;exact HNA.out (h.symm.trans e);rw [h] at e;have:=HEN.out.kn.lt;injection e with e;omega);clear ho hg hat hp9 t0 HS HEN Kk HNA
          refine hK.out _ _ ?_ (fun hHeld2=>?_)
          ·exact s0
          clear hK K hHeld
          have hHeld:=hHeld2
          clear hHeld2
          (try simp only [Act.put,pus])
          refine tk (v:=?_) 9 rfl (by kernel_rfl) (fun _ _ _ h=>h) (by rfl) ?_ (by assumption) ?_
          rotate_left
          ·(intro w hSw;(try dsimp only at hSw);(try go_simp);(try with_reducible rfl))
          (try simp only [Act.put,pus])
          refine tk (v:=?_) 10 rfl (by kernel_rfl) (fun _ _ _ h=>h) (by rfl) ?_ (by assumption) ?_
          rotate_left
          ·(intro w hSw;(try dsimp only at hSw);(try go_simp);(try with_reducible rfl))
          (try simp only [Act.put,pus])
          refine tk (v:=?_) 11 rfl (by kernel_rfl) (fun _ _ _ h=>h) (by rfl) ?_ (by assumption) ?_
          rotate_left
          ·(intro w hSw;(try dsimp only at hSw);(try go_simp);(try with_reducible rfl))
          (try simp only [Act.put,pus])
          refine wpAnyH_ready (rs:=[12]) (by kernel_rfl) (by simp) ?_
          refine AllReadyH.cons (o:=_) rfl (fun K hK=>?_) ?_
          ·have p0:=HP9.out.cell (i:=0) rfl;have p1:=HP9.out.free 0;go_simp;clear p0 p1;replace HE9:=Lib.hid (HE9.out.set hpB.1 hpB.2.1 hpB.2.2.1 hpB.2.2.2 0 (.slice a9 (ps.length+1) c9));replace s0:=HE9.out.k2.cell (i:=0) rfl
           refine hK.out _ _ ?_ (fun hHeld2=>?_)
           ·exact s0
           clear hK K hHeld
           have hHeld:=hHeld2
           clear hHeld2
           (try simp only [Act.put,pus])
           refine wpAnyH_done (by kernel_rfl) ?_ _
           gi_wp2_with fail
           exact⟨HE9.out.ot,⟨⟨_,_,_,_,by rw [nextX_snoc,HNX.out];exact HSF.out,HNA2.out⟩,HE9.out.kn,HE9.out.ks⟩,⟨⟨⟨_,_,_,_,by rw [nextX_snoc,HNX.out];exact HSF.out,HNA2.out⟩,HE9.out.kn,HE9.out.ks⟩,HE9.out.k2,HE9.out.bl⟩⟩
          exact AllReadyH.nil
         exact AllReadyH.nil
        exact AllReadyH.nil
       refine AllReadyH.cons (o:=_) rfl (fun K hK=>?_) ?_
       ·go_simp
        have hy:=Ext.alloc x8 (.cells #[.int .i64 k] 3);replace HS:=Lib.hid (HS.out.ext hy);replace HEN:=Lib.hid (HEN.out.ext hy);replace s0:=cell_exQ hy s0;replace t0:=cell_exQ hy t0;have Kk:=Lib.hid (Blk.new0 x8 #[.int .i64 k] 3);clear hy;generalize World.alloc x8 (.cells #[.int .i64 k] 3)=x9 at *;generalize Array.size (World.heap x8)=bk at *
        refine hK.out _ _ ?_ (fun hHeld2=>?_)
        ·exact s0
        clear hK K hHeld
        have hHeld:=hHeld2
        clear hHeld2
        (try simp only [Act.put,pus])
        refine wpAnyH_ready (rs:=[5]) (by kernel_rfl) (by simp) ?_
        refine AllReadyH.cons (o:=_) rfl (fun K hK=>?_) ?_
        ·go_simp
         refine hK.out _ _ ?_ (fun hHeld2=>?_)
         ·exact s0
         clear hK K hHeld
         have hHeld:=hHeld2
         clear hHeld2
         (try simp only [Act.put,pus])
         refine wpAnyH_ready (rs:=[8]) (by kernel_rfl) (by simp) ?_
         refine AllReadyH.cons (o:=_) rfl (fun K hK=>?_) ?_
         ·refine step_append_int rfl (.tmp 137) (.tmp 139) rfl HEN.out.lo rfl HS.out.atl rfl Kk.out (by have:=HD.out;omega) ?_;intro va' y9 ho hg hat;obtain⟨a9,c9,rfl⟩:=at_form ho;have HE9:=Lib.hid (HEN.out.at HS.out.atl HNA.out hg);have hp9:=blkGrown HS.out.box hg (rowNe HS.out.atl HS.out.box (by decide));have HP9:=Lib.hid hp9;replace s0:World.cell? y9 ⟨b2,0,none⟩=some (.pointer (some ⟨p,0,none⟩)):=HE9.out.k2.cell rfl;have HSF:=Lib.hid (HS.out.push ho hg hat);have HNA2:Hid ((Value.slice a9 (ps.length+1) c9).ownBlock≠some (bs+1)):=Lib.hid (fun e=>by rcases hat with h | h;exact HNA.out (h.symm.trans e);rw [h] at e;have:=HEN.out.kn.lt;injection e with e;omega);clear ho hg hat hp9 t0 HS HEN Kk HNA
          refine hK.out _ _ ?_ (fun hHeld2=>?_)
          ·exact s0
          clear hK K hHeld
          have hHeld:=hHeld2
          clear hHeld2
          (try simp only [Act.put,pus])
          refine tk (v:=?_) 9 rfl (by kernel_rfl) (fun _ _ _ h=>h) (by rfl) ?_ (by assumption) ?_
          rotate_left
          ·(intro w hSw;(try dsimp only at hSw);(try go_simp);(try with_reducible rfl))
          (try simp only [Act.put,pus])
          refine tk (v:=?_) 10 rfl (by kernel_rfl) (fun _ _ _ h=>h) (by rfl) ?_ (by assumption) ?_
          rotate_left
          ·(intro w hSw;(try dsimp only at hSw);(try go_simp);(try with_reducible rfl))
          (try simp only [Act.put,pus])
          refine tk (v:=?_) 11 rfl (by kernel_rfl) (fun _ _ _ h=>h) (by rfl) ?_ (by assumption) ?_
          rotate_left
          ·(intro w hSw;(try dsimp only at hSw);(try go_simp);(try with_reducible rfl))
          (try simp only [Act.put,pus])
          refine wpAnyH_ready (rs:=[12]) (by kernel_rfl) (by simp) ?_
          refine AllReadyH.cons (o:=_) rfl (fun K hK=>?_) ?_
          ·have p0:=HP9.out.cell (i:=0) rfl;have p1:=HP9.out.free 0;go_simp;clear p0 p1;replace HE9:=Lib.hid (HE9.out.set hpB.1 hpB.2.1 hpB.2.2.1 hpB.2.2.2 0 (.slice a9 (ps.length+1) c9));replace s0:=HE9.out.k2.cell (i:=0) rfl
           refine hK.out _ _ ?_ (fun hHeld2=>?_)
           ·exact s0
           clear hK K hHeld
           have hHeld:=hHeld2
           clear hHeld2
           (try simp only [Act.put,pus])
           refine wpAnyH_done (by kernel_rfl) ?_ _
           gi_wp2_with fail
           exact⟨HE9.out.ot,⟨⟨_,_,_,_,by rw [nextX_snoc,HNX.out];exact HSF.out,HNA2.out⟩,HE9.out.kn,HE9.out.ks⟩,⟨⟨⟨_,_,_,_,by rw [nextX_snoc,HNX.out];exact HSF.out,HNA2.out⟩,HE9.out.kn,HE9.out.ks⟩,HE9.out.k2,HE9.out.bl⟩⟩
          exact AllReadyH.nil
         exact AllReadyH.nil
        exact AllReadyH.nil
       exact AllReadyH.nil
 case done=>
  intro D xs W hD hE hI hK
  have HK:=Lib.hid hK
  have HI:=Lib.hid hI
  have HE:Hid (elimX m A n=elimX m A (nextX xs)):=Lib.hid hE
  clear hI hK hE
  go_wp2_with fail
  refine⟨by simp,.inl ⟨_,_,rfl,run_takeDeferred HK.out,?_⟩⟩
  have kk:KeepW W (W.putObj D (.deferred none)):=keepW_grown (grownBy_putObj' W D (.deferred none)) (fun r e=>by cases e;exact⟨_,HK.out,rfl⟩)
  obtain⟨⟨⟨g',cp',V',va',hs',_⟩,_,_⟩,_,hbl⟩:=HI.out
  rw [←HE.out] at hs'
  exact⟨.tuple #[],by simp [results,Tryz.f26,go_sem],⟨_,rfl⟩,⟨g',cp',V',va',hs'.keep kk⟩,hbl.grown (grownBy_putObj' W D (.deferred none)) (Nat.le_trans (by rw [HB2.out];exact HBW.out) hbl.size) (fun r e=>by cases e;have:=HBW.out;omega)⟩
end Go.Proofs.YtokffagbdfhnnaaGreat
