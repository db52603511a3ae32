import Derived.Test.YtokffagbdfhnnaaGreatUX1
import Derived.OwnWalk
import Derived.Below
import Derived.Deep.QuietTactic
import Derived.Deep.Cut
namespace Go.Proofs.YtokffagbdfhnnaaGreat
open Go.RowKit Go BigFrame Go.Shelf
set_option maxRecDepth 100000
set_option linter.unusedSimpArgs false
set_option linter.unusedVariables false
attribute [local go_sem] Oper.semAt_some
def RowsB (w:World) (g m:Nat) (val:Nat→Value):Prop:=∃cs,Blk w g cs 23∧∀r,r<m→cs[r]? =some (val r)
section
variable {w w':World} {g m:Nat} {val:Nat→Value}
theorem RowsB.ext (h:RowsB w g m val) (k:Ext w w'):RowsB w' g m val:=by
 obtain⟨cs,hb,hc⟩:=h
 exact⟨cs,hb.ext k,hc⟩
theorem RowsB.cell (h:RowsB w g m val) {r:Nat} (hr:r<m):w.cell? ⟨g,r,none⟩=some (val r):=by
 obtain⟨cs,hb,hc⟩:=h
 exact hb.cell (hc r hr)
theorem RowsB.lt (h:RowsB w g m val):g<w.heap.size:=by
 obtain⟨cs,hb,hc⟩:=h
 exact hb.lt
theorem RowsB.free (h:RowsB w g m val) (r:Nat):w.frozen? ⟨g,r,none⟩=false:=by
 obtain⟨cs,hb,hc⟩:=h
 exact hb.free r
theorem RowsB.put (h:RowsB w g m val) {i:Nat} (hi:i<m) (u:Value):RowsB (w.setCell ⟨g,i,none⟩ u) g m (fun r=>if r=i then u else val r):=by
 obtain⟨cs,hb,hc⟩:=h
 refine⟨_,hb.set i u,fun r hr=>?_⟩
 have hsz:i<cs.size:=(Array.getElem?_eq_some_iff.1 (hc i hi)).1
 show _=some (if r=i then u else val r)
 by_cases e:r=i
 ·subst e;rw [if_pos rfl];exact setSelf hsz
 ·rw [if_neg e,Array.getElem?_setIfInBounds,if_neg (fun h=>e h.symm)];exact hc r hr
theorem RowsB.grown (h:RowsB w g m val) {row:Option Nat} (hg:w.grownBy w' row) (hr:row≠some g):RowsB w' g m val:=by
 obtain⟨cs,hb,hc⟩:=h
 exact⟨cs,blkGrown hb hg hr,hc⟩
theorem RowsB.congr {val':Nat→Value} (h:RowsB w g m val) (k:∀r,r<m→val r=val' r):RowsB w g m val':=by
 obtain⟨cs,hb,hc⟩:=h
 exact⟨cs,hb,fun r hr=>by rw [←k r hr];exact hc r hr⟩
theorem RowsB.mat {N cap:Nat} {V:Nat→Nat→RatC} {M:Mx} (h:RowsB w g m val) (hv:∀r,r<m→∃a c,val r=.slice a N c∧RowR w a c N (V r) (M r)) (h1:m≤cap) (h2:cap≤9223372036854775807):MatR w (some ⟨g,0,none⟩) cap m N V M:=
 ⟨h1,h2,fun e=>(by cases e),fun A hA r hr=>by
  cases hA
  obtain⟨a,c,e,hrow⟩:=hv r hr
  refine⟨rfl,a,c,?_,hrow⟩
  have:=h.cell hr
  rw [e] at this
  simpa using this⟩
theorem rowsB_of_own {B n n' cap:Nat} {xs:List Value} (h:w.ownsRow B 23 1 (.slice (some ⟨g,0,none⟩) n' cap) n xs) (hx:∀r,r<m→xs[r]? =some (val r)):RowsB w g m val:=by
 rcases h.2 with⟨e,_⟩ | ⟨g',cap',cur,e,hb,hg,h1,h2,h3,h4⟩
 ·cases e
 ·simp only [Value.slice.injEq,Option.some.injEq,Addr.mk.injEq,and_true,true_and] at e
  obtain⟨rfl,_,rfl⟩:=e
  refine⟨cur,hg,fun r hr=>?_⟩
  have hu:=hx r hr
  rw [←h4,List.getElem?_take] at hu
  split at hu
  ·simpa using hu
  ·cases hu
end
theorem RowR.grown {w w':World} {a:Option Addr} {cap N:Nat} {V:Nat→RatC} {f:Nat→Rat} (h:RowR w a cap N V f) {row:Option Nat} (hg:w.grownBy w' row) (hr:∀A,a=some A→row≠some A.block) (ho:∀c,c<N→(V c).Off row):RowR w' a cap N V f:=
 ⟨h.le,h.mx,h.nil,fun A hA c hc=>by
  obtain⟨h0,h1,h2,h3,h4⟩:=h.cells A hA c hc
  have key:∀ (j:Nat) (u:Value),w.cell? ⟨A.block,j,none⟩=some u→w'.cell? ⟨A.block,j,none⟩=some u:=fun j u hu=>by
   have hlt:=World.block_lt_of_cell? w _ hu
   have:=hg.block A.block hlt (fun e=>hr A hA e.symm)
   simp only [World.cell?] at hu ⊢
   rw [this];exact hu
  exact⟨h0,key _ _ h1,key _ _ h2,key _ _ h3,key _ _ h4⟩,fun c hc=>(h.val c hc).grown hg (ho c hc)⟩
def RowG (w:World) (P:Nat→Prop) (N:Nat) (u:Value) (V:Nat→RatC) (f:Nat→Rat):Prop:=∃a c,u=.slice a N c∧RowR w a c N V f∧(0<N→∀A,a=some A→¬P A.block)∧∀c,c<N→∀o,P o→(V c).Off (some o)
section
variable {w w':World} {P:Nat→Prop} {N:Nat} {u:Value} {V:Nat→RatC} {f:Nat→Rat}
theorem RowG.ext (h:RowG w P N u V f) (k:Ext w w'):RowG w' P N u V f:=by
 obtain⟨a,c,e,h1,h2,h3⟩:=h
 exact⟨a,c,e,h1.ext k,h2,h3⟩
theorem RowG.grown (h:RowG w P N u V f) {o:Nat} (ho:P o) (hg:w.grownBy w' (some o)):RowG w' P N u V f:=by
 obtain⟨a,c,e,h1,h2,h3⟩:=h
 refine⟨a,c,e,?_,h2,h3⟩
 by_cases h0:0<N
 ·exact h1.grown hg (fun A hA eq=>h2 h0 A hA (by rw [←Option.some.inj eq];exact ho)) fun c hc=>h3 c hc o ho
 ·exact⟨h1.le,h1.mx,h1.nil,fun A hA c hc=>by omega,fun c hc=>by omega⟩
theorem RowG.none (h:RowG w P N u V f) (hg:w.grownBy w' none):RowG w' P N u V f:=h.ext (ext_of_grown hg)
theorem RowG.fresh (h:RowG w P N u V f) {P':Nat→Prop} (hP:∀o,P' o→P o∨o=w.heap.size):RowG w P' N u V f:=by
 obtain⟨a,c,e,h1,h2,h3⟩:=h
 refine⟨a,c,e,h1,fun h0 A hA hp=>?_,fun c hc o ho=>?_⟩
 ·rcases hP _ hp with hp | hp
  ·exact h2 h0 A hA hp
  ·obtain⟨_,hc,_⟩:=h1.cells A hA 0 h0
   have:=World.block_lt_of_cell? w _ hc
   dsimp only at this
   omega
 ·rcases hP _ ho with hp | rfl
  ·exact h3 c hc o hp
  ·exact(h1.val c hc).offNew
end
def Pg (g:Nat) (vp:Value) (o:Nat):Prop:=o=g∨vp.ownBlock=some o
structure RedS (w:World) (B g m N:Nat) (val:Nat→Value) (V:Nat→Nat→RatC) (M:Mx) (vp:Value) (ps:List Nat):Prop where
 blk:RowsB w g m val
 row:∀r,r<m→RowG w (Pg g vp) N (val r) (V r) (M r)
 piv:w.ownsRow B 3 1 vp ps.length (ps.map fun k:Nat=>Value.int .i64 k)
section
variable {w w':World} {B g m N:Nat} {val:Nat→Value} {V:Nat→Nat→RatC} {M:Mx} {vp:Value} {ps:List Nat}
theorem RedS.ext (h:RedS w B g m N val V M vp ps) (k:Ext w w'):RedS w' B g m N val V M vp ps:=⟨h.blk.ext k,fun r hr=>(h.row r hr).ext k,ownsRow_ext h.piv k⟩
theorem RedS.put (h:RedS w B g m N val V M vp ps) {i:Nat} (hi:i<m) {u:Value} {Vi:Nat→RatC} {f:Nat→Rat} (hu:RowG w (Pg g vp) N u Vi f):RedS (w.setCell ⟨g,i,none⟩ u) B g m N (fun r=>if r=i then u else val r) (fun r=>if r=i then Vi else V r) (fun r=>if r=i then f else M r) vp ps:=
 ⟨h.blk.put hi u,fun r hr=>by
  by_cases e:r=i
  ·simp only [e,if_true];exact hu.grown (.inl rfl) (grownSet w g i u)
  ·simp only [e,if_false];exact(h.row r hr).grown (.inl rfl) (grownSet w g i u),by
  obtain⟨cs,hb,_⟩:=h.blk
  exact rowGrown h.piv (grownSet w g i u) (.inr (rowNe h.piv hb (by decide)))⟩
theorem RedS.congr {M':Mx} {V':Nat→Nat→RatC} {val':Nat→Value} (h:RedS w B g m N val V M vp ps) (k:∀r,r<m→val r=val' r∧V r=V' r∧∀c,c<N→M r c=M' r c):RedS w B g m N val' V' M' vp ps:=
 ⟨h.blk.congr fun r hr=>(k r hr).1,fun r hr=>by
  obtain⟨k1,k2,k3⟩:=k r hr
  obtain⟨a,c,e,h1,h2,h3⟩:=h.row r hr
  rw [←k1,←k2]
  exact⟨a,c,e,⟨h1.le,h1.mx,h1.nil,h1.cells,fun c hc=>by rw [←k3 c hc];exact h1.val c hc⟩,h2,h3⟩,h.piv⟩
theorem RedS.push (h:RedS w B g m N val V M vp ps) {vp':Value} {k:Nat} (ho:w'.ownsRow B 3 1 vp' (ps.length+1) ((ps.map fun k:Nat=>Value.int .i64 k) ++ [.int .i64 k])) (hg:w.grownBy w' vp.ownBlock) (hat:vp'.ownBlock=vp.ownBlock∨vp'.ownBlock=some w.heap.size):
 RedS w' B g m N val V M vp' (ps ++ [k]):=by
 obtain⟨cs,hb,_⟩:=id h.blk
 have hne:=rowNe h.piv hb (by decide)
 refine⟨h.blk.grown hg hne,fun r hr=>?_,by rw [List.length_append,List.map_append];exact ho⟩
 have h1:=(h.row r hr).fresh (P':=fun o=>Pg g vp o∨vp'.ownBlock=some o) (fun o hp=>by
  rcases hp with hp | hp
  ·exact .inl hp
  ·rcases hat with e | e
   ·exact .inl (.inr (e ▸ hp))
   ·rw [e] at hp;exact .inr (Option.some.inj hp).symm)
 have h2:RowG w' (fun o=>Pg g vp o∨vp'.ownBlock=some o) N (val r) (V r) (M r):=by
  cases e:vp.ownBlock with
  | none=>rw [e] at hg;exact h1.none hg
  | some o=>rw [e] at hg;exact h1.grown (o:=o) (.inl (.inr e)) hg
 exact h2.fresh (P':=Pg g vp') fun o hp=>by
  rcases hp with rfl | hp
  ·exact .inl (.inl (.inl rfl))
  ·exact .inl (.inr hp)
end
theorem own_rowG {w w':World} {P:Nat→Prop} {N:Nat} {v:Value} {K:List RatC} {rs:List Rat} {f:Nat→Rat} (h:OwnRats w' w.heap.size v K rs) (hN:K.length=N) (hf:∀c,c<N→rs.getD c 0=f c) (ho:∀x∈K,∀o,o<w.heap.size→x.Off (some o)) (hP:∀o,P o→o<w.heap.size):
 ∃V,RowG w' P N v V f:=by
 subst hN
 by_cases h0:0<K.length
 ·obtain⟨gr,cap,rfl,hb,h1,h2,h3⟩:=h.fill h0
  refine⟨_,_,cap,rfl,h3.read ⟨h1,h2⟩ hf,fun _ A hA hp=>by cases hA;have:=hP _ hp;dsimp only at this;omega,fun c hc o hp=>?_⟩
  rw [List.getD_eq_getElem?_getD,List.getElem?_eq_getElem hc]
  exact ho _ (List.getElem_mem hc) o (hP o hp)
 ·obtain⟨a,cap,rfl,h1,h2⟩:=h.form
  rcases h.own.2 with⟨e,_⟩ | ⟨gx,cx,cur,e,hb,_⟩
  ·simp only [Value.slice.injEq] at e
   obtain⟨rfl,_,rfl⟩:=e
   exact⟨fun _=>⟨false,none,0,0,false,none,0,0⟩,none,0,rfl,⟨h1,h2,fun _=>rfl,fun A hA=>(by cases hA),fun c hc=>by omega⟩,fun h=>absurd h h0,fun c hc=>by omega⟩
  ·simp only [Value.slice.injEq] at e
   obtain⟨rfl,_,rfl⟩:=e
   exact⟨fun _=>⟨false,none,0,0,false,none,0,0⟩,_,_,rfl,⟨h1,h2,fun e=>(by cases e),fun A hA c hc=>by omega,fun c hc=>by omega⟩,fun h=>absurd h h0,fun c hc=>by omega⟩
def mixR (M:Mx) (d i k j:Nat):Mx:=fun r c=>if r=d then M i c / M i k else if r<j then swapX M d i r c - M i c / M i k*swapX M d i r k else swapX M d i r c
theorem mixR_all (M:Mx) {d i k m:Nat}:∀r,r<m→∀c,mixR M d i k m r c=stepX M d i k r c:=fun r hr c=>by
 unfold mixR stepX
 by_cases e:r=d
 ·rw [if_pos e,if_pos e]
 ·rw [if_neg e,if_neg e,if_pos hr]
theorem mixR_skip (M:Mx) (d i k:Nat):mixR M d i k d=mixR M d i k (d+1):=by
 funext r c
 unfold mixR
 by_cases e:r=d
 ·rw [if_pos e,if_pos e]
 ·rw [if_neg e,if_neg e]
  by_cases h:r<d
  ·rw [if_pos h,if_pos (by omega)]
  ·rw [if_neg h,if_neg (by omega)]
theorem mixR_at (M:Mx) {d i k j:Nat} (h:j≠d):mixR M d i k j j=swapX M d i j:=by
 funext c
 unfold mixR
 rw [if_neg h,if_neg (Nat.lt_irrefl _)]
theorem mixR_top (M:Mx) (d i k j:Nat):mixR M d i k j d=fun c=>M i c / M i k:=by
 funext c
 unfold mixR
 rw [if_pos rfl]
theorem mixR_next (M:Mx) {d i k j:Nat} (h:j≠d) (r c:Nat):(if r=j then swapX M d i j c - M i c / M i k*swapX M d i j k else mixR M d i k j r c)=mixR M d i k (j+1) r c:=by
 unfold mixR
 by_cases e:r=j
 ·subst e;rw [if_pos rfl,if_neg h,if_pos (by omega)]
 ·rw [if_neg e]
  by_cases e2:r=d
  ·rw [if_pos e2,if_pos e2]
  ·rw [if_neg e2,if_neg e2]
   by_cases h3:r<j
   ·rw [if_pos h3,if_pos (by omega)]
   ·rw [if_neg h3,if_neg (by omega)]
theorem cellSet {w:World} {b o g i:Nat} {u:Value} (h:w.cell? ⟨b,o,none⟩=some u) (hne:b≠g) (v:Value):(w.setCell ⟨g,i,none⟩ v).cell? ⟨b,o,none⟩=some u:=by
 have hlt:=World.block_lt_of_cell? w _ h
 have:=(grownSet w g i v).block b hlt (fun e=>hne (Option.some.inj e))
 simp only [World.cell?] at h ⊢
 rw [this]
 exact h
theorem mixR_put (M:Mx) {d i k j:Nat} (h:j≠d) (r c:Nat):(if r=j then(fun c=>mixR M d i k j j c - mixR M d i k j d c*mixR M d i k j j k) else mixR M d i k j r) c=mixR M d i k (j+1) r c:=by
 rw [←mixR_next M h r c]
 by_cases e:r=j
 ·rw [if_pos e,if_pos e,mixR_at M h,mixR_top]
 ·rw [if_neg e,if_neg e]
theorem rows_to {g m cg k:Nat} (hk:k≤m) (hm:m≤cg) (hc:cg≤9223372036854775807) (W:World):(Instr.slice 22 (.slice (some ⟨g,0,none⟩) m cg) none (some (.int .i64 k)) none).run Tryz.prog W=.ok (.slice (some ⟨g,0,none⟩) k cg) W:=by
 have hu22:Tryz.prog.underlying 22=some (.slice (Tryz.prog.elem 22)):=by kernel_rfl
 have hc1:Tryz.prog.cellsOf (Tryz.prog.elem 22)=1:=by kernel_rfl
 have h2:(0:Int)≤(k:Int):=by omega
 have h3:(k:Int)≤(cg:Int):=by omega
 rw [run_slice_h (ht:=hu22) (h0:=h2) (h2:=h3)]
 simp [go_sem,hc1,Addr.add]
theorem rows_rest {g m cg k:Nat} (hk:k≤m) (hm:m≤cg) (hc:cg≤9223372036854775807):∃ad,(∀W:World,(Instr.slice 22 (.slice (some ⟨g,0,none⟩) m cg) (some (.int .i64 k)) none none).run Tryz.prog W=.ok (.slice ad (m - k) (cg - k)) W)∧(k<m→ad=some ⟨g,k,none⟩):=by
 refine⟨if cg=k then some ⟨g,0,none⟩ else(some (⟨g,0,none⟩:Addr)).map (·.add (k*1)),fun W=>?_,fun h=>?_⟩
 ·have hu22:Tryz.prog.underlying 22=some (.slice (Tryz.prog.elem 22)):=by kernel_rfl
  have hc1:Tryz.prog.cellsOf (Tryz.prog.elem 22)=1:=by kernel_rfl
  have h2:(0:Int)≤(k:Int):=by omega
  have h3:(k:Int)≤(m:Int):=by omega
  rw [run_slice_l (ht:=hu22) (h0:=h2) (h1:=h3)]
  simp [go_sem,hc1]
 ·rw [if_neg (by omega)]
  simp [Addr.add]
  omega
def RedP (m N n:Nat) (A:Mx) (w:World) (e:Ending) (w':World):Prop:=∃ (g cg:Nat) (vp:Value) (ad:Option Addr) (val:Nat→Value) (V:Nat→Nat→RatC),e=.returned (.tuple #[.slice (some ⟨g,0,none⟩) (elimX m A n).ps.length cg,vp,.slice ad (m - (elimX m A n).ps.length) (cg - (elimX m A n).ps.length)])∧
 ((elimX m A n).ps.length<m→ad=some ⟨g,(elimX m A n).ps.length,none⟩)∧RedS w' w.heap.size g m N val V (elimX m A n).M vp (elimX m A n).ps∧m≤cg∧cg≤9223372036854775807∧Ext w w'
theorem rowsN_news {W:World} {a:Option Addr} {m:Nat} {val:Nat→Value} (h:∀r,r<m→∀A',a=some A'→A'.spot=none∧W.cell? ⟨A'.block,A'.off+r,none⟩=some (val r)):∀A',a=some A'→∀ (j:Nat) (u:Value),((List.range m).map val)[j]? =some u→W.cell? (A'.add j)=some u:=fun A' hA j u hu=>by
 have hj:j<m:=by have:=(List.getElem?_eq_some_iff.1 hu).1;simpa using this
 rw [List.getElem?_map,List.getElem?_range hj] at hu
 obtain⟨h1,h2⟩:=h j hj A' hA
 obtain⟨b,o,sp⟩:=A'
 dsimp only at h1 h2
 subst h1
 rw [←Option.some.inj hu,Addr.add_off]
 exact h2
set_option maxHeartbeats 32000000 in
theorem ref_reduced (a:Option Addr) (cap m N n:Nat) (V0:Nat→Nat→RatC) (A:Mx) (e:Nat) (w:World) (h:MatR w a cap m N V0 A) (hcd:CdX m N e A) (hn:n≤N) (hm:m≤100) (hN:N≤100) (he:2 ^ n* (e+1)≤40920):
 Calls Tryz.prog 29 #[.slice a m cap,.int .i64 n] w (RedP m N n A w):=by
 have hle:=h.le
 have hmx:=h.mx
 have hnil:=h.nil
 obtain⟨rr,hrr⟩:∃rr:Nat→Option Addr × Nat,∀r,r<m→(∀A',a=some A'→A'.spot=none∧w.cell? ⟨A'.block,A'.off+r,none⟩=some (.slice (rr r).1 N (rr r).2))∧RowR w (rr r).1 (rr r).2 N (V0 r) (A r):=by
  have one:∀r,∃p:Option Addr × Nat,r<m→(∀A',a=some A'→A'.spot=none∧w.cell? ⟨A'.block,A'.off+r,none⟩=some (.slice p.1 N p.2))∧RowR w p.1 p.2 N (V0 r) (A r):=fun r=>by
   by_cases hr:r<m
   ·obtain⟨b,o,rfl⟩:=h.head hr
    obtain⟨h0,a',c',h1,h2⟩:=h.cells _ rfl r hr
    exact⟨(a',c'),fun _=>⟨fun A' hA=>by cases hA;exact⟨rfl,h1⟩,h2⟩⟩
   ·exact⟨(none,0),fun e=>absurd e hr⟩
  obtain⟨f,hf⟩:=Classical.axiomOfChoice one
  exact⟨f,hf⟩
 have HRR:=Lib.hid hrr
 have HCD:=Lib.hid hcd
 have HE:=Lib.hid he
 clear h hrr hcd he
 generalize hval:(fun r=>Value.slice (rr r).1 N (rr r).2)=val0
 have K0:=Lib.hid (Blk.new0 w #[] 23)
 have HXa:Hid (Ext w (w.alloc (.cells #[] 23))):=Lib.hid (Ext.alloc _ _)
 go_enter Tryz.func29,Tryz.ntmps29
 go_upto_region 2 with(at_builtin;go_loud (refine wpl_append_row rfl (.tmp 14) (.tmp 15) 22 23 rfl (z:=.slice none 0 0) (k:=1) (by_:=24) Tryz.underlying22 infoRowU rfl (by decide) (B:=w.heap.size) HXa.out.size rfl (ownEmpty K0.out (Nat.le_refl _)) rfl (fun e=>⟨by have:=hnil e;omega,hnil e⟩) (news:=(List.range m).map val0) (by simp) (rowsN_news (W:=w.alloc (.cells #[] 23)) (fun r hr A' hA=>⟨((HRR.out r hr).1 A' hA).1,by rw [←hval];exact cell_exQ HXa.out ((HRR.out r hr).1 A' hA).2⟩)) (fun u hu=>by obtain⟨r,_,rfl⟩:=List.mem_map.1 hu;rw [←hval];rfl) (by omega) (by omega) ?_;intro v7 x7 ho hg hnl hat;obtain⟨g,cg,rfl,hgB,hcg,hcm⟩:=own_row_form ho hnl;have HRB:=Lib.hid (rowsB_of_own (m:=m) (val:=val0) ho (fun r hr=>by rw [List.nil_append,List.getElem?_map,List.getElem?_range hr];rfl));have HE7:Hid (Ext w x7):=Lib.hid (Below.grown HXa.out hg HXa.out.size (fun r e=>by cases e;exact Nat.le_refl _));clear ho hg hnl hat))
 have hrg0:∀r,r<m→RowG x7 (Pg g (.slice none 0 0)) N (val0 r) (V0 r) (A r):=fun r hr=>by
  refine⟨(rr r).1,(rr r).2,by rw [←hval],(HRR.out r hr).2.ext HE7.out,fun h0 A' hA hp=>?_,fun c hc o hp=>?_⟩
  ·obtain⟨_,hc,_⟩:=(HRR.out r hr).2.cells A' hA 0 h0
   have:=World.block_lt_of_cell? w _ hc
   dsimp only at this
   rcases hp with hp | hp
   ·omega
   ·cases hp
  ·rcases hp with rfl | hp
   ·exact old_off ((HRR.out r hr).2.val c hc) (fun g' e=>by cases e;exact hgB)
   ·cases hp
 have HS0:Hid (RedS x7 w.heap.size g m N val0 V0 A (.slice none 0 0) []):=Lib.hid ⟨HRB.out,hrg0,World.ownsRow_nil _ _ _ _⟩
 clear hrg0
 have HGB:=Lib.hid hgB
 clear K0 HXa HRB
 go_wp2_with fail
 go_loopw [8,9] (fun s8 v wr=>∃q:Nat,q≤n∧v=.int .i64 q∧∃val V,RedS wr w.heap.size g m N val V (elimX m A q).M s8 (elimX m A q).ps∧Ext w wr) (fun _ v _=>n - (intOf v).toNat)
 case atStart=>exact⟨0,Nat.zero_le _,rfl,_,_,HS0.out,HE7.out⟩
 case round=>
  obtain⟨q,hq,rfl,val,V,hs,hxr⟩:=hrel
  have q0:(0:Int)≤(q:Int):=by omega
  obtain⟨av,cv,rfl⟩:=row_form hs.piv
  have HS:=Lib.hid hs
  have HX:=Lib.hid hxr
  have hdm:=(elimX_ech m A q).le
  clear hs hxr
  by_cases hqn:q<n
  ·have q1:(q:Int)< (n:Int):=by omega
   have hw1:IntKind.i64.wrap ((q:Int)+1)= (q:Int)+1:=IntWalk.i64_in _ (by omega)
   have hqN:q<N:=by omega
   have HCK:=Lib.hid (HCD.out.elim (n:=q) (by omega))
   have HSQ:Hid (elimX m A (q+1)=colX m (elimX m A q) q):=Lib.hid rfl
   have hdq:=(rank_le m q A).2
   generalize elimX m A q=S at *
   obtain⟨M,ps⟩:=S
   dsimp only at HS HCK hdm hdq
   generalize hd:ps.length=d at *
   have d0:(0:Int)≤(d:Int):=by omega
   go_wp2_with fail
   go_loopw [11] (fun v wr2=>∃j:Nat,d≤j∧j≤m∧v=.int .i64 j∧(∀r,d≤r→r<j→M r q=0)∧Ext wr wr2) (fun v _=>m - (intOf v).toNat)
   case atStart=>exact⟨d,Nat.le_refl _,hdm,rfl,fun r h1 h2=>by omega,Ext.refl _⟩
   case round=>
    obtain⟨j,hdj,hjm,rfl,hz,hx2⟩:=hrel
    have j0:(0:Int)≤(j:Int):=by omega
    have HZR:=Lib.hid hz
    have HX2:=Lib.hid hx2
    clear hz hx2
    by_cases hjM:j<m
    ·have j1:(j:Int)< (m:Int):=by omega
     have hwj:IntKind.i64.wrap ((j:Int)+1)= (j:Int)+1:=IntWalk.i64_in _ (by omega)
     have hcj:=(HS.out.ext HX2.out).blk.cell hjM
     obtain⟨aj,cj,ej,hrj,hpj,hoj⟩:=(HS.out.ext HX2.out).row j hjM
     rw [ej] at hcj
     obtain⟨bj,oj,rfl⟩:=hrj.head hqN
     obtain⟨_,c0,c1,c2,c3⟩:=hrj.cells _ rfl q hqN
     have vj:=hrj.val q hqN
     have jle:=hrj.le
     have jmx:=hrj.mx
     have HRJ:=Lib.hid hrj
     have HPJ:=Lib.hid (hpj (by omega) _ rfl)
     have HEJ:=Lib.hid ej
     generalize V j q=xc at *
     obtain⟨nx,ax,qx,cx,mx,bx,kx,dx⟩:=xc
     dsimp only [RatC.val] at c0 c1 c2 c3 vj
     have VJ:=Lib.hid vj
     clear hrj hpj hoj vj ej
     go_wp2_with fail
     refine(ref_Is nx mx ax bx qx cx kx dx (M j q) _ VJ.out).mono ?_
     rintro e9 y1 ⟨rfl,hy⟩
     have HX3:=Lib.hid (HX2.out.trans hy)
     have HRJ3:=Lib.hid (HRJ.out.ext hy)
     have VJ3:=Lib.hid (VJ.out.ext hy)
     replace hcj:=cell_exQ hy hcj
     replace c0:=cell_exQ hy c0
     replace c1:=cell_exQ hy c1
     replace c2:=cell_exQ hy c2
     replace c3:=cell_exQ hy c3
     clear hy HRJ VJ HX2
     by_cases hz0:M j q=0
     ·have HZR2:Hid (∀r,d≤r→r<j+1→M r q=0):=Lib.hid fun r h1 h2=>by
       by_cases e1:r=j
       ·rw [e1];exact hz0
       ·exact HZR.out r h1 (by omega)
      rw [decide_eq_true hz0]
      clear hz0 c0 c1 c2 c3 hcj
      go_wp2_with fail
      go_roundw
      case rel=>exact⟨j+1,by omega,by omega,by go_num,HZR2.out,HX3.out⟩
      case measure=>simp [intOf];omega
     ·have HNZ:=Lib.hid hz0
      rw [decide_eq_false hz0]
      have hfi:findX M q d (m - d)=some j:=find_step (m:=m) (by omega) hdj hjM HZR.out hz0
      have g1:((j:Int) == (m:Int))=false:=by rw [beq_eq_false_iff_ne];omega
      have g1':(j == m)=false:=by rw [beq_eq_false_iff_ne];omega
      have HSX:Hid (elimX m A (q+1)= ⟨stepX M d j q,ps ++ [q]⟩):=Lib.hid (by rw [HSQ.out];unfold colX;dsimp only;rw [hd,hfi])
      clear hz0 hfi HZR
      go_upto_region 11 with fail
      have hE2:2 ^ d* (e+1) - 1≤30*682:=by
       have h1:2 ^ (d+1)≤2 ^ n:=Nat.pow_le_pow_right (by omega) (by omega)
       have h2:2 ^ (d+1)* (e+1)≤2 ^ n* (e+1):=Nat.mul_le_mul_right _ h1
       have h3:=HE.out
       rw [Nat.pow_succ,Nat.mul_right_comm] at h2
       omega
      have HZ:=Lib.hid (fun r c (hr:r<m) (hc:c<N)=>HCK.out.sz hE2 hr hc)
      have HZQ:=Lib.hid (fun c (hc:c<N)=>HCK.out.szq hE2 hjM hc hqN HNZ.out)
      have HZS:Hid (∀r c,r<m→c<N→Sz (swapX M d j r c) 682):=Lib.hid fun r c hr hc=>by
       unfold swapX
       split
       ·exact HZ.out j c hjM hc
       ·split
        ·exact HZ.out d c (by omega) hc
        ·exact HZ.out r c hr hc
      have hdM:d<m:=by omega
      clear hE2
      go_cut [12] (fun s wx=>∃K,OwnRats wx y1.heap.size s K ((List.range N).map fun c=>M j c / M j q)∧(∀x∈K,∀o,o<y1.heap.size→x.Off (some o))∧Ext y1 wx)
      case first=>
       have hE:Ext y1 (World.drew y1):=(Ext.refl _).drew
       have hyd:Ext y1 (World.drew y1):=(Ext.refl _).drew
       replace HRJ3:=Lib.hid (HRJ3.out.ext hyd)
       replace VJ3:=Lib.hid (VJ3.out.ext hyd)
       have s0:World.cell? (World.drew y1) ⟨g,j,none⟩=some (.slice (some ⟨bj,oj,none⟩) N cj):=hcj
       have s1:World.cell? (World.drew y1) ⟨bj,oj+q*4,none⟩=some (.bool nx):=c0
       have s2:World.cell? (World.drew y1) ⟨bj,oj+q*4+1,none⟩=some (.slice ax qx cx):=c1
       have s3:World.cell? (World.drew y1) ⟨bj,oj+q*4+2,none⟩=some (.bool mx):=c2
       have s4:World.cell? (World.drew y1) ⟨bj,oj+q*4+3,none⟩=some (.slice bx kx dx):=c3
       clear hyd
       refine wp_region_held_drew (S:=(fun w'=>World.cell? w' ⟨g,j,none⟩=some (.slice (some ⟨bj,oj,none⟩) N cj)∧World.cell? w' ⟨bj,oj+q*4,none⟩=some (.bool nx)∧World.cell? w' ⟨bj,oj+q*4+1,none⟩=some (.slice ax qx cx)∧World.cell? w' ⟨bj,oj+q*4+2,none⟩=some (.bool mx)∧World.cell? w' ⟨bj,oj+q*4+3,none⟩=some (.slice bx kx dx))) (by kernel_rfl) ?_ (fun hHeld=>?_)
       ·exact⟨s0,s1,s2,s3,s4⟩
       (try simp only [pur,Nat.reduceAdd])
       generalize World.drew y1=x2 at *
       refine tk (v:=?_) 0 rfl (by kernel_rfl) (fun _ _ _ h=>h) (by rfl) ?_ (by assumption) ?_
       rotate_left
       ·(intro w hSw;(try dsimp only at hSw);(try go_simp);(try with_reducible rfl))
       (try simp only [Act.put,pus])
       refine tk (v:=?_) 1 rfl (by kernel_rfl) (fun _ _ _ h=>h) (by rfl) ?_ (by assumption) ?_
       rotate_left
       ·(intro w hSw;(try dsimp only at hSw);(try go_simp);(try with_reducible rfl))
       (try simp only [Act.put,pus])
       refine tk (v:=?_) 2 rfl (by kernel_rfl) (fun _ _ _ h=>h) (by rfl) ?_ (by assumption) ?_
       rotate_left
       ·(intro w hSw;(try dsimp only at hSw);(try go_simp);(try with_reducible rfl))
       (try simp only [Act.put,pus])
       refine tk (v:=?_) 3 rfl (by kernel_rfl) (fun _ _ _ h=>h) (by rfl) ?_ (by assumption) ?_
       rotate_left
       ·(intro w hSw;(try dsimp only at hSw);(try go_simp);(try with_reducible rfl))
       (try simp only [Act.put,pus])
       refine tk (v:=?_) 4 rfl (by kernel_rfl) (fun _ _ _ h=>h) (by rfl) ?_ (by assumption) ?_
       rotate_left
       ·(intro w hSw;(try dsimp only at hSw);(try go_simp);(try with_reducible rfl))
       (try simp only [Act.put,pus])
       refine tk (v:=?_) 5 rfl (by kernel_rfl) (fun _ _ _ h=>h) (by rfl) ?_ (by assumption) ?_
       rotate_left
       ·(intro w hSw;(try dsimp only at hSw);(try go_simp);(try with_reducible rfl))
       (try simp only [Act.put,pus])
       refine tk (v:=?_) 6 rfl (by kernel_rfl) (fun _ _ _ h=>h) (by rfl) ?_ (by assumption) ?_
       rotate_left
       ·(intro w hSw;(try dsimp only at hSw);(try go_simp);(try with_reducible rfl))
       (try simp only [Act.put,pus])
       refine tk (v:=?_) 7 rfl (by kernel_rfl) (fun _ _ _ h=>h) (by rfl) ?_ (by assumption) ?_
       rotate_left
       ·(intro w hSw;(try dsimp only at hSw);(try go_simp);(try with_reducible rfl))
       (try simp only [Act.put,pus])
       refine tk (v:=?_) 8 rfl (by kernel_rfl) (fun _ _ _ h=>h) (by rfl) ?_ (by assumption) ?_
       rotate_left
       ·(intro w hSw;(try dsimp only at hSw);(try go_simp);(try with_reducible rfl))
       (try simp only [Act.put,pus])
       refine tk (v:=?_) 9 rfl (by kernel_rfl) (fun _ _ _ h=>h) (by rfl) ?_ (by assumption) ?_
       rotate_left
       ·(intro w hSw;(try dsimp only at hSw);(try go_simp);(try with_reducible rfl))
       (try simp only [Act.put,pus])
       refine tk (v:=?_) 10 rfl (by kernel_rfl) (fun _ _ _ h=>h) (by rfl) ?_ (by assumption) ?_
       rotate_left
       ·(intro w hSw;(try dsimp only at hSw);(try go_simp);(try with_reducible rfl))
       (try simp only [Act.put,pus])
       refine wpAnyH_ready (rs:=[11]) (by kernel_rfl) (by simp) ?_
       refine AllReadyH.cons (o:=_) rfl (fun K hK=>?_) ?_
       ·go_simp
        have hzx:=hE.size;(with_reducible refine(ref_scaled (some ⟨bj,oj,none⟩) cj N (V j) (M j) nx mx ax bx qx cx kx dx (M j q) 682 682 _ HRJ3.out VJ3.out ⟨fun c hc=>HZ.out j c hjM hc,HZ.out j q hjM hqN,by omega,HNZ.out⟩ (by omega)).mono ?_);rintro e8 y2 ⟨v8,K8,rfl,hO8,hOK8,hy⟩;replace hE:=hE.trans hy;replace s0:=cell_exQ hy s0;replace s1:=cell_exQ hy s1;replace s2:=cell_exQ hy s2;replace s3:=cell_exQ hy s3;replace s4:=cell_exQ hy s4;have HO8:=Lib.hid (hO8.low hzx);have HOK8:=Lib.hid (fun x hx o ho=>hOK8 x hx o (Nat.lt_of_lt_of_le ho hzx));clear hy hO8 hOK8 hzx
        refine hK.out _ _ ?_ (fun hHeld2=>?_)
        ·exact⟨s0,s1,s2,s3,s4⟩
        clear hK K hHeld
        have hHeld:=hHeld2
        clear hHeld2
        (try simp only [Act.put,pus])
        refine tk (v:=?_) 12 rfl (by kernel_rfl) (fun _ _ _ h=>h) (by rfl) ?_ (by assumption) ?_
        rotate_left
        ·(intro w hSw;(try dsimp only at hSw);(try go_simp);(try with_reducible rfl))
        (try simp only [Act.put,pus])
        refine wpAnyH_done (by kernel_rfl) ?_ _
        (go_wp2_with fail;go_meet;exact⟨_,HO8.out,HOK8.out,hE⟩)
       exact AllReadyH.nil
      case rest=>
      obtain⟨K8,hO8,hOK8,hy8⟩:=hcut
      obtain⟨v1a,v1c,rfl,_,_⟩:=hO8.form
      have hK8:K8.length=N:=by have:=hO8.len;rwa [List.length_map,List.length_range] at this
      have hy1s:=HS.out.ext HX3.out
      obtain⟨V1,hG1⟩:=own_rowG (P:=Pg g (.slice av d cv)) (N:=N) (f:=fun c=>M j c / M j q) hO8 hK8 (fun c hc=>by rw [List.getD_eq_getElem?_getD,List.getElem?_map,List.getElem?_range hc];rfl) hOK8 (fun o hp=>by
       rcases hp with rfl | hp
       ·exact hy1s.blk.lt
       ·exact(World.ownsRow.lt hy1s.piv o hp).2)
      rw [hK8] at hG1 ⊢
      have hSc:=hy1s.ext hy8
      obtain⟨adv,cdv,edv,_⟩:=hSc.row d hdM
      have hcd9:=hSc.blk.cell hdM
      rw [edv] at hcd9
      have hcj9:=hSc.blk.cell hjM
      have hfj:=hSc.blk.free j
      have hS1:=hSc.put hjM (hSc.row d hdM)
      have hcd1:=hS1.blk.cell hdM
      have hfd:=hS1.blk.free d
      have hS2:=hS1.put hdM (hG1.grown (.inl rfl) (grownSet wc g j (val d)))
      rw [edv] at hS1 hcd1 hfd
      have HX4:=Lib.hid ((HX.out.trans HX3.out).trans hy8)
      have hwg:w.heap.size≤g:=HGB.out
      have HX5:Hid (Ext w ((wc.setCell ⟨g,j,none⟩ (val d)).setCell ⟨g,d,none⟩ (.slice v1a N v1c))):=Lib.hid ((HX4.out.set (p:=⟨g,j,none⟩) (by dsimp only;omega) _).set (p:=⟨g,d,none⟩) (by dsimp only;omega) _)
      have HS2:=Lib.hid (hS2.congr (M':=mixR M d j q 0) (V':=fun r=>if r=d then V1 else if r=j then V d else V r) (val':=fun r=>if r=d then .slice v1a N v1c else if r=j then val d else val r) (fun r hr=>⟨rfl,rfl,fun c hc=>by
       unfold mixR swapX
       by_cases e1:r=d
       ·simp only [e1,if_true]
       ·by_cases e2:r=j
        ·simp only [e1,e2,if_true,if_false,Nat.not_lt_zero]
         by_cases e3:j=d
         ·exact absurd (e2.trans e3) e1
         ·simp only [e3,if_false]
        ·simp only [e1,e2,if_false,Nat.not_lt_zero]⟩))
      rw [edv] at HX5 HS2
      clear hS1 hS2 hG1 hSc hy1s hO8 hOK8 hy8 hK8 c0 c1 c2 c3 hcj HRJ3 VJ3
      go_upto_region 14 with fail
      clear hcd9 hcj9 hfj hcd1 hfd edv
      generalize (wc.setCell ⟨g,j,none⟩ (.slice adv N cdv)).setCell ⟨g,d,none⟩ (.slice v1a N v1c)=w2 at HS2 HX5 ⊢
      go_wp2_with fail
      go_loopw [13] (fun v wr3=>∃i:Nat,i≤m∧v=.int .i64 i∧∃val' V',RedS wr3 w.heap.size g m N val' V' (mixR M d j q i) (.slice av d cv) ps∧val' d=.slice v1a N v1c∧Ext w wr3) (fun v _=>m - (intOf v).toNat)
      case atStart=>exact⟨0,Nat.zero_le _,rfl,_,_,HS2.out,if_pos rfl,HX5.out⟩
      case round=>
       obtain⟨i,him,rfl,val3,V3,hs3,hv3,hx3⟩:=hrel
       have i0:(0:Int)≤(i:Int):=by omega
       have HS3:=Lib.hid hs3
       have HV3:=Lib.hid hv3
       have HX6:=Lib.hid hx3
       clear hs3 hv3 hx3
       by_cases hi:i<m
       ·have i1:(i:Int)< (m:Int):=by omega
        have hwi:IntKind.i64.wrap ((i:Int)+1)= (i:Int)+1:=IntWalk.i64_in _ (by omega)
        by_cases hid:i=d
        ·have e1:((i:Int) == (d:Int))=true:=by rw [beq_iff_eq];omega
         have e1':(i == d)=true:=by rw [beq_iff_eq];omega
         go_wp2_with fail
         go_roundw
         case rel=>exact⟨i+1,by omega,by go_num,val3,V3,HS3.out.congr (fun r hr=>⟨rfl,rfl,fun c hc=>by rw [hid,mixR_skip]⟩),HV3.out,HX6.out⟩
         case measure=>simp [intOf];omega
        ·have e1:((i:Int) == (d:Int))=false:=by rw [beq_eq_false_iff_ne];omega
         have e1':(i == d)=false:=by rw [beq_eq_false_iff_ne];omega
         obtain⟨ai,ci,ei,hri,hpi,_⟩:=HS3.out.row i hi
         have hcc:=HS3.out.blk.cell hi
         rw [ei] at hcc
         obtain⟨bi,oi,rfl⟩:=hri.head hqN
         obtain⟨_,c0,c1,c2,c3⟩:=hri.cells _ rfl q hqN
         have vi:=hri.val q hqN
         have HBG:=Lib.hid (fun e:bi=g=>hpi (by omega) _ rfl (.inl e))
         have ile:=hri.le
         have imx:=hri.mx
         obtain⟨ad,cd,ed,hrd,_,_⟩:=HS3.out.row d hdM
         rw [HV3.out,Value.slice.injEq] at ed
         obtain⟨rfl,_,rfl⟩:=ed
         have HRI:=Lib.hid hri
         have HRD:=Lib.hid hrd
         have HEI:=Lib.hid ei
         have HVQ:Hid (∃x,V3 i q=x):=Lib.hid ⟨_,rfl⟩
         generalize V3 i q=xi at *
         obtain⟨ny,ay,qy,cy,my,b_y,ky,dy⟩:=xi
         dsimp only [RatC.val] at c0 c1 c2 c3 vi
         have VI:=Lib.hid vi
         have HSI:Hid ((∀c,c<N→Sz (mixR M d j q i i c) 682)∧∀c,c<N→Sz (mixR M d j q i d c) 682):=Lib.hid ⟨fun c hc=>by rw [mixR_at M hid];exact HZS.out i c hi hc,fun c hc=>by rw [mixR_top];exact HZQ.out c hc⟩
         have HPP:Hid (∀o,Pg g (.slice av d cv) o→o<wr.heap.size):=Lib.hid fun o hp=>by
          rcases hp with rfl | hp
          ·exact HS3.out.blk.lt
          ·exact(World.ownsRow.lt HS3.out.piv o hp).2
         clear hri hrd ei vi HVQ hpi
         go_upto_region 18 with fail
         have hE:Ext wr (World.drew wr):=(Ext.refl _).drew
         have hyd:Ext wr (World.drew wr):=(Ext.refl _).drew
         replace HRI:=Lib.hid (HRI.out.ext hyd)
         replace HRD:=Lib.hid (HRD.out.ext hyd)
         replace VI:=Lib.hid (VI.out.ext hyd)
         replace HS3:=Lib.hid (HS3.out.ext hyd)
         have s0:=cell_exQ hyd hcc
         have s1:=cell_exQ hyd c0
         have s2:=cell_exQ hyd c1
         have s3:=cell_exQ hyd c2
         have s4:=cell_exQ hyd c3
         clear hyd hcc c0 c1 c2 c3
         refine wp_region_held_drew (S:=(fun w'=>World.cell? w' ⟨bi,oi+q*4,none⟩=some (.bool ny)∧World.cell? w' ⟨bi,oi+q*4+1,none⟩=some (.slice ay qy cy)∧World.cell? w' ⟨bi,oi+q*4+2,none⟩=some (.bool my)∧World.cell? w' ⟨bi,oi+q*4+3,none⟩=some (.slice b_y ky dy))) (by kernel_rfl) ?_ (fun hHeld=>?_)
         ·exact⟨s1,s2,s3,s4⟩
         (try simp only [pur,Nat.reduceAdd])
         generalize World.drew wr=x2 at *
         refine tk (v:=?_) 0 rfl (by kernel_rfl) (fun _ _ _ h=>h) (by rfl) ?_ (by assumption) ?_
         rotate_left
         ·(intro w hSw;(try dsimp only at hSw);(try go_simp);(try with_reducible rfl))
         (try simp only [Act.put,pus])
         refine tk (v:=?_) 1 rfl (by kernel_rfl) (fun _ _ _ h=>h) (by rfl) ?_ (by assumption) ?_
         rotate_left
         ·(intro w hSw;(try dsimp only at hSw);(try go_simp);(try with_reducible rfl))
         (try simp only [Act.put,pus])
         refine tk (v:=?_) 2 rfl (by kernel_rfl) (fun _ _ _ h=>h) (by rfl) ?_ (by assumption) ?_
         rotate_left
         ·(intro w hSw;(try dsimp only at hSw);(try go_simp);(try with_reducible rfl))
         (try simp only [Act.put,pus])
         refine tk (v:=?_) 3 rfl (by kernel_rfl) (fun _ _ _ h=>h) (by rfl) ?_ (by assumption) ?_
         rotate_left
         ·(intro w hSw;(try dsimp only at hSw);(try go_simp);(try with_reducible rfl))
         (try simp only [Act.put,pus])
         refine tk (v:=?_) 4 rfl (by kernel_rfl) (fun _ _ _ h=>h) (by rfl) ?_ (by assumption) ?_
         rotate_left
         ·(intro w hSw;(try dsimp only at hSw);(try go_simp);(try with_reducible rfl))
         (try simp only [Act.put,pus])
         refine tk (v:=?_) 6 rfl (by kernel_rfl) (fun _ _ _ h=>h) (by rfl) ?_ (by assumption) ?_
         rotate_left
         ·(intro w hSw;(try dsimp only at hSw);(try go_simp);(try with_reducible rfl))
         (try simp only [Act.put,pus])
         refine tk (v:=?_) 7 rfl (by kernel_rfl) (fun _ _ _ h=>h) (by rfl) ?_ (by assumption) ?_
         rotate_left
         ·(intro w hSw;(try dsimp only at hSw);(try go_simp);(try with_reducible rfl))
         (try simp only [Act.put,pus])
         refine tk (v:=?_) 8 rfl (by kernel_rfl) (fun _ _ _ h=>h) (by rfl) ?_ (by assumption) ?_
         rotate_left
         ·(intro w hSw;(try dsimp only at hSw);(try go_simp);(try with_reducible rfl))
         (try simp only [Act.put,pus])
         refine tk (v:=?_) 9 rfl (by kernel_rfl) (fun _ _ _ h=>h) (by rfl) ?_ (by assumption) ?_
         rotate_left
         ·(intro w hSw;(try dsimp only at hSw);(try go_simp);(try with_reducible rfl))
         (try simp only [Act.put,pus])
         refine tk (v:=?_) 11 rfl (by kernel_rfl) (fun _ _ _ h=>h) (by rfl) ?_ (by assumption) ?_
         rotate_left
         ·(intro w hSw;(try dsimp only at hSw);(try go_simp);(try with_reducible rfl))
         (try simp only [Act.put,pus])
         refine wpAnyH_ready (rs:=[5,10]) (by kernel_rfl) (by simp) ?_
         refine AllReadyH.cons (o:=_) rfl (fun K hK=>?_) ?_
         ·go_simp
          refine hK.out _ _ ?_ (fun hHeld2=>?_)
          ·exact⟨s1,s2,s3,s4⟩
          clear hK K hHeld
          have hHeld:=hHeld2
          clear hHeld2
          (try simp only [Act.put,pus])
          refine wpAnyH_ready (rs:=[10]) (by kernel_rfl) (by simp) ?_
          refine AllReadyH.cons (o:=_) rfl (fun K hK=>?_) ?_
          ·go_simp
           refine hK.out _ _ ?_ (fun hHeld2=>?_)
           ·exact⟨s1,s2,s3,s4⟩
           clear hK K hHeld
           have hHeld:=hHeld2
           clear hHeld2
           (try simp only [Act.put,pus])
           refine tk (v:=?_) 12 rfl (by kernel_rfl) (fun _ _ _ h=>h) (by rfl) ?_ (by assumption) ?_
           rotate_left
           ·(intro w hSw;(try dsimp only at hSw);(try go_simp);(try with_reducible rfl))
           (try simp only [Act.put,pus])
           refine tk (v:=?_) 13 rfl (by kernel_rfl) (fun _ _ _ h=>h) (by rfl) ?_ (by assumption) ?_
           rotate_left
           ·(intro w hSw;(try dsimp only at hSw);(try go_simp);(try with_reducible rfl))
           (try simp only [Act.put,pus])
           refine wpAnyH_ready (rs:=[14]) (by kernel_rfl) (by simp) ?_
           refine AllReadyH.cons (o:=_) rfl (fun K hK=>?_) ?_
           ·go_simp
            have hzx:=hE.size;(with_reducible refine(ref_lessR (some ⟨bi,oi,none⟩) ci N (V3 i) (mixR M d j q i i) v1a v1c (V3 d) (mixR M d j q i d) ny my ay b_y qy cy ky dy (mixR M d j q i i q) 682 682 682 _ HRI.out HRD.out VI.out ⟨HSI.out.1,HSI.out.2,HSI.out.1 q hqN,by omega⟩ (by omega)).mono ?_);rintro e8 y2 ⟨v8,K9,rfl,hO8,hOK8,hy⟩;obtain⟨va,vc,rfl,_,_⟩:=hO8.form;replace hE:=hE.trans hy;replace s0:=cell_exQ hy s0;replace s1:=cell_exQ hy s1;replace s2:=cell_exQ hy s2;replace s3:=cell_exQ hy s3;replace s4:=cell_exQ hy s4;replace HS3:=Lib.hid (HS3.out.ext hy);have HO8:=Lib.hid (hO8.low hzx);have HOK8:=Lib.hid (fun x hx o ho=>hOK8 x hx o (Nat.lt_of_lt_of_le ho hzx));clear hy hO8 hOK8 hzx
            refine hK.out _ _ ?_ (fun hHeld2=>?_)
            ·exact⟨s1,s2,s3,s4⟩
            clear hK K hHeld
            have hHeld:=hHeld2
            clear hHeld2
            (try simp only [Act.put,pus])
            refine tk (v:=?_) 15 rfl (by kernel_rfl) (fun _ _ _ h=>h) (by rfl) ?_ (by assumption) ?_
            rotate_left
            ·(intro w hSw;(try dsimp only at hSw);(try go_simp);(try with_reducible rfl))
            (try simp only [Act.put,pus])
            refine wpAnyH_ready (rs:=[16]) (by kernel_rfl) (by simp) ?_
            refine AllReadyH.cons (o:=_) rfl (fun K hK=>?_) ?_
            ·have p0:=HS3.out.blk.cell hi;have p1:=HS3.out.blk.free i;go_simp;clear p0 p1;replace s1:=cellSet s1 HBG.out (i:=i) (.slice va K9.length vc);replace s2:=cellSet s2 HBG.out (i:=i) (.slice va K9.length vc);replace s3:=cellSet s3 HBG.out (i:=i) (.slice va K9.length vc);replace s4:=cellSet s4 HBG.out (i:=i) (.slice va K9.length vc);obtain⟨V8,hG8⟩:=own_rowG (P:=Pg g (.slice av d cv)) (N:=N) (f:=fun c=>mixR M d j q i i c - mixR M d j q i d c*mixR M d j q i i q) HO8.out (by have:=HO8.out.len;rwa [List.length_map,List.length_range] at this) (fun c hc=>by rw [List.getD_eq_getElem?_getD,List.getElem?_map,List.getElem?_range hc];rfl) HOK8.out HPP.out;have HSN:=Lib.hid ((HS3.out.put hi hG8).congr (M':=mixR M d j q (i+1)) fun r hr=>⟨rfl,rfl,fun c _=>mixR_put M hid r c⟩);have HVN:=Lib.hid ((if_neg (fun e=>hid e.symm)).trans HV3.out:(if d=i then Value.slice va K9.length vc else val3 d)=.slice v1a N v1c);have HXN:=Lib.hid ((HX6.out.trans hE).set (p:=⟨g,i,none⟩) (by dsimp only;omega) (.slice va K9.length vc));clear hG8
             refine hK.out _ _ ?_ (fun hHeld2=>?_)
             ·exact⟨s1,s2,s3,s4⟩
             clear hK K hHeld
             have hHeld:=hHeld2
             clear hHeld2
             (try simp only [Act.put,pus])
             refine wpAnyH_done (by kernel_rfl) ?_ _
             go_wp2_with fail
             go_roundw
             case rel=>exact⟨i+1,by omega,by go_num,_,_,HSN.out,HVN.out,HXN.out⟩
             case measure=>simp [intOf];omega
            exact AllReadyH.nil
           exact AllReadyH.nil
          exact AllReadyH.nil
         refine AllReadyH.cons (o:=_) rfl (fun K hK=>?_) ?_
         ·go_simp
          refine hK.out _ _ ?_ (fun hHeld2=>?_)
          ·exact⟨s1,s2,s3,s4⟩
          clear hK K hHeld
          have hHeld:=hHeld2
          clear hHeld2
          (try simp only [Act.put,pus])
          refine tk (v:=?_) 12 rfl (by kernel_rfl) (fun _ _ _ h=>h) (by rfl) ?_ (by assumption) ?_
          rotate_left
          ·(intro w hSw;(try dsimp only at hSw);(try go_simp);(try with_reducible rfl))
          (try simp only [Act.put,pus])
          refine tk (v:=?_) 13 rfl (by kernel_rfl) (fun _ _ _ h=>h) (by rfl) ?_ (by assumption) ?_
          rotate_left
          ·(intro w hSw;(try dsimp only at hSw);(try go_simp);(try with_reducible rfl))
          (try simp only [Act.put,pus])
          refine wpAnyH_ready (rs:=[5]) (by kernel_rfl) (by simp) ?_
          refine AllReadyH.cons (o:=_) rfl (fun K hK=>?_) ?_
          ·go_simp
           refine hK.out _ _ ?_ (fun hHeld2=>?_)
           ·exact⟨s1,s2,s3,s4⟩
           clear hK K hHeld
           have hHeld:=hHeld2
           clear hHeld2
           (try simp only [Act.put,pus])
           refine wpAnyH_ready (rs:=[14]) (by kernel_rfl) (by simp) ?_
           refine AllReadyH.cons (o:=_) rfl (fun K hK=>?_) ?_
           ·go_simp
            have hzx:=hE.size;(with_reducible refine(ref_lessR (some ⟨bi,oi,none⟩) ci N (V3 i) (mixR M d j q i i) v1a v1c (V3 d) (mixR M d j q i d) ny my ay b_y qy cy ky dy (mixR M d j q i i q) 682 682 682 _ HRI.out HRD.out VI.out ⟨HSI.out.1,HSI.out.2,HSI.out.1 q hqN,by omega⟩ (by omega)).mono ?_);rintro e8 y2 ⟨v8,K9,rfl,hO8,hOK8,hy⟩;obtain⟨va,vc,rfl,_,_⟩:=hO8.form;replace hE:=hE.trans hy;replace s0:=cell_exQ hy s0;replace s1:=cell_exQ hy s1;replace s2:=cell_exQ hy s2;replace s3:=cell_exQ hy s3;replace s4:=cell_exQ hy s4;replace HS3:=Lib.hid (HS3.out.ext hy);have HO8:=Lib.hid (hO8.low hzx);have HOK8:=Lib.hid (fun x hx o ho=>hOK8 x hx o (Nat.lt_of_lt_of_le ho hzx));clear hy hO8 hOK8 hzx
            refine hK.out _ _ ?_ (fun hHeld2=>?_)
            ·exact⟨s1,s2,s3,s4⟩
            clear hK K hHeld
            have hHeld:=hHeld2
            clear hHeld2
            (try simp only [Act.put,pus])
            refine tk (v:=?_) 15 rfl (by kernel_rfl) (fun _ _ _ h=>h) (by rfl) ?_ (by assumption) ?_
            rotate_left
            ·(intro w hSw;(try dsimp only at hSw);(try go_simp);(try with_reducible rfl))
            (try simp only [Act.put,pus])
            refine wpAnyH_ready (rs:=[16]) (by kernel_rfl) (by simp) ?_
            refine AllReadyH.cons (o:=_) rfl (fun K hK=>?_) ?_
            ·have p0:=HS3.out.blk.cell hi;have p1:=HS3.out.blk.free i;go_simp;clear p0 p1;replace s1:=cellSet s1 HBG.out (i:=i) (.slice va K9.length vc);replace s2:=cellSet s2 HBG.out (i:=i) (.slice va K9.length vc);replace s3:=cellSet s3 HBG.out (i:=i) (.slice va K9.length vc);replace s4:=cellSet s4 HBG.out (i:=i) (.slice va K9.length vc);obtain⟨V8,hG8⟩:=own_rowG (P:=Pg g (.slice av d cv)) (N:=N) (f:=fun c=>mixR M d j q i i c - mixR M d j q i d c*mixR M d j q i i q) HO8.out (by have:=HO8.out.len;rwa [List.length_map,List.length_range] at this) (fun c hc=>by rw [List.getD_eq_getElem?_getD,List.getElem?_map,List.getElem?_range hc];rfl) HOK8.out HPP.out;have HSN:=Lib.hid ((HS3.out.put hi hG8).congr (M':=mixR M d j q (i+1)) fun r hr=>⟨rfl,rfl,fun c _=>mixR_put M hid r c⟩);have HVN:=Lib.hid ((if_neg (fun e=>hid e.symm)).trans HV3.out:(if d=i then Value.slice va K9.length vc else val3 d)=.slice v1a N v1c);have HXN:=Lib.hid ((HX6.out.trans hE).set (p:=⟨g,i,none⟩) (by dsimp only;omega) (.slice va K9.length vc));clear hG8
             refine hK.out _ _ ?_ (fun hHeld2=>?_)
             ·exact⟨s1,s2,s3,s4⟩
             clear hK K hHeld
             have hHeld:=hHeld2
             clear hHeld2
             (try simp only [Act.put,pus])
             refine wpAnyH_done (by kernel_rfl) ?_ _
             go_wp2_with fail
             go_roundw
             case rel=>exact⟨i+1,by omega,by go_num,_,_,HSN.out,HVN.out,HXN.out⟩
             case measure=>simp [intOf];omega
            exact AllReadyH.nil
           exact AllReadyH.nil
          exact AllReadyH.nil
         exact AllReadyH.nil
       ·have i1:¬ (i:Int)< (m:Int):=by omega
        obtain rfl:i=m:=by omega
        have HS4:=Lib.hid (HS3.out.congr (val':=val3) (V':=V3) (M':=stepX M d j q) fun r hr=>⟨rfl,rfl,fun c _=>mixR_all M r hr c⟩)
        have hya:=Ext.alloc wr (.cells #[.int .i64 q] 3)
        have HBz:=Lib.hid (Blk.new0 wr #[.int .i64 q] 3)
        have HXa:=Lib.hid (HX6.out.trans hya)
        have HS5:=Lib.hid (HS4.out.ext hya)
        have hpv:=HS5.out.piv
        rw [hd] at hpv
        have HPV:=Lib.hid hpv
        clear hya hpv HS4 HS3
        go_wp2_with (at_builtin;go_loud (refine wpl_append_row rfl (.tmp 93) (.tmp 95) 40 3 rfl (z:=.int .i64 0) (k:=1) (by_:=8) Tryz.underlying40 infoIntU rfl (by decide) (B:=w.heap.size) HXa.out.size rfl HPV.out rfl (fun e=>by cases e) (news:=[.int .i64 q]) rfl (fun A' hA j u hu=>by cases hA;exact one_news HBz.out hu) (fun u hu=>by rw [List.mem_singleton.1 hu];rfl) (by omega) (by omega) ?_;intro v9 x9 ho hg hnl hat;have HS9:=Lib.hid (HS5.out.push (by rw [hd];exact ho) hg hat);have HE9:Hid (Ext w x9):=Lib.hid (Below.grown HXa.out hg HXa.out.size (fun r e=>(World.ownsRow.lt HPV.out r e).1));clear ho hg hnl hat))
        go_roundw
        case rel=>exact⟨q+1,by omega,by go_num,_,_,by rw [HSX.out];exact HS9.out,HE9.out⟩
        case measure=>simp [intOf];omega
    ·have j1:¬ (j:Int)< (m:Int):=by omega
     obtain rfl:j=m:=by omega
     have hfi:findX M q d (j - d)=none:=find_no (m:=j) (by omega) HZR.out
     have g1:((j:Int) == (j:Int))=true:=by simp
     have HSX:Hid (elimX j A (q+1)= ⟨M,ps⟩):=Lib.hid (by rw [HSQ.out];unfold colX;dsimp only;rw [hd,hfi])
     clear hfi
     go_wp2_with fail
     go_roundw
     case rel=>exact⟨q+1,by omega,by go_num,val,V,by rw [HSX.out];exact HS.out.ext HX2.out,HX.out.trans HX2.out⟩
     case measure=>simp [intOf];omega
  ·have q1:¬ (q:Int)< (n:Int):=by omega
   obtain rfl:q=n:=by omega
   have hmcg:m≤cg:=hcg
   have hT:=rows_to (g:=g) hdm hmcg hcm
   obtain⟨ad,hR,had⟩:=rows_rest (g:=g) hdm hmcg hcm
   have HSE:Hid (∃S,elimX m A q=S):=Lib.hid ⟨_,rfl⟩
   generalize hSe:elimX m A q=S at *
   obtain⟨M,ps⟩:=S
   dsimp only at HS hdm hT hR had
   have HSQ:=Lib.hid hSe
   clear HSE hSe
   generalize hd:ps.length=d at *
   go_upto_region 20 with fail
   go_quiet (fail)
   go_wp2_with fail
   go_ret3
   subst hd
   unfold RedP
   rw [HSQ.out]
   exact⟨g,cg,_,ad,val,V,rfl,had,HS.out.ext ((Ext.refl _).drewN _),hmcg,hcm,HX.out.drewN _⟩
end Go.Proofs.YtokffagbdfhnnaaGreat
