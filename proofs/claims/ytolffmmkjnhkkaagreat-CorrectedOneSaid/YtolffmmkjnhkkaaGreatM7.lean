import Derived.Test.YtolffmmkjnhkkaaGreatM5
import Derived.OwnWalk
import Derived.Deep.QuietTactic
namespace Go.Proofs.YtolffmmkjnhkkaaGreat
open Go.RowKit Go BigFrame Go.Shelf
set_option maxRecDepth 100000
set_option linter.unusedSimpArgs false
set_option linter.unusedVariables false
theorem mcaught_panicking (b:Nat) (x e:Int) (older:List PanicEntry) (w:World) (hb:Blk w b #[.int .i64 x] 27):
 CallsD Tryz.prog 51 #[.pointer (some ⟨b,0,none⟩)] (.panicking ({v:=.iface 98 (.agg #[.int .i64 e]),recovered:=false} :: older)) w fun r u' w'=>
  r=.returned (.tuple #[])∧u'=.panicking ({v:=.iface 98 (.agg #[.int .i64 e]),recovered:=true} :: older)∧∃w1,Ext w w1∧w'=w1.setCell ⟨b,0,none⟩ (.int .i64 e):=by
 have hta:∀ (v:Value) (w:World),(Instr.typeAssert (.iface 98 v) 20 98 true).run Tryz.prog w=.ok (.tuple #[v,.bool true]) w:=fun _ _=>by kernel_rfl
 have hb2:=hb.alloc (.cells #[.int .i64 e] 98)
 have hc:=hb2.cell (i:=0) rfl
 have hz:=hb2.free 0
 refine callsD_of_wpS Tryz.func51 rfl fun c₀ cs hu=>?_
 apply wpS_seq
 apply wpS_region
 simp [wpOpsS,go_sem,recoverD,hu,Tryz.ntmps51,Exit.thenS]
 apply wpS_seq
 apply wpS_region
 simp [wpOpsS,go_sem,Exit.thenS]
 refine wpS_cond (t:=true) (by simp [Act.eval,Array.replicate]) ?_
 simp only [if_true]
 apply wpS_seq
 apply wpS_region
 simp [wpOpsS,go_sem,Exit.thenS,hta]
 apply wpS_seq
 apply wpS_seq
 apply wpS_region
 simp [wpOpsS,go_sem,Exit.thenS]
 refine wpS_cond (t:=false) (by simp [Act.eval,Array.replicate]) ?_
 simp only [Bool.false_eq_true,if_false]
 refine wpS_of_wp (wp_skip ?_)
 simp only [Exit.thenS]
 apply wpS_region
 simp [wpOpsS,go_sem,hc,hz,bodyPostS,results,Tryz.results51]
 exact⟨_,Ext.alloc _ _,rfl⟩
theorem mcaught_idle (p:Addr) (w:World):
 CallsD Tryz.prog 51 #[.pointer (some p)] .returning w fun e u' w'=>e=.returned (.tuple #[])∧u'=.returning∧w'=w:=by
 refine callsD_of_wpS Tryz.func51 rfl fun c₀ cs hu=>?_
 apply wpS_seq
 apply wpS_region
 simp [wpOpsS,go_sem,recoverD,hu,Tryz.ntmps51,Exit.thenS]
 apply wpS_seq
 apply wpS_region
 simp [wpOpsS,go_sem,Exit.thenS]
 refine wpS_cond (t:=false) (by simp [Act.eval,Array.replicate]) ?_
 simp only [Bool.false_eq_true,if_false]
 refine wpS_of_wp (wp_skip ?_)
 cases c₀
 simp_all [bodyPostS,results,Tryz.results51]
theorem rows1_okR (pe pl:Nat) (w:World) (h:Blk w pe #[.int .i64 0] 27):
 CallsD Tryz.prog 50 #[.pointer (some ⟨pe,0,none⟩),.pointer (some ⟨pl,0,none⟩)] .returning w fun e u' w'=>u'=.returning∧e=.returned (.tuple #[])∧w=w':=by
 have c0:=h.cell (i:=0) (v:=.int .i64 0) rfl
 go_enter_d Tryz.func50,Tryz.ntmps50
 go_wp2_with fail
 go_end0
 exact⟨rfl,rfl⟩
theorem rows1_errR (pe pl:Nat) (E:Int) (v:Value) (t:TypeId) (w:World) (h:Blk w pe #[.int .i64 E] 27) (hE:E≠0) (hl:Blk w pl #[v] t):
 CallsD Tryz.prog 50 #[.pointer (some ⟨pe,0,none⟩),.pointer (some ⟨pl,0,none⟩)] .returning w fun e u' w'=>u'=.returning∧e=.returned (.tuple #[])∧w'=w.setCell ⟨pl,0,none⟩ (.slice none 0 0):=by
 have c0:=h.cell (i:=0) (v:=.int .i64 E) rfl
 have t1:(E != 0)=true:=by simpa using hE
 have d0:=hl.cell (i:=0) (v:=v) rfl
 have f0:=hl.free 0
 clear h hl hE
 go_enter_d Tryz.func50,Tryz.ntmps50
 go_wp2_with fail
 go_end0
 exact⟨rfl,rfl⟩
theorem rows1_ok (pe pl:Nat) (w:World) (h:Blk w pe #[.int .i64 0] 27):
 CallsD Tryz.prog 56 #[.pointer (some ⟨pe,0,none⟩),.pointer (some ⟨pl,0,none⟩)] .returning w fun e u' w'=>u'=.returning∧e=.returned (.tuple #[])∧w=w':=by
 have c0:=h.cell (i:=0) (v:=.int .i64 0) rfl
 go_enter_d Tryz.func56,Tryz.ntmps56
 go_wp2_with fail
 go_end0
 exact⟨rfl,rfl⟩
theorem rows1_err (pe pl:Nat) (E:Int) (v:Value) (t:TypeId) (w:World) (h:Blk w pe #[.int .i64 E] 27) (hE:E≠0) (hl:Blk w pl #[v] t):
 CallsD Tryz.prog 56 #[.pointer (some ⟨pe,0,none⟩),.pointer (some ⟨pl,0,none⟩)] .returning w fun e u' w'=>u'=.returning∧e=.returned (.tuple #[])∧w'=w.setCell ⟨pl,0,none⟩ (.slice none 0 0):=by
 have c0:=h.cell (i:=0) (v:=.int .i64 E) rfl
 have t1:(E != 0)=true:=by simpa using hE
 have d0:=hl.cell (i:=0) (v:=v) rfl
 have f0:=hl.free 0
 clear h hl hE
 go_enter_d Tryz.func56,Tryz.ntmps56
 go_wp2_with fail
 go_end0
 exact⟨rfl,rfl⟩
end Go.Proofs.YtolffmmkjnhkkaaGreat
namespace Go.Proofs.YtolffmmkjnhkkaaGreat
open Go.RowKit Go BigFrame Go.Shelf
set_option maxRecDepth 100000
set_option linter.unusedSimpArgs false
set_option linter.unusedVariables false
attribute [local go_sem] Oper.semAt_some
theorem run_append_ownG {α:Type} {R:World→Value→α→Prop} {Off:α→Option Nat→Prop} (hR:RdG R Off) {a0 w:World} (t et:TypeId) (ht:Tryz.prog.underlying t=some (.slice et)) {z:Value} (hz:z.cells.size=1) (hi:(Tryz.prog.info? et).map (fun i=>(i.zero,i.size,i.bytes))=some (some z,1,24))
 (hx0:Ext a0 w) {v:Value} {xs:List α} (hown:OwnG R Off w a0.heap.size et v xs) {g:Nat} {u:Value} {bt:TypeId} (hb:Blk w g #[u] bt) {y:α} (hu:R w u y) (hoff:Off y v.ownBlock) (hlen:xs.length≤1000000) (ty:TypeId):
 ∃va vc w',(Builtin.append_ #[t,t] ty #[v,.slice (some ⟨g,0,none⟩) 1 1]).run Tryz.prog w=.ok (.slice va (xs.length+1) vc) w'∧OwnG R Off w' a0.heap.size et (.slice va (xs.length+1) vc) (xs ++ [y])∧Ext a0 w'∧w.grownBy w' v.ownBlock:=by
 obtain⟨i0,hi0,hz0,hz1,hz2⟩:=info_parts hi
 obtain⟨vs,hvs,hel⟩:=hown.ex
 obtain⟨v',w',h0,h1,h2,h3,h4⟩:=run_append_own_at w a0.heap.size t ty et i0 z 1 24 ht hi0 hz0 hz1 hz2 hz (by decide) v xs.length vs hvs ⟨g,0,none⟩ 1 1 [u] rfl (fun j q hq=>by
  have e:((⟨g,0,none⟩:Addr).add j)= ⟨g,j,none⟩:=by unfold Addr.add;split <;> simp_all
  rw [e]
  exact hb.cell (by simpa using hq)) (fun q hq=>by rw [List.mem_singleton.1 hq];exact hR.one _ _ _ hu) (by unfold maxLen;omega) (by omega) hx0.size
 have hm:=hown.more hR hvs hel hu hoff h1 h2 h4
 obtain⟨va,vc,e,_⟩:=hm.form
 rw [List.length_append,List.length_singleton] at e
 subst e
 exact⟨va,vc,w',h0,hm,Below.grown hx0 h2 hx0.size (fun k e=>(hown.lt k e).1),h2⟩
theorem step_append_ownG {α:Type} {R:World→Value→α→Prop} {Off:α→Option Nat→Prop} (hR:RdG R Off) {ops:Array Oper} {o:Oper} {a:Act} {K:Act→World→Prop} {Q:Exit→Act→World→Prop} {E:Prop} (hgd:o.guard=none) (s x:Operand) (t et:TypeId)
 (ho:o.op=.call {callee:=.builtin .append,args:=#[s,x],argTypes:=#[t,t]}) (ht:Tryz.prog.underlying t=some (.slice et)) {z:Value} (hz:z.cells.size=1) (hi:(Tryz.prog.info? et).map (fun i=>(i.zero,i.size,i.bytes))=some (some z,1,24)) {a0 w:World}
 (hx0:Ext a0 w) {v:Value} {xs:List α} (hs:a.eval s=v) (hown:OwnG R Off w a0.heap.size et v xs) {g:Nat} (hx:a.eval x=.slice (some ⟨g,0,none⟩) 1 1) {u:Value} {bt:TypeId} (hb:Blk w g #[u] bt) {y:α} (hu:R w u y) (hoff:Off y v.ownBlock) (hlen:xs.length≤1000000)
 (h:∀va vc w',OwnG R Off w' a0.heap.size et (.slice va (xs.length+1) vc) (xs ++ [y])→Ext a0 w'→w.grownBy w' v.ownBlock→K (a.put o.dst (.slice va (xs.length+1) vc)) w'):
 if Region.wanted o (yielded ops a.tmps)=true then Oper.wp Tryz.prog o a w K Q else E:=by
 have hw:Region.wanted o (yielded ops a.tmps)=true:=by simp [Region.wanted,hgd]
 rw [if_pos hw]
 obtain⟨va,vc,w',hr,h1,h2,h3⟩:=run_append_ownG hR t et ht hz hi hx0 hown hb hu hoff hlen o.type
 unfold Oper.wp execOp
 simp only [ho,resolve,invoke,builtin,Sem.run_bind,Sem.run_pure,Result.andThen_ok,List.map_toArray,List.map_cons,List.map_nil,hs,hx,hr]
 exact h va vc w' h1 h2 h3
theorem OwnG.apart {α:Type} {R:World→Value→α→Prop} {Off:α→Option Nat→Prop} {w:World} {B:Nat} {t t':TypeId} {v:Value} {xs:List α} (h:OwnG R Off w B t v xs) {p:Nat} {cs:Array Value} (hp:Blk w p cs t') (ht:t≠t'):v.ownBlock≠some p:=by
 obtain⟨vs,ho,_⟩:=h.ex
 rcases ho.2 with⟨rfl,_⟩ | ⟨g,cap,cur,rfl,_,hg,_⟩
 ·intro e;cases e
 ·intro e
  simp only [Value.ownBlock,Option.some.injEq] at e
  subst e
  have h2:w.heap[g]? =some (.cells cs t'):=hp
  rw [h2] at hg
  cases hg
  exact ht rfl
theorem grown_set (w:World) (p:Nat) (i:Nat) (u:Value):w.grownBy (w.setCell ⟨p,i,none⟩ u) (some p):=⟨rfl,rfl,rfl,by simp,fun k hk hne=>Below.heap_setCell _ ⟨p,i,none⟩ _ _ (fun e=>hne (by rw [e]))⟩
theorem OwnG.other {α:Type} {R:World→Value→α→Prop} {Off:α→Option Nat→Prop} (hR:RdG R Off) {w:World} {B:Nat} {t:TypeId} {v:Value} {xs:List α} (h:OwnG R Off w B t v xs) {p:Nat} (hp:v.ownBlock≠some p) (ho:∀x∈xs,Off x (some p)) (i:Nat) (u:Value):
 OwnG R Off (w.setCell ⟨p,i,none⟩ u) B t v xs:=by
 obtain⟨vs,hw,hx⟩:=h.ex
 refine⟨vs,⟨hw.1,?_⟩,fun j hj=>?_⟩
 ·rcases hw.2 with h2 | ⟨g,cap,cur,e,hb,hg,hr⟩
  ·exact .inl h2
  ·subst e
   have hne:p≠g:=fun e=>hp (by rw [e];rfl)
   exact .inr ⟨g,cap,cur,rfl,hb,(Below.heap_setCell w ⟨p,i,none⟩ u g (fun e=>hne e.symm)).trans hg,hr⟩
 ·obtain⟨x,e,h1,h2⟩:=hx j hj
  exact⟨x,e,hR.grown _ _ _ _ _ h1 (grown_set w p i u) (ho _ (List.getElem_mem hj)),h2⟩
theorem OwnOs.apartO {w:World} {B:Nat} {v:Value} {L:List RatC} {rs:List (Option Rat)} (h:OwnOs w B v L rs) {p:Nat} {cs:Array Value} {t':TypeId} (hp:Blk w p cs t') (ht:38≠t'):v.ownBlock≠some p:=by
 rcases h.own.2 with⟨rfl,_⟩ | ⟨g,cap,cur,rfl,_,hg,_⟩
 ·intro e;cases e
 ·intro e
  simp only [Value.ownBlock,Option.some.injEq] at e
  subst e
  have h2:w.heap[g]? =some (.cells cs t'):=hp
  rw [h2] at hg
  cases hg
  exact ht rfl
theorem OwnOs.other {w:World} {B:Nat} {v:Value} {L:List RatC} {rs:List (Option Rat)} (h:OwnOs w B v L rs) {p:Nat} (hp:v.ownBlock≠some p) (ho:∀x∈L,x.Off (some p)) (i:Nat) (u:Value):OwnOs (w.setCell ⟨p,i,none⟩ u) B v L rs:=by
 refine⟨h.len,⟨h.own.1,?_⟩,fun j hj=>(h.val j hj).grown (grown_set w p i u) (ho _ (List.getElem_mem hj)),h.apart⟩
 rcases h.own.2 with h2 | ⟨g,cap,cur,e,hb,hg,hr⟩
 ·exact .inl h2
 ·subst e
  have hne:p≠g:=fun e=>hp (by rw [e];rfl)
  exact .inr ⟨g,cap,cur,rfl,hb,(Below.heap_setCell w ⟨p,i,none⟩ u g (fun e=>hne e.symm)).trans hg,hr⟩
theorem Blk.grown {w w':World} {b:Nat} {cs:Array Value} {t:TypeId} {row:Option Nat} (h:Blk w b cs t) (hg:w.grownBy w' row) (hr:row≠some b):Blk w' b cs t:=(hg.block b h.lt (fun e=>hr e.symm)).trans h
end Go.Proofs.YtolffmmkjnhkkaaGreat
