import Derived.Test.YtokffagbdfhnnaaGreatU2
import Derived.Test.YtokffagbdfhnnaaGreatNB
import Derived.OwnWalk
import Derived.Deep.QuietTactic
namespace Go.Proofs.YtokffagbdfhnnaaGreat
open Go.RowKit Go Go.Shelf
set_option maxRecDepth 100000
def SeqS {α:Type} (n:Nat) (P:Program) (g:Nat) (lb:Array Value) (encs:α→Array Value) (Ok Rd S:List α→World→Prop) (w:World):Prop:=
 ∀ (l:Nat) (J:List α→World→Prop) (W:World),Below w.heap.size w W→AbidesFrom W.heap.size J→
  (∀pre x W1,J pre W1→Ok (pre ++ [x]) W1→YieldAt Fence.wide (n - 1) P l (encs x) W1 fun e W'=>e=.returned (.bool true)∧J (pre ++ [x]) W'∧Rd (pre ++ [x]) W')→
  J [] W→Rd [] W→CallsIn Fence.wide n P g (#[.func (.yield l) #[] #[]] ++ lb) W fun e W'=>(∃v,e=.returned v)∧∃xs,S xs W'∧J xs W'
section
variable {P:Program} {n:Nat}
theorem wpIn_rangeFunc_ownS {α:Type} {g:Operand} {ps:Array Tmp} {assign body:Code} {Q:Exit→Act→World→Prop} {a:Act} {w:World}
 (h1:1≤n) {gf:Nat} {lb:Array Value} (hg:a.eval g=.func (.func gf) #[] lb) (eg:∀args w,(callFunc gf args).run P w=.ok (.enter gf args) w)
 {encs:α→Array Value} {Ok Rd S:List α→World→Prop} (hseq:SeqS (n - 1) P gf lb encs Ok Rd S w)
 (hps:∀x,(encs x).size=ps.size)
 (I:List α→World→Prop) (hI:OwnFrom w.heap.size I) (hOk:OwnFrom w.heap.size Ok) (hRd:OwnFrom w.heap.size Rd) (hS:OwnFrom w.heap.size S) (h0:I [] w) (hr0:Rd [] w) (a₁:α→Act)
 (hassign:∀ (l:Nat) (x:α) (W:World) (K:Act→World→Prop),K (a₁ x) W→
   assign.wpIn (Fence.wide.inRound l) (n - 1 - 1) P (Exit.then K (fun _ _ _=>False)) {tmps:=(ps.zip (encs x)).foldl (fun t (p,v)=>t.setIfInBounds p v) a.tmps,defers:=[]} W)
 (hbody:∀ (l:Nat) (pre:List α) (x:α) (W:World),I pre W→Ok (pre ++ [x]) W→body.wpIn (Fence.wide.inRound l) (n - 1 - 1) P (ownPostK (fun _ W'=>Rd (pre ++ [x]) W') I (fun _ _ _=>False) (pre ++ [x]) W) (a₁ x) W)
 (hdone:∀ (D:Nat) (xs:List α) (W:World),w.heap.size≤D→S xs W→I xs W→W.heap[D]? =some (.deferred (some []))→Q .normal {a with defers:={target:=.collected D,args:=#[]} :: a.defers} W):
 (Code.rangeFunc g ps assign body).wpIn Fence.wide n P Q a w:=by
 refine wpIn_rangeFunc ?_
 intro fn hfn
 rw [show Fence.wide.round=none from rfl]
 obtain⟨rec,hrec⟩:∃rec:LoopState→Option Code→Loop,rec=fun st pe=>{state:=st,pending:=pe,fn,tmps:=a.tmps,params:=ps,assign,body,defers:=w.heap.size}:=⟨_,rfl⟩
 obtain⟨W1,hW1⟩:∃W1,(w.alloc (.deferred (some []))).alloc (.loop (rec .ready none))=W1:=⟨_,rfl⟩
 have hL1:W1.heap[w.heap.size+1]? =some (.loop (rec .ready none)):=by
  rw [←hW1];have:=World.alloc_heap_new (w.alloc (.deferred (some []))) (.loop (rec .ready none));rwa [World.size_alloc] at this
 have hK1:W1.heap[w.heap.size]? =some (.deferred (some [])):=by
  rw [←hW1];exact(Below.heap_alloc _ _ _ (by simp)).trans (World.alloc_heap_new w _)
 have hI1:I [] W1:=by rw [←hW1];exact hI.alloc _ (hI.alloc _ h0)
 have hr1:Rd [] W1:=by rw [←hW1];exact hRd.alloc _ (hRd.alloc _ hr0)
 have hb1:Below w.heap.size w W1:=by
  rw [←hW1];exact((Below.refl _ w).alloc (Nat.le_refl _) _).alloc (by simp) _
 refine⟨w.heap.size+1,[{target:=.collected w.heap.size,args:=#[]}],W1,{target:=.fn (.func gf) lb,args:=#[.func (.yield (w.heap.size+1)) #[] #[]]},W1,gf,
  #[.func (.yield (w.heap.size+1)) #[] #[]] ++ lb,W1,?_,?_,?_,?_,fun _=>h1,?_⟩
 ·rw [←hW1,hrec];exact run_enterLoop_outer _ _ _ _ _
 ·simp only [resolve,hg]
  simp [go_sem]
 ·intro f' hf';trivial
 ·simp [invoke,go_sem,eg]
 ·have hnw:∀{A B:World} {row:Option Nat},(∀r,row=some r→W1.heap.size≤r∧∃o:Obj,A.heap[r]? =some o∧o.isWalk=true)→(∀r,row=some r→w.heap.size≤r∧∃o:Obj,A.heap[r]? =some o∧o.isCells=false):=
   fun hr r e=>by obtain⟨hB,o,ho,hw⟩:=hr r e;exact⟨by rw [←hW1] at hB;simp at hB;omega,o,ho,Obj.not_cells_of_walk hw⟩
  refine(hseq (w.heap.size+1)
   (fun pre W=>I pre W∧W.heap[w.heap.size+1]? =some (.loop (rec .ready none))∧W.heap[w.heap.size]? =some (.deferred (some [])))
   W1 hb1
   (fun s A B row hs hg' hr=>⟨hI s A B row hs.1 hg' (hnw (B:=B) hr),(grownBy_keeps hg' (fun r e=>(hr r e).2) hs.2.1 rfl).trans hs.2.1,(grownBy_keeps hg' (fun r e=>(hr r e).2) hs.2.2 rfl).trans hs.2.2⟩)
   ?_ ⟨hI1,hL1,hK1⟩ hr1).mono ?_
  ·rintro pre x W ⟨hi,hl,hk⟩ hok
   have hlt:w.heap.size+1<W.heap.size:=(Array.getElem?_eq_some_iff.1 hl).1
   have hy:=run_yield (P:=P) (args:=encs x) hl (by rw [hrec];exact hps x)
   rw [hrec] at hy
   refine⟨fn,_,assign,body,hy,roundIn_of_wpIn hfn (hassign _ x W _ ⟨_,run_beginRound hl (by rw [hrec]),?_⟩)⟩
   have hl2:(W.putObj (w.heap.size+1) (.loop {rec .ready none with state:=.busy})).heap[w.heap.size+1]? =some (.loop {rec .ready none with state:=.busy}):=World.putObj_heap_same hlt
   have hk2:(W.putObj (w.heap.size+1) (.loop {rec .ready none with state:=.busy})).heap[w.heap.size]? =some (.deferred (some [])):=(World.putObj_heap_other (by omega)).trans hk
   refine wpIn_mono (hbody _ pre x _ (hI.putObj _ hi (by omega) hl rfl) (hOk.putObj _ hok (by omega) hl rfl)) ?_
   have fin:∀ (jump:Option Code) (W3:World),KeepsOthers (W.putObj (w.heap.size+1) (.loop {rec .ready none with state:=.busy})) W3→
    (Instr.endRound (w.heap.size+1) jump).run P W3=.ok (.bool jump.isNone) (W3.putObj (w.heap.size+1) (.loop (rec (if jump.isNone then .ready else .done) jump)))∧
    W3.heap[w.heap.size+1]? =some (.loop {rec .ready none with state:=.busy})∧
    (W3.putObj (w.heap.size+1) (.loop (rec (if jump.isNone then .ready else .done) jump))).heap[w.heap.size+1]? =some (.loop (rec (if jump.isNone then .ready else .done) jump))∧
    (W3.putObj (w.heap.size+1) (.loop (rec (if jump.isNone then .ready else .done) jump))).heap[w.heap.size]? =some (.deferred (some [])):=fun jump W3 hk3=>by
    have hl3:=hk3.same _ _ hl2 rfl
    have:=run_endRound (P:=P) jump hl3
    rw [hrec] at this ⊢
    exact⟨this,by rw [hrec] at hl3;exact hl3,World.putObj_heap_same (Array.getElem?_eq_some_iff.1 hl3).1,(World.putObj_heap_other (by omega)).trans (hk3.same _ _ hk2 rfl)⟩
   rintro e a3 W3 hp
   cases e with
   | normal=>
    obtain⟨hk3,hrd3,hi3⟩:=hp
    obtain⟨hr,hl3,hl4,hk4⟩:=fin none W3 hk3
    exact⟨_,_,hr,rfl,⟨hI.putObj _ hi3 (by omega) hl3 rfl,hl4,hk4⟩,hRd.putObj _ hrd3 (by omega) hl3 rfl⟩
   | ret=>exact hp.2.elim
   | exit id=>exact hp.2.elim
   | goto t=>exact hp.2.elim
   | panic ch=>exact hp.elim
   | outgrown=>exact hp.elim
  ·rintro e W2 ⟨⟨v,rfl⟩,xs,hS2,hi,hl,hk⟩
   exact⟨none,_,by have:=run_endLoop (P:=P) hl (by rw [hrec];simp);rw [hrec] at this;exact this,hdone _ xs _ (Nat.le_refl _) (hS.putObj _ hS2 (by omega) hl rfl) (hI.putObj _ hi (by omega) hl rfl) ((World.putObj_heap_other (by omega)).trans hk)⟩
end
end Go.Proofs.YtokffagbdfhnnaaGreat
namespace Go.Proofs.YtokffagbdfhnnaaGreat
open Go.RowKit Go BigFrame Go.Shelf
set_option maxRecDepth 100000
set_option linter.unusedSimpArgs false
set_option linter.unusedVariables false
theorem grown_of_extU {A B:World} (h:Ext A B):A.grownBy B none:=⟨h.os,h.tape,h.output,h.size,fun k hk _=>h.block k hk⟩
theorem num_zero {q:Rat}:q.num=0↔q=0:=Rat.num_eq_zero
theorem matrix_is (n m:Bool) (a b:Option Addr) (q c k d:Nat) (r:Rat) (w:World) (h:RatV w (.agg #[.bool n,.slice a q c,.bool m,.slice b k d]) r):
 Calls Tryz.prog 51 #[.agg #[.bool n,.slice a q c,.bool m,.slice b k d]] w fun e w'=>e=.returned (.bool (decide (r=0)))∧Ext w w':=by
 have h0:q=0↔r=0:=(BigV.len0 h.num).trans num_zero
 have hx:=Ext.alloc w (.cells #[.bool n,.slice a q c,.bool m,.slice b k d] 44)
 have hb:=Blk.new0 w #[.bool n,.slice a q c,.bool m,.slice b k d] 44
 have c1:=hb.cell (i:=1) rfl
 have hd:decide (q=0)=decide (r=0):=by simp only [h0]
 have HX:=Lib.hid hx
 have HD:=Lib.hid hd
 clear h h0 hb hx hd
 go_enter Tryz.func51,Tryz.ntmps51
 go_wp2_with fail
 go_ret
 have hq:(((q:Nat):Int) == 0)=decide (q=0):=by rw [Bool.eq_iff_iff];simp
 exact⟨congrArg (fun x=>Ending.returned (Value.bool x)) (hq.trans HD.out),HX.out⟩
theorem pivots_many (p:Nat) (a:Option Addr) (l c:Nat) (w:World) (h:w.cell? ⟨p,0,none⟩=some (.slice a l c)):
 Calls Tryz.prog 28 #[.pointer (some ⟨p,0,none⟩)] w fun e w'=>e=.returned (.int .i64 l)∧w=w':=by
 go_enter Tryz.func28,Tryz.ntmps28
 go_wp2_with fail
 go_ret
 exact⟨rfl,rfl⟩
theorem system_columns (p:Nat) (n:Int) (w:World):
 Calls Tryz.prog 49 #[.pointer (some ⟨p,0,none⟩),.int .i64 n] w fun e w'=>e=.returned (.func (.func 72) #[] #[.pointer (some ⟨w.heap.size+1,0,none⟩),.pointer (some ⟨w.heap.size,0,none⟩)])∧
  w'= (w.alloc (.cells #[.pointer (some ⟨p,0,none⟩)] 47)).alloc (.cells #[.int .i64 n] 3):=by
 go_enter Tryz.func49,Tryz.ntmps49
 go_wp2_with fail
 go_ret
 exact⟨by simp,rfl⟩
def nextX (l:List (Nat × Nat)):Nat:=match l.getLast? with | none=>0 | some x=>x.1+1
theorem nextX_snoc (l:List (Nat × Nat)) (x:Nat × Nat):nextX (l ++ [x])=x.1+1:=by unfold nextX;rw [List.getLast?_concat]
def OkC (m n:Nat) (A:Mx) (l:List (Nat × Nat)) (_:World):Prop:=∀pre x,l=pre ++ [x]→x.1<n∧elimX m A x.1=elimX m A (nextX pre)∧findX (elimX m A x.1).M x.1 (elimX m A x.1).ps.length (m - (elimX m A x.1).ps.length)=some x.2
def RdC (B p m N:Nat) (ra:Option Addr) (R rc bn bs n:Nat) (A:Mx) (l:List (Nat × Nat)) (W:World):Prop:=
 (∃g cp V va,Sys W B p m N ra R rc g cp V (elimX m A (nextX l)).M va (elimX m A (nextX l)).ps∧va.ownBlock≠some bn)∧Blk W bn #[.int .i64 n] 3∧Blk W bs #[.pointer (some ⟨p,0,none⟩)] 47
def EndC (m n:Nat) (A:Mx) (l:List (Nat × Nat)) (_:World):Prop:=elimX m A n=elimX m A (nextX l)
theorem find_step {M:Mx} {k m:Nat}:∀{j d i:Nat},d+j=m→d≤i→i<m→(∀r,d≤r→r<i→M r k=0)→M i k≠0→findX M k d j=some i
 | 0,d,i,h,h1,h2,_,_=>by omega
 | j+1,d,i,h,h1,h2,h3,h4=>by
  unfold findX
  by_cases e:d=i
  ·subst e;rw [if_pos h4]
  ·rw [if_neg (by simpa using h3 d (Nat.le_refl _) (by omega))]
   exact find_step (by omega) (by omega) h2 (fun r hr1 hr2=>h3 r (by omega) hr2) h4
theorem find_no {M:Mx} {k m:Nat}:∀{j d:Nat},d+j=m→(∀r,d≤r→r<m→M r k=0)→findX M k d j=none
 | 0,d,_,_=>rfl
 | j+1,d,h,h3=>by
  unfold findX
  rw [if_neg (by simpa using h3 d (Nat.le_refl _) (by omega))]
  exact find_no (by omega) fun r h1 h2=>h3 r (by omega) h2
theorem RdC.ext {B p m N:Nat} {ra:Option Addr} {R rc bn bs n:Nat} {A:Mx} {l:List (Nat × Nat)} {W W':World} (h:RdC B p m N ra R rc bn bs n A l W) (k:Ext W W'):RdC B p m N ra R rc bn bs n A l W':=by
 obtain⟨⟨g,cp,V,va,hs,hv⟩,h1,h2⟩:=h
 exact⟨⟨g,cp,V,va,hs.ext k,hv⟩,h1.ext k,h2.ext k⟩
set_option maxHeartbeats 4000000 in
theorem columns_seq (nn:Nat) (B p m N:Nat) (ra:Option Addr) (R rc bn bs n:Nat) (A:Mx) (hn:n≤N) (hN:N≤1000) (hm:m≤1000) (w:World):
 SeqS nn Tryz.prog 72 #[.pointer (some ⟨bn,0,none⟩),.pointer (some ⟨bs,0,none⟩)] (fun x:Nat × Nat=>#[.int .i64 x.1,.int .i64 x.2]) (OkC m n A) (RdC B p m N ra R rc bn bs n A) (EndC m n A) w:=fun lp J W hW hJ hY h0 hr0=>by
 obtain⟨_,hbn,hbs⟩:=id hr0
 have c0:=hbn.cell (i:=0) rfl
 have HR0:=Lib.hid hr0
 clear hbn hbs hr0
 refine callsIn_of_wp Tryz.func72 rfl trivial ?_ rfl
 simp only [Tryz.ntmps72,List.size_toArray,List.length_cons,List.length_nil,Nat.reduceAdd,Nat.reduceSub,Array.replicate_succ,Array.replicate_zero,List.push_toArray,List.append_toArray,List.nil_append,List.cons_append]
 gi_wp2
 gi_loopw [7] (fun i wr=>∃ (k:Nat) (xs:List (Nat × Nat)),k≤n∧i=.int .i64 k∧elimX m A k=elimX m A (nextX xs)∧nextX xs≤k∧J xs wr∧RdC B p m N ra R rc bn bs n A xs wr) (fun i _=>n - (intOf i).toNat)
 case atStart=>exact⟨0,[],Nat.zero_le _,rfl,rfl,Nat.le_refl _,h0,HR0.out⟩
 case round=>
  obtain⟨k,xs,hk,rfl,hel,hnx,hJs,hrd⟩:=hrel
  clear c0
  by_cases hlt:k<n
  ·have g1:(0:Int)≤(k:Int):=by omega
   have g2:(k:Int)< (n:Int):=by omega
   obtain⟨⟨g,cp,V,va,hs,_⟩,hbn,hbs⟩:=id hrd
   have d0:=hbs.cell (i:=0) rfl
   have d1:=hs.box.cell (i:=0) rfl
   have d2:=hs.box.cell (i:=1) rfl
   obtain⟨av,lv,cv,hva,hvl⟩:∃a l c,va=.slice a l c∧l= (elimX m A (nextX xs)).ps.length:=by
    rcases hs.atl.2 with⟨rfl,h0⟩ | ⟨_,_,_,rfl,_⟩
    ·exact⟨_,_,_,rfl,h0.symm⟩
    ·exact⟨_,_,_,rfl,rfl⟩
   subst hva
   have HS:=Lib.hid hs
   have HRD:=Lib.hid hrd
   have HJ:=Lib.hid hJs
   have HEL:=Lib.hid hel
   have HNX:=Lib.hid hnx
   have HLV:=Lib.hid hvl
   clear hs hrd hJs hel hnx hbn hbs hvl
   gi_wp2
   refine⟨trivial,fun h=>(by cases h),?_⟩
   refine(callsIn_wide.2 (pivots_many p av lv cv _ d1)).mono ?_
   rintro e w2 ⟨rfl,rfl⟩
   clear d0 d1 d2
   gi_wp2
   gi_loopw [5] (fun i wx=>∃r:Nat,lv≤r∧r≤m∧i=.int .i64 r∧(∀s,lv≤s→s<r→(elimX m A k).M s k=0)∧J xs wx∧RdC B p m N ra R rc bn bs n A xs wx) (fun i _=>m - (intOf i).toNat)
   case atStart=>exact⟨lv,Nat.le_refl _,by have:=(elimX_ech m A (nextX xs)).le;have:=HLV.out;omega,rfl,fun s h1 h2=>by omega,HJ.out,HRD.out⟩
   case round=>
    obtain⟨r,hr1,hr2,rfl,hz,hJr,hRr⟩:=hrel
    obtain⟨⟨g',cp',V',va',hs,_⟩,hbn,hbs⟩:=id hRr
    rw [←HEL.out] at hs
    have d0:=hbs.cell (i:=0) rfl
    have d2:=hs.box.cell (i:=1) rfl
    have r0:(0:Int)≤(r:Int):=by omega
    by_cases hrm:r<m
    ·have r1:(r:Int)< (m:Int):=by omega
     have k1:(k:Int)< (N:Int):=by omega
     obtain rfl:=hs.hra (by omega)
     have d3:=hs.top hrm
     obtain⟨e0,e1,e2,e3⟩:=(hs.row r hrm).cells (c:=k) (by omega)
     have HV:=Lib.hid (hs.val r hrm k (by omega))
     have hrc:=hs.hrc
     have hcp:=hs.cap r hrm
     generalize V' r k=x at *
     obtain⟨xn,xa,xq,xc,xm,xb,xk,xd⟩:=x
     dsimp only [RatC.val] at e0 e1 e2 e3 HV
     have HRr:=Lib.hid hRr
     have HJr:=Lib.hid hJr
     have HZ:=Lib.hid hz
     generalize g' r=gr at *
     clear hs hbn hbs hRr hJr hz
     gi_wp2
     refine⟨trivial,fun h=>(by cases h),?_⟩
     refine(callsIn_wide.2 (matrix_is xn xm xa xb xq xc xk xd _ _ HV.out)).mono ?_
     rintro e w2 ⟨rfl,hy⟩
     have hJ2:J xs w2:=hJ _ _ _ none HJr.out (grown_of_extU hy) (fun r e=>by cases e)
     have hR2:=HRr.out.ext hy
     clear e0 e1 e2 e3 d0 d2 d3 hy HV
     by_cases hM:(elimX m A k).M r k=0
     ·have hd:decide ((elimX m A k).M r k=0)=true:=decide_eq_true hM
      rw [hd]
      have w1:IntKind.i64.wrap ((r:Int)+1)= (r:Int)+1:=IntWalk.i64_in _ (by omega)
      have HM:=Lib.hid hM
      have HJ2:=Lib.hid hJ2
      have HR2:=Lib.hid hR2
      clear hM hd hJ2 hR2
      gi_wp2
      go_roundw
      case rel=>exact⟨r+1,by omega,by omega,by go_num,fun s h1 h2=>(by
       by_cases e:s=r
       ·rw [e];exact HM.out
       ·exact HZ.out s h1 (by omega)),HJ2.out,HR2.out⟩
      case measure=>simp [intOf];omega
     ·have hd:decide ((elimX m A k).M r k=0)=false:=decide_eq_false hM
      rw [hd]
      have hps:lv= (elimX m A k).ps.length:=by rw [HEL.out];exact HLV.out
      have hok:OkC m n A (xs ++ [(k,r)]) w2:=fun pre x e=>by
       obtain⟨e1,e2⟩:=List.append_inj' e rfl
       subst e1
       cases e2
       refine⟨hlt,HEL.out,?_⟩
       rw [←hps]
       exact find_step (m:=m) (by omega) hr1 hrm HZ.out hM
      obtain⟨fn,tmps,assign,body,hy,hR⟩:=hY _ (k,r) w2 hJ2 hok
      clear hM hd hJ2 hR2 hok hps
      gi_wp2
      refine⟨fun h=>(by cases h),?_⟩
      refine hR.mono ?_
      rintro e W3 ⟨rfl,hJ3,hR3⟩
      have HJ3:=Lib.hid hJ3
      have HR3:=Lib.hid hR3
      clear hJ3 hR3 hy hR
      have w1:IntKind.i64.wrap ((k:Int)+1)= (k:Int)+1:=IntWalk.i64_in _ (by omega)
      gi_wp2
      exact⟨⟨k+1,xs ++ [(k,r)],by omega,by go_num,by rw [nextX_snoc],by rw [nextX_snoc];exact Nat.le_refl _,HJ3.out,HR3.out⟩,by simp [intOf];omega⟩
    ·have r1:¬ (r:Int)< (m:Int):=by omega
     have HRr:=Lib.hid hRr
     have HJr:=Lib.hid hJr
     have HZ:=Lib.hid hz
     clear hs hbn hbs hRr hJr hz
     have w1:IntKind.i64.wrap ((k:Int)+1)= (k:Int)+1:=IntWalk.i64_in _ (by omega)
     gi_wp2
     have hcol:elimX m A (k+1)=elimX m A k:=by
      show colX m (elimX m A k) k=_
      unfold colX
      have hps:lv= (elimX m A k).ps.length:=by rw [HEL.out];exact HLV.out
      have:=(elimX_ech m A k).le
      rw [find_no (m:=m) (by omega) fun s h1 h2=>HZ.out s (by omega) (by omega)]
     exact⟨⟨k+1,xs,by omega,by go_num,hcol.trans HEL.out,by have:=HNX.out;omega,HJr.out,HRr.out⟩,by simp [intOf];omega⟩
  ·obtain rfl:k=n:=by omega
   gi_wp2
   go_end0
   exact⟨⟨_,rfl⟩,xs,hel,hJs⟩
end Go.Proofs.YtokffagbdfhnnaaGreat
