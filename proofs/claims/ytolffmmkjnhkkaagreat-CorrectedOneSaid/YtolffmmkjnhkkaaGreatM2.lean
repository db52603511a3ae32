import Derived.Test.YtolffmmkjnhkkaaGreatM1
import Derived.Test.YtolffmmkjnhkkaaGreatNB
import Derived.OrdersIn
namespace Go.Proofs.YtolffmmkjnhkkaaGreat
open Go.RowKit Go Go.Shelf
set_option maxRecDepth 100000
def SeqY {α:Type} (n:Nat) (P:Program) (g:Nat) (lb:Array Value) (encs:α→Array Value) (Ok:List α→World→Prop) (Kp:World→World→Prop) (S Sp:List α→Prop) (w:World):Prop:=
 ∀ (l:Nat) (J Jx:List α→World→Prop) (W:World),Below w.heap.size w W→AbidesFrom W.heap.size J→AbidesFrom W.heap.size Jx→
  (∀pre x W1,J pre W1→Ok (pre ++ [x]) W1→YieldAt Fence.wide (n - 1) P l (encs x) W1 fun e W'=>
    (e=.returned (.bool true)∧J (pre ++ [x]) W'∧Kp W1 W')∨(e=.returned (.bool false)∧Jx (pre ++ [x]) W'))→
  J [] W→CallsIn Fence.wide n P g (#[.func (.yield l) #[] #[]] ++ lb) W fun e W'=>(∃v,e=.returned v)∧((∃xs,S xs∧J xs W')∨(∃pre,Sp pre∧Jx pre W'))
section
variable {P:Program} {n:Nat}
theorem wpIn_rangeFunc_boxY {α:Type} {g:Operand} {ps:Array Tmp} {assign body:Code} {Q:Exit→Act→World→Prop} {a:Act} {w:World}
 (h1:1≤n) {gf:Nat} {lb:Array Value} (hg:a.eval g=.func (.func gf) #[] lb) (eg:∀args w,(callFunc gf args).run P w=.ok (.enter gf args) w)
 {encs:α→Array Value} {Ok:List α→World→Prop} {Kp:World→World→Prop} {S Sp:List α→Prop} (hseq:SeqY (n - 1) P gf lb encs Ok Kp S Sp w)
 (hKt:∀{A B C:World},Kp A B→Kp B C→Kp A C) (hKb:∀ (W:World) (l:Nat) (o o':Obj),w.heap.size≤l→W.heap[l]? =some o→o.isCells=false→o.isWalk=false→Kp W (W.putObj l o')) (hps:∀x,(encs x).size=ps.size)
 (I:List α→World→Prop) (Ix:Code→List α→World→Prop) (hI:OwnFrom w.heap.size I) (hIx:∀c,OwnFrom w.heap.size (Ix c)) (hOk:OwnFrom w.heap.size Ok) (h0:I [] w) (hKa:∀ (W:World) (o:Obj),Kp W (W.alloc o)) (bx:α→Array Value) (bt:TypeId) (a₁:α→Nat→Act)
 (hassign:∀ (l:Nat) (x:α) (W:World) (K:Act→World→Prop),K (a₁ x W.heap.size) (W.alloc (.cells (bx x) bt))→
   assign.wpIn (Fence.wide.inRound l) (n - 1 - 1) P (Exit.then K (fun _ _ _=>False)) {tmps:=(ps.zip (encs x)).foldl (fun t (p,v)=>t.setIfInBounds p v) a.tmps,defers:=[]} W)
 (hbody:∀ (l:Nat) (pre:List α) (x:α) (W:World),I pre W→Ok (pre ++ [x]) W→∀b:Nat,W.heap[b]? =some (.cells (bx x) bt (0,0))→w.heap.size≤b→body.wpIn (Fence.wide.inRound l) (n - 1 - 1) P (ownPostK Kp I Ix (pre ++ [x]) W) (a₁ x b) W)
 (hdone:∀ (D:Nat) (xs:List α) (W:World),w.heap.size≤D→S xs→I xs W→W.heap[D]? =some (.deferred (some []))→Q .normal {a with defers:={target:=.collected D,args:=#[]} :: a.defers} W)
 (hstop:∀ (D:Nat) (c:Code) (pre:List α) (W:World),w.heap.size≤D→Sp pre→Ix c pre W→W.heap[D]? =some (.deferred (some []))→c.wpIn Fence.wide n P Q {a with defers:={target:=.collected D,args:=#[]} :: a.defers} W):
 (Code.rangeFunc g ps assign body).wpIn Fence.wide n P Q a w:=by
 refine wpIn_rangeFunc ?_
 intro fn hfn
 rw [show Fence.wide.round=none from rfl]
 obtain⟨rec,hrec⟩:∃rec:LoopState→Option Code→Loop,rec=fun st pe=>{state:=st,pending:=pe,fn,tmps:=a.tmps,params:=ps,assign,body,defers:=w.heap.size}:=⟨_,rfl⟩
 obtain⟨W1,hW1⟩:∃W1,(w.alloc (.deferred (some []))).alloc (.loop (rec .ready none))=W1:=⟨_,rfl⟩
 have hL1:W1.heap[w.heap.size+1]? =some (.loop (rec .ready none)):=by
  rw [←hW1];have:=World.alloc_heap_new (w.alloc (.deferred (some []))) (.loop (rec .ready none));rwa [World.size_alloc] at this
 have hK1:W1.heap[w.heap.size]? =some (.deferred (some [])):=by
  rw [←hW1];exact(Below.heap_alloc _ _ _ (by simp)).trans (World.alloc_heap_new w _)
 have hI1:I [] W1:=by rw [←hW1];exact hI.alloc _ (hI.alloc _ h0)
 have hb1:Below w.heap.size w W1:=by
  rw [←hW1];exact((Below.refl _ w).alloc (Nat.le_refl _) _).alloc (by simp) _
 refine⟨w.heap.size+1,[{target:=.collected w.heap.size,args:=#[]}],W1,{target:=.fn (.func gf) lb,args:=#[.func (.yield (w.heap.size+1)) #[] #[]]},W1,gf,
  #[.func (.yield (w.heap.size+1)) #[] #[]] ++ lb,W1,?_,?_,?_,?_,fun _=>h1,?_⟩
 ·rw [←hW1,hrec];exact run_enterLoop_outer _ _ _ _ _
 ·simp only [resolve,hg]
  simp [go_sem]
 ·intro f' hf';trivial
 ·simp [invoke,go_sem,eg]
 ·have hnw:∀{A B:World} {row:Option Nat},(∀r,row=some r→W1.heap.size≤r∧∃o:Obj,A.heap[r]? =some o∧o.isWalk=true)→(∀r,row=some r→w.heap.size≤r∧∃o:Obj,A.heap[r]? =some o∧o.isCells=false):=
   fun hr r e=>by obtain⟨hB,o,ho,hw⟩:=hr r e;exact⟨by rw [←hW1] at hB;simp at hB;omega,o,ho,Obj.not_cells_of_walk hw⟩
  refine(hseq (w.heap.size+1)
   (fun pre W=>I pre W∧W.heap[w.heap.size+1]? =some (.loop (rec .ready none))∧W.heap[w.heap.size]? =some (.deferred (some [])))
   (fun pre W=>∃c,Ix c pre W∧W.heap[w.heap.size+1]? =some (.loop (rec .done (some c)))∧W.heap[w.heap.size]? =some (.deferred (some [])))
   W1 hb1
   (fun s A B row hs hg' hr=>⟨hI s A B row hs.1 hg' (hnw (B:=B) hr),(grownBy_keeps hg' (fun r e=>(hr r e).2) hs.2.1 rfl).trans hs.2.1,(grownBy_keeps hg' (fun r e=>(hr r e).2) hs.2.2 rfl).trans hs.2.2⟩)
   (fun s A B row hs hg' hr=>by
     obtain⟨c,hc,hl,hk⟩:=hs
     exact⟨c,hIx c s A B row hc hg' (hnw (B:=B) hr),(grownBy_keeps hg' (fun r e=>(hr r e).2) hl rfl).trans hl,(grownBy_keeps hg' (fun r e=>(hr r e).2) hk rfl).trans hk⟩)
   ?_ ⟨hI1,hL1,hK1⟩).mono ?_
  ·rintro pre x W ⟨hi,hl,hk⟩ hok
   have hlt:w.heap.size+1<W.heap.size:=(Array.getElem?_eq_some_iff.1 hl).1
   have hy:=run_yield (P:=P) (args:=encs x) hl (by rw [hrec];exact hps x)
   rw [hrec] at hy
   have hl0:(W.alloc (.cells (bx x) bt)).heap[w.heap.size+1]? =some (.loop (rec .ready none)):=(Below.heap_alloc _ _ _ hlt).trans hl
   have hk0:(W.alloc (.cells (bx x) bt)).heap[w.heap.size]? =some (.deferred (some [])):=(Below.heap_alloc _ _ _ (by omega)).trans hk
   have hbx:(W.alloc (.cells (bx x) bt)).heap[W.heap.size]? =some (.cells (bx x) bt (0,0)):=World.alloc_heap_new W _
   have hbB:w.heap.size≤W.heap.size:=by omega
   have hi0:=hI.alloc (.cells (bx x) bt) hi
   have hok0:=hOk.alloc (.cells (bx x) bt) hok
   have hKW:=hKa W (.cells (bx x) bt)
   have hlt0:w.heap.size+1< (W.alloc (.cells (bx x) bt)).heap.size:=by rw [World.size_alloc];omega
   refine⟨fn,_,assign,body,hy,roundIn_of_wpIn hfn (hassign _ x W _ ⟨_,run_beginRound hl0 (by rw [hrec]),?_⟩)⟩
   clear hy hl hk hi hok hlt
   generalize W.alloc (.cells (bx x) bt)=Z at *
   generalize W.heap.size=bz at *
   have hl:=hl0;have hk:=hk0;have hi:=hi0;have hok:=hok0;have hlt:=hlt0
   have hl2:(Z.putObj (w.heap.size+1) (.loop {rec .ready none with state:=.busy})).heap[w.heap.size+1]? =some (.loop {rec .ready none with state:=.busy}):=World.putObj_heap_same hlt
   have hk2:(Z.putObj (w.heap.size+1) (.loop {rec .ready none with state:=.busy})).heap[w.heap.size]? =some (.deferred (some [])):=(World.putObj_heap_other (by omega)).trans hk
   have hw2:Kp Z (Z.putObj (w.heap.size+1) (.loop {rec .ready none with state:=.busy})):=hKb _ _ _ _ (by omega) hl rfl rfl
   refine wpIn_mono (hbody _ pre x _ (hI.putObj _ hi (by omega) hl rfl) (hOk.putObj _ hok (by omega) hl rfl) bz ((World.putObj_heap_other (fun e=>by rw [e,hl0] at hbx;cases hbx)).trans hbx) hbB) ?_
   have fin:∀ (jump:Option Code) (W3:World),KeepsOthers (Z.putObj (w.heap.size+1) (.loop {rec .ready none with state:=.busy})) W3→
    (Instr.endRound (w.heap.size+1) jump).run P W3=.ok (.bool jump.isNone) (W3.putObj (w.heap.size+1) (.loop (rec (if jump.isNone then .ready else .done) jump)))∧
    W3.heap[w.heap.size+1]? =some (.loop {rec .ready none with state:=.busy})∧
    (W3.putObj (w.heap.size+1) (.loop (rec (if jump.isNone then .ready else .done) jump))).heap[w.heap.size+1]? =some (.loop (rec (if jump.isNone then .ready else .done) jump))∧
    (W3.putObj (w.heap.size+1) (.loop (rec (if jump.isNone then .ready else .done) jump))).heap[w.heap.size]? =some (.deferred (some [])):=fun jump W3 hk3=>by
    have hl3:=hk3.same _ _ hl2 rfl
    have:=run_endRound (P:=P) jump hl3
    rw [hrec] at this ⊢
    exact⟨this,by rw [hrec] at hl3;exact hl3,World.putObj_heap_same (Array.getElem?_eq_some_iff.1 hl3).1,(World.putObj_heap_other (by omega)).trans (hk3.same _ _ hk2 rfl)⟩
   rintro e a3 W3 hp
   cases e with
   | normal=>
    obtain⟨hk3,hkp3,hi3⟩:=hp
    obtain⟨hr,hl3,hl4,hk4⟩:=fin none W3 hk3
    exact⟨_,_,hr,.inl ⟨rfl,⟨hI.putObj _ hi3 (by omega) hl3 rfl,hl4,hk4⟩,hKt hKW (hKt (hKt hw2 hkp3) (hKb _ _ _ _ (by omega) hl3 rfl rfl))⟩⟩
   | ret=>
    obtain⟨hk3,hi3⟩:=hp
    obtain⟨hr,hl3,hl4,hk4⟩:=fin (some .ret) W3 hk3
    exact⟨_,_,hr,.inr ⟨rfl,.ret,(hIx _).putObj _ hi3 (by omega) hl3 rfl,hl4,hk4⟩⟩
   | exit id=>
    obtain⟨hk3,hi3⟩:=hp
    obtain⟨hr,hl3,hl4,hk4⟩:=fin (some (.exit id)) W3 hk3
    exact⟨_,_,hr,.inr ⟨rfl,.exit id,(hIx _).putObj _ hi3 (by omega) hl3 rfl,hl4,hk4⟩⟩
   | goto t=>
    obtain⟨hk3,hi3⟩:=hp
    obtain⟨hr,hl3,hl4,hk4⟩:=fin (some (.goto t)) W3 hk3
    exact⟨_,_,hr,.inr ⟨rfl,.goto t,(hIx _).putObj _ hi3 (by omega) hl3 rfl,hl4,hk4⟩⟩
   | panic ch=>exact hp.elim
   | outgrown=>exact hp.elim
  ·rintro e W2 ⟨⟨v,rfl⟩,(⟨xs,hS,hi,hl,hk⟩ | ⟨pre,hSp,c,hi,hl,hk⟩)⟩
   ·exact⟨none,_,by have:=run_endLoop (P:=P) hl (by rw [hrec];simp);rw [hrec] at this;exact this,hdone _ xs _ (Nat.le_refl _) hS (hI.putObj _ hi (by omega) hl rfl) ((World.putObj_heap_other (by omega)).trans hk)⟩
   ·exact⟨some c,_,by have:=run_endLoop (P:=P) hl (by rw [hrec];simp);rw [hrec] at this;exact this,hstop _ c pre _ (Nat.le_refl _) hSp ((hIx c).putObj _ hi (by omega) hl rfl) ((World.putObj_heap_other (by omega)).trans hk)⟩
end
end Go.Proofs.YtolffmmkjnhkkaaGreat
namespace Go.Proofs.YtolffmmkjnhkkaaGreat
open Go.RowKit Go BigFrame Go.Shelf
set_option maxRecDepth 100000
set_option linter.unusedSimpArgs false
set_option linter.unusedVariables false
attribute [local go_sem] Oper.semAt_some
def KeepC (Gs:List Nat) (A B:World):Prop:=A.heap.size≤B.heap.size∧∀k cs t f,k ∉ Gs→A.heap[k]? =some (.cells cs t f)→B.heap[k]? =some (.cells cs t f)
theorem KeepC.refl (Gs:List Nat) (A:World):KeepC Gs A A:=⟨Nat.le_refl _,fun _ _ _ _ _ h=>h⟩
theorem KeepC.trans {Gs:List Nat} {A B C:World} (h:KeepC Gs A B) (k:KeepC Gs B C):KeepC Gs A C:=⟨Nat.le_trans h.1 k.1,fun q cs t f hq hh=>k.2 q cs t f hq (h.2 q cs t f hq hh)⟩
theorem KeepC.of_ext {Gs:List Nat} {A B:World} (h:Ext A B):KeepC Gs A B:=⟨h.size,fun k cs t f _ hh=>(h.block k (Array.getElem?_eq_some_iff.1 hh).1).trans hh⟩
theorem KeepC.putObj {Gs:List Nat} (W:World) (l:Nat) (o o':Obj) (h:W.heap[l]? =some o) (ho:o.isCells=false):KeepC Gs W (W.putObj l o'):=by
 refine⟨by simp,fun k cs t f _ hh=>?_⟩
 have hne:l≠k:=fun e=>by
  subst e
  rw [h] at hh
  cases hh
  simp [Obj.isCells] at ho
 exact(World.putObj_heap_other (Ne.symm hne)).trans hh
theorem KeepC.cell {Gs:List Nat} {A B:World} (h:KeepC Gs A B) {p:Addr} {v:Value} (hp:p.block ∉ Gs) (hc:A.cell? p=some v):B.cell? p=some v:=by
 unfold World.cell? at *
 cases hb:A.heap[p.block]? with
 | none=>rw [hb] at hc;cases hc
 | some o=>
  rw [hb] at hc
  cases o with
  | cells cs t f=>rw [h.2 _ cs t f hp hb];exact hc
  | _=>cases hc
theorem KeepC.blk {Gs:List Nat} {A B:World} (h:KeepC Gs A B) {b:Nat} {cs:Array Value} {t:TypeId} (hb:b ∉ Gs) (k:Blk A b cs t):Blk B b cs t:=h.2 _ _ _ _ hb k
theorem KeepC.ints {Gs:List Nat} {A B:World} (h:KeepC Gs A B) {a:Option Addr} {cap:Nat} {l:List Int} (k:Ints A a cap l) (ha:∀q,a=some q→0<l.length→q.block ∉ Gs):Ints B a cap l:=
 ⟨k.le,k.mx,k.nil,fun q hq i hi=>by
  obtain⟨h1,v,hv,hr⟩:=k.cells q hq i hi
  exact⟨h1,v,h.cell (p:=⟨q.block,q.off+i,none⟩) (ha q hq (by omega)) hv,hr⟩⟩
structure OffR (Gs:List Nat) (a:Option Addr) (L:List RatA):Prop where
 a:∀q,a=some q→0<L.length→q.block ∉ Gs
 x:∀i (h:i<L.length),(∀q,L[i].a=some q→0<L[i].l.length→q.block ∉ Gs)∧(∀q,L[i].b=some q→0<L[i].m.length→q.block ∉ Gs)
theorem KeepC.rats {Gs:List Nat} {A B:World} (h:KeepC Gs A B) {a:Option Addr} {cap:Nat} {L:List RatA} (k:RatsI A a cap L) (ho:OffR Gs a L):RatsI B a cap L:=
 ⟨k.le,k.mx,k.nil,fun q hq i hi=>by
  have hb:=ho.a q hq (by omega)
  obtain⟨h0,h1,h2,h3,h4⟩:=k.cells q hq i hi
  exact⟨h0,h.cell hb h1,h.cell hb h2,h.cell hb h3,h.cell hb h4⟩,fun i hi=>⟨h.ints (k.ints i hi).i (ho.x i hi).1,h.ints (k.ints i hi).j (ho.x i hi).2⟩⟩
structure KnW (w:World) (Gs:List Nat) (Bm Bs:Nat) (a:Option Addr) (cap:Nat) (l:List Int) (s:Option Addr) (sc:Nat) (L:List RatA):Prop where
 bm:Blk w Bm #[.slice a l.length cap] 34
 bs:Blk w Bs #[.slice s L.length sc] 23
 im:Ints w a cap l
 is:RatsI w s sc L
 om:Bm ∉ Gs
 os:Bs ∉ Gs
 oa:∀q,a=some q→0<l.length→q.block ∉ Gs
 ol:OffR Gs s L
theorem KnW.keep {w w':World} {Gs:List Nat} {Bm Bs:Nat} {a:Option Addr} {cap:Nat} {l:List Int} {s:Option Addr} {sc:Nat} {L:List RatA} (h:KnW w Gs Bm Bs a cap l s sc L) (k:KeepC Gs w w'):KnW w' Gs Bm Bs a cap l s sc L:=
 ⟨k.blk h.om h.bm,k.blk h.os h.bs,k.ints h.im h.oa,k.rats h.is h.ol,h.om,h.os,h.oa,h.ol⟩
def knIx (l:List Int) (k:Nat):List Nat:=(List.range k).filter fun j=>decide (l.getD j 0≠-1)
theorem knIx_succ (l:List Int) (k:Nat):knIx l (k+1)=knIx l k ++ if l.getD k 0≠-1 then [k] else []:=by
 unfold knIx
 rw [List.range_succ,List.filter_append]
 by_cases h:l.getD k 0= -1
 ·rw [if_neg (by simpa using h)]
  simp only [List.filter_cons,List.filter_nil,h,ne_eq,not_true_eq_false,decide_false,Bool.false_eq_true,if_false]
 ·rw [if_pos h]
  simp only [List.filter_cons,List.filter_nil,h,ne_eq,not_false_eq_true,decide_true,if_true]
def KnOk (l:List Int) (S:List Rat) (B:Nat) (xs:List (Nat × RatC)) (W:World):Prop:=
 ∃k,k<l.length∧l.getD k 0≠-1∧xs.map (·.1)=knIx l (k+1)∧∃v:RatC,xs.getLast? =some (k,v)∧RatN W v.val ((l.getD k 0:Rat) - S.getD k 0) B
theorem grown_of_extM {A B:World} (h:Ext A B):A.grownBy B none:=⟨h.os,h.tape,h.output,h.size,fun k hk _=>h.block k hk⟩
theorem divInt_oneM (x:Int):Rat.divInt x 1= (x:Rat):=by
 rw [Rat.divInt_eq_div]
 grind
theorem corrected_getR (n1:Bool) (a:Option Addr) (q c:Nat) (n2:Bool) (b:Option Addr) (k d:Nat) (w:World):Calls Tryz.prog 32 #[.agg #[.bool n1,.slice a q c,.bool n2,.slice b k d],.int .i64 0] w fun e w'=>e=.returned (.agg #[.bool n1,.slice a q c,.bool n2,.slice b k d])∧Ext w w':=by
 obtain⟨x1,hw,hx,Kx,Kr⟩:=boxQ2 w #[.bool n1,.slice a q c,.bool n2,.slice b k d] 38 #[.bool false,.slice none 0 0,.bool false,.slice none 0 0] 38
 replace hw:=Lib.hid hw
 go_enter Tryz.func32,Tryz.ntmps32
 go_upto_region 1 with fail
 try simp only [Nat.add_assoc,Nat.reduceAdd,Nat.add_zero]
 rw [hw.out]
 clear hw
 have hs0:=hx.size
 obtain⟨cx0,cx1,cx2,cx3⟩:=bk4 Kx
 obtain⟨cr0,cr1,cr2,cr3⟩:=bk4 Kr
 go_wp2_with fail
 with_reducible refine(corrected_must_yes 0 _).mono ?_
 clear cx0 cx1 cx2 cx3 cr0 cr1 cr2 cr3
 rintro e x2 ⟨rfl,hy⟩
 replace hx:=hx.trans hy
 replace Kx:=kE Kx hy
 replace Kr:=kE Kr hy
 clear hy
 obtain⟨cx0,cx1,cx2,cx3⟩:=bk4 Kx
 obtain⟨g0,z0,g1,z1,g2,z2,g3,z3⟩:=bp4 Kr (.bool n1) (.slice a q c) (.bool n2) (.slice b k d)
 go_wp2_with fail
 clear g0 z0 g1 z1 g2 z2 g3 z3
 clear cx0 cx1 cx2 cx3
 replace hx:=bx4 hx (w.heap.size+1) (.bool n1) (.slice a q c) (.bool n2) (.slice b k d) (by omega)
 replace Kx:=bo4 Kx (w.heap.size+1) (.bool n1) (.slice a q c) (.bool n2) (.slice b k d) (by omega)
 replace Kr:=bs4 Kr (.bool n1) (.slice a q c) (.bool n2) (.slice b k d)
 generalize ((((x2).setCell ⟨w.heap.size+1,0,none⟩ (.bool n1)).setCell ⟨w.heap.size+1,1,none⟩ (.slice a q c)).setCell ⟨w.heap.size+1,2,none⟩ (.bool n2)).setCell ⟨w.heap.size+1,3,none⟩ (.slice b k d)=x3 at *
 obtain⟨cr0,cr1,cr2,cr3⟩:=bk4 Kr
 refine bodyPost_ret (v:=.agg #[.bool n1,.slice a q c,.bool n2,.slice b k d]) (by simp [results,Tryz.results32,go_sem,cr0,cr1,cr2,cr3]) rfl ?_
 exact⟨rfl,hx⟩
set_option maxHeartbeats 8000000 in
theorem known_seq (n:Nat) (Gs:List Nat) (Bm Bs:Nat) (a:Option Addr) (cap:Nat) (l:List Int) (s:Option Addr) (sc:Nat) (L:List RatA) (S:List Rat) (w:World) (hW0:KnW w Gs Bm Bs a cap l s sc L) (hV:ValL L S 7) (hls:l.length=S.length) (hm:∀x∈l,-1≤x∧x≤1000) (B:Nat) (hB:B≤w.heap.size):
 SeqY n Tryz.prog 53 #[.pointer (some ⟨Bm,0,none⟩),.pointer (some ⟨Bs,0,none⟩)] (fun x:Nat × RatC=>#[.int .i64 x.1,x.2.val]) (KnOk l S B) (KeepC Gs) (fun xs=>xs.map (·.1)=knIx l l.length) (fun _=>True) w:=fun lp J Jx W hW hJ hJx hY h0=>by
 have hle:=hW0.im.le
 have hmx:=hW0.im.mx
 have sle:=hW0.is.le
 have smx:=hW0.is.mx
 have hLS:l.length=L.length:=by rw [hls,hV.1]
 have hw0:=Lib.hid (hW0.keep (KeepC.of_ext hW))
 have HV:=Lib.hid hV
 have HM:=Lib.hid hm
 have HLS:=Lib.hid hls
 have HLL:=Lib.hid hLS
 rw [←hLS] at sle
 clear hW0 hV hm hLS hls
 refine callsIn_of_wp Tryz.func53 rfl trivial ?_ rfl
 simp only [Tryz.ntmps53,List.size_toArray,List.length_cons,List.length_nil,Nat.reduceAdd,Nat.reduceSub,Array.replicate_succ,Array.replicate_zero,List.push_toArray,List.append_toArray,List.nil_append,List.cons_append]
 have c0:=hw0.out.bm.cell (i:=0) rfl
 gi_wp2
 gi_loopw [8] (fun i wr=>∃k:Nat,k≤l.length∧i=.int .i64 k∧(∃pre,pre.map (·.1)=knIx l k∧J pre wr)∧KeepC Gs W wr) (fun i _=>l.length - (intOf i).toNat)
 case atStart=>exact⟨0,Nat.zero_le _,rfl,⟨[],rfl,h0⟩,KeepC.refl _ _⟩
 case round=>
  obtain⟨k,hk,rfl,⟨pre,hpre,hJs⟩,hkp⟩:=hrel
  clear c0
  have g1:(0:Int)≤(k:Int):=by omega
  by_cases hlt:k<l.length
  ·have hwr:=hw0.out.keep hkp
   obtain⟨b,o,rfl⟩:=hwr.im.head hlt
   obtain⟨x,hx,hcx,hx1,hx2⟩:=Ints.get hwr.im hlt
   have g2:(k:Int)< (l.length:Int):=by omega
   have hxg:l.getD k 0=x:=by rw [List.getD_eq_getElem?_getD,hx];rfl
   obtain⟨m1,m2⟩:=HM.out x (List.mem_of_getElem? hx)
   have HKS:=Lib.hid (knIx_succ l k)
   have HPRE:=Lib.hid hpre
   have HKP:=Lib.hid hkp
   have HJ:=Lib.hid hJs
   rw [hxg] at HKS
   by_cases hmiss:x= -1
   ·have t1:(x != -1)=false:=by simp [hmiss]
    rw [if_neg (by simpa using hmiss),List.append_nil] at HKS
    clear hwr hx hxg hpre hkp hJs hmiss
    gi_wp2
    refine wpIn_region_any (by kernel_rfl) ?_
    try (change wpAnyIn _ _ _ _ _ _ _ _ _ (World.drew _))
    refine wpAnyIn_take (i:=0) (v:=?_) rfl rfl (by kernel_rfl) (by kernel_rfl) (by kernel_rfl) (fun _ _ _ h=>h) ⟨Or.inl ⟨by rfl,?_⟩,fun _=>rfl⟩ ?_
    rotate_left
    ·(intro w;(try go_simp);(try with_reducible rfl))
    (try simp only [Act.put,List.getElem_toArray,List.getElem_cons_succ,List.getElem_cons_zero,List.setIfInBounds_toArray,List.set_cons_zero,List.set_cons_succ])
    refine wpAnyIn_take (i:=1) (v:=?_) rfl rfl (by kernel_rfl) (by kernel_rfl) (by kernel_rfl) (fun _ _ _ h=>h) ⟨Or.inl ⟨by rfl,?_⟩,fun _=>rfl⟩ ?_
    rotate_left
    ·(intro w;(try go_simp);(try with_reducible rfl))
    (try simp only [Act.put,List.getElem_toArray,List.getElem_cons_succ,List.getElem_cons_zero,List.setIfInBounds_toArray,List.set_cons_zero,List.set_cons_succ])
    refine wpAnyIn_take (i:=2) (v:=?_) rfl rfl (by kernel_rfl) (by kernel_rfl) (by kernel_rfl) (fun _ _ _ h=>h) ⟨Or.inl ⟨by rfl,?_⟩,fun _=>rfl⟩ ?_
    rotate_left
    ·(intro w;(try go_simp);(try with_reducible rfl))
    (try simp only [Act.put,List.getElem_toArray,List.getElem_cons_succ,List.getElem_cons_zero,List.setIfInBounds_toArray,List.set_cons_zero,List.set_cons_succ])
    refine wpAnyIn_take (i:=3) (v:=undef) rfl rfl (by kernel_rfl) (by kernel_rfl) (by kernel_rfl) (fun _ _ _ h=>h) ⟨Or.inr ⟨by rfl,rfl⟩,fun _=>rfl⟩ ?_
    (try simp only [Act.put,List.getElem_toArray,List.getElem_cons_succ,List.getElem_cons_zero,List.setIfInBounds_toArray,List.set_cons_zero,List.set_cons_succ])
    refine wpAnyIn_take (i:=4) (v:=undef) rfl rfl (by kernel_rfl) (by kernel_rfl) (by kernel_rfl) (fun _ _ _ h=>h) ⟨Or.inr ⟨by rfl,rfl⟩,fun _=>rfl⟩ ?_
    (try simp only [Act.put,List.getElem_toArray,List.getElem_cons_succ,List.getElem_cons_zero,List.setIfInBounds_toArray,List.set_cons_zero,List.set_cons_succ])
    refine wpAnyIn_take (i:=5) (v:=undef) rfl rfl (by kernel_rfl) (by kernel_rfl) (by kernel_rfl) (fun _ _ _ h=>h) ⟨Or.inr ⟨by rfl,rfl⟩,fun _=>rfl⟩ ?_
    (try simp only [Act.put,List.getElem_toArray,List.getElem_cons_succ,List.getElem_cons_zero,List.setIfInBounds_toArray,List.set_cons_zero,List.set_cons_succ])
    refine wpAnyIn_take (i:=10) (v:=undef) rfl rfl (by kernel_rfl) (by kernel_rfl) (by kernel_rfl) (fun _ _ _ h=>h) ⟨Or.inr ⟨by rfl,rfl⟩,fun _=>rfl⟩ ?_
    (try simp only [Act.put,List.getElem_toArray,List.getElem_cons_succ,List.getElem_cons_zero,List.setIfInBounds_toArray,List.set_cons_zero,List.set_cons_succ])
    refine wpAnyIn_take (i:=11) (v:=undef) rfl rfl (by kernel_rfl) (by kernel_rfl) (by kernel_rfl) (fun _ _ _ h=>h) ⟨Or.inr ⟨by rfl,rfl⟩,fun _=>rfl⟩ ?_
    (try simp only [Act.put,List.getElem_toArray,List.getElem_cons_succ,List.getElem_cons_zero,List.setIfInBounds_toArray,List.set_cons_zero,List.set_cons_succ])
    refine wpAnyIn_take (i:=12) (v:=undef) rfl rfl (by kernel_rfl) (by kernel_rfl) (by kernel_rfl) (fun _ _ _ h=>h) ⟨Or.inr ⟨by rfl,rfl⟩,fun _=>rfl⟩ ?_
    (try simp only [Act.put,List.getElem_toArray,List.getElem_cons_succ,List.getElem_cons_zero,List.setIfInBounds_toArray,List.set_cons_zero,List.set_cons_succ])
    refine wpAnyIn_take (i:=13) (v:=undef) rfl rfl (by kernel_rfl) (by kernel_rfl) (by kernel_rfl) (fun _ _ _ h=>h) ⟨Or.inr ⟨by rfl,rfl⟩,fun _=>rfl⟩ ?_
    (try simp only [Act.put,List.getElem_toArray,List.getElem_cons_succ,List.getElem_cons_zero,List.setIfInBounds_toArray,List.set_cons_zero,List.set_cons_succ])
    refine wpAnyIn_ready (rs:=[6]) (by kernel_rfl) (by simp) ?_
    refine AllReadyIn.cons rfl (fun K hK=>?_) ?_
    ·go_simp
     refine⟨trivial,?_⟩
     refine hK _ _ ?_
     clear hK K
     (try simp only [Act.put,List.getElem_toArray,List.getElem_cons_succ,List.getElem_cons_zero,List.setIfInBounds_toArray,List.set_cons_zero,List.set_cons_succ])
     refine wpAnyIn_take (i:=7) (v:=undef) rfl rfl (by kernel_rfl) (by kernel_rfl) (by kernel_rfl) (fun _ _ _ h=>h) ⟨Or.inr ⟨by rfl,rfl⟩,fun _=>rfl⟩ ?_
     (try simp only [Act.put,List.getElem_toArray,List.getElem_cons_succ,List.getElem_cons_zero,List.setIfInBounds_toArray,List.set_cons_zero,List.set_cons_succ])
     refine wpAnyIn_take (i:=8) (v:=undef) rfl rfl (by kernel_rfl) (by kernel_rfl) (by kernel_rfl) (fun _ _ _ h=>h) ⟨Or.inr ⟨by rfl,rfl⟩,fun _=>rfl⟩ ?_
     (try simp only [Act.put,List.getElem_toArray,List.getElem_cons_succ,List.getElem_cons_zero,List.setIfInBounds_toArray,List.set_cons_zero,List.set_cons_succ])
     refine wpAnyIn_ready (rs:=[9]) (by kernel_rfl) (by simp) ?_
     refine AllReadyIn.cons rfl (fun K hK=>?_) ?_
     ·go_simp
      refine⟨trivial,?_⟩
      refine hK _ _ ?_
      clear hK K
      (try simp only [Act.put,List.getElem_toArray,List.getElem_cons_succ,List.getElem_cons_zero,List.setIfInBounds_toArray,List.set_cons_zero,List.set_cons_succ])
      refine wpAnyIn_ready (rs:=[14]) (by kernel_rfl) (by simp) ?_
      refine AllReadyIn.cons rfl (fun K hK=>?_) ?_
      ·go_simp
       refine⟨trivial,?_⟩
       refine hK _ _ ?_
       clear hK K
       (try simp only [Act.put,List.getElem_toArray,List.getElem_cons_succ,List.getElem_cons_zero,List.setIfInBounds_toArray,List.set_cons_zero,List.set_cons_succ])
       refine wpAnyIn_take (i:=15) (v:=undef) rfl rfl (by kernel_rfl) (by kernel_rfl) (by kernel_rfl) (fun _ _ _ h=>h) ⟨Or.inr ⟨by rfl,rfl⟩,fun _=>rfl⟩ ?_
       (try simp only [Act.put,List.getElem_toArray,List.getElem_cons_succ,List.getElem_cons_zero,List.setIfInBounds_toArray,List.set_cons_zero,List.set_cons_succ])
       refine wpAnyIn_take (i:=16) (v:=undef) rfl rfl (by kernel_rfl) (by kernel_rfl) (by kernel_rfl) (fun _ _ _ h=>h) ⟨Or.inr ⟨by rfl,rfl⟩,fun _=>rfl⟩ ?_
       (try simp only [Act.put,List.getElem_toArray,List.getElem_cons_succ,List.getElem_cons_zero,List.setIfInBounds_toArray,List.set_cons_zero,List.set_cons_succ])
       refine wpAnyIn_ready (rs:=[17]) (by kernel_rfl) (by simp) ?_
       refine AllReadyIn.cons rfl (fun K hK=>?_) ?_
       ·go_simp
        refine⟨trivial,?_⟩
        refine hK _ _ ?_
        clear hK K
        (try simp only [Act.put,List.getElem_toArray,List.getElem_cons_succ,List.getElem_cons_zero,List.setIfInBounds_toArray,List.set_cons_zero,List.set_cons_succ])
        refine wpAnyIn_ready (rs:=[18]) (by kernel_rfl) (by simp) ?_
        refine AllReadyIn.cons rfl (fun K hK=>?_) ?_
        ·go_simp
         refine⟨fun _ _=>trivial,?_⟩
         refine hK _ _ ?_
         clear hK K
         (try simp only [Act.put,List.getElem_toArray,List.getElem_cons_succ,List.getElem_cons_zero,List.setIfInBounds_toArray,List.set_cons_zero,List.set_cons_succ])
         refine wpAnyIn_take (i:=19) (v:=undef) rfl rfl (by kernel_rfl) (by kernel_rfl) (by kernel_rfl) (fun _ _ _ h=>h) ⟨Or.inr ⟨by rfl,rfl⟩,fun _=>rfl⟩ ?_
         (try simp only [Act.put,List.getElem_toArray,List.getElem_cons_succ,List.getElem_cons_zero,List.setIfInBounds_toArray,List.set_cons_zero,List.set_cons_succ])
         refine wpAnyIn_take (i:=20) (v:=?_) rfl rfl (by kernel_rfl) (by kernel_rfl) (by kernel_rfl) (fun _ _ _ h=>h) ⟨Or.inl ⟨by rfl,?_⟩,fun _=>rfl⟩ ?_
         rotate_left
         ·(intro w;(try go_simp);(try with_reducible rfl))
         (try simp only [Act.put,List.getElem_toArray,List.getElem_cons_succ,List.getElem_cons_zero,List.setIfInBounds_toArray,List.set_cons_zero,List.set_cons_succ])
         refine wpAnyIn_done (by kernel_rfl) ?_ _
         gi_wp2
         go_roundw
         case rel=>exact⟨k+1,by omega,by go_num,⟨pre,by rw [HPRE.out,HKS.out],hJ _ _ _ none HJ.out (grown_of_extM (Ext.refl _).drew) (fun r e=>by cases e)⟩,HKP.out.trans (KeepC.of_ext (Ext.refl _).drew)⟩
         case measure=>first | (simp [intOf];done) | (simp [intOf];omega)
        exact AllReadyIn.nil
       exact AllReadyIn.nil
      exact AllReadyIn.nil
     exact AllReadyIn.nil
    exact AllReadyIn.nil
   ·have t1:(x != -1)=true:=by simp [hmiss]
    rw [if_pos hmiss] at HKS
    obtain⟨bs,os,rfl⟩:=hwr.is.head (i:=k) (by rw [←HLL.out];exact hlt)
    obtain⟨n0,a0,q0,c0,n2,b0,k0,d0,e0,e1,e2,e3,hr,hz⟩:=hwr.is.val HV.out (i:=k) (by rw [←HLS.out];exact hlt)
    have hbs:=hwr.bs.cell (i:=0) rfl
    rw [←HLL.out] at hbs
    have HR:=Lib.hid hr
    have HBW:Hid (B≤wr.heap.size):=Lib.hid (by have h1:=hW.size;have h2:=hkp.1;omega)
    have HNE:Hid (l.getD k 0≠-1):=Lib.hid (by rw [hxg];exact hmiss)
    have HZ:=Lib.hid hz
    have HBS:=Lib.hid hbs
    have HE0:=Lib.hid e0
    have HE1:=Lib.hid e1
    have HE2:=Lib.hid e2
    have HE3:=Lib.hid e3
    have HSX:Hid (Sz (Rat.divInt x 1) 1):=Lib.hid (divInt_sz (by omega) (by decide) (by decide))
    have HVAL:Hid (Rat.divInt x 1 - S[k]'(by rw [←HLS.out];exact hlt)= (l.getD k 0:Rat) - S.getD k 0):=Lib.hid (by
     rw [hxg,show S.getD k 0=S[k]'(by rw [←HLS.out];exact hlt) from by rw [List.getD_eq_getElem?_getD,List.getElem?_eq_getElem (by rw [←HLS.out];exact hlt)];rfl,divInt_oneM])
    have g5:(k:Int)< (l.length:Int):=g2
    have HXG:=Lib.hid hxg
    clear hwr hx hxg hpre hkp hJs hmiss hr hz hbs e0 e1 e2 e3
    gi_wp2
    refine wpIn_region_any (by kernel_rfl) ?_
    try (change wpAnyIn _ _ _ _ _ _ _ _ _ (World.drew _))
    have hE:Ext wr (World.drew wr):=(Ext.refl wr).drew
    generalize World.drew wr=y0 at *
    refine wpAnyIn_take (i:=0) (v:=?_) rfl rfl (by kernel_rfl) (by kernel_rfl) (by kernel_rfl) (fun _ _ _ h=>h) ⟨Or.inl ⟨by rfl,?_⟩,fun _=>rfl⟩ ?_
    rotate_left
    ·(intro w;(try go_simp);(try with_reducible rfl))
    (try simp only [Act.put,List.getElem_toArray,List.getElem_cons_succ,List.getElem_cons_zero,List.setIfInBounds_toArray,List.set_cons_zero,List.set_cons_succ])
    refine wpAnyIn_take (i:=1) (v:=?_) rfl rfl (by kernel_rfl) (by kernel_rfl) (by kernel_rfl) (fun _ _ _ h=>h) ⟨Or.inl ⟨by rfl,?_⟩,fun _=>rfl⟩ ?_
    rotate_left
    ·(intro w;(try go_simp);(try with_reducible rfl))
    (try simp only [Act.put,List.getElem_toArray,List.getElem_cons_succ,List.getElem_cons_zero,List.setIfInBounds_toArray,List.set_cons_zero,List.set_cons_succ])
    refine wpAnyIn_take (i:=2) (v:=?_) rfl rfl (by kernel_rfl) (by kernel_rfl) (by kernel_rfl) (fun _ _ _ h=>h) ⟨Or.inl ⟨by rfl,?_⟩,fun _=>rfl⟩ ?_
    rotate_left
    ·(intro w;(try go_simp);(try with_reducible rfl))
    (try simp only [Act.put,List.getElem_toArray,List.getElem_cons_succ,List.getElem_cons_zero,List.setIfInBounds_toArray,List.set_cons_zero,List.set_cons_succ])
    refine wpAnyIn_take (i:=3) (v:=?_) rfl rfl (by kernel_rfl) (by kernel_rfl) (by kernel_rfl) (fun _ _ _ h=>h) ⟨Or.inl ⟨by rfl,?_⟩,fun _=>rfl⟩ ?_
    rotate_left
    ·(intro w;(try go_simp);(try with_reducible rfl))
    (try simp only [Act.put,List.getElem_toArray,List.getElem_cons_succ,List.getElem_cons_zero,List.setIfInBounds_toArray,List.set_cons_zero,List.set_cons_succ])
    refine wpAnyIn_take (i:=4) (v:=?_) rfl rfl (by kernel_rfl) (by kernel_rfl) (by kernel_rfl) (fun _ _ _ h=>h) ⟨Or.inl ⟨by rfl,?_⟩,fun _=>rfl⟩ ?_
    rotate_left
    ·(intro w;(try go_simp);(try with_reducible rfl))
    (try simp only [Act.put,List.getElem_toArray,List.getElem_cons_succ,List.getElem_cons_zero,List.setIfInBounds_toArray,List.set_cons_zero,List.set_cons_succ])
    refine wpAnyIn_take (i:=5) (v:=?_) rfl rfl (by kernel_rfl) (by kernel_rfl) (by kernel_rfl) (fun _ _ _ h=>h) ⟨Or.inl ⟨by rfl,?_⟩,fun _=>rfl⟩ ?_
    rotate_left
    ·(intro w;(try go_simp);(try with_reducible rfl))
    (try simp only [Act.put,List.getElem_toArray,List.getElem_cons_succ,List.getElem_cons_zero,List.setIfInBounds_toArray,List.set_cons_zero,List.set_cons_succ])
    refine wpAnyIn_take (i:=11) (v:=?_) rfl rfl (by kernel_rfl) (by kernel_rfl) (by kernel_rfl) (fun _ _ _ h=>h) ⟨Or.inl ⟨by rfl,?_⟩,fun _=>rfl⟩ ?_
    rotate_left
    ·(intro w;(try go_simp);(try with_reducible rfl))
    (try simp only [Act.put,List.getElem_toArray,List.getElem_cons_succ,List.getElem_cons_zero,List.setIfInBounds_toArray,List.set_cons_zero,List.set_cons_succ])
    refine wpAnyIn_ready (rs:=[6,10]) (by kernel_rfl) (by simp) ?_
    refine AllReadyIn.cons rfl (fun K hK=>?_) ?_
    ·go_simp
     refine⟨trivial,fun h=>(by cases h),?_⟩
     refine(callsIn_wide.2 (ratio_Make x 1 _ (by omega) (by omega) (by omega))).mono ?_
     rintro e y1 ⟨v,rfl,hv,hy⟩
     obtain⟨nr,ar,qr,cr,br,kr,dr,rfl,V1,-,-⟩:=hv
     replace hE:=hE.trans hy
     clear hy
     refine hK _ _ ?_
     clear hK K
     (try simp only [Act.put,List.getElem_toArray,List.getElem_cons_succ,List.getElem_cons_zero,List.setIfInBounds_toArray,List.set_cons_zero,List.set_cons_succ])
     refine wpAnyIn_take (i:=7) (v:=?_) rfl rfl (by kernel_rfl) (by kernel_rfl) (by kernel_rfl) (fun _ _ _ h=>h) ⟨Or.inl ⟨by rfl,?_⟩,fun _=>rfl⟩ ?_
     rotate_left
     ·(intro w;(try go_simp);(try with_reducible rfl))
     (try simp only [Act.put,List.getElem_toArray,List.getElem_cons_succ,List.getElem_cons_zero,List.setIfInBounds_toArray,List.set_cons_zero,List.set_cons_succ])
     refine wpAnyIn_take (i:=8) (v:=?_) rfl rfl (by kernel_rfl) (by kernel_rfl) (by kernel_rfl) (fun _ _ _ h=>h) ⟨Or.inl ⟨by rfl,?_⟩,fun _=>rfl⟩ ?_
     rotate_left
     ·(intro w;(try go_simp);(try with_reducible rfl))
     (try simp only [Act.put,List.getElem_toArray,List.getElem_cons_succ,List.getElem_cons_zero,List.setIfInBounds_toArray,List.set_cons_zero,List.set_cons_succ])
     refine wpAnyIn_ready (rs:=[9,10]) (by kernel_rfl) (by simp) ?_
     refine AllReadyIn.cons rfl (fun K hK=>?_) ?_
     ·go_simp
      refine⟨trivial,fun h=>(by cases h),?_⟩
      refine(callsIn_wide.2 (corrected_getR nr ar qr cr false br kr dr _)).mono ?_
      rintro e y2 ⟨rfl,hy⟩
      replace hE:=hE.trans hy
      replace V1:=V1.ext hy
      clear hy
      refine hK _ _ ?_
      clear hK K
      (try simp only [Act.put,List.getElem_toArray,List.getElem_cons_succ,List.getElem_cons_zero,List.setIfInBounds_toArray,List.set_cons_zero,List.set_cons_succ])
      refine wpAnyIn_ready (rs:=[10]) (by kernel_rfl) (by simp) ?_
      refine AllReadyIn.cons rfl (fun K hK=>?_) ?_
      ·have q0:=cell_exQ hE HBS.out
       go_simp
       refine hK _ _ ?_
       clear hK K
       (try simp only [Act.put,List.getElem_toArray,List.getElem_cons_succ,List.getElem_cons_zero,List.setIfInBounds_toArray,List.set_cons_zero,List.set_cons_succ])
       refine wpAnyIn_take (i:=12) (v:=?_) rfl rfl (by kernel_rfl) (by kernel_rfl) (by kernel_rfl) (fun _ _ _ h=>h) ⟨Or.inl ⟨by rfl,?_⟩,fun _=>rfl⟩ ?_
       rotate_left
       ·(intro w;(try go_simp);(try with_reducible rfl))
       (try simp only [Act.put,List.getElem_toArray,List.getElem_cons_succ,List.getElem_cons_zero,List.setIfInBounds_toArray,List.set_cons_zero,List.set_cons_succ])
       refine wpAnyIn_ready (rs:=[13]) (by kernel_rfl) (by simp) ?_
       refine AllReadyIn.cons rfl (fun K hK=>?_) ?_
       ·have q0:=cell_exQ hE HE0.out
        have q1:=cell_exQ hE HE1.out
        have q2:=cell_exQ hE HE2.out
        have q3:=cell_exQ hE HE3.out
        go_simp
        refine hK _ _ ?_
        clear hK K
        (try simp only [Act.put,List.getElem_toArray,List.getElem_cons_succ,List.getElem_cons_zero,List.setIfInBounds_toArray,List.set_cons_zero,List.set_cons_succ])
        refine wpAnyIn_ready (rs:=[14]) (by kernel_rfl) (by simp) ?_
        refine AllReadyIn.cons rfl (fun K hK=>?_) ?_
        ·go_simp
         refine⟨trivial,fun h=>(by cases h),?_⟩
         refine(callsIn_wide.2 (ratio_Sub V1 (HR.out.ext hE) HSX.out HZ.out (by omega))).mono ?_
         rintro e y3 ⟨v,rfl,hv,hy⟩
         obtain⟨n3,a3,q3,c3,b3,k3,d3,rfl,V3,F3',G3'⟩:=hv
         have hsz:=hE.size
         have F3:∀A,a3=some A→B≤A.block:=fun A hA=>by have:=F3' A hA;have:=HBW.out;omega
         have G3:∀A,b3=some A→B≤A.block:=fun A hA=>by have:=G3' A hA;have:=HBW.out;omega
         clear F3' G3' hsz
         replace hE:=hE.trans hy
         clear hy V1
         refine hK _ _ ?_
         clear hK K
         (try simp only [Act.put,List.getElem_toArray,List.getElem_cons_succ,List.getElem_cons_zero,List.setIfInBounds_toArray,List.set_cons_zero,List.set_cons_succ])
         refine wpAnyIn_take (i:=15) (v:=?_) rfl rfl (by kernel_rfl) (by kernel_rfl) (by kernel_rfl) (fun _ _ _ h=>h) ⟨Or.inl ⟨by rfl,?_⟩,fun _=>rfl⟩ ?_
         rotate_left
         ·(intro w;(try go_simp);(try with_reducible rfl))
         (try simp only [Act.put,List.getElem_toArray,List.getElem_cons_succ,List.getElem_cons_zero,List.setIfInBounds_toArray,List.set_cons_zero,List.set_cons_succ])
         refine wpAnyIn_take (i:=16) (v:=?_) rfl rfl (by kernel_rfl) (by kernel_rfl) (by kernel_rfl) (fun _ _ _ h=>h) ⟨Or.inl ⟨by rfl,?_⟩,fun _=>rfl⟩ ?_
         rotate_left
         ·(intro w;(try go_simp);(try with_reducible rfl))
         (try simp only [Act.put,List.getElem_toArray,List.getElem_cons_succ,List.getElem_cons_zero,List.setIfInBounds_toArray,List.set_cons_zero,List.set_cons_succ])
         refine wpAnyIn_ready (rs:=[17]) (by kernel_rfl) (by simp) ?_
         refine AllReadyIn.cons rfl (fun K hK=>?_) ?_
         ·go_simp
          refine⟨trivial,fun h=>(by cases h),?_⟩
          refine(callsIn_wide.2 (corrected_getR n3 a3 q3 c3 false b3 k3 d3 _)).mono ?_
          rintro e y4 ⟨rfl,hy⟩
          replace hE:=hE.trans hy
          replace V3:=V3.ext hy
          clear hy
          refine hK _ _ ?_
          clear hK K
          (try simp only [Act.put,List.getElem_toArray,List.getElem_cons_succ,List.getElem_cons_zero,List.setIfInBounds_toArray,List.set_cons_zero,List.set_cons_succ])
          refine wpAnyIn_ready (rs:=[18]) (by kernel_rfl) (by simp) ?_
          refine AllReadyIn.cons rfl (fun K hK=>?_) ?_
          ·have hJ2:J pre y4:=hJ _ _ _ none HJ.out (grown_of_extM hE) (fun r e=>by cases e)
           obtain⟨fn,tmps,assign,body,hyd,hR⟩:=hY pre (k,⟨n3,a3,q3,c3,false,b3,k3,d3⟩) y4 hJ2 ⟨k,hlt,HNE.out,by rw [List.map_append,HPRE.out];exact HKS.out.symm,⟨n3,a3,q3,c3,false,b3,k3,d3⟩,by simp,by rw [←HVAL.out];exact⟨n3,a3,q3,c3,b3,k3,d3,rfl,V3,F3,G3⟩⟩
           have hE4:=Lib.hid hE
           clear hE V3 hJ2
           go_simp
           refine⟨fun h=>(by cases h),?_⟩
           refine hR.mono ?_
           rintro e W3 (⟨rfl,hJ3,hk3⟩ | ⟨rfl,hJx3⟩)
           ·refine hK _ _ ?_
            clear hK K
            (try simp only [Act.put,List.getElem_toArray,List.getElem_cons_succ,List.getElem_cons_zero,List.setIfInBounds_toArray,List.set_cons_zero,List.set_cons_succ])
            refine wpAnyIn_take (i:=19) (v:=?_) rfl rfl (by kernel_rfl) (by kernel_rfl) (by kernel_rfl) (fun _ _ _ h=>h) ⟨Or.inl ⟨by rfl,?_⟩,fun _=>rfl⟩ ?_
            rotate_left
            ·(intro w;(try go_simp);(try with_reducible rfl))
            (try simp only [Act.put,List.getElem_toArray,List.getElem_cons_succ,List.getElem_cons_zero,List.setIfInBounds_toArray,List.set_cons_zero,List.set_cons_succ])
            refine wpAnyIn_take (i:=20) (v:=?_) rfl rfl (by kernel_rfl) (by kernel_rfl) (by kernel_rfl) (fun _ _ _ h=>h) ⟨Or.inl ⟨by rfl,?_⟩,fun _=>rfl⟩ ?_
            rotate_left
            ·(intro w;(try go_simp);(try with_reducible rfl))
            (try simp only [Act.put,List.getElem_toArray,List.getElem_cons_succ,List.getElem_cons_zero,List.setIfInBounds_toArray,List.set_cons_zero,List.set_cons_succ])
            refine wpAnyIn_done (by kernel_rfl) ?_ _
            gi_wp2
            go_roundw
            case rel=>exact⟨k+1,by omega,by go_num,⟨_,by rw [List.map_append,HPRE.out];exact HKS.out.symm,hJ3⟩,HKP.out.trans ((KeepC.of_ext hE4.out).trans hk3)⟩
            case measure=>first | (simp [intOf];done) | (simp [intOf];omega)
           ·refine hK _ _ ?_
            clear hK K
            (try simp only [Act.put,List.getElem_toArray,List.getElem_cons_succ,List.getElem_cons_zero,List.setIfInBounds_toArray,List.set_cons_zero,List.set_cons_succ])
            refine wpAnyIn_take (i:=19) (v:=?_) rfl rfl (by kernel_rfl) (by kernel_rfl) (by kernel_rfl) (fun _ _ _ h=>h) ⟨Or.inl ⟨by rfl,?_⟩,fun _=>rfl⟩ ?_
            rotate_left
            ·(intro w;(try go_simp);(try with_reducible rfl))
            (try simp only [Act.put,List.getElem_toArray,List.getElem_cons_succ,List.getElem_cons_zero,List.setIfInBounds_toArray,List.set_cons_zero,List.set_cons_succ])
            refine wpAnyIn_take (i:=20) (v:=?_) rfl rfl (by kernel_rfl) (by kernel_rfl) (by kernel_rfl) (fun _ _ _ h=>h) ⟨Or.inl ⟨by rfl,?_⟩,fun _=>rfl⟩ ?_
            rotate_left
            ·(intro w;(try go_simp);(try with_reducible rfl))
            (try simp only [Act.put,List.getElem_toArray,List.getElem_cons_succ,List.getElem_cons_zero,List.setIfInBounds_toArray,List.set_cons_zero,List.set_cons_succ])
            refine wpAnyIn_done (by kernel_rfl) ?_ _
            gi_wp2
            refine bodyPost_ret (results_none rfl _ _ _) rfl ?_
            exact⟨⟨_,rfl⟩,.inr ⟨_,hJx3⟩⟩
          exact AllReadyIn.nil
         exact AllReadyIn.nil
        exact AllReadyIn.nil
       exact AllReadyIn.nil
      exact AllReadyIn.nil
     refine AllReadyIn.cons rfl (fun K hK=>?_) ?_
     ·have q0:=cell_exQ hE HBS.out
      go_simp
      refine hK _ _ ?_
      clear hK K
      (try simp only [Act.put,List.getElem_toArray,List.getElem_cons_succ,List.getElem_cons_zero,List.setIfInBounds_toArray,List.set_cons_zero,List.set_cons_succ])
      refine wpAnyIn_take (i:=12) (v:=?_) rfl rfl (by kernel_rfl) (by kernel_rfl) (by kernel_rfl) (fun _ _ _ h=>h) ⟨Or.inl ⟨by rfl,?_⟩,fun _=>rfl⟩ ?_
      rotate_left
      ·(intro w;(try go_simp);(try with_reducible rfl))
      (try simp only [Act.put,List.getElem_toArray,List.getElem_cons_succ,List.getElem_cons_zero,List.setIfInBounds_toArray,List.set_cons_zero,List.set_cons_succ])
      refine wpAnyIn_ready (rs:=[9,13]) (by kernel_rfl) (by simp) ?_
      refine AllReadyIn.cons rfl (fun K hK=>?_) ?_
      ·go_simp
       refine⟨trivial,fun h=>(by cases h),?_⟩
       refine(callsIn_wide.2 (corrected_getR nr ar qr cr false br kr dr _)).mono ?_
       rintro e y2 ⟨rfl,hy⟩
       replace hE:=hE.trans hy
       replace V1:=V1.ext hy
       clear hy
       refine hK _ _ ?_
       clear hK K
       (try simp only [Act.put,List.getElem_toArray,List.getElem_cons_succ,List.getElem_cons_zero,List.setIfInBounds_toArray,List.set_cons_zero,List.set_cons_succ])
       refine wpAnyIn_ready (rs:=[13]) (by kernel_rfl) (by simp) ?_
       refine AllReadyIn.cons rfl (fun K hK=>?_) ?_
       ·have q0:=cell_exQ hE HE0.out
        have q1:=cell_exQ hE HE1.out
        have q2:=cell_exQ hE HE2.out
        have q3:=cell_exQ hE HE3.out
        go_simp
        refine hK _ _ ?_
        clear hK K
        (try simp only [Act.put,List.getElem_toArray,List.getElem_cons_succ,List.getElem_cons_zero,List.setIfInBounds_toArray,List.set_cons_zero,List.set_cons_succ])
        refine wpAnyIn_ready (rs:=[14]) (by kernel_rfl) (by simp) ?_
        refine AllReadyIn.cons rfl (fun K hK=>?_) ?_
        ·go_simp
         refine⟨trivial,fun h=>(by cases h),?_⟩
         refine(callsIn_wide.2 (ratio_Sub V1 (HR.out.ext hE) HSX.out HZ.out (by omega))).mono ?_
         rintro e y3 ⟨v,rfl,hv,hy⟩
         obtain⟨n3,a3,q3,c3,b3,k3,d3,rfl,V3,F3',G3'⟩:=hv
         have hsz:=hE.size
         have F3:∀A,a3=some A→B≤A.block:=fun A hA=>by have:=F3' A hA;have:=HBW.out;omega
         have G3:∀A,b3=some A→B≤A.block:=fun A hA=>by have:=G3' A hA;have:=HBW.out;omega
         clear F3' G3' hsz
         replace hE:=hE.trans hy
         clear hy V1
         refine hK _ _ ?_
         clear hK K
         (try simp only [Act.put,List.getElem_toArray,List.getElem_cons_succ,List.getElem_cons_zero,List.setIfInBounds_toArray,List.set_cons_zero,List.set_cons_succ])
         refine wpAnyIn_take (i:=15) (v:=?_) rfl rfl (by kernel_rfl) (by kernel_rfl) (by kernel_rfl) (fun _ _ _ h=>h) ⟨Or.inl ⟨by rfl,?_⟩,fun _=>rfl⟩ ?_
         rotate_left
         ·(intro w;(try go_simp);(try with_reducible rfl))
         (try simp only [Act.put,List.getElem_toArray,List.getElem_cons_succ,List.getElem_cons_zero,List.setIfInBounds_toArray,List.set_cons_zero,List.set_cons_succ])
         refine wpAnyIn_take (i:=16) (v:=?_) rfl rfl (by kernel_rfl) (by kernel_rfl) (by kernel_rfl) (fun _ _ _ h=>h) ⟨Or.inl ⟨by rfl,?_⟩,fun _=>rfl⟩ ?_
         rotate_left
         ·(intro w;(try go_simp);(try with_reducible rfl))
         (try simp only [Act.put,List.getElem_toArray,List.getElem_cons_succ,List.getElem_cons_zero,List.setIfInBounds_toArray,List.set_cons_zero,List.set_cons_succ])
         refine wpAnyIn_ready (rs:=[17]) (by kernel_rfl) (by simp) ?_
         refine AllReadyIn.cons rfl (fun K hK=>?_) ?_
         ·go_simp
          refine⟨trivial,fun h=>(by cases h),?_⟩
          refine(callsIn_wide.2 (corrected_getR n3 a3 q3 c3 false b3 k3 d3 _)).mono ?_
          rintro e y4 ⟨rfl,hy⟩
          replace hE:=hE.trans hy
          replace V3:=V3.ext hy
          clear hy
          refine hK _ _ ?_
          clear hK K
          (try simp only [Act.put,List.getElem_toArray,List.getElem_cons_succ,List.getElem_cons_zero,List.setIfInBounds_toArray,List.set_cons_zero,List.set_cons_succ])
          refine wpAnyIn_ready (rs:=[18]) (by kernel_rfl) (by simp) ?_
          refine AllReadyIn.cons rfl (fun K hK=>?_) ?_
          ·have hJ2:J pre y4:=hJ _ _ _ none HJ.out (grown_of_extM hE) (fun r e=>by cases e)
           obtain⟨fn,tmps,assign,body,hyd,hR⟩:=hY pre (k,⟨n3,a3,q3,c3,false,b3,k3,d3⟩) y4 hJ2 ⟨k,hlt,HNE.out,by rw [List.map_append,HPRE.out];exact HKS.out.symm,⟨n3,a3,q3,c3,false,b3,k3,d3⟩,by simp,by rw [←HVAL.out];exact⟨n3,a3,q3,c3,b3,k3,d3,rfl,V3,F3,G3⟩⟩
           have hE4:=Lib.hid hE
           clear hE V3 hJ2
           go_simp
           refine⟨fun h=>(by cases h),?_⟩
           refine hR.mono ?_
           rintro e W3 (⟨rfl,hJ3,hk3⟩ | ⟨rfl,hJx3⟩)
           ·refine hK _ _ ?_
            clear hK K
            (try simp only [Act.put,List.getElem_toArray,List.getElem_cons_succ,List.getElem_cons_zero,List.setIfInBounds_toArray,List.set_cons_zero,List.set_cons_succ])
            refine wpAnyIn_take (i:=19) (v:=?_) rfl rfl (by kernel_rfl) (by kernel_rfl) (by kernel_rfl) (fun _ _ _ h=>h) ⟨Or.inl ⟨by rfl,?_⟩,fun _=>rfl⟩ ?_
            rotate_left
            ·(intro w;(try go_simp);(try with_reducible rfl))
            (try simp only [Act.put,List.getElem_toArray,List.getElem_cons_succ,List.getElem_cons_zero,List.setIfInBounds_toArray,List.set_cons_zero,List.set_cons_succ])
            refine wpAnyIn_take (i:=20) (v:=?_) rfl rfl (by kernel_rfl) (by kernel_rfl) (by kernel_rfl) (fun _ _ _ h=>h) ⟨Or.inl ⟨by rfl,?_⟩,fun _=>rfl⟩ ?_
            rotate_left
            ·(intro w;(try go_simp);(try with_reducible rfl))
            (try simp only [Act.put,List.getElem_toArray,List.getElem_cons_succ,List.getElem_cons_zero,List.setIfInBounds_toArray,List.set_cons_zero,List.set_cons_succ])
            refine wpAnyIn_done (by kernel_rfl) ?_ _
            gi_wp2
            go_roundw
            case rel=>exact⟨k+1,by omega,by go_num,⟨_,by rw [List.map_append,HPRE.out];exact HKS.out.symm,hJ3⟩,HKP.out.trans ((KeepC.of_ext hE4.out).trans hk3)⟩
            case measure=>first | (simp [intOf];done) | (simp [intOf];omega)
           ·refine hK _ _ ?_
            clear hK K
            (try simp only [Act.put,List.getElem_toArray,List.getElem_cons_succ,List.getElem_cons_zero,List.setIfInBounds_toArray,List.set_cons_zero,List.set_cons_succ])
            refine wpAnyIn_take (i:=19) (v:=?_) rfl rfl (by kernel_rfl) (by kernel_rfl) (by kernel_rfl) (fun _ _ _ h=>h) ⟨Or.inl ⟨by rfl,?_⟩,fun _=>rfl⟩ ?_
            rotate_left
            ·(intro w;(try go_simp);(try with_reducible rfl))
            (try simp only [Act.put,List.getElem_toArray,List.getElem_cons_succ,List.getElem_cons_zero,List.setIfInBounds_toArray,List.set_cons_zero,List.set_cons_succ])
            refine wpAnyIn_take (i:=20) (v:=?_) rfl rfl (by kernel_rfl) (by kernel_rfl) (by kernel_rfl) (fun _ _ _ h=>h) ⟨Or.inl ⟨by rfl,?_⟩,fun _=>rfl⟩ ?_
            rotate_left
            ·(intro w;(try go_simp);(try with_reducible rfl))
            (try simp only [Act.put,List.getElem_toArray,List.getElem_cons_succ,List.getElem_cons_zero,List.setIfInBounds_toArray,List.set_cons_zero,List.set_cons_succ])
            refine wpAnyIn_done (by kernel_rfl) ?_ _
            gi_wp2
            refine bodyPost_ret (results_none rfl _ _ _) rfl ?_
            exact⟨⟨_,rfl⟩,.inr ⟨_,hJx3⟩⟩
          exact AllReadyIn.nil
         exact AllReadyIn.nil
        exact AllReadyIn.nil
       exact AllReadyIn.nil
      refine AllReadyIn.cons rfl (fun K hK=>?_) ?_
      ·have q0:=cell_exQ hE HE0.out
       have q1:=cell_exQ hE HE1.out
       have q2:=cell_exQ hE HE2.out
       have q3:=cell_exQ hE HE3.out
       go_simp
       refine hK _ _ ?_
       clear hK K
       (try simp only [Act.put,List.getElem_toArray,List.getElem_cons_succ,List.getElem_cons_zero,List.setIfInBounds_toArray,List.set_cons_zero,List.set_cons_succ])
       refine wpAnyIn_ready (rs:=[9]) (by kernel_rfl) (by simp) ?_
       refine AllReadyIn.cons rfl (fun K hK=>?_) ?_
       ·go_simp
        refine⟨trivial,fun h=>(by cases h),?_⟩
        refine(callsIn_wide.2 (corrected_getR nr ar qr cr false br kr dr _)).mono ?_
        rintro e y2 ⟨rfl,hy⟩
        replace hE:=hE.trans hy
        replace V1:=V1.ext hy
        clear hy
        refine hK _ _ ?_
        clear hK K
        (try simp only [Act.put,List.getElem_toArray,List.getElem_cons_succ,List.getElem_cons_zero,List.setIfInBounds_toArray,List.set_cons_zero,List.set_cons_succ])
        refine wpAnyIn_ready (rs:=[14]) (by kernel_rfl) (by simp) ?_
        refine AllReadyIn.cons rfl (fun K hK=>?_) ?_
        ·go_simp
         refine⟨trivial,fun h=>(by cases h),?_⟩
         refine(callsIn_wide.2 (ratio_Sub V1 (HR.out.ext hE) HSX.out HZ.out (by omega))).mono ?_
         rintro e y3 ⟨v,rfl,hv,hy⟩
         obtain⟨n3,a3,q3,c3,b3,k3,d3,rfl,V3,F3',G3'⟩:=hv
         have hsz:=hE.size
         have F3:∀A,a3=some A→B≤A.block:=fun A hA=>by have:=F3' A hA;have:=HBW.out;omega
         have G3:∀A,b3=some A→B≤A.block:=fun A hA=>by have:=G3' A hA;have:=HBW.out;omega
         clear F3' G3' hsz
         replace hE:=hE.trans hy
         clear hy V1
         refine hK _ _ ?_
         clear hK K
         (try simp only [Act.put,List.getElem_toArray,List.getElem_cons_succ,List.getElem_cons_zero,List.setIfInBounds_toArray,List.set_cons_zero,List.set_cons_succ])
         refine wpAnyIn_take (i:=15) (v:=?_) rfl rfl (by kernel_rfl) (by kernel_rfl) (by kernel_rfl) (fun _ _ _ h=>h) ⟨Or.inl ⟨by rfl,?_⟩,fun _=>rfl⟩ ?_
         rotate_left
         ·(intro w;(try go_simp);(try with_reducible rfl))
         (try simp only [Act.put,List.getElem_toArray,List.getElem_cons_succ,List.getElem_cons_zero,List.setIfInBounds_toArray,List.set_cons_zero,List.set_cons_succ])
         refine wpAnyIn_take (i:=16) (v:=?_) rfl rfl (by kernel_rfl) (by kernel_rfl) (by kernel_rfl) (fun _ _ _ h=>h) ⟨Or.inl ⟨by rfl,?_⟩,fun _=>rfl⟩ ?_
         rotate_left
         ·(intro w;(try go_simp);(try with_reducible rfl))
         (try simp only [Act.put,List.getElem_toArray,List.getElem_cons_succ,List.getElem_cons_zero,List.setIfInBounds_toArray,List.set_cons_zero,List.set_cons_succ])
         refine wpAnyIn_ready (rs:=[17]) (by kernel_rfl) (by simp) ?_
         refine AllReadyIn.cons rfl (fun K hK=>?_) ?_
         ·go_simp
          refine⟨trivial,fun h=>(by cases h),?_⟩
          refine(callsIn_wide.2 (corrected_getR n3 a3 q3 c3 false b3 k3 d3 _)).mono ?_
          rintro e y4 ⟨rfl,hy⟩
          replace hE:=hE.trans hy
          replace V3:=V3.ext hy
          clear hy
          refine hK _ _ ?_
          clear hK K
          (try simp only [Act.put,List.getElem_toArray,List.getElem_cons_succ,List.getElem_cons_zero,List.setIfInBounds_toArray,List.set_cons_zero,List.set_cons_succ])
          refine wpAnyIn_ready (rs:=[18]) (by kernel_rfl) (by simp) ?_
          refine AllReadyIn.cons rfl (fun K hK=>?_) ?_
          ·have hJ2:J pre y4:=hJ _ _ _ none HJ.out (grown_of_extM hE) (fun r e=>by cases e)
           obtain⟨fn,tmps,assign,body,hyd,hR⟩:=hY pre (k,⟨n3,a3,q3,c3,false,b3,k3,d3⟩) y4 hJ2 ⟨k,hlt,HNE.out,by rw [List.map_append,HPRE.out];exact HKS.out.symm,⟨n3,a3,q3,c3,false,b3,k3,d3⟩,by simp,by rw [←HVAL.out];exact⟨n3,a3,q3,c3,b3,k3,d3,rfl,V3,F3,G3⟩⟩
           have hE4:=Lib.hid hE
           clear hE V3 hJ2
           go_simp
           refine⟨fun h=>(by cases h),?_⟩
           refine hR.mono ?_
           rintro e W3 (⟨rfl,hJ3,hk3⟩ | ⟨rfl,hJx3⟩)
           ·refine hK _ _ ?_
            clear hK K
            (try simp only [Act.put,List.getElem_toArray,List.getElem_cons_succ,List.getElem_cons_zero,List.setIfInBounds_toArray,List.set_cons_zero,List.set_cons_succ])
            refine wpAnyIn_take (i:=19) (v:=?_) rfl rfl (by kernel_rfl) (by kernel_rfl) (by kernel_rfl) (fun _ _ _ h=>h) ⟨Or.inl ⟨by rfl,?_⟩,fun _=>rfl⟩ ?_
            rotate_left
            ·(intro w;(try go_simp);(try with_reducible rfl))
            (try simp only [Act.put,List.getElem_toArray,List.getElem_cons_succ,List.getElem_cons_zero,List.setIfInBounds_toArray,List.set_cons_zero,List.set_cons_succ])
            refine wpAnyIn_take (i:=20) (v:=?_) rfl rfl (by kernel_rfl) (by kernel_rfl) (by kernel_rfl) (fun _ _ _ h=>h) ⟨Or.inl ⟨by rfl,?_⟩,fun _=>rfl⟩ ?_
            rotate_left
            ·(intro w;(try go_simp);(try with_reducible rfl))
            (try simp only [Act.put,List.getElem_toArray,List.getElem_cons_succ,List.getElem_cons_zero,List.setIfInBounds_toArray,List.set_cons_zero,List.set_cons_succ])
            refine wpAnyIn_done (by kernel_rfl) ?_ _
            gi_wp2
            go_roundw
            case rel=>exact⟨k+1,by omega,by go_num,⟨_,by rw [List.map_append,HPRE.out];exact HKS.out.symm,hJ3⟩,HKP.out.trans ((KeepC.of_ext hE4.out).trans hk3)⟩
            case measure=>first | (simp [intOf];done) | (simp [intOf];omega)
           ·refine hK _ _ ?_
            clear hK K
            (try simp only [Act.put,List.getElem_toArray,List.getElem_cons_succ,List.getElem_cons_zero,List.setIfInBounds_toArray,List.set_cons_zero,List.set_cons_succ])
            refine wpAnyIn_take (i:=19) (v:=?_) rfl rfl (by kernel_rfl) (by kernel_rfl) (by kernel_rfl) (fun _ _ _ h=>h) ⟨Or.inl ⟨by rfl,?_⟩,fun _=>rfl⟩ ?_
            rotate_left
            ·(intro w;(try go_simp);(try with_reducible rfl))
            (try simp only [Act.put,List.getElem_toArray,List.getElem_cons_succ,List.getElem_cons_zero,List.setIfInBounds_toArray,List.set_cons_zero,List.set_cons_succ])
            refine wpAnyIn_take (i:=20) (v:=?_) rfl rfl (by kernel_rfl) (by kernel_rfl) (by kernel_rfl) (fun _ _ _ h=>h) ⟨Or.inl ⟨by rfl,?_⟩,fun _=>rfl⟩ ?_
            rotate_left
            ·(intro w;(try go_simp);(try with_reducible rfl))
            (try simp only [Act.put,List.getElem_toArray,List.getElem_cons_succ,List.getElem_cons_zero,List.setIfInBounds_toArray,List.set_cons_zero,List.set_cons_succ])
            refine wpAnyIn_done (by kernel_rfl) ?_ _
            gi_wp2
            refine bodyPost_ret (results_none rfl _ _ _) rfl ?_
            exact⟨⟨_,rfl⟩,.inr ⟨_,hJx3⟩⟩
          exact AllReadyIn.nil
         exact AllReadyIn.nil
        exact AllReadyIn.nil
       exact AllReadyIn.nil
      exact AllReadyIn.nil
     exact AllReadyIn.nil
    refine AllReadyIn.cons rfl (fun K hK=>?_) ?_
    ·have q0:=cell_exQ hE HBS.out
     go_simp
     refine hK _ _ ?_
     clear hK K
     (try simp only [Act.put,List.getElem_toArray,List.getElem_cons_succ,List.getElem_cons_zero,List.setIfInBounds_toArray,List.set_cons_zero,List.set_cons_succ])
     refine wpAnyIn_take (i:=12) (v:=?_) rfl rfl (by kernel_rfl) (by kernel_rfl) (by kernel_rfl) (fun _ _ _ h=>h) ⟨Or.inl ⟨by rfl,?_⟩,fun _=>rfl⟩ ?_
     rotate_left
     ·(intro w;(try go_simp);(try with_reducible rfl))
     (try simp only [Act.put,List.getElem_toArray,List.getElem_cons_succ,List.getElem_cons_zero,List.setIfInBounds_toArray,List.set_cons_zero,List.set_cons_succ])
     refine wpAnyIn_ready (rs:=[6,13]) (by kernel_rfl) (by simp) ?_
     refine AllReadyIn.cons rfl (fun K hK=>?_) ?_
     ·go_simp
      refine⟨trivial,fun h=>(by cases h),?_⟩
      refine(callsIn_wide.2 (ratio_Make x 1 _ (by omega) (by omega) (by omega))).mono ?_
      rintro e y1 ⟨v,rfl,hv,hy⟩
      obtain⟨nr,ar,qr,cr,br,kr,dr,rfl,V1,-,-⟩:=hv
      replace hE:=hE.trans hy
      clear hy
      refine hK _ _ ?_
      clear hK K
      (try simp only [Act.put,List.getElem_toArray,List.getElem_cons_succ,List.getElem_cons_zero,List.setIfInBounds_toArray,List.set_cons_zero,List.set_cons_succ])
      refine wpAnyIn_take (i:=7) (v:=?_) rfl rfl (by kernel_rfl) (by kernel_rfl) (by kernel_rfl) (fun _ _ _ h=>h) ⟨Or.inl ⟨by rfl,?_⟩,fun _=>rfl⟩ ?_
      rotate_left
      ·(intro w;(try go_simp);(try with_reducible rfl))
      (try simp only [Act.put,List.getElem_toArray,List.getElem_cons_succ,List.getElem_cons_zero,List.setIfInBounds_toArray,List.set_cons_zero,List.set_cons_succ])
      refine wpAnyIn_take (i:=8) (v:=?_) rfl rfl (by kernel_rfl) (by kernel_rfl) (by kernel_rfl) (fun _ _ _ h=>h) ⟨Or.inl ⟨by rfl,?_⟩,fun _=>rfl⟩ ?_
      rotate_left
      ·(intro w;(try go_simp);(try with_reducible rfl))
      (try simp only [Act.put,List.getElem_toArray,List.getElem_cons_succ,List.getElem_cons_zero,List.setIfInBounds_toArray,List.set_cons_zero,List.set_cons_succ])
      refine wpAnyIn_ready (rs:=[9,13]) (by kernel_rfl) (by simp) ?_
      refine AllReadyIn.cons rfl (fun K hK=>?_) ?_
      ·go_simp
       refine⟨trivial,fun h=>(by cases h),?_⟩
       refine(callsIn_wide.2 (corrected_getR nr ar qr cr false br kr dr _)).mono ?_
       rintro e y2 ⟨rfl,hy⟩
       replace hE:=hE.trans hy
       replace V1:=V1.ext hy
       clear hy
       refine hK _ _ ?_
       clear hK K
       (try simp only [Act.put,List.getElem_toArray,List.getElem_cons_succ,List.getElem_cons_zero,List.setIfInBounds_toArray,List.set_cons_zero,List.set_cons_succ])
       refine wpAnyIn_ready (rs:=[13]) (by kernel_rfl) (by simp) ?_
       refine AllReadyIn.cons rfl (fun K hK=>?_) ?_
       ·have q0:=cell_exQ hE HE0.out
        have q1:=cell_exQ hE HE1.out
        have q2:=cell_exQ hE HE2.out
        have q3:=cell_exQ hE HE3.out
        go_simp
        refine hK _ _ ?_
        clear hK K
        (try simp only [Act.put,List.getElem_toArray,List.getElem_cons_succ,List.getElem_cons_zero,List.setIfInBounds_toArray,List.set_cons_zero,List.set_cons_succ])
        refine wpAnyIn_ready (rs:=[14]) (by kernel_rfl) (by simp) ?_
        refine AllReadyIn.cons rfl (fun K hK=>?_) ?_
        ·go_simp
         refine⟨trivial,fun h=>(by cases h),?_⟩
         refine(callsIn_wide.2 (ratio_Sub V1 (HR.out.ext hE) HSX.out HZ.out (by omega))).mono ?_
         rintro e y3 ⟨v,rfl,hv,hy⟩
         obtain⟨n3,a3,q3,c3,b3,k3,d3,rfl,V3,F3',G3'⟩:=hv
         have hsz:=hE.size
         have F3:∀A,a3=some A→B≤A.block:=fun A hA=>by have:=F3' A hA;have:=HBW.out;omega
         have G3:∀A,b3=some A→B≤A.block:=fun A hA=>by have:=G3' A hA;have:=HBW.out;omega
         clear F3' G3' hsz
         replace hE:=hE.trans hy
         clear hy V1
         refine hK _ _ ?_
         clear hK K
         (try simp only [Act.put,List.getElem_toArray,List.getElem_cons_succ,List.getElem_cons_zero,List.setIfInBounds_toArray,List.set_cons_zero,List.set_cons_succ])
         refine wpAnyIn_take (i:=15) (v:=?_) rfl rfl (by kernel_rfl) (by kernel_rfl) (by kernel_rfl) (fun _ _ _ h=>h) ⟨Or.inl ⟨by rfl,?_⟩,fun _=>rfl⟩ ?_
         rotate_left
         ·(intro w;(try go_simp);(try with_reducible rfl))
         (try simp only [Act.put,List.getElem_toArray,List.getElem_cons_succ,List.getElem_cons_zero,List.setIfInBounds_toArray,List.set_cons_zero,List.set_cons_succ])
         refine wpAnyIn_take (i:=16) (v:=?_) rfl rfl (by kernel_rfl) (by kernel_rfl) (by kernel_rfl) (fun _ _ _ h=>h) ⟨Or.inl ⟨by rfl,?_⟩,fun _=>rfl⟩ ?_
         rotate_left
         ·(intro w;(try go_simp);(try with_reducible rfl))
         (try simp only [Act.put,List.getElem_toArray,List.getElem_cons_succ,List.getElem_cons_zero,List.setIfInBounds_toArray,List.set_cons_zero,List.set_cons_succ])
         refine wpAnyIn_ready (rs:=[17]) (by kernel_rfl) (by simp) ?_
         refine AllReadyIn.cons rfl (fun K hK=>?_) ?_
         ·go_simp
          refine⟨trivial,fun h=>(by cases h),?_⟩
          refine(callsIn_wide.2 (corrected_getR n3 a3 q3 c3 false b3 k3 d3 _)).mono ?_
          rintro e y4 ⟨rfl,hy⟩
          replace hE:=hE.trans hy
          replace V3:=V3.ext hy
          clear hy
          refine hK _ _ ?_
          clear hK K
          (try simp only [Act.put,List.getElem_toArray,List.getElem_cons_succ,List.getElem_cons_zero,List.setIfInBounds_toArray,List.set_cons_zero,List.set_cons_succ])
          refine wpAnyIn_ready (rs:=[18]) (by kernel_rfl) (by simp) ?_
          refine AllReadyIn.cons rfl (fun K hK=>?_) ?_
          ·have hJ2:J pre y4:=hJ _ _ _ none HJ.out (grown_of_extM hE) (fun r e=>by cases e)
           obtain⟨fn,tmps,assign,body,hyd,hR⟩:=hY pre (k,⟨n3,a3,q3,c3,false,b3,k3,d3⟩) y4 hJ2 ⟨k,hlt,HNE.out,by rw [List.map_append,HPRE.out];exact HKS.out.symm,⟨n3,a3,q3,c3,false,b3,k3,d3⟩,by simp,by rw [←HVAL.out];exact⟨n3,a3,q3,c3,b3,k3,d3,rfl,V3,F3,G3⟩⟩
           have hE4:=Lib.hid hE
           clear hE V3 hJ2
           go_simp
           refine⟨fun h=>(by cases h),?_⟩
           refine hR.mono ?_
           rintro e W3 (⟨rfl,hJ3,hk3⟩ | ⟨rfl,hJx3⟩)
           ·refine hK _ _ ?_
            clear hK K
            (try simp only [Act.put,List.getElem_toArray,List.getElem_cons_succ,List.getElem_cons_zero,List.setIfInBounds_toArray,List.set_cons_zero,List.set_cons_succ])
            refine wpAnyIn_take (i:=19) (v:=?_) rfl rfl (by kernel_rfl) (by kernel_rfl) (by kernel_rfl) (fun _ _ _ h=>h) ⟨Or.inl ⟨by rfl,?_⟩,fun _=>rfl⟩ ?_
            rotate_left
            ·(intro w;(try go_simp);(try with_reducible rfl))
            (try simp only [Act.put,List.getElem_toArray,List.getElem_cons_succ,List.getElem_cons_zero,List.setIfInBounds_toArray,List.set_cons_zero,List.set_cons_succ])
            refine wpAnyIn_take (i:=20) (v:=?_) rfl rfl (by kernel_rfl) (by kernel_rfl) (by kernel_rfl) (fun _ _ _ h=>h) ⟨Or.inl ⟨by rfl,?_⟩,fun _=>rfl⟩ ?_
            rotate_left
            ·(intro w;(try go_simp);(try with_reducible rfl))
            (try simp only [Act.put,List.getElem_toArray,List.getElem_cons_succ,List.getElem_cons_zero,List.setIfInBounds_toArray,List.set_cons_zero,List.set_cons_succ])
            refine wpAnyIn_done (by kernel_rfl) ?_ _
            gi_wp2
            go_roundw
            case rel=>exact⟨k+1,by omega,by go_num,⟨_,by rw [List.map_append,HPRE.out];exact HKS.out.symm,hJ3⟩,HKP.out.trans ((KeepC.of_ext hE4.out).trans hk3)⟩
            case measure=>first | (simp [intOf];done) | (simp [intOf];omega)
           ·refine hK _ _ ?_
            clear hK K
            (try simp only [Act.put,List.getElem_toArray,List.getElem_cons_succ,List.getElem_cons_zero,List.setIfInBounds_toArray,List.set_cons_zero,List.set_cons_succ])
            refine wpAnyIn_take (i:=19) (v:=?_) rfl rfl (by kernel_rfl) (by kernel_rfl) (by kernel_rfl) (fun _ _ _ h=>h) ⟨Or.inl ⟨by rfl,?_⟩,fun _=>rfl⟩ ?_
            rotate_left
            ·(intro w;(try go_simp);(try with_reducible rfl))
            (try simp only [Act.put,List.getElem_toArray,List.getElem_cons_succ,List.getElem_cons_zero,List.setIfInBounds_toArray,List.set_cons_zero,List.set_cons_succ])
            refine wpAnyIn_take (i:=20) (v:=?_) rfl rfl (by kernel_rfl) (by kernel_rfl) (by kernel_rfl) (fun _ _ _ h=>h) ⟨Or.inl ⟨by rfl,?_⟩,fun _=>rfl⟩ ?_
            rotate_left
            ·(intro w;(try go_simp);(try with_reducible rfl))
            (try simp only [Act.put,List.getElem_toArray,List.getElem_cons_succ,List.getElem_cons_zero,List.setIfInBounds_toArray,List.set_cons_zero,List.set_cons_succ])
            refine wpAnyIn_done (by kernel_rfl) ?_ _
            gi_wp2
            refine bodyPost_ret (results_none rfl _ _ _) rfl ?_
            exact⟨⟨_,rfl⟩,.inr ⟨_,hJx3⟩⟩
          exact AllReadyIn.nil
         exact AllReadyIn.nil
        exact AllReadyIn.nil
       exact AllReadyIn.nil
      refine AllReadyIn.cons rfl (fun K hK=>?_) ?_
      ·have q0:=cell_exQ hE HE0.out
       have q1:=cell_exQ hE HE1.out
       have q2:=cell_exQ hE HE2.out
       have q3:=cell_exQ hE HE3.out
       go_simp
       refine hK _ _ ?_
       clear hK K
       (try simp only [Act.put,List.getElem_toArray,List.getElem_cons_succ,List.getElem_cons_zero,List.setIfInBounds_toArray,List.set_cons_zero,List.set_cons_succ])
       refine wpAnyIn_ready (rs:=[9]) (by kernel_rfl) (by simp) ?_
       refine AllReadyIn.cons rfl (fun K hK=>?_) ?_
       ·go_simp
        refine⟨trivial,fun h=>(by cases h),?_⟩
        refine(callsIn_wide.2 (corrected_getR nr ar qr cr false br kr dr _)).mono ?_
        rintro e y2 ⟨rfl,hy⟩
        replace hE:=hE.trans hy
        replace V1:=V1.ext hy
        clear hy
        refine hK _ _ ?_
        clear hK K
        (try simp only [Act.put,List.getElem_toArray,List.getElem_cons_succ,List.getElem_cons_zero,List.setIfInBounds_toArray,List.set_cons_zero,List.set_cons_succ])
        refine wpAnyIn_ready (rs:=[14]) (by kernel_rfl) (by simp) ?_
        refine AllReadyIn.cons rfl (fun K hK=>?_) ?_
        ·go_simp
         refine⟨trivial,fun h=>(by cases h),?_⟩
         refine(callsIn_wide.2 (ratio_Sub V1 (HR.out.ext hE) HSX.out HZ.out (by omega))).mono ?_
         rintro e y3 ⟨v,rfl,hv,hy⟩
         obtain⟨n3,a3,q3,c3,b3,k3,d3,rfl,V3,F3',G3'⟩:=hv
         have hsz:=hE.size
         have F3:∀A,a3=some A→B≤A.block:=fun A hA=>by have:=F3' A hA;have:=HBW.out;omega
         have G3:∀A,b3=some A→B≤A.block:=fun A hA=>by have:=G3' A hA;have:=HBW.out;omega
         clear F3' G3' hsz
         replace hE:=hE.trans hy
         clear hy V1
         refine hK _ _ ?_
         clear hK K
         (try simp only [Act.put,List.getElem_toArray,List.getElem_cons_succ,List.getElem_cons_zero,List.setIfInBounds_toArray,List.set_cons_zero,List.set_cons_succ])
         refine wpAnyIn_take (i:=15) (v:=?_) rfl rfl (by kernel_rfl) (by kernel_rfl) (by kernel_rfl) (fun _ _ _ h=>h) ⟨Or.inl ⟨by rfl,?_⟩,fun _=>rfl⟩ ?_
         rotate_left
         ·(intro w;(try go_simp);(try with_reducible rfl))
         (try simp only [Act.put,List.getElem_toArray,List.getElem_cons_succ,List.getElem_cons_zero,List.setIfInBounds_toArray,List.set_cons_zero,List.set_cons_succ])
         refine wpAnyIn_take (i:=16) (v:=?_) rfl rfl (by kernel_rfl) (by kernel_rfl) (by kernel_rfl) (fun _ _ _ h=>h) ⟨Or.inl ⟨by rfl,?_⟩,fun _=>rfl⟩ ?_
         rotate_left
         ·(intro w;(try go_simp);(try with_reducible rfl))
         (try simp only [Act.put,List.getElem_toArray,List.getElem_cons_succ,List.getElem_cons_zero,List.setIfInBounds_toArray,List.set_cons_zero,List.set_cons_succ])
         refine wpAnyIn_ready (rs:=[17]) (by kernel_rfl) (by simp) ?_
         refine AllReadyIn.cons rfl (fun K hK=>?_) ?_
         ·go_simp
          refine⟨trivial,fun h=>(by cases h),?_⟩
          refine(callsIn_wide.2 (corrected_getR n3 a3 q3 c3 false b3 k3 d3 _)).mono ?_
          rintro e y4 ⟨rfl,hy⟩
          replace hE:=hE.trans hy
          replace V3:=V3.ext hy
          clear hy
          refine hK _ _ ?_
          clear hK K
          (try simp only [Act.put,List.getElem_toArray,List.getElem_cons_succ,List.getElem_cons_zero,List.setIfInBounds_toArray,List.set_cons_zero,List.set_cons_succ])
          refine wpAnyIn_ready (rs:=[18]) (by kernel_rfl) (by simp) ?_
          refine AllReadyIn.cons rfl (fun K hK=>?_) ?_
          ·have hJ2:J pre y4:=hJ _ _ _ none HJ.out (grown_of_extM hE) (fun r e=>by cases e)
           obtain⟨fn,tmps,assign,body,hyd,hR⟩:=hY pre (k,⟨n3,a3,q3,c3,false,b3,k3,d3⟩) y4 hJ2 ⟨k,hlt,HNE.out,by rw [List.map_append,HPRE.out];exact HKS.out.symm,⟨n3,a3,q3,c3,false,b3,k3,d3⟩,by simp,by rw [←HVAL.out];exact⟨n3,a3,q3,c3,b3,k3,d3,rfl,V3,F3,G3⟩⟩
           have hE4:=Lib.hid hE
           clear hE V3 hJ2
           go_simp
           refine⟨fun h=>(by cases h),?_⟩
           refine hR.mono ?_
           rintro e W3 (⟨rfl,hJ3,hk3⟩ | ⟨rfl,hJx3⟩)
           ·refine hK _ _ ?_
            clear hK K
            (try simp only [Act.put,List.getElem_toArray,List.getElem_cons_succ,List.getElem_cons_zero,List.setIfInBounds_toArray,List.set_cons_zero,List.set_cons_succ])
            refine wpAnyIn_take (i:=19) (v:=?_) rfl rfl (by kernel_rfl) (by kernel_rfl) (by kernel_rfl) (fun _ _ _ h=>h) ⟨Or.inl ⟨by rfl,?_⟩,fun _=>rfl⟩ ?_
            rotate_left
            ·(intro w;(try go_simp);(try with_reducible rfl))
            (try simp only [Act.put,List.getElem_toArray,List.getElem_cons_succ,List.getElem_cons_zero,List.setIfInBounds_toArray,List.set_cons_zero,List.set_cons_succ])
            refine wpAnyIn_take (i:=20) (v:=?_) rfl rfl (by kernel_rfl) (by kernel_rfl) (by kernel_rfl) (fun _ _ _ h=>h) ⟨Or.inl ⟨by rfl,?_⟩,fun _=>rfl⟩ ?_
            rotate_left
            ·(intro w;(try go_simp);(try with_reducible rfl))
            (try simp only [Act.put,List.getElem_toArray,List.getElem_cons_succ,List.getElem_cons_zero,List.setIfInBounds_toArray,List.set_cons_zero,List.set_cons_succ])
            refine wpAnyIn_done (by kernel_rfl) ?_ _
            gi_wp2
            go_roundw
            case rel=>exact⟨k+1,by omega,by go_num,⟨_,by rw [List.map_append,HPRE.out];exact HKS.out.symm,hJ3⟩,HKP.out.trans ((KeepC.of_ext hE4.out).trans hk3)⟩
            case measure=>first | (simp [intOf];done) | (simp [intOf];omega)
           ·refine hK _ _ ?_
            clear hK K
            (try simp only [Act.put,List.getElem_toArray,List.getElem_cons_succ,List.getElem_cons_zero,List.setIfInBounds_toArray,List.set_cons_zero,List.set_cons_succ])
            refine wpAnyIn_take (i:=19) (v:=?_) rfl rfl (by kernel_rfl) (by kernel_rfl) (by kernel_rfl) (fun _ _ _ h=>h) ⟨Or.inl ⟨by rfl,?_⟩,fun _=>rfl⟩ ?_
            rotate_left
            ·(intro w;(try go_simp);(try with_reducible rfl))
            (try simp only [Act.put,List.getElem_toArray,List.getElem_cons_succ,List.getElem_cons_zero,List.setIfInBounds_toArray,List.set_cons_zero,List.set_cons_succ])
            refine wpAnyIn_take (i:=20) (v:=?_) rfl rfl (by kernel_rfl) (by kernel_rfl) (by kernel_rfl) (fun _ _ _ h=>h) ⟨Or.inl ⟨by rfl,?_⟩,fun _=>rfl⟩ ?_
            rotate_left
            ·(intro w;(try go_simp);(try with_reducible rfl))
            (try simp only [Act.put,List.getElem_toArray,List.getElem_cons_succ,List.getElem_cons_zero,List.setIfInBounds_toArray,List.set_cons_zero,List.set_cons_succ])
            refine wpAnyIn_done (by kernel_rfl) ?_ _
            gi_wp2
            refine bodyPost_ret (results_none rfl _ _ _) rfl ?_
            exact⟨⟨_,rfl⟩,.inr ⟨_,hJx3⟩⟩
          exact AllReadyIn.nil
         exact AllReadyIn.nil
        exact AllReadyIn.nil
       exact AllReadyIn.nil
      exact AllReadyIn.nil
     refine AllReadyIn.cons rfl (fun K hK=>?_) ?_
     ·have q0:=cell_exQ hE HE0.out
      have q1:=cell_exQ hE HE1.out
      have q2:=cell_exQ hE HE2.out
      have q3:=cell_exQ hE HE3.out
      go_simp
      refine hK _ _ ?_
      clear hK K
      (try simp only [Act.put,List.getElem_toArray,List.getElem_cons_succ,List.getElem_cons_zero,List.setIfInBounds_toArray,List.set_cons_zero,List.set_cons_succ])
      refine wpAnyIn_ready (rs:=[6]) (by kernel_rfl) (by simp) ?_
      refine AllReadyIn.cons rfl (fun K hK=>?_) ?_
      ·go_simp
       refine⟨trivial,fun h=>(by cases h),?_⟩
       refine(callsIn_wide.2 (ratio_Make x 1 _ (by omega) (by omega) (by omega))).mono ?_
       rintro e y1 ⟨v,rfl,hv,hy⟩
       obtain⟨nr,ar,qr,cr,br,kr,dr,rfl,V1,-,-⟩:=hv
       replace hE:=hE.trans hy
       clear hy
       refine hK _ _ ?_
       clear hK K
       (try simp only [Act.put,List.getElem_toArray,List.getElem_cons_succ,List.getElem_cons_zero,List.setIfInBounds_toArray,List.set_cons_zero,List.set_cons_succ])
       refine wpAnyIn_take (i:=7) (v:=?_) rfl rfl (by kernel_rfl) (by kernel_rfl) (by kernel_rfl) (fun _ _ _ h=>h) ⟨Or.inl ⟨by rfl,?_⟩,fun _=>rfl⟩ ?_
       rotate_left
       ·(intro w;(try go_simp);(try with_reducible rfl))
       (try simp only [Act.put,List.getElem_toArray,List.getElem_cons_succ,List.getElem_cons_zero,List.setIfInBounds_toArray,List.set_cons_zero,List.set_cons_succ])
       refine wpAnyIn_take (i:=8) (v:=?_) rfl rfl (by kernel_rfl) (by kernel_rfl) (by kernel_rfl) (fun _ _ _ h=>h) ⟨Or.inl ⟨by rfl,?_⟩,fun _=>rfl⟩ ?_
       rotate_left
       ·(intro w;(try go_simp);(try with_reducible rfl))
       (try simp only [Act.put,List.getElem_toArray,List.getElem_cons_succ,List.getElem_cons_zero,List.setIfInBounds_toArray,List.set_cons_zero,List.set_cons_succ])
       refine wpAnyIn_ready (rs:=[9]) (by kernel_rfl) (by simp) ?_
       refine AllReadyIn.cons rfl (fun K hK=>?_) ?_
       ·go_simp
        refine⟨trivial,fun h=>(by cases h),?_⟩
        refine(callsIn_wide.2 (corrected_getR nr ar qr cr false br kr dr _)).mono ?_
        rintro e y2 ⟨rfl,hy⟩
        replace hE:=hE.trans hy
        replace V1:=V1.ext hy
        clear hy
        refine hK _ _ ?_
        clear hK K
        (try simp only [Act.put,List.getElem_toArray,List.getElem_cons_succ,List.getElem_cons_zero,List.setIfInBounds_toArray,List.set_cons_zero,List.set_cons_succ])
        refine wpAnyIn_ready (rs:=[14]) (by kernel_rfl) (by simp) ?_
        refine AllReadyIn.cons rfl (fun K hK=>?_) ?_
        ·go_simp
         refine⟨trivial,fun h=>(by cases h),?_⟩
         refine(callsIn_wide.2 (ratio_Sub V1 (HR.out.ext hE) HSX.out HZ.out (by omega))).mono ?_
         rintro e y3 ⟨v,rfl,hv,hy⟩
         obtain⟨n3,a3,q3,c3,b3,k3,d3,rfl,V3,F3',G3'⟩:=hv
         have hsz:=hE.size
         have F3:∀A,a3=some A→B≤A.block:=fun A hA=>by have:=F3' A hA;have:=HBW.out;omega
         have G3:∀A,b3=some A→B≤A.block:=fun A hA=>by have:=G3' A hA;have:=HBW.out;omega
         clear F3' G3' hsz
         replace hE:=hE.trans hy
         clear hy V1
         refine hK _ _ ?_
         clear hK K
         (try simp only [Act.put,List.getElem_toArray,List.getElem_cons_succ,List.getElem_cons_zero,List.setIfInBounds_toArray,List.set_cons_zero,List.set_cons_succ])
         refine wpAnyIn_take (i:=15) (v:=?_) rfl rfl (by kernel_rfl) (by kernel_rfl) (by kernel_rfl) (fun _ _ _ h=>h) ⟨Or.inl ⟨by rfl,?_⟩,fun _=>rfl⟩ ?_
         rotate_left
         ·(intro w;(try go_simp);(try with_reducible rfl))
         (try simp only [Act.put,List.getElem_toArray,List.getElem_cons_succ,List.getElem_cons_zero,List.setIfInBounds_toArray,List.set_cons_zero,List.set_cons_succ])
         refine wpAnyIn_take (i:=16) (v:=?_) rfl rfl (by kernel_rfl) (by kernel_rfl) (by kernel_rfl) (fun _ _ _ h=>h) ⟨Or.inl ⟨by rfl,?_⟩,fun _=>rfl⟩ ?_
         rotate_left
         ·(intro w;(try go_simp);(try with_reducible rfl))
         (try simp only [Act.put,List.getElem_toArray,List.getElem_cons_succ,List.getElem_cons_zero,List.setIfInBounds_toArray,List.set_cons_zero,List.set_cons_succ])
         refine wpAnyIn_ready (rs:=[17]) (by kernel_rfl) (by simp) ?_
         refine AllReadyIn.cons rfl (fun K hK=>?_) ?_
         ·go_simp
          refine⟨trivial,fun h=>(by cases h),?_⟩
          refine(callsIn_wide.2 (corrected_getR n3 a3 q3 c3 false b3 k3 d3 _)).mono ?_
          rintro e y4 ⟨rfl,hy⟩
          replace hE:=hE.trans hy
          replace V3:=V3.ext hy
          clear hy
          refine hK _ _ ?_
          clear hK K
          (try simp only [Act.put,List.getElem_toArray,List.getElem_cons_succ,List.getElem_cons_zero,List.setIfInBounds_toArray,List.set_cons_zero,List.set_cons_succ])
          refine wpAnyIn_ready (rs:=[18]) (by kernel_rfl) (by simp) ?_
          refine AllReadyIn.cons rfl (fun K hK=>?_) ?_
          ·have hJ2:J pre y4:=hJ _ _ _ none HJ.out (grown_of_extM hE) (fun r e=>by cases e)
           obtain⟨fn,tmps,assign,body,hyd,hR⟩:=hY pre (k,⟨n3,a3,q3,c3,false,b3,k3,d3⟩) y4 hJ2 ⟨k,hlt,HNE.out,by rw [List.map_append,HPRE.out];exact HKS.out.symm,⟨n3,a3,q3,c3,false,b3,k3,d3⟩,by simp,by rw [←HVAL.out];exact⟨n3,a3,q3,c3,b3,k3,d3,rfl,V3,F3,G3⟩⟩
           have hE4:=Lib.hid hE
           clear hE V3 hJ2
           go_simp
           refine⟨fun h=>(by cases h),?_⟩
           refine hR.mono ?_
           rintro e W3 (⟨rfl,hJ3,hk3⟩ | ⟨rfl,hJx3⟩)
           ·refine hK _ _ ?_
            clear hK K
            (try simp only [Act.put,List.getElem_toArray,List.getElem_cons_succ,List.getElem_cons_zero,List.setIfInBounds_toArray,List.set_cons_zero,List.set_cons_succ])
            refine wpAnyIn_take (i:=19) (v:=?_) rfl rfl (by kernel_rfl) (by kernel_rfl) (by kernel_rfl) (fun _ _ _ h=>h) ⟨Or.inl ⟨by rfl,?_⟩,fun _=>rfl⟩ ?_
            rotate_left
            ·(intro w;(try go_simp);(try with_reducible rfl))
            (try simp only [Act.put,List.getElem_toArray,List.getElem_cons_succ,List.getElem_cons_zero,List.setIfInBounds_toArray,List.set_cons_zero,List.set_cons_succ])
            refine wpAnyIn_take (i:=20) (v:=?_) rfl rfl (by kernel_rfl) (by kernel_rfl) (by kernel_rfl) (fun _ _ _ h=>h) ⟨Or.inl ⟨by rfl,?_⟩,fun _=>rfl⟩ ?_
            rotate_left
            ·(intro w;(try go_simp);(try with_reducible rfl))
            (try simp only [Act.put,List.getElem_toArray,List.getElem_cons_succ,List.getElem_cons_zero,List.setIfInBounds_toArray,List.set_cons_zero,List.set_cons_succ])
            refine wpAnyIn_done (by kernel_rfl) ?_ _
            gi_wp2
            go_roundw
            case rel=>exact⟨k+1,by omega,by go_num,⟨_,by rw [List.map_append,HPRE.out];exact HKS.out.symm,hJ3⟩,HKP.out.trans ((KeepC.of_ext hE4.out).trans hk3)⟩
            case measure=>first | (simp [intOf];done) | (simp [intOf];omega)
           ·refine hK _ _ ?_
            clear hK K
            (try simp only [Act.put,List.getElem_toArray,List.getElem_cons_succ,List.getElem_cons_zero,List.setIfInBounds_toArray,List.set_cons_zero,List.set_cons_succ])
            refine wpAnyIn_take (i:=19) (v:=?_) rfl rfl (by kernel_rfl) (by kernel_rfl) (by kernel_rfl) (fun _ _ _ h=>h) ⟨Or.inl ⟨by rfl,?_⟩,fun _=>rfl⟩ ?_
            rotate_left
            ·(intro w;(try go_simp);(try with_reducible rfl))
            (try simp only [Act.put,List.getElem_toArray,List.getElem_cons_succ,List.getElem_cons_zero,List.setIfInBounds_toArray,List.set_cons_zero,List.set_cons_succ])
            refine wpAnyIn_take (i:=20) (v:=?_) rfl rfl (by kernel_rfl) (by kernel_rfl) (by kernel_rfl) (fun _ _ _ h=>h) ⟨Or.inl ⟨by rfl,?_⟩,fun _=>rfl⟩ ?_
            rotate_left
            ·(intro w;(try go_simp);(try with_reducible rfl))
            (try simp only [Act.put,List.getElem_toArray,List.getElem_cons_succ,List.getElem_cons_zero,List.setIfInBounds_toArray,List.set_cons_zero,List.set_cons_succ])
            refine wpAnyIn_done (by kernel_rfl) ?_ _
            gi_wp2
            refine bodyPost_ret (results_none rfl _ _ _) rfl ?_
            exact⟨⟨_,rfl⟩,.inr ⟨_,hJx3⟩⟩
          exact AllReadyIn.nil
         exact AllReadyIn.nil
        exact AllReadyIn.nil
       exact AllReadyIn.nil
      exact AllReadyIn.nil
     exact AllReadyIn.nil
    exact AllReadyIn.nil
  ·obtain rfl:k=l.length:=by omega
   gi_wp2
   go_end0
   refine⟨⟨_,rfl⟩,.inl ⟨pre,hpre,hJs⟩⟩
end Go.Proofs.YtolffmmkjnhkkaaGreat
