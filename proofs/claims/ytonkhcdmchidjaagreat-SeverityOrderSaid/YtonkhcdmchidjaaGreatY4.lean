import Derived.Test.YtonkhcdmchidjaaGreatY3
namespace Go.Proofs.YtonkhcdmchidjaaGreat
open Go.RowKit Go Go.Shelf
set_option maxRecDepth 100000
def SeqY {α:Type} (n:Nat) (P:Program) (g:Nat) (lb:Array Value) (encs:α→Array Value) (Ok:List α→World→Prop) (Kp:World→World→Prop) (S Sp:List α→Prop) (w:World):Prop:=
 ∀ (l:Nat) (J Jx:List α→World→Prop) (W:World),Below w.heap.size w W→AbidesFrom W.heap.size J→AbidesFrom W.heap.size Jx→
  (∀pre x W1,J pre W1→Ok (pre ++ [x]) W1→YieldAt Fence.wide (n - 1) P l (encs x) W1 fun e W'=>
    (e=.returned (.bool true)∧J (pre ++ [x]) W'∧Kp W1 W')∨(e=.returned (.bool false)∧Jx (pre ++ [x]) W'))→
  J [] W→CallsIn Fence.wide n P g (#[.func (.yield l) #[] #[]] ++ lb) W fun e W'=>(∃v,e=.returned v)∧((∃xs,S xs∧J xs W')∨(∃pre,Sp pre∧Jx pre W'))
section
variable {P:Program} {n:Nat}
theorem zAH {α:Type} {g:Operand} {ps:Array Tmp} {assign body:Code} {Q:Exit→Act→World→Prop} {a:Act} {w:World}
 (h1:1≤n) {gf:Nat} {lb:Array Value} (hg:a.eval g=.func (.func gf) #[] lb) (eg:∀args w,(callFunc gf args).run P w=.ok (.enter gf args) w)
 {encs:α→Array Value} {Ok:List α→World→Prop} {Kp:World→World→Prop} {S Sp:List α→Prop} (hseq:SeqY (n - 1) P gf lb encs Ok Kp S Sp w)
 (hKt:∀{A B C:World},Kp A B→Kp B C→Kp A C) (hKb:∀ (W:World) (l:Nat) (o o':Obj),w.heap.size≤l→W.heap[l]? =some o→o.isCells=false→o.isWalk=false→Kp W (W.putObj l o')) (hps:∀x,(encs x).size=ps.size)
 (I:List α→World→Prop) (Ix:Code→List α→World→Prop) (hI:OwnFrom w.heap.size I) (hIx:∀c,OwnFrom w.heap.size (Ix c)) (hOk:OwnFrom w.heap.size Ok) (h0:I [] w) (hKa:∀ (W:World) (o:Obj),w.heap.size≤W.heap.size→Kp W (W.alloc o)) (bx:α→Array Value) (bt:TypeId) (a₁:α→Nat→Act)
 (hassign:∀ (l:Nat) (x:α) (W:World) (K:Act→World→Prop),K (a₁ x W.heap.size) (W.alloc (.cells (bx x) bt))→
   assign.wpIn (Fence.wide.inRound l) (n - 1 - 1) P (Exit.then K (fun _ _ _=>False)) {tmps:=(ps.zip (encs x)).foldl (fun t (p,v)=>t.setIfInBounds p v) a.tmps,defers:=[]} W)
 (hbody:∀ (l:Nat) (pre:List α) (x:α) (W:World),I pre W→Ok (pre ++ [x]) W→∀b:Nat,W.heap[b]? =some (.cells (bx x) bt (0,0))→w.heap.size≤b→body.wpIn (Fence.wide.inRound l) (n - 1 - 1) P (ownPostK Kp I Ix (pre ++ [x]) W) (a₁ x b) W)
 (hdone:∀ (D:Nat) (xs:List α) (W:World),w.heap.size≤D→S xs→I xs W→W.heap[D]? =some (.deferred (some []))→Q .normal {a with defers:={target:=.collected D,args:=#[]} :: a.defers} W)
 (hstop:∀ (D:Nat) (c:Code) (pre:List α) (W:World),w.heap.size≤D→Sp pre→Ix c pre W→W.heap[D]? =some (.deferred (some []))→c.wpIn Fence.wide n P Q {a with defers:={target:=.collected D,args:=#[]} :: a.defers} W):
 (Code.rangeFunc g ps assign body).wpIn Fence.wide n P Q a w:=by
 refine wpIn_rangeFunc ?_;intro fn hfn;rw [show Fence.wide.round=none from rfl];obtain⟨rec,hrec⟩:∃rec:LoopState→Option Code→Loop,rec=fun st pe=>{state:=st,pending:=pe,fn,tmps:=a.tmps,params:=ps,assign,body,defers:=w.heap.size}:=⟨_,rfl⟩
 obtain⟨W1,hW1⟩:∃W1,(w.alloc (.deferred (some []))).alloc (.loop (rec .ready none))=W1:=⟨_,rfl⟩
 have hL1:W1.heap[w.heap.size+1]? =some (.loop (rec .ready none)):=by
  rw [←hW1];have:=World.alloc_heap_new (w.alloc (.deferred (some []))) (.loop (rec .ready none));rwa [World.size_alloc] at this
 have hK1:W1.heap[w.heap.size]? =some (.deferred (some [])):=by
  rw [←hW1];exact(Below.heap_alloc _ _ _ (by simp)).trans (World.alloc_heap_new w _)
 have hI1:I [] W1:=by rw [←hW1];exact hI.alloc _ (hI.alloc _ h0)
 have hb1:Below w.heap.size w W1:=by
  rw [←hW1];exact((Below.refl _ w).alloc (Nat.le_refl _) _).alloc (by simp) _
 refine⟨w.heap.size+1,[{target:=.collected w.heap.size,args:=#[]}],W1,{target:=.fn (.func gf) lb,args:=#[.func (.yield (w.heap.size+1)) #[] #[]]},W1,gf,
  #[.func (.yield (w.heap.size+1)) #[] #[]] ++ lb,W1,?_,?_,?_,?_,fun _=>h1,?_⟩
 ·rw [←hW1,hrec];exact run_enterLoop_outer _ _ _ _ _
 ·simp only [resolve,hg];simp [go_sem]
 ·intro f' hf';trivial
 ·simp [invoke,go_sem,eg]
 ·have hnw:∀{A B:World} {row:Option Nat},(∀r,row=some r→W1.heap.size≤r∧∃o:Obj,A.heap[r]? =some o∧o.isWalk=true)→(∀r,row=some r→w.heap.size≤r∧∃o:Obj,A.heap[r]? =some o∧o.isCells=false):=
   fun hr r e=>by obtain⟨hB,o,ho,hw⟩:=hr r e;exact⟨by rw [←hW1] at hB;simp at hB;omega,o,ho,Obj.not_cells_of_walk hw⟩
  refine(hseq (w.heap.size+1)
   (fun pre W=>I pre W∧W.heap[w.heap.size+1]? =some (.loop (rec .ready none))∧W.heap[w.heap.size]? =some (.deferred (some [])))
   (fun pre W=>∃c,Ix c pre W∧W.heap[w.heap.size+1]? =some (.loop (rec .done (some c)))∧W.heap[w.heap.size]? =some (.deferred (some [])))
   W1 hb1
   (fun s A B row hs hg' hr=>⟨hI s A B row hs.1 hg' (hnw (B:=B) hr),(grownBy_keeps hg' (fun r e=>(hr r e).2) hs.2.1 rfl).trans hs.2.1,(grownBy_keeps hg' (fun r e=>(hr r e).2) hs.2.2 rfl).trans hs.2.2⟩)
   (fun s A B row hs hg' hr=>by
     obtain⟨c,hc,hl,hk⟩:=hs
     exact⟨c,hIx c s A B row hc hg' (hnw (B:=B) hr),(grownBy_keeps hg' (fun r e=>(hr r e).2) hl rfl).trans hl,(grownBy_keeps hg' (fun r e=>(hr r e).2) hk rfl).trans hk⟩)
   ?_ ⟨hI1,hL1,hK1⟩).mono ?_
  ·rintro pre x W ⟨hi,hl,hk⟩ hok;have hlt:w.heap.size+1<W.heap.size:=(Array.getElem?_eq_some_iff.1 hl).1;have hy:=run_yield (P:=P) (args:=encs x) hl (by rw [hrec];exact hps x);rw [hrec] at hy;have hl0:(W.alloc (.cells (bx x) bt)).heap[w.heap.size+1]? =some (.loop (rec .ready none)):=(Below.heap_alloc _ _ _ hlt).trans hl;have hk0:(W.alloc (.cells (bx x) bt)).heap[w.heap.size]? =some (.deferred (some [])):=(Below.heap_alloc _ _ _ (by omega)).trans hk;have hbx:(W.alloc (.cells (bx x) bt)).heap[W.heap.size]? =some (.cells (bx x) bt (0,0)):=World.alloc_heap_new W _;have hbB:w.heap.size≤W.heap.size:=by omega
   have hi0:=hI.alloc (.cells (bx x) bt) hi;have hok0:=hOk.alloc (.cells (bx x) bt) hok;have hKW:=hKa W (.cells (bx x) bt) hbB;have hlt0:w.heap.size+1< (W.alloc (.cells (bx x) bt)).heap.size:=by rw [World.size_alloc];omega
   refine⟨fn,_,assign,body,hy,roundIn_of_wpIn hfn (hassign _ x W _ ⟨_,run_beginRound hl0 (by rw [hrec]),?_⟩)⟩;clear hy hl hk hi hok hlt;generalize W.alloc (.cells (bx x) bt)=Z at *;generalize W.heap.size=bz at *;have hl:=hl0;have hk:=hk0;have hi:=hi0;have hok:=hok0;have hlt:=hlt0;have hl2:(Z.putObj (w.heap.size+1) (.loop {rec .ready none with state:=.busy})).heap[w.heap.size+1]? =some (.loop {rec .ready none with state:=.busy}):=World.putObj_heap_same hlt;have hk2:(Z.putObj (w.heap.size+1) (.loop {rec .ready none with state:=.busy})).heap[w.heap.size]? =some (.deferred (some [])):=(World.putObj_heap_other (by omega)).trans hk;have hw2:Kp Z (Z.putObj (w.heap.size+1) (.loop {rec .ready none with state:=.busy})):=hKb _ _ _ _ (by omega) hl rfl rfl;refine wpIn_mono (hbody _ pre x _ (hI.putObj _ hi (by omega) hl rfl) (hOk.putObj _ hok (by omega) hl rfl) bz ((World.putObj_heap_other (fun e=>by rw [e,hl0] at hbx;cases hbx)).trans hbx) hbB) ?_
   have fin:∀ (jump:Option Code) (W3:World),KeepsOthers (Z.putObj (w.heap.size+1) (.loop {rec .ready none with state:=.busy})) W3→
    (Instr.endRound (w.heap.size+1) jump).run P W3=.ok (.bool jump.isNone) (W3.putObj (w.heap.size+1) (.loop (rec (if jump.isNone then .ready else .done) jump)))∧
    W3.heap[w.heap.size+1]? =some (.loop {rec .ready none with state:=.busy})∧
    (W3.putObj (w.heap.size+1) (.loop (rec (if jump.isNone then .ready else .done) jump))).heap[w.heap.size+1]? =some (.loop (rec (if jump.isNone then .ready else .done) jump))∧
    (W3.putObj (w.heap.size+1) (.loop (rec (if jump.isNone then .ready else .done) jump))).heap[w.heap.size]? =some (.deferred (some [])):=fun jump W3 hk3=>by
    have hl3:=hk3.same _ _ hl2 rfl;have:=run_endRound (P:=P) jump hl3;rw [hrec] at this ⊢;exact⟨this,by rw [hrec] at hl3;exact hl3,World.putObj_heap_same (Array.getElem?_eq_some_iff.1 hl3).1,(World.putObj_heap_other (by omega)).trans (hk3.same _ _ hk2 rfl)⟩
   rintro e a3 W3 hp
   cases e with
   | normal=>
    obtain⟨hk3,hkp3,hi3⟩:=hp;obtain⟨hr,hl3,hl4,hk4⟩:=fin none W3 hk3;exact⟨_,_,hr,.inl ⟨rfl,⟨hI.putObj _ hi3 (by omega) hl3 rfl,hl4,hk4⟩,hKt hKW (hKt (hKt hw2 hkp3) (hKb _ _ _ _ (by omega) hl3 rfl rfl))⟩⟩
   | ret=>
    obtain⟨hk3,hi3⟩:=hp;obtain⟨hr,hl3,hl4,hk4⟩:=fin (some .ret) W3 hk3;exact⟨_,_,hr,.inr ⟨rfl,.ret,(hIx _).putObj _ hi3 (by omega) hl3 rfl,hl4,hk4⟩⟩
   | exit id=>
    obtain⟨hk3,hi3⟩:=hp;obtain⟨hr,hl3,hl4,hk4⟩:=fin (some (.exit id)) W3 hk3;exact⟨_,_,hr,.inr ⟨rfl,.exit id,(hIx _).putObj _ hi3 (by omega) hl3 rfl,hl4,hk4⟩⟩
   | goto t=>
    obtain⟨hk3,hi3⟩:=hp;obtain⟨hr,hl3,hl4,hk4⟩:=fin (some (.goto t)) W3 hk3;exact⟨_,_,hr,.inr ⟨rfl,.goto t,(hIx _).putObj _ hi3 (by omega) hl3 rfl,hl4,hk4⟩⟩
   | panic ch=>exact hp.elim
   | outgrown=>exact hp.elim
  ·rintro e W2 ⟨⟨v,rfl⟩,(⟨xs,hS,hi,hl,hk⟩ | ⟨pre,hSp,c,hi,hl,hk⟩)⟩
   ·exact⟨none,_,by have:=run_endLoop (P:=P) hl (by rw [hrec];simp);rw [hrec] at this;exact this,hdone _ xs _ (Nat.le_refl _) hS (hI.putObj _ hi (by omega) hl rfl) ((World.putObj_heap_other (by omega)).trans hk)⟩
   ·exact⟨some c,_,by have:=run_endLoop (P:=P) hl (by rw [hrec];simp);rw [hrec] at this;exact this,hstop _ c pre _ (Nat.le_refl _) hSp ((hIx c).putObj _ hi (by omega) hl rfl) ((World.putObj_heap_other (by omega)).trans hk)⟩
end
end Go.Proofs.YtonkhcdmchidjaaGreat
namespace Go.Proofs.YtonkhcdmchidjaaGreat
open Go.RowKit Go BigFrame Go.Shelf
set_option maxRecDepth 100000
set_option linter.all false
attribute [local go_sem] Oper.semAt_some
def mkS (m:List (List Int)) (i k:Nat):Int:=(m.getD i []).getD k (-1)
def zE5 (m:List (List Int)) (i:Nat):Nat:=(m.getD i []).length
def zBb (m:List (List Int)) (i k:Nat):List (Nat × Nat):=((List.range k).filter fun j=>decide (mkS m i j≠-1)).map fun j=>(i,j)
def knS (m:List (List Int)) (i k:Nat):List (Nat × Nat):=((List.range i).flatMap fun r=>zBb m r (zE5 m r)) ++ zBb m i k
theorem zDQ (m:List (List Int)) (i k:Nat):zBb m i (k+1)=zBb m i k ++ if mkS m i k≠-1 then [(i,k)] else []:=by
 unfold zBb;rw [List.range_succ,List.filter_append];by_cases h:mkS m i k= -1
 ·rw [if_neg (by simpa using h)];simp [h]
 ·rw [if_pos h];simp [h]
theorem zLy (m:List (List Int)) (i k:Nat):knS m i (k+1)=knS m i k ++ if mkS m i k≠-1 then [(i,k)] else []:=by
 unfold knS;rw [zDQ,List.append_assoc]
theorem zCI (m:List (List Int)) (i:Nat):knS m (i+1) 0=knS m i (zE5 m i):=by
 unfold knS;rw [List.range_succ,List.flatMap_append];simp [zBb]
def OkS (m:List (List Int)) (xs:List (Nat × Nat)) (_:World):Prop:=∃i k,i<m.length∧k<zE5 m i∧mkS m i k≠-1∧xs=knS m i k ++ [(i,k)]
structure KpS (n₀ B1 B2:Nat) (A B:World):Prop where
 low:Below n₀ A B
 b1:∀cs t,Blk A B1 cs t→Blk B B1 cs t
 b2:∀cs t,Blk A B2 cs t→Blk B B2 cs t
theorem KpS.trans {n₀ B1 B2:Nat} {A B C:World} (h:KpS n₀ B1 B2 A B) (k:KpS n₀ B1 B2 B C):KpS n₀ B1 B2 A C:=⟨h.low.trans k.low,fun _ _ x=>k.b1 _ _ (h.b1 _ _ x),fun _ _ x=>k.b2 _ _ (h.b2 _ _ x)⟩
theorem KpS.refl (n₀ B1 B2:Nat) (A:World):KpS n₀ B1 B2 A A:=⟨Below.refl _ _,fun _ _ h=>h,fun _ _ h=>h⟩
theorem KpS.ext {n₀ B1 B2:Nat} {A B:World} (h:Ext A B) (hn:n₀≤A.heap.size):KpS n₀ B1 B2 A B:=⟨⟨h.os,h.tape,h.output,h.size,fun k hk=>h.block k (by omega)⟩,fun _ _ k=>k.ext h,fun _ _ k=>k.ext h⟩
theorem KpS.b {n₀ B1 B2:Nat} {w:World} (hn:n₀≤w.heap.size) (W:World) (l:Nat) (o o':Obj) (hl:w.heap.size≤l) (h:W.heap[l]? =some o) (h1:o.isCells=false) (h2:o.isWalk=false):KpS n₀ B1 B2 W (W.putObj l o'):=
 ⟨belowK_b hn W l o o' hl h h1 h2,fun _ _ k=>k.put h h1 o',fun _ _ k=>k.put h h1 o'⟩
theorem zHU {m:List (List Int)} {i k:Nat} {r:List Int} {x:Int} (hr:m[i]? =some r) (hx:r[k]? =some x):mkS m i k=x:=by
 unfold mkS;rw [show m.getD i []=r from by rw [List.getD_eq_getElem?_getD,hr];rfl,List.getD_eq_getElem?_getD,hx,Option.getD_some]
theorem zDu {m:List (List Int)} {i:Nat} {r:List Int} (hr:m[i]? =some r):zE5 m i=r.length:=by
 unfold zE5;rw [List.getD_eq_getElem?_getD,hr,Option.getD_some]
set_option maxHeartbeats 8000000 in
theorem zDv (n:Nat) (Bm Bf:Nat) (a:Option Addr) (cap:Nat) (m:List (List Int)) (w0 w:World) (h:Rows w0 a cap m) (hE:Ext w0 w) (hb1:Blk w Bm #[.slice a m.length cap] 22) (hb2:Blk w Bf #[.func (.func 55) #[] #[]] 84):
 SeqY n Tryz.prog 122 #[.pointer (some ⟨Bm,0,none⟩),.pointer (some ⟨Bf,0,none⟩)] (fun p:Nat × Nat=>#[.agg #[.int .i64 (p.1:Int),.int .i64 (p.2:Int)],.int .i64 (mkS m p.1 p.2)]) (OkS m) (KpS w0.heap.size Bm Bf) (fun xs=>xs=knS m m.length 0) (fun _=>True) w:=fun lp J Jx W hW hJ hJx hY h0=>by
 have hle:=h.le;have hmx:=h.mx;have hn0:=hE.size;have B1:=dH (hb1.ext hW);have B2:=dH (hb2.ext hW);have HH:=dH h;have HE:=dH (hE.trans hW);clear h hb1 hb2;refine callsIn_of_wp Tryz.func122 rfl trivial ?_ rfl;simp only [Tryz.ntmps122,List.size_toArray,List.length_cons,List.length_nil,Nat.reduceAdd,Nat.reduceSub,Array.replicate_succ,Array.replicate_zero,List.push_toArray,List.append_toArray,List.nil_append,List.cons_append];have c0:=B1.out.cell (i:=0) rfl
 gi_wp2
 gi_loopw [10] (fun v wr=>∃i:Nat,i≤m.length∧v=.int .i64 i∧J (knS m i 0) wr∧KpS w0.heap.size Bm Bf W wr) (fun v _=>m.length - (intOf v).toNat)
 case atStart=>exact⟨0,Nat.zero_le _,rfl,h0,KpS.refl _ _ _ _⟩
 case round=>
  obtain⟨i,hi,rfl,hJs,hkp⟩:=hrel;clear c0;have i0:(0:Int)≤(i:Int):=by omega
  by_cases hil:i<m.length
  ·have i1:(i:Int)< (m.length:Int):=by omega
   have hw1:IntKind.i64.wrap ((i:Int)+1)= (i:Int)+1:=IntWalk.i64_in _ (by omega);have hxr:Ext w0 wr:=Below.trans HE.out hkp.low;obtain⟨b,o,rfl⟩:=HH.out.head hil;obtain⟨r,ar,cr,hr,hc,hI⟩:=Rows.get (HH.out.ext hxr) hil;obtain⟨_,_,_,hr0,hc0,hI0⟩:=Rows.get HH.out hil;rw [hr] at hr0;cases hr0
   have hce:=(zA0 hxr hc0).symm.trans hc;simp only [Option.some.injEq,Value.slice.injEq] at hce;obtain⟨rfl,-,rfl⟩:=hce;have rle:=hI.le;have rmx:=hI.mx;have HR:=dH hr;have HI0:=dH hI0;have HJ:=dH hJs;have HKP:=dH hkp;clear hr hI hI0 hc0 hJs hxr hkp
   gi_wp2
   gi_loopw [17] (fun v wr=>∃k:Nat,k≤r.length∧v=.int .i64 k∧J (knS m i k) wr∧KpS w0.heap.size Bm Bf W wr) (fun v _=>r.length - (intOf v).toNat)
   case atStart=>exact⟨0,Nat.zero_le _,rfl,HJ.out,HKP.out⟩
   case round=>
    obtain⟨k,hk,rfl,hJs,hkp⟩:=hrel;generalize wr=wI at *;have k0:(0:Int)≤(k:Int):=by omega
    by_cases hkl:k<r.length
    ·have k1:(k:Int)< (r.length:Int):=by omega
     have hw2:IntKind.i64.wrap ((k:Int)+1)= (k:Int)+1:=IntWalk.i64_in _ (by omega);have hxr:Ext w0 wI:=Below.trans HE.out hkp.low;obtain⟨b2,o2,rfl⟩:=HI0.out.head hkl;obtain⟨x,hx,hcx,hx1,hx2⟩:=Ints.get (HI0.out.ext hxr) hkl;have hmk:=zHU HR.out hx;have c2:=(hkp.b2 _ _ B2.out).cell (i:=0) rfl;have HSU:=dH (zLy m i k);rw [hmk] at HSU;have HX:=dH hmk;have HJ2:=dH hJs;have HKP2:=dH hkp;have hen:∀args w,(callFunc 55 args).run Tryz.prog w=.ok (.enter 55 args) w:=fun _ _=>rfl;by_cases hmiss:x= -1
     ·have t1:(x != -1)=false:=by simp [hmiss]
      rw [if_neg (by simpa using hmiss),List.append_nil] at HSU;clear hx hxr hmk hJs hkp hmiss
      gi_wp2
      refine⟨trivial,fun h=>(by cases h),?_⟩;refine(callsIn_wide.2 (zAA x _)).mono ?_;rintro e w9 ⟨rfl,rfl⟩;rw [t1]
      gi_wp2
      refine⟨fun _ _=>trivial,?_⟩
      gi_wp2
      go_roundw
      case rel=>exact⟨k+1,by omega,by go_num,by rw [HSU.out];exact HJ2.out,HKP2.out⟩
      case measure=>first | (simp [intOf];done) | (simp [intOf];omega)
     ·have t1:(x != -1)=true:=by simp [hmiss]
      rw [if_pos hmiss] at HSU;obtain⟨fn,tmps,assign,body,hy,hR⟩:=hY (knS m i k) (i,k) wI hJs ⟨i,k,hil,by rw [zDu HR.out];exact hkl,by rw [hmk];exact hmiss,rfl⟩;dsimp only at hy hR;rw [hmk] at hy;have HRR:=dH hR;clear hx hxr hmk hJs hkp hmiss hR
      gi_wp2
      refine⟨trivial,fun h=>(by cases h),?_⟩;refine(callsIn_wide.2 (zAA x _)).mono ?_;rintro e w9 ⟨rfl,rfl⟩;rw [t1]
      gi_wp2
      refine⟨fun h=>(by cases h),?_⟩;refine HRR.out.mono ?_;rintro e W3 (⟨rfl,hJ3,hk3⟩ | ⟨rfl,hJx3⟩)
      ·gi_wp2
       go_roundw
       case rel=>exact⟨k+1,by omega,by go_num,by rw [HSU.out];exact hJ3,HKP2.out.trans hk3⟩
       case measure=>first | (simp [intOf];done) | (simp [intOf];omega)
      ·gi_wp2
       refine bodyPost_ret (results_none rfl _ _ _) rfl ?_;exact⟨⟨_,rfl⟩,.inr ⟨_,trivial,hJx3⟩⟩
    ·have k1:¬ (k:Int)< (r.length:Int):=by omega
     have hke:k=zE5 m i:=by rw [zDu HR.out];omega
     rw [hke,←zCI] at hJs;have HJ2:=dH hJs;have HKP2:=dH hkp;clear hJs hkp hke
     gi_wp2
     go_roundw
     case rel=>exact⟨i+1,by omega,by go_num,HJ2.out,HKP2.out⟩
     case measure=>first | (simp [intOf];done) | (simp [intOf];omega)
  ·obtain rfl:i=m.length:=by omega
   have i1:¬ (m.length:Int)< (m.length:Int):=by omega
   gi_wp2
   go_end0
   exact⟨⟨_,rfl⟩,.inl hJs⟩
theorem zBi (a:Option Addr) (n cap:Nat) (w:World):
 Calls Tryz.prog 57 #[.slice a n cap,.func (.func 55) #[] #[]] w fun e w'=>e=.returned (.func (.func 122) #[] #[.pointer (some ⟨w.heap.size,0,none⟩),.pointer (some ⟨w.heap.size+1,0,none⟩)])∧w'= (w.alloc (.cells #[.slice a n cap] 22)).alloc (.cells #[.func (.func 55) #[] #[]] 84):=by
 have hmf:∀ (fn:Fn) (first cap:Array Value) (w:World),(Instr.makeFunc fn first cap).run Tryz.prog w=.ok (.func fn first cap) w:=fun _ _ _ _=>rfl;go_enter Tryz.func57,Tryz.ntmps57;go_wp2_with fail;go_ret;exact⟨by simp,rfl⟩
end Go.Proofs.YtonkhcdmchidjaaGreat
