import Derived.Test.YtonkhcdmchidjaaGreatNA
import Derived.OwnWalkIn
import Derived.TacticsInMore
import Derived.LoopNIn
import Derived.LoopIn
import Derived.RangeFuncBound
set_option maxHeartbeats 4000000
namespace Go.Proofs.YtonkhcdmchidjaaGreat
open Go.RowKit Go Go.Shelf
set_option maxRecDepth 100000
def SeqZ {α:Type} (n:Nat) (P:Program) (g:Nat) (lb:Array Value) (encs:α→Array Value) (Ok:List α→Prop) (Kp:World→World→Prop) (S Sp:List α→Prop) (w:World):Prop:=
 ∀ (l:Nat) (J Jx:List α→World→Prop) (W:World),Below w.heap.size w W→AbidesFrom W.heap.size J→AbidesFrom W.heap.size Jx→
  (∀pre x W1,J pre W1→Ok (pre ++ [x])→YieldAt Fence.wide (n - 1) P l (encs x) W1 fun e W'=>
    (e=.returned (.bool true)∧J (pre ++ [x]) W'∧Kp W1 W')∨(e=.returned (.bool false)∧Jx (pre ++ [x]) W'))→
  J [] W→CallsIn Fence.wide n P g (#[.func (.yield l) #[] #[]] ++ lb) W fun e W'=>(∃v,e=.returned v)∧((∃xs,S xs∧J xs W')∨(∃pre,Sp pre∧Jx pre W'))
section
variable {P:Program} {n:Nat}
theorem zBx {α:Type} {g:Operand} {ps:Array Tmp} {assign body:Code} {Q:Exit→Act→World→Prop} {a:Act} {w:World}
 (h1:1≤n) {gf:Nat} {lb:Array Value} (hg:a.eval g=.func (.func gf) #[] lb) (eg:∀args w,(callFunc gf args).run P w=.ok (.enter gf args) w)
 {encs:α→Array Value} {Ok:List α→Prop} {Kp:World→World→Prop} {S Sp:List α→Prop} (hseq:SeqZ (n - 1) P gf lb encs Ok Kp S Sp w)
 (hKt:∀{A B C:World},Kp A B→Kp B C→Kp A C) (hKb:∀ (W:World) (l:Nat) (o o':Obj),w.heap.size≤l→W.heap[l]? =some o→o.isCells=false→o.isWalk=false→Kp W (W.putObj l o')) (hps:∀x,(encs x).size=ps.size)
 (I:List α→World→Prop) (Ix:Code→List α→World→Prop) (hI:OwnFrom w.heap.size I) (hIx:∀c,OwnFrom w.heap.size (Ix c)) (h0:I [] w) (a₁:α→Act)
 (hassign:∀ (l:Nat) (x:α) (W:World) (K:Act→World→Prop),K (a₁ x) W→
   assign.wpIn (Fence.wide.inRound l) (n - 1 - 1) P (Exit.then K (fun _ _ _=>False)) {tmps:=(ps.zip (encs x)).foldl (fun t (p,v)=>t.setIfInBounds p v) a.tmps,defers:=[]} W)
 (hbody:∀ (l:Nat) (pre:List α) (x:α) (W:World),I pre W→Ok (pre ++ [x])→body.wpIn (Fence.wide.inRound l) (n - 1 - 1) P (ownPostK Kp I Ix (pre ++ [x]) W) (a₁ x) W)
 (hdone:∀ (D:Nat) (xs:List α) (W:World),w.heap.size≤D→S xs→I xs W→W.heap[D]? =some (.deferred (some []))→Q .normal {a with defers:={target:=.collected D,args:=#[]} :: a.defers} W)
 (hstop:∀ (D:Nat) (c:Code) (pre:List α) (W:World),w.heap.size≤D→Sp pre→Ix c pre W→W.heap[D]? =some (.deferred (some []))→c.wpIn Fence.wide n P Q {a with defers:={target:=.collected D,args:=#[]} :: a.defers} W):
 (Code.rangeFunc g ps assign body).wpIn Fence.wide n P Q a w:=by
 refine wpIn_rangeFunc ?_;intro fn hfn;rw [show Fence.wide.round=none from rfl];obtain⟨rec,hrec⟩:∃rec:LoopState→Option Code→Loop,rec=fun st pe=>{state:=st,pending:=pe,fn,tmps:=a.tmps,params:=ps,assign,body,defers:=w.heap.size}:=⟨_,rfl⟩
 obtain⟨W1,hW1⟩:∃W1,(w.alloc (.deferred (some []))).alloc (.loop (rec .ready none))=W1:=⟨_,rfl⟩
 have hL1:W1.heap[w.heap.size+1]? =some (.loop (rec .ready none)):=by
  rw [←hW1];have:=World.alloc_heap_new (w.alloc (.deferred (some []))) (.loop (rec .ready none));rwa [World.size_alloc] at this
 have hK1:W1.heap[w.heap.size]? =some (.deferred (some [])):=by
  rw [←hW1];exact(Below.heap_alloc _ _ _ (by simp)).trans (World.alloc_heap_new w _)
 have hI1:I [] W1:=by rw [←hW1];exact hI.alloc _ (hI.alloc _ h0)
 have hb1:Below w.heap.size w W1:=by
  rw [←hW1];exact((Below.refl _ w).alloc (Nat.le_refl _) _).alloc (by simp) _
 refine⟨w.heap.size+1,[{target:=.collected w.heap.size,args:=#[]}],W1,{target:=.fn (.func gf) lb,args:=#[.func (.yield (w.heap.size+1)) #[] #[]]},W1,gf,
  #[.func (.yield (w.heap.size+1)) #[] #[]] ++ lb,W1,?_,?_,?_,?_,fun _=>h1,?_⟩
 ·rw [←hW1,hrec];exact run_enterLoop_outer _ _ _ _ _
 ·simp only [resolve,hg];simp [go_sem]
 ·intro f' hf';trivial
 ·simp [invoke,go_sem,eg]
 ·have hnw:∀{A B:World} {row:Option Nat},(∀r,row=some r→W1.heap.size≤r∧∃o:Obj,A.heap[r]? =some o∧o.isWalk=true)→(∀r,row=some r→w.heap.size≤r∧∃o:Obj,A.heap[r]? =some o∧o.isCells=false):=
   fun hr r e=>by obtain⟨hB,o,ho,hw⟩:=hr r e;exact⟨by rw [←hW1] at hB;simp at hB;omega,o,ho,Obj.not_cells_of_walk hw⟩
  refine(hseq (w.heap.size+1)
   (fun pre W=>I pre W∧W.heap[w.heap.size+1]? =some (.loop (rec .ready none))∧W.heap[w.heap.size]? =some (.deferred (some [])))
   (fun pre W=>∃c,Ix c pre W∧W.heap[w.heap.size+1]? =some (.loop (rec .done (some c)))∧W.heap[w.heap.size]? =some (.deferred (some [])))
   W1 hb1
   (fun s A B row hs hg' hr=>⟨hI s A B row hs.1 hg' (hnw (B:=B) hr),(grownBy_keeps hg' (fun r e=>(hr r e).2) hs.2.1 rfl).trans hs.2.1,(grownBy_keeps hg' (fun r e=>(hr r e).2) hs.2.2 rfl).trans hs.2.2⟩)
   (fun s A B row hs hg' hr=>by
     obtain⟨c,hc,hl,hk⟩:=hs
     exact⟨c,hIx c s A B row hc hg' (hnw (B:=B) hr),(grownBy_keeps hg' (fun r e=>(hr r e).2) hl rfl).trans hl,(grownBy_keeps hg' (fun r e=>(hr r e).2) hk rfl).trans hk⟩)
   ?_ ⟨hI1,hL1,hK1⟩).mono ?_
  ·rintro pre x W ⟨hi,hl,hk⟩ hok;have hlt:w.heap.size+1<W.heap.size:=(Array.getElem?_eq_some_iff.1 hl).1;have hy:=run_yield (P:=P) (args:=encs x) hl (by rw [hrec];exact hps x);rw [hrec] at hy;refine⟨fn,_,assign,body,hy,roundIn_of_wpIn hfn (hassign _ x W _ ⟨_,run_beginRound hl (by rw [hrec]),?_⟩)⟩;have hl2:(W.putObj (w.heap.size+1) (.loop {rec .ready none with state:=.busy})).heap[w.heap.size+1]? =some (.loop {rec .ready none with state:=.busy}):=World.putObj_heap_same hlt;have hk2:(W.putObj (w.heap.size+1) (.loop {rec .ready none with state:=.busy})).heap[w.heap.size]? =some (.deferred (some [])):=(World.putObj_heap_other (by omega)).trans hk;have hw2:Kp W (W.putObj (w.heap.size+1) (.loop {rec .ready none with state:=.busy})):=hKb _ _ _ _ (by omega) hl rfl rfl;refine wpIn_mono (hbody _ pre x _ (hI.putObj _ hi (by omega) hl rfl) hok) ?_
   have fin:∀ (jump:Option Code) (W3:World),KeepsOthers (W.putObj (w.heap.size+1) (.loop {rec .ready none with state:=.busy})) W3→
    (Instr.endRound (w.heap.size+1) jump).run P W3=.ok (.bool jump.isNone) (W3.putObj (w.heap.size+1) (.loop (rec (if jump.isNone then .ready else .done) jump)))∧
    W3.heap[w.heap.size+1]? =some (.loop {rec .ready none with state:=.busy})∧
    (W3.putObj (w.heap.size+1) (.loop (rec (if jump.isNone then .ready else .done) jump))).heap[w.heap.size+1]? =some (.loop (rec (if jump.isNone then .ready else .done) jump))∧
    (W3.putObj (w.heap.size+1) (.loop (rec (if jump.isNone then .ready else .done) jump))).heap[w.heap.size]? =some (.deferred (some [])):=fun jump W3 hk3=>by
    have hl3:=hk3.same _ _ hl2 rfl;have:=run_endRound (P:=P) jump hl3;rw [hrec] at this ⊢;exact⟨this,by rw [hrec] at hl3;exact hl3,World.putObj_heap_same (Array.getElem?_eq_some_iff.1 hl3).1,(World.putObj_heap_other (by omega)).trans (hk3.same _ _ hk2 rfl)⟩
   rintro e a3 W3 hp
   cases e with
   | normal=>
    obtain⟨hk3,hkp3,hi3⟩:=hp;obtain⟨hr,hl3,hl4,hk4⟩:=fin none W3 hk3;exact⟨_,_,hr,.inl ⟨rfl,⟨hI.putObj _ hi3 (by omega) hl3 rfl,hl4,hk4⟩,hKt (hKt hw2 hkp3) (hKb _ _ _ _ (by omega) hl3 rfl rfl)⟩⟩
   | ret=>
    obtain⟨hk3,hi3⟩:=hp;obtain⟨hr,hl3,hl4,hk4⟩:=fin (some .ret) W3 hk3;exact⟨_,_,hr,.inr ⟨rfl,.ret,(hIx _).putObj _ hi3 (by omega) hl3 rfl,hl4,hk4⟩⟩
   | exit id=>
    obtain⟨hk3,hi3⟩:=hp;obtain⟨hr,hl3,hl4,hk4⟩:=fin (some (.exit id)) W3 hk3;exact⟨_,_,hr,.inr ⟨rfl,.exit id,(hIx _).putObj _ hi3 (by omega) hl3 rfl,hl4,hk4⟩⟩
   | goto t=>
    obtain⟨hk3,hi3⟩:=hp;obtain⟨hr,hl3,hl4,hk4⟩:=fin (some (.goto t)) W3 hk3;exact⟨_,_,hr,.inr ⟨rfl,.goto t,(hIx _).putObj _ hi3 (by omega) hl3 rfl,hl4,hk4⟩⟩
   | panic ch=>exact hp.elim
   | outgrown=>exact hp.elim
  ·rintro e W2 ⟨⟨v,rfl⟩,(⟨xs,hS,hi,hl,hk⟩ | ⟨pre,hSp,c,hi,hl,hk⟩)⟩
   ·exact⟨none,_,by have:=run_endLoop (P:=P) hl (by rw [hrec];simp);rw [hrec] at this;exact this,hdone _ xs _ (Nat.le_refl _) hS (hI.putObj _ hi (by omega) hl rfl) ((World.putObj_heap_other (by omega)).trans hk)⟩
   ·exact⟨some c,_,by have:=run_endLoop (P:=P) hl (by rw [hrec];simp);rw [hrec] at this;exact this,hstop _ c pre _ (Nat.le_refl _) hSp ((hIx c).putObj _ hi (by omega) hl rfl) ((World.putObj_heap_other (by omega)).trans hk)⟩
end
set_option linter.all false
attribute [local go_sem] Oper.semAt_some
theorem zKY (a:Option Addr) (n cap:Nat) (w:World):
 Calls Tryz.prog 218 #[.slice a n cap] w fun e w'=>e=.returned (.func (.func 228) #[] #[.pointer (some ⟨w.heap.size,0,none⟩)])∧w'=w.alloc (.cells #[.slice a n cap] 217):=by
 have hmf:∀ (fn:Fn) (first cap:Array Value) (w:World),(Instr.makeFunc fn first cap).run Tryz.prog w=.ok (.func fn first cap) w:=fun _ _ _ _=>rfl;go_enter Tryz.func218,Tryz.ntmps218;go_wp2_with fail;go_ret;exact⟨rfl,rfl⟩
theorem zIa (a:Option Addr) (n cap:Nat) (w:World):
 Calls Tryz.prog 197 #[.slice a n cap] w fun e w'=>e=.returned (.func (.func 228) #[] #[.pointer (some ⟨w.heap.size,0,none⟩)])∧w'=w.alloc (.cells #[.slice a n cap] 217):=by
 have H:=dH (zKY a n cap w);go_enter Tryz.func197,Tryz.ntmps197;go_wp2_with fail;refine H.out.mono ?_;rintro e w1 ⟨rfl,rfl⟩;go_wp2_with fail;go_ret;exact⟨rfl,rfl⟩
def downs (n k:Nat):List Nat:=(List.range k).map (fun j=>n - 1 - j)
theorem zFq (n k:Nat):downs n (k+1)=downs n k ++ [n - 1 - k]:=by simp [downs,List.range_succ]
theorem zDn (n k:Nat):(downs n k).length=k:=by simp [downs]
def OkB (n:Nat) (xs:List Nat):Prop:=xs=downs n xs.length∧xs.length≤n
theorem OkB.snoc {n:Nat} {pre:List Nat} {x:Nat} (h:OkB n (pre ++ [x])):pre=downs n pre.length∧pre.length<n∧x=n - 1 - pre.length:=by
 obtain⟨h1,h2⟩:=h;rw [List.length_append,List.length_singleton] at h1 h2;rw [zFq] at h1;obtain⟨e1,e2⟩:=List.append_inj' h1 rfl;exact⟨e1,by omega,by simpa using e2⟩
theorem OkB.downs {n k:Nat} (h:k≤n):OkB n (downs n k):=⟨by rw [zDn],by rw [zDn];exact h⟩
structure KpB (n₀ Bs:Nat) (A B:World):Prop where
 low:Below n₀ A B
 box:∀cs t,Blk A Bs cs t→Blk B Bs cs t
theorem KpB.trans {n₀ Bs:Nat} {A B C:World} (h:KpB n₀ Bs A B) (k:KpB n₀ Bs B C):KpB n₀ Bs A C:=⟨h.low.trans k.low,fun _ _ x=>k.box _ _ (h.box _ _ x)⟩
theorem KpB.refl (n₀ Bs:Nat) (A:World):KpB n₀ Bs A A:=⟨Below.refl _ _,fun _ _ h=>h⟩
theorem KpB.b {n₀ Bs:Nat} {w:World} (hn:n₀≤w.heap.size) (W:World) (l:Nat) (o o':Obj) (hl:w.heap.size≤l) (h:W.heap[l]? =some o) (h1:o.isCells=false) (h2:o.isWalk=false):KpB n₀ Bs W (W.putObj l o'):=
 ⟨belowK_b hn W l o o' hl h h1 h2,fun _ _ k=>k.put h h1 o'⟩
theorem zIb (n:Nat) (Bs n₀:Nat) (a:Option Addr) (cap:Nat) (l:List Int) (w:World) (hB:Blk w Bs #[.slice a l.length cap] 217) (hI:Ints w a cap l) (hlow:∀A,a=some A→0<l.length→A.block<n₀):
 SeqZ n Tryz.prog 228 #[.pointer (some ⟨Bs,0,none⟩)] (fun i:Nat=>#[.int .i64 (i:Int),.int .i64 (l[i]?.getD 0)]) (OkB l.length) (KpB n₀ Bs) (fun xs=>xs=downs l.length l.length) (OkB l.length) w:=fun lp J Jx W hW _ _ hY h0=>by
 have hle:=hI.le;have hmx:=hI.mx;have hB':=hB.ext hW;have hI':=hI.ext hW;refine callsIn_of_wp Tryz.func228 rfl trivial ?_ rfl;simp only [Tryz.ntmps228,List.size_toArray,List.length_cons,List.length_nil,Nat.reduceAdd,Nat.reduceSub,Array.replicate_succ,Array.replicate_zero,List.push_toArray,List.append_toArray,List.nil_append,List.cons_append];have c0:=hB'.cell (i:=0) rfl
 gi_wp2
 gi_loopw [3] (fun i wr=>∃k:Nat,k≤l.length∧i=.int .i64 ((l.length:Int) - 1 - k)∧J (downs l.length k) wr∧KpB n₀ Bs W wr) (fun i _=>(intOf i+1).toNat)
 case atStart=>exact⟨0,Nat.zero_le _,by simp,h0,KpB.refl _ _ _⟩
 case round=>
  obtain⟨k,hk,rfl,hJs,hkp⟩:=hrel;clear c0;by_cases hlt:k<l.length
  ·obtain⟨i,hi⟩:∃i,l.length - 1 - k=i:=⟨_,rfl⟩
   have hil:i<l.length:=by omega
   have ei:(l.length:Int) - 1 - k= (i:Int):=by omega
   have hB2:=hkp.box _ _ hB';obtain⟨b,o,rfl⟩:=hI'.head hil;obtain⟨x,hx,hc,_⟩:=Ints.get hI' hil;have hc2:=(hkp.low.cell (p:=⟨b,o+i,none⟩) (hlow ⟨b,o,none⟩ rfl (by omega))).trans hc;have c1:=hB2.cell (i:=0) rfl;have hds:=zFq l.length k;rw [hi] at hds;obtain⟨fn,tmps,assign,body,hy,hR⟩:=hY (downs l.length k) i wr hJs (by rw [←hds];exact OkB.downs (by omega));rw [hx,Option.getD_some] at hy;rw [ei];have g1:(0:Int)≤(i:Int):=by omega
   have g2:(i:Int)< (l.length:Int):=by omega
   have HDS:=dH hds;have HKP:=dH hkp;have HI:=dH ei;clear hB2 hc hx hds ei hi hkp hJs
   gi_wp2
   refine⟨fun h=>(by cases h),?_⟩;refine hR.mono ?_;rintro e W3 (⟨rfl,hJ3,hk3⟩ | ⟨rfl,hJx3⟩)
   ·gi_wp2
    go_roundw
    case rel=>exact⟨k+1,by omega,by have:=HI.out;go_num,by rw [HDS.out];exact hJ3,HKP.out.trans hk3⟩
    case measure=>first | (simp [intOf];done) | (simp [intOf];omega)
   ·gi_wp2
    refine bodyPost_ret (results_none rfl _ _ _) rfl ?_;exact⟨⟨_,rfl⟩,.inr ⟨_,by rw [←HDS.out];exact OkB.downs (by omega),hJx3⟩⟩
  ·obtain rfl:k=l.length:=by omega
   have ei:(l.length:Int) - 1 - (l.length:Nat)= -1:=by omega
   rw [ei]
   gi_wp2
   go_end0
   exact⟨⟨_,rfl⟩,.inl ⟨_,rfl,hJs⟩⟩
def zBS (a b:Int):Int:=if a<b then -1 else if b<a then 1 else 0
theorem zDK {a b:Int} (h:a<b):zBS a b= -1:=if_pos h
theorem zHz {a b:Int} (h:b<a):zBS a b=1:=by unfold zBS;rw [if_neg (by omega),if_pos h]
theorem zMA (a:Int):zBS a a=0:=by unfold zBS;rw [if_neg (by omega),if_neg (by omega)]
theorem zAU {l:List Int} {i:Nat} (hi:i<l.length):l.drop i=l.getD i 0 :: l.drop (i+1):=by
 rw [List.drop_eq_getElem_cons hi];simp [List.getD,hi]
theorem zCC (l:List Int) {i:Nat} (hi:i<l.length):zA1 l=zA1 (l.take i)+1073741824 ^ i* (l.getD i 0+1073741824*zA1 (l.drop (i+1))):=by
 have h:=zBy (l.take i) (l.drop i);rw [List.take_append_drop,zAU hi,zA1,List.length_take,Nat.min_eq_left (by omega)] at h;exact h
theorem zDX {l m:List Int} (hl:Digs l) (hm:Digs m) (hlen:l.length=m.length) {i:Nat} (hi:i<l.length) (hd:l.drop (i+1)=m.drop (i+1)) (h:l.getD i 0<m.getD i 0):zA1 l<zA1 m:=by
 rw [zCC l hi,zCC m (i:=i) (by omega),hd];have a:=zAy (hl.take i);have b:=zA2 (hm.take i);rw [List.length_take,Nat.min_eq_left (by omega)] at a;have hp:=zB4 i;generalize (1073741824:Int) ^ i=p at *;generalize zA1 (m.drop (i+1))=r at *;have:p* (l.getD i 0+1073741824*r)+p*1≤p* (m.getD i 0+1073741824*r):=by
  rw [←Int.mul_add];exact Int.mul_le_mul_of_nonneg_left (by omega) (by omega)
 omega
theorem zDY {l m:List Int} (hl:Digs l) (hm:Norm m) (h:l.length<m.length):zA1 l<zA1 m:=by
 rcases Int.lt_or_le (zA1 l) (zA1 m) with h1 | h1
 ·exact h1
 ·have:=zFM hl hm h1;omega
theorem Ints.atN {w:World} {a:Option Addr} {cap nn:Nat} {l:List Int} (h:Ints w a cap l) (hl:l.length=nn) {i:Nat} (hi:i<nn):∃b o,a=some ⟨b,o,none⟩∧∀j,j<nn→w.cell? ⟨b,o+j,none⟩=some (.int .i64 (l.getD j 0)):=by
 obtain⟨b,o,rfl⟩:=h.head (i:=i) (by omega);refine⟨b,o,rfl,fun j hj=>?_⟩;have:=(h.cell (i:=j) (by omega)).1;rw [this];simp [List.getD,show j<l.length by omega]
theorem zEs (a b:Option Addr) (ca cb:Nat) (l m:List Int) (w:World) (h:Ints w a ca l) (k:Ints w b cb m) (hl:Norm l) (hm:Norm m) (hne:l.length≠m.length):
 Calls Tryz.prog 148 #[.slice a l.length ca,.slice b m.length cb] w fun e w'=>e=.returned (.int .i64 (zBS (zA1 l) (zA1 m)))∧Ext w w':=by
 have hle1:=h.le;have hmx1:=h.mx;have hle2:=k.le;have hmx2:=k.mx;have d1:((l.length:Int) != (m.length:Int))=true:=by simp;omega
 have B1:=dH ((Blk.new0 w #[.slice b m.length cb] 217).alloc (.cells #[.int .i64 0] 3));have B2:=dH (Blk.new1 w (.cells #[.slice b m.length cb] 217) #[.int .i64 0] 3);have hx:Ext w ((w.alloc (.cells #[.slice b m.length cb] 217)).alloc (.cells #[.int .i64 0] 3)):=(by repeat (first | with_reducible exact Ext.refl _ | with_reducible assumption | with_reducible refine Ext.drewN ?_ _ | with_reducible refine Ext.drew ?_ | with_reducible refine Ext.alloc' ?_ _ | with_reducible refine Ext.set ?_ (by dsimp only;omega) _))
 have hs:w.heap.size≤w.heap.size+1:=by omega
 have hx2:=fun v=>hx.set (p:=⟨w.heap.size+1,0,none⟩) (by dsimp only;omega) v;have c1:=B1.out.cell (i:=0) rfl;have c2:=B2.out.cell (i:=0) rfl;have f2:=B2.out.free 0;by_cases hlt:l.length<m.length
 ·have HV:=dH (zDK (zDY hl.digs hm hlt));have HX:=dH hx2;clear h k hl hm hne hx2;go_enter Tryz.func148,Tryz.ntmps148;go_upto_region 1 with fail;generalize (w.alloc (.cells #[.slice b m.length cb] 217)).alloc (.cells #[.int .i64 0] 3)=w1 at *;go_wp2_with fail;have c3:=(B2.out.set 0 (.int .i64 (-1))).cell (i:=0) (v:=.int .i64 (-1)) rfl;refine bodyPost_ret (v:=.int .i64 (-1)) (by simp [results,Tryz.results148,go_sem,c3]) rfl ?_;exact⟨by rw [HV.out],HX.out _⟩
 ·have HV:=dH (zHz (zDY hm.digs hl (by omega)));have HX:=dH hx2;have hgt:m.length<l.length:=by omega
  clear h k hl hm hne hx2;go_enter Tryz.func148,Tryz.ntmps148;go_upto_region 1 with fail;generalize (w.alloc (.cells #[.slice b m.length cb] 217)).alloc (.cells #[.int .i64 0] 3)=w1 at *;go_wp2_with fail;have c3:=(B2.out.set 0 (.int .i64 1)).cell (i:=0) (v:=.int .i64 1) rfl;refine bodyPost_ret (v:=.int .i64 1) (by simp [results,Tryz.results148,go_sem,c3]) rfl ?_;exact⟨by rw [HV.out],HX.out _⟩
theorem zDL (n:Nat) (a b:Option Addr) (ca cb:Nat) (l m:List Int) (w:World) (h:Ints w a ca l) (k:Ints w b cb m) (hl:Norm l) (hm:Norm m) (h1:l.length=n) (h2:m.length=n):
 Calls Tryz.prog 148 #[.slice a n ca,.slice b n cb] w fun e w'=>e=.returned (.int .i64 (zBS (zA1 l) (zA1 m)))∧Ext w w':=by
 have hle1:=h.le;have hmx1:=h.mx;have hle2:=k.le;have hmx2:=k.mx;rw [h1] at hle1;rw [h2] at hle2;have HL:=dH h1;have HM:=dH h2;have HI:=dH h;have HI2:=dH k;have HN1:=dH hl;have HN2:=dH hm;clear h1 h2 h k hl hm;have X1:=(Blk.new0 w #[.slice b n cb] 217).alloc (.cells #[.int .i64 0] 3);have X2:=Blk.new1 w (.cells #[.slice b n cb] 217) #[.int .i64 0] 3;have hx:Ext w ((w.alloc (.cells #[.slice b n cb] 217)).alloc (.cells #[.int .i64 0] 3)):=(by repeat (first | with_reducible exact Ext.refl _ | with_reducible assumption | with_reducible refine Ext.drewN ?_ _ | with_reducible refine Ext.drew ?_ | with_reducible refine Ext.alloc' ?_ _ | with_reducible refine Ext.set ?_ (by dsimp only;omega) _))
 have hsz:((w.alloc (.cells #[.slice b n cb] 217)).alloc (.cells #[.int .i64 0] 3)).heap.size=w.heap.size+2:=by simp
 refine(callsIn_wide (n:=5)).1 ?_;refine callsIn_of_wp_marks Tryz.func148 rfl trivial ?_ rfl;simp only [Tryz.ntmps148,List.size_toArray,List.length_cons,List.length_nil,Nat.reduceAdd,Nat.reduceSub,Array.replicate_succ,Array.replicate_zero,List.push_toArray,List.append_toArray,List.nil_append,List.cons_append];refine wpIn_wide.2 ?_;go_upto_region 1 with fail;have X1:=dH X1;have X2:=dH X2;have c1:=X1.out.cell (i:=0) rfl;generalize (w.alloc (.cells #[.slice b n cb] 217)).alloc (.cells #[.int .i64 0] 3)=w2 at *
 go_wp2_with (go_at_call 197;refine(zIa _ _ _ _).mono ?_;rintro e6 w6 ⟨rfl,rfl⟩)
 have Y1:=X1.out.alloc (.cells #[.slice a n ca] 217);have Y2:=X2.out.alloc (.cells #[.slice a n ca] 217);have Y3:=Blk.new0 w2 #[.slice a n ca] 217;have hx3:=hx.alloc' (.cells #[.slice a n ca] 217);have hs3:(w2.alloc (.cells #[.slice a n ca] 217)).heap.size=w.heap.size+3:=by simp [hsz]
 rw [hsz] at Y3;have hi3:=HI.out.ext hx3;have hA:∀A,a=some A→0<l.length→A.block<w.heap.size:=fun A hA hn=>by
  obtain⟨b0,o0,e0⟩:=HI.out.head hn;have hI0:=HI.out;rw [e0] at hA hI0;cases hA
  exact zAd (hI0.cell (i:=0) hn).1
 generalize w2.alloc (.cells #[.slice a n ca] 217)=w3 at *;clear X1 X2 c1 hsz hx;have hseq:=zIb 4 (w.heap.size+2) w.heap.size a ca l w3 (by rw [HL.out];exact Y3) hi3 hA;rw [HL.out] at hseq;refine(wpIn_wide (n:=5)).1 ?_
 refine zBx (by omega) (gf:=228) (lb:=#[.pointer (some ⟨w.heap.size+2,0,none⟩)]) rfl (enters_of Tryz.func228 (by kernel_rfl) rfl)
  hseq (fun h k=>KpB.trans h k) (fun W l o o' h1 h2 h3 h4=>KpB.b (w:=w3) (by omega) W l o o' h1 h2 h3 h4) (fun _=>rfl)
  (fun pre W=>Blk W w.heap.size #[.slice b n cb] 217∧Blk W (w.heap.size+1) #[.int .i64 0] 3∧Below w.heap.size w W∧l.drop (n - pre.length)=m.drop (n - pre.length))
  (fun c _ W=>c=.ret∧Blk W (w.heap.size+1) #[.int .i64 (zBS (zA1 l) (zA1 m))] 3∧Below w.heap.size w W)
  (OwnFrom.and (Own.from (zCW _ _ _) _) (OwnFrom.and (Own.from (zCW _ _ _) _) (OwnFrom.and (ownFrom_below (Nat.le_refl _) (by omega)) (ownFrom_pure _ _))))
  (fun c=>OwnFrom.and (ownFrom_pure _ _) (OwnFrom.and (Own.from (zCW _ _ _) _) (ownFrom_below (Nat.le_refl _) (by omega))))
  ⟨Y1,Y2,hx3,by rw [List.drop_eq_nil_of_le (by rw [HL.out];exact Nat.le_refl _),List.drop_eq_nil_of_le (by rw [HM.out];exact Nat.le_refl _)]⟩ ?a1 ?assign ?body ?done ?stop
 case assign=>
  intro l x W K hK
  gi_wp2
  exact hK
 case body=>
  rintro lp pre i W ⟨hb,hr,hB,hd⟩ hok;obtain⟨e1,e2,e3⟩:=hok.snoc;have hin:i<n:=by omega
  have hdi:n - pre.length=i+1:=by omega
  rw [hdi] at hd;obtain⟨b2,o2,rfl,hcb⟩:=HI2.out.atN HM.out hin;have hcb:=hcb i hin;have ec:=(hB.cell (p:=⟨b2,o2+i,none⟩) (zAd hcb)).trans hcb;have c1:=hb.cell (i:=0) rfl;have c2:=hr.cell (i:=0) rfl;have f2:=hr.free 0;have HR:=dH hr;have HB:=dH hb;have HD:=dH hd;have g1:(0:Int)≤(i:Int):=by omega
  have g2:(i:Int)< (n:Int):=by omega
  have hp1:n - (pre ++ [i]).length=i:=by rw [List.length_append,List.length_singleton];omega
  have HP1:=dH hp1;obtain⟨x,hx⟩:∃x,l.getD i 0=x:=⟨_,rfl⟩
  obtain⟨y,hy⟩:∃y,m.getD i 0=y:=⟨_,rfl⟩
  rw [hy] at ec;have hx':l[i]?.getD 0=x:=by rw [←List.getD_eq_getElem?_getD];exact hx
  have HX:=dH hx;have HY:=dH hy;rw [hx'];clear hx' hcb hb hr hd hp1 hok e1 e3 hx hy Y1 Y2 Y3;rcases Int.lt_trichotomy x y with hxy | hxy | hxy
  ·have t1:decide (x<y)=true:=by simpa using hxy
   have HV:=dH (zDK (zDX HN1.out.digs HN2.out.digs (by rw [HL.out,HM.out]) (by rw [HL.out];exact hin) HD.out (by rw [HX.out,HY.out];exact hxy)));gi_wp2_with fail;refine⟨KeepsOthers.setCell _ _ _,rfl,by rw [HV.out];exact HR.out.set 0 _,hB.setCell (p:=⟨w.heap.size+1,0,none⟩) (by dsimp only;omega) _⟩
  ·subst hxy;have t1:decide (x<x)=false:=by simp
   gi_wp2_with fail;refine⟨KeepsOthers.refl _,KpB.refl _ _ _,HB.out,HR.out,hB,?_⟩;rw [HP1.out,zAU (l:=l) (by rw [HL.out];exact hin),zAU (l:=m) (by rw [HM.out];exact hin),HX.out,HY.out,HD.out]
  ·have t1:decide (x<y)=false:=by simp only [decide_eq_false_iff_not];omega
   have t2:decide (y<x)=true:=by simpa using hxy
   have HV:=dH (zHz (zDX HN2.out.digs HN1.out.digs (by rw [HL.out,HM.out]) (by rw [HM.out];exact hin) HD.out.symm (by rw [HX.out,HY.out];exact hxy)));gi_wp2_with fail;refine⟨KeepsOthers.setCell _ _ _,rfl,by rw [HV.out];exact HR.out.set 0 _,hB.setCell (p:=⟨w.heap.size+1,0,none⟩) (by dsimp only;omega) _⟩
 case done=>
  rintro D ys W hD rfl ⟨hb,hr,hB,hd⟩ hK;rw [zDn,Nat.sub_self] at hd;have hlm:l=m:=by simpa using hd
  subst hlm;have HV:=dH (zMA (zA1 l));have k0:=hr.cell (i:=0) rfl;have f0:=hr.free 0;have HK:=dH hK;have HR:=dH hr;clear hK hr hb hd Y1 Y2 Y3;go_wp2_with fail;have hK':=(KeepsOthers.setCell W ⟨w.heap.size+1,0,none⟩ (.int .i64 0)).same D _ HK.out rfl;refine⟨by simp,.inl ⟨_,_,rfl,run_takeDeferred hK',?_⟩⟩;have kt:=(HR.out.set 0 (.int .i64 0)).put hK' rfl (.deferred none);have k0:=kt.cell (i:=0) (v:=.int .i64 0) rfl;refine⟨.int .i64 0,by simp [results,Tryz.f148,go_sem,k0],by rw [HV.out],?_⟩;exact Below.trans (hB.setCell (p:=⟨w.heap.size+1,0,none⟩) (by dsimp only;omega) _) (belowK_b (n₀:=w.heap.size) (w:=w) (Nat.le_refl _) _ D _ _ (by omega) hK' rfl rfl)
 case stop=>
  rintro D c pre W hD _ ⟨rfl,hr,hB⟩ hK;have k0:=hr.cell (i:=0) rfl;have HK:=dH hK;have HR:=dH hr;clear hK hr Y1 Y2 Y3;gi_wp2_with fail;refine⟨by simp,.inl ⟨_,_,rfl,run_takeDeferred HK.out,?_⟩⟩;have kt:=HR.out.put HK.out rfl (.deferred none);have k0:=kt.cell (i:=0) rfl;refine⟨_,by simp [results,Tryz.f148,go_sem,k0],rfl,?_⟩;exact Below.trans hB (belowK_b (n₀:=w.heap.size) (w:=w) (Nat.le_refl _) _ D _ _ (by omega) HK.out rfl rfl)
theorem zAY (a b:Option Addr) (ca cb:Nat) (l m:List Int) (w:World) (h:Ints w a ca l) (k:Ints w b cb m) (hl:Norm l) (hm:Norm m):
 Calls Tryz.prog 148 #[.slice a l.length ca,.slice b m.length cb] w fun e w'=>e=.returned (.int .i64 (zBS (zA1 l) (zA1 m)))∧Ext w w':=by
 by_cases he:l.length=m.length
 ·have:=zDL m.length a b ca cb l m w h k hl hm he rfl;rw [he];exact this
 ·exact zEs a b ca cb l m w h k hl hm he
end Go.Proofs.YtonkhcdmchidjaaGreat
