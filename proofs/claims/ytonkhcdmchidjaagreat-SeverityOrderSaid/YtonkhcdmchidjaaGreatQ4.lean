import Derived.Test.YtonkhcdmchidjaaGreatQ3
namespace Go.Proofs.YtonkhcdmchidjaaGreat
open Go.RowKit Go BigFrame
set_option maxRecDepth 100000
set_option linter.all false
structure BigC where
 n:Bool
 a:Option Addr
 q:Nat
 c:Nat
abbrev BigC.val (x:BigC):Value:=.agg #[.bool x.n,.slice x.a x.q x.c]
def BigC.cells (x:BigC):List Value:=[.bool x.n,.slice x.a x.q x.c]
structure OwnBigs (w:World) (B:Nat) (v:Value) (L:List BigC) (zs:List Int):Prop where
 len:L.length=zs.length
 own:w.ownsRow B 36 2 v L.length (L.flatMap BigC.cells)
 val:∀i (h:i<L.length),BigV w L[i].val (zs.getD i 0)
 apart:∀x∈L,0<x.q→∀A,x.a=some A→v.ownBlock≠some A.block
theorem OwnBigs.nil (w:World) (B:Nat):OwnBigs w B (.slice none 0 0) [] []:=⟨rfl,World.ownsRow_nil _ _ _ _,fun i h=>by simp at h,fun x hx=>by cases hx⟩
theorem Ints.grownQ {w w':World} {row:Option Nat} {a:Option Addr} {cap:Nat} {l:List Int} (h:Ints w a cap l) (hg:w.grownBy w' row) (hne:0<l.length→∀A,a=some A→row≠some A.block):Ints w' a cap l:=
 ⟨h.le,h.mx,h.nil,fun A hA i hi=>by
  obtain⟨h1,v,hv,hr⟩:=h.cells A hA i hi
  exact⟨h1,v,hg.cell hv (fun e=>hne (by omega) A hA e.symm),hr⟩⟩
theorem BigV.grown {w w':World} {row:Option Nat} {n:Bool} {a:Option Addr} {q c:Nat} {z:Int} (h:BigV w (.agg #[.bool n,.slice a q c]) z) (hg:w.grownBy w' row) (hne:0<q→∀A,a=some A→row≠some A.block):BigV w' (.agg #[.bool n,.slice a q c]) z:=by
 obtain⟨n',l,⟨a',c',e,hi⟩,hb⟩:=h;simp only [Value.agg.injEq,Array.mk.injEq,List.cons.injEq,Value.bool.injEq,Value.slice.injEq,and_true] at e;obtain⟨rfl,rfl,rfl,rfl⟩:=e;exact⟨n,l,⟨a,c,rfl,hi.grownQ hg hne⟩,hb⟩
theorem zAg {w w':World} {B:Nat} {t:TypeId} {s:Nat} {v:Value} {n:Nat} {xs:List Value} (h:w.ownsRow B t s v n xs) (k:Ext w w'):w'.ownsRow B t s v n xs:=by
 refine⟨h.1,?_⟩;rcases h.2 with h2 | ⟨g,cap,cur,e,hb,hg,hr⟩
 ·exact .inl h2
 ·exact .inr ⟨g,cap,cur,e,hb,(k.block g (Array.getElem?_eq_some_iff.1 hg).1).trans hg,hr⟩
theorem OwnBigs.ext {w w':World} {B:Nat} {v:Value} {L:List BigC} {zs:List Int} (h:OwnBigs w B v L zs) (k:Ext w w'):OwnBigs w' B v L zs:=
 ⟨h.len,zAg h.own k,fun i hi=>(h.val i hi).ext k,h.apart⟩
theorem BigV.lt {w:World} {n:Bool} {a:Option Addr} {q c:Nat} {z:Int} (h:BigV w (.agg #[.bool n,.slice a q c]) z) (hq:0<q):∀A,a=some A→A.block<w.heap.size:=fun A hA=>by
 obtain⟨n',l,⟨a',c',e,hi⟩,hb⟩:=h;simp only [Value.agg.injEq,Array.mk.injEq,List.cons.injEq,Value.bool.injEq,Value.slice.injEq,and_true] at e;obtain⟨rfl,rfl,rfl,rfl⟩:=e;obtain⟨b,o,rfl⟩:=hi.head (i:=0) hq;cases hA
 exact zAd (hi.cell (i:=0) hq).1
theorem OwnBigs.more {w w':World} {B:Nat} {v:Value} {L:List BigC} {zs:List Int} {x:BigC} {z:Int} {g cap:Nat} (h:OwnBigs w B v L zs) (hx:BigV w x.val z) (hxa:0<x.q→∀A,x.a=some A→v.ownBlock≠some A.block)
 (hown:w'.ownsRow B 36 2 (.slice (some ⟨g,0,none⟩) (L.length+1) cap) (L.length+1) (L.flatMap BigC.cells ++ x.cells)) (hg:w.grownBy w' v.ownBlock) (hat:v.ownBlock=some g∨g=w.heap.size):
 OwnBigs w' B (.slice (some ⟨g,0,none⟩) (L.length+1) cap) (L ++ [x]) (zs ++ [z]):=by
 have hl:=h.len;refine⟨by simp [hl],by simpa using hown,fun i hi=>?_,fun y hy hq A hA=>?_⟩
 ·by_cases hk:i<L.length
  ·have e0:(zs ++ [z]).getD i 0=zs.getD i 0:=by simp only [List.getD];rw [List.getElem?_append_left (by omega)]
   rw [List.getElem_append_left hk,e0];exact(h.val i hk).grown hg (fun hq A hA=>h.apart _ (List.getElem_mem hk) hq A hA)
  ·have hi':i=L.length:=by simp at hi;omega
   subst hi';have e1:(L ++ [x])[L.length]'(by simp)=x:=by simp
   have e2:(zs ++ [z]).getD L.length 0=z:=by rw [hl];simp
   rw [e1,e2];exact hx.grown hg hxa
 ·simp only [Value.ownBlock,ne_eq,Option.some.injEq];intro e;rcases hat with h1 | h1
  ·rcases List.mem_append.1 hy with hy | hy
   ·exact h.apart y hy hq A hA (by rw [h1,e])
   ·obtain rfl:=List.mem_singleton.1 hy;exact hxa hq A hA (by rw [h1,e])
  ·have:A.block<w.heap.size:=by
    rcases List.mem_append.1 hy with hy | hy
    ·obtain⟨i,hi,e3⟩:=List.getElem_of_mem hy;have:=h.val i hi;rw [e3] at this;exact this.lt hq A hA
    ·obtain rfl:=List.mem_singleton.1 hy;exact hx.lt hq A hA
   omega
theorem OwnBigs.form {w:World} {B:Nat} {v:Value} {L:List BigC} {zs:List Int} (h:OwnBigs w B v L zs):∃a cap,v=.slice a L.length cap∧L.length≤cap∧cap≤9223372036854775807:=by
 rcases h.own.2 with⟨rfl,h0⟩ | ⟨g,cap,cur,rfl,_,_,h1,h2,_⟩
 ·exact⟨none,0,by rw [h0],by omega,by omega⟩
 ·exact⟨_,_,rfl,h1,by unfold maxLen at h2;omega⟩
theorem OwnBigs.low {w:World} {B B':Nat} {v:Value} {L:List BigC} {zs:List Int} (h:OwnBigs w B v L zs) (hB:B'≤B):OwnBigs w B' v L zs:=by
 refine⟨h.len,⟨h.own.1,?_⟩,h.val,h.apart⟩;rcases h.own.2 with h2 | ⟨g,cap,cur,e,hb,hg,hr⟩
 ·exact .inl h2
 ·exact .inr ⟨g,cap,cur,e,by omega,hg,hr⟩
theorem zLd (L:List BigC) (i:Nat) (h:i<L.length):(L.flatMap BigC.cells)[2*i]? =some (.bool L[i].n)∧(L.flatMap BigC.cells)[2*i+1]? =some (.slice L[i].a L[i].q L[i].c):=by
 induction L generalizing i with
 | nil=>simp at h
 | cons x L ih=>
  cases i with
  | zero=>simp [BigC.cells]
  | succ i=>
   have:=ih i (by simpa using h);rw [show 2* (i+1)=2*i+2 by omega]
   simpa [BigC.cells] using this
theorem OwnBigs.cells {w:World} {B:Nat} {g cap:Nat} {L:List BigC} {zs:List Int} (h:OwnBigs w B (.slice (some ⟨g,0,none⟩) L.length cap) L zs) {i:Nat} (hi:i<L.length):
 w.cell? ⟨g,2*i,none⟩=some (.bool L[i].n)∧w.cell? ⟨g,2*i+1,none⟩=some (.slice L[i].a L[i].q L[i].c):=by
 obtain⟨e1,e2⟩:=zLd L i hi;have h1:=World.ownsRow.cellAt h.own (2*i) (by omega);have h2:=World.ownsRow.cellAt h.own (2*i+1) (by omega);exact⟨h1.trans e1,h2.trans e2⟩
theorem zLe:(Tryz.prog.info? 36).map (fun i=>(i.zero,i.size,i.bytes))=some (some (.agg #[.bool false,.slice none 0 0]),2,32):=by kernel_rfl
structure zHL (w:World) (g:Nat) (X:List BigC):Prop where
 c0:∀i (h:i<X.length),w.cell? ⟨g,i*2,none⟩=some (.bool X[i].n)
 c1:∀i (h:i<X.length),w.cell? ⟨g,i*2+1,none⟩=some (.slice X[i].a X[i].q X[i].c)
set_option maxHeartbeats 2000000 in
theorem zCP (g:Nat) (X:List BigC) (P:List Int) (w:World) (h:zHL w g X) (hl:X.length=2*P.length) (hn:P.length≤100)
 (hm:∀k (hk:k<P.length) W,Ext w W→Calls Tryz.prog 145 #[(X[2*k]'(by omega)).val,(X[2*k+1]'(by omega)).val] W (zNF P[k] W)):
 Calls Tryz.prog 93 #[.slice (some ⟨g,0,none⟩) X.length X.length] w fun e w'=>∃v L,e=.returned v∧OwnBigs w' w.heap.size v L P∧Ext w w':=by
 obtain⟨i0,hi0,hz0,hz1,hz2⟩:=info_parts zLe;have HH:=dH h;have HM:=dH hm;have HL:=dH hl;have HI:=dH (And.intro hi0 (And.intro hz0 (And.intro hz1 hz2)));clear h hm hi0 hz0 hz1 hz2;go_enter Tryz.func93,Tryz.ntmps93;go_wp2_with fail
 go_loopw [2,3] (fun o i wr=>∃ (j k:Nat) (L:List BigC),k≤P.length∧j=2*k∧i=.int .i64 j∧Ext w wr∧OwnBigs wr w.heap.size o L (P.take k)) (fun _ i _=>X.length - (intOf i).toNat)
 case atStart=>exact⟨0,0,[],Nat.zero_le _,rfl,rfl,Ext.refl _,OwnBigs.nil _ _⟩
 case round=>
  obtain⟨j,k,L,hk,hj,rfl,hxr,hO⟩:=hrel;obtain⟨ao,co,rfl,hco,hcm⟩:=hO.form;have HO:=dH hO;by_cases hkn:k<P.length
  ·have hjl:j<X.length:=by omega
   have hjl1:j+1<X.length:=by omega
   have e0:=zA0 hxr (HH.out.c0 j hjl);have e1:=zA0 hxr (HH.out.c1 j hjl);have e2:=zA0 hxr (HH.out.c0 (j+1) hjl1);have e3:=zA0 hxr (HH.out.c1 (j+1) hjl1);have d0:=dH (HH.out.c0 j hjl);have d1:=dH (HH.out.c1 j hjl);have d2:=dH (HH.out.c0 (j+1) hjl1);have d3:=dH (HH.out.c1 (j+1) hjl1);have HMk:=HM.out k hkn;have ht:=zGL (List.getElem?_eq_getElem hkn);have hlk:L.length=k:=by rw [hO.len,List.length_take];omega
   have HLK:=dH hlk;have hLb:L.length≤200:=by omega
   have hg1:(j:Int)+1< (X.length:Int):=by omega
   have hg0:(j:Int)< (X.length:Int):=by omega
   have hg2:(0:Int)≤(j:Int):=by omega
   have hg3:(0:Int)≤(j:Int)+1:=by omega
   have hw:IntKind.i64.wrap ((j:Int)+1)= (j:Int)+1:=IntWalk.i64_in _ (by omega);have hw2:IntKind.i64.wrap ((j:Int)+2)= (j:Int)+2:=IntWalk.i64_in _ (by omega);have htn:((j:Int)+1).toNat=j+1:=by omega
   have hj2:j≤200:=by omega
   simp only [←hj] at HMk;generalize P[k]=pk at *;have ht:=dH ht;generalize X[j]=X0 at *;generalize X[j+1]=X1 at *;obtain⟨n0,a0,q0,c0⟩:=X0;obtain⟨n1,a1,q1,c1⟩:=X1;dsimp only [BigC.val] at HMk d0 d1 d2 d3 e0 e1 e2 e3;have HMk:=dH HMk;have HB:=dH (World.ownsRow.lt hO.own);have HJ:=dH (And.intro hj (And.intro hkn hjl));clear hO hlk HH HM hl hn hjl1 hj hkn hjl;go_upto_region 4 with fail;have hE:Ext w wr.drew:=hxr.drew;have hO:=HO.out.ext (Ext.refl wr).drew;obtain⟨hi0,hz0,hz1,hz2⟩:=HI.out;have hxs1:wr.drew.heap.size=wr.heap.size:=rfl;refine wp_region_held_drew (S:=(fun w'=>w'.cell? ⟨g,j*2,none⟩=some (.bool n0)∧w'.cell? ⟨g,j*2+1,none⟩=some (.slice a0 q0 c0)∧w'.cell? ⟨g,(j+1)*2,none⟩=some (.bool n1)∧w'.cell? ⟨g,(j+1)*2+1,none⟩=some (.slice a1 q1 c1))) (by kernel_rfl) ?_ (fun hHeld=>?_)
   ·exact⟨zA0 hE d0.out,zA0 hE d1.out,zA0 hE d2.out,zA0 hE d3.out⟩
   (try simp only [pur,Nat.reduceAdd])
   iterate 10
    refine tkR [0,1,2,3,4,5,6,7,8,9] (v:=?_) rfl rfl (by kernel_rfl) (fun _ _ _ h=>h) (by rfl) ?_ (by assumption) ?_;rotate_left
    ·(intro w hSw;(try dsimp only at hSw);(try go_simp);(try with_reducible rfl))
    (try simp only [Act.put,pus])
   repeat' first
    | (refine tkR [11,12,16] (v:=?_) rfl rfl (by decide +kernel) (fun _ _ _ h=>h) (by rfl) ?_ (by assumption) ?_
       rotate_left
       ·(intro w hSw;(try dsimp only at hSw);(try go_simp);(try with_reducible rfl))
       (try simp only [Act.put,pus]))
    | (refine wpAnyH_done (by decide +kernel) ?_ _
       (clear hHeld e0 e1 e2 e3;go_wp2_with fail;go_roundw;(case rel=>exact⟨j+2,k+1,L ++ [⟨n2,a2,q2,c2⟩],(by have:=HJ.out;omega),(by have:=HJ.out;omega),by go_num,hE,by rw [ht.out];exact hO'⟩);(case measure=>have:=HJ.out;simp [intOf];omega)))
    | (refine rdR [10,13,14,15] (by decide +kernel) (zAt ?_ (zAt ?_ (zAt ?_ (zAt ?_ zFw))))
       first
       | exact noR (by decide +kernel)
       | (refine isR (o:=_) rfl (fun K hK=>?_)
          go_simp
          (with_reducible refine(HMk.out _ hE).mono ?_);rintro e y1 ⟨v1,rfl,hv1,hy⟩;obtain⟨n2,a2,q2,c2,rfl,hv1,hf1⟩:=hv1.two;have hE1:=hE;have hE:=hE.trans hy;have hO:=hO.ext hy
          rotate_left)
       first
       | exact noR (by decide +kernel)
       | (refine isR (o:=_) rfl (fun K hK=>?_)
          go_simp
          (with_reducible refine(zCE _ _ _ _ _).mono ?_);rintro e y2 ⟨rfl,hy⟩;have hv1:=hv1.ext hy;have hE:=hE.trans hy;have hO:=hO.ext hy
          rotate_left)
       first
       | exact noR (by decide +kernel)
       | (refine isR (o:=_) rfl (fun K hK=>?_)
          go_simp;have hy:Ext y2 (y2.alloc (.cells #[.bool n2,.slice a2 q2 c2] 36)):=Ext.alloc _ _;have hv1:=hv1.ext hy;have hE:=hE.trans hy;have hO:=hO.ext hy;have hb2:=heap_alloc_new y2 (.cells #[.bool n2,.slice a2 q2 c2] 36);have hsz2:=(World.size_alloc y2 (.cells #[.bool n2,.slice a2 q2 c2] 36));clear hy
          rotate_left)
       first
       | exact noR (by decide +kernel)
       | (refine isR (o:=_) rfl (fun K hK=>?_)
          refine step_append_lies _ (by rfl) _ _ _ (by rfl) w.heap.size 36 i0 _ 2 32 Tryz.underlying123 hi0 hz0 hz1 hz2 rfl (by omega) (.slice ao L.length co) L.length (L.flatMap BigC.cells) (by rfl) hO.own ⟨y2.heap.size,0,none⟩ 1 1 [.bool n2,.slice a2 q2 c2] (by rfl) (by rfl) (World.news_of_block (cs:=#[.bool n2,.slice a2 q2 c2]) (t:=36) (fr:=(0,0)) hb2) (by simp [Value.oneCell']) (by omega) (by unfold maxLen;omega) (by omega) (by have:=hE.size;omega) (y2.heap.size+1) (by simp) ?_;intro gg cap w1 hown1 hgrow hat hlt;have hO':=hO.more (x:=⟨n2,a2,q2,c2⟩) hv1 (fun hq A hA e=>by have:=hf1 A hA;have:=(HB.out _ e).2;have:=hE1.size;have:=hxs1;omega) hown1 hgrow (by simpa using hat);have hE:=Below.grown hE hgrow hE.size (fun k e=>(HB.out k e).1)
          rotate_left)
       all_goals (
        refine hK.out _ _ ?_ ?_
        ·exact⟨zA0 hE d0.out,zA0 hE d1.out,zA0 hE d2.out,zA0 hE d3.out⟩
        clear hK K hHeld;intro hHeld
        (try simp only [Act.put,pus])))
  ·obtain rfl:k=P.length:=by omega
   rw [List.take_length] at HO;have hg1:¬ ((j:Int)+1< (X.length:Int)):=by rw [HL.out];omega
   go_wp2_with fail;go_ret;exact⟨_,rfl,⟨L,HO.out⟩,hxr⟩
theorem zMT {W:World} {g:Nat} {x y:RatA} {t:TypeId} (h:Blk W g #[.bool x.n,.slice x.a x.l.length x.c,.bool x.n2,.slice x.b x.m.length x.d,.bool y.n,.slice y.a y.l.length y.c,.bool y.n2,.slice y.b y.m.length y.d] t) (h1:Ints W x.a x.c x.l) (h2:Ints W x.b x.d x.m) (h3:Ints W y.a y.c y.l) (h4:Ints W y.b y.d y.m):zM9 W g [x,y] where
 c0:=fun i hi=>by
  match i,hi with
  | 0,_=>exact h.cell rfl
  | 1,_=>exact h.cell rfl
 c1:=fun i hi=>by
  match i,hi with
  | 0,_=>exact h.cell rfl
  | 1,_=>exact h.cell rfl
 c2:=fun i hi=>by
  match i,hi with
  | 0,_=>exact h.cell rfl
  | 1,_=>exact h.cell rfl
 c3:=fun i hi=>by
  match i,hi with
  | 0,_=>exact h.cell rfl
  | 1,_=>exact h.cell rfl
 i:=fun i hi=>by
  match i,hi with
  | 0,_=>exact h1
  | 1,_=>exact h3
 j:=fun i hi=>by
  match i,hi with
  | 0,_=>exact h2
  | 1,_=>exact h4
theorem zBv {W:World} {g:Nat} {nx mx ny my:Bool} {ax bx ay by_:Option Addr} {qx cx kx dx qy cy ky dy:Nat} {r s:Rat} {t:TypeId} (h:Blk W g #[.bool nx,.slice ax qx cx,.bool mx,.slice bx kx dx,.bool ny,.slice ay qy cy,.bool my,.slice by_ ky dy] t)
 (hx:RatV W (.agg #[.bool nx,.slice ax qx cx,.bool mx,.slice bx kx dx]) r) (hy:RatV W (.agg #[.bool ny,.slice ay qy cy,.bool my,.slice by_ ky dy]) s) (l1:Len r.num) (l2:Len (r.den:Int)) (l3:Len s.num) (l4:Len (s.den:Int)):
 Calls Tryz.prog 92 #[.slice (some ⟨g,0,none⟩) 2 2] W fun e w'=>e=.returned (.tuple #[])∧Ext W w':=by
 obtain⟨l,rfl,hi,hb⟩:=hx.num.parts;obtain⟨m,rfl,hj,hc⟩:=hx.den.parts;obtain⟨l',rfl,hi',hb'⟩:=hy.num.parts;obtain⟨m',rfl,hj',hc'⟩:=hy.den.parts;refine zEB g [⟨nx,ax,cx,l,mx,bx,dx,m⟩,⟨ny,ay,cy,l',my,by_,dy,m'⟩] W (zMT (x:=⟨nx,ax,cx,l,mx,bx,dx,m⟩) (y:=⟨ny,ay,cy,l',my,by_,dy,m'⟩) h hi hj hi' hj') (by simp) (fun x hx=>?_);rcases List.mem_cons.1 hx with rfl | hx
 ·exact zHH hb hc l1 l2
 ·obtain rfl:=List.mem_singleton.1 hx;exact zHH hb' hc' l3 l4
theorem rowC4 {W:World} {g:Nat} {x0 x1 x2 x3:BigC} {t:TypeId} (h:Blk W g #[.bool x0.n,.slice x0.a x0.q x0.c,.bool x1.n,.slice x1.a x1.q x1.c,.bool x2.n,.slice x2.a x2.q x2.c,.bool x3.n,.slice x3.a x3.q x3.c] t):zHL W g [x0,x1,x2,x3] where
 c0:=fun i hi=>by
  match i,hi with
  | 0,_=>exact h.cell rfl
  | 1,_=>exact h.cell rfl
  | 2,_=>exact h.cell rfl
  | 3,_=>exact h.cell rfl
 c1:=fun i hi=>by
  match i,hi with
  | 0,_=>exact h.cell rfl
  | 1,_=>exact h.cell rfl
  | 2,_=>exact h.cell rfl
  | 3,_=>exact h.cell rfl
theorem rowC6 {W:World} {g:Nat} {x0 x1 x2 x3 x4 x5:BigC} {t:TypeId} (h:Blk W g #[.bool x0.n,.slice x0.a x0.q x0.c,.bool x1.n,.slice x1.a x1.q x1.c,.bool x2.n,.slice x2.a x2.q x2.c,.bool x3.n,.slice x3.a x3.q x3.c,.bool x4.n,.slice x4.a x4.q x4.c,.bool x5.n,.slice x5.a x5.q x5.c] t):zHL W g [x0,x1,x2,x3,x4,x5] where
 c0:=fun i hi=>by
  match i,hi with
  | 0,_=>exact h.cell rfl
  | 1,_=>exact h.cell rfl
  | 2,_=>exact h.cell rfl
  | 3,_=>exact h.cell rfl
  | 4,_=>exact h.cell rfl
  | 5,_=>exact h.cell rfl
 c1:=fun i hi=>by
  match i,hi with
  | 0,_=>exact h.cell rfl
  | 1,_=>exact h.cell rfl
  | 2,_=>exact h.cell rfl
  | 3,_=>exact h.cell rfl
  | 4,_=>exact h.cell rfl
  | 5,_=>exact h.cell rfl
theorem zNK {W:World} {g:Nat} {x0 x1 x2 x3:BigC} {z0 z1 z2 z3:Int} {t:TypeId} (h:Blk W g #[.bool x0.n,.slice x0.a x0.q x0.c,.bool x1.n,.slice x1.a x1.q x1.c,.bool x2.n,.slice x2.a x2.q x2.c,.bool x3.n,.slice x3.a x3.q x3.c] t)
 (h0:BigV W x0.val z0) (h1:BigV W x1.val z1) (h2:BigV W x2.val z2) (h3:BigV W x3.val z3) (l0:Len z0) (l1:Len z1) (l2:Len z2) (l3:Len z3) (m0:Len (z0*z1)) (m1:Len (z2*z3)):
 Calls Tryz.prog 93 #[.slice (some ⟨g,0,none⟩) 4 4] W fun e w'=>∃v L,e=.returned v∧OwnBigs w' W.heap.size v L [z0*z1,z2*z3]∧Ext W w':=
 zCP g [x0,x1,x2,x3] [z0*z1,z2*z3] W (rowC4 h) rfl (by simp) (fun k hk W' hx=>by
  match k,hk with
  | 0,_=>exact(zEw (h0.ext hx) (h1.ext hx) l0 l1 m0)
  | 1,_=>exact(zEw (h2.ext hx) (h3.ext hx) l2 l3 m1))
theorem prod3 {W:World} {g:Nat} {x0 x1 x2 x3 x4 x5:BigC} {z0 z1 z2 z3 z4 z5:Int} {t:TypeId} (h:Blk W g #[.bool x0.n,.slice x0.a x0.q x0.c,.bool x1.n,.slice x1.a x1.q x1.c,.bool x2.n,.slice x2.a x2.q x2.c,.bool x3.n,.slice x3.a x3.q x3.c,.bool x4.n,.slice x4.a x4.q x4.c,.bool x5.n,.slice x5.a x5.q x5.c] t)
 (h0:BigV W x0.val z0) (h1:BigV W x1.val z1) (h2:BigV W x2.val z2) (h3:BigV W x3.val z3) (h4:BigV W x4.val z4) (h5:BigV W x5.val z5) (l0:Len z0) (l1:Len z1) (l2:Len z2) (l3:Len z3) (l4:Len z4) (l5:Len z5) (m0:Len (z0*z1)) (m1:Len (z2*z3)) (m2:Len (z4*z5)):
 Calls Tryz.prog 93 #[.slice (some ⟨g,0,none⟩) 6 6] W fun e w'=>∃v L,e=.returned v∧OwnBigs w' W.heap.size v L [z0*z1,z2*z3,z4*z5]∧Ext W w':=
 zCP g [x0,x1,x2,x3,x4,x5] [z0*z1,z2*z3,z4*z5] W (rowC6 h) rfl (by simp) (fun k hk W' hx=>by
  match k,hk with
  | 0,_=>exact(zEw (h0.ext hx) (h1.ext hx) l0 l1 m0)
  | 1,_=>exact(zEw (h2.ext hx) (h3.ext hx) l2 l3 m1)
  | 2,_=>exact(zEw (h4.ext hx) (h5.ext hx) l4 l5 m2))
theorem OwnBigs.at {w:World} {B:Nat} {v:Value} {L:List BigC} {zs:List Int} (h:OwnBigs w B v L zs) {n:Nat} (hn:zs.length=n+1):∃g cap,v=.slice (some ⟨g,0,none⟩) (n+1) cap∧B≤g∧g<w.heap.size∧n+1≤cap∧cap≤9223372036854775807∧
 ∀i,i<n+1→∃m a q c,w.cell? ⟨g,2*i,none⟩=some (.bool m)∧w.cell? ⟨g,2*i+1,none⟩=some (.slice a q c)∧BigV w (.agg #[.bool m,.slice a q c]) (zs.getD i 0):=by
 have hl:=h.len;rcases h.own.2 with⟨e,h0⟩ | ⟨g,cap,cur,e,hb,hg,hn1,hm,_⟩
 ·omega
 ·subst e;rw [hl,hn] at hn1;have h':=h;refine⟨g,cap,by rw [hl,hn],hb,(Array.getElem?_eq_some_iff.1 hg).1,hn1,by unfold maxLen at hm;exact hm,fun i hi=>?_⟩;have hi':i<L.length:=by omega
  obtain⟨c1,c2⟩:=h'.cells hi';exact⟨_,_,_,_,c1,c2,h.val i hi'⟩
end Go.Proofs.YtonkhcdmchidjaaGreat
