import Derived.Test.YtonkhcdmchidjaaGreatNat0
import Derived.Test.YtonkhcdmchidjaaGreatKeep
import Derived.Deep.AppendLies
import Derived.Deep.Cut
set_option maxHeartbeats 1000000
namespace Go.Proofs.YtonkhcdmchidjaaGreat
open Go.RowKit Go BigFrame
set_option maxRecDepth 100000
set_option linter.all false
def BigN (w:World) (v:Value) (z:Int) (B:Nat):Prop:=∃ (neg:Bool) (a:Option Addr) (cap:Nat) (l:List Int),v=.agg #[.bool neg,.slice a l.length cap]∧Ints w a cap l∧Big neg l z∧∀A,a=some A→B≤A.block
theorem BigN.val {w:World} {v:Value} {z:Int} {B:Nat} (h:BigN w v z B):BigV w v z:=by
 obtain⟨n,a,c,l,e,hi,hb,_⟩:=h;exact⟨n,l,⟨a,c,e,hi⟩,hb⟩
theorem BigN.ext {w w':World} {v:Value} {z:Int} {B:Nat} (h:BigN w v z B) (k:Ext w w'):BigN w' v z B:=by
 obtain⟨n,a,c,l,e,hi,hb⟩:=h;exact⟨n,a,c,l,e,hi.ext k,hb⟩
def BigP (z:Int) (w:World) (e:Ending) (w':World):Prop:=∃v,e=.returned v∧BigN w' v z w.heap.size∧Ext w w'
structure OwnI (w:World) (B:Nat) (v:Value) (L:List Int):Prop where
 nn:v≠.slice none 0 0
 own:w.ownsRow B 3 1 v L.length (L.map (Value.int .i64))
theorem OwnI.form {w:World} {B:Nat} {v:Value} {L:List Int} (h:OwnI w B v L):∃g cap,v=.slice (some ⟨g,0,none⟩) L.length cap∧B≤g∧g<w.heap.size∧L.length≤cap∧cap≤9223372036854775807:=by
 rcases h.own.2 with⟨e,_⟩ | ⟨g,cap,cur,e,hb,hg,hn,hm,_⟩
 ·exact absurd e h.nn
 ·exact⟨g,cap,e,hb,(Array.getElem?_eq_some_iff.1 hg).1,hn,by unfold maxLen at hm;exact hm⟩
theorem OwnI.new (w:World):OwnI (w.alloc (.cells #[] 3)) w.heap.size (.slice (some ⟨w.heap.size,0,none⟩) 0 0) []:=
 ⟨by simp,by simp,.inr ⟨w.heap.size,0,#[],rfl,Nat.le_refl _,heap_alloc_new w _,Nat.le_refl _,by unfold maxLen;omega,rfl,rfl⟩⟩
theorem OwnI.ext {w w':World} {B:Nat} {v:Value} {L:List Int} (h:OwnI w B v L) (k:Ext w w'):OwnI w' B v L:=by
 refine⟨h.nn,h.own.1,?_⟩;rcases h.own.2 with h2 | ⟨g,cap,cur,e,hb,hg,hr⟩
 ·exact .inl h2
 ·exact .inr ⟨g,cap,cur,e,hb,(k.block g (Array.getElem?_eq_some_iff.1 hg).1).trans hg,hr⟩
theorem OwnI.ints {w:World} {B g cap n:Nat} {L:List Int} (h:OwnI w B (.slice (some ⟨g,0,none⟩) n cap) L) (hl:∀x∈L,-9223372036854775808≤x∧x≤9223372036854775807):n=L.length∧Ints w (some ⟨g,0,none⟩) cap L:=by
 obtain⟨g',cap',e,_,_,hn,hm⟩:=h.form;simp only [Value.slice.injEq,Option.some.injEq,Addr.mk.injEq,and_true,true_and] at e;obtain⟨rfl,rfl,rfl⟩:=e;refine⟨rfl,hn,hm,fun h=>by(cases h),fun A hA i hi=>?_⟩;cases hA
 refine⟨rfl,.int .i64 L[i],?_,rfl,hl _ (List.getElem_mem hi)⟩;have:=World.ownsRow.cellAt h.own i (by omega)
 simpa [hi] using this
theorem zHD:(Tryz.prog.info? 3).map (fun i=>(i.zero,i.size,i.bytes))=some (some (.int .i64 0),1,8):=by kernel_rfl
theorem zL2 {U:Nat} (h:U≤18446744073709551615):bits .and .u64 (U:Int) 1073741823= ((U % 1073741824:Nat):Int):=by
 have h1:=bits_and_u64_nat U 1073741823 (by omega) (by omega);rw [show(1073741823:Nat)=2 ^ 30 - 1 by decide,Nat.and_two_pow_sub_one_eq_mod] at h1;exact h1
theorem Blk.own2 {w w':World} {b:Nat} {cs:Array Value} {t:TypeId} {k:Option Nat} (h:Blk w b cs t) (hg:w.grownBy w' k) (hk:k≠some b):Blk w' b cs t:=(hg.block b h.lt (fun e=>hk e.symm)).trans h
theorem zC7 {w:World} {base:Nat} {e:TypeId} {s n:Nat} {v:Value} {xs:List Value} (h:w.ownsRow base e s v n xs) {k:Nat} (hk:v.ownBlock=some k):base≤k:=by
 rcases h.2 with⟨rfl,_⟩ | ⟨g,cap,cur,rfl,hb,_⟩
 ·cases hk
 ·cases hk;exact hb
theorem Ints.put {w:World} {g o cap:Nat} {l:List Int} (h:Ints w (some ⟨g,o,none⟩) cap l) {p:Addr} (hp:g≠p.block) (v:Value):Ints (w.setCell p v) (some ⟨g,o,none⟩) cap l:=by
 refine⟨h.le,h.mx,h.nil,fun A hA i hi=>?_⟩;cases hA
 obtain⟨h1,u,hu,hr⟩:=h.cells _ rfl i hi;refine⟨h1,u,?_,hr⟩;rw [←hu];simp only [World.cell?,Below.heap_setCell _ _ _ _ hp]
theorem zMF {n:Int} (h1:-9223372036854775808≤n) (h:n<0):IntKind.u64.wrap (-IntKind.u64.wrap n)= (n.natAbs:Int):=by
 unfold IntKind.wrap;simp [IntKind.signed,IntKind.bits];omega
theorem zFX (n:Int) (w:World) (hn:-9223372036854775808≤n∧n≤9223372036854775807):Calls Tryz.prog 156 #[.int .i64 n] w (BigP n w):=by
 obtain⟨h1,h2⟩:=hn;obtain⟨i0,hi0,hz0,hz1,hz2⟩:=info_parts zHD;have k0:=dH ((Blk.new0 w #[.bool false,.slice none 0 0] 36).alloc (.cells #[] 3));have o0:=dH (OwnI.new (w.alloc (.cells #[.bool false,.slice none 0 0] 36)));have hx0:Ext w ((w.alloc (.cells #[.bool false,.slice none 0 0] 36)).alloc (.cells #[] 3)):=(by repeat (first | with_reducible exact Ext.refl _ | with_reducible assumption | with_reducible refine Ext.drewN ?_ _ | with_reducible refine Ext.drew ?_ | with_reducible refine Ext.alloc' ?_ _ | with_reducible refine Ext.set ?_ (by dsimp only;omega) _))
 obtain⟨N,hN⟩:∃N,n.natAbs=N:=⟨_,rfl⟩
 have hN63:N≤9223372036854775808:=by omega
 have hbig:=Big.of n;rw [hN] at hbig;have HB:=dH hbig
 have hlen:(digs N).length≤3:=zC8 (by have:(1073741824:Nat) ^ 3=1237940039285380274899124224:=by decide
                                      omega)
 have hdig:=(zA4 N).digs;have HD:=dH hdig;clear hbig hdig;by_cases hneg:n<0
 case' pos=>
  have d1:decide (n<0)=true:=by simpa using hneg
  have hu:=zMF h1 hneg;rw [hN] at hu;have HU:=dH (show Value.int .u64 (IntKind.u64.wrap (-IntKind.u64.wrap n))=.int .u64 (N:Int) by rw [hu]);rw [decide_eq_true hneg] at HB;clear hneg hN hu;go_enter Tryz.func156,Tryz.ntmps156;go_wp2_with fail
 case' neg=>
  have d1:decide (n<0)=false:=by simpa using hneg
  have HU:=dH (show Value.int .u64 n=.int .u64 (N:Int) by rw [←hN];congr 1;omega);rw [decide_eq_false hneg] at HB;have hpos:0≤n:=by omega
  clear hneg hN;go_enter Tryz.func156,Tryz.ntmps156;go_wp2_with fail
 all_goals
  simp only [World.size_alloc] at o0;generalize (w.alloc (.cells #[.bool false,.slice none 0 0] 36)).alloc (.cells #[] 3)=w1 at *
  go_loopw [3,4] (fun m u wr=>∃ (L:List Int) (U:Nat),u=.int .u64 U∧U≤N∧L ++ digs U=digs N∧OwnI wr (w.heap.size+1) m L∧Blk wr w.heap.size #[.bool false,.slice none 0 0] 36∧Ext w wr) (fun _ u _=>(intOf u).toNat)
  case atStart=>exact⟨[],N,HU.out,Nat.le_refl _,rfl,o0.out,k0.out,hx0⟩
  case round=>
   clear k0 o0 hx0;obtain⟨L,U,rfl,hUN,hL,hown,hb0,hxr⟩:=hrel;obtain⟨g,cp,rfl,hg1,hg2,hg3,hg4⟩:=hown.form;have K0:=dH hb0;have HL:=dH hL;clear hb0 hL;by_cases hU:0<U
   ·have t1:decide (0<U)=true:=by simpa using hU
    have t2:decide (0< (U:Int))=true:=by simp;omega
    obtain⟨d,hd⟩:∃d:Int,((U % 1073741824:Nat):Int)=d:=⟨_,rfl⟩
    obtain⟨V,hV⟩:∃V,U / 1073741824=V:=⟨_,rfl⟩
    have hand:=zL2 (U:=U) (by omega);rw [hd] at hand;have hdiv:(U:Int) / 1073741824= (V:Int):=by omega
    have hdL:=zBf hU;rw [hd,hV] at hdL;have HDL:=dH hdL;have hLl:L.length≤3:=by have:=congrArg List.length HL.out;rw [List.length_append] at this;omega
    have hd2:d<1073741824:=by omega
    have hVU:V<U:=by omega
    have hVN:V≤N:=by omega
    have HVU:=dH hVU;have HVN:=dH hVN;have hU0:(0:Int)≤(U:Int):=by omega
    have hV0:(0:Int)≤(V:Int):=by omega
    have hd0:0≤d:=by omega
    clear hd hV hdL hN63 hUN hU hVU hVN
    go_wp2_with (at_builtin;refine wpList_append_own_at _ rfl (.tmp 16) (.tmp 20) 217 rfl (w.heap.size+1) 3 i0 (.int .i64 0) 1 8 Tryz.underlying217 hi0 hz0 hz1 hz2 rfl (by decide) _ _ _ rfl (hown.own.alloc _) ⟨wr.heap.size,0,none⟩ 1 1 [.int .i64 d] rfl rfl (World.news_of_block (cs:=#[.int .i64 d]) (t:=3) (fr:=(0,0)) (heap_alloc_new wr _)) (by simp [Value.oneCell']) (by unfold maxLen;omega) (by omega) (by simp;omega) ?_;intro v2 w3 hown2 hgrow2 hnil2 hat2)
    have hE:Ext w w3:=Below.grown (hxr.alloc' (.cells #[.int .i64 d] 3)) hgrow2 (by have:=hxr.size;simp;omega) (fun j e=>by have:=zC7 hown.own e;omega);have hO:OwnI w3 (w.heap.size+1) v2 (L ++ [d]):=⟨fun e=>absurd (hnil2.1 e).2 (by omega),by simpa using hown2⟩
    have K0:=dH (Blk.own2 (K0.out.alloc (.cells #[.int .i64 d] 3)) hgrow2 (fun e=>by have:=zC7 hown.own e;omega));clear hown2 hgrow2 hnil2 hat2 hown;go_wp2_with fail;go_roundw
    case rel=>exact⟨L ++ [d],V,rfl,HVN.out,by rw [←HL.out,HDL.out];simp,hO,K0.out,hE⟩
    case measure=>have:=HVU.out;simp [intOf];omega
   ·obtain rfl:U=0:=by omega
    have c0:=K0.out.cell (i:=0) (v:=.bool false) rfl;have c1:=K0.out.cell (i:=1) (v:=.slice none 0 0) rfl;have f0:=K0.out.free 0;have f1:=K0.out.free 1;clear hN63 hUN hU;have hLN:L=digs N:=by have:=HL.out;rw [zAO,List.append_nil] at this;exact this
    subst hLN;have hO:=dH hown;clear hown;go_wp2_with fail;have k2:=(K0.out.set 0 (.bool (decide (n<0)))).set 1 (.slice (some ⟨g,0,none⟩) (digs N).length cp);rw [d1] at k2;have e0:=k2.cell (i:=0) (v:=.bool (decide (n<0))) (by rw [d1];rfl);have e1:=k2.cell (i:=1) (v:=.slice (some ⟨g,0,none⟩) (digs N).length cp) rfl;rw [d1] at e0;clear c0 c1 f0 f1;refine bodyPost_ret (v:=.agg #[.bool (decide (n<0)),.slice (some ⟨g,0,none⟩) (digs N).length cp]) (by simp [results,Tryz.results156,go_sem,e0,e1,d1]) rfl ?_;have hi:=(hO.out.ints (fun x hx=>by have:=HD.out x hx;omega)).2;rw [d1];exact⟨_,rfl,⟨_,_,cp,digs N,rfl,(hi.put (p:=⟨w.heap.size,0,none⟩) (by dsimp only;omega) _).put (p:=⟨w.heap.size,1,none⟩) (by dsimp only;omega) _,HB.out,fun A hA=>by cases hA;dsimp only;omega⟩,(by repeat (first | with_reducible exact Ext.refl _ | with_reducible assumption | with_reducible refine Ext.drewN ?_ _ | with_reducible refine Ext.drew ?_ | with_reducible refine Ext.alloc' ?_ _ | with_reducible refine Ext.set ?_ (by dsimp only;omega) _))⟩
theorem zIc (n:Int) (w:World) (hn:-9223372036854775808≤n∧n≤9223372036854775807):Calls Tryz.prog 84 #[.int .i64 n] w (BigP n w):=by
 obtain⟨h1,h2⟩:=hn;obtain⟨i0,hi0,hz0,hz1,hz2⟩:=info_parts zHD;have k0:=dH ((Blk.new0 w #[.bool false,.slice none 0 0] 36).alloc (.cells #[] 3));have o0:=dH (OwnI.new (w.alloc (.cells #[.bool false,.slice none 0 0] 36)));have hx0:Ext w ((w.alloc (.cells #[.bool false,.slice none 0 0] 36)).alloc (.cells #[] 3)):=(by repeat (first | with_reducible exact Ext.refl _ | with_reducible assumption | with_reducible refine Ext.drewN ?_ _ | with_reducible refine Ext.drew ?_ | with_reducible refine Ext.alloc' ?_ _ | with_reducible refine Ext.set ?_ (by dsimp only;omega) _))
 have hbig:=Big.of n;have HB:=dH hbig
 have hlen:(digs n.natAbs).length≤3:=zC8 (by have:(1073741824:Nat) ^ 3=1237940039285380274899124224:=by decide
                                             omega)
 have hdig:=(zA4 n.natAbs).digs;have HD:=dH hdig;have H1:=dH (And.intro h1 h2);clear hbig hdig;go_enter Tryz.func84,Tryz.ntmps84;go_wp2_with fail;clear h1 h2;simp only [World.size_alloc] at o0;generalize (w.alloc (.cells #[.bool false,.slice none 0 0] 36)).alloc (.cells #[] 3)=w1 at *
 go_loopw [3,4] (fun m u wr=>∃ (L:List Int) (K:Int),u=.int .i64 K∧Hid (K.natAbs≤n.natAbs)∧L ++ digs K.natAbs=digs n.natAbs∧OwnI wr (w.heap.size+1) m L∧Blk wr w.heap.size #[.bool false,.slice none 0 0] 36∧Ext w wr) (fun _ u _=>(intOf u).natAbs)
 case atStart=>exact⟨[],n,rfl,dH (Nat.le_refl _),rfl,o0.out,k0.out,hx0⟩
 case round=>
  clear k0 o0 hx0;obtain⟨L,K,rfl,hUN,hL,hown,hb0,hxr⟩:=hrel;obtain⟨g,cp,rfl,hg1,hg2,hg3,hg4⟩:=hown.form;have K0:=dH hb0;have HL:=dH hL;clear hb0 hL;by_cases hU:K=0
  ·subst hU;have c0:=K0.out.cell (i:=0) (v:=.bool false) rfl;have c1:=K0.out.cell (i:=1) (v:=.slice none 0 0) rfl;have f0:=K0.out.free 0;have f1:=K0.out.free 1;clear hUN;have hLN:L=digs n.natAbs:=by have:=HL.out;rw [Int.natAbs_zero,zAO,List.append_nil] at this;exact this
   subst hLN;have hO:=dH hown;clear hown;obtain⟨s,hs⟩:∃s,decide (n<0)=s:=⟨_,rfl⟩
   rw [hs] at HB;go_wp2_with fail;have k2:=(K0.out.set 0 (.bool s)).set 1 (.slice (some ⟨g,0,none⟩) (digs n.natAbs).length cp);have e0:=k2.cell (i:=0) (v:=.bool s) rfl;have e1:=k2.cell (i:=1) (v:=.slice (some ⟨g,0,none⟩) (digs n.natAbs).length cp) rfl;clear c0 c1 f0 f1;refine bodyPost_ret (v:=.agg #[.bool s,.slice (some ⟨g,0,none⟩) (digs n.natAbs).length cp]) (by simp [results,Tryz.results84,go_sem,e0,e1]) rfl ?_;have hi:=(hO.out.ints (fun x hx=>by have:=HD.out x hx;omega)).2;exact⟨_,rfl,⟨_,_,cp,digs n.natAbs,rfl,(hi.put (p:=⟨w.heap.size,0,none⟩) (by dsimp only;omega) _).put (p:=⟨w.heap.size,1,none⟩) (by dsimp only;omega) _,HB.out,fun A hA=>by cases hA;dsimp only;omega⟩,(by repeat (first | with_reducible exact Ext.refl _ | with_reducible assumption | with_reducible refine Ext.drewN ?_ _ | with_reducible refine Ext.drew ?_ | with_reducible refine Ext.alloc' ?_ _ | with_reducible refine Ext.set ?_ (by dsimp only;omega) _))⟩
  ·have t1:(K != 0)=true:=by simpa using hU
   have t2:(K == 0)=false:=by simpa using hU
   obtain⟨R,hR⟩:∃R,K.tmod 1073741824=R:=⟨_,rfl⟩
   obtain⟨Q,hQ⟩:∃Q,K.tdiv 1073741824=Q:=⟨_,rfl⟩
   have hRn:R.natAbs=K.natAbs % 1073741824:=by rw [←hR,Int.natAbs_tmod];rfl
   have hQn:Q.natAbs=K.natAbs / 1073741824:=by rw [←hQ,Int.natAbs_tdiv];rfl
   have hdL:=zBf (u:=K.natAbs) (by omega);have HQ:=dH hQn;have hLl:L.length≤3:=by have:=congrArg List.length HL.out;rw [List.length_append] at this;omega
   by_cases hneg:R<0
   ·have d1:decide (R<0)=true:=by simpa using hneg
    have b1:-1073741824<R:=by omega
    have e1:((K.natAbs % 1073741824:Nat):Int)= -R:=by omega
    rw [e1] at hdL;have HDL:=dH hdL;have hq1:-1000000000000<Q∧Q<1000000000000:=by have:=hUN.out;have:=H1.out;omega
    obtain⟨q1,q2⟩:=hq1;clear hRn hQn hdL e1
    go_wp2_with (at_builtin;refine wpList_append_own_at _ rfl (.tmp 18) (.tmp 20) 34 rfl (w.heap.size+1) 3 i0 (.int .i64 0) 1 8 Tryz.underlying34 hi0 hz0 hz1 hz2 rfl (by decide) _ _ _ rfl (hown.own.alloc _) ⟨wr.heap.size,0,none⟩ 1 1 [.int .i64 (-R)] rfl rfl (World.news_of_block (cs:=#[.int .i64 (-R)]) (t:=3) (fr:=(0,0)) (heap_alloc_new wr _)) (by simp [Value.oneCell']) (by unfold maxLen;omega) (by omega) (by simp;omega) ?_;intro v2 w3 hown2 hgrow2 hnil2 hat2)
    have hE:Ext w w3:=Below.grown (hxr.alloc' (.cells #[.int .i64 ((-R))] 3)) hgrow2 (by have:=hxr.size;simp;omega) (fun j e=>by have:=zC7 hown.own e;omega);have hO:OwnI w3 (w.heap.size+1) v2 (L ++ [(-R)]):=⟨fun e=>absurd (hnil2.1 e).2 (by omega),by simpa using hown2⟩
    have K0:=dH (Blk.own2 (K0.out.alloc (.cells #[.int .i64 ((-R))] 3)) hgrow2 (fun e=>by have:=zC7 hown.own e;omega));clear hown2 hgrow2 hnil2 hat2 hown;go_wp2_with fail;go_roundw
    case rel=>exact⟨L ++ [(-R)],Q,rfl,dH (by have:=hUN.out;rw [HQ.out];omega),by rw [←HL.out,HDL.out,HQ.out];simp,hO,K0.out,hE⟩
    case measure=>have:=HQ.out;simp [intOf];omega
   ·have d1:decide (R<0)=false:=by simpa using hneg
    have b1:R<1073741824:=by omega
    have b0:0≤R:=by omega
    have e1:((K.natAbs % 1073741824:Nat):Int)=R:=by omega
    rw [e1] at hdL;have HDL:=dH hdL;have hq1:-1000000000000<Q∧Q<1000000000000:=by have:=hUN.out;have:=H1.out;omega
    obtain⟨q1,q2⟩:=hq1;clear hRn hQn hdL e1
    go_wp2_with (at_builtin;refine wpList_append_own_at _ rfl (.tmp 18) (.tmp 20) 34 rfl (w.heap.size+1) 3 i0 (.int .i64 0) 1 8 Tryz.underlying34 hi0 hz0 hz1 hz2 rfl (by decide) _ _ _ rfl (hown.own.alloc _) ⟨wr.heap.size,0,none⟩ 1 1 [.int .i64 R] rfl rfl (World.news_of_block (cs:=#[.int .i64 R]) (t:=3) (fr:=(0,0)) (heap_alloc_new wr _)) (by simp [Value.oneCell']) (by unfold maxLen;omega) (by omega) (by simp;omega) ?_;intro v2 w3 hown2 hgrow2 hnil2 hat2)
    have hE:Ext w w3:=Below.grown (hxr.alloc' (.cells #[.int .i64 (R)] 3)) hgrow2 (by have:=hxr.size;simp;omega) (fun j e=>by have:=zC7 hown.own e;omega);have hO:OwnI w3 (w.heap.size+1) v2 (L ++ [R]):=⟨fun e=>absurd (hnil2.1 e).2 (by omega),by simpa using hown2⟩
    have K0:=dH (Blk.own2 (K0.out.alloc (.cells #[.int .i64 (R)] 3)) hgrow2 (fun e=>by have:=zC7 hown.own e;omega));clear hown2 hgrow2 hnil2 hat2 hown;go_wp2_with fail;go_roundw
    case rel=>exact⟨L ++ [R],Q,rfl,dH (by have:=hUN.out;rw [HQ.out];omega),by rw [←HL.out,HDL.out,HQ.out];simp,hO,K0.out,hE⟩
    case measure=>have:=HQ.out;simp [intOf];omega
end Go.Proofs.YtonkhcdmchidjaaGreat
