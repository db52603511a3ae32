import Derived.Test.YtonkhcdmchidjaaGreatYI
import Derived.Lib.AppendZeros
set_option maxHeartbeats 8000000
namespace Go.Proofs.YtonkhcdmchidjaaGreat
open Go.RowKit Go BigFrame Go.Shelf
set_option maxRecDepth 100000
set_option linter.all false
attribute [local go_sem] Oper.semAt_some
structure SlC (w:World) (k:Nat) (a:Option Addr) (n cap:Nat) (cs:List Value):Prop where
 le:n≤cap
 mx:cap≤9223372036854775807
 nil:a=none→cap=0
 len:cs.length=n*k
 at':∀A,a=some A→∀ (j:Nat) (u:Value),cs[j]? =some u→w.cell? (A.add j)=some u
 one:∀u∈cs,u.oneCell'=true
theorem SlC.ext {w w':World} {k:Nat} {a:Option Addr} {n cap:Nat} {cs:List Value} (h:SlC w k a n cap cs) (hE:Ext w w'):SlC w' k a n cap cs:=
 ⟨h.le,h.mx,h.nil,h.len,fun A hA j u hu=>(Below.cell hE (World.block_lt_of_cell? w _ (h.at' A hA j u hu))).trans (h.at' A hA j u hu),h.one⟩
theorem zOg (n:Nat) (hn:n≤1000) (w:World):Calls Tryz.prog 190 #[.slice none 0 0,.int .i64 (n:Nat)] w fun e w'=>∃v,e=.returned v∧w'.ownsRow w.heap.size 38 4 v 0 []∧Ext w w':=by
 have h1:¬ ((n:Int)<0):=by omega
 have h2:wrap64 (n:Int)= (n:Int):=by unfold wrap64;omega
 by_cases h0:n=0
 ·subst h0;go_enter Tryz.func190,Tryz.ntmps190
  go_wp2
  go_ret;exact⟨_,rfl,World.ownsRow_nil _ _ _ _,Ext.refl _⟩
 ·have h3:(0:Int)< (n:Int):=by omega
  obtain⟨i0,hi0,hz0,hz1,hz2⟩:=info_parts zDs;have hr:=fun ty=>Lib.run_append_nil_zeros (P:=Tryz.prog) w 23 3 ty 38 i0 (.agg #[.bool false,.slice none 0 0,.bool false,.slice none 0 0]) .i64 .i64 Tryz.underlying23 Tryz.underlying3 hi0 hz0 n (by omega) (by rw [hz1];omega) (by omega) (by rw [hz2];omega);have hGn:n≤grownCap w n 0 38:=grownCap_ge w _ _ _;have hGm:=grownCap_le_maxLen w n 0 38 (by unfold maxLen;omega);obtain⟨G,hG⟩:∃G,G=grownCap w n 0 38:=⟨_,rfl⟩
  rw [←hG] at hr hGn hGm;have hG63:G≤9223372036854775807:=by unfold maxLen at hGm;omega
  have hGi:(G:Int)≤9223372036854775807:=by omega
  have hE:Ext w (w.drew.alloc (.cells (Builtin.zeroCells (Value.cells (.agg #[.bool false,.slice none 0 0,.bool false,.slice none 0 0])) n ++ Builtin.zeroCells (Value.cells (.agg #[.bool false,.slice none 0 0,.bool false,.slice none 0 0])) (G - n)) 38)):=((Ext.refl w).drew).alloc' _;have hO:(w.drew.alloc (.cells (Builtin.zeroCells (Value.cells (.agg #[.bool false,.slice none 0 0,.bool false,.slice none 0 0])) n ++ Builtin.zeroCells (Value.cells (.agg #[.bool false,.slice none 0 0,.bool false,.slice none 0 0])) (G - n)) 38)).ownsRow w.heap.size 38 4 (.slice (some ⟨w.heap.size,0,none⟩) 0 G) 0 []:=by
   refine⟨rfl,.inr ⟨w.heap.size,G,_,rfl,Nat.le_refl _,World.alloc_heap_new w.drew _,Nat.zero_le _,hGm,?_,by simp⟩⟩;rw [Array.size_append,size_zeroCells,size_zeroCells,show(Value.cells (.agg #[.bool false,.slice none 0 0,.bool false,.slice none 0 0])).size=4 from rfl,←Nat.add_mul]
   congr 1
   omega
  have HO:=dH hO;have HE:=dH hE;clear hG hi0 hz0 hz1 hz2 hE hO;go_enter Tryz.func190,Tryz.ntmps190;generalize (Obj.cells (Builtin.zeroCells (Value.cells (.agg #[.bool false,.slice none 0 0,.bool false,.slice none 0 0])) n ++ Builtin.zeroCells (Value.cells (.agg #[.bool false,.slice none 0 0,.bool false,.slice none 0 0])) (G - n)) 38)=ob at *
  go_wp2_with (at_builtin;refine Lib.wpList_append_run _ rfl _ _ _ _ rfl _ _ rfl rfl _ _ (hr _) ?_)
  go_ret;exact⟨_,rfl,HO.out,HE.out⟩
theorem zIv (a b:Option Addr) (n1 c1 n2 c2:Nat) (cs ds:List Value) (g:Nat) (w:World) (h1:SlC w 4 a n1 c1 cs) (h2:SlC w 4 b n2 c2 ds) (hb:Blk w g #[.slice a n1 c1,.slice b n2 c2] 23) (hn:n1≤400) (hm:n2≤400):
 Calls Tryz.prog 133 #[.slice (some ⟨g,0,none⟩) 2 2] w fun e w'=>∃v,e=.returned v∧w'.ownsRow w.heap.size 38 4 v (n1+n2) (cs ++ ds)∧Ext w w':=by
 have l1:=h1.le;have m1:=h1.mx;have l2:=h2.le;have m2:=h2.mx;have H1:=dH h1;have H2:=dH h2;have HB:=dH hb;clear h1 h2 hb;go_enter Tryz.func133,Tryz.ntmps133;go_wp2_with fail
 go_loopw [3,11] (fun s i wr=>∃q:Nat,q≤2∧i=.int .i64 q∧s=.int .i64 ((if q=0 then 0 else if q=1 then n1 else n1+n2:Nat):Int)∧w=wr) (fun _ i _=>2 - (intOf i).toNat)
 case atStart=>exact⟨0,by omega,rfl,rfl,rfl⟩
 case round=>
  obtain⟨q,hq,rfl,rfl,rfl⟩:=hrel;have hq3:q=0∨q=1∨q=2:=by omega
  rcases hq3 with rfl | rfl | rfl
  ·have e0:IntKind.i64.wrap (n1:Int)= (n1:Int):=IntWalk.i64_in _ (by omega);have e1:¬ ((n1:Int)<0):=by omega
   have c0:=HB.out.cell (i:=0) rfl;simp only [if_true];go_wp2_with fail;go_roundw
   case rel=>exact⟨1,by omega,by go_num,by first | rfl | simp,by first | rfl | trivial⟩
   case measure=>first | (simp [intOf];done) | (simp [intOf];omega)
  ·have e0:IntKind.i64.wrap ((n1:Int)+ (n2:Int))= (n1:Int)+ (n2:Int):=IntWalk.i64_in _ (by omega);have e1:¬ ((n1:Int)+ (n2:Int)<0):=by omega
   have c0:=HB.out.cell (i:=1) rfl;simp only [Nat.one_ne_zero,if_false,if_true];go_wp2_with fail;go_roundw
   case rel=>exact⟨2,by omega,by go_num,by simp,by first | rfl | trivial⟩
   case measure=>first | (simp [intOf];done) | (simp [intOf];omega)
  ·have HG:=dH (zOg (n1+n2) (by omega) w);rw [Int.natCast_add] at HG;simp only [show ¬ ((2:Nat)=0) by omega,show ¬ ((2:Nat)=1) by omega,if_false,Int.natCast_add];go_wp2_with fail;refine HG.out.mono ?_;rintro e x1 ⟨v,rfl,ho,hE⟩;have hv:=zAh ho;obtain⟨av,cv,rfl⟩:=hv;have HO:=dH ho;have HE:=dH hE;clear ho hE HG;go_wp2_with fail
   go_loopw [6,27] (fun s i wr9=>∃q:Nat,q≤2∧i=.int .i64 q∧wr9.ownsRow w.heap.size 38 4 s (if q=0 then 0 else if q=1 then n1 else n1+n2) (if q=0 then [] else if q=1 then cs else cs ++ ds)∧Ext w wr9) (fun _ i _=>2 - (intOf i).toNat)
   case atStart=>exact⟨0,by omega,rfl,HO.out,HE.out⟩
   case round=>
    obtain⟨q,hq,rfl,ho,hx⟩:=hrel;have hq3:q=0∨q=1∨q=2:=by omega
    rcases hq3 with rfl | rfl | rfl
    ·simp only [if_true] at ho;obtain⟨av,cv,rfl⟩:=zAh ho;have c0:=zA0 hx (HB.out.cell (i:=0) rfl);have h1x:=H1.out.ext hx;have HO:=dH ho;have HX:=dH hx;clear ho hx
     go_wp2_with (at_builtin;refine zBg rfl (.tmp 31) (.tmp 32) 23 38 rfl (z:=.agg #[.bool false,.slice none 0 0,.bool false,.slice none 0 0]) (k:=4) (by_:=64) Tryz.underlying23 zDs rfl (by decide) (B:=w.heap.size) HX.out.size rfl HO.out rfl (fun e=>⟨by have:=h1x.nil e;omega,h1x.nil e⟩) h1x.len h1x.at' h1x.one (by omega) (by omega) ?_;intro v' w3 ho' hg' hnl hat)
     obtain⟨a9,c9,rfl⟩:=zAh ho';have hx':Ext w w3:=Below.grown HX.out hg' HX.out.size (fun b e=>(World.ownsRow.lt HO.out b e).1);go_roundw
     case rel=>exact⟨1,by omega,by go_num,(by simpa using ho'),hx'⟩
     case measure=>first | (simp [intOf];done) | (simp [intOf];omega)
    ·simp only [Nat.one_ne_zero,if_false,if_true] at ho;obtain⟨av,cv,rfl⟩:=zAh ho;have c0:=zA0 hx (HB.out.cell (i:=1) rfl);have h1x:=H2.out.ext hx;have HO:=dH ho;have HX:=dH hx;clear ho hx
     go_wp2_with (at_builtin;refine zBg rfl (.tmp 31) (.tmp 32) 23 38 rfl (z:=.agg #[.bool false,.slice none 0 0,.bool false,.slice none 0 0]) (k:=4) (by_:=64) Tryz.underlying23 zDs rfl (by decide) (B:=w.heap.size) HX.out.size rfl HO.out rfl (fun e=>⟨by have:=h1x.nil e;omega,h1x.nil e⟩) h1x.len h1x.at' h1x.one (by omega) (by omega) ?_;intro v' w3 ho' hg' hnl hat)
     obtain⟨a9,c9,rfl⟩:=zAh ho';have hx':Ext w w3:=Below.grown HX.out hg' HX.out.size (fun b e=>(World.ownsRow.lt HO.out b e).1);go_roundw
     case rel=>exact⟨2,by omega,by go_num,(by simpa using ho'),hx'⟩
     case measure=>first | (simp [intOf];done) | (simp [intOf];omega)
    ·simp only [show ¬ ((2:Nat)=0) by omega,show ¬ ((2:Nat)=1) by omega,if_false] at ho;obtain⟨av,cv,rfl⟩:=zAh ho;go_wp2_with fail;go_ret;exact⟨_,rfl,ho,hx⟩
theorem zOh (n:Nat) (hn:n≤1000) (w:World):Calls Tryz.prog 135 #[.slice none 0 0,.int .i64 (n:Nat)] w fun e w'=>∃v,e=.returned v∧w'.ownsRow w.heap.size 23 1 v 0 []∧Ext w w':=by
 have h1:¬ ((n:Int)<0):=by omega
 have h2:wrap64 (n:Int)= (n:Int):=by unfold wrap64;omega
 by_cases h0:n=0
 ·subst h0;go_enter Tryz.func135,Tryz.ntmps135
  go_wp2
  go_ret;exact⟨_,rfl,World.ownsRow_nil _ _ _ _,Ext.refl _⟩
 ·have h3:(0:Int)< (n:Int):=by omega
  obtain⟨i0,hi0,hz0,hz1,hz2⟩:=info_parts zBh;have hr:=fun ty=>Lib.run_append_nil_zeros (P:=Tryz.prog) w 55 3 ty 23 i0 (.slice none 0 0) .i64 .i64 Tryz.underlying55 Tryz.underlying3 hi0 hz0 n (by omega) (by rw [hz1];omega) (by omega) (by rw [hz2];omega);have hGn:n≤grownCap w n 0 23:=grownCap_ge w _ _ _;have hGm:=grownCap_le_maxLen w n 0 23 (by unfold maxLen;omega);obtain⟨G,hG⟩:∃G,G=grownCap w n 0 23:=⟨_,rfl⟩
  rw [←hG] at hr hGn hGm;have hG63:G≤9223372036854775807:=by unfold maxLen at hGm;omega
  have hGi:(G:Int)≤9223372036854775807:=by omega
  have hE:Ext w (w.drew.alloc (.cells (Builtin.zeroCells (Value.cells (.slice none 0 0)) n ++ Builtin.zeroCells (Value.cells (.slice none 0 0)) (G - n)) 23)):=((Ext.refl w).drew).alloc' _;have hO:(w.drew.alloc (.cells (Builtin.zeroCells (Value.cells (.slice none 0 0)) n ++ Builtin.zeroCells (Value.cells (.slice none 0 0)) (G - n)) 23)).ownsRow w.heap.size 23 1 (.slice (some ⟨w.heap.size,0,none⟩) 0 G) 0 []:=by
   refine⟨rfl,.inr ⟨w.heap.size,G,_,rfl,Nat.le_refl _,World.alloc_heap_new w.drew _,Nat.zero_le _,hGm,?_,by simp⟩⟩;rw [Array.size_append,size_zeroCells,size_zeroCells,show(Value.cells (.slice none 0 0)).size=1 from rfl,←Nat.add_mul]
   congr 1
   omega
  have HO:=dH hO;have HE:=dH hE;clear hG hi0 hz0 hz1 hz2 hE hO;go_enter Tryz.func135,Tryz.ntmps135;generalize (Obj.cells (Builtin.zeroCells (Value.cells (.slice none 0 0)) n ++ Builtin.zeroCells (Value.cells (.slice none 0 0)) (G - n)) 23)=ob at *
  go_wp2_with (at_builtin;refine Lib.wpList_append_run _ rfl _ _ _ _ rfl _ _ rfl rfl _ _ (hr _) ?_)
  go_ret;exact⟨_,rfl,HO.out,HE.out⟩
theorem zGl (a b:Option Addr) (n1 c1 n2 c2:Nat) (cs ds:List Value) (g:Nat) (w:World) (h1:SlC w 1 a n1 c1 cs) (h2:SlC w 1 b n2 c2 ds) (hb:Blk w g #[.slice a n1 c1,.slice b n2 c2] 55) (hn:n1≤400) (hm:n2≤400):
 Calls Tryz.prog 71 #[.slice (some ⟨g,0,none⟩) 2 2] w fun e w'=>∃v,e=.returned v∧w'.ownsRow w.heap.size 23 1 v (n1+n2) (cs ++ ds)∧Ext w w':=by
 have l1:=h1.le;have m1:=h1.mx;have l2:=h2.le;have m2:=h2.mx;have H1:=dH h1;have H2:=dH h2;have HB:=dH hb;clear h1 h2 hb;go_enter Tryz.func71,Tryz.ntmps71;go_wp2_with fail
 go_loopw [3,11] (fun s i wr=>∃q:Nat,q≤2∧i=.int .i64 q∧s=.int .i64 ((if q=0 then 0 else if q=1 then n1 else n1+n2:Nat):Int)∧w=wr) (fun _ i _=>2 - (intOf i).toNat)
 case atStart=>exact⟨0,by omega,rfl,rfl,rfl⟩
 case round=>
  obtain⟨q,hq,rfl,rfl,rfl⟩:=hrel;have hq3:q=0∨q=1∨q=2:=by omega
  rcases hq3 with rfl | rfl | rfl
  ·have e0:IntKind.i64.wrap (n1:Int)= (n1:Int):=IntWalk.i64_in _ (by omega);have e1:¬ ((n1:Int)<0):=by omega
   have c0:=HB.out.cell (i:=0) rfl;simp only [if_true];go_wp2_with fail;go_roundw
   case rel=>exact⟨1,by omega,by go_num,by first | rfl | simp,by first | rfl | trivial⟩
   case measure=>first | (simp [intOf];done) | (simp [intOf];omega)
  ·have e0:IntKind.i64.wrap ((n1:Int)+ (n2:Int))= (n1:Int)+ (n2:Int):=IntWalk.i64_in _ (by omega);have e1:¬ ((n1:Int)+ (n2:Int)<0):=by omega
   have c0:=HB.out.cell (i:=1) rfl;simp only [Nat.one_ne_zero,if_false,if_true];go_wp2_with fail;go_roundw
   case rel=>exact⟨2,by omega,by go_num,by simp,by first | rfl | trivial⟩
   case measure=>first | (simp [intOf];done) | (simp [intOf];omega)
  ·have HG:=dH (zOh (n1+n2) (by omega) w);rw [Int.natCast_add] at HG;simp only [show ¬ ((2:Nat)=0) by omega,show ¬ ((2:Nat)=1) by omega,if_false,Int.natCast_add];go_wp2_with fail;refine HG.out.mono ?_;rintro e x1 ⟨v,rfl,ho,hE⟩;have hv:=zAh ho;obtain⟨av,cv,rfl⟩:=hv;have HO:=dH ho;have HE:=dH hE;clear ho hE HG;go_wp2_with fail
   go_loopw [6,27] (fun s i wr9=>∃q:Nat,q≤2∧i=.int .i64 q∧wr9.ownsRow w.heap.size 23 1 s (if q=0 then 0 else if q=1 then n1 else n1+n2) (if q=0 then [] else if q=1 then cs else cs ++ ds)∧Ext w wr9) (fun _ i _=>2 - (intOf i).toNat)
   case atStart=>exact⟨0,by omega,rfl,HO.out,HE.out⟩
   case round=>
    obtain⟨q,hq,rfl,ho,hx⟩:=hrel;have hq3:q=0∨q=1∨q=2:=by omega
    rcases hq3 with rfl | rfl | rfl
    ·simp only [if_true] at ho;obtain⟨av,cv,rfl⟩:=zAh ho;have c0:=zA0 hx (HB.out.cell (i:=0) rfl);have h1x:=H1.out.ext hx;have HO:=dH ho;have HX:=dH hx;clear ho hx
     go_wp2_with (at_builtin;refine zBg rfl (.tmp 31) (.tmp 32) 55 23 rfl (z:=.slice none 0 0) (k:=1) (by_:=24) Tryz.underlying55 zBh rfl (by decide) (B:=w.heap.size) HX.out.size rfl HO.out rfl (fun e=>⟨by have:=h1x.nil e;omega,h1x.nil e⟩) h1x.len h1x.at' h1x.one (by omega) (by omega) ?_;intro v' w3 ho' hg' hnl hat)
     obtain⟨a9,c9,rfl⟩:=zAh ho';have hx':Ext w w3:=Below.grown HX.out hg' HX.out.size (fun b e=>(World.ownsRow.lt HO.out b e).1);go_roundw
     case rel=>exact⟨1,by omega,by go_num,(by simpa using ho'),hx'⟩
     case measure=>first | (simp [intOf];done) | (simp [intOf];omega)
    ·simp only [Nat.one_ne_zero,if_false,if_true] at ho;obtain⟨av,cv,rfl⟩:=zAh ho;have c0:=zA0 hx (HB.out.cell (i:=1) rfl);have h1x:=H2.out.ext hx;have HO:=dH ho;have HX:=dH hx;clear ho hx
     go_wp2_with (at_builtin;refine zBg rfl (.tmp 31) (.tmp 32) 55 23 rfl (z:=.slice none 0 0) (k:=1) (by_:=24) Tryz.underlying55 zBh rfl (by decide) (B:=w.heap.size) HX.out.size rfl HO.out rfl (fun e=>⟨by have:=h1x.nil e;omega,h1x.nil e⟩) h1x.len h1x.at' h1x.one (by omega) (by omega) ?_;intro v' w3 ho' hg' hnl hat)
     obtain⟨a9,c9,rfl⟩:=zAh ho';have hx':Ext w w3:=Below.grown HX.out hg' HX.out.size (fun b e=>(World.ownsRow.lt HO.out b e).1);go_roundw
     case rel=>exact⟨2,by omega,by go_num,(by simpa using ho'),hx'⟩
     case measure=>first | (simp [intOf];done) | (simp [intOf];omega)
    ·simp only [show ¬ ((2:Nat)=0) by omega,show ¬ ((2:Nat)=1) by omega,if_false] at ho;obtain⟨av,cv,rfl⟩:=zAh ho;go_wp2_with fail;go_ret;exact⟨_,rfl,ho,hx⟩
theorem zEV:∀ (L:List RatA) (j:Nat),(L.flatMap zC1)[j]? = (L[j / 4]?).bind fun x=>(zC1 x)[j % 4]?
 | [],j=>by simp
 | x :: L,j=>by
  have hl:(zC1 x).length=4:=rfl;rw [List.flatMap_cons];by_cases hj:j<4
  ·rw [List.getElem?_append_left (by rw [hl];exact hj),Nat.div_eq_of_lt hj,Nat.mod_eq_of_lt hj];rfl
  ·rw [List.getElem?_append_right (by rw [hl];omega),hl,zEV L (j - 4)];have e1:j / 4= (j - 4) / 4+1:=by omega
   have e2:j % 4= (j - 4) % 4:=by omega
   rw [e1,e2,List.getElem?_cons_succ]
theorem zKr (L:List RatA):(L.flatMap zC1).length=L.length*4:=by
 induction L with
 | nil=>rfl
 | cons x L ih=>rw [List.flatMap_cons,List.length_append,ih,List.length_cons,show(zC1 x).length=4 from rfl];omega
theorem zJf {j:Nat}:j % 4=0∨j % 4=1∨j % 4=2∨j % 4=3:=by omega
theorem RatsI.slC {w:World} {a:Option Addr} {cap:Nat} {L:List RatA} (h:RatsI w a cap L):SlC w 4 a L.length cap (L.flatMap zC1) where
 le:=h.le
 mx:=h.mx
 nil:=h.nil
 len:=zKr L
 at' A hA j u hu:=by
  rw [zEV] at hu
  cases hx:L[j / 4]? with
  | none=>rw [hx] at hu;cases hu
  | some x=>
   rw [hx] at hu;obtain⟨hl,e⟩:=List.getElem?_eq_some_iff.1 hx;obtain⟨h0,c1,c2,c3,c4⟩:=h.cells A hA (j / 4) hl;rw [e] at c1 c2 c3 c4;obtain⟨ab,ao,asp⟩:=A;dsimp only at h0 c1 c2 c3 c4;subst h0;have eA:∀i,(⟨ab,ao,none⟩:Addr).add i= ⟨ab,ao+i,none⟩:=fun i=>Addr.add_off ab ao i;rw [eA];rcases @zJf j with e4 | e4 | e4 | e4
   ·rw [Option.bind_some,e4] at hu;rw [show ao+j=ao+j / 4*4 by omega,c1];exact hu
   ·rw [Option.bind_some,e4] at hu;rw [show ao+j=ao+j / 4*4+1 by omega,c2];exact hu
   ·rw [Option.bind_some,e4] at hu;rw [show ao+j=ao+j / 4*4+2 by omega,c3];exact hu
   ·rw [Option.bind_some,e4] at hu;rw [show ao+j=ao+j / 4*4+3 by omega,c4];exact hu
 one u hu:=by
  obtain⟨x,_,hx⟩:=List.mem_flatMap.1 hu;simp only [zC1,List.mem_cons,List.not_mem_nil,or_false] at hx;rcases hx with rfl | rfl | rfl | rfl <;> rfl
theorem zEW {w:World} {B:Nat} {v:Value} {L:List RatA} (h:w.ownsRow B 38 4 v L.length (L.flatMap zC1)) (hi:∀x∈L,RatI w x):∃a cap,v=.slice a L.length cap∧RatsI w a cap L:=by
 rcases h.2 with⟨rfl,h0⟩ | ⟨g,cap,cur,rfl,hb,hg,h1,h2,h3,h4⟩
 ·have hL:L=[]:=List.eq_nil_of_length_eq_zero h0;subst hL;exact⟨none,0,rfl,by simp,by omega,fun _=>rfl,fun A hA=>(by cases hA),fun i hi=>absurd hi (by simp)⟩
 ·refine⟨_,cap,rfl,h1,by unfold maxLen at h2;exact h2,fun e=>(by cases e),fun A hA i hL=>?_,fun i hL=>hi _ (List.getElem_mem hL)⟩;cases hA
  have key:∀c,c<4→∀u,(zC1 L[i])[c]? =some u→w.cell? ⟨g,i*4+c,none⟩=some u:=fun c hc u hu=>by
   have:=World.ownsRow.cellAt h (i*4+c) (by omega);rw [zEV,show(i*4+c) / 4=i by omega,show(i*4+c) % 4=c by omega,List.getElem?_eq_getElem hL,Option.bind_some,hu] at this
   simpa using this
  refine⟨rfl,?_,?_,?_,?_⟩
  ·have:=key 0 (by omega) _ rfl;simpa using this
  ·have:=key 1 (by omega) _ rfl;simpa using this
  ·have:=key 2 (by omega) _ rfl;simpa using this
  ·have:=key 3 (by omega) _ rfl;simpa using this
def zBF (m:List (List Int)) (LQ LX:List RatA):Bool:=decide (LQ.length=m.length) && decide (LX.length= (m.headD []).length) && (LQ ++ LX).all RatA.ok
def zDS (b:Bool):Ending:=if b then .returned (.tuple #[]) else zBN 380
theorem zDT {b:Bool} {E:Ending} (hb:b=false) (h:zDS b=E):zBN 380=E:=by rw [hb] at h;exact h
theorem zBG (a:Option Addr) (cap:Nat) (m:List (List Int)) (qa:Option Addr) (qc:Nat) (LQ:List RatA) (xa:Option Addr) (xc:Nat) (LX:List RatA) (w:World) (h:Rows w a cap m) (hq:RatsI w qa qc LQ) (hx:RatsI w xa xc LX) (hl1:LQ.length≤400) (hl2:LX.length≤400):
 Calls Tryz.prog 69 #[.slice a m.length cap,.agg #[.slice qa LQ.length qc,.slice xa LX.length xc]] w fun e w'=>e=zDS (zBF m LQ LX)∧Ext w w':=by
 obtain⟨x1,hw,hy,Kf⟩:=zCh w #[.slice qa LQ.length qc,.slice xa LX.length xc] 25;replace hw:=dH hw;obtain⟨E,hE⟩:∃E,zDS (zBF m LQ LX)=E:=⟨_,rfl⟩
 rw [hE];have HE:=dH hE;have HH:=dH h;have HQ:=dH hq;have HX:=dH hx;have hle:=h.le;have hmx:=h.mx;have qle:=hq.le;have qmx:=hq.mx;have xle:=hx.le;have xmx:=hx.mx;clear h hq hx hE;go_enter Tryz.func69,Tryz.ntmps69;go_upto_region 1 with fail
 try simp only [Nat.add_assoc,Nat.reduceAdd,Nat.add_zero]
 rw [hw.out];clear hw;obtain⟨k0,k1⟩:=bk2 Kf;obtain⟨n,hn⟩:∃n,(m.headD []).length=n:=⟨_,rfl⟩
 have HN:=dH hn;by_cases hm0:0<m.length
 ·have i0:(0:Int)< (m.length:Int):=by omega
  obtain⟨b,o,rfl⟩:=HH.out.head hm0;obtain⟨l,ar,cr,hl,hc,hI⟩:=Rows.get (HH.out.ext hy) hm0;have hl0:l.length=n:=by
   cases m with
   | nil=>simp at hm0
   | cons r t=>simp only [List.getElem?_cons_zero,Option.some.injEq] at hl;subst hl;exact hn
  rw [hl0,Nat.add_zero] at hc;clear hI hl hl0 hn;by_cases hA:LQ.length=m.length
  ·have e1:((LQ.length:Int) == (m.length:Int))=true:=by simp [hA]
   by_cases hB:LX.length=n
   ·have e2:((LX.length:Int) == (n:Int))=true:=by simp [hB]
    have HA:=dH hA;have HB:=dH hB;clear hA hB;go_wp2_with fail
    try simp only [e1,e2]
    refine(zAb 380 _).mono ?_;rintro e w9 ⟨rfl,hz0⟩;replace hy:=hy.trans hz0;replace Kf:=kE Kf hz0;clear hc e1 e2 k0 k1 hz0;obtain⟨k0,k1⟩:=bk2 Kf;have hz:=Ext.alloc w9 (.cells #[.slice qa LQ.length qc,.slice xa LX.length xc] 23);have HC:=dH (zIv qa xa LQ.length qc LX.length xc (LQ.flatMap zC1) (LX.flatMap zC1) _ _ ((HQ.out.ext (hy.trans hz)).slC) ((HX.out.ext (hy.trans hz)).slC) (Blk.new0 w9 #[.slice qa LQ.length qc,.slice xa LX.length xc] 23) hl1 hl2);have HY:=dH (hy.trans hz);clear hz hy;go_wp2_with fail;refine HC.out.mono ?_;rintro e x3 ⟨v,rfl,ho,hz2⟩;have hy3:=HY.out.trans hz2;obtain⟨Lc,hLc⟩:∃Lc,LQ ++ LX=Lc:=⟨_,rfl⟩
    have hlen:LQ.length+LX.length=Lc.length:=by rw [←hLc,List.length_append]
    have hint:∀x∈Lc,RatI x3 x:=fun x hx=>by
     rw [←hLc] at hx;rcases List.mem_append.1 hx with hx | hx
     ·obtain⟨i,hi,rfl⟩:=List.getElem_of_mem hx;exact(HQ.out.ints i hi).ext hy3
     ·obtain⟨i,hi,rfl⟩:=List.getElem_of_mem hx;exact(HX.out.ints i hi).ext hy3
    rw [←List.flatMap_append,hLc,hlen] at ho;obtain⟨va,vc,rfl,hr⟩:=zEW ho hint;have rle:=hr.le;have rmx:=hr.mx;have HR:=dH hr;have HY3:=dH hy3;have hfb:zBF m LQ LX=Lc.all RatA.ok:=by unfold zBF;rw [HN.out,hLc,decide_eq_true HA.out,decide_eq_true HB.out];rfl
    have HFB:=dH hfb;have hNl:Lc.length≤800:=by omega
    clear ho hint hr hz2 hy3 HC HY k0 k1 hlen hLc hfb Kf HQ HX;go_wp2_with fail
    go_loopw [35] (fun v wr=>∃q:Nat,q≤Lc.length∧v=.int .i64 q∧(Lc.take q).all RatA.ok=true∧Ext x3 wr) (fun v _=>Lc.length - (intOf v).toNat)
    case atStart=>exact⟨0,Nat.zero_le _,rfl,rfl,Ext.refl _⟩
    case round=>
     obtain⟨q,hq,rfl,hall,hxr⟩:=hrel;have q0:(0:Int)≤(q:Int):=by omega
     by_cases hqn:q<Lc.length
     ·have q1:(q:Int)< (Lc.length:Int):=by omega
      have hw1:IntKind.i64.wrap ((q:Int)+1)= (q:Int)+1:=IntWalk.i64_in _ (by omega);have hrx:=HR.out.ext hxr;obtain⟨vb,vo,rfl⟩:=hrx.head hqn;obtain⟨n1,a1,c1,l1,n2,a2,c2,l2,hg,g0,g1,g2,g3,i1,i2⟩:=hrx.get hqn;have HI1:=dH i1;have HI2:=dH i2;have HXR:=dH hxr;have HG:=dH hg;have HAL:=dH hall;clear hrx i1 i2 hxr hg hall;go_upto_region 8 with fail;have hza:=Ext.alloc wr (.cells #[.bool n1,.slice a1 l1.length c1,.bool n2,.slice a2 l2.length c2] 38);obtain⟨b0,b1,b2,b3⟩:=bk4 (dH (Blk.new0 wr #[.bool n1,.slice a1 l1.length c1,.bool n2,.slice a2 l2.length c2] 38));have HK:=dH (zCa n1 n2 a1 a2 c1 c2 l1 l2 _ (HI1.out.ext hza) (HI2.out.ext hza));have HXR2:=dH (HXR.out.trans hza);clear hza g0 g1 g2 g3;generalize wr.alloc (.cells #[.bool n1,.slice a1 l1.length c1,.bool n2,.slice a2 l2.length c2] 38)=x4 at *;go_wp2_with fail;refine HK.out.mono ?_;rintro e x5 ⟨rfl,hz⟩;have HXR3:=dH (HXR2.out.trans hz);clear hz b0 b1 b2 b3 HK;by_cases hok:okR n1 l1 n2 l2=true
      ·have hTK:(Lc.take (q+1)).all RatA.ok=true:=by
        rw [zB0 HG.out,List.all_append,HAL.out]
        simpa [RatA.ok] using hok
       have HTK:=dH hTK;rw [hok,show zMS true=0 from rfl];clear hTK hok;go_wp2_with fail;refine(zAb 380 _).mono ?_;rintro e x6 ⟨rfl,hz⟩;have HXR4:=dH (HXR3.out.trans hz);clear hz;go_wp2_with fail;go_roundw
       case rel=>exact⟨q+1,by omega,by go_num,HTK.out,HXR4.out⟩
       case measure=>first | (simp [intOf];done) | (simp [intOf];omega)
      ·have hok:okR n1 l1 n2 l2=false:=by simpa using hok
       have HF:=dH (zDT (b:=zBF m LQ LX) (by
        rw [HFB.out,Bool.eq_false_iff];intro e;have h9:=List.all_eq_true.1 e _ (List.mem_of_getElem? HG.out);have h8:okR n1 l1 n2 l2=true:=h9;rw [hok] at h8
        cases h8) HE.out)
       rw [hok,show zMS false=100 from rfl];clear hok;go_wp2_with fail;refine(zA9 380 _).mono ?_;rintro e x6 ⟨rfl,hz⟩;have HXR4:=dH (HY3.out.trans (HXR3.out.trans hz));clear hz;go_wp2_with fail;exact⟨rfl,HF.out,HXR4.out⟩
     ·have q1:¬ (q:Int)< (Lc.length:Int):=by omega
      have HF:Hid (.returned (.tuple #[])=E):=dH (by
       rw [←HE.out,HFB.out,←List.take_of_length_le (l:=Lc) (i:=q) (by omega),hall];rfl)
      have HZ:=dH (HY3.out.trans hxr);clear hall hxr;go_wp2_with fail
      go_end0
      exact⟨HF.out,HZ.out⟩
   ·have e2:((LX.length:Int) == (n:Int))=false:=by simp only [beq_eq_false_iff_ne];omega
    have HF:=dH (zDT (b:=zBF m LQ LX) (by unfold zBF;rw [HN.out,decide_eq_false hB];simp) HE.out);clear hA hB;go_wp2_with fail
    try rw [e2]
    refine(zA9 380 _).mono ?_;rintro e w9 ⟨rfl,hz⟩;have HZ:=dH (hy.trans hz);clear hy hz k0 k1 hc;go_wp2_with fail;exact⟨rfl,HF.out,HZ.out⟩
  ·have e1:((LQ.length:Int) == (m.length:Int))=false:=by simp only [beq_eq_false_iff_ne];omega
   have HF:=dH (zDT (b:=zBF m LQ LX) (by unfold zBF;rw [decide_eq_false hA];simp) HE.out);clear hA;go_wp2_with fail
   try rw [e1]
   refine(zA9 380 _).mono ?_;rintro e w9 ⟨rfl,hz⟩;have HZ:=dH (hy.trans hz);clear hy hz k0 k1 hc;go_wp2_with fail;exact⟨rfl,HF.out,HZ.out⟩
 ·have i0:¬ (0:Int)< (m.length:Int):=by omega
  have hc:True:=trivial;obtain rfl:n=0:=by
   have:m=[]:=List.eq_nil_of_length_eq_zero (by omega);rw [←hn,this];rfl
  clear hn;by_cases hA:LQ.length=m.length
  ·have e1:((LQ.length:Int) == (m.length:Int))=true:=by simp [hA]
   by_cases hB:LX.length=0
   ·have e2:((LX.length:Int) == (0:Int))=true:=by simp [hB]
    have HA:=dH hA;have HB:=dH hB;clear hA hB;go_wp2_with fail
    try simp only [e1,e2]
    refine(zAb 380 _).mono ?_;rintro e w9 ⟨rfl,hz0⟩;replace hy:=hy.trans hz0;replace Kf:=kE Kf hz0;clear hc e1 e2 k0 k1 hz0;obtain⟨k0,k1⟩:=bk2 Kf;have hz:=Ext.alloc w9 (.cells #[.slice qa LQ.length qc,.slice xa LX.length xc] 23);have HC:=dH (zIv qa xa LQ.length qc LX.length xc (LQ.flatMap zC1) (LX.flatMap zC1) _ _ ((HQ.out.ext (hy.trans hz)).slC) ((HX.out.ext (hy.trans hz)).slC) (Blk.new0 w9 #[.slice qa LQ.length qc,.slice xa LX.length xc] 23) hl1 hl2);have HY:=dH (hy.trans hz);clear hz hy;go_wp2_with fail;refine HC.out.mono ?_;rintro e x3 ⟨v,rfl,ho,hz2⟩;have hy3:=HY.out.trans hz2;obtain⟨Lc,hLc⟩:∃Lc,LQ ++ LX=Lc:=⟨_,rfl⟩
    have hlen:LQ.length+LX.length=Lc.length:=by rw [←hLc,List.length_append]
    have hint:∀x∈Lc,RatI x3 x:=fun x hx=>by
     rw [←hLc] at hx;rcases List.mem_append.1 hx with hx | hx
     ·obtain⟨i,hi,rfl⟩:=List.getElem_of_mem hx;exact(HQ.out.ints i hi).ext hy3
     ·obtain⟨i,hi,rfl⟩:=List.getElem_of_mem hx;exact(HX.out.ints i hi).ext hy3
    rw [←List.flatMap_append,hLc,hlen] at ho;obtain⟨va,vc,rfl,hr⟩:=zEW ho hint;have rle:=hr.le;have rmx:=hr.mx;have HR:=dH hr;have HY3:=dH hy3;have hfb:zBF m LQ LX=Lc.all RatA.ok:=by unfold zBF;rw [HN.out,hLc,decide_eq_true HA.out,decide_eq_true HB.out];rfl
    have HFB:=dH hfb;have hNl:Lc.length≤800:=by omega
    clear ho hint hr hz2 hy3 HC HY k0 k1 hlen hLc hfb Kf HQ HX;go_wp2_with fail
    go_loopw [35] (fun v wr=>∃q:Nat,q≤Lc.length∧v=.int .i64 q∧(Lc.take q).all RatA.ok=true∧Ext x3 wr) (fun v _=>Lc.length - (intOf v).toNat)
    case atStart=>exact⟨0,Nat.zero_le _,rfl,rfl,Ext.refl _⟩
    case round=>
     obtain⟨q,hq,rfl,hall,hxr⟩:=hrel;have q0:(0:Int)≤(q:Int):=by omega
     by_cases hqn:q<Lc.length
     ·have q1:(q:Int)< (Lc.length:Int):=by omega
      have hw1:IntKind.i64.wrap ((q:Int)+1)= (q:Int)+1:=IntWalk.i64_in _ (by omega);have hrx:=HR.out.ext hxr;obtain⟨vb,vo,rfl⟩:=hrx.head hqn;obtain⟨n1,a1,c1,l1,n2,a2,c2,l2,hg,g0,g1,g2,g3,i1,i2⟩:=hrx.get hqn;have HI1:=dH i1;have HI2:=dH i2;have HXR:=dH hxr;have HG:=dH hg;have HAL:=dH hall;clear hrx i1 i2 hxr hg hall;go_upto_region 8 with fail;have hza:=Ext.alloc wr (.cells #[.bool n1,.slice a1 l1.length c1,.bool n2,.slice a2 l2.length c2] 38);obtain⟨b0,b1,b2,b3⟩:=bk4 (dH (Blk.new0 wr #[.bool n1,.slice a1 l1.length c1,.bool n2,.slice a2 l2.length c2] 38));have HK:=dH (zCa n1 n2 a1 a2 c1 c2 l1 l2 _ (HI1.out.ext hza) (HI2.out.ext hza));have HXR2:=dH (HXR.out.trans hza);clear hza g0 g1 g2 g3;generalize wr.alloc (.cells #[.bool n1,.slice a1 l1.length c1,.bool n2,.slice a2 l2.length c2] 38)=x4 at *;go_wp2_with fail;refine HK.out.mono ?_;rintro e x5 ⟨rfl,hz⟩;have HXR3:=dH (HXR2.out.trans hz);clear hz b0 b1 b2 b3 HK;by_cases hok:okR n1 l1 n2 l2=true
      ·have hTK:(Lc.take (q+1)).all RatA.ok=true:=by
        rw [zB0 HG.out,List.all_append,HAL.out]
        simpa [RatA.ok] using hok
       have HTK:=dH hTK;rw [hok,show zMS true=0 from rfl];clear hTK hok;go_wp2_with fail;refine(zAb 380 _).mono ?_;rintro e x6 ⟨rfl,hz⟩;have HXR4:=dH (HXR3.out.trans hz);clear hz;go_wp2_with fail;go_roundw
       case rel=>exact⟨q+1,by omega,by go_num,HTK.out,HXR4.out⟩
       case measure=>first | (simp [intOf];done) | (simp [intOf];omega)
      ·have hok:okR n1 l1 n2 l2=false:=by simpa using hok
       have HF:=dH (zDT (b:=zBF m LQ LX) (by
        rw [HFB.out,Bool.eq_false_iff];intro e;have h9:=List.all_eq_true.1 e _ (List.mem_of_getElem? HG.out);have h8:okR n1 l1 n2 l2=true:=h9;rw [hok] at h8
        cases h8) HE.out)
       rw [hok,show zMS false=100 from rfl];clear hok;go_wp2_with fail;refine(zA9 380 _).mono ?_;rintro e x6 ⟨rfl,hz⟩;have HXR4:=dH (HY3.out.trans (HXR3.out.trans hz));clear hz;go_wp2_with fail;exact⟨rfl,HF.out,HXR4.out⟩
     ·have q1:¬ (q:Int)< (Lc.length:Int):=by omega
      have HF:Hid (.returned (.tuple #[])=E):=dH (by
       rw [←HE.out,HFB.out,←List.take_of_length_le (l:=Lc) (i:=q) (by omega),hall];rfl)
      have HZ:=dH (HY3.out.trans hxr);clear hall hxr;go_wp2_with fail
      go_end0
      exact⟨HF.out,HZ.out⟩
   ·have e2:((LX.length:Int) == (0:Int))=false:=by simp only [beq_eq_false_iff_ne];omega
    have HF:=dH (zDT (b:=zBF m LQ LX) (by unfold zBF;rw [HN.out,decide_eq_false hB];simp) HE.out);clear hA hB;go_wp2_with fail
    try rw [e2]
    refine(zA9 380 _).mono ?_;rintro e w9 ⟨rfl,hz⟩;have HZ:=dH (hy.trans hz);clear hy hz k0 k1 hc;go_wp2_with fail;exact⟨rfl,HF.out,HZ.out⟩
  ·have e1:((LQ.length:Int) == (m.length:Int))=false:=by simp only [beq_eq_false_iff_ne];omega
   have HF:=dH (zDT (b:=zBF m LQ LX) (by unfold zBF;rw [decide_eq_false hA];simp) HE.out);clear hA;go_wp2_with fail
   try rw [e1]
   refine(zA9 380 _).mono ?_;rintro e w9 ⟨rfl,hz⟩;have HZ:=dH (hy.trans hz);clear hy hz k0 k1 hc;go_wp2_with fail;exact⟨rfl,HF.out,HZ.out⟩
end Go.Proofs.YtonkhcdmchidjaaGreat
