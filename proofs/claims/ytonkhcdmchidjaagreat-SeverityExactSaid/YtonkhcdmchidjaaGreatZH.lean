import Derived.Test.YtonkhcdmchidjaaGreatZF
namespace Go.Proofs.YtonkhcdmchidjaaGreat
open Go.RowKit Go BigFrame Go.Shelf
set_option maxRecDepth 100000
set_option linter.all false
theorem zMm:zMC zJO where
 ext:=fun _ _ _ _ _ h=>h
 grown:=fun _ _ _ _ _ h _ _=>h
 new:=fun w v x h A n c e _=>by rw [h.1] at e;cases e
 one:=fun w v x h=>by rw [h.1];rfl
theorem zMn:(Tryz.prog.info? 3).map (fun i=>(i.zero,i.size,i.bytes))=some (some (.int .i64 0),1,8):=by kernel_rfl
theorem zL9:(Tryz.prog.info? 34).map (fun i=>(i.zero,i.size,i.bytes))=some (some (.slice none 0 0),1,24):=by kernel_rfl
theorem zBR {a0 w:World} {ops:Array Oper} {rest:List Oper} {o:Oper} {a:Act} {Q:Exit→Act→World→Prop} (hgd:o.guard=none) (s x:Operand) (t:TypeId)
 (ho:o.op=.call {callee:=.builtin .append,args:=#[s,x],argTypes:=#[t,t]}) (ht:Tryz.prog.underlying t=some (.slice 3))
 (hx0:Ext a0 w) {v:Value} {xs:List Int} (hs:a.eval s=v) (hown:OwnL zJO w a0.heap.size 3 v xs) {g:Nat} (hx:a.eval x=.slice (some ⟨g,0,none⟩) 1 1) {y:Int} {bt:TypeId} (hb:Blk w g #[.int .i64 y] bt) (hy:-9223372036854775808≤y∧y≤9223372036854775807)
 (hlen:xs.length≤1000000)
 (h:∀va vc w',OwnL zJO w' a0.heap.size 3 (.slice va (xs.length+1) vc) (xs ++ [y])→Ext a0 w'→w.grownBy w' v.ownBlock→wpList Tryz.prog ops Q rest (a.put o.dst (.slice va (xs.length+1) vc)) w'):wpList Tryz.prog ops Q (o :: rest) a w:=by
 obtain⟨i0,hi0,hz0,hz1,hz2⟩:=info_parts zMn;obtain⟨vs,hvs,hel⟩:=hown.ex
 refine wpList_append_own_at w hgd s x t ho a0.heap.size 3 i0 (.int .i64 0) 1 8 ht hi0 hz0 hz1 hz2 rfl (by decide) v xs.length vs hs hvs ⟨g,0,none⟩ 1 1 [.int .i64 y] hx rfl (fun j q hq=>by
  have e:((⟨g,0,none⟩:Addr).add j)= ⟨g,j,none⟩:=by unfold Addr.add;split <;> simp_all
  rw [e]
  exact hb.cell (by simpa using hq)) (fun q hq=>by rw [List.mem_singleton.1 hq];rfl) (by unfold maxLen;omega) (by omega) hx0.size ?_
 intro v' w' h1 h2 h3 h4;have hm:=hown.more zMm hvs hel (y:=y) (x:=.int .i64 y) ⟨rfl,hy⟩ (fun A n c e=>by cases e) h1 h2 h4;obtain⟨va,vc,e,_⟩:=hm.form;rw [List.length_append,List.length_singleton] at e;subst e;exact h va vc w' hm (Below.grown hx0 h2 hx0.size (fun k e=>(hown.lt k e).1)) h2
def zLa (A B:List Int) (ms:List Bool) (i k:Nat):Int:=if ms.getD (i*B.length+k) false then -1 else A.getD i 0+B.getD k 0
def zIq (A B:List Int) (ms:List Bool) (i:Nat):List Int:=(List.range B.length).map (zLa A B ms i)
def exM (A B:List Int) (ms:List Bool):List (List Int):=(List.range A.length).map (zIq A B ms)
def exQ (A B:List Int) (i:Nat):Rat:=Rat.divInt (A.getD i 0* (B.length:Int)+B.sum) (B.length:Int)
def exX (B:List Int) (k:Nat):Rat:=Rat.divInt (B.getD k 0* (B.length:Int) - B.sum) (B.length:Int)
section
variable {A B:List Int} {ms:List Bool}
theorem zEi:(exM A B ms).length=A.length:=by unfold exM;simp
theorem zHL (i:Nat):(zIq A B ms i).length=B.length:=by unfold zIq;simp
theorem zD6 (h:0<A.length):((exM A B ms).headD []).length=B.length:=by
 unfold exM
 cases A with
 | nil=>simp at h
 | cons a t=>rw [List.length_cons,List.range_succ_eq_map];simp [zHL]
theorem zOZ {i k:Nat} (hi:i<A.length) (hk:k<B.length):mkS (exM A B ms) i k=zLa A B ms i k:=by
 unfold mkS;rw [List.getD_eq_getElem?_getD,List.getD_eq_getElem?_getD];unfold exM;rw [List.getElem?_map,List.getElem?_range hi];unfold zIq;simp only [Option.map_some,Option.getD_some];rw [List.getElem?_map,List.getElem?_range hk];rfl
theorem zMS (l:List Int):∀k,k≤l.length→sq (fun c=>((l.getD c 0:Int):Rat)) k= (((l.take k).sum:Int):Rat)
 | 0,_=>by rw [zBJ];rfl
 | k+1,hk=>by
  rw [zAF,zMS l k (by omega),List.getD_eq_getElem?_getD,List.getElem?_eq_getElem (by omega),Option.getD_some,List.take_add_one,List.getElem?_eq_getElem (by omega),Option.toList_some,List.sum_append,List.sum_cons,List.sum_nil,Int.add_zero,Rat.intCast_add]
theorem zP0 (hB:0<B.length) (i:Nat):exQ A B i= ((A.getD i 0:Int):Rat)+ (B.sum:Rat) / (B.length:Rat):=by
 unfold exQ;rw [Rat.divInt_eq_div,Rat.intCast_add,Rat.intCast_mul,Rat.intCast_natCast];have h0:=Mks.nat_ne hB;grind
theorem zMT (hB:0<B.length) (k:Nat):exX B k= ((B.getD k 0:Int):Rat) - (B.sum:Rat) / (B.length:Rat):=by
 unfold exX;rw [Rat.divInt_eq_div,Rat.intCast_sub,Rat.intCast_mul,Rat.intCast_natCast];have h0:=Mks.nat_ne hB;grind
theorem zLb (hB:0<B.length) {i k:Nat} (hi:i<A.length) (hk:k<B.length):kS (exM A B ms) i k=0∨(zAl (exM A B ms)).r (exQ A B) (exX B) i k=0:=by
 by_cases hm:mkS (exM A B ms) i k= -1
 ·exact .inl (by unfold kS;rw [hm,if_neg (fun h=>h rfl)])
 ·right
  have e1:kS (exM A B ms) i k=1:=by unfold kS;rw [if_pos hm]
  show kS (exM A B ms) i k* (mkS (exM A B ms) i k:Rat) - exQ A B i - exX B k=0;rw [e1,zP0 hB,zMT hB];rw [zOZ hi hk] at hm ⊢;unfold zLa at hm ⊢
  split at hm
  ·exact absurd rfl hm
  ·rename_i h;rw [if_neg h,Rat.intCast_add];grind
theorem zNY (hB:0<B.length):sq (exX B) B.length=0:=by
 have h0:=Mks.nat_ne hB;rw [zA4 (g:=fun c=>((B.getD c 0:Int):Rat) - 1* ((B.sum:Rat) / (B.length:Rat))) fun c _=>by rw [zMT hB];grind,zDH,zMS B _ (Nat.le_refl _),List.take_length,zBK];have e:sq (fun _=>(1:Rat)) B.length= (B.length:Rat):=by
  have:=Mks.const_sum (x:=fun _=>(1:Rat)) (J:=B.length) fun _ _=>rfl;grind
 rw [e];grind
theorem zNZ (hA:0<A.length) (hB:0<B.length):(zAl (exM A B ms)).Fits (exQ A B) (exX B) where
 row i hi:=zB0 fun k hk=>by
  have hi2:i<A.length:=by have h:i< (exM A B ms).length:=hi;rwa [zEi] at h
  have hk2:k<B.length:=by have h:k< ((exM A B ms).headD []).length:=hk;rwa [zD6 hA] at h
  show kS (exM A B ms) i k*_=0;rcases zLb (ms:=ms) hB hi2 hk2 with e | e <;> rw [e] <;> grind
 col k hk:=zB0 fun i hi=>by
  have hi2:i<A.length:=by have h:i< (exM A B ms).length:=hi;rwa [zEi] at h
  have hk2:k<B.length:=by have h:k< ((exM A B ms).headD []).length:=hk;rwa [zD6 hA] at h
  show kS (exM A B ms) i k*_=0;rcases zLb (ms:=ms) hB hi2 hk2 with e | e <;> rw [e] <;> grind
 sum:=by
  show sq (exX B) ((exM A B ms).headD []).length=0;rw [zD6 hA];exact zNY hB
theorem zO0 (hA:0<A.length) (hB:0<B.length):(zAl (exM A B ms)).loss (exQ A B) (exX B)=0:=zB0 fun i hi=>zB0 fun k hk=>by
 have hi2:i<A.length:=by have h:i< (exM A B ms).length:=hi;rwa [zEi] at h
 have hk2:k<B.length:=by have h:k< ((exM A B ms).headD []).length:=hk;rwa [zD6 hA] at h
 show kS (exM A B ms) i k*_=0;rcases zLb (ms:=ms) hB hi2 hk2 with e | e <;> rw [e] <;> grind
theorem ex_ov (hB:0<B.length) (h4:B.length≤4) (hA1:∀x∈A,0≤x∧x≤255) (hB1:∀x∈B,0≤x∧x≤255) (E:Nat):OvF B.length (2 ^ 12) B.length E (exQ A B) (exX B):=by
 have hs:0≤B.sum∧B.sum≤1020:=by
  have key:∀l:List Int,(∀x∈l,0≤x∧x≤255)→0≤l.sum∧l.sum≤255*l.length:=fun l=>by
   induction l with
   | nil=>intro _;simp
   | cons x t ih=>
    intro h;have h1:=h x (by simp);have h2:=ih fun y hy=>h y (by simp [hy]);rw [List.sum_cons,List.length_cons];omega
  have:=key B hB1;omega
 have hg:∀l:List Int,(∀x∈l,0≤x∧x≤255)→∀i,0≤l.getD i 0∧l.getD i 0≤255:=fun l h i=>by
  by_cases hc:i<l.length
  ·rw [List.getD_eq_getElem?_getD,List.getElem?_eq_getElem hc];exact h _ (List.getElem_mem hc)
  ·rw [List.getD_eq_getElem?_getD,List.getElem?_eq_none (by omega)];exact⟨by decide,by decide⟩
 have h4c:B.length=1∨B.length=2∨B.length=3∨B.length=4:=by omega
 refine⟨hB,fun i _=>⟨A.getD i 0* (B.length:Int)+B.sum,?_,by unfold exQ;rw [Rat.divInt_eq_div,Rat.intCast_natCast]⟩,fun k _=>⟨B.getD k 0* (B.length:Int) - B.sum,?_,by unfold exX;rw [Rat.divInt_eq_div,Rat.intCast_natCast]⟩⟩
 ·have:=hg A hA1 i;rcases h4c with e | e | e | e <;> rw [e] <;> omega
 ·have:=hg B hB1 k;rcases h4c with e | e | e | e <;> rw [e] <;> omega
end
end Go.Proofs.YtonkhcdmchidjaaGreat
