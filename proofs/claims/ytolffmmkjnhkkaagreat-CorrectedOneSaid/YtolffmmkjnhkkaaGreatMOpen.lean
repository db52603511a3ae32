import Derived.Test.YtolffmmkjnhkkaaGreatBase
import Derived.ProofKit
import Derived.OpenShut
import Derived.Deep.Slices
import Derived.Lib.SmallJoins
import Derived.ChangeMaps5
import Derived.Test.YtolffmmkjnhkkaaGreatM0
import Derived.KernelRfl
namespace Go.Proofs.YtolffmmkjnhkkaaGreat
open Go.RowKit Go Go.Deep Go.WideShapes Go.ChangeShapes
set_option maxRecDepth 100000
section
variable {H:Type} {enc:TypeId × Value→H} {P:Program} {w:World} {base:Nat} {held:Bool}
theorem slOf_of_trod {α:Type} [Inhabited α] {R:World→Value→α→Prop} {t e:TypeId} {fuel:Nat} {v:Value} {x:DataW H × List MemPlace} (ht:P.underlying t=some (.slice e)) (hc:P.cellsOf e=1)
 (hR:∀n u y,DataW.trod enc P w base (fun _=>true) held n e [u]=some y→∃z,R w u z) (h:DataW.trod enc P w base (fun _=>true) held fuel t [v]=some x):
 ∃a l cap,v=.slice a (List.length l) cap∧SlOf R w a cap l:=by
 rcases open_slice1 ht hc h with⟨hcs,_⟩ | ⟨a,len,cap,m,n,V,D,Pl,hcs,hb,hl,hm,hmm,_,hx⟩
 ·simp only [List.cons.injEq,and_true] at hcs
  subst hcs
  exact⟨none,[],0,rfl,⟨Nat.le_refl _,by omega,fun _=>rfl,fun A hA=>by cases hA⟩⟩
 ·simp only [List.cons.injEq,and_true] at hcs
  subst hcs
  simp only [if_true] at hmm
  obtain⟨f,hf⟩:=choose_lt (α:=α) (n:=m) (p:=fun i z=>R w (V i) z) (fun i hi=>hR n (V i) _ (hx i hi).2)
  refine⟨some a,(List.range len).map f,cap,by simp,⟨by simpa using hl,by unfold maxLen at hm;omega,fun h=>by(cases h),fun A hA i hi=>?_⟩⟩
  cases hA
  simp only [List.length_map,List.length_range] at hi
  have hc0:=(hx i (by omega)).1
  have hs:a.spot=none:=by
   have:=World.cell?_spot (hx 0 (by omega)).1
   unfold Addr.add at this
   simpa using this
  refine⟨hs,V i,?_,by simpa using hf i (by omega)⟩
  obtain⟨b,o,s⟩:=a
  simp only at hs
  subst hs
  rw [←hc0]
  congr 1
  unfold Addr.add
  split <;> simp_all
theorem isInt_of_trod {t:TypeId} (ht:P.underlying t=some (.int .i64)) (n:Nat) (u:Value) (y:DataW H × List MemPlace) (h:DataW.trod enc P w base (fun _=>true) held n t [u]=some y):∃z,IsInt w u z:=by
 obtain⟨x,h1,_,hw⟩:=DataW.trod_int ht h
 simp only [List.cons.injEq,and_true] at h1
 refine⟨x,h1,?_⟩
 have:=bounds_i64 hw
 exact⟨this.1,this.2⟩
theorem isBool_of_trod {t:TypeId} (ht:P.underlying t=some .bool) (n:Nat) (u:Value) (y:DataW H × List MemPlace) (h:DataW.trod enc P w base (fun _=>true) held n t [u]=some y):∃z,IsBool w u z:=by
 obtain⟨b,h1,_⟩:=DataW.trod_bool ht h
 simp only [List.cons.injEq,and_true] at h1
 exact⟨b,h1⟩
theorem isInts_of_trod {t e:TypeId} (ht:P.underlying t=some (.slice e)) (he:P.underlying e=some (.int .i64)) (hc:P.cellsOf e=1) (n:Nat) (u:Value) (y:DataW H × List MemPlace)
 (h:DataW.trod enc P w base (fun _=>true) held n t [u]=some y):∃z,IsInts w u z:=by
 obtain⟨a,l,cap,h1,h2⟩:=slOf_of_trod (R:=IsInt) ht hc (fun n u y h=>isInt_of_trod he n u y h) h
 exact⟨l,a,cap,h1,h2⟩
open Go.Joins
theorem open_rows {v:Value} {d:DataW H} {p:List MemPlace} {r:Reach} {b0:Nat} (hv:Value.okWide Tryz.prog w r b0 22 v) (h:DataW.Trod enc Tryz.prog w base (fun _=>true) held 22 v d p):
 ∃ (a:Option Addr) (cap:Nat) (l:List (List Int)),v=.slice a l.length cap∧Rows w a cap l:=by
 obtain⟨a0,n0,c0,rfl⟩:=okWide_slice Tryz.underlying22 hv
 obtain⟨fuel,hf⟩:=h
 obtain⟨a,l,cap,e,hl⟩:=slOf_of_trod (R:=IsInts) Tryz.underlying22 (by kernel_rfl) (fun n u y h=>isInts_of_trod Tryz.underlying34 Tryz.underlying3 (by kernel_rfl) n u y h) hf
 exact⟨a,cap,l,e,hl⟩
theorem open_i64 {v:Value} {d:DataW H} {p:List MemPlace} {r:Reach} {b0:Nat} (hv:Value.okWide Tryz.prog w r b0 3 v) (h:DataW.Trod enc Tryz.prog w base (fun _=>true) held 3 v d p):
 ∃n:Int,v=.int .i64 n∧-9223372036854775808≤n∧n≤9223372036854775807:=by
 obtain⟨a,rfl,_,_,hw⟩:=open_int Tryz.underlying3 hv h
 exact⟨a,rfl,bounds_i64 hw⟩
theorem open_u8 {v:Value} {d:DataW H} {p:List MemPlace} {r:Reach} {b0:Nat} (hv:Value.okWide Tryz.prog w r b0 5 v) (h:DataW.Trod enc Tryz.prog w base (fun _=>true) held 5 v d p):
 ∃n:Int,v=.int .u8 n∧0≤n∧n≤255:=by
 obtain⟨a,rfl,_,_,hw⟩:=open_int Tryz.underlying5 hv h
 exact⟨a,rfl,bounds_u8 hw⟩
theorem big_trod {n:Nat} {u v:Value} {y:DataW H × List MemPlace} (h:DataW.trod enc Tryz.prog w base (fun _=>true) true n 36 [u,v]=some y):∃ (neg:Bool) (a:Option Addr) (cap:Nat) (l:List Int),u=.bool neg∧v=.slice a l.length cap∧Ints w a cap l:=by
 obtain⟨y0,y1,k,hx,_,h0,h1⟩:=trod_struct2 Tryz.underlying36 h
 rw [show Tryz.prog.cellsOf 4=1 by kernel_rfl] at h0
 rw [show Tryz.prog.cellsOf 34=1 by kernel_rfl] at h1
 obtain⟨neg,rfl⟩:=isBool_of_trod (w:=w) Tryz.underlying4 _ _ _ h0
 obtain⟨a,l,cap,rfl,hl⟩:=slOf_of_trod (R:=IsInt) Tryz.underlying34 (by kernel_rfl) (fun n u y h=>isInt_of_trod Tryz.underlying3 n u y h) h1
 exact⟨neg,a,cap,l,rfl,rfl,hl⟩
theorem open_rat {v:Value} {d:DataW H} {p:List MemPlace} {r:Reach} {b0:Nat} (hv:Value.okWide Tryz.prog w r b0 38 v) (h:DataW.Trod enc Tryz.prog w base (fun _=>true) true 38 v d p):
 ∃x:RatA,v=x.val∧RatI w x:=by
 obtain⟨cs,rfl,hsz⟩:=okWide_struct Tryz.underlying38 hv
 obtain⟨c0,c1,c2,c3,rfl⟩:=array4 (hsz.trans (by kernel_rfl))
 obtain⟨fuel,hf⟩:=h
 obtain⟨y0,y1,n,hx,_,h0,h1⟩:=trod_struct2 Tryz.underlying38 hf
 rw [show Tryz.prog.cellsOf 36=2 by kernel_rfl] at h0 h1
 obtain⟨n1,a,ca,l,rfl,rfl,hi⟩:=big_trod (u:=c0) (v:=c1) h0
 obtain⟨n2,b,cb,m,rfl,rfl,hj⟩:=big_trod (u:=c2) (v:=c3) h1
 exact⟨⟨n1,a,ca,l,n2,b,cb,m⟩,rfl,hi,hj⟩
theorem add_none {a:Addr} {n:Nat} (h:a.spot=none):a.add n= ⟨a.block,a.off+n,none⟩:=by
 obtain⟨b,o,s⟩:=a
 simp only at h
 subst h
 unfold Addr.add
 split <;> simp_all
theorem add_zeroM (x:Addr):x.add 0=x:=by
 obtain⟨b,o,s⟩:=x
 unfold Addr.add
 split <;> simp_all
instance:Inhabited RatA:=⟨⟨false,none,0,[],false,none,0,[]⟩⟩
theorem open_rats {v:Value} {d:DataW H} {p:List MemPlace} {r:Reach} {b0:Nat} (hv:Value.okWide Tryz.prog w r b0 23 v) (h:DataW.Trod enc Tryz.prog w base (fun _=>true) true 23 v d p):
 ∃ (a:Option Addr) (cap:Nat) (L:List RatA),v=.slice a L.length cap∧RatsI w a cap L:=by
 obtain⟨a0,n0,c0,rfl⟩:=okWide_slice Tryz.underlying23 hv
 obtain⟨fuel,hf⟩:=h
 rcases open_slice Tryz.underlying23 hf with⟨hcs,_⟩ | ⟨a,len,cap,m,n,D,Pl,hcs,hb,hl,hm,hmm,_,hx⟩
 ·replace hcs:[Value.slice a0 n0 c0]=[.slice none 0 0]:=hcs
  simp only [List.cons.injEq,and_true] at hcs
  rw [hcs]
  exact⟨none,0,[],rfl,⟨Nat.le_refl _,by omega,fun _=>rfl,(fun A hA=>by cases hA),fun i h=>absurd h (by simp)⟩⟩
 ·replace hcs:[Value.slice a0 n0 c0]=[.slice (some a) len cap]:=hcs
  simp only [List.cons.injEq,and_true] at hcs
  rw [hcs]
  simp only [if_true] at hmm
  rw [show Tryz.prog.cellsOf 38=4 by kernel_rfl] at hx
  have one:∀i,i<m→∃x:RatA,w.cell? (a.add (i*4))=some (.bool x.n)∧w.cell? ((a.add (i*4)).add 1)=some (.slice x.a x.l.length x.c)∧w.cell? ((a.add (i*4)).add 2)=some (.bool x.n2)∧w.cell? ((a.add (i*4)).add 3)=some (.slice x.b x.m.length x.d)∧RatI w x:=fun i hi=>by
   obtain⟨cs',h1,h2⟩:=hx i hi
   obtain⟨_,hlen,hc⟩:=World.cells?_some h1
   match cs',hlen with
   | [c0,c1,c2,c3],_=>
    obtain⟨y0,y1,k,hxx,_,h0,h1⟩:=trod_struct2 Tryz.underlying38 h2
    rw [show Tryz.prog.cellsOf 36=2 by kernel_rfl] at h0 h1
    obtain⟨n1,a1,ca,l1,rfl,rfl,hi1⟩:=big_trod (u:=c0) (v:=c1) h0
    obtain⟨n2,b1,cb,l2,rfl,rfl,hj1⟩:=big_trod (u:=c2) (v:=c3) h1
    refine⟨⟨n1,a1,ca,l1,n2,b1,cb,l2⟩,?_,hc 1 (by omega),hc 2 (by omega),hc 3 (by omega),hi1,hj1⟩
    have e:=hc 0 (by omega)
    rw [add_zeroM] at e
    exact e
  obtain⟨f,hf⟩:=choose_lt one
  refine⟨some a,cap,(List.range len).map f,by simp,⟨by simpa using hl,by unfold maxLen at hm;omega,fun h=>by(cases h),fun A hA i hi=>?_,fun i hi=>?_⟩⟩
  ·cases hA
   simp only [List.length_map,List.length_range] at hi
   have hs:a.spot=none:=by
    have:=World.cell?_spot (hf 0 (by omega)).1
    unfold Addr.add at this
    simpa using this
   obtain⟨h0,h1,h2,h3,_⟩:=hf i (by omega)
   rw [add_none hs] at h0 h1 h2 h3
   rw [add_none rfl] at h1 h2 h3
   simp only [List.getElem_map,List.getElem_range]
   exact⟨hs,h0,h1,h2,h3⟩
  ·simp only [List.length_map,List.length_range] at hi
   simp only [List.getElem_map,List.getElem_range]
   exact(hf i (by omega)).2.2.2.2
end
end Go.Proofs.YtolffmmkjnhkkaaGreat
