/- SeverityOrder: the Go law returns true at every input, and its arguments read as before. -/
import Derived.Lib.SmallJoins
import Derived.Test.YtonkhcdmchidjaaGreatRows
import Derived.Test.YtonkhcdmchidjaaGreatZN
namespace Go.Proofs.YtonkhcdmchidjaaGreat
open Go.RowKit Go Go.Deep Go.WideShapes Go.ChangeShapes
set_option maxRecDepth 100000
section
variable {H:Type} {enc:TypeId × Value→H} {P:Program} {w:World} {base:Nat} {held:Bool}
theorem zEb {α:Type} [Inhabited α] {R:World→Value→α→Prop} {t e:TypeId} {fuel:Nat} {v:Value} {x:DataW H × List MemPlace} (ht:P.underlying t=some (.slice e)) (hc:P.cellsOf e=1)
 (hR:∀n u y,DataW.trod enc P w base (fun _=>true) held n e [u]=some y→∃z,R w u z) (h:DataW.trod enc P w base (fun _=>true) held fuel t [v]=some x):
 ∃a l cap,v=.slice a (List.length l) cap∧SlOf R w a cap l:=by
 rcases open_slice1 ht hc h with⟨hcs,_⟩ | ⟨a,len,cap,m,n,V,D,Pl,hcs,hb,hl,hm,hmm,_,hx⟩
 ·simp only [List.cons.injEq,and_true] at hcs;subst hcs;exact⟨none,[],0,rfl,⟨Nat.le_refl _,by omega,fun _=>rfl,fun A hA=>by cases hA⟩⟩
 ·simp only [List.cons.injEq,and_true] at hcs;subst hcs;simp only [if_true] at hmm;obtain⟨f,hf⟩:=choose_lt (α:=α) (n:=m) (p:=fun i z=>R w (V i) z) (fun i hi=>hR n (V i) _ (hx i hi).2);refine⟨some a,(List.range len).map f,cap,by simp,⟨by simpa using hl,by unfold maxLen at hm;omega,fun h=>by(cases h),fun A hA i hi=>?_⟩⟩;cases hA
  simp only [List.length_map,List.length_range] at hi;have hc0:=(hx i (by omega)).1;have hs:a.spot=none:=by
   have:=World.cell?_spot (hx 0 (by omega)).1;unfold Addr.add at this
   simpa using this
  refine⟨hs,V i,?_,by simpa using hf i (by omega)⟩;obtain⟨b,o,s⟩:=a;simp only at hs;subst hs;rw [←hc0]
  congr 1
  unfold Addr.add
  split <;> simp_all
theorem zGt {t:TypeId} (ht:P.underlying t=some (.int .i64)) (n:Nat) (u:Value) (y:DataW H × List MemPlace) (h:DataW.trod enc P w base (fun _=>true) held n t [u]=some y):∃z,zMy w u z:=by
 obtain⟨x,h1,_,hw⟩:=DataW.trod_int ht h;simp only [List.cons.injEq,and_true] at h1;refine⟨x,h1,?_⟩;have:=bounds_i64 hw;exact⟨this.1,this.2⟩
theorem zFn {t e:TypeId} (ht:P.underlying t=some (.slice e)) (he:P.underlying e=some (.int .i64)) (hc:P.cellsOf e=1) (n:Nat) (u:Value) (y:DataW H × List MemPlace)
 (h:DataW.trod enc P w base (fun _=>true) held n t [u]=some y):∃z,zFp w u z:=by
 obtain⟨a,l,cap,h1,h2⟩:=zEb (R:=zMy) ht hc (fun n u y h=>zGt he n u y h) h;exact⟨l,a,cap,h1,h2⟩
open Go.Joins
theorem zKE {v:Value} {d:DataW H} {p:List MemPlace} {r:Reach} {b0:Nat} (hv:Value.okWide Tryz.prog w r b0 22 v) (h:DataW.Trod enc Tryz.prog w base (fun _=>true) held 22 v d p):
 ∃ (a:Option Addr) (cap:Nat) (l:List (List Int)),v=.slice a l.length cap∧Rows w a cap l:=by
 obtain⟨a0,n0,c0,rfl⟩:=okWide_slice Tryz.underlying22 hv;obtain⟨fuel,hf⟩:=h;obtain⟨a,l,cap,e,hl⟩:=zEb (R:=zFp) Tryz.underlying22 (by kernel_rfl) (fun n u y h=>zFn Tryz.underlying34 Tryz.underlying3 (by kernel_rfl) n u y h) hf;exact⟨a,cap,l,e,hl⟩
theorem zKF {v:Value} {d:DataW H} {p:List MemPlace} {r:Reach} {b0:Nat} (hv:Value.okWide Tryz.prog w r b0 5 v) (h:DataW.Trod enc Tryz.prog w base (fun _=>true) held 5 v d p):
 ∃n:Int,v=.int .u8 n∧0≤n∧n≤255:=by
 obtain⟨a,rfl,_,_,hw⟩:=open_int Tryz.underlying5 hv h;exact⟨a,rfl,bounds_u8 hw⟩
end
end Go.Proofs.YtonkhcdmchidjaaGreat
namespace Go.Proofs.YtonkhcdmchidjaaGreat
open Go.ChangeShapes Go.WideShapes Go.ChangeAt Go.RowKit
set_option linter.all false
set_option maxRecDepth 100000
theorem ownSeverityOrder:ownKnob Tryz.prog.godebug=none:=by kernel_rfl
theorem laidOutSeverityOrder:laidOutB Tryz.prog=true:=by kernel_rfl
theorem liftedSeverityOrder (os:Os) (started:os.Started) (H:Type) (enc:TypeId × Value→H):
 ReturnsInHanded {} Tryz.checked os 6 .any (Rows.severityOrderSpec.pre6 enc Tryz.prog Tryz.f6 Rows.severityOrderRow.domain false) (Rows.severityOrderSpec.post enc Tryz.prog Tryz.f6 false true false false):=by
 refine returnsInHanded_of_change (C:=Tryz.checked) ownSeverityOrder started (by kernel_rfl) Tryz.func6
  (ChangeSpec.witness6 (enc:=enc) (C:=Tryz.checked) false ⟨#[],#[.slice none 0 0,.int .u8 0,.int .u8 0],[]⟩ 8 (by kernel_rfl) (by kernel_rfl) (by kernel_rfl) (by kernel_rfl)) ?_
 intro W base args ds gs before hval0 hW hcnd _;have hval:∀ (j:Nat) t v,Tryz.f6.params[j]? =some t→args[j]? =some v→Value.okWide Tryz.prog W .any base t v:=hval0;have hW':=hW;obtain⟨p,q,hA0,hV,rfl,hfz,hnd⟩:=hW;have hA:DataW.TrodAll enc Tryz.prog W 0 (fun _=>true) true Tryz.f6.params.toList args.toList ds p:=hA0;rw [Tryz.params6] at hA hval;obtain⟨v0,vs0,d0,ds0,p0,q0,hargs,rfl,rfl,h0,r0⟩:=trodAll_cons hA;obtain⟨v1,vs1,d1,ds1,p1,q1,rfl,rfl,rfl,h1,r1⟩:=trodAll_cons r0;obtain⟨v2,vs2,d2,ds2,p2,q2,rfl,rfl,rfl,h2,r2⟩:=trodAll_cons r1;obtain⟨rfl,rfl,rfl⟩:=trodAll_nil r2;obtain rfl:args= #[v0,v1,v2]:=by cases args;simp_all
 obtain⟨rfl,rfl⟩:=trodVars_none hV;have k0:=h0;have lt0:∀x∈p0,x.block<W.heap.size:=by obtain⟨m,hm⟩:=k0;exact DataW.trod_lt m _ _ _ hm
 have k1:=h1;have lt1:∀x∈p1,x.block<W.heap.size:=by obtain⟨m,hm⟩:=k1;exact DataW.trod_lt m _ _ _ hm
 have k2:=h2;have lt2:∀x∈p2,x.block<W.heap.size:=by obtain⟨m,hm⟩:=k2;exact DataW.trod_lt m _ _ _ hm
 obtain⟨a0,cap0,l0,rfl,w0⟩:=zKE (hval 0 22 v0 rfl rfl) h0;obtain⟨n1,rfl,w1⟩:=zKF (hval 1 5 v1 rfl rfl) h1;obtain⟨n2,rfl,w2⟩:=zKF (hval 2 5 v2 rfl rfl) h2;clear hA0 hval0;refine(zHv a0 cap0 l0 n1 n2 W w0 w1 w2).mono fun e W' ⟨he,bel⟩=>?_;subst he;exact⟨_,rfl,_,_,_,[],_,[],hW',trodAll_mk1 (shut_bool Tryz.underlying4 _),(trodAll_cons_mk (Below.trod laidOutSeverityOrder (by kernel_rfl) (of_decide_eq_true (by kernel_rfl)) k0 bel lt0) (trodAll_cons_mk (Below.trod laidOutSeverityOrder (by kernel_rfl) (of_decide_eq_true (by kernel_rfl)) k1 bel lt1) (trodAll_cons_mk (Below.trod laidOutSeverityOrder (by kernel_rfl) (of_decide_eq_true (by kernel_rfl)) k2 bel lt2) trodAll_mk0))),rfl,bel.frame _,fun h=>by cases h⟩
theorem severityOrder_holds:Rows.SeverityOrderSaid:=
 OpenClaim.holds_of_wide 6 Tryz.f6 rfl rfl rfl rfl rfl rfl rfl ⟨rfl,rfl,rfl,rfl,rfl⟩ rfl rfl rfl rfl rfl (by kernel_rfl) Tryz.func6 (by kernel_rfl)
  (of_decide_eq_true (by kernel_rfl)) (by unfold Func.isWrapper;rw [if_neg (of_decide_eq_false (by kernel_rfl))];exact⟨rfl,rfl⟩)
  (fun os started H enc _=>liftedSeverityOrder os started H enc)
#print axioms severityOrder_holds
end Go.Proofs.YtonkhcdmchidjaaGreat
