/- SeverityExact: the Go law returns true at every input, and its arguments read as before. -/
import Derived.Test.YtonkhcdmchidjaaGreatZI
import Derived.Lib.SmallJoins
import Derived.Test.YtonkhcdmchidjaaGreatZG
import Derived.Test.YtonkhcdmchidjaaGreatRows
namespace Go.Proofs.YtonkhcdmchidjaaGreat
open Go.RowKit Go Go.Deep Go.WideShapes Go.ChangeShapes
set_option maxRecDepth 100000
section
variable {H:Type} {enc:TypeId × Value→H} {P:Program} {w:World} {base:Nat} {held:Bool}
theorem zEw {α:Type} [Inhabited α] {R:World→Value→α→Prop} {t e:TypeId} {fuel:Nat} {v:Value} {x:DataW H × List MemPlace} (ht:P.underlying t=some (.slice e)) (hc:P.cellsOf e=1)
 (hR:∀n u y,DataW.trod enc P w base (fun _=>true) held n e [u]=some y→∃z,R w u z) (h:DataW.trod enc P w base (fun _=>true) held fuel t [v]=some x):
 ∃a l cap,v=.slice a (List.length l) cap∧SlOf R w a cap l:=by
 rcases open_slice1 ht hc h with⟨hcs,_⟩ | ⟨a,len,cap,m,n,V,D,Pl,hcs,hb,hl,hm,hmm,_,hx⟩
 ·simp only [List.cons.injEq,and_true] at hcs;subst hcs;exact⟨none,[],0,rfl,⟨Nat.le_refl _,by omega,fun _=>rfl,fun A hA=>by cases hA⟩⟩
 ·simp only [List.cons.injEq,and_true] at hcs;subst hcs;simp only [if_true] at hmm;obtain⟨f,hf⟩:=choose_lt (α:=α) (n:=m) (p:=fun i z=>R w (V i) z) (fun i hi=>hR n (V i) _ (hx i hi).2);refine⟨some a,(List.range len).map f,cap,by simp,⟨by simpa using hl,by unfold maxLen at hm;omega,fun h=>by(cases h),fun A hA i hi=>?_⟩⟩;cases hA
  simp only [List.length_map,List.length_range] at hi;have hc0:=(hx i (by omega)).1;have hs:a.spot=none:=by
   have:=World.cell?_spot (hx 0 (by omega)).1;unfold Addr.add at this
   simpa using this
  refine⟨hs,V i,?_,by simpa using hf i (by omega)⟩;obtain⟨b,o,s⟩:=a;simp only at hs;subst hs;rw [←hc0]
  congr 1
  unfold Addr.add
  split <;> simp_all
theorem zFH {t:TypeId} (ht:P.underlying t=some .bool) (n:Nat) (u:Value) (y:DataW H × List MemPlace) (h:DataW.trod enc P w base (fun _=>true) held n t [u]=some y):∃z,zEQ w u z:=by
 obtain⟨b,h1,_⟩:=DataW.trod_bool ht h;simp only [List.cons.injEq,and_true] at h1;exact⟨b,h1⟩
open Go.Joins
theorem zIo {v:Value} {d:DataW H} {p:List MemPlace} {r:Reach} {b0:Nat} (hv:Value.okWide Tryz.prog w r b0 52 v) (h:DataW.Trod enc Tryz.prog w base (fun _=>true) held 52 v d p):
 ∃ (a:Option Addr) (cap:Nat) (l:List Bool),v=.slice a l.length cap∧Bools w a cap l:=by
 obtain⟨a0,n0,c0,rfl⟩:=okWide_slice Tryz.underlying52 hv;obtain⟨fuel,hf⟩:=h;obtain⟨a,l,cap,e,hl⟩:=zEw (R:=zEQ) Tryz.underlying52 (by kernel_rfl) (fun n u y h=>zFH Tryz.underlying4 n u y h) hf;exact⟨a,cap,l,e,hl⟩
theorem zHK {t:TypeId} (ht:P.underlying t=some (.int .u8)) (n:Nat) (u:Value) (y:DataW H × List MemPlace) (h:DataW.trod enc P w base (fun _=>true) held n t [u]=some y):∃z,zMo w u z:=by
 obtain⟨x,h1,_,hw⟩:=DataW.trod_int ht h;simp only [List.cons.injEq,and_true] at h1;refine⟨x,h1,?_⟩;have:=bounds_u8 hw;exact⟨this.1,this.2⟩
theorem zJ2 {v:Value} {d:DataW H} {p:List MemPlace} {r:Reach} {b0:Nat} (hv:Value.okWide Tryz.prog w r b0 51 v) (h:DataW.Trod enc Tryz.prog w base (fun _=>true) held 51 v d p):
 ∃ (a:Option Addr) (cap:Nat) (l:List Int),v=.slice a l.length cap∧SlOf zMo w a cap l:=by
 obtain⟨a0,n0,c0,rfl⟩:=okWide_slice Tryz.underlying51 hv;obtain⟨fuel,hf⟩:=h;obtain⟨a,l,cap,e,hl⟩:=zEw (R:=zMo) Tryz.underlying51 (by kernel_rfl) (fun n u y h=>zHK Tryz.underlying5 n u y h) hf;exact⟨a,cap,l,e,hl⟩
end
end Go.Proofs.YtonkhcdmchidjaaGreat
namespace Go.Proofs.YtonkhcdmchidjaaGreat
open Go.RowKit Go BigFrame Go.Shelf
set_option maxRecDepth 100000
theorem zOY:zP2:=fun w=>zJJ w
theorem zIp (aa:Option Addr) (ca:Nat) (A:List Int) (ab:Option Addr) (cb:Nat) (B:List Int) (am:Option Addr) (cm:Nat) (ms:List Bool) (w:World) (hA:SlOf zMo w aa ca A) (hB:SlOf zMo w ab cb B) (hM:Bools w am cm ms):Calls Tryz.prog 5 #[.slice aa A.length ca,.slice ab B.length cb,.slice am ms.length cm] w fun e w'=>e=.returned (.bool true)∧Ext w w':=zHM zOY aa ca A ab cb B am cm ms w hA hB hM
end Go.Proofs.YtonkhcdmchidjaaGreat
namespace Go.Proofs.YtonkhcdmchidjaaGreat
open Go.ChangeShapes Go.WideShapes Go.ChangeAt Go.RowKit
set_option linter.all false
set_option maxRecDepth 100000
theorem ownSeverityExact:ownKnob Tryz.prog.godebug=none:=by kernel_rfl
theorem laidOutSeverityExact:laidOutB Tryz.prog=true:=by kernel_rfl
theorem liftedSeverityExact (os:Os) (started:os.Started) (H:Type) (enc:TypeId × Value→H):
 ReturnsInHanded {} Tryz.checked os 5 .any (Rows.severityExactSpec.pre6 enc Tryz.prog Tryz.f5 Rows.severityExactRow.domain false) (Rows.severityExactSpec.post enc Tryz.prog Tryz.f5 false true false false):=by
 refine returnsInHanded_of_change (C:=Tryz.checked) ownSeverityExact started (by kernel_rfl) Tryz.func5
  (ChangeSpec.witness6 (enc:=enc) (C:=Tryz.checked) false ⟨#[],#[.slice none 0 0,.slice none 0 0,.slice none 0 0],[]⟩ 8 (by kernel_rfl) (by kernel_rfl) (by kernel_rfl) (by kernel_rfl)) ?_
 intro W base args ds gs before hval0 hW hcnd _;have hval:∀ (j:Nat) t v,Tryz.f5.params[j]? =some t→args[j]? =some v→Value.okWide Tryz.prog W .any base t v:=hval0;have hW':=hW;obtain⟨p,q,hA0,hV,rfl,hfz,hnd⟩:=hW;have hA:DataW.TrodAll enc Tryz.prog W 0 (fun _=>true) true Tryz.f5.params.toList args.toList ds p:=hA0;rw [Tryz.params5] at hA hval;obtain⟨v0,vs0,d0,ds0,p0,q0,hargs,rfl,rfl,h0,r0⟩:=trodAll_cons hA;obtain⟨v1,vs1,d1,ds1,p1,q1,rfl,rfl,rfl,h1,r1⟩:=trodAll_cons r0;obtain⟨v2,vs2,d2,ds2,p2,q2,rfl,rfl,rfl,h2,r2⟩:=trodAll_cons r1;obtain⟨rfl,rfl,rfl⟩:=trodAll_nil r2;obtain rfl:args= #[v0,v1,v2]:=by cases args;simp_all
 obtain⟨rfl,rfl⟩:=trodVars_none hV;have k0:=h0;have lt0:∀x∈p0,x.block<W.heap.size:=by obtain⟨m,hm⟩:=k0;exact DataW.trod_lt m _ _ _ hm
 have k1:=h1;have lt1:∀x∈p1,x.block<W.heap.size:=by obtain⟨m,hm⟩:=k1;exact DataW.trod_lt m _ _ _ hm
 have k2:=h2;have lt2:∀x∈p2,x.block<W.heap.size:=by obtain⟨m,hm⟩:=k2;exact DataW.trod_lt m _ _ _ hm
 obtain⟨a0,cap0,l0,rfl,w0⟩:=zJ2 (hval 0 51 v0 rfl rfl) h0;obtain⟨a1,cap1,l1,rfl,w1⟩:=zJ2 (hval 1 51 v1 rfl rfl) h1;obtain⟨a2,cap2,l2,rfl,w2⟩:=zIo (hval 2 52 v2 rfl rfl) h2;clear hA0 hval0;refine(zIp a0 cap0 l0 a1 cap1 l1 a2 cap2 l2 W w0 w1 w2).mono fun e W' ⟨he,bel⟩=>?_;subst he;exact⟨_,rfl,_,_,_,[],_,[],hW',trodAll_mk1 (shut_bool Tryz.underlying4 _),(trodAll_cons_mk (Below.trod laidOutSeverityExact (by kernel_rfl) (of_decide_eq_true (by kernel_rfl)) k0 bel lt0) (trodAll_cons_mk (Below.trod laidOutSeverityExact (by kernel_rfl) (of_decide_eq_true (by kernel_rfl)) k1 bel lt1) (trodAll_cons_mk (Below.trod laidOutSeverityExact (by kernel_rfl) (of_decide_eq_true (by kernel_rfl)) k2 bel lt2) trodAll_mk0))),rfl,bel.frame _,fun h=>by cases h⟩
theorem severityExact_holds:Rows.SeverityExactSaid:=
 OpenClaim.holds_of_wide 5 Tryz.f5 rfl rfl rfl rfl rfl rfl rfl ⟨rfl,rfl,rfl,rfl,rfl⟩ rfl rfl rfl rfl rfl (by kernel_rfl) Tryz.func5 (by kernel_rfl)
  (of_decide_eq_true (by kernel_rfl)) (by unfold Func.isWrapper;rw [if_neg (of_decide_eq_false (by kernel_rfl))];exact⟨rfl,rfl⟩)
  (fun os started H enc _=>liftedSeverityExact os started H enc)
#print axioms severityExact_holds
end Go.Proofs.YtonkhcdmchidjaaGreat
