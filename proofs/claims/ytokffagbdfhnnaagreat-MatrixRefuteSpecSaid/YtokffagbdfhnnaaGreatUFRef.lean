/- MatrixRefuteSpec: the Go law returns true at every input, and its arguments read as before. -/
import Derived.Test.YtokffagbdfhnnaaGreatRows
import Derived.Test.YtokffagbdfhnnaaGreatUOpen
import Derived.Test.YtokffagbdfhnnaaGreatUX5
import Derived.Test.YtokffagbdfhnnaaGreatUS
import Derived.Test.YtokffagbdfhnnaaGreatUP
import Derived.OwnWalk
import Derived.Deep.QuietTactic
import Derived.Deep.Cut
import Derived.ShutString
import Derived.ChangeOld
import Derived.Below
namespace Go.Proofs.YtokffagbdfhnnaaGreat
open Go.RowKit Go BigFrame Go.Shelf
set_option maxRecDepth 100000
set_option linter.unusedSimpArgs false
set_option linter.unusedVariables false
attribute [local go_sem] Oper.semAt_some
theorem fewL_len {L:List RatA} (h:fewL L=true):L.length≤1000:=by
 unfold fewL lenF at h
 simp only [Bool.or_eq_true,Bool.and_eq_true,decide_eq_true_eq] at h
 omega
theorem same_refl (n:Nat) (f:Nat→Rat):sameF n n f f=true:=sameF_iff.2 ⟨rfl,fun _ _=>rfl⟩
set_option maxHeartbeats 8000000 in
theorem law11_MatrixRefuteSpec (a:Option Addr) (cap:Nat) (A:List (List RatA)) (s:Option Addr) (sc:Nat) (L:List RatA) (b:Option Addr) (bc:Nat) (X:List RatA) (w:World) (h:RRows w a cap A) (k:RatsI w s sc L) (l:RatsI w b bc X):
 Calls Tryz.prog 4 #[.slice a A.length cap,.slice s L.length sc,.slice b X.length bc] w fun e w'=>e=.returned (.bool true)∧Ext w w':=by
 have hle:=h.le
 have hmx:=h.mx
 have sle0:=k.le
 have smx0:=k.mx
 have sle1:=l.le
 have smx1:=l.mx
 have HH:=Lib.hid h
 have Hk:=Lib.hid k
 have Hl:=Lib.hid l
 clear h k l
 go_enter Tryz.func4,Tryz.ntmps4
 go_wp2_with fail
 refine(law11_sane _).mono ?_
 rintro e x1 ⟨rfl,hy⟩
 have HX:=Lib.hid hy
 clear hy
 go_wp2_with fail
 refine(few_Mat a cap A _ (RRows.ext HX.out HH.out)).mono ?_
 rintro e x2 ⟨rfl,hy⟩
 replace HX:=Lib.hid (HX.out.trans hy)
 clear hy
 cases hfa:fewA A with
 | false=>
  go_wp2_with fail
  go_ret
  exact⟨rfl,HX.out⟩
 | true=>
 go_wp2_with fail
 refine(few_List s sc L _ (Hk.out.ext HX.out)).mono ?_
 rintro e x3 ⟨rfl,hy⟩
 replace HX:=Lib.hid (HX.out.trans hy)
 clear hy
 cases hf0:fewL L with
 | false=>
  go_wp2_with fail
  go_ret
  exact⟨rfl,HX.out⟩
 | true=>
 have HL0:=Lib.hid (fewL_len hf0)
 clear hf0
 go_wp2_with fail
 refine(few_List b bc X _ (Hl.out.ext HX.out)).mono ?_
 rintro e x3 ⟨rfl,hy⟩
 replace HX:=Lib.hid (HX.out.trans hy)
 clear hy
 cases hf1:fewL X with
 | false=>
  go_wp2_with fail
  go_ret
  exact⟨rfl,HX.out⟩
 | true=>
 have HL1:=Lib.hid (fewL_len hf1)
 clear hf1
 have HFT:Hid (vecE A L A.length=0→FewT A):=Lib.hid fun e=>few_T (few_dim hfa (vecE_0 e).1).1 (few_dim hfa (vecE_0 e).1).2
 clear hfa
 go_wp2_with fail
 refine(matrix_Apply a cap A b bc X _ (RRows.ext HX.out HH.out) (Hl.out.ext HX.out) HL1.out).mono ?_
 rintro e x4 ⟨b1,cb1,V1,rfl,hr1,hy⟩
 replace HX:=Lib.hid (HX.out.trans hy)
 have HR1:=Lib.hid hr1
 clear hy hr1
 go_wp2_with fail
 refine(ref_Apply a cap A b bc X _ (RRows.ext HX.out HH.out) (Hl.out.ext HX.out) HL1.out).mono ?_
 rintro e x5 ⟨b2,cb2,V2,rfl,hr2,hy⟩
 replace HX:=Lib.hid (HX.out.trans hy)
 replace HR1:=Lib.hid (HR1.out.ext hy)
 have HR2:=Lib.hid hr2
 clear hy hr2
 generalize appN A X=N1 at *
 generalize appF A X=F1 at *
 generalize vecE A X (widA A)=ve1 at *
 go_wp2_with fail
 refine(matrix_Refute a cap A s sc L _ (RRows.ext HX.out HH.out) (Hk.out.ext HX.out) HL0.out HFT.out).mono ?_
 rintro e x6 ⟨b3,cb3,V3,rfl,hr3,hy⟩
 replace HX:=Lib.hid (HX.out.trans hy)
 replace HR1:=Lib.hid (HR1.out.ext hy)
 replace HR2:=Lib.hid (HR2.out.ext hy)
 have HR3:=Lib.hid hr3
 clear hy hr3
 go_wp2_with fail
 refine(ref_Refute a cap A s sc L _ (RRows.ext HX.out HH.out) (Hk.out.ext HX.out) HL0.out HFT.out).mono ?_
 rintro e x7 ⟨b4,cb4,V4,rfl,hr4,hy⟩
 replace HX:=Lib.hid (HX.out.trans hy)
 replace HR1:=Lib.hid (HR1.out.ext hy)
 replace HR2:=Lib.hid (HR2.out.ext hy)
 replace HR3:=Lib.hid (HR3.out.ext hy)
 have HR4:=Lib.hid hr4
 clear hy hr4 HFT
 generalize refN A L=N at *
 generalize refF A L=F at *
 generalize refOk A L=ok at *
 generalize vecE A L A.length=ve at *
 have d1:(ve1 == ve1)=true:=by simp
 have d2:(ve == ve)=true:=by simp
 have d4:(ok == ok)=true:=by simp
 go_wp2_with fail
 refine(ref_Same11 b1 cb1 N1 V1 F1 b2 cb2 N1 V2 F1 _ HR1.out HR2.out).mono ?_
 rw [same_refl]
 rintro e x8 ⟨rfl,hy⟩
 replace HX:=Lib.hid (HX.out.trans hy)
 replace HR3:=Lib.hid (HR3.out.ext hy)
 replace HR4:=Lib.hid (HR4.out.ext hy)
 clear hy
 go_wp2_with fail
 refine(ref_Same11 b3 cb3 N V3 F b4 cb4 N V4 F _ HR3.out HR4.out).mono ?_
 rw [same_refl]
 rintro e x9 ⟨rfl,hy⟩
 replace HX:=Lib.hid (HX.out.trans hy)
 clear hy
 go_wp2_with fail
 go_ret
 exact⟨rfl,HX.out⟩
end Go.Proofs.YtokffagbdfhnnaaGreat
namespace Go.Proofs.YtokffagbdfhnnaaGreat
open Go.ChangeShapes Go.WideShapes Go.ChangeAt Go.RowKit
set_option linter.unusedVariables false
set_option maxRecDepth 100000
theorem ownMatrixRefuteSpec:ownKnob Tryz.prog.godebug=none:=by kernel_rfl
theorem laidOutMatrixRefuteSpec:laidOutB Tryz.prog=true:=by kernel_rfl
theorem liftedMatrixRefuteSpec (os:Os) (started:os.Started) (H:Type) (enc:TypeId × Value→H):
 ReturnsInHanded {} Tryz.checked os 4 .any (Rows.matrixRefuteSpecSpec.pre6 enc Tryz.prog Tryz.f4 Rows.matrixRefuteSpecRow.domain false) (Rows.matrixRefuteSpecSpec.post enc Tryz.prog Tryz.f4 false true false false):=by
 refine returnsInHanded_of_change (C:=Tryz.checked) ownMatrixRefuteSpec started (by kernel_rfl) Tryz.func4
  (ChangeSpec.witness6 (enc:=enc) (C:=Tryz.checked) false ⟨#[],#[.slice none 0 0,.slice none 0 0,.slice none 0 0],[]⟩ 8 (by kernel_rfl) (by kernel_rfl) (by kernel_rfl) (by kernel_rfl)) ?_
 intro W base args ds gs before hval0 hW hcnd _
 have hval:∀ (j:Nat) t v,Tryz.f4.params[j]? =some t→args[j]? =some v→Value.okWide Tryz.prog W .any base t v:=hval0
 have hW':=hW
 obtain⟨p,q,hA0,hV,rfl,hfz,hnd⟩:=hW
 have hA:DataW.TrodAll enc Tryz.prog W 0 (fun _=>true) true Tryz.f4.params.toList args.toList ds p:=hA0
 rw [Tryz.params4] at hA hval
 obtain⟨v0,vs0,d0,ds0,p0,q0,hargs,rfl,rfl,h0,r0⟩:=trodAll_cons hA
 obtain⟨v1,vs1,d1,ds1,p1,q1,rfl,rfl,rfl,h1,r1⟩:=trodAll_cons r0
 obtain⟨v2,vs2,d2,ds2,p2,q2,rfl,rfl,rfl,h2,r2⟩:=trodAll_cons r1
 obtain⟨rfl,rfl,rfl⟩:=trodAll_nil r2
 obtain rfl:args= #[v0,v1,v2]:=by cases args;simp_all
 obtain⟨rfl,rfl⟩:=trodVars_none hV
 have k0:=h0
 have lt0:∀x∈p0,x.block<W.heap.size:=by obtain⟨m,hm⟩:=k0;exact DataW.trod_lt m _ _ _ hm
 have k1:=h1
 have lt1:∀x∈p1,x.block<W.heap.size:=by obtain⟨m,hm⟩:=k1;exact DataW.trod_lt m _ _ _ hm
 have k2:=h2
 have lt2:∀x∈p2,x.block<W.heap.size:=by obtain⟨m,hm⟩:=k2;exact DataW.trod_lt m _ _ _ hm
 obtain⟨a0,cap0,l0,rfl,w0⟩:=open_ratrows (hval 0 22 v0 rfl rfl) h0
 obtain⟨a1,cap1,l1,rfl,w1⟩:=open_rats (hval 1 23 v1 rfl rfl) h1
 obtain⟨a2,cap2,l2,rfl,w2⟩:=open_rats (hval 2 23 v2 rfl rfl) h2
 clear hA0 hval0
 refine(law11_MatrixRefuteSpec a0 cap0 l0 a1 cap1 l1 a2 cap2 l2 W w0 w1 w2).mono fun e W' ⟨he,bel⟩=>?_
 subst he
 exact⟨_,rfl,_,_,_,[],_,[],hW',trodAll_mk1 (shut_bool Tryz.underlying4 _),(trodAll_cons_mk (Below.trod laidOutMatrixRefuteSpec (by kernel_rfl) (of_decide_eq_true (by kernel_rfl)) k0 bel lt0) (trodAll_cons_mk (Below.trod laidOutMatrixRefuteSpec (by kernel_rfl) (of_decide_eq_true (by kernel_rfl)) k1 bel lt1) (trodAll_cons_mk (Below.trod laidOutMatrixRefuteSpec (by kernel_rfl) (of_decide_eq_true (by kernel_rfl)) k2 bel lt2) trodAll_mk0))),rfl,bel.frame _,fun h=>by cases h⟩
theorem matrixRefuteSpec_holds:Rows.MatrixRefuteSpecSaid:=
 OpenClaim.holds_of_wide 4 Tryz.f4 rfl rfl rfl rfl rfl rfl rfl ⟨rfl,rfl,rfl,rfl,rfl⟩ rfl rfl rfl rfl rfl (by kernel_rfl) Tryz.func4 (by kernel_rfl)
  (of_decide_eq_true (by kernel_rfl)) (by unfold Func.isWrapper;rw [if_neg (of_decide_eq_false (by kernel_rfl))];exact⟨rfl,rfl⟩)
  (fun os started H enc _=>liftedMatrixRefuteSpec os started H enc)
#print axioms matrixRefuteSpec_holds
end Go.Proofs.YtokffagbdfhnnaaGreat
