import Derived.Test.YtonkhcdmchidjaaGreatBase
import Derived.Deep.RegionHeld
namespace Go.Proofs.YtonkhcdmchidjaaGreat
open Go.RowKit Go
set_option linter.all false
def bitR:List Bool→Nat→Bool
 | [],_=>true
 | b :: _,0=>b
 | _ :: l,n+1=>bitR l n
def nxR:List Nat→List Bool→Option Nat
 | [],_=>none
 | i :: L,l=>match bitR l i with
  | true=>nxR L l
  | false=>some i
theorem tkR {P:Program} {md:Region.Mode} {ops:Array Oper} {Q:Exit→Act→World→Prop} {S:World→Prop} (L:List Nat) {i:Nat} {oi:Oper} {v:Value} {fuel:Nat} {l:List Bool} {a:Act} {w:World} (hn:nxR L l=some i) (hi:ops[i]? =some oi)
 (hs:(Region.noSelect ops && (Region.free md ops l.toArray i && (Region.ready md ops l.toArray).contains i))=true) (hQ:∀c a w,Q (.panic c) (a.put oi.dst v) w→Q (.panic c) a w)
 (hw:Region.wanted oi (yielded ops a.tmps)=true) (hv:∀w,S w→(execOp a.eval oi).run P w=.ok (.value v) w) (hS:S w) (h:wpAnyH P md ops Q S fuel (l.set i true).toArray (a.put oi.dst v) w):wpAnyH P md ops Q S (fuel+1) l.toArray a w:=by
 refine tk i hi hs hQ hw hv hS ?_;rw [List.setIfInBounds_toArray];exact h
structure StpR (P:Program) (md:Region.Mode) (ops:Array Oper) (Q:Exit→Act→World→Prop) (S:World→Prop) (fuel:Nat) (listed:Array Bool) (a:Act) (w:World) (i:Nat):Prop where
 out:(Region.ready md ops listed).contains i=true→wpOp P ops Q i (fun a' w'=>S w'∧wpAnyH P md ops Q S fuel (listed.setIfInBounds i true) a' w') a w
theorem noR {P:Program} {md:Region.Mode} {ops:Array Oper} {Q:Exit→Act→World→Prop} {S:World→Prop} {fuel:Nat} {listed:Array Bool} {a:Act} {w:World} {i:Nat} (h:(Region.ready md ops listed).contains i=false):StpR P md ops Q S fuel listed a w i:=⟨fun h2=>by rw [h] at h2;cases h2⟩
theorem isR {P:Program} {md:Region.Mode} {ops:Array Oper} {Q:Exit→Act→World→Prop} {S:World→Prop} {fuel:Nat} {listed:Array Bool} {a:Act} {w:World} {i:Nat} {o:Oper} (ho:ops[i]? =some o)
 (h:∀K':Act→World→Prop,Shut (∀a w,S w→(S w→wpAnyH P md ops Q S fuel (listed.setIfInBounds i true) a w)→K' a w)→if Region.wanted o (yielded ops a.tmps)=true then Oper.wp P o a w K' Q else K' (a.put o.dst undef) w):StpR P md ops Q S fuel listed a w i:=
 ⟨fun _=>wpOp_step ho fun K' hK=>h K' fun a w hS hW=>hK a w ⟨hS,hW hS⟩⟩
structure StsR (P:Program) (md:Region.Mode) (ops:Array Oper) (Q:Exit→Act→World→Prop) (S:World→Prop) (fuel:Nat) (listed:Array Bool) (a:Act) (w:World) (rs:List Nat):Prop where
 out:∀i∈rs,StpR P md ops Q S fuel listed a w i
theorem zFw {P:Program} {md:Region.Mode} {ops:Array Oper} {Q:Exit→Act→World→Prop} {S:World→Prop} {fuel:Nat} {listed:Array Bool} {a:Act} {w:World}:StsR P md ops Q S fuel listed a w []:=⟨fun _ h=>by cases h⟩
theorem zAt {P:Program} {md:Region.Mode} {ops:Array Oper} {Q:Exit→Act→World→Prop} {S:World→Prop} {fuel:Nat} {listed:Array Bool} {a:Act} {w:World} {i:Nat} {rs:List Nat} (h:StpR P md ops Q S fuel listed a w i) (hs:StsR P md ops Q S fuel listed a w rs):StsR P md ops Q S fuel listed a w (i :: rs):=⟨fun j hj=>by
 rcases List.mem_cons.1 hj with rfl | hj
 ·exact h
 ·exact hs.out j hj⟩
theorem rdR {P:Program} {md:Region.Mode} {ops:Array Oper} {Q:Exit→Act→World→Prop} {S:World→Prop} {fuel:Nat} {listed:Array Bool} {a:Act} {w:World} (rs:List Nat) (hr:((Region.ready md ops listed).all (fun i=>rs.contains i) && !(Region.ready md ops listed).isEmpty)=true) (h:StsR P md ops Q S fuel listed a w rs):wpAnyH P md ops Q S (fuel+1) listed a w:=by
 rw [Bool.and_eq_true] at hr;refine wpAnyH_all rfl (fun h0=>?_) fun i hi=>(h.out i ?_).out ?_
 ·have h2:=hr.2;rw [h0] at h2;cases h2
 ·have:=List.all_eq_true.1 hr.1 i hi
  simpa using this
 ·simpa using hi
theorem tkU {P:Program} {md:Region.Mode} {ops:Array Oper} {Q:Exit→Act→World→Prop} {S:World→Prop} (L:List Nat) {i:Nat} {oi:Oper} {fuel:Nat} {l:List Bool} {a:Act} {w:World} (hn:nxR L l=some i) (hi:ops[i]? =some oi)
 (hs:(Region.noSelect ops && (Region.free md ops l.toArray i && (Region.ready md ops l.toArray).contains i))=true) (hQ:∀c a w,Q (.panic c) (a.put oi.dst undef) w→Q (.panic c) a w)
 (hy:YieldsIf P ops S oi undef a) (hS:S w) (h:wpAnyH P md ops Q S fuel (l.set i true).toArray (a.put oi.dst undef) w):wpAnyH P md ops Q S (fuel+1) l.toArray a w:=by
 simp only [Bool.and_eq_true] at hs;refine wpAnyH_take hi hs.1 hs.2.1 hs.2.2 hQ hy hS ?_;rw [List.setIfInBounds_toArray];exact h
end Go.Proofs.YtonkhcdmchidjaaGreat
