import Derived.Test.YtonkhcdmchidjaaGreatKeep
import Derived.RangeFuncBound
import Derived.OwnWalkIn
import Derived.TacticsInMore
import Derived.LoopNIn
import Derived.LoopIn
import Derived.Deep.RegionHeld3
namespace Go.Proofs.YtonkhcdmchidjaaGreat
open Go.RowKit Go
section
variable {P:Program} {ops:Array Oper} {md:Region.Mode} {C:World→Prop} {lp n:Nat}
abbrev Rd (lp:Nat):Fence:=Fence.wide.inRound lp
theorem zHx {f:FuncId} {args:Array Value} {w:World} {R:Ending→World→Prop} (h:Calls P f args w R):CallsIn (Rd lp) n P f args w R:=CallsIn.inRound lp (callsIn_wide.2 h)
end
theorem zJp {A B:Prop} (h:A→B) (a:A):B:=h a
section
variable {P:Program} {ops:Array Oper} {md:Region.Mode} {lp n:Nat} {Q:Exit→Act→World→Prop}
theorem zIM {row:String} {args:Array Value} {w:World} {R:Value→World→Prop} (h:Go.Rows P row args w R):RowsIn (Rd lp) n P row args w R:=
 fun c cs _=>let ⟨v,w',r,s⟩:=h c cs;⟨v,w',r,stepsIn_wide.2 s⟩
theorem zIN {o:Oper} {a:Act} {K:Act→World→Prop} {w:World} (hd:∀c,o.op≠.defer c) (h:o.wp P a w K Q):o.wpIn (Rd lp) n P a w K Q:=by
 refine⟨fun _ _=>trivial,?_⟩;have hs:(Oper.semAt (Rd lp).round a.eval o)=execOp a.eval o:=Oper.semAt_eq _ _ _ hd;rw [hs];unfold Oper.wp at h;generalize (execOp a.eval o).run P w=r at *
 cases r with
 | ok x w'=>
  cases x <;> simp only [Oper.upon] at h <;> simp only [Oper.uponIn]
  case value u=>exact h
  case skip=>exact h
  case defer d=>exact h
  case enter f args=>exact⟨fun hx=>(by cases hx),zHx h⟩
  case row r args=>exact⟨fun hx=>(by cases hx),zIM h⟩
 | halt x w'=>cases x <;> simp only [Oper.upon] at h <;> simp only [Oper.uponIn] <;> exact h
def zEr (ops:Array Oper):Bool:=ops.all fun o=>match o.op with | .defer _=>false | _=>true
theorem zGy (h:zEr ops=true) {i:Nat} {o:Oper} (hi:ops[i]? =some o):∀c,o.op≠.defer c:=fun c hc=>by
 unfold zEr at h;rw [Array.all_eq_true_iff_forall_mem] at h;have:=h o (Array.mem_of_getElem? hi);rw [hc] at this;cases this
theorem zGz {i:Nat} {a:Act} {K:Act→World→Prop} {w:World} (hd:zEr ops=true) (hQ:¬LetsOut Q) (h:wpOp P ops Q i K a w):wpOpIn (Rd lp) n P ops Q i K a w:=by
 unfold wpOp at h;unfold wpOpIn
 split
 ·rename_i ho;simp only [ho] at h;exact h
 ·rename_i o ho;simp only [ho] at h
  split
  ·rename_i hw;simp only [hw,if_true] at h;rcases h with h | h
   ·exact zIN (zGy hd ho) h
   ·exact absurd h.2 hQ
  ·rename_i hw;simp only [hw] at h;exact⟨fun _ _=>trivial,h⟩
theorem zDW (hd:zEr ops=true) (hQ:¬LetsOut Q):∀ (f:Nat) (done:Array Bool) (a:Act) (w:World),wpAny P md ops Q f done a w→wpAnyIn (Rd lp) n P md ops Q f done a w
 | 0,_,_,_,h=>h
 | f+1,_,_,_,h=>⟨h.1,fun i hi=>wpOpIn_mono (fun a' w' h'=>zDW hd hQ f _ a' w' h') (zGz hd hQ (h.2 i hi))⟩
theorem zA8 {S:World→Prop} {id:Nat} {a:Act} {w:World} (hm:P.follows .mixedOrders=true) (hd:zEr ops=true) (hQ:¬LetsOut Q) (hS:S w.drew)
 (h:S w.drew→wpAnyH P .any ops Q S ops.size (Array.replicate ops.size false) a w.drew):(Code.region id ops true).wpIn (Rd lp) n P Q a w:=
 wpIn_region_any hm (zDW hd hQ _ _ _ _ (wpAny_of_held _ _ _ _ (h hS)))
end
end Go.Proofs.YtonkhcdmchidjaaGreat
