import Derived.Test.YtonkhcdmchidjaaGreatProg
import Derived.BigQuiet
import Derived.WalkSpells
import Derived.WalkLawsBesides
import Derived.Handy
import Derived.Lib.Hide
import Derived.BigGuardPart
import Derived.OrdersHeld
namespace Go.Proofs.YtonkhcdmchidjaaGreat
open Go.RowKit Go
theorem dH {p:Prop} (h:p):Hid p:=Lib.hid h
theorem pus {α:Type}:(∀ (l:List α) (i:Nat) (h:i<l.toArray.size),l.toArray[i]'h=l[i]'(by simpa using h))∧(∀ (x:α) (l:List α) (i:Nat) (h:i+1< (x :: l).length),(x :: l)[i+1]'h=l[i]'(by simpa using h))∧(∀ (x:α) (l:List α) (h:0< (x :: l).length),(x :: l)[0]'h=x)∧
 (∀ (l:List α) (i:Nat) (x:α),l.toArray.setIfInBounds i x= (l.set i x).toArray)∧(∀ (x y:α) (l:List α),(x :: l).set 0 y=y :: l)∧(∀ (x y:α) (l:List α) (i:Nat),(x :: l).set (i+1) y=x :: l.set i y):=
 ⟨fun _ _ _=>List.getElem_toArray ..,fun _ _ _ _=>rfl,fun _ _ _=>rfl,fun _ _ _=>List.setIfInBounds_toArray ..,fun _ _ _=>rfl,fun _ _ _ _=>rfl⟩
theorem pur {α:Type}:(∀ (n:Nat) (x:α),Array.replicate n x= (List.replicate n x).toArray)∧(∀l:List α,l.toArray.size=l.length)∧(∀ (x:α) (l:List α),(x :: l).length=l.length+1)∧([]:List α).length=0∧(∀ (n:Nat) (x:α),List.replicate (n+1) x=x :: List.replicate n x)∧(∀x:α,List.replicate 0 x=[]):=
 ⟨fun _ _=>(List.toArray_replicate ..).symm,fun _=>rfl,fun _ _=>rfl,rfl,fun _ _=>rfl,fun _=>rfl⟩
theorem tk {P:Program} {md:Region.Mode} {ops:Array Oper} {Q:Exit→Act→World→Prop} {S:World→Prop} (i:Nat) {oi:Oper} {v:Value} {fuel:Nat} {listed:Array Bool} {a:Act} {w:World} (hi:ops[i]? =some oi)
 (hs:(Region.noSelect ops && (Region.free md ops listed i && (Region.ready md ops listed).contains i))=true) (hQ:∀c a w,Q (.panic c) (a.put oi.dst v) w→Q (.panic c) a w)
 (hw:Region.wanted oi (yielded ops a.tmps)=true) (hv:∀w,S w→(execOp a.eval oi).run P w=.ok (.value v) w) (hS:S w) (h:wpAnyH P md ops Q S fuel (listed.setIfInBounds i true) (a.put oi.dst v) w):wpAnyH P md ops Q S (fuel+1) listed a w:=by
 simp only [Bool.and_eq_true] at hs;exact wpAnyH_take hi hs.1 hs.2.1 hs.2.2 hQ (.inl ⟨hw,hv⟩) hS h
structure SlOf {α:Type} (R:World→Value→α→Prop) (w:World) (a:Option Addr) (cap:Nat) (xs:List α):Prop where
 le:xs.length≤cap
 mx:cap≤9223372036854775807
 nil:a=none→cap=0
 cells:∀A,a=some A→∀i (h:i<xs.length),A.spot=none∧∃v,w.cell? ⟨A.block,A.off+i,none⟩=some v∧R w v xs[i]
theorem SlOf.head {α:Type} {R:World→Value→α→Prop} {w:World} {a:Option Addr} {cap:Nat} {xs:List α} (h:SlOf R w a cap xs) {i:Nat} (hi:i<xs.length):
 ∃b o,a=some ⟨b,o,none⟩:=by
 cases a with
 | none=>have:=h.nil rfl;have:=h.le;omega
 | some A=>
  obtain⟨b,o,s⟩:=A;have:=(h.cells _ rfl i hi).1;simp at this;subst this;exact⟨b,o,rfl⟩
def zMy (_:World) (v:Value) (n:Int):Prop:=v=.int .i64 n∧-9223372036854775808≤n∧n≤9223372036854775807
def zGx (_:World) (v:Value) (b:Bool):Prop:=v=.bool b
abbrev Ints:=SlOf zMy
abbrev Bools:=SlOf zGx
def zFp (w:World) (v:Value) (l:List Int):Prop:=∃a cap,v=.slice a l.length cap∧Ints w a cap l
def zDH (w:World) (v:Value) (l:List Bool):Prop:=∃a cap,v=.slice a l.length cap∧Bools w a cap l
abbrev Rows:=SlOf zFp
abbrev BRows:=SlOf zDH
theorem Ints.cell {w:World} {b o cap:Nat} {xs:List Int} (h:Ints w (some ⟨b,o,none⟩) cap xs) {i:Nat} (hi:i<xs.length):
 w.cell? ⟨b,o+i,none⟩=some (.int .i64 xs[i])∧-9223372036854775808≤xs[i]∧xs[i]≤9223372036854775807:=by
 obtain⟨_,v,hv,rfl,r⟩:=h.cells _ rfl i hi;exact⟨hv,r⟩
theorem Bools.cell {w:World} {b o cap:Nat} {xs:List Bool} (h:Bools w (some ⟨b,o,none⟩) cap xs) {i:Nat} (hi:i<xs.length):
 w.cell? ⟨b,o+i,none⟩=some (.bool xs[i]):=by
 obtain⟨_,v,hv,rfl⟩:=h.cells _ rfl i hi;exact hv
theorem Rows.cell {w:World} {b o cap:Nat} {xs:List (List Int)} (h:Rows w (some ⟨b,o,none⟩) cap xs) {i:Nat} (hi:i<xs.length):
 ∃a c,w.cell? ⟨b,o+i,none⟩=some (.slice a xs[i].length c)∧Ints w a c xs[i]:=by
 obtain⟨_,v,hv,a,c,rfl,r⟩:=h.cells _ rfl i hi;exact⟨a,c,hv,r⟩
theorem BRows.cell {w:World} {b o cap:Nat} {xs:List (List Bool)} (h:BRows w (some ⟨b,o,none⟩) cap xs) {i:Nat} (hi:i<xs.length):
 ∃a c,w.cell? ⟨b,o+i,none⟩=some (.slice a xs[i].length c)∧Bools w a c xs[i]:=by
 obtain⟨_,v,hv,a,c,rfl,r⟩:=h.cells _ rfl i hi;exact⟨a,c,hv,r⟩
abbrev Ext (w w':World):Prop:=Below w.heap.size w w'
theorem SlOf.ext {α:Type} {R:World→Value→α→Prop} (hR:∀w w' v x,Ext w w'→R w v x→R w' v x) {w w':World} (he:Ext w w') {a:Option Addr} {cap:Nat} {xs:List α} (h:SlOf R w a cap xs):SlOf R w' a cap xs:=
 ⟨h.le,h.mx,h.nil,fun A hA i hi=>by
  obtain⟨h1,v,hv,hr⟩:=h.cells A hA i hi
  exact⟨h1,v,(he.cell (p:=⟨A.block,A.off+i,none⟩) (World.block_lt_of_cell? w _ hv)).trans hv,hR _ _ _ _ he hr⟩⟩
theorem Ints.ext {w w':World} (he:Ext w w') {a:Option Addr} {cap:Nat} {xs:List Int} (h:Ints w a cap xs):Ints w' a cap xs:=SlOf.ext (fun _ _ _ _ _ h=>h) he h
theorem Bools.ext {w w':World} (he:Ext w w') {a:Option Addr} {cap:Nat} {xs:List Bool} (h:Bools w a cap xs):Bools w' a cap xs:=SlOf.ext (fun _ _ _ _ _ h=>h) he h
theorem Rows.ext {w w':World} (he:Ext w w') {a:Option Addr} {cap:Nat} {xs:List (List Int)} (h:Rows w a cap xs):Rows w' a cap xs:=
 SlOf.ext (fun _ _ _ _ he ⟨a,c,e,r⟩=>⟨a,c,e,r.ext he⟩) he h
theorem BRows.ext {w w':World} (he:Ext w w') {a:Option Addr} {cap:Nat} {xs:List (List Bool)} (h:BRows w a cap xs):BRows w' a cap xs:=
 SlOf.ext (fun _ _ _ _ he ⟨a,c,e,r⟩=>⟨a,c,e,r.ext he⟩) he h
theorem Ints.get {w:World} {b o cap:Nat} {xs:List Int} (h:Ints w (some ⟨b,o,none⟩) cap xs) {i:Nat} (hi:i<xs.length):
 ∃x,xs[i]? =some x∧w.cell? ⟨b,o+i,none⟩=some (.int .i64 x)∧-9223372036854775808≤x∧x≤9223372036854775807:=
 ⟨xs[i],by simp [hi],h.cell hi⟩
theorem Bools.get {w:World} {b o cap:Nat} {xs:List Bool} (h:Bools w (some ⟨b,o,none⟩) cap xs) {i:Nat} (hi:i<xs.length):
 ∃x,xs[i]? =some x∧w.cell? ⟨b,o+i,none⟩=some (.bool x):=⟨xs[i],by simp [hi],h.cell hi⟩
theorem Rows.get {w:World} {b o cap:Nat} {xs:List (List Int)} (h:Rows w (some ⟨b,o,none⟩) cap xs) {i:Nat} (hi:i<xs.length):
 ∃x a c,xs[i]? =some x∧w.cell? ⟨b,o+i,none⟩=some (.slice a x.length c)∧Ints w a c x:=by
 obtain⟨a,c,h1,h2⟩:=h.cell hi;exact⟨xs[i],a,c,by simp [hi],h1,h2⟩
theorem BRows.get {w:World} {b o cap:Nat} {xs:List (List Bool)} (h:BRows w (some ⟨b,o,none⟩) cap xs) {i:Nat} (hi:i<xs.length):
 ∃x a c,xs[i]? =some x∧w.cell? ⟨b,o+i,none⟩=some (.slice a x.length c)∧Bools w a c x:=by
 obtain⟨a,c,h1,h2⟩:=h.cell hi;exact⟨xs[i],a,c,by simp [hi],h1,h2⟩
theorem Ext.refl (w:World):Ext w w:=Below.refl _ w
theorem Ext.trans {a b c:World} (h:Ext a b) (k:Ext b c):Ext a c:=Below.trans h (k.mono h.size)
theorem Ext.drewN {a w:World} (h:Ext a w) (n:Nat):Ext a (w.drewN n):=⟨h.os,h.tape,h.output,h.size,h.block⟩
theorem Ext.drew {a w:World} (h:Ext a w):Ext a w.drew:=⟨h.os,h.tape,h.output,h.size,h.block⟩
theorem Ext.alloc' {a w:World} (h:Ext a w) (o:Obj):Ext a (w.alloc o):=Below.alloc h h.size o
theorem Ext.set {a w:World} (h:Ext a w) {p:Addr} (hp:a.heap.size≤p.block) (u:Value):Ext a (w.setCell p u):=Below.setCell h hp u
theorem zBM {a b:Bool} (h:a=b):Ending.returned (.bool a)=.returned (.bool b):=by rw [h]
theorem Ext.alloc (w:World) (o:Obj):Ext w (w.alloc o):=(Below.refl _ w).alloc (Nat.le_refl _) o
def zEq (w0:World):={W:World // Ext w0 W}
instance zNA (w0:World):Nonempty (zEq w0):=⟨⟨w0,Ext.refl _⟩⟩
theorem zBw {P:Program} {id:Nat} {Q:Exit→Act→World→Prop} {a:Act} {w:World} {l:List Oper} (hm:P.follows .mixedOrders=true) (hB:Region.lexB .any l.toArray=true)
 (h:wpQuiet P l.toArray (fun w'=>∃W:zEq w,w'=W.1) (fun a'=>∀w',(∃W:zEq w,w'=W.1)→Q .normal a' w') l a):(Code.region id l.toArray true).wp P Q a w:=
 wp_region_quiet (C:=fun w'=>∃W:zEq w,w'=W.1) hm hB ⟨⟨_,(Ext.refl w).drew⟩,rfl⟩ (by simpa using h)
theorem zCz {P:Program} {f:FuncId} {args:Array Value} {w0:World} {v:Value} {W:zEq w0} (h:Calls P f args W.1 fun e w'=>e=.returned v∧W.1=w'):
 Calls P f args W.1 fun e w''=>e=.returned v∧∃W':zEq w0,w''=W'.1:=h.mono fun _ _ ⟨he,hx⟩=>⟨he,W,hx.symm⟩
theorem zAd {w:World} {b o:Nat} {v:Value} (h:w.cell? ⟨b,o,none⟩=some v):b<w.heap.size:=World.block_lt_of_cell? w _ h
theorem zB9 {w0:World} {b o:Nat} {v:Value} (h:w0.cell? ⟨b,o,none⟩=some v):∀W:zEq w0,W.1.cell? ⟨b,o,none⟩=some v:=fun W=>
 (W.2.cell (p:=⟨b,o,none⟩) (zAd h)).trans h
end Go.Proofs.YtonkhcdmchidjaaGreat
