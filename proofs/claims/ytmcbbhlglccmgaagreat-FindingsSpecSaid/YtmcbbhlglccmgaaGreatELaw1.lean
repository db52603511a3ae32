import Derived.Test.YtmcbbhlglccmgaaGreatESub2
import Derived.Test.YtmcbbhlglccmgaaGreatERef2
import Derived.Test.YtmcbbhlglccmgaaGreatEOrd
import Derived.Test.YtmcbbhlglccmgaaGreatESubM
import Derived.Test.YtmcbbhlglccmgaaGreatNMake2
import Derived.Test.YtmcbbhlglccmgaaGreatEPerm3
import Derived.Test.YtmcbbhlglccmgaaGreatEOrders
import Derived.Test.YtmcbbhlglccmgaaGreatNat0
import Derived.Test.YtmcbbhlglccmgaaGreatBlk
import Derived.Deep.Cut
import Derived.OwnWalk
import Derived.Deep.RegionHeld3
import Derived.BigFrame
import Derived.Outline
import Derived.Deep.DeepCutAuto
namespace Go.Proofs.YtmcbbhlglccmgaaGreat
open Go.RowKit Go Go.Maps Go.Shelf
set_option maxRecDepth 100000
set_option linter.unusedSimpArgs false

/-- Two results: nought, and the error E. -/
def SubE (E : Int) (w : World) (e : Ending) (w' : World) : Prop := e = .returned (.tuple #[.agg #[.bool false, .slice none 0 0], .int .i64 E]) ∧ Ext w w'

set_option maxHeartbeats 1000000 in
theorem exact_Subsets_limit (a : Option Addr) (cap n : Nat) (k sum : Int) (w : World) (hn : 64 < n) :
    Calls Tryz.prog 28 #[.slice a n cap, .int .i64 k, .int .i64 sum] w (SubE 2 w) := by
  have d1 : decide ((n : Int) ≤ 64) = false := by simp; omega
  have hx : Ext w ((w.alloc (.cells #[.bool false, .slice none 0 0] 32)).alloc (.cells #[.int .i64 0] 28)) := (by repeat (first | with_reducible exact Ext.refl _ | with_reducible assumption | with_reducible refine Ext.drewN ?_ _ | with_reducible refine Ext.drew ?_ | with_reducible refine Ext.alloc' ?_ _ | with_reducible refine Ext.set ?_ (by dsimp only; omega) _))
  have k0 := Lib.hid ((Blk.new0 w #[.bool false, .slice none 0 0] 32).alloc (.cells #[.int .i64 0] 28))
  have k1 := Lib.hid (Blk.new1 w (.cells #[.bool false, .slice none 0 0] 32) #[.int .i64 0] 28)
  go_enter_defers Tryz.func28, Tryz.ntmps28
  go_wp2_with fail
  with_reducible refine (exact_need_no _ _).mono ?_
  rintro e w1 ⟨rfl, rfl⟩
  generalize (w.alloc (.cells #[.bool false, .slice none 0 0] 32)).alloc (.cells #[.int .i64 0] 28) = w1 at *
  refine leaves_cons (f := 65) (args := #[.pointer (some ⟨w.heap.size + 1, 0, none⟩)]) (by simp) (by simp [go_sem]) ?_
  refine (exact_caught_panicking ⟨w.heap.size + 1, 0, none⟩ 0 2 [] _ (k1.out.cell (i := 0) rfl) (k1.out.free 0)).mono ?_
  rintro e u' w'' ⟨rfl, rfl, rfl⟩
  have e2 := (k1.out.set 0 (.int .i64 2)).cell (i := 0) (v := .int .i64 2) rfl
  have k2 := k0.out.other (p := ⟨w.heap.size + 1, 0, none⟩) (by dsimp only; omega) (.int .i64 2)
  have e0 := k2.cell (i := 0) (v := .bool false) rfl
  have e1 := k2.cell (i := 1) (v := .slice none 0 0) rfl
  have hxf : Ext w (w1.setCell ⟨w.heap.size + 1, 0, none⟩ (.int .i64 2)) := (by repeat (first | with_reducible exact Ext.refl _ | with_reducible assumption | with_reducible refine Ext.drewN ?_ _ | with_reducible refine Ext.drew ?_ | with_reducible refine Ext.alloc' ?_ _ | with_reducible refine Ext.set ?_ (by dsimp only; omega) _))
  simp [Leaves, settle, results, Tryz.results28, go_sem, e0, e1, e2]
  exact ⟨rfl, hxf⟩

set_option maxHeartbeats 1000000 in
theorem exact_Subsets_out (a : Option Addr) (cap : Nat) (k : Int) (l : List Int) (sum : Int) (w : World) (h : Ints w a cap l) (hn : l.length ≤ 64) (ho : l.any outB = true) :
    Calls Tryz.prog 28 #[.slice a l.length cap, .int .i64 k, .int .i64 sum] w (SubE 1 w) := by
  have d1 : decide ((l.length : Int) ≤ 64) = true := by simp; omega
  have hx : Ext w ((w.alloc (.cells #[.bool false, .slice none 0 0] 32)).alloc (.cells #[.int .i64 0] 28)) := (by repeat (first | with_reducible exact Ext.refl _ | with_reducible assumption | with_reducible refine Ext.drewN ?_ _ | with_reducible refine Ext.drew ?_ | with_reducible refine Ext.alloc' ?_ _ | with_reducible refine Ext.set ?_ (by dsimp only; omega) _))
  have k0 := Lib.hid ((Blk.new0 w #[.bool false, .slice none 0 0] 32).alloc (.cells #[.int .i64 0] 28))
  have k1 := Lib.hid (Blk.new1 w (.cells #[.bool false, .slice none 0 0] 32) #[.int .i64 0] 28)
  have hC := exact_contains a cap l _ (h.ext hx)
  rw [ho] at hC
  have HC := Lib.hid hC
  clear hC h ho 
  go_enter_defers Tryz.func28, Tryz.ntmps28
  go_wp2_with fail
  with_reducible refine (exact_need_ok _ _).mono ?_
  rintro e w1 ⟨rfl, rfl⟩
  go_wp2_with fail
  with_reducible refine HC.out.mono ?_
  rintro e w1 ⟨rfl, rfl⟩
  go_wp2_with fail
  with_reducible refine (exact_need_no _ _).mono ?_
  rintro e w1 ⟨rfl, rfl⟩
  generalize (w.alloc (.cells #[.bool false, .slice none 0 0] 32)).alloc (.cells #[.int .i64 0] 28) = w1 at *
  refine leaves_cons (f := 65) (args := #[.pointer (some ⟨w.heap.size + 1, 0, none⟩)]) (by simp) (by simp [go_sem]) ?_
  refine (exact_caught_panicking ⟨w.heap.size + 1, 0, none⟩ 0 1 [] _ (k1.out.cell (i := 0) rfl) (k1.out.free 0)).mono ?_
  rintro e u' w'' ⟨rfl, rfl, rfl⟩
  have e2 := (k1.out.set 0 (.int .i64 1)).cell (i := 0) (v := .int .i64 1) rfl
  have k2 := k0.out.other (p := ⟨w.heap.size + 1, 0, none⟩) (by dsimp only; omega) (.int .i64 1)
  have e0 := k2.cell (i := 0) (v := .bool false) rfl
  have e1 := k2.cell (i := 1) (v := .slice none 0 0) rfl
  have hxf : Ext w (w1.setCell ⟨w.heap.size + 1, 0, none⟩ (.int .i64 1)) := (by repeat (first | with_reducible exact Ext.refl _ | with_reducible assumption | with_reducible refine Ext.drewN ?_ _ | with_reducible refine Ext.drew ?_ | with_reducible refine Ext.alloc' ?_ _ | with_reducible refine Ext.set ?_ (by dsimp only; omega) _))
  simp [Leaves, settle, results, Tryz.results28, go_sem, e0, e1, e2]
  exact ⟨rfl, hxf⟩

set_option maxHeartbeats 1000000 in
theorem exact_Subsets_neg (a : Option Addr) (cap : Nat) (k : Int) (l : List Int) (sum : Int) (w : World) (h : Ints w a cap l) (hn : l.length ≤ 64) (ho : l.any outB = false) (hk : k < 0) :
    Calls Tryz.prog 28 #[.slice a l.length cap, .int .i64 k, .int .i64 sum] w (SubE 1 w) := by
  have d1 : decide ((l.length : Int) ≤ 64) = true := by simp; omega
  have d2 : decide (0 ≤ k) = false := by simp; omega
  have hx : Ext w ((w.alloc (.cells #[.bool false, .slice none 0 0] 32)).alloc (.cells #[.int .i64 0] 28)) := (by repeat (first | with_reducible exact Ext.refl _ | with_reducible assumption | with_reducible refine Ext.drewN ?_ _ | with_reducible refine Ext.drew ?_ | with_reducible refine Ext.alloc' ?_ _ | with_reducible refine Ext.set ?_ (by dsimp only; omega) _))
  have k0 := Lib.hid ((Blk.new0 w #[.bool false, .slice none 0 0] 32).alloc (.cells #[.int .i64 0] 28))
  have k1 := Lib.hid (Blk.new1 w (.cells #[.bool false, .slice none 0 0] 32) #[.int .i64 0] 28)
  have hC := exact_contains a cap l _ (h.ext hx)
  rw [ho] at hC
  have HC := Lib.hid hC
  clear hC h ho hk
  go_enter_defers Tryz.func28, Tryz.ntmps28
  go_wp2_with fail
  with_reducible refine (exact_need_ok _ _).mono ?_
  rintro e w1 ⟨rfl, rfl⟩
  go_wp2_with fail
  with_reducible refine HC.out.mono ?_
  rintro e w1 ⟨rfl, rfl⟩
  go_wp2_with fail
  with_reducible refine (exact_need_no _ _).mono ?_
  rintro e w1 ⟨rfl, rfl⟩
  generalize (w.alloc (.cells #[.bool false, .slice none 0 0] 32)).alloc (.cells #[.int .i64 0] 28) = w1 at *
  refine leaves_cons (f := 65) (args := #[.pointer (some ⟨w.heap.size + 1, 0, none⟩)]) (by simp) (by simp [go_sem]) ?_
  refine (exact_caught_panicking ⟨w.heap.size + 1, 0, none⟩ 0 1 [] _ (k1.out.cell (i := 0) rfl) (k1.out.free 0)).mono ?_
  rintro e u' w'' ⟨rfl, rfl, rfl⟩
  have e2 := (k1.out.set 0 (.int .i64 1)).cell (i := 0) (v := .int .i64 1) rfl
  have k2 := k0.out.other (p := ⟨w.heap.size + 1, 0, none⟩) (by dsimp only; omega) (.int .i64 1)
  have e0 := k2.cell (i := 0) (v := .bool false) rfl
  have e1 := k2.cell (i := 1) (v := .slice none 0 0) rfl
  have hxf : Ext w (w1.setCell ⟨w.heap.size + 1, 0, none⟩ (.int .i64 1)) := (by repeat (first | with_reducible exact Ext.refl _ | with_reducible assumption | with_reducible refine Ext.drewN ?_ _ | with_reducible refine Ext.drew ?_ | with_reducible refine Ext.alloc' ?_ _ | with_reducible refine Ext.set ?_ (by dsimp only; omega) _))
  simp [Leaves, settle, results, Tryz.results28, go_sem, e0, e1, e2]
  exact ⟨rfl, hxf⟩

set_option maxHeartbeats 1000000 in
theorem exact_Subsets_big (a : Option Addr) (cap : Nat) (k : Int) (l : List Int) (sum : Int) (w : World) (h : Ints w a cap l) (hn : l.length ≤ 64) (ho : l.any outB = false) (h0 : 0 ≤ k) (hk : (l.length : Int) < k) :
    Calls Tryz.prog 28 #[.slice a l.length cap, .int .i64 k, .int .i64 sum] w (SubE 1 w) := by
  have d1 : decide ((l.length : Int) ≤ 64) = true := by simp; omega
  have d2 : decide (0 ≤ k) = true := by simp; omega
  have d3 : decide (k ≤ (l.length : Int)) = false := by simp; omega
  have hx : Ext w ((w.alloc (.cells #[.bool false, .slice none 0 0] 32)).alloc (.cells #[.int .i64 0] 28)) := (by repeat (first | with_reducible exact Ext.refl _ | with_reducible assumption | with_reducible refine Ext.drewN ?_ _ | with_reducible refine Ext.drew ?_ | with_reducible refine Ext.alloc' ?_ _ | with_reducible refine Ext.set ?_ (by dsimp only; omega) _))
  have k0 := Lib.hid ((Blk.new0 w #[.bool false, .slice none 0 0] 32).alloc (.cells #[.int .i64 0] 28))
  have k1 := Lib.hid (Blk.new1 w (.cells #[.bool false, .slice none 0 0] 32) #[.int .i64 0] 28)
  have hC := exact_contains a cap l _ (h.ext hx)
  rw [ho] at hC
  have HC := Lib.hid hC
  clear hC h ho hk h0
  go_enter_defers Tryz.func28, Tryz.ntmps28
  go_wp2_with fail
  with_reducible refine (exact_need_ok _ _).mono ?_
  rintro e w1 ⟨rfl, rfl⟩
  go_wp2_with fail
  with_reducible refine HC.out.mono ?_
  rintro e w1 ⟨rfl, rfl⟩
  go_wp2_with fail
  with_reducible refine (exact_need_no _ _).mono ?_
  rintro e w1 ⟨rfl, rfl⟩
  generalize (w.alloc (.cells #[.bool false, .slice none 0 0] 32)).alloc (.cells #[.int .i64 0] 28) = w1 at *
  refine leaves_cons (f := 65) (args := #[.pointer (some ⟨w.heap.size + 1, 0, none⟩)]) (by simp) (by simp [go_sem]) ?_
  refine (exact_caught_panicking ⟨w.heap.size + 1, 0, none⟩ 0 1 [] _ (k1.out.cell (i := 0) rfl) (k1.out.free 0)).mono ?_
  rintro e u' w'' ⟨rfl, rfl, rfl⟩
  have e2 := (k1.out.set 0 (.int .i64 1)).cell (i := 0) (v := .int .i64 1) rfl
  have k2 := k0.out.other (p := ⟨w.heap.size + 1, 0, none⟩) (by dsimp only; omega) (.int .i64 1)
  have e0 := k2.cell (i := 0) (v := .bool false) rfl
  have e1 := k2.cell (i := 1) (v := .slice none 0 0) rfl
  have hxf : Ext w (w1.setCell ⟨w.heap.size + 1, 0, none⟩ (.int .i64 1)) := (by repeat (first | with_reducible exact Ext.refl _ | with_reducible assumption | with_reducible refine Ext.drewN ?_ _ | with_reducible refine Ext.drew ?_ | with_reducible refine Ext.alloc' ?_ _ | with_reducible refine Ext.set ?_ (by dsimp only; omega) _))
  simp [Leaves, settle, results, Tryz.results28, go_sem, e0, e1, e2]
  exact ⟨rfl, hxf⟩
end Go.Proofs.YtmcbbhlglccmgaaGreat

namespace Go.Proofs.YtmcbbhlglccmgaaGreat
open Go.RowKit Go BigFrame Go.Shelf
set_option maxRecDepth 100000
set_option linter.unusedSimpArgs false

set_option maxHeartbeats 1000000 in
theorem exact_Matches_bad (a a2 : Option Addr) (la lb cap cap2 : Nat) (sum E : Int) (w : World)
    (hL : ∀ W, Calls Tryz.prog 83 #[.slice a la cap, .slice a2 lb cap2] W fun e w' => e = .panicked [{ v := .iface 28 (.int .i64 E), recovered := false }] ∧ W = w') :
    Calls Tryz.prog 40 #[.slice a la cap, .slice a2 lb cap2, .int .i64 sum] w fun e w' => e = .returned (.tuple #[.int .i64 0, .int .i64 E]) ∧ Ext w w' := by
  have HL := Lib.hid hL
  have hx := Ext.alloc w (.cells #[.int .i64 0] 28)
  have k := Lib.hid (Blk.new0 w #[.int .i64 0] 28)
  clear hL
  go_enter_defers Tryz.func40, Tryz.ntmps40
  go_wp2_with fail
  refine (HL.out _).mono ?_
  rintro e w1 ⟨rfl, rfl⟩
  generalize w.alloc (.cells #[.int .i64 0] 28) = w1 at *
  generalize hp : w.heap.size = p at *
  refine leaves_cons (f := 65) (args := #[.pointer (some ⟨p, 0, none⟩)]) (by simp) (by simp [go_sem]) ?_
  refine (exact_caught_panicking ⟨p, 0, none⟩ 0 E [] _ (k.out.cell (i := 0) rfl) (k.out.free 0)).mono ?_
  rintro e u' w'' ⟨rfl, rfl, rfl⟩
  have c0 := (k.out.set 0 (.int .i64 E)).cell (i := 0) (v := .int .i64 E) rfl
  simp [Leaves, settle, results, Tryz.results40, go_sem, c0]
  exact hx.set (p := ⟨p, 0, none⟩) (by rw [hp]; exact Nat.le_refl _) _

set_option maxHeartbeats 1000000 in
theorem exact_Matches_ok (nn : Nat) (a a2 : Option Addr) (cap cap2 : Nat) (l m : List Int) (sum : Int) (w : World) (h : Ints w a cap l) (h2 : Ints w a2 cap2 m) (hl : l.length = nn) (hm : m.length = nn) (hn : nn ≤ 8)
    (hs : -9223372036854775808 ≤ sum ∧ sum ≤ 9223372036854775807) :
    Calls Tryz.prog 40 #[.slice a nn cap, .slice a2 nn cap2, .int .i64 sum] w fun e w' => e = .returned (.tuple #[.int .i64 (cntG eqP l m sum), .int .i64 0]) ∧ Ext w w' := by
  have hx := Ext.alloc w (.cells #[.int .i64 0] 28)
  have k := Lib.hid (Blk.new0 w #[.int .i64 0] 28)
  have hC := counted_any nn a a2 cap cap2 l m sum 84 eqP _ (h.ext hx) (h2.ext hx) hl hm hn (enters_of Tryz.func84 (by kernel_rfl) rfl)
    (fun i j W _ _ => exact_eq _ _ W) (fun i j _ _ => by unfold eqP; split <;> omega) hs
  have HL := Lib.hid (exact_lists_ok a a2 nn nn cap cap2 (w.alloc (.cells #[.int .i64 0] 28)) rfl hn)
  have HC := Lib.hid hC
  clear h h2 hl hm hC
  go_enter_defers Tryz.func40, Tryz.ntmps40
  go_wp2_with fail
  refine HL.out.mono ?_
  rintro e w1 ⟨rfl, rfl⟩
  go_wp2_with fail
  refine HC.out.mono ?_
  rintro e w2 ⟨rfl, hy⟩
  have k2 := k.out.ext hy
  have c0 := k2.cell (i := 0) (v := .int .i64 0) rfl
  have f0 := k2.free 0
  have hx2 := hx.trans hy
  have K2 := Lib.hid k2
  clear k2
  generalize hp : w.heap.size = p at *
  go_wp2_with fail
  refine leaves_cons (f := 65) (args := #[.pointer (some ⟨p, 0, none⟩)]) (by simp) (by simp [go_sem]) ?_
  refine (exact_caught_idle ⟨p, 0, none⟩ _).mono ?_
  rintro e u' w'' ⟨rfl, rfl, rfl⟩
  have c0 := (K2.out.set 0 (.int .i64 0)).cell (i := 0) (v := .int .i64 0) rfl
  simp [Leaves, settle, results, Tryz.results40, go_sem, c0]
  exact hx2.set (p := ⟨p, 0, none⟩) (by rw [hp]; exact Nat.le_refl _) _
end Go.Proofs.YtmcbbhlglccmgaaGreat

namespace Go.Proofs.YtmcbbhlglccmgaaGreat
open Go.RowKit Go BigFrame Go.Shelf
set_option maxRecDepth 100000
set_option linter.unusedSimpArgs false

def OrdP (L : List (List Int)) (Pb : Nat → Prop) (w : World) (e : Ending) (w' : World) : Prop := ∃ v, e = .returned v ∧ RowsF w' w.heap.size v L Pb ∧ Ext w w'
def Pbeg (a : Option Addr) (h : Nat) (k : Nat) : Prop := (∃ A, a = some A ∧ A.block = k) ∨ h ≤ k

theorem Ints.range {w : World} {a : Option Addr} {cap : Nat} {l : List Int} (h : Ints w a cap l) : ∀ x ∈ l, -9223372036854775808 ≤ x ∧ x ≤ 9223372036854775807 := fun x hx => by
  obtain ⟨i, hi, rfl⟩ := List.getElem_of_mem hx
  obtain ⟨b, o, rfl⟩ := h.head hi
  exact (h.cell hi).2

end Go.Proofs.YtmcbbhlglccmgaaGreat

namespace Go.Proofs.YtmcbbhlglccmgaaGreat
open Go.RowKit Go BigFrame Go.Shelf
set_option maxRecDepth 100000
set_option linter.unusedSimpArgs false

/-- The increasing lists that begin with some, in the reference's way: f numbers more, from first on, below n. -/
def refL : Nat → List Int → Nat → Nat → List (List Int)
  | 0, b, _, _ => [b]
  | f + 1, b, first, n => (List.range (n - first)).flatMap fun i => refL f (b ++ [((first + i : Nat) : Int)]) (first + i + 1) n
def refLTo (f : Nat) (b : List Int) (first n k : Nat) : List (List Int) := (List.range k).flatMap fun i => refL f (b ++ [((first + i : Nat) : Int)]) (first + i + 1) n
end Go.Proofs.YtmcbbhlglccmgaaGreat

namespace Go.Proofs.YtmcbbhlglccmgaaGreat
open Go.RowKit Go
set_option maxRecDepth 100000

/-- The sum of the values at the numbers of a list. -/
def pv (l p : List Int) (k : Nat) : Int := sm k (fun i => l.getD (p.getD i 0).toNat 0)
def cntV (l : List Int) (k : Nat) (sum : Int) (ps : List (List Int)) : Nat := ps.countP fun p => decide (sum ≤ pv l p k)
end Go.Proofs.YtmcbbhlglccmgaaGreat

namespace Go.Proofs.YtmcbbhlglccmgaaGreat
open Go.RowKit Go
set_option maxRecDepth 100000

theorem intsNil (w : World) : Ints w none 0 [] := ⟨Nat.le_refl _, by simp, fun _ => rfl, fun A hA => by cases hA⟩
def IntP (x E : Int) (w : World) (e : Ending) (w' : World) : Prop := e = .returned (.tuple #[.int .i64 x, .int .i64 E]) ∧ Ext w w'
end Go.Proofs.YtmcbbhlglccmgaaGreat

namespace Go.Proofs.YtmcbbhlglccmgaaGreat
open Go.RowKit Go BigFrame
set_option maxRecDepth 100000
set_option linter.unusedSimpArgs false

/-- Two results: the integer z, and the error E. -/
def SubR (z E : Int) (w : World) (e : Ending) (w' : World) : Prop := ∃ v, e = .returned (.tuple #[v, .int .i64 E]) ∧ BigN w' v z w.heap.size ∧ Ext w w'
theorem BigN.zero (w : World) (B : Nat) : BigN w (.agg #[.bool false, .slice none 0 0]) 0 B := ⟨false, none, 0, [], rfl, intsNil w, ⟨trivial, by simp, rfl⟩, fun A hA => by cases hA⟩
theorem SubE.r {E : Int} {w : World} {e : Ending} {w' : World} (h : SubE E w e w') : SubR 0 E w e w' := ⟨_, h.1, BigN.zero _ _, h.2⟩
def eS (l : List Int) (k : Int) : Int := if 64 < l.length then 2 else if l.any outB = true then 1 else if k < 0 then 1 else if (l.length : Int) < k then 1 else 0
def zS (l : List Int) (k sum : Int) : Int := if eS l k = 0 then cs sum k.toNat l 0 else 0
def fewS (l : List Int) : Prop := l.length ≤ 20 ∨ 64 < l.length

theorem exact_Subsets_any (a : Option Addr) (cap : Nat) (k : Int) (l : List Int) (sum : Int) (w : World) (h : Ints w a cap l) (hf : fewS l) :
    Calls Tryz.prog 28 #[.slice a l.length cap, .int .i64 k, .int .i64 sum] w (SubR (zS l k sum) (eS l k) w) := by
  unfold zS eS
  by_cases h1 : 64 < l.length
  · rw [if_pos h1, if_neg (by omega)]
    exact (exact_Subsets_limit a cap l.length k sum w h1).mono fun _ _ h => h.r
  · rw [if_neg h1]
    have h20 : l.length ≤ 20 := hf.elim id (fun h => absurd h h1)
    by_cases h2 : l.any outB = true
    · rw [if_pos h2, if_neg (by omega)]
      exact (exact_Subsets_out a cap k l sum w h (by omega) h2).mono fun _ _ h => h.r
    · rw [if_neg h2]
      have h2' : l.any outB = false := by simpa using h2
      by_cases h3 : k < 0
      · rw [if_pos h3, if_neg (by omega)]
        exact (exact_Subsets_neg a cap k l sum w h (by omega) h2' h3).mono fun _ _ h => h.r
      · rw [if_neg h3]
        by_cases h4 : (l.length : Int) < k
        · rw [if_pos h4, if_neg (by omega)]
          exact (exact_Subsets_big a cap k l sum w h (by omega) h2' (by omega) h4).mono fun _ _ h => h.r
        · rw [if_neg h4, if_pos rfl]
          obtain ⟨n, rfl⟩ : ∃ n : Nat, k = n := ⟨k.toNat, by omega⟩
          exact exact_Subsets_ok a cap n l sum w h h20 h2' (by omega)
def fewB41 (n : Nat) : Bool := decide (n ≤ 12) || (decide (64 < n) && decide (n ≤ 80))
end Go.Proofs.YtmcbbhlglccmgaaGreat

namespace Go.Proofs.YtmcbbhlglccmgaaGreat
open Go.RowKit Go BigFrame
set_option maxRecDepth 100000
set_option linter.unusedSimpArgs false

/-- Orders: the number and the error. -/
def oE (l m : List Int) : Int := if listsE l.length m.length ≠ 0 then listsE l.length m.length else if (l.any outB || m.any outB) = true then 1 else 0
def oZ (l m : List Int) (sum : Int) : Int := if oE l m = 0 then (cntG mulP l m sum : Int) else 0
def mE (l m : List Int) : Int := listsE l.length m.length
def mZ (l m : List Int) (many : Int) : Int := if mE l m = 0 then (cntG eqP l m many : Int) else 0
theorem listsE_ok {a b : Nat} (h : listsE a b = 0) : a = b ∧ a ≤ 8 := by
  unfold listsE at h
  by_cases h1 : 8 < a ∨ 8 < b
  · rw [if_pos h1] at h; omega
  · rw [if_neg h1] at h
    by_cases h2 : a ≠ b
    · rw [if_pos h2] at h; omega
    · omega
theorem lists_panics (a a2 : Option Addr) (la lb cap cap2 : Nat) (h : listsE la lb ≠ 0) (W : World) :
    Calls Tryz.prog 83 #[.slice a la cap, .slice a2 lb cap2] W fun e w' => e = .panicked [{ v := .iface 28 (.int .i64 (listsE la lb)), recovered := false }] ∧ W = w' := by
  unfold listsE at h ⊢
  by_cases h1 : 8 < la ∨ 8 < lb
  · rw [if_pos h1]; exact exact_lists_limit a a2 la lb cap cap2 W h1
  · rw [if_neg h1] at h ⊢
    by_cases h2 : la ≠ lb
    · rw [if_pos h2]; exact exact_lists_arg a a2 la lb cap cap2 W (by omega) h2
    · rw [if_neg h2] at h; exact absurd rfl h
theorem exact_Orders_any (a a2 : Option Addr) (cap cap2 : Nat) (l m : List Int) (sum : Int) (w : World) (h : Ints w a cap l) (h2 : Ints w a2 cap2 m) (hs : -9223372036854775808 ≤ sum ∧ sum ≤ 9223372036854775807) :
    Calls Tryz.prog 45 #[.slice a l.length cap, .slice a2 m.length cap2, .int .i64 sum] w (IntP (oZ l m sum) (oE l m) w) := by
  unfold oZ oE
  by_cases h1 : listsE l.length m.length ≠ 0
  · rw [if_pos h1, if_neg h1]
    exact exact_Orders_bad a a2 l.length m.length cap cap2 sum _ w (lists_panics a a2 _ _ cap cap2 h1)
  · rw [if_neg h1]
    obtain ⟨e1, e2⟩ := listsE_ok (by simpa using h1)
    rw [← e1]
    by_cases h3 : (l.any outB || m.any outB) = true
    · rw [if_pos h3, if_neg (by omega)]
      exact exact_Orders_out l.length a a2 cap cap2 l m sum w h h2 rfl e1.symm e2 h3
    · rw [if_neg h3, if_pos rfl]
      have h4 : l.any outB = false ∧ m.any outB = false := by simpa using h3
      exact exact_Orders_ok l.length a a2 cap cap2 l m sum w h h2 rfl e1.symm e2 h4.1 h4.2 hs
theorem exact_Matches_any (a a2 : Option Addr) (cap cap2 : Nat) (l m : List Int) (many : Int) (w : World) (h : Ints w a cap l) (h2 : Ints w a2 cap2 m) (hs : -9223372036854775808 ≤ many ∧ many ≤ 9223372036854775807) :
    Calls Tryz.prog 40 #[.slice a l.length cap, .slice a2 m.length cap2, .int .i64 many] w (IntP (mZ l m many) (mE l m) w) := by
  unfold mZ mE
  by_cases h1 : listsE l.length m.length = 0
  · rw [if_pos h1, h1]
    obtain ⟨e1, e2⟩ := listsE_ok h1
    rw [← e1]
    exact exact_Matches_ok l.length a a2 cap cap2 l m many w h h2 rfl e1.symm e2 hs
  · rw [if_neg h1]
    exact exact_Matches_bad a a2 l.length m.length cap cap2 many _ w (lists_panics a a2 _ _ cap cap2 h1)
def SomeB (w : World) (e : Ending) (w' : World) : Prop := (∃ b, e = .returned (.bool b)) ∧ w = w'
end Go.Proofs.YtmcbbhlglccmgaaGreat

