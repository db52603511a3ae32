/- RatioTextSpec: the Go law returns true at every input, and its arguments read as before; the tied card. -/
import Derived.Test.YtnpeakahiedeoaaGreatDoorBase
import Derived.ProofKit
import Derived.OpenShut
import Derived.Deep.Slices
import Derived.Lib.SmallJoins
import Derived.ChangeMaps5
import Derived.Test.YtnpeakahiedeoaaGreatDoorQL0
import Derived.KernelRfl
import Derived.Test.YtnpeakahiedeoaaGreatDoorQM3
import Derived.Test.YtnpeakahiedeoaaGreatDoorPRefT
import Derived.Test.YtnpeakahiedeoaaGreatDoorPRefRd
import Derived.Deep.LoopGhost
import Derived.Test.YtnpeakahiedeoaaGreatDoorQSane
import Derived.Test.YtnpeakahiedeoaaGreatDoorRows
import Derived.Test.YtnpeakahiedeoaaGreatDoorCards
import Derived.Test.YtnpeakahiedeoaaGreatDoorTie
import Derived.LaidMore
import Derived.Lay
import Derived.SevenTiedAt
import Derived.Stop.Joined
import Derived.ShutString
import Derived.ChangeOld
import Derived.Below
namespace Go.Proofs.YtnpeakahiedeoaaGreatDoor
open Go.RowKit Go Go.Deep Go.WideShapes Go.ChangeShapes
set_option maxRecDepth 100000

section
variable {H : Type} {enc : TypeId × Value → H} {P : Program} {w : World} {base : Nat} {held : Bool}

/-- A slice that came in reads as a list, its elements by whatever reading each has. -/
theorem slOf_of_trod {α : Type} [Inhabited α] {R : World → Value → α → Prop} {t e : TypeId} {fuel : Nat} {v : Value} {x : DataW H × List MemPlace} (ht : P.underlying t = some (.slice e)) (hc : P.cellsOf e = 1)
    (hR : ∀ n u y, DataW.trod enc P w base (fun _ => true) held n e [u] = some y → ∃ z, R w u z) (h : DataW.trod enc P w base (fun _ => true) held fuel t [v] = some x) :
    ∃ a l cap, v = .slice a (List.length l) cap ∧ SlOf R w a cap l := by
  rcases open_slice1 ht hc h with ⟨hcs, _⟩ | ⟨a, len, cap, m, n, V, D, Pl, hcs, hb, hl, hm, hmm, _, hx⟩
  · simp only [List.cons.injEq, and_true] at hcs
    subst hcs
    exact ⟨none, [], 0, rfl, ⟨Nat.le_refl _, by omega, fun _ => rfl, fun A hA => by cases hA⟩⟩
  · simp only [List.cons.injEq, and_true] at hcs
    subst hcs
    simp only [if_true] at hmm
    obtain ⟨f, hf⟩ := choose_lt (α := α) (n := m) (p := fun i z => R w (V i) z) (fun i hi => hR n (V i) _ (hx i hi).2)
    refine ⟨some a, (List.range len).map f, cap, by simp, ⟨by simpa using hl, by unfold maxLen at hm; omega, fun h => by (cases h), fun A hA i hi => ?_⟩⟩
    cases hA
    simp only [List.length_map, List.length_range] at hi
    have hc0 := (hx i (by omega)).1
    have hs : a.spot = none := by
      have := World.cell?_spot (hx 0 (by omega)).1
      unfold Addr.add at this
      simpa using this
    refine ⟨hs, V i, ?_, by simpa using hf i (by omega)⟩
    obtain ⟨b, o, s⟩ := a
    simp only at hs
    subst hs
    rw [← hc0]
    congr 1
    unfold Addr.add
    split <;> simp_all

theorem isInt_of_trod {t : TypeId} (ht : P.underlying t = some (.int .i64)) (n : Nat) (u : Value) (y : DataW H × List MemPlace) (h : DataW.trod enc P w base (fun _ => true) held n t [u] = some y) : ∃ z, IsInt w u z := by
  obtain ⟨x, h1, _, hw⟩ := DataW.trod_int ht h
  simp only [List.cons.injEq, and_true] at h1
  refine ⟨x, h1, ?_⟩
  have := bounds_i64 hw
  exact ⟨this.1, this.2⟩
theorem isBool_of_trod {t : TypeId} (ht : P.underlying t = some .bool) (n : Nat) (u : Value) (y : DataW H × List MemPlace) (h : DataW.trod enc P w base (fun _ => true) held n t [u] = some y) : ∃ z, IsBool w u z := by
  obtain ⟨b, h1, _⟩ := DataW.trod_bool ht h
  simp only [List.cons.injEq, and_true] at h1
  exact ⟨b, h1⟩
theorem isInts_of_trod {t e : TypeId} (ht : P.underlying t = some (.slice e)) (he : P.underlying e = some (.int .i64)) (hc : P.cellsOf e = 1) (n : Nat) (u : Value) (y : DataW H × List MemPlace)
    (h : DataW.trod enc P w base (fun _ => true) held n t [u] = some y) : ∃ z, IsInts w u z := by
  obtain ⟨a, l, cap, h1, h2⟩ := slOf_of_trod (R := IsInt) ht hc (fun n u y h => isInt_of_trod he n u y h) h
  exact ⟨l, a, cap, h1, h2⟩
theorem isBools_of_trod {t e : TypeId} (ht : P.underlying t = some (.slice e)) (he : P.underlying e = some .bool) (hc : P.cellsOf e = 1) (n : Nat) (u : Value) (y : DataW H × List MemPlace)
    (h : DataW.trod enc P w base (fun _ => true) held n t [u] = some y) : ∃ z, IsBools w u z := by
  obtain ⟨a, l, cap, h1, h2⟩ := slOf_of_trod (R := IsBool) ht hc (fun n u y h => isBool_of_trod he n u y h) h
  exact ⟨l, a, cap, h1, h2⟩

open Go.Joins
theorem open_big {v : Value} {d : DataW H} {p : List MemPlace} {r : Reach} {b0 : Nat} (hv : Value.okWide Tryz.prog w r b0 24 v) (h : DataW.Trod enc Tryz.prog w base (fun _ => true) held 24 v d p) :
    ∃ (neg : Bool) (a : Option Addr) (cap : Nat) (l : List Int), v = .agg #[.bool neg, .slice a l.length cap] ∧ Ints w a cap l := by
  obtain ⟨v0, v1, y0, y1, n, rfl, _, _, h0, h1⟩ := open_agg2 Tryz.underlying24 (by kernel_rfl) (by kernel_rfl) hv h
  obtain ⟨neg, rfl⟩ := isBool_of_trod (w := w) Tryz.underlying4 _ _ _ h0
  obtain ⟨a, l, cap, rfl, hl⟩ := slOf_of_trod (R := IsInt) Tryz.underlying22 (by kernel_rfl) (fun n u y h => isInt_of_trod Tryz.underlying3 n u y h) h1
  exact ⟨neg, a, cap, l, rfl, hl⟩
theorem open_str {v : Value} {d : DataW H} {p : List MemPlace} {r : Reach} {b0 : Nat} (hv : Value.okWide Tryz.prog w r b0 9 v) (h : DataW.Trod enc Tryz.prog w base (fun _ => true) held 9 v d p) :
    ∃ s : ByteArray, v = .string s ∧ s.size ≤ maxLen := by
  obtain ⟨s, rfl, _, _, hs⟩ := Go.ChangeMaps.open_string Tryz.underlying9 hv h
  exact ⟨s, rfl, hs⟩
theorem open_ints1 {v : Value} {d : DataW H} {p : List MemPlace} {r : Reach} {b0 : Nat} (hv : Value.okWide Tryz.prog w r b0 22 v) (h : DataW.Trod enc Tryz.prog w base (fun _ => true) held 22 v d p) :
    ∃ (a : Option Addr) (cap : Nat) (l : List Int), v = .slice a l.length cap ∧ Ints w a cap l := by
  obtain ⟨a0, n0, c0, rfl⟩ := okWide_slice Tryz.underlying22 hv
  obtain ⟨fuel, hf⟩ := h
  obtain ⟨a, l, cap, e, hl⟩ := slOf_of_trod (R := IsInt) Tryz.underlying22 (by kernel_rfl) (fun n u y h => isInt_of_trod Tryz.underlying3 n u y h) hf
  exact ⟨a, cap, l, e, hl⟩
theorem open_i64 {v : Value} {d : DataW H} {p : List MemPlace} {r : Reach} {b0 : Nat} (hv : Value.okWide Tryz.prog w r b0 3 v) (h : DataW.Trod enc Tryz.prog w base (fun _ => true) held 3 v d p) :
    ∃ n : Int, v = .int .i64 n ∧ -9223372036854775808 ≤ n ∧ n ≤ 9223372036854775807 := by
  obtain ⟨a, rfl, _, _, hw⟩ := open_int Tryz.underlying3 hv h
  exact ⟨a, rfl, bounds_i64 hw⟩
theorem open_u8 {v : Value} {d : DataW H} {p : List MemPlace} {r : Reach} {b0 : Nat} (hv : Value.okWide Tryz.prog w r b0 5 v) (h : DataW.Trod enc Tryz.prog w base (fun _ => true) held 5 v d p) :
    ∃ n : Int, v = .int .u8 n ∧ 0 ≤ n ∧ n ≤ 255 := by
  obtain ⟨a, rfl, _, _, hw⟩ := open_int Tryz.underlying5 hv h
  exact ⟨a, rfl, bounds_u8 hw⟩
end
end Go.Proofs.YtnpeakahiedeoaaGreatDoor

namespace Go.Proofs.YtnpeakahiedeoaaGreatDoor
open Go.RowKit Go Go.Deep Go.WideShapes Go.ChangeShapes
set_option maxRecDepth 100000
section
variable {H : Type} {enc : TypeId × Value → H} {w : World} {base : Nat}
open Go.Joins
theorem big_trod {n : Nat} {u v : Value} {y : DataW H × List MemPlace} (h : DataW.trod enc Tryz.prog w base (fun _ => true) true n 24 [u, v] = some y) : ∃ (neg : Bool) (a : Option Addr) (cap : Nat) (l : List Int), u = .bool neg ∧ v = .slice a l.length cap ∧ Ints w a cap l := by
  obtain ⟨y0, y1, k, hx, _, h0, h1⟩ := trod_struct2 Tryz.underlying24 h
  rw [show Tryz.prog.cellsOf 4 = 1 by kernel_rfl] at h0
  rw [show Tryz.prog.cellsOf 22 = 1 by kernel_rfl] at h1
  obtain ⟨neg, rfl⟩ := isBool_of_trod (w := w) Tryz.underlying4 _ _ _ h0
  obtain ⟨a, l, cap, rfl, hl⟩ := slOf_of_trod (R := IsInt) Tryz.underlying22 (by kernel_rfl) (fun n u y h => isInt_of_trod Tryz.underlying3 n u y h) h1
  exact ⟨neg, a, cap, l, rfl, rfl, hl⟩
theorem open_rat {v : Value} {d : DataW H} {p : List MemPlace} {r : Reach} {b0 : Nat} (hv : Value.okWide Tryz.prog w r b0 26 v) (h : DataW.Trod enc Tryz.prog w base (fun _ => true) true 26 v d p) :
    ∃ x : RatA, v = x.val ∧ RatI w x := by
  obtain ⟨cs, rfl, hsz⟩ := okWide_struct Tryz.underlying26 hv
  obtain ⟨c0, c1, c2, c3, rfl⟩ := array4 (hsz.trans (by kernel_rfl))
  obtain ⟨fuel, hf⟩ := h
  obtain ⟨y0, y1, n, hx, _, h0, h1⟩ := trod_struct2 Tryz.underlying26 hf
  rw [show Tryz.prog.cellsOf 24 = 2 by kernel_rfl] at h0 h1
  obtain ⟨n1, a, ca, l, rfl, rfl, hi⟩ := big_trod (u := c0) (v := c1) h0
  obtain ⟨n2, b, cb, m, rfl, rfl, hj⟩ := big_trod (u := c2) (v := c3) h1
  exact ⟨⟨n1, a, ca, l, n2, b, cb, m⟩, rfl, hi, hj⟩
end
end Go.Proofs.YtnpeakahiedeoaaGreatDoor

namespace Go.Proofs.YtnpeakahiedeoaaGreatDoor
open Go.RowKit Go BigFrame
set_option maxRecDepth 100000
set_option linter.unusedSimpArgs false
set_option linter.unusedVariables false

/-! ref10.Text, Read. -/
set_option maxHeartbeats 2000000 in
theorem rText_one {v : Value} {r : Rat} {w : World} (hv : RatV w v r) (l1 : Len r.num) (l2 : Len (r.den : Int)) (hb : (txtL r.num).length ≤ 1000 ∧ (txtL (r.den : Int)).length ≤ 1000) (h1 : r.den = 1) : Calls Tryz.prog 21 #[v] w fun e w' => e = .returned (.tuple #[.string (textR r), .int .i64 0]) ∧ Ext w w' := by
  have L0 := Lib.hid (And.intro l1 l2)
  obtain ⟨nx, ax, qx, cx, bx, kx, dx, rfl⟩ := hv.form
  have Vx := Lib.hid hv
  have HB := Lib.hid (txt_sizes hb)
  have HR := Lib.hid (show textR r = ⟨(txtL r.num).toArray⟩ from by unfold textR; rw [if_pos h1])
  have HD : Hid (((⟨(txtL (r.den : Int)).toArray⟩ : ByteArray) = ⟨#[49]⟩) ↔ r.den = 1) := Lib.hid (txt_one.trans (by omega))
  have HO := Lib.hid h1
  clear hv l1 l2 hb h1
  have HTN := Lib.hid (fun W (h : RatV W (.agg #[.bool nx, .slice ax qx cx, .bool false, .slice bx kx dx]) r) => rText_val h.num L0.out.1)
  have HTD := Lib.hid (fun W (h : RatV W (.agg #[.bool nx, .slice ax qx cx, .bool false, .slice bx kx dx]) r) => rText_val h.den L0.out.2)
  obtain ⟨x1, hw, hx, Kx⟩ := boxQ1 w #[.bool nx, .slice ax qx cx, .bool false, .slice bx kx dx] 26
  replace hw := Lib.hid hw
  have Vx := Lib.hid (Vx.out.ext hx)
  go_enter Tryz.func21, Tryz.ntmps21
  go_upto_region 1 with fail
  try simp only [Nat.add_assoc, Nat.reduceAdd, Nat.add_zero]
  rw [hw.out]
  clear hw
  have hs0 := hx.size
  obtain ⟨cx0, cx1, cx2, cx3⟩ := bk4 Kx
  go_wp2_with fail
  with_reducible refine (rcheckR_val Vx.out L0.out.1 L0.out.2).mono ?_
  clear cx0 cx1 cx2 cx3
  rintro e x2 ⟨rfl, hy⟩
  replace hx := hx.trans hy
  replace Kx := kE Kx hy
  replace Vx := Lib.hid (Vx.out.ext hy)
  clear hy
  obtain ⟨cx0, cx1, cx2, cx3⟩ := bk4 Kx
  go_wp2_with fail
  with_reducible refine (HTN.out _ Vx.out).mono ?_
  clear cx0 cx1 cx2 cx3
  rintro e x3 ⟨rfl, hy⟩
  replace hx := hx.trans hy
  replace Kx := kE Kx hy
  replace Vx := Lib.hid (Vx.out.ext hy)
  clear hy
  obtain ⟨cx0, cx1, cx2, cx3⟩ := bk4 Kx
  go_wp2_with fail
  with_reducible refine (HTD.out _ Vx.out).mono ?_
  clear cx0 cx1 cx2 cx3
  rintro e x4 ⟨rfl, hy⟩
  replace hx := hx.trans hy
  replace Kx := kE Kx hy
  replace Vx := Lib.hid (Vx.out.ext hy)
  clear hy
  have ht := HD.out.2 HO.out
  generalize (⟨(txtL r.num).toArray⟩ : ByteArray) = tn at *
  generalize (⟨(txtL (r.den : Int)).toArray⟩ : ByteArray) = td at *
  subst ht
  obtain ⟨cx0, cx1, cx2, cx3⟩ := bk4 Kx
  go_wp2_with fail
  go_ret2
  exact ⟨by rw [HR.out]; rfl, hx⟩
set_option maxHeartbeats 2000000 in
theorem rText_more {v : Value} {r : Rat} {w : World} (hv : RatV w v r) (l1 : Len r.num) (l2 : Len (r.den : Int)) (hb : (txtL r.num).length ≤ 1000 ∧ (txtL (r.den : Int)).length ≤ 1000) (h1 : r.den ≠ 1) : Calls Tryz.prog 21 #[v] w fun e w' => e = .returned (.tuple #[.string (textR r), .int .i64 0]) ∧ Ext w w' := by
  have L0 := Lib.hid (And.intro l1 l2)
  obtain ⟨nx, ax, qx, cx, bx, kx, dx, rfl⟩ := hv.form
  have Vx := Lib.hid hv
  have HB := Lib.hid (txt_sizes hb)
  have HR := Lib.hid (show textR r = ⟨(txtL r.num).toArray⟩ ++ (⟨#[47]⟩ ++ ⟨(txtL (r.den : Int)).toArray⟩) from by unfold textR; rw [if_neg h1])
  have HD : Hid (((⟨(txtL (r.den : Int)).toArray⟩ : ByteArray) = ⟨#[49]⟩) ↔ r.den = 1) := Lib.hid (txt_one.trans (by omega))
  have HO := Lib.hid h1
  clear hv l1 l2 hb h1
  have HTN := Lib.hid (fun W (h : RatV W (.agg #[.bool nx, .slice ax qx cx, .bool false, .slice bx kx dx]) r) => rText_val h.num L0.out.1)
  have HTD := Lib.hid (fun W (h : RatV W (.agg #[.bool nx, .slice ax qx cx, .bool false, .slice bx kx dx]) r) => rText_val h.den L0.out.2)
  obtain ⟨x1, hw, hx, Kx⟩ := boxQ1 w #[.bool nx, .slice ax qx cx, .bool false, .slice bx kx dx] 26
  replace hw := Lib.hid hw
  have Vx := Lib.hid (Vx.out.ext hx)
  go_enter Tryz.func21, Tryz.ntmps21
  go_upto_region 1 with fail
  try simp only [Nat.add_assoc, Nat.reduceAdd, Nat.add_zero]
  rw [hw.out]
  clear hw
  have hs0 := hx.size
  obtain ⟨cx0, cx1, cx2, cx3⟩ := bk4 Kx
  go_wp2_with fail
  with_reducible refine (rcheckR_val Vx.out L0.out.1 L0.out.2).mono ?_
  clear cx0 cx1 cx2 cx3
  rintro e x2 ⟨rfl, hy⟩
  replace hx := hx.trans hy
  replace Kx := kE Kx hy
  replace Vx := Lib.hid (Vx.out.ext hy)
  clear hy
  obtain ⟨cx0, cx1, cx2, cx3⟩ := bk4 Kx
  go_wp2_with fail
  with_reducible refine (HTN.out _ Vx.out).mono ?_
  clear cx0 cx1 cx2 cx3
  rintro e x3 ⟨rfl, hy⟩
  replace hx := hx.trans hy
  replace Kx := kE Kx hy
  replace Vx := Lib.hid (Vx.out.ext hy)
  clear hy
  obtain ⟨cx0, cx1, cx2, cx3⟩ := bk4 Kx
  go_wp2_with fail
  with_reducible refine (HTD.out _ Vx.out).mono ?_
  clear cx0 cx1 cx2 cx3
  rintro e x4 ⟨rfl, hy⟩
  replace hx := hx.trans hy
  replace Kx := kE Kx hy
  replace Vx := Lib.hid (Vx.out.ext hy)
  clear hy
  have ht := mt HD.out.1 HO.out
  generalize (⟨(txtL r.num).toArray⟩ : ByteArray) = tn at *
  generalize (⟨(txtL (r.den : Int)).toArray⟩ : ByteArray) = td at *
  have ht5 := bytes_ne ht
  have ht6 : (td.toList == [49]) = false := by simpa using ht5
  obtain ⟨hb1, hb2⟩ := HB.out
  have hn1 : ¬ (9223372036854775807 < tn.size + 1) := by omega
  have hn2 : ¬ (9223372036854775807 < tn.size + 1 + td.size) := by omega
  clear hb1 hb2
  obtain ⟨cx0, cx1, cx2, cx3⟩ := bk4 Kx
  go_wp2_with fail
  go_ret2
  exact ⟨by rw [HR.out]; simp [ByteArray.append_assoc], hx⟩
theorem rText_valR {v : Value} {r : Rat} {w : World} (hv : RatV w v r) (l1 : Len r.num) (l2 : Len (r.den : Int)) (hb : (txtL r.num).length ≤ 1000 ∧ (txtL (r.den : Int)).length ≤ 1000) : Calls Tryz.prog 21 #[v] w fun e w' => e = .returned (.tuple #[.string (textR r), .int .i64 0]) ∧ Ext w w' := by
  by_cases h1 : r.den = 1
  · exact rText_one hv l1 l2 hb h1
  · exact rText_more hv l1 l2 hb h1
end Go.Proofs.YtnpeakahiedeoaaGreatDoor

namespace Go.Proofs.YtnpeakahiedeoaaGreatDoor
open Go.RowKit Go BigFrame
set_option maxRecDepth 100000
set_option linter.unusedSimpArgs false
set_option linter.unusedVariables false

/-! ref10.Read. -/
set_option maxHeartbeats 4000000 in
theorem rRead_a1 (s sn sd : ByteArray) (K : Nat) (z d : Int) (w : World) (hs : s.size ≤ 1000) (hK : K = s.size) (hb : ∀ j, j < K → ∀ b, s.data.toList[j]? = some b → b ≠ 47) (hsn : s.extract 0 K = sn) (HN : ∀ W, Calls Tryz.prog 66 #[.string sn] W (fun e w' => e = .returned (.tuple #[zeroBig, .int .i64 90]) ∧ Ext W w')) : Calls Tryz.prog 23 #[.string s] w (RatE 100 w) := by
  have HN := Lib.hid HN
  have HBY := Lib.hid (And.intro hb trivial)
  clear hb
  have HSN := Lib.hid hsn
  have HSL : Hid (s.data.toList.length = s.size) := Lib.hid (by rw [Array.length_toList]; rfl)
  clear hsn
  subst hK
  obtain ⟨x1, hw, hx, Kr⟩ := boxQ1 w #[.bool false, .slice none 0 0, .bool false, .slice none 0 0] 26
  replace hw := Lib.hid hw
  go_enter Tryz.func23, Tryz.ntmps23
  go_upto_region 1 with fail
  try simp only [Nat.add_assoc, Nat.reduceAdd, Nat.add_zero]
  rw [hw.out]
  clear hw
  have hs0 := hx.size
  go_wp2_with fail
  go_loopw [4] (fun i wr => ∃ k : Nat, k ≤ s.size ∧ i = .int .i64 k ∧ Ext x1 wr) (fun i _ => s.size - (intOf i).toNat)
  case atStart => exact ⟨0, Nat.zero_le _, rfl, Ext.refl _⟩
  case round =>
    obtain ⟨k, hkk, rfl, hxr⟩ := hrel
    by_cases hkn : k < s.size
    · have hks : k < s.size := by omega
      obtain ⟨b, hb⟩ : ∃ b, s.data.toList[k]? = some b := ⟨_, List.getElem?_eq_getElem (by rw [HSL.out]; exact hks)⟩
      have hbb : s[k]'hks = b := by
        rw [List.getElem?_eq_getElem (by rw [HSL.out]; exact hks)] at hb
        exact Option.some.inj hb
      have hne : b ≠ 47 := HBY.out.1 k hkn b hb
      obtain ⟨bv, hbv⟩ : ∃ bv : Int, ((b.toNat : Nat) : Int) = bv := ⟨_, rfl⟩
      have hbv2 : (((s[k]'hks).toNat : Nat) : Int) = bv := by rw [hbb]; exact hbv
      have hv : bv ≠ 47 := fun e => hne (UInt8.toNat_inj.1 (by show b.toNat = 47; omega))
      have v1 : (bv == 47) = false := by simpa using hv
      have v2 : (!(bv == 47)) = true := by simpa using hv
      have d1 : decide (k < s.size) = true := by simpa using hks
      have d2 : decide ((k : Int) < (s.size : Int)) = true := by simp only [decide_eq_true_eq]; omega
      have g1 : (0 : Int) ≤ (k : Int) := by omega
      clear hb hbb hne hv hbv
      go_wp2_with fail
      go_roundw
      case rel => exact ⟨k + 1, by omega, by go_num, hxr⟩
      case measure => simp [intOf]; omega
    · obtain rfl : k = s.size := by omega
      have g1 : (0 : Int) ≤ (s.size : Int) := by omega
      clear hkn
      replace hx := hx.trans hxr
      replace Kr := Lib.hid (Kr.out.ext hxr)
      clear hxr
      have hsn := HSN.out
      go_wp2_with fail
      with_reducible refine (HN.out _).mono ?_
      rintro e x2 ⟨rfl, hy⟩
      replace hx := hx.trans hy
      replace Kr := kE Kr hy
      clear hy
      go_upto_region 5 with fail
      have hl := Ext.alloc x2 (.cells #[.bool false, .slice none 0 0] 24)
      have lrn : w.heap.size < x2.heap.size := Kr.out.lt
      have hpn : w.heap.size ≤ x2.heap.size := hx.size
      replace hx := hx.trans hl
      replace Kr := kE Kr hl
      have Kn := Lib.hid (Blk.new0 x2 #[.bool false, .slice none 0 0] 24)
      clear hl
      generalize x2.alloc (.cells #[.bool false, .slice none 0 0] 24) = x3 at *
      generalize x2.heap.size = pn at *
      obtain ⟨cr0, cr1, cr2, cr3⟩ := bk4 Kr
      obtain ⟨cn0, cn1⟩ := bk2 Kn
      have hsz := hx.size
      go_wp2_with fail
      with_reducible refine (ref_Make 1 _ (by omega)).mono ?_
      clear cr0 cr1 cr2 cr3 cn0 cn1
      rintro e x4 ⟨v, rfl, hv, hy⟩
      replace hx := hx.trans hy
      replace Kr := kE Kr hy
      replace Kn := kE Kn hy
      clear hy
      obtain ⟨no, ao, qo, co, rfl, hv', hf'⟩ := hv.two
      have Vo := Lib.hid hv'
      have Fo := Lib.hid (fun A hA => Nat.le_trans hsz (hf' A hA))
      clear hv' hf' hsz
      go_upto_region 6 with fail
      have hl := Ext.alloc x4 (.cells #[.bool no, .slice ao qo co] 24)
      have lro : w.heap.size < x4.heap.size := Kr.out.lt
      have lno : pn < x4.heap.size := Kn.out.lt
      have hpo : w.heap.size ≤ x4.heap.size := hx.size
      replace hx := hx.trans hl
      replace Kr := kE Kr hl
      replace Kn := kE Kn hl
      replace Vo := Lib.hid (Vo.out.ext hl)
      have Ko := Lib.hid (Blk.new0 x4 #[.bool no, .slice ao qo co] 24)
      clear hl
      generalize x4.alloc (.cells #[.bool no, .slice ao qo co] 24) = x5 at *
      generalize x4.heap.size = po at *
      obtain ⟨cr0, cr1, cr2, cr3⟩ := bk4 Kr
      obtain ⟨cn0, cn1⟩ := bk2 Kn
      obtain ⟨co0, co1⟩ := bk2 Ko
      go_upto_region 10 with fail
      have hl := Ext.alloc x5 (.cells #[.bool false, .slice none 0 0, .bool no, .slice ao qo co] 26)
      have lry : w.heap.size < x5.heap.size := Kr.out.lt
      have lny : pn < x5.heap.size := Kn.out.lt
      have loy : po < x5.heap.size := Ko.out.lt
      have hpy : w.heap.size ≤ x5.heap.size := hx.size
      clear cr0 cr1 cr2 cr3 cn0 cn1 co0 co1
      replace hx := hx.trans hl
      replace Kr := kE Kr hl
      replace Kn := kE Kn hl
      replace Ko := kE Ko hl
      replace Vo := Lib.hid (Vo.out.ext hl)
      have Ky := Lib.hid (Blk.new0 x5 #[.bool false, .slice none 0 0, .bool no, .slice ao qo co] 26)
      clear hl
      generalize x5.alloc (.cells #[.bool false, .slice none 0 0, .bool no, .slice ao qo co] 26) = x6 at *
      generalize x5.heap.size = py at *
      obtain ⟨cr0, cr1, cr2, cr3⟩ := bk4 Kr
      obtain ⟨cn0, cn1⟩ := bk2 Kn
      obtain ⟨co0, co1⟩ := bk2 Ko
      obtain ⟨cy0, cy1, cy2, cy3⟩ := bk4 Ky
      go_upto_region 11 with fail
      clear cr0 cr1 cr2 cr3 cn0 cn1 co0 co1 cy0 cy1 cy2 cy3
      clear Kn Ko
      clear Vo
      obtain ⟨cr0, cr1, cr2, cr3⟩ := bk4 Kr
      obtain ⟨cy0, cy1, cy2, cy3⟩ := bk4 Ky
      obtain ⟨g0, z0, g1, z1, g2, z2, g3, z3⟩ := bp4 Kr (.bool false) (.slice none 0 0) (.bool false) (.slice none 0 0)
      go_wp2_with fail
      clear g0 z0 g1 z1 g2 z2 g3 z3
      clear cr0 cr1 cr2 cr3 cy0 cy1 cy2 cy3
      replace hx := bx4 hx (w.heap.size) (.bool false) (.slice none 0 0) (.bool false) (.slice none 0 0) (by omega)
      replace Kr := bs4 Kr (.bool false) (.slice none 0 0) (.bool false) (.slice none 0 0)
      replace Ky := bo4 Ky (w.heap.size) (.bool false) (.slice none 0 0) (.bool false) (.slice none 0 0) (by omega)
      generalize ((((x6).setCell ⟨w.heap.size, 0, none⟩ (.bool false)).setCell ⟨w.heap.size, 1, none⟩ (.slice none 0 0)).setCell ⟨w.heap.size, 2, none⟩ (.bool false)).setCell ⟨w.heap.size, 3, none⟩ (.slice none 0 0) = x7 at *
      obtain ⟨cr0, cr1, cr2, cr3⟩ := bk4 Kr
      refine bodyPost_ret (v := .tuple #[.agg #[.bool false, .slice none 0 0, .bool false, .slice none 0 0], .int .i64 100]) (by simp [results, Tryz.results23, go_sem, cr0, cr1, cr2, cr3]) rfl ?_
      exact ⟨rfl, hx⟩
set_option maxHeartbeats 4000000 in
theorem rRead_a2 (s sn sd : ByteArray) (K : Nat) (z d : Int) (w : World) (hs : s.size ≤ 1000) (hK : K = s.size) (hb : ∀ j, j < K → ∀ b, s.data.toList[j]? = some b → b ≠ 47) (hsn : s.extract 0 K = sn) (HN : ∀ W, Calls Tryz.prog 66 #[.string sn] W (OneP z W)) (lz : Len z) (ld : Len (1 : Int)) (hck : decide (0 < (1 : Int) ∧ Int.gcd z (1 : Int) = 1) = true) (hx1 : (txtL z).length ≤ 1000 ∧ (txtL (1 : Int)).length ≤ 1000) (heq : ((textR (Rat.divInt z (1 : Int))).toList == s.toList) = true) : Calls Tryz.prog 23 #[.string s] w (RatP (Rat.divInt z (1 : Int)) w) := by
  have HN := Lib.hid HN
  have HK := Lib.hid (And.intro lz (And.intro ld hck))
  clear lz ld hck
  have HQ := Lib.hid (And.intro hx1 heq)
  clear hx1 heq
  have HBY := Lib.hid (And.intro hb trivial)
  clear hb
  have HSN := Lib.hid hsn
  have HSL : Hid (s.data.toList.length = s.size) := Lib.hid (by rw [Array.length_toList]; rfl)
  clear hsn
  subst hK
  obtain ⟨x1, hw, hx, Kr⟩ := boxQ1 w #[.bool false, .slice none 0 0, .bool false, .slice none 0 0] 26
  replace hw := Lib.hid hw
  go_enter Tryz.func23, Tryz.ntmps23
  go_upto_region 1 with fail
  try simp only [Nat.add_assoc, Nat.reduceAdd, Nat.add_zero]
  rw [hw.out]
  clear hw
  have hs0 := hx.size
  go_wp2_with fail
  go_loopw [4] (fun i wr => ∃ k : Nat, k ≤ s.size ∧ i = .int .i64 k ∧ Ext x1 wr) (fun i _ => s.size - (intOf i).toNat)
  case atStart => exact ⟨0, Nat.zero_le _, rfl, Ext.refl _⟩
  case round =>
    obtain ⟨k, hkk, rfl, hxr⟩ := hrel
    by_cases hkn : k < s.size
    · have hks : k < s.size := by omega
      obtain ⟨b, hb⟩ : ∃ b, s.data.toList[k]? = some b := ⟨_, List.getElem?_eq_getElem (by rw [HSL.out]; exact hks)⟩
      have hbb : s[k]'hks = b := by
        rw [List.getElem?_eq_getElem (by rw [HSL.out]; exact hks)] at hb
        exact Option.some.inj hb
      have hne : b ≠ 47 := HBY.out.1 k hkn b hb
      obtain ⟨bv, hbv⟩ : ∃ bv : Int, ((b.toNat : Nat) : Int) = bv := ⟨_, rfl⟩
      have hbv2 : (((s[k]'hks).toNat : Nat) : Int) = bv := by rw [hbb]; exact hbv
      have hv : bv ≠ 47 := fun e => hne (UInt8.toNat_inj.1 (by show b.toNat = 47; omega))
      have v1 : (bv == 47) = false := by simpa using hv
      have v2 : (!(bv == 47)) = true := by simpa using hv
      have d1 : decide (k < s.size) = true := by simpa using hks
      have d2 : decide ((k : Int) < (s.size : Int)) = true := by simp only [decide_eq_true_eq]; omega
      have g1 : (0 : Int) ≤ (k : Int) := by omega
      clear hb hbb hne hv hbv
      go_wp2_with fail
      go_roundw
      case rel => exact ⟨k + 1, by omega, by go_num, hxr⟩
      case measure => simp [intOf]; omega
    · obtain rfl : k = s.size := by omega
      have g1 : (0 : Int) ≤ (s.size : Int) := by omega
      clear hkn
      replace hx := hx.trans hxr
      replace Kr := Lib.hid (Kr.out.ext hxr)
      clear hxr
      have hsn := HSN.out
      go_wp2_with fail
      have hsz := hx.size
      with_reducible refine (HN.out _).mono ?_
      rintro e x2 ⟨v, rfl, hv, hy⟩
      replace hx := hx.trans hy
      replace Kr := kE Kr hy
      clear hy
      obtain ⟨nn, an, qn, cn, rfl, hv', hf'⟩ := hv.two
      have Vn := Lib.hid hv'
      have Fn := Lib.hid (fun A hA => Nat.le_trans hsz (hf' A hA))
      clear hv' hf' hsz
      go_upto_region 5 with fail
      have hl := Ext.alloc x2 (.cells #[.bool nn, .slice an qn cn] 24)
      have lrn : w.heap.size < x2.heap.size := Kr.out.lt
      have hpn : w.heap.size ≤ x2.heap.size := hx.size
      replace hx := hx.trans hl
      replace Kr := kE Kr hl
      replace Vn := Lib.hid (Vn.out.ext hl)
      have Kn := Lib.hid (Blk.new0 x2 #[.bool nn, .slice an qn cn] 24)
      clear hl
      generalize x2.alloc (.cells #[.bool nn, .slice an qn cn] 24) = x3 at *
      generalize x2.heap.size = pn at *
      obtain ⟨cr0, cr1, cr2, cr3⟩ := bk4 Kr
      obtain ⟨cn0, cn1⟩ := bk2 Kn
      have hsz := hx.size
      go_wp2_with fail
      with_reducible refine (ref_Make 1 _ (by omega)).mono ?_
      clear cr0 cr1 cr2 cr3 cn0 cn1
      rintro e x4 ⟨v, rfl, hv, hy⟩
      replace hx := hx.trans hy
      replace Kr := kE Kr hy
      replace Kn := kE Kn hy
      replace Vn := Lib.hid (Vn.out.ext hy)
      clear hy
      obtain ⟨no, ao, qo, co, rfl, hv', hf'⟩ := hv.two
      have Vo := Lib.hid hv'
      have Fo := Lib.hid (fun A hA => Nat.le_trans hsz (hf' A hA))
      clear hv' hf' hsz
      go_upto_region 6 with fail
      have hl := Ext.alloc x4 (.cells #[.bool no, .slice ao qo co] 24)
      have lro : w.heap.size < x4.heap.size := Kr.out.lt
      have lno : pn < x4.heap.size := Kn.out.lt
      have hpo : w.heap.size ≤ x4.heap.size := hx.size
      replace hx := hx.trans hl
      replace Kr := kE Kr hl
      replace Kn := kE Kn hl
      replace Vn := Lib.hid (Vn.out.ext hl)
      replace Vo := Lib.hid (Vo.out.ext hl)
      have Ko := Lib.hid (Blk.new0 x4 #[.bool no, .slice ao qo co] 24)
      clear hl
      generalize x4.alloc (.cells #[.bool no, .slice ao qo co] 24) = x5 at *
      generalize x4.heap.size = po at *
      obtain ⟨cr0, cr1, cr2, cr3⟩ := bk4 Kr
      obtain ⟨cn0, cn1⟩ := bk2 Kn
      obtain ⟨co0, co1⟩ := bk2 Ko
      go_upto_region 10 with fail
      have hl := Ext.alloc x5 (.cells #[.bool nn, .slice an qn cn, .bool no, .slice ao qo co] 26)
      have lry : w.heap.size < x5.heap.size := Kr.out.lt
      have lny : pn < x5.heap.size := Kn.out.lt
      have loy : po < x5.heap.size := Ko.out.lt
      have hpy : w.heap.size ≤ x5.heap.size := hx.size
      clear cr0 cr1 cr2 cr3 cn0 cn1 co0 co1
      replace hx := hx.trans hl
      replace Kr := kE Kr hl
      replace Kn := kE Kn hl
      replace Ko := kE Ko hl
      replace Vn := Lib.hid (Vn.out.ext hl)
      replace Vo := Lib.hid (Vo.out.ext hl)
      have Ky := Lib.hid (Blk.new0 x5 #[.bool nn, .slice an qn cn, .bool no, .slice ao qo co] 26)
      clear hl
      generalize x5.alloc (.cells #[.bool nn, .slice an qn cn, .bool no, .slice ao qo co] 26) = x6 at *
      generalize x5.heap.size = py at *
      obtain ⟨ln, hln, hin, hbn⟩ := Vn.out.parts
      obtain ⟨lo, hlo, hio, hbo⟩ := Vo.out.parts
      have hCK := refR_Check nn no _ _ _ _ ln lo _ hin hio
      rw [okR_eq hbn hbo HK.out.1 HK.out.2.1, HK.out.2.2, hln, hlo] at hCK
      have HCK := Lib.hid hCK
      clear hCK hln hin hbn hlo hio hbo
      obtain ⟨cr0, cr1, cr2, cr3⟩ := bk4 Kr
      obtain ⟨cn0, cn1⟩ := bk2 Kn
      obtain ⟨co0, co1⟩ := bk2 Ko
      obtain ⟨cy0, cy1, cy2, cy3⟩ := bk4 Ky
      go_wp2_with fail
      with_reducible refine (show Calls Tryz.prog 19 _ _ (fun e w' => e = .returned (.int .i64 0) ∧ Ext x6 w') from HCK.out).mono ?_
      clear cr0 cr1 cr2 cr3 cn0 cn1 co0 co1 cy0 cy1 cy2 cy3
      rintro e x7 ⟨rfl, hy⟩
      replace hx := hx.trans hy
      replace Kr := kE Kr hy
      replace Kn := kE Kn hy
      replace Ko := kE Ko hy
      replace Ky := kE Ky hy
      replace Vn := Lib.hid (Vn.out.ext hy)
      replace Vo := Lib.hid (Vo.out.ext hy)
      clear hy
      clear Kn Ko
      have hlow := divInt_low (z := z) (d := (1 : Int)) (of_decide_eq_true HK.out.2.2).1 (of_decide_eq_true HK.out.2.2).2
      have HR := Lib.hid (show RatV x7 (.agg #[.bool nn, .slice an qn cn, .bool no, .slice ao qo co]) (Rat.divInt z (1 : Int)) from RatV.mk (by rw [hlow.1]; exact Vn.out) (by rw [hlow.2]; exact Vo.out))
      have hnd : no = false := HR.out.den.pos (by omega)
      subst hnd
      have HLW := Lib.hid hlow
      clear hlow
      clear Vn
      clear Vo
      obtain ⟨cr0, cr1, cr2, cr3⟩ := bk4 Kr
      obtain ⟨cy0, cy1, cy2, cy3⟩ := bk4 Ky
      have hteq := HQ.out.2
      have hteq2 : (!((textR (Rat.divInt z (1 : Int))).toList == s.toList)) = false := by rw [hteq]; rfl
      have HT := Lib.hid (rText_valR HR.out (by rw [HLW.out.1]; exact HK.out.1) (by rw [HLW.out.2]; exact HK.out.2.1) (by rw [HLW.out.1, HLW.out.2]; exact HQ.out.1))
      generalize textR (Rat.divInt z (1 : Int)) = tt at *
      go_wp2_with fail
      with_reducible refine (HT.out).mono ?_
      clear cr0 cr1 cr2 cr3 cy0 cy1 cy2 cy3
      rintro e x8 ⟨rfl, hy⟩
      replace hx := hx.trans hy
      replace Kr := kE Kr hy
      replace Ky := kE Ky hy
      replace HR := Lib.hid (HR.out.ext hy)
      clear hy
      obtain ⟨cr0, cr1, cr2, cr3⟩ := bk4 Kr
      obtain ⟨cy0, cy1, cy2, cy3⟩ := bk4 Ky
      go_upto_region 15 with fail
      clear cr0 cr1 cr2 cr3 cy0 cy1 cy2 cy3
      obtain ⟨cr0, cr1, cr2, cr3⟩ := bk4 Kr
      obtain ⟨cy0, cy1, cy2, cy3⟩ := bk4 Ky
      obtain ⟨g0, z0, g1, z1, g2, z2, g3, z3⟩ := bp4 Kr (.bool nn) (.slice an qn cn) (.bool false) (.slice ao qo co)
      go_wp2_with fail
      clear g0 z0 g1 z1 g2 z2 g3 z3
      clear cr0 cr1 cr2 cr3 cy0 cy1 cy2 cy3
      replace HR := (by first | exact rv4 HR Kr (.bool nn) (.slice an qn cn) (.bool false) (.slice ao qo co) rfl rfl rfl rfl | exact bv4 HR Kr (.bool nn) (.slice an qn cn) (.bool false) (.slice ao qo co) rfl rfl rfl rfl)
      replace hx := bx4 hx (w.heap.size) (.bool nn) (.slice an qn cn) (.bool false) (.slice ao qo co) (by omega)
      replace Kr := bs4 Kr (.bool nn) (.slice an qn cn) (.bool false) (.slice ao qo co)
      replace Ky := bo4 Ky (w.heap.size) (.bool nn) (.slice an qn cn) (.bool false) (.slice ao qo co) (by omega)
      generalize ((((x8).setCell ⟨w.heap.size, 0, none⟩ (.bool nn)).setCell ⟨w.heap.size, 1, none⟩ (.slice an qn cn)).setCell ⟨w.heap.size, 2, none⟩ (.bool false)).setCell ⟨w.heap.size, 3, none⟩ (.slice ao qo co) = x9 at *
      obtain ⟨cr0, cr1, cr2, cr3⟩ := bk4 Kr
      refine bodyPost_ret (v := .tuple #[.agg #[.bool nn, .slice an qn cn, .bool false, .slice ao qo co], .int .i64 0]) (by simp [results, Tryz.results23, go_sem, cr0, cr1, cr2, cr3]) rfl ?_
      exact ⟨_, rfl, ⟨_, _, _, _, _, _, _, rfl, HR.out, Fn.out, Fo.out⟩, hx⟩
set_option maxHeartbeats 4000000 in
theorem rRead_b1 (s sn sd : ByteArray) (K : Nat) (z d : Int) (w : World) (hs : s.size ≤ 1000) (hK : K < s.size) (hb : ∀ j, j < K → ∀ b, s.data.toList[j]? = some b → b ≠ 47) (hk : s.data.toList[K]? = some 47) (hsn : s.extract 0 K = sn) (hsd : s.extract (K + 1) s.size = sd) (HN : ∀ W, Calls Tryz.prog 66 #[.string sn] W (fun e w' => e = .returned (.tuple #[zeroBig, .int .i64 90]) ∧ Ext W w')) (HD : ∀ W, Calls Tryz.prog 66 #[.string sd] W (OneP d W)) : Calls Tryz.prog 23 #[.string s] w (RatE 100 w) := by
  have HN := Lib.hid HN
  have HD := Lib.hid HD
  have HBY := Lib.hid (And.intro hb hk)
  clear hb hk
  have HSN := Lib.hid hsn
  have HSD := Lib.hid hsd
  have HSL : Hid (s.data.toList.length = s.size) := Lib.hid (by rw [Array.length_toList]; rfl)
  clear hsn hsd
  obtain ⟨x1, hw, hx, Kr⟩ := boxQ1 w #[.bool false, .slice none 0 0, .bool false, .slice none 0 0] 26
  replace hw := Lib.hid hw
  go_enter Tryz.func23, Tryz.ntmps23
  go_upto_region 1 with fail
  try simp only [Nat.add_assoc, Nat.reduceAdd, Nat.add_zero]
  rw [hw.out]
  clear hw
  have hs0 := hx.size
  go_wp2_with fail
  go_loopw [4] (fun i wr => ∃ k : Nat, k ≤ K ∧ i = .int .i64 k ∧ Ext x1 wr) (fun i _ => s.size - (intOf i).toNat)
  case atStart => exact ⟨0, Nat.zero_le _, rfl, Ext.refl _⟩
  case round =>
    obtain ⟨k, hkk, rfl, hxr⟩ := hrel
    by_cases hkn : k < K
    · have hks : k < s.size := by omega
      obtain ⟨b, hb⟩ : ∃ b, s.data.toList[k]? = some b := ⟨_, List.getElem?_eq_getElem (by rw [HSL.out]; exact hks)⟩
      have hbb : s[k]'hks = b := by
        rw [List.getElem?_eq_getElem (by rw [HSL.out]; exact hks)] at hb
        exact Option.some.inj hb
      have hne : b ≠ 47 := HBY.out.1 k hkn b hb
      obtain ⟨bv, hbv⟩ : ∃ bv : Int, ((b.toNat : Nat) : Int) = bv := ⟨_, rfl⟩
      have hbv2 : (((s[k]'hks).toNat : Nat) : Int) = bv := by rw [hbb]; exact hbv
      have hv : bv ≠ 47 := fun e => hne (UInt8.toNat_inj.1 (by show b.toNat = 47; omega))
      have v1 : (bv == 47) = false := by simpa using hv
      have v2 : (!(bv == 47)) = true := by simpa using hv
      have d1 : decide (k < s.size) = true := by simpa using hks
      have d2 : decide ((k : Int) < (s.size : Int)) = true := by simp only [decide_eq_true_eq]; omega
      have g1 : (0 : Int) ≤ (k : Int) := by omega
      clear hb hbb hne hv hbv
      go_wp2_with fail
      go_roundw
      case rel => exact ⟨k + 1, by omega, by go_num, hxr⟩
      case measure => simp [intOf]; omega
    · obtain rfl : k = K := by omega
      have hks := hK
      have hb := HBY.out.2
      have hbb : s[k]'hks = 47 := by
        rw [List.getElem?_eq_getElem (by rw [HSL.out]; exact hks)] at hb
        exact Option.some.inj hb
      have hbv2 : (((s[k]'hks).toNat : Nat) : Int) = 47 := by rw [hbb]; rfl
      have d1 : decide (k < s.size) = true := by simpa using hks
      have d2 : decide ((k : Int) < (s.size : Int)) = true := by simp only [decide_eq_true_eq]; omega
      have g1 : (0 : Int) ≤ (k : Int) := by omega
      have g2 : (k : Int) ≤ (s.size : Int) := by omega
      have g3 : (0 : Int) ≤ (k : Int) + 1 := by omega
      have g4 : (k : Int) + 1 ≤ (s.size : Int) := by omega
      have g5 : IntKind.i64.wrap ((k : Int) + 1) = (k : Int) + 1 := IntWalk.i64_in _ (by omega)
      clear hb hbb hkn
      replace hx := hx.trans hxr
      replace Kr := Lib.hid (Kr.out.ext hxr)
      clear hxr
      have hsn := HSN.out
      have hsd := HSD.out
      go_wp2_with fail
      with_reducible refine (HN.out _).mono ?_
      rintro e x2 ⟨rfl, hy⟩
      replace hx := hx.trans hy
      replace Kr := kE Kr hy
      clear hy
      go_upto_region 5 with fail
      have hl := Ext.alloc x2 (.cells #[.bool false, .slice none 0 0] 24)
      have lrn : w.heap.size < x2.heap.size := Kr.out.lt
      have hpn : w.heap.size ≤ x2.heap.size := hx.size
      replace hx := hx.trans hl
      replace Kr := kE Kr hl
      have Kn := Lib.hid (Blk.new0 x2 #[.bool false, .slice none 0 0] 24)
      clear hl
      generalize x2.alloc (.cells #[.bool false, .slice none 0 0] 24) = x3 at *
      generalize x2.heap.size = pn at *
      obtain ⟨cr0, cr1, cr2, cr3⟩ := bk4 Kr
      obtain ⟨cn0, cn1⟩ := bk2 Kn
      have hsz := hx.size
      go_wp2_with fail
      with_reducible refine (ref_Make 1 _ (by omega)).mono ?_
      clear cr0 cr1 cr2 cr3 cn0 cn1
      rintro e x4 ⟨v, rfl, hv, hy⟩
      replace hx := hx.trans hy
      replace Kr := kE Kr hy
      replace Kn := kE Kn hy
      clear hy
      obtain ⟨no, ao, qo, co, rfl, hv', hf'⟩ := hv.two
      have Vo := Lib.hid hv'
      have Fo := Lib.hid (fun A hA => Nat.le_trans hsz (hf' A hA))
      clear hv' hf' hsz
      go_upto_region 6 with fail
      have hl := Ext.alloc x4 (.cells #[.bool no, .slice ao qo co] 24)
      have lro : w.heap.size < x4.heap.size := Kr.out.lt
      have lno : pn < x4.heap.size := Kn.out.lt
      have hpo : w.heap.size ≤ x4.heap.size := hx.size
      replace hx := hx.trans hl
      replace Kr := kE Kr hl
      replace Kn := kE Kn hl
      replace Vo := Lib.hid (Vo.out.ext hl)
      have Ko := Lib.hid (Blk.new0 x4 #[.bool no, .slice ao qo co] 24)
      clear hl
      generalize x4.alloc (.cells #[.bool no, .slice ao qo co] 24) = x5 at *
      generalize x4.heap.size = po at *
      obtain ⟨cr0, cr1, cr2, cr3⟩ := bk4 Kr
      obtain ⟨cn0, cn1⟩ := bk2 Kn
      obtain ⟨co0, co1⟩ := bk2 Ko
      have hsz := hx.size
      go_wp2_with fail
      with_reducible refine (HD.out _).mono ?_
      clear cr0 cr1 cr2 cr3 cn0 cn1 co0 co1
      rintro e x6 ⟨v, rfl, hv, hy⟩
      replace hx := hx.trans hy
      replace Kr := kE Kr hy
      replace Kn := kE Kn hy
      replace Ko := kE Ko hy
      replace Vo := Lib.hid (Vo.out.ext hy)
      clear hy
      obtain ⟨nv, av, qv, cv, rfl, hv', hf'⟩ := hv.two
      have Vv := Lib.hid hv'
      have Fv := Lib.hid (fun A hA => Nat.le_trans hsz (hf' A hA))
      clear hv' hf' hsz
      obtain ⟨cr0, cr1, cr2, cr3⟩ := bk4 Kr
      obtain ⟨cn0, cn1⟩ := bk2 Kn
      obtain ⟨co0, co1⟩ := bk2 Ko
      obtain ⟨g0, z0, g1, z1⟩ := bp2 Ko (.bool nv) (.slice av qv cv)
      go_upto_region 9 with fail
      clear g0 z0 g1 z1
      clear cr0 cr1 cr2 cr3 cn0 cn1 co0 co1
      replace Vo := (by first | exact rv2 Vo Ko (.bool nv) (.slice av qv cv) rfl rfl | exact bv2 Vo Ko (.bool nv) (.slice av qv cv) rfl rfl)
      replace Vv := (by first | exact rv2 Vv Ko (.bool nv) (.slice av qv cv) rfl rfl | exact bv2 Vv Ko (.bool nv) (.slice av qv cv) rfl rfl)
      replace hx := bx2 hx (po) (.bool nv) (.slice av qv cv) (by omega)
      replace Kr := bo2 Kr (po) (.bool nv) (.slice av qv cv) (by omega)
      replace Kn := bo2 Kn (po) (.bool nv) (.slice av qv cv) (by omega)
      replace Ko := bs2 Ko (.bool nv) (.slice av qv cv)
      generalize ((x6).setCell ⟨po, 0, none⟩ (.bool nv)).setCell ⟨po, 1, none⟩ (.slice av qv cv) = x7 at *
      obtain ⟨cr0, cr1, cr2, cr3⟩ := bk4 Kr
      obtain ⟨cn0, cn1⟩ := bk2 Kn
      obtain ⟨co0, co1⟩ := bk2 Ko
      go_upto_region 10 with fail
      have hl := Ext.alloc x7 (.cells #[.bool false, .slice none 0 0, .bool nv, .slice av qv cv] 26)
      have lry : w.heap.size < x7.heap.size := Kr.out.lt
      have lny : pn < x7.heap.size := Kn.out.lt
      have loy : po < x7.heap.size := Ko.out.lt
      have hpy : w.heap.size ≤ x7.heap.size := hx.size
      clear cr0 cr1 cr2 cr3 cn0 cn1 co0 co1
      replace hx := hx.trans hl
      replace Kr := kE Kr hl
      replace Kn := kE Kn hl
      replace Ko := kE Ko hl
      replace Vo := Lib.hid (Vo.out.ext hl)
      replace Vv := Lib.hid (Vv.out.ext hl)
      have Ky := Lib.hid (Blk.new0 x7 #[.bool false, .slice none 0 0, .bool nv, .slice av qv cv] 26)
      clear hl
      generalize x7.alloc (.cells #[.bool false, .slice none 0 0, .bool nv, .slice av qv cv] 26) = x8 at *
      generalize x7.heap.size = py at *
      obtain ⟨cr0, cr1, cr2, cr3⟩ := bk4 Kr
      obtain ⟨cn0, cn1⟩ := bk2 Kn
      obtain ⟨co0, co1⟩ := bk2 Ko
      obtain ⟨cy0, cy1, cy2, cy3⟩ := bk4 Ky
      go_upto_region 11 with fail
      clear cr0 cr1 cr2 cr3 cn0 cn1 co0 co1 cy0 cy1 cy2 cy3
      clear Kn Ko
      clear Vo
      clear Vv
      obtain ⟨cr0, cr1, cr2, cr3⟩ := bk4 Kr
      obtain ⟨cy0, cy1, cy2, cy3⟩ := bk4 Ky
      obtain ⟨g0, z0, g1, z1, g2, z2, g3, z3⟩ := bp4 Kr (.bool false) (.slice none 0 0) (.bool false) (.slice none 0 0)
      go_wp2_with fail
      clear g0 z0 g1 z1 g2 z2 g3 z3
      clear cr0 cr1 cr2 cr3 cy0 cy1 cy2 cy3
      replace hx := bx4 hx (w.heap.size) (.bool false) (.slice none 0 0) (.bool false) (.slice none 0 0) (by omega)
      replace Kr := bs4 Kr (.bool false) (.slice none 0 0) (.bool false) (.slice none 0 0)
      replace Ky := bo4 Ky (w.heap.size) (.bool false) (.slice none 0 0) (.bool false) (.slice none 0 0) (by omega)
      generalize ((((x8).setCell ⟨w.heap.size, 0, none⟩ (.bool false)).setCell ⟨w.heap.size, 1, none⟩ (.slice none 0 0)).setCell ⟨w.heap.size, 2, none⟩ (.bool false)).setCell ⟨w.heap.size, 3, none⟩ (.slice none 0 0) = x9 at *
      obtain ⟨cr0, cr1, cr2, cr3⟩ := bk4 Kr
      refine bodyPost_ret (v := .tuple #[.agg #[.bool false, .slice none 0 0, .bool false, .slice none 0 0], .int .i64 100]) (by simp [results, Tryz.results23, go_sem, cr0, cr1, cr2, cr3]) rfl ?_
      exact ⟨rfl, hx⟩
set_option maxHeartbeats 4000000 in
theorem rRead_b2 (s sn sd : ByteArray) (K : Nat) (z d : Int) (w : World) (hs : s.size ≤ 1000) (hK : K < s.size) (hb : ∀ j, j < K → ∀ b, s.data.toList[j]? = some b → b ≠ 47) (hk : s.data.toList[K]? = some 47) (hsn : s.extract 0 K = sn) (hsd : s.extract (K + 1) s.size = sd) (HN : ∀ W, Calls Tryz.prog 66 #[.string sn] W (fun e w' => e = .returned (.tuple #[zeroBig, .int .i64 90]) ∧ Ext W w')) (HD : ∀ W, Calls Tryz.prog 66 #[.string sd] W (fun e w' => e = .returned (.tuple #[zeroBig, .int .i64 90]) ∧ Ext W w')) : Calls Tryz.prog 23 #[.string s] w (RatE 100 w) := by
  have HN := Lib.hid HN
  have HD := Lib.hid HD
  have HBY := Lib.hid (And.intro hb hk)
  clear hb hk
  have HSN := Lib.hid hsn
  have HSD := Lib.hid hsd
  have HSL : Hid (s.data.toList.length = s.size) := Lib.hid (by rw [Array.length_toList]; rfl)
  clear hsn hsd
  obtain ⟨x1, hw, hx, Kr⟩ := boxQ1 w #[.bool false, .slice none 0 0, .bool false, .slice none 0 0] 26
  replace hw := Lib.hid hw
  go_enter Tryz.func23, Tryz.ntmps23
  go_upto_region 1 with fail
  try simp only [Nat.add_assoc, Nat.reduceAdd, Nat.add_zero]
  rw [hw.out]
  clear hw
  have hs0 := hx.size
  go_wp2_with fail
  go_loopw [4] (fun i wr => ∃ k : Nat, k ≤ K ∧ i = .int .i64 k ∧ Ext x1 wr) (fun i _ => s.size - (intOf i).toNat)
  case atStart => exact ⟨0, Nat.zero_le _, rfl, Ext.refl _⟩
  case round =>
    obtain ⟨k, hkk, rfl, hxr⟩ := hrel
    by_cases hkn : k < K
    · have hks : k < s.size := by omega
      obtain ⟨b, hb⟩ : ∃ b, s.data.toList[k]? = some b := ⟨_, List.getElem?_eq_getElem (by rw [HSL.out]; exact hks)⟩
      have hbb : s[k]'hks = b := by
        rw [List.getElem?_eq_getElem (by rw [HSL.out]; exact hks)] at hb
        exact Option.some.inj hb
      have hne : b ≠ 47 := HBY.out.1 k hkn b hb
      obtain ⟨bv, hbv⟩ : ∃ bv : Int, ((b.toNat : Nat) : Int) = bv := ⟨_, rfl⟩
      have hbv2 : (((s[k]'hks).toNat : Nat) : Int) = bv := by rw [hbb]; exact hbv
      have hv : bv ≠ 47 := fun e => hne (UInt8.toNat_inj.1 (by show b.toNat = 47; omega))
      have v1 : (bv == 47) = false := by simpa using hv
      have v2 : (!(bv == 47)) = true := by simpa using hv
      have d1 : decide (k < s.size) = true := by simpa using hks
      have d2 : decide ((k : Int) < (s.size : Int)) = true := by simp only [decide_eq_true_eq]; omega
      have g1 : (0 : Int) ≤ (k : Int) := by omega
      clear hb hbb hne hv hbv
      go_wp2_with fail
      go_roundw
      case rel => exact ⟨k + 1, by omega, by go_num, hxr⟩
      case measure => simp [intOf]; omega
    · obtain rfl : k = K := by omega
      have hks := hK
      have hb := HBY.out.2
      have hbb : s[k]'hks = 47 := by
        rw [List.getElem?_eq_getElem (by rw [HSL.out]; exact hks)] at hb
        exact Option.some.inj hb
      have hbv2 : (((s[k]'hks).toNat : Nat) : Int) = 47 := by rw [hbb]; rfl
      have d1 : decide (k < s.size) = true := by simpa using hks
      have d2 : decide ((k : Int) < (s.size : Int)) = true := by simp only [decide_eq_true_eq]; omega
      have g1 : (0 : Int) ≤ (k : Int) := by omega
      have g2 : (k : Int) ≤ (s.size : Int) := by omega
      have g3 : (0 : Int) ≤ (k : Int) + 1 := by omega
      have g4 : (k : Int) + 1 ≤ (s.size : Int) := by omega
      have g5 : IntKind.i64.wrap ((k : Int) + 1) = (k : Int) + 1 := IntWalk.i64_in _ (by omega)
      clear hb hbb hkn
      replace hx := hx.trans hxr
      replace Kr := Lib.hid (Kr.out.ext hxr)
      clear hxr
      have hsn := HSN.out
      have hsd := HSD.out
      go_wp2_with fail
      with_reducible refine (HN.out _).mono ?_
      rintro e x2 ⟨rfl, hy⟩
      replace hx := hx.trans hy
      replace Kr := kE Kr hy
      clear hy
      go_upto_region 5 with fail
      have hl := Ext.alloc x2 (.cells #[.bool false, .slice none 0 0] 24)
      have lrn : w.heap.size < x2.heap.size := Kr.out.lt
      have hpn : w.heap.size ≤ x2.heap.size := hx.size
      replace hx := hx.trans hl
      replace Kr := kE Kr hl
      have Kn := Lib.hid (Blk.new0 x2 #[.bool false, .slice none 0 0] 24)
      clear hl
      generalize x2.alloc (.cells #[.bool false, .slice none 0 0] 24) = x3 at *
      generalize x2.heap.size = pn at *
      obtain ⟨cr0, cr1, cr2, cr3⟩ := bk4 Kr
      obtain ⟨cn0, cn1⟩ := bk2 Kn
      have hsz := hx.size
      go_wp2_with fail
      with_reducible refine (ref_Make 1 _ (by omega)).mono ?_
      clear cr0 cr1 cr2 cr3 cn0 cn1
      rintro e x4 ⟨v, rfl, hv, hy⟩
      replace hx := hx.trans hy
      replace Kr := kE Kr hy
      replace Kn := kE Kn hy
      clear hy
      obtain ⟨no, ao, qo, co, rfl, hv', hf'⟩ := hv.two
      have Vo := Lib.hid hv'
      have Fo := Lib.hid (fun A hA => Nat.le_trans hsz (hf' A hA))
      clear hv' hf' hsz
      go_upto_region 6 with fail
      have hl := Ext.alloc x4 (.cells #[.bool no, .slice ao qo co] 24)
      have lro : w.heap.size < x4.heap.size := Kr.out.lt
      have lno : pn < x4.heap.size := Kn.out.lt
      have hpo : w.heap.size ≤ x4.heap.size := hx.size
      replace hx := hx.trans hl
      replace Kr := kE Kr hl
      replace Kn := kE Kn hl
      replace Vo := Lib.hid (Vo.out.ext hl)
      have Ko := Lib.hid (Blk.new0 x4 #[.bool no, .slice ao qo co] 24)
      clear hl
      generalize x4.alloc (.cells #[.bool no, .slice ao qo co] 24) = x5 at *
      generalize x4.heap.size = po at *
      obtain ⟨cr0, cr1, cr2, cr3⟩ := bk4 Kr
      obtain ⟨cn0, cn1⟩ := bk2 Kn
      obtain ⟨co0, co1⟩ := bk2 Ko
      go_wp2_with fail
      with_reducible refine (HD.out _).mono ?_
      clear cr0 cr1 cr2 cr3 cn0 cn1 co0 co1
      rintro e x6 ⟨rfl, hy⟩
      replace hx := hx.trans hy
      replace Kr := kE Kr hy
      replace Kn := kE Kn hy
      replace Ko := kE Ko hy
      replace Vo := Lib.hid (Vo.out.ext hy)
      clear hy
      obtain ⟨cr0, cr1, cr2, cr3⟩ := bk4 Kr
      obtain ⟨cn0, cn1⟩ := bk2 Kn
      obtain ⟨co0, co1⟩ := bk2 Ko
      obtain ⟨g0, z0, g1, z1⟩ := bp2 Ko (.bool false) (.slice none 0 0)
      go_upto_region 9 with fail
      clear g0 z0 g1 z1
      clear cr0 cr1 cr2 cr3 cn0 cn1 co0 co1
      replace Vo := (by first | exact rv2 Vo Ko (.bool false) (.slice none 0 0) rfl rfl | exact bv2 Vo Ko (.bool false) (.slice none 0 0) rfl rfl)
      replace hx := bx2 hx (po) (.bool false) (.slice none 0 0) (by omega)
      replace Kr := bo2 Kr (po) (.bool false) (.slice none 0 0) (by omega)
      replace Kn := bo2 Kn (po) (.bool false) (.slice none 0 0) (by omega)
      replace Ko := bs2 Ko (.bool false) (.slice none 0 0)
      generalize ((x6).setCell ⟨po, 0, none⟩ (.bool false)).setCell ⟨po, 1, none⟩ (.slice none 0 0) = x7 at *
      obtain ⟨cr0, cr1, cr2, cr3⟩ := bk4 Kr
      obtain ⟨cn0, cn1⟩ := bk2 Kn
      obtain ⟨co0, co1⟩ := bk2 Ko
      go_upto_region 10 with fail
      have hl := Ext.alloc x7 (.cells #[.bool false, .slice none 0 0, .bool false, .slice none 0 0] 26)
      have lry : w.heap.size < x7.heap.size := Kr.out.lt
      have lny : pn < x7.heap.size := Kn.out.lt
      have loy : po < x7.heap.size := Ko.out.lt
      have hpy : w.heap.size ≤ x7.heap.size := hx.size
      clear cr0 cr1 cr2 cr3 cn0 cn1 co0 co1
      replace hx := hx.trans hl
      replace Kr := kE Kr hl
      replace Kn := kE Kn hl
      replace Ko := kE Ko hl
      replace Vo := Lib.hid (Vo.out.ext hl)
      have Ky := Lib.hid (Blk.new0 x7 #[.bool false, .slice none 0 0, .bool false, .slice none 0 0] 26)
      clear hl
      generalize x7.alloc (.cells #[.bool false, .slice none 0 0, .bool false, .slice none 0 0] 26) = x8 at *
      generalize x7.heap.size = py at *
      obtain ⟨cr0, cr1, cr2, cr3⟩ := bk4 Kr
      obtain ⟨cn0, cn1⟩ := bk2 Kn
      obtain ⟨co0, co1⟩ := bk2 Ko
      obtain ⟨cy0, cy1, cy2, cy3⟩ := bk4 Ky
      go_upto_region 11 with fail
      clear cr0 cr1 cr2 cr3 cn0 cn1 co0 co1 cy0 cy1 cy2 cy3
      clear Kn Ko
      clear Vo
      obtain ⟨cr0, cr1, cr2, cr3⟩ := bk4 Kr
      obtain ⟨cy0, cy1, cy2, cy3⟩ := bk4 Ky
      obtain ⟨g0, z0, g1, z1, g2, z2, g3, z3⟩ := bp4 Kr (.bool false) (.slice none 0 0) (.bool false) (.slice none 0 0)
      go_wp2_with fail
      clear g0 z0 g1 z1 g2 z2 g3 z3
      clear cr0 cr1 cr2 cr3 cy0 cy1 cy2 cy3
      replace hx := bx4 hx (w.heap.size) (.bool false) (.slice none 0 0) (.bool false) (.slice none 0 0) (by omega)
      replace Kr := bs4 Kr (.bool false) (.slice none 0 0) (.bool false) (.slice none 0 0)
      replace Ky := bo4 Ky (w.heap.size) (.bool false) (.slice none 0 0) (.bool false) (.slice none 0 0) (by omega)
      generalize ((((x8).setCell ⟨w.heap.size, 0, none⟩ (.bool false)).setCell ⟨w.heap.size, 1, none⟩ (.slice none 0 0)).setCell ⟨w.heap.size, 2, none⟩ (.bool false)).setCell ⟨w.heap.size, 3, none⟩ (.slice none 0 0) = x9 at *
      obtain ⟨cr0, cr1, cr2, cr3⟩ := bk4 Kr
      refine bodyPost_ret (v := .tuple #[.agg #[.bool false, .slice none 0 0, .bool false, .slice none 0 0], .int .i64 100]) (by simp [results, Tryz.results23, go_sem, cr0, cr1, cr2, cr3]) rfl ?_
      exact ⟨rfl, hx⟩
set_option maxHeartbeats 4000000 in
theorem rRead_b3 (s sn sd : ByteArray) (K : Nat) (z d : Int) (w : World) (hs : s.size ≤ 1000) (hK : K < s.size) (hb : ∀ j, j < K → ∀ b, s.data.toList[j]? = some b → b ≠ 47) (hk : s.data.toList[K]? = some 47) (hsn : s.extract 0 K = sn) (hsd : s.extract (K + 1) s.size = sd) (HN : ∀ W, Calls Tryz.prog 66 #[.string sn] W (OneP z W)) (HD : ∀ W, Calls Tryz.prog 66 #[.string sd] W (fun e w' => e = .returned (.tuple #[zeroBig, .int .i64 90]) ∧ Ext W w')) : Calls Tryz.prog 23 #[.string s] w (RatE 100 w) := by
  have HN := Lib.hid HN
  have HD := Lib.hid HD
  have HBY := Lib.hid (And.intro hb hk)
  clear hb hk
  have HSN := Lib.hid hsn
  have HSD := Lib.hid hsd
  have HSL : Hid (s.data.toList.length = s.size) := Lib.hid (by rw [Array.length_toList]; rfl)
  clear hsn hsd
  obtain ⟨x1, hw, hx, Kr⟩ := boxQ1 w #[.bool false, .slice none 0 0, .bool false, .slice none 0 0] 26
  replace hw := Lib.hid hw
  go_enter Tryz.func23, Tryz.ntmps23
  go_upto_region 1 with fail
  try simp only [Nat.add_assoc, Nat.reduceAdd, Nat.add_zero]
  rw [hw.out]
  clear hw
  have hs0 := hx.size
  go_wp2_with fail
  go_loopw [4] (fun i wr => ∃ k : Nat, k ≤ K ∧ i = .int .i64 k ∧ Ext x1 wr) (fun i _ => s.size - (intOf i).toNat)
  case atStart => exact ⟨0, Nat.zero_le _, rfl, Ext.refl _⟩
  case round =>
    obtain ⟨k, hkk, rfl, hxr⟩ := hrel
    by_cases hkn : k < K
    · have hks : k < s.size := by omega
      obtain ⟨b, hb⟩ : ∃ b, s.data.toList[k]? = some b := ⟨_, List.getElem?_eq_getElem (by rw [HSL.out]; exact hks)⟩
      have hbb : s[k]'hks = b := by
        rw [List.getElem?_eq_getElem (by rw [HSL.out]; exact hks)] at hb
        exact Option.some.inj hb
      have hne : b ≠ 47 := HBY.out.1 k hkn b hb
      obtain ⟨bv, hbv⟩ : ∃ bv : Int, ((b.toNat : Nat) : Int) = bv := ⟨_, rfl⟩
      have hbv2 : (((s[k]'hks).toNat : Nat) : Int) = bv := by rw [hbb]; exact hbv
      have hv : bv ≠ 47 := fun e => hne (UInt8.toNat_inj.1 (by show b.toNat = 47; omega))
      have v1 : (bv == 47) = false := by simpa using hv
      have v2 : (!(bv == 47)) = true := by simpa using hv
      have d1 : decide (k < s.size) = true := by simpa using hks
      have d2 : decide ((k : Int) < (s.size : Int)) = true := by simp only [decide_eq_true_eq]; omega
      have g1 : (0 : Int) ≤ (k : Int) := by omega
      clear hb hbb hne hv hbv
      go_wp2_with fail
      go_roundw
      case rel => exact ⟨k + 1, by omega, by go_num, hxr⟩
      case measure => simp [intOf]; omega
    · obtain rfl : k = K := by omega
      have hks := hK
      have hb := HBY.out.2
      have hbb : s[k]'hks = 47 := by
        rw [List.getElem?_eq_getElem (by rw [HSL.out]; exact hks)] at hb
        exact Option.some.inj hb
      have hbv2 : (((s[k]'hks).toNat : Nat) : Int) = 47 := by rw [hbb]; rfl
      have d1 : decide (k < s.size) = true := by simpa using hks
      have d2 : decide ((k : Int) < (s.size : Int)) = true := by simp only [decide_eq_true_eq]; omega
      have g1 : (0 : Int) ≤ (k : Int) := by omega
      have g2 : (k : Int) ≤ (s.size : Int) := by omega
      have g3 : (0 : Int) ≤ (k : Int) + 1 := by omega
      have g4 : (k : Int) + 1 ≤ (s.size : Int) := by omega
      have g5 : IntKind.i64.wrap ((k : Int) + 1) = (k : Int) + 1 := IntWalk.i64_in _ (by omega)
      clear hb hbb hkn
      replace hx := hx.trans hxr
      replace Kr := Lib.hid (Kr.out.ext hxr)
      clear hxr
      have hsn := HSN.out
      have hsd := HSD.out
      go_wp2_with fail
      have hsz := hx.size
      with_reducible refine (HN.out _).mono ?_
      rintro e x2 ⟨v, rfl, hv, hy⟩
      replace hx := hx.trans hy
      replace Kr := kE Kr hy
      clear hy
      obtain ⟨nn, an, qn, cn, rfl, hv', hf'⟩ := hv.two
      have Vn := Lib.hid hv'
      have Fn := Lib.hid (fun A hA => Nat.le_trans hsz (hf' A hA))
      clear hv' hf' hsz
      go_upto_region 5 with fail
      have hl := Ext.alloc x2 (.cells #[.bool nn, .slice an qn cn] 24)
      have lrn : w.heap.size < x2.heap.size := Kr.out.lt
      have hpn : w.heap.size ≤ x2.heap.size := hx.size
      replace hx := hx.trans hl
      replace Kr := kE Kr hl
      replace Vn := Lib.hid (Vn.out.ext hl)
      have Kn := Lib.hid (Blk.new0 x2 #[.bool nn, .slice an qn cn] 24)
      clear hl
      generalize x2.alloc (.cells #[.bool nn, .slice an qn cn] 24) = x3 at *
      generalize x2.heap.size = pn at *
      obtain ⟨cr0, cr1, cr2, cr3⟩ := bk4 Kr
      obtain ⟨cn0, cn1⟩ := bk2 Kn
      have hsz := hx.size
      go_wp2_with fail
      with_reducible refine (ref_Make 1 _ (by omega)).mono ?_
      clear cr0 cr1 cr2 cr3 cn0 cn1
      rintro e x4 ⟨v, rfl, hv, hy⟩
      replace hx := hx.trans hy
      replace Kr := kE Kr hy
      replace Kn := kE Kn hy
      replace Vn := Lib.hid (Vn.out.ext hy)
      clear hy
      obtain ⟨no, ao, qo, co, rfl, hv', hf'⟩ := hv.two
      have Vo := Lib.hid hv'
      have Fo := Lib.hid (fun A hA => Nat.le_trans hsz (hf' A hA))
      clear hv' hf' hsz
      go_upto_region 6 with fail
      have hl := Ext.alloc x4 (.cells #[.bool no, .slice ao qo co] 24)
      have lro : w.heap.size < x4.heap.size := Kr.out.lt
      have lno : pn < x4.heap.size := Kn.out.lt
      have hpo : w.heap.size ≤ x4.heap.size := hx.size
      replace hx := hx.trans hl
      replace Kr := kE Kr hl
      replace Kn := kE Kn hl
      replace Vn := Lib.hid (Vn.out.ext hl)
      replace Vo := Lib.hid (Vo.out.ext hl)
      have Ko := Lib.hid (Blk.new0 x4 #[.bool no, .slice ao qo co] 24)
      clear hl
      generalize x4.alloc (.cells #[.bool no, .slice ao qo co] 24) = x5 at *
      generalize x4.heap.size = po at *
      obtain ⟨cr0, cr1, cr2, cr3⟩ := bk4 Kr
      obtain ⟨cn0, cn1⟩ := bk2 Kn
      obtain ⟨co0, co1⟩ := bk2 Ko
      go_wp2_with fail
      with_reducible refine (HD.out _).mono ?_
      clear cr0 cr1 cr2 cr3 cn0 cn1 co0 co1
      rintro e x6 ⟨rfl, hy⟩
      replace hx := hx.trans hy
      replace Kr := kE Kr hy
      replace Kn := kE Kn hy
      replace Ko := kE Ko hy
      replace Vn := Lib.hid (Vn.out.ext hy)
      replace Vo := Lib.hid (Vo.out.ext hy)
      clear hy
      obtain ⟨cr0, cr1, cr2, cr3⟩ := bk4 Kr
      obtain ⟨cn0, cn1⟩ := bk2 Kn
      obtain ⟨co0, co1⟩ := bk2 Ko
      obtain ⟨g0, z0, g1, z1⟩ := bp2 Ko (.bool false) (.slice none 0 0)
      go_upto_region 9 with fail
      clear g0 z0 g1 z1
      clear cr0 cr1 cr2 cr3 cn0 cn1 co0 co1
      replace Vn := (by first | exact rv2 Vn Ko (.bool false) (.slice none 0 0) rfl rfl | exact bv2 Vn Ko (.bool false) (.slice none 0 0) rfl rfl)
      replace Vo := (by first | exact rv2 Vo Ko (.bool false) (.slice none 0 0) rfl rfl | exact bv2 Vo Ko (.bool false) (.slice none 0 0) rfl rfl)
      replace hx := bx2 hx (po) (.bool false) (.slice none 0 0) (by omega)
      replace Kr := bo2 Kr (po) (.bool false) (.slice none 0 0) (by omega)
      replace Kn := bo2 Kn (po) (.bool false) (.slice none 0 0) (by omega)
      replace Ko := bs2 Ko (.bool false) (.slice none 0 0)
      generalize ((x6).setCell ⟨po, 0, none⟩ (.bool false)).setCell ⟨po, 1, none⟩ (.slice none 0 0) = x7 at *
      obtain ⟨cr0, cr1, cr2, cr3⟩ := bk4 Kr
      obtain ⟨cn0, cn1⟩ := bk2 Kn
      obtain ⟨co0, co1⟩ := bk2 Ko
      go_upto_region 10 with fail
      have hl := Ext.alloc x7 (.cells #[.bool nn, .slice an qn cn, .bool false, .slice none 0 0] 26)
      have lry : w.heap.size < x7.heap.size := Kr.out.lt
      have lny : pn < x7.heap.size := Kn.out.lt
      have loy : po < x7.heap.size := Ko.out.lt
      have hpy : w.heap.size ≤ x7.heap.size := hx.size
      clear cr0 cr1 cr2 cr3 cn0 cn1 co0 co1
      replace hx := hx.trans hl
      replace Kr := kE Kr hl
      replace Kn := kE Kn hl
      replace Ko := kE Ko hl
      replace Vn := Lib.hid (Vn.out.ext hl)
      replace Vo := Lib.hid (Vo.out.ext hl)
      have Ky := Lib.hid (Blk.new0 x7 #[.bool nn, .slice an qn cn, .bool false, .slice none 0 0] 26)
      clear hl
      generalize x7.alloc (.cells #[.bool nn, .slice an qn cn, .bool false, .slice none 0 0] 26) = x8 at *
      generalize x7.heap.size = py at *
      obtain ⟨cr0, cr1, cr2, cr3⟩ := bk4 Kr
      obtain ⟨cn0, cn1⟩ := bk2 Kn
      obtain ⟨co0, co1⟩ := bk2 Ko
      obtain ⟨cy0, cy1, cy2, cy3⟩ := bk4 Ky
      go_upto_region 11 with fail
      clear cr0 cr1 cr2 cr3 cn0 cn1 co0 co1 cy0 cy1 cy2 cy3
      clear Kn Ko
      clear Vn
      clear Vo
      obtain ⟨cr0, cr1, cr2, cr3⟩ := bk4 Kr
      obtain ⟨cy0, cy1, cy2, cy3⟩ := bk4 Ky
      obtain ⟨g0, z0, g1, z1, g2, z2, g3, z3⟩ := bp4 Kr (.bool false) (.slice none 0 0) (.bool false) (.slice none 0 0)
      go_wp2_with fail
      clear g0 z0 g1 z1 g2 z2 g3 z3
      clear cr0 cr1 cr2 cr3 cy0 cy1 cy2 cy3
      replace hx := bx4 hx (w.heap.size) (.bool false) (.slice none 0 0) (.bool false) (.slice none 0 0) (by omega)
      replace Kr := bs4 Kr (.bool false) (.slice none 0 0) (.bool false) (.slice none 0 0)
      replace Ky := bo4 Ky (w.heap.size) (.bool false) (.slice none 0 0) (.bool false) (.slice none 0 0) (by omega)
      generalize ((((x8).setCell ⟨w.heap.size, 0, none⟩ (.bool false)).setCell ⟨w.heap.size, 1, none⟩ (.slice none 0 0)).setCell ⟨w.heap.size, 2, none⟩ (.bool false)).setCell ⟨w.heap.size, 3, none⟩ (.slice none 0 0) = x9 at *
      obtain ⟨cr0, cr1, cr2, cr3⟩ := bk4 Kr
      refine bodyPost_ret (v := .tuple #[.agg #[.bool false, .slice none 0 0, .bool false, .slice none 0 0], .int .i64 100]) (by simp [results, Tryz.results23, go_sem, cr0, cr1, cr2, cr3]) rfl ?_
      exact ⟨rfl, hx⟩
set_option maxHeartbeats 4000000 in
theorem rRead_b4 (s sn sd : ByteArray) (K : Nat) (z d : Int) (w : World) (hs : s.size ≤ 1000) (hK : K < s.size) (hb : ∀ j, j < K → ∀ b, s.data.toList[j]? = some b → b ≠ 47) (hk : s.data.toList[K]? = some 47) (hsn : s.extract 0 K = sn) (hsd : s.extract (K + 1) s.size = sd) (HN : ∀ W, Calls Tryz.prog 66 #[.string sn] W (OneP z W)) (HD : ∀ W, Calls Tryz.prog 66 #[.string sd] W (OneP d W)) (lz : Len z) (ld : Len d) (hck : decide (0 < d ∧ Int.gcd z d = 1) = false) : Calls Tryz.prog 23 #[.string s] w (RatE 100 w) := by
  have HN := Lib.hid HN
  have HD := Lib.hid HD
  have HK := Lib.hid (And.intro lz (And.intro ld hck))
  clear lz ld hck
  have HBY := Lib.hid (And.intro hb hk)
  clear hb hk
  have HSN := Lib.hid hsn
  have HSD := Lib.hid hsd
  have HSL : Hid (s.data.toList.length = s.size) := Lib.hid (by rw [Array.length_toList]; rfl)
  clear hsn hsd
  obtain ⟨x1, hw, hx, Kr⟩ := boxQ1 w #[.bool false, .slice none 0 0, .bool false, .slice none 0 0] 26
  replace hw := Lib.hid hw
  go_enter Tryz.func23, Tryz.ntmps23
  go_upto_region 1 with fail
  try simp only [Nat.add_assoc, Nat.reduceAdd, Nat.add_zero]
  rw [hw.out]
  clear hw
  have hs0 := hx.size
  go_wp2_with fail
  go_loopw [4] (fun i wr => ∃ k : Nat, k ≤ K ∧ i = .int .i64 k ∧ Ext x1 wr) (fun i _ => s.size - (intOf i).toNat)
  case atStart => exact ⟨0, Nat.zero_le _, rfl, Ext.refl _⟩
  case round =>
    obtain ⟨k, hkk, rfl, hxr⟩ := hrel
    by_cases hkn : k < K
    · have hks : k < s.size := by omega
      obtain ⟨b, hb⟩ : ∃ b, s.data.toList[k]? = some b := ⟨_, List.getElem?_eq_getElem (by rw [HSL.out]; exact hks)⟩
      have hbb : s[k]'hks = b := by
        rw [List.getElem?_eq_getElem (by rw [HSL.out]; exact hks)] at hb
        exact Option.some.inj hb
      have hne : b ≠ 47 := HBY.out.1 k hkn b hb
      obtain ⟨bv, hbv⟩ : ∃ bv : Int, ((b.toNat : Nat) : Int) = bv := ⟨_, rfl⟩
      have hbv2 : (((s[k]'hks).toNat : Nat) : Int) = bv := by rw [hbb]; exact hbv
      have hv : bv ≠ 47 := fun e => hne (UInt8.toNat_inj.1 (by show b.toNat = 47; omega))
      have v1 : (bv == 47) = false := by simpa using hv
      have v2 : (!(bv == 47)) = true := by simpa using hv
      have d1 : decide (k < s.size) = true := by simpa using hks
      have d2 : decide ((k : Int) < (s.size : Int)) = true := by simp only [decide_eq_true_eq]; omega
      have g1 : (0 : Int) ≤ (k : Int) := by omega
      clear hb hbb hne hv hbv
      go_wp2_with fail
      go_roundw
      case rel => exact ⟨k + 1, by omega, by go_num, hxr⟩
      case measure => simp [intOf]; omega
    · obtain rfl : k = K := by omega
      have hks := hK
      have hb := HBY.out.2
      have hbb : s[k]'hks = 47 := by
        rw [List.getElem?_eq_getElem (by rw [HSL.out]; exact hks)] at hb
        exact Option.some.inj hb
      have hbv2 : (((s[k]'hks).toNat : Nat) : Int) = 47 := by rw [hbb]; rfl
      have d1 : decide (k < s.size) = true := by simpa using hks
      have d2 : decide ((k : Int) < (s.size : Int)) = true := by simp only [decide_eq_true_eq]; omega
      have g1 : (0 : Int) ≤ (k : Int) := by omega
      have g2 : (k : Int) ≤ (s.size : Int) := by omega
      have g3 : (0 : Int) ≤ (k : Int) + 1 := by omega
      have g4 : (k : Int) + 1 ≤ (s.size : Int) := by omega
      have g5 : IntKind.i64.wrap ((k : Int) + 1) = (k : Int) + 1 := IntWalk.i64_in _ (by omega)
      clear hb hbb hkn
      replace hx := hx.trans hxr
      replace Kr := Lib.hid (Kr.out.ext hxr)
      clear hxr
      have hsn := HSN.out
      have hsd := HSD.out
      go_wp2_with fail
      have hsz := hx.size
      with_reducible refine (HN.out _).mono ?_
      rintro e x2 ⟨v, rfl, hv, hy⟩
      replace hx := hx.trans hy
      replace Kr := kE Kr hy
      clear hy
      obtain ⟨nn, an, qn, cn, rfl, hv', hf'⟩ := hv.two
      have Vn := Lib.hid hv'
      have Fn := Lib.hid (fun A hA => Nat.le_trans hsz (hf' A hA))
      clear hv' hf' hsz
      go_upto_region 5 with fail
      have hl := Ext.alloc x2 (.cells #[.bool nn, .slice an qn cn] 24)
      have lrn : w.heap.size < x2.heap.size := Kr.out.lt
      have hpn : w.heap.size ≤ x2.heap.size := hx.size
      replace hx := hx.trans hl
      replace Kr := kE Kr hl
      replace Vn := Lib.hid (Vn.out.ext hl)
      have Kn := Lib.hid (Blk.new0 x2 #[.bool nn, .slice an qn cn] 24)
      clear hl
      generalize x2.alloc (.cells #[.bool nn, .slice an qn cn] 24) = x3 at *
      generalize x2.heap.size = pn at *
      obtain ⟨cr0, cr1, cr2, cr3⟩ := bk4 Kr
      obtain ⟨cn0, cn1⟩ := bk2 Kn
      have hsz := hx.size
      go_wp2_with fail
      with_reducible refine (ref_Make 1 _ (by omega)).mono ?_
      clear cr0 cr1 cr2 cr3 cn0 cn1
      rintro e x4 ⟨v, rfl, hv, hy⟩
      replace hx := hx.trans hy
      replace Kr := kE Kr hy
      replace Kn := kE Kn hy
      replace Vn := Lib.hid (Vn.out.ext hy)
      clear hy
      obtain ⟨no, ao, qo, co, rfl, hv', hf'⟩ := hv.two
      have Vo := Lib.hid hv'
      have Fo := Lib.hid (fun A hA => Nat.le_trans hsz (hf' A hA))
      clear hv' hf' hsz
      go_upto_region 6 with fail
      have hl := Ext.alloc x4 (.cells #[.bool no, .slice ao qo co] 24)
      have lro : w.heap.size < x4.heap.size := Kr.out.lt
      have lno : pn < x4.heap.size := Kn.out.lt
      have hpo : w.heap.size ≤ x4.heap.size := hx.size
      replace hx := hx.trans hl
      replace Kr := kE Kr hl
      replace Kn := kE Kn hl
      replace Vn := Lib.hid (Vn.out.ext hl)
      replace Vo := Lib.hid (Vo.out.ext hl)
      have Ko := Lib.hid (Blk.new0 x4 #[.bool no, .slice ao qo co] 24)
      clear hl
      generalize x4.alloc (.cells #[.bool no, .slice ao qo co] 24) = x5 at *
      generalize x4.heap.size = po at *
      obtain ⟨cr0, cr1, cr2, cr3⟩ := bk4 Kr
      obtain ⟨cn0, cn1⟩ := bk2 Kn
      obtain ⟨co0, co1⟩ := bk2 Ko
      have hsz := hx.size
      go_wp2_with fail
      with_reducible refine (HD.out _).mono ?_
      clear cr0 cr1 cr2 cr3 cn0 cn1 co0 co1
      rintro e x6 ⟨v, rfl, hv, hy⟩
      replace hx := hx.trans hy
      replace Kr := kE Kr hy
      replace Kn := kE Kn hy
      replace Ko := kE Ko hy
      replace Vn := Lib.hid (Vn.out.ext hy)
      replace Vo := Lib.hid (Vo.out.ext hy)
      clear hy
      obtain ⟨nv, av, qv, cv, rfl, hv', hf'⟩ := hv.two
      have Vv := Lib.hid hv'
      have Fv := Lib.hid (fun A hA => Nat.le_trans hsz (hf' A hA))
      clear hv' hf' hsz
      obtain ⟨cr0, cr1, cr2, cr3⟩ := bk4 Kr
      obtain ⟨cn0, cn1⟩ := bk2 Kn
      obtain ⟨co0, co1⟩ := bk2 Ko
      obtain ⟨g0, z0, g1, z1⟩ := bp2 Ko (.bool nv) (.slice av qv cv)
      go_upto_region 9 with fail
      clear g0 z0 g1 z1
      clear cr0 cr1 cr2 cr3 cn0 cn1 co0 co1
      replace Vn := (by first | exact rv2 Vn Ko (.bool nv) (.slice av qv cv) rfl rfl | exact bv2 Vn Ko (.bool nv) (.slice av qv cv) rfl rfl)
      replace Vo := (by first | exact rv2 Vo Ko (.bool nv) (.slice av qv cv) rfl rfl | exact bv2 Vo Ko (.bool nv) (.slice av qv cv) rfl rfl)
      replace Vv := (by first | exact rv2 Vv Ko (.bool nv) (.slice av qv cv) rfl rfl | exact bv2 Vv Ko (.bool nv) (.slice av qv cv) rfl rfl)
      replace hx := bx2 hx (po) (.bool nv) (.slice av qv cv) (by omega)
      replace Kr := bo2 Kr (po) (.bool nv) (.slice av qv cv) (by omega)
      replace Kn := bo2 Kn (po) (.bool nv) (.slice av qv cv) (by omega)
      replace Ko := bs2 Ko (.bool nv) (.slice av qv cv)
      generalize ((x6).setCell ⟨po, 0, none⟩ (.bool nv)).setCell ⟨po, 1, none⟩ (.slice av qv cv) = x7 at *
      obtain ⟨cr0, cr1, cr2, cr3⟩ := bk4 Kr
      obtain ⟨cn0, cn1⟩ := bk2 Kn
      obtain ⟨co0, co1⟩ := bk2 Ko
      go_upto_region 10 with fail
      have hl := Ext.alloc x7 (.cells #[.bool nn, .slice an qn cn, .bool nv, .slice av qv cv] 26)
      have lry : w.heap.size < x7.heap.size := Kr.out.lt
      have lny : pn < x7.heap.size := Kn.out.lt
      have loy : po < x7.heap.size := Ko.out.lt
      have hpy : w.heap.size ≤ x7.heap.size := hx.size
      clear cr0 cr1 cr2 cr3 cn0 cn1 co0 co1
      replace hx := hx.trans hl
      replace Kr := kE Kr hl
      replace Kn := kE Kn hl
      replace Ko := kE Ko hl
      replace Vn := Lib.hid (Vn.out.ext hl)
      replace Vo := Lib.hid (Vo.out.ext hl)
      replace Vv := Lib.hid (Vv.out.ext hl)
      have Ky := Lib.hid (Blk.new0 x7 #[.bool nn, .slice an qn cn, .bool nv, .slice av qv cv] 26)
      clear hl
      generalize x7.alloc (.cells #[.bool nn, .slice an qn cn, .bool nv, .slice av qv cv] 26) = x8 at *
      generalize x7.heap.size = py at *
      obtain ⟨ln, hln, hin, hbn⟩ := Vn.out.parts
      obtain ⟨lo, hlo, hio, hbo⟩ := Vv.out.parts
      have hCK := refR_Check nn nv _ _ _ _ ln lo _ hin hio
      rw [okR_eq hbn hbo HK.out.1 HK.out.2.1, HK.out.2.2, hln, hlo] at hCK
      have HCK := Lib.hid hCK
      clear hCK hln hin hbn hlo hio hbo
      obtain ⟨cr0, cr1, cr2, cr3⟩ := bk4 Kr
      obtain ⟨cn0, cn1⟩ := bk2 Kn
      obtain ⟨co0, co1⟩ := bk2 Ko
      obtain ⟨cy0, cy1, cy2, cy3⟩ := bk4 Ky
      go_wp2_with fail
      with_reducible refine (show Calls Tryz.prog 19 _ _ (fun e w' => e = .returned (.int .i64 100) ∧ Ext x8 w') from HCK.out).mono ?_
      clear cr0 cr1 cr2 cr3 cn0 cn1 co0 co1 cy0 cy1 cy2 cy3
      rintro e x9 ⟨rfl, hy⟩
      replace hx := hx.trans hy
      replace Kr := kE Kr hy
      replace Kn := kE Kn hy
      replace Ko := kE Ko hy
      replace Ky := kE Ky hy
      replace Vn := Lib.hid (Vn.out.ext hy)
      replace Vo := Lib.hid (Vo.out.ext hy)
      replace Vv := Lib.hid (Vv.out.ext hy)
      clear hy
      obtain ⟨cr0, cr1, cr2, cr3⟩ := bk4 Kr
      obtain ⟨cn0, cn1⟩ := bk2 Kn
      obtain ⟨co0, co1⟩ := bk2 Ko
      obtain ⟨cy0, cy1, cy2, cy3⟩ := bk4 Ky
      go_upto_region 11 with fail
      clear cr0 cr1 cr2 cr3 cn0 cn1 co0 co1 cy0 cy1 cy2 cy3
      clear Kn Ko
      clear Vn
      clear Vo
      clear Vv
      obtain ⟨cr0, cr1, cr2, cr3⟩ := bk4 Kr
      obtain ⟨cy0, cy1, cy2, cy3⟩ := bk4 Ky
      obtain ⟨g0, z0, g1, z1, g2, z2, g3, z3⟩ := bp4 Kr (.bool false) (.slice none 0 0) (.bool false) (.slice none 0 0)
      go_wp2_with fail
      clear g0 z0 g1 z1 g2 z2 g3 z3
      clear cr0 cr1 cr2 cr3 cy0 cy1 cy2 cy3
      replace hx := bx4 hx (w.heap.size) (.bool false) (.slice none 0 0) (.bool false) (.slice none 0 0) (by omega)
      replace Kr := bs4 Kr (.bool false) (.slice none 0 0) (.bool false) (.slice none 0 0)
      replace Ky := bo4 Ky (w.heap.size) (.bool false) (.slice none 0 0) (.bool false) (.slice none 0 0) (by omega)
      generalize ((((x9).setCell ⟨w.heap.size, 0, none⟩ (.bool false)).setCell ⟨w.heap.size, 1, none⟩ (.slice none 0 0)).setCell ⟨w.heap.size, 2, none⟩ (.bool false)).setCell ⟨w.heap.size, 3, none⟩ (.slice none 0 0) = x10 at *
      obtain ⟨cr0, cr1, cr2, cr3⟩ := bk4 Kr
      refine bodyPost_ret (v := .tuple #[.agg #[.bool false, .slice none 0 0, .bool false, .slice none 0 0], .int .i64 100]) (by simp [results, Tryz.results23, go_sem, cr0, cr1, cr2, cr3]) rfl ?_
      exact ⟨rfl, hx⟩
set_option maxHeartbeats 4000000 in
theorem rRead_b5 (s sn sd : ByteArray) (K : Nat) (z d : Int) (w : World) (hs : s.size ≤ 1000) (hK : K < s.size) (hb : ∀ j, j < K → ∀ b, s.data.toList[j]? = some b → b ≠ 47) (hk : s.data.toList[K]? = some 47) (hsn : s.extract 0 K = sn) (hsd : s.extract (K + 1) s.size = sd) (HN : ∀ W, Calls Tryz.prog 66 #[.string sn] W (OneP z W)) (HD : ∀ W, Calls Tryz.prog 66 #[.string sd] W (OneP d W)) (lz : Len z) (ld : Len d) (hck : decide (0 < d ∧ Int.gcd z d = 1) = true) (hx1 : (txtL z).length ≤ 1000 ∧ (txtL d).length ≤ 1000) (heq : ((textR (Rat.divInt z d)).toList == s.toList) = false) : Calls Tryz.prog 23 #[.string s] w (RatE 100 w) := by
  have HN := Lib.hid HN
  have HD := Lib.hid HD
  have HK := Lib.hid (And.intro lz (And.intro ld hck))
  clear lz ld hck
  have HQ := Lib.hid (And.intro hx1 heq)
  clear hx1 heq
  have HBY := Lib.hid (And.intro hb hk)
  clear hb hk
  have HSN := Lib.hid hsn
  have HSD := Lib.hid hsd
  have HSL : Hid (s.data.toList.length = s.size) := Lib.hid (by rw [Array.length_toList]; rfl)
  clear hsn hsd
  obtain ⟨x1, hw, hx, Kr⟩ := boxQ1 w #[.bool false, .slice none 0 0, .bool false, .slice none 0 0] 26
  replace hw := Lib.hid hw
  go_enter Tryz.func23, Tryz.ntmps23
  go_upto_region 1 with fail
  try simp only [Nat.add_assoc, Nat.reduceAdd, Nat.add_zero]
  rw [hw.out]
  clear hw
  have hs0 := hx.size
  go_wp2_with fail
  go_loopw [4] (fun i wr => ∃ k : Nat, k ≤ K ∧ i = .int .i64 k ∧ Ext x1 wr) (fun i _ => s.size - (intOf i).toNat)
  case atStart => exact ⟨0, Nat.zero_le _, rfl, Ext.refl _⟩
  case round =>
    obtain ⟨k, hkk, rfl, hxr⟩ := hrel
    by_cases hkn : k < K
    · have hks : k < s.size := by omega
      obtain ⟨b, hb⟩ : ∃ b, s.data.toList[k]? = some b := ⟨_, List.getElem?_eq_getElem (by rw [HSL.out]; exact hks)⟩
      have hbb : s[k]'hks = b := by
        rw [List.getElem?_eq_getElem (by rw [HSL.out]; exact hks)] at hb
        exact Option.some.inj hb
      have hne : b ≠ 47 := HBY.out.1 k hkn b hb
      obtain ⟨bv, hbv⟩ : ∃ bv : Int, ((b.toNat : Nat) : Int) = bv := ⟨_, rfl⟩
      have hbv2 : (((s[k]'hks).toNat : Nat) : Int) = bv := by rw [hbb]; exact hbv
      have hv : bv ≠ 47 := fun e => hne (UInt8.toNat_inj.1 (by show b.toNat = 47; omega))
      have v1 : (bv == 47) = false := by simpa using hv
      have v2 : (!(bv == 47)) = true := by simpa using hv
      have d1 : decide (k < s.size) = true := by simpa using hks
      have d2 : decide ((k : Int) < (s.size : Int)) = true := by simp only [decide_eq_true_eq]; omega
      have g1 : (0 : Int) ≤ (k : Int) := by omega
      clear hb hbb hne hv hbv
      go_wp2_with fail
      go_roundw
      case rel => exact ⟨k + 1, by omega, by go_num, hxr⟩
      case measure => simp [intOf]; omega
    · obtain rfl : k = K := by omega
      have hks := hK
      have hb := HBY.out.2
      have hbb : s[k]'hks = 47 := by
        rw [List.getElem?_eq_getElem (by rw [HSL.out]; exact hks)] at hb
        exact Option.some.inj hb
      have hbv2 : (((s[k]'hks).toNat : Nat) : Int) = 47 := by rw [hbb]; rfl
      have d1 : decide (k < s.size) = true := by simpa using hks
      have d2 : decide ((k : Int) < (s.size : Int)) = true := by simp only [decide_eq_true_eq]; omega
      have g1 : (0 : Int) ≤ (k : Int) := by omega
      have g2 : (k : Int) ≤ (s.size : Int) := by omega
      have g3 : (0 : Int) ≤ (k : Int) + 1 := by omega
      have g4 : (k : Int) + 1 ≤ (s.size : Int) := by omega
      have g5 : IntKind.i64.wrap ((k : Int) + 1) = (k : Int) + 1 := IntWalk.i64_in _ (by omega)
      clear hb hbb hkn
      replace hx := hx.trans hxr
      replace Kr := Lib.hid (Kr.out.ext hxr)
      clear hxr
      have hsn := HSN.out
      have hsd := HSD.out
      go_wp2_with fail
      have hsz := hx.size
      with_reducible refine (HN.out _).mono ?_
      rintro e x2 ⟨v, rfl, hv, hy⟩
      replace hx := hx.trans hy
      replace Kr := kE Kr hy
      clear hy
      obtain ⟨nn, an, qn, cn, rfl, hv', hf'⟩ := hv.two
      have Vn := Lib.hid hv'
      have Fn := Lib.hid (fun A hA => Nat.le_trans hsz (hf' A hA))
      clear hv' hf' hsz
      go_upto_region 5 with fail
      have hl := Ext.alloc x2 (.cells #[.bool nn, .slice an qn cn] 24)
      have lrn : w.heap.size < x2.heap.size := Kr.out.lt
      have hpn : w.heap.size ≤ x2.heap.size := hx.size
      replace hx := hx.trans hl
      replace Kr := kE Kr hl
      replace Vn := Lib.hid (Vn.out.ext hl)
      have Kn := Lib.hid (Blk.new0 x2 #[.bool nn, .slice an qn cn] 24)
      clear hl
      generalize x2.alloc (.cells #[.bool nn, .slice an qn cn] 24) = x3 at *
      generalize x2.heap.size = pn at *
      obtain ⟨cr0, cr1, cr2, cr3⟩ := bk4 Kr
      obtain ⟨cn0, cn1⟩ := bk2 Kn
      have hsz := hx.size
      go_wp2_with fail
      with_reducible refine (ref_Make 1 _ (by omega)).mono ?_
      clear cr0 cr1 cr2 cr3 cn0 cn1
      rintro e x4 ⟨v, rfl, hv, hy⟩
      replace hx := hx.trans hy
      replace Kr := kE Kr hy
      replace Kn := kE Kn hy
      replace Vn := Lib.hid (Vn.out.ext hy)
      clear hy
      obtain ⟨no, ao, qo, co, rfl, hv', hf'⟩ := hv.two
      have Vo := Lib.hid hv'
      have Fo := Lib.hid (fun A hA => Nat.le_trans hsz (hf' A hA))
      clear hv' hf' hsz
      go_upto_region 6 with fail
      have hl := Ext.alloc x4 (.cells #[.bool no, .slice ao qo co] 24)
      have lro : w.heap.size < x4.heap.size := Kr.out.lt
      have lno : pn < x4.heap.size := Kn.out.lt
      have hpo : w.heap.size ≤ x4.heap.size := hx.size
      replace hx := hx.trans hl
      replace Kr := kE Kr hl
      replace Kn := kE Kn hl
      replace Vn := Lib.hid (Vn.out.ext hl)
      replace Vo := Lib.hid (Vo.out.ext hl)
      have Ko := Lib.hid (Blk.new0 x4 #[.bool no, .slice ao qo co] 24)
      clear hl
      generalize x4.alloc (.cells #[.bool no, .slice ao qo co] 24) = x5 at *
      generalize x4.heap.size = po at *
      obtain ⟨cr0, cr1, cr2, cr3⟩ := bk4 Kr
      obtain ⟨cn0, cn1⟩ := bk2 Kn
      obtain ⟨co0, co1⟩ := bk2 Ko
      have hsz := hx.size
      go_wp2_with fail
      with_reducible refine (HD.out _).mono ?_
      clear cr0 cr1 cr2 cr3 cn0 cn1 co0 co1
      rintro e x6 ⟨v, rfl, hv, hy⟩
      replace hx := hx.trans hy
      replace Kr := kE Kr hy
      replace Kn := kE Kn hy
      replace Ko := kE Ko hy
      replace Vn := Lib.hid (Vn.out.ext hy)
      replace Vo := Lib.hid (Vo.out.ext hy)
      clear hy
      obtain ⟨nv, av, qv, cv, rfl, hv', hf'⟩ := hv.two
      have Vv := Lib.hid hv'
      have Fv := Lib.hid (fun A hA => Nat.le_trans hsz (hf' A hA))
      clear hv' hf' hsz
      obtain ⟨cr0, cr1, cr2, cr3⟩ := bk4 Kr
      obtain ⟨cn0, cn1⟩ := bk2 Kn
      obtain ⟨co0, co1⟩ := bk2 Ko
      obtain ⟨g0, z0, g1, z1⟩ := bp2 Ko (.bool nv) (.slice av qv cv)
      go_upto_region 9 with fail
      clear g0 z0 g1 z1
      clear cr0 cr1 cr2 cr3 cn0 cn1 co0 co1
      replace Vn := (by first | exact rv2 Vn Ko (.bool nv) (.slice av qv cv) rfl rfl | exact bv2 Vn Ko (.bool nv) (.slice av qv cv) rfl rfl)
      replace Vo := (by first | exact rv2 Vo Ko (.bool nv) (.slice av qv cv) rfl rfl | exact bv2 Vo Ko (.bool nv) (.slice av qv cv) rfl rfl)
      replace Vv := (by first | exact rv2 Vv Ko (.bool nv) (.slice av qv cv) rfl rfl | exact bv2 Vv Ko (.bool nv) (.slice av qv cv) rfl rfl)
      replace hx := bx2 hx (po) (.bool nv) (.slice av qv cv) (by omega)
      replace Kr := bo2 Kr (po) (.bool nv) (.slice av qv cv) (by omega)
      replace Kn := bo2 Kn (po) (.bool nv) (.slice av qv cv) (by omega)
      replace Ko := bs2 Ko (.bool nv) (.slice av qv cv)
      generalize ((x6).setCell ⟨po, 0, none⟩ (.bool nv)).setCell ⟨po, 1, none⟩ (.slice av qv cv) = x7 at *
      obtain ⟨cr0, cr1, cr2, cr3⟩ := bk4 Kr
      obtain ⟨cn0, cn1⟩ := bk2 Kn
      obtain ⟨co0, co1⟩ := bk2 Ko
      go_upto_region 10 with fail
      have hl := Ext.alloc x7 (.cells #[.bool nn, .slice an qn cn, .bool nv, .slice av qv cv] 26)
      have lry : w.heap.size < x7.heap.size := Kr.out.lt
      have lny : pn < x7.heap.size := Kn.out.lt
      have loy : po < x7.heap.size := Ko.out.lt
      have hpy : w.heap.size ≤ x7.heap.size := hx.size
      clear cr0 cr1 cr2 cr3 cn0 cn1 co0 co1
      replace hx := hx.trans hl
      replace Kr := kE Kr hl
      replace Kn := kE Kn hl
      replace Ko := kE Ko hl
      replace Vn := Lib.hid (Vn.out.ext hl)
      replace Vo := Lib.hid (Vo.out.ext hl)
      replace Vv := Lib.hid (Vv.out.ext hl)
      have Ky := Lib.hid (Blk.new0 x7 #[.bool nn, .slice an qn cn, .bool nv, .slice av qv cv] 26)
      clear hl
      generalize x7.alloc (.cells #[.bool nn, .slice an qn cn, .bool nv, .slice av qv cv] 26) = x8 at *
      generalize x7.heap.size = py at *
      obtain ⟨ln, hln, hin, hbn⟩ := Vn.out.parts
      obtain ⟨lo, hlo, hio, hbo⟩ := Vv.out.parts
      have hCK := refR_Check nn nv _ _ _ _ ln lo _ hin hio
      rw [okR_eq hbn hbo HK.out.1 HK.out.2.1, HK.out.2.2, hln, hlo] at hCK
      have HCK := Lib.hid hCK
      clear hCK hln hin hbn hlo hio hbo
      obtain ⟨cr0, cr1, cr2, cr3⟩ := bk4 Kr
      obtain ⟨cn0, cn1⟩ := bk2 Kn
      obtain ⟨co0, co1⟩ := bk2 Ko
      obtain ⟨cy0, cy1, cy2, cy3⟩ := bk4 Ky
      go_wp2_with fail
      with_reducible refine (show Calls Tryz.prog 19 _ _ (fun e w' => e = .returned (.int .i64 0) ∧ Ext x8 w') from HCK.out).mono ?_
      clear cr0 cr1 cr2 cr3 cn0 cn1 co0 co1 cy0 cy1 cy2 cy3
      rintro e x9 ⟨rfl, hy⟩
      replace hx := hx.trans hy
      replace Kr := kE Kr hy
      replace Kn := kE Kn hy
      replace Ko := kE Ko hy
      replace Ky := kE Ky hy
      replace Vn := Lib.hid (Vn.out.ext hy)
      replace Vo := Lib.hid (Vo.out.ext hy)
      replace Vv := Lib.hid (Vv.out.ext hy)
      clear hy
      clear Kn Ko
      have hlow := divInt_low (z := z) (d := d) (of_decide_eq_true HK.out.2.2).1 (of_decide_eq_true HK.out.2.2).2
      have HR := Lib.hid (show RatV x9 (.agg #[.bool nn, .slice an qn cn, .bool nv, .slice av qv cv]) (Rat.divInt z d) from RatV.mk (by rw [hlow.1]; exact Vn.out) (by rw [hlow.2]; exact Vv.out))
      have hnd : nv = false := HR.out.den.pos (by omega)
      subst hnd
      have HLW := Lib.hid hlow
      clear hlow
      clear Vn
      clear Vo
      clear Vv
      obtain ⟨cr0, cr1, cr2, cr3⟩ := bk4 Kr
      obtain ⟨cy0, cy1, cy2, cy3⟩ := bk4 Ky
      have hteq := HQ.out.2
      have hteq2 : (!((textR (Rat.divInt z d)).toList == s.toList)) = true := by rw [hteq]; rfl
      have HT := Lib.hid (rText_valR HR.out (by rw [HLW.out.1]; exact HK.out.1) (by rw [HLW.out.2]; exact HK.out.2.1) (by rw [HLW.out.1, HLW.out.2]; exact HQ.out.1))
      generalize textR (Rat.divInt z d) = tt at *
      go_wp2_with fail
      with_reducible refine (HT.out).mono ?_
      clear cr0 cr1 cr2 cr3 cy0 cy1 cy2 cy3
      rintro e x10 ⟨rfl, hy⟩
      replace hx := hx.trans hy
      replace Kr := kE Kr hy
      replace Ky := kE Ky hy
      replace HR := Lib.hid (HR.out.ext hy)
      clear hy
      obtain ⟨cr0, cr1, cr2, cr3⟩ := bk4 Kr
      obtain ⟨cy0, cy1, cy2, cy3⟩ := bk4 Ky
      go_upto_region 14 with fail
      clear cr0 cr1 cr2 cr3 cy0 cy1 cy2 cy3
      clear HR
      obtain ⟨cr0, cr1, cr2, cr3⟩ := bk4 Kr
      obtain ⟨cy0, cy1, cy2, cy3⟩ := bk4 Ky
      obtain ⟨g0, z0, g1, z1, g2, z2, g3, z3⟩ := bp4 Kr (.bool false) (.slice none 0 0) (.bool false) (.slice none 0 0)
      go_wp2_with fail
      clear g0 z0 g1 z1 g2 z2 g3 z3
      clear cr0 cr1 cr2 cr3 cy0 cy1 cy2 cy3
      replace hx := bx4 hx (w.heap.size) (.bool false) (.slice none 0 0) (.bool false) (.slice none 0 0) (by omega)
      replace Kr := bs4 Kr (.bool false) (.slice none 0 0) (.bool false) (.slice none 0 0)
      replace Ky := bo4 Ky (w.heap.size) (.bool false) (.slice none 0 0) (.bool false) (.slice none 0 0) (by omega)
      generalize ((((x10).setCell ⟨w.heap.size, 0, none⟩ (.bool false)).setCell ⟨w.heap.size, 1, none⟩ (.slice none 0 0)).setCell ⟨w.heap.size, 2, none⟩ (.bool false)).setCell ⟨w.heap.size, 3, none⟩ (.slice none 0 0) = x11 at *
      obtain ⟨cr0, cr1, cr2, cr3⟩ := bk4 Kr
      refine bodyPost_ret (v := .tuple #[.agg #[.bool false, .slice none 0 0, .bool false, .slice none 0 0], .int .i64 100]) (by simp [results, Tryz.results23, go_sem, cr0, cr1, cr2, cr3]) rfl ?_
      exact ⟨rfl, hx⟩
set_option maxHeartbeats 4000000 in
theorem rRead_b6 (s sn sd : ByteArray) (K : Nat) (z d : Int) (w : World) (hs : s.size ≤ 1000) (hK : K < s.size) (hb : ∀ j, j < K → ∀ b, s.data.toList[j]? = some b → b ≠ 47) (hk : s.data.toList[K]? = some 47) (hsn : s.extract 0 K = sn) (hsd : s.extract (K + 1) s.size = sd) (HN : ∀ W, Calls Tryz.prog 66 #[.string sn] W (OneP z W)) (HD : ∀ W, Calls Tryz.prog 66 #[.string sd] W (OneP d W)) (lz : Len z) (ld : Len d) (hck : decide (0 < d ∧ Int.gcd z d = 1) = true) (hx1 : (txtL z).length ≤ 1000 ∧ (txtL d).length ≤ 1000) (heq : ((textR (Rat.divInt z d)).toList == s.toList) = true) : Calls Tryz.prog 23 #[.string s] w (RatP (Rat.divInt z d) w) := by
  have HN := Lib.hid HN
  have HD := Lib.hid HD
  have HK := Lib.hid (And.intro lz (And.intro ld hck))
  clear lz ld hck
  have HQ := Lib.hid (And.intro hx1 heq)
  clear hx1 heq
  have HBY := Lib.hid (And.intro hb hk)
  clear hb hk
  have HSN := Lib.hid hsn
  have HSD := Lib.hid hsd
  have HSL : Hid (s.data.toList.length = s.size) := Lib.hid (by rw [Array.length_toList]; rfl)
  clear hsn hsd
  obtain ⟨x1, hw, hx, Kr⟩ := boxQ1 w #[.bool false, .slice none 0 0, .bool false, .slice none 0 0] 26
  replace hw := Lib.hid hw
  go_enter Tryz.func23, Tryz.ntmps23
  go_upto_region 1 with fail
  try simp only [Nat.add_assoc, Nat.reduceAdd, Nat.add_zero]
  rw [hw.out]
  clear hw
  have hs0 := hx.size
  go_wp2_with fail
  go_loopw [4] (fun i wr => ∃ k : Nat, k ≤ K ∧ i = .int .i64 k ∧ Ext x1 wr) (fun i _ => s.size - (intOf i).toNat)
  case atStart => exact ⟨0, Nat.zero_le _, rfl, Ext.refl _⟩
  case round =>
    obtain ⟨k, hkk, rfl, hxr⟩ := hrel
    by_cases hkn : k < K
    · have hks : k < s.size := by omega
      obtain ⟨b, hb⟩ : ∃ b, s.data.toList[k]? = some b := ⟨_, List.getElem?_eq_getElem (by rw [HSL.out]; exact hks)⟩
      have hbb : s[k]'hks = b := by
        rw [List.getElem?_eq_getElem (by rw [HSL.out]; exact hks)] at hb
        exact Option.some.inj hb
      have hne : b ≠ 47 := HBY.out.1 k hkn b hb
      obtain ⟨bv, hbv⟩ : ∃ bv : Int, ((b.toNat : Nat) : Int) = bv := ⟨_, rfl⟩
      have hbv2 : (((s[k]'hks).toNat : Nat) : Int) = bv := by rw [hbb]; exact hbv
      have hv : bv ≠ 47 := fun e => hne (UInt8.toNat_inj.1 (by show b.toNat = 47; omega))
      have v1 : (bv == 47) = false := by simpa using hv
      have v2 : (!(bv == 47)) = true := by simpa using hv
      have d1 : decide (k < s.size) = true := by simpa using hks
      have d2 : decide ((k : Int) < (s.size : Int)) = true := by simp only [decide_eq_true_eq]; omega
      have g1 : (0 : Int) ≤ (k : Int) := by omega
      clear hb hbb hne hv hbv
      go_wp2_with fail
      go_roundw
      case rel => exact ⟨k + 1, by omega, by go_num, hxr⟩
      case measure => simp [intOf]; omega
    · obtain rfl : k = K := by omega
      have hks := hK
      have hb := HBY.out.2
      have hbb : s[k]'hks = 47 := by
        rw [List.getElem?_eq_getElem (by rw [HSL.out]; exact hks)] at hb
        exact Option.some.inj hb
      have hbv2 : (((s[k]'hks).toNat : Nat) : Int) = 47 := by rw [hbb]; rfl
      have d1 : decide (k < s.size) = true := by simpa using hks
      have d2 : decide ((k : Int) < (s.size : Int)) = true := by simp only [decide_eq_true_eq]; omega
      have g1 : (0 : Int) ≤ (k : Int) := by omega
      have g2 : (k : Int) ≤ (s.size : Int) := by omega
      have g3 : (0 : Int) ≤ (k : Int) + 1 := by omega
      have g4 : (k : Int) + 1 ≤ (s.size : Int) := by omega
      have g5 : IntKind.i64.wrap ((k : Int) + 1) = (k : Int) + 1 := IntWalk.i64_in _ (by omega)
      clear hb hbb hkn
      replace hx := hx.trans hxr
      replace Kr := Lib.hid (Kr.out.ext hxr)
      clear hxr
      have hsn := HSN.out
      have hsd := HSD.out
      go_wp2_with fail
      have hsz := hx.size
      with_reducible refine (HN.out _).mono ?_
      rintro e x2 ⟨v, rfl, hv, hy⟩
      replace hx := hx.trans hy
      replace Kr := kE Kr hy
      clear hy
      obtain ⟨nn, an, qn, cn, rfl, hv', hf'⟩ := hv.two
      have Vn := Lib.hid hv'
      have Fn := Lib.hid (fun A hA => Nat.le_trans hsz (hf' A hA))
      clear hv' hf' hsz
      go_upto_region 5 with fail
      have hl := Ext.alloc x2 (.cells #[.bool nn, .slice an qn cn] 24)
      have lrn : w.heap.size < x2.heap.size := Kr.out.lt
      have hpn : w.heap.size ≤ x2.heap.size := hx.size
      replace hx := hx.trans hl
      replace Kr := kE Kr hl
      replace Vn := Lib.hid (Vn.out.ext hl)
      have Kn := Lib.hid (Blk.new0 x2 #[.bool nn, .slice an qn cn] 24)
      clear hl
      generalize x2.alloc (.cells #[.bool nn, .slice an qn cn] 24) = x3 at *
      generalize x2.heap.size = pn at *
      obtain ⟨cr0, cr1, cr2, cr3⟩ := bk4 Kr
      obtain ⟨cn0, cn1⟩ := bk2 Kn
      have hsz := hx.size
      go_wp2_with fail
      with_reducible refine (ref_Make 1 _ (by omega)).mono ?_
      clear cr0 cr1 cr2 cr3 cn0 cn1
      rintro e x4 ⟨v, rfl, hv, hy⟩
      replace hx := hx.trans hy
      replace Kr := kE Kr hy
      replace Kn := kE Kn hy
      replace Vn := Lib.hid (Vn.out.ext hy)
      clear hy
      obtain ⟨no, ao, qo, co, rfl, hv', hf'⟩ := hv.two
      have Vo := Lib.hid hv'
      have Fo := Lib.hid (fun A hA => Nat.le_trans hsz (hf' A hA))
      clear hv' hf' hsz
      go_upto_region 6 with fail
      have hl := Ext.alloc x4 (.cells #[.bool no, .slice ao qo co] 24)
      have lro : w.heap.size < x4.heap.size := Kr.out.lt
      have lno : pn < x4.heap.size := Kn.out.lt
      have hpo : w.heap.size ≤ x4.heap.size := hx.size
      replace hx := hx.trans hl
      replace Kr := kE Kr hl
      replace Kn := kE Kn hl
      replace Vn := Lib.hid (Vn.out.ext hl)
      replace Vo := Lib.hid (Vo.out.ext hl)
      have Ko := Lib.hid (Blk.new0 x4 #[.bool no, .slice ao qo co] 24)
      clear hl
      generalize x4.alloc (.cells #[.bool no, .slice ao qo co] 24) = x5 at *
      generalize x4.heap.size = po at *
      obtain ⟨cr0, cr1, cr2, cr3⟩ := bk4 Kr
      obtain ⟨cn0, cn1⟩ := bk2 Kn
      obtain ⟨co0, co1⟩ := bk2 Ko
      have hsz := hx.size
      go_wp2_with fail
      with_reducible refine (HD.out _).mono ?_
      clear cr0 cr1 cr2 cr3 cn0 cn1 co0 co1
      rintro e x6 ⟨v, rfl, hv, hy⟩
      replace hx := hx.trans hy
      replace Kr := kE Kr hy
      replace Kn := kE Kn hy
      replace Ko := kE Ko hy
      replace Vn := Lib.hid (Vn.out.ext hy)
      replace Vo := Lib.hid (Vo.out.ext hy)
      clear hy
      obtain ⟨nv, av, qv, cv, rfl, hv', hf'⟩ := hv.two
      have Vv := Lib.hid hv'
      have Fv := Lib.hid (fun A hA => Nat.le_trans hsz (hf' A hA))
      clear hv' hf' hsz
      obtain ⟨cr0, cr1, cr2, cr3⟩ := bk4 Kr
      obtain ⟨cn0, cn1⟩ := bk2 Kn
      obtain ⟨co0, co1⟩ := bk2 Ko
      obtain ⟨g0, z0, g1, z1⟩ := bp2 Ko (.bool nv) (.slice av qv cv)
      go_upto_region 9 with fail
      clear g0 z0 g1 z1
      clear cr0 cr1 cr2 cr3 cn0 cn1 co0 co1
      replace Vn := (by first | exact rv2 Vn Ko (.bool nv) (.slice av qv cv) rfl rfl | exact bv2 Vn Ko (.bool nv) (.slice av qv cv) rfl rfl)
      replace Vo := (by first | exact rv2 Vo Ko (.bool nv) (.slice av qv cv) rfl rfl | exact bv2 Vo Ko (.bool nv) (.slice av qv cv) rfl rfl)
      replace Vv := (by first | exact rv2 Vv Ko (.bool nv) (.slice av qv cv) rfl rfl | exact bv2 Vv Ko (.bool nv) (.slice av qv cv) rfl rfl)
      replace hx := bx2 hx (po) (.bool nv) (.slice av qv cv) (by omega)
      replace Kr := bo2 Kr (po) (.bool nv) (.slice av qv cv) (by omega)
      replace Kn := bo2 Kn (po) (.bool nv) (.slice av qv cv) (by omega)
      replace Ko := bs2 Ko (.bool nv) (.slice av qv cv)
      generalize ((x6).setCell ⟨po, 0, none⟩ (.bool nv)).setCell ⟨po, 1, none⟩ (.slice av qv cv) = x7 at *
      obtain ⟨cr0, cr1, cr2, cr3⟩ := bk4 Kr
      obtain ⟨cn0, cn1⟩ := bk2 Kn
      obtain ⟨co0, co1⟩ := bk2 Ko
      go_upto_region 10 with fail
      have hl := Ext.alloc x7 (.cells #[.bool nn, .slice an qn cn, .bool nv, .slice av qv cv] 26)
      have lry : w.heap.size < x7.heap.size := Kr.out.lt
      have lny : pn < x7.heap.size := Kn.out.lt
      have loy : po < x7.heap.size := Ko.out.lt
      have hpy : w.heap.size ≤ x7.heap.size := hx.size
      clear cr0 cr1 cr2 cr3 cn0 cn1 co0 co1
      replace hx := hx.trans hl
      replace Kr := kE Kr hl
      replace Kn := kE Kn hl
      replace Ko := kE Ko hl
      replace Vn := Lib.hid (Vn.out.ext hl)
      replace Vo := Lib.hid (Vo.out.ext hl)
      replace Vv := Lib.hid (Vv.out.ext hl)
      have Ky := Lib.hid (Blk.new0 x7 #[.bool nn, .slice an qn cn, .bool nv, .slice av qv cv] 26)
      clear hl
      generalize x7.alloc (.cells #[.bool nn, .slice an qn cn, .bool nv, .slice av qv cv] 26) = x8 at *
      generalize x7.heap.size = py at *
      obtain ⟨ln, hln, hin, hbn⟩ := Vn.out.parts
      obtain ⟨lo, hlo, hio, hbo⟩ := Vv.out.parts
      have hCK := refR_Check nn nv _ _ _ _ ln lo _ hin hio
      rw [okR_eq hbn hbo HK.out.1 HK.out.2.1, HK.out.2.2, hln, hlo] at hCK
      have HCK := Lib.hid hCK
      clear hCK hln hin hbn hlo hio hbo
      obtain ⟨cr0, cr1, cr2, cr3⟩ := bk4 Kr
      obtain ⟨cn0, cn1⟩ := bk2 Kn
      obtain ⟨co0, co1⟩ := bk2 Ko
      obtain ⟨cy0, cy1, cy2, cy3⟩ := bk4 Ky
      go_wp2_with fail
      with_reducible refine (show Calls Tryz.prog 19 _ _ (fun e w' => e = .returned (.int .i64 0) ∧ Ext x8 w') from HCK.out).mono ?_
      clear cr0 cr1 cr2 cr3 cn0 cn1 co0 co1 cy0 cy1 cy2 cy3
      rintro e x9 ⟨rfl, hy⟩
      replace hx := hx.trans hy
      replace Kr := kE Kr hy
      replace Kn := kE Kn hy
      replace Ko := kE Ko hy
      replace Ky := kE Ky hy
      replace Vn := Lib.hid (Vn.out.ext hy)
      replace Vo := Lib.hid (Vo.out.ext hy)
      replace Vv := Lib.hid (Vv.out.ext hy)
      clear hy
      clear Kn Ko
      have hlow := divInt_low (z := z) (d := d) (of_decide_eq_true HK.out.2.2).1 (of_decide_eq_true HK.out.2.2).2
      have HR := Lib.hid (show RatV x9 (.agg #[.bool nn, .slice an qn cn, .bool nv, .slice av qv cv]) (Rat.divInt z d) from RatV.mk (by rw [hlow.1]; exact Vn.out) (by rw [hlow.2]; exact Vv.out))
      have hnd : nv = false := HR.out.den.pos (by omega)
      subst hnd
      have HLW := Lib.hid hlow
      clear hlow
      clear Vn
      clear Vo
      clear Vv
      obtain ⟨cr0, cr1, cr2, cr3⟩ := bk4 Kr
      obtain ⟨cy0, cy1, cy2, cy3⟩ := bk4 Ky
      have hteq := HQ.out.2
      have hteq2 : (!((textR (Rat.divInt z d)).toList == s.toList)) = false := by rw [hteq]; rfl
      have HT := Lib.hid (rText_valR HR.out (by rw [HLW.out.1]; exact HK.out.1) (by rw [HLW.out.2]; exact HK.out.2.1) (by rw [HLW.out.1, HLW.out.2]; exact HQ.out.1))
      generalize textR (Rat.divInt z d) = tt at *
      go_wp2_with fail
      with_reducible refine (HT.out).mono ?_
      clear cr0 cr1 cr2 cr3 cy0 cy1 cy2 cy3
      rintro e x10 ⟨rfl, hy⟩
      replace hx := hx.trans hy
      replace Kr := kE Kr hy
      replace Ky := kE Ky hy
      replace HR := Lib.hid (HR.out.ext hy)
      clear hy
      obtain ⟨cr0, cr1, cr2, cr3⟩ := bk4 Kr
      obtain ⟨cy0, cy1, cy2, cy3⟩ := bk4 Ky
      go_upto_region 15 with fail
      clear cr0 cr1 cr2 cr3 cy0 cy1 cy2 cy3
      obtain ⟨cr0, cr1, cr2, cr3⟩ := bk4 Kr
      obtain ⟨cy0, cy1, cy2, cy3⟩ := bk4 Ky
      obtain ⟨g0, z0, g1, z1, g2, z2, g3, z3⟩ := bp4 Kr (.bool nn) (.slice an qn cn) (.bool false) (.slice av qv cv)
      go_wp2_with fail
      clear g0 z0 g1 z1 g2 z2 g3 z3
      clear cr0 cr1 cr2 cr3 cy0 cy1 cy2 cy3
      replace HR := (by first | exact rv4 HR Kr (.bool nn) (.slice an qn cn) (.bool false) (.slice av qv cv) rfl rfl rfl rfl | exact bv4 HR Kr (.bool nn) (.slice an qn cn) (.bool false) (.slice av qv cv) rfl rfl rfl rfl)
      replace hx := bx4 hx (w.heap.size) (.bool nn) (.slice an qn cn) (.bool false) (.slice av qv cv) (by omega)
      replace Kr := bs4 Kr (.bool nn) (.slice an qn cn) (.bool false) (.slice av qv cv)
      replace Ky := bo4 Ky (w.heap.size) (.bool nn) (.slice an qn cn) (.bool false) (.slice av qv cv) (by omega)
      generalize ((((x10).setCell ⟨w.heap.size, 0, none⟩ (.bool nn)).setCell ⟨w.heap.size, 1, none⟩ (.slice an qn cn)).setCell ⟨w.heap.size, 2, none⟩ (.bool false)).setCell ⟨w.heap.size, 3, none⟩ (.slice av qv cv) = x11 at *
      obtain ⟨cr0, cr1, cr2, cr3⟩ := bk4 Kr
      refine bodyPost_ret (v := .tuple #[.agg #[.bool nn, .slice an qn cn, .bool false, .slice av qv cv], .int .i64 0]) (by simp [results, Tryz.results23, go_sem, cr0, cr1, cr2, cr3]) rfl ?_
      exact ⟨_, rfl, ⟨_, _, _, _, _, _, _, rfl, HR.out, Fn.out, Fv.out⟩, hx⟩
end Go.Proofs.YtnpeakahiedeoaaGreatDoor

namespace Go.Proofs.YtnpeakahiedeoaaGreatDoor
open Go.RowKit Go BigFrame
set_option maxRecDepth 100000
set_option linter.unusedSimpArgs false
set_option linter.unusedVariables false

/-! ref10.Read, at any text of at most 1000 bytes. -/
theorem cut_spec (l : List UInt8) : (cutL l = (l, none) ∧ ∀ j, j < l.length → ∀ b, l[j]? = some b → b ≠ 47) ∨ ∃ k : Nat, k < l.length ∧ cutL l = (l.take k, some (l.drop (k + 1))) ∧ l[k]? = some 47 ∧ ∀ j, j < k → ∀ b, l[j]? = some b → b ≠ 47 := by
  induction l with
  | nil => exact .inl ⟨rfl, fun j hj => by simp at hj⟩
  | cons c l ih =>
    by_cases hb : (c == 47) = true
    · exact .inr ⟨0, by simp, by simp [cutL, hb], by simpa using hb, fun j hj => by omega⟩
    · have hc : c ≠ 47 := by simpa using hb
      rcases ih with ⟨h1, h2⟩ | ⟨k, hk, h1, h2, h3⟩
      · refine .inl ⟨by simp [cutL, hb, h1], fun j hj b e => ?_⟩
        cases j with
        | zero => simp at e; rw [← e]; exact hc
        | succ j => exact h2 j (by simpa using hj) b (by simpa using e)
      · refine .inr ⟨k + 1, by simpa using hk, by simp [cutL, hb, h1], by simpa using h2, fun j hj b e => ?_⟩
        cases j with
        | zero => simp at e; rw [← e]; exact hc
        | succ j => exact h3 j (by omega) b (by simpa using e)
theorem rread_none {s : ByteArray} (hs : s.size ≤ 1000) (h : readL s.data.toList = none) (W : World) : Calls Tryz.prog 66 #[.string s] W fun e w' => e = .returned (.tuple #[zeroBig, .int .i64 90]) ∧ Ext W w' := (rRead_val s W hs).mono fun e w' hh => hh.1 h
theorem rread_some {s : ByteArray} (hs : s.size ≤ 1000) {z : Int} (h : readL s.data.toList = some z) (W : World) : Calls Tryz.prog 66 #[.string s] W (OneP z W) := (rRead_val s W hs).mono fun e w' hh => hh.2 z h
theorem bytes_eq {s t : ByteArray} (h : s.data.toList = t.data.toList) : s = t := by
  have : s.data = t.data := Array.toList_inj.1 h
  cases s; cases t; simp_all
theorem toList_beq (s t : ByteArray) : (s.toList == t.toList) = decide (s.data.toList = t.data.toList) := by
  rw [Lib.toList_data, Lib.toList_data]
  by_cases h : s.data.toList = t.data.toList
  · rw [decide_eq_true h, h]; simp
  · rw [decide_eq_false h]; simpa using h
theorem textR_list (r : Rat) : (textR r).data.toList = if r.den = 1 then txtL r.num else txtL r.num ++ 47 :: txtL (r.den : Int) := by
  unfold textR
  split
  · simp
  · simp
theorem rRead (s : ByteArray) (w : World) (hs : s.size ≤ 1000) : Calls Tryz.prog 23 #[.string s] w (ReadRP (readR s.data.toList) w) := by
  have hsl := bsz s
  unfold readR
  rcases cut_spec s.data.toList with ⟨h2, hb⟩ | ⟨k, hk, h2, hk47, hb⟩
  · rw [h2]
    dsimp only
    have hsn : s.extract 0 s.size = s := bytes_eq (by rw [ext_to, List.take_of_length_le (by omega)])
    have hb' : ∀ j, j < s.size → ∀ b, s.data.toList[j]? = some b → b ≠ 47 := fun j hj => hb j (by omega)
    cases hr : readL s.data.toList with
    | none => exact (rRead_a1 s s ⟨#[]⟩ s.size 0 0 w hs rfl hb' hsn (rread_none hs hr)).mono fun e w' h => .none h
    | some z =>
      have hg : decide ((0 : Int) < 1 ∧ Int.gcd z 1 = 1) = true := by simp
      have hlow := divInt_low (z := z) (d := 1) (by omega) (by simp)
      have ht := text_read hr
      have hd1 : (Rat.divInt z 1).den = 1 := by have := hlow.2; omega
      refine (rRead_a2 s s ⟨#[]⟩ s.size z 0 w hs rfl hb' hsn (rread_some hs hr) (read_len hr (by omega)) (len_small (by decide)) hg ⟨by rw [ht]; omega, ?_⟩ ?_).mono fun e w' h => .some h
      · rw [text_read (z := 1) (l := [49]) (by decide)]; decide
      · rw [toList_beq, textR_list, if_pos hd1, hlow.1, ht]; simp
  · rw [h2]
    have hks : k < s.size := by omega
    generalize hsn : s.extract 0 k = sn
    generalize hsd : s.extract (k + 1) s.size = sd
    have en : s.data.toList.take k = sn.data.toList := by rw [← hsn, ext_to]
    have ed : s.data.toList.drop (k + 1) = sd.data.toList := by rw [← hsd, ext_from]
    have hall : s.data.toList = sn.data.toList ++ 47 :: sd.data.toList := by
      rw [← en, ← ed]
      have h47 : s.data.toList[k]'hk = 47 := by
        rw [List.getElem?_eq_getElem hk] at hk47
        exact Option.some.inj hk47
      rw [← h47, List.getElem_cons_drop, List.take_append_drop]
    have ln : sn.data.toList.length ≤ 1000 := by rw [← en, List.length_take]; omega
    have ld : sd.data.toList.length ≤ 1000 := by rw [← ed, List.length_drop]; omega
    have zn : sn.size ≤ 1000 := by rw [← bsz]; exact ln
    have zd : sd.size ≤ 1000 := by rw [← bsz]; exact ld
    rw [en, ed]
    dsimp only
    cases hr : readL sn.data.toList with
    | none =>
      cases hq : readL sd.data.toList with
      | none => exact (rRead_b2 s sn sd k 0 0 w hs hks hb hk47 hsn hsd (rread_none zn hr) (rread_none zd hq)).mono fun e w' h => .none h
      | some d => exact (rRead_b1 s sn sd k 0 d w hs hks hb hk47 hsn hsd (rread_none zn hr) (rread_some zd hq)).mono fun e w' h => .none h
    | some z =>
      cases hq : readL sd.data.toList with
      | none => exact (rRead_b3 s sn sd k z 0 w hs hks hb hk47 hsn hsd (rread_some zn hr) (rread_none zd hq)).mono fun e w' h => .none h
      | some d =>
        have lz := read_len hr ln
        have ld' := read_len hq ld
        have tn := text_read hr
        have td := text_read hq
        dsimp only
        have hsz : (txtL z).length ≤ 1000 ∧ (txtL d).length ≤ 1000 := by rw [tn, td]; exact ⟨ln, ld⟩
        by_cases hg : 0 < d ∧ Int.gcd z d = 1
        · have hlow := divInt_low (z := z) (d := d) hg.1 hg.2
          by_cases h1 : d = 1
          · have hsd1 : sd.data.toList = [49] := by rw [← td, h1]; exact text_read (by decide)
            rw [if_pos (by rw [hsd1]; rfl)]
            refine (rRead_b5 s sn sd k z d w hs hks hb hk47 hsn hsd (rread_some zn hr) (rread_some zd hq) lz ld' (decide_eq_true hg) hsz ?_).mono fun e w' h => .none h
            have hd1 : (Rat.divInt z d).den = 1 := by have := hlow.2; omega
            rw [toList_beq, textR_list, if_pos hd1, hlow.1, tn, hall]
            rw [decide_eq_false_iff_not]
            intro e
            have := congrArg List.length e
            simp at this
          · have hl : (sd.data.toList == [49]) = false := by
              rw [beq_eq_false_iff_ne]
              intro e
              rw [e, show readL [49] = some 1 by decide] at hq
              exact h1 (Option.some.inj hq).symm
            rw [hl, if_neg (by simp)]
            unfold mkR
            rw [if_pos hg]
            refine (rRead_b6 s sn sd k z d w hs hks hb hk47 hsn hsd (rread_some zn hr) (rread_some zd hq) lz ld' (decide_eq_true hg) hsz ?_).mono fun e w' h => .some h
            have hd1 : (Rat.divInt z d).den ≠ 1 := by have := hlow.2; omega
            rw [toList_beq, textR_list, if_neg hd1, hlow.1, hlow.2, tn, td, hall]
            simp
        · have hn : (if (sd.data.toList == [49]) = true then none else mkR z d) = none := by
            split
            · rfl
            · unfold mkR; rw [if_neg hg]
          rw [hn]
          exact (rRead_b4 s sn sd k z d w hs hks hb hk47 hsn hsd (rread_some zn hr) (rread_some zd hq) lz ld' (decide_eq_false hg)).mono fun e w' h => .none h
end Go.Proofs.YtnpeakahiedeoaaGreatDoor

namespace Go.Proofs.YtnpeakahiedeoaaGreatDoor
open Go.RowKit Go BigFrame
set_option maxRecDepth 100000
set_option linter.unusedSimpArgs false
set_option linter.unusedVariables false

/-! law10.RatioTextSpec. -/
theorem both_TextR {x : RatA} {w : World} (hx1 : RatI w x) (f1 : fewR x = true) : ∃ (t : ByteArray) (E : Int), ∀ W, Ext w W → (Calls Tryz.prog 20 #[x.val] W fun e w' => e = .returned (.tuple #[.string t, .int .i64 E]) ∧ Ext W w') ∧ (Calls Tryz.prog 21 #[x.val] W fun e w' => e = .returned (.tuple #[.string t, .int .i64 E]) ∧ Ext W w') := by
  cases hb : x.ok
  · exact ⟨⟨#[]⟩, 100, fun W hx => ⟨ratio_Text_bad x W (hx1.i.ext hx) (hx1.j.ext hx) hb, refR_Text_bad x W (hx1.i.ext hx) (hx1.j.ext hx) hb⟩⟩
  · obtain ⟨r, sx, vx⟩ := few_sz hb f1
    exact ⟨_, 0, fun W hx => ⟨ratio_Text (vx W (hx1.ext hx)) (sx.lenN (by omega)) (sx.lenD (by omega)) (txt_few sx (by omega)), rText_valR (vx W (hx1.ext hx)) (sx.lenN (by omega)) (sx.lenD (by omega)) (txt_few sx (by omega))⟩⟩
theorem ReadRP.resp {o : Option Rat} : ∃ z y E : Int, ∀ (W w' : World) (e : Ending), ReadRP o W e w' → ResP z y E W e w' := by
  cases o with
  | none => exact ⟨0, 0, 100, fun W w' e h => .err (h.1 rfl)⟩
  | some r => exact ⟨_, _, 0, fun W w' e h => .ok (h.2 r rfl)⟩
theorem both_ReadR (s : ByteArray) (hs : s.size ≤ 1000) : ∃ z y E : Int, ∀ W, Calls Tryz.prog 22 #[.string s] W (ResP z y E W) ∧ Calls Tryz.prog 23 #[.string s] W (ResP z y E W) := by
  obtain ⟨z, y, E, h⟩ := ReadRP.resp (o := readR s.data.toList)
  exact ⟨z, y, E, fun W => ⟨(ratio_Read s W hs).mono fun e w' hh => h W w' e hh, (rRead s W hs).mono fun e w' hh => h W w' e hh⟩⟩
set_option maxHeartbeats 4000000 in
theorem law_TextSpec_f0 (x : RatA) (s : ByteArray) (w : World) (hs : s.size ≤ 9223372036854775807) (hx1 : RatI w x) (f0 : fewR x = false) : Calls Tryz.prog 4 #[x.val, .string s] w fun e w' => e = .returned (.bool true) ∧ Ext w w' := by
  obtain ⟨nx, ax, cx, lx, mx, bx, dx, kx⟩ := x
  have f0 : (fewQ lx.length 6 && fewQ kx.length 6) = false := f0
  dsimp only [RatA.val] at *
  have HF0 := Lib.hid (fun W => show Calls Tryz.prog 12 #[.agg #[.bool nx, .slice ax lx.length cx, .bool mx, .slice bx kx.length dx], .int .i64 6] W _ from few_val nx mx ax bx lx.length cx kx.length dx 6 W (Nat.le_trans hx1.i.le hx1.i.mx) (Nat.le_trans hx1.j.le hx1.j.mx))
  rw [f0] at HF0
  clear hx1 f0
  obtain ⟨x1, hw, hx, Kx⟩ := boxQ1 w #[.bool nx, .slice ax lx.length cx, .bool mx, .slice bx kx.length dx] 26
  replace hw := Lib.hid hw
  go_enter Tryz.func4, Tryz.ntmps4
  go_upto_region 1 with fail
  try simp only [Nat.add_assoc, Nat.reduceAdd, Nat.add_zero]
  rw [hw.out]
  clear hw
  have hs0 := hx.size
  obtain ⟨cx0, cx1, cx2, cx3⟩ := bk4 Kx
  go_wp2_with fail
  with_reducible refine (law10_sane _).mono ?_
  clear cx0 cx1 cx2 cx3
  rintro e x2 ⟨rfl, hy⟩
  replace hx := hx.trans hy
  replace Kx := kE Kx hy
  clear hy
  obtain ⟨cx0, cx1, cx2, cx3⟩ := bk4 Kx
  go_wp2_with fail
  with_reducible refine (HF0.out _).mono ?_
  clear cx0 cx1 cx2 cx3
  rintro e x3 ⟨rfl, hy⟩
  replace hx := hx.trans hy
  replace Kx := kE Kx hy
  clear hy
  go_wp2_with fail
  go_ret
  exact ⟨rfl, hx⟩
set_option maxHeartbeats 4000000 in
theorem law_TextSpec_f1 (x : RatA) (s : ByteArray) (w : World) (hs : s.size ≤ 9223372036854775807) (hx1 : RatI w x) (f0 : fewR x = true) (hl : 200 < s.size) : Calls Tryz.prog 4 #[x.val, .string s] w fun e w' => e = .returned (.bool true) ∧ Ext w w' := by
  have t1 : decide ((200 : Int) < (s.size : Int)) = true := by rw [decide_eq_true_iff]; omega
  have t2 : decide (200 < s.size) = true := by rw [decide_eq_true_iff]; omega
  clear hl
  obtain ⟨nx, ax, cx, lx, mx, bx, dx, kx⟩ := x
  have f0 : (fewQ lx.length 6 && fewQ kx.length 6) = true := f0
  dsimp only [RatA.val] at *
  have HF0 := Lib.hid (fun W => show Calls Tryz.prog 12 #[.agg #[.bool nx, .slice ax lx.length cx, .bool mx, .slice bx kx.length dx], .int .i64 6] W _ from few_val nx mx ax bx lx.length cx kx.length dx 6 W (Nat.le_trans hx1.i.le hx1.i.mx) (Nat.le_trans hx1.j.le hx1.j.mx))
  rw [f0] at HF0
  clear hx1 f0
  obtain ⟨x1, hw, hx, Kx⟩ := boxQ1 w #[.bool nx, .slice ax lx.length cx, .bool mx, .slice bx kx.length dx] 26
  replace hw := Lib.hid hw
  go_enter Tryz.func4, Tryz.ntmps4
  go_upto_region 1 with fail
  try simp only [Nat.add_assoc, Nat.reduceAdd, Nat.add_zero]
  rw [hw.out]
  clear hw
  have hs0 := hx.size
  obtain ⟨cx0, cx1, cx2, cx3⟩ := bk4 Kx
  go_wp2_with fail
  with_reducible refine (law10_sane _).mono ?_
  clear cx0 cx1 cx2 cx3
  rintro e x2 ⟨rfl, hy⟩
  replace hx := hx.trans hy
  replace Kx := kE Kx hy
  clear hy
  obtain ⟨cx0, cx1, cx2, cx3⟩ := bk4 Kx
  go_wp2_with fail
  with_reducible refine (HF0.out _).mono ?_
  clear cx0 cx1 cx2 cx3
  rintro e x3 ⟨rfl, hy⟩
  replace hx := hx.trans hy
  replace Kx := kE Kx hy
  clear hy
  go_wp2_with fail
  go_ret
  exact ⟨rfl, hx⟩
set_option maxHeartbeats 4000000 in
theorem law_TextSpec_ok (x : RatA) (s : ByteArray) (w : World) (hs : s.size ≤ 9223372036854775807) (hx1 : RatI w x) (f0 : fewR x = true) (hl : s.size ≤ 200) : Calls Tryz.prog 4 #[x.val, .string s] w fun e w' => e = .returned (.bool true) ∧ Ext w w' := by
  obtain ⟨tt, E0, h0⟩ := both_TextR hx1 f0
  obtain ⟨z, y', E1, h1⟩ := both_ReadR s (by omega)
  have HT := Lib.hid h0
  have HR := Lib.hid h1
  clear h0 h1
  have t1 : decide ((200 : Int) < (s.size : Int)) = false := by rw [decide_eq_false_iff_not]; omega
  have t2 : decide (200 < s.size) = false := by rw [decide_eq_false_iff_not]; omega
  clear hl
  obtain ⟨nx, ax, cx, lx, mx, bx, dx, kx⟩ := x
  have f0 : (fewQ lx.length 6 && fewQ kx.length 6) = true := f0
  dsimp only [RatA.val] at *
  have HF0 := Lib.hid (fun W => show Calls Tryz.prog 12 #[.agg #[.bool nx, .slice ax lx.length cx, .bool mx, .slice bx kx.length dx], .int .i64 6] W _ from few_val nx mx ax bx lx.length cx kx.length dx 6 W (Nat.le_trans hx1.i.le hx1.i.mx) (Nat.le_trans hx1.j.le hx1.j.mx))
  rw [f0] at HF0
  clear hx1 f0
  obtain ⟨x1, hw, hx, Kx⟩ := boxQ1 w #[.bool nx, .slice ax lx.length cx, .bool mx, .slice bx kx.length dx] 26
  replace hw := Lib.hid hw
  go_enter Tryz.func4, Tryz.ntmps4
  go_upto_region 1 with fail
  try simp only [Nat.add_assoc, Nat.reduceAdd, Nat.add_zero]
  rw [hw.out]
  clear hw
  have hs0 := hx.size
  obtain ⟨cx0, cx1, cx2, cx3⟩ := bk4 Kx
  go_wp2_with fail
  with_reducible refine (law10_sane _).mono ?_
  clear cx0 cx1 cx2 cx3
  rintro e x2 ⟨rfl, hy⟩
  replace hx := hx.trans hy
  replace Kx := kE Kx hy
  clear hy
  obtain ⟨cx0, cx1, cx2, cx3⟩ := bk4 Kx
  go_wp2_with fail
  with_reducible refine (HF0.out _).mono ?_
  clear cx0 cx1 cx2 cx3
  rintro e x3 ⟨rfl, hy⟩
  replace hx := hx.trans hy
  replace Kx := kE Kx hy
  clear hy
  obtain ⟨cx0, cx1, cx2, cx3⟩ := bk4 Kx
  go_wp2_with fail
  with_reducible refine ((HT.out _ hx).1).mono ?_
  clear cx0 cx1 cx2 cx3
  rintro e x4 ⟨rfl, hy⟩
  replace hx := hx.trans hy
  replace Kx := kE Kx hy
  clear hy
  obtain ⟨cx0, cx1, cx2, cx3⟩ := bk4 Kx
  go_wp2_with fail
  with_reducible refine ((HT.out _ hx).2).mono ?_
  clear cx0 cx1 cx2 cx3
  rintro e x5 ⟨rfl, hy⟩
  replace hx := hx.trans hy
  replace Kx := kE Kx hy
  clear hy
  obtain ⟨cx0, cx1, cx2, cx3⟩ := bk4 Kx
  go_wp2_with fail
  with_reducible refine ((HR.out _).1).mono ?_
  clear cx0 cx1 cx2 cx3
  rintro e x6 ⟨np, ap, qp, cp, mp, bp, kp, dp, rfl, hv, hu, hy⟩
  replace hx := hx.trans hy
  replace Kx := kE Kx hy
  clear hy
  have Np := Lib.hid hv
  have Dp := Lib.hid hu
  clear hv hu
  go_upto_region 8 with fail
  have hl := Ext.alloc x6 (.cells #[.bool np, .slice ap qp cp, .bool mp, .slice bp kp dp] 26)
  have lxp : w.heap.size < x6.heap.size := Kx.out.lt
  have hpp : w.heap.size ≤ x6.heap.size := hx.size
  replace hx := hx.trans hl
  replace Kx := kE Kx hl
  replace Np := Lib.hid (Np.out.ext hl)
  replace Dp := Lib.hid (Dp.out.ext hl)
  have Kp := Lib.hid (Blk.new0 x6 #[.bool np, .slice ap qp cp, .bool mp, .slice bp kp dp] 26)
  clear hl
  generalize x6.alloc (.cells #[.bool np, .slice ap qp cp, .bool mp, .slice bp kp dp] 26) = x7 at *
  generalize x6.heap.size = pp at *
  obtain ⟨cx0, cx1, cx2, cx3⟩ := bk4 Kx
  obtain ⟨cp0, cp1, cp2, cp3⟩ := bk4 Kp
  go_wp2_with fail
  with_reducible refine ((HR.out _).2).mono ?_
  clear cx0 cx1 cx2 cx3 cp0 cp1 cp2 cp3
  rintro e x8 ⟨nq, aq, qq, cq, mq, bq, kq, dq, rfl, hv, hu, hy⟩
  replace hx := hx.trans hy
  replace Kx := kE Kx hy
  replace Kp := kE Kp hy
  replace Np := Lib.hid (Np.out.ext hy)
  replace Dp := Lib.hid (Dp.out.ext hy)
  clear hy
  have Nq := Lib.hid hv
  have Dq := Lib.hid hu
  clear hv hu
  go_upto_region 9 with fail
  have hl := Ext.alloc x8 (.cells #[.bool nq, .slice aq qq cq, .bool mq, .slice bq kq dq] 26)
  have lxq : w.heap.size < x8.heap.size := Kx.out.lt
  have lpq : pp < x8.heap.size := Kp.out.lt
  have hpq : w.heap.size ≤ x8.heap.size := hx.size
  replace hx := hx.trans hl
  replace Kx := kE Kx hl
  replace Kp := kE Kp hl
  replace Np := Lib.hid (Np.out.ext hl)
  replace Dp := Lib.hid (Dp.out.ext hl)
  replace Nq := Lib.hid (Nq.out.ext hl)
  replace Dq := Lib.hid (Dq.out.ext hl)
  have Kq := Lib.hid (Blk.new0 x8 #[.bool nq, .slice aq qq cq, .bool mq, .slice bq kq dq] 26)
  clear hl
  generalize x8.alloc (.cells #[.bool nq, .slice aq qq cq, .bool mq, .slice bq kq dq] 26) = x9 at *
  generalize x8.heap.size = pq at *
  obtain ⟨cp0, cp1, cp2, cp3⟩ := bk4 Kp
  obtain ⟨cq0, cq1, cq2, cq3⟩ := bk4 Kq
  go_wp2_with fail
  with_reducible refine (same_val Np.out Dp.out Nq.out Dq.out).mono ?_
  clear cp0 cp1 cp2 cp3 cq0 cq1 cq2 cq3
  rintro e x10 ⟨rfl, hy⟩
  replace hx := hx.trans hy
  replace Kx := kE Kx hy
  replace Kp := kE Kp hy
  replace Kq := kE Kq hy
  replace Np := Lib.hid (Np.out.ext hy)
  replace Dp := Lib.hid (Dp.out.ext hy)
  replace Nq := Lib.hid (Nq.out.ext hy)
  replace Dq := Lib.hid (Dq.out.ext hy)
  clear hy
  rw [decide_eq_true (by exact ⟨rfl, rfl⟩)]
  go_wp2_with fail
  go_ret
  exact ⟨rfl, hx⟩
theorem law_TextSpecR (x : RatA) (s : ByteArray) (w : World) (hs : s.size ≤ 9223372036854775807) (hx1 : RatI w x) : Calls Tryz.prog 4 #[x.val, .string s] w fun e w' => e = .returned (.bool true) ∧ Ext w w' := by
  cases f0 : fewR x
  · exact law_TextSpec_f0 x s w hs hx1 f0
  · by_cases hl : 200 < s.size
    · exact law_TextSpec_f1 x s w hs hx1 f0 hl
    · exact law_TextSpec_ok x s w hs hx1 f0 (by omega)
end Go.Proofs.YtnpeakahiedeoaaGreatDoor

namespace Go.Proofs.YtnpeakahiedeoaaGreatDoor
open Go.ChangeShapes Go.WideShapes Go.ChangeAt Go.RowKit
set_option linter.unusedVariables false
set_option maxRecDepth 100000

theorem ownRatioTextSpec : ownKnob Tryz.prog.godebug = none := by kernel_rfl
theorem laidOutRatioTextSpec : laidOutB Tryz.prog = true := by kernel_rfl

theorem liftedRatioTextSpec (os : Os) (started : os.Started) (H : Type) (enc : TypeId × Value → H) :
    ReturnsInHanded {} Tryz.checked os 4 .any (fun w args => (Rows.ratioTextSpecSpec.pre enc Tryz.prog Tryz.f4 [] false w args ∧ laidMetH Tryz.prog Rows.ratioTextSpecRow.laid w) ∧ sizedMet enc Tryz.prog Tryz.f4 (OpenSpec.ofChange Rows.ratioTextSpecSpec) false w args)
      (Rows.ratioTextSpecSpec.post enc Tryz.prog Tryz.f4 false true false false) := by
  refine returnsInHanded_of_change_and (C := Tryz.checked) (X := fun w _ => laidMetH Tryz.prog Rows.ratioTextSpecRow.laid w) (fun _ _ _ hh h => h.of_heap hh) ownRatioTextSpec started (by kernel_rfl) Tryz.func4
    (ChangeSpec.witness_shaped (enc := enc) (C := Tryz.checked) (os := os) (X := fun w _ => laidMetH Tryz.prog Rows.ratioTextSpecRow.laid w) false (World.laidAll Tryz.prog os Rows.ratioTextSpecRow.laid) #[.agg #[.bool false, .slice none 0 0, .bool false, .slice none 0 0], .string ByteArray.empty] 8 (World.laidAll_os _ _ _)
      (World.shaped_of_ZipB (by kernel_rfl) (by kernel_rfl)) (by kernel_rfl) (by kernel_rfl) (by kernel_rfl)
      (by rw [MakeChecks.laidMetH_plain _ _ _ (by kernel_rfl)]; exact laidMet_laidAll _ (by kernel_rfl) (by kernel_rfl))) ?_
  intro W base args ds gs before hval0 hW _ _ hL _
  have hval : ∀ (j : Nat) t v, Tryz.f4.params[j]? = some t → args[j]? = some v → Value.okWide Tryz.prog W .any base t v := hval0
  have hW' := hW
  obtain ⟨p, q, hA0, hV, rfl, hfz, hnd⟩ := hW
  have hA : DataW.TrodAll enc Tryz.prog W 0 (fun _ => true) true Tryz.f4.params.toList args.toList ds p := hA0
  rw [Tryz.params4] at hA hval
  obtain ⟨v0, vs0, d0, ds0, p0, q0, hargs, rfl, rfl, h0, r0⟩ := trodAll_cons hA
  obtain ⟨v1, vs1, d1, ds1, p1, q1, rfl, rfl, rfl, h1, r1⟩ := trodAll_cons r0
  obtain ⟨rfl, rfl, rfl⟩ := trodAll_nil r1
  obtain rfl : args = #[v0, v1] := by cases args; simp_all
  obtain ⟨rfl, rfl⟩ := trodVars_none hV
  have k0 := h0
  have lt0 : ∀ x ∈ p0, x.block < W.heap.size := by obtain ⟨m, hm⟩ := k0; exact DataW.trod_lt m _ _ _ hm
  have k1 := h1
  have lt1 : ∀ x ∈ p1, x.block < W.heap.size := by obtain ⟨m, hm⟩ := k1; exact DataW.trod_lt m _ _ _ hm
  obtain ⟨x0, rfl, w0⟩ := open_rat (hval 0 26 v0 rfl rfl) h0
  obtain ⟨s1, rfl, w1⟩ := open_str (hval 1 9 v1 rfl rfl) h1
  clear hA0 hval0 hL
  refine (law_TextSpecR x0 s1 W (by unfold maxLen at w1; omega) w0).mono fun e W' ⟨he, bel⟩ => ?_
  subst he
  exact ⟨_, rfl, _, _, _, [], _, [], hW', trodAll_mk1 (shut_bool Tryz.underlying4 _), (trodAll_cons_mk (Below.trod laidOutRatioTextSpec (by kernel_rfl) (of_decide_eq_true (by kernel_rfl)) k0 bel lt0) (trodAll_cons_mk (Below.trod laidOutRatioTextSpec (by kernel_rfl) (of_decide_eq_true (by kernel_rfl)) k1 bel lt1) trodAll_mk0)), rfl, bel.frame _, fun h => by cases h⟩

theorem ratioTextSpec_row : Rows.RatioTextSpecSaid :=
  OpenClaim.holds_of_wide 4 Tryz.f4 rfl rfl rfl rfl rfl rfl rfl ⟨rfl, rfl, rfl, rfl, rfl⟩ rfl rfl rfl rfl rfl (by kernel_rfl) Tryz.func4 (by kernel_rfl)
    (of_decide_eq_true (by kernel_rfl)) (by unfold Func.isWrapper; rw [if_neg (of_decide_eq_false (by kernel_rfl))]; exact ⟨rfl, rfl⟩)
    (fun os started H enc _ => liftedRatioTextSpec os started H enc)
theorem ratioTextSpec_holds : Rows.RatioTextSpecCardSaid :=
  Claim7.holds_tied_plain_at .later [] [.data, .pinned] true (true, "c9699e65e6934fe35cd3ec2aff4e45b52a3c715e77c50a88570d36f2513a0942") true ratioTextSpec_row (fun _ h => by cases h) (by kernel_rfl) (fun _ h => by cases h) ratioTextSpec_row_tie rfl ⟨rfl, rfl⟩ (by kernel_rfl) rfl
    (fun f fn hf hfn => by
      obtain rfl : f = 4 := Option.some.inj ((show Tryz.prog.funcNamed "podium/podiumlaw10.RatioTextSpec" = some 4 by kernel_rfl).symm.trans hf) |>.symm
      obtain rfl : fn = Tryz.f4 := (Option.some.inj (Tryz.func4.symm.trans hfn)).symm
      exact ⟨by kernel_rfl, fun j t ht => by
        rw [Tryz.params4] at ht
        have hm : t ∈ [26, 9] := by simpa using Array.mem_of_getElem? ht
        have hall : ([26, 9].all fun u => !Tryz.prog.wantsStandIn u) = true := by kernel_rfl
        exact (show Tryz.prog.wantsStandIn t = false by simpa using List.all_eq_true.1 hall t hm)⟩)
    (by kernel_rfl)

#print axioms ratioTextSpec_holds
end Go.Proofs.YtnpeakahiedeoaaGreatDoor

