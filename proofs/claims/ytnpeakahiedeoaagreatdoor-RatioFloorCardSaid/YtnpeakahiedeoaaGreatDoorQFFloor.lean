/- RatioFloor: the Go law returns true at every input, and its arguments read as before; the tied card. -/
import Derived.Test.YtnpeakahiedeoaaGreatDoorBase
import Derived.ProofKit
import Derived.OpenShut
import Derived.Deep.Slices
import Derived.Lib.SmallJoins
import Derived.ChangeMaps5
import Derived.Test.YtnpeakahiedeoaaGreatDoorQL0
import Derived.KernelRfl
import Derived.Test.YtnpeakahiedeoaaGreatDoorQSane
import Derived.Test.YtnpeakahiedeoaaGreatDoorRows
import Derived.Test.YtnpeakahiedeoaaGreatDoorCards
import Derived.Test.YtnpeakahiedeoaaGreatDoorTie
import Derived.LaidMore
import Derived.Lay
import Derived.SevenTiedAt
import Derived.Stop.Joined
import Derived.ShutString
import Derived.ChangeOld
import Derived.Below
namespace Go.Proofs.YtnpeakahiedeoaaGreatDoor
open Go.RowKit Go Go.Deep Go.WideShapes Go.ChangeShapes
set_option maxRecDepth 100000

section
variable {H : Type} {enc : TypeId × Value → H} {P : Program} {w : World} {base : Nat} {held : Bool}

/-- A slice that came in reads as a list, its elements by whatever reading each has. -/
theorem slOf_of_trod {α : Type} [Inhabited α] {R : World → Value → α → Prop} {t e : TypeId} {fuel : Nat} {v : Value} {x : DataW H × List MemPlace} (ht : P.underlying t = some (.slice e)) (hc : P.cellsOf e = 1)
    (hR : ∀ n u y, DataW.trod enc P w base (fun _ => true) held n e [u] = some y → ∃ z, R w u z) (h : DataW.trod enc P w base (fun _ => true) held fuel t [v] = some x) :
    ∃ a l cap, v = .slice a (List.length l) cap ∧ SlOf R w a cap l := by
  rcases open_slice1 ht hc h with ⟨hcs, _⟩ | ⟨a, len, cap, m, n, V, D, Pl, hcs, hb, hl, hm, hmm, _, hx⟩
  · simp only [List.cons.injEq, and_true] at hcs
    subst hcs
    exact ⟨none, [], 0, rfl, ⟨Nat.le_refl _, by omega, fun _ => rfl, fun A hA => by cases hA⟩⟩
  · simp only [List.cons.injEq, and_true] at hcs
    subst hcs
    simp only [if_true] at hmm
    obtain ⟨f, hf⟩ := choose_lt (α := α) (n := m) (p := fun i z => R w (V i) z) (fun i hi => hR n (V i) _ (hx i hi).2)
    refine ⟨some a, (List.range len).map f, cap, by simp, ⟨by simpa using hl, by unfold maxLen at hm; omega, fun h => by (cases h), fun A hA i hi => ?_⟩⟩
    cases hA
    simp only [List.length_map, List.length_range] at hi
    have hc0 := (hx i (by omega)).1
    have hs : a.spot = none := by
      have := World.cell?_spot (hx 0 (by omega)).1
      unfold Addr.add at this
      simpa using this
    refine ⟨hs, V i, ?_, by simpa using hf i (by omega)⟩
    obtain ⟨b, o, s⟩ := a
    simp only at hs
    subst hs
    rw [← hc0]
    congr 1
    unfold Addr.add
    split <;> simp_all

theorem isInt_of_trod {t : TypeId} (ht : P.underlying t = some (.int .i64)) (n : Nat) (u : Value) (y : DataW H × List MemPlace) (h : DataW.trod enc P w base (fun _ => true) held n t [u] = some y) : ∃ z, IsInt w u z := by
  obtain ⟨x, h1, _, hw⟩ := DataW.trod_int ht h
  simp only [List.cons.injEq, and_true] at h1
  refine ⟨x, h1, ?_⟩
  have := bounds_i64 hw
  exact ⟨this.1, this.2⟩
theorem isBool_of_trod {t : TypeId} (ht : P.underlying t = some .bool) (n : Nat) (u : Value) (y : DataW H × List MemPlace) (h : DataW.trod enc P w base (fun _ => true) held n t [u] = some y) : ∃ z, IsBool w u z := by
  obtain ⟨b, h1, _⟩ := DataW.trod_bool ht h
  simp only [List.cons.injEq, and_true] at h1
  exact ⟨b, h1⟩
theorem isInts_of_trod {t e : TypeId} (ht : P.underlying t = some (.slice e)) (he : P.underlying e = some (.int .i64)) (hc : P.cellsOf e = 1) (n : Nat) (u : Value) (y : DataW H × List MemPlace)
    (h : DataW.trod enc P w base (fun _ => true) held n t [u] = some y) : ∃ z, IsInts w u z := by
  obtain ⟨a, l, cap, h1, h2⟩ := slOf_of_trod (R := IsInt) ht hc (fun n u y h => isInt_of_trod he n u y h) h
  exact ⟨l, a, cap, h1, h2⟩
theorem isBools_of_trod {t e : TypeId} (ht : P.underlying t = some (.slice e)) (he : P.underlying e = some .bool) (hc : P.cellsOf e = 1) (n : Nat) (u : Value) (y : DataW H × List MemPlace)
    (h : DataW.trod enc P w base (fun _ => true) held n t [u] = some y) : ∃ z, IsBools w u z := by
  obtain ⟨a, l, cap, h1, h2⟩ := slOf_of_trod (R := IsBool) ht hc (fun n u y h => isBool_of_trod he n u y h) h
  exact ⟨l, a, cap, h1, h2⟩

open Go.Joins
theorem open_big {v : Value} {d : DataW H} {p : List MemPlace} {r : Reach} {b0 : Nat} (hv : Value.okWide Tryz.prog w r b0 24 v) (h : DataW.Trod enc Tryz.prog w base (fun _ => true) held 24 v d p) :
    ∃ (neg : Bool) (a : Option Addr) (cap : Nat) (l : List Int), v = .agg #[.bool neg, .slice a l.length cap] ∧ Ints w a cap l := by
  obtain ⟨v0, v1, y0, y1, n, rfl, _, _, h0, h1⟩ := open_agg2 Tryz.underlying24 (by kernel_rfl) (by kernel_rfl) hv h
  obtain ⟨neg, rfl⟩ := isBool_of_trod (w := w) Tryz.underlying4 _ _ _ h0
  obtain ⟨a, l, cap, rfl, hl⟩ := slOf_of_trod (R := IsInt) Tryz.underlying22 (by kernel_rfl) (fun n u y h => isInt_of_trod Tryz.underlying3 n u y h) h1
  exact ⟨neg, a, cap, l, rfl, hl⟩
theorem open_str {v : Value} {d : DataW H} {p : List MemPlace} {r : Reach} {b0 : Nat} (hv : Value.okWide Tryz.prog w r b0 9 v) (h : DataW.Trod enc Tryz.prog w base (fun _ => true) held 9 v d p) :
    ∃ s : ByteArray, v = .string s ∧ s.size ≤ maxLen := by
  obtain ⟨s, rfl, _, _, hs⟩ := Go.ChangeMaps.open_string Tryz.underlying9 hv h
  exact ⟨s, rfl, hs⟩
theorem open_ints1 {v : Value} {d : DataW H} {p : List MemPlace} {r : Reach} {b0 : Nat} (hv : Value.okWide Tryz.prog w r b0 22 v) (h : DataW.Trod enc Tryz.prog w base (fun _ => true) held 22 v d p) :
    ∃ (a : Option Addr) (cap : Nat) (l : List Int), v = .slice a l.length cap ∧ Ints w a cap l := by
  obtain ⟨a0, n0, c0, rfl⟩ := okWide_slice Tryz.underlying22 hv
  obtain ⟨fuel, hf⟩ := h
  obtain ⟨a, l, cap, e, hl⟩ := slOf_of_trod (R := IsInt) Tryz.underlying22 (by kernel_rfl) (fun n u y h => isInt_of_trod Tryz.underlying3 n u y h) hf
  exact ⟨a, cap, l, e, hl⟩
theorem open_i64 {v : Value} {d : DataW H} {p : List MemPlace} {r : Reach} {b0 : Nat} (hv : Value.okWide Tryz.prog w r b0 3 v) (h : DataW.Trod enc Tryz.prog w base (fun _ => true) held 3 v d p) :
    ∃ n : Int, v = .int .i64 n ∧ -9223372036854775808 ≤ n ∧ n ≤ 9223372036854775807 := by
  obtain ⟨a, rfl, _, _, hw⟩ := open_int Tryz.underlying3 hv h
  exact ⟨a, rfl, bounds_i64 hw⟩
theorem open_u8 {v : Value} {d : DataW H} {p : List MemPlace} {r : Reach} {b0 : Nat} (hv : Value.okWide Tryz.prog w r b0 5 v) (h : DataW.Trod enc Tryz.prog w base (fun _ => true) held 5 v d p) :
    ∃ n : Int, v = .int .u8 n ∧ 0 ≤ n ∧ n ≤ 255 := by
  obtain ⟨a, rfl, _, _, hw⟩ := open_int Tryz.underlying5 hv h
  exact ⟨a, rfl, bounds_u8 hw⟩
end
end Go.Proofs.YtnpeakahiedeoaaGreatDoor

namespace Go.Proofs.YtnpeakahiedeoaaGreatDoor
open Go.RowKit Go Go.Deep Go.WideShapes Go.ChangeShapes
set_option maxRecDepth 100000
section
variable {H : Type} {enc : TypeId × Value → H} {w : World} {base : Nat}
open Go.Joins
theorem big_trod {n : Nat} {u v : Value} {y : DataW H × List MemPlace} (h : DataW.trod enc Tryz.prog w base (fun _ => true) true n 24 [u, v] = some y) : ∃ (neg : Bool) (a : Option Addr) (cap : Nat) (l : List Int), u = .bool neg ∧ v = .slice a l.length cap ∧ Ints w a cap l := by
  obtain ⟨y0, y1, k, hx, _, h0, h1⟩ := trod_struct2 Tryz.underlying24 h
  rw [show Tryz.prog.cellsOf 4 = 1 by kernel_rfl] at h0
  rw [show Tryz.prog.cellsOf 22 = 1 by kernel_rfl] at h1
  obtain ⟨neg, rfl⟩ := isBool_of_trod (w := w) Tryz.underlying4 _ _ _ h0
  obtain ⟨a, l, cap, rfl, hl⟩ := slOf_of_trod (R := IsInt) Tryz.underlying22 (by kernel_rfl) (fun n u y h => isInt_of_trod Tryz.underlying3 n u y h) h1
  exact ⟨neg, a, cap, l, rfl, rfl, hl⟩
theorem open_rat {v : Value} {d : DataW H} {p : List MemPlace} {r : Reach} {b0 : Nat} (hv : Value.okWide Tryz.prog w r b0 26 v) (h : DataW.Trod enc Tryz.prog w base (fun _ => true) true 26 v d p) :
    ∃ x : RatA, v = x.val ∧ RatI w x := by
  obtain ⟨cs, rfl, hsz⟩ := okWide_struct Tryz.underlying26 hv
  obtain ⟨c0, c1, c2, c3, rfl⟩ := array4 (hsz.trans (by kernel_rfl))
  obtain ⟨fuel, hf⟩ := h
  obtain ⟨y0, y1, n, hx, _, h0, h1⟩ := trod_struct2 Tryz.underlying26 hf
  rw [show Tryz.prog.cellsOf 24 = 2 by kernel_rfl] at h0 h1
  obtain ⟨n1, a, ca, l, rfl, rfl, hi⟩ := big_trod (u := c0) (v := c1) h0
  obtain ⟨n2, b, cb, m, rfl, rfl, hj⟩ := big_trod (u := c2) (v := c3) h1
  exact ⟨⟨n1, a, ca, l, n2, b, cb, m⟩, rfl, hi, hj⟩
end
end Go.Proofs.YtnpeakahiedeoaaGreatDoor

namespace Go.Proofs.YtnpeakahiedeoaaGreatDoor
open Go.RowKit Go BigFrame
set_option maxRecDepth 100000
set_option linter.unusedSimpArgs false
set_option linter.unusedVariables false

/-! law10.few. -/
def fewL (x : RatA) : Bool := decide (x.l.length ≤ 6) && (decide (x.m.length ≤ 6) && x.ok)
set_option maxHeartbeats 2000000 in
theorem law_few (g : Nat) (L : List RatA) (w : World) (h : RatRow w g L) (hl : L.length ≤ 100) (hb : ∀ x ∈ L, x.l.length ≤ 9223372036854775807 ∧ x.m.length ≤ 9223372036854775807) :
    Calls Tryz.prog 24 #[.slice (some ⟨g, 0, none⟩) L.length L.length] w fun e w' => e = .returned (.bool (L.all fewL)) ∧ Ext w w' := by
  have HH := Lib.hid h
  have HB := Lib.hid hb
  clear h hb
  go_enter Tryz.func24, Tryz.ntmps24
  go_wp2_with fail
  go_loopw [7] (fun i wr => ∃ k : Nat, k ≤ L.length ∧ i = .int .i64 k ∧ (L.take k).all fewL = true ∧ Ext w wr) (fun i _ => L.length - (intOf i).toNat)
  case atStart => exact ⟨0, Nat.zero_le _, rfl, rfl, Ext.refl _⟩
  case round =>
    obtain ⟨k, hk, rfl, hpre, hxr⟩ := hrel
    have HP := Lib.hid hpre
    clear hpre
    by_cases hkn : k < L.length
    · have e0 := HH.out.c0 k hkn
      have e1 := HH.out.c1 k hkn
      have e2 := HH.out.c2 k hkn
      have e3 := HH.out.c3 k hkn
      have hi := HH.out.i k hkn
      have hj := HH.out.j k hkn
      obtain ⟨b1, b2⟩ := HB.out L[k] (List.getElem_mem hkn)
      have htk := Lib.hid (take_getQ (List.getElem?_eq_getElem hkn))
      have hmem := Lib.hid (List.getElem_mem hkn)
      generalize L[k] = X at *
      obtain ⟨n, a, c, l, n2, b, d, m⟩ := X
      dsimp only at e0 e1 e2 e3 hi hj b1 b2
      have c0 := (hxr.cell (p := ⟨g, k * 4, none⟩) (lt_of_cell e0)).trans e0
      have c1 := (hxr.cell (p := ⟨g, k * 4 + 1, none⟩) (lt_of_cell e1)).trans e1
      have c2 := (hxr.cell (p := ⟨g, k * 4 + 2, none⟩) (lt_of_cell e2)).trans e2
      have c3 := (hxr.cell (p := ⟨g, k * 4 + 3, none⟩) (lt_of_cell e3)).trans e3
      have hxx := hxr.alloc' (.cells #[.bool n, .slice a l.length c, .bool n2, .slice b m.length d] 26)
      have HC := refR_Check n n2 a b c d l m _ (hi.ext hxx) (hj.ext hxx)
      have g1 : (0 : Int) ≤ (k : Int) := by omega
      have g2 : (k : Int) < (L.length : Int) := by omega
      clear e0 e1 e2 e3 hi hj
      by_cases f1 : l.length ≤ 6
      · have f1' : ¬ (6 < (l.length : Int)) := by omega
        by_cases f2 : m.length ≤ 6
        · have f2' : ¬ (6 < (m.length : Int)) := by omega
          cases hq : okR n l n2 m
          · rw [hq] at HC
            have HA := Lib.hid (List.all_eq_false.2 ⟨_, hmem.out, (by simp [fewL, RatA.ok, hq])⟩ : L.all fewL = false)
            clear hq
            have HC := Lib.hid (show Calls Tryz.prog 19 _ _ fun e w' => e = .returned (.int .i64 100) ∧ Ext _ w' from HC)
            go_wp2_with fail
            refine HC.out.mono ?_
            rintro e w3 ⟨rfl, hy⟩
            go_wp2_with fail
            go_ret
            exact ⟨by rw [HA.out]; rfl, hxx.trans hy⟩
          · rw [hq] at HC
            have HA := Lib.hid (by simp [fewL, RatA.ok, hq, f1, f2] : fewL ⟨n, a, c, l, n2, b, d, m⟩ = true)
            clear hq
            have HC := Lib.hid (show Calls Tryz.prog 19 _ _ fun e w' => e = .returned (.int .i64 0) ∧ Ext _ w' from HC)
            go_wp2_with fail
            refine HC.out.mono ?_
            rintro e w3 ⟨rfl, hy⟩
            go_wp2_with fail
            go_roundw
            case rel => exact ⟨k + 1, by omega, by go_num, by rw [htk.out, List.all_append, HP.out]; simp [HA.out], hxx.trans hy⟩
            case measure => simp [intOf]; omega
        · have f2' : 6 < (m.length : Int) := by omega
          have HA := Lib.hid (List.all_eq_false.2 ⟨_, hmem.out, (by simp [fewL, f2])⟩ : L.all fewL = false)
          clear HC
          go_wp2_with fail
          go_ret
          exact ⟨by rw [HA.out]; rfl, hxx⟩
      · have f1' : 6 < (l.length : Int) := by omega
        have HA := Lib.hid (List.all_eq_false.2 ⟨_, hmem.out, (by simp [fewL, f1])⟩ : L.all fewL = false)
        clear HC
        go_wp2_with fail
        go_ret
        exact ⟨by rw [HA.out]; rfl, hxx⟩
    · obtain rfl : k = L.length := by omega
      go_wp2_with fail
      go_ret
      have := HP.out
      rw [List.take_length] at this
      exact ⟨by rw [this]; rfl, hxr⟩
end Go.Proofs.YtnpeakahiedeoaaGreatDoor

namespace Go.Proofs.YtnpeakahiedeoaaGreatDoor
open Go.RowKit Go BigFrame
set_option maxRecDepth 100000
set_option linter.unusedSimpArgs false
set_option linter.unusedVariables false

/-! law10.RatioFloor. -/
theorem law_few1 {W : World} {gg : Nat} {x : RatA} {t : TypeId} (h : Blk W gg #[.bool x.n, .slice x.a x.l.length x.c, .bool x.n2, .slice x.b x.m.length x.d] t) (hi : RatI W x) :
    Calls Tryz.prog 24 #[.slice (some ⟨gg, 0, none⟩) 1 1] W fun e w' => e = .returned (.bool (fewL x)) ∧ Ext W w' :=
  (law_few gg [x] W (ratRow1 h hi.i hi.j) (by simp) (fun y hy => by
    obtain rfl := List.mem_singleton.1 hy
    exact ⟨Nat.le_trans hi.i.le hi.i.mx, Nat.le_trans hi.j.le hi.j.mx⟩)).mono fun e w' hh => ⟨by rw [hh.1]; simp, hh.2⟩
theorem fewL_sz {x : RatA} (h : fewL x = true) : ∃ r : Rat, Sz r 6 ∧ ∀ w, RatI w x → RatV w x.val r := by
  simp only [fewL, Bool.and_eq_true, decide_eq_true_eq] at h
  exact few_sz h.2.2 (by simp [fewR, fewQ, h.1, h.2.1])
theorem divInt_one (z : Int) : Rat.divInt z 1 = (z : Rat) := by
  first | (rw [Rat.divInt_eq_div]; simp; done) | (rw [Rat.divInt_eq_div, Rat.intCast_one, Rat.div_def, Rat.inv_one, Rat.mul_one]) | grind [Rat.divInt_eq_div]
theorem floor_abs {r : Rat} {k : Nat} (h : Sz r k) : (r.num / (r.den : Int)).natAbs < 1073741824 ^ k := Nat.lt_of_le_of_lt (Int.natAbs_ediv_le_natAbs _ _) h.1
theorem floor_le (r : Rat) : cmpR (Rat.divInt (r.num / (r.den : Int)) 1) r ≤ 0 := by
  have h : ((r.floor : Int) : Rat) ≤ r := Rat.floor_le r
  rw [show r.num / (r.den : Int) = r.floor by rw [Rat.floor_def], divInt_one]
  unfold cmpR
  split
  · decide
  · split
    · rename_i h1 h2; exact absurd h2 (Rat.not_lt.2 h)
    · decide
theorem lt_floor (r : Rat) : cmpR r (Rat.divInt (r.num / (r.den : Int) + 1) 1) = -1 := by
  have h : r < ((r.floor + 1 : Int) : Rat) := Rat.lt_floor_add_one r
  rw [show r.num / (r.den : Int) = r.floor by rw [Rat.floor_def], divInt_one]
  unfold cmpR
  rw [if_pos h]
theorem sz_int {z : Int} {k : Nat} (hk : 0 < k) (h : z.natAbs < 1073741824 ^ k) : Sz (Rat.divInt z 1) k := by
  rw [divInt_one]
  exact ⟨h, Nat.one_lt_pow (by omega) (by decide)⟩
set_option maxHeartbeats 4000000 in
theorem law_Floor_no (x : RatA) (w : World) (hx1 : RatI w x) (f0 : fewL x = false) : Calls Tryz.prog 5 #[x.val] w fun e w' => e = .returned (.bool true) ∧ Ext w w' := by
  have HX := Lib.hid hx1
  have HFW := Lib.hid (fun (W : World) (gg : Nat) (t : TypeId) (h : Blk W gg #[.bool x.n, .slice x.a x.l.length x.c, .bool x.n2, .slice x.b x.m.length x.d] t) (hi : RatI W x) => law_few1 h hi)
  rw [f0] at HFW
  clear hx1 f0
  obtain ⟨nx, ax, cx, lx, mx, bx, dx, kx⟩ := x
  dsimp only [RatA.val] at *
  obtain ⟨x1, hw, hx, Kx⟩ := boxQ1 w #[.bool nx, .slice ax lx.length cx, .bool mx, .slice bx kx.length dx] 26
  replace hw := Lib.hid hw
  have HX := Lib.hid (HX.out.ext hx)
  go_enter Tryz.func5, Tryz.ntmps5
  go_upto_region 1 with fail
  try simp only [Nat.add_assoc, Nat.reduceAdd, Nat.add_zero]
  rw [hw.out]
  clear hw
  have hs0 := hx.size
  obtain ⟨cx0, cx1, cx2, cx3⟩ := bk4 Kx
  go_wp2_with fail
  with_reducible refine (law10_sane _).mono ?_
  clear cx0 cx1 cx2 cx3
  rintro e x2 ⟨rfl, hy⟩
  replace hx := hx.trans hy
  replace Kx := kE Kx hy
  replace HX := Lib.hid (HX.out.ext hy)
  clear hy
  obtain ⟨cx0, cx1, cx2, cx3⟩ := bk4 Kx
  have hl := Ext.alloc x2 (.cells #[.bool nx, .slice ax lx.length cx, .bool mx, .slice bx kx.length dx] 26)
  have hKK := Blk.new0 x2 #[.bool nx, .slice ax lx.length cx, .bool mx, .slice bx kx.length dx] 26
  have hlx := hx.trans hl
  have HTT := Lib.hid (HFW.out _ _ _ hKK (HX.out.ext hl))
  clear hKK hlx
  go_wp2_with fail
  with_reducible refine (HTT.out).mono ?_
  clear cx0 cx1 cx2 cx3
  rintro e x3 ⟨rfl, hy⟩
  replace hy := hl.trans hy
  replace hx := hx.trans hy
  replace Kx := kE Kx hy
  replace HX := Lib.hid (HX.out.ext hy)
  clear hy HTT hl
  go_wp2_with fail
  go_ret
  exact ⟨rfl, hx⟩
set_option maxHeartbeats 4000000 in
theorem law_Floor_ok (x : RatA) (w : World) (hx1 : RatI w x) (f0 : fewL x = true) : Calls Tryz.prog 5 #[x.val] w fun e w' => e = .returned (.bool true) ∧ Ext w w' := by
  obtain ⟨r, S0, hr⟩ := fewL_sz f0
  have LZ := Lib.hid (len_lt (floor_abs S0) (by omega))
  have A1 : (r.num / (r.den : Int) + 1).natAbs < 1073741824 ^ 7 := by
    have := floor_abs S0
    omega
  have LS := Lib.hid (len_lt A1 (by omega))
  have L1 : Hid (Len 1) := Lib.hid (len_small (by decide))
  have SF := Lib.hid (sz_int (by omega) (floor_abs S0))
  have SG := Lib.hid (sz_int (by omega) A1)
  have SX := Lib.hid S0
  have VX := Lib.hid hr
  have FL := floor_le r
  have LF := Lib.hid (lt_floor r)
  clear S0 hr A1
  have HX := Lib.hid hx1
  have HFW := Lib.hid (fun (W : World) (gg : Nat) (t : TypeId) (h : Blk W gg #[.bool x.n, .slice x.a x.l.length x.c, .bool x.n2, .slice x.b x.m.length x.d] t) (hi : RatI W x) => law_few1 h hi)
  rw [f0] at HFW
  clear hx1 f0
  obtain ⟨nx, ax, cx, lx, mx, bx, dx, kx⟩ := x
  dsimp only [RatA.val] at *
  obtain ⟨x1, hw, hx, Kx⟩ := boxQ1 w #[.bool nx, .slice ax lx.length cx, .bool mx, .slice bx kx.length dx] 26
  replace hw := Lib.hid hw
  have HX := Lib.hid (HX.out.ext hx)
  go_enter Tryz.func5, Tryz.ntmps5
  go_upto_region 1 with fail
  try simp only [Nat.add_assoc, Nat.reduceAdd, Nat.add_zero]
  rw [hw.out]
  clear hw
  have hs0 := hx.size
  obtain ⟨cx0, cx1, cx2, cx3⟩ := bk4 Kx
  go_wp2_with fail
  with_reducible refine (law10_sane _).mono ?_
  clear cx0 cx1 cx2 cx3
  rintro e x2 ⟨rfl, hy⟩
  replace hx := hx.trans hy
  replace Kx := kE Kx hy
  replace HX := Lib.hid (HX.out.ext hy)
  clear hy
  obtain ⟨cx0, cx1, cx2, cx3⟩ := bk4 Kx
  have hl := Ext.alloc x2 (.cells #[.bool nx, .slice ax lx.length cx, .bool mx, .slice bx kx.length dx] 26)
  have hKK := Blk.new0 x2 #[.bool nx, .slice ax lx.length cx, .bool mx, .slice bx kx.length dx] 26
  have hlx := hx.trans hl
  have HTT := Lib.hid (HFW.out _ _ _ hKK (HX.out.ext hl))
  clear hKK hlx
  go_wp2_with fail
  with_reducible refine (HTT.out).mono ?_
  clear cx0 cx1 cx2 cx3
  rintro e x3 ⟨rfl, hy⟩
  replace hy := hl.trans hy
  replace hx := hx.trans hy
  replace Kx := kE Kx hy
  replace HX := Lib.hid (HX.out.ext hy)
  clear hy HTT hl
  have Vx := Lib.hid (VX.out _ HX.out)
  clear HX
  obtain ⟨cx0, cx1, cx2, cx3⟩ := bk4 Kx
  go_wp2_with fail
  with_reducible refine (ratio_Floor Vx.out SX.out (by omega)).mono ?_
  clear cx0 cx1 cx2 cx3
  rintro e x4 ⟨v, rfl, hv, hy⟩
  replace hx := hx.trans hy
  replace Kx := kE Kx hy
  replace Vx := Lib.hid (Vx.out.ext hy)
  clear hy
  replace hv := hv.val
  obtain ⟨nn, an, qn, cn, rfl⟩ := hv.form
  have Vn := Lib.hid hv
  clear hv
  go_upto_region 6 with fail
  have hl := Ext.alloc x4 (.cells #[.bool nn, .slice an qn cn] 24)
  have lxn : w.heap.size < x4.heap.size := Kx.out.lt
  have hpn : w.heap.size ≤ x4.heap.size := hx.size
  replace hx := hx.trans hl
  replace Kx := kE Kx hl
  replace Vx := Lib.hid (Vx.out.ext hl)
  replace Vn := Lib.hid (Vn.out.ext hl)
  have Kn := Lib.hid (Blk.new0 x4 #[.bool nn, .slice an qn cn] 24)
  clear hl
  generalize x4.alloc (.cells #[.bool nn, .slice an qn cn] 24) = x5 at *
  generalize x4.heap.size = pn at *
  go_cut [5, 6] (fun s1 s2 wx => ∃ (p : Nat) (nm : Bool) (am : Option Addr) (qm : Nat) (cm : Nat), s1 = .pointer (some ⟨p, 0, none⟩) ∧ s2 = .int .i64 0 ∧ Blk wx p #[.bool nm, .slice am qm cm] 24 ∧ BigV wx (.agg #[.bool nm, .slice am qm cm]) (r.num / (r.den : Int) + 1) ∧ Ext x5 wx)
  case first =>
    obtain ⟨cn0, cn1⟩ := bk2 Kn
    clear cn0 cn1
    have s0 : World.cell? x5 ⟨pn, 0, none⟩ = some (.bool nn) := Kn.out.cell (i := 0) (v := .bool nn) rfl
    have s1 : World.cell? x5 ⟨pn, 1, none⟩ = some (.slice an qn cn) := Kn.out.cell (i := 1) (v := .slice an qn cn) rfl
    have hE : Ext x5 (World.drew x5) := (Ext.refl _).drew
    have hyd : Ext x5 (World.drew x5) := (Ext.refl _).drew
    replace hx := hx.trans hyd
    replace Kx := kE Kx hyd
    replace Kn := kE Kn hyd
    replace Vx := Lib.hid (Vx.out.ext hyd)
    replace Vn := Lib.hid (Vn.out.ext hyd)
    clear hyd
    replace s0 : World.cell? (World.drew x5) ⟨pn, 0, none⟩ = some (.bool nn) := s0
    replace s1 : World.cell? (World.drew x5) ⟨pn, 1, none⟩ = some (.slice an qn cn) := s1
    refine wp_region_held_drew (S := (fun w' => World.cell? w' ⟨pn, 0, none⟩ = some (.bool nn) ∧ World.cell? w' ⟨pn, 1, none⟩ = some (.slice an qn cn))) (by kernel_rfl) ?_ (fun hHeld => ?_)
    · exact ⟨s0, s1⟩
    generalize World.drew x5 = x6 at *
    refine wpAnyH_take (i := 0) (oi := _) (v := ?_) rfl (by kernel_rfl) (by kernel_rfl) (by kernel_rfl) (fun _ _ _ h => h) (Or.inl ⟨by rfl, ?_⟩) (by assumption) ?_
    rotate_left
    · (intro w hSw; (try dsimp only at hSw); (try go_simp); (try with_reducible rfl))
    (try simp only [Act.put, List.getElem_toArray, List.getElem_cons_succ, List.getElem_cons_zero, List.setIfInBounds_toArray, List.set_cons_zero, List.set_cons_succ])
    refine wpAnyH_ready (rs := [1, 6]) (by kernel_rfl) (by simp) ?_
    refine AllReadyH.cons (o := _) rfl (fun K hK => ?_) ?_
    · go_simp
      (with_reducible refine (law_big 1 _ (by decide)).mono ?_); rintro e x7 ⟨v1, rfl, hv, hy⟩; replace hE := hE.trans hy; replace hx := hx.trans hy; replace s0 := cell_exQ hy s0; replace s1 := cell_exQ hy s1; replace Kx := kE Kx hy; replace Kn := kE Kn hy; replace Vx := Lib.hid (Vx.out.ext hy); replace Vn := Lib.hid (Vn.out.ext hy); clear hy; have V1 := Lib.hid hv; clear hv
      refine hK.out _ _ ?_ (fun hHeld2 => ?_)
      · exact ⟨s0, s1⟩
      clear hK K hHeld
      have hHeld := hHeld2
      clear hHeld2
      (try simp only [Act.put, List.getElem_toArray, List.getElem_cons_succ, List.getElem_cons_zero, List.setIfInBounds_toArray, List.set_cons_zero, List.set_cons_succ])
      refine wpAnyH_ready (rs := [2, 6]) (by kernel_rfl) (by simp) ?_
      refine AllReadyH.cons (o := _) rfl (fun K hK => ?_) ?_
      · go_simp
        (with_reducible refine (add_one Vn.out V1.out LZ.out L1.out LS.out).mono ?_); rintro e x8 ⟨v2, rfl, hv, hy⟩; replace hE := hE.trans hy; replace hx := hx.trans hy; replace s0 := cell_exQ hy s0; replace s1 := cell_exQ hy s1; replace Kx := kE Kx hy; replace Kn := kE Kn hy; replace Vx := Lib.hid (Vx.out.ext hy); replace Vn := Lib.hid (Vn.out.ext hy); replace V1 := Lib.hid (V1.out.ext hy); clear hy; have hv' := hv.val; obtain ⟨nm, am, qm, cm, rfl⟩ := hv'.form; have Vm := Lib.hid hv'; clear hv hv'
        refine hK.out _ _ ?_ (fun hHeld2 => ?_)
        · exact ⟨s0, s1⟩
        clear hK K hHeld
        have hHeld := hHeld2
        clear hHeld2
        (try simp only [Act.put, List.getElem_toArray, List.getElem_cons_succ, List.getElem_cons_zero, List.setIfInBounds_toArray, List.set_cons_zero, List.set_cons_succ])
        refine wpAnyH_take (i := 3) (oi := _) (v := ?_) rfl (by kernel_rfl) (by kernel_rfl) (by kernel_rfl) (fun _ _ _ h => h) (Or.inl ⟨by rfl, ?_⟩) (by assumption) ?_
        rotate_left
        · (intro w hSw; (try dsimp only at hSw); (try go_simp); (try with_reducible rfl))
        (try simp only [Act.put, List.getElem_toArray, List.getElem_cons_succ, List.getElem_cons_zero, List.setIfInBounds_toArray, List.set_cons_zero, List.set_cons_succ])
        refine wpAnyH_take (i := 4) (oi := _) (v := ?_) rfl (by kernel_rfl) (by kernel_rfl) (by kernel_rfl) (fun _ _ _ h => h) (Or.inl ⟨by rfl, ?_⟩) (by assumption) ?_
        rotate_left
        · (intro w hSw; (try dsimp only at hSw); (try go_simp); (try with_reducible rfl))
        (try simp only [Act.put, List.getElem_toArray, List.getElem_cons_succ, List.getElem_cons_zero, List.setIfInBounds_toArray, List.set_cons_zero, List.set_cons_succ])
        refine wpAnyH_take (i := 5) (oi := _) (v := ?_) rfl (by kernel_rfl) (by kernel_rfl) (by kernel_rfl) (fun _ _ _ h => h) (Or.inl ⟨by rfl, ?_⟩) (by assumption) ?_
        rotate_left
        · (intro w hSw; (try dsimp only at hSw); (try go_simp); (try with_reducible rfl))
        (try simp only [Act.put, List.getElem_toArray, List.getElem_cons_succ, List.getElem_cons_zero, List.setIfInBounds_toArray, List.set_cons_zero, List.set_cons_succ])
        refine wpAnyH_ready (rs := [6]) (by kernel_rfl) (by simp) ?_
        refine AllReadyH.cons (o := _) rfl (fun K hK => ?_) ?_
        · go_simp
          have hy : Ext x8 (World.alloc x8 (.cells #[.bool false, .slice none 0 0] 24)) := Ext.alloc _ _; have lxm : w.heap.size < Array.size (World.heap x8) := Kx.out.lt; have lnm : pn < Array.size (World.heap x8) := Kn.out.lt; have hpm : w.heap.size ≤ Array.size (World.heap x8) := hx.size; have hqm := hE.size; replace hE := hE.trans hy; replace hx := hx.trans hy; have mm0 := lt_of_cell s0; replace s0 := cell_exQ hy s0; have mm1 := lt_of_cell s1; replace s1 := cell_exQ hy s1; replace Kx := kE Kx hy; replace Kn := kE Kn hy; replace Vx := Lib.hid (Vx.out.ext hy); replace Vn := Lib.hid (Vn.out.ext hy); replace V1 := Lib.hid (V1.out.ext hy); replace Vm := Lib.hid (Vm.out.ext hy); have Km := Lib.hid (Blk.new0 x8 #[.bool false, .slice none 0 0] 24); clear hy; generalize World.alloc x8 (.cells #[.bool false, .slice none 0 0] 24) = x9 at *; generalize Array.size (World.heap x8) = pm at *
          refine hK.out _ _ ?_ (fun hHeld2 => ?_)
          · exact ⟨s0, s1⟩
          clear hK K hHeld
          have hHeld := hHeld2
          clear hHeld2
          (try simp only [Act.put, List.getElem_toArray, List.getElem_cons_succ, List.getElem_cons_zero, List.setIfInBounds_toArray, List.set_cons_zero, List.set_cons_succ])
          refine wpAnyH_ready (rs := [7]) (by kernel_rfl) (by simp) ?_
          refine AllReadyH.cons (o := _) rfl (fun K hK => ?_) ?_
          · obtain ⟨g0, z0, g1, z1⟩ := bp2 Km (.bool nm) (.slice am qm cm); go_simp; clear g0 z0 g1 z1; replace Vx := (by first | exact rv2 Vx Km (.bool nm) (.slice am qm cm) rfl rfl | exact bv2 Vx Km (.bool nm) (.slice am qm cm) rfl rfl); replace Vn := (by first | exact rv2 Vn Km (.bool nm) (.slice am qm cm) rfl rfl | exact bv2 Vn Km (.bool nm) (.slice am qm cm) rfl rfl); replace V1 := (by first | exact rv2 V1 Km (.bool nm) (.slice am qm cm) rfl rfl | exact bv2 V1 Km (.bool nm) (.slice am qm cm) rfl rfl); replace Vm := (by first | exact rv2 Vm Km (.bool nm) (.slice am qm cm) rfl rfl | exact bv2 Vm Km (.bool nm) (.slice am qm cm) rfl rfl); replace hx := bx2 hx (pm) (.bool nm) (.slice am qm cm) (by omega); replace hE := bx2 hE (pm) (.bool nm) (.slice am qm cm) (by omega); replace s0 := bf2 s0 (pm) (.bool nm) (.slice am qm cm) (by omega); replace s1 := bf2 s1 (pm) (.bool nm) (.slice am qm cm) (by omega); replace Kx := bo2 Kx (pm) (.bool nm) (.slice am qm cm) (by omega); replace Kn := bo2 Kn (pm) (.bool nm) (.slice am qm cm) (by omega); replace Km := bs2 Km (.bool nm) (.slice am qm cm); generalize (World.setCell (World.setCell x9 ⟨pm, 0, none⟩ (.bool nm)) ⟨pm, 1, none⟩ (.slice am qm cm)) = xe at *
            refine hK.out _ _ ?_ (fun hHeld2 => ?_)
            · exact ⟨s0, s1⟩
            clear hK K hHeld
            have hHeld := hHeld2
            clear hHeld2
            (try simp only [Act.put, List.getElem_toArray, List.getElem_cons_succ, List.getElem_cons_zero, List.setIfInBounds_toArray, List.set_cons_zero, List.set_cons_succ])
            refine wpAnyH_take (i := 8) (oi := _) (v := ?_) rfl (by kernel_rfl) (by kernel_rfl) (by kernel_rfl) (fun _ _ _ h => h) (Or.inl ⟨by rfl, ?_⟩) (by assumption) ?_
            rotate_left
            · (intro w hSw; (try dsimp only at hSw); (try go_simp); (try with_reducible rfl))
            (try simp only [Act.put, List.getElem_toArray, List.getElem_cons_succ, List.getElem_cons_zero, List.setIfInBounds_toArray, List.set_cons_zero, List.set_cons_succ])
            refine wpAnyH_done (by kernel_rfl) ?_ _
            (go_wp2_with fail; go_meet; exact ⟨_, nm, am, qm, cm, rfl, rfl, Km.out, Vm.out, hE⟩)
          exact AllReadyH.nil
        exact AllReadyH.nil
      refine AllReadyH.cons (o := _) rfl (fun K hK => ?_) ?_
      · go_simp
        have hy : Ext x7 (World.alloc x7 (.cells #[.bool false, .slice none 0 0] 24)) := Ext.alloc _ _; have lxm : w.heap.size < Array.size (World.heap x7) := Kx.out.lt; have lnm : pn < Array.size (World.heap x7) := Kn.out.lt; have hpm : w.heap.size ≤ Array.size (World.heap x7) := hx.size; have hqm := hE.size; replace hE := hE.trans hy; replace hx := hx.trans hy; have mm0 := lt_of_cell s0; replace s0 := cell_exQ hy s0; have mm1 := lt_of_cell s1; replace s1 := cell_exQ hy s1; replace Kx := kE Kx hy; replace Kn := kE Kn hy; replace Vx := Lib.hid (Vx.out.ext hy); replace Vn := Lib.hid (Vn.out.ext hy); replace V1 := Lib.hid (V1.out.ext hy); have Km := Lib.hid (Blk.new0 x7 #[.bool false, .slice none 0 0] 24); clear hy; generalize World.alloc x7 (.cells #[.bool false, .slice none 0 0] 24) = x10 at *; generalize Array.size (World.heap x7) = pm at *
        refine hK.out _ _ ?_ (fun hHeld2 => ?_)
        · exact ⟨s0, s1⟩
        clear hK K hHeld
        have hHeld := hHeld2
        clear hHeld2
        (try simp only [Act.put, List.getElem_toArray, List.getElem_cons_succ, List.getElem_cons_zero, List.setIfInBounds_toArray, List.set_cons_zero, List.set_cons_succ])
        refine wpAnyH_ready (rs := [2]) (by kernel_rfl) (by simp) ?_
        refine AllReadyH.cons (o := _) rfl (fun K hK => ?_) ?_
        · go_simp
          (with_reducible refine (add_one Vn.out V1.out LZ.out L1.out LS.out).mono ?_); rintro e x11 ⟨v2, rfl, hv, hy⟩; replace hE := hE.trans hy; replace hx := hx.trans hy; replace s0 := cell_exQ hy s0; replace s1 := cell_exQ hy s1; replace Kx := kE Kx hy; replace Kn := kE Kn hy; replace Km := kE Km hy; replace Vx := Lib.hid (Vx.out.ext hy); replace Vn := Lib.hid (Vn.out.ext hy); replace V1 := Lib.hid (V1.out.ext hy); clear hy; have hv' := hv.val; obtain ⟨nm, am, qm, cm, rfl⟩ := hv'.form; have Vm := Lib.hid hv'; clear hv hv'
          refine hK.out _ _ ?_ (fun hHeld2 => ?_)
          · exact ⟨s0, s1⟩
          clear hK K hHeld
          have hHeld := hHeld2
          clear hHeld2
          (try simp only [Act.put, List.getElem_toArray, List.getElem_cons_succ, List.getElem_cons_zero, List.setIfInBounds_toArray, List.set_cons_zero, List.set_cons_succ])
          refine wpAnyH_take (i := 3) (oi := _) (v := ?_) rfl (by kernel_rfl) (by kernel_rfl) (by kernel_rfl) (fun _ _ _ h => h) (Or.inl ⟨by rfl, ?_⟩) (by assumption) ?_
          rotate_left
          · (intro w hSw; (try dsimp only at hSw); (try go_simp); (try with_reducible rfl))
          (try simp only [Act.put, List.getElem_toArray, List.getElem_cons_succ, List.getElem_cons_zero, List.setIfInBounds_toArray, List.set_cons_zero, List.set_cons_succ])
          refine wpAnyH_take (i := 4) (oi := _) (v := ?_) rfl (by kernel_rfl) (by kernel_rfl) (by kernel_rfl) (fun _ _ _ h => h) (Or.inl ⟨by rfl, ?_⟩) (by assumption) ?_
          rotate_left
          · (intro w hSw; (try dsimp only at hSw); (try go_simp); (try with_reducible rfl))
          (try simp only [Act.put, List.getElem_toArray, List.getElem_cons_succ, List.getElem_cons_zero, List.setIfInBounds_toArray, List.set_cons_zero, List.set_cons_succ])
          refine wpAnyH_take (i := 5) (oi := _) (v := ?_) rfl (by kernel_rfl) (by kernel_rfl) (by kernel_rfl) (fun _ _ _ h => h) (Or.inl ⟨by rfl, ?_⟩) (by assumption) ?_
          rotate_left
          · (intro w hSw; (try dsimp only at hSw); (try go_simp); (try with_reducible rfl))
          (try simp only [Act.put, List.getElem_toArray, List.getElem_cons_succ, List.getElem_cons_zero, List.setIfInBounds_toArray, List.set_cons_zero, List.set_cons_succ])
          refine wpAnyH_ready (rs := [7]) (by kernel_rfl) (by simp) ?_
          refine AllReadyH.cons (o := _) rfl (fun K hK => ?_) ?_
          · obtain ⟨g0, z0, g1, z1⟩ := bp2 Km (.bool nm) (.slice am qm cm); go_simp; clear g0 z0 g1 z1; replace Vx := (by first | exact rv2 Vx Km (.bool nm) (.slice am qm cm) rfl rfl | exact bv2 Vx Km (.bool nm) (.slice am qm cm) rfl rfl); replace Vn := (by first | exact rv2 Vn Km (.bool nm) (.slice am qm cm) rfl rfl | exact bv2 Vn Km (.bool nm) (.slice am qm cm) rfl rfl); replace V1 := (by first | exact rv2 V1 Km (.bool nm) (.slice am qm cm) rfl rfl | exact bv2 V1 Km (.bool nm) (.slice am qm cm) rfl rfl); replace Vm := (by first | exact rv2 Vm Km (.bool nm) (.slice am qm cm) rfl rfl | exact bv2 Vm Km (.bool nm) (.slice am qm cm) rfl rfl); replace hx := bx2 hx (pm) (.bool nm) (.slice am qm cm) (by omega); replace hE := bx2 hE (pm) (.bool nm) (.slice am qm cm) (by omega); replace s0 := bf2 s0 (pm) (.bool nm) (.slice am qm cm) (by omega); replace s1 := bf2 s1 (pm) (.bool nm) (.slice am qm cm) (by omega); replace Kx := bo2 Kx (pm) (.bool nm) (.slice am qm cm) (by omega); replace Kn := bo2 Kn (pm) (.bool nm) (.slice am qm cm) (by omega); replace Km := bs2 Km (.bool nm) (.slice am qm cm); generalize (World.setCell (World.setCell x11 ⟨pm, 0, none⟩ (.bool nm)) ⟨pm, 1, none⟩ (.slice am qm cm)) = xe at *
            refine hK.out _ _ ?_ (fun hHeld2 => ?_)
            · exact ⟨s0, s1⟩
            clear hK K hHeld
            have hHeld := hHeld2
            clear hHeld2
            (try simp only [Act.put, List.getElem_toArray, List.getElem_cons_succ, List.getElem_cons_zero, List.setIfInBounds_toArray, List.set_cons_zero, List.set_cons_succ])
            refine wpAnyH_take (i := 8) (oi := _) (v := ?_) rfl (by kernel_rfl) (by kernel_rfl) (by kernel_rfl) (fun _ _ _ h => h) (Or.inl ⟨by rfl, ?_⟩) (by assumption) ?_
            rotate_left
            · (intro w hSw; (try dsimp only at hSw); (try go_simp); (try with_reducible rfl))
            (try simp only [Act.put, List.getElem_toArray, List.getElem_cons_succ, List.getElem_cons_zero, List.setIfInBounds_toArray, List.set_cons_zero, List.set_cons_succ])
            refine wpAnyH_done (by kernel_rfl) ?_ _
            (go_wp2_with fail; go_meet; exact ⟨_, nm, am, qm, cm, rfl, rfl, Km.out, Vm.out, hE⟩)
          exact AllReadyH.nil
        exact AllReadyH.nil
      exact AllReadyH.nil
    refine AllReadyH.cons (o := _) rfl (fun K hK => ?_) ?_
    · go_simp
      have hy : Ext x6 (World.alloc x6 (.cells #[.bool false, .slice none 0 0] 24)) := Ext.alloc _ _; have lxm : w.heap.size < Array.size (World.heap x6) := Kx.out.lt; have lnm : pn < Array.size (World.heap x6) := Kn.out.lt; have hpm : w.heap.size ≤ Array.size (World.heap x6) := hx.size; have hqm := hE.size; replace hE := hE.trans hy; replace hx := hx.trans hy; have mm0 := lt_of_cell s0; replace s0 := cell_exQ hy s0; have mm1 := lt_of_cell s1; replace s1 := cell_exQ hy s1; replace Kx := kE Kx hy; replace Kn := kE Kn hy; replace Vx := Lib.hid (Vx.out.ext hy); replace Vn := Lib.hid (Vn.out.ext hy); have Km := Lib.hid (Blk.new0 x6 #[.bool false, .slice none 0 0] 24); clear hy; generalize World.alloc x6 (.cells #[.bool false, .slice none 0 0] 24) = x12 at *; generalize Array.size (World.heap x6) = pm at *
      refine hK.out _ _ ?_ (fun hHeld2 => ?_)
      · exact ⟨s0, s1⟩
      clear hK K hHeld
      have hHeld := hHeld2
      clear hHeld2
      (try simp only [Act.put, List.getElem_toArray, List.getElem_cons_succ, List.getElem_cons_zero, List.setIfInBounds_toArray, List.set_cons_zero, List.set_cons_succ])
      refine wpAnyH_ready (rs := [1]) (by kernel_rfl) (by simp) ?_
      refine AllReadyH.cons (o := _) rfl (fun K hK => ?_) ?_
      · go_simp
        (with_reducible refine (law_big 1 _ (by decide)).mono ?_); rintro e x13 ⟨v1, rfl, hv, hy⟩; replace hE := hE.trans hy; replace hx := hx.trans hy; replace s0 := cell_exQ hy s0; replace s1 := cell_exQ hy s1; replace Kx := kE Kx hy; replace Kn := kE Kn hy; replace Km := kE Km hy; replace Vx := Lib.hid (Vx.out.ext hy); replace Vn := Lib.hid (Vn.out.ext hy); clear hy; have V1 := Lib.hid hv; clear hv
        refine hK.out _ _ ?_ (fun hHeld2 => ?_)
        · exact ⟨s0, s1⟩
        clear hK K hHeld
        have hHeld := hHeld2
        clear hHeld2
        (try simp only [Act.put, List.getElem_toArray, List.getElem_cons_succ, List.getElem_cons_zero, List.setIfInBounds_toArray, List.set_cons_zero, List.set_cons_succ])
        refine wpAnyH_ready (rs := [2]) (by kernel_rfl) (by simp) ?_
        refine AllReadyH.cons (o := _) rfl (fun K hK => ?_) ?_
        · go_simp
          (with_reducible refine (add_one Vn.out V1.out LZ.out L1.out LS.out).mono ?_); rintro e x14 ⟨v2, rfl, hv, hy⟩; replace hE := hE.trans hy; replace hx := hx.trans hy; replace s0 := cell_exQ hy s0; replace s1 := cell_exQ hy s1; replace Kx := kE Kx hy; replace Kn := kE Kn hy; replace Km := kE Km hy; replace Vx := Lib.hid (Vx.out.ext hy); replace Vn := Lib.hid (Vn.out.ext hy); replace V1 := Lib.hid (V1.out.ext hy); clear hy; have hv' := hv.val; obtain ⟨nm, am, qm, cm, rfl⟩ := hv'.form; have Vm := Lib.hid hv'; clear hv hv'
          refine hK.out _ _ ?_ (fun hHeld2 => ?_)
          · exact ⟨s0, s1⟩
          clear hK K hHeld
          have hHeld := hHeld2
          clear hHeld2
          (try simp only [Act.put, List.getElem_toArray, List.getElem_cons_succ, List.getElem_cons_zero, List.setIfInBounds_toArray, List.set_cons_zero, List.set_cons_succ])
          refine wpAnyH_take (i := 3) (oi := _) (v := ?_) rfl (by kernel_rfl) (by kernel_rfl) (by kernel_rfl) (fun _ _ _ h => h) (Or.inl ⟨by rfl, ?_⟩) (by assumption) ?_
          rotate_left
          · (intro w hSw; (try dsimp only at hSw); (try go_simp); (try with_reducible rfl))
          (try simp only [Act.put, List.getElem_toArray, List.getElem_cons_succ, List.getElem_cons_zero, List.setIfInBounds_toArray, List.set_cons_zero, List.set_cons_succ])
          refine wpAnyH_take (i := 4) (oi := _) (v := ?_) rfl (by kernel_rfl) (by kernel_rfl) (by kernel_rfl) (fun _ _ _ h => h) (Or.inl ⟨by rfl, ?_⟩) (by assumption) ?_
          rotate_left
          · (intro w hSw; (try dsimp only at hSw); (try go_simp); (try with_reducible rfl))
          (try simp only [Act.put, List.getElem_toArray, List.getElem_cons_succ, List.getElem_cons_zero, List.setIfInBounds_toArray, List.set_cons_zero, List.set_cons_succ])
          refine wpAnyH_take (i := 5) (oi := _) (v := ?_) rfl (by kernel_rfl) (by kernel_rfl) (by kernel_rfl) (fun _ _ _ h => h) (Or.inl ⟨by rfl, ?_⟩) (by assumption) ?_
          rotate_left
          · (intro w hSw; (try dsimp only at hSw); (try go_simp); (try with_reducible rfl))
          (try simp only [Act.put, List.getElem_toArray, List.getElem_cons_succ, List.getElem_cons_zero, List.setIfInBounds_toArray, List.set_cons_zero, List.set_cons_succ])
          refine wpAnyH_ready (rs := [7]) (by kernel_rfl) (by simp) ?_
          refine AllReadyH.cons (o := _) rfl (fun K hK => ?_) ?_
          · obtain ⟨g0, z0, g1, z1⟩ := bp2 Km (.bool nm) (.slice am qm cm); go_simp; clear g0 z0 g1 z1; replace Vx := (by first | exact rv2 Vx Km (.bool nm) (.slice am qm cm) rfl rfl | exact bv2 Vx Km (.bool nm) (.slice am qm cm) rfl rfl); replace Vn := (by first | exact rv2 Vn Km (.bool nm) (.slice am qm cm) rfl rfl | exact bv2 Vn Km (.bool nm) (.slice am qm cm) rfl rfl); replace V1 := (by first | exact rv2 V1 Km (.bool nm) (.slice am qm cm) rfl rfl | exact bv2 V1 Km (.bool nm) (.slice am qm cm) rfl rfl); replace Vm := (by first | exact rv2 Vm Km (.bool nm) (.slice am qm cm) rfl rfl | exact bv2 Vm Km (.bool nm) (.slice am qm cm) rfl rfl); replace hx := bx2 hx (pm) (.bool nm) (.slice am qm cm) (by omega); replace hE := bx2 hE (pm) (.bool nm) (.slice am qm cm) (by omega); replace s0 := bf2 s0 (pm) (.bool nm) (.slice am qm cm) (by omega); replace s1 := bf2 s1 (pm) (.bool nm) (.slice am qm cm) (by omega); replace Kx := bo2 Kx (pm) (.bool nm) (.slice am qm cm) (by omega); replace Kn := bo2 Kn (pm) (.bool nm) (.slice am qm cm) (by omega); replace Km := bs2 Km (.bool nm) (.slice am qm cm); generalize (World.setCell (World.setCell x14 ⟨pm, 0, none⟩ (.bool nm)) ⟨pm, 1, none⟩ (.slice am qm cm)) = xe at *
            refine hK.out _ _ ?_ (fun hHeld2 => ?_)
            · exact ⟨s0, s1⟩
            clear hK K hHeld
            have hHeld := hHeld2
            clear hHeld2
            (try simp only [Act.put, List.getElem_toArray, List.getElem_cons_succ, List.getElem_cons_zero, List.setIfInBounds_toArray, List.set_cons_zero, List.set_cons_succ])
            refine wpAnyH_take (i := 8) (oi := _) (v := ?_) rfl (by kernel_rfl) (by kernel_rfl) (by kernel_rfl) (fun _ _ _ h => h) (Or.inl ⟨by rfl, ?_⟩) (by assumption) ?_
            rotate_left
            · (intro w hSw; (try dsimp only at hSw); (try go_simp); (try with_reducible rfl))
            (try simp only [Act.put, List.getElem_toArray, List.getElem_cons_succ, List.getElem_cons_zero, List.setIfInBounds_toArray, List.set_cons_zero, List.set_cons_succ])
            refine wpAnyH_done (by kernel_rfl) ?_ _
            (go_wp2_with fail; go_meet; exact ⟨_, nm, am, qm, cm, rfl, rfl, Km.out, Vm.out, hE⟩)
          exact AllReadyH.nil
        exact AllReadyH.nil
      exact AllReadyH.nil
    exact AllReadyH.nil
  case rest =>
  obtain ⟨pm, nm, am, qm, cm, rfl, rfl, hB, hv, hy⟩ := hcut
  replace hx := hx.trans hy
  replace Kx := kE Kx hy
  replace Kn := kE Kn hy
  replace Vx := Lib.hid (Vx.out.ext hy)
  replace Vn := Lib.hid (Vn.out.ext hy)
  have Km := Lib.hid hB
  have Vm := Lib.hid hv
  clear hB hv hy
  go_upto_region 7 with fail
  go_cut [7, 8] (fun s1 s2 wx => ∃ (p : Nat) (nf : Bool) (af : Option Addr) (qf : Nat) (cf : Nat) (bf : Option Addr) (kf : Nat) (df : Nat), s1 = .pointer (some ⟨p, 0, none⟩) ∧ s2 = .int .i64 0 ∧ Blk wx p #[.bool nf, .slice af qf cf, .bool false, .slice bf kf df] 26 ∧ RatV wx (.agg #[.bool nf, .slice af qf cf, .bool false, .slice bf kf df]) (Rat.divInt (r.num / (r.den : Int)) 1) ∧ Ext wc wx)
  case first =>
    obtain ⟨cn0, cn1⟩ := bk2 Kn
    clear cn0 cn1
    have s0 : World.cell? wc ⟨pn, 0, none⟩ = some (.bool nn) := Kn.out.cell (i := 0) (v := .bool nn) rfl
    have s1 : World.cell? wc ⟨pn, 1, none⟩ = some (.slice an qn cn) := Kn.out.cell (i := 1) (v := .slice an qn cn) rfl
    have hE : Ext wc (World.drew wc) := (Ext.refl _).drew
    have hyd : Ext wc (World.drew wc) := (Ext.refl _).drew
    replace hx := hx.trans hyd
    replace Kx := kE Kx hyd
    replace Kn := kE Kn hyd
    replace Km := kE Km hyd
    replace Vx := Lib.hid (Vx.out.ext hyd)
    replace Vn := Lib.hid (Vn.out.ext hyd)
    replace Vm := Lib.hid (Vm.out.ext hyd)
    clear hyd
    replace s0 : World.cell? (World.drew wc) ⟨pn, 0, none⟩ = some (.bool nn) := s0
    replace s1 : World.cell? (World.drew wc) ⟨pn, 1, none⟩ = some (.slice an qn cn) := s1
    refine wp_region_held_drew (S := (fun w' => World.cell? w' ⟨pn, 0, none⟩ = some (.bool nn) ∧ World.cell? w' ⟨pn, 1, none⟩ = some (.slice an qn cn))) (by kernel_rfl) ?_ (fun hHeld => ?_)
    · exact ⟨s0, s1⟩
    generalize World.drew wc = x15 at *
    refine wpAnyH_take (i := 0) (oi := _) (v := ?_) rfl (by kernel_rfl) (by kernel_rfl) (by kernel_rfl) (fun _ _ _ h => h) (Or.inl ⟨by rfl, ?_⟩) (by assumption) ?_
    rotate_left
    · (intro w hSw; (try dsimp only at hSw); (try go_simp); (try with_reducible rfl))
    (try simp only [Act.put, List.getElem_toArray, List.getElem_cons_succ, List.getElem_cons_zero, List.setIfInBounds_toArray, List.set_cons_zero, List.set_cons_succ])
    refine wpAnyH_ready (rs := [1, 6]) (by kernel_rfl) (by simp) ?_
    refine AllReadyH.cons (o := _) rfl (fun K hK => ?_) ?_
    · go_simp
      (with_reducible refine (law_big 1 _ (by decide)).mono ?_); rintro e x16 ⟨v1, rfl, hv, hy⟩; replace hE := hE.trans hy; replace hx := hx.trans hy; replace s0 := cell_exQ hy s0; replace s1 := cell_exQ hy s1; replace Kx := kE Kx hy; replace Kn := kE Kn hy; replace Km := kE Km hy; replace Vx := Lib.hid (Vx.out.ext hy); replace Vn := Lib.hid (Vn.out.ext hy); replace Vm := Lib.hid (Vm.out.ext hy); clear hy; have V1 := Lib.hid hv; clear hv
      refine hK.out _ _ ?_ (fun hHeld2 => ?_)
      · exact ⟨s0, s1⟩
      clear hK K hHeld
      have hHeld := hHeld2
      clear hHeld2
      (try simp only [Act.put, List.getElem_toArray, List.getElem_cons_succ, List.getElem_cons_zero, List.setIfInBounds_toArray, List.set_cons_zero, List.set_cons_succ])
      refine wpAnyH_ready (rs := [2, 6]) (by kernel_rfl) (by simp) ?_
      refine AllReadyH.cons (o := _) rfl (fun K hK => ?_) ?_
      · go_simp
        (with_reducible refine (ratio_of_val Vn.out V1.out LZ.out L1.out (by decide)).mono ?_); rintro e x17 ⟨v2, rfl, hv, hy⟩; replace hE := hE.trans hy; replace hx := hx.trans hy; replace s0 := cell_exQ hy s0; replace s1 := cell_exQ hy s1; replace Kx := kE Kx hy; replace Kn := kE Kn hy; replace Km := kE Km hy; replace Vx := Lib.hid (Vx.out.ext hy); replace Vn := Lib.hid (Vn.out.ext hy); replace Vm := Lib.hid (Vm.out.ext hy); replace V1 := Lib.hid (V1.out.ext hy); clear hy; obtain ⟨nf, af, qf, cf, bf, kf, df, rfl, hv', hf', hg'⟩ := hv; have Vf := Lib.hid hv'; clear hv' hf' hg'
        refine hK.out _ _ ?_ (fun hHeld2 => ?_)
        · exact ⟨s0, s1⟩
        clear hK K hHeld
        have hHeld := hHeld2
        clear hHeld2
        (try simp only [Act.put, List.getElem_toArray, List.getElem_cons_succ, List.getElem_cons_zero, List.setIfInBounds_toArray, List.set_cons_zero, List.set_cons_succ])
        refine wpAnyH_take (i := 3) (oi := _) (v := ?_) rfl (by kernel_rfl) (by kernel_rfl) (by kernel_rfl) (fun _ _ _ h => h) (Or.inl ⟨by rfl, ?_⟩) (by assumption) ?_
        rotate_left
        · (intro w hSw; (try dsimp only at hSw); (try go_simp); (try with_reducible rfl))
        (try simp only [Act.put, List.getElem_toArray, List.getElem_cons_succ, List.getElem_cons_zero, List.setIfInBounds_toArray, List.set_cons_zero, List.set_cons_succ])
        refine wpAnyH_take (i := 4) (oi := _) (v := ?_) rfl (by kernel_rfl) (by kernel_rfl) (by kernel_rfl) (fun _ _ _ h => h) (Or.inl ⟨by rfl, ?_⟩) (by assumption) ?_
        rotate_left
        · (intro w hSw; (try dsimp only at hSw); (try go_simp); (try with_reducible rfl))
        (try simp only [Act.put, List.getElem_toArray, List.getElem_cons_succ, List.getElem_cons_zero, List.setIfInBounds_toArray, List.set_cons_zero, List.set_cons_succ])
        refine wpAnyH_take (i := 5) (oi := _) (v := ?_) rfl (by kernel_rfl) (by kernel_rfl) (by kernel_rfl) (fun _ _ _ h => h) (Or.inl ⟨by rfl, ?_⟩) (by assumption) ?_
        rotate_left
        · (intro w hSw; (try dsimp only at hSw); (try go_simp); (try with_reducible rfl))
        (try simp only [Act.put, List.getElem_toArray, List.getElem_cons_succ, List.getElem_cons_zero, List.setIfInBounds_toArray, List.set_cons_zero, List.set_cons_succ])
        refine wpAnyH_ready (rs := [6]) (by kernel_rfl) (by simp) ?_
        refine AllReadyH.cons (o := _) rfl (fun K hK => ?_) ?_
        · go_simp
          have hy : Ext x17 (World.alloc x17 (.cells #[.bool false, .slice none 0 0, .bool false, .slice none 0 0] 26)) := Ext.alloc _ _; have lxf : w.heap.size < Array.size (World.heap x17) := Kx.out.lt; have lnf : pn < Array.size (World.heap x17) := Kn.out.lt; have lmf : pm < Array.size (World.heap x17) := Km.out.lt; have hpf : w.heap.size ≤ Array.size (World.heap x17) := hx.size; have hqf := hE.size; replace hE := hE.trans hy; replace hx := hx.trans hy; have mf0 := lt_of_cell s0; replace s0 := cell_exQ hy s0; have mf1 := lt_of_cell s1; replace s1 := cell_exQ hy s1; replace Kx := kE Kx hy; replace Kn := kE Kn hy; replace Km := kE Km hy; replace Vx := Lib.hid (Vx.out.ext hy); replace Vn := Lib.hid (Vn.out.ext hy); replace Vm := Lib.hid (Vm.out.ext hy); replace V1 := Lib.hid (V1.out.ext hy); replace Vf := Lib.hid (Vf.out.ext hy); have Kf := Lib.hid (Blk.new0 x17 #[.bool false, .slice none 0 0, .bool false, .slice none 0 0] 26); clear hy; generalize World.alloc x17 (.cells #[.bool false, .slice none 0 0, .bool false, .slice none 0 0] 26) = x18 at *; generalize Array.size (World.heap x17) = pf at *
          refine hK.out _ _ ?_ (fun hHeld2 => ?_)
          · exact ⟨s0, s1⟩
          clear hK K hHeld
          have hHeld := hHeld2
          clear hHeld2
          (try simp only [Act.put, List.getElem_toArray, List.getElem_cons_succ, List.getElem_cons_zero, List.setIfInBounds_toArray, List.set_cons_zero, List.set_cons_succ])
          refine wpAnyH_ready (rs := [7]) (by kernel_rfl) (by simp) ?_
          refine AllReadyH.cons (o := _) rfl (fun K hK => ?_) ?_
          · obtain ⟨g0, z0, g1, z1, g2, z2, g3, z3⟩ := bp4 Kf (.bool nf) (.slice af qf cf) (.bool false) (.slice bf kf df); go_simp; clear g0 z0 g1 z1 g2 z2 g3 z3; replace Vx := (by first | exact rv4 Vx Kf (.bool nf) (.slice af qf cf) (.bool false) (.slice bf kf df) rfl rfl rfl rfl | exact bv4 Vx Kf (.bool nf) (.slice af qf cf) (.bool false) (.slice bf kf df) rfl rfl rfl rfl); replace Vn := (by first | exact rv4 Vn Kf (.bool nf) (.slice af qf cf) (.bool false) (.slice bf kf df) rfl rfl rfl rfl | exact bv4 Vn Kf (.bool nf) (.slice af qf cf) (.bool false) (.slice bf kf df) rfl rfl rfl rfl); replace Vm := (by first | exact rv4 Vm Kf (.bool nf) (.slice af qf cf) (.bool false) (.slice bf kf df) rfl rfl rfl rfl | exact bv4 Vm Kf (.bool nf) (.slice af qf cf) (.bool false) (.slice bf kf df) rfl rfl rfl rfl); replace V1 := (by first | exact rv4 V1 Kf (.bool nf) (.slice af qf cf) (.bool false) (.slice bf kf df) rfl rfl rfl rfl | exact bv4 V1 Kf (.bool nf) (.slice af qf cf) (.bool false) (.slice bf kf df) rfl rfl rfl rfl); replace Vf := (by first | exact rv4 Vf Kf (.bool nf) (.slice af qf cf) (.bool false) (.slice bf kf df) rfl rfl rfl rfl | exact bv4 Vf Kf (.bool nf) (.slice af qf cf) (.bool false) (.slice bf kf df) rfl rfl rfl rfl); replace hx := bx4 hx (pf) (.bool nf) (.slice af qf cf) (.bool false) (.slice bf kf df) (by omega); replace hE := bx4 hE (pf) (.bool nf) (.slice af qf cf) (.bool false) (.slice bf kf df) (by omega); replace s0 := bf4 s0 (pf) (.bool nf) (.slice af qf cf) (.bool false) (.slice bf kf df) (by omega); replace s1 := bf4 s1 (pf) (.bool nf) (.slice af qf cf) (.bool false) (.slice bf kf df) (by omega); replace Kx := bo4 Kx (pf) (.bool nf) (.slice af qf cf) (.bool false) (.slice bf kf df) (by omega); replace Kn := bo4 Kn (pf) (.bool nf) (.slice af qf cf) (.bool false) (.slice bf kf df) (by omega); replace Km := bo4 Km (pf) (.bool nf) (.slice af qf cf) (.bool false) (.slice bf kf df) (by omega); replace Kf := bs4 Kf (.bool nf) (.slice af qf cf) (.bool false) (.slice bf kf df); generalize (World.setCell (World.setCell (World.setCell (World.setCell x18 ⟨pf, 0, none⟩ (.bool nf)) ⟨pf, 1, none⟩ (.slice af qf cf)) ⟨pf, 2, none⟩ (.bool false)) ⟨pf, 3, none⟩ (.slice bf kf df)) = xe at *
            refine hK.out _ _ ?_ (fun hHeld2 => ?_)
            · exact ⟨s0, s1⟩
            clear hK K hHeld
            have hHeld := hHeld2
            clear hHeld2
            (try simp only [Act.put, List.getElem_toArray, List.getElem_cons_succ, List.getElem_cons_zero, List.setIfInBounds_toArray, List.set_cons_zero, List.set_cons_succ])
            refine wpAnyH_take (i := 8) (oi := _) (v := ?_) rfl (by kernel_rfl) (by kernel_rfl) (by kernel_rfl) (fun _ _ _ h => h) (Or.inl ⟨by rfl, ?_⟩) (by assumption) ?_
            rotate_left
            · (intro w hSw; (try dsimp only at hSw); (try go_simp); (try with_reducible rfl))
            (try simp only [Act.put, List.getElem_toArray, List.getElem_cons_succ, List.getElem_cons_zero, List.setIfInBounds_toArray, List.set_cons_zero, List.set_cons_succ])
            refine wpAnyH_done (by kernel_rfl) ?_ _
            (go_wp2_with fail; go_meet; exact ⟨_, nf, af, qf, cf, bf, kf, df, rfl, rfl, Kf.out, Vf.out, hE⟩)
          exact AllReadyH.nil
        exact AllReadyH.nil
      refine AllReadyH.cons (o := _) rfl (fun K hK => ?_) ?_
      · go_simp
        have hy : Ext x16 (World.alloc x16 (.cells #[.bool false, .slice none 0 0, .bool false, .slice none 0 0] 26)) := Ext.alloc _ _; have lxf : w.heap.size < Array.size (World.heap x16) := Kx.out.lt; have lnf : pn < Array.size (World.heap x16) := Kn.out.lt; have lmf : pm < Array.size (World.heap x16) := Km.out.lt; have hpf : w.heap.size ≤ Array.size (World.heap x16) := hx.size; have hqf := hE.size; replace hE := hE.trans hy; replace hx := hx.trans hy; have mf0 := lt_of_cell s0; replace s0 := cell_exQ hy s0; have mf1 := lt_of_cell s1; replace s1 := cell_exQ hy s1; replace Kx := kE Kx hy; replace Kn := kE Kn hy; replace Km := kE Km hy; replace Vx := Lib.hid (Vx.out.ext hy); replace Vn := Lib.hid (Vn.out.ext hy); replace Vm := Lib.hid (Vm.out.ext hy); replace V1 := Lib.hid (V1.out.ext hy); have Kf := Lib.hid (Blk.new0 x16 #[.bool false, .slice none 0 0, .bool false, .slice none 0 0] 26); clear hy; generalize World.alloc x16 (.cells #[.bool false, .slice none 0 0, .bool false, .slice none 0 0] 26) = x19 at *; generalize Array.size (World.heap x16) = pf at *
        refine hK.out _ _ ?_ (fun hHeld2 => ?_)
        · exact ⟨s0, s1⟩
        clear hK K hHeld
        have hHeld := hHeld2
        clear hHeld2
        (try simp only [Act.put, List.getElem_toArray, List.getElem_cons_succ, List.getElem_cons_zero, List.setIfInBounds_toArray, List.set_cons_zero, List.set_cons_succ])
        refine wpAnyH_ready (rs := [2]) (by kernel_rfl) (by simp) ?_
        refine AllReadyH.cons (o := _) rfl (fun K hK => ?_) ?_
        · go_simp
          (with_reducible refine (ratio_of_val Vn.out V1.out LZ.out L1.out (by decide)).mono ?_); rintro e x20 ⟨v2, rfl, hv, hy⟩; replace hE := hE.trans hy; replace hx := hx.trans hy; replace s0 := cell_exQ hy s0; replace s1 := cell_exQ hy s1; replace Kx := kE Kx hy; replace Kn := kE Kn hy; replace Km := kE Km hy; replace Kf := kE Kf hy; replace Vx := Lib.hid (Vx.out.ext hy); replace Vn := Lib.hid (Vn.out.ext hy); replace Vm := Lib.hid (Vm.out.ext hy); replace V1 := Lib.hid (V1.out.ext hy); clear hy; obtain ⟨nf, af, qf, cf, bf, kf, df, rfl, hv', hf', hg'⟩ := hv; have Vf := Lib.hid hv'; clear hv' hf' hg'
          refine hK.out _ _ ?_ (fun hHeld2 => ?_)
          · exact ⟨s0, s1⟩
          clear hK K hHeld
          have hHeld := hHeld2
          clear hHeld2
          (try simp only [Act.put, List.getElem_toArray, List.getElem_cons_succ, List.getElem_cons_zero, List.setIfInBounds_toArray, List.set_cons_zero, List.set_cons_succ])
          refine wpAnyH_take (i := 3) (oi := _) (v := ?_) rfl (by kernel_rfl) (by kernel_rfl) (by kernel_rfl) (fun _ _ _ h => h) (Or.inl ⟨by rfl, ?_⟩) (by assumption) ?_
          rotate_left
          · (intro w hSw; (try dsimp only at hSw); (try go_simp); (try with_reducible rfl))
          (try simp only [Act.put, List.getElem_toArray, List.getElem_cons_succ, List.getElem_cons_zero, List.setIfInBounds_toArray, List.set_cons_zero, List.set_cons_succ])
          refine wpAnyH_take (i := 4) (oi := _) (v := ?_) rfl (by kernel_rfl) (by kernel_rfl) (by kernel_rfl) (fun _ _ _ h => h) (Or.inl ⟨by rfl, ?_⟩) (by assumption) ?_
          rotate_left
          · (intro w hSw; (try dsimp only at hSw); (try go_simp); (try with_reducible rfl))
          (try simp only [Act.put, List.getElem_toArray, List.getElem_cons_succ, List.getElem_cons_zero, List.setIfInBounds_toArray, List.set_cons_zero, List.set_cons_succ])
          refine wpAnyH_take (i := 5) (oi := _) (v := ?_) rfl (by kernel_rfl) (by kernel_rfl) (by kernel_rfl) (fun _ _ _ h => h) (Or.inl ⟨by rfl, ?_⟩) (by assumption) ?_
          rotate_left
          · (intro w hSw; (try dsimp only at hSw); (try go_simp); (try with_reducible rfl))
          (try simp only [Act.put, List.getElem_toArray, List.getElem_cons_succ, List.getElem_cons_zero, List.setIfInBounds_toArray, List.set_cons_zero, List.set_cons_succ])
          refine wpAnyH_ready (rs := [7]) (by kernel_rfl) (by simp) ?_
          refine AllReadyH.cons (o := _) rfl (fun K hK => ?_) ?_
          · obtain ⟨g0, z0, g1, z1, g2, z2, g3, z3⟩ := bp4 Kf (.bool nf) (.slice af qf cf) (.bool false) (.slice bf kf df); go_simp; clear g0 z0 g1 z1 g2 z2 g3 z3; replace Vx := (by first | exact rv4 Vx Kf (.bool nf) (.slice af qf cf) (.bool false) (.slice bf kf df) rfl rfl rfl rfl | exact bv4 Vx Kf (.bool nf) (.slice af qf cf) (.bool false) (.slice bf kf df) rfl rfl rfl rfl); replace Vn := (by first | exact rv4 Vn Kf (.bool nf) (.slice af qf cf) (.bool false) (.slice bf kf df) rfl rfl rfl rfl | exact bv4 Vn Kf (.bool nf) (.slice af qf cf) (.bool false) (.slice bf kf df) rfl rfl rfl rfl); replace Vm := (by first | exact rv4 Vm Kf (.bool nf) (.slice af qf cf) (.bool false) (.slice bf kf df) rfl rfl rfl rfl | exact bv4 Vm Kf (.bool nf) (.slice af qf cf) (.bool false) (.slice bf kf df) rfl rfl rfl rfl); replace V1 := (by first | exact rv4 V1 Kf (.bool nf) (.slice af qf cf) (.bool false) (.slice bf kf df) rfl rfl rfl rfl | exact bv4 V1 Kf (.bool nf) (.slice af qf cf) (.bool false) (.slice bf kf df) rfl rfl rfl rfl); replace Vf := (by first | exact rv4 Vf Kf (.bool nf) (.slice af qf cf) (.bool false) (.slice bf kf df) rfl rfl rfl rfl | exact bv4 Vf Kf (.bool nf) (.slice af qf cf) (.bool false) (.slice bf kf df) rfl rfl rfl rfl); replace hx := bx4 hx (pf) (.bool nf) (.slice af qf cf) (.bool false) (.slice bf kf df) (by omega); replace hE := bx4 hE (pf) (.bool nf) (.slice af qf cf) (.bool false) (.slice bf kf df) (by omega); replace s0 := bf4 s0 (pf) (.bool nf) (.slice af qf cf) (.bool false) (.slice bf kf df) (by omega); replace s1 := bf4 s1 (pf) (.bool nf) (.slice af qf cf) (.bool false) (.slice bf kf df) (by omega); replace Kx := bo4 Kx (pf) (.bool nf) (.slice af qf cf) (.bool false) (.slice bf kf df) (by omega); replace Kn := bo4 Kn (pf) (.bool nf) (.slice af qf cf) (.bool false) (.slice bf kf df) (by omega); replace Km := bo4 Km (pf) (.bool nf) (.slice af qf cf) (.bool false) (.slice bf kf df) (by omega); replace Kf := bs4 Kf (.bool nf) (.slice af qf cf) (.bool false) (.slice bf kf df); generalize (World.setCell (World.setCell (World.setCell (World.setCell x20 ⟨pf, 0, none⟩ (.bool nf)) ⟨pf, 1, none⟩ (.slice af qf cf)) ⟨pf, 2, none⟩ (.bool false)) ⟨pf, 3, none⟩ (.slice bf kf df)) = xe at *
            refine hK.out _ _ ?_ (fun hHeld2 => ?_)
            · exact ⟨s0, s1⟩
            clear hK K hHeld
            have hHeld := hHeld2
            clear hHeld2
            (try simp only [Act.put, List.getElem_toArray, List.getElem_cons_succ, List.getElem_cons_zero, List.setIfInBounds_toArray, List.set_cons_zero, List.set_cons_succ])
            refine wpAnyH_take (i := 8) (oi := _) (v := ?_) rfl (by kernel_rfl) (by kernel_rfl) (by kernel_rfl) (fun _ _ _ h => h) (Or.inl ⟨by rfl, ?_⟩) (by assumption) ?_
            rotate_left
            · (intro w hSw; (try dsimp only at hSw); (try go_simp); (try with_reducible rfl))
            (try simp only [Act.put, List.getElem_toArray, List.getElem_cons_succ, List.getElem_cons_zero, List.setIfInBounds_toArray, List.set_cons_zero, List.set_cons_succ])
            refine wpAnyH_done (by kernel_rfl) ?_ _
            (go_wp2_with fail; go_meet; exact ⟨_, nf, af, qf, cf, bf, kf, df, rfl, rfl, Kf.out, Vf.out, hE⟩)
          exact AllReadyH.nil
        exact AllReadyH.nil
      exact AllReadyH.nil
    refine AllReadyH.cons (o := _) rfl (fun K hK => ?_) ?_
    · go_simp
      have hy : Ext x15 (World.alloc x15 (.cells #[.bool false, .slice none 0 0, .bool false, .slice none 0 0] 26)) := Ext.alloc _ _; have lxf : w.heap.size < Array.size (World.heap x15) := Kx.out.lt; have lnf : pn < Array.size (World.heap x15) := Kn.out.lt; have lmf : pm < Array.size (World.heap x15) := Km.out.lt; have hpf : w.heap.size ≤ Array.size (World.heap x15) := hx.size; have hqf := hE.size; replace hE := hE.trans hy; replace hx := hx.trans hy; have mf0 := lt_of_cell s0; replace s0 := cell_exQ hy s0; have mf1 := lt_of_cell s1; replace s1 := cell_exQ hy s1; replace Kx := kE Kx hy; replace Kn := kE Kn hy; replace Km := kE Km hy; replace Vx := Lib.hid (Vx.out.ext hy); replace Vn := Lib.hid (Vn.out.ext hy); replace Vm := Lib.hid (Vm.out.ext hy); have Kf := Lib.hid (Blk.new0 x15 #[.bool false, .slice none 0 0, .bool false, .slice none 0 0] 26); clear hy; generalize World.alloc x15 (.cells #[.bool false, .slice none 0 0, .bool false, .slice none 0 0] 26) = x21 at *; generalize Array.size (World.heap x15) = pf at *
      refine hK.out _ _ ?_ (fun hHeld2 => ?_)
      · exact ⟨s0, s1⟩
      clear hK K hHeld
      have hHeld := hHeld2
      clear hHeld2
      (try simp only [Act.put, List.getElem_toArray, List.getElem_cons_succ, List.getElem_cons_zero, List.setIfInBounds_toArray, List.set_cons_zero, List.set_cons_succ])
      refine wpAnyH_ready (rs := [1]) (by kernel_rfl) (by simp) ?_
      refine AllReadyH.cons (o := _) rfl (fun K hK => ?_) ?_
      · go_simp
        (with_reducible refine (law_big 1 _ (by decide)).mono ?_); rintro e x22 ⟨v1, rfl, hv, hy⟩; replace hE := hE.trans hy; replace hx := hx.trans hy; replace s0 := cell_exQ hy s0; replace s1 := cell_exQ hy s1; replace Kx := kE Kx hy; replace Kn := kE Kn hy; replace Km := kE Km hy; replace Kf := kE Kf hy; replace Vx := Lib.hid (Vx.out.ext hy); replace Vn := Lib.hid (Vn.out.ext hy); replace Vm := Lib.hid (Vm.out.ext hy); clear hy; have V1 := Lib.hid hv; clear hv
        refine hK.out _ _ ?_ (fun hHeld2 => ?_)
        · exact ⟨s0, s1⟩
        clear hK K hHeld
        have hHeld := hHeld2
        clear hHeld2
        (try simp only [Act.put, List.getElem_toArray, List.getElem_cons_succ, List.getElem_cons_zero, List.setIfInBounds_toArray, List.set_cons_zero, List.set_cons_succ])
        refine wpAnyH_ready (rs := [2]) (by kernel_rfl) (by simp) ?_
        refine AllReadyH.cons (o := _) rfl (fun K hK => ?_) ?_
        · go_simp
          (with_reducible refine (ratio_of_val Vn.out V1.out LZ.out L1.out (by decide)).mono ?_); rintro e x23 ⟨v2, rfl, hv, hy⟩; replace hE := hE.trans hy; replace hx := hx.trans hy; replace s0 := cell_exQ hy s0; replace s1 := cell_exQ hy s1; replace Kx := kE Kx hy; replace Kn := kE Kn hy; replace Km := kE Km hy; replace Kf := kE Kf hy; replace Vx := Lib.hid (Vx.out.ext hy); replace Vn := Lib.hid (Vn.out.ext hy); replace Vm := Lib.hid (Vm.out.ext hy); replace V1 := Lib.hid (V1.out.ext hy); clear hy; obtain ⟨nf, af, qf, cf, bf, kf, df, rfl, hv', hf', hg'⟩ := hv; have Vf := Lib.hid hv'; clear hv' hf' hg'
          refine hK.out _ _ ?_ (fun hHeld2 => ?_)
          · exact ⟨s0, s1⟩
          clear hK K hHeld
          have hHeld := hHeld2
          clear hHeld2
          (try simp only [Act.put, List.getElem_toArray, List.getElem_cons_succ, List.getElem_cons_zero, List.setIfInBounds_toArray, List.set_cons_zero, List.set_cons_succ])
          refine wpAnyH_take (i := 3) (oi := _) (v := ?_) rfl (by kernel_rfl) (by kernel_rfl) (by kernel_rfl) (fun _ _ _ h => h) (Or.inl ⟨by rfl, ?_⟩) (by assumption) ?_
          rotate_left
          · (intro w hSw; (try dsimp only at hSw); (try go_simp); (try with_reducible rfl))
          (try simp only [Act.put, List.getElem_toArray, List.getElem_cons_succ, List.getElem_cons_zero, List.setIfInBounds_toArray, List.set_cons_zero, List.set_cons_succ])
          refine wpAnyH_take (i := 4) (oi := _) (v := ?_) rfl (by kernel_rfl) (by kernel_rfl) (by kernel_rfl) (fun _ _ _ h => h) (Or.inl ⟨by rfl, ?_⟩) (by assumption) ?_
          rotate_left
          · (intro w hSw; (try dsimp only at hSw); (try go_simp); (try with_reducible rfl))
          (try simp only [Act.put, List.getElem_toArray, List.getElem_cons_succ, List.getElem_cons_zero, List.setIfInBounds_toArray, List.set_cons_zero, List.set_cons_succ])
          refine wpAnyH_take (i := 5) (oi := _) (v := ?_) rfl (by kernel_rfl) (by kernel_rfl) (by kernel_rfl) (fun _ _ _ h => h) (Or.inl ⟨by rfl, ?_⟩) (by assumption) ?_
          rotate_left
          · (intro w hSw; (try dsimp only at hSw); (try go_simp); (try with_reducible rfl))
          (try simp only [Act.put, List.getElem_toArray, List.getElem_cons_succ, List.getElem_cons_zero, List.setIfInBounds_toArray, List.set_cons_zero, List.set_cons_succ])
          refine wpAnyH_ready (rs := [7]) (by kernel_rfl) (by simp) ?_
          refine AllReadyH.cons (o := _) rfl (fun K hK => ?_) ?_
          · obtain ⟨g0, z0, g1, z1, g2, z2, g3, z3⟩ := bp4 Kf (.bool nf) (.slice af qf cf) (.bool false) (.slice bf kf df); go_simp; clear g0 z0 g1 z1 g2 z2 g3 z3; replace Vx := (by first | exact rv4 Vx Kf (.bool nf) (.slice af qf cf) (.bool false) (.slice bf kf df) rfl rfl rfl rfl | exact bv4 Vx Kf (.bool nf) (.slice af qf cf) (.bool false) (.slice bf kf df) rfl rfl rfl rfl); replace Vn := (by first | exact rv4 Vn Kf (.bool nf) (.slice af qf cf) (.bool false) (.slice bf kf df) rfl rfl rfl rfl | exact bv4 Vn Kf (.bool nf) (.slice af qf cf) (.bool false) (.slice bf kf df) rfl rfl rfl rfl); replace Vm := (by first | exact rv4 Vm Kf (.bool nf) (.slice af qf cf) (.bool false) (.slice bf kf df) rfl rfl rfl rfl | exact bv4 Vm Kf (.bool nf) (.slice af qf cf) (.bool false) (.slice bf kf df) rfl rfl rfl rfl); replace V1 := (by first | exact rv4 V1 Kf (.bool nf) (.slice af qf cf) (.bool false) (.slice bf kf df) rfl rfl rfl rfl | exact bv4 V1 Kf (.bool nf) (.slice af qf cf) (.bool false) (.slice bf kf df) rfl rfl rfl rfl); replace Vf := (by first | exact rv4 Vf Kf (.bool nf) (.slice af qf cf) (.bool false) (.slice bf kf df) rfl rfl rfl rfl | exact bv4 Vf Kf (.bool nf) (.slice af qf cf) (.bool false) (.slice bf kf df) rfl rfl rfl rfl); replace hx := bx4 hx (pf) (.bool nf) (.slice af qf cf) (.bool false) (.slice bf kf df) (by omega); replace hE := bx4 hE (pf) (.bool nf) (.slice af qf cf) (.bool false) (.slice bf kf df) (by omega); replace s0 := bf4 s0 (pf) (.bool nf) (.slice af qf cf) (.bool false) (.slice bf kf df) (by omega); replace s1 := bf4 s1 (pf) (.bool nf) (.slice af qf cf) (.bool false) (.slice bf kf df) (by omega); replace Kx := bo4 Kx (pf) (.bool nf) (.slice af qf cf) (.bool false) (.slice bf kf df) (by omega); replace Kn := bo4 Kn (pf) (.bool nf) (.slice af qf cf) (.bool false) (.slice bf kf df) (by omega); replace Km := bo4 Km (pf) (.bool nf) (.slice af qf cf) (.bool false) (.slice bf kf df) (by omega); replace Kf := bs4 Kf (.bool nf) (.slice af qf cf) (.bool false) (.slice bf kf df); generalize (World.setCell (World.setCell (World.setCell (World.setCell x23 ⟨pf, 0, none⟩ (.bool nf)) ⟨pf, 1, none⟩ (.slice af qf cf)) ⟨pf, 2, none⟩ (.bool false)) ⟨pf, 3, none⟩ (.slice bf kf df)) = xe at *
            refine hK.out _ _ ?_ (fun hHeld2 => ?_)
            · exact ⟨s0, s1⟩
            clear hK K hHeld
            have hHeld := hHeld2
            clear hHeld2
            (try simp only [Act.put, List.getElem_toArray, List.getElem_cons_succ, List.getElem_cons_zero, List.setIfInBounds_toArray, List.set_cons_zero, List.set_cons_succ])
            refine wpAnyH_take (i := 8) (oi := _) (v := ?_) rfl (by kernel_rfl) (by kernel_rfl) (by kernel_rfl) (fun _ _ _ h => h) (Or.inl ⟨by rfl, ?_⟩) (by assumption) ?_
            rotate_left
            · (intro w hSw; (try dsimp only at hSw); (try go_simp); (try with_reducible rfl))
            (try simp only [Act.put, List.getElem_toArray, List.getElem_cons_succ, List.getElem_cons_zero, List.setIfInBounds_toArray, List.set_cons_zero, List.set_cons_succ])
            refine wpAnyH_done (by kernel_rfl) ?_ _
            (go_wp2_with fail; go_meet; exact ⟨_, nf, af, qf, cf, bf, kf, df, rfl, rfl, Kf.out, Vf.out, hE⟩)
          exact AllReadyH.nil
        exact AllReadyH.nil
      exact AllReadyH.nil
    exact AllReadyH.nil
  case rest =>
  obtain ⟨pf, nf, af, qf, cf, bf, kf, df, rfl, rfl, hB, hv, hy⟩ := hcut
  replace hx := hx.trans hy
  replace Kx := kE Kx hy
  replace Kn := kE Kn hy
  replace Km := kE Km hy
  replace Vx := Lib.hid (Vx.out.ext hy)
  replace Vn := Lib.hid (Vn.out.ext hy)
  replace Vm := Lib.hid (Vm.out.ext hy)
  have Kf := Lib.hid hB
  have Vf := Lib.hid hv
  clear hB hv hy
  go_upto_region 8 with fail
  go_cut [9, 10] (fun s1 s2 wx => ∃ (p : Nat) (ng : Bool) (ag : Option Addr) (qg : Nat) (cg : Nat) (bg : Option Addr) (kg : Nat) (dg : Nat), s1 = .pointer (some ⟨p, 0, none⟩) ∧ s2 = .int .i64 0 ∧ Blk wx p #[.bool ng, .slice ag qg cg, .bool false, .slice bg kg dg] 26 ∧ RatV wx (.agg #[.bool ng, .slice ag qg cg, .bool false, .slice bg kg dg]) (Rat.divInt (r.num / (r.den : Int) + 1) 1) ∧ Ext wc wx)
  case first =>
    obtain ⟨cm0, cm1⟩ := bk2 Km
    clear cm0 cm1
    have s0 : World.cell? wc ⟨pm, 0, none⟩ = some (.bool nm) := Km.out.cell (i := 0) (v := .bool nm) rfl
    have s1 : World.cell? wc ⟨pm, 1, none⟩ = some (.slice am qm cm) := Km.out.cell (i := 1) (v := .slice am qm cm) rfl
    have hE : Ext wc (World.drew wc) := (Ext.refl _).drew
    have hyd : Ext wc (World.drew wc) := (Ext.refl _).drew
    replace hx := hx.trans hyd
    replace Kx := kE Kx hyd
    replace Kn := kE Kn hyd
    replace Km := kE Km hyd
    replace Kf := kE Kf hyd
    replace Vx := Lib.hid (Vx.out.ext hyd)
    replace Vn := Lib.hid (Vn.out.ext hyd)
    replace Vm := Lib.hid (Vm.out.ext hyd)
    replace Vf := Lib.hid (Vf.out.ext hyd)
    clear hyd
    replace s0 : World.cell? (World.drew wc) ⟨pm, 0, none⟩ = some (.bool nm) := s0
    replace s1 : World.cell? (World.drew wc) ⟨pm, 1, none⟩ = some (.slice am qm cm) := s1
    refine wp_region_held_drew (S := (fun w' => World.cell? w' ⟨pm, 0, none⟩ = some (.bool nm) ∧ World.cell? w' ⟨pm, 1, none⟩ = some (.slice am qm cm))) (by kernel_rfl) ?_ (fun hHeld => ?_)
    · exact ⟨s0, s1⟩
    generalize World.drew wc = x24 at *
    refine wpAnyH_take (i := 0) (oi := _) (v := ?_) rfl (by kernel_rfl) (by kernel_rfl) (by kernel_rfl) (fun _ _ _ h => h) (Or.inl ⟨by rfl, ?_⟩) (by assumption) ?_
    rotate_left
    · (intro w hSw; (try dsimp only at hSw); (try go_simp); (try with_reducible rfl))
    (try simp only [Act.put, List.getElem_toArray, List.getElem_cons_succ, List.getElem_cons_zero, List.setIfInBounds_toArray, List.set_cons_zero, List.set_cons_succ])
    refine wpAnyH_ready (rs := [1, 6]) (by kernel_rfl) (by simp) ?_
    refine AllReadyH.cons (o := _) rfl (fun K hK => ?_) ?_
    · go_simp
      (with_reducible refine (law_big 1 _ (by decide)).mono ?_); rintro e x25 ⟨v1, rfl, hv, hy⟩; replace hE := hE.trans hy; replace hx := hx.trans hy; replace s0 := cell_exQ hy s0; replace s1 := cell_exQ hy s1; replace Kx := kE Kx hy; replace Kn := kE Kn hy; replace Km := kE Km hy; replace Kf := kE Kf hy; replace Vx := Lib.hid (Vx.out.ext hy); replace Vn := Lib.hid (Vn.out.ext hy); replace Vm := Lib.hid (Vm.out.ext hy); replace Vf := Lib.hid (Vf.out.ext hy); clear hy; have V1 := Lib.hid hv; clear hv
      refine hK.out _ _ ?_ (fun hHeld2 => ?_)
      · exact ⟨s0, s1⟩
      clear hK K hHeld
      have hHeld := hHeld2
      clear hHeld2
      (try simp only [Act.put, List.getElem_toArray, List.getElem_cons_succ, List.getElem_cons_zero, List.setIfInBounds_toArray, List.set_cons_zero, List.set_cons_succ])
      refine wpAnyH_ready (rs := [2, 6]) (by kernel_rfl) (by simp) ?_
      refine AllReadyH.cons (o := _) rfl (fun K hK => ?_) ?_
      · go_simp
        (with_reducible refine (ratio_of_val Vm.out V1.out LS.out L1.out (by decide)).mono ?_); rintro e x26 ⟨v2, rfl, hv, hy⟩; replace hE := hE.trans hy; replace hx := hx.trans hy; replace s0 := cell_exQ hy s0; replace s1 := cell_exQ hy s1; replace Kx := kE Kx hy; replace Kn := kE Kn hy; replace Km := kE Km hy; replace Kf := kE Kf hy; replace Vx := Lib.hid (Vx.out.ext hy); replace Vn := Lib.hid (Vn.out.ext hy); replace Vm := Lib.hid (Vm.out.ext hy); replace Vf := Lib.hid (Vf.out.ext hy); replace V1 := Lib.hid (V1.out.ext hy); clear hy; obtain ⟨ng, ag, qg, cg, bg, kg, dg, rfl, hv', hf', hg'⟩ := hv; have Vg := Lib.hid hv'; clear hv' hf' hg'
        refine hK.out _ _ ?_ (fun hHeld2 => ?_)
        · exact ⟨s0, s1⟩
        clear hK K hHeld
        have hHeld := hHeld2
        clear hHeld2
        (try simp only [Act.put, List.getElem_toArray, List.getElem_cons_succ, List.getElem_cons_zero, List.setIfInBounds_toArray, List.set_cons_zero, List.set_cons_succ])
        refine wpAnyH_take (i := 3) (oi := _) (v := ?_) rfl (by kernel_rfl) (by kernel_rfl) (by kernel_rfl) (fun _ _ _ h => h) (Or.inl ⟨by rfl, ?_⟩) (by assumption) ?_
        rotate_left
        · (intro w hSw; (try dsimp only at hSw); (try go_simp); (try with_reducible rfl))
        (try simp only [Act.put, List.getElem_toArray, List.getElem_cons_succ, List.getElem_cons_zero, List.setIfInBounds_toArray, List.set_cons_zero, List.set_cons_succ])
        refine wpAnyH_take (i := 4) (oi := _) (v := ?_) rfl (by kernel_rfl) (by kernel_rfl) (by kernel_rfl) (fun _ _ _ h => h) (Or.inl ⟨by rfl, ?_⟩) (by assumption) ?_
        rotate_left
        · (intro w hSw; (try dsimp only at hSw); (try go_simp); (try with_reducible rfl))
        (try simp only [Act.put, List.getElem_toArray, List.getElem_cons_succ, List.getElem_cons_zero, List.setIfInBounds_toArray, List.set_cons_zero, List.set_cons_succ])
        refine wpAnyH_take (i := 5) (oi := _) (v := ?_) rfl (by kernel_rfl) (by kernel_rfl) (by kernel_rfl) (fun _ _ _ h => h) (Or.inl ⟨by rfl, ?_⟩) (by assumption) ?_
        rotate_left
        · (intro w hSw; (try dsimp only at hSw); (try go_simp); (try with_reducible rfl))
        (try simp only [Act.put, List.getElem_toArray, List.getElem_cons_succ, List.getElem_cons_zero, List.setIfInBounds_toArray, List.set_cons_zero, List.set_cons_succ])
        refine wpAnyH_ready (rs := [6]) (by kernel_rfl) (by simp) ?_
        refine AllReadyH.cons (o := _) rfl (fun K hK => ?_) ?_
        · go_simp
          have hy : Ext x26 (World.alloc x26 (.cells #[.bool false, .slice none 0 0, .bool false, .slice none 0 0] 26)) := Ext.alloc _ _; have lxg : w.heap.size < Array.size (World.heap x26) := Kx.out.lt; have lng : pn < Array.size (World.heap x26) := Kn.out.lt; have lmg : pm < Array.size (World.heap x26) := Km.out.lt; have lfg : pf < Array.size (World.heap x26) := Kf.out.lt; have hpg : w.heap.size ≤ Array.size (World.heap x26) := hx.size; have hqg := hE.size; replace hE := hE.trans hy; replace hx := hx.trans hy; have mg0 := lt_of_cell s0; replace s0 := cell_exQ hy s0; have mg1 := lt_of_cell s1; replace s1 := cell_exQ hy s1; replace Kx := kE Kx hy; replace Kn := kE Kn hy; replace Km := kE Km hy; replace Kf := kE Kf hy; replace Vx := Lib.hid (Vx.out.ext hy); replace Vn := Lib.hid (Vn.out.ext hy); replace Vm := Lib.hid (Vm.out.ext hy); replace Vf := Lib.hid (Vf.out.ext hy); replace V1 := Lib.hid (V1.out.ext hy); replace Vg := Lib.hid (Vg.out.ext hy); have Kg := Lib.hid (Blk.new0 x26 #[.bool false, .slice none 0 0, .bool false, .slice none 0 0] 26); clear hy; generalize World.alloc x26 (.cells #[.bool false, .slice none 0 0, .bool false, .slice none 0 0] 26) = x27 at *; generalize Array.size (World.heap x26) = pg at *
          refine hK.out _ _ ?_ (fun hHeld2 => ?_)
          · exact ⟨s0, s1⟩
          clear hK K hHeld
          have hHeld := hHeld2
          clear hHeld2
          (try simp only [Act.put, List.getElem_toArray, List.getElem_cons_succ, List.getElem_cons_zero, List.setIfInBounds_toArray, List.set_cons_zero, List.set_cons_succ])
          refine wpAnyH_ready (rs := [7]) (by kernel_rfl) (by simp) ?_
          refine AllReadyH.cons (o := _) rfl (fun K hK => ?_) ?_
          · obtain ⟨g0, z0, g1, z1, g2, z2, g3, z3⟩ := bp4 Kg (.bool ng) (.slice ag qg cg) (.bool false) (.slice bg kg dg); go_simp; clear g0 z0 g1 z1 g2 z2 g3 z3; replace Vx := (by first | exact rv4 Vx Kg (.bool ng) (.slice ag qg cg) (.bool false) (.slice bg kg dg) rfl rfl rfl rfl | exact bv4 Vx Kg (.bool ng) (.slice ag qg cg) (.bool false) (.slice bg kg dg) rfl rfl rfl rfl); replace Vn := (by first | exact rv4 Vn Kg (.bool ng) (.slice ag qg cg) (.bool false) (.slice bg kg dg) rfl rfl rfl rfl | exact bv4 Vn Kg (.bool ng) (.slice ag qg cg) (.bool false) (.slice bg kg dg) rfl rfl rfl rfl); replace Vm := (by first | exact rv4 Vm Kg (.bool ng) (.slice ag qg cg) (.bool false) (.slice bg kg dg) rfl rfl rfl rfl | exact bv4 Vm Kg (.bool ng) (.slice ag qg cg) (.bool false) (.slice bg kg dg) rfl rfl rfl rfl); replace Vf := (by first | exact rv4 Vf Kg (.bool ng) (.slice ag qg cg) (.bool false) (.slice bg kg dg) rfl rfl rfl rfl | exact bv4 Vf Kg (.bool ng) (.slice ag qg cg) (.bool false) (.slice bg kg dg) rfl rfl rfl rfl); replace V1 := (by first | exact rv4 V1 Kg (.bool ng) (.slice ag qg cg) (.bool false) (.slice bg kg dg) rfl rfl rfl rfl | exact bv4 V1 Kg (.bool ng) (.slice ag qg cg) (.bool false) (.slice bg kg dg) rfl rfl rfl rfl); replace Vg := (by first | exact rv4 Vg Kg (.bool ng) (.slice ag qg cg) (.bool false) (.slice bg kg dg) rfl rfl rfl rfl | exact bv4 Vg Kg (.bool ng) (.slice ag qg cg) (.bool false) (.slice bg kg dg) rfl rfl rfl rfl); replace hx := bx4 hx (pg) (.bool ng) (.slice ag qg cg) (.bool false) (.slice bg kg dg) (by omega); replace hE := bx4 hE (pg) (.bool ng) (.slice ag qg cg) (.bool false) (.slice bg kg dg) (by omega); replace s0 := bf4 s0 (pg) (.bool ng) (.slice ag qg cg) (.bool false) (.slice bg kg dg) (by omega); replace s1 := bf4 s1 (pg) (.bool ng) (.slice ag qg cg) (.bool false) (.slice bg kg dg) (by omega); replace Kx := bo4 Kx (pg) (.bool ng) (.slice ag qg cg) (.bool false) (.slice bg kg dg) (by omega); replace Kn := bo4 Kn (pg) (.bool ng) (.slice ag qg cg) (.bool false) (.slice bg kg dg) (by omega); replace Km := bo4 Km (pg) (.bool ng) (.slice ag qg cg) (.bool false) (.slice bg kg dg) (by omega); replace Kf := bo4 Kf (pg) (.bool ng) (.slice ag qg cg) (.bool false) (.slice bg kg dg) (by omega); replace Kg := bs4 Kg (.bool ng) (.slice ag qg cg) (.bool false) (.slice bg kg dg); generalize (World.setCell (World.setCell (World.setCell (World.setCell x27 ⟨pg, 0, none⟩ (.bool ng)) ⟨pg, 1, none⟩ (.slice ag qg cg)) ⟨pg, 2, none⟩ (.bool false)) ⟨pg, 3, none⟩ (.slice bg kg dg)) = xe at *
            refine hK.out _ _ ?_ (fun hHeld2 => ?_)
            · exact ⟨s0, s1⟩
            clear hK K hHeld
            have hHeld := hHeld2
            clear hHeld2
            (try simp only [Act.put, List.getElem_toArray, List.getElem_cons_succ, List.getElem_cons_zero, List.setIfInBounds_toArray, List.set_cons_zero, List.set_cons_succ])
            refine wpAnyH_take (i := 8) (oi := _) (v := ?_) rfl (by kernel_rfl) (by kernel_rfl) (by kernel_rfl) (fun _ _ _ h => h) (Or.inl ⟨by rfl, ?_⟩) (by assumption) ?_
            rotate_left
            · (intro w hSw; (try dsimp only at hSw); (try go_simp); (try with_reducible rfl))
            (try simp only [Act.put, List.getElem_toArray, List.getElem_cons_succ, List.getElem_cons_zero, List.setIfInBounds_toArray, List.set_cons_zero, List.set_cons_succ])
            refine wpAnyH_done (by kernel_rfl) ?_ _
            (go_wp2_with fail; go_meet; exact ⟨_, ng, ag, qg, cg, bg, kg, dg, rfl, rfl, Kg.out, Vg.out, hE⟩)
          exact AllReadyH.nil
        exact AllReadyH.nil
      refine AllReadyH.cons (o := _) rfl (fun K hK => ?_) ?_
      · go_simp
        have hy : Ext x25 (World.alloc x25 (.cells #[.bool false, .slice none 0 0, .bool false, .slice none 0 0] 26)) := Ext.alloc _ _; have lxg : w.heap.size < Array.size (World.heap x25) := Kx.out.lt; have lng : pn < Array.size (World.heap x25) := Kn.out.lt; have lmg : pm < Array.size (World.heap x25) := Km.out.lt; have lfg : pf < Array.size (World.heap x25) := Kf.out.lt; have hpg : w.heap.size ≤ Array.size (World.heap x25) := hx.size; have hqg := hE.size; replace hE := hE.trans hy; replace hx := hx.trans hy; have mg0 := lt_of_cell s0; replace s0 := cell_exQ hy s0; have mg1 := lt_of_cell s1; replace s1 := cell_exQ hy s1; replace Kx := kE Kx hy; replace Kn := kE Kn hy; replace Km := kE Km hy; replace Kf := kE Kf hy; replace Vx := Lib.hid (Vx.out.ext hy); replace Vn := Lib.hid (Vn.out.ext hy); replace Vm := Lib.hid (Vm.out.ext hy); replace Vf := Lib.hid (Vf.out.ext hy); replace V1 := Lib.hid (V1.out.ext hy); have Kg := Lib.hid (Blk.new0 x25 #[.bool false, .slice none 0 0, .bool false, .slice none 0 0] 26); clear hy; generalize World.alloc x25 (.cells #[.bool false, .slice none 0 0, .bool false, .slice none 0 0] 26) = x28 at *; generalize Array.size (World.heap x25) = pg at *
        refine hK.out _ _ ?_ (fun hHeld2 => ?_)
        · exact ⟨s0, s1⟩
        clear hK K hHeld
        have hHeld := hHeld2
        clear hHeld2
        (try simp only [Act.put, List.getElem_toArray, List.getElem_cons_succ, List.getElem_cons_zero, List.setIfInBounds_toArray, List.set_cons_zero, List.set_cons_succ])
        refine wpAnyH_ready (rs := [2]) (by kernel_rfl) (by simp) ?_
        refine AllReadyH.cons (o := _) rfl (fun K hK => ?_) ?_
        · go_simp
          (with_reducible refine (ratio_of_val Vm.out V1.out LS.out L1.out (by decide)).mono ?_); rintro e x29 ⟨v2, rfl, hv, hy⟩; replace hE := hE.trans hy; replace hx := hx.trans hy; replace s0 := cell_exQ hy s0; replace s1 := cell_exQ hy s1; replace Kx := kE Kx hy; replace Kn := kE Kn hy; replace Km := kE Km hy; replace Kf := kE Kf hy; replace Kg := kE Kg hy; replace Vx := Lib.hid (Vx.out.ext hy); replace Vn := Lib.hid (Vn.out.ext hy); replace Vm := Lib.hid (Vm.out.ext hy); replace Vf := Lib.hid (Vf.out.ext hy); replace V1 := Lib.hid (V1.out.ext hy); clear hy; obtain ⟨ng, ag, qg, cg, bg, kg, dg, rfl, hv', hf', hg'⟩ := hv; have Vg := Lib.hid hv'; clear hv' hf' hg'
          refine hK.out _ _ ?_ (fun hHeld2 => ?_)
          · exact ⟨s0, s1⟩
          clear hK K hHeld
          have hHeld := hHeld2
          clear hHeld2
          (try simp only [Act.put, List.getElem_toArray, List.getElem_cons_succ, List.getElem_cons_zero, List.setIfInBounds_toArray, List.set_cons_zero, List.set_cons_succ])
          refine wpAnyH_take (i := 3) (oi := _) (v := ?_) rfl (by kernel_rfl) (by kernel_rfl) (by kernel_rfl) (fun _ _ _ h => h) (Or.inl ⟨by rfl, ?_⟩) (by assumption) ?_
          rotate_left
          · (intro w hSw; (try dsimp only at hSw); (try go_simp); (try with_reducible rfl))
          (try simp only [Act.put, List.getElem_toArray, List.getElem_cons_succ, List.getElem_cons_zero, List.setIfInBounds_toArray, List.set_cons_zero, List.set_cons_succ])
          refine wpAnyH_take (i := 4) (oi := _) (v := ?_) rfl (by kernel_rfl) (by kernel_rfl) (by kernel_rfl) (fun _ _ _ h => h) (Or.inl ⟨by rfl, ?_⟩) (by assumption) ?_
          rotate_left
          · (intro w hSw; (try dsimp only at hSw); (try go_simp); (try with_reducible rfl))
          (try simp only [Act.put, List.getElem_toArray, List.getElem_cons_succ, List.getElem_cons_zero, List.setIfInBounds_toArray, List.set_cons_zero, List.set_cons_succ])
          refine wpAnyH_take (i := 5) (oi := _) (v := ?_) rfl (by kernel_rfl) (by kernel_rfl) (by kernel_rfl) (fun _ _ _ h => h) (Or.inl ⟨by rfl, ?_⟩) (by assumption) ?_
          rotate_left
          · (intro w hSw; (try dsimp only at hSw); (try go_simp); (try with_reducible rfl))
          (try simp only [Act.put, List.getElem_toArray, List.getElem_cons_succ, List.getElem_cons_zero, List.setIfInBounds_toArray, List.set_cons_zero, List.set_cons_succ])
          refine wpAnyH_ready (rs := [7]) (by kernel_rfl) (by simp) ?_
          refine AllReadyH.cons (o := _) rfl (fun K hK => ?_) ?_
          · obtain ⟨g0, z0, g1, z1, g2, z2, g3, z3⟩ := bp4 Kg (.bool ng) (.slice ag qg cg) (.bool false) (.slice bg kg dg); go_simp; clear g0 z0 g1 z1 g2 z2 g3 z3; replace Vx := (by first | exact rv4 Vx Kg (.bool ng) (.slice ag qg cg) (.bool false) (.slice bg kg dg) rfl rfl rfl rfl | exact bv4 Vx Kg (.bool ng) (.slice ag qg cg) (.bool false) (.slice bg kg dg) rfl rfl rfl rfl); replace Vn := (by first | exact rv4 Vn Kg (.bool ng) (.slice ag qg cg) (.bool false) (.slice bg kg dg) rfl rfl rfl rfl | exact bv4 Vn Kg (.bool ng) (.slice ag qg cg) (.bool false) (.slice bg kg dg) rfl rfl rfl rfl); replace Vm := (by first | exact rv4 Vm Kg (.bool ng) (.slice ag qg cg) (.bool false) (.slice bg kg dg) rfl rfl rfl rfl | exact bv4 Vm Kg (.bool ng) (.slice ag qg cg) (.bool false) (.slice bg kg dg) rfl rfl rfl rfl); replace Vf := (by first | exact rv4 Vf Kg (.bool ng) (.slice ag qg cg) (.bool false) (.slice bg kg dg) rfl rfl rfl rfl | exact bv4 Vf Kg (.bool ng) (.slice ag qg cg) (.bool false) (.slice bg kg dg) rfl rfl rfl rfl); replace V1 := (by first | exact rv4 V1 Kg (.bool ng) (.slice ag qg cg) (.bool false) (.slice bg kg dg) rfl rfl rfl rfl | exact bv4 V1 Kg (.bool ng) (.slice ag qg cg) (.bool false) (.slice bg kg dg) rfl rfl rfl rfl); replace Vg := (by first | exact rv4 Vg Kg (.bool ng) (.slice ag qg cg) (.bool false) (.slice bg kg dg) rfl rfl rfl rfl | exact bv4 Vg Kg (.bool ng) (.slice ag qg cg) (.bool false) (.slice bg kg dg) rfl rfl rfl rfl); replace hx := bx4 hx (pg) (.bool ng) (.slice ag qg cg) (.bool false) (.slice bg kg dg) (by omega); replace hE := bx4 hE (pg) (.bool ng) (.slice ag qg cg) (.bool false) (.slice bg kg dg) (by omega); replace s0 := bf4 s0 (pg) (.bool ng) (.slice ag qg cg) (.bool false) (.slice bg kg dg) (by omega); replace s1 := bf4 s1 (pg) (.bool ng) (.slice ag qg cg) (.bool false) (.slice bg kg dg) (by omega); replace Kx := bo4 Kx (pg) (.bool ng) (.slice ag qg cg) (.bool false) (.slice bg kg dg) (by omega); replace Kn := bo4 Kn (pg) (.bool ng) (.slice ag qg cg) (.bool false) (.slice bg kg dg) (by omega); replace Km := bo4 Km (pg) (.bool ng) (.slice ag qg cg) (.bool false) (.slice bg kg dg) (by omega); replace Kf := bo4 Kf (pg) (.bool ng) (.slice ag qg cg) (.bool false) (.slice bg kg dg) (by omega); replace Kg := bs4 Kg (.bool ng) (.slice ag qg cg) (.bool false) (.slice bg kg dg); generalize (World.setCell (World.setCell (World.setCell (World.setCell x29 ⟨pg, 0, none⟩ (.bool ng)) ⟨pg, 1, none⟩ (.slice ag qg cg)) ⟨pg, 2, none⟩ (.bool false)) ⟨pg, 3, none⟩ (.slice bg kg dg)) = xe at *
            refine hK.out _ _ ?_ (fun hHeld2 => ?_)
            · exact ⟨s0, s1⟩
            clear hK K hHeld
            have hHeld := hHeld2
            clear hHeld2
            (try simp only [Act.put, List.getElem_toArray, List.getElem_cons_succ, List.getElem_cons_zero, List.setIfInBounds_toArray, List.set_cons_zero, List.set_cons_succ])
            refine wpAnyH_take (i := 8) (oi := _) (v := ?_) rfl (by kernel_rfl) (by kernel_rfl) (by kernel_rfl) (fun _ _ _ h => h) (Or.inl ⟨by rfl, ?_⟩) (by assumption) ?_
            rotate_left
            · (intro w hSw; (try dsimp only at hSw); (try go_simp); (try with_reducible rfl))
            (try simp only [Act.put, List.getElem_toArray, List.getElem_cons_succ, List.getElem_cons_zero, List.setIfInBounds_toArray, List.set_cons_zero, List.set_cons_succ])
            refine wpAnyH_done (by kernel_rfl) ?_ _
            (go_wp2_with fail; go_meet; exact ⟨_, ng, ag, qg, cg, bg, kg, dg, rfl, rfl, Kg.out, Vg.out, hE⟩)
          exact AllReadyH.nil
        exact AllReadyH.nil
      exact AllReadyH.nil
    refine AllReadyH.cons (o := _) rfl (fun K hK => ?_) ?_
    · go_simp
      have hy : Ext x24 (World.alloc x24 (.cells #[.bool false, .slice none 0 0, .bool false, .slice none 0 0] 26)) := Ext.alloc _ _; have lxg : w.heap.size < Array.size (World.heap x24) := Kx.out.lt; have lng : pn < Array.size (World.heap x24) := Kn.out.lt; have lmg : pm < Array.size (World.heap x24) := Km.out.lt; have lfg : pf < Array.size (World.heap x24) := Kf.out.lt; have hpg : w.heap.size ≤ Array.size (World.heap x24) := hx.size; have hqg := hE.size; replace hE := hE.trans hy; replace hx := hx.trans hy; have mg0 := lt_of_cell s0; replace s0 := cell_exQ hy s0; have mg1 := lt_of_cell s1; replace s1 := cell_exQ hy s1; replace Kx := kE Kx hy; replace Kn := kE Kn hy; replace Km := kE Km hy; replace Kf := kE Kf hy; replace Vx := Lib.hid (Vx.out.ext hy); replace Vn := Lib.hid (Vn.out.ext hy); replace Vm := Lib.hid (Vm.out.ext hy); replace Vf := Lib.hid (Vf.out.ext hy); have Kg := Lib.hid (Blk.new0 x24 #[.bool false, .slice none 0 0, .bool false, .slice none 0 0] 26); clear hy; generalize World.alloc x24 (.cells #[.bool false, .slice none 0 0, .bool false, .slice none 0 0] 26) = x30 at *; generalize Array.size (World.heap x24) = pg at *
      refine hK.out _ _ ?_ (fun hHeld2 => ?_)
      · exact ⟨s0, s1⟩
      clear hK K hHeld
      have hHeld := hHeld2
      clear hHeld2
      (try simp only [Act.put, List.getElem_toArray, List.getElem_cons_succ, List.getElem_cons_zero, List.setIfInBounds_toArray, List.set_cons_zero, List.set_cons_succ])
      refine wpAnyH_ready (rs := [1]) (by kernel_rfl) (by simp) ?_
      refine AllReadyH.cons (o := _) rfl (fun K hK => ?_) ?_
      · go_simp
        (with_reducible refine (law_big 1 _ (by decide)).mono ?_); rintro e x31 ⟨v1, rfl, hv, hy⟩; replace hE := hE.trans hy; replace hx := hx.trans hy; replace s0 := cell_exQ hy s0; replace s1 := cell_exQ hy s1; replace Kx := kE Kx hy; replace Kn := kE Kn hy; replace Km := kE Km hy; replace Kf := kE Kf hy; replace Kg := kE Kg hy; replace Vx := Lib.hid (Vx.out.ext hy); replace Vn := Lib.hid (Vn.out.ext hy); replace Vm := Lib.hid (Vm.out.ext hy); replace Vf := Lib.hid (Vf.out.ext hy); clear hy; have V1 := Lib.hid hv; clear hv
        refine hK.out _ _ ?_ (fun hHeld2 => ?_)
        · exact ⟨s0, s1⟩
        clear hK K hHeld
        have hHeld := hHeld2
        clear hHeld2
        (try simp only [Act.put, List.getElem_toArray, List.getElem_cons_succ, List.getElem_cons_zero, List.setIfInBounds_toArray, List.set_cons_zero, List.set_cons_succ])
        refine wpAnyH_ready (rs := [2]) (by kernel_rfl) (by simp) ?_
        refine AllReadyH.cons (o := _) rfl (fun K hK => ?_) ?_
        · go_simp
          (with_reducible refine (ratio_of_val Vm.out V1.out LS.out L1.out (by decide)).mono ?_); rintro e x32 ⟨v2, rfl, hv, hy⟩; replace hE := hE.trans hy; replace hx := hx.trans hy; replace s0 := cell_exQ hy s0; replace s1 := cell_exQ hy s1; replace Kx := kE Kx hy; replace Kn := kE Kn hy; replace Km := kE Km hy; replace Kf := kE Kf hy; replace Kg := kE Kg hy; replace Vx := Lib.hid (Vx.out.ext hy); replace Vn := Lib.hid (Vn.out.ext hy); replace Vm := Lib.hid (Vm.out.ext hy); replace Vf := Lib.hid (Vf.out.ext hy); replace V1 := Lib.hid (V1.out.ext hy); clear hy; obtain ⟨ng, ag, qg, cg, bg, kg, dg, rfl, hv', hf', hg'⟩ := hv; have Vg := Lib.hid hv'; clear hv' hf' hg'
          refine hK.out _ _ ?_ (fun hHeld2 => ?_)
          · exact ⟨s0, s1⟩
          clear hK K hHeld
          have hHeld := hHeld2
          clear hHeld2
          (try simp only [Act.put, List.getElem_toArray, List.getElem_cons_succ, List.getElem_cons_zero, List.setIfInBounds_toArray, List.set_cons_zero, List.set_cons_succ])
          refine wpAnyH_take (i := 3) (oi := _) (v := ?_) rfl (by kernel_rfl) (by kernel_rfl) (by kernel_rfl) (fun _ _ _ h => h) (Or.inl ⟨by rfl, ?_⟩) (by assumption) ?_
          rotate_left
          · (intro w hSw; (try dsimp only at hSw); (try go_simp); (try with_reducible rfl))
          (try simp only [Act.put, List.getElem_toArray, List.getElem_cons_succ, List.getElem_cons_zero, List.setIfInBounds_toArray, List.set_cons_zero, List.set_cons_succ])
          refine wpAnyH_take (i := 4) (oi := _) (v := ?_) rfl (by kernel_rfl) (by kernel_rfl) (by kernel_rfl) (fun _ _ _ h => h) (Or.inl ⟨by rfl, ?_⟩) (by assumption) ?_
          rotate_left
          · (intro w hSw; (try dsimp only at hSw); (try go_simp); (try with_reducible rfl))
          (try simp only [Act.put, List.getElem_toArray, List.getElem_cons_succ, List.getElem_cons_zero, List.setIfInBounds_toArray, List.set_cons_zero, List.set_cons_succ])
          refine wpAnyH_take (i := 5) (oi := _) (v := ?_) rfl (by kernel_rfl) (by kernel_rfl) (by kernel_rfl) (fun _ _ _ h => h) (Or.inl ⟨by rfl, ?_⟩) (by assumption) ?_
          rotate_left
          · (intro w hSw; (try dsimp only at hSw); (try go_simp); (try with_reducible rfl))
          (try simp only [Act.put, List.getElem_toArray, List.getElem_cons_succ, List.getElem_cons_zero, List.setIfInBounds_toArray, List.set_cons_zero, List.set_cons_succ])
          refine wpAnyH_ready (rs := [7]) (by kernel_rfl) (by simp) ?_
          refine AllReadyH.cons (o := _) rfl (fun K hK => ?_) ?_
          · obtain ⟨g0, z0, g1, z1, g2, z2, g3, z3⟩ := bp4 Kg (.bool ng) (.slice ag qg cg) (.bool false) (.slice bg kg dg); go_simp; clear g0 z0 g1 z1 g2 z2 g3 z3; replace Vx := (by first | exact rv4 Vx Kg (.bool ng) (.slice ag qg cg) (.bool false) (.slice bg kg dg) rfl rfl rfl rfl | exact bv4 Vx Kg (.bool ng) (.slice ag qg cg) (.bool false) (.slice bg kg dg) rfl rfl rfl rfl); replace Vn := (by first | exact rv4 Vn Kg (.bool ng) (.slice ag qg cg) (.bool false) (.slice bg kg dg) rfl rfl rfl rfl | exact bv4 Vn Kg (.bool ng) (.slice ag qg cg) (.bool false) (.slice bg kg dg) rfl rfl rfl rfl); replace Vm := (by first | exact rv4 Vm Kg (.bool ng) (.slice ag qg cg) (.bool false) (.slice bg kg dg) rfl rfl rfl rfl | exact bv4 Vm Kg (.bool ng) (.slice ag qg cg) (.bool false) (.slice bg kg dg) rfl rfl rfl rfl); replace Vf := (by first | exact rv4 Vf Kg (.bool ng) (.slice ag qg cg) (.bool false) (.slice bg kg dg) rfl rfl rfl rfl | exact bv4 Vf Kg (.bool ng) (.slice ag qg cg) (.bool false) (.slice bg kg dg) rfl rfl rfl rfl); replace V1 := (by first | exact rv4 V1 Kg (.bool ng) (.slice ag qg cg) (.bool false) (.slice bg kg dg) rfl rfl rfl rfl | exact bv4 V1 Kg (.bool ng) (.slice ag qg cg) (.bool false) (.slice bg kg dg) rfl rfl rfl rfl); replace Vg := (by first | exact rv4 Vg Kg (.bool ng) (.slice ag qg cg) (.bool false) (.slice bg kg dg) rfl rfl rfl rfl | exact bv4 Vg Kg (.bool ng) (.slice ag qg cg) (.bool false) (.slice bg kg dg) rfl rfl rfl rfl); replace hx := bx4 hx (pg) (.bool ng) (.slice ag qg cg) (.bool false) (.slice bg kg dg) (by omega); replace hE := bx4 hE (pg) (.bool ng) (.slice ag qg cg) (.bool false) (.slice bg kg dg) (by omega); replace s0 := bf4 s0 (pg) (.bool ng) (.slice ag qg cg) (.bool false) (.slice bg kg dg) (by omega); replace s1 := bf4 s1 (pg) (.bool ng) (.slice ag qg cg) (.bool false) (.slice bg kg dg) (by omega); replace Kx := bo4 Kx (pg) (.bool ng) (.slice ag qg cg) (.bool false) (.slice bg kg dg) (by omega); replace Kn := bo4 Kn (pg) (.bool ng) (.slice ag qg cg) (.bool false) (.slice bg kg dg) (by omega); replace Km := bo4 Km (pg) (.bool ng) (.slice ag qg cg) (.bool false) (.slice bg kg dg) (by omega); replace Kf := bo4 Kf (pg) (.bool ng) (.slice ag qg cg) (.bool false) (.slice bg kg dg) (by omega); replace Kg := bs4 Kg (.bool ng) (.slice ag qg cg) (.bool false) (.slice bg kg dg); generalize (World.setCell (World.setCell (World.setCell (World.setCell x32 ⟨pg, 0, none⟩ (.bool ng)) ⟨pg, 1, none⟩ (.slice ag qg cg)) ⟨pg, 2, none⟩ (.bool false)) ⟨pg, 3, none⟩ (.slice bg kg dg)) = xe at *
            refine hK.out _ _ ?_ (fun hHeld2 => ?_)
            · exact ⟨s0, s1⟩
            clear hK K hHeld
            have hHeld := hHeld2
            clear hHeld2
            (try simp only [Act.put, List.getElem_toArray, List.getElem_cons_succ, List.getElem_cons_zero, List.setIfInBounds_toArray, List.set_cons_zero, List.set_cons_succ])
            refine wpAnyH_take (i := 8) (oi := _) (v := ?_) rfl (by kernel_rfl) (by kernel_rfl) (by kernel_rfl) (fun _ _ _ h => h) (Or.inl ⟨by rfl, ?_⟩) (by assumption) ?_
            rotate_left
            · (intro w hSw; (try dsimp only at hSw); (try go_simp); (try with_reducible rfl))
            (try simp only [Act.put, List.getElem_toArray, List.getElem_cons_succ, List.getElem_cons_zero, List.setIfInBounds_toArray, List.set_cons_zero, List.set_cons_succ])
            refine wpAnyH_done (by kernel_rfl) ?_ _
            (go_wp2_with fail; go_meet; exact ⟨_, ng, ag, qg, cg, bg, kg, dg, rfl, rfl, Kg.out, Vg.out, hE⟩)
          exact AllReadyH.nil
        exact AllReadyH.nil
      exact AllReadyH.nil
    exact AllReadyH.nil
  case rest =>
  obtain ⟨pg, ng, ag, qg, cg, bg, kg, dg, rfl, rfl, hB, hv, hy⟩ := hcut
  replace hx := hx.trans hy
  replace Kx := kE Kx hy
  replace Kn := kE Kn hy
  replace Km := kE Km hy
  replace Kf := kE Kf hy
  replace Vx := Lib.hid (Vx.out.ext hy)
  replace Vn := Lib.hid (Vn.out.ext hy)
  replace Vm := Lib.hid (Vm.out.ext hy)
  replace Vf := Lib.hid (Vf.out.ext hy)
  have Kg := Lib.hid hB
  have Vg := Lib.hid hv
  clear hB hv hy
  go_upto_region 9 with fail
  obtain ⟨cf0, cf1, cf2, cf3⟩ := bk4 Kf
  obtain ⟨cx0, cx1, cx2, cx3⟩ := bk4 Kx
  go_wp2_with fail
  with_reducible refine (ratio_Cmp Vf.out Vx.out SF.out SX.out (by omega)).mono ?_
  clear cf0 cf1 cf2 cf3 cx0 cx1 cx2 cx3
  rintro e x33 ⟨rfl, hy⟩
  replace hx := hx.trans hy
  replace Kx := kE Kx hy
  replace Kn := kE Kn hy
  replace Km := kE Km hy
  replace Kf := kE Kf hy
  replace Kg := kE Kg hy
  replace Vx := Lib.hid (Vx.out.ext hy)
  replace Vn := Lib.hid (Vn.out.ext hy)
  replace Vm := Lib.hid (Vm.out.ext hy)
  replace Vf := Lib.hid (Vf.out.ext hy)
  replace Vg := Lib.hid (Vg.out.ext hy)
  clear hy
  obtain ⟨cg0, cg1, cg2, cg3⟩ := bk4 Kg
  obtain ⟨cx0, cx1, cx2, cx3⟩ := bk4 Kx
  go_wp2_with fail
  with_reducible refine (ratio_Cmp Vx.out Vg.out SX.out SG.out (by omega)).mono ?_
  clear cg0 cg1 cg2 cg3 cx0 cx1 cx2 cx3
  rintro e x34 ⟨rfl, hy⟩
  replace hx := hx.trans hy
  replace Kx := kE Kx hy
  replace Kn := kE Kn hy
  replace Km := kE Km hy
  replace Kf := kE Kf hy
  replace Kg := kE Kg hy
  replace Vx := Lib.hid (Vx.out.ext hy)
  replace Vn := Lib.hid (Vn.out.ext hy)
  replace Vm := Lib.hid (Vm.out.ext hy)
  replace Vf := Lib.hid (Vf.out.ext hy)
  replace Vg := Lib.hid (Vg.out.ext hy)
  clear hy
  rw [LF.out]
  go_wp2_with fail
  go_ret
  exact ⟨rfl, hx⟩
theorem law_Floor (x : RatA) (w : World) (hx1 : RatI w x) : Calls Tryz.prog 5 #[x.val] w fun e w' => e = .returned (.bool true) ∧ Ext w w' := by
  cases f0 : fewL x
  · exact law_Floor_no x w hx1 f0
  · exact law_Floor_ok x w hx1 f0
end Go.Proofs.YtnpeakahiedeoaaGreatDoor

namespace Go.Proofs.YtnpeakahiedeoaaGreatDoor
open Go.ChangeShapes Go.WideShapes Go.ChangeAt Go.RowKit
set_option linter.unusedVariables false
set_option maxRecDepth 100000

theorem ownRatioFloor : ownKnob Tryz.prog.godebug = none := by kernel_rfl
theorem laidOutRatioFloor : laidOutB Tryz.prog = true := by kernel_rfl

theorem liftedRatioFloor (os : Os) (started : os.Started) (H : Type) (enc : TypeId × Value → H) :
    ReturnsInHanded {} Tryz.checked os 5 .any (fun w args => (Rows.ratioFloorSpec.pre enc Tryz.prog Tryz.f5 [] false w args ∧ laidMetH Tryz.prog Rows.ratioFloorRow.laid w) ∧ sizedMet enc Tryz.prog Tryz.f5 (OpenSpec.ofChange Rows.ratioFloorSpec) false w args)
      (Rows.ratioFloorSpec.post enc Tryz.prog Tryz.f5 false true false false) := by
  refine returnsInHanded_of_change_and (C := Tryz.checked) (X := fun w _ => laidMetH Tryz.prog Rows.ratioFloorRow.laid w) (fun _ _ _ hh h => h.of_heap hh) ownRatioFloor started (by kernel_rfl) Tryz.func5
    (ChangeSpec.witness_shaped (enc := enc) (C := Tryz.checked) (os := os) (X := fun w _ => laidMetH Tryz.prog Rows.ratioFloorRow.laid w) false (World.laidAll Tryz.prog os Rows.ratioFloorRow.laid) #[.agg #[.bool false, .slice none 0 0, .bool false, .slice none 0 0]] 8 (World.laidAll_os _ _ _)
      (World.shaped_of_ZipB (by kernel_rfl) (by kernel_rfl)) (by kernel_rfl) (by kernel_rfl) (by kernel_rfl)
      (by rw [MakeChecks.laidMetH_plain _ _ _ (by kernel_rfl)]; exact laidMet_laidAll _ (by kernel_rfl) (by kernel_rfl))) ?_
  intro W base args ds gs before hval0 hW _ _ hL _
  have hval : ∀ (j : Nat) t v, Tryz.f5.params[j]? = some t → args[j]? = some v → Value.okWide Tryz.prog W .any base t v := hval0
  have hW' := hW
  obtain ⟨p, q, hA0, hV, rfl, hfz, hnd⟩ := hW
  have hA : DataW.TrodAll enc Tryz.prog W 0 (fun _ => true) true Tryz.f5.params.toList args.toList ds p := hA0
  rw [Tryz.params5] at hA hval
  obtain ⟨v0, vs0, d0, ds0, p0, q0, hargs, rfl, rfl, h0, r0⟩ := trodAll_cons hA
  obtain ⟨rfl, rfl, rfl⟩ := trodAll_nil r0
  obtain rfl : args = #[v0] := by cases args; simp_all
  obtain ⟨rfl, rfl⟩ := trodVars_none hV
  have k0 := h0
  have lt0 : ∀ x ∈ p0, x.block < W.heap.size := by obtain ⟨m, hm⟩ := k0; exact DataW.trod_lt m _ _ _ hm
  obtain ⟨x0, rfl, w0⟩ := open_rat (hval 0 26 v0 rfl rfl) h0
  clear hA0 hval0 hL
  refine (law_Floor x0 W w0).mono fun e W' ⟨he, bel⟩ => ?_
  subst he
  exact ⟨_, rfl, _, _, _, [], _, [], hW', trodAll_mk1 (shut_bool Tryz.underlying4 _), (trodAll_cons_mk (Below.trod laidOutRatioFloor (by kernel_rfl) (of_decide_eq_true (by kernel_rfl)) k0 bel lt0) trodAll_mk0), rfl, bel.frame _, fun h => by cases h⟩

theorem ratioFloor_row : Rows.RatioFloorSaid :=
  OpenClaim.holds_of_wide 5 Tryz.f5 rfl rfl rfl rfl rfl rfl rfl ⟨rfl, rfl, rfl, rfl, rfl⟩ rfl rfl rfl rfl rfl (by kernel_rfl) Tryz.func5 (by kernel_rfl)
    (of_decide_eq_true (by kernel_rfl)) (by unfold Func.isWrapper; rw [if_neg (of_decide_eq_false (by kernel_rfl))]; exact ⟨rfl, rfl⟩)
    (fun os started H enc _ => liftedRatioFloor os started H enc)
theorem ratioFloor_holds : Rows.RatioFloorCardSaid :=
  Claim7.holds_tied_plain_at .later [] [.data, .pinned] true (true, "c9699e65e6934fe35cd3ec2aff4e45b52a3c715e77c50a88570d36f2513a0942") true ratioFloor_row (fun _ h => by cases h) (by kernel_rfl) (fun _ h => by cases h) ratioFloor_row_tie rfl ⟨rfl, rfl⟩ (by kernel_rfl) rfl
    (fun f fn hf hfn => by
      obtain rfl : f = 5 := Option.some.inj ((show Tryz.prog.funcNamed "podium/podiumlaw10.RatioFloor" = some 5 by kernel_rfl).symm.trans hf) |>.symm
      obtain rfl : fn = Tryz.f5 := (Option.some.inj (Tryz.func5.symm.trans hfn)).symm
      exact ⟨by kernel_rfl, fun j t ht => by
        rw [Tryz.params5] at ht
        have hm : t ∈ [26] := by simpa using Array.mem_of_getElem? ht
        have hall : ([26].all fun u => !Tryz.prog.wantsStandIn u) = true := by kernel_rfl
        exact (show Tryz.prog.wantsStandIn t = false by simpa using List.all_eq_true.1 hall t hm)⟩)
    (by kernel_rfl)

#print axioms ratioFloor_holds
end Go.Proofs.YtnpeakahiedeoaaGreatDoor

