/- RatioBack: the Go law returns true at every input, and its arguments read as before; the tied card. -/
import Derived.Test.YtnpeakahiedeoaaGreatDoorBase
import Derived.ProofKit
import Derived.OpenShut
import Derived.Deep.Slices
import Derived.Lib.SmallJoins
import Derived.ChangeMaps5
import Derived.Test.YtnpeakahiedeoaaGreatDoorQL0
import Derived.KernelRfl
import Derived.Test.YtnpeakahiedeoaaGreatDoorQSane
import Derived.Test.YtnpeakahiedeoaaGreatDoorQM3
import Derived.Test.YtnpeakahiedeoaaGreatDoorRows
import Derived.Test.YtnpeakahiedeoaaGreatDoorCards
import Derived.Test.YtnpeakahiedeoaaGreatDoorTie
import Derived.LaidMore
import Derived.Lay
import Derived.SevenTiedAt
import Derived.Stop.Joined
import Derived.ShutString
import Derived.ChangeOld
import Derived.Below
namespace Go.Proofs.YtnpeakahiedeoaaGreatDoor
open Go.RowKit Go Go.Deep Go.WideShapes Go.ChangeShapes
set_option maxRecDepth 100000

section
variable {H : Type} {enc : TypeId × Value → H} {P : Program} {w : World} {base : Nat} {held : Bool}

/-- A slice that came in reads as a list, its elements by whatever reading each has. -/
theorem slOf_of_trod {α : Type} [Inhabited α] {R : World → Value → α → Prop} {t e : TypeId} {fuel : Nat} {v : Value} {x : DataW H × List MemPlace} (ht : P.underlying t = some (.slice e)) (hc : P.cellsOf e = 1)
    (hR : ∀ n u y, DataW.trod enc P w base (fun _ => true) held n e [u] = some y → ∃ z, R w u z) (h : DataW.trod enc P w base (fun _ => true) held fuel t [v] = some x) :
    ∃ a l cap, v = .slice a (List.length l) cap ∧ SlOf R w a cap l := by
  rcases open_slice1 ht hc h with ⟨hcs, _⟩ | ⟨a, len, cap, m, n, V, D, Pl, hcs, hb, hl, hm, hmm, _, hx⟩
  · simp only [List.cons.injEq, and_true] at hcs
    subst hcs
    exact ⟨none, [], 0, rfl, ⟨Nat.le_refl _, by omega, fun _ => rfl, fun A hA => by cases hA⟩⟩
  · simp only [List.cons.injEq, and_true] at hcs
    subst hcs
    simp only [if_true] at hmm
    obtain ⟨f, hf⟩ := choose_lt (α := α) (n := m) (p := fun i z => R w (V i) z) (fun i hi => hR n (V i) _ (hx i hi).2)
    refine ⟨some a, (List.range len).map f, cap, by simp, ⟨by simpa using hl, by unfold maxLen at hm; omega, fun h => by (cases h), fun A hA i hi => ?_⟩⟩
    cases hA
    simp only [List.length_map, List.length_range] at hi
    have hc0 := (hx i (by omega)).1
    have hs : a.spot = none := by
      have := World.cell?_spot (hx 0 (by omega)).1
      unfold Addr.add at this
      simpa using this
    refine ⟨hs, V i, ?_, by simpa using hf i (by omega)⟩
    obtain ⟨b, o, s⟩ := a
    simp only at hs
    subst hs
    rw [← hc0]
    congr 1
    unfold Addr.add
    split <;> simp_all

theorem isInt_of_trod {t : TypeId} (ht : P.underlying t = some (.int .i64)) (n : Nat) (u : Value) (y : DataW H × List MemPlace) (h : DataW.trod enc P w base (fun _ => true) held n t [u] = some y) : ∃ z, IsInt w u z := by
  obtain ⟨x, h1, _, hw⟩ := DataW.trod_int ht h
  simp only [List.cons.injEq, and_true] at h1
  refine ⟨x, h1, ?_⟩
  have := bounds_i64 hw
  exact ⟨this.1, this.2⟩
theorem isBool_of_trod {t : TypeId} (ht : P.underlying t = some .bool) (n : Nat) (u : Value) (y : DataW H × List MemPlace) (h : DataW.trod enc P w base (fun _ => true) held n t [u] = some y) : ∃ z, IsBool w u z := by
  obtain ⟨b, h1, _⟩ := DataW.trod_bool ht h
  simp only [List.cons.injEq, and_true] at h1
  exact ⟨b, h1⟩
theorem isInts_of_trod {t e : TypeId} (ht : P.underlying t = some (.slice e)) (he : P.underlying e = some (.int .i64)) (hc : P.cellsOf e = 1) (n : Nat) (u : Value) (y : DataW H × List MemPlace)
    (h : DataW.trod enc P w base (fun _ => true) held n t [u] = some y) : ∃ z, IsInts w u z := by
  obtain ⟨a, l, cap, h1, h2⟩ := slOf_of_trod (R := IsInt) ht hc (fun n u y h => isInt_of_trod he n u y h) h
  exact ⟨l, a, cap, h1, h2⟩
theorem isBools_of_trod {t e : TypeId} (ht : P.underlying t = some (.slice e)) (he : P.underlying e = some .bool) (hc : P.cellsOf e = 1) (n : Nat) (u : Value) (y : DataW H × List MemPlace)
    (h : DataW.trod enc P w base (fun _ => true) held n t [u] = some y) : ∃ z, IsBools w u z := by
  obtain ⟨a, l, cap, h1, h2⟩ := slOf_of_trod (R := IsBool) ht hc (fun n u y h => isBool_of_trod he n u y h) h
  exact ⟨l, a, cap, h1, h2⟩

open Go.Joins
theorem open_big {v : Value} {d : DataW H} {p : List MemPlace} {r : Reach} {b0 : Nat} (hv : Value.okWide Tryz.prog w r b0 24 v) (h : DataW.Trod enc Tryz.prog w base (fun _ => true) held 24 v d p) :
    ∃ (neg : Bool) (a : Option Addr) (cap : Nat) (l : List Int), v = .agg #[.bool neg, .slice a l.length cap] ∧ Ints w a cap l := by
  obtain ⟨v0, v1, y0, y1, n, rfl, _, _, h0, h1⟩ := open_agg2 Tryz.underlying24 (by kernel_rfl) (by kernel_rfl) hv h
  obtain ⟨neg, rfl⟩ := isBool_of_trod (w := w) Tryz.underlying4 _ _ _ h0
  obtain ⟨a, l, cap, rfl, hl⟩ := slOf_of_trod (R := IsInt) Tryz.underlying22 (by kernel_rfl) (fun n u y h => isInt_of_trod Tryz.underlying3 n u y h) h1
  exact ⟨neg, a, cap, l, rfl, hl⟩
theorem open_str {v : Value} {d : DataW H} {p : List MemPlace} {r : Reach} {b0 : Nat} (hv : Value.okWide Tryz.prog w r b0 9 v) (h : DataW.Trod enc Tryz.prog w base (fun _ => true) held 9 v d p) :
    ∃ s : ByteArray, v = .string s ∧ s.size ≤ maxLen := by
  obtain ⟨s, rfl, _, _, hs⟩ := Go.ChangeMaps.open_string Tryz.underlying9 hv h
  exact ⟨s, rfl, hs⟩
theorem open_ints1 {v : Value} {d : DataW H} {p : List MemPlace} {r : Reach} {b0 : Nat} (hv : Value.okWide Tryz.prog w r b0 22 v) (h : DataW.Trod enc Tryz.prog w base (fun _ => true) held 22 v d p) :
    ∃ (a : Option Addr) (cap : Nat) (l : List Int), v = .slice a l.length cap ∧ Ints w a cap l := by
  obtain ⟨a0, n0, c0, rfl⟩ := okWide_slice Tryz.underlying22 hv
  obtain ⟨fuel, hf⟩ := h
  obtain ⟨a, l, cap, e, hl⟩ := slOf_of_trod (R := IsInt) Tryz.underlying22 (by kernel_rfl) (fun n u y h => isInt_of_trod Tryz.underlying3 n u y h) hf
  exact ⟨a, cap, l, e, hl⟩
theorem open_i64 {v : Value} {d : DataW H} {p : List MemPlace} {r : Reach} {b0 : Nat} (hv : Value.okWide Tryz.prog w r b0 3 v) (h : DataW.Trod enc Tryz.prog w base (fun _ => true) held 3 v d p) :
    ∃ n : Int, v = .int .i64 n ∧ -9223372036854775808 ≤ n ∧ n ≤ 9223372036854775807 := by
  obtain ⟨a, rfl, _, _, hw⟩ := open_int Tryz.underlying3 hv h
  exact ⟨a, rfl, bounds_i64 hw⟩
theorem open_u8 {v : Value} {d : DataW H} {p : List MemPlace} {r : Reach} {b0 : Nat} (hv : Value.okWide Tryz.prog w r b0 5 v) (h : DataW.Trod enc Tryz.prog w base (fun _ => true) held 5 v d p) :
    ∃ n : Int, v = .int .u8 n ∧ 0 ≤ n ∧ n ≤ 255 := by
  obtain ⟨a, rfl, _, _, hw⟩ := open_int Tryz.underlying5 hv h
  exact ⟨a, rfl, bounds_u8 hw⟩
end
end Go.Proofs.YtnpeakahiedeoaaGreatDoor

namespace Go.Proofs.YtnpeakahiedeoaaGreatDoor
open Go.RowKit Go Go.Deep Go.WideShapes Go.ChangeShapes
set_option maxRecDepth 100000
section
variable {H : Type} {enc : TypeId × Value → H} {w : World} {base : Nat}
open Go.Joins
theorem big_trod {n : Nat} {u v : Value} {y : DataW H × List MemPlace} (h : DataW.trod enc Tryz.prog w base (fun _ => true) true n 24 [u, v] = some y) : ∃ (neg : Bool) (a : Option Addr) (cap : Nat) (l : List Int), u = .bool neg ∧ v = .slice a l.length cap ∧ Ints w a cap l := by
  obtain ⟨y0, y1, k, hx, _, h0, h1⟩ := trod_struct2 Tryz.underlying24 h
  rw [show Tryz.prog.cellsOf 4 = 1 by kernel_rfl] at h0
  rw [show Tryz.prog.cellsOf 22 = 1 by kernel_rfl] at h1
  obtain ⟨neg, rfl⟩ := isBool_of_trod (w := w) Tryz.underlying4 _ _ _ h0
  obtain ⟨a, l, cap, rfl, hl⟩ := slOf_of_trod (R := IsInt) Tryz.underlying22 (by kernel_rfl) (fun n u y h => isInt_of_trod Tryz.underlying3 n u y h) h1
  exact ⟨neg, a, cap, l, rfl, rfl, hl⟩
theorem open_rat {v : Value} {d : DataW H} {p : List MemPlace} {r : Reach} {b0 : Nat} (hv : Value.okWide Tryz.prog w r b0 26 v) (h : DataW.Trod enc Tryz.prog w base (fun _ => true) true 26 v d p) :
    ∃ x : RatA, v = x.val ∧ RatI w x := by
  obtain ⟨cs, rfl, hsz⟩ := okWide_struct Tryz.underlying26 hv
  obtain ⟨c0, c1, c2, c3, rfl⟩ := array4 (hsz.trans (by kernel_rfl))
  obtain ⟨fuel, hf⟩ := h
  obtain ⟨y0, y1, n, hx, _, h0, h1⟩ := trod_struct2 Tryz.underlying26 hf
  rw [show Tryz.prog.cellsOf 24 = 2 by kernel_rfl] at h0 h1
  obtain ⟨n1, a, ca, l, rfl, rfl, hi⟩ := big_trod (u := c0) (v := c1) h0
  obtain ⟨n2, b, cb, m, rfl, rfl, hj⟩ := big_trod (u := c2) (v := c3) h1
  exact ⟨⟨n1, a, ca, l, n2, b, cb, m⟩, rfl, hi, hj⟩
end
end Go.Proofs.YtnpeakahiedeoaaGreatDoor

namespace Go.Proofs.YtnpeakahiedeoaaGreatDoor
open Go.RowKit Go BigFrame
set_option maxRecDepth 100000
set_option linter.unusedSimpArgs false
set_option linter.unusedVariables false

/-! law10.few. -/
def fewL (x : RatA) : Bool := decide (x.l.length ≤ 6) && (decide (x.m.length ≤ 6) && x.ok)
set_option maxHeartbeats 2000000 in
theorem law_few (g : Nat) (L : List RatA) (w : World) (h : RatRow w g L) (hl : L.length ≤ 100) (hb : ∀ x ∈ L, x.l.length ≤ 9223372036854775807 ∧ x.m.length ≤ 9223372036854775807) :
    Calls Tryz.prog 24 #[.slice (some ⟨g, 0, none⟩) L.length L.length] w fun e w' => e = .returned (.bool (L.all fewL)) ∧ Ext w w' := by
  have HH := Lib.hid h
  have HB := Lib.hid hb
  clear h hb
  go_enter Tryz.func24, Tryz.ntmps24
  go_wp2_with fail
  go_loopw [7] (fun i wr => ∃ k : Nat, k ≤ L.length ∧ i = .int .i64 k ∧ (L.take k).all fewL = true ∧ Ext w wr) (fun i _ => L.length - (intOf i).toNat)
  case atStart => exact ⟨0, Nat.zero_le _, rfl, rfl, Ext.refl _⟩
  case round =>
    obtain ⟨k, hk, rfl, hpre, hxr⟩ := hrel
    have HP := Lib.hid hpre
    clear hpre
    by_cases hkn : k < L.length
    · have e0 := HH.out.c0 k hkn
      have e1 := HH.out.c1 k hkn
      have e2 := HH.out.c2 k hkn
      have e3 := HH.out.c3 k hkn
      have hi := HH.out.i k hkn
      have hj := HH.out.j k hkn
      obtain ⟨b1, b2⟩ := HB.out L[k] (List.getElem_mem hkn)
      have htk := Lib.hid (take_getQ (List.getElem?_eq_getElem hkn))
      have hmem := Lib.hid (List.getElem_mem hkn)
      generalize L[k] = X at *
      obtain ⟨n, a, c, l, n2, b, d, m⟩ := X
      dsimp only at e0 e1 e2 e3 hi hj b1 b2
      have c0 := (hxr.cell (p := ⟨g, k * 4, none⟩) (lt_of_cell e0)).trans e0
      have c1 := (hxr.cell (p := ⟨g, k * 4 + 1, none⟩) (lt_of_cell e1)).trans e1
      have c2 := (hxr.cell (p := ⟨g, k * 4 + 2, none⟩) (lt_of_cell e2)).trans e2
      have c3 := (hxr.cell (p := ⟨g, k * 4 + 3, none⟩) (lt_of_cell e3)).trans e3
      have hxx := hxr.alloc' (.cells #[.bool n, .slice a l.length c, .bool n2, .slice b m.length d] 26)
      have HC := refR_Check n n2 a b c d l m _ (hi.ext hxx) (hj.ext hxx)
      have g1 : (0 : Int) ≤ (k : Int) := by omega
      have g2 : (k : Int) < (L.length : Int) := by omega
      clear e0 e1 e2 e3 hi hj
      by_cases f1 : l.length ≤ 6
      · have f1' : ¬ (6 < (l.length : Int)) := by omega
        by_cases f2 : m.length ≤ 6
        · have f2' : ¬ (6 < (m.length : Int)) := by omega
          cases hq : okR n l n2 m
          · rw [hq] at HC
            have HA := Lib.hid (List.all_eq_false.2 ⟨_, hmem.out, (by simp [fewL, RatA.ok, hq])⟩ : L.all fewL = false)
            clear hq
            have HC := Lib.hid (show Calls Tryz.prog 19 _ _ fun e w' => e = .returned (.int .i64 100) ∧ Ext _ w' from HC)
            go_wp2_with fail
            refine HC.out.mono ?_
            rintro e w3 ⟨rfl, hy⟩
            go_wp2_with fail
            go_ret
            exact ⟨by rw [HA.out]; rfl, hxx.trans hy⟩
          · rw [hq] at HC
            have HA := Lib.hid (by simp [fewL, RatA.ok, hq, f1, f2] : fewL ⟨n, a, c, l, n2, b, d, m⟩ = true)
            clear hq
            have HC := Lib.hid (show Calls Tryz.prog 19 _ _ fun e w' => e = .returned (.int .i64 0) ∧ Ext _ w' from HC)
            go_wp2_with fail
            refine HC.out.mono ?_
            rintro e w3 ⟨rfl, hy⟩
            go_wp2_with fail
            go_roundw
            case rel => exact ⟨k + 1, by omega, by go_num, by rw [htk.out, List.all_append, HP.out]; simp [HA.out], hxx.trans hy⟩
            case measure => simp [intOf]; omega
        · have f2' : 6 < (m.length : Int) := by omega
          have HA := Lib.hid (List.all_eq_false.2 ⟨_, hmem.out, (by simp [fewL, f2])⟩ : L.all fewL = false)
          clear HC
          go_wp2_with fail
          go_ret
          exact ⟨by rw [HA.out]; rfl, hxx⟩
      · have f1' : 6 < (l.length : Int) := by omega
        have HA := Lib.hid (List.all_eq_false.2 ⟨_, hmem.out, (by simp [fewL, f1])⟩ : L.all fewL = false)
        clear HC
        go_wp2_with fail
        go_ret
        exact ⟨by rw [HA.out]; rfl, hxx⟩
    · obtain rfl : k = L.length := by omega
      go_wp2_with fail
      go_ret
      have := HP.out
      rw [List.take_length] at this
      exact ⟨by rw [this]; rfl, hxr⟩
end Go.Proofs.YtnpeakahiedeoaaGreatDoor

namespace Go.Proofs.YtnpeakahiedeoaaGreatDoor
open Go.RowKit Go BigFrame
set_option maxRecDepth 100000
set_option linter.unusedSimpArgs false
set_option linter.unusedVariables false

/-! law10.RatioFloor. -/
theorem law_few1 {W : World} {gg : Nat} {x : RatA} {t : TypeId} (h : Blk W gg #[.bool x.n, .slice x.a x.l.length x.c, .bool x.n2, .slice x.b x.m.length x.d] t) (hi : RatI W x) :
    Calls Tryz.prog 24 #[.slice (some ⟨gg, 0, none⟩) 1 1] W fun e w' => e = .returned (.bool (fewL x)) ∧ Ext W w' :=
  (law_few gg [x] W (ratRow1 h hi.i hi.j) (by simp) (fun y hy => by
    obtain rfl := List.mem_singleton.1 hy
    exact ⟨Nat.le_trans hi.i.le hi.i.mx, Nat.le_trans hi.j.le hi.j.mx⟩)).mono fun e w' hh => ⟨by rw [hh.1]; simp, hh.2⟩
theorem fewL_sz {x : RatA} (h : fewL x = true) : ∃ r : Rat, Sz r 6 ∧ ∀ w, RatI w x → RatV w x.val r := by
  simp only [fewL, Bool.and_eq_true, decide_eq_true_eq] at h
  exact few_sz h.2.2 (by simp [fewR, fewQ, h.1, h.2.1])
end Go.Proofs.YtnpeakahiedeoaaGreatDoor

namespace Go.Proofs.YtnpeakahiedeoaaGreatDoor
open Go.RowKit Go BigFrame
set_option linter.unusedSimpArgs false
set_option linter.unusedVariables false

/-! Texts of ratios are read back, and what is read has this text. -/
theorem no47 {l : List UInt8} {z : Int} (h : readL l = some z) : (47 : UInt8) ∉ l := by
  unfold readL at h
  by_cases hc : (okHead (negOf l) (restOf l) && (restOf l).all isDig) = true
  · obtain ⟨_, h2⟩ := (Bool.and_eq_true _ _).mp hc
    intro hm
    by_cases hn : l.head? = some 45
    · have hr : restOf l = l.tail := by simp [restOf, hn]
      rw [hr] at h2
      cases l with
      | nil => cases hn
      | cons b t =>
        simp at hn
        rcases List.mem_cons.1 hm with e | e
        · rw [hn] at e; exact absurd e (by decide)
        · exact absurd (List.all_eq_true.1 h2 47 e) (by decide)
    · have hr : restOf l = l := by simp [restOf, hn]
      rw [hr] at h2
      exact absurd (List.all_eq_true.1 h2 47 hm) (by decide)
  · rw [if_neg hc] at h; cases h
theorem cutL_no : ∀ {a : List UInt8}, (47 : UInt8) ∉ a → cutL a = (a, none)
  | [], _ => rfl
  | b :: l, h => by
    have hb : (b == 47) = false := by
      rw [beq_eq_false_iff_ne]; intro e; exact h (by rw [e]; exact List.mem_cons_self)
    rw [cutL, hb, cutL_no (a := l) (fun e => h (List.mem_cons_of_mem _ e))]
    rfl
theorem cutL_at : ∀ {a b : List UInt8}, (47 : UInt8) ∉ a → cutL (a ++ 47 :: b) = (a, some b)
  | [], b, _ => rfl
  | c :: l, b, h => by
    have hb : (c == 47) = false := by
      rw [beq_eq_false_iff_ne]; intro e; exact h (by rw [e]; exact List.mem_cons_self)
    rw [List.cons_append, cutL, hb, cutL_at (a := l) (fun e => h (List.mem_cons_of_mem _ e))]
    rfl
theorem cutL_back : ∀ l : List UInt8, l = match cutL l with | (a, none) => a | (a, some b) => a ++ 47 :: b
  | [] => rfl
  | c :: l => by
    have ih := cutL_back l
    rw [cutL]
    by_cases hb : (c == 47) = true
    · rw [if_pos hb, beq_iff_eq.1 hb]; rfl
    · rw [if_neg hb]
      revert ih
      rcases cutL l with ⟨a, _ | b⟩
      · intro ih; exact congrArg (c :: ·) ih
      · intro ih; exact congrArg (c :: ·) ih
def textLR (r : Rat) : List UInt8 := if r.den = 1 then txtL r.num else txtL r.num ++ 47 :: txtL (r.den : Int)
theorem textR_list (r : Rat) : (textR r).data.toList = textLR r := by
  unfold textR textLR
  split
  · rfl
  · simp
theorem read_one : readL [49] = some 1 := by decide
theorem read_backR (r : Rat) : readR (textLR r) = some r := by
  have h1 := no47 (read_text r.num)
  unfold textLR readR
  by_cases hd : r.den = 1
  · rw [if_pos hd, cutL_no h1]
    dsimp only
    rw [read_text]
    have := Rat.num_divInt_den r
    rw [hd] at this
    exact congrArg some this
  · rw [if_neg hd, cutL_at h1]
    dsimp only
    rw [read_text, read_text]
    dsimp only
    have h49 : (txtL (r.den : Int) == [49]) = false := by
      rw [beq_eq_false_iff_ne]
      intro e
      have := read_text (r.den : Int)
      rw [e, read_one] at this
      exact hd (by have := Option.some.inj this; omega)
    rw [h49]
    have hg : 0 < (r.den : Int) ∧ Int.gcd r.num (r.den : Int) = 1 := ⟨by have := r.den_pos; omega, by have := r.reduced; simpa [Int.gcd, Nat.Coprime] using this⟩
    simp only [Bool.false_eq_true, if_false]
    unfold mkR
    rw [if_pos hg, Rat.num_divInt_den]
theorem back_readR {l : List UInt8} {r : Rat} (h : readR l = some r) : textLR r = l := by
  have hb := cutL_back l
  unfold readR at h
  revert h hb
  rcases cutL l with ⟨a, _ | b⟩
  · intro h hb
    dsimp only at h hb
    obtain ⟨z, hz, rfl⟩ := Option.map_eq_some_iff.1 h
    obtain ⟨e1, e2⟩ := divInt_low (z := z) (d := 1) (by decide) (by simp)
    unfold textLR
    rw [if_pos (by omega), e1, text_read hz, hb]
  · intro h hb
    dsimp only at h hb
    cases hz : readL a with
    | none => rw [hz] at h; cases h
    | some z =>
      cases hd : readL b with
      | none => rw [hz, hd] at h; cases h
      | some d =>
        rw [hz, hd] at h
        dsimp only at h
        by_cases h49 : (b == [49]) = true
        · rw [if_pos h49] at h; cases h
        · rw [if_neg h49] at h
          unfold mkR at h
          by_cases hg : 0 < d ∧ Int.gcd z d = 1
          · rw [if_pos hg] at h
            obtain rfl := Option.some.inj h
            obtain ⟨e1, e2⟩ := divInt_low hg.1 hg.2
            have hne : ¬ (Rat.divInt z d).den = 1 := fun e => h49 (by
              have : d = 1 := by omega
              rw [beq_iff_eq, ← text_read hd, this]; exact text_read read_one)
            unfold textLR
            rw [if_neg hne, e1, e2, text_read hz, text_read hd, hb]
          · rw [if_neg hg] at h; cases h
theorem txt_len12 {z : Int} (h : (digs z.natAbs).length ≤ 12) : (txtL z).length ≤ 121 := by
  have h1 := dval_lt (digs_norm z.natAbs).digs
  rw [digs_val] at h1
  have h2 := pow_le30 h
  have h3 : z.natAbs < 10 ^ 120 := by
    have h4 : (1073741824 : Int) ^ 12 ≤ ((10 ^ 120 : Nat) : Int) := by decide
    omega
  have h5 := (dgs_full 120 z.natAbs h3).1
  unfold txtL
  split
  · simp
  · split
    · simp only [List.length_cons, List.length_reverse]; omega
    · simp only [List.length_reverse]; omega
theorem size_list (t : ByteArray) : t.size = t.data.toList.length := by rw [Array.length_toList]; rfl
theorem textR_size {r : Rat} (h : Sz r 6) : (textR r).size ≤ 1000 := by
  have h1 := txt_len12 (Nat.le_trans (digs_len h.1) (by omega))
  have h2 := txt_len12 (Nat.le_trans (digs_len h.den) (by omega))
  rw [size_list, textR_list]
  unfold textLR
  split
  · omega
  · simp only [List.length_append, List.length_cons]; omega
theorem bytes_ext {s t : ByteArray} (h : s.data.toList = t.data.toList) : s = t := by
  cases s; cases t
  simp only at h
  rw [Array.toList_inj.1 h]
/-- What is read from a short text. -/
theorem back_facts {s : ByteArray} {r : Rat} (hs : s.size ≤ 200) (h : readR s.data.toList = some r) : textR r = s ∧ Len r.num ∧ Len (r.den : Int) ∧ (txtL r.num).length ≤ 1000 ∧ (txtL (r.den : Int)).length ≤ 1000 := by
  have hb := back_readR h
  have e : textR r = s := bytes_ext (by rw [textR_list, hb])
  rw [size_list, ← hb] at hs
  have hl : (txtL r.num).length ≤ 200 ∧ (txtL (r.den : Int)).length ≤ 200 := by
    unfold textLR at hs
    split at hs
    · rename_i hd
      rw [hd]
      refine ⟨hs, ?_⟩
      rw [show ((1 : Nat) : Int) = 1 from rfl, text_read read_one]
      decide
    · simp only [List.length_append, List.length_cons] at hs
      omega
  exact ⟨e, read_len (read_text _) (by omega), read_len (read_text _) (by omega), by omega, by omega⟩
end Go.Proofs.YtnpeakahiedeoaaGreatDoor

namespace Go.Proofs.YtnpeakahiedeoaaGreatDoor
open Go.RowKit Go BigFrame
set_option maxRecDepth 100000
set_option linter.unusedSimpArgs false
set_option linter.unusedVariables false

/-! law10.RatioBack. -/
theorem same_self {v u : Value} {r : Rat} {w : World} (hv : RatV w v r) (hu : RatV w u r) : Calls Tryz.prog 17 #[v, u] w fun e w' => e = .returned (.bool true) ∧ Ext w w' := by
  have h := same_rat hv hu
  rw [decide_eq_true rfl] at h
  exact h
set_option maxHeartbeats 4000000 in
theorem law_Back_any_long (x : RatA) (s : ByteArray) (w : World) (hs : s.size ≤ 9223372036854775807) (hx1 : RatI w x) (f0 : fewL x = false) (hl : 200 < s.size) : Calls Tryz.prog 6 #[x.val, .string s] w fun e w' => e = .returned (.bool true) ∧ Ext w w' := by
  have t1 : decide ((200 : Int) < (s.size : Int)) = true := by rw [decide_eq_true_iff]; omega
  have t2 : decide (200 < s.size) = true := by rw [decide_eq_true_iff]; omega
  clear hl
  have HX := Lib.hid hx1
  have HFW := Lib.hid (fun (W : World) (gg : Nat) (t : TypeId) (h : Blk W gg #[.bool x.n, .slice x.a x.l.length x.c, .bool x.n2, .slice x.b x.m.length x.d] t) (hi : RatI W x) => law_few1 h hi)
  rw [f0] at HFW
  clear hx1 f0
  obtain ⟨nx, ax, cx, lx, mx, bx, dx, kx⟩ := x
  dsimp only [RatA.val] at *
  obtain ⟨x1, hw, hx, Kx⟩ := boxQ1 w #[.bool nx, .slice ax lx.length cx, .bool mx, .slice bx kx.length dx] 26
  replace hw := Lib.hid hw
  have HX := Lib.hid (HX.out.ext hx)
  go_enter Tryz.func6, Tryz.ntmps6
  go_upto_region 1 with fail
  try simp only [Nat.add_assoc, Nat.reduceAdd, Nat.add_zero]
  rw [hw.out]
  clear hw
  have hs0 := hx.size
  obtain ⟨cx0, cx1, cx2, cx3⟩ := bk4 Kx
  go_wp2_with fail
  with_reducible refine (law10_sane _).mono ?_
  clear cx0 cx1 cx2 cx3
  rintro e x2 ⟨rfl, hy⟩
  replace hx := hx.trans hy
  replace Kx := kE Kx hy
  replace HX := Lib.hid (HX.out.ext hy)
  clear hy
  obtain ⟨cx0, cx1, cx2, cx3⟩ := bk4 Kx
  have hl := Ext.alloc x2 (.cells #[.bool nx, .slice ax lx.length cx, .bool mx, .slice bx kx.length dx] 26)
  have hKK := Blk.new0 x2 #[.bool nx, .slice ax lx.length cx, .bool mx, .slice bx kx.length dx] 26
  have hlx := hx.trans hl
  have HTT := Lib.hid (HFW.out _ _ _ hKK (HX.out.ext hl))
  clear hKK hlx
  go_wp2_with fail
  with_reducible refine (HTT.out).mono ?_
  clear cx0 cx1 cx2 cx3
  rintro e x3 ⟨rfl, hy⟩
  replace hy := hl.trans hy
  replace hx := hx.trans hy
  replace Kx := kE Kx hy
  replace HX := Lib.hid (HX.out.ext hy)
  clear hy HTT hl
  clear HX
  go_wp2_with fail
  go_ret
  exact ⟨rfl, hx⟩
set_option maxHeartbeats 4000000 in
theorem law_Back_any_none (x : RatA) (s : ByteArray) (w : World) (hs : s.size ≤ 9223372036854775807) (hx1 : RatI w x) (f0 : fewL x = false) (hl : s.size ≤ 200) (hn : readR s.data.toList = none) : Calls Tryz.prog 6 #[x.val, .string s] w fun e w' => e = .returned (.bool true) ∧ Ext w w' := by
  have HS : Hid (∀ W, Calls Tryz.prog 22 #[.string s] W (RatE 100 W)) := Lib.hid (fun W => (ratio_Read s W (by omega)).mono fun e w' h => h.1 hn)
  clear hn
  have t1 : decide ((200 : Int) < (s.size : Int)) = false := by rw [decide_eq_false_iff_not]; omega
  have t2 : decide (200 < s.size) = false := by rw [decide_eq_false_iff_not]; omega
  clear hl
  have HX := Lib.hid hx1
  have HFW := Lib.hid (fun (W : World) (gg : Nat) (t : TypeId) (h : Blk W gg #[.bool x.n, .slice x.a x.l.length x.c, .bool x.n2, .slice x.b x.m.length x.d] t) (hi : RatI W x) => law_few1 h hi)
  rw [f0] at HFW
  clear hx1 f0
  obtain ⟨nx, ax, cx, lx, mx, bx, dx, kx⟩ := x
  dsimp only [RatA.val] at *
  obtain ⟨x1, hw, hx, Kx⟩ := boxQ1 w #[.bool nx, .slice ax lx.length cx, .bool mx, .slice bx kx.length dx] 26
  replace hw := Lib.hid hw
  have HX := Lib.hid (HX.out.ext hx)
  go_enter Tryz.func6, Tryz.ntmps6
  go_upto_region 1 with fail
  try simp only [Nat.add_assoc, Nat.reduceAdd, Nat.add_zero]
  rw [hw.out]
  clear hw
  have hs0 := hx.size
  obtain ⟨cx0, cx1, cx2, cx3⟩ := bk4 Kx
  go_wp2_with fail
  with_reducible refine (law10_sane _).mono ?_
  clear cx0 cx1 cx2 cx3
  rintro e x2 ⟨rfl, hy⟩
  replace hx := hx.trans hy
  replace Kx := kE Kx hy
  replace HX := Lib.hid (HX.out.ext hy)
  clear hy
  obtain ⟨cx0, cx1, cx2, cx3⟩ := bk4 Kx
  have hl := Ext.alloc x2 (.cells #[.bool nx, .slice ax lx.length cx, .bool mx, .slice bx kx.length dx] 26)
  have hKK := Blk.new0 x2 #[.bool nx, .slice ax lx.length cx, .bool mx, .slice bx kx.length dx] 26
  have hlx := hx.trans hl
  have HTT := Lib.hid (HFW.out _ _ _ hKK (HX.out.ext hl))
  clear hKK hlx
  go_wp2_with fail
  with_reducible refine (HTT.out).mono ?_
  clear cx0 cx1 cx2 cx3
  rintro e x3 ⟨rfl, hy⟩
  replace hy := hl.trans hy
  replace hx := hx.trans hy
  replace Kx := kE Kx hy
  replace HX := Lib.hid (HX.out.ext hy)
  clear hy HTT hl
  clear HX
  go_wp2_with fail
  with_reducible refine (HS.out _).mono ?_
  rintro e x4 ⟨rfl, hy⟩
  replace hx := hx.trans hy
  replace Kx := kE Kx hy
  clear hy
  go_upto_region 11 with fail
  have hl := Ext.alloc x4 (.cells #[.bool false, .slice none 0 0, .bool false, .slice none 0 0] 26)
  have lxj : w.heap.size < x4.heap.size := Kx.out.lt
  have hpj : w.heap.size ≤ x4.heap.size := hx.size
  replace hx := hx.trans hl
  replace Kx := kE Kx hl
  have Kj := Lib.hid (Blk.new0 x4 #[.bool false, .slice none 0 0, .bool false, .slice none 0 0] 26)
  clear hl
  generalize x4.alloc (.cells #[.bool false, .slice none 0 0, .bool false, .slice none 0 0] 26) = x5 at *
  generalize x4.heap.size = pj at *
  go_wp2_with fail
  go_ret
  exact ⟨rfl, hx⟩
set_option maxHeartbeats 4000000 in
theorem law_Back_any_some (x : RatA) (s : ByteArray) (w : World) (hs : s.size ≤ 9223372036854775807) (hx1 : RatI w x) (f0 : fewL x = false) (q : Rat) (hl : s.size ≤ 200) (hn : readR s.data.toList = some q) : Calls Tryz.prog 6 #[x.val, .string s] w fun e w' => e = .returned (.bool true) ∧ Ext w w' := by
  obtain ⟨e1, l1, l2, l3, l4⟩ := back_facts hl hn
  have HS : Hid (∀ W, Calls Tryz.prog 22 #[.string s] W (RatP q W)) := Lib.hid (fun W => (ratio_Read s W (by omega)).mono fun e w' h => h.2 q hn)
  have HU : Hid (∀ W v, RatV W v q → Calls Tryz.prog 20 #[v] W fun e w' => e = .returned (.tuple #[.string s, .int .i64 0]) ∧ Ext W w') := Lib.hid (fun W v hv => by
    have h := ratio_Text hv l1 l2 ⟨l3, l4⟩
    rw [e1] at h
    exact h)
  have HK : Hid (∀ W v, RatV W v q → Calls Tryz.prog 18 #[v] W fun e w' => e = .returned (.int .i64 0) ∧ Ext W w') := Lib.hid (fun W v hv => ratio_check_val hv l1 l2)
  clear hn e1 l1 l2 l3 l4
  have hss : (s.toList == s.toList) = true := by simp
  have t1 : decide ((200 : Int) < (s.size : Int)) = false := by rw [decide_eq_false_iff_not]; omega
  have t2 : decide (200 < s.size) = false := by rw [decide_eq_false_iff_not]; omega
  clear hl
  have HX := Lib.hid hx1
  have HFW := Lib.hid (fun (W : World) (gg : Nat) (t : TypeId) (h : Blk W gg #[.bool x.n, .slice x.a x.l.length x.c, .bool x.n2, .slice x.b x.m.length x.d] t) (hi : RatI W x) => law_few1 h hi)
  rw [f0] at HFW
  clear hx1 f0
  obtain ⟨nx, ax, cx, lx, mx, bx, dx, kx⟩ := x
  dsimp only [RatA.val] at *
  obtain ⟨x1, hw, hx, Kx⟩ := boxQ1 w #[.bool nx, .slice ax lx.length cx, .bool mx, .slice bx kx.length dx] 26
  replace hw := Lib.hid hw
  have HX := Lib.hid (HX.out.ext hx)
  go_enter Tryz.func6, Tryz.ntmps6
  go_upto_region 1 with fail
  try simp only [Nat.add_assoc, Nat.reduceAdd, Nat.add_zero]
  rw [hw.out]
  clear hw
  have hs0 := hx.size
  obtain ⟨cx0, cx1, cx2, cx3⟩ := bk4 Kx
  go_wp2_with fail
  with_reducible refine (law10_sane _).mono ?_
  clear cx0 cx1 cx2 cx3
  rintro e x2 ⟨rfl, hy⟩
  replace hx := hx.trans hy
  replace Kx := kE Kx hy
  replace HX := Lib.hid (HX.out.ext hy)
  clear hy
  obtain ⟨cx0, cx1, cx2, cx3⟩ := bk4 Kx
  have hl := Ext.alloc x2 (.cells #[.bool nx, .slice ax lx.length cx, .bool mx, .slice bx kx.length dx] 26)
  have hKK := Blk.new0 x2 #[.bool nx, .slice ax lx.length cx, .bool mx, .slice bx kx.length dx] 26
  have hlx := hx.trans hl
  have HTT := Lib.hid (HFW.out _ _ _ hKK (HX.out.ext hl))
  clear hKK hlx
  go_wp2_with fail
  with_reducible refine (HTT.out).mono ?_
  clear cx0 cx1 cx2 cx3
  rintro e x3 ⟨rfl, hy⟩
  replace hy := hl.trans hy
  replace hx := hx.trans hy
  replace Kx := kE Kx hy
  replace HX := Lib.hid (HX.out.ext hy)
  clear hy HTT hl
  clear HX
  go_wp2_with fail
  with_reducible refine (HS.out _).mono ?_
  rintro e x4 ⟨v, rfl, hv, hy⟩
  replace hx := hx.trans hy
  replace Kx := kE Kx hy
  clear hy
  obtain ⟨nj, aj, qj, cj, bj, kj, dj, rfl, hv', hf', hg'⟩ := hv
  have Vj := Lib.hid hv'
  clear hv' hf' hg'
  go_upto_region 11 with fail
  have hl := Ext.alloc x4 (.cells #[.bool nj, .slice aj qj cj, .bool false, .slice bj kj dj] 26)
  have lxj : w.heap.size < x4.heap.size := Kx.out.lt
  have hpj : w.heap.size ≤ x4.heap.size := hx.size
  replace hx := hx.trans hl
  replace Kx := kE Kx hl
  replace Vj := Lib.hid (Vj.out.ext hl)
  have Kj := Lib.hid (Blk.new0 x4 #[.bool nj, .slice aj qj cj, .bool false, .slice bj kj dj] 26)
  clear hl
  generalize x4.alloc (.cells #[.bool nj, .slice aj qj cj, .bool false, .slice bj kj dj] 26) = x5 at *
  generalize x4.heap.size = pj at *
  obtain ⟨cj0, cj1, cj2, cj3⟩ := bk4 Kj
  go_wp2_with fail
  with_reducible refine (HU.out _ _ Vj.out).mono ?_
  clear cj0 cj1 cj2 cj3
  rintro e x6 ⟨rfl, hy⟩
  replace hx := hx.trans hy
  replace Kx := kE Kx hy
  replace Kj := kE Kj hy
  replace Vj := Lib.hid (Vj.out.ext hy)
  clear hy
  obtain ⟨cj0, cj1, cj2, cj3⟩ := bk4 Kj
  go_wp2_with fail
  with_reducible refine (HK.out _ _ Vj.out).mono ?_
  clear cj0 cj1 cj2 cj3
  rintro e x7 ⟨rfl, hy⟩
  replace hx := hx.trans hy
  replace Kx := kE Kx hy
  replace Kj := kE Kj hy
  replace Vj := Lib.hid (Vj.out.ext hy)
  clear hy
  go_wp2_with fail
  go_ret
  exact ⟨rfl, hx⟩
set_option maxHeartbeats 4000000 in
theorem law_Back_few_long (x : RatA) (s : ByteArray) (w : World) (hs : s.size ≤ 9223372036854775807) (hx1 : RatI w x) (f0 : fewL x = true) (hl : 200 < s.size) : Calls Tryz.prog 6 #[x.val, .string s] w fun e w' => e = .returned (.bool true) ∧ Ext w w' := by
  obtain ⟨r, S0, hr⟩ := fewL_sz f0
  have VX := Lib.hid hr
  obtain ⟨tt, htt⟩ : ∃ tt, textR r = tt := ⟨_, rfl⟩
  have HT : Hid (∀ W v, RatV W v r → Calls Tryz.prog 20 #[v] W fun e w' => e = .returned (.tuple #[.string tt, .int .i64 0]) ∧ Ext W w') := Lib.hid (fun W v hv => by
    rw [← htt]; exact ratio_Text hv (S0.lenN (by omega)) (S0.lenD (by omega)) (txt_few S0 (by omega)))
  have HR : Hid (∀ W, Calls Tryz.prog 22 #[.string tt] W (RatP r W)) := Lib.hid (fun W => (ratio_Read tt W (by rw [← htt]; exact textR_size S0)).mono fun e w' h => h.2 r (by rw [← htt, textR_list]; exact read_backR r))
  clear S0 hr htt
  have t1 : decide ((200 : Int) < (s.size : Int)) = true := by rw [decide_eq_true_iff]; omega
  have t2 : decide (200 < s.size) = true := by rw [decide_eq_true_iff]; omega
  clear hl
  have HX := Lib.hid hx1
  have HFW := Lib.hid (fun (W : World) (gg : Nat) (t : TypeId) (h : Blk W gg #[.bool x.n, .slice x.a x.l.length x.c, .bool x.n2, .slice x.b x.m.length x.d] t) (hi : RatI W x) => law_few1 h hi)
  rw [f0] at HFW
  clear hx1 f0
  obtain ⟨nx, ax, cx, lx, mx, bx, dx, kx⟩ := x
  dsimp only [RatA.val] at *
  obtain ⟨x1, hw, hx, Kx⟩ := boxQ1 w #[.bool nx, .slice ax lx.length cx, .bool mx, .slice bx kx.length dx] 26
  replace hw := Lib.hid hw
  have HX := Lib.hid (HX.out.ext hx)
  go_enter Tryz.func6, Tryz.ntmps6
  go_upto_region 1 with fail
  try simp only [Nat.add_assoc, Nat.reduceAdd, Nat.add_zero]
  rw [hw.out]
  clear hw
  have hs0 := hx.size
  obtain ⟨cx0, cx1, cx2, cx3⟩ := bk4 Kx
  go_wp2_with fail
  with_reducible refine (law10_sane _).mono ?_
  clear cx0 cx1 cx2 cx3
  rintro e x2 ⟨rfl, hy⟩
  replace hx := hx.trans hy
  replace Kx := kE Kx hy
  replace HX := Lib.hid (HX.out.ext hy)
  clear hy
  obtain ⟨cx0, cx1, cx2, cx3⟩ := bk4 Kx
  have hl := Ext.alloc x2 (.cells #[.bool nx, .slice ax lx.length cx, .bool mx, .slice bx kx.length dx] 26)
  have hKK := Blk.new0 x2 #[.bool nx, .slice ax lx.length cx, .bool mx, .slice bx kx.length dx] 26
  have hlx := hx.trans hl
  have HTT := Lib.hid (HFW.out _ _ _ hKK (HX.out.ext hl))
  clear hKK hlx
  go_wp2_with fail
  with_reducible refine (HTT.out).mono ?_
  clear cx0 cx1 cx2 cx3
  rintro e x3 ⟨rfl, hy⟩
  replace hy := hl.trans hy
  replace hx := hx.trans hy
  replace Kx := kE Kx hy
  replace HX := Lib.hid (HX.out.ext hy)
  clear hy HTT hl
  have Vx := Lib.hid (VX.out _ HX.out)
  clear HX
  obtain ⟨cx0, cx1, cx2, cx3⟩ := bk4 Kx
  go_wp2_with fail
  with_reducible refine (HT.out _ _ Vx.out).mono ?_
  clear cx0 cx1 cx2 cx3
  rintro e x4 ⟨rfl, hy⟩
  replace hx := hx.trans hy
  replace Kx := kE Kx hy
  replace Vx := Lib.hid (Vx.out.ext hy)
  clear hy
  go_wp2_with fail
  with_reducible refine (HR.out _).mono ?_
  rintro e x5 ⟨v, rfl, hv, hy⟩
  replace hx := hx.trans hy
  replace Kx := kE Kx hy
  replace Vx := Lib.hid (Vx.out.ext hy)
  clear hy
  obtain ⟨np, ap, qp, cp, bp, kp, dp, rfl, hv', hf', hg'⟩ := hv
  have Vp := Lib.hid hv'
  clear hv' hf' hg'
  go_upto_region 6 with fail
  have hl := Ext.alloc x5 (.cells #[.bool np, .slice ap qp cp, .bool false, .slice bp kp dp] 26)
  have lxp : w.heap.size < x5.heap.size := Kx.out.lt
  have hpp : w.heap.size ≤ x5.heap.size := hx.size
  replace hx := hx.trans hl
  replace Kx := kE Kx hl
  replace Vx := Lib.hid (Vx.out.ext hl)
  replace Vp := Lib.hid (Vp.out.ext hl)
  have Kp := Lib.hid (Blk.new0 x5 #[.bool np, .slice ap qp cp, .bool false, .slice bp kp dp] 26)
  clear hl
  generalize x5.alloc (.cells #[.bool np, .slice ap qp cp, .bool false, .slice bp kp dp] 26) = x6 at *
  generalize x5.heap.size = pp at *
  obtain ⟨cx0, cx1, cx2, cx3⟩ := bk4 Kx
  obtain ⟨cp0, cp1, cp2, cp3⟩ := bk4 Kp
  go_wp2_with fail
  with_reducible refine (same_self Vx.out Vp.out).mono ?_
  clear cx0 cx1 cx2 cx3 cp0 cp1 cp2 cp3
  rintro e x7 ⟨rfl, hy⟩
  replace hx := hx.trans hy
  replace Kx := kE Kx hy
  replace Kp := kE Kp hy
  replace Vx := Lib.hid (Vx.out.ext hy)
  replace Vp := Lib.hid (Vp.out.ext hy)
  clear hy
  clear Vx Vp
  go_wp2_with fail
  go_ret
  exact ⟨rfl, hx⟩
set_option maxHeartbeats 4000000 in
theorem law_Back_few_none (x : RatA) (s : ByteArray) (w : World) (hs : s.size ≤ 9223372036854775807) (hx1 : RatI w x) (f0 : fewL x = true) (hl : s.size ≤ 200) (hn : readR s.data.toList = none) : Calls Tryz.prog 6 #[x.val, .string s] w fun e w' => e = .returned (.bool true) ∧ Ext w w' := by
  obtain ⟨r, S0, hr⟩ := fewL_sz f0
  have VX := Lib.hid hr
  obtain ⟨tt, htt⟩ : ∃ tt, textR r = tt := ⟨_, rfl⟩
  have HT : Hid (∀ W v, RatV W v r → Calls Tryz.prog 20 #[v] W fun e w' => e = .returned (.tuple #[.string tt, .int .i64 0]) ∧ Ext W w') := Lib.hid (fun W v hv => by
    rw [← htt]; exact ratio_Text hv (S0.lenN (by omega)) (S0.lenD (by omega)) (txt_few S0 (by omega)))
  have HR : Hid (∀ W, Calls Tryz.prog 22 #[.string tt] W (RatP r W)) := Lib.hid (fun W => (ratio_Read tt W (by rw [← htt]; exact textR_size S0)).mono fun e w' h => h.2 r (by rw [← htt, textR_list]; exact read_backR r))
  clear S0 hr htt
  have HS : Hid (∀ W, Calls Tryz.prog 22 #[.string s] W (RatE 100 W)) := Lib.hid (fun W => (ratio_Read s W (by omega)).mono fun e w' h => h.1 hn)
  clear hn
  have t1 : decide ((200 : Int) < (s.size : Int)) = false := by rw [decide_eq_false_iff_not]; omega
  have t2 : decide (200 < s.size) = false := by rw [decide_eq_false_iff_not]; omega
  clear hl
  have HX := Lib.hid hx1
  have HFW := Lib.hid (fun (W : World) (gg : Nat) (t : TypeId) (h : Blk W gg #[.bool x.n, .slice x.a x.l.length x.c, .bool x.n2, .slice x.b x.m.length x.d] t) (hi : RatI W x) => law_few1 h hi)
  rw [f0] at HFW
  clear hx1 f0
  obtain ⟨nx, ax, cx, lx, mx, bx, dx, kx⟩ := x
  dsimp only [RatA.val] at *
  obtain ⟨x1, hw, hx, Kx⟩ := boxQ1 w #[.bool nx, .slice ax lx.length cx, .bool mx, .slice bx kx.length dx] 26
  replace hw := Lib.hid hw
  have HX := Lib.hid (HX.out.ext hx)
  go_enter Tryz.func6, Tryz.ntmps6
  go_upto_region 1 with fail
  try simp only [Nat.add_assoc, Nat.reduceAdd, Nat.add_zero]
  rw [hw.out]
  clear hw
  have hs0 := hx.size
  obtain ⟨cx0, cx1, cx2, cx3⟩ := bk4 Kx
  go_wp2_with fail
  with_reducible refine (law10_sane _).mono ?_
  clear cx0 cx1 cx2 cx3
  rintro e x2 ⟨rfl, hy⟩
  replace hx := hx.trans hy
  replace Kx := kE Kx hy
  replace HX := Lib.hid (HX.out.ext hy)
  clear hy
  obtain ⟨cx0, cx1, cx2, cx3⟩ := bk4 Kx
  have hl := Ext.alloc x2 (.cells #[.bool nx, .slice ax lx.length cx, .bool mx, .slice bx kx.length dx] 26)
  have hKK := Blk.new0 x2 #[.bool nx, .slice ax lx.length cx, .bool mx, .slice bx kx.length dx] 26
  have hlx := hx.trans hl
  have HTT := Lib.hid (HFW.out _ _ _ hKK (HX.out.ext hl))
  clear hKK hlx
  go_wp2_with fail
  with_reducible refine (HTT.out).mono ?_
  clear cx0 cx1 cx2 cx3
  rintro e x3 ⟨rfl, hy⟩
  replace hy := hl.trans hy
  replace hx := hx.trans hy
  replace Kx := kE Kx hy
  replace HX := Lib.hid (HX.out.ext hy)
  clear hy HTT hl
  have Vx := Lib.hid (VX.out _ HX.out)
  clear HX
  obtain ⟨cx0, cx1, cx2, cx3⟩ := bk4 Kx
  go_wp2_with fail
  with_reducible refine (HT.out _ _ Vx.out).mono ?_
  clear cx0 cx1 cx2 cx3
  rintro e x4 ⟨rfl, hy⟩
  replace hx := hx.trans hy
  replace Kx := kE Kx hy
  replace Vx := Lib.hid (Vx.out.ext hy)
  clear hy
  go_wp2_with fail
  with_reducible refine (HR.out _).mono ?_
  rintro e x5 ⟨v, rfl, hv, hy⟩
  replace hx := hx.trans hy
  replace Kx := kE Kx hy
  replace Vx := Lib.hid (Vx.out.ext hy)
  clear hy
  obtain ⟨np, ap, qp, cp, bp, kp, dp, rfl, hv', hf', hg'⟩ := hv
  have Vp := Lib.hid hv'
  clear hv' hf' hg'
  go_upto_region 6 with fail
  have hl := Ext.alloc x5 (.cells #[.bool np, .slice ap qp cp, .bool false, .slice bp kp dp] 26)
  have lxp : w.heap.size < x5.heap.size := Kx.out.lt
  have hpp : w.heap.size ≤ x5.heap.size := hx.size
  replace hx := hx.trans hl
  replace Kx := kE Kx hl
  replace Vx := Lib.hid (Vx.out.ext hl)
  replace Vp := Lib.hid (Vp.out.ext hl)
  have Kp := Lib.hid (Blk.new0 x5 #[.bool np, .slice ap qp cp, .bool false, .slice bp kp dp] 26)
  clear hl
  generalize x5.alloc (.cells #[.bool np, .slice ap qp cp, .bool false, .slice bp kp dp] 26) = x6 at *
  generalize x5.heap.size = pp at *
  obtain ⟨cx0, cx1, cx2, cx3⟩ := bk4 Kx
  obtain ⟨cp0, cp1, cp2, cp3⟩ := bk4 Kp
  go_wp2_with fail
  with_reducible refine (same_self Vx.out Vp.out).mono ?_
  clear cx0 cx1 cx2 cx3 cp0 cp1 cp2 cp3
  rintro e x7 ⟨rfl, hy⟩
  replace hx := hx.trans hy
  replace Kx := kE Kx hy
  replace Kp := kE Kp hy
  replace Vx := Lib.hid (Vx.out.ext hy)
  replace Vp := Lib.hid (Vp.out.ext hy)
  clear hy
  clear Vx Vp
  go_wp2_with fail
  with_reducible refine (HS.out _).mono ?_
  rintro e x8 ⟨rfl, hy⟩
  replace hx := hx.trans hy
  replace Kx := kE Kx hy
  replace Kp := kE Kp hy
  clear hy
  go_upto_region 11 with fail
  have hl := Ext.alloc x8 (.cells #[.bool false, .slice none 0 0, .bool false, .slice none 0 0] 26)
  have lxj : w.heap.size < x8.heap.size := Kx.out.lt
  have lpj : pp < x8.heap.size := Kp.out.lt
  have hpj : w.heap.size ≤ x8.heap.size := hx.size
  replace hx := hx.trans hl
  replace Kx := kE Kx hl
  replace Kp := kE Kp hl
  have Kj := Lib.hid (Blk.new0 x8 #[.bool false, .slice none 0 0, .bool false, .slice none 0 0] 26)
  clear hl
  generalize x8.alloc (.cells #[.bool false, .slice none 0 0, .bool false, .slice none 0 0] 26) = x9 at *
  generalize x8.heap.size = pj at *
  go_wp2_with fail
  go_ret
  exact ⟨rfl, hx⟩
set_option maxHeartbeats 4000000 in
theorem law_Back_few_some (x : RatA) (s : ByteArray) (w : World) (hs : s.size ≤ 9223372036854775807) (hx1 : RatI w x) (f0 : fewL x = true) (q : Rat) (hl : s.size ≤ 200) (hn : readR s.data.toList = some q) : Calls Tryz.prog 6 #[x.val, .string s] w fun e w' => e = .returned (.bool true) ∧ Ext w w' := by
  obtain ⟨r, S0, hr⟩ := fewL_sz f0
  have VX := Lib.hid hr
  obtain ⟨tt, htt⟩ : ∃ tt, textR r = tt := ⟨_, rfl⟩
  have HT : Hid (∀ W v, RatV W v r → Calls Tryz.prog 20 #[v] W fun e w' => e = .returned (.tuple #[.string tt, .int .i64 0]) ∧ Ext W w') := Lib.hid (fun W v hv => by
    rw [← htt]; exact ratio_Text hv (S0.lenN (by omega)) (S0.lenD (by omega)) (txt_few S0 (by omega)))
  have HR : Hid (∀ W, Calls Tryz.prog 22 #[.string tt] W (RatP r W)) := Lib.hid (fun W => (ratio_Read tt W (by rw [← htt]; exact textR_size S0)).mono fun e w' h => h.2 r (by rw [← htt, textR_list]; exact read_backR r))
  clear S0 hr htt
  obtain ⟨e1, l1, l2, l3, l4⟩ := back_facts hl hn
  have HS : Hid (∀ W, Calls Tryz.prog 22 #[.string s] W (RatP q W)) := Lib.hid (fun W => (ratio_Read s W (by omega)).mono fun e w' h => h.2 q hn)
  have HU : Hid (∀ W v, RatV W v q → Calls Tryz.prog 20 #[v] W fun e w' => e = .returned (.tuple #[.string s, .int .i64 0]) ∧ Ext W w') := Lib.hid (fun W v hv => by
    have h := ratio_Text hv l1 l2 ⟨l3, l4⟩
    rw [e1] at h
    exact h)
  have HK : Hid (∀ W v, RatV W v q → Calls Tryz.prog 18 #[v] W fun e w' => e = .returned (.int .i64 0) ∧ Ext W w') := Lib.hid (fun W v hv => ratio_check_val hv l1 l2)
  clear hn e1 l1 l2 l3 l4
  have hss : (s.toList == s.toList) = true := by simp
  have t1 : decide ((200 : Int) < (s.size : Int)) = false := by rw [decide_eq_false_iff_not]; omega
  have t2 : decide (200 < s.size) = false := by rw [decide_eq_false_iff_not]; omega
  clear hl
  have HX := Lib.hid hx1
  have HFW := Lib.hid (fun (W : World) (gg : Nat) (t : TypeId) (h : Blk W gg #[.bool x.n, .slice x.a x.l.length x.c, .bool x.n2, .slice x.b x.m.length x.d] t) (hi : RatI W x) => law_few1 h hi)
  rw [f0] at HFW
  clear hx1 f0
  obtain ⟨nx, ax, cx, lx, mx, bx, dx, kx⟩ := x
  dsimp only [RatA.val] at *
  obtain ⟨x1, hw, hx, Kx⟩ := boxQ1 w #[.bool nx, .slice ax lx.length cx, .bool mx, .slice bx kx.length dx] 26
  replace hw := Lib.hid hw
  have HX := Lib.hid (HX.out.ext hx)
  go_enter Tryz.func6, Tryz.ntmps6
  go_upto_region 1 with fail
  try simp only [Nat.add_assoc, Nat.reduceAdd, Nat.add_zero]
  rw [hw.out]
  clear hw
  have hs0 := hx.size
  obtain ⟨cx0, cx1, cx2, cx3⟩ := bk4 Kx
  go_wp2_with fail
  with_reducible refine (law10_sane _).mono ?_
  clear cx0 cx1 cx2 cx3
  rintro e x2 ⟨rfl, hy⟩
  replace hx := hx.trans hy
  replace Kx := kE Kx hy
  replace HX := Lib.hid (HX.out.ext hy)
  clear hy
  obtain ⟨cx0, cx1, cx2, cx3⟩ := bk4 Kx
  have hl := Ext.alloc x2 (.cells #[.bool nx, .slice ax lx.length cx, .bool mx, .slice bx kx.length dx] 26)
  have hKK := Blk.new0 x2 #[.bool nx, .slice ax lx.length cx, .bool mx, .slice bx kx.length dx] 26
  have hlx := hx.trans hl
  have HTT := Lib.hid (HFW.out _ _ _ hKK (HX.out.ext hl))
  clear hKK hlx
  go_wp2_with fail
  with_reducible refine (HTT.out).mono ?_
  clear cx0 cx1 cx2 cx3
  rintro e x3 ⟨rfl, hy⟩
  replace hy := hl.trans hy
  replace hx := hx.trans hy
  replace Kx := kE Kx hy
  replace HX := Lib.hid (HX.out.ext hy)
  clear hy HTT hl
  have Vx := Lib.hid (VX.out _ HX.out)
  clear HX
  obtain ⟨cx0, cx1, cx2, cx3⟩ := bk4 Kx
  go_wp2_with fail
  with_reducible refine (HT.out _ _ Vx.out).mono ?_
  clear cx0 cx1 cx2 cx3
  rintro e x4 ⟨rfl, hy⟩
  replace hx := hx.trans hy
  replace Kx := kE Kx hy
  replace Vx := Lib.hid (Vx.out.ext hy)
  clear hy
  go_wp2_with fail
  with_reducible refine (HR.out _).mono ?_
  rintro e x5 ⟨v, rfl, hv, hy⟩
  replace hx := hx.trans hy
  replace Kx := kE Kx hy
  replace Vx := Lib.hid (Vx.out.ext hy)
  clear hy
  obtain ⟨np, ap, qp, cp, bp, kp, dp, rfl, hv', hf', hg'⟩ := hv
  have Vp := Lib.hid hv'
  clear hv' hf' hg'
  go_upto_region 6 with fail
  have hl := Ext.alloc x5 (.cells #[.bool np, .slice ap qp cp, .bool false, .slice bp kp dp] 26)
  have lxp : w.heap.size < x5.heap.size := Kx.out.lt
  have hpp : w.heap.size ≤ x5.heap.size := hx.size
  replace hx := hx.trans hl
  replace Kx := kE Kx hl
  replace Vx := Lib.hid (Vx.out.ext hl)
  replace Vp := Lib.hid (Vp.out.ext hl)
  have Kp := Lib.hid (Blk.new0 x5 #[.bool np, .slice ap qp cp, .bool false, .slice bp kp dp] 26)
  clear hl
  generalize x5.alloc (.cells #[.bool np, .slice ap qp cp, .bool false, .slice bp kp dp] 26) = x6 at *
  generalize x5.heap.size = pp at *
  obtain ⟨cx0, cx1, cx2, cx3⟩ := bk4 Kx
  obtain ⟨cp0, cp1, cp2, cp3⟩ := bk4 Kp
  go_wp2_with fail
  with_reducible refine (same_self Vx.out Vp.out).mono ?_
  clear cx0 cx1 cx2 cx3 cp0 cp1 cp2 cp3
  rintro e x7 ⟨rfl, hy⟩
  replace hx := hx.trans hy
  replace Kx := kE Kx hy
  replace Kp := kE Kp hy
  replace Vx := Lib.hid (Vx.out.ext hy)
  replace Vp := Lib.hid (Vp.out.ext hy)
  clear hy
  clear Vx Vp
  go_wp2_with fail
  with_reducible refine (HS.out _).mono ?_
  rintro e x8 ⟨v, rfl, hv, hy⟩
  replace hx := hx.trans hy
  replace Kx := kE Kx hy
  replace Kp := kE Kp hy
  clear hy
  obtain ⟨nj, aj, qj, cj, bj, kj, dj, rfl, hv', hf', hg'⟩ := hv
  have Vj := Lib.hid hv'
  clear hv' hf' hg'
  go_upto_region 11 with fail
  have hl := Ext.alloc x8 (.cells #[.bool nj, .slice aj qj cj, .bool false, .slice bj kj dj] 26)
  have lxj : w.heap.size < x8.heap.size := Kx.out.lt
  have lpj : pp < x8.heap.size := Kp.out.lt
  have hpj : w.heap.size ≤ x8.heap.size := hx.size
  replace hx := hx.trans hl
  replace Kx := kE Kx hl
  replace Kp := kE Kp hl
  replace Vj := Lib.hid (Vj.out.ext hl)
  have Kj := Lib.hid (Blk.new0 x8 #[.bool nj, .slice aj qj cj, .bool false, .slice bj kj dj] 26)
  clear hl
  generalize x8.alloc (.cells #[.bool nj, .slice aj qj cj, .bool false, .slice bj kj dj] 26) = x9 at *
  generalize x8.heap.size = pj at *
  obtain ⟨cj0, cj1, cj2, cj3⟩ := bk4 Kj
  go_wp2_with fail
  with_reducible refine (HU.out _ _ Vj.out).mono ?_
  clear cj0 cj1 cj2 cj3
  rintro e x10 ⟨rfl, hy⟩
  replace hx := hx.trans hy
  replace Kx := kE Kx hy
  replace Kp := kE Kp hy
  replace Kj := kE Kj hy
  replace Vj := Lib.hid (Vj.out.ext hy)
  clear hy
  obtain ⟨cj0, cj1, cj2, cj3⟩ := bk4 Kj
  go_wp2_with fail
  with_reducible refine (HK.out _ _ Vj.out).mono ?_
  clear cj0 cj1 cj2 cj3
  rintro e x11 ⟨rfl, hy⟩
  replace hx := hx.trans hy
  replace Kx := kE Kx hy
  replace Kp := kE Kp hy
  replace Kj := kE Kj hy
  replace Vj := Lib.hid (Vj.out.ext hy)
  clear hy
  go_wp2_with fail
  go_ret
  exact ⟨rfl, hx⟩
theorem law_Back (x : RatA) (s : ByteArray) (w : World) (hs : s.size ≤ 9223372036854775807) (hx1 : RatI w x) : Calls Tryz.prog 6 #[x.val, .string s] w fun e w' => e = .returned (.bool true) ∧ Ext w w' := by
  by_cases hl : 200 < s.size
  · cases f0 : fewL x
    · exact law_Back_any_long x s w hs hx1 f0 hl
    · exact law_Back_few_long x s w hs hx1 f0 hl
  · cases hn : readR s.data.toList with
    | none =>
      cases f0 : fewL x
      · exact law_Back_any_none x s w hs hx1 f0 (by omega) hn
      · exact law_Back_few_none x s w hs hx1 f0 (by omega) hn
    | some q =>
      cases f0 : fewL x
      · exact law_Back_any_some x s w hs hx1 f0 q (by omega) hn
      · exact law_Back_few_some x s w hs hx1 f0 q (by omega) hn
end Go.Proofs.YtnpeakahiedeoaaGreatDoor

namespace Go.Proofs.YtnpeakahiedeoaaGreatDoor
open Go.ChangeShapes Go.WideShapes Go.ChangeAt Go.RowKit
set_option linter.unusedVariables false
set_option maxRecDepth 100000

theorem ownRatioBack : ownKnob Tryz.prog.godebug = none := by kernel_rfl
theorem laidOutRatioBack : laidOutB Tryz.prog = true := by kernel_rfl

theorem liftedRatioBack (os : Os) (started : os.Started) (H : Type) (enc : TypeId × Value → H) :
    ReturnsInHanded {} Tryz.checked os 6 .any (fun w args => (Rows.ratioBackSpec.pre enc Tryz.prog Tryz.f6 [] false w args ∧ laidMetH Tryz.prog Rows.ratioBackRow.laid w) ∧ sizedMet enc Tryz.prog Tryz.f6 (OpenSpec.ofChange Rows.ratioBackSpec) false w args)
      (Rows.ratioBackSpec.post enc Tryz.prog Tryz.f6 false true false false) := by
  refine returnsInHanded_of_change_and (C := Tryz.checked) (X := fun w _ => laidMetH Tryz.prog Rows.ratioBackRow.laid w) (fun _ _ _ hh h => h.of_heap hh) ownRatioBack started (by kernel_rfl) Tryz.func6
    (ChangeSpec.witness_shaped (enc := enc) (C := Tryz.checked) (os := os) (X := fun w _ => laidMetH Tryz.prog Rows.ratioBackRow.laid w) false (World.laidAll Tryz.prog os Rows.ratioBackRow.laid) #[.agg #[.bool false, .slice none 0 0, .bool false, .slice none 0 0], .string ByteArray.empty] 8 (World.laidAll_os _ _ _)
      (World.shaped_of_ZipB (by kernel_rfl) (by kernel_rfl)) (by kernel_rfl) (by kernel_rfl) (by kernel_rfl)
      (by rw [MakeChecks.laidMetH_plain _ _ _ (by kernel_rfl)]; exact laidMet_laidAll _ (by kernel_rfl) (by kernel_rfl))) ?_
  intro W base args ds gs before hval0 hW _ _ hL _
  have hval : ∀ (j : Nat) t v, Tryz.f6.params[j]? = some t → args[j]? = some v → Value.okWide Tryz.prog W .any base t v := hval0
  have hW' := hW
  obtain ⟨p, q, hA0, hV, rfl, hfz, hnd⟩ := hW
  have hA : DataW.TrodAll enc Tryz.prog W 0 (fun _ => true) true Tryz.f6.params.toList args.toList ds p := hA0
  rw [Tryz.params6] at hA hval
  obtain ⟨v0, vs0, d0, ds0, p0, q0, hargs, rfl, rfl, h0, r0⟩ := trodAll_cons hA
  obtain ⟨v1, vs1, d1, ds1, p1, q1, rfl, rfl, rfl, h1, r1⟩ := trodAll_cons r0
  obtain ⟨rfl, rfl, rfl⟩ := trodAll_nil r1
  obtain rfl : args = #[v0, v1] := by cases args; simp_all
  obtain ⟨rfl, rfl⟩ := trodVars_none hV
  have k0 := h0
  have lt0 : ∀ x ∈ p0, x.block < W.heap.size := by obtain ⟨m, hm⟩ := k0; exact DataW.trod_lt m _ _ _ hm
  have k1 := h1
  have lt1 : ∀ x ∈ p1, x.block < W.heap.size := by obtain ⟨m, hm⟩ := k1; exact DataW.trod_lt m _ _ _ hm
  obtain ⟨x0, rfl, w0⟩ := open_rat (hval 0 26 v0 rfl rfl) h0
  obtain ⟨s1, rfl, w1⟩ := open_str (hval 1 9 v1 rfl rfl) h1
  clear hA0 hval0 hL
  refine (law_Back x0 s1 W (by unfold maxLen at w1; omega) w0).mono fun e W' ⟨he, bel⟩ => ?_
  subst he
  exact ⟨_, rfl, _, _, _, [], _, [], hW', trodAll_mk1 (shut_bool Tryz.underlying4 _), (trodAll_cons_mk (Below.trod laidOutRatioBack (by kernel_rfl) (of_decide_eq_true (by kernel_rfl)) k0 bel lt0) (trodAll_cons_mk (Below.trod laidOutRatioBack (by kernel_rfl) (of_decide_eq_true (by kernel_rfl)) k1 bel lt1) trodAll_mk0)), rfl, bel.frame _, fun h => by cases h⟩

theorem ratioBack_row : Rows.RatioBackSaid :=
  OpenClaim.holds_of_wide 6 Tryz.f6 rfl rfl rfl rfl rfl rfl rfl ⟨rfl, rfl, rfl, rfl, rfl⟩ rfl rfl rfl rfl rfl (by kernel_rfl) Tryz.func6 (by kernel_rfl)
    (of_decide_eq_true (by kernel_rfl)) (by unfold Func.isWrapper; rw [if_neg (of_decide_eq_false (by kernel_rfl))]; exact ⟨rfl, rfl⟩)
    (fun os started H enc _ => liftedRatioBack os started H enc)
theorem ratioBack_holds : Rows.RatioBackCardSaid :=
  Claim7.holds_tied_plain_at .later [] [.data, .pinned] true (true, "c9699e65e6934fe35cd3ec2aff4e45b52a3c715e77c50a88570d36f2513a0942") true ratioBack_row (fun _ h => by cases h) (by kernel_rfl) (fun _ h => by cases h) ratioBack_row_tie rfl ⟨rfl, rfl⟩ (by kernel_rfl) rfl
    (fun f fn hf hfn => by
      obtain rfl : f = 6 := Option.some.inj ((show Tryz.prog.funcNamed "podium/podiumlaw10.RatioBack" = some 6 by kernel_rfl).symm.trans hf) |>.symm
      obtain rfl : fn = Tryz.f6 := (Option.some.inj (Tryz.func6.symm.trans hfn)).symm
      exact ⟨by kernel_rfl, fun j t ht => by
        rw [Tryz.params6] at ht
        have hm : t ∈ [26, 9] := by simpa using Array.mem_of_getElem? ht
        have hall : ([26, 9].all fun u => !Tryz.prog.wantsStandIn u) = true := by kernel_rfl
        exact (show Tryz.prog.wantsStandIn t = false by simpa using List.all_eq_true.1 hall t hm)⟩)
    (by kernel_rfl)

#print axioms ratioBack_holds
end Go.Proofs.YtnpeakahiedeoaaGreatDoor

