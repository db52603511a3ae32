import Derived.Test.YtmcbbhlglccmgaaGreatW9
import Derived.Test.YtmcbbhlglccmgaaGreatWSroot
import Derived.Below
namespace Go.Proofs.YtmcbbhlglccmgaaGreat
open Go.RowKit Go BigFrame Go.Shelf
set_option maxRecDepth 100000
set_option linter.unusedSimpArgs false
set_option linter.unusedVariables false

/-! Layer 42: the reference's errors, and small functions of the law. -/
theorem ret_iW {k : IntKind} {a b : Int} (h : a = b) : Ending.returned (.int k a) = .returned (.int k b) := by rw [h]
theorem any_takeW {α : Type} {B : α → Bool} {m : List α} {k : Nat} {x : α} (hx : m[k]? = some x) (h : (m.take k).any B = false) (hb : B x = false) : (m.take (k + 1)).any B = false := by
  rw [take_get hx, List.any_append, h]; simp [hb]
theorem any_memW {α : Type} {B : α → Bool} {m : List α} {k : Nat} {x : α} (hx : m[k]? = some x) (hb : B x = true) : m.any B = true := List.any_eq_true.2 ⟨x, List.mem_of_getElem? hx, hb⟩
theorem errW_parts {m : List (List Int)} {r0 : List Int} (h1 : ¬ 64 < m.length) (h2 : m.any longB = false) (h3 : m[0]? = some r0) : errW m = if r0.length < 2 then 420 else if m.any (wrongB r0.length) = true then 420 else 0 := by
  cases m with
  | nil => cases h3
  | cons r t =>
    have : r = r0 := by simpa using h3
    subst this
    unfold errW
    rw [if_neg h1, if_neg (by rw [h2]; simp)]
set_option maxHeartbeats 8000000 in
theorem ref42_Error (a : Option Addr) (cap : Nat) (m : List (List Int)) (w : World) (h : Rows w a cap m) :
    Calls Tryz.prog 48 #[.slice a m.length cap] w fun e w' => e = .returned (.int .i64 (errW m)) ∧ Ext w w' := by
  have hle := h.le
  have hmx := h.mx
  obtain ⟨E, hE⟩ : ∃ E, errW m = E := ⟨_, rfl⟩
  rw [hE]
  have HE := Lib.hid hE
  have HH := Lib.hid h
  by_cases h1 : 64 < m.length
  · have t1 : decide ((64 : Int) < (m.length : Int)) = true := decide_eq_true (by omega)
    obtain rfl : E = 2 := hE.symm.trans (by simp [errW, h1])
    clear h hE HE HH
    go_enter Tryz.func48, Tryz.ntmps48
    go_wp2_with fail
    go_ret
    exact ⟨rfl, Ext.refl _⟩
  have t1 : decide ((64 : Int) < (m.length : Int)) = false := decide_eq_false (by omega)
  have H1 := Lib.hid h1
  clear h hE
  go_enter Tryz.func48, Tryz.ntmps48
  go_wp2_with fail
  go_loop [3] (fun i => ∃ k : Nat, k ≤ m.length ∧ i = .int .i64 k ∧ (m.take k).any longB = false) (fun i => m.length - (intOf i).toNat)
  case atStart => exact ⟨0, Nat.zero_le _, rfl, rfl⟩
  case round =>
    obtain ⟨k, hk, rfl, hno⟩ := hrel
    have HNO := Lib.hid hno
    clear hno
    have g1 : (0 : Int) ≤ (k : Int) := by omega
    by_cases hkn : k < m.length
    · obtain ⟨b, o, rfl⟩ := HH.out.head hkn
      obtain ⟨x, a2, c2, hx, hc, hI⟩ := Rows.get HH.out hkn
      have xle := hI.le
      have xmx := hI.mx
      have g2 : (k : Int) < (m.length : Int) := by omega
      have HX := Lib.hid hx
      clear hx hI
      by_cases hl : 16 < x.length
      · have t2 : decide ((16 : Int) < (x.length : Int)) = true := decide_eq_true (by omega)
        have HB : Hid (longB x = true) := Lib.hid (decide_eq_true hl)
        go_wp2_with fail
        go_ret
        exact ⟨ret_iW (by rw [← HE.out]; unfold errW; rw [if_neg H1.out, if_pos (any_memW HX.out HB.out)]), Ext.refl _⟩
      · have t2 : decide ((16 : Int) < (x.length : Int)) = false := decide_eq_false (by omega)
        have HB : Hid (longB x = false) := Lib.hid (decide_eq_false hl)
        go_wp2_with fail
        go_round
        case rel => exact ⟨k + 1, by omega, by go_num, any_takeW HX.out HNO.out HB.out⟩
        case measure => simp [intOf]; omega
    · have HNL : Hid (m.any longB = false) := Lib.hid (by have := HNO.out; rwa [List.take_of_length_le (by omega)] at this)
      clear HNO
      by_cases h0 : m.length = 0
      · obtain rfl : m = [] := List.length_eq_zero_iff.1 h0
        simp only [List.length_nil] at *
        have g3 : ¬ (k : Int) < 0 := by omega
        go_wp2_with fail
        go_ret
        exact ⟨ret_iW (by rw [← HE.out]; unfold errW; simp), Ext.refl _⟩
      · obtain ⟨r0, hr0⟩ : ∃ r0, m[0]? = some r0 := ⟨_, List.getElem?_eq_getElem (by omega)⟩
        have HP := Lib.hid (errW_parts H1.out HNL.out hr0)
        have hp0 : 0 < m.length := by omega
        obtain ⟨b, o, rfl⟩ := HH.out.head hp0
        obtain ⟨r1, a2, c2, hr1, hc1, hI1⟩ := Rows.get HH.out hp0
        rw [hr0] at hr1
        cases hr1
        simp only [Nat.add_zero] at hc1
        have HC1 := Lib.hid hc1
        have r0le := hI1.le
        have r0mx := hI1.mx
        have g3 : ¬ (k : Int) < (m.length : Int) := by omega
        have g4 : (0 : Int) < (m.length : Int) := by omega
        have t3 : ((m.length : Int) == 0) = false := beq_false_of_ne (by omega)
        have t3n : ¬ m = [] := List.ne_nil_of_length_pos hp0
        have HR0 := Lib.hid hr0
        clear hr0 hI1
        by_cases h2 : r0.length < 2
        · have t4 : decide ((r0.length : Int) < 2) = true := decide_eq_true (by omega)
          go_wp2_with fail
          go_ret
          exact ⟨ret_iW (by rw [← HE.out, HP.out, if_pos h2]), Ext.refl _⟩
        have t4 : decide ((r0.length : Int) < 2) = false := decide_eq_false (by omega)
        go_wp2_with fail
        clear t1 t3 t3n g3 hc1 t4 g1
        go_loopw [4] (fun i wr => ∃ k : Nat, k ≤ m.length ∧ i = .int .i64 k ∧ (m.take k).any (wrongB r0.length) = false ∧ Ext w wr) (fun i _ => m.length - (intOf i).toNat)
        case atStart => exact ⟨0, Nat.zero_le _, rfl, rfl, Ext.refl _⟩
        case round =>
          obtain ⟨i, hi, rfl, hno, hxr⟩ := hrel
          generalize wr = wR at *
          have HNO := Lib.hid hno
          clear hno
          have g1 : (0 : Int) ≤ (i : Int) := by omega
          by_cases hin : i < m.length
          · obtain ⟨x, a3, c3, hx, hc, hI⟩ := Rows.get (HH.out.ext hxr) hin
            have xle := hI.le
            have xmx := hI.mx
            have g2 : (i : Int) < (m.length : Int) := by omega
            have HX := Lib.hid hx
            have HI := Lib.hid hI
            have hc1 := cell_exQ hxr HC1.out
            clear hx hI
            by_cases hl : x.length = r0.length
            · have t2 : ((x.length : Int) != (r0.length : Int)) = false := by simp [hl]
              have HL := Lib.hid hl
              have HL1 : Hid (wrongB r0.length x = x.any offB) := Lib.hid (by unfold wrongB; rw [hl]; simp)
              clear hl
              go_wp2_with fail
              go_quiet (fail)
              go_wp2_with fail
              go_loopw [5] (fun i wr => ∃ k : Nat, k ≤ x.length ∧ i = .int .i64 k ∧ (x.take k).any offB = false ∧ Ext wR wr) (fun i _ => x.length - (intOf i).toNat)
              case atStart => exact ⟨0, Nat.zero_le _, rfl, rfl, (Ext.refl _).drewN _⟩
              case round =>
                obtain ⟨j, hj, rfl, hno2, hyr⟩ := hrel
                have HNO2 := Lib.hid hno2
                clear hno2
                have hcr := cell_exQ hyr hc
                have g5 : (0 : Int) ≤ (j : Int) := by omega
                by_cases hjn : j < x.length
                · obtain ⟨b3, o3, rfl⟩ := HI.out.head hjn
                  obtain ⟨y, hy, hcy, y1, y2⟩ := Ints.get (HI.out.ext hyr) hjn
                  have HY := Lib.hid hy
                  have g6 : (j : Int) < (x.length : Int) := by omega
                  clear hy hc hc1
                  by_cases hy1 : y < 0
                  · have HB : Hid (offB y = true) := Lib.hid (by simp [offB, hy1])
                    have t5 : decide (y < 0) = true := decide_eq_true hy1
                    go_wp2_with fail
                    go_ret
                    exact ⟨ret_iW (by rw [← HE.out, HP.out, if_neg h2, if_pos (any_memW HX.out (by rw [HL1.out]; exact any_memW HY.out HB.out))]), hxr.trans hyr⟩
                  have t5 : decide (y < 0) = false := decide_eq_false hy1
                  by_cases hy2 : 1000 < y
                  · have HB : Hid (offB y = true) := Lib.hid (by simp [offB, hy2])
                    have t6 : decide (1000 < y) = true := decide_eq_true hy2
                    go_wp2_with fail
                    go_ret
                    exact ⟨ret_iW (by rw [← HE.out, HP.out, if_neg h2, if_pos (any_memW HX.out (by rw [HL1.out]; exact any_memW HY.out HB.out))]), hxr.trans hyr⟩
                  have t6 : decide (1000 < y) = false := decide_eq_false hy2
                  have HB : Hid (offB y = false) := Lib.hid (by simp [offB, hy1, hy2])
                  go_wp2_with fail
                  go_roundw
                  case rel => exact ⟨j + 1, by omega, by go_num, any_takeW HY.out HNO2.out HB.out, hyr⟩
                  case measure => simp [intOf]; omega
                · have HB : Hid (wrongB r0.length x = false) := Lib.hid (by rw [HL1.out]; have := HNO2.out; rwa [List.take_of_length_le (by omega)] at this)
                  have g6 : ¬ (j : Int) < (x.length : Int) := by omega
                  go_wp2_with fail
                  go_roundw
                  case rel => exact ⟨i + 1, by omega, by go_num, any_takeW HX.out HNO.out HB.out, hxr.trans hyr⟩
                  case measure => simp [intOf]; omega
            · have t2 : ((x.length : Int) != (r0.length : Int)) = true := by simp; omega
              have HB : Hid (wrongB r0.length x = true) := Lib.hid (by simp [wrongB, hl])
              go_wp2_with fail
              go_quiet (fail)
              go_wp2_with fail
              go_ret
              exact ⟨ret_iW (by rw [← HE.out, HP.out, if_neg h2, if_pos (any_memW HX.out HB.out)]), hxr.drewN _⟩
          · have g2 : ¬ (i : Int) < (m.length : Int) := by omega
            go_wp2_with fail
            go_ret
            exact ⟨ret_iW (by rw [← HE.out, HP.out, if_neg h2, if_neg (by have := HNO.out; rw [List.take_of_length_le (by omega)] at this; rw [this]; simp)]), hxr⟩
end Go.Proofs.YtmcbbhlglccmgaaGreat

namespace Go.Proofs.YtmcbbhlglccmgaaGreat
open Go.RowKit Go BigFrame Go.Shelf
set_option maxRecDepth 100000
set_option linter.unusedSimpArgs false
set_option linter.unusedVariables false

/-! Layer 42: small functions of the law. -/
def SomeBW (w : World) (e : Ending) (w' : World) : Prop := (∃ b, e = .returned (.bool b)) ∧ w = w'
set_option maxHeartbeats 2000000 in
theorem ref42_FewMates (a : Option Addr) (cap : Nat) (m : List (List Bool)) (w : World) (h : BRows w a cap m) : Calls Tryz.prog 8 #[.slice a m.length cap] w (SomeBW w) := by
  have hle := h.le
  have hmx := h.mx
  have HH := Lib.hid h
  by_cases h1 : 80 < m.length
  · have t1 : decide ((80 : Int) < (m.length : Int)) = true := decide_eq_true (by omega)
    clear h HH
    go_enter Tryz.func8, Tryz.ntmps8
    go_wp2_with fail
    go_ret
    exact ⟨⟨_, rfl⟩, rfl⟩
  have t1 : decide ((80 : Int) < (m.length : Int)) = false := decide_eq_false (by omega)
  clear h
  go_enter Tryz.func8, Tryz.ntmps8
  go_wp2_with fail
  go_loop [3] (fun i => ∃ k : Nat, k ≤ m.length ∧ i = .int .i64 k) (fun i => m.length - (intOf i).toNat)
  case atStart => exact ⟨0, Nat.zero_le _, rfl⟩
  case round =>
    obtain ⟨k, hk, rfl⟩ := hrel
    have g1 : (0 : Int) ≤ (k : Int) := by omega
    by_cases hkn : k < m.length
    · obtain ⟨b, o, rfl⟩ := HH.out.head hkn
      obtain ⟨x, a2, c2, hx, hc, hI⟩ := BRows.get HH.out hkn
      have xle := hI.le
      have xmx := hI.mx
      have g2 : (k : Int) < (m.length : Int) := by omega
      clear hx hI
      by_cases hl : 30 < x.length
      · have t2 : decide ((30 : Int) < (x.length : Int)) = true := decide_eq_true (by omega)
        go_wp2_with fail
        go_ret
        exact ⟨⟨_, rfl⟩, rfl⟩
      · have t2 : decide ((30 : Int) < (x.length : Int)) = false := decide_eq_false (by omega)
        go_wp2_with fail
        go_round
        case rel => exact ⟨k + 1, by omega, by go_num⟩
        case measure => simp [intOf]; omega
    · have g3 : ¬ (k : Int) < (m.length : Int) := by omega
      go_wp2_with fail
      go_ret
      exact ⟨⟨_, rfl⟩, rfl⟩
def rightW (m : List (List Int)) (most : Nat) : Bool := decide (m.length ≤ most) && decide (errW m = 0)
set_option maxHeartbeats 2000000 in
theorem law42_is {pv : Value} {r : Rat} (n d : Int) (w : World) (hp : RatV w pv r) (hn : -9223372036854775808 ≤ n ∧ n ≤ 9223372036854775807) (hd : -9223372036854775808 ≤ d ∧ d ≤ 9223372036854775807) (h0 : d ≠ 0) :
    Calls Tryz.prog 22 #[pv, .int .i64 0, .int .i64 n, .int .i64 d] w fun e w' => e = .returned (.bool (decide (r = Rat.divInt n d))) ∧ Ext w w' := by
  obtain ⟨n1, a1, q1, c1, b1, k1, d1, rfl⟩ := hp.form
  have V0 := Lib.hid hp
  have HM := Lib.hid (fun W => rMakeR n d W hn hd h0)
  clear hp hn hd h0
  obtain ⟨bb, hbb⟩ : ∃ bb, decide (r = Rat.divInt n d) = bb := ⟨_, rfl⟩
  rw [hbb]
  have HB := Lib.hid hbb
  clear hbb
  obtain ⟨x1, hw, hx, Kp⟩ := boxQ1 w #[.bool n1, .slice a1 q1 c1, .bool false, .slice b1 k1 d1] 34
  replace hw := Lib.hid hw
  replace V0 := Lib.hid (V0.out.ext hx)
  go_enter Tryz.func22, Tryz.ntmps22
  go_upto_region 1 with fail
  rw [hw.out]
  clear hw
  have hs0 := hx.size
  obtain ⟨cp0, cp1, cp2, cp3⟩ := bk4 Kp
  have hsz := hx.size
  go_wp2_with fail
  clear cp0 cp1 cp2 cp3
  refine (HM.out _).mono ?_
  rintro e x2 ⟨v, rfl, hv, hy⟩
  replace hx := hx.trans hy
  replace Kp := kE Kp hy
  replace V0 := Lib.hid (V0.out.ext hy)
  clear hy HM
  obtain ⟨nx, ax, qx, cx, bx, kx, dx, rfl, hv', hf', hg'⟩ := hv
  have Vx := Lib.hid hv'
  have Fx := Lib.hid (fun A hA => Nat.le_trans hsz (hf' A hA))
  have Gx := Lib.hid (fun A hA => Nat.le_trans hsz (hg' A hA))
  clear hv' hf' hg' hsz
  clear Fx Gx
  go_upto_region 2 with fail
  have hl := Ext.alloc x2 (.cells #[.bool nx, .slice ax qx cx, .bool false, .slice bx kx dx] 34)
  have lpx : w.heap.size < x2.heap.size := Kp.out.lt
  have hpx : w.heap.size ≤ x2.heap.size := hx.size
  replace hx := hx.trans hl
  replace Kp := kE Kp hl
  replace V0 := Lib.hid (V0.out.ext hl)
  replace Vx := Lib.hid (Vx.out.ext hl)
  have Kx := Lib.hid (Blk.new0 x2 #[.bool nx, .slice ax qx cx, .bool false, .slice bx kx dx] 34)
  clear hl
  generalize x2.alloc (.cells #[.bool nx, .slice ax qx cx, .bool false, .slice bx kx dx] 34) = x3 at *
  generalize x2.heap.size = px at *
  obtain ⟨cp0, cp1, cp2, cp3⟩ := bk4 Kp
  obtain ⟨cx0, cx1, cx2, cx3⟩ := bk4 Kx
  go_wp2_with fail
  with_reducible refine ((same_rat V0.out Vx.out)).mono ?_
  clear cp0 cp1 cp2 cp3 cx0 cx1 cx2 cx3
  rintro e x4 ⟨rfl, hy⟩
  replace hx := hx.trans hy
  replace Kp := kE Kp hy
  replace Kx := kE Kx hy
  replace V0 := Lib.hid (V0.out.ext hy)
  replace Vx := Lib.hid (Vx.out.ext hy)
  clear hy
  rw [HB.out]
  go_wp2_with fail
  go_ret
  exact ⟨rfl, hx⟩
end Go.Proofs.YtmcbbhlglccmgaaGreat

namespace Go.Proofs.YtmcbbhlglccmgaaGreat
open Go.RowKit Go BigFrame Go.Shelf
set_option maxRecDepth 100000
set_option linter.unusedSimpArgs false
set_option linter.unusedVariables false

/-! law42.sane. -/
theorem SlOf.of_blk {α : Type} {R : World → Value → α → Prop} {w : World} {g : Nat} {cs : Array Value} {t : TypeId} {xs : List α} (h : Blk w g cs t) (hx : xs.length ≤ 1000000) (hc : ∀ i (hi : i < xs.length), ∃ v, cs[i]? = some v ∧ R w v xs[i]) : SlOf R w (some ⟨g, 0, none⟩) xs.length xs :=
  ⟨Nat.le_refl _, by omega, by simp, fun A hA i hi => by
    cases hA
    obtain ⟨v, h1, h2⟩ := hc i hi
    exact ⟨rfl, v, by simpa using h.cell h1, h2⟩⟩
theorem ints_blk {w : World} {g : Nat} {l : List Int} (h : Blk w g (l.map (Value.int .i64)).toArray 3) (hl : l.length ≤ 1000000) (hb : ∀ x ∈ l, -1000000 ≤ x ∧ x ≤ 1000000) : Ints w (some ⟨g, 0, none⟩) l.length l :=
  SlOf.of_blk h hl fun i hi => ⟨.int .i64 l[i], by simp [hi], rfl, by have := hb l[i] (List.getElem_mem hi); omega⟩
abbrev cI (l : List Int) : Obj := .cells (l.map (Value.int .i64)).toArray 3
abbrev sI (p : Nat) (l : List Int) : Value := .slice (some ⟨p, 0, none⟩) l.length l.length
theorem lay1 (w : World) (r1 : List Int) (h1 : r1.length ≤ 1000000) (b1 : ∀ x ∈ r1, -1000000 ≤ x ∧ x ≤ 1000000) :
    Rows ((w.alloc (cI r1)).alloc (.cells #[sI w.heap.size r1] 27)) (some ⟨w.heap.size + 1, 0, none⟩) 1 [r1] :=
  SlOf.of_blk (xs := [r1]) (Blk.new1 w (cI r1) #[sI w.heap.size r1] 27) (by simp) fun i hi => match i, hi with
    | 0, _ => ⟨_, rfl, _, _, rfl, ints_blk ((Blk.new0 w _ _).alloc _) h1 b1⟩
theorem lay3 (w : World) (r1 r2 r3 : List Int) (h1 : r1.length ≤ 1000000 ∧ r2.length ≤ 1000000 ∧ r3.length ≤ 1000000) (b1 : ∀ x ∈ r1, -1000000 ≤ x ∧ x ≤ 1000000) (b2 : ∀ x ∈ r2, -1000000 ≤ x ∧ x ≤ 1000000) (b3 : ∀ x ∈ r3, -1000000 ≤ x ∧ x ≤ 1000000) :
    Rows ((((w.alloc (cI r1)).alloc (cI r2)).alloc (cI r3)).alloc (.cells #[sI w.heap.size r1, sI (w.heap.size + 1) r2, sI (w.heap.size + 2) r3] 27)) (some ⟨w.heap.size + 3, 0, none⟩) 3 [r1, r2, r3] :=
  SlOf.of_blk (xs := [r1, r2, r3]) (by have := Blk.new0 (((w.alloc (cI r1)).alloc (cI r2)).alloc (cI r3)) #[sI w.heap.size r1, sI (w.heap.size + 1) r2, sI (w.heap.size + 2) r3] 27; simpa using this) (by simp) fun i hi => match i, hi with
    | 0, _ => ⟨_, rfl, _, _, rfl, ints_blk ((((Blk.new0 w _ _).alloc _).alloc _).alloc _) h1.1 b1⟩
    | 1, _ => ⟨_, rfl, _, _, rfl, ints_blk (((Blk.new1 w _ _ _).alloc _).alloc _) h1.2.1 b2⟩
    | 2, _ => ⟨_, rfl, _, _, rfl, ints_blk ((Blk.new2 w _ _ _ _).alloc _) h1.2.2 b3⟩
theorem lay4 (w : World) (r1 r2 r3 r4 : List Int) (h1 : r1.length ≤ 1000000 ∧ r2.length ≤ 1000000 ∧ r3.length ≤ 1000000 ∧ r4.length ≤ 1000000) (b1 : ∀ x ∈ r1, -1000000 ≤ x ∧ x ≤ 1000000) (b2 : ∀ x ∈ r2, -1000000 ≤ x ∧ x ≤ 1000000) (b3 : ∀ x ∈ r3, -1000000 ≤ x ∧ x ≤ 1000000) (b4 : ∀ x ∈ r4, -1000000 ≤ x ∧ x ≤ 1000000) :
    Rows (((((w.alloc (cI r1)).alloc (cI r2)).alloc (cI r3)).alloc (cI r4)).alloc (.cells #[sI w.heap.size r1, sI (w.heap.size + 1) r2, sI (w.heap.size + 2) r3, sI (w.heap.size + 3) r4] 27)) (some ⟨w.heap.size + 4, 0, none⟩) 4 [r1, r2, r3, r4] :=
  SlOf.of_blk (xs := [r1, r2, r3, r4]) (by have := Blk.new0 ((((w.alloc (cI r1)).alloc (cI r2)).alloc (cI r3)).alloc (cI r4)) #[sI w.heap.size r1, sI (w.heap.size + 1) r2, sI (w.heap.size + 2) r3, sI (w.heap.size + 3) r4] 27; simpa using this) (by simp) fun i hi => match i, hi with
    | 0, _ => ⟨_, rfl, _, _, rfl, ints_blk (((((Blk.new0 w _ _).alloc _).alloc _).alloc _).alloc _) h1.1 b1⟩
    | 1, _ => ⟨_, rfl, _, _, rfl, ints_blk ((((Blk.new1 w _ _ _).alloc _).alloc _).alloc _) h1.2.1 b2⟩
    | 2, _ => ⟨_, rfl, _, _, rfl, ints_blk (((Blk.new2 w _ _ _ _).alloc _).alloc _) h1.2.2.1 b3⟩
    | 3, _ => ⟨_, rfl, _, _, rfl, ints_blk (((by have := Blk.new0 (((w.alloc (cI r1)).alloc (cI r2)).alloc (cI r3)) (r4.map (Value.int .i64)).toArray 3; simpa using this : Blk ((((w.alloc (cI r1)).alloc (cI r2)).alloc (cI r3)).alloc (cI r4)) (w.heap.size + 3) _ _)).alloc _) h1.2.2.2 b4⟩
theorem bools_blk {w : World} {g : Nat} {l : List Bool} (h : Blk w g (l.map Value.bool).toArray 4) (hl : l.length ≤ 1000000) : Bools w (some ⟨g, 0, none⟩) l.length l :=
  SlOf.of_blk h hl fun i hi => ⟨.bool l[i], by simp [hi], rfl⟩
theorem brows4 {w : World} {p1 p2 p3 p4 : Nat} {b1 b2 b3 b4 : List Bool} (h1 : Bools w (some ⟨p1, 0, none⟩) b1.length b1) (h2 : Bools w (some ⟨p2, 0, none⟩) b2.length b2) (h3 : Bools w (some ⟨p3, 0, none⟩) b3.length b3) (h4 : Bools w (some ⟨p4, 0, none⟩) b4.length b4) :
    BRows (w.alloc (.cells #[.slice (some ⟨p1, 0, none⟩) b1.length b1.length, .slice (some ⟨p2, 0, none⟩) b2.length b2.length, .slice (some ⟨p3, 0, none⟩) b3.length b3.length, .slice (some ⟨p4, 0, none⟩) b4.length b4.length] 44)) (some ⟨w.heap.size, 0, none⟩) 4 [b1, b2, b3, b4] :=
  SlOf.of_blk (xs := [b1, b2, b3, b4]) (Blk.new0 w _ 44) (by simp) fun i hi => match i, hi with
    | 0, _ => ⟨_, rfl, _, _, rfl, h1.ext (Ext.alloc _ _)⟩
    | 1, _ => ⟨_, rfl, _, _, rfl, h2.ext (Ext.alloc _ _)⟩
    | 2, _ => ⟨_, rfl, _, _, rfl, h3.ext (Ext.alloc _ _)⟩
    | 3, _ => ⟨_, rfl, _, _, rfl, h4.ext (Ext.alloc _ _)⟩
theorem rowsNil (w : World) : Rows w none 0 [] := ⟨by simp, by omega, fun _ => rfl, fun A hA => by cases hA⟩
theorem browsNil (w : World) : BRows w none 0 [] := ⟨by simp, by omega, fun _ => rfl, fun A hA => by cases hA⟩
abbrev four42 : List (List Int) := [[5, 5], [5, 5], [9, 2], [5, 5]]
abbrev mates42 : List (List Bool) := [[false, false], [false, false], [true, false], [false, false]]
abbrev none42 : List (List Bool) := [[false, false], [false, false], [false, false], [false, false]]
theorem fq1 : favQ four42 mates42 0 = Rat.divInt 1 4 := by unfold favQ; rw [show cs (favS (aboveL four42 0) mates42 0 mates42.length) (favN mates42 0 mates42.length) (aboveL four42 0) 0 = 1 by decide +kernel, show bin four42.length (favN mates42 0 mates42.length) = 4 by decide +kernel]; rfl
theorem fq2 : favQ four42 none42 0 = Rat.divInt 1 1 := by unfold favQ; rw [show cs (favS (aboveL four42 0) none42 0 none42.length) (favN none42 0 none42.length) (aboveL four42 0) 0 = 1 by decide +kernel, show bin four42.length (favN none42 0 none42.length) = 1 by decide +kernel]; rfl
theorem aq1 : agrQ [[1, 1], [2, 2], [3, 3]] 0 1 = Rat.divInt 1 6 := by unfold agrQ; rw [show cntG eqP (colW [[1, 1], [2, 2], [3, 3]] 0) (colW [[1, 1], [2, 2], [3, 3]] 1) (cntE (colW [[1, 1], [2, 2], [3, 3]] 0) (colW [[1, 1], [2, 2], [3, 3]] 1) [[(1 : Int), 1], [2, 2], [3, 3]].length : Nat) = 1 by decide +kernel, show factW [[(1 : Int), 1], [2, 2], [3, 3]].length = 6 by decide +kernel]; rfl
theorem dq1 : driQ [[1, 5], [3, 5], [7, 5]] 0 = Rat.divInt 1 6 := by unfold driQ; rw [show cntG mulP (iota [[(1 : Int), 5], [3, 5], [7, 5]].length) (aboveL [[1, 5], [3, 5], [7, 5]] 0) (dsum (aboveL [[1, 5], [3, 5], [7, 5]] 0) [[(1 : Int), 5], [3, 5], [7, 5]].length) = 1 by decide +kernel, show factW [[(1 : Int), 5], [3, 5], [7, 5]].length = 6 by decide +kernel]; rfl
theorem dq2 : driQ [[1, 5]] 1 = Rat.divInt 1 1 := by unfold driQ; rw [show cntG mulP (iota [[(1 : Int), 5]].length) (aboveL [[1, 5]] 1) (dsum (aboveL [[1, 5]] 1) [[(1 : Int), 5]].length) = 1 by decide +kernel, show factW [[(1 : Int), 5]].length = 1 by decide +kernel]; rfl
abbrev b64 (x : Int) : Prop := -9223372036854775808 ≤ x ∧ x ≤ 9223372036854775807
theorem s42a {w : World} {a : Option Addr} (h : Rows w a 1 [[5, 3, 1]]) : Calls Tryz.prog 9 #[.slice a 1 1, .int .i64 0] w fun e w' => (∃ b c, e = .returned (.tuple #[.slice (some ⟨b, 0, none⟩) 1 c, .int .i64 0]) ∧ 1 ≤ c ∧ c ≤ 9223372036854775807 ∧ w'.cell? ⟨b, 0, none⟩ = some (.int .i64 6)) ∧ Ext w w' := by
  refine (findings_Against a 1 [[5, 3, 1]] 0 w h (by omega)).mono fun e w' ⟨_, h2, hx⟩ => ?_
  obtain ⟨v, rfl, hv⟩ := h2 (by decide +kernel)
  refine ⟨?_, hx⟩
  have e6 : aboveL [[5, 3, 1]] (0 : Int).toNat = [6] := by decide +kernel
  rw [e6] at hv
  rcases hv.2 with ⟨rfl, h0⟩ | ⟨g, cap, cur, rfl, hB, _, h1, h2, _⟩
  · cases h0
  · exact ⟨g, cap, rfl, h1, by unfold maxLen at h2; omega, by have := World.ownsRow.cellAt hv 0 (by simp); simpa using this⟩
theorem s42b (w : World) : Calls Tryz.prog 9 #[.slice none 0 0, .int .i64 0] w fun e w' => e = .returned (.tuple #[.slice none 0 0, .int .i64 420]) ∧ Ext w w' :=
  (findings_Against none 0 [] 0 w (rowsNil w) (by omega)).mono fun e w' ⟨h1, _, hx⟩ => ⟨by
    have e6 : askW [] [0] = 420 := by decide +kernel
    rw [← e6]
    exact h1 (by rw [e6]; decide), hx⟩
theorem s42c {w : World} {a a2 : Option Addr} (h : Rows w a 4 four42) (h2 : BRows w a2 4 mates42) : Calls Tryz.prog 11 #[.slice a 4 4, .slice a2 4 4, .int .i64 0] w (RatP (Rat.divInt 1 4) w) := by
  rw [← fq1]
  exact findings_Favour_ok a a2 4 4 four42 mates42 0 w h h2 (by omega) (by decide +kernel) rfl (by decide +kernel) (by decide)
theorem s42d {w : World} {a a2 : Option Addr} (h : Rows w a 4 four42) (h2 : BRows w a2 4 none42) : Calls Tryz.prog 11 #[.slice a 4 4, .slice a2 4 4, .int .i64 0] w (RatP (Rat.divInt 1 1) w) := by
  rw [← fq2]
  exact findings_Favour_ok a a2 4 4 four42 none42 0 w h h2 (by omega) (by decide +kernel) rfl (by decide +kernel) (by decide)
theorem s42e {w : World} {a : Option Addr} (h : Rows w a 4 four42) : Calls Tryz.prog 11 #[.slice a 4 4, .slice none 0 0, .int .i64 0] w (RatE 420 w) :=
  findings_Favour_len a none 4 0 four42 [] 0 w h (browsNil w) (by omega) (by decide +kernel) (by decide)
theorem s42f {w : World} {a : Option Addr} (h : Rows w a 3 [[1, 1], [2, 2], [3, 3]]) : Calls Tryz.prog 13 #[.slice a 3 3, .int .i64 0, .int .i64 1] w (RatP (Rat.divInt 1 6) w) := by
  rw [← aq1]
  exact findings_Agree_ok a 3 [[1, 1], [2, 2], [3, 3]] 0 1 w h (by omega) (by omega) (by decide +kernel) (by decide) (by decide)
theorem s42g {w : World} {a : Option Addr} (h : Rows w a 4 four42) : Calls Tryz.prog 13 #[.slice a 4 4, .int .i64 0, .int .i64 0] w (RatE 1 w) :=
  findings_Agree_same a 4 four42 0 0 w h (by omega) (by omega) (by decide +kernel) rfl
theorem s42h {w : World} {a : Option Addr} (h : Rows w a 3 [[1, 5], [3, 5], [7, 5]]) : Calls Tryz.prog 15 #[.slice a 3 3, .int .i64 0] w (RatP (Rat.divInt 1 6) w) := by
  rw [← dq1]
  exact findings_Drift_ok a 3 [[1, 5], [3, 5], [7, 5]] 0 w h (by omega) (by decide +kernel) (by decide)
theorem s42i {w : World} {a : Option Addr} (h : Rows w a 1 [[1, 5]]) : Calls Tryz.prog 15 #[.slice a 1 1, .int .i64 1] w (RatP (Rat.divInt 1 1) w) := by
  rw [← dq2]
  exact findings_Drift_ok a 1 [[1, 5]] 1 w h (by omega) (by decide +kernel) (by decide)
theorem s42j {w : World} {a : Option Addr} (h : Rows w a 4 four42) : Calls Tryz.prog 15 #[.slice a 4 4, .int .i64 2] w (RatE 1 w) := by
  have := findings_Drift_ask a 4 four42 2 w h (by omega) (by decide +kernel)
  rwa [show askW four42 [2] = 1 by decide +kernel] at this
structure CellS (w : World) (b : Nat) (v : Value) : Prop where
  h : w.cell? ⟨b, 0, none⟩ = some v
theorem CellS.ext {w w' : World} {b : Nat} {v : Value} (h : CellS w b v) (k : Ext w w') : CellS w' b v := ⟨cell_exQ k h.h⟩
set_option maxHeartbeats 8000000 in
theorem law42_sane (w : World) : Calls Tryz.prog 6 #[] w fun e w' => e = .returned (.bool true) ∧ Ext w w' := by
  have hx : Ext w w := Ext.refl w
  go_enter Tryz.func6, Tryz.ntmps6
  go_upto_region 1 with fail
  have hs0 := hx.size
  have hR : Rows (World.alloc (World.alloc w (.cells #[.int .i64 5, .int .i64 3, .int .i64 1] 3)) (.cells #[.slice (some ⟨Array.size (World.heap w), 0, none⟩) 3 3] 27)) (some ⟨Array.size (World.heap w) + 1, 0, none⟩) 1 [[5, 3, 1]] := lay1 w [5, 3, 1] (by decide) (by decide)
  have hl : Ext w (World.alloc (World.alloc w (.cells #[.int .i64 5, .int .i64 3, .int .i64 1] 3)) (.cells #[.slice (some ⟨Array.size (World.heap w), 0, none⟩) 3 3] 27)) := (by repeat (first | with_reducible exact Ext.refl _ | with_reducible assumption | with_reducible refine Ext.drewN ?_ _ | with_reducible refine Ext.drew ?_ | with_reducible refine Ext.alloc' ?_ _ | with_reducible refine Ext.set ?_ (by dsimp only; omega) _))
  replace hx := hx.trans hl
  have HR1 := Lib.hid hR
  clear hR
  go_wp2_with fail
  with_reducible refine (s42a HR1.out).mono ?_
  rintro e x1 ⟨⟨b6, c6, rfl, c60, c61, hc6⟩, hy⟩
  replace hx := hx.trans hy
  replace HR1 := Lib.hid (HR1.out.ext hy)
  clear hy hl HR1
  have HC6 := Lib.hid (CellS.mk hc6)
  clear hc6
  go_wp2_with fail
  with_reducible refine (s42b _).mono ?_
  rintro e x2 ⟨rfl, hy⟩
  replace hx := hx.trans hy
  replace HC6 := Lib.hid (HC6.out.ext hy)
  clear hy
  have hR : Rows (World.alloc (World.alloc (World.alloc (World.alloc (World.alloc x2 (.cells #[.int .i64 5, .int .i64 5] 3)) (.cells #[.int .i64 5, .int .i64 5] 3)) (.cells #[.int .i64 9, .int .i64 2] 3)) (.cells #[.int .i64 5, .int .i64 5] 3)) (.cells #[.slice (some ⟨Array.size (World.heap x2), 0, none⟩) 2 2, .slice (some ⟨Array.size (World.heap x2) + 1, 0, none⟩) 2 2, .slice (some ⟨Array.size (World.heap x2) + 2, 0, none⟩) 2 2, .slice (some ⟨Array.size (World.heap x2) + 3, 0, none⟩) 2 2] 27)) (some ⟨Array.size (World.heap x2) + 4, 0, none⟩) 4 [[5, 5], [5, 5], [9, 2], [5, 5]] := lay4 x2 [5, 5] [5, 5] [9, 2] [5, 5] (by decide) (by decide) (by decide) (by decide) (by decide)
  have hl : Ext x2 (World.alloc (World.alloc (World.alloc (World.alloc (World.alloc x2 (.cells #[.int .i64 5, .int .i64 5] 3)) (.cells #[.int .i64 5, .int .i64 5] 3)) (.cells #[.int .i64 9, .int .i64 2] 3)) (.cells #[.int .i64 5, .int .i64 5] 3)) (.cells #[.slice (some ⟨Array.size (World.heap x2), 0, none⟩) 2 2, .slice (some ⟨Array.size (World.heap x2) + 1, 0, none⟩) 2 2, .slice (some ⟨Array.size (World.heap x2) + 2, 0, none⟩) 2 2, .slice (some ⟨Array.size (World.heap x2) + 3, 0, none⟩) 2 2] 27)) := (by repeat (first | with_reducible exact Ext.refl _ | with_reducible assumption | with_reducible refine Ext.drewN ?_ _ | with_reducible refine Ext.drew ?_ | with_reducible refine Ext.alloc' ?_ _ | with_reducible refine Ext.set ?_ (by dsimp only; omega) _))
  replace hx := hx.trans hl
  replace HC6 := Lib.hid (HC6.out.ext hl)
  have HF := Lib.hid hR
  clear hR
  go_upto_region 4 with fail
  clear hl
  generalize (World.alloc (World.alloc (World.alloc (World.alloc (World.alloc x2 (.cells #[.int .i64 5, .int .i64 5] 3)) (.cells #[.int .i64 5, .int .i64 5] 3)) (.cells #[.int .i64 9, .int .i64 2] 3)) (.cells #[.int .i64 5, .int .i64 5] 3)) (.cells #[.slice (some ⟨Array.size (World.heap x2), 0, none⟩) 2 2, .slice (some ⟨Array.size (World.heap x2) + 1, 0, none⟩) 2 2, .slice (some ⟨Array.size (World.heap x2) + 2, 0, none⟩) 2 2, .slice (some ⟨Array.size (World.heap x2) + 3, 0, none⟩) 2 2] 27)) = x3 at *
  generalize Array.size (World.heap x2) = pf at *
  have hb1 := (Blk.new0 x3 #[.bool false, .bool false] 4).alloc (.cells #[.bool true, .bool false] 4)
  have hb2 := Blk.new1 x3 (.cells #[.bool false, .bool false] 4) #[.bool true, .bool false] 4
  have hl : Ext x3 (World.alloc (World.alloc x3 (.cells #[.bool false, .bool false] 4)) (.cells #[.bool true, .bool false] 4)) := (by repeat (first | with_reducible exact Ext.refl _ | with_reducible assumption | with_reducible refine Ext.drewN ?_ _ | with_reducible refine Ext.drew ?_ | with_reducible refine Ext.alloc' ?_ _ | with_reducible refine Ext.set ?_ (by dsimp only; omega) _))
  replace hx := hx.trans hl
  replace HC6 := Lib.hid (HC6.out.ext hl)
  replace HF := Lib.hid (HF.out.ext hl)
  have HN := Lib.hid (bools_blk (l := [false, false]) hb1 (by decide))
  have HY := Lib.hid (bools_blk (l := [true, false]) hb2 (by decide))
  clear hb1 hb2 hl
  go_upto_region 5 with fail
  generalize (World.alloc (World.alloc x3 (.cells #[.bool false, .bool false] 4)) (.cells #[.bool true, .bool false] 4)) = x4 at *
  generalize Array.size (World.heap x3) = pb at *
  have hB := brows4 HN.out HN.out HY.out HN.out
  have hl := Ext.alloc x4 (.cells #[.slice (some ⟨pb, 0, none⟩) 2 2, .slice (some ⟨pb, 0, none⟩) 2 2, .slice (some ⟨pb + 1, 0, none⟩) 2 2, .slice (some ⟨pb, 0, none⟩) 2 2] 44)
  replace hx := hx.trans hl
  replace HC6 := Lib.hid (HC6.out.ext hl)
  replace HF := Lib.hid (HF.out.ext hl)
  replace HN := Lib.hid (HN.out.ext hl)
  replace HY := Lib.hid (HY.out.ext hl)
  have HB := Lib.hid hB
  clear hB
  have hsz := hx.size
  go_wp2_with fail
  with_reducible refine (s42c HF.out HB.out).mono ?_
  rintro e x5 ⟨v, rfl, hv, hy⟩
  replace hx := hx.trans hy
  replace HC6 := Lib.hid (HC6.out.ext hy)
  replace HF := Lib.hid (HF.out.ext hy)
  replace HN := Lib.hid (HN.out.ext hy)
  replace HY := Lib.hid (HY.out.ext hy)
  clear hy hl
  obtain ⟨np, ap, qp, cp, bp, kp, dp, rfl, hv', hf', hg'⟩ := hv
  have Vp := Lib.hid hv'
  have Fp := Lib.hid (fun A hA => Nat.le_trans hsz (hf' A hA))
  have Gp := Lib.hid (fun A hA => Nat.le_trans hsz (hg' A hA))
  clear hv' hf' hg' hsz
  clear Fp Gp
  go_upto_region 6 with fail
  have hl := Ext.alloc x5 (.cells #[.bool np, .slice ap qp cp, .bool false, .slice bp kp dp] 34)
  have hpp : w.heap.size ≤ x5.heap.size := hx.size
  replace hx := hx.trans hl
  replace HC6 := Lib.hid (HC6.out.ext hl)
  replace HF := Lib.hid (HF.out.ext hl)
  replace HN := Lib.hid (HN.out.ext hl)
  replace HY := Lib.hid (HY.out.ext hl)
  replace Vp := Lib.hid (Vp.out.ext hl)
  have Kp := Lib.hid (Blk.new0 x5 #[.bool np, .slice ap qp cp, .bool false, .slice bp kp dp] 34)
  clear hl
  generalize x5.alloc (.cells #[.bool np, .slice ap qp cp, .bool false, .slice bp kp dp] 34) = x6 at *
  generalize x5.heap.size = pp at *
  clear HB
  have hB := brows4 HN.out HN.out HN.out HN.out
  have hl := Ext.alloc x6 (.cells #[.slice (some ⟨pb, 0, none⟩) 2 2, .slice (some ⟨pb, 0, none⟩) 2 2, .slice (some ⟨pb, 0, none⟩) 2 2, .slice (some ⟨pb, 0, none⟩) 2 2] 44)
  replace hx := hx.trans hl
  replace Kp := kE Kp hl
  replace HC6 := Lib.hid (HC6.out.ext hl)
  replace HF := Lib.hid (HF.out.ext hl)
  replace HN := Lib.hid (HN.out.ext hl)
  replace HY := Lib.hid (HY.out.ext hl)
  replace Vp := Lib.hid (Vp.out.ext hl)
  have HB := Lib.hid hB
  clear hB
  obtain ⟨cp0, cp1, cp2, cp3⟩ := bk4 Kp
  have hsz := hx.size
  go_wp2_with fail
  clear cp0 cp1 cp2 cp3
  with_reducible refine (s42d HF.out HB.out).mono ?_
  rintro e x7 ⟨v, rfl, hv, hy⟩
  replace hx := hx.trans hy
  replace Kp := kE Kp hy
  replace HC6 := Lib.hid (HC6.out.ext hy)
  replace HF := Lib.hid (HF.out.ext hy)
  replace HN := Lib.hid (HN.out.ext hy)
  replace HY := Lib.hid (HY.out.ext hy)
  replace Vp := Lib.hid (Vp.out.ext hy)
  clear hy hl
  obtain ⟨nu, au, qu, cu, bu, ku, du, rfl, hv', hf', hg'⟩ := hv
  have Vu := Lib.hid hv'
  have Fu := Lib.hid (fun A hA => Nat.le_trans hsz (hf' A hA))
  have Gu := Lib.hid (fun A hA => Nat.le_trans hsz (hg' A hA))
  clear hv' hf' hg' hsz
  clear Fu Gu
  obtain ⟨cp0, cp1, cp2, cp3⟩ := bk4 Kp
  go_upto_region 7 with fail
  have hl := Ext.alloc x7 (.cells #[.bool nu, .slice au qu cu, .bool false, .slice bu ku du] 34)
  have lpu : pp < x7.heap.size := Kp.out.lt
  have hpu : w.heap.size ≤ x7.heap.size := hx.size
  clear cp0 cp1 cp2 cp3
  replace hx := hx.trans hl
  replace Kp := kE Kp hl
  replace HC6 := Lib.hid (HC6.out.ext hl)
  replace HF := Lib.hid (HF.out.ext hl)
  replace HN := Lib.hid (HN.out.ext hl)
  replace HY := Lib.hid (HY.out.ext hl)
  replace Vp := Lib.hid (Vp.out.ext hl)
  replace Vu := Lib.hid (Vu.out.ext hl)
  have Ku := Lib.hid (Blk.new0 x7 #[.bool nu, .slice au qu cu, .bool false, .slice bu ku du] 34)
  clear hl
  generalize x7.alloc (.cells #[.bool nu, .slice au qu cu, .bool false, .slice bu ku du] 34) = x8 at *
  generalize x7.heap.size = pu at *
  clear HB
  obtain ⟨cp0, cp1, cp2, cp3⟩ := bk4 Kp
  obtain ⟨cu0, cu1, cu2, cu3⟩ := bk4 Ku
  have hsz := hx.size
  go_wp2_with fail
  clear cp0 cp1 cp2 cp3 cu0 cu1 cu2 cu3
  with_reducible refine (s42e HF.out).mono ?_
  rintro e x9 ⟨rfl, hy⟩
  replace hx := hx.trans hy
  replace Kp := kE Kp hy
  replace Ku := kE Ku hy
  replace HC6 := Lib.hid (HC6.out.ext hy)
  replace HF := Lib.hid (HF.out.ext hy)
  replace HN := Lib.hid (HN.out.ext hy)
  replace HY := Lib.hid (HY.out.ext hy)
  replace Vp := Lib.hid (Vp.out.ext hy)
  replace Vu := Lib.hid (Vu.out.ext hy)
  clear hy hsz
  obtain ⟨cp0, cp1, cp2, cp3⟩ := bk4 Kp
  obtain ⟨cu0, cu1, cu2, cu3⟩ := bk4 Ku
  go_upto_region 8 with fail
  have hl := Ext.alloc x9 (.cells #[.bool false, .slice none 0 0, .bool false, .slice none 0 0] 34)
  have lpi : pp < x9.heap.size := Kp.out.lt
  have lui : pu < x9.heap.size := Ku.out.lt
  have hpi : w.heap.size ≤ x9.heap.size := hx.size
  clear cp0 cp1 cp2 cp3 cu0 cu1 cu2 cu3
  replace hx := hx.trans hl
  replace Kp := kE Kp hl
  replace Ku := kE Ku hl
  replace HC6 := Lib.hid (HC6.out.ext hl)
  replace HF := Lib.hid (HF.out.ext hl)
  replace HN := Lib.hid (HN.out.ext hl)
  replace HY := Lib.hid (HY.out.ext hl)
  replace Vp := Lib.hid (Vp.out.ext hl)
  replace Vu := Lib.hid (Vu.out.ext hl)
  have Ki := Lib.hid (Blk.new0 x9 #[.bool false, .slice none 0 0, .bool false, .slice none 0 0] 34)
  clear hl
  generalize x9.alloc (.cells #[.bool false, .slice none 0 0, .bool false, .slice none 0 0] 34) = x10 at *
  generalize x9.heap.size = pi at *
  clear Ki
  have hR : Rows (World.alloc (World.alloc (World.alloc (World.alloc x10 (.cells #[.int .i64 1, .int .i64 1] 3)) (.cells #[.int .i64 2, .int .i64 2] 3)) (.cells #[.int .i64 3, .int .i64 3] 3)) (.cells #[.slice (some ⟨Array.size (World.heap x10), 0, none⟩) 2 2, .slice (some ⟨Array.size (World.heap x10) + 1, 0, none⟩) 2 2, .slice (some ⟨Array.size (World.heap x10) + 2, 0, none⟩) 2 2] 27)) (some ⟨Array.size (World.heap x10) + 3, 0, none⟩) 3 [[1, 1], [2, 2], [3, 3]] := lay3 x10 [1, 1] [2, 2] [3, 3] (by decide) (by decide) (by decide) (by decide)
  have hl : Ext x10 (World.alloc (World.alloc (World.alloc (World.alloc x10 (.cells #[.int .i64 1, .int .i64 1] 3)) (.cells #[.int .i64 2, .int .i64 2] 3)) (.cells #[.int .i64 3, .int .i64 3] 3)) (.cells #[.slice (some ⟨Array.size (World.heap x10), 0, none⟩) 2 2, .slice (some ⟨Array.size (World.heap x10) + 1, 0, none⟩) 2 2, .slice (some ⟨Array.size (World.heap x10) + 2, 0, none⟩) 2 2] 27)) := (by repeat (first | with_reducible exact Ext.refl _ | with_reducible assumption | with_reducible refine Ext.drewN ?_ _ | with_reducible refine Ext.drew ?_ | with_reducible refine Ext.alloc' ?_ _ | with_reducible refine Ext.set ?_ (by dsimp only; omega) _))
  replace hx := hx.trans hl
  replace Kp := kE Kp hl
  replace Ku := kE Ku hl
  replace HC6 := Lib.hid (HC6.out.ext hl)
  replace HF := Lib.hid (HF.out.ext hl)
  replace HN := Lib.hid (HN.out.ext hl)
  replace HY := Lib.hid (HY.out.ext hl)
  replace Vp := Lib.hid (Vp.out.ext hl)
  replace Vu := Lib.hid (Vu.out.ext hl)
  have HR1 := Lib.hid hR
  clear hR
  obtain ⟨cp0, cp1, cp2, cp3⟩ := bk4 Kp
  obtain ⟨cu0, cu1, cu2, cu3⟩ := bk4 Ku
  have hsz := hx.size
  go_wp2_with fail
  clear cp0 cp1 cp2 cp3 cu0 cu1 cu2 cu3
  with_reducible refine (s42f HR1.out).mono ?_
  rintro e x11 ⟨v, rfl, hv, hy⟩
  replace hx := hx.trans hy
  replace Kp := kE Kp hy
  replace Ku := kE Ku hy
  replace HC6 := Lib.hid (HC6.out.ext hy)
  replace HF := Lib.hid (HF.out.ext hy)
  replace HN := Lib.hid (HN.out.ext hy)
  replace HY := Lib.hid (HY.out.ext hy)
  replace Vp := Lib.hid (Vp.out.ext hy)
  replace Vu := Lib.hid (Vu.out.ext hy)
  clear hy hl
  obtain ⟨nq, aq, qq, cq, bq, kq, dq, rfl, hv', hf', hg'⟩ := hv
  have Vq := Lib.hid hv'
  have Fq := Lib.hid (fun A hA => Nat.le_trans hsz (hf' A hA))
  have Gq := Lib.hid (fun A hA => Nat.le_trans hsz (hg' A hA))
  clear hv' hf' hg' hsz
  clear Fq Gq
  obtain ⟨cp0, cp1, cp2, cp3⟩ := bk4 Kp
  obtain ⟨cu0, cu1, cu2, cu3⟩ := bk4 Ku
  go_upto_region 9 with fail
  have hl := Ext.alloc x11 (.cells #[.bool nq, .slice aq qq cq, .bool false, .slice bq kq dq] 34)
  have lpq : pp < x11.heap.size := Kp.out.lt
  have luq : pu < x11.heap.size := Ku.out.lt
  have hpq : w.heap.size ≤ x11.heap.size := hx.size
  clear cp0 cp1 cp2 cp3 cu0 cu1 cu2 cu3
  replace hx := hx.trans hl
  replace Kp := kE Kp hl
  replace Ku := kE Ku hl
  replace HC6 := Lib.hid (HC6.out.ext hl)
  replace HF := Lib.hid (HF.out.ext hl)
  replace HN := Lib.hid (HN.out.ext hl)
  replace HY := Lib.hid (HY.out.ext hl)
  replace Vp := Lib.hid (Vp.out.ext hl)
  replace Vu := Lib.hid (Vu.out.ext hl)
  replace Vq := Lib.hid (Vq.out.ext hl)
  have Kq := Lib.hid (Blk.new0 x11 #[.bool nq, .slice aq qq cq, .bool false, .slice bq kq dq] 34)
  clear hl
  generalize x11.alloc (.cells #[.bool nq, .slice aq qq cq, .bool false, .slice bq kq dq] 34) = x12 at *
  generalize x11.heap.size = pq at *
  clear HR1
  obtain ⟨cp0, cp1, cp2, cp3⟩ := bk4 Kp
  obtain ⟨cu0, cu1, cu2, cu3⟩ := bk4 Ku
  obtain ⟨cq0, cq1, cq2, cq3⟩ := bk4 Kq
  have hsz := hx.size
  go_wp2_with fail
  clear cp0 cp1 cp2 cp3 cu0 cu1 cu2 cu3 cq0 cq1 cq2 cq3
  with_reducible refine (s42g HF.out).mono ?_
  rintro e x13 ⟨rfl, hy⟩
  replace hx := hx.trans hy
  replace Kp := kE Kp hy
  replace Ku := kE Ku hy
  replace Kq := kE Kq hy
  replace HC6 := Lib.hid (HC6.out.ext hy)
  replace HF := Lib.hid (HF.out.ext hy)
  replace HN := Lib.hid (HN.out.ext hy)
  replace HY := Lib.hid (HY.out.ext hy)
  replace Vp := Lib.hid (Vp.out.ext hy)
  replace Vu := Lib.hid (Vu.out.ext hy)
  replace Vq := Lib.hid (Vq.out.ext hy)
  clear hy hsz
  obtain ⟨cp0, cp1, cp2, cp3⟩ := bk4 Kp
  obtain ⟨cu0, cu1, cu2, cu3⟩ := bk4 Ku
  obtain ⟨cq0, cq1, cq2, cq3⟩ := bk4 Kq
  go_upto_region 10 with fail
  have hl := Ext.alloc x13 (.cells #[.bool false, .slice none 0 0, .bool false, .slice none 0 0] 34)
  have lpk : pp < x13.heap.size := Kp.out.lt
  have luk : pu < x13.heap.size := Ku.out.lt
  have lqk : pq < x13.heap.size := Kq.out.lt
  have hpk : w.heap.size ≤ x13.heap.size := hx.size
  clear cp0 cp1 cp2 cp3 cu0 cu1 cu2 cu3 cq0 cq1 cq2 cq3
  replace hx := hx.trans hl
  replace Kp := kE Kp hl
  replace Ku := kE Ku hl
  replace Kq := kE Kq hl
  replace HC6 := Lib.hid (HC6.out.ext hl)
  replace HF := Lib.hid (HF.out.ext hl)
  replace HN := Lib.hid (HN.out.ext hl)
  replace HY := Lib.hid (HY.out.ext hl)
  replace Vp := Lib.hid (Vp.out.ext hl)
  replace Vu := Lib.hid (Vu.out.ext hl)
  replace Vq := Lib.hid (Vq.out.ext hl)
  have Kk := Lib.hid (Blk.new0 x13 #[.bool false, .slice none 0 0, .bool false, .slice none 0 0] 34)
  clear hl
  generalize x13.alloc (.cells #[.bool false, .slice none 0 0, .bool false, .slice none 0 0] 34) = x14 at *
  generalize x13.heap.size = pk at *
  clear Kk
  have hR : Rows (World.alloc (World.alloc (World.alloc (World.alloc x14 (.cells #[.int .i64 1, .int .i64 5] 3)) (.cells #[.int .i64 3, .int .i64 5] 3)) (.cells #[.int .i64 7, .int .i64 5] 3)) (.cells #[.slice (some ⟨Array.size (World.heap x14), 0, none⟩) 2 2, .slice (some ⟨Array.size (World.heap x14) + 1, 0, none⟩) 2 2, .slice (some ⟨Array.size (World.heap x14) + 2, 0, none⟩) 2 2] 27)) (some ⟨Array.size (World.heap x14) + 3, 0, none⟩) 3 [[1, 5], [3, 5], [7, 5]] := lay3 x14 [1, 5] [3, 5] [7, 5] (by decide) (by decide) (by decide) (by decide)
  have hl : Ext x14 (World.alloc (World.alloc (World.alloc (World.alloc x14 (.cells #[.int .i64 1, .int .i64 5] 3)) (.cells #[.int .i64 3, .int .i64 5] 3)) (.cells #[.int .i64 7, .int .i64 5] 3)) (.cells #[.slice (some ⟨Array.size (World.heap x14), 0, none⟩) 2 2, .slice (some ⟨Array.size (World.heap x14) + 1, 0, none⟩) 2 2, .slice (some ⟨Array.size (World.heap x14) + 2, 0, none⟩) 2 2] 27)) := (by repeat (first | with_reducible exact Ext.refl _ | with_reducible assumption | with_reducible refine Ext.drewN ?_ _ | with_reducible refine Ext.drew ?_ | with_reducible refine Ext.alloc' ?_ _ | with_reducible refine Ext.set ?_ (by dsimp only; omega) _))
  replace hx := hx.trans hl
  replace Kp := kE Kp hl
  replace Ku := kE Ku hl
  replace Kq := kE Kq hl
  replace HC6 := Lib.hid (HC6.out.ext hl)
  replace HF := Lib.hid (HF.out.ext hl)
  replace HN := Lib.hid (HN.out.ext hl)
  replace HY := Lib.hid (HY.out.ext hl)
  replace Vp := Lib.hid (Vp.out.ext hl)
  replace Vu := Lib.hid (Vu.out.ext hl)
  replace Vq := Lib.hid (Vq.out.ext hl)
  have HR1 := Lib.hid hR
  clear hR
  obtain ⟨cp0, cp1, cp2, cp3⟩ := bk4 Kp
  obtain ⟨cu0, cu1, cu2, cu3⟩ := bk4 Ku
  obtain ⟨cq0, cq1, cq2, cq3⟩ := bk4 Kq
  have hsz := hx.size
  go_wp2_with fail
  clear cp0 cp1 cp2 cp3 cu0 cu1 cu2 cu3 cq0 cq1 cq2 cq3
  with_reducible refine (s42h HR1.out).mono ?_
  rintro e x15 ⟨v, rfl, hv, hy⟩
  replace hx := hx.trans hy
  replace Kp := kE Kp hy
  replace Ku := kE Ku hy
  replace Kq := kE Kq hy
  replace HC6 := Lib.hid (HC6.out.ext hy)
  replace HF := Lib.hid (HF.out.ext hy)
  replace HN := Lib.hid (HN.out.ext hy)
  replace HY := Lib.hid (HY.out.ext hy)
  replace Vp := Lib.hid (Vp.out.ext hy)
  replace Vu := Lib.hid (Vu.out.ext hy)
  replace Vq := Lib.hid (Vq.out.ext hy)
  clear hy hl
  obtain ⟨nr, ar, qr, cr, br, kr, dr, rfl, hv', hf', hg'⟩ := hv
  have Vr := Lib.hid hv'
  have Fr := Lib.hid (fun A hA => Nat.le_trans hsz (hf' A hA))
  have Gr := Lib.hid (fun A hA => Nat.le_trans hsz (hg' A hA))
  clear hv' hf' hg' hsz
  clear Fr Gr
  obtain ⟨cp0, cp1, cp2, cp3⟩ := bk4 Kp
  obtain ⟨cu0, cu1, cu2, cu3⟩ := bk4 Ku
  obtain ⟨cq0, cq1, cq2, cq3⟩ := bk4 Kq
  go_upto_region 11 with fail
  have hl := Ext.alloc x15 (.cells #[.bool nr, .slice ar qr cr, .bool false, .slice br kr dr] 34)
  have lpr : pp < x15.heap.size := Kp.out.lt
  have lur : pu < x15.heap.size := Ku.out.lt
  have lqr : pq < x15.heap.size := Kq.out.lt
  have hpr : w.heap.size ≤ x15.heap.size := hx.size
  clear cp0 cp1 cp2 cp3 cu0 cu1 cu2 cu3 cq0 cq1 cq2 cq3
  replace hx := hx.trans hl
  replace Kp := kE Kp hl
  replace Ku := kE Ku hl
  replace Kq := kE Kq hl
  replace HC6 := Lib.hid (HC6.out.ext hl)
  replace HF := Lib.hid (HF.out.ext hl)
  replace HN := Lib.hid (HN.out.ext hl)
  replace HY := Lib.hid (HY.out.ext hl)
  replace Vp := Lib.hid (Vp.out.ext hl)
  replace Vu := Lib.hid (Vu.out.ext hl)
  replace Vq := Lib.hid (Vq.out.ext hl)
  replace Vr := Lib.hid (Vr.out.ext hl)
  have Kr := Lib.hid (Blk.new0 x15 #[.bool nr, .slice ar qr cr, .bool false, .slice br kr dr] 34)
  clear hl
  generalize x15.alloc (.cells #[.bool nr, .slice ar qr cr, .bool false, .slice br kr dr] 34) = x16 at *
  generalize x15.heap.size = pr at *
  clear HR1
  have hR : Rows (World.alloc (World.alloc x16 (.cells #[.int .i64 1, .int .i64 5] 3)) (.cells #[.slice (some ⟨Array.size (World.heap x16), 0, none⟩) 2 2] 27)) (some ⟨Array.size (World.heap x16) + 1, 0, none⟩) 1 [[1, 5]] := lay1 x16 [1, 5] (by decide) (by decide)
  have hl : Ext x16 (World.alloc (World.alloc x16 (.cells #[.int .i64 1, .int .i64 5] 3)) (.cells #[.slice (some ⟨Array.size (World.heap x16), 0, none⟩) 2 2] 27)) := (by repeat (first | with_reducible exact Ext.refl _ | with_reducible assumption | with_reducible refine Ext.drewN ?_ _ | with_reducible refine Ext.drew ?_ | with_reducible refine Ext.alloc' ?_ _ | with_reducible refine Ext.set ?_ (by dsimp only; omega) _))
  replace hx := hx.trans hl
  replace Kp := kE Kp hl
  replace Ku := kE Ku hl
  replace Kq := kE Kq hl
  replace Kr := kE Kr hl
  replace HC6 := Lib.hid (HC6.out.ext hl)
  replace HF := Lib.hid (HF.out.ext hl)
  replace HN := Lib.hid (HN.out.ext hl)
  replace HY := Lib.hid (HY.out.ext hl)
  replace Vp := Lib.hid (Vp.out.ext hl)
  replace Vu := Lib.hid (Vu.out.ext hl)
  replace Vq := Lib.hid (Vq.out.ext hl)
  replace Vr := Lib.hid (Vr.out.ext hl)
  have HR1 := Lib.hid hR
  clear hR
  obtain ⟨cp0, cp1, cp2, cp3⟩ := bk4 Kp
  obtain ⟨cu0, cu1, cu2, cu3⟩ := bk4 Ku
  obtain ⟨cq0, cq1, cq2, cq3⟩ := bk4 Kq
  obtain ⟨cr0, cr1, cr2, cr3⟩ := bk4 Kr
  have hsz := hx.size
  go_wp2_with fail
  clear cp0 cp1 cp2 cp3 cu0 cu1 cu2 cu3 cq0 cq1 cq2 cq3 cr0 cr1 cr2 cr3
  with_reducible refine (s42i HR1.out).mono ?_
  rintro e x17 ⟨v, rfl, hv, hy⟩
  replace hx := hx.trans hy
  replace Kp := kE Kp hy
  replace Ku := kE Ku hy
  replace Kq := kE Kq hy
  replace Kr := kE Kr hy
  replace HC6 := Lib.hid (HC6.out.ext hy)
  replace HF := Lib.hid (HF.out.ext hy)
  replace HN := Lib.hid (HN.out.ext hy)
  replace HY := Lib.hid (HY.out.ext hy)
  replace Vp := Lib.hid (Vp.out.ext hy)
  replace Vu := Lib.hid (Vu.out.ext hy)
  replace Vq := Lib.hid (Vq.out.ext hy)
  replace Vr := Lib.hid (Vr.out.ext hy)
  clear hy hl
  obtain ⟨nv, av, qv, cv, bv, kv, dv, rfl, hv', hf', hg'⟩ := hv
  have Vv := Lib.hid hv'
  have Fv := Lib.hid (fun A hA => Nat.le_trans hsz (hf' A hA))
  have Gv := Lib.hid (fun A hA => Nat.le_trans hsz (hg' A hA))
  clear hv' hf' hg' hsz
  clear Fv Gv
  obtain ⟨cp0, cp1, cp2, cp3⟩ := bk4 Kp
  obtain ⟨cu0, cu1, cu2, cu3⟩ := bk4 Ku
  obtain ⟨cq0, cq1, cq2, cq3⟩ := bk4 Kq
  obtain ⟨cr0, cr1, cr2, cr3⟩ := bk4 Kr
  go_upto_region 12 with fail
  have hl := Ext.alloc x17 (.cells #[.bool nv, .slice av qv cv, .bool false, .slice bv kv dv] 34)
  have lpv : pp < x17.heap.size := Kp.out.lt
  have luv : pu < x17.heap.size := Ku.out.lt
  have lqv : pq < x17.heap.size := Kq.out.lt
  have lrv : pr < x17.heap.size := Kr.out.lt
  have hpv : w.heap.size ≤ x17.heap.size := hx.size
  clear cp0 cp1 cp2 cp3 cu0 cu1 cu2 cu3 cq0 cq1 cq2 cq3 cr0 cr1 cr2 cr3
  replace hx := hx.trans hl
  replace Kp := kE Kp hl
  replace Ku := kE Ku hl
  replace Kq := kE Kq hl
  replace Kr := kE Kr hl
  replace HC6 := Lib.hid (HC6.out.ext hl)
  replace HF := Lib.hid (HF.out.ext hl)
  replace HN := Lib.hid (HN.out.ext hl)
  replace HY := Lib.hid (HY.out.ext hl)
  replace Vp := Lib.hid (Vp.out.ext hl)
  replace Vu := Lib.hid (Vu.out.ext hl)
  replace Vq := Lib.hid (Vq.out.ext hl)
  replace Vr := Lib.hid (Vr.out.ext hl)
  replace Vv := Lib.hid (Vv.out.ext hl)
  have Kv := Lib.hid (Blk.new0 x17 #[.bool nv, .slice av qv cv, .bool false, .slice bv kv dv] 34)
  clear hl
  generalize x17.alloc (.cells #[.bool nv, .slice av qv cv, .bool false, .slice bv kv dv] 34) = x18 at *
  generalize x17.heap.size = pv at *
  clear HR1
  obtain ⟨cp0, cp1, cp2, cp3⟩ := bk4 Kp
  obtain ⟨cu0, cu1, cu2, cu3⟩ := bk4 Ku
  obtain ⟨cq0, cq1, cq2, cq3⟩ := bk4 Kq
  obtain ⟨cr0, cr1, cr2, cr3⟩ := bk4 Kr
  obtain ⟨cv0, cv1, cv2, cv3⟩ := bk4 Kv
  have hsz := hx.size
  go_wp2_with fail
  clear cp0 cp1 cp2 cp3 cu0 cu1 cu2 cu3 cq0 cq1 cq2 cq3 cr0 cr1 cr2 cr3 cv0 cv1 cv2 cv3
  with_reducible refine (s42j HF.out).mono ?_
  rintro e x19 ⟨rfl, hy⟩
  replace hx := hx.trans hy
  replace Kp := kE Kp hy
  replace Ku := kE Ku hy
  replace Kq := kE Kq hy
  replace Kr := kE Kr hy
  replace Kv := kE Kv hy
  replace HC6 := Lib.hid (HC6.out.ext hy)
  replace HF := Lib.hid (HF.out.ext hy)
  replace HN := Lib.hid (HN.out.ext hy)
  replace HY := Lib.hid (HY.out.ext hy)
  replace Vp := Lib.hid (Vp.out.ext hy)
  replace Vu := Lib.hid (Vu.out.ext hy)
  replace Vq := Lib.hid (Vq.out.ext hy)
  replace Vr := Lib.hid (Vr.out.ext hy)
  replace Vv := Lib.hid (Vv.out.ext hy)
  clear hy hsz
  obtain ⟨cp0, cp1, cp2, cp3⟩ := bk4 Kp
  obtain ⟨cu0, cu1, cu2, cu3⟩ := bk4 Ku
  obtain ⟨cq0, cq1, cq2, cq3⟩ := bk4 Kq
  obtain ⟨cr0, cr1, cr2, cr3⟩ := bk4 Kr
  obtain ⟨cv0, cv1, cv2, cv3⟩ := bk4 Kv
  go_upto_region 13 with fail
  have hl := Ext.alloc x19 (.cells #[.bool false, .slice none 0 0, .bool false, .slice none 0 0] 34)
  have lpn : pp < x19.heap.size := Kp.out.lt
  have lun : pu < x19.heap.size := Ku.out.lt
  have lqn : pq < x19.heap.size := Kq.out.lt
  have lrn : pr < x19.heap.size := Kr.out.lt
  have lvn : pv < x19.heap.size := Kv.out.lt
  have hpn : w.heap.size ≤ x19.heap.size := hx.size
  clear cp0 cp1 cp2 cp3 cu0 cu1 cu2 cu3 cq0 cq1 cq2 cq3 cr0 cr1 cr2 cr3 cv0 cv1 cv2 cv3
  replace hx := hx.trans hl
  replace Kp := kE Kp hl
  replace Ku := kE Ku hl
  replace Kq := kE Kq hl
  replace Kr := kE Kr hl
  replace Kv := kE Kv hl
  replace HC6 := Lib.hid (HC6.out.ext hl)
  replace HF := Lib.hid (HF.out.ext hl)
  replace HN := Lib.hid (HN.out.ext hl)
  replace HY := Lib.hid (HY.out.ext hl)
  replace Vp := Lib.hid (Vp.out.ext hl)
  replace Vu := Lib.hid (Vu.out.ext hl)
  replace Vq := Lib.hid (Vq.out.ext hl)
  replace Vr := Lib.hid (Vr.out.ext hl)
  replace Vv := Lib.hid (Vv.out.ext hl)
  have Kn := Lib.hid (Blk.new0 x19 #[.bool false, .slice none 0 0, .bool false, .slice none 0 0] 34)
  clear hl
  generalize x19.alloc (.cells #[.bool false, .slice none 0 0, .bool false, .slice none 0 0] 34) = x20 at *
  generalize x19.heap.size = pn at *
  clear Kn
  have hc6 := HC6.out.h
  go_upto_region 14 with fail
  clear hc6
  obtain ⟨cp0, cp1, cp2, cp3⟩ := bk4 Kp
  obtain ⟨cu0, cu1, cu2, cu3⟩ := bk4 Ku
  obtain ⟨cq0, cq1, cq2, cq3⟩ := bk4 Kq
  obtain ⟨cr0, cr1, cr2, cr3⟩ := bk4 Kr
  obtain ⟨cv0, cv1, cv2, cv3⟩ := bk4 Kv
  go_wp2_with fail
  refine (law42_is 1 4 _ Vp.out (by omega) (by omega) (by omega)).mono ?_
  clear cp0 cp1 cp2 cp3 cu0 cu1 cu2 cu3 cq0 cq1 cq2 cq3 cr0 cr1 cr2 cr3 cv0 cv1 cv2 cv3
  rintro e x21 ⟨rfl, hy⟩
  replace hx := hx.trans hy
  replace Kp := kE Kp hy
  replace Ku := kE Ku hy
  replace Kq := kE Kq hy
  replace Kr := kE Kr hy
  replace Kv := kE Kv hy
  replace HC6 := Lib.hid (HC6.out.ext hy)
  replace HF := Lib.hid (HF.out.ext hy)
  replace HN := Lib.hid (HN.out.ext hy)
  replace HY := Lib.hid (HY.out.ext hy)
  replace Vp := Lib.hid (Vp.out.ext hy)
  replace Vu := Lib.hid (Vu.out.ext hy)
  replace Vq := Lib.hid (Vq.out.ext hy)
  replace Vr := Lib.hid (Vr.out.ext hy)
  replace Vv := Lib.hid (Vv.out.ext hy)
  clear hy
  simp only [decide_true]
  obtain ⟨cp0, cp1, cp2, cp3⟩ := bk4 Kp
  obtain ⟨cu0, cu1, cu2, cu3⟩ := bk4 Ku
  obtain ⟨cq0, cq1, cq2, cq3⟩ := bk4 Kq
  obtain ⟨cr0, cr1, cr2, cr3⟩ := bk4 Kr
  obtain ⟨cv0, cv1, cv2, cv3⟩ := bk4 Kv
  go_wp2_with fail
  refine (law42_is 1 1 _ Vu.out (by omega) (by omega) (by omega)).mono ?_
  clear cp0 cp1 cp2 cp3 cu0 cu1 cu2 cu3 cq0 cq1 cq2 cq3 cr0 cr1 cr2 cr3 cv0 cv1 cv2 cv3
  rintro e x22 ⟨rfl, hy⟩
  replace hx := hx.trans hy
  replace Kp := kE Kp hy
  replace Ku := kE Ku hy
  replace Kq := kE Kq hy
  replace Kr := kE Kr hy
  replace Kv := kE Kv hy
  replace HC6 := Lib.hid (HC6.out.ext hy)
  replace HF := Lib.hid (HF.out.ext hy)
  replace HN := Lib.hid (HN.out.ext hy)
  replace HY := Lib.hid (HY.out.ext hy)
  replace Vp := Lib.hid (Vp.out.ext hy)
  replace Vu := Lib.hid (Vu.out.ext hy)
  replace Vq := Lib.hid (Vq.out.ext hy)
  replace Vr := Lib.hid (Vr.out.ext hy)
  replace Vv := Lib.hid (Vv.out.ext hy)
  clear hy
  simp only [decide_true]
  obtain ⟨cp0, cp1, cp2, cp3⟩ := bk4 Kp
  obtain ⟨cu0, cu1, cu2, cu3⟩ := bk4 Ku
  obtain ⟨cq0, cq1, cq2, cq3⟩ := bk4 Kq
  obtain ⟨cr0, cr1, cr2, cr3⟩ := bk4 Kr
  obtain ⟨cv0, cv1, cv2, cv3⟩ := bk4 Kv
  go_wp2_with fail
  refine (law42_is 1 6 _ Vq.out (by omega) (by omega) (by omega)).mono ?_
  clear cp0 cp1 cp2 cp3 cu0 cu1 cu2 cu3 cq0 cq1 cq2 cq3 cr0 cr1 cr2 cr3 cv0 cv1 cv2 cv3
  rintro e x23 ⟨rfl, hy⟩
  replace hx := hx.trans hy
  replace Kp := kE Kp hy
  replace Ku := kE Ku hy
  replace Kq := kE Kq hy
  replace Kr := kE Kr hy
  replace Kv := kE Kv hy
  replace HC6 := Lib.hid (HC6.out.ext hy)
  replace HF := Lib.hid (HF.out.ext hy)
  replace HN := Lib.hid (HN.out.ext hy)
  replace HY := Lib.hid (HY.out.ext hy)
  replace Vp := Lib.hid (Vp.out.ext hy)
  replace Vu := Lib.hid (Vu.out.ext hy)
  replace Vq := Lib.hid (Vq.out.ext hy)
  replace Vr := Lib.hid (Vr.out.ext hy)
  replace Vv := Lib.hid (Vv.out.ext hy)
  clear hy
  simp only [decide_true]
  obtain ⟨cp0, cp1, cp2, cp3⟩ := bk4 Kp
  obtain ⟨cu0, cu1, cu2, cu3⟩ := bk4 Ku
  obtain ⟨cq0, cq1, cq2, cq3⟩ := bk4 Kq
  obtain ⟨cr0, cr1, cr2, cr3⟩ := bk4 Kr
  obtain ⟨cv0, cv1, cv2, cv3⟩ := bk4 Kv
  go_wp2_with fail
  refine (law42_is 1 6 _ Vr.out (by omega) (by omega) (by omega)).mono ?_
  clear cp0 cp1 cp2 cp3 cu0 cu1 cu2 cu3 cq0 cq1 cq2 cq3 cr0 cr1 cr2 cr3 cv0 cv1 cv2 cv3
  rintro e x24 ⟨rfl, hy⟩
  replace hx := hx.trans hy
  replace Kp := kE Kp hy
  replace Ku := kE Ku hy
  replace Kq := kE Kq hy
  replace Kr := kE Kr hy
  replace Kv := kE Kv hy
  replace HC6 := Lib.hid (HC6.out.ext hy)
  replace HF := Lib.hid (HF.out.ext hy)
  replace HN := Lib.hid (HN.out.ext hy)
  replace HY := Lib.hid (HY.out.ext hy)
  replace Vp := Lib.hid (Vp.out.ext hy)
  replace Vu := Lib.hid (Vu.out.ext hy)
  replace Vq := Lib.hid (Vq.out.ext hy)
  replace Vr := Lib.hid (Vr.out.ext hy)
  replace Vv := Lib.hid (Vv.out.ext hy)
  clear hy
  simp only [decide_true]
  obtain ⟨cp0, cp1, cp2, cp3⟩ := bk4 Kp
  obtain ⟨cu0, cu1, cu2, cu3⟩ := bk4 Ku
  obtain ⟨cq0, cq1, cq2, cq3⟩ := bk4 Kq
  obtain ⟨cr0, cr1, cr2, cr3⟩ := bk4 Kr
  obtain ⟨cv0, cv1, cv2, cv3⟩ := bk4 Kv
  go_wp2_with fail
  refine (law42_is 1 1 _ Vv.out (by omega) (by omega) (by omega)).mono ?_
  clear cp0 cp1 cp2 cp3 cu0 cu1 cu2 cu3 cq0 cq1 cq2 cq3 cr0 cr1 cr2 cr3 cv0 cv1 cv2 cv3
  rintro e x25 ⟨rfl, hy⟩
  replace hx := hx.trans hy
  replace Kp := kE Kp hy
  replace Ku := kE Ku hy
  replace Kq := kE Kq hy
  replace Kr := kE Kr hy
  replace Kv := kE Kv hy
  replace HC6 := Lib.hid (HC6.out.ext hy)
  replace HF := Lib.hid (HF.out.ext hy)
  replace HN := Lib.hid (HN.out.ext hy)
  replace HY := Lib.hid (HY.out.ext hy)
  replace Vp := Lib.hid (Vp.out.ext hy)
  replace Vu := Lib.hid (Vu.out.ext hy)
  replace Vq := Lib.hid (Vq.out.ext hy)
  replace Vr := Lib.hid (Vr.out.ext hy)
  replace Vv := Lib.hid (Vv.out.ext hy)
  clear hy
  simp only [decide_true]
  go_wp2_with fail
  go_ret
  exact ⟨rfl, hx⟩
end Go.Proofs.YtmcbbhlglccmgaaGreat

namespace Go.Proofs.YtmcbbhlglccmgaaGreat
open Go.RowKit Go BigFrame
set_option maxRecDepth 100000
set_option linter.unusedSimpArgs false
set_option linter.unusedVariables false

/-! Slices of one's own whose elements are one cell each and read as data: rows of integers, rows of truth values. -/
/-- A value whose elements don't lie in this block. -/
def OffV (x : Value) (o : Option Nat) : Prop := ∀ A n c, x = .slice (some A) n c → 0 < n → o ≠ some A.block
/-- What a reading must bear. -/
structure RdOk {α : Type} (R : World → Value → α → Prop) : Prop where
  ext : ∀ w w' v x, Ext w w' → R w v x → R w' v x
  grown : ∀ w w' row v x, R w v x → w.grownBy w' row → OffV v row → R w' v x
  new : ∀ w v x, R w v x → OffV v (some w.heap.size)
  one : ∀ w v x, R w v x → v.oneCell' = true
structure OwnL {α : Type} (R : World → Value → α → Prop) (w : World) (B : Nat) (t : TypeId) (v : Value) (xs : List α) : Prop where
  ex : ∃ vs : List Value, w.ownsRow B t 1 v xs.length vs ∧ ∀ i (h : i < xs.length), ∃ x, vs[i]? = some x ∧ R w x xs[i] ∧ OffV x v.ownBlock
section
variable {α : Type} {R : World → Value → α → Prop} {w w' : World} {B : Nat} {t : TypeId} {v : Value} {xs : List α}
theorem OwnL.nil (w : World) (B : Nat) (t : TypeId) : OwnL R w B t (.slice none 0 0) [] := ⟨[], World.ownsRow_nil _ _ _ _, fun i h => absurd h (by simp)⟩
theorem OwnL.ext (hR : RdOk R) (h : OwnL R w B t v xs) (k : Ext w w') : OwnL R w' B t v xs := by
  obtain ⟨vs, ho, hx⟩ := h.ex
  refine ⟨vs, ownsRow_ext ho k, fun i hi => ?_⟩
  obtain ⟨x, e, h1, h2⟩ := hx i hi
  exact ⟨x, e, hR.ext _ _ _ _ k h1, h2⟩
theorem OwnL.low {B' : Nat} (h : OwnL R w B t v xs) (hB : B' ≤ B) : OwnL R w B' t v xs := by
  obtain ⟨vs, ⟨h1, h2⟩, hx⟩ := h.ex
  refine ⟨vs, ⟨h1, ?_⟩, hx⟩
  rcases h2 with h2 | ⟨g, cap, cur, e, hb, hg, hr⟩
  · exact .inl h2
  · exact .inr ⟨g, cap, cur, e, by omega, hg, hr⟩
theorem OwnL.lt (h : OwnL R w B t v xs) : ∀ g, v.ownBlock = some g → B ≤ g ∧ g < w.heap.size := by
  obtain ⟨vs, ho, _⟩ := h.ex
  exact fun g e => World.ownsRow.lt ho g e
theorem OwnL.form (h : OwnL R w B t v xs) : ∃ a cap, v = .slice a xs.length cap ∧ xs.length ≤ cap ∧ cap ≤ 9223372036854775807 := by
  obtain ⟨vs, ho, _⟩ := h.ex
  rcases ho.2 with ⟨rfl, h0⟩ | ⟨g, cap, cur, rfl, _, _, h1, h2, _⟩
  · exact ⟨none, 0, by rw [h0], by omega, by omega⟩
  · exact ⟨_, _, rfl, h1, by unfold maxLen at h2; omega⟩
theorem OwnL.sl (h : OwnL R w B t v xs) : ∃ a cap, v = .slice a xs.length cap ∧ SlOf R w a cap xs := by
  obtain ⟨vs, ho, hx⟩ := h.ex
  rcases ho.2 with ⟨rfl, h0⟩ | ⟨g, cap, cur, rfl, _, _, h1, h2, _⟩
  · have : xs = [] := List.eq_nil_of_length_eq_zero h0
    subst this
    exact ⟨none, 0, rfl, ⟨by simp, by omega, fun _ => rfl, fun A hA => by cases hA⟩⟩
  · refine ⟨_, cap, rfl, ⟨h1, by unfold maxLen at h2; omega, by simp, fun A hA i hi => ?_⟩⟩
    cases hA
    obtain ⟨x, e, hr, _⟩ := hx i hi
    have := World.ownsRow.cellAt ho i (by omega)
    rw [e] at this
    exact ⟨rfl, x, by simpa using this, hr⟩
theorem OwnL.slice {a : Option Addr} {n cap : Nat} (h : OwnL R w B t (.slice a n cap) xs) : n = xs.length ∧ SlOf R w a cap xs := by
  obtain ⟨a', cap', e, hs⟩ := h.sl
  simp only [Value.slice.injEq] at e
  obtain ⟨rfl, rfl, rfl⟩ := e
  exact ⟨rfl, hs⟩
/-- A store into a block that is neither the slice's own nor that of an element. -/
theorem OwnL.more (hR : RdOk R) (h : OwnL R w B t v xs) {x v' : Value} {y : α} {vs : List Value} (hvs : w.ownsRow B t 1 v xs.length vs) (hx : ∀ i (h : i < xs.length), ∃ x, vs[i]? = some x ∧ R w x xs[i] ∧ OffV x v.ownBlock)
    (hy : R w x y) (hxo : OffV x v.ownBlock) (hown : w'.ownsRow B t 1 v' (xs.length + 1) (vs ++ [x])) (hg : w.grownBy w' v.ownBlock) (hat : v'.ownBlock = v.ownBlock ∨ v'.ownBlock = some w.heap.size) :
    OwnL R w' B t v' (xs ++ [y]) := by
  have hvl : vs.length = xs.length := by have := hvs.1; omega
  have hoff : ∀ u z, R w u z → OffV u v.ownBlock → OffV u v'.ownBlock := fun u z hu ho => by
    rcases hat with e | e
    · rw [e]; exact ho
    · rw [e]; exact hR.new _ _ _ hu
  refine ⟨vs ++ [x], by rw [List.length_append]; exact hown, fun i hi => ?_⟩
  rw [List.length_append, List.length_singleton] at hi
  by_cases hk : i < xs.length
  · obtain ⟨u, e, h1, h2⟩ := hx i hk
    refine ⟨u, by rw [List.getElem?_append_left (by omega)]; exact e, ?_, hoff _ _ h1 h2⟩
    rw [List.getElem_append_left hk]
    exact hR.grown _ _ _ _ _ h1 hg h2
  · have hi' : i = xs.length := by omega
    subst hi'
    refine ⟨x, by rw [← hvl]; simp, ?_, hoff _ _ hy hxo⟩
    rw [List.getElem_append_right (Nat.le_refl _)]
    simp only [Nat.sub_self, List.getElem_singleton]
    exact hR.grown _ _ _ _ _ hy hg hxo
end
end Go.Proofs.YtmcbbhlglccmgaaGreat

