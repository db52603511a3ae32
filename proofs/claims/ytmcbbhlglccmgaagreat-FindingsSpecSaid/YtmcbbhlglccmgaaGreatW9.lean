import Derived.Test.YtmcbbhlglccmgaaGreatW6
import Derived.Test.YtmcbbhlglccmgaaGreatWP3
namespace Go.Proofs.YtmcbbhlglccmgaaGreat
open Go.RowKit Go BigFrame Go.Shelf
set_option maxRecDepth 100000
set_option linter.unusedSimpArgs false
set_option linter.unusedVariables false

/-! Layer 42: findings.Favour. -/
theorem owsW_ints {w : World} {B : Nat} {v : Value} {l : List Int} (h : owsW w B v l) (hb : ∀ x ∈ l, -9223372036854775808 ≤ x ∧ x ≤ 9223372036854775807) : ∃ a cap, v = .slice a l.length cap ∧ Ints w a cap l ∧ (∀ A, a = some A → B ≤ A.block) := by
  rcases h.2 with ⟨rfl, h0⟩ | ⟨g, cap, cur, rfl, hB, _, h1, h2, _⟩
  · have : l = [] := List.eq_nil_of_length_eq_zero h0
    subst this
    exact ⟨none, 0, rfl, ⟨by simp, by omega, fun _ => rfl, fun A hA => by cases hA⟩, fun A hA => by cases hA⟩
  · refine ⟨_, cap, rfl, ⟨h1, by unfold maxLen at h2; omega, by simp, fun A hA i hi => ?_⟩, fun A hA => by cases hA; exact hB⟩
    cases hA
    have := World.ownsRow.cellAt h i (by omega)
    rw [List.getElem?_map, List.getElem?_eq_getElem hi] at this
    exact ⟨rfl, _, by simpa using this, rfl, hb l[i] (List.getElem_mem hi)⟩
theorem above_bd {m : List (List Int)} {n j : Nat} (h : RightW m n) (hj : j < n) : ∀ x ∈ aboveL m j, -16000 ≤ x ∧ x ≤ 16000 := by
  intro x hx
  obtain ⟨r, hr, rfl⟩ := List.mem_map.1 hx
  obtain ⟨h1, h2, h3⟩ := h.row r hr
  obtain ⟨s1, s2⟩ := sum_bdW h3
  unfold aboveR
  have hy : 0 ≤ r.getD j 0 ∧ r.getD j 0 ≤ 1000 := by
    rw [List.getD_eq_getElem?_getD, List.getElem?_eq_getElem (by omega)]
    exact h3 _ (List.getElem_mem _)
  generalize r.getD j 0 = y at *
  have m1 : 0 ≤ (r.length : Int) * y := Int.mul_nonneg (by omega) hy.1
  have m2 : (r.length : Int) * y ≤ 16 * 1000 := Int.mul_le_mul (by omega) hy.2 hy.1 (by omega)
  omega
def hasW (mates : List (List Bool)) (j i : Nat) : Bool := (mates.getD i []).getD j false
def favN (mates : List (List Bool)) (j : Nat) : Nat → Nat
  | 0 => 0
  | k + 1 => favN mates j k + if hasW mates j k then 1 else 0
def favS (d : List Int) (mates : List (List Bool)) (j : Nat) : Nat → Int
  | 0 => 0
  | k + 1 => favS d mates j k + if hasW mates j k then d.getD k 0 else 0
theorem favN_le (mates : List (List Bool)) (j : Nat) : ∀ k, favN mates j k ≤ k := by
  intro k
  induction k with
  | zero => exact Nat.le_refl _
  | succ k ih => unfold favN; split <;> omega
theorem favS_bd {d : List Int} (h : ∀ x ∈ d, -16000 ≤ x ∧ x ≤ 16000) (mates : List (List Bool)) (j : Nat) : ∀ k : Nat, -16000 * (k : Int) ≤ favS d mates j k ∧ favS d mates j k ≤ 16000 * (k : Int) := by
  intro k
  induction k with
  | zero => simp [favS]
  | succ k ih =>
    unfold favS
    have : -16000 ≤ d.getD k 0 ∧ d.getD k 0 ≤ 16000 := by
      rw [List.getD_eq_getElem?_getD]
      cases hk : d[k]? with
      | none => simp
      | some x => exact h x (List.mem_of_getElem? hk)
    split <;> omega
def mateB (k : Nat) (l : List Bool) : Bool := decide (l.length ≠ k)
theorem bin_le20 {n : Nat} (h : n ≤ 20) {k : Nat} : bin n k ≤ 1048576 := by
  have h2 : 2 ^ n ≤ 2 ^ 20 := Nat.pow_le_pow_right (by omega) h
  have := bin_le n k
  omega
theorem bin_pos : ∀ {n k : Nat}, k ≤ n → 0 < bin n k
  | n, 0, _ => by rw [bin_zero]; exact Nat.one_pos
  | 0, k + 1, h => by omega
  | n + 1, k + 1, h => by have := bin_pos (n := n) (k := k) (by omega); show 0 < bin n k + bin n (k + 1); omega
theorem ratio_Of_val {v u : Value} {z y : Int} {w : World} (hv : BigV w v z) (hu : BigV w u y) (hz : Len z) (hy : Len y) (h0 : y ≠ 0) : Calls Tryz.prog 30 #[v, u] w (RatP (Rat.divInt z y) w) := by
  obtain ⟨n1, l, ⟨a, ca, rfl, hi⟩, hb⟩ := hv
  obtain ⟨n2, m, ⟨b, cb, rfl, hj⟩, hc⟩ := hu
  have hm : 0 < m.length := by
    rcases Nat.eq_zero_or_pos m.length with e | e
    · rw [List.length_eq_zero_iff] at e
      subst e
      exfalso
      have := hc.2.2
      simp [dval, sgn] at this
      exact h0 this
    · exact e
  have := ratio_Of_ok n1 n2 a b ca cb l m w hi hj (hb.chk hz) (hc.chk hy) hm
  have e1 := hb.2.2
  have e2 := hc.2.2
  first | (rw [e1, e2]; exact this) | (rw [← e1, ← e2]; exact this)
def favE (m : List (List Int)) (mates : List (List Bool)) (j : Int) : Int :=
  if askW m [j] ≠ 0 then askW m [j] else if mates.length ≠ m.length then 420 else if mates.any (mateB (m.headD []).length) then 420 else 0
def favQ (m : List (List Int)) (mates : List (List Bool)) (j : Nat) : Rat :=
  Rat.divInt (cs (favS (aboveL m j) mates j mates.length) (favN mates j mates.length) (aboveL m j) 0 : Nat) (bin m.length (favN mates j mates.length) : Nat)
set_option maxHeartbeats 2000000 in
theorem findings_mate (pm : Nat) (ca : Option Addr) (cm cap : Nat) (m : List (List Int)) (r0 : List Int) (w : World) (h : Rows w ca cm m) (h0 : m[0]? = some r0) (km : w.cell? ⟨pm, 0, none⟩ = some (.slice ca m.length cm))
    (a : Option Addr) (x : List Bool) (hx : Bools w a cap x) :
    Calls Tryz.prog 27 #[.slice a x.length cap, .pointer (some ⟨pm, 0, none⟩)] w fun e w' => e = .returned (.bool (mateB r0.length x)) ∧ w = w' := by
  have hle := hx.le
  have hmx := hx.mx
  have hle2 := h.le
  have hmx2 := h.mx
  have hm0 : 0 < m.length := by
    rcases Nat.eq_zero_or_pos m.length with e | e
    · rw [List.length_eq_zero_iff] at e; subst e; simp at h0
    · exact e
  obtain ⟨b, o, rfl⟩ := h.head hm0
  obtain ⟨r1, a2, c2, hr1, hc1, hI1⟩ := Rows.get h hm0
  rw [h0] at hr1
  cases hr1
  have hr0 := hI1.le
  have hr2 := hI1.mx
  have g0 : (0 : Int) < (m.length : Int) := by omega
  simp only [Nat.add_zero] at hc1
  unfold mateB
  by_cases hd : x.length = r0.length
  · have t1 : ((x.length : Int) != (r0.length : Int)) = false := by simp [hd]
    rw [decide_eq_false (show ¬ x.length ≠ r0.length by simp [hd])]
    generalize x.length = n at *
    generalize r0.length = k at *
    subst hd
    clear h hx hI1 h0 t1
    go_enter Tryz.func27, Tryz.ntmps27
    go_wp2_with fail
    go_ret
    exact ⟨by simp, rfl⟩
  · have t1 : ((x.length : Int) != (r0.length : Int)) = true := by simp; omega
    rw [decide_eq_true (show x.length ≠ r0.length from hd)]
    generalize x.length = n at *
    generalize r0.length = k at *
    have t2 : ¬ n = k := hd
    clear h hx hI1 h0
    go_enter Tryz.func27, Tryz.ntmps27
    go_wp2_with fail
    go_ret
    exact ⟨by simp [t2], rfl⟩
set_option maxHeartbeats 4000000 in
theorem findings_Favour_ask (a a2 : Option Addr) (cap cap2 : Nat) (m : List (List Int)) (mates : List (List Bool)) (j : Int) (w : World) (h : Rows w a cap m) (h2 : BRows w a2 cap2 mates) (hj : -9223372036854775808 ≤ j ∧ j ≤ 9223372036854775807) (hE : askW m [j] ≠ 0) :
    Calls Tryz.prog 11 #[.slice a m.length cap, .slice a2 mates.length cap2, .int .i64 j] w (RatE (askW m [j]) w) := by
  have hle := h.le
  have hmx := h.mx
  have hle2 := h2.le
  have hmx2 := h2.mx
  have HJ := Lib.hid hj
  have HH := Lib.hid h
  have HH2 := Lib.hid h2
  have HCK := Lib.hid (fun W (hW : Ext w W) g (hI : Ints W (some ⟨g, 0, none⟩) 1 [j]) => findings_check a cap m g 0 1 [j] W (h.ext hW) hI (by simp))
  simp only [List.length_cons, List.length_nil, Nat.zero_add] at HCK
  obtain ⟨E, hEE⟩ : ∃ E, askW m [j] = E := ⟨_, rfl⟩
  rw [hEE] at HCK hE ⊢
  have t1 : (E != 0) = true := by simpa using hE
  clear h h2 hj hE
  obtain ⟨x1, hw, hx, Km, Kp⟩ := boxQ2 w #[.slice a m.length cap] 22 #[.bool false, .slice none 0 0, .bool false, .slice none 0 0] 34
  replace hw := Lib.hid hw
  go_enter Tryz.func11, Tryz.ntmps11
  go_upto_region 1 with fail
  try simp only [Nat.add_assoc, Nat.reduceAdd, Nat.add_zero]
  rw [hw.out]
  clear hw
  have hs0 := hx.size
  have cm0 := bk1 Km
  obtain ⟨cp0, cp1, cp2, cp3⟩ := bk4 Kp
  have hl := Ext.alloc x1 (.cells #[.int .i64 j] 3)
  have hKK := Blk.new0 x1 #[.int .i64 j] 3
  have hlx := hx.trans hl
  have HTT := Lib.hid (HCK.out (World.alloc x1 (.cells #[.int .i64 j] 3)) hlx (Array.size (World.heap x1)) (ints_one hKK HJ.out))
  clear hKK hlx
  go_wp2_with fail
  with_reducible refine (HTT.out).mono ?_
  clear cm0 cp0 cp1 cp2 cp3
  rintro e x2 ⟨rfl, hy⟩
  replace hy := hl.trans hy
  replace hx := hx.trans hy
  replace Km := kE Km hy
  replace Kp := kE Kp hy
  clear hy HTT hl
  clear HCK
  have cm0 := bk1 Km
  obtain ⟨cp0, cp1, cp2, cp3⟩ := bk4 Kp
  obtain ⟨g0, z0, g1, z1, g2, z2, g3, z3⟩ := bp4 Kp (.bool false) (.slice none 0 0) (.bool false) (.slice none 0 0)
  go_wp2_with fail
  clear g0 z0 g1 z1 g2 z2 g3 z3
  clear cm0 cp0 cp1 cp2 cp3
  replace hx := bx4 hx (w.heap.size + 1) (.bool false) (.slice none 0 0) (.bool false) (.slice none 0 0) (by omega)
  replace Km := bo4 Km (w.heap.size + 1) (.bool false) (.slice none 0 0) (.bool false) (.slice none 0 0) (by omega)
  replace Kp := bs4 Kp (.bool false) (.slice none 0 0) (.bool false) (.slice none 0 0)
  generalize ((((x2).setCell ⟨w.heap.size + 1, 0, none⟩ (.bool false)).setCell ⟨w.heap.size + 1, 1, none⟩ (.slice none 0 0)).setCell ⟨w.heap.size + 1, 2, none⟩ (.bool false)).setCell ⟨w.heap.size + 1, 3, none⟩ (.slice none 0 0) = x3 at *
  have cm0 := bk1 Km
  obtain ⟨cp0, cp1, cp2, cp3⟩ := bk4 Kp
  refine bodyPost_ret (v := .tuple #[zeroRat, .int .i64 E]) (by simp [results, Tryz.results11, go_sem, cp0, cp1, cp2, cp3, zeroRat]) rfl ?_
  exact ⟨rfl, hx⟩
set_option maxHeartbeats 4000000 in
theorem findings_Favour_len (a a2 : Option Addr) (cap cap2 : Nat) (m : List (List Int)) (mates : List (List Bool)) (j : Int) (w : World) (h : Rows w a cap m) (h2 : BRows w a2 cap2 mates) (hj : -9223372036854775808 ≤ j ∧ j ≤ 9223372036854775807) (hE : askW m [j] = 0) (hl : mates.length ≠ m.length) :
    Calls Tryz.prog 11 #[.slice a m.length cap, .slice a2 mates.length cap2, .int .i64 j] w (RatE 420 w) := by
  have hle := h.le
  have hmx := h.mx
  have hle2 := h2.le
  have hmx2 := h2.mx
  have HJ := Lib.hid hj
  have HH := Lib.hid h
  have HH2 := Lib.hid h2
  have t3 : ((mates.length : Int) != (m.length : Int)) = true := by simp; omega
  have t3n : ¬ mates.length = m.length := hl
  have HCK := Lib.hid (fun W (hW : Ext w W) g (hI : Ints W (some ⟨g, 0, none⟩) 1 [j]) => findings_check a cap m g 0 1 [j] W (h.ext hW) hI (by simp))
  simp only [List.length_cons, List.length_nil, Nat.zero_add] at HCK
  rw [hE] at HCK
  clear h h2 hj hE
  obtain ⟨x1, hw, hx, Km, Kp⟩ := boxQ2 w #[.slice a m.length cap] 22 #[.bool false, .slice none 0 0, .bool false, .slice none 0 0] 34
  replace hw := Lib.hid hw
  go_enter Tryz.func11, Tryz.ntmps11
  go_upto_region 1 with fail
  try simp only [Nat.add_assoc, Nat.reduceAdd, Nat.add_zero]
  rw [hw.out]
  clear hw
  have hs0 := hx.size
  have cm0 := bk1 Km
  obtain ⟨cp0, cp1, cp2, cp3⟩ := bk4 Kp
  have hl := Ext.alloc x1 (.cells #[.int .i64 j] 3)
  have hKK := Blk.new0 x1 #[.int .i64 j] 3
  have hlx := hx.trans hl
  have HTT := Lib.hid (HCK.out (World.alloc x1 (.cells #[.int .i64 j] 3)) hlx (Array.size (World.heap x1)) (ints_one hKK HJ.out))
  clear hKK hlx
  go_wp2_with fail
  with_reducible refine (HTT.out).mono ?_
  clear cm0 cp0 cp1 cp2 cp3
  rintro e x2 ⟨rfl, hy⟩
  replace hy := hl.trans hy
  replace hx := hx.trans hy
  replace Km := kE Km hy
  replace Kp := kE Kp hy
  clear hy HTT hl
  clear HCK
  have cm0 := bk1 Km
  obtain ⟨cp0, cp1, cp2, cp3⟩ := bk4 Kp
  obtain ⟨g0, z0, g1, z1, g2, z2, g3, z3⟩ := bp4 Kp (.bool false) (.slice none 0 0) (.bool false) (.slice none 0 0)
  go_wp2_with fail
  clear g0 z0 g1 z1 g2 z2 g3 z3
  clear cm0 cp0 cp1 cp2 cp3
  replace hx := bx4 hx (w.heap.size + 1) (.bool false) (.slice none 0 0) (.bool false) (.slice none 0 0) (by omega)
  replace Km := bo4 Km (w.heap.size + 1) (.bool false) (.slice none 0 0) (.bool false) (.slice none 0 0) (by omega)
  replace Kp := bs4 Kp (.bool false) (.slice none 0 0) (.bool false) (.slice none 0 0)
  generalize ((((x2).setCell ⟨w.heap.size + 1, 0, none⟩ (.bool false)).setCell ⟨w.heap.size + 1, 1, none⟩ (.slice none 0 0)).setCell ⟨w.heap.size + 1, 2, none⟩ (.bool false)).setCell ⟨w.heap.size + 1, 3, none⟩ (.slice none 0 0) = x3 at *
  have cm0 := bk1 Km
  obtain ⟨cp0, cp1, cp2, cp3⟩ := bk4 Kp
  refine bodyPost_ret (v := .tuple #[zeroRat, .int .i64 420]) (by simp [results, Tryz.results11, go_sem, cp0, cp1, cp2, cp3, zeroRat]) rfl ?_
  exact ⟨rfl, hx⟩
set_option maxHeartbeats 4000000 in
theorem findings_Favour_row (a a2 : Option Addr) (cap cap2 : Nat) (m : List (List Int)) (mates : List (List Bool)) (j : Int) (w : World) (h : Rows w a cap m) (h2 : BRows w a2 cap2 mates) (hj : -9223372036854775808 ≤ j ∧ j ≤ 9223372036854775807) (hE : askW m [j] = 0) (hl : mates.length = m.length) (hm : mates.any (mateB (m.headD []).length) = true) :
    Calls Tryz.prog 11 #[.slice a m.length cap, .slice a2 mates.length cap2, .int .i64 j] w (RatE 420 w) := by
  have hle := h.le
  have hmx := h.mx
  have hle2 := h2.le
  have hmx2 := h2.mx
  have HJ := Lib.hid hj
  have HH := Lib.hid h
  have HH2 := Lib.hid h2
  obtain ⟨hr, hj1, hj2⟩ := askW_ok hE
  have hj1' : 0 ≤ j := hj1
  have hj2' : j < ((m.headD []).length : Int) := hj2
  clear hj1 hj2
  obtain ⟨r0, hr0⟩ : ∃ r0, m[0]? = some r0 := ⟨_, List.getElem?_eq_getElem hr.p⟩
  have hrd : m.headD [] = r0 := by
    rw [List.headD_eq_head?_getD, List.head?_eq_getElem?, hr0]; rfl
  rw [hrd] at hm hj2' hr
  have HR0 := Lib.hid hr0
  have HRW := Lib.hid hr
  have t3 : ((mates.length : Int) != (m.length : Int)) = false := by simp [hl]
  have HCB := Lib.hid (fun W (hW : Ext w W) (km : W.cell? ⟨w.heap.size, 0, none⟩ = some (.slice a m.length cap)) => containsB 27 #[.pointer (some ⟨w.heap.size, 0, none⟩)] (mateB r0.length) a2 cap2 mates W (h2.ext hW) (enters_of Tryz.func27 (by kernel_rfl) rfl) (fun a3 cap3 x _ hI => findings_mate w.heap.size a cap cap3 m r0 W (h.ext hW) hr0 km a3 x hI))
  rw [hm] at HCB
  simp only [hl] at HCB
  clear hr0 hrd
  clear hm hr
  have HCK := Lib.hid (fun W (hW : Ext w W) g (hI : Ints W (some ⟨g, 0, none⟩) 1 [j]) => findings_check a cap m g 0 1 [j] W (h.ext hW) hI (by simp))
  simp only [List.length_cons, List.length_nil, Nat.zero_add] at HCK
  rw [hE] at HCK
  clear h h2 hj hE
  obtain ⟨x1, hw, hx, Km, Kp⟩ := boxQ2 w #[.slice a m.length cap] 22 #[.bool false, .slice none 0 0, .bool false, .slice none 0 0] 34
  replace hw := Lib.hid hw
  go_enter Tryz.func11, Tryz.ntmps11
  go_upto_region 1 with fail
  try simp only [Nat.add_assoc, Nat.reduceAdd, Nat.add_zero]
  rw [hw.out]
  clear hw
  have hs0 := hx.size
  have cm0 := bk1 Km
  obtain ⟨cp0, cp1, cp2, cp3⟩ := bk4 Kp
  have hl := Ext.alloc x1 (.cells #[.int .i64 j] 3)
  have hKK := Blk.new0 x1 #[.int .i64 j] 3
  have hlx := hx.trans hl
  have HTT := Lib.hid (HCK.out (World.alloc x1 (.cells #[.int .i64 j] 3)) hlx (Array.size (World.heap x1)) (ints_one hKK HJ.out))
  clear hKK hlx
  go_wp2_with fail
  with_reducible refine (HTT.out).mono ?_
  clear cm0 cp0 cp1 cp2 cp3
  rintro e x2 ⟨rfl, hy⟩
  replace hy := hl.trans hy
  replace hx := hx.trans hy
  replace Km := kE Km hy
  replace Kp := kE Kp hy
  clear hy HTT hl
  clear HCK
  have cm0 := bk1 Km
  obtain ⟨cp0, cp1, cp2, cp3⟩ := bk4 Kp
  go_wp2_with fail
  clear cm0 cp0 cp1 cp2 cp3
  with_reducible refine (HCB.out _ hx (bk1 Km)).mono ?_
  rintro e w' ⟨rfl, rfl⟩
  clear HCB
  have cm0 := bk1 Km
  obtain ⟨cp0, cp1, cp2, cp3⟩ := bk4 Kp
  obtain ⟨g0, z0, g1, z1, g2, z2, g3, z3⟩ := bp4 Kp (.bool false) (.slice none 0 0) (.bool false) (.slice none 0 0)
  go_wp2_with fail
  clear g0 z0 g1 z1 g2 z2 g3 z3
  clear cm0 cp0 cp1 cp2 cp3
  replace hx := bx4 hx (w.heap.size + 1) (.bool false) (.slice none 0 0) (.bool false) (.slice none 0 0) (by omega)
  replace Km := bo4 Km (w.heap.size + 1) (.bool false) (.slice none 0 0) (.bool false) (.slice none 0 0) (by omega)
  replace Kp := bs4 Kp (.bool false) (.slice none 0 0) (.bool false) (.slice none 0 0)
  generalize ((((x2).setCell ⟨w.heap.size + 1, 0, none⟩ (.bool false)).setCell ⟨w.heap.size + 1, 1, none⟩ (.slice none 0 0)).setCell ⟨w.heap.size + 1, 2, none⟩ (.bool false)).setCell ⟨w.heap.size + 1, 3, none⟩ (.slice none 0 0) = x3 at *
  have cm0 := bk1 Km
  obtain ⟨cp0, cp1, cp2, cp3⟩ := bk4 Kp
  refine bodyPost_ret (v := .tuple #[zeroRat, .int .i64 420]) (by simp [results, Tryz.results11, go_sem, cp0, cp1, cp2, cp3, zeroRat]) rfl ?_
  exact ⟨rfl, hx⟩
set_option maxHeartbeats 4000000 in
theorem findings_Favour_ok (a a2 : Option Addr) (cap cap2 : Nat) (m : List (List Int)) (mates : List (List Bool)) (j : Int) (w : World) (h : Rows w a cap m) (h2 : BRows w a2 cap2 mates) (hj : -9223372036854775808 ≤ j ∧ j ≤ 9223372036854775807) (hE : askW m [j] = 0) (hl : mates.length = m.length) (hm : mates.any (mateB (m.headD []).length) = false) (h20 : m.length ≤ 20 ∨ 64 < m.length) :
    Calls Tryz.prog 11 #[.slice a m.length cap, .slice a2 mates.length cap2, .int .i64 j] w (RatP (favQ m mates j.toNat) w) := by
  have hle := h.le
  have hmx := h.mx
  have hle2 := h2.le
  have hmx2 := h2.mx
  have HJ := Lib.hid hj
  have HH := Lib.hid h
  have HH2 := Lib.hid h2
  obtain ⟨hr, hj1, hj2⟩ := askW_ok hE
  have hj1' : 0 ≤ j := hj1
  have hj2' : j < ((m.headD []).length : Int) := hj2
  clear hj1 hj2
  obtain ⟨r0, hr0⟩ : ∃ r0, m[0]? = some r0 := ⟨_, List.getElem?_eq_getElem hr.p⟩
  have hrd : m.headD [] = r0 := by
    rw [List.headD_eq_head?_getD, List.head?_eq_getElem?, hr0]; rfl
  rw [hrd] at hm hj2' hr
  have HR0 := Lib.hid hr0
  have HRW := Lib.hid hr
  have t3 : ((mates.length : Int) != (m.length : Int)) = false := by simp [hl]
  have HCB := Lib.hid (fun W (hW : Ext w W) (km : W.cell? ⟨w.heap.size, 0, none⟩ = some (.slice a m.length cap)) => containsB 27 #[.pointer (some ⟨w.heap.size, 0, none⟩)] (mateB r0.length) a2 cap2 mates W (h2.ext hW) (enters_of Tryz.func27 (by kernel_rfl) rfl) (fun a3 cap3 x _ hI => findings_mate w.heap.size a cap cap3 m r0 W (h.ext hW) hr0 km a3 x hI))
  rw [hm] at HCB
  simp only [hl] at HCB
  clear hr0 hrd
  have h20' : m.length ≤ 20 := by have := hr.le; omega
  obtain ⟨k, rfl⟩ : ∃ k : Nat, j = (k : Int) := ⟨j.toNat, by omega⟩
  have hk : k < r0.length := by omega
  have HBD := Lib.hid (above_bd hr hk)
  have HLM : ∀ x ∈ mates, x.length = r0.length := fun x hx => by
    have := List.any_eq_false.1 hm x hx
    simpa [mateB] using this
  replace HLM := Lib.hid HLM
  have HA := Lib.hid (fun W (hW : Ext w W) => findings_above a cap m k W (h.ext hW) (by omega) (fun x hx => ⟨by rw [(hr.row x hx).1]; exact hk, (hr.row x hx).2⟩))
  rw [show (k : Int).toNat = k from rfl]
  have hdl : (aboveL m k).length = m.length := by unfold aboveL; rw [List.length_map]
  unfold favQ
  generalize aboveL m k = d at *
  obtain ⟨R, hR⟩ : ∃ R, R = Rat.divInt (cs (favS d mates k mates.length) (favN mates k mates.length) d 0 : Nat) (bin m.length (favN mates k mates.length) : Nat) := ⟨_, rfl⟩
  rw [← hR]
  have HR := Lib.hid hR
  have HDL := Lib.hid hdl
  have HLL := Lib.hid hl
  have hmp := hr.p
  clear hm hr hdl h20 hR
  have HCK := Lib.hid (fun W (hW : Ext w W) g (hI : Ints W (some ⟨g, 0, none⟩) 1 [(k : Int)]) => findings_check a cap m g 0 1 [(k : Int)] W (h.ext hW) hI (by simp))
  simp only [List.length_cons, List.length_nil, Nat.zero_add] at HCK
  rw [hE] at HCK
  clear h h2 hj hE
  obtain ⟨x1, hw, hx, Km, Kp⟩ := boxQ2 w #[.slice a m.length cap] 22 #[.bool false, .slice none 0 0, .bool false, .slice none 0 0] 34
  replace hw := Lib.hid hw
  go_enter Tryz.func11, Tryz.ntmps11
  go_upto_region 1 with fail
  try simp only [Nat.add_assoc, Nat.reduceAdd, Nat.add_zero]
  rw [hw.out]
  clear hw
  have hs0 := hx.size
  have cm0 := bk1 Km
  obtain ⟨cp0, cp1, cp2, cp3⟩ := bk4 Kp
  have hl := Ext.alloc x1 (.cells #[.int .i64 (k : Int)] 3)
  have hKK := Blk.new0 x1 #[.int .i64 (k : Int)] 3
  have hlx := hx.trans hl
  have HTT := Lib.hid (HCK.out (World.alloc x1 (.cells #[.int .i64 (k : Int)] 3)) hlx (Array.size (World.heap x1)) (ints_one hKK HJ.out))
  clear hKK hlx
  go_wp2_with fail
  with_reducible refine (HTT.out).mono ?_
  clear cm0 cp0 cp1 cp2 cp3
  rintro e x2 ⟨rfl, hy⟩
  replace hy := hl.trans hy
  replace hx := hx.trans hy
  replace Km := kE Km hy
  replace Kp := kE Kp hy
  clear hy HTT hl
  clear HCK
  have cm0 := bk1 Km
  obtain ⟨cp0, cp1, cp2, cp3⟩ := bk4 Kp
  go_wp2_with fail
  clear cm0 cp0 cp1 cp2 cp3
  with_reducible refine (HCB.out _ hx (bk1 Km)).mono ?_
  rintro e w' ⟨rfl, rfl⟩
  clear HCB
  have cm0 := bk1 Km
  obtain ⟨cp0, cp1, cp2, cp3⟩ := bk4 Kp
  go_wp2_with fail
  clear cm0 cp0 cp1 cp2 cp3
  with_reducible refine (HA.out _ hx).mono ?_
  rintro e x20 ⟨v, rfl, hv, hy⟩
  replace hx := hx.trans hy
  replace Km := kE Km hy
  replace Kp := kE Kp hy
  clear hy
  obtain ⟨ad, cd, rfl, hI, -⟩ := owsW_ints hv (fun x hx => by have := HBD.out x hx; omega)
  have HD := Lib.hid hI
  have dle := hI.le
  have dmx := hI.mx
  clear hv hI HA
  have hdl := HDL.out
  rw [hdl] at *
  clear hdl
  have q1 := h20'
  clear hl
  have cm0 := bk1 Km
  obtain ⟨cp0, cp1, cp2, cp3⟩ := bk4 Kp
  go_wp2_with fail
  clear cm0 cp0 cp1 cp2 cp3
  go_loop [10, 11, 41] (fun s c x => ∃ q : Nat, q ≤ m.length ∧ x = .int .i64 q ∧ s = .int .i64 (favN mates k q) ∧ c = .int .i64 (favS d mates k q)) (fun _ _ x => m.length - (intOf x).toNat)
  case atStart => exact ⟨0, Nat.zero_le _, rfl, rfl, rfl⟩
  case round =>
    obtain ⟨q, hq, rfl, rfl, rfl⟩ := hrel
    have g1 : (0 : Int) ≤ (q : Int) := by omega
    have b1 := favN_le mates k q
    obtain ⟨b2, b3⟩ := favS_bd HBD.out mates k q
    obtain ⟨N, eN⟩ : ∃ N, favN mates k q = N := ⟨_, rfl⟩
    obtain ⟨S, eS⟩ : ∃ S, favS d mates k q = S := ⟨_, rfl⟩
    have HEN := Lib.hid eN
    have HES := Lib.hid eS
    rw [eN] at b1 ⊢
    rw [eS] at b2 b3 ⊢
    clear eN eS
    by_cases hqn : q < m.length
    · obtain ⟨b, o, rfl⟩ := HH2.out.head (i := q) (by rw [HLL.out]; exact hqn)
      obtain ⟨row, a3, c3, hrow, hcr, hIB⟩ := BRows.get (HH2.out.ext hx) (i := q) (by rw [HLL.out]; exact hqn)
      have hrl := HLM.out row (List.mem_of_getElem? hrow)
      have hk2 : k < row.length := by omega
      have hk3 : (k : Int) < (row.length : Int) := by omega
      have hk4 : (0 : Int) ≤ (k : Int) := by omega
      obtain ⟨b4, o4, rfl⟩ := hIB.head hk2
      obtain ⟨y, hy, hcy⟩ := Bools.get hIB hk2
      have rle := hIB.le
      have rmx := hIB.mx
      have HHas : Hid (hasW mates k q = y) := Lib.hid (by unfold hasW; simp only [List.getD_eq_getElem?_getD, hrow, Option.getD_some, hy])
      have hqd : q < d.length := by rw [HDL.out]; exact hqn
      obtain ⟨bd, od, rfl⟩ := HD.out.head hqd
      obtain ⟨z, hz, hcz, z1, z2⟩ := Ints.get HD.out hqd
      obtain ⟨z3, z4⟩ := HBD.out z (List.mem_of_getElem? hz)
      have HZ : Hid (d.getD q 0 = z) := Lib.hid (by rw [List.getD_eq_getElem?_getD, hz]; rfl)
      have g2 : (q : Int) < (m.length : Int) := by omega
      generalize row.length = rl at *
      clear hrow hrl hIB hy hqd hz z1 z2
      cases y
      · have cm0 := bk1 Km
        obtain ⟨cp0, cp1, cp2, cp3⟩ := bk4 Kp
        go_wp2_with fail
        go_round
        case rel => exact ⟨q + 1, by omega, by go_num, by unfold favN; rw [HEN.out, HHas.out]; simp, by unfold favS; rw [HES.out, HHas.out]; simp⟩
        case measure => simp [intOf]; omega
      · have cm0 := bk1 Km
        obtain ⟨cp0, cp1, cp2, cp3⟩ := bk4 Kp
        go_wp2_with fail
        go_round
        case rel => exact ⟨q + 1, by omega, by go_num, by unfold favN; rw [HEN.out, HHas.out]; go_num, by unfold favS; rw [HES.out, HHas.out, HZ.out]; simp⟩
        case measure => simp [intOf]; omega
    · have hqe : q = m.length := by omega
      have HS := Lib.hid (fun W (hW : Ext x20 W) => exact_Subsets_any ad cd (N : Int) d S W (HD.out.ext hW) (.inl (by rw [HDL.out]; exact q1)))
      have heS : eS d N = 0 := by
        unfold eS
        rw [if_neg (by rw [HDL.out]; omega), if_neg, if_neg (by omega), if_neg (by rw [HDL.out]; omega)]
        intro ho
        obtain ⟨x, hx1, hx2⟩ := List.any_eq_true.1 ho
        have := HBD.out x hx1
        simp only [outB, Bool.or_eq_true, decide_eq_true_eq] at hx2
        omega
      have hzS : zS d N S = (cs S N d 0 : Nat) := by unfold zS; rw [if_pos heS]; rfl
      rw [heS, hzS, HDL.out] at HS
      have HCH := Lib.hid (fun W => nat_Choose m.length N W (by omega) (by omega))
      have hsb : cs S N d 0 ≤ 2 ^ 20 := Nat.le_trans (cs_le_bin S N d 0) (by rw [HDL.out]; exact bin_le20 q1)
      have hbb := bin_le20 q1 (k := N)
      have hbp := bin_pos (n := m.length) (k := N) (by omega)
      have hRR : R = Rat.divInt (cs S N d 0 : Nat) (bin m.length N : Nat) := by
        have e := HR.out
        rw [HLL.out, ← hqe, HES.out, HEN.out] at e
        rw [e, hqe]
      generalize cs S N d 0 = c1 at *
      generalize bin m.length N = c2 at *
      subst hRR
      clear heS hzS HBD HR HLM HDL HLL HEN HES
      have cm0 := bk1 Km
      obtain ⟨cp0, cp1, cp2, cp3⟩ := bk4 Kp
      go_wp2_with fail
      clear cm0 cp0 cp1 cp2 cp3
      have hsz := hx.size
      with_reducible refine (HS.out _ (Ext.refl _)).mono ?_
      rintro e x3 ⟨v, rfl, hv, hy⟩
      replace hx := hx.trans hy
      replace Km := kE Km hy
      replace Kp := kE Kp hy
      replace HD := Lib.hid (HD.out.ext hy)
      clear hy HS
      obtain ⟨nu, au, qu, cu, rfl, hv', hf'⟩ := hv.two
      have Vu := Lib.hid hv'
      have Fu := Lib.hid (fun A hA => Nat.le_trans hsz (hf' A hA))
      clear hv' hf' hsz
      clear Fu
      have cm0 := bk1 Km
      obtain ⟨cp0, cp1, cp2, cp3⟩ := bk4 Kp
      go_upto_region 16 with fail
      have hl := Ext.alloc x3 (.cells #[.bool nu, .slice au qu cu] 32)
      have lmu : w.heap.size < x3.heap.size := Km.out.lt
      have lpu : w.heap.size + 1 < x3.heap.size := Kp.out.lt
      have hpu : w.heap.size ≤ x3.heap.size := hx.size
      clear cm0 cp0 cp1 cp2 cp3
      replace hx := hx.trans hl
      replace Km := kE Km hl
      replace Kp := kE Kp hl
      replace HD := Lib.hid (HD.out.ext hl)
      replace Vu := Lib.hid (Vu.out.ext hl)
      have Ku := Lib.hid (Blk.new0 x3 #[.bool nu, .slice au qu cu] 32)
      clear hl
      generalize x3.alloc (.cells #[.bool nu, .slice au qu cu] 32) = x4 at *
      generalize x3.heap.size = pu at *
      have cm0 := bk1 Km
      obtain ⟨cp0, cp1, cp2, cp3⟩ := bk4 Kp
      obtain ⟨cu0, cu1⟩ := bk2 Ku
      have hsz := hx.size
      go_wp2_with fail
      clear cm0 cp0 cp1 cp2 cp3 cu0 cu1
      with_reducible refine (HCH.out _).mono ?_
      rintro e x5 ⟨v, rfl, hv, hy⟩
      replace hx := hx.trans hy
      replace Km := kE Km hy
      replace Kp := kE Kp hy
      replace Ku := kE Ku hy
      replace HD := Lib.hid (HD.out.ext hy)
      replace Vu := Lib.hid (Vu.out.ext hy)
      clear hy HCH
      obtain ⟨nv, av, qv, cv, rfl, hv', hf'⟩ := hv.two
      have Vv := Lib.hid hv'
      have Fv := Lib.hid (fun A hA => Nat.le_trans hsz (hf' A hA))
      clear hv' hf' hsz
      clear Fv
      have cm0 := bk1 Km
      obtain ⟨cp0, cp1, cp2, cp3⟩ := bk4 Kp
      obtain ⟨cu0, cu1⟩ := bk2 Ku
      go_upto_region 19 with fail
      have hl := Ext.alloc x5 (.cells #[.bool nv, .slice av qv cv] 32)
      have lmv : w.heap.size < x5.heap.size := Km.out.lt
      have lpv : w.heap.size + 1 < x5.heap.size := Kp.out.lt
      have luv : pu < x5.heap.size := Ku.out.lt
      have hpv : w.heap.size ≤ x5.heap.size := hx.size
      clear cm0 cp0 cp1 cp2 cp3 cu0 cu1
      replace hx := hx.trans hl
      replace Km := kE Km hl
      replace Kp := kE Kp hl
      replace Ku := kE Ku hl
      replace HD := Lib.hid (HD.out.ext hl)
      replace Vu := Lib.hid (Vu.out.ext hl)
      replace Vv := Lib.hid (Vv.out.ext hl)
      have Kv := Lib.hid (Blk.new0 x5 #[.bool nv, .slice av qv cv] 32)
      clear hl
      generalize x5.alloc (.cells #[.bool nv, .slice av qv cv] 32) = x6 at *
      generalize x5.heap.size = pv at *
      have cm0 := bk1 Km
      obtain ⟨cp0, cp1, cp2, cp3⟩ := bk4 Kp
      obtain ⟨cu0, cu1⟩ := bk2 Ku
      obtain ⟨cv0, cv1⟩ := bk2 Kv
      have hsz := hx.size
      go_wp2_with fail
      clear cm0 cp0 cp1 cp2 cp3 cu0 cu1 cv0 cv1
      refine (ratio_Of_val Vu.out Vv.out ?ha ?hb ?hc).mono ?_
      case ha => exact len_small (by omega)
      case hb => exact len_small (by omega)
      case hc => omega
      rintro e x7 ⟨v, rfl, hv, hy⟩
      replace hx := hx.trans hy
      replace Km := kE Km hy
      replace Kp := kE Kp hy
      replace Ku := kE Ku hy
      replace Kv := kE Kv hy
      replace HD := Lib.hid (HD.out.ext hy)
      replace Vu := Lib.hid (Vu.out.ext hy)
      replace Vv := Lib.hid (Vv.out.ext hy)
      clear hy
      obtain ⟨nr, ar, qr, cr, br, kr, dr, rfl, hv', hf', hg'⟩ := hv
      have Vr := Lib.hid hv'
      have Fr := Lib.hid (fun A hA => Nat.le_trans hsz (hf' A hA))
      have Gr := Lib.hid (fun A hA => Nat.le_trans hsz (hg' A hA))
      clear hv' hf' hg' hsz
      have cm0 := bk1 Km
      obtain ⟨cp0, cp1, cp2, cp3⟩ := bk4 Kp
      obtain ⟨cu0, cu1⟩ := bk2 Ku
      obtain ⟨cv0, cv1⟩ := bk2 Kv
      obtain ⟨g0, z0, g1, z1, g2, z2, g3, z3⟩ := bp4 Kp (.bool nr) (.slice ar qr cr) (.bool false) (.slice br kr dr)
      go_wp2_with fail
      clear g0 z0 g1 z1 g2 z2 g3 z3
      clear cm0 cp0 cp1 cp2 cp3 cu0 cu1 cv0 cv1
      clear HD
      replace Vu := (by first | exact rv4 Vu Kp (.bool nr) (.slice ar qr cr) (.bool false) (.slice br kr dr) rfl rfl rfl rfl | exact bv4 Vu Kp (.bool nr) (.slice ar qr cr) (.bool false) (.slice br kr dr) rfl rfl rfl rfl)
      replace Vv := (by first | exact rv4 Vv Kp (.bool nr) (.slice ar qr cr) (.bool false) (.slice br kr dr) rfl rfl rfl rfl | exact bv4 Vv Kp (.bool nr) (.slice ar qr cr) (.bool false) (.slice br kr dr) rfl rfl rfl rfl)
      replace Vr := (by first | exact rv4 Vr Kp (.bool nr) (.slice ar qr cr) (.bool false) (.slice br kr dr) rfl rfl rfl rfl | exact bv4 Vr Kp (.bool nr) (.slice ar qr cr) (.bool false) (.slice br kr dr) rfl rfl rfl rfl)
      replace hx := bx4 hx (w.heap.size + 1) (.bool nr) (.slice ar qr cr) (.bool false) (.slice br kr dr) (by omega)
      replace Km := bo4 Km (w.heap.size + 1) (.bool nr) (.slice ar qr cr) (.bool false) (.slice br kr dr) (by omega)
      replace Kp := bs4 Kp (.bool nr) (.slice ar qr cr) (.bool false) (.slice br kr dr)
      replace Ku := bo4 Ku (w.heap.size + 1) (.bool nr) (.slice ar qr cr) (.bool false) (.slice br kr dr) (by omega)
      replace Kv := bo4 Kv (w.heap.size + 1) (.bool nr) (.slice ar qr cr) (.bool false) (.slice br kr dr) (by omega)
      generalize ((((x7).setCell ⟨w.heap.size + 1, 0, none⟩ (.bool nr)).setCell ⟨w.heap.size + 1, 1, none⟩ (.slice ar qr cr)).setCell ⟨w.heap.size + 1, 2, none⟩ (.bool false)).setCell ⟨w.heap.size + 1, 3, none⟩ (.slice br kr dr) = x8 at *
      have cm0 := bk1 Km
      obtain ⟨cp0, cp1, cp2, cp3⟩ := bk4 Kp
      obtain ⟨cu0, cu1⟩ := bk2 Ku
      obtain ⟨cv0, cv1⟩ := bk2 Kv
      refine bodyPost_ret (v := .tuple #[.agg #[.bool nr, .slice ar qr cr, .bool false, .slice br kr dr], .int .i64 0]) (by simp [results, Tryz.results11, go_sem, cp0, cp1, cp2, cp3]) rfl ?_
      exact ⟨_, rfl, ⟨_, _, _, _, _, _, _, rfl, Vr.out, Fr.out, Gr.out⟩, hx⟩
end Go.Proofs.YtmcbbhlglccmgaaGreat

namespace Go.Proofs.YtmcbbhlglccmgaaGreat
open Go.RowKit Go BigFrame Go.Shelf
set_option maxRecDepth 100000
set_option linter.unusedSimpArgs false
set_option linter.unusedVariables false

/-! Layer 42: findings.Agree, findings.Drift. -/
def colW (m : List (List Int)) (j : Nat) : List Int := m.map fun r => r.getD j 0
theorem col_bd {m : List (List Int)} {n j : Nat} (h : RightW m n) (hj : j < n) : ∀ x ∈ colW m j, 0 ≤ x ∧ x ≤ 1000 := by
  intro x hx
  obtain ⟨r, hr, rfl⟩ := List.mem_map.1 hx
  obtain ⟨h1, h2, h3⟩ := h.row r hr
  show 0 ≤ r.getD j 0 ∧ r.getD j 0 ≤ 1000
  rw [List.getD_eq_getElem?_getD, List.getElem?_eq_getElem (by omega)]
  exact h3 _ (List.getElem_mem _)
def cntE (x y : List Int) : Nat → Nat
  | 0 => 0
  | k + 1 => cntE x y k + if x.getD k 0 = y.getD k 0 then 1 else 0
theorem cntE_le (x y : List Int) : ∀ k, cntE x y k ≤ k := by
  intro k
  induction k with
  | zero => exact Nat.le_refl _
  | succ k ih => unfold cntE; split <;> omega
def agrE (m : List (List Int)) (a b : Int) : Int := if askW m [a, b] ≠ 0 then askW m [a, b] else if a = b then 1 else if 8 < m.length then 2 else 0
def agrQ (m : List (List Int)) (a b : Nat) : Rat := Rat.divInt (cntG eqP (colW m a) (colW m b) (cntE (colW m a) (colW m b) m.length : Nat) : Nat) (factW m.length)
theorem ints_two {w : World} {g : Nat} {a b : Int} {t : TypeId} (h : Blk w g #[.int .i64 a, .int .i64 b] t) (ha : -9223372036854775808 ≤ a ∧ a ≤ 9223372036854775807) (hb : -9223372036854775808 ≤ b ∧ b ≤ 9223372036854775807) : Ints w (some ⟨g, 0, none⟩) 2 [a, b] :=
  ⟨by simp, by omega, (by simp), fun A hA i hi => by
    cases hA
    simp only [List.length_cons, List.length_nil] at hi
    match i, hi with
    | 0, _ => exact ⟨rfl, _, h.cell (i := 0) rfl, rfl, ha.1, ha.2⟩
    | 1, _ => exact ⟨rfl, _, h.cell (i := 1) rfl, rfl, hb.1, hb.2⟩⟩
set_option maxHeartbeats 2000000 in
theorem findings_agree3 (p1 p2 p3 : Nat) (ax ay : Option Addr) (cx cy : Nat) (x y : List Int) (many : Int) (w : World) (hx : Ints w ax cx x) (hy : Ints w ay cy y)
    (k1 : w.cell? ⟨p1, 0, none⟩ = some (.slice ax x.length cx)) (k2 : w.cell? ⟨p2, 0, none⟩ = some (.slice ay y.length cy)) (k3 : w.cell? ⟨p3, 0, none⟩ = some (.int .i64 many)) (hm : -9223372036854775808 ≤ many ∧ many ≤ 9223372036854775807) :
    Calls Tryz.prog 39 #[.pointer (some ⟨p1, 0, none⟩), .pointer (some ⟨p2, 0, none⟩), .pointer (some ⟨p3, 0, none⟩)] w fun e w' => e = .returned (.tuple #[.int .i64 (mZ x y many), .int .i64 (mE x y)]) ∧ Ext w w' := by
  have HC := Lib.hid (exact_Matches_any ax ay cx cy x y many w hx hy hm)
  have l1 := hx.le
  have l2 := hx.mx
  have l3 := hy.le
  have l4 := hy.mx
  clear hx hy hm
  generalize mZ x y many = z at *
  generalize mE x y = E at *
  generalize x.length = n1 at *
  generalize y.length = n2 at *
  go_enter Tryz.func39, Tryz.ntmps39
  go_wp2_with fail
  with_reducible refine (HC.out).mono ?_
  rintro e w' ⟨rfl, hy⟩
  have HY := Lib.hid hy
  clear HC hy
  go_wp2_with fail
  refine bodyPost_ret (v := .tuple #[.int .i64 z, .int .i64 E]) (by simp [results, Tryz.results39, go_sem]) rfl ?_
  exact ⟨rfl, HY.out⟩
set_option maxHeartbeats 2000000 in
theorem findings_drift1 (p1 p2 p3 : Nat) (ax ay : Option Addr) (cx cy : Nat) (x y : List Int) (many : Int) (w : World) (hx : Ints w ax cx x) (hy : Ints w ay cy y)
    (k1 : w.cell? ⟨p1, 0, none⟩ = some (.slice ax x.length cx)) (k2 : w.cell? ⟨p2, 0, none⟩ = some (.slice ay y.length cy)) (k3 : w.cell? ⟨p3, 0, none⟩ = some (.int .i64 many)) (hm : -9223372036854775808 ≤ many ∧ many ≤ 9223372036854775807) :
    Calls Tryz.prog 44 #[.pointer (some ⟨p1, 0, none⟩), .pointer (some ⟨p2, 0, none⟩), .pointer (some ⟨p3, 0, none⟩)] w fun e w' => e = .returned (.tuple #[.int .i64 (oZ x y many), .int .i64 (oE x y)]) ∧ Ext w w' := by
  have HC := Lib.hid (exact_Orders_any ax ay cx cy x y many w hx hy hm)
  have l1 := hx.le
  have l2 := hx.mx
  have l3 := hy.le
  have l4 := hy.mx
  clear hx hy hm
  generalize oZ x y many = z at *
  generalize oE x y = E at *
  generalize x.length = n1 at *
  generalize y.length = n2 at *
  go_enter Tryz.func44, Tryz.ntmps44
  go_wp2_with fail
  with_reducible refine (HC.out).mono ?_
  rintro e w' ⟨rfl, hy⟩
  have HY := Lib.hid hy
  clear HC hy
  go_wp2_with fail
  refine bodyPost_ret (v := .tuple #[.int .i64 z, .int .i64 E]) (by simp [results, Tryz.results44, go_sem]) rfl ?_
  exact ⟨rfl, HY.out⟩
set_option maxHeartbeats 4000000 in
theorem findings_Agree_ask (a : Option Addr) (cap : Nat) (m : List (List Int)) (ja jb : Int) (w : World) (h : Rows w a cap m) (hja : -9223372036854775808 ≤ ja ∧ ja ≤ 9223372036854775807) (hjb : -9223372036854775808 ≤ jb ∧ jb ≤ 9223372036854775807) (hE : askW m [ja, jb] ≠ 0) :
    Calls Tryz.prog 13 #[.slice a m.length cap, .int .i64 ja, .int .i64 jb] w (RatE (askW m [ja, jb]) w) := by
  have hle := h.le
  have hmx := h.mx
  have HJA := Lib.hid hja
  have HJB := Lib.hid hjb
  have HH := Lib.hid h
  have HCK := Lib.hid (fun W (hW : Ext w W) g (hI : Ints W (some ⟨g, 0, none⟩) 2 [ja, jb]) => findings_check a cap m g 0 2 [ja, jb] W (h.ext hW) hI (by simp))
  simp only [List.length_cons, List.length_nil, Nat.zero_add, Nat.reduceAdd] at HCK
  obtain ⟨E, hEE⟩ : ∃ E, askW m [ja, jb] = E := ⟨_, rfl⟩
  rw [hEE] at HCK hE ⊢
  have t1 : (E != 0) = true := by simpa using hE
  clear h hja hjb hE
  obtain ⟨x1, hw, hx, Ka, Kb, Kp⟩ := boxQ3 w #[.int .i64 ja] 3 #[.int .i64 jb] 3 #[.bool false, .slice none 0 0, .bool false, .slice none 0 0] 34
  replace hw := Lib.hid hw
  go_enter Tryz.func13, Tryz.ntmps13
  go_upto_region 1 with fail
  try simp only [Nat.add_assoc, Nat.reduceAdd, Nat.add_zero]
  rw [hw.out]
  clear hw
  have hs0 := hx.size
  have ca0 := bk1 Ka
  have cb0 := bk1 Kb
  obtain ⟨cp0, cp1, cp2, cp3⟩ := bk4 Kp
  have hl := Ext.alloc x1 (.cells #[.int .i64 ja, .int .i64 jb] 3)
  have hKK := Blk.new0 x1 #[.int .i64 ja, .int .i64 jb] 3
  have hlx := hx.trans hl
  have HTT := Lib.hid (HCK.out (World.alloc x1 (.cells #[.int .i64 ja, .int .i64 jb] 3)) hlx (Array.size (World.heap x1)) (ints_two hKK HJA.out HJB.out))
  clear hKK hlx
  go_wp2_with fail
  with_reducible refine (HTT.out).mono ?_
  clear ca0 cb0 cp0 cp1 cp2 cp3
  rintro e x2 ⟨rfl, hy⟩
  replace hy := hl.trans hy
  replace hx := hx.trans hy
  replace Ka := kE Ka hy
  replace Kb := kE Kb hy
  replace Kp := kE Kp hy
  clear hy HTT hl
  clear HCK
  have ca0 := bk1 Ka
  have cb0 := bk1 Kb
  obtain ⟨cp0, cp1, cp2, cp3⟩ := bk4 Kp
  obtain ⟨g0, z0, g1, z1, g2, z2, g3, z3⟩ := bp4 Kp (.bool false) (.slice none 0 0) (.bool false) (.slice none 0 0)
  go_wp2_with fail
  clear g0 z0 g1 z1 g2 z2 g3 z3
  clear ca0 cb0 cp0 cp1 cp2 cp3
  replace hx := bx4 hx (w.heap.size + 2) (.bool false) (.slice none 0 0) (.bool false) (.slice none 0 0) (by omega)
  replace Ka := bo4 Ka (w.heap.size + 2) (.bool false) (.slice none 0 0) (.bool false) (.slice none 0 0) (by omega)
  replace Kb := bo4 Kb (w.heap.size + 2) (.bool false) (.slice none 0 0) (.bool false) (.slice none 0 0) (by omega)
  replace Kp := bs4 Kp (.bool false) (.slice none 0 0) (.bool false) (.slice none 0 0)
  generalize ((((x2).setCell ⟨w.heap.size + 2, 0, none⟩ (.bool false)).setCell ⟨w.heap.size + 2, 1, none⟩ (.slice none 0 0)).setCell ⟨w.heap.size + 2, 2, none⟩ (.bool false)).setCell ⟨w.heap.size + 2, 3, none⟩ (.slice none 0 0) = x3 at *
  have ca0 := bk1 Ka
  have cb0 := bk1 Kb
  obtain ⟨cp0, cp1, cp2, cp3⟩ := bk4 Kp
  refine bodyPost_ret (v := .tuple #[zeroRat, .int .i64 E]) (by simp [results, Tryz.results13, go_sem, cp0, cp1, cp2, cp3, zeroRat]) rfl ?_
  exact ⟨rfl, hx⟩
set_option maxHeartbeats 4000000 in
theorem findings_Agree_same (a : Option Addr) (cap : Nat) (m : List (List Int)) (ja jb : Int) (w : World) (h : Rows w a cap m) (hja : -9223372036854775808 ≤ ja ∧ ja ≤ 9223372036854775807) (hjb : -9223372036854775808 ≤ jb ∧ jb ≤ 9223372036854775807) (hE : askW m [ja, jb] = 0) (hab : ja = jb) :
    Calls Tryz.prog 13 #[.slice a m.length cap, .int .i64 ja, .int .i64 jb] w (RatE 1 w) := by
  have hle := h.le
  have hmx := h.mx
  have HJA := Lib.hid hja
  have HJB := Lib.hid hjb
  have HH := Lib.hid h
  subst hab
  have HCK := Lib.hid (fun W (hW : Ext w W) g (hI : Ints W (some ⟨g, 0, none⟩) 2 [ja, ja]) => findings_check a cap m g 0 2 [ja, ja] W (h.ext hW) hI (by simp))
  simp only [List.length_cons, List.length_nil, Nat.zero_add, Nat.reduceAdd] at HCK
  rw [hE] at HCK
  clear h hja hjb hE
  obtain ⟨x1, hw, hx, Ka, Kb, Kp⟩ := boxQ3 w #[.int .i64 ja] 3 #[.int .i64 ja] 3 #[.bool false, .slice none 0 0, .bool false, .slice none 0 0] 34
  replace hw := Lib.hid hw
  go_enter Tryz.func13, Tryz.ntmps13
  go_upto_region 1 with fail
  try simp only [Nat.add_assoc, Nat.reduceAdd, Nat.add_zero]
  rw [hw.out]
  clear hw
  have hs0 := hx.size
  have ca0 := bk1 Ka
  have cb0 := bk1 Kb
  obtain ⟨cp0, cp1, cp2, cp3⟩ := bk4 Kp
  have hl := Ext.alloc x1 (.cells #[.int .i64 ja, .int .i64 ja] 3)
  have hKK := Blk.new0 x1 #[.int .i64 ja, .int .i64 ja] 3
  have hlx := hx.trans hl
  have HTT := Lib.hid (HCK.out (World.alloc x1 (.cells #[.int .i64 ja, .int .i64 ja] 3)) hlx (Array.size (World.heap x1)) (ints_two hKK HJA.out HJB.out))
  clear hKK hlx
  go_wp2_with fail
  with_reducible refine (HTT.out).mono ?_
  clear ca0 cb0 cp0 cp1 cp2 cp3
  rintro e x2 ⟨rfl, hy⟩
  replace hy := hl.trans hy
  replace hx := hx.trans hy
  replace Ka := kE Ka hy
  replace Kb := kE Kb hy
  replace Kp := kE Kp hy
  clear hy HTT hl
  clear HCK
  have ca0 := bk1 Ka
  have cb0 := bk1 Kb
  obtain ⟨cp0, cp1, cp2, cp3⟩ := bk4 Kp
  obtain ⟨g0, z0, g1, z1, g2, z2, g3, z3⟩ := bp4 Kp (.bool false) (.slice none 0 0) (.bool false) (.slice none 0 0)
  go_wp2_with fail
  clear g0 z0 g1 z1 g2 z2 g3 z3
  clear ca0 cb0 cp0 cp1 cp2 cp3
  replace hx := bx4 hx (w.heap.size + 2) (.bool false) (.slice none 0 0) (.bool false) (.slice none 0 0) (by omega)
  replace Ka := bo4 Ka (w.heap.size + 2) (.bool false) (.slice none 0 0) (.bool false) (.slice none 0 0) (by omega)
  replace Kb := bo4 Kb (w.heap.size + 2) (.bool false) (.slice none 0 0) (.bool false) (.slice none 0 0) (by omega)
  replace Kp := bs4 Kp (.bool false) (.slice none 0 0) (.bool false) (.slice none 0 0)
  generalize ((((x2).setCell ⟨w.heap.size + 2, 0, none⟩ (.bool false)).setCell ⟨w.heap.size + 2, 1, none⟩ (.slice none 0 0)).setCell ⟨w.heap.size + 2, 2, none⟩ (.bool false)).setCell ⟨w.heap.size + 2, 3, none⟩ (.slice none 0 0) = x3 at *
  have ca0 := bk1 Ka
  have cb0 := bk1 Kb
  obtain ⟨cp0, cp1, cp2, cp3⟩ := bk4 Kp
  refine bodyPost_ret (v := .tuple #[zeroRat, .int .i64 1]) (by simp [results, Tryz.results13, go_sem, cp0, cp1, cp2, cp3, zeroRat]) rfl ?_
  exact ⟨rfl, hx⟩
theorem cntG_le' (pt : Int → Int → Int) (l m : List Int) (s : Int) : cntG pt l m s ≤ fact l.length := by
  unfold cntG cntL
  refine Nat.le_trans List.countP_le_length ?_
  rw [gen_length]
  exact Nat.le_refl _
set_option maxHeartbeats 4000000 in
theorem findings_Agree_lim (a : Option Addr) (cap : Nat) (m : List (List Int)) (ja jb : Int) (w : World) (h : Rows w a cap m) (hja : -9223372036854775808 ≤ ja ∧ ja ≤ 9223372036854775807) (hjb : -9223372036854775808 ≤ jb ∧ jb ≤ 9223372036854775807) (hE : askW m [ja, jb] = 0) (hab : ja ≠ jb) (h8 : 8 < m.length) :
    Calls Tryz.prog 13 #[.slice a m.length cap, .int .i64 ja, .int .i64 jb] w (RatE 2 w) := by
  have hle := h.le
  have hmx := h.mx
  have HJA := Lib.hid hja
  have HJB := Lib.hid hjb
  have HH := Lib.hid h
  obtain ⟨hr, hj1, hj2⟩ := askW_ok hE
  have hj1' : 0 ≤ ja ∧ 0 ≤ jb := by simp only [minL, List.foldl_cons, List.foldl_nil] at hj1; omega
  have hj2' : ja < ((m.headD []).length : Int) ∧ jb < ((m.headD []).length : Int) := by simp only [maxL, List.foldl_cons, List.foldl_nil] at hj2; omega
  clear hj1 hj2
  obtain ⟨ka, rfl⟩ : ∃ k : Nat, ja = (k : Int) := ⟨ja.toNat, by omega⟩
  obtain ⟨kb, rfl⟩ : ∃ k : Nat, jb = (k : Int) := ⟨jb.toNat, by omega⟩
  have ha : ka < (m.headD []).length := by omega
  have hb : kb < (m.headD []).length := by omega
  have t4 : ((ka : Int) == (kb : Int)) = false := beq_false_of_ne hab
  have t4n : ¬ (ka : Int) = (kb : Int) := hab
  have t4m : ¬ ka = kb := by omega
  have HB1 := Lib.hid (fun x hx => (by have := col_bd hr ha x hx; omega : -9223372036854775808 ≤ x ∧ x ≤ 9223372036854775807))
  have HB2 := Lib.hid (fun x hx => (by have := col_bd hr hb x hx; omega : -9223372036854775808 ≤ x ∧ x ≤ 9223372036854775807))
  have HC1 := Lib.hid (fun W (hW : Ext w W) p (hp : ∀ W', Ext W W' → W'.cell? ⟨p, 0, none⟩ = some (.int .i64 (ka : Int))) => findings_column 36 #[.pointer (some ⟨p, 0, none⟩)] (fun r => r.getD ka 0) a cap m W (h.ext hW) (by have := hr.le; omega) (enters_of Tryz.func36 (by kernel_rfl) rfl) (fun W' hW' a2 c2 x hxm hI => findings_pick1 a2 c2 x p ka W' hI (hp W' hW') (by rw [(hr.row x hxm).1]; exact ha)))
  have HC2 := Lib.hid (fun W (hW : Ext w W) p (hp : ∀ W', Ext W W' → W'.cell? ⟨p, 0, none⟩ = some (.int .i64 (kb : Int))) => findings_column 37 #[.pointer (some ⟨p, 0, none⟩)] (fun r => r.getD kb 0) a cap m W (h.ext hW) (by have := hr.le; omega) (enters_of Tryz.func37 (by kernel_rfl) rfl) (fun W' hW' a2 c2 x hxm hI => findings_pick2 a2 c2 x p kb W' hI (hp W' hW') (by rw [(hr.row x hxm).1]; exact hb)))
  have h64 := hr.le
  have hL1 : (colW m ka).length = m.length := List.length_map ..
  have hL2 : (colW m kb).length = m.length := List.length_map ..
  rw [show m.map (fun r => r.getD ka 0) = colW m ka from rfl] at HC1
  rw [show m.map (fun r => r.getD kb 0) = colW m kb from rfl] at HC2
  try rw [show (ka : Int).toNat = ka from rfl, show (kb : Int).toNat = kb from rfl]
  try unfold agrQ
  generalize colW m ka = X at *
  generalize colW m kb = Y at *
  have HL1 := Lib.hid hL1
  have HL2 := Lib.hid hL2
  clear hr hj1' hj2' ha hb hab hL1 hL2
  have HCK := Lib.hid (fun W (hW : Ext w W) g (hI : Ints W (some ⟨g, 0, none⟩) 2 [(ka : Int), (kb : Int)]) => findings_check a cap m g 0 2 [(ka : Int), (kb : Int)] W (h.ext hW) hI (by simp))
  simp only [List.length_cons, List.length_nil, Nat.zero_add, Nat.reduceAdd] at HCK
  rw [hE] at HCK
  clear h hja hjb hE
  obtain ⟨x1, hw, hx, Ka, Kb, Kp⟩ := boxQ3 w #[.int .i64 (ka : Int)] 3 #[.int .i64 (kb : Int)] 3 #[.bool false, .slice none 0 0, .bool false, .slice none 0 0] 34
  replace hw := Lib.hid hw
  go_enter Tryz.func13, Tryz.ntmps13
  go_upto_region 1 with fail
  try simp only [Nat.add_assoc, Nat.reduceAdd, Nat.add_zero]
  rw [hw.out]
  clear hw
  have hs0 := hx.size
  have ca0 := bk1 Ka
  have cb0 := bk1 Kb
  obtain ⟨cp0, cp1, cp2, cp3⟩ := bk4 Kp
  have hl := Ext.alloc x1 (.cells #[.int .i64 (ka : Int), .int .i64 (kb : Int)] 3)
  have hKK := Blk.new0 x1 #[.int .i64 (ka : Int), .int .i64 (kb : Int)] 3
  have hlx := hx.trans hl
  have HTT := Lib.hid (HCK.out (World.alloc x1 (.cells #[.int .i64 (ka : Int), .int .i64 (kb : Int)] 3)) hlx (Array.size (World.heap x1)) (ints_two hKK HJA.out HJB.out))
  clear hKK hlx
  go_wp2_with fail
  with_reducible refine (HTT.out).mono ?_
  clear ca0 cb0 cp0 cp1 cp2 cp3
  rintro e x2 ⟨rfl, hy⟩
  replace hy := hl.trans hy
  replace hx := hx.trans hy
  replace Ka := kE Ka hy
  replace Kb := kE Kb hy
  replace Kp := kE Kp hy
  clear hy HTT hl
  clear HCK
  have ca0 := bk1 Ka
  have cb0 := bk1 Kb
  obtain ⟨cp0, cp1, cp2, cp3⟩ := bk4 Kp
  go_wp2_with fail
  clear ca0 cb0 cp0 cp1 cp2 cp3
  with_reducible refine (HC1.out _ hx _ (fun W' hW' => (Ka.out.ext hW').cell (i := 0) rfl)).mono ?_
  rintro e x3 ⟨v, rfl, hv, hy⟩
  replace hx := hx.trans hy
  replace Ka := kE Ka hy
  replace Kb := kE Kb hy
  replace Kp := kE Kp hy
  clear hy
  obtain ⟨ax, cx, rfl, hI, -⟩ := owsW_ints hv HB1.out
  have Vx := Lib.hid hI
  have xle := hI.le
  have xmx := hI.mx
  rw [HL1.out] at xle
  rw [show X.length = m.length from HL1.out]
  clear hv hI HC1
  have ca0 := bk1 Ka
  have cb0 := bk1 Kb
  obtain ⟨cp0, cp1, cp2, cp3⟩ := bk4 Kp
  go_upto_region 7 with fail
  have hl := Ext.alloc x3 (.cells #[.slice ax m.length cx] 27)
  have lax : w.heap.size < x3.heap.size := Ka.out.lt
  have lbx : w.heap.size + 1 < x3.heap.size := Kb.out.lt
  have lpx : w.heap.size + 2 < x3.heap.size := Kp.out.lt
  have hpx : w.heap.size ≤ x3.heap.size := hx.size
  clear ca0 cb0 cp0 cp1 cp2 cp3
  replace hx := hx.trans hl
  replace Ka := kE Ka hl
  replace Kb := kE Kb hl
  replace Kp := kE Kp hl
  replace Vx := Lib.hid (Vx.out.ext hl)
  have Kx := Lib.hid (Blk.new0 x3 #[.slice ax m.length cx] 27)
  clear hl
  generalize x3.alloc (.cells #[.slice ax m.length cx] 27) = x4 at *
  generalize x3.heap.size = px at *
  have ca0 := bk1 Ka
  have cb0 := bk1 Kb
  obtain ⟨cp0, cp1, cp2, cp3⟩ := bk4 Kp
  have cx0 := bk1 Kx
  go_wp2_with fail
  clear ca0 cb0 cp0 cp1 cp2 cp3 cx0
  with_reducible refine (HC2.out _ hx _ (fun W' hW' => (Kb.out.ext hW').cell (i := 0) rfl)).mono ?_
  rintro e x5 ⟨v, rfl, hv, hy⟩
  replace hx := hx.trans hy
  replace Ka := kE Ka hy
  replace Kb := kE Kb hy
  replace Kp := kE Kp hy
  replace Kx := kE Kx hy
  replace Vx := Lib.hid (Vx.out.ext hy)
  clear hy
  obtain ⟨ay, cy, rfl, hI, -⟩ := owsW_ints hv HB2.out
  have Vy := Lib.hid hI
  have yle := hI.le
  have ymx := hI.mx
  rw [HL2.out] at yle
  rw [show Y.length = m.length from HL2.out]
  clear hv hI HC2
  have ca0 := bk1 Ka
  have cb0 := bk1 Kb
  obtain ⟨cp0, cp1, cp2, cp3⟩ := bk4 Kp
  have cx0 := bk1 Kx
  go_upto_region 8 with fail
  have hl := Ext.alloc x5 (.cells #[.slice ay m.length cy] 27)
  have lay : w.heap.size < x5.heap.size := Ka.out.lt
  have lby : w.heap.size + 1 < x5.heap.size := Kb.out.lt
  have lpy : w.heap.size + 2 < x5.heap.size := Kp.out.lt
  have lxy : px < x5.heap.size := Kx.out.lt
  have hpy : w.heap.size ≤ x5.heap.size := hx.size
  clear ca0 cb0 cp0 cp1 cp2 cp3 cx0
  replace hx := hx.trans hl
  replace Ka := kE Ka hl
  replace Kb := kE Kb hl
  replace Kp := kE Kp hl
  replace Kx := kE Kx hl
  replace Vx := Lib.hid (Vx.out.ext hl)
  replace Vy := Lib.hid (Vy.out.ext hl)
  have Ky := Lib.hid (Blk.new0 x5 #[.slice ay m.length cy] 27)
  clear hl
  generalize x5.alloc (.cells #[.slice ay m.length cy] 27) = x6 at *
  generalize x5.heap.size = py at *
  have H0hx := Lib.hid hx
  have H0a := Ka
  have H0b := Kb
  have H0p := Kp
  have H0x := Kx
  have H0y := Ky
  have H0Vx := Vx
  have H0Vy := Vy
  have HST := Lib.hid (fun W (hW : Ext x6 W) v => hW.set (p := ⟨Array.size (World.heap x6), 0, none⟩) (Nat.le_refl _) v)
  have H0X := Lib.hid (Ext.alloc x6 (.cells #[.int .i64 0] 3))
  have ca0 := bk1 Ka
  have cb0 := bk1 Kb
  obtain ⟨cp0, cp1, cp2, cp3⟩ := bk4 Kp
  have cx0 := bk1 Kx
  have cy0 := bk1 Ky
  go_upto_region 9 with fail
  have hl := Ext.alloc x6 (.cells #[.int .i64 0] 3)
  have lan : w.heap.size < x6.heap.size := Ka.out.lt
  have lbn : w.heap.size + 1 < x6.heap.size := Kb.out.lt
  have lpn : w.heap.size + 2 < x6.heap.size := Kp.out.lt
  have lxn : px < x6.heap.size := Kx.out.lt
  have lyn : py < x6.heap.size := Ky.out.lt
  have hpn : w.heap.size ≤ x6.heap.size := hx.size
  clear ca0 cb0 cp0 cp1 cp2 cp3 cx0 cy0
  replace hx := hx.trans hl
  replace Ka := kE Ka hl
  replace Kb := kE Kb hl
  replace Kp := kE Kp hl
  replace Kx := kE Kx hl
  replace Ky := kE Ky hl
  replace Vx := Lib.hid (Vx.out.ext hl)
  replace Vy := Lib.hid (Vy.out.ext hl)
  have Kn := Lib.hid (Blk.new0 x6 #[.int .i64 0] 3)
  clear hl
  generalize x6.alloc (.cells #[.int .i64 0] 3) = x7 at *
  generalize x6.heap.size = pn at *
  have ca0 := bk1 Ka
  have cb0 := bk1 Kb
  obtain ⟨cp0, cp1, cp2, cp3⟩ := bk4 Kp
  have cx0 := bk1 Kx
  have cy0 := bk1 Ky
  have cn0 := bk1 Kn
  go_wp2_with fail
  have HKn0 := Kn
  clear ca0 cb0 cp0 cp1 cp2 cp3 cx0 cy0 cn0
  clear hx Ka Kb Kp Kx Ky Kn Vx Vy
  go_loopw [35] (fun i wr => ∃ q : Nat, q ≤ m.length ∧ i = .int .i64 q ∧ Ext x6 wr ∧ Blk wr pn #[.int .i64 (cntE X Y q : Nat)] 3) (fun i _ => m.length - (intOf i).toNat)
  case atStart => exact ⟨0, Nat.zero_le _, rfl, H0X.out, HKn0.out⟩
  case round =>
    obtain ⟨q, hq, rfl, hxr, hkn⟩ := hrel
    have Kn := Lib.hid hkn
    have g1 : (0 : Int) ≤ (q : Int) := by omega
    have b1 := cntE_le X Y q
    obtain ⟨N, eN⟩ : ∃ N, cntE X Y q = N := ⟨_, rfl⟩
    have HEN := Lib.hid eN
    rw [eN] at b1 Kn
    clear eN HKn0 hkn
    by_cases hqn : q < m.length
    · have hx := H0hx.out.trans hxr
      have Ka := kE H0a hxr
      have Kb := kE H0b hxr
      have Kp := kE H0p hxr
      have Kx := kE H0x hxr
      have Ky := kE H0y hxr
      have Vx := Lib.hid (H0Vx.out.ext hxr)
      have Vy := Lib.hid (H0Vy.out.ext hxr)
      have hq1 : q < X.length := by rw [HL1.out]; exact hqn
      have hq2 : q < Y.length := by rw [HL2.out]; exact hqn
      obtain ⟨b1x, o1x, rfl⟩ := Vx.out.head hq1
      obtain ⟨b1y, o1y, rfl⟩ := Vy.out.head hq2
      obtain ⟨z1, hz1, hc1, -, -⟩ := Ints.get Vx.out hq1
      obtain ⟨z2, hz2, hc2, -, -⟩ := Ints.get Vy.out hq2
      have HZ1 : Hid (X.getD q 0 = z1) := Lib.hid (by rw [List.getD_eq_getElem?_getD, hz1]; rfl)
      have HZ2 : Hid (Y.getD q 0 = z2) := Lib.hid (by rw [List.getD_eq_getElem?_getD, hz2]; rfl)
      have g2 : (q : Int) < (m.length : Int) := by omega
      clear hz1 hz2 hq1 hq2
      by_cases hzz : z1 = z2
      · subst hzz
        have ca0 := bk1 Ka
        have cb0 := bk1 Kb
        obtain ⟨cp0, cp1, cp2, cp3⟩ := bk4 Kp
        have cx0 := bk1 Kx
        have cy0 := bk1 Ky
        have cn0 := bk1 Kn
        obtain ⟨g0, zz0⟩ := bp1 Kn (.int .i64 ((N + 1 : Nat) : Int))
        go_wp2_with fail
        go_roundw
        case rel =>
          have e : cntE X Y (q + 1) = N + 1 := by unfold cntE; rw [HEN.out, HZ1.out, HZ2.out]; simp
          refine ⟨q + 1, by omega, by go_num, HST.out _ hxr _, ?_⟩
          rw [e]
          have hb := (bs1 Kn (.int .i64 ((N : Int) + 1))).out
          rw [show ((N + 1 : Nat) : Int) = (N : Int) + 1 by omega]
          exact hb
        case measure => simp [intOf]; omega
      · have t5 : (z1 == z2) = false := beq_false_of_ne hzz
        have ca0 := bk1 Ka
        have cb0 := bk1 Kb
        obtain ⟨cp0, cp1, cp2, cp3⟩ := bk4 Kp
        have cx0 := bk1 Kx
        have cy0 := bk1 Ky
        have cn0 := bk1 Kn
        go_wp2_with fail
        go_roundw
        case rel =>
          have e : cntE X Y (q + 1) = N := by unfold cntE; rw [HEN.out, HZ1.out, HZ2.out]; simp [hzz]
          exact ⟨q + 1, by omega, by go_num, hxr, by rw [e]; exact Kn.out⟩
        case measure => simp [intOf]; omega
    · have hx := H0hx.out.trans hxr
      have Ka := kE H0a hxr
      have Kb := kE H0b hxr
      have Kp := kE H0p hxr
      have Kx := kE H0x hxr
      have Ky := kE H0y hxr
      have Vx := Lib.hid (H0Vx.out.ext hxr)
      have Vy := Lib.hid (H0Vy.out.ext hxr)
      have e : q = m.length := by omega
      have HQ := Lib.hid e
      have HA3 := Lib.hid (fun W (hW : Ext wr W) => findings_agree3 px py pn ax ay cx cy X Y (N : Int) W (Vx.out.ext hW) (Vy.out.ext hW) ((Kx.out.ext hW).cell (i := 0) (by rw [HL1.out]; rfl)) ((Ky.out.ext hW).cell (i := 0) (by rw [HL2.out]; rfl)) ((Kn.out.ext hW).cell (i := 0) rfl) (by omega))
      have hE0 : mE X Y = 2 := by unfold mE; rw [HL1.out, HL2.out]; unfold listsE; rw [if_pos (by omega)]
      rw [hE0] at HA3
      clear e hE0
      generalize mZ X Y (N : Int) = c1 at *
      clear HEN HB1 HB2
      have ca0 := bk1 Ka
      have cb0 := bk1 Kb
      obtain ⟨cp0, cp1, cp2, cp3⟩ := bk4 Kp
      have cx0 := bk1 Kx
      have cy0 := bk1 Ky
      have cn0 := bk1 Kn
      go_wp2_with fail
      clear ca0 cb0 cp0 cp1 cp2 cp3 cx0 cy0 cn0
      have HEN3 := Lib.hid (show ∀ args w, (callFunc 39 args).run Tryz.prog w = .ok (.enter 39 args) w from enters_of Tryz.func39 (by kernel_rfl) rfl)
      with_reducible refine (findings_permuted_limit a m.length cap 39 #[.pointer (some ⟨px, 0, none⟩), .pointer (some ⟨py, 0, none⟩), .pointer (some ⟨pn, 0, none⟩)] c1 2 _ (by omega) (by omega) HEN3.out HA3.out h8).mono ?_
      rintro e x8 ⟨rfl, hy⟩
      replace hx := hx.trans hy
      replace Ka := kE Ka hy
      replace Kb := kE Kb hy
      replace Kp := kE Kp hy
      replace Kx := kE Kx hy
      replace Ky := kE Ky hy
      replace Kn := kE Kn hy
      replace Vx := Lib.hid (Vx.out.ext hy)
      replace Vy := Lib.hid (Vy.out.ext hy)
      clear hy
      have ca0 := bk1 Ka
      have cb0 := bk1 Kb
      obtain ⟨cp0, cp1, cp2, cp3⟩ := bk4 Kp
      have cx0 := bk1 Kx
      have cy0 := bk1 Ky
      have cn0 := bk1 Kn
      obtain ⟨g0, z0, g1, z1, g2, z2, g3, z3⟩ := bp4 Kp (.bool false) (.slice none 0 0) (.bool false) (.slice none 0 0)
      go_wp2_with fail
      clear g0 z0 g1 z1 g2 z2 g3 z3
      clear ca0 cb0 cp0 cp1 cp2 cp3 cx0 cy0 cn0
      clear Vx
      clear Vy
      replace hx := bx4 hx (w.heap.size + 2) (.bool false) (.slice none 0 0) (.bool false) (.slice none 0 0) (by omega)
      replace Ka := bo4 Ka (w.heap.size + 2) (.bool false) (.slice none 0 0) (.bool false) (.slice none 0 0) (by omega)
      replace Kb := bo4 Kb (w.heap.size + 2) (.bool false) (.slice none 0 0) (.bool false) (.slice none 0 0) (by omega)
      replace Kp := bs4 Kp (.bool false) (.slice none 0 0) (.bool false) (.slice none 0 0)
      replace Kx := bo4 Kx (w.heap.size + 2) (.bool false) (.slice none 0 0) (.bool false) (.slice none 0 0) (by omega)
      replace Ky := bo4 Ky (w.heap.size + 2) (.bool false) (.slice none 0 0) (.bool false) (.slice none 0 0) (by omega)
      replace Kn := bo4 Kn (w.heap.size + 2) (.bool false) (.slice none 0 0) (.bool false) (.slice none 0 0) (by omega)
      generalize ((((x8).setCell ⟨w.heap.size + 2, 0, none⟩ (.bool false)).setCell ⟨w.heap.size + 2, 1, none⟩ (.slice none 0 0)).setCell ⟨w.heap.size + 2, 2, none⟩ (.bool false)).setCell ⟨w.heap.size + 2, 3, none⟩ (.slice none 0 0) = x9 at *
      have ca0 := bk1 Ka
      have cb0 := bk1 Kb
      obtain ⟨cp0, cp1, cp2, cp3⟩ := bk4 Kp
      have cx0 := bk1 Kx
      have cy0 := bk1 Ky
      have cn0 := bk1 Kn
      refine bodyPost_ret (v := .tuple #[zeroRat, .int .i64 2]) (by simp [results, Tryz.results13, go_sem, cp0, cp1, cp2, cp3, zeroRat]) rfl ?_
      exact ⟨rfl, hx⟩
set_option maxHeartbeats 4000000 in
theorem findings_Agree_ok (a : Option Addr) (cap : Nat) (m : List (List Int)) (ja jb : Int) (w : World) (h : Rows w a cap m) (hja : -9223372036854775808 ≤ ja ∧ ja ≤ 9223372036854775807) (hjb : -9223372036854775808 ≤ jb ∧ jb ≤ 9223372036854775807) (hE : askW m [ja, jb] = 0) (hab : ja ≠ jb) (h8 : ¬ 8 < m.length) :
    Calls Tryz.prog 13 #[.slice a m.length cap, .int .i64 ja, .int .i64 jb] w (RatP (agrQ m ja.toNat jb.toNat) w) := by
  have hle := h.le
  have hmx := h.mx
  have HJA := Lib.hid hja
  have HJB := Lib.hid hjb
  have HH := Lib.hid h
  obtain ⟨hr, hj1, hj2⟩ := askW_ok hE
  have hj1' : 0 ≤ ja ∧ 0 ≤ jb := by simp only [minL, List.foldl_cons, List.foldl_nil] at hj1; omega
  have hj2' : ja < ((m.headD []).length : Int) ∧ jb < ((m.headD []).length : Int) := by simp only [maxL, List.foldl_cons, List.foldl_nil] at hj2; omega
  clear hj1 hj2
  obtain ⟨ka, rfl⟩ : ∃ k : Nat, ja = (k : Int) := ⟨ja.toNat, by omega⟩
  obtain ⟨kb, rfl⟩ : ∃ k : Nat, jb = (k : Int) := ⟨jb.toNat, by omega⟩
  have ha : ka < (m.headD []).length := by omega
  have hb : kb < (m.headD []).length := by omega
  have t4 : ((ka : Int) == (kb : Int)) = false := beq_false_of_ne hab
  have t4n : ¬ (ka : Int) = (kb : Int) := hab
  have t4m : ¬ ka = kb := by omega
  have HB1 := Lib.hid (fun x hx => (by have := col_bd hr ha x hx; omega : -9223372036854775808 ≤ x ∧ x ≤ 9223372036854775807))
  have HB2 := Lib.hid (fun x hx => (by have := col_bd hr hb x hx; omega : -9223372036854775808 ≤ x ∧ x ≤ 9223372036854775807))
  have HC1 := Lib.hid (fun W (hW : Ext w W) p (hp : ∀ W', Ext W W' → W'.cell? ⟨p, 0, none⟩ = some (.int .i64 (ka : Int))) => findings_column 36 #[.pointer (some ⟨p, 0, none⟩)] (fun r => r.getD ka 0) a cap m W (h.ext hW) (by have := hr.le; omega) (enters_of Tryz.func36 (by kernel_rfl) rfl) (fun W' hW' a2 c2 x hxm hI => findings_pick1 a2 c2 x p ka W' hI (hp W' hW') (by rw [(hr.row x hxm).1]; exact ha)))
  have HC2 := Lib.hid (fun W (hW : Ext w W) p (hp : ∀ W', Ext W W' → W'.cell? ⟨p, 0, none⟩ = some (.int .i64 (kb : Int))) => findings_column 37 #[.pointer (some ⟨p, 0, none⟩)] (fun r => r.getD kb 0) a cap m W (h.ext hW) (by have := hr.le; omega) (enters_of Tryz.func37 (by kernel_rfl) rfl) (fun W' hW' a2 c2 x hxm hI => findings_pick2 a2 c2 x p kb W' hI (hp W' hW') (by rw [(hr.row x hxm).1]; exact hb)))
  have h64 := hr.le
  have hL1 : (colW m ka).length = m.length := List.length_map ..
  have hL2 : (colW m kb).length = m.length := List.length_map ..
  rw [show m.map (fun r => r.getD ka 0) = colW m ka from rfl] at HC1
  rw [show m.map (fun r => r.getD kb 0) = colW m kb from rfl] at HC2
  try rw [show (ka : Int).toNat = ka from rfl, show (kb : Int).toNat = kb from rfl]
  try unfold agrQ
  generalize colW m ka = X at *
  generalize colW m kb = Y at *
  obtain ⟨R, hR⟩ : ∃ R, R = Rat.divInt (cntG eqP X Y (cntE X Y m.length : Nat) : Nat) (factW m.length) := ⟨_, rfl⟩
  rw [← hR]
  replace hR := Lib.hid hR
  have HL1 := Lib.hid hL1
  have HL2 := Lib.hid hL2
  clear hr hj1' hj2' ha hb hab hL1 hL2
  have HCK := Lib.hid (fun W (hW : Ext w W) g (hI : Ints W (some ⟨g, 0, none⟩) 2 [(ka : Int), (kb : Int)]) => findings_check a cap m g 0 2 [(ka : Int), (kb : Int)] W (h.ext hW) hI (by simp))
  simp only [List.length_cons, List.length_nil, Nat.zero_add, Nat.reduceAdd] at HCK
  rw [hE] at HCK
  clear h hja hjb hE
  obtain ⟨x1, hw, hx, Ka, Kb, Kp⟩ := boxQ3 w #[.int .i64 (ka : Int)] 3 #[.int .i64 (kb : Int)] 3 #[.bool false, .slice none 0 0, .bool false, .slice none 0 0] 34
  replace hw := Lib.hid hw
  go_enter Tryz.func13, Tryz.ntmps13
  go_upto_region 1 with fail
  try simp only [Nat.add_assoc, Nat.reduceAdd, Nat.add_zero]
  rw [hw.out]
  clear hw
  have hs0 := hx.size
  have ca0 := bk1 Ka
  have cb0 := bk1 Kb
  obtain ⟨cp0, cp1, cp2, cp3⟩ := bk4 Kp
  have hl := Ext.alloc x1 (.cells #[.int .i64 (ka : Int), .int .i64 (kb : Int)] 3)
  have hKK := Blk.new0 x1 #[.int .i64 (ka : Int), .int .i64 (kb : Int)] 3
  have hlx := hx.trans hl
  have HTT := Lib.hid (HCK.out (World.alloc x1 (.cells #[.int .i64 (ka : Int), .int .i64 (kb : Int)] 3)) hlx (Array.size (World.heap x1)) (ints_two hKK HJA.out HJB.out))
  clear hKK hlx
  go_wp2_with fail
  with_reducible refine (HTT.out).mono ?_
  clear ca0 cb0 cp0 cp1 cp2 cp3
  rintro e x2 ⟨rfl, hy⟩
  replace hy := hl.trans hy
  replace hx := hx.trans hy
  replace Ka := kE Ka hy
  replace Kb := kE Kb hy
  replace Kp := kE Kp hy
  clear hy HTT hl
  clear HCK
  have ca0 := bk1 Ka
  have cb0 := bk1 Kb
  obtain ⟨cp0, cp1, cp2, cp3⟩ := bk4 Kp
  go_wp2_with fail
  clear ca0 cb0 cp0 cp1 cp2 cp3
  with_reducible refine (HC1.out _ hx _ (fun W' hW' => (Ka.out.ext hW').cell (i := 0) rfl)).mono ?_
  rintro e x3 ⟨v, rfl, hv, hy⟩
  replace hx := hx.trans hy
  replace Ka := kE Ka hy
  replace Kb := kE Kb hy
  replace Kp := kE Kp hy
  clear hy
  obtain ⟨ax, cx, rfl, hI, -⟩ := owsW_ints hv HB1.out
  have Vx := Lib.hid hI
  have xle := hI.le
  have xmx := hI.mx
  rw [HL1.out] at xle
  rw [show X.length = m.length from HL1.out]
  clear hv hI HC1
  have ca0 := bk1 Ka
  have cb0 := bk1 Kb
  obtain ⟨cp0, cp1, cp2, cp3⟩ := bk4 Kp
  go_upto_region 7 with fail
  have hl := Ext.alloc x3 (.cells #[.slice ax m.length cx] 27)
  have lax : w.heap.size < x3.heap.size := Ka.out.lt
  have lbx : w.heap.size + 1 < x3.heap.size := Kb.out.lt
  have lpx : w.heap.size + 2 < x3.heap.size := Kp.out.lt
  have hpx : w.heap.size ≤ x3.heap.size := hx.size
  clear ca0 cb0 cp0 cp1 cp2 cp3
  replace hx := hx.trans hl
  replace Ka := kE Ka hl
  replace Kb := kE Kb hl
  replace Kp := kE Kp hl
  replace Vx := Lib.hid (Vx.out.ext hl)
  have Kx := Lib.hid (Blk.new0 x3 #[.slice ax m.length cx] 27)
  clear hl
  generalize x3.alloc (.cells #[.slice ax m.length cx] 27) = x4 at *
  generalize x3.heap.size = px at *
  have ca0 := bk1 Ka
  have cb0 := bk1 Kb
  obtain ⟨cp0, cp1, cp2, cp3⟩ := bk4 Kp
  have cx0 := bk1 Kx
  go_wp2_with fail
  clear ca0 cb0 cp0 cp1 cp2 cp3 cx0
  with_reducible refine (HC2.out _ hx _ (fun W' hW' => (Kb.out.ext hW').cell (i := 0) rfl)).mono ?_
  rintro e x5 ⟨v, rfl, hv, hy⟩
  replace hx := hx.trans hy
  replace Ka := kE Ka hy
  replace Kb := kE Kb hy
  replace Kp := kE Kp hy
  replace Kx := kE Kx hy
  replace Vx := Lib.hid (Vx.out.ext hy)
  clear hy
  obtain ⟨ay, cy, rfl, hI, -⟩ := owsW_ints hv HB2.out
  have Vy := Lib.hid hI
  have yle := hI.le
  have ymx := hI.mx
  rw [HL2.out] at yle
  rw [show Y.length = m.length from HL2.out]
  clear hv hI HC2
  have ca0 := bk1 Ka
  have cb0 := bk1 Kb
  obtain ⟨cp0, cp1, cp2, cp3⟩ := bk4 Kp
  have cx0 := bk1 Kx
  go_upto_region 8 with fail
  have hl := Ext.alloc x5 (.cells #[.slice ay m.length cy] 27)
  have lay : w.heap.size < x5.heap.size := Ka.out.lt
  have lby : w.heap.size + 1 < x5.heap.size := Kb.out.lt
  have lpy : w.heap.size + 2 < x5.heap.size := Kp.out.lt
  have lxy : px < x5.heap.size := Kx.out.lt
  have hpy : w.heap.size ≤ x5.heap.size := hx.size
  clear ca0 cb0 cp0 cp1 cp2 cp3 cx0
  replace hx := hx.trans hl
  replace Ka := kE Ka hl
  replace Kb := kE Kb hl
  replace Kp := kE Kp hl
  replace Kx := kE Kx hl
  replace Vx := Lib.hid (Vx.out.ext hl)
  replace Vy := Lib.hid (Vy.out.ext hl)
  have Ky := Lib.hid (Blk.new0 x5 #[.slice ay m.length cy] 27)
  clear hl
  generalize x5.alloc (.cells #[.slice ay m.length cy] 27) = x6 at *
  generalize x5.heap.size = py at *
  have H0hx := Lib.hid hx
  have H0a := Ka
  have H0b := Kb
  have H0p := Kp
  have H0x := Kx
  have H0y := Ky
  have H0Vx := Vx
  have H0Vy := Vy
  have HST := Lib.hid (fun W (hW : Ext x6 W) v => hW.set (p := ⟨Array.size (World.heap x6), 0, none⟩) (Nat.le_refl _) v)
  have H0X := Lib.hid (Ext.alloc x6 (.cells #[.int .i64 0] 3))
  have ca0 := bk1 Ka
  have cb0 := bk1 Kb
  obtain ⟨cp0, cp1, cp2, cp3⟩ := bk4 Kp
  have cx0 := bk1 Kx
  have cy0 := bk1 Ky
  go_upto_region 9 with fail
  have hl := Ext.alloc x6 (.cells #[.int .i64 0] 3)
  have lan : w.heap.size < x6.heap.size := Ka.out.lt
  have lbn : w.heap.size + 1 < x6.heap.size := Kb.out.lt
  have lpn : w.heap.size + 2 < x6.heap.size := Kp.out.lt
  have lxn : px < x6.heap.size := Kx.out.lt
  have lyn : py < x6.heap.size := Ky.out.lt
  have hpn : w.heap.size ≤ x6.heap.size := hx.size
  clear ca0 cb0 cp0 cp1 cp2 cp3 cx0 cy0
  replace hx := hx.trans hl
  replace Ka := kE Ka hl
  replace Kb := kE Kb hl
  replace Kp := kE Kp hl
  replace Kx := kE Kx hl
  replace Ky := kE Ky hl
  replace Vx := Lib.hid (Vx.out.ext hl)
  replace Vy := Lib.hid (Vy.out.ext hl)
  have Kn := Lib.hid (Blk.new0 x6 #[.int .i64 0] 3)
  clear hl
  generalize x6.alloc (.cells #[.int .i64 0] 3) = x7 at *
  generalize x6.heap.size = pn at *
  have ca0 := bk1 Ka
  have cb0 := bk1 Kb
  obtain ⟨cp0, cp1, cp2, cp3⟩ := bk4 Kp
  have cx0 := bk1 Kx
  have cy0 := bk1 Ky
  have cn0 := bk1 Kn
  go_wp2_with fail
  have HKn0 := Kn
  clear ca0 cb0 cp0 cp1 cp2 cp3 cx0 cy0 cn0
  clear hx Ka Kb Kp Kx Ky Kn Vx Vy
  go_loopw [35] (fun i wr => ∃ q : Nat, q ≤ m.length ∧ i = .int .i64 q ∧ Ext x6 wr ∧ Blk wr pn #[.int .i64 (cntE X Y q : Nat)] 3) (fun i _ => m.length - (intOf i).toNat)
  case atStart => exact ⟨0, Nat.zero_le _, rfl, H0X.out, HKn0.out⟩
  case round =>
    obtain ⟨q, hq, rfl, hxr, hkn⟩ := hrel
    have Kn := Lib.hid hkn
    have g1 : (0 : Int) ≤ (q : Int) := by omega
    have b1 := cntE_le X Y q
    obtain ⟨N, eN⟩ : ∃ N, cntE X Y q = N := ⟨_, rfl⟩
    have HEN := Lib.hid eN
    rw [eN] at b1 Kn
    clear eN HKn0 hkn
    by_cases hqn : q < m.length
    · have hx := H0hx.out.trans hxr
      have Ka := kE H0a hxr
      have Kb := kE H0b hxr
      have Kp := kE H0p hxr
      have Kx := kE H0x hxr
      have Ky := kE H0y hxr
      have Vx := Lib.hid (H0Vx.out.ext hxr)
      have Vy := Lib.hid (H0Vy.out.ext hxr)
      have hq1 : q < X.length := by rw [HL1.out]; exact hqn
      have hq2 : q < Y.length := by rw [HL2.out]; exact hqn
      obtain ⟨b1x, o1x, rfl⟩ := Vx.out.head hq1
      obtain ⟨b1y, o1y, rfl⟩ := Vy.out.head hq2
      obtain ⟨z1, hz1, hc1, -, -⟩ := Ints.get Vx.out hq1
      obtain ⟨z2, hz2, hc2, -, -⟩ := Ints.get Vy.out hq2
      have HZ1 : Hid (X.getD q 0 = z1) := Lib.hid (by rw [List.getD_eq_getElem?_getD, hz1]; rfl)
      have HZ2 : Hid (Y.getD q 0 = z2) := Lib.hid (by rw [List.getD_eq_getElem?_getD, hz2]; rfl)
      have g2 : (q : Int) < (m.length : Int) := by omega
      clear hz1 hz2 hq1 hq2
      by_cases hzz : z1 = z2
      · subst hzz
        have ca0 := bk1 Ka
        have cb0 := bk1 Kb
        obtain ⟨cp0, cp1, cp2, cp3⟩ := bk4 Kp
        have cx0 := bk1 Kx
        have cy0 := bk1 Ky
        have cn0 := bk1 Kn
        obtain ⟨g0, zz0⟩ := bp1 Kn (.int .i64 ((N + 1 : Nat) : Int))
        go_wp2_with fail
        go_roundw
        case rel =>
          have e : cntE X Y (q + 1) = N + 1 := by unfold cntE; rw [HEN.out, HZ1.out, HZ2.out]; simp
          refine ⟨q + 1, by omega, by go_num, HST.out _ hxr _, ?_⟩
          rw [e]
          have hb := (bs1 Kn (.int .i64 ((N : Int) + 1))).out
          rw [show ((N + 1 : Nat) : Int) = (N : Int) + 1 by omega]
          exact hb
        case measure => simp [intOf]; omega
      · have t5 : (z1 == z2) = false := beq_false_of_ne hzz
        have ca0 := bk1 Ka
        have cb0 := bk1 Kb
        obtain ⟨cp0, cp1, cp2, cp3⟩ := bk4 Kp
        have cx0 := bk1 Kx
        have cy0 := bk1 Ky
        have cn0 := bk1 Kn
        go_wp2_with fail
        go_roundw
        case rel =>
          have e : cntE X Y (q + 1) = N := by unfold cntE; rw [HEN.out, HZ1.out, HZ2.out]; simp [hzz]
          exact ⟨q + 1, by omega, by go_num, hxr, by rw [e]; exact Kn.out⟩
        case measure => simp [intOf]; omega
    · have hx := H0hx.out.trans hxr
      have Ka := kE H0a hxr
      have Kb := kE H0b hxr
      have Kp := kE H0p hxr
      have Kx := kE H0x hxr
      have Ky := kE H0y hxr
      have Vx := Lib.hid (H0Vx.out.ext hxr)
      have Vy := Lib.hid (H0Vy.out.ext hxr)
      have e : q = m.length := by omega
      have HQ := Lib.hid e
      have HA3 := Lib.hid (fun W (hW : Ext wr W) => findings_agree3 px py pn ax ay cx cy X Y (N : Int) W (Vx.out.ext hW) (Vy.out.ext hW) ((Kx.out.ext hW).cell (i := 0) (by rw [HL1.out]; rfl)) ((Ky.out.ext hW).cell (i := 0) (by rw [HL2.out]; rfl)) ((Kn.out.ext hW).cell (i := 0) rfl) (by omega))
      have hE0 : mE X Y = 0 := by unfold mE; rw [HL1.out, HL2.out]; unfold listsE; rw [if_neg (by omega), if_neg (by omega)]
      rw [hE0] at HA3
      clear e hE0
      have hzZ : mZ X Y (N : Int) = (cntG eqP X Y (N : Int) : Nat) := by unfold mZ; rw [if_pos (by unfold mE; rw [HL1.out, HL2.out]; unfold listsE; rw [if_neg (by omega), if_neg (by omega)])]
      rw [hzZ] at HA3
      have hRR := hR.out
      rw [show cntE X Y m.length = N by rw [← HQ.out]; exact HEN.out] at hRR
      have hcb : cntG eqP X Y (N : Int) ≤ 40320 := Nat.le_trans (cntG_le' eqP X Y (N : Int)) (by rw [HL1.out]; exact fact_le (by omega))
      generalize cntG eqP X Y (N : Int) = c1 at *
      subst hRR
      clear hzZ hR
      clear HEN HB1 HB2
      have ca0 := bk1 Ka
      have cb0 := bk1 Kb
      obtain ⟨cp0, cp1, cp2, cp3⟩ := bk4 Kp
      have cx0 := bk1 Kx
      have cy0 := bk1 Ky
      have cn0 := bk1 Kn
      have hsz := hx.size
      go_wp2_with fail
      clear ca0 cb0 cp0 cp1 cp2 cp3 cx0 cy0 cn0
      have HEN3 := Lib.hid (show ∀ args w, (callFunc 39 args).run Tryz.prog w = .ok (.enter 39 args) w from enters_of Tryz.func39 (by kernel_rfl) rfl)
      with_reducible refine (findings_permuted_ok a m.length cap 39 #[.pointer (some ⟨px, 0, none⟩), .pointer (some ⟨py, 0, none⟩), .pointer (some ⟨pn, 0, none⟩)] (c1 : Int) 0 _ (by omega) (by omega) HEN3.out HA3.out h8 rfl (by omega)).mono ?_
      rintro e x8 ⟨v, rfl, hv, hy⟩
      replace hx := hx.trans hy
      replace Ka := kE Ka hy
      replace Kb := kE Kb hy
      replace Kp := kE Kp hy
      replace Kx := kE Kx hy
      replace Ky := kE Ky hy
      replace Kn := kE Kn hy
      replace Vx := Lib.hid (Vx.out.ext hy)
      replace Vy := Lib.hid (Vy.out.ext hy)
      clear hy
      obtain ⟨nr, ar, qr, cr, br, kr, dr, rfl, hv', hf', hg'⟩ := hv
      have Vr := Lib.hid hv'
      have Fr := Lib.hid (fun A hA => Nat.le_trans hsz (hf' A hA))
      have Gr := Lib.hid (fun A hA => Nat.le_trans hsz (hg' A hA))
      clear hv' hf' hg' hsz
      have ca0 := bk1 Ka
      have cb0 := bk1 Kb
      obtain ⟨cp0, cp1, cp2, cp3⟩ := bk4 Kp
      have cx0 := bk1 Kx
      have cy0 := bk1 Ky
      have cn0 := bk1 Kn
      obtain ⟨g0, z0, g1, z1, g2, z2, g3, z3⟩ := bp4 Kp (.bool nr) (.slice ar qr cr) (.bool false) (.slice br kr dr)
      go_wp2_with fail
      clear g0 z0 g1 z1 g2 z2 g3 z3
      clear ca0 cb0 cp0 cp1 cp2 cp3 cx0 cy0 cn0
      clear Vx
      clear Vy
      replace Vr := (by first | exact rv4 Vr Kp (.bool nr) (.slice ar qr cr) (.bool false) (.slice br kr dr) rfl rfl rfl rfl | exact bv4 Vr Kp (.bool nr) (.slice ar qr cr) (.bool false) (.slice br kr dr) rfl rfl rfl rfl)
      replace hx := bx4 hx (w.heap.size + 2) (.bool nr) (.slice ar qr cr) (.bool false) (.slice br kr dr) (by omega)
      replace Ka := bo4 Ka (w.heap.size + 2) (.bool nr) (.slice ar qr cr) (.bool false) (.slice br kr dr) (by omega)
      replace Kb := bo4 Kb (w.heap.size + 2) (.bool nr) (.slice ar qr cr) (.bool false) (.slice br kr dr) (by omega)
      replace Kp := bs4 Kp (.bool nr) (.slice ar qr cr) (.bool false) (.slice br kr dr)
      replace Kx := bo4 Kx (w.heap.size + 2) (.bool nr) (.slice ar qr cr) (.bool false) (.slice br kr dr) (by omega)
      replace Ky := bo4 Ky (w.heap.size + 2) (.bool nr) (.slice ar qr cr) (.bool false) (.slice br kr dr) (by omega)
      replace Kn := bo4 Kn (w.heap.size + 2) (.bool nr) (.slice ar qr cr) (.bool false) (.slice br kr dr) (by omega)
      generalize ((((x8).setCell ⟨w.heap.size + 2, 0, none⟩ (.bool nr)).setCell ⟨w.heap.size + 2, 1, none⟩ (.slice ar qr cr)).setCell ⟨w.heap.size + 2, 2, none⟩ (.bool false)).setCell ⟨w.heap.size + 2, 3, none⟩ (.slice br kr dr) = x9 at *
      have ca0 := bk1 Ka
      have cb0 := bk1 Kb
      obtain ⟨cp0, cp1, cp2, cp3⟩ := bk4 Kp
      have cx0 := bk1 Kx
      have cy0 := bk1 Ky
      have cn0 := bk1 Kn
      refine bodyPost_ret (v := .tuple #[.agg #[.bool nr, .slice ar qr cr, .bool false, .slice br kr dr], .int .i64 0]) (by simp [results, Tryz.results13, go_sem, cp0, cp1, cp2, cp3]) rfl ?_
      exact ⟨_, rfl, ⟨_, _, _, _, _, _, _, rfl, Vr.out, Fr.out, Gr.out⟩, hx⟩
end Go.Proofs.YtmcbbhlglccmgaaGreat

namespace Go.Proofs.YtmcbbhlglccmgaaGreat
open Go.RowKit Go BigFrame Go.Shelf
set_option maxRecDepth 100000
set_option linter.unusedSimpArgs false
set_option linter.unusedVariables false

/-! Layer 42: findings.Drift. -/
def dsum (d : List Int) : Nat → Int
  | 0 => 0
  | k + 1 => dsum d k + (k : Int) * d.getD k 0
theorem getD_bd {d : List Int} (h : ∀ x ∈ d, -16000 ≤ x ∧ x ≤ 16000) (k : Nat) : -16000 ≤ d.getD k 0 ∧ d.getD k 0 ≤ 16000 := by
  rw [List.getD_eq_getElem?_getD]
  cases hk : d[k]? with
  | none => simp
  | some x => exact h x (List.mem_of_getElem? hk)
theorem mul64 {k : Nat} {z : Int} (hk : k ≤ 64) (hz : -16000 ≤ z ∧ z ≤ 16000) : -1024000 ≤ (k : Int) * z ∧ (k : Int) * z ≤ 1024000 := by
  obtain ⟨h1, h2⟩ := hz
  have a1 : (k : Int) * z ≤ (k : Int) * 16000 := Int.mul_le_mul_of_nonneg_left h2 (by omega)
  have a2 : (k : Int) * (-16000) ≤ (k : Int) * z := Int.mul_le_mul_of_nonneg_left h1 (by omega)
  omega
theorem dsum_bd {d : List Int} (h : ∀ x ∈ d, -16000 ≤ x ∧ x ≤ 16000) : ∀ k : Nat, k ≤ 64 → -1024000 * (k : Int) ≤ dsum d k ∧ dsum d k ≤ 1024000 * (k : Int) := by
  intro k
  induction k with
  | zero => simp [dsum]
  | succ k ih =>
    intro hk
    have := ih (by omega)
    have := mul64 (k := k) (by omega) (getD_bd h k)
    unfold dsum
    omega
def driE (m : List (List Int)) (j : Int) : Int := if askW m [j] ≠ 0 then askW m [j] else if 8 < m.length then 2 else 0
def driQ (m : List (List Int)) (j : Nat) : Rat := Rat.divInt (cntG mulP (iota m.length) (aboveL m j) (dsum (aboveL m j) m.length) : Nat) (factW m.length)
theorem app_keep {wr w3 : World} {o : Obj} {B0 po : Nat} {cs : Array Value} {t : TypeId} {row : Option Nat} (hk : Blk wr po cs t) (hg3 : (wr.alloc o).grownBy w3 row) (hB : B0 ≤ wr.heap.size) (hp : po < B0) (hrow : ∀ k, row = some k → B0 ≤ k) : Blk w3 po cs t :=
  (hk.alloc o).keep (Below.grown (Below.refl B0 _) hg3 (by simp; omega) hrow) hp
theorem owns_shape {w : World} {base : Nat} {e : TypeId} {size : Nat} {v : Value} {n : Nat} {xs : List Value} (h : w.ownsRow base e size v n xs) : ∃ a c, v = .slice a n c := by
  rcases h.2 with ⟨rfl, h0⟩ | ⟨g, cap, cur, rfl, _⟩
  · exact ⟨none, 0, by rw [h0]⟩
  · exact ⟨_, _, rfl⟩
set_option maxHeartbeats 4000000 in
theorem findings_Drift_ask (a : Option Addr) (cap : Nat) (m : List (List Int)) (j : Int) (w : World) (h : Rows w a cap m) (hj : -9223372036854775808 ≤ j ∧ j ≤ 9223372036854775807) (hE : askW m [j] ≠ 0) :
    Calls Tryz.prog 15 #[.slice a m.length cap, .int .i64 j] w (RatE (askW m [j]) w) := by
  have hle := h.le
  have hmx := h.mx
  have HJ := Lib.hid hj
  have HH := Lib.hid h
  have HCK := Lib.hid (fun W (hW : Ext w W) g (hI : Ints W (some ⟨g, 0, none⟩) 1 [j]) => findings_check a cap m g 0 1 [j] W (h.ext hW) hI (by simp))
  simp only [List.length_cons, List.length_nil, Nat.zero_add, Nat.reduceAdd] at HCK
  obtain ⟨E, hEE⟩ : ∃ E, askW m [j] = E := ⟨_, rfl⟩
  rw [hEE] at HCK hE ⊢
  have t1 : (E != 0) = true := by simpa using hE
  clear h hj hE
  obtain ⟨x1, hw, hx, Kp⟩ := boxQ1 w #[.bool false, .slice none 0 0, .bool false, .slice none 0 0] 34
  replace hw := Lib.hid hw
  go_enter Tryz.func15, Tryz.ntmps15
  go_upto_region 1 with fail
  try simp only [Nat.add_assoc, Nat.reduceAdd, Nat.add_zero]
  rw [hw.out]
  clear hw
  have hs0 := hx.size
  obtain ⟨cp0, cp1, cp2, cp3⟩ := bk4 Kp
  have hl := Ext.alloc x1 (.cells #[.int .i64 j] 3)
  have hKK := Blk.new0 x1 #[.int .i64 j] 3
  have hlx := hx.trans hl
  have HTT := Lib.hid (HCK.out (World.alloc x1 (.cells #[.int .i64 j] 3)) hlx (Array.size (World.heap x1)) (ints_one hKK HJ.out))
  clear hKK hlx
  go_wp2_with fail
  with_reducible refine (HTT.out).mono ?_
  clear cp0 cp1 cp2 cp3
  rintro e x2 ⟨rfl, hy⟩
  replace hy := hl.trans hy
  replace hx := hx.trans hy
  replace Kp := kE Kp hy
  clear hy HTT hl
  clear HCK
  obtain ⟨cp0, cp1, cp2, cp3⟩ := bk4 Kp
  obtain ⟨g0, z0, g1, z1, g2, z2, g3, z3⟩ := bp4 Kp (.bool false) (.slice none 0 0) (.bool false) (.slice none 0 0)
  go_wp2_with fail
  clear g0 z0 g1 z1 g2 z2 g3 z3
  clear cp0 cp1 cp2 cp3
  replace hx := bx4 hx (w.heap.size) (.bool false) (.slice none 0 0) (.bool false) (.slice none 0 0) (by omega)
  replace Kp := bs4 Kp (.bool false) (.slice none 0 0) (.bool false) (.slice none 0 0)
  generalize ((((x2).setCell ⟨w.heap.size, 0, none⟩ (.bool false)).setCell ⟨w.heap.size, 1, none⟩ (.slice none 0 0)).setCell ⟨w.heap.size, 2, none⟩ (.bool false)).setCell ⟨w.heap.size, 3, none⟩ (.slice none 0 0) = x3 at *
  obtain ⟨cp0, cp1, cp2, cp3⟩ := bk4 Kp
  refine bodyPost_ret (v := .tuple #[zeroRat, .int .i64 E]) (by simp [results, Tryz.results15, go_sem, cp0, cp1, cp2, cp3, zeroRat]) rfl ?_
  exact ⟨rfl, hx⟩
set_option maxHeartbeats 4000000 in
theorem findings_Drift_lim (a : Option Addr) (cap : Nat) (m : List (List Int)) (j : Int) (w : World) (h : Rows w a cap m) (hj : -9223372036854775808 ≤ j ∧ j ≤ 9223372036854775807) (hE : askW m [j] = 0) (h8 : 8 < m.length) :
    Calls Tryz.prog 15 #[.slice a m.length cap, .int .i64 j] w (RatE 2 w) := by
  have hle := h.le
  have hmx := h.mx
  have HJ := Lib.hid hj
  have HH := Lib.hid h
  obtain ⟨hr, hj1, hj2⟩ := askW_ok hE
  have hj1' : 0 ≤ j := hj1
  have hj2' : j < ((m.headD []).length : Int) := hj2
  clear hj1 hj2
  obtain ⟨k, rfl⟩ : ∃ k : Nat, j = (k : Int) := ⟨j.toNat, by omega⟩
  have hk : k < (m.headD []).length := by omega
  have HBD := Lib.hid (above_bd hr hk)
  have HA := Lib.hid (fun W (hW : Ext w W) => findings_above a cap m k W (h.ext hW) (by have := hr.le; omega) (fun x hx => ⟨by rw [(hr.row x hx).1]; exact hk, (hr.row x hx).2⟩))
  try rw [show (k : Int).toNat = k from rfl]
  have hdl : (aboveL m k).length = m.length := by unfold aboveL; rw [List.length_map]
  try unfold driQ
  generalize aboveL m k = d at *
  have HDL := Lib.hid hdl
  have h64 := hr.le
  obtain ⟨i0, hi0, hz0, hz1, hz2⟩ := info_parts infoI
  have HII := Lib.hid (And.intro hi0 (And.intro hz0 (And.intro hz1 hz2)))
  clear hr hdl hj1' hj2' hk hi0 hz0 hz1 hz2
  have HCK := Lib.hid (fun W (hW : Ext w W) g (hI : Ints W (some ⟨g, 0, none⟩) 1 [(k : Int)]) => findings_check a cap m g 0 1 [(k : Int)] W (h.ext hW) hI (by simp))
  simp only [List.length_cons, List.length_nil, Nat.zero_add, Nat.reduceAdd] at HCK
  rw [hE] at HCK
  clear h hj hE
  obtain ⟨x1, hw, hx, Kp⟩ := boxQ1 w #[.bool false, .slice none 0 0, .bool false, .slice none 0 0] 34
  replace hw := Lib.hid hw
  go_enter Tryz.func15, Tryz.ntmps15
  go_upto_region 1 with fail
  try simp only [Nat.add_assoc, Nat.reduceAdd, Nat.add_zero]
  rw [hw.out]
  clear hw
  have hs0 := hx.size
  obtain ⟨cp0, cp1, cp2, cp3⟩ := bk4 Kp
  have hl := Ext.alloc x1 (.cells #[.int .i64 (k : Int)] 3)
  have hKK := Blk.new0 x1 #[.int .i64 (k : Int)] 3
  have hlx := hx.trans hl
  have HTT := Lib.hid (HCK.out (World.alloc x1 (.cells #[.int .i64 (k : Int)] 3)) hlx (Array.size (World.heap x1)) (ints_one hKK HJ.out))
  clear hKK hlx
  go_wp2_with fail
  with_reducible refine (HTT.out).mono ?_
  clear cp0 cp1 cp2 cp3
  rintro e x2 ⟨rfl, hy⟩
  replace hy := hl.trans hy
  replace hx := hx.trans hy
  replace Kp := kE Kp hy
  clear hy HTT hl
  clear HCK
  obtain ⟨cp0, cp1, cp2, cp3⟩ := bk4 Kp
  go_wp2_with fail
  clear cp0 cp1 cp2 cp3
  with_reducible refine (HA.out _ hx).mono ?_
  rintro e x20 ⟨v, rfl, hv, hy⟩
  replace hx := hx.trans hy
  replace Kp := kE Kp hy
  clear hy
  obtain ⟨ad, cd, rfl, hI, -⟩ := owsW_ints hv (fun x hx => by have := HBD.out x hx; omega)
  have Vd := Lib.hid hI
  have dle := hI.le
  have dmx := hI.mx
  rw [HDL.out] at dle
  rw [show d.length = m.length from HDL.out]
  clear hv hI HA
  obtain ⟨cp0, cp1, cp2, cp3⟩ := bk4 Kp
  go_upto_region 5 with fail
  have hl := Ext.alloc x20 (.cells #[.slice ad m.length cd] 27)
  have lpd : w.heap.size < x20.heap.size := Kp.out.lt
  have hpd : w.heap.size ≤ x20.heap.size := hx.size
  clear cp0 cp1 cp2 cp3
  replace hx := hx.trans hl
  replace Kp := kE Kp hl
  replace Vd := Lib.hid (Vd.out.ext hl)
  have Kd := Lib.hid (Blk.new0 x20 #[.slice ad m.length cd] 27)
  clear hl
  generalize x20.alloc (.cells #[.slice ad m.length cd] 27) = x3 at *
  generalize x20.heap.size = pd at *
  have H0hx := Lib.hid hx
  have H0p := Kp
  have H0d := Kd
  have H0Vd := Vd
  have H0X := Lib.hid (Ext.alloc x3 (.cells #[.slice none 0 0] 27))
  have HSTo := Lib.hid (fun W (hW : Ext x3 W) v => hW.set (p := ⟨Array.size (World.heap x3), 0, none⟩) (Nat.le_refl _) v)
  have hso : True := trivial
  obtain ⟨cp0, cp1, cp2, cp3⟩ := bk4 Kp
  have cd0 := bk1 Kd
  go_upto_region 6 with fail
  have hl := Ext.alloc x3 (.cells #[.slice none 0 0] 27)
  have lpo : w.heap.size < x3.heap.size := Kp.out.lt
  have ldo : pd < x3.heap.size := Kd.out.lt
  have hpo : w.heap.size ≤ x3.heap.size := hx.size
  clear cp0 cp1 cp2 cp3 cd0
  replace hx := hx.trans hl
  replace Kp := kE Kp hl
  replace Kd := kE Kd hl
  replace Vd := Lib.hid (Vd.out.ext hl)
  have Ko := Lib.hid (Blk.new0 x3 #[.slice none 0 0] 27)
  clear hl
  generalize x3.alloc (.cells #[.slice none 0 0] 27) = x4 at *
  generalize x3.heap.size = po at *
  have HSTs := Lib.hid (fun W (hW : Ext x3 W) v => hW.set (p := ⟨Array.size (World.heap x4), 0, none⟩) H0X.out.size v)
  replace H0X := Lib.hid (H0X.out.trans (Ext.alloc x4 (.cells #[.int .i64 0] 3)))
  obtain ⟨cp0, cp1, cp2, cp3⟩ := bk4 Kp
  have cd0 := bk1 Kd
  have co0 := bk1 Ko
  go_upto_region 7 with fail
  have hl := Ext.alloc x4 (.cells #[.int .i64 0] 3)
  have lps : w.heap.size < x4.heap.size := Kp.out.lt
  have lds : pd < x4.heap.size := Kd.out.lt
  have los : po < x4.heap.size := Ko.out.lt
  have hps : w.heap.size ≤ x4.heap.size := hx.size
  clear cp0 cp1 cp2 cp3 cd0 co0
  replace hx := hx.trans hl
  replace Kp := kE Kp hl
  replace Kd := kE Kd hl
  replace Ko := kE Ko hl
  replace Vd := Lib.hid (Vd.out.ext hl)
  have Ks := Lib.hid (Blk.new0 x4 #[.int .i64 0] 3)
  clear hl
  generalize x4.alloc (.cells #[.int .i64 0] 3) = x5 at *
  generalize x4.heap.size = ps at *
  obtain ⟨cp0, cp1, cp2, cp3⟩ := bk4 Kp
  have cd0 := bk1 Kd
  have co0 := bk1 Ko
  have cs0 := bk1 Ks
  go_wp2_with fail
  clear cp0 cp1 cp2 cp3 cd0 co0 cs0
  have hob := Ko.out.lt
  have hsb := Ks.out.lt
  obtain ⟨B0, hB0⟩ : ∃ B, B = Array.size (World.heap x5) := ⟨_, rfl⟩
  rw [← hB0] at hob hsb
  have H0b : Hid (Array.size (World.heap x3) ≤ B0) := Lib.hid (by rw [hB0]; exact H0X.out.size)
  have hB1 : B0 ≤ Array.size (World.heap x5) := by omega
  have HKo0 := Ko
  have HKs0 := Ks
  clear hB0
  clear hx Kp Kd Ko Ks Vd
  go_loopw [25] (fun i wr => ∃ q : Nat, q ≤ m.length ∧ i = .int .i64 q ∧ Ext x3 wr ∧ B0 ≤ Array.size (World.heap wr) ∧ Blk wr ps #[.int .i64 (dsum d q)] 3 ∧ ∃ v, Blk wr po #[v] 27 ∧ owsW wr B0 v (iota q)) (fun i _ => m.length - (intOf i).toNat)
  case atStart => exact ⟨0, Nat.zero_le _, rfl, H0X.out, hB1, HKs0.out, _, HKo0.out, World.ownsRow_nil _ _ _ _⟩
  case round =>
    obtain ⟨q, hq, rfl, hxr, hB, hks, v, hko, how⟩ := hrel
    have Ks := Lib.hid hks
    have Ko := Lib.hid hko
    have HOW := Lib.hid how
    have g1 : (0 : Int) ≤ (q : Int) := by omega
    have b1 := dsum_bd HBD.out q (by omega)
    obtain ⟨b2, b3⟩ := b1
    obtain ⟨S, eS⟩ : ∃ S, dsum d q = S := ⟨_, rfl⟩
    have HES := Lib.hid eS
    rw [eS] at b2 b3 Ks
    clear eS HKo0 HKs0 hks hko how
    by_cases hqn : q < m.length
    · have hx := H0hx.out.trans hxr
      have Kp := kE H0p hxr
      have Kd := kE H0d hxr
      have Vd := Lib.hid (H0Vd.out.ext hxr)
      have hq1 : q < d.length := by rw [HDL.out]; exact hqn
      obtain ⟨bd, od, rfl⟩ := Vd.out.head hq1
      obtain ⟨z, hz, hcz, -, -⟩ := Ints.get Vd.out hq1
      have HZ : Hid (d.getD q 0 = z) := Lib.hid (by rw [List.getD_eq_getElem?_getD, hz]; rfl)
      obtain ⟨z1, z2⟩ := HBD.out z (List.mem_of_getElem? hz)
      have m1 := mul64 (k := q) (by omega) ⟨z1, z2⟩
      obtain ⟨m2, m3⟩ := m1
      have g2 : (q : Int) < (m.length : Int) := by omega
      have htl : (iota q).length = q := iota_len q
      have HTL := Lib.hid htl
      obtain ⟨hi0, hz0, hz1, hz2⟩ := HII.out
      clear hz hq1 htl
      obtain ⟨cp0, cp1, cp2, cp3⟩ := bk4 Kp
      have cd0 := bk1 Kd
      have co0 := bk1 Ko
      have cs0 := bk1 Ks
      go_upto_region 11 with (at_builtin; refine wpList_append_own_at _ rfl (.tmp 30) (.tmp 32) 27 rfl B0 3 i0 (.int .i64 0) 1 8 Tryz.underlying27 hi0 hz0 hz1 hz2 rfl (by decide) _ _ _ rfl (HOW.out.alloc _) ⟨Array.size (World.heap wr), 0, none⟩ 1 1 [.int .i64 (q : Int)] rfl rfl (cell_one_new _ _ _) (by simp [Value.oneCell']) (by have := HTL.out; unfold maxLen; omega) (by have := HTL.out; omega) (by simp; omega) ?_; intro v' w3 hown' hg3 hnil3 hat3; obtain ⟨va, vc, e⟩ := owns_shape hown'; rw [HTL.out] at e; subst e; have kp3 := app_keep Ko.out hg3 hB hob (fun k e => ((HOW.out.alloc (.cells #[.int .i64 (q : Int)] 3)).lt k e).1); have cp3 := kp3.cell (i := 0) (v := v) rfl; have zp3 := kp3.free 0)
      clear cp0 cp1 cp2 cp3 cd0 co0 cs0
      have ks3 := app_keep Ks.out hg3 hB hsb (fun k e => ((HOW.out.alloc (.cells #[.int .i64 (q : Int)] 3)).lt k e).1)
      have hx3 : Ext x3 w3 := Below.grown (hxr.alloc' (.cells #[.int .i64 (q : Int)] 3)) hg3 (by have := hxr.size; simp; omega) (fun k e => by have := ((HOW.out.alloc (.cells #[.int .i64 (q : Int)] 3)).lt k e).1; have := H0b.out; omega)
      replace hx3 := HSTo.out _ hx3 (.slice va (q + 1) vc)
      have kp4 := kp3.set 0 (.slice va (q + 1) vc)
      have ks4 := ks3.other (p := ⟨po, 0, none⟩) (by dsimp only; omega) (.slice va (q + 1) vc)
      have hw4 := ownsRow_setCell_below hown' (a := ⟨po, 0, none⟩) hob (.slice va (q + 1) vc)
      have hs4 : B0 ≤ Array.size (World.heap (w3.setCell ⟨po, 0, none⟩ (.slice va (q + 1) vc))) := by have := hg3.size; simp at this ⊢; omega
      clear hcz kp3 ks3 cp3 zp3 hown' hg3 hnil3 hat3 HOW hi0 hz0 hz1 hz2 hx Ko Ks Kp Kd
      generalize w3.setCell ⟨po, 0, none⟩ (.slice va (q + 1) vc) = w4 at *
      have Ks := Lib.hid ks4
      obtain ⟨g0, zz0⟩ := bp1 Ks (.int .i64 (S + (q : Int) * z))
      go_wp2_with fail
      go_roundw
      case rel =>
        refine ⟨q + 1, by omega, by go_num, HSTs.out _ hx3 _, by simpa using hs4, ?_, .slice va (q + 1) vc, ?_, ?_⟩
        · have e : dsum d (q + 1) = S + (q : Int) * z := by unfold dsum; rw [HES.out, HZ.out]
          rw [e]
          exact (bs1 Ks (.int .i64 (S + (q : Int) * z))).out
        · exact kp4.other (p := ⟨ps, 0, none⟩) (by dsimp only; omega) _
        · have e : iota (q + 1) = iota q ++ [(q : Int)] := iota_succ q
          unfold owsW
          rw [e, List.map_append, List.length_append]
          exact ownsRow_setCell_below hw4 (a := ⟨ps, 0, none⟩) hsb _
      case measure => simp [intOf]; omega
    · have hx := H0hx.out.trans hxr
      have Kp := kE H0p hxr
      have Kd := kE H0d hxr
      have Vd := Lib.hid (H0Vd.out.ext hxr)
      obtain rfl : q = m.length := by omega
      obtain ⟨ao, co, rfl, hIo, -⟩ := owsW_ints HOW.out (fun x hx => by have := (iota_mem m.length x).1 hx; omega)
      have Vo := Lib.hid hIo
      have ole := hIo.le
      have omx := hIo.mx
      have hil := iota_len m.length
      have HIL := Lib.hid hil
      rw [hil] at ole
      clear hIo HOW
      have HA3 := Lib.hid (fun W (hW : Ext wr W) => findings_drift1 po pd ps ao ad co cd (iota m.length) d S W (Vo.out.ext hW) (Vd.out.ext hW) ((Ko.out.ext hW).cell (i := 0) rfl) ((Kd.out.ext hW).cell (i := 0) (by rw [HDL.out]; rfl)) ((Ks.out.ext hW).cell (i := 0) rfl) (by omega))
      rw [hil] at Ko
      have hE0 : oE (iota m.length) d = 2 := by
        unfold oE
        rw [hil, HDL.out]
        have hl0 : listsE m.length m.length = 2 := by unfold listsE; rw [if_pos (by omega)]
        rw [if_pos (by rw [hl0]; decide), hl0]
      rw [hE0] at HA3
      clear hil
      generalize oZ (iota m.length) d S = c1 at *
      clear hE0 HES HBD
      obtain ⟨cp0, cp1, cp2, cp3⟩ := bk4 Kp
      have cd0 := bk1 Kd
      have co0 := bk1 Ko
      have cs0 := bk1 Ks
      go_wp2_with fail
      clear cp0 cp1 cp2 cp3 cd0 co0 cs0
      have HEN3 := Lib.hid (show ∀ args w, (callFunc 44 args).run Tryz.prog w = .ok (.enter 44 args) w from enters_of Tryz.func44 (by kernel_rfl) rfl)
      with_reducible refine (findings_permuted_limit a m.length cap 44 #[.pointer (some ⟨po, 0, none⟩), .pointer (some ⟨pd, 0, none⟩), .pointer (some ⟨ps, 0, none⟩)] c1 2 _ (by omega) (by omega) HEN3.out HA3.out h8).mono ?_
      rintro e x6 ⟨rfl, hy⟩
      replace hx := hx.trans hy
      replace Kp := kE Kp hy
      replace Kd := kE Kd hy
      replace Ko := kE Ko hy
      replace Ks := kE Ks hy
      replace Vd := Lib.hid (Vd.out.ext hy)
      clear hy
      obtain ⟨cp0, cp1, cp2, cp3⟩ := bk4 Kp
      have cd0 := bk1 Kd
      have co0 := bk1 Ko
      have cs0 := bk1 Ks
      obtain ⟨g0, z0, g1, z1, g2, z2, g3, z3⟩ := bp4 Kp (.bool false) (.slice none 0 0) (.bool false) (.slice none 0 0)
      go_wp2_with fail
      clear g0 z0 g1 z1 g2 z2 g3 z3
      clear cp0 cp1 cp2 cp3 cd0 co0 cs0
      clear Vd
      replace hx := bx4 hx (w.heap.size) (.bool false) (.slice none 0 0) (.bool false) (.slice none 0 0) (by omega)
      replace Kp := bs4 Kp (.bool false) (.slice none 0 0) (.bool false) (.slice none 0 0)
      replace Kd := bo4 Kd (w.heap.size) (.bool false) (.slice none 0 0) (.bool false) (.slice none 0 0) (by omega)
      replace Ko := bo4 Ko (w.heap.size) (.bool false) (.slice none 0 0) (.bool false) (.slice none 0 0) (by omega)
      replace Ks := bo4 Ks (w.heap.size) (.bool false) (.slice none 0 0) (.bool false) (.slice none 0 0) (by omega)
      generalize ((((x6).setCell ⟨w.heap.size, 0, none⟩ (.bool false)).setCell ⟨w.heap.size, 1, none⟩ (.slice none 0 0)).setCell ⟨w.heap.size, 2, none⟩ (.bool false)).setCell ⟨w.heap.size, 3, none⟩ (.slice none 0 0) = x7 at *
      obtain ⟨cp0, cp1, cp2, cp3⟩ := bk4 Kp
      have cd0 := bk1 Kd
      have co0 := bk1 Ko
      have cs0 := bk1 Ks
      refine bodyPost_ret (v := .tuple #[zeroRat, .int .i64 2]) (by simp [results, Tryz.results15, go_sem, cp0, cp1, cp2, cp3, zeroRat]) rfl ?_
      exact ⟨rfl, hx⟩
set_option maxHeartbeats 4000000 in
theorem findings_Drift_ok (a : Option Addr) (cap : Nat) (m : List (List Int)) (j : Int) (w : World) (h : Rows w a cap m) (hj : -9223372036854775808 ≤ j ∧ j ≤ 9223372036854775807) (hE : askW m [j] = 0) (h8 : ¬ 8 < m.length) :
    Calls Tryz.prog 15 #[.slice a m.length cap, .int .i64 j] w (RatP (driQ m j.toNat) w) := by
  have hle := h.le
  have hmx := h.mx
  have HJ := Lib.hid hj
  have HH := Lib.hid h
  obtain ⟨hr, hj1, hj2⟩ := askW_ok hE
  have hj1' : 0 ≤ j := hj1
  have hj2' : j < ((m.headD []).length : Int) := hj2
  clear hj1 hj2
  obtain ⟨k, rfl⟩ : ∃ k : Nat, j = (k : Int) := ⟨j.toNat, by omega⟩
  have hk : k < (m.headD []).length := by omega
  have HBD := Lib.hid (above_bd hr hk)
  have HA := Lib.hid (fun W (hW : Ext w W) => findings_above a cap m k W (h.ext hW) (by have := hr.le; omega) (fun x hx => ⟨by rw [(hr.row x hx).1]; exact hk, (hr.row x hx).2⟩))
  try rw [show (k : Int).toNat = k from rfl]
  have hdl : (aboveL m k).length = m.length := by unfold aboveL; rw [List.length_map]
  try unfold driQ
  generalize aboveL m k = d at *
  obtain ⟨R, hR⟩ : ∃ R, R = Rat.divInt (cntG mulP (iota m.length) d (dsum d m.length) : Nat) (factW m.length) := ⟨_, rfl⟩
  rw [← hR]
  replace hR := Lib.hid hR
  have HDL := Lib.hid hdl
  have h64 := hr.le
  obtain ⟨i0, hi0, hz0, hz1, hz2⟩ := info_parts infoI
  have HII := Lib.hid (And.intro hi0 (And.intro hz0 (And.intro hz1 hz2)))
  clear hr hdl hj1' hj2' hk hi0 hz0 hz1 hz2
  have HCK := Lib.hid (fun W (hW : Ext w W) g (hI : Ints W (some ⟨g, 0, none⟩) 1 [(k : Int)]) => findings_check a cap m g 0 1 [(k : Int)] W (h.ext hW) hI (by simp))
  simp only [List.length_cons, List.length_nil, Nat.zero_add, Nat.reduceAdd] at HCK
  rw [hE] at HCK
  clear h hj hE
  obtain ⟨x1, hw, hx, Kp⟩ := boxQ1 w #[.bool false, .slice none 0 0, .bool false, .slice none 0 0] 34
  replace hw := Lib.hid hw
  go_enter Tryz.func15, Tryz.ntmps15
  go_upto_region 1 with fail
  try simp only [Nat.add_assoc, Nat.reduceAdd, Nat.add_zero]
  rw [hw.out]
  clear hw
  have hs0 := hx.size
  obtain ⟨cp0, cp1, cp2, cp3⟩ := bk4 Kp
  have hl := Ext.alloc x1 (.cells #[.int .i64 (k : Int)] 3)
  have hKK := Blk.new0 x1 #[.int .i64 (k : Int)] 3
  have hlx := hx.trans hl
  have HTT := Lib.hid (HCK.out (World.alloc x1 (.cells #[.int .i64 (k : Int)] 3)) hlx (Array.size (World.heap x1)) (ints_one hKK HJ.out))
  clear hKK hlx
  go_wp2_with fail
  with_reducible refine (HTT.out).mono ?_
  clear cp0 cp1 cp2 cp3
  rintro e x2 ⟨rfl, hy⟩
  replace hy := hl.trans hy
  replace hx := hx.trans hy
  replace Kp := kE Kp hy
  clear hy HTT hl
  clear HCK
  obtain ⟨cp0, cp1, cp2, cp3⟩ := bk4 Kp
  go_wp2_with fail
  clear cp0 cp1 cp2 cp3
  with_reducible refine (HA.out _ hx).mono ?_
  rintro e x20 ⟨v, rfl, hv, hy⟩
  replace hx := hx.trans hy
  replace Kp := kE Kp hy
  clear hy
  obtain ⟨ad, cd, rfl, hI, -⟩ := owsW_ints hv (fun x hx => by have := HBD.out x hx; omega)
  have Vd := Lib.hid hI
  have dle := hI.le
  have dmx := hI.mx
  rw [HDL.out] at dle
  rw [show d.length = m.length from HDL.out]
  clear hv hI HA
  obtain ⟨cp0, cp1, cp2, cp3⟩ := bk4 Kp
  go_upto_region 5 with fail
  have hl := Ext.alloc x20 (.cells #[.slice ad m.length cd] 27)
  have lpd : w.heap.size < x20.heap.size := Kp.out.lt
  have hpd : w.heap.size ≤ x20.heap.size := hx.size
  clear cp0 cp1 cp2 cp3
  replace hx := hx.trans hl
  replace Kp := kE Kp hl
  replace Vd := Lib.hid (Vd.out.ext hl)
  have Kd := Lib.hid (Blk.new0 x20 #[.slice ad m.length cd] 27)
  clear hl
  generalize x20.alloc (.cells #[.slice ad m.length cd] 27) = x3 at *
  generalize x20.heap.size = pd at *
  have H0hx := Lib.hid hx
  have H0p := Kp
  have H0d := Kd
  have H0Vd := Vd
  have H0X := Lib.hid (Ext.alloc x3 (.cells #[.slice none 0 0] 27))
  have HSTo := Lib.hid (fun W (hW : Ext x3 W) v => hW.set (p := ⟨Array.size (World.heap x3), 0, none⟩) (Nat.le_refl _) v)
  have hso : True := trivial
  obtain ⟨cp0, cp1, cp2, cp3⟩ := bk4 Kp
  have cd0 := bk1 Kd
  go_upto_region 6 with fail
  have hl := Ext.alloc x3 (.cells #[.slice none 0 0] 27)
  have lpo : w.heap.size < x3.heap.size := Kp.out.lt
  have ldo : pd < x3.heap.size := Kd.out.lt
  have hpo : w.heap.size ≤ x3.heap.size := hx.size
  clear cp0 cp1 cp2 cp3 cd0
  replace hx := hx.trans hl
  replace Kp := kE Kp hl
  replace Kd := kE Kd hl
  replace Vd := Lib.hid (Vd.out.ext hl)
  have Ko := Lib.hid (Blk.new0 x3 #[.slice none 0 0] 27)
  clear hl
  generalize x3.alloc (.cells #[.slice none 0 0] 27) = x4 at *
  generalize x3.heap.size = po at *
  have HSTs := Lib.hid (fun W (hW : Ext x3 W) v => hW.set (p := ⟨Array.size (World.heap x4), 0, none⟩) H0X.out.size v)
  replace H0X := Lib.hid (H0X.out.trans (Ext.alloc x4 (.cells #[.int .i64 0] 3)))
  obtain ⟨cp0, cp1, cp2, cp3⟩ := bk4 Kp
  have cd0 := bk1 Kd
  have co0 := bk1 Ko
  go_upto_region 7 with fail
  have hl := Ext.alloc x4 (.cells #[.int .i64 0] 3)
  have lps : w.heap.size < x4.heap.size := Kp.out.lt
  have lds : pd < x4.heap.size := Kd.out.lt
  have los : po < x4.heap.size := Ko.out.lt
  have hps : w.heap.size ≤ x4.heap.size := hx.size
  clear cp0 cp1 cp2 cp3 cd0 co0
  replace hx := hx.trans hl
  replace Kp := kE Kp hl
  replace Kd := kE Kd hl
  replace Ko := kE Ko hl
  replace Vd := Lib.hid (Vd.out.ext hl)
  have Ks := Lib.hid (Blk.new0 x4 #[.int .i64 0] 3)
  clear hl
  generalize x4.alloc (.cells #[.int .i64 0] 3) = x5 at *
  generalize x4.heap.size = ps at *
  obtain ⟨cp0, cp1, cp2, cp3⟩ := bk4 Kp
  have cd0 := bk1 Kd
  have co0 := bk1 Ko
  have cs0 := bk1 Ks
  go_wp2_with fail
  clear cp0 cp1 cp2 cp3 cd0 co0 cs0
  have hob := Ko.out.lt
  have hsb := Ks.out.lt
  obtain ⟨B0, hB0⟩ : ∃ B, B = Array.size (World.heap x5) := ⟨_, rfl⟩
  rw [← hB0] at hob hsb
  have H0b : Hid (Array.size (World.heap x3) ≤ B0) := Lib.hid (by rw [hB0]; exact H0X.out.size)
  have hB1 : B0 ≤ Array.size (World.heap x5) := by omega
  have HKo0 := Ko
  have HKs0 := Ks
  clear hB0
  clear hx Kp Kd Ko Ks Vd
  go_loopw [25] (fun i wr => ∃ q : Nat, q ≤ m.length ∧ i = .int .i64 q ∧ Ext x3 wr ∧ B0 ≤ Array.size (World.heap wr) ∧ Blk wr ps #[.int .i64 (dsum d q)] 3 ∧ ∃ v, Blk wr po #[v] 27 ∧ owsW wr B0 v (iota q)) (fun i _ => m.length - (intOf i).toNat)
  case atStart => exact ⟨0, Nat.zero_le _, rfl, H0X.out, hB1, HKs0.out, _, HKo0.out, World.ownsRow_nil _ _ _ _⟩
  case round =>
    obtain ⟨q, hq, rfl, hxr, hB, hks, v, hko, how⟩ := hrel
    have Ks := Lib.hid hks
    have Ko := Lib.hid hko
    have HOW := Lib.hid how
    have g1 : (0 : Int) ≤ (q : Int) := by omega
    have b1 := dsum_bd HBD.out q (by omega)
    obtain ⟨b2, b3⟩ := b1
    obtain ⟨S, eS⟩ : ∃ S, dsum d q = S := ⟨_, rfl⟩
    have HES := Lib.hid eS
    rw [eS] at b2 b3 Ks
    clear eS HKo0 HKs0 hks hko how
    by_cases hqn : q < m.length
    · have hx := H0hx.out.trans hxr
      have Kp := kE H0p hxr
      have Kd := kE H0d hxr
      have Vd := Lib.hid (H0Vd.out.ext hxr)
      have hq1 : q < d.length := by rw [HDL.out]; exact hqn
      obtain ⟨bd, od, rfl⟩ := Vd.out.head hq1
      obtain ⟨z, hz, hcz, -, -⟩ := Ints.get Vd.out hq1
      have HZ : Hid (d.getD q 0 = z) := Lib.hid (by rw [List.getD_eq_getElem?_getD, hz]; rfl)
      obtain ⟨z1, z2⟩ := HBD.out z (List.mem_of_getElem? hz)
      have m1 := mul64 (k := q) (by omega) ⟨z1, z2⟩
      obtain ⟨m2, m3⟩ := m1
      have g2 : (q : Int) < (m.length : Int) := by omega
      have htl : (iota q).length = q := iota_len q
      have HTL := Lib.hid htl
      obtain ⟨hi0, hz0, hz1, hz2⟩ := HII.out
      clear hz hq1 htl
      obtain ⟨cp0, cp1, cp2, cp3⟩ := bk4 Kp
      have cd0 := bk1 Kd
      have co0 := bk1 Ko
      have cs0 := bk1 Ks
      go_upto_region 11 with (at_builtin; refine wpList_append_own_at _ rfl (.tmp 30) (.tmp 32) 27 rfl B0 3 i0 (.int .i64 0) 1 8 Tryz.underlying27 hi0 hz0 hz1 hz2 rfl (by decide) _ _ _ rfl (HOW.out.alloc _) ⟨Array.size (World.heap wr), 0, none⟩ 1 1 [.int .i64 (q : Int)] rfl rfl (cell_one_new _ _ _) (by simp [Value.oneCell']) (by have := HTL.out; unfold maxLen; omega) (by have := HTL.out; omega) (by simp; omega) ?_; intro v' w3 hown' hg3 hnil3 hat3; obtain ⟨va, vc, e⟩ := owns_shape hown'; rw [HTL.out] at e; subst e; have kp3 := app_keep Ko.out hg3 hB hob (fun k e => ((HOW.out.alloc (.cells #[.int .i64 (q : Int)] 3)).lt k e).1); have cp3 := kp3.cell (i := 0) (v := v) rfl; have zp3 := kp3.free 0)
      clear cp0 cp1 cp2 cp3 cd0 co0 cs0
      have ks3 := app_keep Ks.out hg3 hB hsb (fun k e => ((HOW.out.alloc (.cells #[.int .i64 (q : Int)] 3)).lt k e).1)
      have hx3 : Ext x3 w3 := Below.grown (hxr.alloc' (.cells #[.int .i64 (q : Int)] 3)) hg3 (by have := hxr.size; simp; omega) (fun k e => by have := ((HOW.out.alloc (.cells #[.int .i64 (q : Int)] 3)).lt k e).1; have := H0b.out; omega)
      replace hx3 := HSTo.out _ hx3 (.slice va (q + 1) vc)
      have kp4 := kp3.set 0 (.slice va (q + 1) vc)
      have ks4 := ks3.other (p := ⟨po, 0, none⟩) (by dsimp only; omega) (.slice va (q + 1) vc)
      have hw4 := ownsRow_setCell_below hown' (a := ⟨po, 0, none⟩) hob (.slice va (q + 1) vc)
      have hs4 : B0 ≤ Array.size (World.heap (w3.setCell ⟨po, 0, none⟩ (.slice va (q + 1) vc))) := by have := hg3.size; simp at this ⊢; omega
      clear hcz kp3 ks3 cp3 zp3 hown' hg3 hnil3 hat3 HOW hi0 hz0 hz1 hz2 hx Ko Ks Kp Kd
      generalize w3.setCell ⟨po, 0, none⟩ (.slice va (q + 1) vc) = w4 at *
      have Ks := Lib.hid ks4
      obtain ⟨g0, zz0⟩ := bp1 Ks (.int .i64 (S + (q : Int) * z))
      go_wp2_with fail
      go_roundw
      case rel =>
        refine ⟨q + 1, by omega, by go_num, HSTs.out _ hx3 _, by simpa using hs4, ?_, .slice va (q + 1) vc, ?_, ?_⟩
        · have e : dsum d (q + 1) = S + (q : Int) * z := by unfold dsum; rw [HES.out, HZ.out]
          rw [e]
          exact (bs1 Ks (.int .i64 (S + (q : Int) * z))).out
        · exact kp4.other (p := ⟨ps, 0, none⟩) (by dsimp only; omega) _
        · have e : iota (q + 1) = iota q ++ [(q : Int)] := iota_succ q
          unfold owsW
          rw [e, List.map_append, List.length_append]
          exact ownsRow_setCell_below hw4 (a := ⟨ps, 0, none⟩) hsb _
      case measure => simp [intOf]; omega
    · have hx := H0hx.out.trans hxr
      have Kp := kE H0p hxr
      have Kd := kE H0d hxr
      have Vd := Lib.hid (H0Vd.out.ext hxr)
      obtain rfl : q = m.length := by omega
      obtain ⟨ao, co, rfl, hIo, -⟩ := owsW_ints HOW.out (fun x hx => by have := (iota_mem m.length x).1 hx; omega)
      have Vo := Lib.hid hIo
      have ole := hIo.le
      have omx := hIo.mx
      have hil := iota_len m.length
      have HIL := Lib.hid hil
      rw [hil] at ole
      clear hIo HOW
      have HA3 := Lib.hid (fun W (hW : Ext wr W) => findings_drift1 po pd ps ao ad co cd (iota m.length) d S W (Vo.out.ext hW) (Vd.out.ext hW) ((Ko.out.ext hW).cell (i := 0) rfl) ((Kd.out.ext hW).cell (i := 0) (by rw [HDL.out]; rfl)) ((Ks.out.ext hW).cell (i := 0) rfl) (by omega))
      rw [hil] at Ko
      have hE0 : oE (iota m.length) d = 0 := by
        unfold oE
        rw [hil, HDL.out]
        have hl0 : listsE m.length m.length = 0 := by unfold listsE; rw [if_neg (by omega), if_neg (by omega)]
        rw [if_neg (by rw [hl0]; decide), if_neg]
        intro ho
        rcases (Bool.or_eq_true _ _).mp ho with ho | ho
        · obtain ⟨x, hx1, hx2⟩ := List.any_eq_true.1 ho
          have := (iota_mem m.length x).1 hx1
          simp only [outB, Bool.or_eq_true, decide_eq_true_eq] at hx2
          omega
        · obtain ⟨x, hx1, hx2⟩ := List.any_eq_true.1 ho
          have := HBD.out x hx1
          simp only [outB, Bool.or_eq_true, decide_eq_true_eq] at hx2
          omega
      rw [hE0] at HA3
      clear hil
      have hzZ : oZ (iota m.length) d S = (cntG mulP (iota m.length) d S : Nat) := by unfold oZ; rw [if_pos hE0]
      rw [hzZ] at HA3
      have hRR := hR.out
      rw [show dsum d m.length = S from HES.out] at hRR
      have hcb : cntG mulP (iota m.length) d S ≤ 40320 := Nat.le_trans (cntG_le' mulP _ d S) (by rw [iota_len]; exact fact_le (by omega))
      generalize cntG mulP (iota m.length) d S = c1 at *
      subst hRR
      clear hzZ hR
      clear hE0 HES HBD
      obtain ⟨cp0, cp1, cp2, cp3⟩ := bk4 Kp
      have cd0 := bk1 Kd
      have co0 := bk1 Ko
      have cs0 := bk1 Ks
      have hsz := hx.size
      go_wp2_with fail
      clear cp0 cp1 cp2 cp3 cd0 co0 cs0
      have HEN3 := Lib.hid (show ∀ args w, (callFunc 44 args).run Tryz.prog w = .ok (.enter 44 args) w from enters_of Tryz.func44 (by kernel_rfl) rfl)
      with_reducible refine (findings_permuted_ok a m.length cap 44 #[.pointer (some ⟨po, 0, none⟩), .pointer (some ⟨pd, 0, none⟩), .pointer (some ⟨ps, 0, none⟩)] (c1 : Int) 0 _ (by omega) (by omega) HEN3.out HA3.out h8 rfl (by omega)).mono ?_
      rintro e x6 ⟨v, rfl, hv, hy⟩
      replace hx := hx.trans hy
      replace Kp := kE Kp hy
      replace Kd := kE Kd hy
      replace Ko := kE Ko hy
      replace Ks := kE Ks hy
      replace Vd := Lib.hid (Vd.out.ext hy)
      clear hy
      obtain ⟨nr, ar, qr, cr, br, kr, dr, rfl, hv', hf', hg'⟩ := hv
      have Vr := Lib.hid hv'
      have Fr := Lib.hid (fun A hA => Nat.le_trans hsz (hf' A hA))
      have Gr := Lib.hid (fun A hA => Nat.le_trans hsz (hg' A hA))
      clear hv' hf' hg' hsz
      obtain ⟨cp0, cp1, cp2, cp3⟩ := bk4 Kp
      have cd0 := bk1 Kd
      have co0 := bk1 Ko
      have cs0 := bk1 Ks
      obtain ⟨g0, z0, g1, z1, g2, z2, g3, z3⟩ := bp4 Kp (.bool nr) (.slice ar qr cr) (.bool false) (.slice br kr dr)
      go_wp2_with fail
      clear g0 z0 g1 z1 g2 z2 g3 z3
      clear cp0 cp1 cp2 cp3 cd0 co0 cs0
      clear Vd
      replace Vr := (by first | exact rv4 Vr Kp (.bool nr) (.slice ar qr cr) (.bool false) (.slice br kr dr) rfl rfl rfl rfl | exact bv4 Vr Kp (.bool nr) (.slice ar qr cr) (.bool false) (.slice br kr dr) rfl rfl rfl rfl)
      replace hx := bx4 hx (w.heap.size) (.bool nr) (.slice ar qr cr) (.bool false) (.slice br kr dr) (by omega)
      replace Kp := bs4 Kp (.bool nr) (.slice ar qr cr) (.bool false) (.slice br kr dr)
      replace Kd := bo4 Kd (w.heap.size) (.bool nr) (.slice ar qr cr) (.bool false) (.slice br kr dr) (by omega)
      replace Ko := bo4 Ko (w.heap.size) (.bool nr) (.slice ar qr cr) (.bool false) (.slice br kr dr) (by omega)
      replace Ks := bo4 Ks (w.heap.size) (.bool nr) (.slice ar qr cr) (.bool false) (.slice br kr dr) (by omega)
      generalize ((((x6).setCell ⟨w.heap.size, 0, none⟩ (.bool nr)).setCell ⟨w.heap.size, 1, none⟩ (.slice ar qr cr)).setCell ⟨w.heap.size, 2, none⟩ (.bool false)).setCell ⟨w.heap.size, 3, none⟩ (.slice br kr dr) = x7 at *
      obtain ⟨cp0, cp1, cp2, cp3⟩ := bk4 Kp
      have cd0 := bk1 Kd
      have co0 := bk1 Ko
      have cs0 := bk1 Ks
      refine bodyPost_ret (v := .tuple #[.agg #[.bool nr, .slice ar qr cr, .bool false, .slice br kr dr], .int .i64 0]) (by simp [results, Tryz.results15, go_sem, cp0, cp1, cp2, cp3]) rfl ?_
      exact ⟨_, rfl, ⟨_, _, _, _, _, _, _, rfl, Vr.out, Fr.out, Gr.out⟩, hx⟩
end Go.Proofs.YtmcbbhlglccmgaaGreat

