import Derived.Test.YtmcbbhlglccmgaaW9
import Derived.Test.YtmcbbhlglccmgaaWP3
import Derived.Test.YtmcbbhlglccmgaaWS
import Derived.OwnWalk
import Derived.Deep.QuietTactic
namespace Go.Proofs.Ytmcbbhlglccmgaa
open Go.RowKit Go BigFrame Go.Shelf
set_option maxRecDepth 100000
set_option linter.unusedSimpArgs false
set_option linter.unusedVariables false

/-! Layer 42, plain: what FindingsShift says. -/
/-- How much the first k judges are above the others, in all. -/
def sumAb (m : List (List Int)) (k : Nat) : List Int := m.map fun r => (k : Int) * 0 + ((List.range k).map fun j => aboveR j r).sum
theorem sumAb_zero (m : List (List Int)) : sumAb m 0 = List.replicate m.length 0 := by
  unfold sumAb
  refine List.ext_getElem (by simp) fun i h1 h2 => by simp
theorem sumAb_succ {m : List (List Int)} {k i : Nat} (hi : i < m.length) : (sumAb m (k + 1)).getD i 0 = (sumAb m k).getD i 0 + (aboveL m k).getD i 0 := by
  unfold sumAb aboveL
  simp only [List.getD_eq_getElem?_getD, List.getElem?_map, List.getElem?_eq_getElem hi, Option.map_some, Option.getD_some]
  rw [List.range_succ, List.map_append, List.sum_append]
  simp
theorem sumAb_length (m : List (List Int)) (k : Nat) : (sumAb m k).length = m.length := List.length_map ..
theorem range_getD (r : List Int) : (List.range r.length).map (fun j => r.getD j 0) = r := by
  refine List.ext_getElem (by simp) fun i h1 h2 => by simp [List.getD_eq_getElem?_getD, h2]
theorem sum_range_ab (r : List Int) : ∀ k : Nat, ((List.range k).map fun j => aboveR j r).sum = (r.length : Int) * ((List.range k).map fun j => r.getD j 0).sum - (k : Int) * r.sum := by
  intro k
  induction k with
  | zero => simp
  | succ k ih =>
    rw [List.range_succ, List.map_append, List.map_append, List.sum_append, List.sum_append, ih]
    simp only [List.map_cons, List.map_nil, List.sum_cons, List.sum_nil, Int.add_zero]
    unfold aboveR
    rw [Int.mul_add, show ((k + 1 : Nat) : Int) = (k : Int) + 1 by omega, Int.add_mul]
    omega
theorem sumAb_all {m : List (List Int)} {n : Nat} (h : ∀ r ∈ m, r.length = n) : sumAb m n = List.replicate m.length 0 := by
  unfold sumAb
  refine List.ext_getElem (by simp) fun i h1 h2 => ?_
  simp only [List.length_map] at h1
  simp only [List.getElem_map, List.getElem_replicate]
  have hl := h m[i] (List.getElem_mem h1)
  have key : ∀ r : List Int, r.length = n → (n : Int) * 0 + ((List.range n).map fun j => aboveR j r).sum = 0 := by
    intro r hr
    subst hr
    rw [sum_range_ab, range_getD]
    simp
  exact key _ hl
theorem sumAb_bd {m : List (List Int)} {n : Nat} (h : RightW m n) : ∀ k, k ≤ n → ∀ x ∈ sumAb m k, -256000 ≤ x ∧ x ≤ 256000 := by
  intro k hk x hx
  obtain ⟨r, hr, rfl⟩ := List.mem_map.1 hx
  have hn := (h.row r hr).1
  have h16 := (h.row r hr).2.1
  have : ∀ k : Nat, k ≤ n → -16000 * (k : Int) ≤ ((List.range k).map fun j => aboveR j r).sum ∧ ((List.range k).map fun j => aboveR j r).sum ≤ 16000 * (k : Int) := by
    intro k
    induction k with
    | zero => simp
    | succ k ih =>
      intro hk
      have i1 := ih (by omega)
      have i2 := above_bd (j := k) h (by omega) (aboveR k r) (List.mem_map.2 ⟨r, hr, rfl⟩)
      rw [List.range_succ, List.map_append, List.sum_append]
      simp only [List.map_cons, List.map_nil, List.sum_cons, List.sum_nil, Int.add_zero]
      omega
  have := this k hk
  omega
/-- The row of a judge who gives more. -/
def moreR (a : Nat) (c : Int) (r : List Int) : List Int := r.set a (r.getD a 0 + c)
def moreL (m : List (List Int)) (a : Nat) (c : Int) : List (List Int) := m.map (moreR a c)
theorem sum_set {l : List Int} {a : Nat} (h : a < l.length) (v : Int) : (l.set a v).sum = l.sum - l.getD a 0 + v := by
  induction l generalizing a with
  | nil => simp at h
  | cons x l ih =>
    cases a with
    | zero => simp; omega
    | succ a =>
      have := ih (a := a) (by simpa using h)
      simp only [List.set_cons_succ, List.sum_cons, List.getD_cons_succ]
      rw [this]
      omega
theorem above_more {r : List Int} {a : Nat} (h : a < r.length) (c : Int) : aboveR a (moreR a c r) = aboveR a r + ((r.length : Int) - 1) * c := by
  unfold aboveR moreR
  rw [List.length_set, sum_set h]
  have : (r.set a (r.getD a 0 + c)).getD a 0 = r.getD a 0 + c := by simp [List.getD_eq_getElem?_getD, h]
  rw [this, Int.mul_add, Int.sub_mul]
  omega
theorem aboveL_more {m : List (List Int)} {n a : Nat} (h : ∀ r ∈ m, r.length = n) (ha : a < n) (c : Int) : aboveL (moreL m a c) a = (aboveL m a).map (· + ((n : Int) - 1) * c) := by
  unfold aboveL moreL
  rw [List.map_map, List.map_map]
  refine List.map_congr_left fun r hr => ?_
  have := h r hr
  show aboveR a (moreR a c r) = aboveR a r + _
  rw [above_more (by omega), this]
theorem cs_shift (c : Int) : ∀ (k : Nat) (l : List Int) (least s t : Int), cs (least + t + (k : Int) * c) k (l.map (· + c)) (s + t) = cs least k l s := by
  intro k l
  induction l generalizing k with
  | nil =>
    intro least s t
    cases k with
    | zero =>
      simp only [cs, List.map_nil]
      by_cases h : least ≤ s
      · rw [if_pos h, if_pos (by simp; omega)]
      · rw [if_neg h, if_neg (by simp; omega)]
    | succ k => rfl
  | cons x l ih =>
    intro least s t
    cases k with
    | zero =>
      simp only [cs, List.map_cons]
      by_cases h : least ≤ s
      · rw [if_pos h, if_pos (by simp; omega)]
      · rw [if_neg h, if_neg (by simp; omega)]
    | succ k =>
      simp only [cs, List.map_cons]
      have e1 := ih (k + 1) least s t
      have e2 := ih k least (s + x) (t + c)
      rw [e1]
      congr 1
      rw [← e2]
      congr 1
      · rw [show ((k + 1 : Nat) : Int) = (k : Int) + 1 by omega, Int.add_mul]; omega
      · omega
theorem favS_shift (d : List Int) (c : Int) (mates : List (List Bool)) (j : Nat) : ∀ k, k ≤ d.length → favS (d.map (· + c)) mates j k = favS d mates j k + (favN mates j k : Int) * c := by
  intro k
  induction k with
  | zero => intro _; simp [favS, favN]
  | succ k ih =>
    intro hk
    unfold favS favN
    rw [ih (by omega)]
    by_cases h : hasW mates j k = true
    · rw [if_pos h, if_pos h, if_pos h]
      have : (d.map (· + c)).getD k 0 = d.getD k 0 + c := by
        simp only [List.getD_eq_getElem?_getD, List.getElem?_map, List.getElem?_eq_getElem (show k < d.length by omega), Option.map_some, Option.getD_some]
      rw [this, show ((favN mates j k + 1 : Nat) : Int) = (favN mates j k : Int) + 1 by omega, Int.add_mul]
      omega
    · rw [if_neg h, if_neg h, if_neg h]
      simp
def ksum : Nat → Int
  | 0 => 0
  | k + 1 => ksum k + (k : Int)
theorem dsum_shift (d : List Int) (c : Int) : ∀ k, k ≤ d.length → dsum (d.map (· + c)) k = dsum d k + ksum k * c := by
  intro k
  induction k with
  | zero => intro _; simp [dsum, ksum]
  | succ k ih =>
    intro hk
    unfold dsum ksum
    rw [ih (by omega)]
    have : (d.map (· + c)).getD k 0 = d.getD k 0 + c := by
      simp only [List.getD_eq_getElem?_getD, List.getElem?_map, List.getElem?_eq_getElem (show k < d.length by omega), Option.map_some, Option.getD_some]
    rw [this, Int.mul_add, Int.add_mul]
    omega
theorem psum_shift (d : List Int) (c : Int) (p : List Int) (n : Nat) (hn : d.length = n) (hp : Ord n p) : ∀ k, k ≤ n → psum mulP (iota n) (d.map (· + c)) p k = psum mulP (iota n) d p k + ksum k * c := by
  intro k
  induction k with
  | zero => intro _; simp [psum, sm, ksum]
  | succ k ih =>
    intro hk
    rw [psum_succ, psum_succ, ih (by omega)]
    have hi : (iota n).getD k 0 = (k : Int) := by
      simp only [List.getD_eq_getElem?_getD, iota, List.getElem?_map]
      rw [List.getElem?_range (by omega)]; rfl
    obtain ⟨p1, p2⟩ := hp.at (j := k) (by omega)
    have hd : (d.map (· + c)).getD (p.getD k 0).toNat 0 = d.getD (p.getD k 0).toNat 0 + c := by
      simp only [List.getD_eq_getElem?_getD (l := d.map (· + c)), List.getD_eq_getElem?_getD (l := d), List.getElem?_map, List.getElem?_eq_getElem (show (p.getD k 0).toNat < d.length by omega), Option.map_some, Option.getD_some]
    rw [hi, hd, show ksum (k + 1) = ksum k + (k : Int) from rfl]
    unfold mulP
    rw [Int.mul_add, Int.add_mul]
    omega
theorem cnt_shift (d : List Int) (c s : Int) (n : Nat) (hn : d.length = n) : cntG mulP (iota n) (d.map (· + c)) (s + ksum n * c) = cntG mulP (iota n) d s := by
  unfold cntG cntL
  rw [iota_len]
  refine List.countP_congr fun p hp => ?_
  rw [psum_shift d c p n hn (G_mem.1 hp) n (Nat.le_refl _)]
  simp
theorem eqP_sym : (fun x y => eqP y x) = eqP := by
  funext x y
  unfold eqP
  by_cases h : x = y
  · rw [if_pos h, if_pos h.symm]
  · rw [if_neg h, if_neg fun e => h e.symm]
theorem cntE_sym (x y : List Int) : ∀ k, cntE x y k = cntE y x k := by
  intro k
  induction k with
  | zero => rfl
  | succ k ih =>
    unfold cntE
    rw [ih]
    by_cases h : x.getD k 0 = y.getD k 0
    · rw [if_pos h, if_pos h.symm]
    · rw [if_neg h, if_neg fun e => h e.symm]
theorem agrQ_sym (m : List (List Int)) (a b : Nat) : agrQ m a b = agrQ m b a := by
  unfold agrQ
  rw [cntE_sym]
  have := cntG_flip eqP (colW m b) (colW m a) (cntE (colW m b) (colW m a) m.length : Nat) (by simp [colW])
  rw [eqP_sym] at this
  rw [← this]
theorem moreL_length (m : List (List Int)) (a : Nat) (c : Int) : (moreL m a c).length = m.length := List.length_map ..
theorem favQ_shift {m : List (List Int)} {n a : Nat} (h : ∀ r ∈ m, r.length = n) (ha : a < n) (c : Int) (mates : List (List Bool)) (hm : mates.length = m.length) : favQ (moreL m a c) mates a = favQ m mates a := by
  unfold favQ
  have hl : (aboveL m a).length = m.length := List.length_map ..
  rw [aboveL_more h ha, favS_shift _ _ _ _ _ (by omega), moreL_length]
  have := cs_shift (((n : Int) - 1) * c) (favN mates a mates.length) (aboveL m a) (favS (aboveL m a) mates a mates.length) 0 0
  simp only [Int.add_zero] at this
  rw [this]
theorem driQ_shift {m : List (List Int)} {n a : Nat} (h : ∀ r ∈ m, r.length = n) (ha : a < n) (c : Int) : driQ (moreL m a c) a = driQ m a := by
  unfold driQ
  have hl : (aboveL m a).length = m.length := List.length_map ..
  rw [aboveL_more h ha, moreL_length, dsum_shift _ _ _ (by omega), cnt_shift _ _ _ _ hl]
end Go.Proofs.Ytmcbbhlglccmgaa

namespace Go.Proofs.Ytmcbbhlglccmgaa
open Go.RowKit Go BigFrame Go.Shelf
set_option maxRecDepth 100000
set_option linter.unusedSimpArgs false
set_option linter.unusedVariables false

/-! law42.FindingsShift. -/
theorem askW_one {m : List (List Int)} {k : Nat} (h : errW m = 0) (hk : k < (m.headD []).length) : askW m [(k : Int)] = 0 := by
  unfold askW
  rw [if_neg (by omega), if_neg (by simp only [minL, List.foldl_nil]; omega), if_neg (by simp only [maxL, List.foldl_nil]; omega)]
theorem askW_two {m : List (List Int)} {a b : Nat} (h : errW m = 0) (ha : a < (m.headD []).length) (hb : b < (m.headD []).length) : askW m [(a : Int), (b : Int)] = 0 := by
  unfold askW
  rw [if_neg (by omega), if_neg (by simp only [minL, List.foldl_cons, List.foldl_nil]; omega), if_neg (by simp only [maxL, List.foldl_cons, List.foldl_nil]; omega)]
theorem errW_zero {m : List (List Int)} {n : Nat} (h : RightW m n) : errW m = 0 := by
  have h1 : ¬ 64 < m.length := by have := h.le; omega
  have h2 : m.any longB = false := by
    rw [List.any_eq_false]
    intro x hx
    have := (h.row x hx).2.1
    simp [longB]; omega
  obtain ⟨r0, hr0⟩ : ∃ r0, m[0]? = some r0 := ⟨_, List.getElem?_eq_getElem h.p⟩
  have hl0 := (h.row r0 (List.mem_of_getElem? hr0)).1
  have h2n := h.two
  rw [errW_parts h1 h2 hr0, if_neg (by omega), if_neg]
  intro ha
  obtain ⟨x, hx, hw⟩ := List.any_eq_true.1 ha
  obtain ⟨e1, e2, e3⟩ := h.row x hx
  simp only [wrongB, Bool.or_eq_true, decide_eq_true_eq] at hw
  rcases hw with hw | hw
  · omega
  · obtain ⟨y, hy, ho⟩ := List.any_eq_true.1 hw
    have := e3 y hy
    simp only [offB, Bool.or_eq_true, decide_eq_true_eq] at ho
    omega
theorem right_more {m : List (List Int)} {n a : Nat} {c : Int} (h : RightW m n) (ha : a < n) (hc : ∀ r ∈ m, 0 ≤ r.getD a 0 + c ∧ r.getD a 0 + c ≤ 1000) : RightW (moreL m a c) n := by
  refine ⟨by rw [moreL_length]; exact h.p, by rw [moreL_length]; exact h.le, h.two, fun x hx => ?_⟩
  obtain ⟨r, hr, rfl⟩ := List.mem_map.1 hx
  obtain ⟨e1, e2, e3⟩ := h.row r hr
  refine ⟨by unfold moreR; rw [List.length_set]; exact e1, by unfold moreR; rw [List.length_set]; exact e2, fun y hy => ?_⟩
  rcases List.mem_or_eq_of_mem_set hy with h1 | h1
  · exact e3 y h1
  · rw [h1]; exact hc r hr
structure OwRows (w : World) (a : Option Addr) (c : Nat) (m : List (List Int)) : Prop where
  h : Rows w a c m
theorem OwRows.ext {w w' : World} {a : Option Addr} {c : Nat} {m : List (List Int)} (h : OwRows w a c m) (k : Ext w w') : OwRows w' a c m := ⟨h.h.ext k⟩
def mixL (P Q : List Int) (i : Nat) : List Int := P.take i ++ Q.drop i
theorem mixw_len {P Q : List Int} (h : P.length = Q.length) {i : Nat} : (mixL P Q i).length = Q.length := by unfold mixL; simp; omega
theorem mixw_get {P Q : List Int} (h : P.length = Q.length) {i : Nat} (hi : i < Q.length) : (mixL P Q i).getD i 0 = Q.getD i 0 := by
  unfold mixL
  rw [List.getD_eq_getElem?_getD, List.getElem?_append_right (by simp; omega)]
  simp [List.getElem?_drop, List.getD_eq_getElem?_getD, show min i P.length = i by omega]
theorem mixw_set {P Q : List Int} (h : P.length = Q.length) {i : Nat} (hi : i < Q.length) : (mixL P Q i).set i (P.getD i 0) = mixL P Q (i + 1) := by
  unfold mixL
  have e1 : Q.drop i = Q[i] :: Q.drop (i + 1) := by rw [List.drop_eq_getElem_cons hi]
  have e2 : P.take (i + 1) = P.take i ++ [P.getD i 0] := by
    rw [List.take_add_one, List.getD_eq_getElem?_getD, List.getElem?_eq_getElem (by omega)]; rfl
  have e0 : i - (P.take i).length = 0 := by rw [List.length_take]; omega
  rw [List.set_append_right _ _ (by rw [List.length_take]; omega), e0, e1, e2, List.set_cons_zero, List.append_assoc]
  rfl
theorem mixw_zero (P Q : List Int) : mixL P Q 0 = Q := by simp [mixL]
theorem mixw_all {P Q : List Int} (h : P.length = Q.length) {i : Nat} (hi : Q.length ≤ i) : mixL P Q i = P := by
  unfold mixL
  rw [List.take_of_length_le (by omega), List.drop_eq_nil_of_le hi, List.append_nil]
theorem Ints.farW {w : World} {a : Option Addr} {cap : Nat} {l : List Int} (h : Ints w a cap l) {p : Addr} (hp : ∀ A, a = some A → A.block ≠ p.block) (v : Value) : Ints (w.setCell p v) a cap l := by
  refine ⟨h.le, h.mx, h.nil, fun A hA i hi => ?_⟩
  obtain ⟨h1, u, hu, hr⟩ := h.cells A hA i hi
  exact ⟨h1, u, by rw [World.cell?_setCell_far _ _ _ _ (by dsimp only; exact fun e => hp A hA e.symm)]; exact hu, hr⟩
set_option maxHeartbeats 8000000 in
theorem law_FShift_no (a a2 : Option Addr) (cap cap2 : Nat) (m : List (List Int)) (mates : List (List Bool)) (j o more : Int) (w : World) (h : Rows w a cap m) (h2 : BRows w a2 cap2 mates) (hj : 0 ≤ j ∧ j ≤ 255) (ho : 0 ≤ o ∧ o ≤ 255) (hmo : -32768 ≤ more ∧ more ≤ 32767)
    (hr : rightW m 7 = false) : Calls Try.prog 4 #[.slice a m.length cap, .slice a2 mates.length cap2, .int .u8 j, .int .u8 o, .int .i16 more] w fun e w' => e = .returned (.bool true) ∧ Ext w w' := by
  have hle := h.le
  have hmx := h.mx
  have hle2 := h2.le
  have hmx2 := h2.mx
  have HH := Lib.hid h
  have HH2 := Lib.hid h2
  have HRt := Lib.hid (fun W (hW : Ext w W) => law42_right_no a cap m j 7 W (h.ext hW) hr)
  simp only [show ((7 : Nat) : Int) = 7 from rfl] at HRt
  clear h h2 hr
  have hx : Ext w w := Ext.refl w
  go_enter Try.func4, Try.ntmps4
  go_upto_region 1 with fail
  have hs0 := hx.size
  go_wp2_with fail
  with_reducible refine (law42_sane _).mono ?_
  rintro e x1 ⟨rfl, hy⟩
  replace hx := hx.trans hy
  clear hy
  go_wp2_with fail
  with_reducible refine (HRt.out _ hx).mono ?_
  rintro e x2 ⟨rfl, hy⟩
  replace hx := hx.trans hy
  clear hy
  go_wp2_with fail
  go_ret
  exact ⟨rfl, hx⟩
set_option maxHeartbeats 8000000 in
theorem law_FShift_yes (a a2 : Option Addr) (cap cap2 : Nat) (m : List (List Int)) (mates : List (List Bool)) (j o more : Int) (w : World) (h : Rows w a cap m) (h2 : BRows w a2 cap2 mates) (hj : 0 ≤ j ∧ j ≤ 255) (ho : 0 ≤ o ∧ o ≤ 255) (hmo : -32768 ≤ more ∧ more ≤ 32767)
    (hr : rightW m 7 = true) : Calls Try.prog 4 #[.slice a m.length cap, .slice a2 mates.length cap2, .int .u8 j, .int .u8 o, .int .i16 more] w fun e w' => e = .returned (.bool true) ∧ Ext w w' := by
  have hle := h.le
  have hmx := h.mx
  have hle2 := h2.le
  have hmx2 := h2.mx
  have HH := Lib.hid h
  have HH2 := Lib.hid h2
  have hr' := hr
  simp only [rightW, Bool.and_eq_true, decide_eq_true_eq] at hr'
  obtain ⟨h7, he0⟩ := hr'
  have hR := errW_ok he0
  obtain ⟨r0, hr0⟩ : ∃ r0, m[0]? = some r0 := ⟨_, List.getElem?_eq_getElem hR.p⟩
  have hrd : m.headD [] = r0 := by
    rw [List.headD_eq_head?_getD, List.head?_eq_getElem?, hr0]; rfl
  have hn2 := hR.two
  rw [hrd] at hR hn2
  obtain ⟨j1, j2⟩ := hj
  obtain ⟨o1, o2⟩ := ho
  obtain ⟨mo1, mo2⟩ := hmo
  have hn16 := (hR.row r0 (List.mem_of_getElem? hr0)).2.1
  obtain ⟨n, hn⟩ : ∃ n, n = r0.length := ⟨_, rfl⟩
  rw [← hn] at hR hn2 hn16
  obtain ⟨A, hA⟩ : ∃ A : Nat, j % (n : Int) = (A : Int) := ⟨(j % (n : Int)).toNat, by have := Int.emod_nonneg j (show (n : Int) ≠ 0 by omega); omega⟩
  have hAn : A < n := by have := Int.emod_lt_of_pos j (show (0 : Int) < (n : Int) by omega); omega
  obtain ⟨P, hP⟩ : ∃ P : Nat, o % ((n : Int) - 1) = (P : Int) := ⟨(o % ((n : Int) - 1)).toNat, by have := Int.emod_nonneg o (show (n : Int) - 1 ≠ 0 by omega); omega⟩
  have hPn : P + 1 < n := by have := Int.emod_lt_of_pos o (show (0 : Int) < (n : Int) - 1 by omega); omega
  obtain ⟨B, hB⟩ : ∃ B : Nat, ((A : Int) + 1 + (P : Int)) % (n : Int) = (B : Int) := ⟨(((A : Int) + 1 + (P : Int)) % (n : Int)).toNat, by have := Int.emod_nonneg ((A : Int) + 1 + (P : Int)) (show (n : Int) ≠ 0 by omega); omega⟩
  have hBn : B < n := by have := Int.emod_lt_of_pos ((A : Int) + 1 + (P : Int)) (show (0 : Int) < (n : Int) by omega); omega
  have hAB : A ≠ B := by
    intro e
    subst e
    have h1 := Int.mul_ediv_add_emod ((A : Int) + 1 + (P : Int)) (n : Int)
    rw [hB] at h1
    have h2 : (n : Int) * (((A : Int) + 1 + (P : Int)) / (n : Int)) = (P : Int) + 1 := by omega
    generalize ((A : Int) + 1 + (P : Int)) / (n : Int) = q at h2
    rcases Int.lt_or_le 0 q with hq | hq
    · have : (n : Int) * 1 ≤ (n : Int) * q := Int.mul_le_mul_of_nonneg_left hq (by omega)
      omega
    · have : (n : Int) * q ≤ (n : Int) * 0 := Int.mul_le_mul_of_nonneg_left hq (by omega)
      omega
  have HRt := Lib.hid (fun W (hW : Ext w W) => law42_right_yes a cap m j 7 W (h.ext hW) hr ⟨j1, j2⟩ A (by rw [hrd, ← hn]; exact hA))
  simp only [show ((7 : Nat) : Int) = 7 from rfl] at HRt
  have HFM := Lib.hid (fun W (hW : Ext w W) => ref42_FewMates a2 cap2 mates W (h2.ext hW))
  have HAG := Lib.hid (fun (k : Nat) (hk : k < n) W (hW : Ext w W) => (findings_Against a cap m (k : Int) W (h.ext hW) (by omega)).mono fun e w' k' => (And.intro (k'.2.1 (askW_one he0 (by rw [hrd, ← hn]; exact hk))) k'.2.2 : (∃ v, e = .returned (.tuple #[v, .int .i64 0]) ∧ owsW w' W.heap.size v (aboveL m k)) ∧ Ext W w'))
  have HA1 := Lib.hid (fun W (hW : Ext w W) => findings_Agree_ok a cap m (A : Int) (B : Int) W (h.ext hW) (by omega) (by omega) (askW_two he0 (by rw [hrd, ← hn]; exact hAn) (by rw [hrd, ← hn]; exact hBn)) (by omega) (by omega))
  have HA2 := Lib.hid (fun W (hW : Ext w W) => findings_Agree_ok a cap m (B : Int) (A : Int) W (h.ext hW) (by omega) (by omega) (askW_two he0 (by rw [hrd, ← hn]; exact hBn) (by rw [hrd, ← hn]; exact hAn)) (by omega) (by omega))
  rw [show (A : Int).toNat = A from rfl, show (B : Int).toNat = B from rfl] at HA1 HA2
  rw [agrQ_sym m B A] at HA2
  have HE0 := Lib.hid he0
  have HRR := Lib.hid hR
  have HRD := Lib.hid hrd
  have HR0 := Lib.hid hr0
  have HN := Lib.hid hn
  have hp := hR.p
  have hm64 := hR.le
  obtain ⟨b, ob, rfl⟩ := h.head hp
  obtain ⟨r1, a1, c1, hr1, hc1, hI1⟩ := Rows.get h hp
  rw [hr0] at hr1
  cases hr1
  simp only [Nat.add_zero] at hc1
  rw [← hn] at hc1
  have r0le := hI1.le
  have r0mx := hI1.mx
  rw [← hn] at r0le
  have HC1 := Lib.hid hc1
  obtain ⟨i0, hi0, hz0, hz1, hz2⟩ := info_parts infoI
  have HII := Lib.hid (And.intro hi0 (And.intro hz0 (And.intro hz1 hz2)))
  have g0 : (0 : Int) < (m.length : Int) := by omega
  have u1 : o.tmod ((n : Int) - 1) = (P : Int) := by rw [Int.tmod_eq_emod_of_nonneg o1, hP]
  have u2 : ((A : Int) + 1 + (P : Int)).tmod (n : Int) = (B : Int) := by rw [Int.tmod_eq_emod_of_nonneg (by omega), hB]
  have HU := Lib.hid (And.intro u1 u2)
  have HEX := Lib.hid (fun x (hx : ∃ k, k ≤ n ∧ x ∈ sumAb m k) => (by obtain ⟨k, hk, hx⟩ := hx; exact sumAb_bd hR k hk x hx : -256000 ≤ x ∧ x ≤ 256000))
  have HAB := Lib.hid (fun k (hk : k < n) => above_bd hR hk)
  clear h h2 hr hR hr0 hrd hn hA hP hB hc1 hI1 hi0 hz0 hz1 hz2 u1 u2 he0
  have hx : Ext w w := Ext.refl w
  go_enter Try.func4, Try.ntmps4
  go_upto_region 1 with fail
  have hs0 := hx.size
  go_wp2_with fail
  with_reducible refine (law42_sane _).mono ?_
  rintro e x1 ⟨rfl, hy⟩
  replace hx := hx.trans hy
  clear hy
  go_wp2_with fail
  with_reducible refine (HRt.out _ hx).mono ?_
  rintro e x2 ⟨rfl, hy⟩
  replace hx := hx.trans hy
  clear hy
  clear HRt
  go_wp2_with fail
  with_reducible refine (HFM.out _ hx).mono ?_
  rintro e w' ⟨⟨bb, rfl⟩, rfl⟩
  clear HFM
  cases bb
  · go_wp2_with fail
    go_ret
    exact ⟨rfl, hx⟩
  · obtain ⟨hi0, hz0, hz1, hz2⟩ := HII.out
    go_wp2_with (at_make; refine wpList_make_full _ rfl _ _ 27 rfl (Array.size (World.heap x2)) 3 i0 (.int .i64 0) 1 Try.underlying27 hi0 hz0 hz1 _ _ _ _ m.length rfl rfl rfl rfl (by rw [hz2]; omega) (by unfold maxLen; omega) (Nat.le_refl _) ?_; intro w2 hown hgrow; have hc1 := cell_exQ (grownExt hx hgrow) HC1.out)
    have hown : w2.ownsRow (Array.size (World.heap x2)) 3 1 (.slice (some ⟨Array.size (World.heap x2), 0, none⟩) m.length m.length) m.length ((List.replicate m.length (0 : Int)).map (Value.int .i64)) := by simpa [Value.cells, toList_madeCells_one] using hown
    have hB0 : IB w2 (Array.size (World.heap x2)) (sumAb m 0) := by rw [sumAb_zero]; exact IB.of_owns hown
    have hxm : Ext x2 w2 := grownExt (Ext.refl x2) hgrow
    have HST := Lib.hid (fun W (hW : Ext x2 W) i v => hW.set (p := ⟨Array.size (World.heap x2), i, none⟩) (Nat.le_refl _) v)
    have HX0 := Lib.hid hx
    have HXm := Lib.hid hxm
    have HB0 := Lib.hid hB0
    obtain ⟨gS, hgS⟩ : ∃ gS, gS = Array.size (World.heap x2) := ⟨_, rfl⟩
    rw [← hgS] at HST HB0
    try rw [← hgS]
    have HGS := Lib.hid hgS
    clear hown hgrow hB0 hxm hc1 hi0 hz0 hz1 hz2 hx hgS
    go_loopw [60] (fun i wr => ∃ k : Nat, k ≤ n ∧ i = .int .i64 k ∧ Ext x2 wr ∧ IB wr gS (sumAb m k)) (fun i _ => n - (intOf i).toNat)
    case atStart => exact ⟨0, Nat.zero_le _, rfl, HXm.out, HB0.out⟩
    case round =>
      obtain ⟨k, hk, rfl, hxr, hib⟩ := hrel
      have hx := HX0.out.trans hxr
      have g1 : (0 : Int) ≤ (k : Int) := by omega
      generalize wr = wR at *
      by_cases hkn : k < n
      · have g2 : (k : Int) < (n : Int) := by omega
        have HBk := Lib.hid hib
        have HXR := Lib.hid hxr
        clear hib hxr
        go_wp2_with fail
        with_reducible refine (HAG.out k hkn _ hx).mono ?_
        rintro e xq ⟨⟨v, rfl, hv⟩, hy⟩
        obtain ⟨ad, cd, rfl, hI, had⟩ := owsW_ints hv (fun x hx => by have := HAB.out k hkn x hx; omega)
        have hdl : (aboveL m k).length = m.length := List.length_map ..
        have HDL := Lib.hid hdl
        have hbd := HAB.out k hkn
        have HBD := Lib.hid hbd
        have HSS := Lib.hid (fun i (hi : i < m.length) => sumAb_succ (k := k) hi)
        have dle := hI.le
        have dmx := hI.mx
        rw [hdl] at dle
        rw [hdl]
        have hsl := sumAb_length m k
        have hsl1 := sumAb_length m (k + 1)
        have HSL := Lib.hid (And.intro hsl hsl1)
        have HSB : Hid (∀ i, -256000 ≤ (sumAb m k).getD i 0 ∧ (sumAb m k).getD i 0 ≤ 256000) := Lib.hid fun i => by
          rw [List.getD_eq_getElem?_getD]
          cases hk : (sumAb m k)[i]? with
          | none => simp
          | some x => exact HEX.out x ⟨k, by omega, List.mem_of_getElem? hk⟩
        generalize aboveL m k = d at *
        have HI := Lib.hid hI
        have HAD := Lib.hid had
        have hib := HBk.out.ext hy
        have hxr := HXR.out.trans hy
        have hgR : gS < Array.size (World.heap wR) := HBk.out.lt
        have HIB := Lib.hid hib
        have HXR2 := Lib.hid hxr
        clear hv hI had hdl hbd hsl hsl1 hib hxr hy hx
        go_wp2_with fail
        go_loopw [80] (fun i wr => ∃ q : Nat, q ≤ m.length ∧ i = .int .i64 q ∧ Ext x2 wr ∧ Ints wr ad cd d ∧ IB wr gS (mixL (sumAb m (k + 1)) (sumAb m k) q)) (fun i _ => m.length - (intOf i).toNat)
        case atStart => exact ⟨0, Nat.zero_le _, rfl, HXR2.out, HI.out, by rw [mixw_zero]; exact HIB.out⟩
        case round =>
          obtain ⟨q, hq, rfl, hxr, hI, hib⟩ := hrel
          have g3 : (0 : Int) ≤ (q : Int) := by omega
          by_cases hqn : q < m.length
          · have hq1 : q < d.length := by rw [HDL.out]; exact hqn
            obtain ⟨bd, od, rfl⟩ := hI.head hq1
            obtain ⟨z, hz, hcz, -, -⟩ := Ints.get hI hq1
            obtain ⟨z1, z2⟩ := HBD.out z (List.mem_of_getElem? hz)
            have hdz : d.getD q 0 = z := by rw [List.getD_eq_getElem?_getD, hz]; rfl
            have e1 := HSS.out q hqn
            rw [hdz] at e1
            obtain ⟨hsl, hsl1⟩ := HSL.out
            have hml : (mixL (sumAb m (k + 1)) (sumAb m k) q).length = m.length := by rw [mixw_len (by omega), hsl]
            have hat := IB.at hib (i := q) (by omega)
            have hfr := Blk.free hib q
            rw [mixw_get (by omega) (by omega)] at hat
            have hset := IB.put hib q ((sumAb m (k + 1)).getD q 0)
            rw [mixw_set (by omega) (by omega), e1] at hset
            obtain ⟨s1, s2⟩ := HSB.out q
            generalize (sumAb m k).getD q 0 = S at *
            have HSET := Lib.hid hset
            have HXQ := Lib.hid (HST.out _ hxr q (.int .i64 (S + z)))
            have HIQ := Lib.hid (hI.farW (p := ⟨gS, q, none⟩) (fun A hA => by have := HAD.out A hA; dsimp only; omega) (.int .i64 (S + z)))
            have g4 : (q : Int) < (m.length : Int) := by omega
            clear hz hdz e1 hsl hsl1 hml hset hib hxr hI
            go_wp2_with fail
            go_roundw
            case rel => exact ⟨q + 1, by omega, by go_num, HXQ.out, HIQ.out, HSET.out⟩
            case measure => simp [intOf]; omega
          · have HIB2 : Hid (IB wr gS (sumAb m (k + 1))) := Lib.hid (by rw [mixw_all (by have := HSL.out; omega) (by have := HSL.out; omega)] at hib; exact hib)
            have HXR3 := Lib.hid hxr
            have g4 : ¬ (q : Int) < (m.length : Int) := by omega
            clear hib hxr hI
            go_wp2_with fail
            go_roundw
            case rel => exact ⟨k + 1, by omega, by go_num, HXR3.out, HIB2.out⟩
            case measure => simp [intOf]; omega
      · obtain rfl : k = n := by omega
        have HIS : Hid (Ints wR (some ⟨gS, 0, none⟩) m.length (List.replicate m.length 0)) := Lib.hid (by
          have h0 := hib
          rw [sumAb_all (fun r hr => (HRR.out.row r hr).1)] at h0
          have := h0.ints (fun x hx => by have := (List.mem_replicate.1 hx).2; omega) (by simp; omega)
          simpa using this)
        have HXR := Lib.hid hxr
        have HXW := Lib.hid hx
        have g2 : ¬ (k : Int) < (k : Int) := by omega
        clear hib hxr HB0 HXm HST HEX HAB HAG
        go_wp2_with fail
        go_loop [96] (fun i => ∃ q : Nat, q ≤ m.length ∧ i = .int .i64 q) (fun i => m.length - (intOf i).toNat)
        case atStart => exact ⟨0, Nat.zero_le _, rfl⟩
        case round =>
          obtain ⟨q, hq, rfl⟩ := hrel
          have g3 : (0 : Int) ≤ (q : Int) := by omega
          by_cases hqn : q < m.length
          · obtain ⟨z, hz, hcz, -, -⟩ := Ints.get HIS.out (i := q) (by simpa using hqn)
            simp only [Nat.zero_add] at hcz
            have hz0 : z = 0 := by
              have := List.mem_of_getElem? hz
              exact (List.mem_replicate.1 this).2
            subst hz0
            have g4 : (q : Int) < (m.length : Int) := by omega
            clear hz
            go_wp2_with fail
            go_round
            case rel => exact ⟨q + 1, by omega, by go_num⟩
            case measure => simp [intOf]; omega
          · have g4 : ¬ (q : Int) < (m.length : Int) := by omega
            have hx := HXW.out
            have hs0 := hx.size
            clear HIS HXW
            have hc1 := cell_exQ hx HC1.out
            obtain ⟨u1, u2⟩ := HU.out
            have v1 : ((k : Int) - 1 == 0) = false := beq_false_of_ne (by omega)
            have v2 : ¬ (k : Int) - 1 = 0 := by omega
            have v3 : ((k : Int) == 0) = false := beq_false_of_ne (by omega)
            have v4 : ¬ (k : Int) = 0 := by omega
            go_upto_region 25 with fail
            go_quiet (fail)
            go_upto_region 26 with fail
            replace hx := hx.drewN nq
            generalize wR.drewN nq = wD at *
            clear hc1 u1 u2 v1 v2 v3 v4 HU g2 g4
            have hsz := hx.size
            go_wp2_with fail
            with_reducible refine (HA1.out _ hx).mono ?_
            rintro e x3 ⟨v, rfl, hv, hy⟩
            replace hx := hx.trans hy
            clear hy
            obtain ⟨np, ap, qp, cp, bp, kp, dp, rfl, hv', hf', hg'⟩ := hv
            have Vp := Lib.hid hv'
            have Fp := Lib.hid (fun A hA => Nat.le_trans hsz (hf' A hA))
            have Gp := Lib.hid (fun A hA => Nat.le_trans hsz (hg' A hA))
            clear hv' hf' hg' hsz
            clear Fp Gp
            go_upto_region 27 with fail
            have hl := Ext.alloc x3 (.cells #[.bool np, .slice ap qp cp, .bool false, .slice bp kp dp] 35)
            have hpp : w.heap.size ≤ x3.heap.size := hx.size
            replace hx := hx.trans hl
            replace Vp := Lib.hid (Vp.out.ext hl)
            have Kp := Lib.hid (Blk.new0 x3 #[.bool np, .slice ap qp cp, .bool false, .slice bp kp dp] 35)
            clear hl
            generalize x3.alloc (.cells #[.bool np, .slice ap qp cp, .bool false, .slice bp kp dp] 35) = x4 at *
            generalize x3.heap.size = pp at *
            obtain ⟨cp0, cp1, cp2, cp3⟩ := bk4 Kp
            have hsz := hx.size
            go_wp2_with fail
            clear cp0 cp1 cp2 cp3
            with_reducible refine (HA2.out _ hx).mono ?_
            rintro e x5 ⟨v, rfl, hv, hy⟩
            replace hx := hx.trans hy
            replace Kp := kE Kp hy
            replace Vp := Lib.hid (Vp.out.ext hy)
            clear hy
            obtain ⟨nq, aq, qq, cq, bq, kq, dq, rfl, hv', hf', hg'⟩ := hv
            have Vq := Lib.hid hv'
            have Fq := Lib.hid (fun A hA => Nat.le_trans hsz (hf' A hA))
            have Gq := Lib.hid (fun A hA => Nat.le_trans hsz (hg' A hA))
            clear hv' hf' hg' hsz
            clear Fq Gq
            obtain ⟨cp0, cp1, cp2, cp3⟩ := bk4 Kp
            go_upto_region 28 with fail
            have hl := Ext.alloc x5 (.cells #[.bool nq, .slice aq qq cq, .bool false, .slice bq kq dq] 35)
            have lpq : pp < x5.heap.size := Kp.out.lt
            have hpq : w.heap.size ≤ x5.heap.size := hx.size
            clear cp0 cp1 cp2 cp3
            replace hx := hx.trans hl
            replace Kp := kE Kp hl
            replace Vp := Lib.hid (Vp.out.ext hl)
            replace Vq := Lib.hid (Vq.out.ext hl)
            have Kq := Lib.hid (Blk.new0 x5 #[.bool nq, .slice aq qq cq, .bool false, .slice bq kq dq] 35)
            clear hl
            generalize x5.alloc (.cells #[.bool nq, .slice aq qq cq, .bool false, .slice bq kq dq] 35) = x6 at *
            generalize x5.heap.size = pq at *
            obtain ⟨cp0, cp1, cp2, cp3⟩ := bk4 Kp
            obtain ⟨cq0, cq1, cq2, cq3⟩ := bk4 Kq
            go_wp2_with fail
            with_reducible refine ((same_rat Vp.out Vq.out)).mono ?_
            clear cp0 cp1 cp2 cp3 cq0 cq1 cq2 cq3
            rintro e x7 ⟨rfl, hy⟩
            replace hx := hx.trans hy
            replace Kp := kE Kp hy
            replace Kq := kE Kq hy
            replace Vp := Lib.hid (Vp.out.ext hy)
            replace Vq := Lib.hid (Vq.out.ext hy)
            clear hy
            simp only [decide_true]
            go_wp2_with fail
            clear Kp Kq
            clear Vp Vq HA1 HA2
            have HX1 := Lib.hid hx
            clear hx hs0
            go_loopw [26, 147] (fun v i wr => ∃ q : Nat, q ≤ m.length ∧ i = .int .i64 q ∧ OwnL IsInts wr (Array.size (World.heap x7)) 27 v ((moreL m A more).take q) ∧ Ext x7 wr ∧ ∀ r ∈ m.take q, 0 ≤ r.getD A 0 + more ∧ r.getD A 0 + more ≤ 1000) (fun _ i _ => m.length - (intOf i).toNat)
            case atStart => exact ⟨0, Nat.zero_le _, rfl, OwnL.nil _ _ _, Ext.refl _, fun r hr => by simp at hr⟩
            case round =>
              obtain ⟨q, hq, rfl, how, hxr, hall⟩ := hrel
              have HOW := Lib.hid how
              have HALL := Lib.hid hall
              have hx := HX1.out.trans hxr
              have HXR := Lib.hid hxr
              have g3 : (0 : Int) ≤ (q : Int) := by omega
              clear how hall hxr
              by_cases hqn : q < m.length
              · obtain ⟨l, a3, c3, hl, hcl, hI⟩ := Rows.get (HH.out.ext hx) hqn
                have hmem := List.mem_of_getElem? hl
                obtain ⟨hll, hl16, hlb⟩ := HRR.out.row l hmem
                have HLB := Lib.hid hlb
                have hA3 : A < l.length := by omega
                obtain ⟨y, hy⟩ : ∃ y, l[A]? = some y := ⟨_, List.getElem?_eq_getElem hA3⟩
                have HY := Lib.hid hy
                obtain ⟨y1, y2⟩ := hlb y (List.mem_of_getElem? hy)
                have hyd : l.getD A 0 = y := by rw [List.getD_eq_getElem?_getD, hy]; rfl
                have HYD := Lib.hid hyd
                have HMR : Hid ((moreL m A more).take (q + 1) = (moreL m A more).take q ++ [moreR A more l]) := Lib.hid (take_get (by unfold moreL; rw [List.getElem?_map, hl]; rfl))
                have HTL : Hid (((moreL m A more).take q).length = q) := Lib.hid (by rw [List.length_take, moreL_length]; omega)
                have HTM := Lib.hid (take_get hl)
                have g4 : (q : Int) < (m.length : Int) := by omega
                have HLL := Lib.hid hll
                have HI := Lib.hid hI
                have xle := hI.le
                have xmx := hI.mx
                rw [hll] at hcl xle
                have u3 : (0 : Int) ≤ (A : Int) := by omega
                have u4 : (A : Int) < (k : Int) := by omega
                clear hl hmem hlb hy hyd hI hll hA3
                go_upto_region 35 with (at_builtin; refine wpl_append_ext rfl (.tmp 151) (.tmp 152) 27 rfl Try.underlying27 (Ext.alloc wr (.cells #[] 3)) _ [] rfl (OwnI.new wr) _ _ _ l rfl HLL.out (HI.out.ext (Ext.alloc _ _)) (by have := HLL.out; simp; omega) ?_; intro v' w3 hown3 hx3; rw [List.nil_append] at hown3; obtain ⟨gr, cr, rfl, hI3, hgr⟩ := hown3.look (fun x hx => by have := HLB.out x hx; omega))
                have hc3 := hI3.atW HY.out
                have hf3 := hown3.freeW A
                have rle := hI3.le
                have rmx := hI3.mx
                rw [HLL.out] at rle
                try rw [HLL.out]
                have HI3 := Lib.hid hI3
                have HO3 := Lib.hid hx3
                clear hI3 hown3 hcl hx3
                go_upto_region 36 with fail
                have hI4 := HI3.out.putW (i := A) (u := y + more) (by omega)
                have hx4 := HO3.out.set (p := ⟨gr, A, none⟩) hgr (.int .i64 (y + more))
                rw [show l.set A (y + more) = moreR A more l by unfold moreR; rw [HYD.out]] at hI4
                clear hc3 hf3 HI3 HO3
                generalize w3.setCell ⟨gr, A, none⟩ (.int .i64 (y + more)) = w4 at *
                have hrl : (moreR A more l).length = k := by unfold moreR; rw [List.length_set]; exact HLL.out
                have hc4 := hI4.atW (i := A) (x := y + more) (by unfold moreR; rw [List.getElem?_set_self (by rw [HLL.out]; exact hAn), HYD.out])
                have HX4 := Lib.hid hx4
                have HI4 := Lib.hid hI4
                have HRL := Lib.hid hrl
                clear hx4 hI4 hrl
                by_cases hlo : y + more < 0
                · have v5 : decide (y + more < 0) = true := decide_eq_true hlo
                  go_wp2_with fail
                  go_ret
                  exact ⟨rfl, hx.trans HX4.out⟩
                · have v5 : decide (y + more < 0) = false := decide_eq_false hlo
                  by_cases hhi : 1000 < y + more
                  · have v6 : decide (1000 < y + more) = true := decide_eq_true hhi
                    go_wp2_with fail
                    go_ret
                    exact ⟨rfl, hx.trans HX4.out⟩
                  · have v6 : decide (1000 < y + more) = false := decide_eq_false hhi
                    have HOW4 := Lib.hid ((HOW.out.ext rdInts HX4.out).ext rdInts (Ext.alloc w4 (.cells #[.slice (some ⟨gr, 0, none⟩) k cr] 27)))
                    have HX5 := Lib.hid ((HXR.out.trans HX4.out).alloc' (.cells #[.slice (some ⟨gr, 0, none⟩) k cr] 27))
                    have HU5 : Hid (IsInts (w4.alloc (.cells #[.slice (some ⟨gr, 0, none⟩) k cr] 27)) (.slice (some ⟨gr, 0, none⟩) k cr) (moreR A more l)) := Lib.hid ⟨_, _, by rw [HRL.out], HI4.out.ext (Ext.alloc _ _)⟩
                    have HLT := Lib.hid HOW.out.lt
                    go_wp2_with (at_builtin; refine wpl_append_ownL rdInts rfl (.tmp 174) (.tmp 176) 22 27 rfl Try.underlying22 (z := .slice none 0 0) rfl infoIntsW HX5.out rfl HOW4.out rfl (Blk.new0 w4 _ _) HU5.out (fun A n c e hn e2 => by have := (HLT.out _ e2).2; simp only [Value.slice.injEq, Option.some.injEq] at e; obtain ⟨rfl, rfl, rfl⟩ := e; dsimp only at this; omega) (by have := HTL.out; omega) ?_; intro va vc w6 hown6 hx6 hg6)
                    go_roundw
                    case rel => exact ⟨q + 1, by omega, by go_num, by rw [HMR.out, show min q (moreL m A more).length = ((moreL m A more).take q).length by rw [List.length_take]]; exact hown6, hx6, fun r hr => by
                      rw [HTM.out] at hr
                      rcases List.mem_append.1 hr with hr | hr
                      · exact HALL.out r hr
                      · obtain rfl := List.mem_singleton.1 hr
                        rw [HYD.out]; omega⟩
                    case measure => simp [intOf]; omega
              · have hq2 : m.length ≤ q := by omega
                have g4 : ¬ (q : Int) < (m.length : Int) := by omega
                have hall2 : ∀ r ∈ m, 0 ≤ r.getD A 0 + more ∧ r.getD A 0 + more ≤ 1000 := by have := HALL.out; rwa [List.take_of_length_le hq2] at this
                have how2 := HOW.out
                rw [List.take_of_length_le (by rw [moreL_length]; exact hq2)] at how2
                obtain ⟨ax, cx, rfl, hIX⟩ := how2.sl
                have HRM := right_more HRR.out hAn hall2
                have HEM := errW_zero HRM
                have hhd : ((moreL m A more).headD []).length = k := by
                  obtain ⟨r1, hr1⟩ : ∃ r1, (moreL m A more)[0]? = some r1 := ⟨_, List.getElem?_eq_getElem HRM.p⟩
                  have := (HRM.row r1 (List.mem_of_getElem? hr1)).1
                  rw [List.headD_eq_head?_getD, List.head?_eq_getElem?, hr1]
                  exact this
                have hhm : (m.headD []).length = k := by rw [HRD.out, ← HN.out]
                have hml := moreL_length m A more
                have hrl : ∀ r ∈ m, r.length = k := fun r hr => (HRR.out.row r hr).1
                have HD1 := Lib.hid (fun W (hW : Ext w W) => findings_Drift_ok (some ⟨b, ob, none⟩) cap m (A : Int) W (HH.out.ext hW) (by omega) (askW_one HE0.out (by rw [hhm]; exact hAn)) (by omega))
                have HD2 := Lib.hid (fun W (hW : Rows W ax cx (moreL m A more)) => findings_Drift_ok ax cx (moreL m A more) (A : Int) W hW (by omega) (askW_one HEM (by rw [hhd]; exact hAn)) (by omega))
                rw [show (A : Int).toNat = A from rfl] at HD1 HD2
                rw [driQ_shift hrl hAn] at HD2
                have e1 := askW_one (m := m) (k := A) HE0.out (by rw [hhm]; exact hAn)
                have e2 := askW_one (m := moreL m A more) (k := A) HEM (by rw [hhd]; exact hAn)
                have HLen := Lib.hid (fun (hl : mates.length ≠ m.length) => And.intro (fun W (hW : Ext w W) => findings_Favour_len (some ⟨b, ob, none⟩) a2 cap cap2 m mates (A : Int) W (HH.out.ext hW) (HH2.out.ext hW) (by omega) e1 hl) (fun W (hW : Ext w W) (hX : Rows W ax cx (moreL m A more)) => findings_Favour_len ax a2 cx cap2 (moreL m A more) mates (A : Int) W hX (HH2.out.ext hW) (by omega) e2 (by rw [hml]; exact hl)))
                have HRow := Lib.hid (fun (hl : mates.length = m.length) (hm : mates.any (mateB k) = true) => And.intro (fun W (hW : Ext w W) => findings_Favour_row (some ⟨b, ob, none⟩) a2 cap cap2 m mates (A : Int) W (HH.out.ext hW) (HH2.out.ext hW) (by omega) e1 hl (by rw [hhm]; exact hm)) (fun W (hW : Ext w W) (hX : Rows W ax cx (moreL m A more)) => findings_Favour_row ax a2 cx cap2 (moreL m A more) mates (A : Int) W hX (HH2.out.ext hW) (by omega) e2 (by rw [hml]; exact hl) (by rw [hhd]; exact hm)))
                have HOk := Lib.hid (fun (hl : mates.length = m.length) (hm : mates.any (mateB k) = false) => And.intro (fun W (hW : Ext w W) => findings_Favour_ok (some ⟨b, ob, none⟩) a2 cap cap2 m mates (A : Int) W (HH.out.ext hW) (HH2.out.ext hW) (by omega) e1 hl (by rw [hhm]; exact hm) (.inl (by omega))) (fun W (hW : Ext w W) (hX : Rows W ax cx (moreL m A more)) => by
                  have := findings_Favour_ok ax a2 cx cap2 (moreL m A more) mates (A : Int) W hX (HH2.out.ext hW) (by omega) e2 (by rw [hml]; exact hl) (by rw [hhd]; exact hm) (.inl (by omega))
                  rw [show (A : Int).toNat = A from rfl, favQ_shift hrl hAn _ _ hl] at this
                  exact this))
                rw [show (A : Int).toNat = A from rfl] at HOk
                rw [hml] at HLen HRow HOk HD2
                have ale := hIX.le
                have amx := hIX.mx
                rw [hml] at ale
                rw [hml]
                have HS3 : Hid (OwRows wr ax cx (moreL m A more)) := Lib.hid ⟨hIX⟩
                clear how2 hIX HRM HEM hhd hhm hml hrl e1 e2 hall2 HOW HALL HXR
                generalize driQ m A = R3 at *
                generalize favQ m mates A = R4 at *
                have hs0 := hx.size
                by_cases hl : mates.length = m.length
                · cases hm : mates.any (mateB k)
                  · have HF := Lib.hid (HOk.out hl hm)
                    clear HOk HRow HLen hm hl
                    have hsz := hx.size
                    go_wp2_with fail
                    with_reducible refine (HF.out.1 _ hx).mono ?_
                    rintro e x8 ⟨v, rfl, hv, hy⟩
                    replace hx := hx.trans hy
                    replace HS3 := Lib.hid (HS3.out.ext hy)
                    clear hy
                    obtain ⟨nf, af, qf, cf, bf, kf, df, rfl, hv', hf', hg'⟩ := hv
                    have Vf := Lib.hid hv'
                    have Ff := Lib.hid (fun A hA => Nat.le_trans hsz (hf' A hA))
                    have Gf := Lib.hid (fun A hA => Nat.le_trans hsz (hg' A hA))
                    clear hv' hf' hg' hsz
                    clear Ff Gf
                    go_upto_region 41 with fail
                    have hl := Ext.alloc x8 (.cells #[.bool nf, .slice af qf cf, .bool false, .slice bf kf df] 35)
                    have hpf : w.heap.size ≤ x8.heap.size := hx.size
                    replace hx := hx.trans hl
                    replace HS3 := Lib.hid (HS3.out.ext hl)
                    replace Vf := Lib.hid (Vf.out.ext hl)
                    have Kf := Lib.hid (Blk.new0 x8 #[.bool nf, .slice af qf cf, .bool false, .slice bf kf df] 35)
                    clear hl
                    generalize x8.alloc (.cells #[.bool nf, .slice af qf cf, .bool false, .slice bf kf df] 35) = x9 at *
                    generalize x8.heap.size = pf at *
                    obtain ⟨cf0, cf1, cf2, cf3⟩ := bk4 Kf
                    have hsz := hx.size
                    go_wp2_with fail
                    clear cf0 cf1 cf2 cf3
                    with_reducible refine (HF.out.2 _ hx HS3.out.h).mono ?_
                    rintro e x10 ⟨v, rfl, hv, hy⟩
                    replace hx := hx.trans hy
                    replace Kf := kE Kf hy
                    replace HS3 := Lib.hid (HS3.out.ext hy)
                    replace Vf := Lib.hid (Vf.out.ext hy)
                    clear hy
                    obtain ⟨nu, au, qu, cu, bu, ku, du, rfl, hv', hf', hg'⟩ := hv
                    have Vu := Lib.hid hv'
                    have Fu := Lib.hid (fun A hA => Nat.le_trans hsz (hf' A hA))
                    have Gu := Lib.hid (fun A hA => Nat.le_trans hsz (hg' A hA))
                    clear hv' hf' hg' hsz
                    clear Fu Gu
                    obtain ⟨cf0, cf1, cf2, cf3⟩ := bk4 Kf
                    go_upto_region 42 with fail
                    have hl := Ext.alloc x10 (.cells #[.bool nu, .slice au qu cu, .bool false, .slice bu ku du] 35)
                    have lfu : pf < x10.heap.size := Kf.out.lt
                    have hpu : w.heap.size ≤ x10.heap.size := hx.size
                    clear cf0 cf1 cf2 cf3
                    replace hx := hx.trans hl
                    replace Kf := kE Kf hl
                    replace HS3 := Lib.hid (HS3.out.ext hl)
                    replace Vf := Lib.hid (Vf.out.ext hl)
                    replace Vu := Lib.hid (Vu.out.ext hl)
                    have Ku := Lib.hid (Blk.new0 x10 #[.bool nu, .slice au qu cu, .bool false, .slice bu ku du] 35)
                    clear hl
                    generalize x10.alloc (.cells #[.bool nu, .slice au qu cu, .bool false, .slice bu ku du] 35) = x11 at *
                    generalize x10.heap.size = pu at *
                    obtain ⟨cf0, cf1, cf2, cf3⟩ := bk4 Kf
                    obtain ⟨cu0, cu1, cu2, cu3⟩ := bk4 Ku
                    have hsz := hx.size
                    go_wp2_with fail
                    clear cf0 cf1 cf2 cf3 cu0 cu1 cu2 cu3
                    with_reducible refine (HD1.out _ hx).mono ?_
                    rintro e x12 ⟨v, rfl, hv, hy⟩
                    replace hx := hx.trans hy
                    replace Kf := kE Kf hy
                    replace Ku := kE Ku hy
                    replace HS3 := Lib.hid (HS3.out.ext hy)
                    replace Vf := Lib.hid (Vf.out.ext hy)
                    replace Vu := Lib.hid (Vu.out.ext hy)
                    clear hy
                    obtain ⟨ng, ag, qg, cg, bg, kg, dg, rfl, hv', hf', hg'⟩ := hv
                    have Vg := Lib.hid hv'
                    have Fg := Lib.hid (fun A hA => Nat.le_trans hsz (hf' A hA))
                    have Gg := Lib.hid (fun A hA => Nat.le_trans hsz (hg' A hA))
                    clear hv' hf' hg' hsz
                    clear Fg Gg
                    obtain ⟨cf0, cf1, cf2, cf3⟩ := bk4 Kf
                    obtain ⟨cu0, cu1, cu2, cu3⟩ := bk4 Ku
                    go_upto_region 43 with fail
                    have hl := Ext.alloc x12 (.cells #[.bool ng, .slice ag qg cg, .bool false, .slice bg kg dg] 35)
                    have lfg : pf < x12.heap.size := Kf.out.lt
                    have lug : pu < x12.heap.size := Ku.out.lt
                    have hpg : w.heap.size ≤ x12.heap.size := hx.size
                    clear cf0 cf1 cf2 cf3 cu0 cu1 cu2 cu3
                    replace hx := hx.trans hl
                    replace Kf := kE Kf hl
                    replace Ku := kE Ku hl
                    replace HS3 := Lib.hid (HS3.out.ext hl)
                    replace Vf := Lib.hid (Vf.out.ext hl)
                    replace Vu := Lib.hid (Vu.out.ext hl)
                    replace Vg := Lib.hid (Vg.out.ext hl)
                    have Kg := Lib.hid (Blk.new0 x12 #[.bool ng, .slice ag qg cg, .bool false, .slice bg kg dg] 35)
                    clear hl
                    generalize x12.alloc (.cells #[.bool ng, .slice ag qg cg, .bool false, .slice bg kg dg] 35) = x13 at *
                    generalize x12.heap.size = pg at *
                    obtain ⟨cf0, cf1, cf2, cf3⟩ := bk4 Kf
                    obtain ⟨cu0, cu1, cu2, cu3⟩ := bk4 Ku
                    obtain ⟨cg0, cg1, cg2, cg3⟩ := bk4 Kg
                    have hsz := hx.size
                    go_wp2_with fail
                    clear cf0 cf1 cf2 cf3 cu0 cu1 cu2 cu3 cg0 cg1 cg2 cg3
                    with_reducible refine (HD2.out _ HS3.out.h).mono ?_
                    rintro e x14 ⟨v, rfl, hv, hy⟩
                    replace hx := hx.trans hy
                    replace Kf := kE Kf hy
                    replace Ku := kE Ku hy
                    replace Kg := kE Kg hy
                    replace HS3 := Lib.hid (HS3.out.ext hy)
                    replace Vf := Lib.hid (Vf.out.ext hy)
                    replace Vu := Lib.hid (Vu.out.ext hy)
                    replace Vg := Lib.hid (Vg.out.ext hy)
                    clear hy
                    obtain ⟨nv, av, qv, cv, bv, kv, dv, rfl, hv', hf', hg'⟩ := hv
                    have Vv := Lib.hid hv'
                    have Fv := Lib.hid (fun A hA => Nat.le_trans hsz (hf' A hA))
                    have Gv := Lib.hid (fun A hA => Nat.le_trans hsz (hg' A hA))
                    clear hv' hf' hg' hsz
                    clear Fv Gv
                    obtain ⟨cf0, cf1, cf2, cf3⟩ := bk4 Kf
                    obtain ⟨cu0, cu1, cu2, cu3⟩ := bk4 Ku
                    obtain ⟨cg0, cg1, cg2, cg3⟩ := bk4 Kg
                    go_upto_region 44 with fail
                    have hl := Ext.alloc x14 (.cells #[.bool nv, .slice av qv cv, .bool false, .slice bv kv dv] 35)
                    have lfv : pf < x14.heap.size := Kf.out.lt
                    have luv : pu < x14.heap.size := Ku.out.lt
                    have lgv : pg < x14.heap.size := Kg.out.lt
                    have hpv : w.heap.size ≤ x14.heap.size := hx.size
                    clear cf0 cf1 cf2 cf3 cu0 cu1 cu2 cu3 cg0 cg1 cg2 cg3
                    replace hx := hx.trans hl
                    replace Kf := kE Kf hl
                    replace Ku := kE Ku hl
                    replace Kg := kE Kg hl
                    replace HS3 := Lib.hid (HS3.out.ext hl)
                    replace Vf := Lib.hid (Vf.out.ext hl)
                    replace Vu := Lib.hid (Vu.out.ext hl)
                    replace Vg := Lib.hid (Vg.out.ext hl)
                    replace Vv := Lib.hid (Vv.out.ext hl)
                    have Kv := Lib.hid (Blk.new0 x14 #[.bool nv, .slice av qv cv, .bool false, .slice bv kv dv] 35)
                    clear hl
                    generalize x14.alloc (.cells #[.bool nv, .slice av qv cv, .bool false, .slice bv kv dv] 35) = x15 at *
                    generalize x14.heap.size = pv at *
                    obtain ⟨cf0, cf1, cf2, cf3⟩ := bk4 Kf
                    obtain ⟨cu0, cu1, cu2, cu3⟩ := bk4 Ku
                    obtain ⟨cg0, cg1, cg2, cg3⟩ := bk4 Kg
                    obtain ⟨cv0, cv1, cv2, cv3⟩ := bk4 Kv
                    go_wp2_with fail
                    with_reducible refine ((same_rat Vf.out Vu.out)).mono ?_
                    clear cf0 cf1 cf2 cf3 cu0 cu1 cu2 cu3 cg0 cg1 cg2 cg3 cv0 cv1 cv2 cv3
                    rintro e x16 ⟨rfl, hy⟩
                    replace hx := hx.trans hy
                    replace Kf := kE Kf hy
                    replace Ku := kE Ku hy
                    replace Kg := kE Kg hy
                    replace Kv := kE Kv hy
                    replace HS3 := Lib.hid (HS3.out.ext hy)
                    replace Vf := Lib.hid (Vf.out.ext hy)
                    replace Vu := Lib.hid (Vu.out.ext hy)
                    replace Vg := Lib.hid (Vg.out.ext hy)
                    replace Vv := Lib.hid (Vv.out.ext hy)
                    clear hy
                    simp only [decide_true]
                    obtain ⟨cf0, cf1, cf2, cf3⟩ := bk4 Kf
                    obtain ⟨cu0, cu1, cu2, cu3⟩ := bk4 Ku
                    obtain ⟨cg0, cg1, cg2, cg3⟩ := bk4 Kg
                    obtain ⟨cv0, cv1, cv2, cv3⟩ := bk4 Kv
                    go_wp2_with fail
                    with_reducible refine ((same_rat Vg.out Vv.out)).mono ?_
                    clear cf0 cf1 cf2 cf3 cu0 cu1 cu2 cu3 cg0 cg1 cg2 cg3 cv0 cv1 cv2 cv3
                    rintro e x17 ⟨rfl, hy⟩
                    replace hx := hx.trans hy
                    replace Kf := kE Kf hy
                    replace Ku := kE Ku hy
                    replace Kg := kE Kg hy
                    replace Kv := kE Kv hy
                    replace HS3 := Lib.hid (HS3.out.ext hy)
                    replace Vf := Lib.hid (Vf.out.ext hy)
                    replace Vu := Lib.hid (Vu.out.ext hy)
                    replace Vg := Lib.hid (Vg.out.ext hy)
                    replace Vv := Lib.hid (Vv.out.ext hy)
                    clear hy
                    simp only [decide_true]
                    go_wp2_with fail
                    go_ret
                    exact ⟨rfl, hx⟩
                  · have HF := Lib.hid (HRow.out hl hm)
                    clear HOk HRow HLen hm hl
                    have hsz := hx.size
                    go_wp2_with fail
                    with_reducible refine (HF.out.1 _ hx).mono ?_
                    rintro e x8 ⟨rfl, hy⟩
                    replace hx := hx.trans hy
                    replace HS3 := Lib.hid (HS3.out.ext hy)
                    clear hy hsz
                    go_upto_region 41 with fail
                    have hl := Ext.alloc x8 (.cells #[.bool false, .slice none 0 0, .bool false, .slice none 0 0] 35)
                    have hpf : w.heap.size ≤ x8.heap.size := hx.size
                    replace hx := hx.trans hl
                    replace HS3 := Lib.hid (HS3.out.ext hl)
                    have Kf := Lib.hid (Blk.new0 x8 #[.bool false, .slice none 0 0, .bool false, .slice none 0 0] 35)
                    clear hl
                    generalize x8.alloc (.cells #[.bool false, .slice none 0 0, .bool false, .slice none 0 0] 35) = x9 at *
                    generalize x8.heap.size = pf at *
                    obtain ⟨cf0, cf1, cf2, cf3⟩ := bk4 Kf
                    have hsz := hx.size
                    go_wp2_with fail
                    clear cf0 cf1 cf2 cf3
                    with_reducible refine (HF.out.2 _ hx HS3.out.h).mono ?_
                    rintro e x10 ⟨rfl, hy⟩
                    replace hx := hx.trans hy
                    replace Kf := kE Kf hy
                    replace HS3 := Lib.hid (HS3.out.ext hy)
                    clear hy hsz
                    obtain ⟨cf0, cf1, cf2, cf3⟩ := bk4 Kf
                    go_upto_region 42 with fail
                    have hl := Ext.alloc x10 (.cells #[.bool false, .slice none 0 0, .bool false, .slice none 0 0] 35)
                    have lfu : pf < x10.heap.size := Kf.out.lt
                    have hpu : w.heap.size ≤ x10.heap.size := hx.size
                    clear cf0 cf1 cf2 cf3
                    replace hx := hx.trans hl
                    replace Kf := kE Kf hl
                    replace HS3 := Lib.hid (HS3.out.ext hl)
                    have Ku := Lib.hid (Blk.new0 x10 #[.bool false, .slice none 0 0, .bool false, .slice none 0 0] 35)
                    clear hl
                    generalize x10.alloc (.cells #[.bool false, .slice none 0 0, .bool false, .slice none 0 0] 35) = x11 at *
                    generalize x10.heap.size = pu at *
                    obtain ⟨cf0, cf1, cf2, cf3⟩ := bk4 Kf
                    obtain ⟨cu0, cu1, cu2, cu3⟩ := bk4 Ku
                    have hsz := hx.size
                    go_wp2_with fail
                    clear cf0 cf1 cf2 cf3 cu0 cu1 cu2 cu3
                    with_reducible refine (HD1.out _ hx).mono ?_
                    rintro e x12 ⟨v, rfl, hv, hy⟩
                    replace hx := hx.trans hy
                    replace Kf := kE Kf hy
                    replace Ku := kE Ku hy
                    replace HS3 := Lib.hid (HS3.out.ext hy)
                    clear hy
                    obtain ⟨ng, ag, qg, cg, bg, kg, dg, rfl, hv', hf', hg'⟩ := hv
                    have Vg := Lib.hid hv'
                    have Fg := Lib.hid (fun A hA => Nat.le_trans hsz (hf' A hA))
                    have Gg := Lib.hid (fun A hA => Nat.le_trans hsz (hg' A hA))
                    clear hv' hf' hg' hsz
                    clear Fg Gg
                    obtain ⟨cf0, cf1, cf2, cf3⟩ := bk4 Kf
                    obtain ⟨cu0, cu1, cu2, cu3⟩ := bk4 Ku
                    go_upto_region 43 with fail
                    have hl := Ext.alloc x12 (.cells #[.bool ng, .slice ag qg cg, .bool false, .slice bg kg dg] 35)
                    have lfg : pf < x12.heap.size := Kf.out.lt
                    have lug : pu < x12.heap.size := Ku.out.lt
                    have hpg : w.heap.size ≤ x12.heap.size := hx.size
                    clear cf0 cf1 cf2 cf3 cu0 cu1 cu2 cu3
                    replace hx := hx.trans hl
                    replace Kf := kE Kf hl
                    replace Ku := kE Ku hl
                    replace HS3 := Lib.hid (HS3.out.ext hl)
                    replace Vg := Lib.hid (Vg.out.ext hl)
                    have Kg := Lib.hid (Blk.new0 x12 #[.bool ng, .slice ag qg cg, .bool false, .slice bg kg dg] 35)
                    clear hl
                    generalize x12.alloc (.cells #[.bool ng, .slice ag qg cg, .bool false, .slice bg kg dg] 35) = x13 at *
                    generalize x12.heap.size = pg at *
                    obtain ⟨cf0, cf1, cf2, cf3⟩ := bk4 Kf
                    obtain ⟨cu0, cu1, cu2, cu3⟩ := bk4 Ku
                    obtain ⟨cg0, cg1, cg2, cg3⟩ := bk4 Kg
                    have hsz := hx.size
                    go_wp2_with fail
                    clear cf0 cf1 cf2 cf3 cu0 cu1 cu2 cu3 cg0 cg1 cg2 cg3
                    with_reducible refine (HD2.out _ HS3.out.h).mono ?_
                    rintro e x14 ⟨v, rfl, hv, hy⟩
                    replace hx := hx.trans hy
                    replace Kf := kE Kf hy
                    replace Ku := kE Ku hy
                    replace Kg := kE Kg hy
                    replace HS3 := Lib.hid (HS3.out.ext hy)
                    replace Vg := Lib.hid (Vg.out.ext hy)
                    clear hy
                    obtain ⟨nv, av, qv, cv, bv, kv, dv, rfl, hv', hf', hg'⟩ := hv
                    have Vv := Lib.hid hv'
                    have Fv := Lib.hid (fun A hA => Nat.le_trans hsz (hf' A hA))
                    have Gv := Lib.hid (fun A hA => Nat.le_trans hsz (hg' A hA))
                    clear hv' hf' hg' hsz
                    clear Fv Gv
                    obtain ⟨cf0, cf1, cf2, cf3⟩ := bk4 Kf
                    obtain ⟨cu0, cu1, cu2, cu3⟩ := bk4 Ku
                    obtain ⟨cg0, cg1, cg2, cg3⟩ := bk4 Kg
                    go_upto_region 44 with fail
                    have hl := Ext.alloc x14 (.cells #[.bool nv, .slice av qv cv, .bool false, .slice bv kv dv] 35)
                    have lfv : pf < x14.heap.size := Kf.out.lt
                    have luv : pu < x14.heap.size := Ku.out.lt
                    have lgv : pg < x14.heap.size := Kg.out.lt
                    have hpv : w.heap.size ≤ x14.heap.size := hx.size
                    clear cf0 cf1 cf2 cf3 cu0 cu1 cu2 cu3 cg0 cg1 cg2 cg3
                    replace hx := hx.trans hl
                    replace Kf := kE Kf hl
                    replace Ku := kE Ku hl
                    replace Kg := kE Kg hl
                    replace HS3 := Lib.hid (HS3.out.ext hl)
                    replace Vg := Lib.hid (Vg.out.ext hl)
                    replace Vv := Lib.hid (Vv.out.ext hl)
                    have Kv := Lib.hid (Blk.new0 x14 #[.bool nv, .slice av qv cv, .bool false, .slice bv kv dv] 35)
                    clear hl
                    generalize x14.alloc (.cells #[.bool nv, .slice av qv cv, .bool false, .slice bv kv dv] 35) = x15 at *
                    generalize x14.heap.size = pv at *
                    obtain ⟨cf0, cf1, cf2, cf3⟩ := bk4 Kf
                    obtain ⟨cu0, cu1, cu2, cu3⟩ := bk4 Ku
                    obtain ⟨cg0, cg1, cg2, cg3⟩ := bk4 Kg
                    obtain ⟨cv0, cv1, cv2, cv3⟩ := bk4 Kv
                    go_wp2_with fail
                    with_reducible refine (same_zero _).mono ?_
                    clear cf0 cf1 cf2 cf3 cu0 cu1 cu2 cu3 cg0 cg1 cg2 cg3 cv0 cv1 cv2 cv3
                    rintro e x16 ⟨rfl, hy⟩
                    replace hx := hx.trans hy
                    replace Kf := kE Kf hy
                    replace Ku := kE Ku hy
                    replace Kg := kE Kg hy
                    replace Kv := kE Kv hy
                    replace HS3 := Lib.hid (HS3.out.ext hy)
                    replace Vg := Lib.hid (Vg.out.ext hy)
                    replace Vv := Lib.hid (Vv.out.ext hy)
                    clear hy
                    obtain ⟨cf0, cf1, cf2, cf3⟩ := bk4 Kf
                    obtain ⟨cu0, cu1, cu2, cu3⟩ := bk4 Ku
                    obtain ⟨cg0, cg1, cg2, cg3⟩ := bk4 Kg
                    obtain ⟨cv0, cv1, cv2, cv3⟩ := bk4 Kv
                    go_wp2_with fail
                    with_reducible refine ((same_rat Vg.out Vv.out)).mono ?_
                    clear cf0 cf1 cf2 cf3 cu0 cu1 cu2 cu3 cg0 cg1 cg2 cg3 cv0 cv1 cv2 cv3
                    rintro e x17 ⟨rfl, hy⟩
                    replace hx := hx.trans hy
                    replace Kf := kE Kf hy
                    replace Ku := kE Ku hy
                    replace Kg := kE Kg hy
                    replace Kv := kE Kv hy
                    replace HS3 := Lib.hid (HS3.out.ext hy)
                    replace Vg := Lib.hid (Vg.out.ext hy)
                    replace Vv := Lib.hid (Vv.out.ext hy)
                    clear hy
                    simp only [decide_true]
                    go_wp2_with fail
                    go_ret
                    exact ⟨rfl, hx⟩
                · have HF := Lib.hid (HLen.out hl)
                  clear HOk HRow HLen hl
                  have hsz := hx.size
                  go_wp2_with fail
                  with_reducible refine (HF.out.1 _ hx).mono ?_
                  rintro e x8 ⟨rfl, hy⟩
                  replace hx := hx.trans hy
                  replace HS3 := Lib.hid (HS3.out.ext hy)
                  clear hy hsz
                  go_upto_region 41 with fail
                  have hl := Ext.alloc x8 (.cells #[.bool false, .slice none 0 0, .bool false, .slice none 0 0] 35)
                  have hpf : w.heap.size ≤ x8.heap.size := hx.size
                  replace hx := hx.trans hl
                  replace HS3 := Lib.hid (HS3.out.ext hl)
                  have Kf := Lib.hid (Blk.new0 x8 #[.bool false, .slice none 0 0, .bool false, .slice none 0 0] 35)
                  clear hl
                  generalize x8.alloc (.cells #[.bool false, .slice none 0 0, .bool false, .slice none 0 0] 35) = x9 at *
                  generalize x8.heap.size = pf at *
                  obtain ⟨cf0, cf1, cf2, cf3⟩ := bk4 Kf
                  have hsz := hx.size
                  go_wp2_with fail
                  clear cf0 cf1 cf2 cf3
                  with_reducible refine (HF.out.2 _ hx HS3.out.h).mono ?_
                  rintro e x10 ⟨rfl, hy⟩
                  replace hx := hx.trans hy
                  replace Kf := kE Kf hy
                  replace HS3 := Lib.hid (HS3.out.ext hy)
                  clear hy hsz
                  obtain ⟨cf0, cf1, cf2, cf3⟩ := bk4 Kf
                  go_upto_region 42 with fail
                  have hl := Ext.alloc x10 (.cells #[.bool false, .slice none 0 0, .bool false, .slice none 0 0] 35)
                  have lfu : pf < x10.heap.size := Kf.out.lt
                  have hpu : w.heap.size ≤ x10.heap.size := hx.size
                  clear cf0 cf1 cf2 cf3
                  replace hx := hx.trans hl
                  replace Kf := kE Kf hl
                  replace HS3 := Lib.hid (HS3.out.ext hl)
                  have Ku := Lib.hid (Blk.new0 x10 #[.bool false, .slice none 0 0, .bool false, .slice none 0 0] 35)
                  clear hl
                  generalize x10.alloc (.cells #[.bool false, .slice none 0 0, .bool false, .slice none 0 0] 35) = x11 at *
                  generalize x10.heap.size = pu at *
                  obtain ⟨cf0, cf1, cf2, cf3⟩ := bk4 Kf
                  obtain ⟨cu0, cu1, cu2, cu3⟩ := bk4 Ku
                  have hsz := hx.size
                  go_wp2_with fail
                  clear cf0 cf1 cf2 cf3 cu0 cu1 cu2 cu3
                  with_reducible refine (HD1.out _ hx).mono ?_
                  rintro e x12 ⟨v, rfl, hv, hy⟩
                  replace hx := hx.trans hy
                  replace Kf := kE Kf hy
                  replace Ku := kE Ku hy
                  replace HS3 := Lib.hid (HS3.out.ext hy)
                  clear hy
                  obtain ⟨ng, ag, qg, cg, bg, kg, dg, rfl, hv', hf', hg'⟩ := hv
                  have Vg := Lib.hid hv'
                  have Fg := Lib.hid (fun A hA => Nat.le_trans hsz (hf' A hA))
                  have Gg := Lib.hid (fun A hA => Nat.le_trans hsz (hg' A hA))
                  clear hv' hf' hg' hsz
                  clear Fg Gg
                  obtain ⟨cf0, cf1, cf2, cf3⟩ := bk4 Kf
                  obtain ⟨cu0, cu1, cu2, cu3⟩ := bk4 Ku
                  go_upto_region 43 with fail
                  have hl := Ext.alloc x12 (.cells #[.bool ng, .slice ag qg cg, .bool false, .slice bg kg dg] 35)
                  have lfg : pf < x12.heap.size := Kf.out.lt
                  have lug : pu < x12.heap.size := Ku.out.lt
                  have hpg : w.heap.size ≤ x12.heap.size := hx.size
                  clear cf0 cf1 cf2 cf3 cu0 cu1 cu2 cu3
                  replace hx := hx.trans hl
                  replace Kf := kE Kf hl
                  replace Ku := kE Ku hl
                  replace HS3 := Lib.hid (HS3.out.ext hl)
                  replace Vg := Lib.hid (Vg.out.ext hl)
                  have Kg := Lib.hid (Blk.new0 x12 #[.bool ng, .slice ag qg cg, .bool false, .slice bg kg dg] 35)
                  clear hl
                  generalize x12.alloc (.cells #[.bool ng, .slice ag qg cg, .bool false, .slice bg kg dg] 35) = x13 at *
                  generalize x12.heap.size = pg at *
                  obtain ⟨cf0, cf1, cf2, cf3⟩ := bk4 Kf
                  obtain ⟨cu0, cu1, cu2, cu3⟩ := bk4 Ku
                  obtain ⟨cg0, cg1, cg2, cg3⟩ := bk4 Kg
                  have hsz := hx.size
                  go_wp2_with fail
                  clear cf0 cf1 cf2 cf3 cu0 cu1 cu2 cu3 cg0 cg1 cg2 cg3
                  with_reducible refine (HD2.out _ HS3.out.h).mono ?_
                  rintro e x14 ⟨v, rfl, hv, hy⟩
                  replace hx := hx.trans hy
                  replace Kf := kE Kf hy
                  replace Ku := kE Ku hy
                  replace Kg := kE Kg hy
                  replace HS3 := Lib.hid (HS3.out.ext hy)
                  replace Vg := Lib.hid (Vg.out.ext hy)
                  clear hy
                  obtain ⟨nv, av, qv, cv, bv, kv, dv, rfl, hv', hf', hg'⟩ := hv
                  have Vv := Lib.hid hv'
                  have Fv := Lib.hid (fun A hA => Nat.le_trans hsz (hf' A hA))
                  have Gv := Lib.hid (fun A hA => Nat.le_trans hsz (hg' A hA))
                  clear hv' hf' hg' hsz
                  clear Fv Gv
                  obtain ⟨cf0, cf1, cf2, cf3⟩ := bk4 Kf
                  obtain ⟨cu0, cu1, cu2, cu3⟩ := bk4 Ku
                  obtain ⟨cg0, cg1, cg2, cg3⟩ := bk4 Kg
                  go_upto_region 44 with fail
                  have hl := Ext.alloc x14 (.cells #[.bool nv, .slice av qv cv, .bool false, .slice bv kv dv] 35)
                  have lfv : pf < x14.heap.size := Kf.out.lt
                  have luv : pu < x14.heap.size := Ku.out.lt
                  have lgv : pg < x14.heap.size := Kg.out.lt
                  have hpv : w.heap.size ≤ x14.heap.size := hx.size
                  clear cf0 cf1 cf2 cf3 cu0 cu1 cu2 cu3 cg0 cg1 cg2 cg3
                  replace hx := hx.trans hl
                  replace Kf := kE Kf hl
                  replace Ku := kE Ku hl
                  replace Kg := kE Kg hl
                  replace HS3 := Lib.hid (HS3.out.ext hl)
                  replace Vg := Lib.hid (Vg.out.ext hl)
                  replace Vv := Lib.hid (Vv.out.ext hl)
                  have Kv := Lib.hid (Blk.new0 x14 #[.bool nv, .slice av qv cv, .bool false, .slice bv kv dv] 35)
                  clear hl
                  generalize x14.alloc (.cells #[.bool nv, .slice av qv cv, .bool false, .slice bv kv dv] 35) = x15 at *
                  generalize x14.heap.size = pv at *
                  obtain ⟨cf0, cf1, cf2, cf3⟩ := bk4 Kf
                  obtain ⟨cu0, cu1, cu2, cu3⟩ := bk4 Ku
                  obtain ⟨cg0, cg1, cg2, cg3⟩ := bk4 Kg
                  obtain ⟨cv0, cv1, cv2, cv3⟩ := bk4 Kv
                  go_wp2_with fail
                  with_reducible refine (same_zero _).mono ?_
                  clear cf0 cf1 cf2 cf3 cu0 cu1 cu2 cu3 cg0 cg1 cg2 cg3 cv0 cv1 cv2 cv3
                  rintro e x16 ⟨rfl, hy⟩
                  replace hx := hx.trans hy
                  replace Kf := kE Kf hy
                  replace Ku := kE Ku hy
                  replace Kg := kE Kg hy
                  replace Kv := kE Kv hy
                  replace HS3 := Lib.hid (HS3.out.ext hy)
                  replace Vg := Lib.hid (Vg.out.ext hy)
                  replace Vv := Lib.hid (Vv.out.ext hy)
                  clear hy
                  obtain ⟨cf0, cf1, cf2, cf3⟩ := bk4 Kf
                  obtain ⟨cu0, cu1, cu2, cu3⟩ := bk4 Ku
                  obtain ⟨cg0, cg1, cg2, cg3⟩ := bk4 Kg
                  obtain ⟨cv0, cv1, cv2, cv3⟩ := bk4 Kv
                  go_wp2_with fail
                  with_reducible refine ((same_rat Vg.out Vv.out)).mono ?_
                  clear cf0 cf1 cf2 cf3 cu0 cu1 cu2 cu3 cg0 cg1 cg2 cg3 cv0 cv1 cv2 cv3
                  rintro e x17 ⟨rfl, hy⟩
                  replace hx := hx.trans hy
                  replace Kf := kE Kf hy
                  replace Ku := kE Ku hy
                  replace Kg := kE Kg hy
                  replace Kv := kE Kv hy
                  replace HS3 := Lib.hid (HS3.out.ext hy)
                  replace Vg := Lib.hid (Vg.out.ext hy)
                  replace Vv := Lib.hid (Vv.out.ext hy)
                  clear hy
                  simp only [decide_true]
                  go_wp2_with fail
                  go_ret
                  exact ⟨rfl, hx⟩
theorem law_FShift (a a2 : Option Addr) (cap cap2 : Nat) (m : List (List Int)) (mates : List (List Bool)) (j o more : Int) (w : World) (h : Rows w a cap m) (h2 : BRows w a2 cap2 mates) (hj : 0 ≤ j ∧ j ≤ 255) (ho : 0 ≤ o ∧ o ≤ 255) (hmo : -32768 ≤ more ∧ more ≤ 32767) :
    Calls Try.prog 4 #[.slice a m.length cap, .slice a2 mates.length cap2, .int .u8 j, .int .u8 o, .int .i16 more] w fun e w' => e = .returned (.bool true) ∧ Ext w w' := by
  cases hr : rightW m 7
  · exact law_FShift_no a a2 cap cap2 m mates j o more w h h2 hj ho hmo hr
  · exact law_FShift_yes a a2 cap cap2 m mates j o more w h h2 hj ho hmo hr
end Go.Proofs.Ytmcbbhlglccmgaa

