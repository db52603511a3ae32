import Derived.Test.YtmcbbhlglccmgaaWS
import Derived.Test.YtmcbbhlglccmgaaWO
import Derived.OwnWalk
import Derived.Deep.QuietTactic
namespace Go.Proofs.Ytmcbbhlglccmgaa
open Go.RowKit Go BigFrame Go.Shelf
set_option maxRecDepth 100000
set_option linter.unusedSimpArgs false
set_option linter.unusedVariables false

/-! law42.FindingsExact. -/
theorem infoBool : (Try.prog.info? 4).map (fun i => (i.zero, i.size, i.bytes)) = some (some (.bool false), 1, 1) := by kernel_rfl
structure OwBRows (w : World) (a : Option Addr) (c : Nat) (m : List (List Bool)) : Prop where
  h : BRows w a c m
theorem OwBRows.ext {w w' : World} {a : Option Addr} {c : Nat} {m : List (List Bool)} (h : OwBRows w a c m) (k : Ext w w') : OwBRows w' a c m := ⟨h.h.ext k⟩
theorem askW_oneE {m : List (List Int)} {k : Nat} (h : errW m = 0) (hk : k < (m.headD []).length) : askW m [(k : Int)] = 0 := by
  unfold askW
  rw [if_neg (by omega), if_neg (by simp only [minL, List.foldl_nil]; omega), if_neg (by simp only [maxL, List.foldl_nil]; omega)]
theorem askW_twoE {m : List (List Int)} {a b : Nat} (h : errW m = 0) (ha : a < (m.headD []).length) (hb : b < (m.headD []).length) : askW m [(a : Int), (b : Int)] = 0 := by
  unfold askW
  rw [if_neg (by omega), if_neg (by simp only [minL, List.foldl_cons, List.foldl_nil]; omega), if_neg (by simp only [maxL, List.foldl_cons, List.foldl_nil]; omega)]
/-- The rows of mates that the law lays out. -/
def rowB (n A : Nat) (b : Bool) : List Bool := (List.replicate n false).set A b
def rowsB (n A : Nat) (l : List Bool) : List (List Bool) := l.map (rowB n A)
theorem rowB_len (n A : Nat) (b : Bool) : (rowB n A b).length = n := by simp [rowB]
theorem rowsB_len (n A : Nat) (l : List Bool) : (rowsB n A l).length = l.length := List.length_map ..
theorem hasB {n A : Nat} (hA : A < n) {l : List Bool} {i : Nat} {b : Bool} (h : l[i]? = some b) : hasW (rowsB n A l) A i = b := by
  unfold hasW rowsB
  simp only [List.getD_eq_getElem?_getD, List.getElem?_map, h, Option.map_some, Option.getD_some]
  unfold rowB
  simp [hA]
theorem rowsB_mate {n A : Nat} (l : List Bool) : (rowsB n A l).any (mateB n) = false := by
  rw [List.any_eq_false]
  intro x hx
  obtain ⟨b, _, rfl⟩ := List.mem_map.1 hx
  simp [mateB, rowB_len]
def casesN (d : List Int) (k s : Nat) : Nat := (List.range s).countP (fun t => szW t d.length == k)
def hitsN (d : List Int) (k : Nat) (least : Int) (s : Nat) : Nat := (List.range s).countP (fun t => szW t d.length == k && decide (least ≤ smW d t d.length))
theorem casesN_succ (d : List Int) (k s : Nat) : casesN d k (s + 1) = casesN d k s + if szW s d.length = k then 1 else 0 := by
  unfold casesN
  rw [List.range_succ, List.countP_append]
  by_cases h : szW s d.length = k <;> simp [h]
theorem casesN_le (d : List Int) (k s : Nat) : casesN d k s ≤ s := Nat.le_trans List.countP_le_length (by simp)
theorem hitsN_le (d : List Int) (k : Nat) (least : Int) (s : Nat) : hitsN d k least s ≤ s := Nat.le_trans List.countP_le_length (by simp)
theorem i64_and1 (n : Int) : bits .and .i64 n 1 = n % 2 := by
  have h127 : (BitVec.ofInt 64 1).toNat = 2 ^ 1 - 1 := by decide
  have key : (BitVec.ofInt 64 n &&& BitVec.ofInt 64 1).toNat = (n % ((2 ^ 64 : Nat) : Int)).toNat % 2 ^ 1 := by
    rw [BitVec.toNat_and, BitVec.toNat_ofInt, h127, Nat.and_two_pow_sub_one_eq_mod]
  show IntKind.i64.wrap ((BitVec.ofInt 64 n &&& BitVec.ofInt 64 1).toNat : Nat) = n % 2
  rw [key, IntKind.wrap_i64]
  omega
theorem hitsN_succ (d : List Int) (k : Nat) (least : Int) (s : Nat) : hitsN d k least (s + 1) = hitsN d k least s + if szW s d.length = k ∧ least ≤ smW d s d.length then 1 else 0 := by
  unfold hitsN
  rw [List.range_succ, List.countP_append]
  by_cases h : szW s d.length = k <;> by_cases h2 : least ≤ smW d s d.length <;> simp [h, h2]
theorem szW_le (s : Nat) : ∀ i, szW s i ≤ i := by
  intro i
  induction i with
  | zero => exact Nat.le_refl _
  | succ i ih => unfold szW bitN; have : s / 2 ^ i % 2 < 2 := Nat.mod_lt _ (by omega); omega
theorem smW_bd {d : List Int} (h : ∀ x ∈ d, -16000 ≤ x ∧ x ≤ 16000) (s : Nat) : ∀ i : Nat, -16000 * (i : Int) ≤ smW d s i ∧ smW d s i ≤ 16000 * (i : Int) := by
  intro i
  induction i with
  | zero => simp [smW]
  | succ i ih =>
    unfold smW
    have := getD_bd h i
    split <;> omega
theorem factW_fact {n : Nat} (h : n ≤ 8) : factW n = (fact n : Nat) := by
  have : n = 0 ∨ n = 1 ∨ n = 2 ∨ n = 3 ∨ n = 4 ∨ n = 5 ∨ n = 6 ∨ n = 7 ∨ n = 8 := by omega
  rcases this with rfl | rfl | rfl | rfl | rfl | rfl | rfl | rfl | rfl <;> decide
theorem fact_pos1 : ∀ n, 1 ≤ fact n := by
  intro n
  induction n with
  | zero => exact Nat.le_refl _
  | succ n ih => show 1 ≤ (n + 1) * fact n; exact Nat.le_trans ih (Nat.le_mul_of_pos_left _ (by omega))
theorem psum_succ' (pt : Int → Int → Int) (l m p : List Int) (k : Nat) : psum pt l m p (k + 1) = psum pt l m p k + pt (l.getD k 0) (m.getD (p.getD k 0).toNat 0) := psum_succ pt l m p k
def cntO (pt : Int → Int → Int) (l m : List Int) (least : Int) (n k : Nat) : Nat := ((ordersL n).take k).countP fun p => decide (least ≤ psum pt l m p n)
theorem cntO_succ (pt : Int → Int → Int) (l m : List Int) (least : Int) (n : Nat) {k : Nat} {p : List Int} (h : (ordersL n)[k]? = some p) : cntO pt l m least n (k + 1) = cntO pt l m least n k + if least ≤ psum pt l m p n then 1 else 0 := by
  unfold cntO
  rw [take_get h, List.countP_append]
  by_cases hl : least ≤ psum pt l m p n <;> simp [hl]
theorem cntO_le (pt : Int → Int → Int) (l m : List Int) (least : Int) (n k : Nat) : cntO pt l m least n k ≤ k := by
  unfold cntO
  exact Nat.le_trans List.countP_le_length (by rw [List.length_take]; omega)
theorem cntO_all (pt : Int → Int → Int) (l m : List Int) (least : Int) {n k : Nat} (hl : l.length = n) (hk : (ordersL n).length ≤ k) : cntO pt l m least n k = cntG pt l m least := by
  unfold cntO
  rw [List.take_of_length_le hk]
  subst hl
  exact cnt_orders pt l m least
theorem iota_getD {n k : Nat} (h : k < n) : (iota n).getD k 0 = (k : Int) := by
  simp only [List.getD_eq_getElem?_getD, iota, List.getElem?_map]
  rw [List.getElem?_range h]; rfl
theorem eqP01W (x y : Int) : 0 ≤ eqP x y ∧ eqP x y ≤ 1 := by unfold eqP; split <;> omega
theorem eqP_bds (X Y p : List Int) : ∀ k : Nat, 0 ≤ psum eqP X Y p k ∧ psum eqP X Y p k ≤ (k : Int) := by
  intro k
  induction k with
  | zero => simp [psum, sm]
  | succ k ih =>
    rw [psum_succ']
    have := eqP01W (X.getD k 0) (Y.getD (p.getD k 0).toNat 0)
    omega
theorem mulP_bds {d : List Int} (h : ∀ x ∈ d, -16000 ≤ x ∧ x ≤ 16000) (n : Nat) (hn : n ≤ 64) (p : List Int) : ∀ k : Nat, k ≤ n → -1024000 * (k : Int) ≤ psum mulP (iota n) d p k ∧ psum mulP (iota n) d p k ≤ 1024000 * (k : Int) := by
  intro k
  induction k with
  | zero => simp [psum, sm]
  | succ k ih =>
    intro hk
    have i1 := ih (by omega)
    have i2 := mul64 (k := k) (by omega) (getD_bd h (p.getD k 0).toNat)
    rw [psum_succ', iota_getD (by omega), show mulP (k : Int) (d.getD (p.getD k 0).toNat 0) = (k : Int) * d.getD (p.getD k 0).toNat 0 from rfl]
    omega
set_option maxHeartbeats 8000000 in
theorem law_FExact_no (a a2 : Option Addr) (cap cap2 : Nat) (m : List (List Int)) (mates : List Bool) (j o : Int) (w : World) (h : Rows w a cap m) (h2 : Bools w a2 cap2 mates) (hj : 0 ≤ j ∧ j ≤ 255) (ho : 0 ≤ o ∧ o ≤ 255) (hr : rightW m 6 = false) : Calls Try.prog 3 #[.slice a m.length cap, .slice a2 mates.length cap2, .int .u8 j, .int .u8 o] w fun e w' => e = .returned (.bool true) ∧ Ext w w' := by
  have hle := h.le
  have hmx := h.mx
  have hle2 := h2.le
  have hmx2 := h2.mx
  have HH := Lib.hid h
  have HH2 := Lib.hid h2
  have HRt := Lib.hid (fun W (hW : Ext w W) => law42_right_no a cap m j 6 W (h.ext hW) hr)
  simp only [show ((6 : Nat) : Int) = 6 from rfl] at HRt
  clear h h2 hr
  have hx : Ext w w := Ext.refl w
  go_enter Try.func3, Try.ntmps3
  go_upto_region 1 with fail
  have hs0 := hx.size
  go_wp2_with fail
  with_reducible refine (law42_sane _).mono ?_
  rintro e x1 ⟨rfl, hy⟩
  replace hx := hx.trans hy
  clear hy
  go_wp2_with fail
  with_reducible refine (HRt.out _ hx).mono ?_
  rintro e x2 ⟨rfl, hy⟩
  replace hx := hx.trans hy
  clear hy
  go_wp2_with fail
  go_ret
  exact ⟨rfl, hx⟩
set_option maxHeartbeats 8000000 in
theorem law_FExact_len (a a2 : Option Addr) (cap cap2 : Nat) (m : List (List Int)) (mates : List Bool) (j o : Int) (w : World) (h : Rows w a cap m) (h2 : Bools w a2 cap2 mates) (hj : 0 ≤ j ∧ j ≤ 255) (ho : 0 ≤ o ∧ o ≤ 255) (hr : rightW m 6 = true) (hl : mates.length ≠ m.length) : Calls Try.prog 3 #[.slice a m.length cap, .slice a2 mates.length cap2, .int .u8 j, .int .u8 o] w fun e w' => e = .returned (.bool true) ∧ Ext w w' := by
  have hle := h.le
  have hmx := h.mx
  have hle2 := h2.le
  have hmx2 := h2.mx
  have HH := Lib.hid h
  have HH2 := Lib.hid h2
  have hr' := hr
  simp only [rightW, Bool.and_eq_true, decide_eq_true_eq] at hr'
  obtain ⟨h7, he0⟩ := hr'
  have hR := errW_ok he0
  have hn2 := hR.two
  obtain ⟨A, hA⟩ : ∃ A : Nat, j % ((m.headD []).length : Int) = (A : Int) := ⟨(j % ((m.headD []).length : Int)).toNat, by have := Int.emod_nonneg j (show ((m.headD []).length : Int) ≠ 0 by omega); omega⟩
  have HRt := Lib.hid (fun W (hW : Ext w W) => law42_right_yes a cap m j 6 W (h.ext hW) hr hj A hA)
  simp only [show ((6 : Nat) : Int) = 6 from rfl] at HRt
  have t3 : ((mates.length : Int) != (m.length : Int)) = true := by simp; omega
  have t3n : ¬ mates.length = m.length := hl
  clear h h2 hr hR hA hj he0
  have hx : Ext w w := Ext.refl w
  go_enter Try.func3, Try.ntmps3
  go_upto_region 1 with fail
  have hs0 := hx.size
  go_wp2_with fail
  with_reducible refine (law42_sane _).mono ?_
  rintro e x1 ⟨rfl, hy⟩
  replace hx := hx.trans hy
  clear hy
  go_wp2_with fail
  with_reducible refine (HRt.out _ hx).mono ?_
  rintro e x2 ⟨rfl, hy⟩
  replace hx := hx.trans hy
  clear hy
  go_wp2_with fail
  go_ret
  exact ⟨rfl, hx⟩
set_option maxHeartbeats 8000000 in
theorem law_FExact_ok (a a2 : Option Addr) (cap cap2 : Nat) (m : List (List Int)) (mates : List Bool) (j o : Int) (w : World) (h : Rows w a cap m) (h2 : Bools w a2 cap2 mates) (hj : 0 ≤ j ∧ j ≤ 255) (ho : 0 ≤ o ∧ o ≤ 255) (hr : rightW m 6 = true) (hl : mates.length = m.length) : Calls Try.prog 3 #[.slice a m.length cap, .slice a2 mates.length cap2, .int .u8 j, .int .u8 o] w fun e w' => e = .returned (.bool true) ∧ Ext w w' := by
  have hle := h.le
  have hmx := h.mx
  have hle2 := h2.le
  have hmx2 := h2.mx
  have HH := Lib.hid h
  have HH2 := Lib.hid h2
  have hr' := hr
  simp only [rightW, Bool.and_eq_true, decide_eq_true_eq] at hr'
  obtain ⟨h7, he0⟩ := hr'
  have hR := errW_ok he0
  obtain ⟨r0, hr0⟩ : ∃ r0, m[0]? = some r0 := ⟨_, List.getElem?_eq_getElem hR.p⟩
  have hrd : m.headD [] = r0 := by
    rw [List.headD_eq_head?_getD, List.head?_eq_getElem?, hr0]; rfl
  have hn2 := hR.two
  rw [hrd] at hR hn2
  obtain ⟨j1, j2⟩ := hj
  obtain ⟨o1, o2⟩ := ho
  have hn16 := (hR.row r0 (List.mem_of_getElem? hr0)).2.1
  obtain ⟨n, hn⟩ : ∃ n, n = r0.length := ⟨_, rfl⟩
  rw [← hn] at hR hn2 hn16
  obtain ⟨A, hA⟩ : ∃ A : Nat, j % (n : Int) = (A : Int) := ⟨(j % (n : Int)).toNat, by have := Int.emod_nonneg j (show (n : Int) ≠ 0 by omega); omega⟩
  have hAn : A < n := by have := Int.emod_lt_of_pos j (show (0 : Int) < (n : Int) by omega); omega
  obtain ⟨P, hP⟩ : ∃ P : Nat, o % ((n : Int) - 1) = (P : Int) := ⟨(o % ((n : Int) - 1)).toNat, by have := Int.emod_nonneg o (show (n : Int) - 1 ≠ 0 by omega); omega⟩
  have hPn : P + 1 < n := by have := Int.emod_lt_of_pos o (show (0 : Int) < (n : Int) - 1 by omega); omega
  obtain ⟨B, hB⟩ : ∃ B : Nat, ((A : Int) + 1 + (P : Int)) % (n : Int) = (B : Int) := ⟨(((A : Int) + 1 + (P : Int)) % (n : Int)).toNat, by have := Int.emod_nonneg ((A : Int) + 1 + (P : Int)) (show (n : Int) ≠ 0 by omega); omega⟩
  have hBn : B < n := by have := Int.emod_lt_of_pos ((A : Int) + 1 + (P : Int)) (show (0 : Int) < (n : Int) by omega); omega
  have hAB : A ≠ B := by
    intro e
    subst e
    have h1 := Int.mul_ediv_add_emod ((A : Int) + 1 + (P : Int)) (n : Int)
    rw [hB] at h1
    have h2 : (n : Int) * (((A : Int) + 1 + (P : Int)) / (n : Int)) = (P : Int) + 1 := by omega
    generalize ((A : Int) + 1 + (P : Int)) / (n : Int) = q at h2
    rcases Int.lt_or_le 0 q with hq | hq
    · have : (n : Int) * 1 ≤ (n : Int) * q := Int.mul_le_mul_of_nonneg_left hq (by omega)
      omega
    · have : (n : Int) * q ≤ (n : Int) * 0 := Int.mul_le_mul_of_nonneg_left hq (by omega)
      omega
  have HRt := Lib.hid (fun W (hW : Ext w W) => law42_right_yes a cap m j 6 W (h.ext hW) hr ⟨j1, j2⟩ A (by rw [hrd, ← hn]; exact hA))
  simp only [show ((6 : Nat) : Int) = 6 from rfl] at HRt
  have hhm : (m.headD []).length = n := by rw [hrd, ← hn]
  have hmp := hR.p
  have hbd := above_bd hR hAn
  have hdl : (aboveL m A).length = m.length := List.length_map ..
  have HAG := Lib.hid (fun W (hW : Ext w W) => (findings_Against a cap m (A : Int) W (h.ext hW) (by omega)).mono fun e w' k' => (And.intro (k'.2.1 (askW_oneE he0 (by rw [hhm]; exact hAn))) k'.2.2 : (∃ v, e = .returned (.tuple #[v, .int .i64 0]) ∧ owsW w' W.heap.size v (aboveL m A)) ∧ Ext W w'))
  have HFV := Lib.hid (fun W a3 c3 (hW : Ext w W) (hX : BRows W a3 c3 (rowsB n A mates)) => findings_Favour_ok a a3 cap c3 m (rowsB n A mates) (A : Int) W (h.ext hW) hX (by omega) (askW_oneE he0 (by rw [hhm]; exact hAn)) (by rw [rowsB_len]; exact hl) (by rw [hhm]; exact rowsB_mate mates) (.inl (by omega)))
  have HA1 := Lib.hid (fun W (hW : Ext w W) => findings_Agree_ok a cap m (A : Int) (B : Int) W (h.ext hW) (by omega) (by omega) (askW_twoE he0 (by rw [hhm]; exact hAn) (by rw [hhm]; exact hBn)) (by omega) (by omega))
  have HD1 := Lib.hid (fun W (hW : Ext w W) => findings_Drift_ok a cap m (A : Int) W (h.ext hW) (by omega) (askW_oneE he0 (by rw [hhm]; exact hAn)) (by omega))
  rw [show (A : Int).toNat = A from rfl] at HFV HA1 HD1
  rw [show (B : Int).toNat = B from rfl] at HA1
  have hbx := col_bd hR hAn
  have hby := col_bd hR hBn
  have hXl : (colW m A).length = m.length := List.length_map ..
  have hYl : (colW m B).length = m.length := List.length_map ..
  -- the three results, by their counts
  have hfq : favQ m (rowsB n A mates) A = Rat.divInt (hitsN (aboveL m A) (favN (rowsB n A mates) A m.length) (favS (aboveL m A) (rowsB n A mates) A m.length) (2 ^ m.length) : Nat) (casesN (aboveL m A) (favN (rowsB n A mates) A m.length) (2 ^ m.length) : Nat) := by
    unfold favQ hitsN casesN
    rw [rowsB_len, hl, ← hdl, hits_bits, cases_bits]
  have hcp : 0 < casesN (aboveL m A) (favN (rowsB n A mates) A m.length) (2 ^ m.length) := by
    unfold casesN
    rw [← hdl, cases_bits]
    exact bin_pos (by rw [hdl]; exact favN_le _ _ _)
  have haq : agrQ m A B = Rat.divInt (cntO eqP (colW m A) (colW m B) (cntE (colW m A) (colW m B) m.length : Nat) m.length (fact m.length) : Nat) (fact m.length : Nat) := by
    unfold agrQ
    rw [cntO_all _ _ _ _ hXl (by rw [ordersL_length]; exact Nat.le_refl _), factW_fact (by omega)]
  have hdq : driQ m A = Rat.divInt (cntO mulP (iota m.length) (aboveL m A) (dsum (aboveL m A) m.length) m.length (fact m.length) : Nat) (fact m.length : Nat) := by
    unfold driQ
    rw [cntO_all _ _ _ _ (iota_len _) (by rw [ordersL_length]; exact Nat.le_refl _), factW_fact (by omega)]
  rw [hfq] at HFV
  rw [haq] at HA1
  rw [hdq] at HD1
  have HHas := Lib.hid (fun (i : Nat) (b : Bool) (h : mates[i]? = some b) => hasB hAn h)
  have HCOL := Lib.hid (fun (i : Nat) (r : List Int) (h : m[i]? = some r) => (And.intro (by unfold colW; rw [List.getD_eq_getElem?_getD, List.getElem?_map, h]; rfl) (by unfold colW; rw [List.getD_eq_getElem?_getD, List.getElem?_map, h]; rfl) : (colW m A).getD i 0 = r.getD A 0 ∧ (colW m B).getD i 0 = r.getD B 0))
  generalize colW m A = X at *
  generalize colW m B = Y at *
  generalize aboveL m A = d at *
  obtain ⟨MB, hMB⟩ : ∃ MB, MB = rowsB n A mates := ⟨_, rfl⟩
  have HMB := Lib.hid hMB
  rw [← hMB] at HFV HHas hcp
  have HFL := Lib.hid (fun k => favN_le MB A k)
  have HSB := Lib.hid (fun k => favS_bd hbd MB A k)
  have HDB := Lib.hid (fun (k : Nat) (hk : k ≤ 64) => dsum_bd hbd k hk)
  have HEB := Lib.hid (fun k => cntE_le X Y k)
  have HBD := Lib.hid hbd
  have HRR := Lib.hid hR
  have HR0 := Lib.hid hr0
  have HDL := Lib.hid hdl
  have HCP := Lib.hid hcp
  obtain ⟨bm, om, rfl⟩ := h.head hmp
  obtain ⟨r1, a1, c1, hr1, hc1, hI1⟩ := Rows.get h hmp
  rw [hr0] at hr1
  cases hr1
  simp only [Nat.add_zero] at hc1
  rw [← hn] at hc1
  have r0le := hI1.le
  have r0mx := hI1.mx
  rw [← hn] at r0le
  have HC1 := Lib.hid hc1
  obtain ⟨i0, hi0, hz0, hz1, hz2⟩ := info_parts infoBool
  have HII := Lib.hid (And.intro hi0 (And.intro hz0 (And.intro hz1 hz2)))
  have g0 : (0 : Int) < (m.length : Int) := by omega
  have gA : (A : Int) < (n : Int) := by omega
  have gA0 : (0 : Int) ≤ (A : Int) := by omega
  have gB : (B : Int) < (n : Int) := by omega
  have gB0 : (0 : Int) ≤ (B : Int) := by omega
  have u1 : o.tmod ((n : Int) - 1) = (P : Int) := by rw [Int.tmod_eq_emod_of_nonneg o1, hP]
  have u2 : ((A : Int) + 1 + (P : Int)).tmod (n : Int) = (B : Int) := by rw [Int.tmod_eq_emod_of_nonneg (by omega), hB]
  have HU := Lib.hid (And.intro u1 u2)
  have t3 : ((mates.length : Int) != (m.length : Int)) = false := by simp [hl]
  have HL := Lib.hid hl
  rw [hl]
  rw [hl] at hle2
  clear h h2 hr hR hr0 hrd hn hA hP hB hc1 hI1 hi0 hz0 hz1 hz2 u1 u2 he0 hbd hbx hby hfq haq hdq hMB hcp hhm hl t3
  have hx : Ext w w := Ext.refl w
  go_enter Try.func3, Try.ntmps3
  go_upto_region 1 with fail
  have hs0 := hx.size
  go_wp2_with fail
  with_reducible refine (law42_sane _).mono ?_
  rintro e x1 ⟨rfl, hy⟩
  replace hx := hx.trans hy
  clear hy
  go_wp2_with fail
  with_reducible refine (HRt.out _ hx).mono ?_
  rintro e x2 ⟨rfl, hy⟩
  replace hx := hx.trans hy
  clear hy
  clear HRt
  have hc1 := cell_exQ hx HC1.out
  obtain ⟨u1, u2⟩ := HU.out
  have v1 : ((n : Int) - 1 == 0) = false := beq_false_of_ne (by omega)
  have v2 : ¬ (n : Int) - 1 = 0 := by omega
  have v3 : ((n : Int) == 0) = false := beq_false_of_ne (by omega)
  have v4 : ¬ (n : Int) = 0 := by omega
  go_upto_region 6 with fail
  go_quiet (fail)
  go_upto_region 7 with fail
  replace hx := hx.drewN nq
  generalize World.drewN x2 nq = wD at *
  clear hc1 u1 u2 v1 v2 v3 v4 HU
  go_wp2_with fail
  with_reducible refine (HAG.out _ hx).mono ?_
  rintro e xq ⟨⟨v, rfl, hv⟩, hy⟩
  replace hx := hx.trans hy
  obtain ⟨ad, cd, rfl, hI, had⟩ := owsW_ints hv (fun x hx => by have := HBD.out x hx; omega)
  have dle := hI.le
  have dmx := hI.mx
  rw [HDL.out] at dle
  rw [HDL.out]
  have HI := Lib.hid hI
  have HXq := Lib.hid hx
  clear hv hI had hdl hy hx HAG
  go_wp2_with fail
  go_loopw [14, 15, 16, 17, 18, 93] (fun v s15 s16 s17 s18 x wr => ∃ q : Nat, q ≤ m.length ∧ x = .int .i64 q ∧ OwnL IsBools wr (Array.size (World.heap xq)) 23 v (MB.take q) ∧ s15 = .int .i64 (favN MB A q : Nat) ∧ s16 = .int .i64 (favS d MB A q) ∧ s17 = .int .i64 (dsum d q) ∧ s18 = .int .i64 (cntE X Y q : Nat) ∧ Ext xq wr) (fun _ _ _ _ _ x _ => m.length - (intOf x).toNat)
  case atStart => exact ⟨0, Nat.zero_le _, rfl, OwnL.nil _ _ _, rfl, rfl, rfl, rfl, Ext.refl _⟩
  case round =>
    obtain ⟨q, hq, rfl, how, rfl, rfl, rfl, rfl, hxr⟩ := hrel
    have HOW := Lib.hid how
    have HXR := Lib.hid hxr
    have hx := HXq.out.trans hxr
    have g1 : (0 : Int) ≤ (q : Int) := by omega
    clear how hxr
    by_cases hqn : q < m.length
    · obtain ⟨bb, ob, rfl⟩ := HH2.out.head (i := q) (by rw [HL.out]; exact hqn)
      obtain ⟨y, hy, hcy⟩ := Bools.get (HH2.out.ext HXq.out) (i := q) (by rw [HL.out]; exact hqn)
      obtain ⟨row, a3, c3, hrow, hcr, hIr⟩ := Rows.get (HH.out.ext HXq.out) hqn
      obtain ⟨hrl, hr16, hrb⟩ := HRR.out.row row (List.mem_of_getElem? hrow)
      have hq1 : q < d.length := by rw [HDL.out]; exact hqn
      obtain ⟨bd, od, rfl⟩ := HI.out.head hq1
      obtain ⟨z, hz, hcz, -, -⟩ := Ints.get HI.out hq1
      obtain ⟨z1, z2⟩ := HBD.out z (List.mem_of_getElem? hz)
      have HZ : Hid (d.getD q 0 = z) := Lib.hid (by rw [List.getD_eq_getElem?_getD, hz]; rfl)
      have hhas := HHas.out q y hy
      obtain ⟨e1, e2⟩ := HCOL.out q row hrow
      obtain ⟨b4, o4, rfl⟩ := hIr.head (i := A) (by omega)
      obtain ⟨xa, hxa, hca, -, -⟩ := Ints.get hIr (i := A) (by omega)
      obtain ⟨xb, hxb, hcb, -, -⟩ := Ints.get hIr (i := B) (by omega)
      have HXA : Hid (X.getD q 0 = xa) := Lib.hid (by rw [e1, List.getD_eq_getElem?_getD, hxa]; rfl)
      have HXB : Hid (Y.getD q 0 = xb) := Lib.hid (by rw [e2, List.getD_eq_getElem?_getD, hxb]; rfl)
      have rle := hIr.le
      have rmx := hIr.mx
      rw [hrl] at hcr rle
      have HCR := Lib.hid hcr
      have HCA := Lib.hid hca
      have HCB := Lib.hid hcb
      have HCZ := Lib.hid hcz
      have HTK : Hid (MB.take (q + 1) = MB.take q ++ [rowB n A y]) := Lib.hid (take_get (by rw [HMB.out]; unfold rowsB; rw [List.getElem?_map, hy]; rfl))
      have HTL : Hid ((MB.take q).length ≤ 1000000) := Lib.hid (by rw [List.length_take]; omega)
      have g2 : (q : Int) < (m.length : Int) := by omega
      have b1 := HFL.out q
      obtain ⟨b2, b3⟩ := HSB.out q
      obtain ⟨b5, b6⟩ := HDB.out q (by omega)
      have b7 := HEB.out q
      have m1 := mul64 (k := q) (by omega) ⟨z1, z2⟩
      obtain ⟨m2, m3⟩ := m1
      have e3 : favN MB A (q + 1) = favN MB A q + if y then 1 else 0 := by conv => lhs; unfold favN; rw [hhas]
      have e4 : favS d MB A (q + 1) = favS d MB A q + if y then z else 0 := by conv => lhs; unfold favS; rw [hhas, HZ.out]
      have e5 : dsum d (q + 1) = dsum d q + (q : Int) * z := by conv => lhs; unfold dsum; rw [HZ.out]
      have e6 : cntE X Y (q + 1) = cntE X Y q + if xa = xb then 1 else 0 := by conv => lhs; unfold cntE; rw [HXA.out, HXB.out]
      have HS := Lib.hid (And.intro e3 (And.intro e4 (And.intro e5 e6)))
      clear e3 e4 e5 e6
      generalize favN MB A q = N1 at *
      generalize favS d MB A q = S1 at *
      generalize dsum d q = D1 at *
      generalize cntE X Y q = C1 at *
      have hc1 := cell_exQ hx HC1.out
      have hcy2 := cell_exQ HXR.out hcy
      obtain ⟨hi0, hz0, hz1, hz2⟩ := HII.out
      clear hy hrow hrl hrb hq1 hz hhas e1 e2 hIr hxa hxb hcr hca hcb hcz hcy HXA HXB HZ
      go_upto_region 16 with (at_make; refine wpList_make_full _ rfl _ _ 23 rfl (Array.size (World.heap wr)) 4 i0 (.bool false) 1 Try.underlying23 hi0 hz0 hz1 _ _ _ _ n rfl rfl rfl rfl (by rw [hz2]; omega) (by unfold maxLen; omega) (Nat.le_refl _) ?_; intro w2 hown hgrow)
      have hown : w2.ownsRow (Array.size (World.heap wr)) 4 1 (.slice (some ⟨Array.size (World.heap wr), 0, none⟩) n n) n ((List.replicate n false).map Value.bool) := by simpa [Value.cells, toList_madeCells_one] using hown
      have hbk := blk_of_owns hown
      have hxm : Ext wr w2 := grownExt (Ext.refl wr) hgrow
      have hcA := hbk.cell (i := A) (v := .bool false) (by simp [show A < n by omega])
      have hfA := hbk.free A
      have hbk2 := hbk.set A (.bool y)
      have hx3 := hxm.set (p := ⟨Array.size (World.heap wr), A, none⟩) (Nat.le_refl _) (.bool y)
      rw [show ((List.replicate n false).map Value.bool).toArray.setIfInBounds A (.bool y) = ((rowB n A y).map Value.bool).toArray by unfold rowB; rw [List.map_set, List.setIfInBounds_toArray]] at hbk2
      have hbo := bools_blk hbk2 (by rw [rowB_len]; omega)
      rw [rowB_len] at hbo
      have HBO := Lib.hid hbo
      have HX3 := Lib.hid hx3
      clear hown hbk hxm hgrow hbk2 hbo hx3 hc1 hcy2
      go_upto_region 17 with fail
      clear hcA hfA
      generalize w2.setCell ⟨Array.size (World.heap wr), A, none⟩ (.bool y) = w3 at *
      have HLT := Lib.hid HOW.out.lt
      generalize Array.size (World.heap wr) = gr at *
      have HOW4 := Lib.hid ((HOW.out.ext rdBools HX3.out).ext rdBools (Ext.alloc w3 (.cells #[.slice (some ⟨gr, 0, none⟩) n n] 23)))
      have HX5 := Lib.hid ((HXR.out.trans HX3.out).alloc' (.cells #[.slice (some ⟨gr, 0, none⟩) n n] 23))
      have HU5 : Hid (IsBools (w3.alloc (.cells #[.slice (some ⟨gr, 0, none⟩) n n] 23)) (.slice (some ⟨gr, 0, none⟩) n n) (rowB n A y)) := Lib.hid ⟨_, _, by rw [rowB_len], HBO.out.ext (Ext.alloc _ _)⟩
      go_upto_region 18 with (at_builtin; refine wpl_append_ownL rdBools rfl (.tmp 107) (.tmp 109) 31 23 rfl Try.underlying31 (z := .slice none 0 0) rfl infoBoolsW HX5.out rfl HOW4.out rfl (Blk.new0 w3 _ _) HU5.out (fun A n c e hn e2 => by have := (HLT.out _ e2).2; simp only [Value.slice.injEq, Option.some.injEq] at e; obtain ⟨rfl, rfl, rfl⟩ := e; dsimp only at this; omega) HTL.out ?_; intro va vc w6 hown6 hx6 hg6)
      have HO6 : Hid (∃ k, k = (MB.take q).length + 1 ∧ OwnL IsBools w6 (Array.size (World.heap xq)) 23 (.slice va k vc) (MB.take q ++ [rowB n A y])) := Lib.hid ⟨_, rfl, hown6⟩
      have HX6 := Lib.hid hx6
      clear hg6 hown6 hx6 HOW4 HX5 HU5 HLT HTL hi0 hz0 hz1 hz2 hx
      have hcr := cell_exQ HX6.out HCR.out
      have hca := cell_exQ HX6.out HCA.out
      have hcb := cell_exQ HX6.out HCB.out
      have hcz := cell_exQ HX6.out HCZ.out
      clear HCR HCA HCB HCZ
      by_cases hxx : xa = xb
      · subst hxx
        cases y
        · go_upto_region 22 with fail
          go_quiet (fail)
          go_wp2_with fail
          go_roundw
          case rel =>
            obtain ⟨s1, s2, s3, s4⟩ := HS.out
            obtain ⟨k6, hk6, ho6⟩ := HO6.out
            refine ⟨q + 1, by omega, by go_num, ?_, ?_, ?_, ?_, ?_, HX6.out.drewN _⟩
            · rw [HTK.out]
              have h := ho6.ext rdBools ((Ext.refl w6).drewN nq)
              subst hk6
              first | exact h | (rw [List.length_take] at h; exact h)
            · rw [s1]; simp
            · rw [s2]; simp
            · rw [s3]
            · rw [s4]; simp
          case measure => simp [intOf]; omega
        · go_upto_region 22 with fail
          go_quiet (fail)
          go_wp2_with fail
          go_roundw
          case rel =>
            obtain ⟨s1, s2, s3, s4⟩ := HS.out
            obtain ⟨k6, hk6, ho6⟩ := HO6.out
            refine ⟨q + 1, by omega, by go_num, ?_, ?_, ?_, ?_, ?_, HX6.out.drewN _⟩
            · rw [HTK.out]
              have h := ho6.ext rdBools ((Ext.refl w6).drewN nq)
              subst hk6
              first | exact h | (rw [List.length_take] at h; exact h)
            · rw [s1]; simp
            · rw [s2]; simp
            · rw [s3]
            · rw [s4]; simp
          case measure => simp [intOf]; omega
      · have t5 : (xa == xb) = false := beq_false_of_ne hxx
        cases y
        · go_upto_region 22 with fail
          go_quiet (fail)
          go_wp2_with fail
          go_roundw
          case rel =>
            obtain ⟨s1, s2, s3, s4⟩ := HS.out
            obtain ⟨k6, hk6, ho6⟩ := HO6.out
            refine ⟨q + 1, by omega, by go_num, ?_, ?_, ?_, ?_, ?_, HX6.out.drewN _⟩
            · rw [HTK.out]
              have h := ho6.ext rdBools ((Ext.refl w6).drewN nq)
              subst hk6
              first | exact h | (rw [List.length_take] at h; exact h)
            · rw [s1]; simp
            · rw [s2]; simp
            · rw [s3]
            · rw [s4]; simp [hxx]
          case measure => simp [intOf]; omega
        · go_upto_region 22 with fail
          go_quiet (fail)
          go_wp2_with fail
          go_roundw
          case rel =>
            obtain ⟨s1, s2, s3, s4⟩ := HS.out
            obtain ⟨k6, hk6, ho6⟩ := HO6.out
            refine ⟨q + 1, by omega, by go_num, ?_, ?_, ?_, ?_, ?_, HX6.out.drewN _⟩
            · rw [HTK.out]
              have h := ho6.ext rdBools ((Ext.refl w6).drewN nq)
              subst hk6
              first | exact h | (rw [List.length_take] at h; exact h)
            · rw [s1]; simp
            · rw [s2]; simp
            · rw [s3]
            · rw [s4]; simp [hxx]
          case measure => simp [intOf]; omega
    · have hq2 : m.length ≤ q := by omega
      have g4 : ¬ (q : Int) < (m.length : Int) := by omega
      obtain rfl : q = m.length := by omega
      have how2 := HOW.out
      rw [List.take_of_length_le (by rw [HMB.out, rowsB_len, HL.out]; exact Nat.le_refl _)] at how2
      obtain ⟨ax, cx, rfl, hIX⟩ := how2.sl
      have hMl : MB.length = m.length := by rw [HMB.out, rowsB_len, HL.out]
      have bl := hIX.le
      have bm' := hIX.mx
      rw [hMl] at bl
      rw [hMl]
      simp only [hMl] at HFV
      have HBR : Hid (OwBRows wr ax cx MB) := Lib.hid ⟨hIX⟩
      have b1 := HFL.out m.length
      obtain ⟨b2, b3⟩ := HSB.out m.length
      obtain ⟨b5, b6⟩ := HDB.out m.length (by omega)
      have b7 := HEB.out m.length
      have hcp := HCP.out
      clear how2 hIX HOW hMl hq2 HFL HSB HDB HEB HHas HC1 HCP
      generalize favN MB A m.length = N1 at *
      generalize favS d MB A m.length = S1 at *
      generalize dsum d m.length = D1 at *
      generalize cntE X Y m.length = C1 at *
      have HHits := Lib.hid (hitsN_succ d N1 S1)
      have HCases := Lib.hid (casesN_succ d N1)
      obtain ⟨M, hM⟩ : ∃ M, M = 2 ^ m.length := ⟨_, rfl⟩
      have hM64 : M ≤ 64 := by rw [hM]; exact Nat.le_trans (Nat.pow_le_pow_right (by omega) (show m.length ≤ 6 by omega)) (by decide)
      rw [← hM] at HFV hcp
      have hsh : IntKind.i64.wrap (1 * 2 ^ (m.length : Int).toNat) = (M : Int) := by
        rw [Int.toNat_natCast, IntKind.wrap_i64, Int.one_mul, hM]
        have : ((2 : Int) ^ m.length) = ((2 ^ m.length : Nat) : Int) := by simp
        rw [this, ← hM]
        omega
      have hw : wrap64 ((2 : Int) ^ m.length) = (M : Int) := by
        rw [Int.toNat_natCast, IntKind.wrap_i64, Int.one_mul] at hsh
        unfold wrap64
        exact hsh
      have HW2 := Lib.hid hw
      clear hM hsh hw
      go_upto_region 27 with fail
      rw [HW2.out]
      have HXR3 := HXR
      have hcN := casesN_le d N1
      have hhN := hitsN_le d N1 S1
      have HCN := Lib.hid (And.intro hcN hhN)
      have HI2 := Lib.hid (HI.out.ext HXR.out)
      clear hcN hhN
      go_loop [22, 23, 149] (fun c h x => ∃ s : Nat, s ≤ M ∧ x = .int .i64 s ∧ c = .int .i64 (casesN d N1 s : Nat) ∧ h = .int .i64 (hitsN d N1 S1 s : Nat)) (fun _ _ x => M - (intOf x).toNat)
      case atStart => exact ⟨0, Nat.zero_le _, rfl, rfl, rfl⟩
      case round =>
        obtain ⟨s, hs, rfl, rfl, rfl⟩ := hrel
        have k1 := HCN.out.1 s
        have k2 := HCN.out.2 s
        have k3 : (0 : Int) ≤ (s : Int) := by omega
        obtain ⟨CC, eCC⟩ : ∃ C, casesN d N1 s = C := ⟨_, rfl⟩
        obtain ⟨HT, eHT⟩ : ∃ C, hitsN d N1 S1 s = C := ⟨_, rfl⟩
        have HCC := Lib.hid eCC
        have HHT := Lib.hid eHT
        rw [eCC] at k1 ⊢
        rw [eHT] at k2 ⊢
        clear eCC eHT
        by_cases hsM : s < M
        · have k4 : (s : Int) < (M : Int) := by omega
          go_wp2_with fail
          go_loop [25, 26, 154] (fun c h x => ∃ i : Nat, i ≤ m.length ∧ x = .int .i64 i ∧ c = .int .i64 (szW s i : Nat) ∧ h = .int .i64 (smW d s i)) (fun _ _ x => m.length - (intOf x).toNat)
          case atStart => exact ⟨0, Nat.zero_le _, rfl, rfl, rfl⟩
          case round =>
            obtain ⟨i, hi, rfl, rfl, rfl⟩ := hrel
            have k5 : (0 : Int) ≤ (i : Int) := by omega
            have k6 := szW_le s i
            have k7 := smW_bd HBD.out s i
            obtain ⟨k8, k9⟩ := k7
            have hz1 : szW s (i + 1) = szW s i + bitN s i := rfl
            have hz2 : smW d s (i + 1) = smW d s i + if bitN s i = 1 then d.getD i 0 else 0 := rfl
            have HZ12 := Lib.hid (And.intro hz1 hz2)
            have hfin : i = m.length → casesN d N1 (s + 1) = CC + (if szW s i = N1 then 1 else 0) ∧ hitsN d N1 S1 (s + 1) = HT + (if szW s i = N1 ∧ S1 ≤ smW d s i then 1 else 0) := fun e => by
              have c1 := HCases.out s
              have c2 := HHits.out s
              rw [HCC.out, HDL.out, ← e] at c1
              rw [HHT.out, HDL.out, ← e] at c2
              exact ⟨c1, c2⟩
            have HFIN := Lib.hid hfin
            clear hz1 hz2 hfin
            generalize szW s i = z5 at *
            generalize smW d s i = z6 at *
            by_cases hin : i < m.length
            · have hq1 : i < d.length := by rw [HDL.out]; exact hin
              obtain ⟨bd, od, rfl⟩ := HI2.out.head hq1
              obtain ⟨z, hz, hcz, -, -⟩ := Ints.get HI2.out hq1
              obtain ⟨y1, y2⟩ := HBD.out z (List.mem_of_getElem? hz)
              have HZ : Hid (d.getD i 0 = z) := Lib.hid (by rw [List.getD_eq_getElem?_getD, hz]; rfl)
              have l1 : (i : Int) < (m.length : Int) := by omega
              have hand : bits .and .i64 ((s : Int) / 2 ^ i) 1 = ((bitN s i : Nat) : Int) := by rw [i64_and1]; unfold bitN; simp
              have hb2 : bitN s i = 0 ∨ bitN s i = 1 := by unfold bitN; omega
              clear hz hq1
              rcases hb2 with hb | hb
              · rw [hb] at hand
                go_wp2_with fail
                go_round
                case rel =>
                  obtain ⟨e1, e2⟩ := HZ12.out
                  exact ⟨i + 1, by omega, by go_num, by rw [e1, hb]; simp, by rw [e2, hb]; simp⟩
                case measure => simp [intOf]; omega
              · rw [hb] at hand
                go_wp2_with fail
                go_round
                case rel =>
                  obtain ⟨e1, e2⟩ := HZ12.out
                  exact ⟨i + 1, by omega, by go_num, by rw [e1, hb]; simp, by rw [e2, hb, HZ.out]; simp⟩
                case measure => simp [intOf]; omega
            · have l1 : ¬ (i : Int) < (m.length : Int) := by omega
              obtain ⟨c1, c2⟩ := HFIN.out (by omega)
              have HC12 := Lib.hid (And.intro c1 c2)
              clear c1 c2
              by_cases hz : z5 = N1
              · have l2 : ((z5 : Int) == (N1 : Int)) = true := by simp [hz]
                have l2n : (z5 : Int) = (N1 : Int) := by omega
                by_cases hz3 : S1 ≤ z6
                · have l3 : decide (S1 ≤ z6) = true := decide_eq_true hz3
                  subst hz
                  go_wp2_with fail
                  go_round
                  case rel =>
                    obtain ⟨c1, c2⟩ := HC12.out
                    exact ⟨s + 1, by omega, by go_num, by rw [c1]; simp, by rw [c2]; simp [hz3]⟩
                  case measure => simp [intOf]; omega
                · have l3 : decide (S1 ≤ z6) = false := decide_eq_false hz3
                  subst hz
                  go_wp2_with fail
                  go_round
                  case rel =>
                    obtain ⟨c1, c2⟩ := HC12.out
                    exact ⟨s + 1, by omega, by go_num, by rw [c1]; simp, by rw [c2]; simp [hz3]⟩
                  case measure => simp [intOf]; omega
              · have l2 : ((z5 : Int) == (N1 : Int)) = false := beq_false_of_ne (by omega)
                have l2n : ¬ (z5 : Int) = (N1 : Int) := by omega
                go_wp2_with fail
                go_round
                case rel =>
                  obtain ⟨c1, c2⟩ := HC12.out
                  exact ⟨s + 1, by omega, by go_num, by rw [c1]; simp [hz], by rw [c2]; simp [hz]⟩
                case measure => simp [intOf]; omega
        · have k4 : ¬ (s : Int) < (M : Int) := by omega
          obtain rfl : s = M := by omega
          rw [HCC.out, HHT.out] at HFV
          rw [HCC.out] at hcp
          have hx := HXq.out.trans HXR.out
          have hs0 := hx.size
          have HAPP := Lib.hid HXR.out
          clear HCC HHT HCases HHits HCN HI2
          have hsz := hx.size
          go_wp2_with fail
          with_reducible refine (HFV.out _ _ _ hx HBR.out.h).mono ?_
          rintro e x3 ⟨v, rfl, hv, hy⟩
          replace hx := hx.trans hy
          replace HBR := Lib.hid (HBR.out.ext hy)
          replace HAPP := Lib.hid (HAPP.out.trans hy)
          clear hy
          obtain ⟨nf, af, qf, cf, bf, kf, df, rfl, hv', hf', hg'⟩ := hv
          have Vf := Lib.hid hv'
          have Ff := Lib.hid (fun A hA => Nat.le_trans hsz (hf' A hA))
          have Gf := Lib.hid (fun A hA => Nat.le_trans hsz (hg' A hA))
          clear hv' hf' hg' hsz
          clear Ff Gf
          have HAPPb := Lib.hid (HAPP.out.alloc' (.cells #[.bool nf, .slice af qf cf, .bool false, .slice bf kf df] 35))
          go_upto_region 43 with fail
          have hl := Ext.alloc x3 (.cells #[.bool nf, .slice af qf cf, .bool false, .slice bf kf df] 35)
          have hpf : w.heap.size ≤ x3.heap.size := hx.size
          replace hx := hx.trans hl
          replace HBR := Lib.hid (HBR.out.ext hl)
          replace Vf := Lib.hid (Vf.out.ext hl)
          have Kf := Lib.hid (Blk.new0 x3 #[.bool nf, .slice af qf cf, .bool false, .slice bf kf df] 35)
          clear hl
          generalize x3.alloc (.cells #[.bool nf, .slice af qf cf, .bool false, .slice bf kf df] 35) = x4 at *
          generalize x3.heap.size = pf at *
          have HAPP := HAPPb
          clear HAPPb
          obtain ⟨cf0, cf1, cf2, cf3⟩ := bk4 Kf
          go_wp2_with fail
          clear cf0 cf1 cf2 cf3
          refine (law42_is ((HT : Int)) ((CC : Int)) _ Vf.out ?h1 ?h2 ?h3).mono ?_
          case h1 => omega
          case h2 => omega
          case h3 => omega
          rintro e x5 ⟨rfl, hy⟩
          replace hx := hx.trans hy
          replace Kf := kE Kf hy
          replace HBR := Lib.hid (HBR.out.ext hy)
          replace Vf := Lib.hid (Vf.out.ext hy)
          replace HAPP := Lib.hid (HAPP.out.trans hy)
          clear hy
          simp only [decide_true]
          clear HFV
          clear Kf
          clear Vf HBR
          go_wp2_with fail
          with_reducible refine (law42_orders m.length _ (by omega)).mono ?_
          rintro e x6 ⟨v, rfl, hv, hy⟩
          obtain ⟨al, cl, rfl, hIL⟩ := hv.sl
          have hOl := ordersL_length m.length
          have hf8 := fact_le (n := m.length) (by omega)
          have hf1 := fact_pos1 m.length
          rw [hOl] 
          have ole := hIL.le
          have omx := hIL.mx
          rw [hOl] at ole
          have HOL := Lib.hid hOl
          have HIL := Lib.hid hIL
          replace hx := hx.trans hy
          have HAP := Lib.hid (HAPP.out.trans hy)
          have HXF := Lib.hid hx
          clear hv hIL hOl hy HAPP hx hs0
          go_wp2_with fail
          obtain ⟨F, hF⟩ : ∃ F, F = fact m.length := ⟨_, rfl⟩
          rw [← hF] at hf8 hf1 HOL ole HA1 HD1
          try rw [← hF]
          have HF := Lib.hid hF
          clear hF
          go_loopw [30, 31, 32, 199] (fun s30 s31 s32 x wr => ∃ k : Nat, k ≤ F ∧ x = .int .i64 k ∧ s30 = .int .i64 k ∧ s31 = .int .i64 (cntO eqP X Y (C1 : Nat) m.length k : Nat) ∧ s32 = .int .i64 (cntO mulP (iota m.length) d D1 m.length k : Nat) ∧ Ext x6 wr) (fun _ _ _ x _ => F - (intOf x).toNat)
          case atStart => exact ⟨0, Nat.zero_le _, rfl, rfl, rfl, rfl, Ext.refl _⟩
          case round =>
            obtain ⟨k, hk, rfl, rfl, rfl, rfl, hxr⟩ := hrel
            generalize wr = wK at *
            have HXK := Lib.hid hxr
            have p1 : (0 : Int) ≤ (k : Int) := by omega
            have p2 := cntO_le eqP X Y (C1 : Nat) m.length k
            have p3 := cntO_le mulP (iota m.length) d D1 m.length k
            obtain ⟨T1, eT1⟩ : ∃ T, cntO eqP X Y (C1 : Nat) m.length k = T := ⟨_, rfl⟩
            obtain ⟨T2, eT2⟩ : ∃ T, cntO mulP (iota m.length) d D1 m.length k = T := ⟨_, rfl⟩
            have HT1 := Lib.hid eT1
            have HT2 := Lib.hid eT2
            rw [eT1] at p2 ⊢
            rw [eT2] at p3 ⊢
            clear eT1 eT2 hxr
            by_cases hkF : k < F
            · have hkl : k < (ordersL m.length).length := by rw [HOL.out]; exact hkF
              obtain ⟨bo, oo, rfl⟩ := HIL.out.head hkl
              obtain ⟨ord, ao, co, hor, hco, hIo⟩ := Rows.get (Rows.ext HXK.out HIL.out) hkl
              obtain ⟨-, hol, hob⟩ := ordersL_of (List.mem_of_getElem? hor)
              have HOB := Lib.hid hob
              have HOLn := Lib.hid hol
              have n1 := cntO_succ eqP X Y (C1 : Nat) m.length hor
              have n2 := cntO_succ mulP (iota m.length) d D1 m.length hor
              rw [HT1.out] at n1
              rw [HT2.out] at n2
              have HN12 := Lib.hid (And.intro n1 n2)
              have oole := hIo.le
              have oomx := hIo.mx
              rw [hol] at hco oole
              have HIo := Lib.hid hIo
              have p4 : (k : Int) < (F : Int) := by omega
              clear hkl hor hol hob n1 n2 hIo
              go_wp2_with fail
              clear hco
              go_loopw [35, 36, 205] (fun s35 s36 x wr => ∃ i : Nat, i ≤ m.length ∧ x = .int .i64 i ∧ s35 = .int .i64 (psum mulP (iota m.length) d ord i) ∧ s36 = .int .i64 (psum eqP X Y ord i) ∧ Ext wK wr) (fun _ _ x _ => m.length - (intOf x).toNat)
              case atStart => exact ⟨0, Nat.zero_le _, rfl, rfl, rfl, Ext.refl _⟩
              case round =>
                obtain ⟨i, hi, rfl, rfl, rfl, hxr⟩ := hrel
                have HXI := Lib.hid hxr
                have q1 : (0 : Int) ≤ (i : Int) := by omega
                have q2 := eqP_bds X Y ord i
                have q3 := mulP_bds HBD.out m.length (by omega) ord i hi
                obtain ⟨q4, q5⟩ := q2
                obtain ⟨q6, q7⟩ := q3
                have hz1 := psum_succ' eqP X Y ord i
                have hz2 := psum_succ' mulP (iota m.length) d ord i
                have HZ12 := Lib.hid (And.intro hz1 hz2)
                have hfin : i = m.length → cntO eqP X Y (C1 : Nat) m.length (k + 1) = T1 + (if (C1 : Int) ≤ psum eqP X Y ord i then 1 else 0) ∧ cntO mulP (iota m.length) d D1 m.length (k + 1) = T2 + (if D1 ≤ psum mulP (iota m.length) d ord i then 1 else 0) := fun e => by
                  have c := HN12.out
                  rw [← e] at c ⊢
                  exact c
                have HFIN := Lib.hid hfin
                clear hz1 hz2 hfin hxr
                generalize psum eqP X Y ord i = z6 at *
                generalize psum mulP (iota m.length) d ord i = z5 at *
                by_cases hin : i < m.length
                · have hxI := HXF.out.trans (HXK.out.trans HXI.out)
                  obtain ⟨b9, o9, rfl⟩ := HIo.out.head (i := i) (by rw [HOLn.out]; exact hin)
                  obtain ⟨t, ht, hct, -, -⟩ := Ints.get (HIo.out.ext HXI.out) (i := i) (by rw [HOLn.out]; exact hin)
                  obtain ⟨t1, t2⟩ := HOB.out t (List.mem_of_getElem? ht)
                  obtain ⟨u, rfl⟩ : ∃ u : Nat, t = (u : Int) := ⟨t.toNat, by omega⟩
                  have hu : u < m.length := by omega
                  have hod : ord.getD i 0 = (u : Int) := by rw [List.getD_eq_getElem?_getD, ht]; rfl
                  have hq1 : u < d.length := by rw [HDL.out]; exact hu
                  obtain ⟨bd, od, rfl⟩ := HI.out.head hq1
                  obtain ⟨z, hz, hcz, -, -⟩ := Ints.get (HI.out.ext (HAP.out.trans (HXK.out.trans HXI.out))) hq1
                  obtain ⟨z1, z2⟩ := HBD.out z (List.mem_of_getElem? hz)
                  have hzd : d.getD u 0 = z := by rw [List.getD_eq_getElem?_getD, hz]; rfl
                  have m1 := mul64 (k := i) (by omega) ⟨z1, z2⟩
                  obtain ⟨m2, m3⟩ := m1
                  obtain ⟨r1, a3, c3, hrow, hcr, hIr⟩ := Rows.get (HH.out.ext hxI) hin
                  obtain ⟨hrl, hr16, hrb⟩ := HRR.out.row r1 (List.mem_of_getElem? hrow)
                  obtain ⟨r2, a4, c4, hrow2, hcr2, hIr2⟩ := Rows.get (HH.out.ext hxI) hu
                  obtain ⟨hrl2, hr162, hrb2⟩ := HRR.out.row r2 (List.mem_of_getElem? hrow2)
                  obtain ⟨b4, o4, rfl⟩ := hIr.head (i := A) (by omega)
                  obtain ⟨b5', o5, rfl⟩ := hIr2.head (i := B) (by omega)
                  obtain ⟨xa, hxa, hca, -, -⟩ := Ints.get hIr (i := A) (by omega)
                  obtain ⟨xb, hxb, hcb, -, -⟩ := Ints.get hIr2 (i := B) (by omega)
                  obtain ⟨e1, -⟩ := HCOL.out i r1 hrow
                  obtain ⟨-, e2⟩ := HCOL.out u r2 hrow2
                  have HXA : X.getD i 0 = xa := by rw [e1, List.getD_eq_getElem?_getD, hxa]; rfl
                  have HXB : Y.getD u 0 = xb := by rw [e2, List.getD_eq_getElem?_getD, hxb]; rfl
                  have rle := hIr.le
                  have rmx := hIr.mx
                  have rle2 := hIr2.le
                  have rmx2 := hIr2.mx
                  rw [hrl] at hcr rle
                  rw [hrl2] at hcr2 rle2
                  obtain ⟨w1, w2⟩ := HZ12.out
                  rw [hod, HXA, Int.toNat_natCast, HXB] at w1
                  rw [hod, iota_getD hin, Int.toNat_natCast, hzd, show mulP (i : Int) z = (i : Int) * z from rfl] at w2
                  have HW := Lib.hid (And.intro w1 w2)
                  have l1 : (i : Int) < (m.length : Int) := by omega
                  have l4 : (u : Int) < (m.length : Int) := by omega
                  have l5 : (0 : Int) ≤ (u : Int) := by omega
                  clear ht hod hq1 hz hzd hrow hrl hrb hrow2 hrl2 hrb2 hxa hxb e1 e2 HXA HXB hIr hIr2 w1 w2 hxI t1 t2
                  by_cases hxx : xa = xb
                  · subst hxx
                    go_upto_region 54 with fail
                    go_quiet (fail)
                    go_wp2_with fail
                    go_roundw
                    case rel =>
                      obtain ⟨w1, w2⟩ := HW.out
                      exact ⟨i + 1, by omega, by go_num, by rw [w2], by rw [w1]; simp [eqP], HXI.out.drewN _⟩
                    case measure => simp [intOf]; omega
                  · have t5 : (xa == xb) = false := beq_false_of_ne hxx
                    go_upto_region 54 with fail
                    go_quiet (fail)
                    go_wp2_with fail
                    go_roundw
                    case rel =>
                      obtain ⟨w1, w2⟩ := HW.out
                      exact ⟨i + 1, by omega, by go_num, by rw [w2], by rw [w1]; simp [eqP, hxx], HXI.out.drewN _⟩
                    case measure => simp [intOf]; omega
                · have l1 : ¬ (i : Int) < (m.length : Int) := by omega
                  obtain ⟨c1, c2⟩ := HFIN.out (by omega)
                  have HC12 := Lib.hid (And.intro c1 c2)
                  clear c1 c2
                  by_cases hz : (C1 : Int) ≤ z6
                  · have l2 : decide ((C1 : Int) ≤ z6) = true := decide_eq_true hz
                    by_cases hz3 : D1 ≤ z5
                    · have l3 : decide (D1 ≤ z5) = true := decide_eq_true hz3
                      go_wp2_with fail
                      go_roundw
                      case rel =>
                        obtain ⟨c1, c2⟩ := HC12.out
                        exact ⟨k + 1, by omega, by go_num, by go_num, by rw [c1]; simp [hz], by rw [c2]; simp [hz3], HXK.out.trans HXI.out⟩
                      case measure => simp [intOf]; omega
                    · have l3 : decide (D1 ≤ z5) = false := decide_eq_false hz3
                      go_wp2_with fail
                      go_roundw
                      case rel =>
                        obtain ⟨c1, c2⟩ := HC12.out
                        exact ⟨k + 1, by omega, by go_num, by go_num, by rw [c1]; simp [hz], by rw [c2]; simp [hz3], HXK.out.trans HXI.out⟩
                      case measure => simp [intOf]; omega
                  · have l2 : decide ((C1 : Int) ≤ z6) = false := decide_eq_false hz
                    by_cases hz3 : D1 ≤ z5
                    · have l3 : decide (D1 ≤ z5) = true := decide_eq_true hz3
                      go_wp2_with fail
                      go_roundw
                      case rel =>
                        obtain ⟨c1, c2⟩ := HC12.out
                        exact ⟨k + 1, by omega, by go_num, by go_num, by rw [c1]; simp [hz], by rw [c2]; simp [hz3], HXK.out.trans HXI.out⟩
                      case measure => simp [intOf]; omega
                    · have l3 : decide (D1 ≤ z5) = false := decide_eq_false hz3
                      go_wp2_with fail
                      go_roundw
                      case rel =>
                        obtain ⟨c1, c2⟩ := HC12.out
                        exact ⟨k + 1, by omega, by go_num, by go_num, by rw [c1]; simp [hz], by rw [c2]; simp [hz3], HXK.out.trans HXI.out⟩
                      case measure => simp [intOf]; omega
            · have p4 : ¬ (k : Int) < (F : Int) := by omega
              obtain rfl : k = F := by omega
              rw [HT1.out] at HA1
              rw [HT2.out] at HD1
              have hx := HXF.out.trans HXK.out
              have hs0 := hx.size
              clear HT1 HT2 HIL HXK HXF
              have hsz := hx.size
              go_wp2_with fail
              with_reducible refine (HA1.out _ hx).mono ?_
              rintro e x7 ⟨v, rfl, hv, hy⟩
              replace hx := hx.trans hy
              clear hy
              obtain ⟨nu, au, qu, cu, bu, ku, du, rfl, hv', hf', hg'⟩ := hv
              have Vu := Lib.hid hv'
              have Fu := Lib.hid (fun A hA => Nat.le_trans hsz (hf' A hA))
              have Gu := Lib.hid (fun A hA => Nat.le_trans hsz (hg' A hA))
              clear hv' hf' hg' hsz
              clear Fu Gu
              go_upto_region 64 with fail
              have hl := Ext.alloc x7 (.cells #[.bool nu, .slice au qu cu, .bool false, .slice bu ku du] 35)
              have hpu : w.heap.size ≤ x7.heap.size := hx.size
              replace hx := hx.trans hl
              replace Vu := Lib.hid (Vu.out.ext hl)
              have Ku := Lib.hid (Blk.new0 x7 #[.bool nu, .slice au qu cu, .bool false, .slice bu ku du] 35)
              clear hl
              generalize x7.alloc (.cells #[.bool nu, .slice au qu cu, .bool false, .slice bu ku du] 35) = x8 at *
              generalize x7.heap.size = pu at *
              obtain ⟨cu0, cu1, cu2, cu3⟩ := bk4 Ku
              have hsz := hx.size
              go_wp2_with fail
              clear cu0 cu1 cu2 cu3
              with_reducible refine (HD1.out _ hx).mono ?_
              rintro e x9 ⟨v, rfl, hv, hy⟩
              replace hx := hx.trans hy
              replace Ku := kE Ku hy
              replace Vu := Lib.hid (Vu.out.ext hy)
              clear hy
              obtain ⟨nv, av, qv, cv, bv, kv, dv, rfl, hv', hf', hg'⟩ := hv
              have Vv := Lib.hid hv'
              have Fv := Lib.hid (fun A hA => Nat.le_trans hsz (hf' A hA))
              have Gv := Lib.hid (fun A hA => Nat.le_trans hsz (hg' A hA))
              clear hv' hf' hg' hsz
              clear Fv Gv
              obtain ⟨cu0, cu1, cu2, cu3⟩ := bk4 Ku
              go_upto_region 65 with fail
              have hl := Ext.alloc x9 (.cells #[.bool nv, .slice av qv cv, .bool false, .slice bv kv dv] 35)
              have luv : pu < x9.heap.size := Ku.out.lt
              have hpv : w.heap.size ≤ x9.heap.size := hx.size
              clear cu0 cu1 cu2 cu3
              replace hx := hx.trans hl
              replace Ku := kE Ku hl
              replace Vu := Lib.hid (Vu.out.ext hl)
              replace Vv := Lib.hid (Vv.out.ext hl)
              have Kv := Lib.hid (Blk.new0 x9 #[.bool nv, .slice av qv cv, .bool false, .slice bv kv dv] 35)
              clear hl
              generalize x9.alloc (.cells #[.bool nv, .slice av qv cv, .bool false, .slice bv kv dv] 35) = x10 at *
              generalize x9.heap.size = pv at *
              obtain ⟨cu0, cu1, cu2, cu3⟩ := bk4 Ku
              obtain ⟨cv0, cv1, cv2, cv3⟩ := bk4 Kv
              go_wp2_with fail
              clear cu0 cu1 cu2 cu3 cv0 cv1 cv2 cv3
              refine (law42_is ((T1 : Int)) (k : Int) _ Vu.out ?h1 ?h2 ?h3).mono ?_
              case h1 => omega
              case h2 => omega
              case h3 => omega
              rintro e x11 ⟨rfl, hy⟩
              replace hx := hx.trans hy
              replace Ku := kE Ku hy
              replace Kv := kE Kv hy
              replace Vu := Lib.hid (Vu.out.ext hy)
              replace Vv := Lib.hid (Vv.out.ext hy)
              clear hy
              simp only [decide_true]
              obtain ⟨cu0, cu1, cu2, cu3⟩ := bk4 Ku
              obtain ⟨cv0, cv1, cv2, cv3⟩ := bk4 Kv
              go_wp2_with fail
              clear cu0 cu1 cu2 cu3 cv0 cv1 cv2 cv3
              refine (law42_is ((T2 : Int)) (k : Int) _ Vv.out ?h1 ?h2 ?h3).mono ?_
              case h1 => omega
              case h2 => omega
              case h3 => omega
              rintro e x12 ⟨rfl, hy⟩
              replace hx := hx.trans hy
              replace Ku := kE Ku hy
              replace Kv := kE Kv hy
              replace Vu := Lib.hid (Vu.out.ext hy)
              replace Vv := Lib.hid (Vv.out.ext hy)
              clear hy
              simp only [decide_true]
              go_wp2_with fail
              go_ret
              exact ⟨rfl, hx⟩
theorem law_FExact (a a2 : Option Addr) (cap cap2 : Nat) (m : List (List Int)) (mates : List Bool) (j o : Int) (w : World) (h : Rows w a cap m) (h2 : Bools w a2 cap2 mates) (hj : 0 ≤ j ∧ j ≤ 255) (ho : 0 ≤ o ∧ o ≤ 255) : Calls Try.prog 3 #[.slice a m.length cap, .slice a2 mates.length cap2, .int .u8 j, .int .u8 o] w fun e w' => e = .returned (.bool true) ∧ Ext w w' := by
  cases hr : rightW m 6
  · exact law_FExact_no a a2 cap cap2 m mates j o w h h2 hj ho hr
  · by_cases hl : mates.length = m.length
    · exact law_FExact_ok a a2 cap cap2 m mates j o w h h2 hj ho hr hl
    · exact law_FExact_len a a2 cap cap2 m mates j o w h h2 hj ho hr hl
end Go.Proofs.Ytmcbbhlglccmgaa
