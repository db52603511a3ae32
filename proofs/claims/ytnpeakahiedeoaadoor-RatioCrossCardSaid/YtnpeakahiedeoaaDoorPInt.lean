import Derived.Test.YtnpeakahiedeoaaDoorPDivA
namespace Go.Proofs.YtnpeakahiedeoaaDoor
open Go.RowKit Go BigFrame Go.Shelf
set_option maxRecDepth 100000
set_option linter.unusedSimpArgs false

attribute [local go_sem] Oper.semAt_some

/-! nat.Int. -/
def IntP (v : Int) (ok : Bool) (err : Int) (w : World) (e : Ending) (w' : World) : Prop := e = .returned (.tuple #[.int .i64 v, .bool ok, .int .i64 err]) ∧ Ext w w'
def fitI (z : Int) : Bool := decide (-9223372036854775808 ≤ z) && decide (z ≤ 9223372036854775807)
def fitV (z : Int) : Int := if fitI z then z else 0
theorem fit_yes {z : Int} (h1 : -9223372036854775808 ≤ z) (h2 : z ≤ 9223372036854775807) : fitI z = true ∧ fitV z = z := by
  have : fitI z = true := by simp [fitI, h1, h2]
  exact ⟨this, by simp [fitV, this]⟩
theorem fit_no {z : Int} (h : z < -9223372036854775808 ∨ 9223372036854775807 < z) : fitI z = false ∧ fitV z = 0 := by
  have : fitI z = false := by
    simp only [fitI, Bool.and_eq_false_iff, decide_eq_false_iff_not]
    omega
  exact ⟨this, by simp [fitV, this]⟩

theorem early_big {neg : Bool} {l : List Int} (h : Norm l) (he : 3 < l.length ∨ (l.length = 3 ∧ 8 < l.getD 2 0)) : fitI (sgn neg (dval l)) = false ∧ fitV (sgn neg (dval l)) = 0 := by
  have : 9223372036854775808 < dval l := by
    rcases he with he | ⟨he, h8⟩
    · have h1 := dval_ge h (fun e => by rw [e] at he; simp at he)
      have h2 : (1073741824 : Int) ^ 3 ≤ 1073741824 ^ (l.length - 1) := pow_le30 (by omega)
      have h3 : (1073741824 : Int) ^ 3 = 1237940039285380274899124224 := by decide
      omega
    · match l, he with
      | [x, y, t], _ =>
        have h1 := h.digs x (by simp)
        have h2 := h.digs y (by simp)
        simp only [List.getD_cons_succ, List.getD_cons_zero] at h8
        simp only [dval]
        omega
  apply fit_no
  unfold sgn
  split <;> omega

set_option maxHeartbeats 1000000 in
theorem nat_Int_early1 (neg : Bool) (a : Option Addr) (ca : Nat) (l : List Int) (w : World) (h : Ints w a ca l) (hb : chkB neg l = true) (he : 3 < l.length) :
    Calls Tryd.prog 10 #[.agg #[.bool neg, .slice a l.length ca]] w (IntP 0 false 0 w) := by
  have B1 := Blk.new0 w #[.bool neg, .slice a l.length ca] 26
  have hx : Ext w (w.alloc (.cells #[.bool neg, .slice a l.length ca] 26)) := (by repeat (first | with_reducible exact Ext.refl _ | with_reducible assumption | with_reducible refine Ext.drewN ?_ _ | with_reducible refine Ext.drew ?_ | with_reducible refine Ext.alloc' ?_ _ | with_reducible refine Ext.set ?_ (by dsimp only; omega) _))
  have HC := Lib.hid (nat_Check neg a ca l _ (h.ext hx))
  rw [hb] at HC
  have HB := Lib.hid B1
  have c0 := B1.cell (i := 0) (v := .bool neg) rfl
  have c1 := B1.cell (i := 1) (v := .slice a l.length ca) rfl
  clear h hb B1
  have t1 : decide (3 < l.length) = true := by simpa using he
  have t2 : decide ((3 : Int) < (l.length : Int)) = true := by simp only [decide_eq_true_eq]; omega
  go_enter Tryd.func10, Tryd.ntmps10
  go_upto_region 1 with fail
  generalize w.alloc (.cells #[.bool neg, .slice a l.length ca] 26) = w1 at *
  go_wp2_with fail
  refine HC.out.mono ?_
  rintro e w2 ⟨rfl, hy⟩
  have d1 := (HB.out.ext hy).cell (i := 1) (v := .slice a l.length ca) rfl
  clear c0 c1
  go_wp2_with fail
  refine bodyPost_ret (v := .tuple #[.int .i64 0, .bool false, .int .i64 0]) (by simp [results, Tryd.results10, go_sem]) rfl ?_
  exact ⟨rfl, hx.trans hy⟩
set_option maxHeartbeats 1000000 in
theorem nat_Int_early2 (neg : Bool) (a : Option Addr) (ca : Nat) (l : List Int) (w : World) (h : Ints w a ca l) (hb : chkB neg l = true) (he : l.length = 3) (h8 : 8 < l.getD 2 0) :
    Calls Tryd.prog 10 #[.agg #[.bool neg, .slice a 3 ca]] w (IntP 0 false 0 w) := by
  have B1 := Blk.new0 w #[.bool neg, .slice a 3 ca] 26
  have hx : Ext w (w.alloc (.cells #[.bool neg, .slice a 3 ca] 26)) := (by repeat (first | with_reducible exact Ext.refl _ | with_reducible assumption | with_reducible refine Ext.drewN ?_ _ | with_reducible refine Ext.drew ?_ | with_reducible refine Ext.alloc' ?_ _ | with_reducible refine Ext.set ?_ (by dsimp only; omega) _))
  have HC := nat_Check neg a ca l _ (h.ext hx)
  rw [hb, he] at HC
  have HC := Lib.hid HC
  have HI := Lib.hid (h.ext hx)
  have HB := Lib.hid B1
  have HE := Lib.hid he
  obtain ⟨t, ht⟩ : ∃ t, l.getD 2 0 = t := ⟨_, rfl⟩
  have HT := Lib.hid ht
  rw [ht] at h8
  have t3 : decide (8 < t) = true := by simpa using h8
  obtain ⟨bb, oo, rfl⟩ := h.head (i := 0) (by omega)
  have c0 := B1.cell (i := 0) (v := .bool neg) rfl
  have c1 := B1.cell (i := 1) (v := .slice (some ⟨bb, oo, none⟩) 3 ca) rfl
  clear h hb B1 he ht
  go_enter Tryd.func10, Tryd.ntmps10
  go_upto_region 1 with fail
  generalize w.alloc (.cells #[.bool neg, .slice (some ⟨bb, oo, none⟩) 3 ca] 26) = w1 at *
  go_wp2_with fail
  refine HC.out.mono ?_
  rintro e w2 ⟨rfl, hy⟩
  have d1 := (HB.out.ext hy).cell (i := 1) (v := .slice (some ⟨bb, oo, none⟩) 3 ca) rfl
  have d2 : w2.cell? ⟨bb, oo + 2, none⟩ = some (.int .i64 t) := by
    rw [((HI.out.ext hy).cell (i := 2) (by rw [HE.out]; omega)).1, ← HT.out]
    simp [List.getD, List.getElem?_eq_getElem (show 2 < l.length by rw [HE.out]; omega)]
  clear c0 c1
  go_wp2_with fail
  refine bodyPost_ret (v := .tuple #[.int .i64 0, .bool false, .int .i64 0]) (by simp [results, Tryd.results10, go_sem]) rfl ?_
  exact ⟨rfl, hx.trans hy⟩

theorem u64_or30 (r x : Int) (h1 : 0 ≤ r) (h2 : r < 17179869184) (h3 : 0 ≤ x) (h4 : x < 1073741824) : bits .or .u64 (r * 1073741824) x = r * 1073741824 + x :=
  bits_join .u64 64 (by decide) (fun n h₀ h₁ => by rw [IntKind.wrap_u64]; omega) 30 _ _ (by omega) (by omega) (by omega) h3 (by omega) (by omega)
theorem top_bd {l : List Int} {n i : Nat} (h : Digs l) (h1 : l.length = n) (hn : n < 3 ∨ (n = 3 ∧ l.getD 2 0 ≤ 8)) (hi : i < n) : 0 ≤ dval (l.drop (i + 1)) ∧ dval (l.drop (i + 1)) < 9663676416 := by
  refine ⟨dval_nonneg (h.drop _), ?_⟩
  match l, h1 with
  | [], h1 => simp only [List.length_nil] at h1; omega
  | [x], _ => simp [dval]
  | [x, y], _ =>
    have h2 := h y (by simp)
    match i with
    | 0 => simp [dval]; omega
    | i + 1 => simp [dval]
  | [x, y, t], h1 =>
    have h2 := h y (by simp)
    have h3 := h t (by simp)
    simp only [List.length_cons, List.length_nil] at h1
    simp only [List.getD_cons_succ, List.getD_cons_zero] at hn
    match i with
    | 0 => simp [dval]; omega
    | 1 => simp [dval]; omega
    | i + 2 => simp [dval]
  | x :: y :: t :: u :: l, h1 => simp only [List.length_cons] at h1; omega

set_option maxHeartbeats 4000000 in
theorem nat_Int_late3 (neg : Bool) (a : Option Addr) (ca : Nat) (l : List Int) (w : World) (h : Ints w a ca l) (hb : chkB neg l = true) (h1 : l.length = 3) (h8 : l.getD 2 0 ≤ 8) :
    Calls Tryd.prog 10 #[.agg #[.bool neg, .slice a 3 ca]] w (IntP (fitV (sgn neg (dval l))) (fitI (sgn neg (dval l))) 0 w) := by
  have hnorm := (chk_iff.1 hb).2.2
  have hTB := Lib.hid (fun i (hi : i < 3) => top_bd (n := 3) hnorm.digs h1 (.inr ⟨rfl, h8⟩) hi)
  have HN1 := Lib.hid hnorm.digs
  have HNM := Lib.hid hnorm
  have hle1 := h.le
  have hmx1 := h.mx
  rw [h1] at hle1
  have hx : Ext w (w.alloc (.cells #[.bool neg, .slice a 3 ca] 26)) := (by repeat (first | with_reducible exact Ext.refl _ | with_reducible assumption | with_reducible refine Ext.drewN ?_ _ | with_reducible refine Ext.drew ?_ | with_reducible refine Ext.alloc' ?_ _ | with_reducible refine Ext.set ?_ (by dsimp only; omega) _))
  have HC := nat_Check neg a ca l _ (h.ext hx)
  rw [hb, h1] at HC
  have HC := Lib.hid HC
  have X1 := Lib.hid (Blk.new0 w #[.bool neg, .slice a 3 ca] 26)
  have c0 := X1.out.cell (i := 0) (v := .bool neg) rfl
  have c1 := X1.out.cell (i := 1) (v := .slice a 3 ca) rfl
  have HL := Lib.hid h1
  have HI := Lib.hid h
  have hs1 : (w.alloc (.cells #[.bool neg, .slice a 3 ca] 26)).heap.size = w.heap.size + 1 := by simp
  have H8 := Lib.hid h8
  clear h8
  clear h1 h hb hnorm
  refine (callsIn_wide (n := 5)).1 ?_
  refine callsIn_of_wp_marks Tryd.func10 rfl trivial ?_ rfl
  simp only [Tryd.ntmps10, List.size_toArray, List.length_cons, List.length_nil, Nat.reduceAdd, Nat.reduceSub, Array.replicate_succ, Array.replicate_zero, List.push_toArray, List.append_toArray, List.nil_append, List.cons_append]
  refine wpIn_wide.2 ?_
  go_upto_region 1 with fail
  generalize w.alloc (.cells #[.bool neg, .slice a 3 ca] 26) = w1 at *
  go_wp2_with fail
  refine HC.out.mono ?_
  rintro e w2 ⟨rfl, hy⟩
  have HY := Lib.hid hy
  have X2 := Lib.hid (X1.out.ext hy)
  have d0 := X2.out.cell (i := 0) (v := .bool neg) rfl
  have hs2 := hy.size
  have hx2 := Lib.hid (hx.trans hy)
  have hA : Hid (∀ A, a = some A → 0 < l.length → A.block < w.heap.size) := Lib.hid (fun A hA hn => by
    obtain ⟨b0, o0, e0⟩ := HI.out.head hn
    have hI0 := HI.out
    rw [e0] at hA hI0
    cases hA
    exact lt_of_cell (hI0.cell (i := 0) hn).1)
  have d1 := X2.out.cell (i := 1) (v := .slice a 3 ca) rfl
  obtain ⟨bb, oo, hab⟩ := HI.out.head (i := 2) (by rw [HL.out]; omega)
  obtain rfl := hab
  obtain ⟨t, ht⟩ : ∃ t, l.getD 2 0 = t := ⟨_, rfl⟩
  have t8 : decide (8 < t) = false := by have := H8.out; simp only [decide_eq_false_iff_not]; omega
  have e2 : w2.cell? ⟨bb, oo + 2, none⟩ = some (.int .i64 t) := by
    rw [((HI.out.ext hx2.out).cell (i := 2) (by rw [HL.out]; omega)).1, ← ht]
    simp [List.getD, List.getElem?_eq_getElem (show 2 < l.length by rw [HL.out]; omega)]
  have HT := Lib.hid ht
  clear ht
  clear c0 c1 HC hy hx
  go_upto_region 7 with fail
  have Y1 := X2.out.alloc (.cells #[.int .u64 0] 68)
  have Y2 := Blk.new0 w2 #[.int .u64 0] 68
  have hx3 := hx2.out.alloc' (.cells #[.int .u64 0] 68)
  have hs3 : (w2.alloc (.cells #[.int .u64 0] 68)).heap.size = w2.heap.size + 1 := by simp
  clear d0 d1
  generalize w2.alloc (.cells #[.int .u64 0] 68) = w3 at *
  have d1 := Y1.cell (i := 1) (v := .slice (some ⟨bb, oo, none⟩) 3 ca) rfl
  go_wp2_with fail
  refine (nat_down _ _ _ _).mono ?_
  rintro e6 w6 ⟨rfl, rfl⟩
  have Z1 := Y1.alloc (.cells #[.slice (some ⟨bb, oo, none⟩) 3 ca] 81)
  have Z2 := Y2.alloc (.cells #[.slice (some ⟨bb, oo, none⟩) 3 ca] 81)
  have Z3 := Blk.new0 w3 #[.slice (some ⟨bb, oo, none⟩) 3 ca] 81
  have hx4 := hx3.alloc' (.cells #[.slice (some ⟨bb, oo, none⟩) 3 ca] 81)
  have hs4 : (w3.alloc (.cells #[.slice (some ⟨bb, oo, none⟩) 3 ca] 81)).heap.size = w2.heap.size + 2 := by simp [hs3]
  rw [hs3] at Z3
  have hi4 := HI.out.ext hx4
  have hseq := back_seq 4 (w2.heap.size + 1) w.heap.size (some ⟨bb, oo, none⟩) ca l _ (by rw [HL.out]; exact Z3) hi4 hA.out
  rw [HL.out] at hseq
  clear d1 Y1 Y2
  go_wp2_with fail
  generalize w3.alloc (.cells #[.slice (some ⟨bb, oo, none⟩) 3 ca] 81) = w4 at *
  generalize hbs : w2.heap.size = bs at *
  refine (wpIn_wide (n := 5)).1 ?_
  refine wpIn_rangeFunc_ownZ (by omega) (gf := 68) (lb := #[.pointer (some ⟨bs + 1, 0, none⟩)]) (by simp [go_sem, hs3]) (enters_of Tryd.func68 (by kernel_rfl) rfl)
    hseq (fun h k => KpB.trans h k) (fun W l o o' h1 h2 h3 h4 => KpB.b (w := w4) (by omega) W l o o' h1 h2 h3 h4) (fun _ => rfl)
    (fun pre W => Blk W w.heap.size #[.bool neg, .slice (some ⟨bb, oo, none⟩) 3 ca] 26 ∧ Blk W bs #[.int .u64 (dval (l.drop (3 - pre.length)))] 68 ∧ Below w.heap.size w W)
    (fun _ _ _ => False)
    (OwnFrom.and (Own.from (blk_own _ _ _) _) (OwnFrom.and (Own.from (blk_own _ _ _) _) (ownFrom_below (Nat.le_refl _) (by omega))))
    (fun c => ownFrom_pure _ _)
    ⟨Z1, by rw [List.drop_eq_nil_of_le (by rw [HL.out]; exact Nat.le_refl _)]; exact Z2, hx4⟩ ?a1 ?assign ?body ?done ?stop
  case assign =>
    intro l x W K hK
    gi_wp2
    exact hK
  case body =>
    rintro lp pre i W ⟨hb1, hb2, hB⟩ hok
    obtain ⟨e1, e2, e3⟩ := hok.snoc
    have hin : i < 3 := by omega
    have hdi : 3 - pre.length = i + 1 := by omega
    rw [hdi] at hb2
    obtain ⟨x1, x2⟩ := HN1.out.getD i
    obtain ⟨r1, r2⟩ := hTB.out i hin
    obtain ⟨x, hx⟩ : ∃ x, l.getD i 0 = x := ⟨_, rfl⟩
    have hp1 : 3 - (pre ++ [i]).length = i := by rw [List.length_append, List.length_singleton]; omega
    have hst : dval (l.drop i) = dval (l.drop (i + 1)) * 1073741824 + x := by
      rw [drop_get (by rw [HL.out]; exact hin), dval, hx]; omega
    have HST := Lib.hid hst
    have HP := Lib.hid hp1
    have hx' : l[i]?.getD 0 = x := by rw [← List.getD_eq_getElem?_getD]; exact hx
    rw [hx']
    rw [hx] at x1 x2
    clear hp1 hx hx' e1 e3 hok hdi hst
    obtain ⟨r, hr⟩ : ∃ r, dval (l.drop (i + 1)) = r := ⟨_, rfl⟩
    rw [hr] at r1 r2 hb2
    have HR := Lib.hid hr
    have hor := u64_or30 r x r1 (by omega) x1 x2
    have f2 := hb2.free 0
    have c2 := hb2.cell (i := 0) rfl
    have H1 := Lib.hid hb1
    have H2 := Lib.hid hb2
    have HB := Lib.hid hB
    clear hb1 hb2 hB hr
    gi_wp2_with fail
    refine ⟨KeepsOthers.setCell _ _ _, ⟨(Below.refl _ W).setCell (p := ⟨bs, 0, none⟩) (by dsimp only; omega) _, fun _ _ h => h.other (by dsimp only; omega) _⟩, H1.out.other (p := ⟨bs, 0, none⟩) (by dsimp only; omega) _, ?_, HB.out.setCell (p := ⟨bs, 0, none⟩) (by dsimp only; omega) _⟩
    rw [HP.out, HST.out, HR.out]
    exact H2.out.set 0 _
  case done =>
    rintro D ys W hD rfl ⟨hb1, hb2, hB⟩ hK
    rw [downs_len, Nat.sub_self] at hb2
    rw [List.drop_zero] at hb2
    obtain ⟨D0, hD0⟩ : ∃ d, dval l = d := ⟨_, rfl⟩
    obtain ⟨x, hx⟩ : ∃ x, l.getD 0 0 = x := ⟨_, rfl⟩
    obtain ⟨y, hy⟩ : ∃ y, l.getD 1 0 = y := ⟨_, rfl⟩
    have hsum : D0 = x + 1073741824 * (y + 1073741824 * t) := by
      rw [← hD0, ← hx, ← hy, ← HT.out]
      have h3 := HL.out
      match l, h3 with
      | [p, q, s], _ => simp [dval]
    have hxb := HN1.out.getD 0
    have hyb := HN1.out.getD 1
    have htb := HN1.out.getD 2
    have ht8 := H8.out
    have htn : t ≠ 0 := by
      have h3 := HL.out
      have hN := HNM.out
      rw [← HT.out]
      match l, h3, hN with
      | [p, q, s], _, ⟨_, _, _, _, _, _, _, _, hs, _⟩ => simpa using hs rfl
    rw [hx] at hxb
    rw [hy] at hyb
    rw [HT.out] at htb ht8
    rw [hD0] at hb2
    have e0 : W.cell? ⟨bb, oo, none⟩ = some (.int .i64 x) := by
      have h0 := (HI.out.cell (i := 0) (by rw [HL.out]; omega)).1
      rw [Nat.add_zero] at h0
      rw [hB.cell (p := ⟨bb, oo, none⟩) (lt_of_cell h0), h0, ← hx]
      simp [List.getD, List.getElem?_eq_getElem (show 0 < l.length by rw [HL.out]; omega)]
    have e1 : W.cell? ⟨bb, oo + 1, none⟩ = some (.int .i64 y) := by
      have h0 := (HI.out.cell (i := 1) (by rw [HL.out]; omega)).1
      rw [hB.cell (p := ⟨bb, oo + 1, none⟩) (lt_of_cell h0), h0, ← hy]
      simp [List.getD, List.getElem?_eq_getElem (show 1 < l.length by rw [HL.out]; omega)]
    have e2 : W.cell? ⟨bb, oo + 2, none⟩ = some (.int .i64 t) := by
      have h0 := (HI.out.cell (i := 2) (by rw [HL.out]; omega)).1
      rw [hB.cell (p := ⟨bb, oo + 2, none⟩) (lt_of_cell h0), h0, ← HT.out]
      simp [List.getD, List.getElem?_eq_getElem (show 2 < l.length by rw [HL.out]; omega)]
    have c0 := hb1.cell (i := 0) (v := .bool neg) rfl
    have c1 := hb1.cell (i := 1) (v := .slice (some ⟨bb, oo, none⟩) 3 ca) rfl
    have c2 := hb2.cell (i := 0) (v := .int .u64 D0) rfl
    have HK := Lib.hid hK
    have HB := Lib.hid hB
    have HSUM := Lib.hid hsum
    clear hK hb1 hb2 hB hi4 Z1 Z2 Z3 hx4 hx3 hseq hx hy hsum
    have HD := Lib.hid hD0
    clear hD0
    by_cases h8 : t = 8
    · have t9 : (t == 8) = true := by simpa using h8
      have t9a : (t != 8) = false := by simpa using h8
      have t9b : decide (t = 8) = true := by simpa using h8
      by_cases hx0 : x = 0
      · have tx : (x == 0) = true := by simpa using hx0
        have txa : (x != 0) = false := by simpa using hx0
        have txb : decide (x = 0) = true := by simpa using hx0
        by_cases hy0 : y = 0
        · have ty : (y == 0) = true := by simpa using hy0
          have tya : (y != 0) = false := by simpa using hy0
          have tyb : decide (y = 0) = true := by simpa using hy0
          have hDv : D0 = 9223372036854775808 := by have := HSUM.out; omega
          have HDv := Lib.hid hDv
          have t5 : decide (9223372036854775807 < D0) = true := by simp only [decide_eq_true_eq]; omega
          have t6 : decide (9223372036854775808 < D0) = false := by simp only [decide_eq_false_iff_not]; omega
          have hw : wrap64 (IntKind.u64.wrap (-D0)) = -D0 := by unfold wrap64; rw [IntKind.wrap_u64]; omega
          clear hDv h8 hx0 hy0
          cases neg
          · have := HDv.out
            clear this; have HF := Lib.hid (show fitI (sgn false (dval l)) = false ∧ fitV (sgn false (dval l)) = 0 from by rw [HD.out]; exact fit_no (by simp [sgn]; have := HDv.out; omega))
            go_wp2_with fail
            refine ⟨by simp, .inl ⟨_, _, rfl, run_takeDeferred HK.out, ?_⟩⟩
            refine ⟨.tuple #[.int .i64 0, .bool false, .int .i64 0], by simp [results, Tryd.f10, go_sem], by rw [HF.out.1, HF.out.2], ?_⟩
            exact Below.trans HB.out (belowK_b (n₀ := w.heap.size) (w := w) (Nat.le_refl _) _ D _ _ (by have := HDv.out; omega) HK.out rfl rfl)
          · skip
            have HF := Lib.hid (show fitI (sgn true (dval l)) = true ∧ fitV (sgn true (dval l)) = (-D0) from by rw [HD.out]; exact fit_yes (by simp [sgn]; have := HDv.out; omega) (by simp [sgn]; have := HDv.out; omega))
            go_wp2_with fail
            refine ⟨by simp, .inl ⟨_, _, rfl, run_takeDeferred HK.out, ?_⟩⟩
            refine ⟨.tuple #[.int .i64 (-D0), .bool true, .int .i64 0], by simp [results, Tryd.f10, go_sem, hw], by rw [HF.out.1, HF.out.2], ?_⟩
            exact Below.trans HB.out (belowK_b (n₀ := w.heap.size) (w := w) (Nat.le_refl _) _ D _ _ (by have := HDv.out; omega) HK.out rfl rfl)
        · have ty : (y == 0) = false := by simpa using hy0
          have tya : (y != 0) = true := by simpa using hy0
          have tyb : decide (y = 0) = false := by simpa using hy0
          have hDv : 9223372036854775808 < D0 := by have := HSUM.out; omega
          have HDv := Lib.hid hDv
          clear hDv h8 hx0 hy0
          cases neg
          · skip
            have HF := Lib.hid (show fitI (sgn false (dval l)) = false ∧ fitV (sgn false (dval l)) = 0 from by rw [HD.out]; exact fit_no (by simp [sgn]; have := HDv.out; omega))
            go_wp2_with fail
            refine ⟨by simp, .inl ⟨_, _, rfl, run_takeDeferred HK.out, ?_⟩⟩
            refine ⟨.tuple #[.int .i64 0, .bool false, .int .i64 0], by simp [results, Tryd.f10, go_sem], by rw [HF.out.1, HF.out.2], ?_⟩
            exact Below.trans HB.out (belowK_b (n₀ := w.heap.size) (w := w) (Nat.le_refl _) _ D _ _ (by have := HDv.out; omega) HK.out rfl rfl)
          · skip
            have HF := Lib.hid (show fitI (sgn true (dval l)) = false ∧ fitV (sgn true (dval l)) = 0 from by rw [HD.out]; exact fit_no (by simp [sgn]; have := HDv.out; omega))
            go_wp2_with fail
            refine ⟨by simp, .inl ⟨_, _, rfl, run_takeDeferred HK.out, ?_⟩⟩
            refine ⟨.tuple #[.int .i64 0, .bool false, .int .i64 0], by simp [results, Tryd.f10, go_sem], by rw [HF.out.1, HF.out.2], ?_⟩
            exact Below.trans HB.out (belowK_b (n₀ := w.heap.size) (w := w) (Nat.le_refl _) _ D _ _ (by have := HDv.out; omega) HK.out rfl rfl)
      · have tx : (x == 0) = false := by simpa using hx0
        have txa : (x != 0) = true := by simpa using hx0
        have txb : decide (x = 0) = false := by simpa using hx0
        have hDv : 9223372036854775808 < D0 := by have := HSUM.out; omega
        have HDv := Lib.hid hDv
        clear hDv h8 hx0
        cases neg
        · skip
          have HF := Lib.hid (show fitI (sgn false (dval l)) = false ∧ fitV (sgn false (dval l)) = 0 from by rw [HD.out]; exact fit_no (by simp [sgn]; have := HDv.out; omega))
          go_wp2_with fail
          refine ⟨by simp, .inl ⟨_, _, rfl, run_takeDeferred HK.out, ?_⟩⟩
          refine ⟨.tuple #[.int .i64 0, .bool false, .int .i64 0], by simp [results, Tryd.f10, go_sem], by rw [HF.out.1, HF.out.2], ?_⟩
          exact Below.trans HB.out (belowK_b (n₀ := w.heap.size) (w := w) (Nat.le_refl _) _ D _ _ (by have := HDv.out; omega) HK.out rfl rfl)
        · skip
          have HF := Lib.hid (show fitI (sgn true (dval l)) = false ∧ fitV (sgn true (dval l)) = 0 from by rw [HD.out]; exact fit_no (by simp [sgn]; have := HDv.out; omega))
          go_wp2_with fail
          refine ⟨by simp, .inl ⟨_, _, rfl, run_takeDeferred HK.out, ?_⟩⟩
          refine ⟨.tuple #[.int .i64 0, .bool false, .int .i64 0], by simp [results, Tryd.f10, go_sem], by rw [HF.out.1, HF.out.2], ?_⟩
          exact Below.trans HB.out (belowK_b (n₀ := w.heap.size) (w := w) (Nat.le_refl _) _ D _ _ (by have := HDv.out; omega) HK.out rfl rfl)
    · have t9 : (t == 8) = false := by simpa using h8
      have t9a : (t != 8) = true := by simpa using h8
      have t9b : decide (t = 8) = false := by simpa using h8
      have hDv : 0 ≤ D0 ∧ D0 ≤ 9223372036854775807 := by have := HSUM.out; omega
      have HDv := Lib.hid hDv
      have t5 : decide (9223372036854775807 < D0) = false := by simp only [decide_eq_false_iff_not]; omega
      have t6 : decide (9223372036854775808 < D0) = false := by simp only [decide_eq_false_iff_not]; omega
      have hw : wrap64 (IntKind.u64.wrap (-D0)) = -D0 := by unfold wrap64; rw [IntKind.wrap_u64]; omega
      cases neg
      · skip
        have HF := Lib.hid (show fitI (sgn false (dval l)) = true ∧ fitV (sgn false (dval l)) = D0 from by rw [HD.out]; exact fit_yes (by simp [sgn]; have := HDv.out; omega) (by simp [sgn]; have := HDv.out; omega))
        go_wp2_with fail
        refine ⟨by simp, .inl ⟨_, _, rfl, run_takeDeferred HK.out, ?_⟩⟩
        refine ⟨.tuple #[.int .i64 D0, .bool true, .int .i64 0], by simp [results, Tryd.f10, go_sem], by rw [HF.out.1, HF.out.2], ?_⟩
        exact Below.trans HB.out (belowK_b (n₀ := w.heap.size) (w := w) (Nat.le_refl _) _ D _ _ (by have := HDv.out; omega) HK.out rfl rfl)
      · skip
        have HF := Lib.hid (show fitI (sgn true (dval l)) = true ∧ fitV (sgn true (dval l)) = (-D0) from by rw [HD.out]; exact fit_yes (by simp [sgn]; have := HDv.out; omega) (by simp [sgn]; have := HDv.out; omega))
        go_wp2_with fail
        refine ⟨by simp, .inl ⟨_, _, rfl, run_takeDeferred HK.out, ?_⟩⟩
        refine ⟨.tuple #[.int .i64 (-D0), .bool true, .int .i64 0], by simp [results, Tryd.f10, go_sem, hw], by rw [HF.out.1, HF.out.2], ?_⟩
        exact Below.trans HB.out (belowK_b (n₀ := w.heap.size) (w := w) (Nat.le_refl _) _ D _ _ (by have := HDv.out; omega) HK.out rfl rfl)
  case stop => exact fun _ _ _ _ _ _ h => h.elim
set_option maxHeartbeats 4000000 in
theorem nat_Int_laten (n : Nat) (neg : Bool) (a : Option Addr) (ca : Nat) (l : List Int) (w : World) (h : Ints w a ca l) (hb : chkB neg l = true) (h1 : l.length = n) (hn3 : n < 3) :
    Calls Tryd.prog 10 #[.agg #[.bool neg, .slice a n ca]] w (IntP (fitV (sgn neg (dval l))) (fitI (sgn neg (dval l))) 0 w) := by
  have hnorm := (chk_iff.1 hb).2.2
  have hTB := Lib.hid (fun i (hi : i < n) => top_bd (n := n) hnorm.digs h1 (.inl hn3) hi)
  have HN1 := Lib.hid hnorm.digs
  have HNM := Lib.hid hnorm
  have hle1 := h.le
  have hmx1 := h.mx
  rw [h1] at hle1
  have hx : Ext w (w.alloc (.cells #[.bool neg, .slice a n ca] 26)) := (by repeat (first | with_reducible exact Ext.refl _ | with_reducible assumption | with_reducible refine Ext.drewN ?_ _ | with_reducible refine Ext.drew ?_ | with_reducible refine Ext.alloc' ?_ _ | with_reducible refine Ext.set ?_ (by dsimp only; omega) _))
  have HC := nat_Check neg a ca l _ (h.ext hx)
  rw [hb, h1] at HC
  have HC := Lib.hid HC
  have X1 := Lib.hid (Blk.new0 w #[.bool neg, .slice a n ca] 26)
  have c0 := X1.out.cell (i := 0) (v := .bool neg) rfl
  have c1 := X1.out.cell (i := 1) (v := .slice a n ca) rfl
  have HL := Lib.hid h1
  have HI := Lib.hid h
  have hs1 : (w.alloc (.cells #[.bool neg, .slice a n ca] 26)).heap.size = w.heap.size + 1 := by simp
  have t3 : decide (3 < n) = false := by simp only [decide_eq_false_iff_not]; omega
  have t3' : decide ((3 : Int) < (n : Int)) = false := by simp only [decide_eq_false_iff_not]; omega
  have tn : decide (n = 3) = false := by simp only [decide_eq_false_iff_not]; omega
  have tn' : decide ((n : Int) = 3) = false := by simp only [decide_eq_false_iff_not]; omega
  have tn2 : (n == 3) = false := by simp only [beq_eq_false_iff_ne]; omega
  have tn3 : ((n : Int) == 3) = false := by simp only [beq_eq_false_iff_ne]; omega
  clear h1 h hb hnorm
  refine (callsIn_wide (n := 5)).1 ?_
  refine callsIn_of_wp_marks Tryd.func10 rfl trivial ?_ rfl
  simp only [Tryd.ntmps10, List.size_toArray, List.length_cons, List.length_nil, Nat.reduceAdd, Nat.reduceSub, Array.replicate_succ, Array.replicate_zero, List.push_toArray, List.append_toArray, List.nil_append, List.cons_append]
  refine wpIn_wide.2 ?_
  go_upto_region 1 with fail
  generalize w.alloc (.cells #[.bool neg, .slice a n ca] 26) = w1 at *
  go_wp2_with fail
  refine HC.out.mono ?_
  rintro e w2 ⟨rfl, hy⟩
  have HY := Lib.hid hy
  have X2 := Lib.hid (X1.out.ext hy)
  have d0 := X2.out.cell (i := 0) (v := .bool neg) rfl
  have hs2 := hy.size
  have hx2 := Lib.hid (hx.trans hy)
  have hA : Hid (∀ A, a = some A → 0 < l.length → A.block < w.heap.size) := Lib.hid (fun A hA hn => by
    obtain ⟨b0, o0, e0⟩ := HI.out.head hn
    have hI0 := HI.out
    rw [e0] at hA hI0
    cases hA
    exact lt_of_cell (hI0.cell (i := 0) hn).1)
  have d1 := X2.out.cell (i := 1) (v := .slice a n ca) rfl

  clear c0 c1 HC hy hx
  go_upto_region 7 with fail
  have Y1 := X2.out.alloc (.cells #[.int .u64 0] 68)
  have Y2 := Blk.new0 w2 #[.int .u64 0] 68
  have hx3 := hx2.out.alloc' (.cells #[.int .u64 0] 68)
  have hs3 : (w2.alloc (.cells #[.int .u64 0] 68)).heap.size = w2.heap.size + 1 := by simp
  clear d0 d1
  generalize w2.alloc (.cells #[.int .u64 0] 68) = w3 at *
  have d1 := Y1.cell (i := 1) (v := .slice a n ca) rfl
  go_wp2_with fail
  refine (nat_down _ _ _ _).mono ?_
  rintro e6 w6 ⟨rfl, rfl⟩
  have Z1 := Y1.alloc (.cells #[.slice a n ca] 81)
  have Z2 := Y2.alloc (.cells #[.slice a n ca] 81)
  have Z3 := Blk.new0 w3 #[.slice a n ca] 81
  have hx4 := hx3.alloc' (.cells #[.slice a n ca] 81)
  have hs4 : (w3.alloc (.cells #[.slice a n ca] 81)).heap.size = w2.heap.size + 2 := by simp [hs3]
  rw [hs3] at Z3
  have hi4 := HI.out.ext hx4
  have hseq := back_seq 4 (w2.heap.size + 1) w.heap.size a ca l _ (by rw [HL.out]; exact Z3) hi4 hA.out
  rw [HL.out] at hseq
  clear d1 Y1 Y2
  go_wp2_with fail
  generalize w3.alloc (.cells #[.slice a n ca] 81) = w4 at *
  generalize hbs : w2.heap.size = bs at *
  refine (wpIn_wide (n := 5)).1 ?_
  refine wpIn_rangeFunc_ownZ (by omega) (gf := 68) (lb := #[.pointer (some ⟨bs + 1, 0, none⟩)]) (by simp [go_sem, hs3]) (enters_of Tryd.func68 (by kernel_rfl) rfl)
    hseq (fun h k => KpB.trans h k) (fun W l o o' h1 h2 h3 h4 => KpB.b (w := w4) (by omega) W l o o' h1 h2 h3 h4) (fun _ => rfl)
    (fun pre W => Blk W w.heap.size #[.bool neg, .slice a n ca] 26 ∧ Blk W bs #[.int .u64 (dval (l.drop (n - pre.length)))] 68 ∧ Below w.heap.size w W)
    (fun _ _ _ => False)
    (OwnFrom.and (Own.from (blk_own _ _ _) _) (OwnFrom.and (Own.from (blk_own _ _ _) _) (ownFrom_below (Nat.le_refl _) (by omega))))
    (fun c => ownFrom_pure _ _)
    ⟨Z1, by rw [List.drop_eq_nil_of_le (by rw [HL.out]; exact Nat.le_refl _)]; exact Z2, hx4⟩ ?a1 ?assign ?body ?done ?stop
  case assign =>
    intro l x W K hK
    gi_wp2
    exact hK
  case body =>
    rintro lp pre i W ⟨hb1, hb2, hB⟩ hok
    obtain ⟨e1, e2, e3⟩ := hok.snoc
    have hin : i < n := by omega
    have hdi : n - pre.length = i + 1 := by omega
    rw [hdi] at hb2
    obtain ⟨x1, x2⟩ := HN1.out.getD i
    obtain ⟨r1, r2⟩ := hTB.out i hin
    obtain ⟨x, hx⟩ : ∃ x, l.getD i 0 = x := ⟨_, rfl⟩
    have hp1 : n - (pre ++ [i]).length = i := by rw [List.length_append, List.length_singleton]; omega
    have hst : dval (l.drop i) = dval (l.drop (i + 1)) * 1073741824 + x := by
      rw [drop_get (by rw [HL.out]; exact hin), dval, hx]; omega
    have HST := Lib.hid hst
    have HP := Lib.hid hp1
    have hx' : l[i]?.getD 0 = x := by rw [← List.getD_eq_getElem?_getD]; exact hx
    rw [hx']
    rw [hx] at x1 x2
    clear hp1 hx hx' e1 e3 hok hdi hst
    obtain ⟨r, hr⟩ : ∃ r, dval (l.drop (i + 1)) = r := ⟨_, rfl⟩
    rw [hr] at r1 r2 hb2
    have HR := Lib.hid hr
    have hor := u64_or30 r x r1 (by omega) x1 x2
    have f2 := hb2.free 0
    have c2 := hb2.cell (i := 0) rfl
    have H1 := Lib.hid hb1
    have H2 := Lib.hid hb2
    have HB := Lib.hid hB
    clear hb1 hb2 hB hr
    gi_wp2_with fail
    refine ⟨KeepsOthers.setCell _ _ _, ⟨(Below.refl _ W).setCell (p := ⟨bs, 0, none⟩) (by dsimp only; omega) _, fun _ _ h => h.other (by dsimp only; omega) _⟩, H1.out.other (p := ⟨bs, 0, none⟩) (by dsimp only; omega) _, ?_, HB.out.setCell (p := ⟨bs, 0, none⟩) (by dsimp only; omega) _⟩
    rw [HP.out, HST.out, HR.out]
    exact H2.out.set 0 _
  case done =>
    rintro D ys W hD rfl ⟨hb1, hb2, hB⟩ hK
    rw [downs_len, Nat.sub_self, List.drop_zero] at hb2
    obtain ⟨D0, hD0⟩ : ∃ d, dval l = d := ⟨_, rfl⟩
    have hlt : D0 < 1152921504606846976 := by
      have h2 := dval_lt HN1.out
      have h3 : (1073741824 : Int) ^ l.length ≤ 1073741824 ^ 2 := pow_le30 (by rw [HL.out]; omega)
      have h4 : (1073741824 : Int) ^ 2 = 1152921504606846976 := by decide
      omega
    have hge : 0 ≤ D0 := by rw [← hD0]; exact dval_nonneg HN1.out
    rw [hD0] at hb2
    have c0 := hb1.cell (i := 0) (v := .bool neg) rfl
    have c1 := hb1.cell (i := 1) (v := .slice a n ca) rfl
    have c2 := hb2.cell (i := 0) (v := .int .u64 D0) rfl
    have HK := Lib.hid hK
    have HB := Lib.hid hB
    clear hK hb1 hb2 hB hi4 Z1 Z2 Z3 hx4 hx3 hseq
    have HD := Lib.hid hD0
    clear hD0
    have t5 : decide (9223372036854775807 < D0) = false := by simp only [decide_eq_false_iff_not]; omega
    have t6 : decide (9223372036854775808 < D0) = false := by simp only [decide_eq_false_iff_not]; omega
    have hw : wrap64 (IntKind.u64.wrap (-D0)) = -D0 := by unfold wrap64; rw [IntKind.wrap_u64]; omega
    cases neg
    · skip
      have HF := Lib.hid (show fitI (sgn false (dval l)) = true ∧ fitV (sgn false (dval l)) = D0 from by rw [HD.out]; exact fit_yes (by simp [sgn]; omega) (by simp [sgn]; omega))
      go_wp2_with fail
      refine ⟨by simp, .inl ⟨_, _, rfl, run_takeDeferred HK.out, ?_⟩⟩
      refine ⟨.tuple #[.int .i64 D0, .bool true, .int .i64 0], by simp [results, Tryd.f10, go_sem], by rw [HF.out.1, HF.out.2], ?_⟩
      exact Below.trans HB.out (belowK_b (n₀ := w.heap.size) (w := w) (Nat.le_refl _) _ D _ _ (by omega) HK.out rfl rfl)
    · skip
      have HF := Lib.hid (show fitI (sgn true (dval l)) = true ∧ fitV (sgn true (dval l)) = (-D0) from by rw [HD.out]; exact fit_yes (by simp [sgn]; omega) (by simp [sgn]; omega))
      go_wp2_with fail
      refine ⟨by simp, .inl ⟨_, _, rfl, run_takeDeferred HK.out, ?_⟩⟩
      refine ⟨.tuple #[.int .i64 (-D0), .bool true, .int .i64 0], by simp [results, Tryd.f10, go_sem, hw], by rw [HF.out.1, HF.out.2], ?_⟩
      exact Below.trans HB.out (belowK_b (n₀ := w.heap.size) (w := w) (Nat.le_refl _) _ D _ _ (by omega) HK.out rfl rfl)
  case stop => exact fun _ _ _ _ _ _ h => h.elim
theorem nat_Int_ok (neg : Bool) (a : Option Addr) (ca : Nat) (l : List Int) (w : World) (h : Ints w a ca l) (hb : chkB neg l = true) :
    Calls Tryd.prog 10 #[.agg #[.bool neg, .slice a l.length ca]] w (IntP (fitV (sgn neg (dval l))) (fitI (sgn neg (dval l))) 0 w) := by
  by_cases h3 : l.length < 3
  · exact nat_Int_laten l.length neg a ca l w h hb rfl h3
  · by_cases h4 : l.length = 3
    · by_cases h8 : l.getD 2 0 ≤ 8
      · have := nat_Int_late3 neg a ca l w h hb h4 h8
        rw [h4]; exact this
      · have := nat_Int_early2 neg a ca l w h hb h4 (by omega)
        rw [h4, (early_big (chk_iff.1 hb).2.2 (.inr ⟨h4, by omega⟩)).1, (early_big (neg := neg) (chk_iff.1 hb).2.2 (.inr ⟨h4, by omega⟩)).2]
        exact this
    · rw [(early_big (chk_iff.1 hb).2.2 (.inl (by omega))).1, (early_big (neg := neg) (chk_iff.1 hb).2.2 (.inl (by omega))).2]
      exact nat_Int_early1 neg a ca l w h hb (by omega)
theorem int_val {v : Value} {z : Int} {w : World} (hv : BigV w v z) (hz : Len z) : Calls Tryd.prog 10 #[v] w (IntP (fitV z) (fitI z) 0 w) := by
  obtain ⟨n1, l, ⟨a, ca, rfl, hi⟩, hb⟩ := hv
  have := nat_Int_ok n1 a ca l w hi (hb.chk hz)
  rw [← hb.sgn] at this
  exact this
end Go.Proofs.YtnpeakahiedeoaaDoor
