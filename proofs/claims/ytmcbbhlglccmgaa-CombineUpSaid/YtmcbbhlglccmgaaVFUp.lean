/- CombineUp: the Go law returns true at every input, and its arguments read as before. -/
import Derived.Test.YtmcbbhlglccmgaaVR
import Derived.Test.YtmcbbhlglccmgaaPNews
import Derived.Test.YtmcbbhlglccmgaaVSane
import Derived.Test.YtmcbbhlglccmgaaRows
import Derived.Test.YtmcbbhlglccmgaaVOpen
import Derived.ShutString
import Derived.ChangeOld
import Derived.Below
namespace Go.Proofs.Ytmcbbhlglccmgaa
open Go.RowKit Go BigFrame
set_option maxRecDepth 100000
set_option linter.unusedSimpArgs false
set_option linter.unusedVariables false

/-! law16.compare. -/
theorem tot_zero {c : CritA} {l : List Int} (h : RtB c l) : totE c l = 0 := by
  have h1 : onAll c l = true := onAll_iff.2 h.on
  have hp := h.p
  have hm := h.m
  have ht := h.t
  unfold totE
  rw [h.r, h1]
  simp only [if_true]
  rw [if_neg (by omega), if_neg]
  rintro (q | q | q)
  · omega
  · cases q
  · exact ht q
theorem sum_bd {M : Int} : ∀ {l : List Int}, (∀ x ∈ l, 0 ≤ x ∧ x ≤ M) → 0 ≤ l.sum ∧ l.sum ≤ M * (l.length : Int)
  | [], _ => by simp
  | x :: l, h => by
    have h1 := h x (by simp)
    have h2 := sum_bd (l := l) (fun y hy => h y (by simp [hy]))
    rw [List.sum_cons, List.length_cons, Int.natCast_succ, Int.mul_add]
    omega
theorem tot_sz {c : CritA} {l : List Int} (h : RtB c l) : Sz (totQ c l) 1 := by
  have hr := rightC_iff.1 h.r
  have hm := h.m
  have hp := h.p
  have ht := h.t
  have ht0 := hr.tr
  have hb : ∀ x ∈ accL c l l.length, 0 ≤ x ∧ x ≤ 1000 := fun x hx => by
    have hx := (accL_perm c l l.length).mem_iff.1 hx
    obtain ⟨y, hy, rfl⟩ := List.mem_map.1 hx
    exact turn_bd hr (h.on y (List.mem_of_mem_take hy))
  have hlen := accL_len c l (Nat.le_refl l.length)
  have hs : ∀ i j, 0 ≤ (((accL c l l.length).take i).drop j).sum ∧ (((accL c l l.length).take i).drop j).sum ≤ 20000 := fun i j => by
    have h1 := sum_bd (M := 1000) (l := ((accL c l l.length).take i).drop j) (fun x hx => hb x (List.mem_of_mem_take (List.mem_of_mem_drop hx)))
    have h2 : (((accL c l l.length).take i).drop j).length ≤ 20 := by rw [List.length_drop, List.length_take, hlen]; omega
    omega
  unfold totQ
  split
  · have h1 := sum_bd hb
    rw [hlen] at h1
    have h2 : (accL c l l.length).sum * (l.length : Int) ≤ 20000 * 20 := Int.mul_le_mul (by omega) (by omega) (by omega) (by omega)
    have h3 : 0 ≤ (accL c l l.length).sum * (l.length : Int) := Int.mul_nonneg h1.1 (by omega)
    exact divInt_sz (by omega) (by omega) (by omega)
  · split
    · have h1 := hs (l.length - c.tr.toNat) c.tr.toNat
      exact divInt_sz (by omega) (by omega) (by omega)
    · have h1 := hs (l.length / 2 + 1) ((l.length - 1) / 2)
      exact divInt_sz (by omega) (by omega) (by omega)
set_option maxHeartbeats 4000000 in
theorem law16_compare (c : CritA) (hc : c.In) (a b : Option Addr) (cap cap2 : Nat) (l m : List Int) (w : World) (h : Ints w a cap l) (k : Ints w b cap2 m) (hf : RtB c l) (hg : RtB c m) :
    Calls Try.prog 28 #[c.val, .slice a l.length cap, .slice b m.length cap2] w fun e w' => e = .returned (.tuple #[.int .i64 (cmpR (totQ c l) (totQ c m)), .bool true]) ∧ Ext w w' := by
  have HT1 := Lib.hid (fun W (hW : Ext w W) => ((combine_Total c hc a cap l W (h.ext hW) (by have := hf.m; omega)).mono fun _ _ k => (k.1 (tot_zero hf) : RatP (totQ c l) W _ _)))
  have HT2 := Lib.hid (fun W (hW : Ext w W) => ((combine_Total c hc b cap2 m W (k.ext hW) (by have := hg.m; omega)).mono fun _ _ k => (k.1 (tot_zero hg) : RatP (totQ c m) W _ _)))
  have S1 := Lib.hid (tot_sz hf)
  have S2 := Lib.hid (tot_sz hg)
  have hl1 := h.le
  have hm1 := h.mx
  have hl2 := k.le
  have hm2 := k.mx
  generalize totQ c l = r at *
  generalize totQ c m = s at *
  obtain ⟨nm, lo, hi, st, how, tr, rv⟩ := c
  dsimp only [CritA.val, CritA.cells] at *
  clear h k hc hf hg
  obtain ⟨x1, hw, hx, Kc⟩ := boxQ1 w #[.string nm, .int .i64 lo, .int .i64 hi, .int .i64 st, .int .i64 how, .int .i64 tr, .bool rv] 48
  replace hw := Lib.hid hw
  go_enter Try.func28, Try.ntmps28
  go_upto_region 1 with fail
  try simp only [Nat.add_assoc, Nat.reduceAdd, Nat.add_zero]
  rw [hw.out]
  clear hw
  have hs0 := hx.size
  have cc0 := Kc.out.cell (i := 0) (v := .string nm) rfl
  have cc1 := Kc.out.cell (i := 1) (v := .int .i64 lo) rfl
  have cc2 := Kc.out.cell (i := 2) (v := .int .i64 hi) rfl
  have cc3 := Kc.out.cell (i := 3) (v := .int .i64 st) rfl
  have cc4 := Kc.out.cell (i := 4) (v := .int .i64 how) rfl
  have cc5 := Kc.out.cell (i := 5) (v := .int .i64 tr) rfl
  have cc6 := Kc.out.cell (i := 6) (v := .bool rv) rfl
  have hsz := hx.size
  go_wp2_with fail
  clear cc0 cc1 cc2 cc3 cc4 cc5 cc6
  with_reducible refine (HT1.out _ hx).mono ?_
  rintro e x2 ⟨v, rfl, hv, hy⟩
  replace hx := hx.trans hy
  replace Kc := kE Kc hy
  clear hy
  obtain ⟨nx, ax, qx, cx, bx, kx, dx, rfl, hv', hf', hg'⟩ := hv
  have Vx := Lib.hid hv'
  have Fx := Lib.hid (fun A hA => Nat.le_trans hsz (hf' A hA))
  have Gx := Lib.hid (fun A hA => Nat.le_trans hsz (hg' A hA))
  clear hv' hf' hg' hsz
  clear Fx Gx
  go_upto_region 2 with fail
  have hl := Ext.alloc x2 (.cells #[.bool nx, .slice ax qx cx, .bool false, .slice bx kx dx] 35)
  have lcx : w.heap.size < x2.heap.size := Kc.out.lt
  have hpx : w.heap.size ≤ x2.heap.size := hx.size
  replace hx := hx.trans hl
  replace Kc := kE Kc hl
  replace Vx := Lib.hid (Vx.out.ext hl)
  have Kx := Lib.hid (Blk.new0 x2 #[.bool nx, .slice ax qx cx, .bool false, .slice bx kx dx] 35)
  clear hl
  generalize x2.alloc (.cells #[.bool nx, .slice ax qx cx, .bool false, .slice bx kx dx] 35) = x3 at *
  generalize x2.heap.size = px at *
  have cc0 := Kc.out.cell (i := 0) (v := .string nm) rfl
  have cc1 := Kc.out.cell (i := 1) (v := .int .i64 lo) rfl
  have cc2 := Kc.out.cell (i := 2) (v := .int .i64 hi) rfl
  have cc3 := Kc.out.cell (i := 3) (v := .int .i64 st) rfl
  have cc4 := Kc.out.cell (i := 4) (v := .int .i64 how) rfl
  have cc5 := Kc.out.cell (i := 5) (v := .int .i64 tr) rfl
  have cc6 := Kc.out.cell (i := 6) (v := .bool rv) rfl
  obtain ⟨cx0, cx1, cx2, cx3⟩ := bk4 Kx
  have hsz := hx.size
  go_wp2_with fail
  clear cc0 cc1 cc2 cc3 cc4 cc5 cc6 cx0 cx1 cx2 cx3
  with_reducible refine (HT2.out _ hx).mono ?_
  rintro e x4 ⟨v, rfl, hv, hy⟩
  replace hx := hx.trans hy
  replace Kc := kE Kc hy
  replace Kx := kE Kx hy
  replace Vx := Lib.hid (Vx.out.ext hy)
  clear hy
  obtain ⟨ny, ay, qy, cy, by_, ky, dy, rfl, hv', hf', hg'⟩ := hv
  have Vy := Lib.hid hv'
  have Fy := Lib.hid (fun A hA => Nat.le_trans hsz (hf' A hA))
  have Gy := Lib.hid (fun A hA => Nat.le_trans hsz (hg' A hA))
  clear hv' hf' hg' hsz
  clear Fy Gy
  go_upto_region 3 with fail
  have hl := Ext.alloc x4 (.cells #[.bool ny, .slice ay qy cy, .bool false, .slice by_ ky dy] 35)
  have lcy : w.heap.size < x4.heap.size := Kc.out.lt
  have lxy : px < x4.heap.size := Kx.out.lt
  have hpy : w.heap.size ≤ x4.heap.size := hx.size
  replace hx := hx.trans hl
  replace Kc := kE Kc hl
  replace Kx := kE Kx hl
  replace Vx := Lib.hid (Vx.out.ext hl)
  replace Vy := Lib.hid (Vy.out.ext hl)
  have Ky := Lib.hid (Blk.new0 x4 #[.bool ny, .slice ay qy cy, .bool false, .slice by_ ky dy] 35)
  clear hl
  generalize x4.alloc (.cells #[.bool ny, .slice ay qy cy, .bool false, .slice by_ ky dy] 35) = x5 at *
  generalize x4.heap.size = py at *
  have cc0 := Kc.out.cell (i := 0) (v := .string nm) rfl
  have cc1 := Kc.out.cell (i := 1) (v := .int .i64 lo) rfl
  have cc2 := Kc.out.cell (i := 2) (v := .int .i64 hi) rfl
  have cc3 := Kc.out.cell (i := 3) (v := .int .i64 st) rfl
  have cc4 := Kc.out.cell (i := 4) (v := .int .i64 how) rfl
  have cc5 := Kc.out.cell (i := 5) (v := .int .i64 tr) rfl
  have cc6 := Kc.out.cell (i := 6) (v := .bool rv) rfl
  obtain ⟨cx0, cx1, cx2, cx3⟩ := bk4 Kx
  obtain ⟨cy0, cy1, cy2, cy3⟩ := bk4 Ky
  go_wp2_with fail
  with_reducible refine (ratio_Cmp Vx.out Vy.out S1.out S2.out (by omega)).mono ?_
  clear cc0 cc1 cc2 cc3 cc4 cc5 cc6 cx0 cx1 cx2 cx3 cy0 cy1 cy2 cy3
  rintro e x6 ⟨rfl, hy⟩
  replace hx := hx.trans hy
  replace Kc := kE Kc hy
  replace Kx := kE Kx hy
  replace Ky := kE Ky hy
  replace Vx := Lib.hid (Vx.out.ext hy)
  replace Vy := Lib.hid (Vy.out.ext hy)
  clear hy
  go_wp2_with fail
  refine bodyPost_ret (v := .tuple #[.int .i64 (cmpR r s), .bool true]) (by simp [results, Try.results28, go_sem]) rfl ?_
  exact ⟨rfl, hx⟩
end Go.Proofs.Ytmcbbhlglccmgaa

namespace Go.Proofs.Ytmcbbhlglccmgaa
open Go.RowKit Go BigFrame
set_option linter.unusedSimpArgs false
set_option linter.unusedVariables false

/-! plain laws of layer 16: lists that lie one under the other. -/
def Dom : List Int → List Int → Prop
  | [], [] => True
  | x :: l, y :: m => x ≤ y ∧ Dom l m
  | _, _ => False
theorem dom_refl : ∀ l : List Int, Dom l l
  | [] => trivial
  | x :: l => ⟨Int.le_refl x, dom_refl l⟩
theorem dom_take : ∀ {l m : List Int} (n : Nat), Dom l m → Dom (l.take n) (m.take n)
  | _, _, 0, _ => by simp [Dom]
  | [], [], n + 1, _ => by simp [Dom]
  | x :: l, y :: m, n + 1, h => ⟨h.1, dom_take n h.2⟩
  | [], _ :: _, _ + 1, h => h.elim
  | _ :: _, [], _ + 1, h => h.elim
theorem dom_drop : ∀ {l m : List Int} (n : Nat), Dom l m → Dom (l.drop n) (m.drop n)
  | _, _, 0, h => h
  | [], [], n + 1, _ => by simp [Dom]
  | x :: l, y :: m, n + 1, h => dom_drop n h.2
  | [], _ :: _, _ + 1, h => h.elim
  | _ :: _, [], _ + 1, h => h.elim
theorem dom_sum : ∀ {l m : List Int}, Dom l m → l.sum ≤ m.sum
  | [], [], _ => Int.le_refl _
  | x :: l, y :: m, h => by
    have h1 := h.1
    have h2 := dom_sum h.2
    rw [List.sum_cons, List.sum_cons]; omega
  | [], _ :: _, h => h.elim
  | _ :: _, [], h => h.elim
theorem putL_nil (n : Int) : putL [] n = [n] := rfl
theorem putL_le {z n : Int} (l : List Int) (h : z ≤ n) : putL (z :: l) n = z :: putL l n := by
  unfold putL; rw [List.takeWhile_cons, List.dropWhile_cons]; simp [h]
theorem putL_gt {z n : Int} (l : List Int) (h : ¬ z ≤ n) : putL (z :: l) n = n :: z :: l := by
  unfold putL; rw [List.takeWhile_cons, List.dropWhile_cons]; simp [h]
theorem dom_shift {y : Int} : ∀ {R : List Int} {z : Int}, z ≤ y → Srt (z :: R) → Dom (z :: R) (putL R y)
  | [], z, h, _ => ⟨h, trivial⟩
  | v :: R, z, h, hs => by
    have h1 : z ≤ v := (List.pairwise_cons.1 hs).1 v (by simp)
    by_cases h2 : v ≤ y
    · rw [putL_le R h2]; exact ⟨h1, dom_shift h2 (List.pairwise_cons.1 hs).2⟩
    · rw [putL_gt R h2]; exact ⟨h, dom_refl _⟩
theorem dom_putL {x y : Int} (h : x ≤ y) : ∀ {R : List Int}, Srt R → Dom (putL R x) (putL R y)
  | [], _ => ⟨h, trivial⟩
  | z :: R, hs => by
    by_cases h1 : z ≤ x
    · rw [putL_le R h1, putL_le R (by omega)]; exact ⟨Int.le_refl _, dom_putL h (List.pairwise_cons.1 hs).2⟩
    · rw [putL_gt R h1]
      by_cases h2 : z ≤ y
      · rw [putL_le R h2]; exact ⟨by omega, dom_shift h2 hs⟩
      · rw [putL_gt R h2]; exact ⟨h, dom_refl _⟩
theorem div_lt_div {n m p q : Int} (hm : 0 < m) (hq : 0 < q) : Rat.divInt n m < Rat.divInt p q ↔ n * q < p * m := by
  have hm' : (0 : Rat) < (m : Rat) := by exact_mod_cast hm
  have hq' : (0 : Rat) < (q : Rat) := by exact_mod_cast hq
  rw [Rat.divInt_eq_div, Rat.divInt_eq_div, Rat.div_lt_iff hm', show (p : Rat) / q * m = ((p * m : Int) : Rat) / q by rw [Rat.intCast_mul]; grind, Rat.lt_div_iff hq', ← Rat.intCast_mul, Rat.intCast_lt_intCast]
theorem cmpR_div {a b d : Int} (hd : 0 < d) : cmpR (Rat.divInt a d) (Rat.divInt b d) = cmpI a b := by
  unfold cmpR cmpI
  simp only [div_lt_div hd hd, Int.mul_lt_mul_right hd]
/-- Two lists of marks of one length whose totals' lists lie one under the other. -/
theorem acc_set {c : CritA} {l : List Int} {k : Nat} {x y : Int} (hk : l[k]? = some x) : ∃ R, Srt R ∧ accL c l l.length = putL R (turnC c x) ∧ accL c (l.set k y) (l.set k y).length = putL R (turnC c y) := by
  obtain ⟨hlt, he⟩ := List.getElem?_eq_some_iff.1 hk
  have e1 : l.Perm (x :: (l.take k ++ l.drop (k + 1))) := by
    have e : l = l.take k ++ x :: l.drop (k + 1) := by
      conv => lhs; rw [← List.take_append_drop k l, List.drop_eq_getElem_cons hlt, he]
    exact (List.Perm.of_eq e).trans List.perm_middle
  have e2 : (l.set k y).Perm (y :: (l.take k ++ l.drop (k + 1))) := by
    have e : l.set k y = l.take k ++ y :: l.drop (k + 1) := by
      rw [List.set_eq_take_append_cons_drop, if_pos hlt]
    exact (List.Perm.of_eq e).trans List.perm_middle
  generalize l.take k ++ l.drop (k + 1) = R at *
  have hs := accL_srt c R R.length
  have p0 := accL_perm c R R.length
  rw [List.take_length] at p0
  have q : ∀ (m : List Int) (z : Int), m.Perm (z :: R) → accL c m m.length = putL (accL c R R.length) (turnC c z) := fun m z hm => by
    refine srt_unique ?_ (accL_srt c m m.length) (putL_srt hs)
    have p1 := accL_perm c m m.length
    rw [List.take_length] at p1
    exact p1.trans ((hm.map _).trans (((p0.cons _).symm).trans (putL_perm _ _).symm))
  exact ⟨_, hs, q l x e1, q _ y e2⟩
theorem acc_perm {c : CritA} {l m : List Int} (h : l.Perm m) : accL c l l.length = accL c m m.length := by
  refine srt_unique ?_ (accL_srt c l l.length) (accL_srt c m m.length)
  have p1 := accL_perm c l l.length
  have p2 := accL_perm c m m.length
  rw [List.take_length] at p1 p2
  exact p1.trans ((h.map _).trans p2.symm)
theorem tot_perm {c : CritA} {l m : List Int} (h : l.Perm m) : totQ c l = totQ c m := by
  unfold totQ
  rw [acc_perm h, h.length_eq]
theorem rt_perm {c : CritA} {l m : List Int} (h : l.Perm m) (hb : RtB c l) : RtB c m :=
  ⟨hb.r, by have := hb.p; have := h.length_eq; omega, by have := hb.m; have := h.length_eq; omega, by have := hb.t; have := h.length_eq; omega, fun x hx => hb.on x (h.mem_iff.2 hx)⟩
theorem sum_putL (n : Int) : ∀ R : List Int, (putL R n).sum = n + R.sum
  | [] => by rw [putL_nil]; simp
  | z :: R => by
    by_cases h : z ≤ n
    · rw [putL_le R h, List.sum_cons, sum_putL n R, List.sum_cons]; omega
    · rw [putL_gt R h, List.sum_cons]
theorem cmpI_le {a b : Int} (h : a ≤ b) : cmpI a b ≤ 0 := by
  unfold cmpI
  split
  · omega
  · rw [if_neg (by omega)]; omega
theorem tot_up {c : CritA} {l : List Int} {k : Nat} {x y : Int} (hb : RtB c l) (hk : l[k]? = some x) (h : turnC c x ≤ turnC c y) :
    cmpR (totQ c l) (totQ c (l.set k y)) ≤ 0 ∧ (turnC c x < turnC c y → (c.how = 1 ∨ c.how = 2 ∧ c.tr = 0) → cmpR (totQ c l) (totQ c (l.set k y)) = -1) := by
  obtain ⟨R, hR, e1, e2⟩ := acc_set (c := c) (y := y) hk
  have hd := dom_putL h hR
  have hs1 := sum_putL (turnC c x) R
  have hs2 := sum_putL (turnC c y) R
  have hp := hb.p
  have ht := hb.t
  have ht0 := (rightC_iff.1 hb.r).tr
  have l1 := accL_len c l (Nat.le_refl l.length)
  have l2 := accL_len c (l.set k y) (Nat.le_refl (l.set k y).length)
  rw [e1] at l1
  rw [e2, List.length_set] at l2
  unfold totQ
  rw [e1, e2, List.length_set]
  generalize putL R (turnC c x) = A at *
  generalize putL R (turnC c y) = B at *
  have hn : (0 : Int) < (l.length : Int) := by omega
  split
  · rw [cmpR_div hn]
    refine ⟨cmpI_le (Int.mul_le_mul_of_nonneg_right (by omega) (by omega)), fun hl _ => ?_⟩
    exact cmpI_lt ((Int.mul_lt_mul_right hn).2 (by omega))
  · split
    · rw [cmpR_div (by omega)]
      refine ⟨cmpI_le ?_, fun hl hh => cmpI_lt ?_⟩
      · have := dom_sum (dom_drop c.tr.toNat (dom_take (l.length - c.tr.toNat) hd)); omega
      · have hz : c.tr.toNat = 0 := by omega
        rw [hz, Nat.sub_zero, List.drop_zero, List.drop_zero, List.take_of_length_le (by omega), List.take_of_length_le (by omega)]
        omega
    · rw [cmpR_div (by omega)]
      refine ⟨cmpI_le ?_, fun hl hh => by omega⟩
      have := dom_sum (dom_drop ((l.length - 1) / 2) (dom_take (l.length / 2 + 1) hd)); omega
theorem cmpR_self (r : Rat) : cmpR r r = 0 := by
  unfold cmpR
  rw [if_neg Rat.lt_irrefl, if_neg Rat.lt_irrefl]
theorem cmpR_turn (r s : Rat) : cmpR s r = -cmpR r s := by
  unfold cmpR
  by_cases h1 : r < s
  · rw [if_pos h1, if_neg (fun h => Rat.not_lt.2 (Rat.le_of_lt h1) h), if_pos h1]; rfl
  · by_cases h2 : s < r
    · rw [if_pos h2, if_neg h1, if_pos h2]
    · rw [if_neg h1, if_neg h2, if_neg h1]; simp [h2]
theorem rt_set {c : CritA} {l : List Int} {k : Nat} {y : Int} (hb : RtB c l) (hy : onC c y = true) : RtB c (l.set k y) :=
  ⟨hb.r, by rw [List.length_set]; exact hb.p, by rw [List.length_set]; exact hb.m, by rw [List.length_set]; exact hb.t, fun x hx => by
    rcases List.mem_or_eq_of_mem_set hx with h | rfl
    · exact hb.on x h
    · exact hy⟩
theorem turn_inj {c : CritA} {x y : Int} (h : turnC c x = turnC c y) : x = y := by
  unfold turnC at h
  cases hr : c.rv <;> simp [hr] at h <;> omega
theorem set_same {l : List Int} {k : Nat} {x : Int} (hk : l[k]? = some x) : l.set k x = l := by
  obtain ⟨hlt, rfl⟩ := List.getElem?_eq_some_iff.1 hk
  exact List.set_getElem_self hlt
/-- What CombineUp asks for. -/
theorem up_law {c : CritA} {l : List Int} {k : Nat} {x y : Int} (hb : RtB c l) (hy : onC c y = true) (hk : l[k]? = some x) :
    (turnC c y = turnC c x → cmpR (totQ c l) (totQ c (l.set k y)) = 0 ∧ y = x) ∧
    (turnC c x < turnC c y → cmpR (totQ c l) (totQ c (l.set k y)) ≤ 0) ∧
    (turnC c y < turnC c x → 0 ≤ cmpR (totQ c l) (totQ c (l.set k y))) ∧
    ((c.how = 1 ∨ c.how = 2 ∧ c.tr = 0) → (turnC c x < turnC c y → cmpR (totQ c l) (totQ c (l.set k y)) = -1) ∧ (turnC c y < turnC c x → cmpR (totQ c l) (totQ c (l.set k y)) = 1)) := by
  have hlt := (List.getElem?_eq_some_iff.1 hk).1
  have hk2 : (l.set k y)[k]? = some y := by rw [List.getElem?_set_self hlt]
  have hback : (l.set k y).set k x = l := by rw [List.set_set, set_same hk]
  have hdn := fun h => tot_up (c := c) (y := x) (rt_set hb hy) hk2 h
  rw [hback] at hdn
  refine ⟨fun h => ?_, fun h => (tot_up hb hk (by omega)).1, fun h => ?_, fun hh => ⟨fun h => (tot_up hb hk (by omega)).2 h hh, fun h => ?_⟩⟩
  · obtain rfl := turn_inj h
    rw [set_same hk]; exact ⟨cmpR_self _, rfl⟩
  · have := (hdn (by omega)).1
    rw [cmpR_turn] at this; omega
  · have := (hdn (by omega)).2 h hh
    rw [cmpR_turn] at this; omega
end Go.Proofs.Ytmcbbhlglccmgaa

namespace Go.Proofs.Ytmcbbhlglccmgaa
open Go.RowKit Go BigFrame
set_option maxRecDepth 100000
set_option linter.unusedSimpArgs false
set_option linter.unusedVariables false

/-! plain laws of CombineOrder and CombineTrimmed; lists that are copied and changed. -/
theorem sum_between {lo hi : Int} : ∀ {M : List Int}, (∀ x ∈ M, lo ≤ x ∧ x ≤ hi) → lo * (M.length : Int) ≤ M.sum ∧ M.sum ≤ hi * (M.length : Int)
  | [], _ => by simp
  | x :: l, h => by
    have h1 := h x (by simp)
    have h2 := sum_between (M := l) (fun y hy => h y (by simp [hy]))
    rw [List.sum_cons, List.length_cons, Int.natCast_succ, Int.mul_add, Int.mul_add]
    omega
theorem ins_del {l : List Int} {i : Nat} (hi : i < l.length) : l.Perm (l[i] :: l.eraseIdx i) := by
  rw [List.eraseIdx_eq_take_drop_succ]
  have e : l = l.take i ++ l[i] :: l.drop (i + 1) := by
    conv => lhs; rw [← List.take_append_drop i l, List.drop_eq_getElem_cons hi]
  exact (List.Perm.of_eq e).trans List.perm_middle
theorem ins_set {l : List Int} {i : Nat} (hi : i < l.length) (y : Int) : (l.set i y).Perm (y :: l.eraseIdx i) := by
  rw [List.eraseIdx_eq_take_drop_succ, List.set_eq_take_append_cons_drop, if_pos hi]
  exact List.perm_middle
theorem two_set {l : List Int} {i j : Nat} (hi : i < l.length) (hj : j < l.length) (hij : i ≠ j) (a b : Int) : ∃ R, l.Perm (l[i] :: l[j] :: R) ∧ ((l.set i a).set j b).Perm (a :: b :: R) := by
  have hj' : j < (l.set i a).length := by rw [List.length_set]; exact hj
  have e1 := ins_del hi
  have e2 := ins_set hi a
  have e3 := ins_del hj'
  have e4 := ins_set hj' b
  have hjj : (l.set i a)[j] = l[j] := List.getElem_set_ne hij hj'
  rw [hjj] at e3
  have ha : a ∈ (l.set i a).eraseIdx j := List.mem_eraseIdx_iff_getElem.2 ⟨i, by rw [List.length_set]; exact hi, hij, by simp⟩
  have e5 := List.perm_cons_erase ha
  generalize ((l.set i a).eraseIdx j).erase a = R at e5
  refine ⟨R, ?_, ?_⟩
  · refine e1.trans (List.Perm.cons _ ?_)
    have e6 : (a :: l.eraseIdx i).Perm (a :: l[j] :: R) := (e2.symm.trans e3).trans ((List.Perm.cons _ e5).trans (List.Perm.swap _ _ _))
    exact e6.cons_inv
  · exact e4.trans ((List.Perm.cons _ e5).trans (List.Perm.swap _ _ _))
theorem srt_ends {A R : List Int} {p q : Int} (hA : A.Pairwise (· ≤ ·)) (h : A.Perm (p :: q :: R)) (hb : ∀ x ∈ R, p ≤ x ∧ x ≤ q) (hpq : p ≤ q) {M : List Int} (hM : M.Pairwise (· ≤ ·)) (hMR : M.Perm R) : A = p :: (M ++ [q]) := by
  refine srt_unique ?_ hA ?_
  · refine h.trans (List.Perm.cons _ ?_)
    exact (List.Perm.cons _ hMR.symm).trans (List.perm_append_singleton _ _).symm
  · refine List.pairwise_cons.2 ⟨fun x hx => ?_, List.pairwise_append.2 ⟨hM, List.pairwise_singleton _ _, fun x hx y hy => ?_⟩⟩
    · rcases List.mem_append.1 hx with hx | hx
      · exact (hb x (hMR.mem_iff.1 hx)).1
      · simp at hx; omega
    · simp at hy; subst hy; exact (hb x (hMR.mem_iff.1 hx)).2
theorem mid_ends {M : List Int} {a z a' z' : Int} {n t : Nat} (hn : n = M.length + 2) (ht : 1 ≤ t) (htn : t ≤ n) : ((a :: (M ++ [z])).take (n - t)).drop t = ((a' :: (M ++ [z'])).take (n - t)).drop t := by
  obtain ⟨t, rfl⟩ : ∃ k, t = k + 1 := ⟨t - 1, by omega⟩
  by_cases h : n - (t + 1) = 0
  · rw [h]; simp
  · obtain ⟨m, hm⟩ : ∃ m, n - (t + 1) = m + 1 := ⟨n - (t + 1) - 1, by omega⟩
    rw [hm, List.take_succ_cons, List.take_succ_cons, List.drop_succ_cons, List.drop_succ_cons, List.take_append_of_le_length (by omega), List.take_append_of_le_length (by omega)]
theorem tot_between {c : CritA} {l : List Int} (hb : RtB c l) (hh : c.how ≠ 1) {lo hi : Int} (h : ∀ x ∈ l, lo ≤ turnC c x ∧ turnC c x ≤ hi) : cmpR (Rat.divInt lo 1) (totQ c l) ≤ 0 ∧ cmpR (totQ c l) (Rat.divInt hi 1) ≤ 0 := by
  have hp := hb.p
  have ht := hb.t
  have ht0 := (rightC_iff.1 hb.r).tr
  have hlen := accL_len c l (Nat.le_refl l.length)
  have hm : ∀ x ∈ accL c l l.length, lo ≤ x ∧ x ≤ hi := fun x hx => by
    have hx := (accL_perm c l l.length).mem_iff.1 hx
    obtain ⟨y, hy, rfl⟩ := List.mem_map.1 hx
    exact h y (List.mem_of_mem_take hy)
  have key : ∀ i j (n : Nat), 0 < n → (((accL c l l.length).take i).drop j).length = n →
      cmpR (Rat.divInt lo 1) (Rat.divInt ((((accL c l l.length).take i).drop j).sum * 1) (n : Int)) ≤ 0 ∧ cmpR (Rat.divInt ((((accL c l l.length).take i).drop j).sum * 1) (n : Int)) (Rat.divInt hi 1) ≤ 0 := fun i j n hn hl => by
    have h1 := sum_between (M := ((accL c l l.length).take i).drop j) (fun x hx => hm x (List.mem_of_mem_take (List.mem_of_mem_drop hx)))
    rw [hl] at h1
    have hn' : (0 : Int) < (n : Int) := by omega
    unfold cmpR
    simp only [div_lt_div Int.one_pos hn', div_lt_div hn' Int.one_pos]
    constructor
    · split
      · omega
      · rw [if_neg (by omega)]; omega
    · split
      · omega
      · rw [if_neg (by omega)]; omega
  unfold totQ
  rw [if_neg hh]
  split
  · exact key _ _ _ (by omega) (by rw [List.length_drop, List.length_take, hlen]; omega)
  · exact key _ _ _ (by omega) (by rw [List.length_drop, List.length_take, hlen]; omega)
theorem on_lo {c : CritA} (hr : RightC c) : onC c c.lo = true ∧ onC c c.hi = true := by
  have h1 := hr.hi
  exact ⟨onC_iff.2 ⟨Int.le_refl _, by omega, by simp⟩, onC_iff.2 ⟨by omega, Int.le_refl _, hr.dv⟩⟩
theorem mid_trim {c : CritA} {l : List Int} (hb : RtB c l) (ht1 : 1 ≤ c.tr) {i j : Nat} (hi : i < l.length) (hj : j < l.length) (hij : i ≠ j) (hmin : ∀ x ∈ l, l[i] ≤ x) (hmax : ∀ x ∈ l, x ≤ l[j]) :
    totQ c ((l.set i c.lo).set j c.hi) = totQ c l := by
  have hr := rightC_iff.1 hb.r
  have h2 : c.how = 2 := by rcases hr.mn with h | h <;> omega
  obtain ⟨R, e1, e2⟩ := two_set hi hj hij c.lo c.hi
  have p1 := accL_perm c l l.length
  have p2 := accL_perm c ((l.set i c.lo).set j c.hi) ((l.set i c.lo).set j c.hi).length
  rw [List.take_length] at p1 p2
  have q1 := p1.trans (e1.map (turnC c))
  have q2 := p2.trans (e2.map (turnC c))
  have s1 := accL_srt c l l.length
  have s2 := accL_srt c ((l.set i c.lo).set j c.hi) ((l.set i c.lo).set j c.hi).length
  have hlen : ((l.set i c.lo).set j c.hi).length = l.length := by rw [List.length_set, List.length_set]
  have hRl : l.length = R.length + 2 := by rw [e1.length_eq]; simp
  have hR : ∀ x ∈ R, c.lo ≤ x ∧ x ≤ c.hi ∧ l[i] ≤ x ∧ x ≤ l[j] := fun x hx => by
    have hx : x ∈ l := e1.mem_iff.2 (by simp [hx])
    have := onC_iff.1 (hb.on x hx)
    exact ⟨this.1, this.2.1, hmin x hx, hmax x hx⟩
  have hlj := hmin l[j] (List.getElem_mem hj)
  have hlh := hr.hi
  have hM := List.pairwise_mergeSort (le := fun x y : Int => decide (x ≤ y)) (by simp; omega) (by simp; omega) (R.map (turnC c))
  have hMp := List.mergeSort_perm (R.map (turnC c)) (fun x y : Int => decide (x ≤ y))
  replace hM : ((R.map (turnC c)).mergeSort (fun x y : Int => decide (x ≤ y))).Pairwise (· ≤ ·) := hM.imp (by simp)
  have hML : ((R.map (turnC c)).mergeSort (fun x y : Int => decide (x ≤ y))).length = R.length := by rw [List.length_mergeSort, List.length_map]
  generalize (R.map (turnC c)).mergeSort (fun x y : Int => decide (x ≤ y)) = M at *
  have key : ∃ p q p' q', accL c l l.length = p :: (M ++ [q]) ∧ accL c ((l.set i c.lo).set j c.hi) ((l.set i c.lo).set j c.hi).length = p' :: (M ++ [q']) := by
    simp only [List.map_cons] at q1 q2
    cases hv : c.rv
    · have ht : ∀ x, turnC c x = x := fun x => by simp [turnC, hv]
      refine ⟨_, _, _, _, srt_ends s1 q1 (fun x hx => ?_) ?_ hM hMp, srt_ends s2 q2 (fun x hx => ?_) ?_ hM hMp⟩
      · obtain ⟨y, hy, rfl⟩ := List.mem_map.1 hx
        have := hR y hy
        simp only [ht]; omega
      · simp only [ht]; omega
      · obtain ⟨y, hy, rfl⟩ := List.mem_map.1 hx
        have := hR y hy
        simp only [ht]; omega
      · simp only [ht]; omega
    · have ht : ∀ x, turnC c x = c.lo + c.hi - x := fun x => by simp [turnC, hv]
      refine ⟨_, _, _, _, srt_ends s1 (q1.trans (List.Perm.swap _ _ _)) (fun x hx => ?_) ?_ hM hMp, srt_ends s2 (q2.trans (List.Perm.swap _ _ _)) (fun x hx => ?_) ?_ hM hMp⟩
      · obtain ⟨y, hy, rfl⟩ := List.mem_map.1 hx
        have := hR y hy
        simp only [ht]; omega
      · simp only [ht]; omega
      · obtain ⟨y, hy, rfl⟩ := List.mem_map.1 hx
        have := hR y hy
        simp only [ht]; omega
      · simp only [ht]; omega
  obtain ⟨p, q, p', q', k1, k2⟩ := key
  have hb3 := hb.t
  unfold totQ
  simp only [if_neg (show ¬ c.how = 1 by omega), if_pos h2]
  rw [k1, k2, hlen, mid_ends (n := l.length) (by omega) (by omega) (by omega)]
/-- The rounds of CombineTrimmed: the first least one and the last greatest one. -/
structure LM (l : List Int) (k i j : Nat) : Prop where
  il : i < k ∨ i = 0 ∧ k = 0
  jl : j < k ∨ j = 0 ∧ k = 0
  lo : ∀ n x y, n < k → l[n]? = some x → l[i]? = some y → y ≤ x
  lo2 : ∀ n x y, n < i → l[n]? = some x → l[i]? = some y → y < x
  hi : ∀ n x y, n < k → l[n]? = some x → l[j]? = some y → x ≤ y
  hi2 : ∀ n x y, n < k → j < n → l[n]? = some x → l[j]? = some y → x < y
theorem LM.zero (l : List Int) : LM l 0 0 0 := ⟨.inr ⟨rfl, rfl⟩, .inr ⟨rfl, rfl⟩, by omega, by omega, by omega, by omega⟩
theorem LM.step {l : List Int} {k i j : Nat} (h : LM l k i j) {m a b : Int} (hm : l[k]? = some m) (ha : l[i]? = some a) (hb : l[j]? = some b) : LM l (k + 1) (if m < a then k else i) (if b ≤ m then k else j) := by
  have h1 := h.il
  have h2 := h.jl
  refine ⟨?_, ?_, ?_, ?_, ?_, ?_⟩
  · split <;> omega
  · split <;> omega
  · intro n x y hn hx hy
    by_cases hc : m < a
    · rw [if_pos hc] at hy
      rw [hm] at hy; cases hy
      by_cases hnk : n = k
      · subst hnk; rw [hm] at hx; cases hx; omega
      · have := h.lo n x a (by omega) hx ha; omega
    · rw [if_neg hc] at hy
      rw [ha] at hy; cases hy
      by_cases hnk : n = k
      · subst hnk; rw [hm] at hx; cases hx; omega
      · exact h.lo n x a (by omega) hx ha
  · intro n x y hn hx hy
    by_cases hc : m < a
    · rw [if_pos hc] at hy hn
      rw [hm] at hy; cases hy
      have := h.lo n x a (by omega) hx ha; omega
    · rw [if_neg hc] at hy hn
      rw [ha] at hy; cases hy
      exact h.lo2 n x a (by omega) hx ha
  · intro n x y hn hx hy
    by_cases hc : b ≤ m
    · rw [if_pos hc] at hy
      rw [hm] at hy; cases hy
      by_cases hnk : n = k
      · subst hnk; rw [hm] at hx; cases hx; omega
      · have := h.hi n x b (by omega) hx hb; omega
    · rw [if_neg hc] at hy
      rw [hb] at hy; cases hy
      by_cases hnk : n = k
      · subst hnk; rw [hm] at hx; cases hx; omega
      · exact h.hi n x b (by omega) hx hb
  · intro n x y hn hjn hx hy
    by_cases hc : b ≤ m
    · rw [if_pos hc] at hjn; omega
    · rw [if_neg hc] at hy hjn
      rw [hb] at hy; cases hy
      by_cases hnk : n = k
      · subst hnk; rw [hm] at hx; cases hx; omega
      · exact h.hi2 n x b (by omega) hjn hx hb
theorem LM.end {l : List Int} {i j : Nat} (h : LM l l.length i j) (hl : 2 ≤ l.length) : ∃ (hi : i < l.length) (hj : j < l.length), i ≠ j ∧ (∀ x ∈ l, l[i] ≤ x) ∧ (∀ x ∈ l, x ≤ l[j]) := by
  have h1 := h.il
  have h2 := h.jl
  have hi : i < l.length := by omega
  have hj : j < l.length := by omega
  refine ⟨hi, hj, fun e => ?_, fun x hx => ?_, fun x hx => ?_⟩
  · subst e
    by_cases h0 : i = 0
    · have a := h.hi2 1 l[1] l[i] (by omega) (by omega) (by simp) (by simp)
      have b := h.lo 1 l[1] l[i] (by omega) (by simp) (by simp)
      omega
    · have a := h.lo2 0 l[0] l[i] (by omega) (by simp) (by simp)
      have b := h.hi 0 l[0] l[i] (by omega) (by simp) (by simp)
      omega
  · obtain ⟨n, hn, rfl⟩ := List.getElem_of_mem hx
    exact h.lo n _ _ hn (by simp [hn]) (by simp [hi])
  · obtain ⟨n, hn, rfl⟩ := List.getElem_of_mem hx
    exact h.hi n _ _ hn (by simp [hn]) (by simp [hj])
/-- A sum is the number of marks times their mean. -/
theorem sum_mean {c a m : CritA} {l : List Int} (hp : 0 < l.length) (ha : a.how = 1) (hm : m.how = 2) (hm0 : m.tr = 0) (e1 : accL a l l.length = accL c l l.length) (e2 : accL m l l.length = accL c l l.length) :
    totQ a l = Rat.divInt (l.length : Int) 1 * totQ m l := by
  have hn : ((l.length : Int) : Rat) ≠ 0 := by
    exact_mod_cast (show (l.length : Int) ≠ 0 by omega)
  unfold totQ
  rw [if_pos ha, if_neg (by omega), if_pos hm, hm0, e1, e2]
  simp only [Int.toNat_zero, Nat.sub_zero, List.drop_zero, Int.mul_one]
  rw [List.take_of_length_le (by rw [accL_len c l (Nat.le_refl _)]; exact Nat.le_refl _), Rat.divInt_eq_div, Rat.divInt_eq_div, Rat.divInt_eq_div]
  rw [Rat.intCast_mul]
  generalize ((l.length : Int) : Rat) = q at *
  grind
theorem Ints.putV {w : World} {g cap : Nat} {l : List Int} (h : Ints w (some ⟨g, 0, none⟩) cap l) {i : Nat} {u : Int} (hu : -9223372036854775808 ≤ u ∧ u ≤ 9223372036854775807) : Ints (w.setCell ⟨g, i, none⟩ (.int .i64 u)) (some ⟨g, 0, none⟩) cap (l.set i u) := by
  refine ⟨by simpa using h.le, h.mx, h.nil, fun A hA j hj => ?_⟩
  cases hA
  simp only [List.length_set] at hj
  obtain ⟨h1, v, hv, rfl, hr⟩ := h.cells _ rfl j hj
  dsimp only at hv ⊢
  simp only [Nat.zero_add] at hv ⊢
  by_cases e : i = j
  · subst e
    refine ⟨by trivial, .int .i64 u, ?_, by simp [IsInt, hu]⟩
    exact World.cell?_setCell_same' _ _ _ (by rw [hv]; rfl)
  · refine ⟨by trivial, .int .i64 l[j], ?_, by simp [IsInt, List.getElem_set, e, hr]⟩
    rw [World.cell?_setCell_other _ _ _ _ (fun e2 => e (by injection e2))]; exact hv
theorem OwnI.freeV {w : World} {B g n cap : Nat} {L : List Int} (h : OwnI w B (.slice (some ⟨g, 0, none⟩) n cap) L) (i : Nat) : w.frozen? ⟨g, i, none⟩ = false := by
  rcases h.own.2 with ⟨e, _⟩ | ⟨g', cap', cur, e, _, hg, _⟩
  · exact absurd e h.nn
  · simp only [Value.slice.injEq, Option.some.injEq, Addr.mk.injEq, and_true, true_and] at e
    obtain ⟨rfl, rfl, rfl⟩ := e
    exact Blk.free hg i
theorem Ints.atV {w : World} {g cap : Nat} {l : List Int} (h : Ints w (some ⟨g, 0, none⟩) cap l) {i : Nat} {x : Int} (hx : l[i]? = some x) : w.cell? ⟨g, i, none⟩ = some (.int .i64 x) := by
  obtain ⟨hi, rfl⟩ := List.getElem?_eq_some_iff.1 hx
  have := (h.cell hi).1
  rwa [Nat.zero_add] at this
theorem Ints.newsV {w : World} {b o cap : Nat} {l : List Int} (h : Ints w (some ⟨b, o, none⟩) cap l) : ∀ j u, (l.map (Value.int .i64))[j]? = some u → w.cell? ((⟨b, o, none⟩ : Addr).add j) = some u := h.news0
theorem Ints.rangeV {w : World} {a : Option Addr} {cap : Nat} {l : List Int} (h : Ints w a cap l) : ∀ x ∈ l, In64 x := fun x hx => by
  obtain ⟨i, hi, rfl⟩ := List.getElem_of_mem hx
  obtain ⟨b, o, rfl⟩ := h.head hi
  exact (h.cell hi).2
theorem callLater {P : Program} {f : FuncId} {args : Array Value} {w0 : World} {v : Value} {W : Later w0} (h : Calls P f args W.1 fun e w' => e = .returned v ∧ Ext W.1 w') :
    Calls P f args W.1 fun e w'' => e = .returned v ∧ ∃ W' : Later w0, w'' = W'.1 := h.mono fun _ w' ⟨he, hx⟩ => ⟨he, ⟨w', W.2.trans hx⟩, rfl⟩
theorem compare_len (c : CritA) (hc : c.In) (a : Option Addr) (cap : Nat) (l m : List Int) {w : World} (h : Ints w a cap l) (hf : RtB c l) (hg : RtB c m) (hm : m.length = l.length) (W : World) (g cp : Nat) (hW : Ext w W) (hk : Ints W (some ⟨g, 0, none⟩) cp m) :
    Calls Try.prog 28 #[c.val, .slice a l.length cap, .slice (some ⟨g, 0, none⟩) l.length cp] W fun e w' => e = .returned (.tuple #[.int .i64 (cmpR (totQ c l) (totQ c m)), .bool true]) ∧ Ext W w' := by
  have := law16_compare c hc a _ cap cp l m W (h.ext hW) hk hf hg
  rwa [hm] at this
theorem better_on (c : CritA) (hc : c.In) {m : Int} (hr : rightC c = true) (ho : onC c m = true) (W : World) : Calls Try.prog 22 #[c.val, .int .i64 m] W fun e w' => e = .returned (.tuple #[.int .i64 (turnC c m), .int .i64 0]) ∧ Ext W w' := by
  have hrr := rightC_iff.1 hr
  have h1 := onC_iff.1 ho
  have h2 := hrr.lo
  have h3 := hrr.mx
  have := combine_Better c hc m (by unfold In64; omega) W
  rwa [show betterC c m = (turnC c m, 0) by unfold betterC; rw [hr, ho]; rfl] at this
end Go.Proofs.Ytmcbbhlglccmgaa

namespace Go.Proofs.Ytmcbbhlglccmgaa
open Go.RowKit Go BigFrame
set_option maxRecDepth 100000
set_option linter.unusedSimpArgs false
set_option linter.unusedVariables false

/-! law16.CombineUp. -/
theorem wpList_append_put {ops : Array Oper} {rest : List Oper} {o : Oper} {a : Act} {Q : Exit → Act → World → Prop} (hgd : o.guard = none) (s x : Operand)
    (ho : o.op = .call { callee := .builtin .append, args := #[s, x], argTypes := #[27, 27] }) {a0 w : World} (hx0 : Ext a0 w) {v : Value} (hs : a.eval s = v) {L : List Int} (hown : OwnI w a0.heap.size v L) {A : Addr} {n c : Nat} {l : List Int}
    (hx : a.eval x = .slice (some A) n c) (hn : l.length = n) (hI : Ints w (some A) c l) (hlen : L.length + l.length ≤ 1000000)
    (h : ∀ v' w', OwnI w' a0.heap.size v' (L ++ l) → Ext a0 w' → (∀ p cs t, Blk w p cs t → v.ownBlock ≠ some p → Blk w' p cs t ∧ v'.ownBlock ≠ some p) → wpList Try.prog ops Q rest (a.put o.dst v') w') :
    wpList Try.prog ops Q (o :: rest) a w := by
  refine wpList_plain hgd fun K hK => ?_
  obtain ⟨v', w', hr, h1, h2, h3⟩ := run_append_put hx0 hown hn hI hlen o.type
  unfold Oper.wp execOp
  simp only [ho, resolve, invoke, builtin, Sem.run_bind, Sem.run_pure, Result.andThen_ok, List.map_toArray, List.map_cons, List.map_nil, hs, hx, hr]
  exact hK _ _ (h v' w' h1 h2 h3)
set_option maxHeartbeats 8000000 in
theorem law_CUp_no (c : CritA) (hc : c.In) (a : Option Addr) (cap : Nat) (l : List Int) (at_ m : Int) (ha : 0 ≤ at_ ∧ at_ ≤ 255) (hm : In64 m) (w : World) (h : Ints w a cap l) (hf : rtB c l = false) :
    Calls Try.prog 8 #[c.val, .slice a l.length cap, .int .u8 at_, .int .i64 m] w fun e w' => e = .returned (.bool true) ∧ Ext w w' := by
  have hle := h.le
  have hmx := h.mx
  have HRt := Lib.hid (fun W (hW : Ext w W) => law16_right c hc a cap l W (h.ext hW))
  rw [hf] at HRt
  obtain ⟨nm, lo, hi, st, how, tr, rv⟩ := c
  dsimp only [CritA.val, CritA.cells] at *
  clear h hf hc
  obtain ⟨x1, hw, hx, Kc⟩ := boxQ1 w #[.string nm, .int .i64 lo, .int .i64 hi, .int .i64 st, .int .i64 how, .int .i64 tr, .bool rv] 48
  replace hw := Lib.hid hw
  go_enter Try.func8, Try.ntmps8
  go_upto_region 1 with fail
  try simp only [Nat.add_assoc, Nat.reduceAdd, Nat.add_zero]
  rw [hw.out]
  clear hw
  have hs0 := hx.size
  have cc0 := Kc.out.cell (i := 0) (v := .string nm) rfl
  have cc1 := Kc.out.cell (i := 1) (v := .int .i64 lo) rfl
  have cc2 := Kc.out.cell (i := 2) (v := .int .i64 hi) rfl
  have cc3 := Kc.out.cell (i := 3) (v := .int .i64 st) rfl
  have cc4 := Kc.out.cell (i := 4) (v := .int .i64 how) rfl
  have cc5 := Kc.out.cell (i := 5) (v := .int .i64 tr) rfl
  have cc6 := Kc.out.cell (i := 6) (v := .bool rv) rfl
  go_wp2_with fail
  with_reducible refine (law16_sane _).mono ?_
  clear cc0 cc1 cc2 cc3 cc4 cc5 cc6
  rintro e x2 ⟨rfl, hy⟩
  replace hx := hx.trans hy
  replace Kc := kE Kc hy
  clear hy
  have cc0 := Kc.out.cell (i := 0) (v := .string nm) rfl
  have cc1 := Kc.out.cell (i := 1) (v := .int .i64 lo) rfl
  have cc2 := Kc.out.cell (i := 2) (v := .int .i64 hi) rfl
  have cc3 := Kc.out.cell (i := 3) (v := .int .i64 st) rfl
  have cc4 := Kc.out.cell (i := 4) (v := .int .i64 how) rfl
  have cc5 := Kc.out.cell (i := 5) (v := .int .i64 tr) rfl
  have cc6 := Kc.out.cell (i := 6) (v := .bool rv) rfl
  go_wp2_with fail
  with_reducible refine (HRt.out _ hx).mono ?_
  clear cc0 cc1 cc2 cc3 cc4 cc5 cc6
  rintro e x3 ⟨rfl, hy⟩
  replace hx := hx.trans hy
  replace Kc := kE Kc hy
  clear hy
  go_wp2_with fail
  go_ret
  exact ⟨rfl, hx⟩
set_option maxHeartbeats 8000000 in
theorem law_CUp_off (c : CritA) (hc : c.In) (a : Option Addr) (cap : Nat) (l : List Int) (at_ m : Int) (ha : 0 ≤ at_ ∧ at_ ≤ 255) (hm : In64 m) (w : World) (h : Ints w a cap l) (hf : rtB c l = true) (ho : onC c m = false) :
    Calls Try.prog 8 #[c.val, .slice a l.length cap, .int .u8 at_, .int .i64 m] w fun e w' => e = .returned (.bool true) ∧ Ext w w' := by
  have hle := h.le
  have hmx := h.mx
  have hb := rtB_yes hf
  have HRt := Lib.hid (fun W (hW : Ext w W) => law16_right c hc a cap l W (h.ext hW))
  rw [hf] at HRt
  have HO := Lib.hid (fun W => ref16_On c hc (rightC_iff.1 hb.r) m hm W)
  rw [ho] at HO
  obtain ⟨nm, lo, hi, st, how, tr, rv⟩ := c
  dsimp only [CritA.val, CritA.cells] at *
  clear h hf hc hb ho
  obtain ⟨x1, hw, hx, Kc⟩ := boxQ1 w #[.string nm, .int .i64 lo, .int .i64 hi, .int .i64 st, .int .i64 how, .int .i64 tr, .bool rv] 48
  replace hw := Lib.hid hw
  go_enter Try.func8, Try.ntmps8
  go_upto_region 1 with fail
  try simp only [Nat.add_assoc, Nat.reduceAdd, Nat.add_zero]
  rw [hw.out]
  clear hw
  have hs0 := hx.size
  have cc0 := Kc.out.cell (i := 0) (v := .string nm) rfl
  have cc1 := Kc.out.cell (i := 1) (v := .int .i64 lo) rfl
  have cc2 := Kc.out.cell (i := 2) (v := .int .i64 hi) rfl
  have cc3 := Kc.out.cell (i := 3) (v := .int .i64 st) rfl
  have cc4 := Kc.out.cell (i := 4) (v := .int .i64 how) rfl
  have cc5 := Kc.out.cell (i := 5) (v := .int .i64 tr) rfl
  have cc6 := Kc.out.cell (i := 6) (v := .bool rv) rfl
  go_wp2_with fail
  with_reducible refine (law16_sane _).mono ?_
  clear cc0 cc1 cc2 cc3 cc4 cc5 cc6
  rintro e x2 ⟨rfl, hy⟩
  replace hx := hx.trans hy
  replace Kc := kE Kc hy
  clear hy
  have cc0 := Kc.out.cell (i := 0) (v := .string nm) rfl
  have cc1 := Kc.out.cell (i := 1) (v := .int .i64 lo) rfl
  have cc2 := Kc.out.cell (i := 2) (v := .int .i64 hi) rfl
  have cc3 := Kc.out.cell (i := 3) (v := .int .i64 st) rfl
  have cc4 := Kc.out.cell (i := 4) (v := .int .i64 how) rfl
  have cc5 := Kc.out.cell (i := 5) (v := .int .i64 tr) rfl
  have cc6 := Kc.out.cell (i := 6) (v := .bool rv) rfl
  go_wp2_with fail
  with_reducible refine (HRt.out _ hx).mono ?_
  clear cc0 cc1 cc2 cc3 cc4 cc5 cc6
  rintro e x3 ⟨rfl, hy⟩
  replace hx := hx.trans hy
  replace Kc := kE Kc hy
  clear hy
  have cc0 := Kc.out.cell (i := 0) (v := .string nm) rfl
  have cc1 := Kc.out.cell (i := 1) (v := .int .i64 lo) rfl
  have cc2 := Kc.out.cell (i := 2) (v := .int .i64 hi) rfl
  have cc3 := Kc.out.cell (i := 3) (v := .int .i64 st) rfl
  have cc4 := Kc.out.cell (i := 4) (v := .int .i64 how) rfl
  have cc5 := Kc.out.cell (i := 5) (v := .int .i64 tr) rfl
  have cc6 := Kc.out.cell (i := 6) (v := .bool rv) rfl
  go_wp2_with fail
  with_reducible refine (HO.out _).mono ?_
  clear cc0 cc1 cc2 cc3 cc4 cc5 cc6
  rintro e x4 ⟨rfl, hy⟩
  replace hx := hx.trans hy
  replace Kc := kE Kc hy
  clear hy
  go_wp2_with fail
  go_ret
  exact ⟨rfl, hx⟩
structure UpF (how tr O N q m x : Int) : Prop where
  e : N = O → q = 0 ∧ m = x
  u : O < N → q ≤ 0
  d : N < O → 0 ≤ q
  s : (how = 1 ∨ how = 2 ∧ tr = 0) → (O < N → q = -1) ∧ (N < O → q = 1)
theorem UpF.of {c : CritA} {l : List Int} {k : Nat} {x y : Int} (hb : RtB c l) (hy : onC c y = true) (hk : l[k]? = some x) : UpF c.how c.tr (turnC c x) (turnC c y) (cmpR (totQ c l) (totQ c (l.set k y))) y x := by
  obtain ⟨h1, h2, h3, h4⟩ := up_law hb hy hk
  exact ⟨h1, h2, h3, h4⟩
set_option maxHeartbeats 8000000 in
theorem law_CUp_ok (c : CritA) (hc : c.In) (a : Option Addr) (cap : Nat) (l : List Int) (at_ m : Int) (ha : 0 ≤ at_ ∧ at_ ≤ 255) (hm : In64 m) (w : World) (h : Ints w a cap l) (hf : rtB c l = true) (ho : onC c m = true) :
    Calls Try.prog 8 #[c.val, .slice a l.length cap, .int .u8 at_, .int .i64 m] w fun e w' => e = .returned (.bool true) ∧ Ext w w' := by
  have hle := h.le
  have hmx := h.mx
  have hb := rtB_yes hf
  have HRt := Lib.hid (fun W (hW : Ext w W) => law16_right c hc a cap l W (h.ext hW))
  rw [hf] at HRt
  have HO := Lib.hid (fun W => ref16_On c hc (rightC_iff.1 hb.r) m hm W)
  rw [ho] at HO
  have hp := hb.p
  have hm20 := hb.m
  have HI := Lib.hid h
  obtain ⟨k, hk⟩ : ∃ k : Nat, at_ % (l.length : Int) = (k : Int) := ⟨(at_ % (l.length : Int)).toNat, by have := Int.emod_nonneg at_ (b := (l.length : Int)) (by omega); omega⟩
  have hkl : k < l.length := by have := Int.emod_lt_of_pos at_ (b := (l.length : Int)) (by omega); omega
  have hk2 : at_.tmod (l.length : Int) = (k : Int) := by rw [Int.tmod_eq_emod_of_nonneg ha.1, hk]
  obtain ⟨x, hxk⟩ : ∃ x, l[k]? = some x := ⟨l[k], by simp [hkl]⟩
  have HXK := Lib.hid hxk
  have hxm := List.mem_of_getElem? hxk
  have HC := Lib.hid (compare_len c hc a cap l (l.set k m) h hb (rt_set hb ho) (by rw [List.length_set]))
  have HB1 := Lib.hid (fun W => better_on c hc hb.r (hb.on x hxm) W)
  have HB2 := Lib.hid (fun W => better_on c hc hb.r ho W)
  have HU := Lib.hid (UpF.of hb ho hxk)
  have HRG := Lib.hid h.rangeV
  have rr := rightC_iff.1 hb.r
  have tb1 := turn_bd rr (hb.on x hxm)
  have tb2 := turn_bd rr ho
  clear rr
  generalize turnC c x = O at *
  generalize turnC c m = N at *
  generalize cmpR (totQ c l) (totQ c (l.set k m)) = q at *
  generalize hn : l.length = n at *
  have HLn := Lib.hid hn
  have t4 : ((n : Int) != 0) = true := by simp; omega
  have t4b : ((n : Int) == 0) = false := beq_false_of_ne (by omega)
  have hk0 : (0 : Int) ≤ (k : Int) := by omega
  have hkn : (k : Int) < (n : Int) := by omega
  obtain ⟨i0, hi0, hz0, hz1, hz2⟩ := info_parts infoI
  obtain ⟨bb, bo, rfl⟩ := h.head (i := k) (by omega)
  obtain ⟨nm, lo, hi, st, how, tr, rv⟩ := c
  dsimp only [CritA.val, CritA.cells] at *
  have HK2 := Lib.hid hk2
  clear h hk hxk hxm hn hk2 hb ho hf hc
  obtain ⟨x1, hw, hx, Kc⟩ := boxQ1 w #[.string nm, .int .i64 lo, .int .i64 hi, .int .i64 st, .int .i64 how, .int .i64 tr, .bool rv] 48
  replace hw := Lib.hid hw
  go_enter Try.func8, Try.ntmps8
  go_upto_region 1 with fail
  try simp only [Nat.add_assoc, Nat.reduceAdd, Nat.add_zero]
  rw [hw.out]
  clear hw
  have hs0 := hx.size
  have cc0 := Kc.out.cell (i := 0) (v := .string nm) rfl
  have cc1 := Kc.out.cell (i := 1) (v := .int .i64 lo) rfl
  have cc2 := Kc.out.cell (i := 2) (v := .int .i64 hi) rfl
  have cc3 := Kc.out.cell (i := 3) (v := .int .i64 st) rfl
  have cc4 := Kc.out.cell (i := 4) (v := .int .i64 how) rfl
  have cc5 := Kc.out.cell (i := 5) (v := .int .i64 tr) rfl
  have cc6 := Kc.out.cell (i := 6) (v := .bool rv) rfl
  go_wp2_with fail
  with_reducible refine (law16_sane _).mono ?_
  clear cc0 cc1 cc2 cc3 cc4 cc5 cc6
  rintro e x2 ⟨rfl, hy⟩
  replace hx := hx.trans hy
  replace Kc := kE Kc hy
  clear hy
  have cc0 := Kc.out.cell (i := 0) (v := .string nm) rfl
  have cc1 := Kc.out.cell (i := 1) (v := .int .i64 lo) rfl
  have cc2 := Kc.out.cell (i := 2) (v := .int .i64 hi) rfl
  have cc3 := Kc.out.cell (i := 3) (v := .int .i64 st) rfl
  have cc4 := Kc.out.cell (i := 4) (v := .int .i64 how) rfl
  have cc5 := Kc.out.cell (i := 5) (v := .int .i64 tr) rfl
  have cc6 := Kc.out.cell (i := 6) (v := .bool rv) rfl
  go_wp2_with fail
  with_reducible refine (HRt.out _ hx).mono ?_
  clear cc0 cc1 cc2 cc3 cc4 cc5 cc6
  rintro e x3 ⟨rfl, hy⟩
  replace hx := hx.trans hy
  replace Kc := kE Kc hy
  clear hy
  have cc0 := Kc.out.cell (i := 0) (v := .string nm) rfl
  have cc1 := Kc.out.cell (i := 1) (v := .int .i64 lo) rfl
  have cc2 := Kc.out.cell (i := 2) (v := .int .i64 hi) rfl
  have cc3 := Kc.out.cell (i := 3) (v := .int .i64 st) rfl
  have cc4 := Kc.out.cell (i := 4) (v := .int .i64 how) rfl
  have cc5 := Kc.out.cell (i := 5) (v := .int .i64 tr) rfl
  have cc6 := Kc.out.cell (i := 6) (v := .bool rv) rfl
  go_wp2_with fail
  with_reducible refine (HO.out _).mono ?_
  clear cc0 cc1 cc2 cc3 cc4 cc5 cc6
  rintro e x4 ⟨rfl, hy⟩
  replace hx := hx.trans hy
  replace Kc := kE Kc hy
  clear hy
  have hk2 := HK2.out
  go_upto_region 6 with fail
  clear hk2
  have hI6a := Lib.hid ((HI.out.ext hx).ext (Ext.alloc x4 (.cells #[] 3)))
  have hown0 := (OwnI.new x4).own
  have hxo := hx.alloc' (.cells #[] 3)
  have hcB : w.heap.size < Array.size (World.heap x4) := Kc.out.lt
  go_upto_region 7 with (at_builtin; refine wpList_append_own_at _ rfl (.tmp 34) (.tmp 35) 27 rfl (Array.size (World.heap x4)) 3 i0 (.int .i64 0) 1 8 Try.underlying27 hi0 hz0 hz1 hz2 rfl (by decide) (.slice (some ⟨Array.size (World.heap x4), 0, none⟩) 0 0) 0 [] rfl hown0 ⟨bb, bo, none⟩ n cap (l.map (Value.int .i64)) rfl (by rw [List.length_map, Nat.mul_one]; exact HLn.out) (hI6a.out.newsV) (fun u hu => by obtain ⟨z, _, rfl⟩ := List.mem_map.1 hu; rfl) (by unfold maxLen; omega) (by omega) (by simp) ?_; intro v1 x9 hown1 hgrow1 hnil1 hat1)
  have hO : OwnI x9 (Array.size (World.heap x4)) v1 l := ⟨fun e => by have := (hnil1.1 e).2; omega, by rw [HLn.out]; simpa using hown1⟩
  have hy9 : Ext x4 x9 := Below.grown (Ext.alloc x4 (.cells #[] 3)) hgrow1 (by simp) (fun j e => by simp only [Value.ownBlock, Option.some.injEq] at e; omega)
  obtain ⟨g, cp, rfl, hg1, hg2, hg3, hg4⟩ := hO.form
  rw [HLn.out]
  rw [HLn.out] at hg3 hO
  have HI9 := Lib.hid (hO.ints HRG.out).2
  have ef := hO.freeV k
  have ec := HI9.out.atV HXK.out
  clear hown1 hgrow1 hnil1 hat1 hown0 hO hxo
  replace hx := hx.trans hy9
  replace Kc := kE Kc hy9
  clear hy9
  go_upto_region 8 with fail
  have hx10 := hx.set (p := ⟨g, k, none⟩) (by dsimp only; omega) (.int .i64 m)
  have HI10 := Lib.hid (HI9.out.putV (i := k) hm)
  have Kc10 := Lib.hid (Kc.out.other (p := ⟨g, k, none⟩) (by dsimp only; omega) (.int .i64 m))
  clear hx Kc HI9 ef ec
  generalize x9.setCell ⟨g, k, none⟩ (.int .i64 m) = y0 at *
  have hx := hx10
  have Kc := Kc10
  clear hx10 Kc10
  have HCX : Hid (World.cell? y0 ⟨bb, bo + k, none⟩ = some (.int .i64 x)) := Lib.hid (by
    obtain ⟨x', e1, e2, _⟩ := Ints.get (HI.out.ext hx) (i := k) (by rw [HLn.out]; omega)
    rw [HXK.out] at e1; cases e1; exact e2)
  have lx := later_cell HCX.out
  have l0 := later_cell (Kc.out.cell (i := 0) (v := .string nm) rfl)
  have l1 := later_cell (Kc.out.cell (i := 1) (v := .int .i64 lo) rfl)
  have l2 := later_cell (Kc.out.cell (i := 2) (v := .int .i64 hi) rfl)
  have l3 := later_cell (Kc.out.cell (i := 3) (v := .int .i64 st) rfl)
  have l4 := later_cell (Kc.out.cell (i := 4) (v := .int .i64 how) rfl)
  have l5 := later_cell (Kc.out.cell (i := 5) (v := .int .i64 tr) rfl)
  have l6 := later_cell (Kc.out.cell (i := 6) (v := .bool rv) rfl)
  have CB := Lib.hid (fun W : Later y0 => callLater (W := W) (HB1.out W.1))
  refine wp_region_later (by kernel_rfl) (by kernel_rfl) ?_; repeat (go_big_quiet_step ((go_at_call 22; exact CB.out _)))
  refine wpQuiet_nil ?_; rintro _ ⟨⟨W1, HW1⟩, rfl⟩; (try dsimp only)
  clear lx l0 l1 l2 l3 l4 l5 l6 CB
  have HCX := Lib.hid ((HW1.cell (p := ⟨bb, bo + k, none⟩) (lt_of_cell HCX.out)).trans HCX.out)
  replace hx := hx.trans HW1
  replace Kc := kE Kc HW1
  replace HI10 := Lib.hid (HI10.out.ext HW1)
  clear HW1
  have cc0 := Kc.out.cell (i := 0) (v := .string nm) rfl
  have cc1 := Kc.out.cell (i := 1) (v := .int .i64 lo) rfl
  have cc2 := Kc.out.cell (i := 2) (v := .int .i64 hi) rfl
  have cc3 := Kc.out.cell (i := 3) (v := .int .i64 st) rfl
  have cc4 := Kc.out.cell (i := 4) (v := .int .i64 how) rfl
  have cc5 := Kc.out.cell (i := 5) (v := .int .i64 tr) rfl
  have cc6 := Kc.out.cell (i := 6) (v := .bool rv) rfl
  go_wp2_with fail
  with_reducible refine (HB2.out _).mono ?_
  clear cc0 cc1 cc2 cc3 cc4 cc5 cc6
  rintro e x5 ⟨rfl, hy⟩
  replace hx := hx.trans hy
  replace Kc := kE Kc hy
  replace HI10 := Lib.hid (HI10.out.ext hy)
  clear hy
  have cc0 := Kc.out.cell (i := 0) (v := .string nm) rfl
  have cc1 := Kc.out.cell (i := 1) (v := .int .i64 lo) rfl
  have cc2 := Kc.out.cell (i := 2) (v := .int .i64 hi) rfl
  have cc3 := Kc.out.cell (i := 3) (v := .int .i64 st) rfl
  have cc4 := Kc.out.cell (i := 4) (v := .int .i64 how) rfl
  have cc5 := Kc.out.cell (i := 5) (v := .int .i64 tr) rfl
  have cc6 := Kc.out.cell (i := 6) (v := .bool rv) rfl
  go_wp2_with fail
  with_reducible refine (HC.out _ _ _ hx HI10.out).mono ?_
  clear cc0 cc1 cc2 cc3 cc4 cc5 cc6
  rintro e x6 ⟨rfl, hy⟩
  replace hx := hx.trans hy
  replace Kc := kE Kc hy
  replace HI10 := Lib.hid (HI10.out.ext hy)
  clear hy
  have HCX : Hid (World.cell? x6 ⟨bb, bo + k, none⟩ = some (.int .i64 x)) := Lib.hid (by
    obtain ⟨x', e1, e2, _⟩ := Ints.get (HI.out.ext hx) (i := k) (by rw [HLn.out]; omega)
    rw [HXK.out] at e1; cases e1; exact e2)
  have ecx := HCX.out
  have cc0 := Kc.out.cell (i := 0) (v := .string nm) rfl
  have cc1 := Kc.out.cell (i := 1) (v := .int .i64 lo) rfl
  have cc2 := Kc.out.cell (i := 2) (v := .int .i64 hi) rfl
  have cc3 := Kc.out.cell (i := 3) (v := .int .i64 st) rfl
  have cc4 := Kc.out.cell (i := 4) (v := .int .i64 how) rfl
  have cc5 := Kc.out.cell (i := 5) (v := .int .i64 tr) rfl
  have cc6 := Kc.out.cell (i := 6) (v := .bool rv) rfl
  by_cases hNO : N = O
  · obtain ⟨rfl, rfl⟩ := HU.out.e hNO
    subst hNO
    go_wp2_with fail
    go_ret
    exact ⟨rfl, hx⟩
  have tNO : (N == O) = false := beq_false_of_ne hNO
  by_cases h1 : how = 1 ∨ how = 2 ∧ tr = 0
  · have h3 : O < N ∧ q = -1 ∨ N < O ∧ q = 1 := by
      rcases Int.lt_or_gt_of_ne hNO with h | h
      · exact .inr ⟨h, (HU.out.s h1).2 h⟩
      · exact .inl ⟨h, (HU.out.s h1).1 h⟩
    rcases h1 with h1 | ⟨h1, h2⟩
    · subst h1
      rcases h3 with ⟨h3, rfl⟩ | ⟨h3, rfl⟩
      · go_wp2_with fail
        go_ret
        exact ⟨rfl, hx⟩
      · have h4 : decide (O < N) = false := decide_eq_false (Int.lt_asymm h3)
        go_wp2_with fail
        go_ret
        exact ⟨rfl, hx⟩
    · subst h1 h2
      rcases h3 with ⟨h3, rfl⟩ | ⟨h3, rfl⟩
      · go_wp2_with fail
        go_ret
        exact ⟨rfl, hx⟩
      · have h4 : decide (O < N) = false := decide_eq_false (Int.lt_asymm h3)
        go_wp2_with fail
        go_ret
        exact ⟨rfl, hx⟩
  · have h5 : O < N ∧ q ≤ 0 ∨ N < O ∧ 0 ≤ q := by
      rcases Int.lt_or_gt_of_ne hNO with h | h
      · exact .inr ⟨h, HU.out.d h⟩
      · exact .inl ⟨h, HU.out.u h⟩
    have t1 : (how == 1) = false := beq_false_of_ne (fun e => h1 (.inl e))
    by_cases h2 : how = 2
    · subst h2
      have t3 : (tr == 0) = false := beq_false_of_ne (fun e => h1 (.inr ⟨rfl, e⟩))
      clear h1
      rcases h5 with ⟨h3, h4⟩ | ⟨h3, h4⟩
      all_goals
        have h6 := Int.lt_asymm h3
        go_wp2_with fail
        go_ret
        exact ⟨by simp [h4], hx⟩
    · have t2 : (how == 2) = false := beq_false_of_ne h2
      clear h1
      rcases h5 with ⟨h3, h4⟩ | ⟨h3, h4⟩
      all_goals
        have h6 := Int.lt_asymm h3
        go_wp2_with fail
        go_ret
        exact ⟨by simp [h4], hx⟩
theorem law_CUp (c : CritA) (a : Option Addr) (cap : Nat) (l : List Int) (at_ m : Int) (w : World) (hc : c.In) (h : Ints w a cap l) (ha : 0 ≤ at_ ∧ at_ ≤ 255) (hm : In64 m) :
    Calls Try.prog 8 #[c.val, .slice a l.length cap, .int .u8 at_, .int .i64 m] w fun e w' => e = .returned (.bool true) ∧ Ext w w' := by
  cases hf : rtB c l
  · exact law_CUp_no c hc a cap l at_ m ha hm w h hf
  cases ho : onC c m
  · exact law_CUp_off c hc a cap l at_ m ha hm w h hf ho
  · exact law_CUp_ok c hc a cap l at_ m ha hm w h hf ho
end Go.Proofs.Ytmcbbhlglccmgaa

namespace Go.Proofs.Ytmcbbhlglccmgaa
open Go.ChangeShapes Go.WideShapes Go.ChangeAt Go.RowKit
set_option linter.unusedVariables false
set_option maxRecDepth 100000

theorem ownCombineUp : ownKnob Try.prog.godebug = none := by kernel_rfl
theorem laidOutCombineUp : laidOutB Try.prog = true := by kernel_rfl

theorem liftedCombineUp (os : Os) (started : os.Started) (H : Type) (enc : TypeId × Value → H) :
    ReturnsInHanded {} Try.checked os 8 .any (Rows.combineUpSpec.pre6 enc Try.prog Try.f8 Rows.combineUpRow.domain false) (Rows.combineUpSpec.post enc Try.prog Try.f8 false true false false) := by
  refine returnsInHanded_of_change (C := Try.checked) ownCombineUp started (by kernel_rfl) Try.func8
    (ChangeSpec.witness6 (enc := enc) (C := Try.checked) false ⟨#[], #[.agg #[.string ⟨#[]⟩, .int .i64 0, .int .i64 0, .int .i64 0, .int .i64 0, .int .i64 0, .bool false], .slice none 0 0, .int .u8 0, .int .i64 0], []⟩ 8 (by kernel_rfl) (by kernel_rfl) (by kernel_rfl) (by kernel_rfl)) ?_
  intro W base args ds gs before hval0 hW hcnd _
  have hval : ∀ (j : Nat) t v, Try.f8.params[j]? = some t → args[j]? = some v → Value.okWide Try.prog W .any base t v := hval0
  have hW' := hW
  obtain ⟨p, q, hA0, hV, rfl, hfz, hnd⟩ := hW
  have hA : DataW.TrodAll enc Try.prog W 0 (fun _ => true) true Try.f8.params.toList args.toList ds p := hA0
  rw [Try.params8] at hA hval
  obtain ⟨v0, vs0, d0, ds0, p0, q0, hargs, rfl, rfl, h0, r0⟩ := trodAll_cons hA
  obtain ⟨v1, vs1, d1, ds1, p1, q1, rfl, rfl, rfl, h1, r1⟩ := trodAll_cons r0
  obtain ⟨v2, vs2, d2, ds2, p2, q2, rfl, rfl, rfl, h2, r2⟩ := trodAll_cons r1
  obtain ⟨v3, vs3, d3, ds3, p3, q3, rfl, rfl, rfl, h3, r3⟩ := trodAll_cons r2
  obtain ⟨rfl, rfl, rfl⟩ := trodAll_nil r3
  obtain rfl : args = #[v0, v1, v2, v3] := by cases args; simp_all
  obtain ⟨rfl, rfl⟩ := trodVars_none hV
  have k0 := h0
  have lt0 : ∀ x ∈ p0, x.block < W.heap.size := by obtain ⟨m, hm⟩ := k0; exact DataW.trod_lt m _ _ _ hm
  have k1 := h1
  have lt1 : ∀ x ∈ p1, x.block < W.heap.size := by obtain ⟨m, hm⟩ := k1; exact DataW.trod_lt m _ _ _ hm
  have k2 := h2
  have lt2 : ∀ x ∈ p2, x.block < W.heap.size := by obtain ⟨m, hm⟩ := k2; exact DataW.trod_lt m _ _ _ hm
  have k3 := h3
  have lt3 : ∀ x ∈ p3, x.block < W.heap.size := by obtain ⟨m, hm⟩ := k3; exact DataW.trod_lt m _ _ _ hm
  obtain ⟨c0, rfl, w0⟩ := open_crit (hval 0 48 v0 rfl rfl) h0
  obtain ⟨a1, cap1, l1, rfl, w1⟩ := open_ints1 (hval 1 27 v1 rfl rfl) h1
  obtain ⟨n2, rfl, w2⟩ := open_u8 (hval 2 5 v2 rfl rfl) h2
  obtain ⟨n3, rfl, w3⟩ := open_i64 (hval 3 3 v3 rfl rfl) h3
  clear hA0 hval0
  refine (law_CUp c0 a1 cap1 l1 n2 n3 W w0 w1 w2 w3).mono fun e W' ⟨he, bel⟩ => ?_
  subst he
  exact ⟨_, rfl, _, _, _, [], _, [], hW', trodAll_mk1 (shut_bool Try.underlying4 _), (trodAll_cons_mk (Below.trod laidOutCombineUp (by kernel_rfl) (of_decide_eq_true (by kernel_rfl)) k0 bel lt0) (trodAll_cons_mk (Below.trod laidOutCombineUp (by kernel_rfl) (of_decide_eq_true (by kernel_rfl)) k1 bel lt1) (trodAll_cons_mk (Below.trod laidOutCombineUp (by kernel_rfl) (of_decide_eq_true (by kernel_rfl)) k2 bel lt2) (trodAll_cons_mk (Below.trod laidOutCombineUp (by kernel_rfl) (of_decide_eq_true (by kernel_rfl)) k3 bel lt3) trodAll_mk0)))), rfl, bel.frame _, fun h => by cases h⟩

theorem combineUp_holds : Rows.CombineUpSaid :=
  OpenClaim.holds_of_wide 8 Try.f8 rfl rfl rfl rfl rfl rfl rfl ⟨rfl, rfl, rfl, rfl, rfl⟩ rfl rfl rfl rfl rfl (by kernel_rfl) Try.func8 (by kernel_rfl)
    (of_decide_eq_true (by kernel_rfl)) (by unfold Func.isWrapper; rw [if_neg (of_decide_eq_false (by kernel_rfl))]; exact ⟨rfl, rfl⟩)
    (fun os started H enc _ => liftedCombineUp os started H enc)

#print axioms combineUp_holds
end Go.Proofs.Ytmcbbhlglccmgaa

