import Derived.Test.YtmcbbhlglccmgaaGreatQ4
import Derived.Deep.Cut
import Derived.Test.YtmcbbhlglccmgaaGreatQM2
import Derived.Test.YtmcbbhlglccmgaaGreatQ3
namespace Go.Proofs.YtmcbbhlglccmgaaGreat
open Go.RowKit Go BigFrame
set_option maxRecDepth 100000
set_option linter.unusedSimpArgs false
set_option linter.unusedVariables false

/-! ref10.SameBig, Same, FewBig, Few; law10.big, small. -/
theorem take_snocS {l : List Int} {k : Nat} (hk : k < l.length) : l.take (k + 1) = l.take k ++ [l.getD k 0] := by
  rw [List.take_add_one, List.getElem?_eq_getElem hk]; simp [List.getD, hk]
theorem Ints.at0S {w : World} {a : Option Addr} {cap nn : Nat} {l : List Int} (h : Ints w a cap l) (hl : l.length = nn) {i : Nat} (hi : i < nn) : ∃ b o, a = some ⟨b, o, none⟩ ∧ ∀ j, j < nn → w.cell? ⟨b, o + j, none⟩ = some (.int .i64 (l.getD j 0)) := by
  obtain ⟨b, o, rfl⟩ := h.head (i := i) (by omega)
  refine ⟨b, o, rfl, fun j hj => ?_⟩
  have := (h.cell (i := j) (by omega)).1
  rw [this]
  simp [List.getD, show j < l.length by omega]

set_option maxHeartbeats 1000000 in
theorem sameBig_raw {x y : Value} {n n2 : Bool} {l l2 : List Int} {w : World} (h : BigR w x n l) (h2 : BigR w y n2 l2) :
    Calls Tryz.prog 47 #[x, y] w fun e w' => e = .returned (.bool (decide (n = n2 ∧ l = l2))) ∧ Ext w w' := by
  obtain ⟨a, cap, rfl, hi⟩ := h
  obtain ⟨a2, cap2, rfl, hi2⟩ := h2
  obtain ⟨B, hB⟩ : ∃ B, decide (n = n2 ∧ l = l2) = B := ⟨_, rfl⟩
  rw [hB]
  have hle := hi.le
  have hmx := hi.mx
  have hle2 := hi2.le
  have hmx2 := hi2.mx
  obtain ⟨p, hp⟩ : ∃ p, l.length = p := ⟨_, rfl⟩
  obtain ⟨q, hq⟩ : ∃ q, l2.length = q := ⟨_, rfl⟩
  rw [hp] at hle ⊢
  rw [hq] at hle2 ⊢
  have hx : Ext w ((w.alloc (.cells #[.bool n, .slice a p cap] 32)).alloc (.cells #[.bool n2, .slice a2 q cap2] 32)) := (by repeat (first | with_reducible exact Ext.refl _ | with_reducible assumption | with_reducible refine Ext.drewN ?_ _ | with_reducible refine Ext.drew ?_ | with_reducible refine Ext.alloc' ?_ _ | with_reducible refine Ext.set ?_ (by dsimp only; omega) _))
  have k0 := Lib.hid ((Blk.new0 w #[.bool n, .slice a p cap] 32).alloc (.cells #[.bool n2, .slice a2 q cap2] 32))
  have k1 := Lib.hid (Blk.new1 w (.cells #[.bool n, .slice a p cap] 32) #[.bool n2, .slice a2 q cap2] 32)
  have HI := Lib.hid (hi.ext hx)
  have HI2 := Lib.hid (hi2.ext hx)
  have HB := Lib.hid hB
  have HP := Lib.hid hp
  have HQ := Lib.hid hq
  clear hi hi2 hB hp hq
  go_enter Tryz.func47, Tryz.ntmps47
  go_upto_region 1 with fail
  generalize (w.alloc (.cells #[.bool n, .slice a p cap] 32)).alloc (.cells #[.bool n2, .slice a2 q cap2] 32) = w1 at *
  have c0 := k0.out.cell (i := 0) (v := .bool n) rfl
  have c1 := k0.out.cell (i := 1) (v := .slice a p cap) rfl
  have e0 := k1.out.cell (i := 0) (v := .bool n2) rfl
  have e1 := k1.out.cell (i := 1) (v := .slice a2 q cap2) rfl
  by_cases hn : n = n2
  · subst hn
    have d1 : (n != n) = false := by simp
    by_cases hl : p = q
    · subst hl
      have d2 : ((p : Int) != (p : Int)) = false := by simp
      go_wp2_with fail
      clear c0 e0
      go_loopw [5] (fun i wr => ∃ k : Nat, k ≤ p ∧ i = .int .i64 k ∧ Hid (l.take k = l2.take k) ∧ Ext w1 wr) (fun i _ => p - (intOf i).toNat)
      case atStart => exact ⟨0, Nat.zero_le _, rfl, Lib.hid rfl, Ext.refl _⟩
      case round =>
        clear c1 e1
        obtain ⟨k, hk, rfl, hno, hxr⟩ := hrel
        have c1 := (k0.out.ext hxr).cell (i := 1) (v := .slice a p cap) rfl
        have e1 := (k1.out.ext hxr).cell (i := 1) (v := .slice a2 p cap2) rfl
        by_cases hkn : k < p
        · obtain ⟨b1, q1, rfl, ha⟩ := (HI.out.ext hxr).at0S HP.out hkn
          obtain ⟨b2, q2, rfl, hb⟩ := (HI2.out.ext hxr).at0S HQ.out hkn
          have ea := ha k hkn
          have eb := hb k hkn
          clear ha hb
          have hT1 := Lib.hid (take_snocS (l := l) (k := k) (by rw [HP.out]; exact hkn))
          have hT2 := Lib.hid (take_snocS (l := l2) (k := k) (by rw [HQ.out]; exact hkn))
          have g1 : (0 : Int) ≤ (k : Int) := by omega
          have g2 : (k : Int) < (p : Int) := by omega
          obtain ⟨x, hx⟩ : ∃ x, l.getD k 0 = x := ⟨_, rfl⟩
          obtain ⟨y, hy⟩ : ∃ y, l2.getD k 0 = y := ⟨_, rfl⟩
          rw [hx] at ea hT1
          rw [hy] at eb hT2
          by_cases he : x = y
          · have d3 : (x != y) = false := by simpa using he
            have HE := Lib.hid he
            clear hx hy he
            go_wp2_with fail
            go_quiet (fail)
            go_wp2_with fail
            go_roundw
            case rel => exact ⟨k + 1, by omega, by go_num, Lib.hid (by rw [hT1.out, hT2.out, hno.out, HE.out]), hxr.drewN _⟩
            case measure => simp [intOf]; omega
          · have d3 : (x != y) = true := by simpa using he
            have d4 : (x == y) = false := by simpa using he
            have hBf : B = false := by
              rw [← HB.out, decide_eq_false_iff_not]
              rintro ⟨_, rfl⟩
              exact he (hx.symm.trans hy)
            subst hBf
            clear hx hy he
            go_wp2_with fail
            go_quiet (fail)
            go_wp2_with fail
            go_ret
            exact ⟨rfl, (hx.trans hxr).drewN _⟩
        · obtain rfl : k = p := by omega
          have hBt : B = true := by
            rw [← HB.out, decide_eq_true_iff]
            refine ⟨by trivial, ?_⟩
            have h := hno.out
            rwa [List.take_of_length_le (by rw [HP.out]; exact Nat.le_refl _), List.take_of_length_le (by rw [HQ.out]; exact Nat.le_refl _)] at h
          subst hBt
          go_wp2_with fail
          go_ret
          exact ⟨rfl, hx.trans hxr⟩
    · have d2 : ((p : Int) != (q : Int)) = true := by simp; omega
      have d4 : ((p : Int) == (q : Int)) = false := by simp; omega
      have hBf : B = false := by
        rw [← HB.out, decide_eq_false_iff_not]
        rintro ⟨_, rfl⟩
        exact hl (HP.out.symm.trans HQ.out)
      subst hBf
      clear hl
      go_wp2_with fail
      go_ret
      first | exact ⟨rfl, hx⟩ | exact ⟨trivial, hx⟩
  · have d1 : (n != n2) = true := by simpa using hn
    have hBf : B = false := by
      rw [← HB.out, decide_eq_false_iff_not]
      exact fun h => hn h.1
    subst hBf
    go_wp2_with fail
    go_ret
    first | exact ⟨rfl, hx⟩ | exact ⟨trivial, hx⟩
theorem sameBig_val {x y : Value} {z z2 : Int} {w : World} (h : BigV w x z) (h2 : BigV w y z2) :
    Calls Tryz.prog 47 #[x, y] w fun e w' => e = .returned (.bool (decide (z = z2))) ∧ Ext w w' := by
  obtain ⟨n, l, r, b⟩ := h
  obtain ⟨n2, l2, r2, b2⟩ := h2
  have := sameBig_raw r r2
  rwa [decide_eq_decide.2 (b.same b2)] at this

theorem same_no {nx mx ny my : Bool} {ax bx ay by_ : Option Addr} {qx cx kx dx qy cy ky dy : Nat} {z1 y1 z2 y2 : Int} {w : World} (h1 : BigV w (.agg #[.bool nx, .slice ax qx cx]) z1) (h2 : BigV w (.agg #[.bool mx, .slice bx kx dx]) y1) (h3 : BigV w (.agg #[.bool ny, .slice ay qy cy]) z2) (h4 : BigV w (.agg #[.bool my, .slice by_ ky dy]) y2) (hc : decide (z1 = z2) = false) : Calls Tryz.prog 17 #[.agg #[.bool nx, .slice ax qx cx, .bool mx, .slice bx kx dx], .agg #[.bool ny, .slice ay qy cy, .bool my, .slice by_ ky dy]] w fun e w' => e = .returned (.bool false) ∧ Ext w w' := by
  have H1 := Lib.hid (fun W (hy : Ext w W) => sameBig_val (h1.ext hy) (h3.ext hy))
  have H2 := Lib.hid (fun W (hy : Ext w W) => sameBig_val (h2.ext hy) (h4.ext hy))
  rw [hc] at H1
  clear h1 h2 h3 h4 hc
  generalize decide (y1 = y2) = B at *
  obtain ⟨x1, hw, hx, Kx, Ky⟩ := boxQ2 w #[.bool nx, .slice ax qx cx, .bool mx, .slice bx kx dx] 34 #[.bool ny, .slice ay qy cy, .bool my, .slice by_ ky dy] 34
  replace hw := Lib.hid hw
  go_enter Tryz.func17, Tryz.ntmps17
  go_upto_region 1 with fail
  try simp only [Nat.add_assoc, Nat.reduceAdd, Nat.add_zero]
  rw [hw.out]
  clear hw
  have hs0 := hx.size
  obtain ⟨cx0, cx1, cx2, cx3⟩ := bk4 Kx
  obtain ⟨cy0, cy1, cy2, cy3⟩ := bk4 Ky
  go_wp2_with fail
  with_reducible refine (H1.out _ hx).mono ?_
  clear cx0 cx1 cx2 cx3 cy0 cy1 cy2 cy3
  rintro e x2 ⟨rfl, hy⟩
  replace hx := hx.trans hy
  replace Kx := kE Kx hy
  replace Ky := kE Ky hy
  clear hy
  go_wp2_with fail
  go_ret
  exact ⟨rfl, hx⟩
theorem same_yes {nx mx ny my : Bool} {ax bx ay by_ : Option Addr} {qx cx kx dx qy cy ky dy : Nat} {z1 y1 z2 y2 : Int} {w : World} (h1 : BigV w (.agg #[.bool nx, .slice ax qx cx]) z1) (h2 : BigV w (.agg #[.bool mx, .slice bx kx dx]) y1) (h3 : BigV w (.agg #[.bool ny, .slice ay qy cy]) z2) (h4 : BigV w (.agg #[.bool my, .slice by_ ky dy]) y2) (hc : decide (z1 = z2) = true) : Calls Tryz.prog 17 #[.agg #[.bool nx, .slice ax qx cx, .bool mx, .slice bx kx dx], .agg #[.bool ny, .slice ay qy cy, .bool my, .slice by_ ky dy]] w fun e w' => e = .returned (.bool (decide (y1 = y2))) ∧ Ext w w' := by
  have H1 := Lib.hid (fun W (hy : Ext w W) => sameBig_val (h1.ext hy) (h3.ext hy))
  have H2 := Lib.hid (fun W (hy : Ext w W) => sameBig_val (h2.ext hy) (h4.ext hy))
  rw [hc] at H1
  clear h1 h2 h3 h4 hc
  generalize decide (y1 = y2) = B at *
  obtain ⟨x1, hw, hx, Kx, Ky⟩ := boxQ2 w #[.bool nx, .slice ax qx cx, .bool mx, .slice bx kx dx] 34 #[.bool ny, .slice ay qy cy, .bool my, .slice by_ ky dy] 34
  replace hw := Lib.hid hw
  go_enter Tryz.func17, Tryz.ntmps17
  go_upto_region 1 with fail
  try simp only [Nat.add_assoc, Nat.reduceAdd, Nat.add_zero]
  rw [hw.out]
  clear hw
  have hs0 := hx.size
  obtain ⟨cx0, cx1, cx2, cx3⟩ := bk4 Kx
  obtain ⟨cy0, cy1, cy2, cy3⟩ := bk4 Ky
  go_wp2_with fail
  with_reducible refine (H1.out _ hx).mono ?_
  clear cx0 cx1 cx2 cx3 cy0 cy1 cy2 cy3
  rintro e x2 ⟨rfl, hy⟩
  replace hx := hx.trans hy
  replace Kx := kE Kx hy
  replace Ky := kE Ky hy
  clear hy
  obtain ⟨cx0, cx1, cx2, cx3⟩ := bk4 Kx
  obtain ⟨cy0, cy1, cy2, cy3⟩ := bk4 Ky
  go_wp2_with fail
  with_reducible refine (H2.out _ hx).mono ?_
  clear cx0 cx1 cx2 cx3 cy0 cy1 cy2 cy3
  rintro e x3 ⟨rfl, hy⟩
  replace hx := hx.trans hy
  replace Kx := kE Kx hy
  replace Ky := kE Ky hy
  clear hy
  go_wp2_with fail
  go_ret
  exact ⟨rfl, hx⟩
theorem same_val {nx mx ny my : Bool} {ax bx ay by_ : Option Addr} {qx cx kx dx qy cy ky dy : Nat} {z1 y1 z2 y2 : Int} {w : World} (h1 : BigV w (.agg #[.bool nx, .slice ax qx cx]) z1) (h2 : BigV w (.agg #[.bool mx, .slice bx kx dx]) y1) (h3 : BigV w (.agg #[.bool ny, .slice ay qy cy]) z2) (h4 : BigV w (.agg #[.bool my, .slice by_ ky dy]) y2) : Calls Tryz.prog 17 #[.agg #[.bool nx, .slice ax qx cx, .bool mx, .slice bx kx dx], .agg #[.bool ny, .slice ay qy cy, .bool my, .slice by_ ky dy]] w fun e w' => e = .returned (.bool (decide (z1 = z2 ∧ y1 = y2))) ∧ Ext w w' := by
  by_cases h : z1 = z2
  · have := same_yes h1 h2 h3 h4 (decide_eq_true h)
    rw [show decide (z1 = z2 ∧ y1 = y2) = decide (y1 = y2) by simp [h]]; exact this
  · have := same_no h1 h2 h3 h4 (decide_eq_false h)
    rw [decide_eq_false (fun e => h e.1)]; exact this
theorem same_rat {v u : Value} {r s : Rat} {w : World} (hv : RatV w v r) (hu : RatV w u s) : Calls Tryz.prog 17 #[v, u] w fun e w' => e = .returned (.bool (decide (r = s))) ∧ Ext w w' := by
  obtain ⟨nx, ax, qx, cx, bx, kx, dx, rfl⟩ := hv.form
  obtain ⟨ny, ay, qy, cy, by_, ky, dy, rfl⟩ := hu.form
  have := same_val hv.num hv.den hu.num hu.den
  rw [show decide (r = s) = decide (r.num = s.num ∧ (r.den : Int) = s.den) from decide_eq_decide.2 ⟨fun e => by rw [e]; exact ⟨rfl, rfl⟩, fun ⟨a, b⟩ => Rat.ext a (by omega)⟩]
  exact this
theorem same_zero (w : World) : Calls Tryz.prog 17 #[zeroRat, zeroRat] w fun e w' => e = .returned (.bool true) ∧ Ext w w' := by
  have := same_val (BigV.zero w) (BigV.zero w) (BigV.zero w) (BigV.zero w)
  simpa using this
def fewQ (k n : Nat) : Bool := decide (k ≤ n) || (decide (2048 < k) && decide (k ≤ 2052))
end Go.Proofs.YtmcbbhlglccmgaaGreat

namespace Go.Proofs.YtmcbbhlglccmgaaGreat
open Go.RowKit Go BigFrame
set_option maxRecDepth 100000
set_option linter.unusedSimpArgs false
set_option linter.unusedVariables false

/-! ratio.Make, Cmp, Add, Mul, Quo, Sub, Floor. -/
theorem ratio_of_val {v u : Value} {z y : Int} {w : World} (hv : BigV w v z) (hu : BigV w u y) (hz : Len z) (hy : Len y) (h0 : y ≠ 0) : Calls Tryz.prog 30 #[v, u] w (RatP (Rat.divInt z y) w) := by
  obtain ⟨n1, l, ⟨a, ca, rfl, hi⟩, hb⟩ := hv
  obtain ⟨n2, m, ⟨b, cb, rfl, hj⟩, hc⟩ := hu
  have e1 : sgn n1 (dval l) = z := hb.2.2.symm
  have e2 : sgn n2 (dval m) = y := hc.2.2.symm
  have hm : 0 < m.length := List.length_pos_iff.2 (fun e => h0 (by rw [← e2, e]; cases n2 <;> rfl))
  have := ratio_Of_ok n1 n2 a b ca cb l m w hi hj (hb.chk hz) (hc.chk hy) hm
  rw [e1, e2] at this
  exact this
theorem len_i64 {n : Int} (h : -9223372036854775808 ≤ n ∧ n ≤ 9223372036854775807) : Len n := len_lt (n := 3) (by omega) (by omega)
theorem ratio_Make (n d : Int) (w : World) (hn : -9223372036854775808 ≤ n ∧ n ≤ 9223372036854775807) (hd : -9223372036854775808 ≤ d ∧ d ≤ 9223372036854775807) (h0 : d ≠ 0) : Calls Tryz.prog 81 #[.int .i64 n, .int .i64 d] w (RatP (Rat.divInt n d) w) := by
  have HN := Lib.hid hn
  have HD := Lib.hid hd
  have H0 := Lib.hid h0
  clear hn hd h0
  obtain ⟨x1, hw, hx, Kr⟩ := boxQ1 w #[.bool false, .slice none 0 0, .bool false, .slice none 0 0] 34
  replace hw := Lib.hid hw
  go_enter Tryz.func81, Tryz.ntmps81
  go_upto_region 1 with fail
  try simp only [Nat.add_assoc, Nat.reduceAdd, Nat.add_zero]
  rw [hw.out]
  clear hw
  have hs0 := hx.size
  obtain ⟨cr0, cr1, cr2, cr3⟩ := bk4 Kr
  have hsz := hx.size
  go_wp2_with fail
  with_reducible refine (nat_Make n _ HN.out).mono ?_
  clear cr0 cr1 cr2 cr3
  rintro e x2 ⟨v, rfl, hv, hy⟩
  replace hx := hx.trans hy
  replace Kr := kE Kr hy
  clear hy
  obtain ⟨nn, an, qn, cn, rfl, hv', hf'⟩ := hv.two
  have Vn := Lib.hid hv'
  have Fn := Lib.hid (fun A hA => Nat.le_trans hsz (hf' A hA))
  clear hv' hf' hsz
  obtain ⟨cr0, cr1, cr2, cr3⟩ := bk4 Kr
  have hsz := hx.size
  go_wp2_with fail
  with_reducible refine (nat_Make d _ HD.out).mono ?_
  clear cr0 cr1 cr2 cr3
  rintro e x3 ⟨v, rfl, hv, hy⟩
  replace hx := hx.trans hy
  replace Kr := kE Kr hy
  replace Vn := Lib.hid (Vn.out.ext hy)
  clear hy
  obtain ⟨nd, ad, qd, cd, rfl, hv', hf'⟩ := hv.two
  have Vd := Lib.hid hv'
  have Fd := Lib.hid (fun A hA => Nat.le_trans hsz (hf' A hA))
  clear hv' hf' hsz
  obtain ⟨cr0, cr1, cr2, cr3⟩ := bk4 Kr
  have hsz := hx.size
  go_wp2_with fail
  with_reducible refine (ratio_of_val Vn.out Vd.out (len_i64 HN.out) (len_i64 HD.out) H0.out).mono ?_
  clear cr0 cr1 cr2 cr3
  rintro e x4 ⟨v, rfl, hv, hy⟩
  replace hx := hx.trans hy
  replace Kr := kE Kr hy
  replace Vn := Lib.hid (Vn.out.ext hy)
  replace Vd := Lib.hid (Vd.out.ext hy)
  clear hy
  obtain ⟨nv, av, qv, cv, bv, kv, dv, rfl, hv', hf', hg'⟩ := hv
  have Vv := Lib.hid hv'
  have Fv := Lib.hid (fun A hA => Nat.le_trans hsz (hf' A hA))
  have Gv := Lib.hid (fun A hA => Nat.le_trans hsz (hg' A hA))
  clear hv' hf' hg' hsz
  clear Vn Vd
  obtain ⟨cr0, cr1, cr2, cr3⟩ := bk4 Kr
  obtain ⟨g0, z0, g1, z1, g2, z2, g3, z3⟩ := bp4 Kr (.bool nv) (.slice av qv cv) (.bool false) (.slice bv kv dv)
  go_wp2_with fail
  clear g0 z0 g1 z1 g2 z2 g3 z3
  clear cr0 cr1 cr2 cr3
  replace Vv := (by first | exact rv4 Vv Kr (.bool nv) (.slice av qv cv) (.bool false) (.slice bv kv dv) rfl rfl rfl rfl | exact bv4 Vv Kr (.bool nv) (.slice av qv cv) (.bool false) (.slice bv kv dv) rfl rfl rfl rfl)
  replace hx := bx4 hx (w.heap.size) (.bool nv) (.slice av qv cv) (.bool false) (.slice bv kv dv) (by omega)
  replace Kr := bs4 Kr (.bool nv) (.slice av qv cv) (.bool false) (.slice bv kv dv)
  generalize ((((x4).setCell ⟨w.heap.size, 0, none⟩ (.bool nv)).setCell ⟨w.heap.size, 1, none⟩ (.slice av qv cv)).setCell ⟨w.heap.size, 2, none⟩ (.bool false)).setCell ⟨w.heap.size, 3, none⟩ (.slice bv kv dv) = x5 at *
  obtain ⟨cr0, cr1, cr2, cr3⟩ := bk4 Kr
  refine bodyPost_ret (v := .tuple #[.agg #[.bool nv, .slice av qv cv, .bool false, .slice bv kv dv], .int .i64 0]) (by simp [results, Tryz.results81, go_sem, cr0, cr1, cr2, cr3]) rfl ?_
  exact ⟨_, rfl, ⟨_, _, _, _, _, _, _, rfl, Vv.out, Fv.out, Gv.out⟩, hx⟩
end Go.Proofs.YtmcbbhlglccmgaaGreat

namespace Go.Proofs.YtmcbbhlglccmgaaGreat
open Go.RowKit Go BigFrame
set_option maxRecDepth 100000
set_option linter.unusedSimpArgs false
set_option linter.unusedVariables false

/-! Quo by 0; law10.small, is; what both programs hand back. -/
/-- A result and an error. -/
def ResP (z y E : Int) (w : World) (e : Ending) (w' : World) : Prop := ∃ (n : Bool) (a : Option Addr) (q c : Nat) (m : Bool) (b : Option Addr) (k d : Nat), e = .returned (.tuple #[.agg #[.bool n, .slice a q c, .bool m, .slice b k d], .int .i64 E]) ∧ BigV w' (.agg #[.bool n, .slice a q c]) z ∧ BigV w' (.agg #[.bool m, .slice b k d]) y ∧ Ext w w'
theorem ResP.ok {r : Rat} {w w' : World} {e : Ending} (h : RatP r w e w') : ResP r.num r.den 0 w e w' := by
  obtain ⟨v, he, ⟨n, a, q, c, b, k, d, rfl, hv, _⟩, hx⟩ := h
  exact ⟨n, a, q, c, false, b, k, d, he, hv.num, hv.den, hx⟩
theorem ResP.err {E : Int} {w w' : World} {e : Ending} (h : RatE E w e w') : ResP 0 0 E w e w' := ⟨_, _, _, _, _, _, _, _, h.1, BigV.zero _, BigV.zero _, h.2⟩
/-- Both programs, from any later world on, hand back the same. -/
def BothR (f g : FuncId) (args : Array Value) (w : World) : Prop := ∃ z y E : Int, ∀ W, Ext w W → Calls Tryz.prog f args W (ResP z y E W) ∧ Calls Tryz.prog g args W (ResP z y E W)
/-- The parts of a ratio, in memory. -/
structure RatI (w : World) (x : RatA) : Prop where
  i : Ints w x.a x.c x.l
  j : Ints w x.b x.d x.m
theorem RatI.ext {w w' : World} {x : RatA} (h : RatI w x) (k : Ext w w') : RatI w' x := ⟨h.i.ext k, h.j.ext k⟩
def fewR (x : RatA) : Bool := fewQ x.l.length 6 && fewQ x.m.length 6
/-- An integer and an error. -/
def PairQ (z E : Int) (w : World) (e : Ending) (w' : World) : Prop := ∃ (n : Bool) (a : Option Addr) (q c : Nat), e = .returned (.tuple #[.agg #[.bool n, .slice a q c], .int .i64 E]) ∧ BigV w' (.agg #[.bool n, .slice a q c]) z ∧ Ext w w'
theorem PairQ.one {z : Int} {w w' : World} {e : Ending} (h : OneP z w e w') : PairQ z 0 w e w' := by
  obtain ⟨v, he, hv, hx⟩ := h
  obtain ⟨n, a, q, c, rfl, hv, _⟩ := hv.two
  exact ⟨n, a, q, c, he, hv, hx⟩
theorem PairQ.err {E : Int} {w w' : World} {e : Ending} (h : e = .returned (.tuple #[zeroBig, .int .i64 E]) ∧ Ext w w') : PairQ 0 E w e w' := ⟨_, _, _, _, h.1, BigV.zero _, h.2⟩
end Go.Proofs.YtmcbbhlglccmgaaGreat
