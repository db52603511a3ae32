import Derived.Test.YtnpeakahiedeoaaGreatDoorQ3
import Derived.Deep.Cut
namespace Go.Proofs.YtnpeakahiedeoaaGreatDoor
open Go.RowKit Go BigFrame
set_option maxRecDepth 100000
set_option linter.unusedSimpArgs false
set_option linter.unusedVariables false

/-! ref10.SameBig, Same, FewBig, Few; law10.big, small. -/
theorem take_snocS {l : List Int} {k : Nat} (hk : k < l.length) : l.take (k + 1) = l.take k ++ [l.getD k 0] := by
  rw [List.take_add_one, List.getElem?_eq_getElem hk]; simp [List.getD, hk]
theorem Ints.at0S {w : World} {a : Option Addr} {cap nn : Nat} {l : List Int} (h : Ints w a cap l) (hl : l.length = nn) {i : Nat} (hi : i < nn) : ∃ b o, a = some ⟨b, o, none⟩ ∧ ∀ j, j < nn → w.cell? ⟨b, o + j, none⟩ = some (.int .i64 (l.getD j 0)) := by
  obtain ⟨b, o, rfl⟩ := h.head (i := i) (by omega)
  refine ⟨b, o, rfl, fun j hj => ?_⟩
  have := (h.cell (i := j) (by omega)).1
  rw [this]
  simp [List.getD, show j < l.length by omega]

set_option maxHeartbeats 1000000 in
theorem sameBig_raw {x y : Value} {n n2 : Bool} {l l2 : List Int} {w : World} (h : BigR w x n l) (h2 : BigR w y n2 l2) :
    Calls Tryz.prog 31 #[x, y] w fun e w' => e = .returned (.bool (decide (n = n2 ∧ l = l2))) ∧ Ext w w' := by
  obtain ⟨a, cap, rfl, hi⟩ := h
  obtain ⟨a2, cap2, rfl, hi2⟩ := h2
  obtain ⟨B, hB⟩ : ∃ B, decide (n = n2 ∧ l = l2) = B := ⟨_, rfl⟩
  rw [hB]
  have hle := hi.le
  have hmx := hi.mx
  have hle2 := hi2.le
  have hmx2 := hi2.mx
  obtain ⟨p, hp⟩ : ∃ p, l.length = p := ⟨_, rfl⟩
  obtain ⟨q, hq⟩ : ∃ q, l2.length = q := ⟨_, rfl⟩
  rw [hp] at hle ⊢
  rw [hq] at hle2 ⊢
  have hx : Ext w ((w.alloc (.cells #[.bool n, .slice a p cap] 24)).alloc (.cells #[.bool n2, .slice a2 q cap2] 24)) := (by repeat (first | with_reducible exact Ext.refl _ | with_reducible assumption | with_reducible refine Ext.drewN ?_ _ | with_reducible refine Ext.drew ?_ | with_reducible refine Ext.alloc' ?_ _ | with_reducible refine Ext.set ?_ (by dsimp only; omega) _))
  have k0 := Lib.hid ((Blk.new0 w #[.bool n, .slice a p cap] 24).alloc (.cells #[.bool n2, .slice a2 q cap2] 24))
  have k1 := Lib.hid (Blk.new1 w (.cells #[.bool n, .slice a p cap] 24) #[.bool n2, .slice a2 q cap2] 24)
  have HI := Lib.hid (hi.ext hx)
  have HI2 := Lib.hid (hi2.ext hx)
  have HB := Lib.hid hB
  have HP := Lib.hid hp
  have HQ := Lib.hid hq
  clear hi hi2 hB hp hq
  go_enter Tryz.func31, Tryz.ntmps31
  go_upto_region 1 with fail
  generalize (w.alloc (.cells #[.bool n, .slice a p cap] 24)).alloc (.cells #[.bool n2, .slice a2 q cap2] 24) = w1 at *
  have c0 := k0.out.cell (i := 0) (v := .bool n) rfl
  have c1 := k0.out.cell (i := 1) (v := .slice a p cap) rfl
  have e0 := k1.out.cell (i := 0) (v := .bool n2) rfl
  have e1 := k1.out.cell (i := 1) (v := .slice a2 q cap2) rfl
  by_cases hn : n = n2
  · subst hn
    have d1 : (n != n) = false := by simp
    by_cases hl : p = q
    · subst hl
      have d2 : ((p : Int) != (p : Int)) = false := by simp
      go_wp2_with fail
      clear c0 e0
      go_loopw [5] (fun i wr => ∃ k : Nat, k ≤ p ∧ i = .int .i64 k ∧ Hid (l.take k = l2.take k) ∧ Ext w1 wr) (fun i _ => p - (intOf i).toNat)
      case atStart => exact ⟨0, Nat.zero_le _, rfl, Lib.hid rfl, Ext.refl _⟩
      case round =>
        clear c1 e1
        obtain ⟨k, hk, rfl, hno, hxr⟩ := hrel
        have c1 := (k0.out.ext hxr).cell (i := 1) (v := .slice a p cap) rfl
        have e1 := (k1.out.ext hxr).cell (i := 1) (v := .slice a2 p cap2) rfl
        by_cases hkn : k < p
        · obtain ⟨b1, q1, rfl, ha⟩ := (HI.out.ext hxr).at0S HP.out hkn
          obtain ⟨b2, q2, rfl, hb⟩ := (HI2.out.ext hxr).at0S HQ.out hkn
          have ea := ha k hkn
          have eb := hb k hkn
          clear ha hb
          have hT1 := Lib.hid (take_snocS (l := l) (k := k) (by rw [HP.out]; exact hkn))
          have hT2 := Lib.hid (take_snocS (l := l2) (k := k) (by rw [HQ.out]; exact hkn))
          have g1 : (0 : Int) ≤ (k : Int) := by omega
          have g2 : (k : Int) < (p : Int) := by omega
          obtain ⟨x, hx⟩ : ∃ x, l.getD k 0 = x := ⟨_, rfl⟩
          obtain ⟨y, hy⟩ : ∃ y, l2.getD k 0 = y := ⟨_, rfl⟩
          rw [hx] at ea hT1
          rw [hy] at eb hT2
          by_cases he : x = y
          · have d3 : (x != y) = false := by simpa using he
            have HE := Lib.hid he
            clear hx hy he
            go_wp2_with fail
            go_quiet (fail)
            go_wp2_with fail
            go_roundw
            case rel => exact ⟨k + 1, by omega, by go_num, Lib.hid (by rw [hT1.out, hT2.out, hno.out, HE.out]), hxr.drewN _⟩
            case measure => simp [intOf]; omega
          · have d3 : (x != y) = true := by simpa using he
            have d4 : (x == y) = false := by simpa using he
            have hBf : B = false := by
              rw [← HB.out, decide_eq_false_iff_not]
              rintro ⟨_, rfl⟩
              exact he (hx.symm.trans hy)
            subst hBf
            clear hx hy he
            go_wp2_with fail
            go_quiet (fail)
            go_wp2_with fail
            go_ret
            exact ⟨rfl, (hx.trans hxr).drewN _⟩
        · obtain rfl : k = p := by omega
          have hBt : B = true := by
            rw [← HB.out, decide_eq_true_iff]
            refine ⟨by trivial, ?_⟩
            have h := hno.out
            rwa [List.take_of_length_le (by rw [HP.out]; exact Nat.le_refl _), List.take_of_length_le (by rw [HQ.out]; exact Nat.le_refl _)] at h
          subst hBt
          go_wp2_with fail
          go_ret
          exact ⟨rfl, hx.trans hxr⟩
    · have d2 : ((p : Int) != (q : Int)) = true := by simp; omega
      have d4 : ((p : Int) == (q : Int)) = false := by simp; omega
      have hBf : B = false := by
        rw [← HB.out, decide_eq_false_iff_not]
        rintro ⟨_, rfl⟩
        exact hl (HP.out.symm.trans HQ.out)
      subst hBf
      clear hl
      go_wp2_with fail
      go_ret
      first | exact ⟨rfl, hx⟩ | exact ⟨trivial, hx⟩
  · have d1 : (n != n2) = true := by simpa using hn
    have hBf : B = false := by
      rw [← HB.out, decide_eq_false_iff_not]
      exact fun h => hn h.1
    subst hBf
    go_wp2_with fail
    go_ret
    first | exact ⟨rfl, hx⟩ | exact ⟨trivial, hx⟩
theorem sameBig_val {x y : Value} {z z2 : Int} {w : World} (h : BigV w x z) (h2 : BigV w y z2) :
    Calls Tryz.prog 31 #[x, y] w fun e w' => e = .returned (.bool (decide (z = z2))) ∧ Ext w w' := by
  obtain ⟨n, l, r, b⟩ := h
  obtain ⟨n2, l2, r2, b2⟩ := h2
  have := sameBig_raw r r2
  rwa [decide_eq_decide.2 (b.same b2)] at this

theorem same_no {nx mx ny my : Bool} {ax bx ay by_ : Option Addr} {qx cx kx dx qy cy ky dy : Nat} {z1 y1 z2 y2 : Int} {w : World} (h1 : BigV w (.agg #[.bool nx, .slice ax qx cx]) z1) (h2 : BigV w (.agg #[.bool mx, .slice bx kx dx]) y1) (h3 : BigV w (.agg #[.bool ny, .slice ay qy cy]) z2) (h4 : BigV w (.agg #[.bool my, .slice by_ ky dy]) y2) (hc : decide (z1 = z2) = false) : Calls Tryz.prog 17 #[.agg #[.bool nx, .slice ax qx cx, .bool mx, .slice bx kx dx], .agg #[.bool ny, .slice ay qy cy, .bool my, .slice by_ ky dy]] w fun e w' => e = .returned (.bool false) ∧ Ext w w' := by
  have H1 := Lib.hid (fun W (hy : Ext w W) => sameBig_val (h1.ext hy) (h3.ext hy))
  have H2 := Lib.hid (fun W (hy : Ext w W) => sameBig_val (h2.ext hy) (h4.ext hy))
  rw [hc] at H1
  clear h1 h2 h3 h4 hc
  generalize decide (y1 = y2) = B at *
  obtain ⟨x1, hw, hx, Kx, Ky⟩ := boxQ2 w #[.bool nx, .slice ax qx cx, .bool mx, .slice bx kx dx] 26 #[.bool ny, .slice ay qy cy, .bool my, .slice by_ ky dy] 26
  replace hw := Lib.hid hw
  go_enter Tryz.func17, Tryz.ntmps17
  go_upto_region 1 with fail
  try simp only [Nat.add_assoc, Nat.reduceAdd, Nat.add_zero]
  rw [hw.out]
  clear hw
  have hs0 := hx.size
  obtain ⟨cx0, cx1, cx2, cx3⟩ := bk4 Kx
  obtain ⟨cy0, cy1, cy2, cy3⟩ := bk4 Ky
  go_wp2_with fail
  with_reducible refine (H1.out _ hx).mono ?_
  clear cx0 cx1 cx2 cx3 cy0 cy1 cy2 cy3
  rintro e x2 ⟨rfl, hy⟩
  replace hx := hx.trans hy
  replace Kx := kE Kx hy
  replace Ky := kE Ky hy
  clear hy
  go_wp2_with fail
  go_ret
  exact ⟨rfl, hx⟩
theorem same_yes {nx mx ny my : Bool} {ax bx ay by_ : Option Addr} {qx cx kx dx qy cy ky dy : Nat} {z1 y1 z2 y2 : Int} {w : World} (h1 : BigV w (.agg #[.bool nx, .slice ax qx cx]) z1) (h2 : BigV w (.agg #[.bool mx, .slice bx kx dx]) y1) (h3 : BigV w (.agg #[.bool ny, .slice ay qy cy]) z2) (h4 : BigV w (.agg #[.bool my, .slice by_ ky dy]) y2) (hc : decide (z1 = z2) = true) : Calls Tryz.prog 17 #[.agg #[.bool nx, .slice ax qx cx, .bool mx, .slice bx kx dx], .agg #[.bool ny, .slice ay qy cy, .bool my, .slice by_ ky dy]] w fun e w' => e = .returned (.bool (decide (y1 = y2))) ∧ Ext w w' := by
  have H1 := Lib.hid (fun W (hy : Ext w W) => sameBig_val (h1.ext hy) (h3.ext hy))
  have H2 := Lib.hid (fun W (hy : Ext w W) => sameBig_val (h2.ext hy) (h4.ext hy))
  rw [hc] at H1
  clear h1 h2 h3 h4 hc
  generalize decide (y1 = y2) = B at *
  obtain ⟨x1, hw, hx, Kx, Ky⟩ := boxQ2 w #[.bool nx, .slice ax qx cx, .bool mx, .slice bx kx dx] 26 #[.bool ny, .slice ay qy cy, .bool my, .slice by_ ky dy] 26
  replace hw := Lib.hid hw
  go_enter Tryz.func17, Tryz.ntmps17
  go_upto_region 1 with fail
  try simp only [Nat.add_assoc, Nat.reduceAdd, Nat.add_zero]
  rw [hw.out]
  clear hw
  have hs0 := hx.size
  obtain ⟨cx0, cx1, cx2, cx3⟩ := bk4 Kx
  obtain ⟨cy0, cy1, cy2, cy3⟩ := bk4 Ky
  go_wp2_with fail
  with_reducible refine (H1.out _ hx).mono ?_
  clear cx0 cx1 cx2 cx3 cy0 cy1 cy2 cy3
  rintro e x2 ⟨rfl, hy⟩
  replace hx := hx.trans hy
  replace Kx := kE Kx hy
  replace Ky := kE Ky hy
  clear hy
  obtain ⟨cx0, cx1, cx2, cx3⟩ := bk4 Kx
  obtain ⟨cy0, cy1, cy2, cy3⟩ := bk4 Ky
  go_wp2_with fail
  with_reducible refine (H2.out _ hx).mono ?_
  clear cx0 cx1 cx2 cx3 cy0 cy1 cy2 cy3
  rintro e x3 ⟨rfl, hy⟩
  replace hx := hx.trans hy
  replace Kx := kE Kx hy
  replace Ky := kE Ky hy
  clear hy
  go_wp2_with fail
  go_ret
  exact ⟨rfl, hx⟩
theorem same_val {nx mx ny my : Bool} {ax bx ay by_ : Option Addr} {qx cx kx dx qy cy ky dy : Nat} {z1 y1 z2 y2 : Int} {w : World} (h1 : BigV w (.agg #[.bool nx, .slice ax qx cx]) z1) (h2 : BigV w (.agg #[.bool mx, .slice bx kx dx]) y1) (h3 : BigV w (.agg #[.bool ny, .slice ay qy cy]) z2) (h4 : BigV w (.agg #[.bool my, .slice by_ ky dy]) y2) : Calls Tryz.prog 17 #[.agg #[.bool nx, .slice ax qx cx, .bool mx, .slice bx kx dx], .agg #[.bool ny, .slice ay qy cy, .bool my, .slice by_ ky dy]] w fun e w' => e = .returned (.bool (decide (z1 = z2 ∧ y1 = y2))) ∧ Ext w w' := by
  by_cases h : z1 = z2
  · have := same_yes h1 h2 h3 h4 (decide_eq_true h)
    rw [show decide (z1 = z2 ∧ y1 = y2) = decide (y1 = y2) by simp [h]]; exact this
  · have := same_no h1 h2 h3 h4 (decide_eq_false h)
    rw [decide_eq_false (fun e => h e.1)]; exact this
theorem same_rat {v u : Value} {r s : Rat} {w : World} (hv : RatV w v r) (hu : RatV w u s) : Calls Tryz.prog 17 #[v, u] w fun e w' => e = .returned (.bool (decide (r = s))) ∧ Ext w w' := by
  obtain ⟨nx, ax, qx, cx, bx, kx, dx, rfl⟩ := hv.form
  obtain ⟨ny, ay, qy, cy, by_, ky, dy, rfl⟩ := hu.form
  have := same_val hv.num hv.den hu.num hu.den
  rw [show decide (r = s) = decide (r.num = s.num ∧ (r.den : Int) = s.den) from decide_eq_decide.2 ⟨fun e => by rw [e]; exact ⟨rfl, rfl⟩, fun ⟨a, b⟩ => Rat.ext a (by omega)⟩]
  exact this
def fewQ (k n : Nat) : Bool := decide (k ≤ n) || (decide (2048 < k) && decide (k ≤ 2052))
theorem law_big_neg (n : Int) (w : World) (h0 : n < 0) (h1 : -1073741824 < n) : Calls Tryz.prog 27 #[.int .i64 n] w fun e w' => ∃ v, e = .returned v ∧ BigV w' v n ∧ Ext w w' := by
  have t0 : decide (n < 0) = true := decide_eq_true h0
  have t1 : IntKind.i64.wrap (-n) = -n := IntWalk.i64_in _ (by omega)
  have HN := Lib.hid (And.intro h0 h1)
  clear h0 h1
  obtain ⟨x1, hw, hx, Kr⟩ := boxQ1 w #[.bool false, .slice none 0 0] 24
  replace hw := Lib.hid hw
  go_enter Tryz.func27, Tryz.ntmps27
  go_upto_region 1 with fail
  try simp only [Nat.add_assoc, Nat.reduceAdd, Nat.add_zero]
  rw [hw.out]
  clear hw
  have hs0 := hx.size
  have lur : w.heap.size < Array.size (World.heap x1) := Kr.out.lt
  have g0 := ((Kr.out).alloc (.cells #[.int .i64 (-n)] 3)).cell (i := 0) (v := .bool false) rfl
  have z0 := ((Kr.out).alloc (.cells #[.int .i64 (-n)] 3)).free 0
  have g1 := (((Kr.out).set 0 (.bool true)).alloc (.cells #[.int .i64 (-n)] 3)).cell (i := 1) (v := .slice none 0 0) rfl
  have z1 := (((Kr.out).set 0 (.bool true)).alloc (.cells #[.int .i64 (-n)] 3)).free 1
  go_wp2_with fail
  clear g0 z0 g1 z1
  replace hx := bx2 hx (w.heap.size) (.bool true) (.slice (some ⟨x1.heap.size, 0, none⟩) 1 1) (by omega)
  replace Kr := bs2 Kr (.bool true) (.slice (some ⟨x1.heap.size, 0, none⟩) 1 1)
  have hz : Array.size (World.heap (((x1).setCell ⟨w.heap.size, 0, none⟩ (.bool true)).setCell ⟨w.heap.size, 1, none⟩ (.slice (some ⟨x1.heap.size, 0, none⟩) 1 1))) = Array.size (World.heap x1) := by simp
  generalize ((x1).setCell ⟨w.heap.size, 0, none⟩ (.bool true)).setCell ⟨w.heap.size, 1, none⟩ (.slice (some ⟨x1.heap.size, 0, none⟩) 1 1) = x2 at *
  generalize Array.size (World.heap x1) = sz at *
  subst hz
  have hl := Ext.alloc x2 (.cells #[.int .i64 (-n)] 3)
  have lrd : w.heap.size < x2.heap.size := Kr.out.lt
  have hpd : w.heap.size ≤ x2.heap.size := hx.size
  replace hx := hx.trans hl
  replace Kr := kE Kr hl
  have Kd := Lib.hid (Blk.new0 x2 #[.int .i64 (-n)] 3)
  clear hl
  generalize x2.alloc (.cells #[.int .i64 (-n)] 3) = x3 at *
  generalize x2.heap.size = pd at *
  obtain ⟨cr0, cr1⟩ := bk2 Kr
  refine bodyPost_ret (v := .agg #[.bool true, .slice (some ⟨pd, 0, none⟩) 1 1]) (by simp [results, Tryz.results27, go_sem, cr0, cr1]) rfl ?_
  refine ⟨_, rfl, ⟨true, [-n], ⟨some ⟨pd, 0, none⟩, 1, rfl, IB.ints (g := pd) (L := [-n]) Kd.out (fun x hx => by obtain rfl := List.mem_singleton.1 hx; have := HN.out; omega) (by simp)⟩, ?_⟩, hx⟩
  exact ⟨⟨by have := HN.out; omega, by have := HN.out; omega, fun _ => by have := HN.out; omega, trivial⟩, by simp, by simp [dval]⟩
theorem law_big_zero (w : World)  : Calls Tryz.prog 27 #[.int .i64 0] w fun e w' => ∃ v, e = .returned v ∧ BigV w' v 0 ∧ Ext w w' := by
  obtain ⟨x1, hw, hx, Kr⟩ := boxQ1 w #[.bool false, .slice none 0 0] 24
  replace hw := Lib.hid hw
  go_enter Tryz.func27, Tryz.ntmps27
  go_upto_region 1 with fail
  try simp only [Nat.add_assoc, Nat.reduceAdd, Nat.add_zero]
  rw [hw.out]
  clear hw
  have hs0 := hx.size
  obtain ⟨cr0, cr1⟩ := bk2 Kr
  obtain ⟨g0, z0, g1, z1⟩ := bp2 Kr (.bool false) (.slice none 0 0)
  go_wp2_with fail
  clear g0 z0 g1 z1
  clear cr0 cr1
  replace hx := bx2 hx (w.heap.size) (.bool false) (.slice none 0 0) (by omega)
  replace Kr := bs2 Kr (.bool false) (.slice none 0 0)
  generalize ((x1).setCell ⟨w.heap.size, 0, none⟩ (.bool false)).setCell ⟨w.heap.size, 1, none⟩ (.slice none 0 0) = x2 at *
  obtain ⟨cr0, cr1⟩ := bk2 Kr
  refine bodyPost_ret (v := .agg #[.bool false, .slice none 0 0]) (by simp [results, Tryz.results27, go_sem, cr0, cr1]) rfl ?_
  exact ⟨_, rfl, BigV.zero _, hx⟩
theorem law_big_pos (n : Int) (w : World) (h0 : 0 < n) (h1 : n < 1073741824) : Calls Tryz.prog 27 #[.int .i64 n] w fun e w' => ∃ v, e = .returned v ∧ BigV w' v n ∧ Ext w w' := by
  have t0 : decide (n < 0) = false := decide_eq_false (by omega)
  have t1 : (n == 0) = false := by simp only [beq_eq_false_iff_ne]; omega
  have t2 : decide (n = 0) = false := decide_eq_false (by omega)
  have HN := Lib.hid (And.intro h0 h1)
  clear h0 h1
  obtain ⟨x1, hw, hx, Kr⟩ := boxQ1 w #[.bool false, .slice none 0 0] 24
  replace hw := Lib.hid hw
  go_enter Tryz.func27, Tryz.ntmps27
  go_upto_region 1 with fail
  try simp only [Nat.add_assoc, Nat.reduceAdd, Nat.add_zero]
  rw [hw.out]
  clear hw
  have hs0 := hx.size
  have lur : w.heap.size < Array.size (World.heap x1) := Kr.out.lt
  have g0 := ((Kr.out).alloc (.cells #[.int .i64 (n)] 3)).cell (i := 0) (v := .bool false) rfl
  have z0 := ((Kr.out).alloc (.cells #[.int .i64 (n)] 3)).free 0
  have g1 := (((Kr.out).set 0 (.bool false)).alloc (.cells #[.int .i64 (n)] 3)).cell (i := 1) (v := .slice none 0 0) rfl
  have z1 := (((Kr.out).set 0 (.bool false)).alloc (.cells #[.int .i64 (n)] 3)).free 1
  go_wp2_with fail
  clear g0 z0 g1 z1
  replace hx := bx2 hx (w.heap.size) (.bool false) (.slice (some ⟨x1.heap.size, 0, none⟩) 1 1) (by omega)
  replace Kr := bs2 Kr (.bool false) (.slice (some ⟨x1.heap.size, 0, none⟩) 1 1)
  have hz : Array.size (World.heap (((x1).setCell ⟨w.heap.size, 0, none⟩ (.bool false)).setCell ⟨w.heap.size, 1, none⟩ (.slice (some ⟨x1.heap.size, 0, none⟩) 1 1))) = Array.size (World.heap x1) := by simp
  generalize ((x1).setCell ⟨w.heap.size, 0, none⟩ (.bool false)).setCell ⟨w.heap.size, 1, none⟩ (.slice (some ⟨x1.heap.size, 0, none⟩) 1 1) = x2 at *
  generalize Array.size (World.heap x1) = sz at *
  subst hz
  have hl := Ext.alloc x2 (.cells #[.int .i64 (n)] 3)
  have lrd : w.heap.size < x2.heap.size := Kr.out.lt
  have hpd : w.heap.size ≤ x2.heap.size := hx.size
  replace hx := hx.trans hl
  replace Kr := kE Kr hl
  have Kd := Lib.hid (Blk.new0 x2 #[.int .i64 (n)] 3)
  clear hl
  generalize x2.alloc (.cells #[.int .i64 (n)] 3) = x3 at *
  generalize x2.heap.size = pd at *
  obtain ⟨cr0, cr1⟩ := bk2 Kr
  refine bodyPost_ret (v := .agg #[.bool false, .slice (some ⟨pd, 0, none⟩) 1 1]) (by simp [results, Tryz.results27, go_sem, cr0, cr1]) rfl ?_
  refine ⟨_, rfl, ⟨false, [n], ⟨some ⟨pd, 0, none⟩, 1, rfl, IB.ints (g := pd) (L := [n]) Kd.out (fun x hx => by obtain rfl := List.mem_singleton.1 hx; have := HN.out; omega) (by simp)⟩, ?_⟩, hx⟩
  exact ⟨⟨by have := HN.out; omega, by have := HN.out; omega, fun _ => by have := HN.out; omega, trivial⟩, by simp, by simp [dval]⟩
theorem law_big (n : Int) (w : World) (h : -1073741824 < n ∧ n < 1073741824) : Calls Tryz.prog 27 #[.int .i64 n] w fun e w' => ∃ v, e = .returned v ∧ BigV w' v n ∧ Ext w w' := by
  rcases Int.lt_trichotomy n 0 with h0 | rfl | h0
  · exact law_big_neg n w h0 h.1
  · exact law_big_zero w
  · exact law_big_pos n w h0 h.2
end Go.Proofs.YtnpeakahiedeoaaGreatDoor
