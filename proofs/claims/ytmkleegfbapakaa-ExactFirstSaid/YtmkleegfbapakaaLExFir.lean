import Derived.Test.YtmkleegfbapakaaLExFir0
import Derived.Test.YtmkleegfbapakaaEPerm2
import Derived.Test.YtmkleegfbapakaaESub5
namespace Go.Proofs.Ytmkleegfbapakaa
open Go.RowKit Go BigFrame Go.Shelf
set_option maxRecDepth 100000
set_option linter.unusedSimpArgs false

theorem eS_zero {l : List Int} {k : Int} (h : l.length ≤ 64) (hE : eS l k = 0) : l.any outB = false ∧ 0 ≤ k ∧ k ≤ (l.length : Int) := by
  unfold eS at hE
  rw [if_neg (by omega)] at hE
  by_cases h2 : l.any outB = true
  · rw [if_pos h2] at hE; omega
  · rw [if_neg h2] at hE
    refine ⟨by simpa using h2, ?_⟩
    by_cases h3 : k < 0
    · rw [if_pos h3] at hE; omega
    · rw [if_neg h3] at hE
      by_cases h4 : (l.length : Int) < k
      · rw [if_pos h4] at hE; omega
      · omega
theorem sub_on {N : Nat} {m : List Int} (hN : m.length = N) (h20 : N ≤ 14) (ho : m.any outB = false) (a : Option Addr) (c K : Nat) (S : Int) (W : World) (h : Ints W a c m) (hK : K ≤ N) :
    Calls Try.prog 28 #[.slice a N c, .int .i64 K, .int .i64 S] W (SubP (cs S K m 0) W) := by
  have := exact_Subsets_ok a c K m S W h (by omega) ho (by omega)
  rw [hN] at this; exact this
theorem cs_small {m : List Int} {N : Nat} (hN : m.length = N) (h : N ≤ 14) (S : Int) (K : Nat) : cs S K m 0 ≤ 16384 := by
  have h1 := cs_le_bin S K m 0
  have h2 := bin14 (n := N) (k := K) h
  rw [hN] at h1; omega

set_option maxHeartbeats 8000000 in
theorem lawExactFirst (a : Option Addr) (cap : Nat) (l : List Int) (k sum c d more : Int) (w : World) (h : Ints w a cap l) (hk : -9223372036854775808 ≤ k ∧ k ≤ 9223372036854775807) (hs : -9223372036854775808 ≤ sum ∧ sum ≤ 9223372036854775807)
    (hc : 0 ≤ c ∧ c ≤ 255) (hd : 0 ≤ d ∧ d ≤ 255) (hmo : 0 ≤ more ∧ more ≤ 255) :
    Calls Try.prog 12 #[.slice a l.length cap, .int .i64 k, .int .i64 sum, .int .u8 c, .int .u8 d, .int .u8 more] w fun e w' => e = .returned (.bool true) ∧ Ext w w' := by
  have hle := h.le
  have hmx := h.mx
  obtain ⟨hk1, hk2⟩ := hk
  obtain ⟨hs1, hs2⟩ := hs
  obtain ⟨hc1, hc2⟩ := hc
  obtain ⟨hd1, hd2⟩ := hd
  obtain ⟨hm1, hm2⟩ := hmo
  obtain ⟨i0, hi0, hz0, hz1, hz2⟩ := info_parts infoI
  go_enter Try.func12, Try.ntmps12
  go_wp2_with fail
  with_reducible refine (law41Sane _).mono ?_
  rintro e w1 ⟨rfl, hy⟩
  have HI := Lib.hid (h.ext hy)
  have hx := hy
  clear h hy
  by_cases b1 : 14 < l.length
  · have d1 : decide (14 < (l.length : Int)) = true := by simp only [decide_eq_true_eq]; omega
    go_wp2_with fail
    go_ret
    exact ⟨rfl, hx⟩
  have d1 : decide (14 < (l.length : Int)) = false := by simp only [decide_eq_false_iff_not]; omega
  by_cases b0 : l.length = 0
  · have d2 : ((l.length : Int) == 0) = true := by simp only [beq_iff_eq]; omega
    clear b0
    go_wp2_with fail
    go_ret
    exact ⟨rfl, hx⟩
  have d2 : ((l.length : Int) == 0) = false := by simp only [beq_eq_false_iff_ne]; omega
  have hN := law_near sum w1
  cases hnb : nearB sum with
  | false =>
    rw [hnb] at hN
    have HN := Lib.hid hN
    clear hN hnb b0
    go_wp2_with fail
    refine HN.out.mono ?_
    rintro e w2 ⟨rfl, rfl⟩
    go_wp2_with fail
    go_ret
    exact ⟨rfl, hx⟩
  | true =>
    rw [hnb] at hN
    have HN := Lib.hid hN
    unfold nearB at hnb
    simp only [Bool.and_eq_true, decide_eq_true_eq] at hnb
    obtain ⟨s1, s2⟩ := hnb
    have hS := exact_Subsets_any a cap k l sum w1 HI.out (.inl (by omega))
    by_cases hE : eS l k = 0
    case neg =>
      have hz : zS l k sum = 0 := if_neg hE
      rw [hz] at hS
      generalize eS l k = E at *
      have t1 : (E != 0) = true := by simpa using hE
      have HS := Lib.hid hS
      clear hN hE hz hS b0
      go_wp2_with fail
      refine HN.out.mono ?_
      rintro e w2 ⟨rfl, rfl⟩
      go_wp2_with fail
      refine HS.out.mono ?_
      rintro e w3 ⟨v, rfl, hv, hy⟩
      obtain ⟨neg, av, cv, lv, rfl⟩ := hv.form
      have hy2 := Ext.alloc w3 (.cells #[.bool neg, .slice av lv cv] 42)
      clear HS HN hv
      go_wp2_with fail
      go_ret
      exact ⟨rfl, hx.trans (hy.trans hy2)⟩
    case pos =>
      obtain ⟨ho, k0, k1⟩ := eS_zero (by omega) hE
      have hz : zS l k sum = ((cs sum k.toNat l 0 : Nat) : Int) := if_pos hE
      rw [hz, hE] at hS
      obtain ⟨K, rfl⟩ : ∃ K : Nat, k = (K : Int) := ⟨k.toNat, by omega⟩
      rw [show ((K : Nat) : Int).toNat = K by omega] at hS
      obtain ⟨x0, r, hl⟩ : ∃ x0 r, l = x0 :: r := by
        cases l with
        | nil => exact absurd rfl b0
        | cons x r => exact ⟨x, r, rfl⟩
      obtain ⟨q, hq⟩ : ∃ q, r.length = q := ⟨_, rfl⟩
      have hln : l.length = q + 1 := by rw [hl, ← hq]; rfl
      have hq14 : q + 1 ≤ 14 := by omega
      have hKq : K ≤ q + 1 := by omega
      have hvals : ∀ x ∈ l, -1048576 ≤ x ∧ x ≤ 1048576 := fun x hx => by
        have := List.any_eq_false.1 ho x hx
        simp only [outB, Bool.or_eq_true, decide_eq_true_eq, not_or] at this
        omega
      have hx0 := hvals x0 (by rw [hl]; simp)
      have hor : r.any outB = false := by rw [hl] at ho; simp at ho ⊢; exact ho.2
      have hHl := fun (a' : Option Addr) (c' : Nat) (S : Int) (W : World) (h' : Ints W a' c' l) => sub_on hln hq14 ho a' c' K S W h' hKq
      have hHr := fun (a' : Option Addr) (c' K' : Nat) (S : Int) (W : World) (h' : Ints W a' c' r) (hk : K' ≤ q) => sub_on hq (by omega) hor a' c' K' S W h' hk
      have hHt := fun (i j : Nat) (hi : i < q + 1) (hj : j < q + 1) (a' : Option Addr) (c' : Nat) (W : World) (h' : Ints W a' c' (swp l i j)) =>
        sub_on (m := swp l i j) (N := q + 1) (by rw [swp_length, hln]) hq14 (by rw [any_perm (swp_mem (by omega) (by omega))]; exact ho) a' c' K sum W h' hKq
      have hHtE := fun (i j : Nat) (hi : i < q + 1) (hj : j < q + 1) => cs_perm sum (swp_mem (x := l) (i := i) (k := j) (by omega) (by omega)) K 0
      have hmono := cs_mono (a := sum) (b := sum + more) (by omega) K l 0
      have hA14 := cs_small hln hq14 sum K
      have hP1 := cs_small (S := sum - x0) (K := K - 1) hq (by omega)
      have hP2 := cs_small (S := sum) (K := K) hq (by omega)
      have hsum : (0 < K → K ≤ q → cs sum K l 0 = cs (sum - x0) (K - 1) r 0 + cs sum K r 0) ∧ (K = 0 → cs sum K l 0 = cs sum K r 0) ∧ (K = q + 1 → cs sum K l 0 = cs (sum - x0) (K - 1) r 0) := by
        refine ⟨fun h1 _ => ?_, fun h1 => ?_, fun h1 => ?_⟩
        · obtain ⟨j, rfl⟩ : ∃ j, K = j + 1 := ⟨K - 1, by omega⟩
          rw [hl, cs_first]; rfl
        · subst h1; simp only [cs]
        · subst h1
          rw [hl, cs_first]
          have := cs_le_bin sum (q + 1) r 0
          rw [hq, bin_gt (by omega)] at this
          rw [show q + 1 - 1 = q by omega]
          omega
      have hIl := HI.out
      rw [hl] at hIl
      obtain ⟨b, o, rfl, hc0, hIr, hcap⟩ := hIl.tail
      obtain ⟨ra, hra⟩ : ∃ ra, (if cap = 1 then some (⟨b, o, none⟩ : Addr) else some ⟨b, o + 1, none⟩) = ra := ⟨_, rfl⟩
      rw [hra] at hIr
      have HIR := Lib.hid hIr
      have HHl := Lib.hid hHl
      have HHr := Lib.hid hHr
      have HHt := Lib.hid hHt
      have HHtE := Lib.hid hHtE
      have HSUM := Lib.hid hsum
      have HC0 := Lib.hid hc0
      have HLn := Lib.hid hln
      have HS := Lib.hid hS
      rw [hln] at d1 d2 hle ⊢
      rw [hln] at HS
      clear hN hS hE hz hHl hHr hHt hHtE hsum hc0 hIr hIl hln hor ho hvals b0 b1 k1 hl hq
      generalize cs sum K l 0 = A at *
      generalize hLm : cs (sum + more) K l 0 = Lm at *
      generalize hP1e : cs (sum - x0) (K - 1) r 0 = P1 at *
      generalize hP2e : cs sum K r 0 = P2 at *
      have HLM := Lib.hid hLm
      have HP1 := Lib.hid hP1e
      have HP2 := Lib.hid hP2e
      clear hLm hP1e hP2e
      go_wp2_with fail
      refine HN.out.mono ?_
      rintro e w2 ⟨rfl, rfl⟩
      go_wp2_with fail
      refine HS.out.mono ?_
      rintro e w3 ⟨v, rfl, hv, hy⟩
      obtain ⟨neg, av, cv, lv, rfl⟩ := hv.form
      have hb := Blk.new0 w3 #[.bool neg, .slice av lv cv] 42
      have hy2 := Ext.alloc w3 (.cells #[.bool neg, .slice av lv cv] 42)
      have V1 := Lib.hid (hv.val.ext hy2)
      have hy := hy.trans hy2
      have HB1 := Lib.hid hb
      clear HS HN hv hb hy2
      go_upto_region 8 with fail
      generalize hbs : w3.heap.size = p1 at *
      generalize w3.alloc (.cells #[.bool neg, .slice av lv cv] 42) = w6 at *
      clear hbs
      have hI6 := HI.out.ext hy
      have hrng := hI6.range
      have hI6a := Lib.hid (hI6.ext (Ext.alloc w6 (.cells #[] 3)))
      have hown0 := (OwnI.new w6).own
      have HRG := Lib.hid hrng
      clear hI6 hrng
      go_wp2_with (at_builtin; refine wpList_append_own_at _ rfl (.tmp 52) (.tmp 53) 39 rfl w6.heap.size 3 i0 (.int .i64 0) 1 8 Try.underlying39 hi0 hz0 hz1 hz2 rfl (by decide) (.slice (some ⟨w6.heap.size, 0, none⟩) 0 0) 0 [] rfl hown0 ⟨b, o, none⟩ (q + 1) cap (l.map (Value.int .i64)) rfl (by rw [List.length_map, Nat.mul_one]; exact HLn.out) (hI6a.out.news) (fun u hu => by obtain ⟨z, _, rfl⟩ := List.mem_map.1 hu; rfl) (by unfold maxLen; omega) (by omega) (by simp) ?_; intro v1 w8 hown1 hgrow1 hnil1 hat1)
      have hO : OwnI w8 w6.heap.size v1 l := ⟨fun e => by have := (hnil1.1 e).2; omega, by rw [HLn.out]; simpa using hown1⟩
      have hy68 : Ext w6 w8 := Below.grown (Ext.alloc w6 (.cells #[] 3)) hgrow1 (by simp) (fun j e => by simp only [Value.ownBlock, Option.some.injEq] at e; omega)
      obtain ⟨g, cp, rfl, hg1, hg2, hg3, hg4⟩ := hO.form
      rw [HLn.out]
      rw [HLn.out] at hg3 hO
      have hI8 := (hO.ints HRG.out).2
      have f := Lib.hid hO.freeAt
      clear hown1 hgrow1 hnil1 hat1 hown0 hO
      go_upto_region 9 with fail
      obtain ⟨i, hi⟩ : ∃ i : Nat, c % ((q : Int) + 1) = (i : Int) := ⟨(c % ((q : Int) + 1)).toNat, by have := Int.emod_nonneg c (b := (q : Int) + 1) (by omega); omega⟩
      obtain ⟨j, hj⟩ : ∃ j : Nat, d % ((q : Int) + 1) = (j : Int) := ⟨(d % ((q : Int) + 1)).toNat, by have := Int.emod_nonneg d (b := (q : Int) + 1) (by omega); omega⟩
      have hin : i < q + 1 := by have := Int.emod_lt_of_pos c (b := (q : Int) + 1) (by omega); omega
      have hjn : j < q + 1 := by have := Int.emod_lt_of_pos d (b := (q : Int) + 1) (by omega); omega
      have hi2 : c.tmod ((q : Int) + 1) = (i : Int) := by rw [Int.tmod_eq_emod_of_nonneg hc1, hi]
      have hj2 : d.tmod ((q : Int) + 1) = (j : Int) := by rw [Int.tmod_eq_emod_of_nonneg hd1, hj]
      have t4 : ((q : Int) + 1 != 0) = true := by simp only [bne_iff_ne, ne_eq]; omega
      go_quiet (fail)
      clear hi hj hi2 hj2
      obtain ⟨x, ex⟩ : ∃ x, l.getD i 0 = x := ⟨_, rfl⟩
      obtain ⟨y, ey⟩ : ∃ y, l.getD j 0 = y := ⟨_, rfl⟩
      have HX := Lib.hid ex
      have HY := Lib.hid ey
      go_upto_region 10 with fail
      have hI9 : Ints (w8.drewN nq) (some ⟨g, 0, none⟩) cp l := hI8.ext ((Ext.refl w8).drewN nq)
      have f9 : Hid (∀ i : Nat, (w8.drewN nq).frozen? ⟨g, i, none⟩ = false) := Lib.hid (fun i => f.out i)
      have hy9 : Ext w6 (w8.drewN nq) := hy68.drewN nq
      have hg8 : w6.heap.size ≤ g := hg1
      clear hI8 f hy68
      generalize w8.drewN nq = w9 at *
      have e1 : w9.cell? ⟨g, i, none⟩ = some (.int .i64 x) := by
        have := (hI9.cell (i := i) (by rw [HLn.out]; exact hin)).1
        rw [Nat.zero_add] at this
        rw [this, ← ex]; simp [List.getD, show i < l.length by rw [HLn.out]; exact hin]
      have e2 : w9.cell? ⟨g, j, none⟩ = some (.int .i64 y) := by
        have := (hI9.cell (i := j) (by rw [HLn.out]; exact hjn)).1
        rw [Nat.zero_add] at this
        rw [this, ← ey]; simp [List.getD, show j < l.length by rw [HLn.out]; exact hjn]
      have e3 : (w9.setCell ⟨g, i, none⟩ (.int .i64 y)).cell? ⟨g, j, none⟩ = some (.int .i64 y) := by
        by_cases hij : i = j
        · subst hij; exact World.cell?_setCell_same' _ _ _ (by rw [e1]; rfl)
        · rw [World.cell?_setCell_other _ _ _ _ (fun e => hij (by injection e))]; exact e2
      have f1 := f9.out i
      have f2 := f9.out j
      have r1 := HRG.out x (by rw [← ex]; simp only [List.getD, List.getElem?_eq_getElem (show i < l.length by rw [HLn.out]; exact hin), Option.getD_some]; exact List.getElem_mem _)
      have r2 := HRG.out y (by rw [← ey]; simp only [List.getD, List.getElem?_eq_getElem (show j < l.length by rw [HLn.out]; exact hjn), Option.getD_some]; exact List.getElem_mem _)
      have hIf : Ints ((w9.setCell ⟨g, i, none⟩ (.int .i64 y)).setCell ⟨g, j, none⟩ (.int .i64 x)) (some ⟨g, 0, none⟩) cp (swp l i j) := by
        have := (hI9.putAt (i := i) r2).putAt (i := j) r1
        unfold swp
        rw [ex, ey]; exact this
      have hHI := Lib.hid hIf
      have hyf : Ext w6 ((w9.setCell ⟨g, i, none⟩ (.int .i64 y)).setCell ⟨g, j, none⟩ (.int .i64 x)) := (hy9.set (p := ⟨g, i, none⟩) (by dsimp only; omega) _).set (p := ⟨g, j, none⟩) (by dsimp only; omega) _
      have HYF := Lib.hid hyf
      have b1 : (0 : Int) ≤ (i : Int) := by omega
      have b2 : (i : Int) < (q : Int) + 1 := by omega
      have b3 : (0 : Int) ≤ (j : Int) := by omega
      have b4 : (j : Int) < (q : Int) + 1 := by omega
      clear hI9 hIf hyf ex ey r1 r2 hy9
      refine of_imp (A := ?A7) ?region7 ?cont7
      case region7 =>
        intro hFin
        refine wp_region_held_drew (S := (fun _ => True)) (by kernel_rfl) ?_ (fun hHeld => ?_)
        · trivial
        refine wpAnyH_take (i := 0) (oi := _) (v := ?_) rfl (by kernel_rfl) (by kernel_rfl) (by kernel_rfl) (fun _ _ _ h => h) (Or.inl ⟨by rfl, ?_⟩) (by assumption) ?_
        rotate_left
        · (intro w hSw; (try dsimp only at hSw); (try go_simp); (try with_reducible rfl))
        (try simp only [Act.put, List.setIfInBounds_toArray, List.set_cons_zero, List.set_cons_succ])
        refine wpAnyH_take (i := 1) (oi := _) (v := ?_) rfl (by kernel_rfl) (by kernel_rfl) (by kernel_rfl) (fun _ _ _ h => h) (Or.inl ⟨by rfl, ?_⟩) (by assumption) ?_
        rotate_left
        · (intro w hSw; (try dsimp only at hSw); (try go_simp); (try with_reducible rfl))
        (try simp only [Act.put, List.setIfInBounds_toArray, List.set_cons_zero, List.set_cons_succ])
        refine wpAnyH_take (i := 2) (oi := _) (v := ?_) rfl (by kernel_rfl) (by kernel_rfl) (by kernel_rfl) (fun _ _ _ h => h) (Or.inl ⟨by rfl, ?_⟩) (by assumption) ?_
        rotate_left
        · (intro w hSw; (try dsimp only at hSw); (try go_simp); (try with_reducible rfl))
        (try simp only [Act.put, List.setIfInBounds_toArray, List.set_cons_zero, List.set_cons_succ])
        refine wpAnyH_take (i := 3) (oi := _) (v := ?_) rfl (by kernel_rfl) (by kernel_rfl) (by kernel_rfl) (fun _ _ _ h => h) (Or.inl ⟨by rfl, ?_⟩) (by assumption) ?_
        rotate_left
        · (intro w hSw; (try dsimp only at hSw); (try go_simp); (try with_reducible rfl))
        (try simp only [Act.put, List.setIfInBounds_toArray, List.set_cons_zero, List.set_cons_succ])
        refine wpAnyH_take (i := 4) (oi := _) (v := ?_) rfl (by kernel_rfl) (by kernel_rfl) (by kernel_rfl) (fun _ _ _ h => h) (Or.inl ⟨by rfl, ?_⟩) (by assumption) ?_
        rotate_left
        · (intro w hSw; (try dsimp only at hSw); (try go_simp); (try with_reducible rfl))
        (try simp only [Act.put, List.setIfInBounds_toArray, List.set_cons_zero, List.set_cons_succ])
        refine wpAnyH_take (i := 5) (oi := _) (v := ?_) rfl (by kernel_rfl) (by kernel_rfl) (by kernel_rfl) (fun _ _ _ h => h) (Or.inl ⟨by rfl, ?_⟩) (by assumption) ?_
        rotate_left
        · (intro w hSw; (try dsimp only at hSw); (try go_simp); (try with_reducible rfl))
        (try simp only [Act.put, List.setIfInBounds_toArray, List.set_cons_zero, List.set_cons_succ])
        refine wpAnyH_take (i := 6) (oi := _) (v := ?_) rfl (by kernel_rfl) (by kernel_rfl) (by kernel_rfl) (fun _ _ _ h => h) (Or.inl ⟨by rfl, ?_⟩) (by assumption) ?_
        rotate_left
        · (intro w hSw; (try dsimp only at hSw); (try go_simp); (try with_reducible rfl))
        (try simp only [Act.put, List.setIfInBounds_toArray, List.set_cons_zero, List.set_cons_succ])
        refine wpAnyH_take (i := 8) (oi := _) (v := ?_) rfl (by kernel_rfl) (by kernel_rfl) (by kernel_rfl) (fun _ _ _ h => h) (Or.inl ⟨by rfl, ?_⟩) (by assumption) ?_
        rotate_left
        · (intro w hSw; (try dsimp only at hSw); (try go_simp); (try with_reducible rfl))
        (try simp only [Act.put, List.setIfInBounds_toArray, List.set_cons_zero, List.set_cons_succ])
        refine wpAnyH_take (i := 9) (oi := _) (v := ?_) rfl (by kernel_rfl) (by kernel_rfl) (by kernel_rfl) (fun _ _ _ h => h) (Or.inl ⟨by rfl, ?_⟩) (by assumption) ?_
        rotate_left
        · (intro w hSw; (try dsimp only at hSw); (try go_simp); (try with_reducible rfl))
        (try simp only [Act.put, List.setIfInBounds_toArray, List.set_cons_zero, List.set_cons_succ])
        refine wpAnyH_take (i := 10) (oi := _) (v := ?_) rfl (by kernel_rfl) (by kernel_rfl) (by kernel_rfl) (fun _ _ _ h => h) (Or.inl ⟨by rfl, ?_⟩) (by assumption) ?_
        rotate_left
        · (intro w hSw; (try dsimp only at hSw); (try go_simp); (try with_reducible rfl))
        (try simp only [Act.put, List.setIfInBounds_toArray, List.set_cons_zero, List.set_cons_succ])
        refine wpAnyH_ready (rs := [7, 11]) (by kernel_rfl) (by simp) ?_
        refine AllReadyH.cons (o := _) rfl (fun K hK => ?_) ?_
        · go_simp
          refine hK.out _ _ ?_ (fun hHeld2 => ?_)
          · trivial
          clear hK K hHeld
          have hHeld := hHeld2
          clear hHeld2
          (try simp only [Act.put, List.setIfInBounds_toArray, List.set_cons_zero, List.set_cons_succ])
          refine wpAnyH_ready (rs := [11]) (by kernel_rfl) (by simp) ?_
          refine AllReadyH.cons (o := _) rfl (fun K hK => ?_) ?_
          · go_simp
            refine hK.out _ _ ?_ (fun hHeld2 => ?_)
            · trivial
            clear hK K hHeld
            have hHeld := hHeld2
            clear hHeld2
            (try simp only [Act.put, List.setIfInBounds_toArray, List.set_cons_zero, List.set_cons_succ])
            refine wpAnyH_take (i := 12) (oi := _) (v := ?_) rfl (by kernel_rfl) (by kernel_rfl) (by kernel_rfl) (fun _ _ _ h => h) (Or.inl ⟨by rfl, ?_⟩) (by assumption) ?_
            rotate_left
            · (intro w hSw; (try dsimp only at hSw); (try go_simp); (try with_reducible rfl))
            (try simp only [Act.put, List.setIfInBounds_toArray, List.set_cons_zero, List.set_cons_succ])
            refine wpAnyH_ready (rs := [13]) (by kernel_rfl) (by simp) ?_
            refine AllReadyH.cons (o := _) rfl (fun K hK => ?_) ?_
            · go_simp
              refine hK.out _ _ ?_ (fun hHeld2 => ?_)
              · trivial
              clear hK K hHeld
              have hHeld := hHeld2
              clear hHeld2
              (try simp only [Act.put, List.setIfInBounds_toArray, List.set_cons_zero, List.set_cons_succ])
              refine wpAnyH_take (i := 14) (oi := _) (v := ?_) rfl (by kernel_rfl) (by kernel_rfl) (by kernel_rfl) (fun _ _ _ h => h) (Or.inl ⟨by rfl, ?_⟩) (by assumption) ?_
              rotate_left
              · (intro w hSw; (try dsimp only at hSw); (try go_simp); (try with_reducible rfl))
              (try simp only [Act.put, List.setIfInBounds_toArray, List.set_cons_zero, List.set_cons_succ])
              refine wpAnyH_ready (rs := [15]) (by kernel_rfl) (by simp) ?_
              refine AllReadyH.cons (o := _) rfl (fun K hK => ?_) ?_
              · go_simp
                refine hK.out _ _ ?_ (fun hHeld2 => ?_)
                · trivial
                clear hK K hHeld
                have hHeld := hHeld2
                clear hHeld2
                (try simp only [Act.put, List.setIfInBounds_toArray, List.set_cons_zero, List.set_cons_succ])
                refine wpAnyH_done (by kernel_rfl) ?_ _
                exact hFin
              exact AllReadyH.nil
            exact AllReadyH.nil
          exact AllReadyH.nil
        refine AllReadyH.cons (o := _) rfl (fun K hK => ?_) ?_
        · go_simp
          refine hK.out _ _ ?_ (fun hHeld2 => ?_)
          · trivial
          clear hK K hHeld
          have hHeld := hHeld2
          clear hHeld2
          (try simp only [Act.put, List.setIfInBounds_toArray, List.set_cons_zero, List.set_cons_succ])
          refine wpAnyH_ready (rs := [7]) (by kernel_rfl) (by simp) ?_
          refine AllReadyH.cons (o := _) rfl (fun K hK => ?_) ?_
          · go_simp
            refine hK.out _ _ ?_ (fun hHeld2 => ?_)
            · trivial
            clear hK K hHeld
            have hHeld := hHeld2
            clear hHeld2
            (try simp only [Act.put, List.setIfInBounds_toArray, List.set_cons_zero, List.set_cons_succ])
            refine wpAnyH_take (i := 12) (oi := _) (v := ?_) rfl (by kernel_rfl) (by kernel_rfl) (by kernel_rfl) (fun _ _ _ h => h) (Or.inl ⟨by rfl, ?_⟩) (by assumption) ?_
            rotate_left
            · (intro w hSw; (try dsimp only at hSw); (try go_simp); (try with_reducible rfl))
            (try simp only [Act.put, List.setIfInBounds_toArray, List.set_cons_zero, List.set_cons_succ])
            refine wpAnyH_ready (rs := [13]) (by kernel_rfl) (by simp) ?_
            refine AllReadyH.cons (o := _) rfl (fun K hK => ?_) ?_
            · go_simp
              refine hK.out _ _ ?_ (fun hHeld2 => ?_)
              · trivial
              clear hK K hHeld
              have hHeld := hHeld2
              clear hHeld2
              (try simp only [Act.put, List.setIfInBounds_toArray, List.set_cons_zero, List.set_cons_succ])
              refine wpAnyH_take (i := 14) (oi := _) (v := ?_) rfl (by kernel_rfl) (by kernel_rfl) (by kernel_rfl) (fun _ _ _ h => h) (Or.inl ⟨by rfl, ?_⟩) (by assumption) ?_
              rotate_left
              · (intro w hSw; (try dsimp only at hSw); (try go_simp); (try with_reducible rfl))
              (try simp only [Act.put, List.setIfInBounds_toArray, List.set_cons_zero, List.set_cons_succ])
              refine wpAnyH_ready (rs := [15]) (by kernel_rfl) (by simp) ?_
              refine AllReadyH.cons (o := _) rfl (fun K hK => ?_) ?_
              · go_simp
                refine hK.out _ _ ?_ (fun hHeld2 => ?_)
                · trivial
                clear hK K hHeld
                have hHeld := hHeld2
                clear hHeld2
                (try simp only [Act.put, List.setIfInBounds_toArray, List.set_cons_zero, List.set_cons_succ])
                refine wpAnyH_done (by kernel_rfl) ?_ _
                exact hFin
              exact AllReadyH.nil
            exact AllReadyH.nil
          exact AllReadyH.nil
        exact AllReadyH.nil
      have hIf := hHI.out
      have hyf := HYF.out
      have HIF : Hid (Ints ((w9.setCell ⟨g, i, none⟩ (.int .i64 y)).setCell ⟨g, j, none⟩ (.int .i64 x)).drew (some ⟨g, 0, none⟩) cp (swp l i j)) := Lib.hid (hIf.ext (Ext.refl _).drew)
      have Y10 := hyf.drew
      clear e1 e2 e3 f1 f2 hIf hyf hHI HYF
      go_upto_region 11 with fail
      generalize ((w9.setCell ⟨g, i, none⟩ (.int .i64 y)).setCell ⟨g, j, none⟩ (.int .i64 x)).drew = w10 at *
      have hT := HHt.out i j hin hjn _ _ _ HIF.out
      rw [HHtE.out i j hin hjn] at hT
      have HT := Lib.hid hT
      clear hT HX HY HIF HHt HHtE f9 hg8 hg1 hg2
      go_wp2_with fail
      refine HT.out.mono ?_
      rintro e w11 ⟨v, rfl, hv, hyb⟩
      obtain ⟨neg2, av2, cv2, lv2, rfl⟩ := hv.form
      have hb2 := Blk.new0 w11 #[.bool neg2, .slice av2 lv2 cv2] 42
      have hyc := Ext.alloc w11 (.cells #[.bool neg2, .slice av2 lv2 cv2] 42)
      have V2 := Lib.hid (hv.val.ext hyc)
      have Y12 := Y10.trans (hyb.trans hyc)
      have HB2 := Lib.hid hb2
      clear HT hv hb2 hyb hyc Y10
      go_upto_region 12 with fail
      generalize hbs : w11.heap.size = p2 at *
      generalize w11.alloc (.cells #[.bool neg2, .slice av2 lv2 cv2] 42) = w12 at *
      clear hbs
      have hL2 := HHl.out (some ⟨b, o, none⟩) cap (sum + more) w12 (HI.out.ext (hy.trans Y12))
      rw [HLM.out] at hL2
      have HL2 := Lib.hid hL2
      clear hL2
      go_wp2_with fail
      refine HL2.out.mono ?_
      rintro e w13 ⟨v, rfl, hv, hyb⟩
      obtain ⟨neg3, av3, cv3, lv3, rfl⟩ := hv.form
      have hb3 := Blk.new0 w13 #[.bool neg3, .slice av3 lv3 cv3] 42
      have hyc := Ext.alloc w13 (.cells #[.bool neg3, .slice av3 lv3 cv3] 42)
      have V3 := Lib.hid (hv.val.ext hyc)
      have Y14 := Y12.trans (hyb.trans hyc)
      have V2 := Lib.hid (V2.out.ext (hyb.trans hyc))
      have HB2 := Lib.hid (HB2.out.ext (hyb.trans hyc))
      have HB3 := Lib.hid hb3
      clear HL2 hv hb3 hyb hyc Y12
      go_upto_region 13 with fail
      generalize hbs : w13.heap.size = p3 at *
      generalize w13.alloc (.cells #[.bool neg3, .slice av3 lv3 cv3] 42) = w14 at *
      clear hbs
      have B1 := HB1.out.ext Y14
      have c0 := B1.cell (i := 0) (v := .bool neg) rfl
      have c1 := B1.cell (i := 1) (v := .slice av lv cv) rfl
      have c4 := HB3.out.cell (i := 0) (v := .bool neg3) rfl
      have c5 := HB3.out.cell (i := 1) (v := .slice av3 lv3 cv3) rfl
      have HCM := Lib.hid (cmp_val V3.out (V1.out.ext Y14) (len_small (by omega)) (len_small (by omega)))
      clear B1
      go_wp2_with fail
      refine HCM.out.mono ?_
      rintro e w15 ⟨rfl, hyb⟩
      clear c0 c1 c4 c5 HCM
      have Y15 := Y14.trans hyb
      have B1 := HB1.out.ext Y15
      have B2 := HB2.out.ext hyb
      have c0 := B1.cell (i := 0) (v := .bool neg) rfl
      have c1 := B1.cell (i := 1) (v := .slice av lv cv) rfl
      have c4 := B2.cell (i := 0) (v := .bool neg2) rfl
      have c5 := B2.cell (i := 1) (v := .slice av2 lv2 cv2) rfl
      have hsame := ref_Same_val (V2.out.ext hyb) (V1.out.ext Y15)
      rw [decide_eq_true rfl] at hsame
      have HSM := Lib.hid hsame
      have hcm : decide (0 < cmpI (Lm : Int) (A : Int)) = false := by
        simp only [decide_eq_false_iff_not]; unfold cmpI; split <;> (try split) <;> omega
      generalize cmpI (Lm : Int) (A : Int) = CM at *
      clear hsame B1 B2 V2 V3 HB2 HB3 Y14 hyb
      go_wp2_with fail
      with_reducible refine HSM.out.mono ?_
      rintro e w16 ⟨rfl, hyb⟩
      have Y16 := Y15.trans hyb
      clear c0 c1 c4 c5 HSM Y15 hyb
      have T1 := (Blk.new0 w16 #[.bool false, .slice none 0 0] 42).alloc (.cells #[.bool false, .slice none 0 0] 42)
      have T2 := Blk.new1 w16 (.cells #[.bool false, .slice none 0 0] 42) #[.bool false, .slice none 0 0] 42
      have Y17 := (Y16.alloc' (.cells #[.bool false, .slice none 0 0] 42)).alloc' (.cells #[.bool false, .slice none 0 0] 42)
      have hp4 := Y16.size
      have hlt1 := HB1.out.lt
      go_upto_region 18 with fail
      generalize (w16.alloc (.cells #[.bool false, .slice none 0 0] 42)).alloc (.cells #[.bool false, .slice none 0 0] 42) = w17 at *
      generalize w16.heap.size = p4 at *
      clear hcm Y16 hra
      by_cases hK0 : K = 0
      · subst hK0
        have hsm := HSUM.out.2.1 rfl
        have d7 : decide ((0 : Int) ≤ (q : Int)) = true := by simp only [decide_eq_true_eq]; omega
        have VT1 := BigN.zero w17 w17.heap.size
        have hlt17 : p4 + 1 < w17.heap.size := T2.lt
        clear HSUM
        have hcall := HHr.out ra (cap - 1) 0 sum w17 (HIR.out.ext (hy.trans Y17)) (by omega)
        rw [HP2.out] at hcall
        have HCALL := Lib.hid hcall
        clear hcall
        go_wp2_with fail
        refine HCALL.out.mono ?_
        rintro e wA25 ⟨v, rfl, hv, hyA⟩
        obtain ⟨n25, a25, c25, l25, rfl⟩ := hv.form
        have T2x := T2.ext hyA
        have c0 := T2x.cell (i := 0) rfl
        have c1 := T2x.cell (i := 1) rfl
        have f0 := T2x.free 0
        have f1 := T2x.free 1
        have N1 := (T2x.set 0 (.bool n25)).set 1 (.slice a25 l25 c25)
        have N2 := ((T1.ext hyA).other (p := ⟨p4 + 1, 0, none⟩) (by dsimp only; omega) (.bool n25)).other (p := ⟨p4 + 1, 1, none⟩) (by dsimp only; omega) (.slice a25 l25 c25)
        have NY := ((Y17.trans hyA).set (p := ⟨p4 + 1, 0, none⟩) (by dsimp only; omega) (.bool n25)).set (p := ⟨p4 + 1, 1, none⟩) (by dsimp only; omega) (.slice a25 l25 c25)
        have hltW : p4 + 1 < w17.heap.size := T2.lt
        have NV := (hv.put (p := ⟨p4 + 1, 0, none⟩) (by dsimp only; omega) (.bool n25)).put (p := ⟨p4 + 1, 1, none⟩) (by dsimp only; omega) (.slice a25 l25 c25)
        have OV := ((VT1.ext hyA).put (p := ⟨p4 + 1, 0, none⟩) (by dsimp only; omega) (.bool n25)).put (p := ⟨p4 + 1, 1, none⟩) (by dsimp only; omega) (.slice a25 l25 c25)
        have HN1 := Lib.hid N1
        have HN2 := Lib.hid N2
        have HNY := Lib.hid NY
        have HNV := Lib.hid NV
        have HOV := Lib.hid OV
        clear N1 N2 NY NV OV T2x hyA hv HCALL T1 T2 Y17
        go_upto_region 26 with fail
        generalize (wA25.setCell ⟨p4 + 1, 0, none⟩ (.bool n25)).setCell ⟨p4 + 1, 1, none⟩ (.slice a25 l25 c25) = wB25 at *
        clear c0 c1 f0 f1
        have T2 := HN1.out
        have T1 := HN2.out
        have Y17 := HNY.out
        have VT2 := HNV.out
        have HVT2 := hltW
        have VT1 := HOV.out
        clear HN1 HN2 HNY HNV hltW HOV
        have c0 := T1.cell (i := 0) rfl
        have c1 := T1.cell (i := 1) rfl
        have c2' := T2.cell (i := 0) rfl
        have c3 := T2.cell (i := 1) rfl
        have hadd := add_one VT1.val VT2.val (len_small (by omega)) (len_small (by omega)) (len_small (by omega))
        rw [show (0 : Int) + (P2 : Int) = (A : Int) by omega] at hadd
        have HADD := Lib.hid hadd
        clear hadd VT1 VT2 T1 T2
        go_wp2_with fail
        refine HADD.out.mono ?_
        rintro e w30 ⟨v, rfl, hv, hyA⟩
        obtain ⟨n30, a30, c30, l30, rfl⟩ := hv.form
        have hb30 := Blk.new0 w30 #[.bool n30, .slice a30 l30 c30] 42
        have hyB := Ext.alloc w30 (.cells #[.bool n30, .slice a30 l30 c30] 42)
        have V30 := hv.val.ext hyB
        have Y31 := (Y17.trans hyA).trans hyB
        have B1 := HB1.out.ext Y31
        have hsame := ref_Same_val V30 (V1.out.ext Y31)
        rw [decide_eq_true rfl] at hsame
        have HSM := Lib.hid hsame
        have HB30 := Lib.hid hb30
        have HB1' := Lib.hid B1
        clear c0 c1 c2' c3 HADD hsame hb30 B1 hv hyA hyB V30 Y17
        go_upto_region 27 with fail
        generalize hbs : w30.heap.size = p30 at *
        generalize w30.alloc (.cells #[.bool n30, .slice a30 l30 c30] 42) = w31 at *
        have c0 := HB1'.out.cell (i := 0) (v := .bool neg) rfl
        have c1 := HB1'.out.cell (i := 1) (v := .slice av lv cv) rfl
        have c4 := HB30.out.cell (i := 0) (v := .bool n30) rfl
        have c5 := HB30.out.cell (i := 1) (v := .slice a30 l30 c30) rfl
        go_wp2_with fail
        with_reducible refine HSM.out.mono ?_
        rintro e w32 ⟨rfl, hyA⟩
        go_wp2_with fail
        go_ret
        exact ⟨rfl, hx.trans (hy.trans (Y31.trans hyA))⟩
      · by_cases hK1 : K ≤ q
        · skip
          obtain ⟨j, rfl⟩ : ∃ j, K = j + 1 := ⟨K - 1, by omega⟩
          rw [Nat.add_sub_cancel] at HP1
          have hsm := HSUM.out.1 (by omega) (by omega)
          have d6 : decide (0 < (j : Int) + 1) = true := by simp only [decide_eq_true_eq]; omega
          have d7 : decide ((j : Int) + 1 ≤ (q : Int)) = true := by simp only [decide_eq_true_eq]; omega
          have c9 := cell_ext (hy.trans Y17) HC0.out
          have VT2 := BigN.zero w17 w17.heap.size
          have hlt17 : p4 + 1 < w17.heap.size := T2.lt
          clear HSUM
          have hcall := HHr.out ra (cap - 1) j (sum - x0) w17 (HIR.out.ext (hy.trans Y17)) (by omega)
          rw [HP1.out] at hcall
          have HCALL := Lib.hid hcall
          clear hcall
          go_wp2_with fail
          refine HCALL.out.mono ?_
          rintro e wA26 ⟨v, rfl, hv, hyA⟩
          obtain ⟨n26, a26, c26, l26, rfl⟩ := hv.form
          have T1x := T1.ext hyA
          have c0 := T1x.cell (i := 0) rfl
          have c1 := T1x.cell (i := 1) rfl
          have f0 := T1x.free 0
          have f1 := T1x.free 1
          have N1 := (T1x.set 0 (.bool n26)).set 1 (.slice a26 l26 c26)
          have N2 := ((T2.ext hyA).other (p := ⟨p4, 0, none⟩) (by dsimp only; omega) (.bool n26)).other (p := ⟨p4, 1, none⟩) (by dsimp only; omega) (.slice a26 l26 c26)
          have NY := ((Y17.trans hyA).set (p := ⟨p4, 0, none⟩) (by dsimp only; omega) (.bool n26)).set (p := ⟨p4, 1, none⟩) (by dsimp only; omega) (.slice a26 l26 c26)
          have hltW : p4 + 1 < w17.heap.size := T2.lt
          have NV := (hv.put (p := ⟨p4, 0, none⟩) (by dsimp only; omega) (.bool n26)).put (p := ⟨p4, 1, none⟩) (by dsimp only; omega) (.slice a26 l26 c26)
          have OV := ((VT2.ext hyA).put (p := ⟨p4, 0, none⟩) (by dsimp only; omega) (.bool n26)).put (p := ⟨p4, 1, none⟩) (by dsimp only; omega) (.slice a26 l26 c26)
          have HN1 := Lib.hid N1
          have HN2 := Lib.hid N2
          have HNY := Lib.hid NY
          have HNV := Lib.hid NV
          have HOV := Lib.hid OV
          clear N1 N2 NY NV OV T1x hyA hv HCALL T1 T2 Y17
          go_upto_region 22 with fail
          generalize (wA26.setCell ⟨p4, 0, none⟩ (.bool n26)).setCell ⟨p4, 1, none⟩ (.slice a26 l26 c26) = wB26 at *
          clear c0 c1 f0 f1
          have T1 := HN1.out
          have T2 := HN2.out
          have Y17 := HNY.out
          have VT1 := HNV.out
          have HVT1 := hltW
          have VT2 := HOV.out
          clear HN1 HN2 HNY HNV hltW HOV
          clear c9
          have hcall := HHr.out ra (cap - 1) (j + 1) sum wB26 (HIR.out.ext (hy.trans Y17)) (by omega)
          rw [HP2.out] at hcall
          have HCALL := Lib.hid hcall
          clear hcall
          go_wp2_with fail
          refine HCALL.out.mono ?_
          rintro e wA27 ⟨v, rfl, hv, hyA⟩
          obtain ⟨n27, a27, c27, l27, rfl⟩ := hv.form
          have T2x := T2.ext hyA
          have c0 := T2x.cell (i := 0) rfl
          have c1 := T2x.cell (i := 1) rfl
          have f0 := T2x.free 0
          have f1 := T2x.free 1
          have N1 := (T2x.set 0 (.bool n27)).set 1 (.slice a27 l27 c27)
          have N2 := ((T1.ext hyA).other (p := ⟨p4 + 1, 0, none⟩) (by dsimp only; omega) (.bool n27)).other (p := ⟨p4 + 1, 1, none⟩) (by dsimp only; omega) (.slice a27 l27 c27)
          have NY := ((Y17.trans hyA).set (p := ⟨p4 + 1, 0, none⟩) (by dsimp only; omega) (.bool n27)).set (p := ⟨p4 + 1, 1, none⟩) (by dsimp only; omega) (.slice a27 l27 c27)
          have hltW : p4 + 1 < wB26.heap.size := T2.lt
          have NV := (hv.put (p := ⟨p4 + 1, 0, none⟩) (by dsimp only; omega) (.bool n27)).put (p := ⟨p4 + 1, 1, none⟩) (by dsimp only; omega) (.slice a27 l27 c27)
          have OV := ((VT1.ext hyA).put (p := ⟨p4 + 1, 0, none⟩) (by dsimp only; omega) (.bool n27)).put (p := ⟨p4 + 1, 1, none⟩) (by dsimp only; omega) (.slice a27 l27 c27)
          have HN1 := Lib.hid N1
          have HN2 := Lib.hid N2
          have HNY := Lib.hid NY
          have HNV := Lib.hid NV
          have HOV := Lib.hid OV
          clear N1 N2 NY NV OV T2x hyA hv HCALL T1 T2 Y17
          go_upto_region 26 with fail
          generalize (wA27.setCell ⟨p4 + 1, 0, none⟩ (.bool n27)).setCell ⟨p4 + 1, 1, none⟩ (.slice a27 l27 c27) = wB27 at *
          clear c0 c1 f0 f1
          have T2 := HN1.out
          have T1 := HN2.out
          have Y17 := HNY.out
          have VT2 := HNV.out
          have HVT2 := hltW
          have VT1 := HOV.out
          clear HN1 HN2 HNY HNV hltW HOV
          have c0 := T1.cell (i := 0) rfl
          have c1 := T1.cell (i := 1) rfl
          have c2' := T2.cell (i := 0) rfl
          have c3 := T2.cell (i := 1) rfl
          have hadd := add_one VT1.val VT2.val (len_small (by omega)) (len_small (by omega)) (len_small (by omega))
          rw [show (P1 : Int) + (P2 : Int) = (A : Int) by omega] at hadd
          have HADD := Lib.hid hadd
          clear hadd VT1 VT2 T1 T2
          go_wp2_with fail
          refine HADD.out.mono ?_
          rintro e w30 ⟨v, rfl, hv, hyA⟩
          obtain ⟨n30, a30, c30, l30, rfl⟩ := hv.form
          have hb30 := Blk.new0 w30 #[.bool n30, .slice a30 l30 c30] 42
          have hyB := Ext.alloc w30 (.cells #[.bool n30, .slice a30 l30 c30] 42)
          have V30 := hv.val.ext hyB
          have Y31 := (Y17.trans hyA).trans hyB
          have B1 := HB1.out.ext Y31
          have hsame := ref_Same_val V30 (V1.out.ext Y31)
          rw [decide_eq_true rfl] at hsame
          have HSM := Lib.hid hsame
          have HB30 := Lib.hid hb30
          have HB1' := Lib.hid B1
          clear c0 c1 c2' c3 HADD hsame hb30 B1 hv hyA hyB V30 Y17
          go_upto_region 27 with fail
          generalize hbs : w30.heap.size = p30 at *
          generalize w30.alloc (.cells #[.bool n30, .slice a30 l30 c30] 42) = w31 at *
          have c0 := HB1'.out.cell (i := 0) (v := .bool neg) rfl
          have c1 := HB1'.out.cell (i := 1) (v := .slice av lv cv) rfl
          have c4 := HB30.out.cell (i := 0) (v := .bool n30) rfl
          have c5 := HB30.out.cell (i := 1) (v := .slice a30 l30 c30) rfl
          go_wp2_with fail
          with_reducible refine HSM.out.mono ?_
          rintro e w32 ⟨rfl, hyA⟩
          go_wp2_with fail
          go_ret
          exact ⟨rfl, hx.trans (hy.trans (Y31.trans hyA))⟩
        · skip
          obtain rfl : K = q + 1 := by omega
          rw [Nat.add_sub_cancel] at HP1
          have hsm := HSUM.out.2.2 rfl
          have d6 : decide (0 < (q : Int) + 1) = true := by simp only [decide_eq_true_eq]; omega
          have d7 : decide ((q : Int) + 1 ≤ (q : Int)) = false := by simp only [decide_eq_false_iff_not]; omega
          have c9 := cell_ext (hy.trans Y17) HC0.out
          have VT2 := BigN.zero w17 w17.heap.size
          have hlt17 : p4 + 1 < w17.heap.size := T2.lt
          clear HSUM
          have hcall := HHr.out ra (cap - 1) q (sum - x0) w17 (HIR.out.ext (hy.trans Y17)) (by omega)
          rw [HP1.out] at hcall
          have HCALL := Lib.hid hcall
          clear hcall
          go_wp2_with fail
          refine HCALL.out.mono ?_
          rintro e wA28 ⟨v, rfl, hv, hyA⟩
          obtain ⟨n28, a28, c28, l28, rfl⟩ := hv.form
          have T1x := T1.ext hyA
          have c0 := T1x.cell (i := 0) rfl
          have c1 := T1x.cell (i := 1) rfl
          have f0 := T1x.free 0
          have f1 := T1x.free 1
          have N1 := (T1x.set 0 (.bool n28)).set 1 (.slice a28 l28 c28)
          have N2 := ((T2.ext hyA).other (p := ⟨p4, 0, none⟩) (by dsimp only; omega) (.bool n28)).other (p := ⟨p4, 1, none⟩) (by dsimp only; omega) (.slice a28 l28 c28)
          have NY := ((Y17.trans hyA).set (p := ⟨p4, 0, none⟩) (by dsimp only; omega) (.bool n28)).set (p := ⟨p4, 1, none⟩) (by dsimp only; omega) (.slice a28 l28 c28)
          have hltW : p4 + 1 < w17.heap.size := T2.lt
          have NV := (hv.put (p := ⟨p4, 0, none⟩) (by dsimp only; omega) (.bool n28)).put (p := ⟨p4, 1, none⟩) (by dsimp only; omega) (.slice a28 l28 c28)
          have OV := ((VT2.ext hyA).put (p := ⟨p4, 0, none⟩) (by dsimp only; omega) (.bool n28)).put (p := ⟨p4, 1, none⟩) (by dsimp only; omega) (.slice a28 l28 c28)
          have HN1 := Lib.hid N1
          have HN2 := Lib.hid N2
          have HNY := Lib.hid NY
          have HNV := Lib.hid NV
          have HOV := Lib.hid OV
          clear N1 N2 NY NV OV T1x hyA hv HCALL T1 T2 Y17
          go_upto_region 22 with fail
          generalize (wA28.setCell ⟨p4, 0, none⟩ (.bool n28)).setCell ⟨p4, 1, none⟩ (.slice a28 l28 c28) = wB28 at *
          clear c0 c1 f0 f1
          have T1 := HN1.out
          have T2 := HN2.out
          have Y17 := HNY.out
          have VT1 := HNV.out
          have HVT1 := hltW
          have VT2 := HOV.out
          clear HN1 HN2 HNY HNV hltW HOV
          clear c9
          have hlt18 : p4 + 1 < wB28.heap.size := T2.lt
          go_upto_region 26 with fail
          have c0 := T1.cell (i := 0) rfl
          have c1 := T1.cell (i := 1) rfl
          have c2' := T2.cell (i := 0) rfl
          have c3 := T2.cell (i := 1) rfl
          have hadd := add_one VT1.val VT2.val (len_small (by omega)) (len_small (by omega)) (len_small (by omega))
          rw [show (P1 : Int) + (0 : Int) = (A : Int) by omega] at hadd
          have HADD := Lib.hid hadd
          clear hadd VT1 VT2 T1 T2
          go_wp2_with fail
          refine HADD.out.mono ?_
          rintro e w30 ⟨v, rfl, hv, hyA⟩
          obtain ⟨n30, a30, c30, l30, rfl⟩ := hv.form
          have hb30 := Blk.new0 w30 #[.bool n30, .slice a30 l30 c30] 42
          have hyB := Ext.alloc w30 (.cells #[.bool n30, .slice a30 l30 c30] 42)
          have V30 := hv.val.ext hyB
          have Y31 := (Y17.trans hyA).trans hyB
          have B1 := HB1.out.ext Y31
          have hsame := ref_Same_val V30 (V1.out.ext Y31)
          rw [decide_eq_true rfl] at hsame
          have HSM := Lib.hid hsame
          have HB30 := Lib.hid hb30
          have HB1' := Lib.hid B1
          clear c0 c1 c2' c3 HADD hsame hb30 B1 hv hyA hyB V30 Y17
          go_upto_region 27 with fail
          generalize hbs : w30.heap.size = p30 at *
          generalize w30.alloc (.cells #[.bool n30, .slice a30 l30 c30] 42) = w31 at *
          have c0 := HB1'.out.cell (i := 0) (v := .bool neg) rfl
          have c1 := HB1'.out.cell (i := 1) (v := .slice av lv cv) rfl
          have c4 := HB30.out.cell (i := 0) (v := .bool n30) rfl
          have c5 := HB30.out.cell (i := 1) (v := .slice a30 l30 c30) rfl
          go_wp2_with fail
          with_reducible refine HSM.out.mono ?_
          rintro e w32 ⟨rfl, hyA⟩
          go_wp2_with fail
          go_ret
          exact ⟨rfl, hx.trans (hy.trans (Y31.trans hyA))⟩
end Go.Proofs.Ytmkleegfbapakaa
