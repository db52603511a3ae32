import Derived.Test.YtnpeakahiedeoaaGreatDoorPRefB
import Derived.Test.YtnpeakahiedeoaaGreatDoorPRead2
import Derived.Test.YtnpeakahiedeoaaGreatDoorFacts
import Derived.Outline
import Derived.Test.YtnpeakahiedeoaaGreatDoorHeldIn
namespace Go.Proofs.YtnpeakahiedeoaaGreatDoor
open Go.RowKit Go BigFrame Go.Shelf
set_option maxRecDepth 100000
set_option linter.unusedSimpArgs false
set_option linter.unusedVariables false

/-! ref.Read. -/
/-- How a text begins: a sign, or none, and what is left. -/
def EntryP (s R : ByteArray) (neg : Bool) : Prop :=
  (neg = true ∧ (∃ h : 0 < s.size, (s[0]'h).toNat = 45) ∧ R = s.extract 1 s.size) ∨ (neg = false ∧ R = s ∧ ∃ h : 0 < R.size, (R[0]'h).toNat ≠ 45) ∨ (neg = false ∧ R = s ∧ R.size = 0)
theorem entry_of (s : ByteArray) : ∃ R, EntryP s R (negOf s.data.toList) ∧ restOf s.data.toList = R.data.toList := by
  have hz := Lib.size_eq s
  cases hl : s.data.toList with
  | nil =>
    rw [hl] at hz
    exact ⟨s, .inr (.inr ⟨rfl, rfl, by simpa using hz⟩), by rw [hl]; rfl⟩
  | cons b l =>
    rw [hl] at hz
    have h3 : 0 < s.size := by rw [hz]; simp
    have hb0 : s[0]'h3 = b := by
      have h4 : s.data.toList[0]? = some b := by rw [hl]; rfl
      rw [List.getElem?_eq_getElem (by rw [← Lib.size_eq]; exact h3)] at h4
      exact Option.some.inj h4
    by_cases hb : b = 45
    · subst hb
      refine ⟨s.extract 1 s.size, .inl ⟨by simp [negOf], ⟨h3, by rw [hb0]; rfl⟩, rfl⟩, ?_⟩
      have e1 : (s.extract 1 s.size).data.toList = (s.data.toList.drop 1) := by
        rw [ByteArray.data_extract, Array.toList_extract, List.extract_eq_take_drop, List.take_of_length_le]
        rw [List.length_drop, ← Lib.size_eq]
        omega
      rw [e1, hl]
      simp [restOf]
    · refine ⟨s, .inr (.inl ⟨by simp [negOf, hb], rfl, h3, fun e => hb (UInt8.toNat_inj.1 (by rw [hb0] at e; exact e))⟩), by rw [hl]; simp [restOf, hb]⟩
set_option maxHeartbeats 2000000 in
theorem ref_Read_bad (s R : ByteArray) (neg : Bool) (w : World) (hE : EntryP s R neg) (hR : R.size = 0 ∨ (∃ h : 0 < R.size, (R[0]'h).toNat = 48 ∧ (neg = true ∨ 1 < R.size))) :
    Calls Tryz.prog 66 #[.string s] w fun e w' => e = .returned (.tuple #[zeroBig, .int .i64 90]) ∧ Ext w w' := by
  have B1 := Blk.new0 w #[.bool false, .slice none 0 0] 24
  have hx : Ext w (w.alloc (.cells #[.bool false, .slice none 0 0] 24)) := (by repeat (first | with_reducible exact Ext.refl _ | with_reducible assumption | with_reducible refine Ext.drewN ?_ _ | with_reducible refine Ext.drew ?_ | with_reducible refine Ext.alloc' ?_ _ | with_reducible refine Ext.set ?_ (by dsimp only; omega) _))
  have c0 := B1.cell (i := 0) (v := .bool false) rfl
  have c1 := B1.cell (i := 1) (v := .slice none 0 0) rfl
  have f0 := B1.free 0
  have f1 := B1.free 1
  have HB := Lib.hid B1
  have HX := Lib.hid ((hx.set (p := ⟨w.heap.size, 0, none⟩) (by dsimp only; omega) (.bool false)).set (p := ⟨w.heap.size, 1, none⟩) (by dsimp only; omega) (.slice none 0 0))
  clear B1 hx
  have key : (R.size = 0) ∨ (∃ h : 0 < R.size, decide (R.size = 0) = false ∧ (((R[0]'h).toNat : Int) == 48) = true ∧ ((R[0]'h).toNat == 48) = true ∧ (R[0]'h).toNat = 48 ∧ (neg = true ∨ (neg = false ∧ decide (1 < R.size) = true ∧ decide ((1 : Int) < (R.size : Int)) = true))) := by
    rcases hR with h | ⟨h, h1, h2⟩
    · exact .inl h
    · right
      refine ⟨h, decide_eq_false (by omega), by rw [h1]; rfl, by rw [h1]; rfl, h1, ?_⟩
      cases neg with
      | true => exact .inl rfl
      | false =>
        have : 1 < R.size := by
          rcases h2 with h2 | h2
          · cases h2
          · omega
        exact .inr ⟨rfl, by simpa using this, by simp only [decide_eq_true_eq]; omega⟩
  have HK := Lib.hid key
  clear key hR
  rcases hE with ⟨rfl, ⟨h3, h4⟩, hs⟩ | ⟨rfl, rfl, h3, h4⟩ | ⟨rfl, rfl, h3⟩
  case' inl =>
    have hsl : ∀ W : World, (Instr.slice 9 (.string s) (some (.int .i64 1)) none none).run Tryz.prog W = .ok (.string R) W := fun W => by
      rw [run_slice_string_from_if (h := Tryz.underlying9), if_pos (by omega), hs]; rfl
    have d1 : decide (0 < s.size) = true := by simpa using h3
    have d2 : decide ((0 : Int) < (s.size : Int)) = true := by simp only [decide_eq_true_eq]; omega
    have d3 : (((s[0]'h3).toNat : Int) == 45) = true := by rw [h4]; rfl
    have d4 : ((s[0]'h3).toNat == 45) = true := by rw [h4]; rfl
    clear hs
  case' inr.inl =>
    have d1 : decide (0 < R.size) = true := by simpa using h3
    have d2 : decide ((0 : Int) < (R.size : Int)) = true := by simp only [decide_eq_true_eq]; omega
    have d3 : (((R[0]'h3).toNat : Int) == 45) = false := by simp; omega
    have d4 : ((R[0]'h3).toNat == 45) = false := by simpa using h4
  all_goals
    go_enter Tryz.func66, Tryz.ntmps66
    go_upto_region 1 with fail
    generalize w.alloc (.cells #[.bool false, .slice none 0 0] 24) = w1 at *
    go_upto_region 4 with fail
  all_goals
    rcases HK.out with k1 | ⟨k0, k1, k2, k3, k4, k9 | ⟨k9, k5, k6⟩⟩
  all_goals
    first
      | (exfalso; omega)
      | exact absurd k9 (by decide)
      | skip
  all_goals
    clear HK
    try clear k9
    go_wp2_with fail
    have K := (HB.out.set 0 (.bool false)).set 1 (.slice none 0 0)
    have e0 := K.cell (i := 0) (v := .bool false) rfl
    have e1 := K.cell (i := 1) (v := .slice none 0 0) rfl
    refine bodyPost_ret (v := .tuple #[zeroBig, .int .i64 90]) (by simp [results, Tryz.results66, go_sem, e0, e1]) rfl ?_
    exact ⟨rfl, HX.out⟩

theorem trim_ints {w : World} {a : Option Addr} {cap : Nat} {l : List Int} (h : Ints w a cap l) : Ints w a cap (trimL l) := by
  rw [trim_take]
  have := trim_len l
  exact ⟨by have := h.le; rw [List.length_take]; omega, h.mx, h.nil, fun A hA i hi => by
    rw [List.length_take] at hi
    obtain ⟨h1, v, h2, h3⟩ := h.cells A hA i (by omega)
    exact ⟨h1, v, h2, by simpa using h3⟩⟩
set_option maxHeartbeats 8000000 in
theorem ref_Read_body (s R : ByteArray) (neg : Bool) (w : World) (hE : EntryP s R neg) (hs : R.size ≤ 1000) (h3 : 0 < R.size) (hh : (R[0]'h3).toNat ≠ 48 ∨ ((R[0]'h3).toNat = 48 ∧ neg = false ∧ R.size = 1)) (hz : neg = true → R.data.toList.all isDig = true → 0 < numL R.data.toList) :
    Calls Tryz.prog 66 #[.string s] w (ReadP (if R.data.toList.all isDig then some (sgn neg (numL R.data.toList)) else none) w) := by
  have B1 := Blk.new0 w #[.bool false, .slice none 0 0] 24
  have hx : Ext w (w.alloc (.cells #[.bool false, .slice none 0 0] 24)) := (by repeat (first | with_reducible exact Ext.refl _ | with_reducible assumption | with_reducible refine Ext.drewN ?_ _ | with_reducible refine Ext.drew ?_ | with_reducible refine Ext.alloc' ?_ _ | with_reducible refine Ext.set ?_ (by dsimp only; omega) _))
  have HB := Lib.hid B1
  have HX := Lib.hid hx
  have HZ := Lib.hid hz
  have HRS := Lib.hid (show R.data.toList.length = R.size from (Lib.size_eq R).symm)
  have hs2 : (R.size : Int) ≤ 1000 := by omega
  obtain ⟨O, hO⟩ : ∃ O, (if R.data.toList.all isDig then some (sgn neg (numL R.data.toList)) else none) = O := ⟨_, rfl⟩
  have HO := Lib.hid hO
  rw [hO]
  obtain ⟨nb, hnb⟩ : ∃ nb, neg = nb := ⟨_, rfl⟩
  have HNB := Lib.hid hnb
  have k0 : decide (R.size = 0) = false := decide_eq_false (by omega)
  have k0b : ((R.size : Int) == 0) = false := by rw [beq_eq_false_iff_ne]; omega
  have k0c : ¬ (R.size : Int) = 0 := by omega
  have key : ((((R[0]'h3).toNat : Int) == 48) = false ∧ ((R[0]'h3).toNat == 48) = false ∧ ¬ (R[0]'h3).toNat = 48) ∨ ((((R[0]'h3).toNat : Int) == 48) = true ∧ ((R[0]'h3).toNat == 48) = true ∧ (R[0]'h3).toNat = 48 ∧ neg = false ∧ decide (1 < R.size) = false ∧ decide ((1 : Int) < (R.size : Int)) = false) := by
    rcases hh with h | ⟨h1, h2, h4⟩
    · exact .inl ⟨by rw [beq_eq_false_iff_ne]; omega, by simpa using h, h⟩
    · exact .inr ⟨by rw [h1]; rfl, by rw [h1]; rfl, h1, h2, decide_eq_false (by omega), decide_eq_false (by omega)⟩
  have HK := Lib.hid key
  clear B1 hx hz hO hnb hh key
  rcases hE with ⟨rfl, ⟨h5, h4⟩, hs⟩ | ⟨rfl, rfl, h5, h4⟩ | ⟨rfl, rfl, h5⟩
  case' inl =>
    have hsl : ∀ W : World, (Instr.slice 9 (.string s) (some (.int .i64 1)) none none).run Tryz.prog W = .ok (.string R) W := fun W => by
      rw [run_slice_string_from_if (h := Tryz.underlying9), if_pos (by omega), hs]; rfl
    have d1 : decide (0 < s.size) = true := by simpa using h5
    have d2 : decide ((0 : Int) < (s.size : Int)) = true := by simp only [decide_eq_true_eq]; omega
    have d3 : (((s[0]'h5).toNat : Int) == 45) = true := by rw [h4]; rfl
    have d4 : ((s[0]'h5).toNat == 45) = true := by rw [h4]; rfl
    clear hs
  case' inr.inl =>
    have d1 : decide (0 < R.size) = true := by simpa using h5
    have d2 : decide ((0 : Int) < (R.size : Int)) = true := by simp only [decide_eq_true_eq]; omega
    have d3 : (((R[0]'h5).toNat : Int) == 45) = false := by simp; omega
    have d4 : ((R[0]'h5).toNat == 45) = false := by simpa using h4
  all_goals
    first
      | (exfalso; omega)
      | skip
  all_goals
    go_enter Tryz.func66, Tryz.ntmps66
    go_upto_region 1 with fail
    generalize hw1 : w.alloc (.cells #[.bool false, .slice none 0 0] 24) = w1 at *
    clear hw1
    go_upto_region 4 with fail
  all_goals
    rcases HK.out with ⟨k1, k2, k3⟩ | ⟨k1, k2, k3, k4, k5, k6⟩
  all_goals
    first
      | exact absurd k4 (by decide)
      | skip
  all_goals
    clear HK
    go_upto_region 6 with fail
    have HB2 := Lib.hid (HB.out.alloc (.cells #[] 3))
    have HI2 := Lib.hid (show Ints (w1.alloc (.cells #[] 3)) (some ⟨w1.heap.size, 0, none⟩) 0 [] from ⟨Nat.le_refl _, by omega, fun h => by (cases h), fun A hA i hi => by simp at hi⟩)
    have hx2 := Lib.hid (HX.out.alloc' (.cells #[] 3))
    have hsz2 : w.heap.size < w1.heap.size := HB.out.lt
    clear HB HX k0 k0b k0c k1 k2 k3
    try clear k4 k5 k6
    try clear hsl d1 d2 d3 d4
    go_wp2_with fail
    go_loopw [5, 6] (fun v5 v6 wr => ∃ (k N : Nat) (a : Option Addr) (c L : Nat), k ≤ R.size ∧ v6 = .int .i64 k ∧ v5 = .slice a L c ∧ (digs N).length = L ∧ N = numL (R.data.toList.take k) ∧ Ints wr a c (digs N) ∧ (R.data.toList.take k).all isDig = true ∧
      Blk wr w.heap.size #[.bool false, .slice none 0 0] 24 ∧ Ext w wr ∧ (∀ A, a = some A → w.heap.size < A.block)) (fun _ v6 _ => R.size - (intOf v6).toNat)
    case atStart =>
      exact ⟨0, 0, _, 0, 0, Nat.zero_le _, rfl, rfl, by rw [digs_zero]; rfl, rfl, by rw [digs_zero]; exact HI2.out, rfl, HB2.out, hx2.out, fun A hA => by cases hA; exact hsz2⟩
    case round =>
      clear HI2 HB2 hx2
      obtain ⟨k, N, a, c, L, hk, rfl, rfl, hL, hN, hi, hall, hB, hxr, hfr⟩ := hrel
      have hnum := numL_lt _ hall
      rw [← hN, List.length_take, HRS.out] at hnum
      have hlen := dec_len hnum (by omega)
      by_cases hkn : k < R.size
      · obtain ⟨b, hb⟩ : ∃ b, R.data.toList[k]? = some b := ⟨_, List.getElem?_eq_getElem (by rw [HRS.out]; exact hkn)⟩
        have hbb : R[k]'hkn = b := by
          rw [List.getElem?_eq_getElem (by rw [HRS.out]; exact hkn)] at hb
          exact Option.some.inj hb
        obtain ⟨bv, hbv⟩ : ∃ bv : Int, ((b.toNat : Nat) : Int) = bv := ⟨_, rfl⟩
        have hbv2 : (((R[k]'hkn).toNat : Nat) : Int) = bv := by rw [hbb]; exact hbv
        have hb0 : 0 ≤ bv := by omega
        have hb1 : bv ≤ 255 := by have := b.toNat_lt; omega
        have d1 : decide (k < R.size) = true := by simpa using hkn
        have d2 : decide ((k : Int) < (R.size : Int)) = true := by simp only [decide_eq_true_eq]; omega
        have HBB := Lib.hid (And.intro hb (And.intro hbb hbv))
        by_cases hd : 48 ≤ bv ∧ bv ≤ 57
        · have d3 : decide (bv < 48) = false := decide_eq_false (by omega)
          have d4 : decide (57 < bv) = false := decide_eq_false (by omega)
          have d5 : decide (2048 < (L : Int)) = false := decide_eq_false (by omega)
          have d6 : decide (2048 < L) = false := decide_eq_false (by omega)
          obtain ⟨D, hD⟩ : ∃ D : Int, bv - 48 = D := ⟨_, rfl⟩
          have hw : IntKind.u8.wrap (bv - 48) = D := by rw [IntKind.wrap_u8, ← hD]; omega
          have HD := Lib.hid hD
          have hD0 : 0 ≤ D := by omega
          have hD9 : D ≤ 9 := by omega
          have HL := Lib.hid hL
          have hi0 := hi
          have HD10 : Hid ((digs (N * 10)).length ≤ 1000) := Lib.hid (by
            have h2 : N * 10 < 10 ^ (k + 1) := by
              have h3 : N < 10 ^ k := by rw [Nat.min_eq_left hk] at hnum; exact hnum
              rw [Nat.pow_succ]; omega
            have := dec_len0 (k := k + 1) (M := 1001) (L := 134) h2 (by omega) (by decide)
            omega)
          have hw2 : IntKind.i64.wrap D = D := IntWalk.i64_in _ (by omega)
          have HNN := Lib.hid (And.intro hN (And.intro hall (And.intro hb (And.intro hbb hbv))))
          clear hb hbb hbv hL hN hnum hall hi hD
          go_upto_region 12 with fail
          have HTM := Lib.hid (fun (W : World) (p1 : Nat) (h : Ints W a c (digs N)) (i1 : Ints W (some ⟨p1, 0, none⟩) 1 [10]) => show Calls Tryz.prog 101 #[.slice a L c, .slice (some ⟨p1, 0, none⟩) 1 1] W (DigP (digs (N * 10)) W) by
            have := ref_times a (some ⟨p1, 0, none⟩) c 1 (digs N) [10] W h i1 (digs_norm _).digs digs_ten.1.digs (by simp; omega)
            rw [show (dval (digs N) * dval [10]).toNat = N * 10 by rw [digs_val, digs_ten.2]; omega, HL.out] at this
            exact this)
          have hi := Lib.hid hi0
          have HTR := Lib.hid (fun (l : List Int) (h : Digs l) (h2 : dval l = ((N * 10 + D.toNat : Nat) : Int)) => show trimL l = digs (N * 10 + D.toNat) by
            have := digs_of (trim_norm l h)
            rw [← this, trim_val, h2]; rfl)
          have nD : Digs [D] := fun x hx => by obtain rfl := List.mem_singleton.1 hx; omega
          have HPL := Lib.hid (fun (W : World) (a2 : Option Addr) (c2 : Nat) (p8 : Nat) (i2 : Ints W a2 c2 (digs (N * 10))) (i8 : Ints W (some ⟨p8, 0, none⟩) 1 [D]) => show Calls Tryz.prog 89 #[.slice a2 (digs (N * 10)).length c2, .slice (some ⟨p8, 0, none⟩) 1 1] W (ValP ((N * 10 + D.toNat : Nat) : Int) 1001 W) by
            have := ref_plus a2 (some ⟨p8, 0, none⟩) c2 1 (digs (N * 10)) [D] W i2 i8 (digs_norm _).digs nD 1000 HD10.out (by simp) (by omega)
            rw [show dval (digs (N * 10)) + dval [D] = ((N * 10 + D.toNat : Nat) : Int) by rw [digs_val]; simp [dval]; omega] at this
            exact this)
          clear hi0
          have HDB := Lib.hid (show ∀ x ∈ [D], -9223372036854775808 ≤ x ∧ x ≤ 9223372036854775807 from fun x hx => by obtain rfl := List.mem_singleton.1 hx; omega)
          refine wp_region_held_drew (S := (fun _ => True)) (by kernel_rfl) ?_ (fun hHeld => ?_)
          · trivial
          refine wpAnyH_take (i := 0) (oi := _) (v := ?_) rfl (by kernel_rfl) (by kernel_rfl) (by kernel_rfl) (fun _ _ _ h => h) (Or.inl ⟨by rfl, ?_⟩) (by assumption) ?_
          rotate_left
          · (intro w hSw; (try dsimp only at hSw); (try go_simp); (try with_reducible rfl))
          (try simp only [Act.put, List.getElem_toArray, List.getElem_cons_succ, List.getElem_cons_zero, List.setIfInBounds_toArray, List.set_cons_zero, List.set_cons_succ])
          refine wpAnyH_take (i := 3) (oi := _) (v := ?_) rfl (by kernel_rfl) (by kernel_rfl) (by kernel_rfl) (fun _ _ _ h => h) (Or.inl ⟨by rfl, ?_⟩) (by assumption) ?_
          rotate_left
          · (intro w hSw; (try dsimp only at hSw); (try go_simp); (try with_reducible rfl))
          (try simp only [Act.put, List.getElem_toArray, List.getElem_cons_succ, List.getElem_cons_zero, List.setIfInBounds_toArray, List.set_cons_zero, List.set_cons_succ])
          refine wpAnyH_take (i := 4) (oi := _) (v := ?_) rfl (by kernel_rfl) (by kernel_rfl) (by kernel_rfl) (fun _ _ _ h => h) (Or.inl ⟨by rfl, ?_⟩) (by assumption) ?_
          rotate_left
          · (intro w hSw; (try dsimp only at hSw); (try go_simp); (try with_reducible rfl))
          (try simp only [Act.put, List.getElem_toArray, List.getElem_cons_succ, List.getElem_cons_zero, List.setIfInBounds_toArray, List.set_cons_zero, List.set_cons_succ])
          refine wpAnyH_take (i := 5) (oi := _) (v := ?_) rfl (by kernel_rfl) (by kernel_rfl) (by kernel_rfl) (fun _ _ _ h => h) (Or.inl ⟨by rfl, ?_⟩) (by assumption) ?_
          rotate_left
          · (intro w hSw; (try dsimp only at hSw); (try go_simp); (try with_reducible rfl))
          (try simp only [Act.put, List.getElem_toArray, List.getElem_cons_succ, List.getElem_cons_zero, List.setIfInBounds_toArray, List.set_cons_zero, List.set_cons_succ])
          refine wpAnyH_take (i := 6) (oi := _) (v := ?_) rfl (by kernel_rfl) (by kernel_rfl) (by kernel_rfl) (fun _ _ _ h => h) (Or.inl ⟨by rfl, ?_⟩) (by assumption) ?_
          rotate_left
          · (intro w hSw; (try dsimp only at hSw); (try go_simp); (try with_reducible rfl))
          (try simp only [Act.put, List.getElem_toArray, List.getElem_cons_succ, List.getElem_cons_zero, List.setIfInBounds_toArray, List.set_cons_zero, List.set_cons_succ])
          refine wpAnyH_take (i := 7) (oi := _) (v := ?_) rfl (by kernel_rfl) (by kernel_rfl) (by kernel_rfl) (fun _ _ _ h => h) (Or.inl ⟨by rfl, ?_⟩) (by assumption) ?_
          rotate_left
          · (intro w hSw; (try dsimp only at hSw); (try go_simp); (try with_reducible rfl))
          (try simp only [Act.put, List.getElem_toArray, List.getElem_cons_succ, List.getElem_cons_zero, List.setIfInBounds_toArray, List.set_cons_zero, List.set_cons_succ])
          refine wpAnyH_steps [1, 2, 8, 9, 10, 11] [fun _ _ _ => True,
              fun v w1 w2 => ∃ p, v = .slice (some ⟨p, 0, none⟩) 1 1 ∧ Ints w2 (some ⟨p, 0, none⟩) 1 [10],
              fun v w1 w2 => ∃ a c, v = .slice a (digs (N * 10)).length c ∧ Ints w2 a c (digs (N * 10)),
              fun _ _ _ => True,
              fun _ _ _ => True,
              fun _ _ _ => True,
              fun _ _ _ => True,
              fun _ _ _ => True,
              fun v w1 w2 => ∃ p, v = .slice (some ⟨p, 0, none⟩) 1 1 ∧ Ints w2 (some ⟨p, 0, none⟩) 1 [D],
              fun v w1 w2 => ∃ (a : Option Addr) (c : Nat) (R9 : List Int), v = .slice a R9.length c ∧ Ints w2 a c R9 ∧ Digs R9 ∧ dval R9 = ((N * 10 + D.toNat : Nat) : Int) ∧ (∀ A, a = some A → wr.heap.size ≤ A.block),
              fun v w1 w2 => ∃ (a : Option Addr) (c : Nat), v = .slice a (digs (N * 10 + D.toNat)).length c ∧ Ints w2 a c (digs (N * 10 + D.toNat)) ∧ (∀ A, a = some A → wr.heap.size ≤ A.block),
              fun v w1 w2 => ∃ (a : Option Addr) (c : Nat), v = .slice a (digs (N * 10 + D.toNat)).length c ∧ Ints w2 a c (digs (N * 10 + D.toNat)) ∧ (∀ A, a = some A → wr.heap.size ≤ A.block)] [some 60, some 61, some 62, some 63, some 64, some 65, some 66, some 67, some 68, some 69, some 70, some 5] [[], [], [1], [], [], [], [], [], [], [2, 8], [9], [10]] (by kernel_rfl) (fun w3 hy => ?_) ?steps1 ?fin1
          · trivial
          case steps1 =>
            refine ⟨?_, ?_, ?_, ?_, ?_, ?_, trivial⟩
            · (intro V B A W hE hd; have hE := Ext.trans (Ext.drew (Ext.refl _)) hE; intro K hK; simp only [putL, List.getD_cons_zero, List.getD_cons_succ, Act.put, List.setIfInBounds_toArray, List.set_cons_zero, List.set_cons_succ] at hK ⊢; go_simp; exact hK.out _ _ ⟨_, rfl, IB.ints (g := W.heap.size) (L := [10]) (Blk.new0 W #[.int .i64 10] 3) (fun x hx => by obtain rfl := List.mem_singleton.1 hx; omega) (by simp)⟩ (Ext.alloc _ _))
            · (intro V B A W hE hd; have hE := Ext.trans (Ext.drew (Ext.refl _)) hE; obtain ⟨f1, -⟩ := hd; obtain ⟨p1, e1, i1⟩ := f1.rel; intro K hK; simp only [putL, List.getD_cons_zero, List.getD_cons_succ, Act.put, List.setIfInBounds_toArray, List.set_cons_zero, List.set_cons_succ, e1] at hK ⊢; go_simp; (with_reducible refine (HTM.out _ _ (hi.out.ext hE) (i1.ext f1.e2)).mono ?_); rintro e w2 ⟨v, rfl, hO, hy⟩; obtain ⟨a3, c3, rfl, hi3, _⟩ := hO.form0 (digs_norm _).digs; exact hK.out _ _ ⟨a3, c3, rfl, hi3⟩ hy)
            · (intro V B A W hE hd; have hE := Ext.trans (Ext.drew (Ext.refl _)) hE; intro K hK; simp only [putL, List.getD_cons_zero, List.getD_cons_succ, Act.put, List.setIfInBounds_toArray, List.set_cons_zero, List.set_cons_succ] at hK ⊢; go_simp; exact hK.out _ _ ⟨_, rfl, IB.ints (g := W.heap.size) (L := [D]) (Blk.new0 W #[.int .i64 D] 3) HDB.out (by simp)⟩ (Ext.alloc _ _))
            · (intro V B A W hE hd; have hE := Ext.trans (Ext.drew (Ext.refl _)) hE; obtain ⟨f2, f8, -⟩ := hd; obtain ⟨a2, c2, e2, i2⟩ := f2.rel; obtain ⟨p8, e8, i8⟩ := f8.rel; intro K hK; simp only [putL, List.getD_cons_zero, List.getD_cons_succ, Act.put, List.setIfInBounds_toArray, List.set_cons_zero, List.set_cons_succ, e2, e8] at hK ⊢; go_simp; (with_reducible refine (HPL.out _ _ _ _ (i2.ext f2.e2) (i8.ext f8.e2)).mono ?_); rintro e w2 ⟨v, R9, rfl, hO, hdg, hvv, hll, hy⟩; obtain ⟨a3, c3, rfl, hi3, hb3⟩ := hO.form0 hdg; exact hK.out _ _ ⟨a3, c3, R9, rfl, hi3, hdg, hvv, fun A hA => Nat.le_trans hE.size (hb3 A hA)⟩ hy)
            · (intro V B A W hE hd; have hE := Ext.trans (Ext.drew (Ext.refl _)) hE; obtain ⟨f9, -⟩ := hd; obtain ⟨a9, c9, R9, e9, i9, d9, v9, b9⟩ := f9.rel; intro K hK; simp only [putL, List.getD_cons_zero, List.getD_cons_succ, Act.put, List.setIfInBounds_toArray, List.set_cons_zero, List.set_cons_succ, e9] at hK ⊢; go_simp; (with_reducible refine (ref_trim a9 c9 R9 _ (i9.ext f9.e2)).mono ?_); rintro e w2 ⟨rfl, rfl⟩; exact hK.out _ _ ⟨a9, c9, by rw [HTR.out _ d9 v9], by rw [← HTR.out _ d9 v9]; exact trim_ints (i9.ext f9.e2), b9⟩ (Ext.refl _))
            · (intro V B A W hE hd; have hE := Ext.trans (Ext.drew (Ext.refl _)) hE; obtain ⟨f10, -⟩ := hd; obtain ⟨a10, c10, e10, i10, b10⟩ := f10.rel; intro K hK; simp only [putL, List.getD_cons_zero, List.getD_cons_succ, Act.put, List.setIfInBounds_toArray, List.set_cons_zero, List.set_cons_succ, e10] at hK ⊢; go_simp; exact hK.out _ _ ⟨a10, c10, rfl, i10.ext f10.e2, b10⟩ (Ext.refl _))
          case fin1 =>
            intro V B A w3 hd hp hx3
            have hx3 := Ext.trans (Ext.drew (Ext.refl _)) hx3
            obtain ⟨f1, f2, f8, f9, f10, f11, -⟩ := hd
            obtain ⟨a11, c11, e11, i11, b11⟩ := f11.rel
            simp only [putL, List.getD_cons_zero, List.getD_cons_succ, Act.put, List.setIfInBounds_toArray, List.set_cons_zero, List.set_cons_succ, e11]
            have HI := Lib.hid (i11.ext f11.e2)
            have HBL := Lib.hid b11
            have HEX := Lib.hid hx3
            clear f1 f2 f8 f9 f10 f11 hp i11 b11 e11 hx3
            go_wp2_with fail
            go_roundw
            case rel =>
              obtain ⟨hN, hall, hb, hbb, hbv⟩ := HNN.out
              have hdig : isDig b = true := by
                simp only [isDig, Bool.and_eq_true, decide_eq_true_eq]; omega
              refine ⟨k + 1, N * 10 + D.toNat, a11, c11, _, by omega, by go_num, rfl, rfl, ?_, HI.out, by rw [all_take hb, hall, hdig]; rfl, hB.ext HEX.out, hxr.trans HEX.out, fun A hA => Nat.lt_of_lt_of_le hB.lt (HBL.out A hA)⟩
              rw [numL_take hb, ← hN, ← HD.out]
              omega
            case measure => simp [intOf]; omega
        · have hdig : isDig b = false := by
            simp only [isDig, Bool.and_eq_false_iff, decide_eq_false_iff_not]; omega
          have hfalse : R.data.toList.all isDig = false := by
            rw [List.all_eq_false]
            exact ⟨b, List.mem_of_getElem? hb, by rw [hdig]; simp⟩
          have HON := Lib.hid (show O = none by rw [← HO.out, hfalse]; rfl)
          have c0 := hB.cell (i := 0) (v := .bool false) rfl
          have c1 := hB.cell (i := 1) (v := .slice none 0 0) rfl
          have f0 := hB.free 0
          have f1 := hB.free 1
          have K := Lib.hid ((hB.set 0 (.bool false)).set 1 (.slice none 0 0))
          have HXX := Lib.hid ((hxr.set (p := ⟨w.heap.size, 0, none⟩) (by dsimp only; omega) (.bool false)).set (p := ⟨w.heap.size, 1, none⟩) (by dsimp only; omega) (.slice none 0 0))
          have hcase : bv < 48 ∨ (48 ≤ bv ∧ 57 < bv) := by omega
          clear hb hbb hbv hL hN hnum hall hi hB hxr hfr hd hdig hfalse
          rcases hcase with hlo | ⟨hlo, hhi⟩
          case' inl => have d3 : decide (bv < 48) = true := by simpa using hlo
          case' inr =>
            have d3 : decide (bv < 48) = false := decide_eq_false (by omega)
            have d4 : decide (57 < bv) = true := by simpa using hhi
          all_goals
            go_wp2_with fail
            have e0 := K.out.cell (i := 0) (v := .bool false) rfl
            have e1 := K.out.cell (i := 1) (v := .slice none 0 0) rfl
            refine bodyPost_ret (v := .tuple #[zeroBig, .int .i64 90]) (by simp [results, Tryz.results66, go_sem, e0, e1]) rfl ?_
            rw [HON.out]
            exact ReadP.none ⟨rfl, HXX.out⟩
      · obtain rfl : k = R.size := by omega
        rw [List.take_of_length_le (by rw [HRS.out]; exact Nat.le_refl _)] at hN hall
        have hG := ref_of_ok nb a c (digs N) wr hi (by rw [trim_id (digs_norm _)]; omega)
        rw [trim_id (digs_norm _), hL] at hG
        have hO2 : O = some (sgn nb (N : Int)) := by rw [← HO.out, hall, if_pos rfl, hN, HNB.out]
        have hbo := big_of nb N
        rw [hL] at hbo
        have HO2 := Lib.hid hO2
        have HIX := Lib.hid hi
        have HLL := Lib.hid hL
        have hnn : (nb && decide (0 < L)) = nb := by
          cases hq : nb with
          | false => rfl
          | true =>
            have h1 : 0 < N := by rw [hN]; exact HZ.out (by first | trivial | exact HNB.out.trans hq) hall
            have h2 : 0 < L := by rw [← hL, digs_pos h1]; simp
            simp [h2]
        rw [hnn] at hG hbo
        have HG := Lib.hid hG
        have HBO := Lib.hid hbo
        have K5 := Lib.hid hB
        have hx5 := Lib.hid hxr
        have HFR := Lib.hid hfr
        have d5 : decide (R.size < R.size) = false := decide_eq_false (by omega)
        have d6 : decide ((R.size : Int) < (R.size : Int)) = false := decide_eq_false (by omega)
        clear hG hi hL hN hall hnum hlen hB hxr hfr hk hkn hO2 hnn hbo
        have hnb := HNB.out
        clear HNB
        subst hnb
        go_upto_region 13 with fail
        go_wp2_with fail
        with_reducible refine HG.out.mono ?_
        rintro e w8 ⟨rfl, hy8⟩
        go_upto_region 14 with fail
        first
          | (have K8 := Lib.hid (Blk.new0 w8 #[.bool true, .slice a L c] 24)
             have hy9 := hy8.trans (Ext.alloc w8 (.cells #[.bool true, .slice a L c] 24))
             generalize w8.alloc (.cells #[.bool true, .slice a L c] 24) = w9 at *
             have F5 := K5.out.ext hy9
             have d0 := F5.cell (i := 0) (v := .bool false) rfl
             have d1 := (F5.set 0 (.bool true)).cell (i := 1) (v := .slice none 0 0) rfl
             have f0 := F5.free 0
             have f1 := (F5.set 0 (.bool true)).free 1
             have g0 := K8.out.cell (i := 0) (v := .bool true) rfl
             have g1 := K8.out.cell (i := 1) (v := .slice a L c) rfl
             have M5 := Lib.hid ((F5.set 0 (.bool true)).set 1 (.slice a L c))
             have HX8 := Lib.hid (((hx5.out.trans hy9).set (p := ⟨w.heap.size, 0, none⟩) (by dsimp only; omega) (.bool true)).set (p := ⟨w.heap.size, 1, none⟩) (by dsimp only; omega) (.slice a L c))
             have HY9 := Lib.hid hy9
             have hfar : w.heap.size ≠ w8.heap.size := by have := hy8.size; have := hx5.out.size; have := K5.out.lt; omega
             have g2 := (K8.out.other (p := ⟨w.heap.size, 0, none⟩) (by dsimp only; omega) (.bool true)).cell (i := 1) (v := .slice a L c) rfl
             clear F5 hy8 hy9 HG
             go_wp2_with fail
             have e0 := M5.out.cell (i := 0) (v := .bool true) rfl
             have e1 := M5.out.cell (i := 1) (v := .slice a L c) rfl
             have I1 := ((HIX.out.ext HY9.out).putS (p := ⟨w.heap.size, 0, none⟩) (fun hp A hA => by have := HFR.out A hA; dsimp only; omega) (.bool true)).putS (p := ⟨w.heap.size, 1, none⟩) (fun hp A hA => by have := HFR.out A hA; dsimp only; omega) (.slice a L c)
             refine bodyPost_ret (v := .tuple #[.agg #[.bool true, .slice a L c], .int .i64 0]) (by simp [results, Tryz.results66, go_sem, e0, e1]) rfl ?_
             rw [HO2.out]
             exact ReadP.some ⟨_, rfl, ⟨true, a, c, digs N, by rw [HLL.out], I1, HBO.out, fun A hA => Nat.le_of_lt (HFR.out A hA)⟩, HX8.out⟩)
          | (have K8 := Lib.hid (Blk.new0 w8 #[.bool false, .slice a L c] 24)
             have hy9 := hy8.trans (Ext.alloc w8 (.cells #[.bool false, .slice a L c] 24))
             generalize w8.alloc (.cells #[.bool false, .slice a L c] 24) = w9 at *
             have F5 := K5.out.ext hy9
             have d0 := F5.cell (i := 0) (v := .bool false) rfl
             have d1 := (F5.set 0 (.bool false)).cell (i := 1) (v := .slice none 0 0) rfl
             have f0 := F5.free 0
             have f1 := (F5.set 0 (.bool false)).free 1
             have g0 := K8.out.cell (i := 0) (v := .bool false) rfl
             have g1 := K8.out.cell (i := 1) (v := .slice a L c) rfl
             have M5 := Lib.hid ((F5.set 0 (.bool false)).set 1 (.slice a L c))
             have HX8 := Lib.hid (((hx5.out.trans hy9).set (p := ⟨w.heap.size, 0, none⟩) (by dsimp only; omega) (.bool false)).set (p := ⟨w.heap.size, 1, none⟩) (by dsimp only; omega) (.slice a L c))
             have HY9 := Lib.hid hy9
             have hfar : w.heap.size ≠ w8.heap.size := by have := hy8.size; have := hx5.out.size; have := K5.out.lt; omega
             have g2 := (K8.out.other (p := ⟨w.heap.size, 0, none⟩) (by dsimp only; omega) (.bool false)).cell (i := 1) (v := .slice a L c) rfl
             clear F5 hy8 hy9 HG
             go_wp2_with fail
             have e0 := M5.out.cell (i := 0) (v := .bool false) rfl
             have e1 := M5.out.cell (i := 1) (v := .slice a L c) rfl
             have I1 := ((HIX.out.ext HY9.out).putS (p := ⟨w.heap.size, 0, none⟩) (fun hp A hA => by have := HFR.out A hA; dsimp only; omega) (.bool false)).putS (p := ⟨w.heap.size, 1, none⟩) (fun hp A hA => by have := HFR.out A hA; dsimp only; omega) (.slice a L c)
             refine bodyPost_ret (v := .tuple #[.agg #[.bool false, .slice a L c], .int .i64 0]) (by simp [results, Tryz.results66, go_sem, e0, e1]) rfl ?_
             rw [HO2.out]
             exact ReadP.some ⟨_, rfl, ⟨false, a, c, digs N, by rw [HLL.out], I1, HBO.out, fun A hA => Nat.le_of_lt (HFR.out A hA)⟩, HX8.out⟩)
theorem rRead_val (s : ByteArray) (w : World) (hs : s.size ≤ 1000) : Calls Tryz.prog 66 #[.string s] w (ReadP (readL s.data.toList) w) := by
  obtain ⟨R, hE, hRl⟩ := entry_of s
  unfold readL
  have hRs : R.size ≤ 1000 := by
    rw [Lib.size_eq, ← hRl]
    have h1 : (restOf s.data.toList).length ≤ s.data.toList.length := by
      unfold restOf; split
      · simp
      · exact Nat.le_refl _
    rw [← Lib.size_eq] at h1; omega
  rw [hRl]
  cases hl : R.data.toList with
  | nil =>
    have h0 : R.size = 0 := by rw [Lib.size_eq, hl]; rfl
    exact (ref_Read_bad s R _ w hE (.inl h0)).mono fun _ _ h => ReadP.none h
  | cons b l =>
    have h3 : 0 < R.size := by rw [Lib.size_eq, hl]; simp
    have hb0 : R[0]'h3 = b := by
      have h4 : R.data.toList[0]? = some b := by rw [hl]; rfl
      rw [List.getElem?_eq_getElem (by rw [← Lib.size_eq]; exact h3)] at h4
      exact Option.some.inj h4
    have hz2 : R.size = l.length + 1 := by rw [Lib.size_eq, hl]; simp
    by_cases hb : okHead (negOf s.data.toList) (b :: l) = true
    · rw [hb, Bool.true_and, ← hl]
      refine ref_Read_body s R _ w hE hRs h3 ?_ ?_
      · rw [hb0]
        by_cases h48 : b.toNat = 48
        · right
          obtain rfl : b = 48 := UInt8.toNat_inj.1 h48
          cases l with
          | nil => exact ⟨h48, by simpa [okHead] using hb, by simpa using hz2⟩
          | cons c l => simp [okHead] at hb
        · exact .inl h48
      · intro hn ha
        rw [hl] at ha ⊢
        refine numL_pos ?_ ha
        intro e
        subst e
        cases l with
        | nil => simp [okHead, hn] at hb
        | cons c l => simp [okHead] at hb
    · have hb' : okHead (negOf s.data.toList) (b :: l) = false := by simpa using hb
      rw [hb', Bool.false_and]
      refine (ref_Read_bad s R _ w hE (.inr ⟨h3, ?_⟩)).mono fun _ _ h => ReadP.none h
      rw [hb0]
      cases l with
      | nil =>
        simp [okHead] at hb'
        exact ⟨by rw [hb'.1]; rfl, .inl hb'.2⟩
      | cons c l =>
        simp [okHead] at hb'
        exact ⟨by rw [hb']; rfl, .inr (by simp at hz2; omega)⟩
end Go.Proofs.YtnpeakahiedeoaaGreatDoor
