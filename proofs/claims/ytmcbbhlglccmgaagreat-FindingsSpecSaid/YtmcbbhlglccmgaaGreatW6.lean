import Derived.Test.YtmcbbhlglccmgaaGreatWSroot
namespace Go.Proofs.YtmcbbhlglccmgaaGreat
open Go.RowKit Go BigFrame Go.Shelf
set_option maxRecDepth 100000
set_option linter.unusedSimpArgs false
set_option linter.unusedVariables false

/-! Layer 42: the errors of marks. -/
def longB (l : List Int) : Bool := decide (16 < l.length)
def offB (n : Int) : Bool := decide (n < 0) || decide (1000 < n)
def wrongB (k : Nat) (l : List Int) : Bool := decide (l.length ≠ k) || l.any offB
theorem findings_long (a : Option Addr) (n cap : Nat) (w : World) : Calls Tryz.prog 56 #[.slice a n cap] w fun e w' => e = .returned (.bool (decide (16 < n))) ∧ w = w' := by
  by_cases h : 16 < n
  · have d1 : decide ((16 : Int) < (n : Int)) = true := decide_eq_true (by omega)
    go_enter Tryz.func56, Tryz.ntmps56
    go_wp2_with fail
    go_ret
    exact ⟨ret_bool (by first | rfl | (rw [decide_eq_true h]) | simp [h]), rfl⟩
  · have d1 : decide ((16 : Int) < (n : Int)) = false := decide_eq_false (by omega)
    have d2 : ¬ 16 < n := h
    go_enter Tryz.func56, Tryz.ntmps56
    go_wp2_with fail
    go_ret
    exact ⟨ret_bool (by first | rfl | (rw [decide_eq_false h]) | simp [h]), rfl⟩
theorem findings_off (d : Int) (w : World) : Calls Tryz.prog 58 #[.int .i64 d] w fun e w' => e = .returned (.bool (offB d)) ∧ w = w' := by
  unfold offB
  by_cases h1 : d < 0
  · have d1 : decide (d < 0) = true := by simpa using h1
    go_enter Tryz.func58, Tryz.ntmps58
    go_wp2_with fail
    go_ret
    exact ⟨ret_bool (by first | rfl | (rw [d1]; rfl)), rfl⟩
  · have d1 : decide (d < 0) = false := by simpa using h1
    go_enter Tryz.func58, Tryz.ntmps58
    go_wp2_with fail
    go_ret
    exact ⟨ret_bool (by first | rfl | (rw [d1]; rfl)), rfl⟩
def SomeIxW (w : World) (e : Ending) (w' : World) : Prop := ∃ i : Nat, e = .returned (.int .i64 i) ∧ w = w'
set_option maxHeartbeats 2000000 in
theorem idxR_none (fp : FuncId) (caps : Array Value) (B : List Int → Bool) (a : Option Addr) (cap : Nat) (m : List (List Int)) (w : World) (h : Rows w a cap m) (hen : ∀ args w, (callFunc fp args).run Tryz.prog w = .ok (.enter fp args) w)
    (hp : ∀ a cap x, x ∈ m → Ints w a cap x → Calls Tryz.prog fp (#[.slice a x.length cap] ++ caps) w fun e W' => e = .returned (.bool (B x)) ∧ w = W') (hn : m.any B = false) :
    Calls Tryz.prog 92 #[.slice a m.length cap, .func (.func fp) #[] caps] w fun e w' => e = .returned (.int .i64 (-1)) ∧ w = w' := by
  have hle := h.le
  have hmx := h.mx
  have HN := Lib.hid hn
  have HP := Lib.hid hp
  have HEN := Lib.hid hen
  clear hn hp hen
  go_enter Tryz.func92, Tryz.ntmps92
  go_wp2_with fail
  go_loop [8] (fun i => ∃ k : Nat, k ≤ m.length ∧ i = .int .i64 k) (fun i => m.length - (intOf i).toNat)
  case atStart => exact ⟨0, Nat.zero_le _, rfl⟩
  case round =>
    obtain ⟨k, hk, rfl⟩ := hrel
    by_cases hkn : k < m.length
    · obtain ⟨b, o, rfl⟩ := h.head hkn
      obtain ⟨x, a2, cap2, hx, hc, hI⟩ := Rows.get h hkn
      have hmem := List.mem_of_getElem? hx
      have ho : B x = false := by
        have := List.any_eq_false.1 HN.out x hmem
        simpa using this
      have hO := HP.out a2 cap2 x hmem hI
      rw [ho] at hO
      have HO := Lib.hid hO
      have g1 : (0 : Int) ≤ (k : Int) := by omega
      have g2 : (k : Int) < (m.length : Int) := by omega
      clear hx hO ho hmem
      have hen := HEN.out
      go_wp2_with fail
      refine HO.out.mono ?_
      rintro e w' ⟨rfl, rfl⟩
      go_wp2_with fail
      go_round
      case rel => exact ⟨k + 1, by omega, by go_num⟩
      case measure => simp [intOf]; omega
    · obtain rfl : k = m.length := by omega
      go_wp2_with fail
      go_ret
      exact ⟨rfl, rfl⟩
set_option maxHeartbeats 2000000 in
theorem idxR_some (fp : FuncId) (caps : Array Value) (B : List Int → Bool) (a : Option Addr) (cap : Nat) (m : List (List Int)) (w : World) (h : Rows w a cap m) (hen : ∀ args w, (callFunc fp args).run Tryz.prog w = .ok (.enter fp args) w)
    (hp : ∀ a cap x, x ∈ m → Ints w a cap x → Calls Tryz.prog fp (#[.slice a x.length cap] ++ caps) w fun e W' => e = .returned (.bool (B x)) ∧ w = W') (hn : m.any B = true) :
    Calls Tryz.prog 92 #[.slice a m.length cap, .func (.func fp) #[] caps] w (SomeIxW w) := by
  have hle := h.le
  have hmx := h.mx
  have HN := Lib.hid hn
  have HP := Lib.hid hp
  have HEN := Lib.hid hen
  clear hn hp hen
  go_enter Tryz.func92, Tryz.ntmps92
  go_wp2_with fail
  go_loop [8] (fun i => ∃ k : Nat, k ≤ m.length ∧ i = .int .i64 k ∧ (m.take k).any B = false) (fun i => m.length - (intOf i).toNat)
  case atStart => exact ⟨0, Nat.zero_le _, rfl, rfl⟩
  case round =>
    obtain ⟨k, hk, rfl, hno⟩ := hrel
    have HNO := Lib.hid hno
    clear hno
    by_cases hkn : k < m.length
    · obtain ⟨b, o, rfl⟩ := h.head hkn
      obtain ⟨x, a2, cap2, hx, hc, hI⟩ := Rows.get h hkn
      have hmem := List.mem_of_getElem? hx
      have hO := HP.out a2 cap2 x hmem hI
      have hT := Lib.hid (take_get hx)
      have g1 : (0 : Int) ≤ (k : Int) := by omega
      have g2 : (k : Int) < (m.length : Int) := by omega
      clear hx hmem
      cases ho : B x with
      | false =>
        rw [ho] at hO
        have HO := Lib.hid hO
        have Ho := Lib.hid ho
        clear ho hO
        have hen := HEN.out
        go_wp2_with fail
        refine HO.out.mono ?_
        rintro e w' ⟨rfl, rfl⟩
        go_wp2_with fail
        go_round
        case rel => exact ⟨k + 1, by omega, by go_num, by rw [hT.out, List.any_append, HNO.out]; simp [Ho.out]⟩
        case measure => simp [intOf]; omega
      | true =>
        rw [ho] at hO
        have HO := Lib.hid hO
        clear ho hO
        have hen := HEN.out
        go_wp2_with fail
        refine HO.out.mono ?_
        rintro e w' ⟨rfl, rfl⟩
        go_wp2_with fail
        go_ret
        exact ⟨k, rfl, rfl⟩
    · obtain rfl : k = m.length := by omega
      exfalso
      have := HNO.out
      rw [List.take_length, HN.out] at this
      cases this
theorem containsR (fp : FuncId) (caps : Array Value) (B : List Int → Bool) (a : Option Addr) (cap : Nat) (m : List (List Int)) (w : World) (h : Rows w a cap m) (hen : ∀ args w, (callFunc fp args).run Tryz.prog w = .ok (.enter fp args) w)
    (hp : ∀ a cap x, x ∈ m → Ints w a cap x → Calls Tryz.prog fp (#[.slice a x.length cap] ++ caps) w fun e W' => e = .returned (.bool (B x)) ∧ w = W') :
    Calls Tryz.prog 57 #[.slice a m.length cap, .func (.func fp) #[] caps] w fun e w' => e = .returned (.bool (m.any B)) ∧ w = w' := by
  have hle := h.le
  have hmx := h.mx
  cases hn : m.any B with
  | false =>
    have HI := Lib.hid (idxR_none fp caps B a cap m w h hen hp hn)
    clear hn hen hp
    go_enter Tryz.func57, Tryz.ntmps57
    go_wp2_with (go_at_call 92; refine HI.out.mono ?_; rintro e w' ⟨rfl, rfl⟩)
    go_ret
    exact ⟨rfl, rfl⟩
  | true =>
    have HI := Lib.hid (idxR_some fp caps B a cap m w h hen hp hn)
    clear hn hen hp
    go_enter Tryz.func57, Tryz.ntmps57
    go_wp2_with (go_at_call 92; refine HI.out.mono ?_; rintro e w' ⟨i, rfl, rfl⟩)
    go_ret
    exact ⟨rfl, rfl⟩
def minL : List Int → Int
  | [] => 0
  | x :: l => l.foldl min x
def maxL : List Int → Int
  | [] => 0
  | x :: l => l.foldl max x
set_option maxHeartbeats 2000000 in
theorem slices_Min (b o cap : Nat) (l : List Int) (w : World) (h : Ints w (some ⟨b, o, none⟩) cap l) (hl : 0 < l.length) :
    Calls Tryz.prog 61 #[.slice (some ⟨b, o, none⟩) l.length cap] w fun e w' => e = .returned (.int .i64 (minL l)) ∧ w = w' := by
  have hle := h.le
  have hmx := h.mx
  obtain ⟨x, t, rfl⟩ : ∃ x t, l = x :: t := by
    cases l with
    | nil => simp at hl
    | cons x t => exact ⟨x, t, rfl⟩
  obtain ⟨x0, hx0, hc0, _⟩ := Ints.get h hl
  simp only [List.getElem?_cons_zero, Option.some.injEq, Nat.add_zero] at hx0 hc0
  subst hx0
  have HI := Lib.hid h
  have hn : (x :: t).length = t.length + 1 := rfl
  have HLn := Lib.hid hn
  obtain ⟨n, hnn⟩ : ∃ n, n = (x :: t).length := ⟨_, rfl⟩
  rw [← hnn] at hle hl ⊢
  have HN := Lib.hid hnn
  have d0 : decide ((n : Int) < 1) = false := decide_eq_false (by omega)
  have d1 : ¬ n < 1 := by omega
  have d2 : (0 : Int) < (n : Int) := by omega
  clear hn hnn h
  go_enter Tryz.func61, Tryz.ntmps61
  go_wp2_with fail
  go_loop [3, 4] (fun s i => ∃ k : Nat, k + 1 ≤ n ∧ i = .int .i64 (k + 1 : Nat) ∧ s = .int .i64 ((t.take k).foldl min x)) (fun _ i => n - (intOf i).toNat)
  case atStart => exact ⟨0, by omega, rfl, rfl⟩
  case round =>
    obtain ⟨k, hk, rfl, rfl⟩ := hrel
    obtain ⟨j, hj⟩ : ∃ j, j = k + 1 := ⟨_, rfl⟩
    rw [← hj] at hk ⊢
    have HJ := Lib.hid hj
    clear hj
    have g1 : (0 : Int) ≤ (j : Int) := by omega
    by_cases hkn : j < n
    · obtain ⟨y, hy, hcy, _⟩ := Ints.get HI.out (i := j) (by rw [← HN.out]; exact hkn)
      have HY := Lib.hid hy
      have g2 : (j : Int) < (n : Int) := by omega
      clear hy
      go_wp2_with fail
      go_round
      case rel =>
        refine ⟨k + 1, by have := HJ.out; omega, by rw [← HJ.out]; go_num, ?_⟩
        have := HY.out
        rw [HJ.out, List.getElem?_cons_succ] at this
        rw [take_get this, List.foldl_append]
        rfl
      case measure => simp [intOf]; omega
    · have e : k = t.length := by have := HN.out; have := HLn.out; have := HJ.out; omega
      have HE := Lib.hid e
      clear e
      go_wp2_with fail
      go_ret
      exact ⟨congrArg (fun z => Ending.returned (.int .i64 z)) (by rw [HE.out, List.take_length]; rfl), rfl⟩
set_option maxHeartbeats 2000000 in
theorem slices_Max (b o cap : Nat) (l : List Int) (w : World) (h : Ints w (some ⟨b, o, none⟩) cap l) (hl : 0 < l.length) :
    Calls Tryz.prog 62 #[.slice (some ⟨b, o, none⟩) l.length cap] w fun e w' => e = .returned (.int .i64 (maxL l)) ∧ w = w' := by
  have hle := h.le
  have hmx := h.mx
  obtain ⟨x, t, rfl⟩ : ∃ x t, l = x :: t := by
    cases l with
    | nil => simp at hl
    | cons x t => exact ⟨x, t, rfl⟩
  obtain ⟨x0, hx0, hc0, _⟩ := Ints.get h hl
  simp only [List.getElem?_cons_zero, Option.some.injEq, Nat.add_zero] at hx0 hc0
  subst hx0
  have HI := Lib.hid h
  have hn : (x :: t).length = t.length + 1 := rfl
  have HLn := Lib.hid hn
  obtain ⟨n, hnn⟩ : ∃ n, n = (x :: t).length := ⟨_, rfl⟩
  rw [← hnn] at hle hl ⊢
  have HN := Lib.hid hnn
  have d0 : decide ((n : Int) < 1) = false := decide_eq_false (by omega)
  have d1 : ¬ n < 1 := by omega
  have d2 : (0 : Int) < (n : Int) := by omega
  clear hn hnn h
  go_enter Tryz.func62, Tryz.ntmps62
  go_wp2_with fail
  go_loop [3, 4] (fun s i => ∃ k : Nat, k + 1 ≤ n ∧ i = .int .i64 (k + 1 : Nat) ∧ s = .int .i64 ((t.take k).foldl max x)) (fun _ i => n - (intOf i).toNat)
  case atStart => exact ⟨0, by omega, rfl, rfl⟩
  case round =>
    obtain ⟨k, hk, rfl, rfl⟩ := hrel
    obtain ⟨j, hj⟩ : ∃ j, j = k + 1 := ⟨_, rfl⟩
    rw [← hj] at hk ⊢
    have HJ := Lib.hid hj
    clear hj
    have g1 : (0 : Int) ≤ (j : Int) := by omega
    by_cases hkn : j < n
    · obtain ⟨y, hy, hcy, _⟩ := Ints.get HI.out (i := j) (by rw [← HN.out]; exact hkn)
      have HY := Lib.hid hy
      have g2 : (j : Int) < (n : Int) := by omega
      clear hy
      go_wp2_with fail
      go_round
      case rel =>
        refine ⟨k + 1, by have := HJ.out; omega, by rw [← HJ.out]; go_num, ?_⟩
        have := HY.out
        rw [HJ.out, List.getElem?_cons_succ] at this
        rw [take_get this, List.foldl_append]
        rfl
      case measure => simp [intOf]; omega
    · have e : k = t.length := by have := HN.out; have := HLn.out; have := HJ.out; omega
      have HE := Lib.hid e
      clear e
      go_wp2_with fail
      go_ret
      exact ⟨congrArg (fun z => Ending.returned (.int .i64 z)) (by rw [HE.out, List.take_length]; rfl), rfl⟩
set_option maxHeartbeats 2000000 in
theorem findings_wrong (pm po : Nat) (ca : Option Addr) (cm cap : Nat) (m : List (List Int)) (r0 : List Int) (w : World) (h : Rows w ca cm m) (h0 : m[0]? = some r0) (km : w.cell? ⟨pm, 0, none⟩ = some (.slice ca m.length cm)) (ko : w.cell? ⟨po, 0, none⟩ = some (.func (.func 58) #[] #[]))
    (a : Option Addr) (x : List Int) (hx : Ints w a cap x) :
    Calls Tryz.prog 59 #[.slice a x.length cap, .pointer (some ⟨pm, 0, none⟩), .pointer (some ⟨po, 0, none⟩)] w fun e w' => e = .returned (.bool (wrongB r0.length x)) ∧ w = w' := by
  have hle := hx.le
  have hmx := hx.mx
  have hle2 := h.le
  have hmx2 := h.mx
  have hm0 : 0 < m.length := by
    rcases Nat.eq_zero_or_pos m.length with e | e
    · rw [List.length_eq_zero_iff] at e; subst e; simp at h0
    · exact e
  obtain ⟨b, o, rfl⟩ := h.head hm0
  obtain ⟨r1, a2, c2, hr1, hc1, hI1⟩ := Rows.get h hm0
  rw [h0] at hr1
  cases hr1
  have hr0 := hI1.le
  have hr2 := hI1.mx
  have HC := Lib.hid (contains_any 58 offB (enters_of Tryz.func58 (by kernel_rfl) rfl) findings_off a cap x w hx)
  have g0 : (0 : Int) < (m.length : Int) := by omega
  simp only [Nat.add_zero] at hc1
  unfold wrongB
  by_cases hd : x.length = r0.length
  · have t1 : ((x.length : Int) != (r0.length : Int)) = false := by simp [hd]
    rw [decide_eq_false (show ¬ x.length ≠ r0.length by simp [hd]), Bool.false_or]
    generalize x.any offB = B at *
    generalize x.length = n at *
    generalize r0.length = k at *
    subst hd
    clear h hx hI1 h0 t1
    go_enter Tryz.func59, Tryz.ntmps59
    go_wp2_with fail
    refine HC.out.mono ?_
    rintro e w' ⟨rfl, rfl⟩
    go_wp2_with fail
    go_ret
    exact ⟨rfl, rfl⟩
  · have t1 : ((x.length : Int) != (r0.length : Int)) = true := by simp; omega
    rw [decide_eq_true (show x.length ≠ r0.length from hd), Bool.true_or]
    generalize x.length = n at *
    generalize r0.length = k at *
    have t2 : ¬ n = k := hd
    clear h hx hI1 h0 HC
    go_enter Tryz.func59, Tryz.ntmps59
    go_wp2_with fail
    go_ret
    exact ⟨rfl, rfl⟩
end Go.Proofs.YtmcbbhlglccmgaaGreat

namespace Go.Proofs.YtmcbbhlglccmgaaGreat
open Go.RowKit Go BigFrame Go.Shelf
set_option maxRecDepth 100000
set_option linter.unusedSimpArgs false
set_option linter.unusedVariables false

/-! Layer 42: findings.check. -/
def errW (m : List (List Int)) : Int := if 64 < m.length then 2 else if m.any longB = true then 2 else match m with
  | [] => 420
  | r :: _ => if r.length < 2 then 420 else if m.any (wrongB r.length) = true then 420 else 0
def askW (m : List (List Int)) (js : List Int) : Int := if errW m ≠ 0 then errW m else if minL js < 0 then 1 else if ((m.headD []).length : Int) ≤ maxL js then 1 else 0
set_option maxHeartbeats 2000000 in
theorem findings_check_lim (a : Option Addr) (cap : Nat) (m : List (List Int)) (jb jo jc : Nat) (js : List Int) (w : World) (h : Rows w a cap m) (hj : Ints w (some ⟨jb, jo, none⟩) jc js) (hjs : 0 < js.length) (h1 : 64 < m.length) :
    Calls Tryz.prog 23 #[.slice a m.length cap, .slice (some ⟨jb, jo, none⟩) js.length jc] w fun e w' => e = .returned (.int .i64 2) ∧ Ext w w' := by
  have hle := h.le
  have hmx := h.mx
  have hle2 := hj.le
  have hmx2 := hj.mx
  have t1 : decide ((64 : Int) < (m.length : Int)) = true := decide_eq_true (by omega)
  clear h hj
  obtain ⟨x1, hw, hx, Km⟩ := boxQ1 w #[.slice a m.length cap] 22
  replace hw := Lib.hid hw
  go_enter Tryz.func23, Tryz.ntmps23
  go_upto_region 1 with fail
  try simp only [Nat.add_assoc, Nat.reduceAdd, Nat.add_zero]
  rw [hw.out]
  clear hw
  have hs0 := hx.size
  have cm0 := bk1 Km
  go_wp2_with fail
  go_ret
  exact ⟨rfl, hx⟩
set_option maxHeartbeats 2000000 in
theorem findings_check_long (a : Option Addr) (cap : Nat) (m : List (List Int)) (jb jo jc : Nat) (js : List Int) (w : World) (h : Rows w a cap m) (hj : Ints w (some ⟨jb, jo, none⟩) jc js) (hjs : 0 < js.length) (h1 : ¬ 64 < m.length) (h2 : m.any longB = true) :
    Calls Tryz.prog 23 #[.slice a m.length cap, .slice (some ⟨jb, jo, none⟩) js.length jc] w fun e w' => e = .returned (.int .i64 2) ∧ Ext w w' := by
  have hle := h.le
  have hmx := h.mx
  have hle2 := hj.le
  have hmx2 := hj.mx
  have t1 : decide ((64 : Int) < (m.length : Int)) = false := decide_eq_false (by omega)
  have t1n : ¬ 64 < m.length := by omega
  have HC1 := Lib.hid (fun W (hW : Ext w W) => containsR 56 #[] longB a cap m W (h.ext hW) (enters_of Tryz.func56 (by kernel_rfl) rfl) (fun a cap x _ _ => findings_long a x.length cap W))
  rw [h2] at HC1
  clear h hj h2
  obtain ⟨x1, hw, hx, Km⟩ := boxQ1 w #[.slice a m.length cap] 22
  replace hw := Lib.hid hw
  go_enter Tryz.func23, Tryz.ntmps23
  go_upto_region 1 with fail
  try simp only [Nat.add_assoc, Nat.reduceAdd, Nat.add_zero]
  rw [hw.out]
  clear hw
  have hs0 := hx.size
  have cm0 := bk1 Km
  clear cm0
  have cm0 := bk1 Km
  go_wp2_with fail
  clear cm0
  with_reducible refine (HC1.out _ hx).mono ?_
  rintro e w' ⟨rfl, rfl⟩
  have cm0 := bk1 Km
  go_wp2_with fail
  go_ret
  exact ⟨rfl, hx⟩
set_option maxHeartbeats 2000000 in
theorem findings_check_none (a : Option Addr) (cap : Nat) (m : List (List Int)) (jb jo jc : Nat) (js : List Int) (w : World) (h : Rows w a cap m) (hj : Ints w (some ⟨jb, jo, none⟩) jc js) (hjs : 0 < js.length) (h1 : ¬ 64 < m.length) (h2 : m.any longB = false) (h3 : m = []) :
    Calls Tryz.prog 23 #[.slice a m.length cap, .slice (some ⟨jb, jo, none⟩) js.length jc] w fun e w' => e = .returned (.int .i64 420) ∧ Ext w w' := by
  have hle := h.le
  have hmx := h.mx
  have hle2 := hj.le
  have hmx2 := hj.mx
  have HC1 := Lib.hid (fun W (hW : Ext w W) => containsR 56 #[] longB a cap m W (h.ext hW) (enters_of Tryz.func56 (by kernel_rfl) rfl) (fun a cap x _ _ => findings_long a x.length cap W))
  rw [h2] at HC1
  subst h3
  simp only [List.length_nil] at HC1 ⊢
  clear h hj h2 h1
  obtain ⟨x1, hw, hx, Km⟩ := boxQ1 w #[.slice a 0 cap] 22
  replace hw := Lib.hid hw
  go_enter Tryz.func23, Tryz.ntmps23
  go_upto_region 1 with fail
  try simp only [Nat.add_assoc, Nat.reduceAdd, Nat.add_zero]
  rw [hw.out]
  clear hw
  have hs0 := hx.size
  have cm0 := bk1 Km
  go_wp2_with fail
  clear cm0
  with_reducible refine (HC1.out _ hx).mono ?_
  rintro e w' ⟨rfl, rfl⟩
  have cm0 := bk1 Km
  go_upto_region 6 with fail
  have hl := Ext.alloc x1 (.cells #[.func (.func 58) #[] #[]] 81)
  have lmf : w.heap.size < x1.heap.size := Km.out.lt
  have hpf : w.heap.size ≤ x1.heap.size := hx.size
  clear cm0
  replace hx := hx.trans hl
  replace Km := kE Km hl
  have Kf := Lib.hid (Blk.new0 x1 #[.func (.func 58) #[] #[]] 81)
  clear hl
  generalize x1.alloc (.cells #[.func (.func 58) #[] #[]] 81) = x2 at *
  generalize x1.heap.size = pf at *
  have cm0 := bk1 Km
  have cf0 := bk1 Kf
  go_wp2_with fail
  go_ret
  exact ⟨rfl, hx⟩
set_option maxHeartbeats 2000000 in
theorem findings_check_few (a : Option Addr) (cap : Nat) (m : List (List Int)) (jb jo jc : Nat) (js : List Int) (w : World) (h : Rows w a cap m) (hj : Ints w (some ⟨jb, jo, none⟩) jc js) (hjs : 0 < js.length) (h1 : ¬ 64 < m.length) (h2 : m.any longB = false) (r0 : List Int) (h3 : m[0]? = some r0) (h4 : r0.length < 2) :
    Calls Tryz.prog 23 #[.slice a m.length cap, .slice (some ⟨jb, jo, none⟩) js.length jc] w fun e w' => e = .returned (.int .i64 420) ∧ Ext w w' := by
  have hle := h.le
  have hmx := h.mx
  have hle2 := hj.le
  have hmx2 := hj.mx
  have hm0 : 0 < m.length := by
    rcases Nat.eq_zero_or_pos m.length with e | e
    · rw [List.length_eq_zero_iff] at e; subst e; simp at h3
    · exact e
  obtain ⟨b, o, rfl⟩ := h.head hm0
  have HH := Lib.hid h
  have HJ := Lib.hid hj
  have H0 := Lib.hid h3
  have g0 : (0 : Int) < (m.length : Int) := by omega
  have t2 : ((m.length : Int) == 0) = false := beq_false_of_ne (by omega)
  have t2n : ¬ m = [] := List.ne_nil_of_length_pos hm0
  have t1 : decide ((64 : Int) < (m.length : Int)) = false := decide_eq_false (by omega)
  have t1n : ¬ 64 < m.length := by omega
  have HC1 := Lib.hid (fun W (hW : Ext w W) => containsR 56 #[] longB (some ⟨b, o, none⟩) cap m W (h.ext hW) (enters_of Tryz.func56 (by kernel_rfl) rfl) (fun a cap x _ _ => findings_long a x.length cap W))
  rw [h2] at HC1
  have t3 : decide ((r0.length : Int) < 2) = true := decide_eq_true (by omega)
  clear h hj h2 h3
  obtain ⟨x1, hw, hx, Km⟩ := boxQ1 w #[.slice (some ⟨b, o, none⟩) m.length cap] 22
  replace hw := Lib.hid hw
  go_enter Tryz.func23, Tryz.ntmps23
  go_upto_region 1 with fail
  try simp only [Nat.add_assoc, Nat.reduceAdd, Nat.add_zero]
  rw [hw.out]
  clear hw
  have hs0 := hx.size
  have cm0 := bk1 Km
  go_wp2_with fail
  clear cm0
  with_reducible refine (HC1.out _ hx).mono ?_
  rintro e w' ⟨rfl, rfl⟩
  clear HC1
  have cm0 := bk1 Km
  go_upto_region 6 with fail
  have hl := Ext.alloc x1 (.cells #[.func (.func 58) #[] #[]] 81)
  have lmf : w.heap.size < x1.heap.size := Km.out.lt
  have hpf : w.heap.size ≤ x1.heap.size := hx.size
  clear cm0
  replace hx := hx.trans hl
  replace Km := kE Km hl
  have Kf := Lib.hid (Blk.new0 x1 #[.func (.func 58) #[] #[]] 81)
  clear hl
  generalize x1.alloc (.cells #[.func (.func 58) #[] #[]] 81) = x2 at *
  generalize x1.heap.size = pf at *
  obtain ⟨r1, a2, c2, hr1, hc1, hI1⟩ := Rows.get (HH.out.ext hx) hm0
  rw [H0.out] at hr1
  cases hr1
  have hr0 := hI1.le
  have hr2 := hI1.mx
  simp only [Nat.add_zero] at hc1
  clear hI1
  have cm0 := bk1 Km
  have cf0 := bk1 Kf
  go_wp2_with fail
  go_ret
  exact ⟨rfl, hx⟩
set_option maxHeartbeats 2000000 in
theorem findings_check_wrong (a : Option Addr) (cap : Nat) (m : List (List Int)) (jb jo jc : Nat) (js : List Int) (w : World) (h : Rows w a cap m) (hj : Ints w (some ⟨jb, jo, none⟩) jc js) (hjs : 0 < js.length) (h1 : ¬ 64 < m.length) (h2 : m.any longB = false) (r0 : List Int) (h3 : m[0]? = some r0) (h4 : ¬ r0.length < 2) (h5 : m.any (wrongB r0.length) = true) :
    Calls Tryz.prog 23 #[.slice a m.length cap, .slice (some ⟨jb, jo, none⟩) js.length jc] w fun e w' => e = .returned (.int .i64 420) ∧ Ext w w' := by
  have hle := h.le
  have hmx := h.mx
  have hle2 := hj.le
  have hmx2 := hj.mx
  have hm0 : 0 < m.length := by
    rcases Nat.eq_zero_or_pos m.length with e | e
    · rw [List.length_eq_zero_iff] at e; subst e; simp at h3
    · exact e
  obtain ⟨b, o, rfl⟩ := h.head hm0
  have HH := Lib.hid h
  have HJ := Lib.hid hj
  have H0 := Lib.hid h3
  have g0 : (0 : Int) < (m.length : Int) := by omega
  have t2 : ((m.length : Int) == 0) = false := beq_false_of_ne (by omega)
  have t2n : ¬ m = [] := List.ne_nil_of_length_pos hm0
  have t1 : decide ((64 : Int) < (m.length : Int)) = false := decide_eq_false (by omega)
  have t1n : ¬ 64 < m.length := by omega
  have HC1 := Lib.hid (fun W (hW : Ext w W) => containsR 56 #[] longB (some ⟨b, o, none⟩) cap m W (h.ext hW) (enters_of Tryz.func56 (by kernel_rfl) rfl) (fun a cap x _ _ => findings_long a x.length cap W))
  rw [h2] at HC1
  have t3 : decide ((r0.length : Int) < 2) = false := decide_eq_false (by omega)
  have t3n : ¬ r0.length < 2 := by omega
  clear h hj h2 h3
  obtain ⟨x1, hw, hx, Km⟩ := boxQ1 w #[.slice (some ⟨b, o, none⟩) m.length cap] 22
  replace hw := Lib.hid hw
  go_enter Tryz.func23, Tryz.ntmps23
  go_upto_region 1 with fail
  try simp only [Nat.add_assoc, Nat.reduceAdd, Nat.add_zero]
  rw [hw.out]
  clear hw
  have hs0 := hx.size
  have cm0 := bk1 Km
  go_wp2_with fail
  clear cm0
  with_reducible refine (HC1.out _ hx).mono ?_
  rintro e w' ⟨rfl, rfl⟩
  clear HC1
  have cm0 := bk1 Km
  go_upto_region 6 with fail
  have hl := Ext.alloc x1 (.cells #[.func (.func 58) #[] #[]] 81)
  have lmf : w.heap.size < x1.heap.size := Km.out.lt
  have hpf : w.heap.size ≤ x1.heap.size := hx.size
  clear cm0
  replace hx := hx.trans hl
  replace Km := kE Km hl
  have Kf := Lib.hid (Blk.new0 x1 #[.func (.func 58) #[] #[]] 81)
  clear hl
  generalize x1.alloc (.cells #[.func (.func 58) #[] #[]] 81) = x2 at *
  generalize x1.heap.size = pf at *
  obtain ⟨r1, a2, c2, hr1, hc1, hI1⟩ := Rows.get (HH.out.ext hx) hm0
  rw [H0.out] at hr1
  cases hr1
  have hr0 := hI1.le
  have hr2 := hI1.mx
  simp only [Nat.add_zero] at hc1
  clear hI1
  have HC2 := Lib.hid (containsR 59 #[.pointer (some ⟨w.heap.size, 0, none⟩), .pointer (some ⟨pf, 0, none⟩)] (wrongB r0.length) (some ⟨b, o, none⟩) cap m x2 (HH.out.ext hx) (enters_of Tryz.func59 (by kernel_rfl) rfl) (fun a2 cap2 x _ hI => findings_wrong w.heap.size pf (some ⟨b, o, none⟩) cap cap2 m r0 _ (HH.out.ext hx) H0.out (Km.out.cell (i := 0) rfl) (Kf.out.cell (i := 0) rfl) a2 x hI))
  rw [h5] at HC2
  clear h5
  have cm0 := bk1 Km
  have cf0 := bk1 Kf
  go_wp2_with fail
  clear cm0 cf0
  with_reducible refine (HC2.out).mono ?_
  rintro e w' ⟨rfl, rfl⟩
  have cm0 := bk1 Km
  have cf0 := bk1 Kf
  go_wp2_with fail
  go_ret
  exact ⟨rfl, hx⟩
set_option maxHeartbeats 2000000 in
theorem findings_check_min (a : Option Addr) (cap : Nat) (m : List (List Int)) (jb jo jc : Nat) (js : List Int) (w : World) (h : Rows w a cap m) (hj : Ints w (some ⟨jb, jo, none⟩) jc js) (hjs : 0 < js.length) (h1 : ¬ 64 < m.length) (h2 : m.any longB = false) (r0 : List Int) (h3 : m[0]? = some r0) (h4 : ¬ r0.length < 2) (h5 : m.any (wrongB r0.length) = false) (h6 : minL js < 0) :
    Calls Tryz.prog 23 #[.slice a m.length cap, .slice (some ⟨jb, jo, none⟩) js.length jc] w fun e w' => e = .returned (.int .i64 1) ∧ Ext w w' := by
  have hle := h.le
  have hmx := h.mx
  have hle2 := hj.le
  have hmx2 := hj.mx
  have hm0 : 0 < m.length := by
    rcases Nat.eq_zero_or_pos m.length with e | e
    · rw [List.length_eq_zero_iff] at e; subst e; simp at h3
    · exact e
  obtain ⟨b, o, rfl⟩ := h.head hm0
  have HH := Lib.hid h
  have HJ := Lib.hid hj
  have H0 := Lib.hid h3
  have g0 : (0 : Int) < (m.length : Int) := by omega
  have t2 : ((m.length : Int) == 0) = false := beq_false_of_ne (by omega)
  have t2n : ¬ m = [] := List.ne_nil_of_length_pos hm0
  have t1 : decide ((64 : Int) < (m.length : Int)) = false := decide_eq_false (by omega)
  have t1n : ¬ 64 < m.length := by omega
  have HC1 := Lib.hid (fun W (hW : Ext w W) => containsR 56 #[] longB (some ⟨b, o, none⟩) cap m W (h.ext hW) (enters_of Tryz.func56 (by kernel_rfl) rfl) (fun a cap x _ _ => findings_long a x.length cap W))
  rw [h2] at HC1
  have t3 : decide ((r0.length : Int) < 2) = false := decide_eq_false (by omega)
  have t3n : ¬ r0.length < 2 := by omega
  clear h hj h2 h3
  obtain ⟨x1, hw, hx, Km⟩ := boxQ1 w #[.slice (some ⟨b, o, none⟩) m.length cap] 22
  replace hw := Lib.hid hw
  go_enter Tryz.func23, Tryz.ntmps23
  go_upto_region 1 with fail
  try simp only [Nat.add_assoc, Nat.reduceAdd, Nat.add_zero]
  rw [hw.out]
  clear hw
  have hs0 := hx.size
  have cm0 := bk1 Km
  go_wp2_with fail
  clear cm0
  with_reducible refine (HC1.out _ hx).mono ?_
  rintro e w' ⟨rfl, rfl⟩
  clear HC1
  have cm0 := bk1 Km
  go_upto_region 6 with fail
  have hl := Ext.alloc x1 (.cells #[.func (.func 58) #[] #[]] 81)
  have lmf : w.heap.size < x1.heap.size := Km.out.lt
  have hpf : w.heap.size ≤ x1.heap.size := hx.size
  clear cm0
  replace hx := hx.trans hl
  replace Km := kE Km hl
  have Kf := Lib.hid (Blk.new0 x1 #[.func (.func 58) #[] #[]] 81)
  clear hl
  generalize x1.alloc (.cells #[.func (.func 58) #[] #[]] 81) = x2 at *
  generalize x1.heap.size = pf at *
  obtain ⟨r1, a2, c2, hr1, hc1, hI1⟩ := Rows.get (HH.out.ext hx) hm0
  rw [H0.out] at hr1
  cases hr1
  have hr0 := hI1.le
  have hr2 := hI1.mx
  simp only [Nat.add_zero] at hc1
  clear hI1
  have HC2 := Lib.hid (containsR 59 #[.pointer (some ⟨w.heap.size, 0, none⟩), .pointer (some ⟨pf, 0, none⟩)] (wrongB r0.length) (some ⟨b, o, none⟩) cap m x2 (HH.out.ext hx) (enters_of Tryz.func59 (by kernel_rfl) rfl) (fun a2 cap2 x _ hI => findings_wrong w.heap.size pf (some ⟨b, o, none⟩) cap cap2 m r0 _ (HH.out.ext hx) H0.out (Km.out.cell (i := 0) rfl) (Kf.out.cell (i := 0) rfl) a2 x hI))
  rw [h5] at HC2
  clear h5
  have cm0 := bk1 Km
  have cf0 := bk1 Kf
  go_wp2_with fail
  clear cm0 cf0
  with_reducible refine (HC2.out).mono ?_
  rintro e w' ⟨rfl, rfl⟩
  clear HC2
  have cm0 := bk1 Km
  go_upto_region 8 with fail
  clear cm0
  have HHX := HJ.out.ext hx
  have CMin := Lib.hid (fun W : Later x2 => later_same (W := W) (slices_Min jb jo jc js W.1 (HHX.ext W.2) hjs))
  have CMax := Lib.hid (fun W : Later x2 => later_same (W := W) (slices_Max jb jo jc js W.1 (HHX.ext W.2) hjs))
  have l0 := later_cell (bk1 Km)
  have l1 := later_cell hc1
  clear HHX hc1
  generalize minL js = mn at *
  generalize maxL js = mx at *
  have t4 : decide (mn < 0) = true := decide_eq_true h6
  refine wp_region_later (by kernel_rfl) (by kernel_rfl) ?_; repeat (go_big_quiet_step ((first | (go_at_call 61; exact CMin.out _) | (go_at_call 62; exact CMax.out _))))
  refine wpQuiet_nil ?_; rintro _ ⟨⟨W1, HW1⟩, rfl⟩; (try dsimp only)
  clear l0 l1 CMin CMax
  replace hx := hx.trans HW1
  go_wp2_with fail
  go_ret
  exact ⟨rfl, hx⟩
set_option maxHeartbeats 2000000 in
theorem findings_check_max (a : Option Addr) (cap : Nat) (m : List (List Int)) (jb jo jc : Nat) (js : List Int) (w : World) (h : Rows w a cap m) (hj : Ints w (some ⟨jb, jo, none⟩) jc js) (hjs : 0 < js.length) (h1 : ¬ 64 < m.length) (h2 : m.any longB = false) (r0 : List Int) (h3 : m[0]? = some r0) (h4 : ¬ r0.length < 2) (h5 : m.any (wrongB r0.length) = false) (h6 : ¬ minL js < 0) (h7 : (r0.length : Int) ≤ maxL js) :
    Calls Tryz.prog 23 #[.slice a m.length cap, .slice (some ⟨jb, jo, none⟩) js.length jc] w fun e w' => e = .returned (.int .i64 1) ∧ Ext w w' := by
  have hle := h.le
  have hmx := h.mx
  have hle2 := hj.le
  have hmx2 := hj.mx
  have hm0 : 0 < m.length := by
    rcases Nat.eq_zero_or_pos m.length with e | e
    · rw [List.length_eq_zero_iff] at e; subst e; simp at h3
    · exact e
  obtain ⟨b, o, rfl⟩ := h.head hm0
  have HH := Lib.hid h
  have HJ := Lib.hid hj
  have H0 := Lib.hid h3
  have g0 : (0 : Int) < (m.length : Int) := by omega
  have t2 : ((m.length : Int) == 0) = false := beq_false_of_ne (by omega)
  have t2n : ¬ m = [] := List.ne_nil_of_length_pos hm0
  have t1 : decide ((64 : Int) < (m.length : Int)) = false := decide_eq_false (by omega)
  have t1n : ¬ 64 < m.length := by omega
  have HC1 := Lib.hid (fun W (hW : Ext w W) => containsR 56 #[] longB (some ⟨b, o, none⟩) cap m W (h.ext hW) (enters_of Tryz.func56 (by kernel_rfl) rfl) (fun a cap x _ _ => findings_long a x.length cap W))
  rw [h2] at HC1
  have t3 : decide ((r0.length : Int) < 2) = false := decide_eq_false (by omega)
  have t3n : ¬ r0.length < 2 := by omega
  clear h hj h2 h3
  obtain ⟨x1, hw, hx, Km⟩ := boxQ1 w #[.slice (some ⟨b, o, none⟩) m.length cap] 22
  replace hw := Lib.hid hw
  go_enter Tryz.func23, Tryz.ntmps23
  go_upto_region 1 with fail
  try simp only [Nat.add_assoc, Nat.reduceAdd, Nat.add_zero]
  rw [hw.out]
  clear hw
  have hs0 := hx.size
  have cm0 := bk1 Km
  go_wp2_with fail
  clear cm0
  with_reducible refine (HC1.out _ hx).mono ?_
  rintro e w' ⟨rfl, rfl⟩
  clear HC1
  have cm0 := bk1 Km
  go_upto_region 6 with fail
  have hl := Ext.alloc x1 (.cells #[.func (.func 58) #[] #[]] 81)
  have lmf : w.heap.size < x1.heap.size := Km.out.lt
  have hpf : w.heap.size ≤ x1.heap.size := hx.size
  clear cm0
  replace hx := hx.trans hl
  replace Km := kE Km hl
  have Kf := Lib.hid (Blk.new0 x1 #[.func (.func 58) #[] #[]] 81)
  clear hl
  generalize x1.alloc (.cells #[.func (.func 58) #[] #[]] 81) = x2 at *
  generalize x1.heap.size = pf at *
  obtain ⟨r1, a2, c2, hr1, hc1, hI1⟩ := Rows.get (HH.out.ext hx) hm0
  rw [H0.out] at hr1
  cases hr1
  have hr0 := hI1.le
  have hr2 := hI1.mx
  simp only [Nat.add_zero] at hc1
  clear hI1
  have HC2 := Lib.hid (containsR 59 #[.pointer (some ⟨w.heap.size, 0, none⟩), .pointer (some ⟨pf, 0, none⟩)] (wrongB r0.length) (some ⟨b, o, none⟩) cap m x2 (HH.out.ext hx) (enters_of Tryz.func59 (by kernel_rfl) rfl) (fun a2 cap2 x _ hI => findings_wrong w.heap.size pf (some ⟨b, o, none⟩) cap cap2 m r0 _ (HH.out.ext hx) H0.out (Km.out.cell (i := 0) rfl) (Kf.out.cell (i := 0) rfl) a2 x hI))
  rw [h5] at HC2
  clear h5
  have cm0 := bk1 Km
  have cf0 := bk1 Kf
  go_wp2_with fail
  clear cm0 cf0
  with_reducible refine (HC2.out).mono ?_
  rintro e w' ⟨rfl, rfl⟩
  clear HC2
  have cm0 := bk1 Km
  go_upto_region 8 with fail
  clear cm0
  have HHX := HJ.out.ext hx
  have CMin := Lib.hid (fun W : Later x2 => later_same (W := W) (slices_Min jb jo jc js W.1 (HHX.ext W.2) hjs))
  have CMax := Lib.hid (fun W : Later x2 => later_same (W := W) (slices_Max jb jo jc js W.1 (HHX.ext W.2) hjs))
  have l0 := later_cell (bk1 Km)
  have l1 := later_cell hc1
  clear HHX hc1
  generalize minL js = mn at *
  generalize maxL js = mx at *
  have t4 : decide (mn < 0) = false := decide_eq_false (by omega)
  have t5 : decide ((r0.length : Int) ≤ mx) = true := decide_eq_true h7
  refine wp_region_later (by kernel_rfl) (by kernel_rfl) ?_; repeat (go_big_quiet_step ((first | (go_at_call 61; exact CMin.out _) | (go_at_call 62; exact CMax.out _))))
  refine wpQuiet_nil ?_; rintro _ ⟨⟨W1, HW1⟩, rfl⟩; (try dsimp only)
  clear l0 l1 CMin CMax
  replace hx := hx.trans HW1
  go_wp2_with fail
  go_ret
  exact ⟨rfl, hx⟩
set_option maxHeartbeats 2000000 in
theorem findings_check_ok (a : Option Addr) (cap : Nat) (m : List (List Int)) (jb jo jc : Nat) (js : List Int) (w : World) (h : Rows w a cap m) (hj : Ints w (some ⟨jb, jo, none⟩) jc js) (hjs : 0 < js.length) (h1 : ¬ 64 < m.length) (h2 : m.any longB = false) (r0 : List Int) (h3 : m[0]? = some r0) (h4 : ¬ r0.length < 2) (h5 : m.any (wrongB r0.length) = false) (h6 : ¬ minL js < 0) (h7 : ¬ (r0.length : Int) ≤ maxL js) :
    Calls Tryz.prog 23 #[.slice a m.length cap, .slice (some ⟨jb, jo, none⟩) js.length jc] w fun e w' => e = .returned (.int .i64 0) ∧ Ext w w' := by
  have hle := h.le
  have hmx := h.mx
  have hle2 := hj.le
  have hmx2 := hj.mx
  have hm0 : 0 < m.length := by
    rcases Nat.eq_zero_or_pos m.length with e | e
    · rw [List.length_eq_zero_iff] at e; subst e; simp at h3
    · exact e
  obtain ⟨b, o, rfl⟩ := h.head hm0
  have HH := Lib.hid h
  have HJ := Lib.hid hj
  have H0 := Lib.hid h3
  have g0 : (0 : Int) < (m.length : Int) := by omega
  have t2 : ((m.length : Int) == 0) = false := beq_false_of_ne (by omega)
  have t2n : ¬ m = [] := List.ne_nil_of_length_pos hm0
  have t1 : decide ((64 : Int) < (m.length : Int)) = false := decide_eq_false (by omega)
  have t1n : ¬ 64 < m.length := by omega
  have HC1 := Lib.hid (fun W (hW : Ext w W) => containsR 56 #[] longB (some ⟨b, o, none⟩) cap m W (h.ext hW) (enters_of Tryz.func56 (by kernel_rfl) rfl) (fun a cap x _ _ => findings_long a x.length cap W))
  rw [h2] at HC1
  have t3 : decide ((r0.length : Int) < 2) = false := decide_eq_false (by omega)
  have t3n : ¬ r0.length < 2 := by omega
  clear h hj h2 h3
  obtain ⟨x1, hw, hx, Km⟩ := boxQ1 w #[.slice (some ⟨b, o, none⟩) m.length cap] 22
  replace hw := Lib.hid hw
  go_enter Tryz.func23, Tryz.ntmps23
  go_upto_region 1 with fail
  try simp only [Nat.add_assoc, Nat.reduceAdd, Nat.add_zero]
  rw [hw.out]
  clear hw
  have hs0 := hx.size
  have cm0 := bk1 Km
  go_wp2_with fail
  clear cm0
  with_reducible refine (HC1.out _ hx).mono ?_
  rintro e w' ⟨rfl, rfl⟩
  clear HC1
  have cm0 := bk1 Km
  go_upto_region 6 with fail
  have hl := Ext.alloc x1 (.cells #[.func (.func 58) #[] #[]] 81)
  have lmf : w.heap.size < x1.heap.size := Km.out.lt
  have hpf : w.heap.size ≤ x1.heap.size := hx.size
  clear cm0
  replace hx := hx.trans hl
  replace Km := kE Km hl
  have Kf := Lib.hid (Blk.new0 x1 #[.func (.func 58) #[] #[]] 81)
  clear hl
  generalize x1.alloc (.cells #[.func (.func 58) #[] #[]] 81) = x2 at *
  generalize x1.heap.size = pf at *
  obtain ⟨r1, a2, c2, hr1, hc1, hI1⟩ := Rows.get (HH.out.ext hx) hm0
  rw [H0.out] at hr1
  cases hr1
  have hr0 := hI1.le
  have hr2 := hI1.mx
  simp only [Nat.add_zero] at hc1
  clear hI1
  have HC2 := Lib.hid (containsR 59 #[.pointer (some ⟨w.heap.size, 0, none⟩), .pointer (some ⟨pf, 0, none⟩)] (wrongB r0.length) (some ⟨b, o, none⟩) cap m x2 (HH.out.ext hx) (enters_of Tryz.func59 (by kernel_rfl) rfl) (fun a2 cap2 x _ hI => findings_wrong w.heap.size pf (some ⟨b, o, none⟩) cap cap2 m r0 _ (HH.out.ext hx) H0.out (Km.out.cell (i := 0) rfl) (Kf.out.cell (i := 0) rfl) a2 x hI))
  rw [h5] at HC2
  clear h5
  have cm0 := bk1 Km
  have cf0 := bk1 Kf
  go_wp2_with fail
  clear cm0 cf0
  with_reducible refine (HC2.out).mono ?_
  rintro e w' ⟨rfl, rfl⟩
  clear HC2
  have cm0 := bk1 Km
  go_upto_region 8 with fail
  clear cm0
  have HHX := HJ.out.ext hx
  have CMin := Lib.hid (fun W : Later x2 => later_same (W := W) (slices_Min jb jo jc js W.1 (HHX.ext W.2) hjs))
  have CMax := Lib.hid (fun W : Later x2 => later_same (W := W) (slices_Max jb jo jc js W.1 (HHX.ext W.2) hjs))
  have l0 := later_cell (bk1 Km)
  have l1 := later_cell hc1
  clear HHX hc1
  generalize minL js = mn at *
  generalize maxL js = mx at *
  have t4 : decide (mn < 0) = false := decide_eq_false (by omega)
  have t5 : decide ((r0.length : Int) ≤ mx) = false := decide_eq_false (by omega)
  refine wp_region_later (by kernel_rfl) (by kernel_rfl) ?_; repeat (go_big_quiet_step ((first | (go_at_call 61; exact CMin.out _) | (go_at_call 62; exact CMax.out _))))
  refine wpQuiet_nil ?_; rintro _ ⟨⟨W1, HW1⟩, rfl⟩; (try dsimp only)
  clear l0 l1 CMin CMax
  replace hx := hx.trans HW1
  go_wp2_with fail
  go_ret
  exact ⟨rfl, hx⟩
theorem findings_check (a : Option Addr) (cap : Nat) (m : List (List Int)) (jb jo jc : Nat) (js : List Int) (w : World) (h : Rows w a cap m) (hj : Ints w (some ⟨jb, jo, none⟩) jc js) (hjs : 0 < js.length) :
    Calls Tryz.prog 23 #[.slice a m.length cap, .slice (some ⟨jb, jo, none⟩) js.length jc] w fun e w' => e = .returned (.int .i64 (askW m js)) ∧ Ext w w' := by
  by_cases h1 : 64 < m.length
  · rw [show askW m js = 2 by simp [askW, errW, h1]]
    exact findings_check_lim a cap m jb jo jc js w h hj hjs h1
  cases h2 : m.any longB
  rotate_left
  · rw [show askW m js = 2 by simp only [askW, errW, if_neg h1, h2, if_true]; rfl]
    exact findings_check_long a cap m jb jo jc js w h hj hjs h1 h2
  cases hm : m with
  | nil =>
    have e : askW ([] : List (List Int)) js = 420 := by simp [askW, errW]
    rw [e]
    subst hm
    exact findings_check_none a cap [] jb jo jc js w h hj hjs h1 h2 rfl
  | cons r t =>
    rw [← hm]
    have h3 : m[0]? = some r := by rw [hm]; rfl
    have eW : errW m = if r.length < 2 then 420 else if m.any (wrongB r.length) = true then 420 else 0 := by
      unfold errW
      rw [if_neg h1, if_neg (by rw [h2]; simp)]
      rw [hm]
    have eH : m.headD [] = r := by rw [hm]; rfl
    by_cases h4 : r.length < 2
    · rw [show askW m js = 420 by simp [askW, eW, h4]]
      exact findings_check_few a cap m jb jo jc js w h hj hjs h1 h2 r h3 h4
    cases h5 : m.any (wrongB r.length)
    rotate_left
    · rw [show askW m js = 420 by simp [askW, eW, h4, h5]]
      exact findings_check_wrong a cap m jb jo jc js w h hj hjs h1 h2 r h3 h4 h5
    have e0 : errW m = 0 := by rw [eW, if_neg h4, if_neg (by rw [h5]; simp)]
    by_cases h6 : minL js < 0
    · rw [show askW m js = 1 by unfold askW; rw [e0]; simp [h6]]
      exact findings_check_min a cap m jb jo jc js w h hj hjs h1 h2 r h3 h4 h5 h6
    by_cases h7 : (r.length : Int) ≤ maxL js
    · rw [show askW m js = 1 by unfold askW; rw [e0, eH, if_neg h6, if_pos h7]; simp]
      exact findings_check_max a cap m jb jo jc js w h hj hjs h1 h2 r h3 h4 h5 h6 h7
    · rw [show askW m js = 0 by unfold askW; rw [e0, eH, if_neg h6, if_neg h7]; simp]
      exact findings_check_ok a cap m jb jo jc js w h hj hjs h1 h2 r h3 h4 h5 h6 h7
end Go.Proofs.YtmcbbhlglccmgaaGreat

namespace Go.Proofs.YtmcbbhlglccmgaaGreat
open Go.RowKit Go BigFrame Go.Shelf
set_option maxRecDepth 100000
set_option linter.unusedSimpArgs false
set_option linter.unusedVariables false

/-! Layer 42: how much a judge is above the others. -/
def aboveR (j : Nat) (row : List Int) : Int := (row.length : Int) * row.getD j 0 - row.sum
def aboveL (m : List (List Int)) (j : Nat) : List Int := m.map (aboveR j)
theorem sum_takeW {l : List Int} {k : Nat} {x : Int} (hx : l[k]? = some x) : (l.take (k + 1)).sum = (l.take k).sum + x := by
  rw [take_get hx, List.sum_append]; simp
theorem sum_bdW {l : List Int} (h : ∀ x ∈ l, 0 ≤ x ∧ x ≤ 1000) : 0 ≤ l.sum ∧ l.sum ≤ 1000 * (l.length : Int) := by
  induction l with
  | nil => simp
  | cons y l ih =>
    have h1 := h y (by simp)
    have h2 := ih (fun x hx => h x (by simp [hx]))
    rw [List.sum_cons, List.length_cons, Int.natCast_succ, Int.mul_add]
    omega
set_option maxHeartbeats 2000000 in
theorem findings_above1 (a : Option Addr) (cap : Nat) (l : List Int) (p : Nat) (j : Nat) (w : World) (h : Ints w a cap l) (hp : w.cell? ⟨p, 0, none⟩ = some (.int .i64 j)) (hj : j < l.length) (hl : l.length ≤ 16) (hb : ∀ x ∈ l, 0 ≤ x ∧ x ≤ 1000) :
    Calls Tryz.prog 63 #[.slice a l.length cap, .pointer (some ⟨p, 0, none⟩)] w fun e w' => e = .returned (.int .i64 (aboveR j l)) ∧ w = w' := by
  have hle := h.le
  have hmx := h.mx
  obtain ⟨b, o, rfl⟩ := h.head hj
  have HI := Lib.hid h
  have HB := Lib.hid hb
  obtain ⟨y, hy, hcy, _⟩ := Ints.get h hj
  have HY := Lib.hid (show l.getD j 0 = y by rw [List.getD_eq_getElem?_getD, hy]; rfl)
  have by1 := hb y (List.mem_of_getElem? hy)
  obtain ⟨by2, by3⟩ := by1
  have hs := sum_bdW hb
  have HS := Lib.hid hs
  obtain ⟨n, hn⟩ : ∃ n, n = l.length := ⟨_, rfl⟩
  have HN := Lib.hid hn
  rw [← hn] at hle hl hj ⊢
  have g5 : (j : Int) < (n : Int) := by omega
  have g6 : (0 : Int) ≤ (j : Int) := by omega
  clear h hb hy hs hn
  go_enter Tryz.func63, Tryz.ntmps63
  go_wp2_with fail
  go_loop [4, 9] (fun s i => ∃ k : Nat, k ≤ n ∧ i = .int .i64 k ∧ s = .int .i64 (l.take k).sum) (fun _ i => n - (intOf i).toNat)
  case atStart => exact ⟨0, Nat.zero_le _, rfl, rfl⟩
  case round =>
    obtain ⟨k, hk, rfl, rfl⟩ := hrel
    have g1 : (0 : Int) ≤ (k : Int) := by omega
    obtain ⟨q1, q2⟩ := sum_bdW (l := l.take k) (fun x hx => HB.out x (List.mem_of_mem_take hx))
    have q3 : ((l.take k).length : Int) ≤ 16 := by rw [List.length_take]; omega
    obtain ⟨S, hS⟩ : ∃ S, (l.take k).sum = S := ⟨_, rfl⟩
    have HSS := Lib.hid hS
    rw [hS] at q1 q2 ⊢
    have q4 : S ≤ 16000 := by omega
    clear hS q2 q3
    by_cases hkn : k < n
    · obtain ⟨x, hx, hcx, _⟩ := Ints.get HI.out (i := k) (by rw [← HN.out]; exact hkn)
      have hxb := HB.out x (List.mem_of_getElem? hx)
      obtain ⟨x1, x2⟩ := hxb
      have HX := Lib.hid (sum_takeW hx)
      have g2 : (k : Int) < (n : Int) := by omega
      clear hx
      go_wp2_with fail
      go_round
      case rel => exact ⟨k + 1, by omega, by go_num, by rw [HX.out, HSS.out]⟩
      case measure => simp [intOf]; omega
    · obtain rfl : k = n := by omega
      have hm : 0 ≤ (k : Int) * y ∧ (k : Int) * y ≤ 16 * 1000 := ⟨Int.mul_nonneg (by omega) by2, Int.mul_le_mul (by omega) by3 by2 (by omega)⟩
      obtain ⟨hm1, hm2⟩ := hm
      go_wp2_with fail
      go_ret
      exact ⟨congrArg (fun z => Ending.returned (.int .i64 z)) (by
        have e := HSS.out
        rw [HN.out, List.take_length] at e
        unfold aboveR
        rw [← HN.out, HY.out, e]), rfl⟩
abbrev owsW (w : World) (base : Nat) (v : Value) (T : List Int) : Prop := w.ownsRow base 3 1 v T.length (T.map (Value.int .i64))
set_option maxHeartbeats 4000000 in
theorem findings_column (fp : FuncId) (caps : Array Value) (f : List Int → Int) (a : Option Addr) (cap : Nat) (m : List (List Int)) (w : World) (h : Rows w a cap m) (hm : m.length ≤ 1000) (hen : ∀ args w, (callFunc fp args).run Tryz.prog w = .ok (.enter fp args) w)
    (hp : ∀ W, Ext w W → ∀ a cap x, x ∈ m → Ints W a cap x → Calls Tryz.prog fp (#[.slice a x.length cap] ++ caps) W fun e W' => e = .returned (.int .i64 (f x)) ∧ W = W') :
    Calls Tryz.prog 35 #[.slice a m.length cap, .func (.func fp) #[] caps] w fun e w' => ∃ v, e = .returned v ∧ owsW w' w.heap.size v (m.map f) ∧ Ext w w' := by
  have hle := h.le
  have hmx := h.mx
  have HH := Lib.hid h
  have HP := Lib.hid hp
  have HEN := Lib.hid hen
  obtain ⟨i0, hi0, hz0, hz1, hz2⟩ := info_parts infoI
  have HII := Lib.hid (And.intro hi0 (And.intro hz0 (And.intro hz1 hz2)))
  obtain ⟨B0, hB0⟩ : ∃ B0, B0 = w.heap.size := ⟨_, rfl⟩
  rw [← hB0]
  have HB0 := Lib.hid hB0
  obtain ⟨n, hn⟩ : ∃ n, n = m.length := ⟨_, rfl⟩
  have HN := Lib.hid hn
  rw [← hn] at hle hm ⊢
  clear h hp hen hi0 hz0 hz1 hz2 hB0 hn
  go_enter Tryz.func35, Tryz.ntmps35
  go_wp2_with fail
  go_loopw [4, 9] (fun v i wr => ∃ k : Nat, k ≤ n ∧ i = .int .i64 k ∧ owsW wr B0 v ((m.map f).take k) ∧ Ext w wr) (fun _ i _ => n - (intOf i).toNat)
  case atStart => exact ⟨0, Nat.zero_le _, rfl, World.ownsRow_nil _ _ _ _, Ext.refl _⟩
  case round =>
    obtain ⟨k, hk, rfl, how0, hxr⟩ := hrel
    have HOW := Lib.hid how0
    have HXR := Lib.hid hxr
    have g1 : (0 : Int) ≤ (k : Int) := by omega
    clear how0 hxr
    by_cases hkn : k < n
    · obtain ⟨b, o, rfl⟩ := HH.out.head (i := k) (by rw [← HN.out]; exact hkn)
      obtain ⟨x, a2, c2, hx, hcx, hI⟩ := Rows.get (HH.out.ext HXR.out) (i := k) (by rw [← HN.out]; exact hkn)
      have hmem := List.mem_of_getElem? hx
      have HC := Lib.hid (HP.out _ HXR.out a2 c2 x hmem hI)
      have g2 : (k : Int) < (n : Int) := by omega
      have htk : (m.map f).take (k + 1) = (m.map f).take k ++ [f x] := take_get (by rw [List.getElem?_map, hx]; rfl)
      have htl : ((m.map f).take k).length = k := by rw [List.length_take, List.length_map, ← HN.out]; omega
      have HTK := Lib.hid htk
      have HTL := Lib.hid htl
      have hBr : B0 ≤ Array.size (World.heap wr) := by rw [HB0.out]; exact HXR.out.size
      have hen := HEN.out
      clear hx hmem hI htk htl
      go_wp2_with fail
      refine HC.out.mono ?_
      rintro e w' ⟨rfl, rfl⟩
      clear hen hcx
      generalize f x = y at *
      obtain ⟨hi0, hz0, hz1, hz2⟩ := HII.out
      go_wp2_with (at_builtin; refine wpList_append_own_at _ rfl (.tmp 13) (.tmp 17) 27 rfl B0 3 i0 (.int .i64 0) 1 8 Tryz.underlying27 hi0 hz0 hz1 hz2 rfl (by decide) _ _ _ rfl (HOW.out.alloc _) ⟨Array.size (World.heap wr), 0, none⟩ 1 1 [.int .i64 y] rfl rfl (cell_one_new _ _ _) (by simp [Value.oneCell']) (by have := HTL.out; unfold maxLen; omega) (by have := HTL.out; omega) (by simp; omega) ?_; intro v' w3 hown' hg3 hnil3 hat3)
      have hx3 : Ext w w3 := Below.grown (HXR.out.alloc' (.cells #[.int .i64 y] 3)) hg3 (by have := HXR.out.size; simp; omega) (fun j e => by have := ((HOW.out.alloc (.cells #[.int .i64 y] 3)).lt j e).1; have := HB0.out; omega)
      have HOW3 : Hid (owsW w3 B0 v' ((m.map f).take (k + 1))) := Lib.hid (by rw [HTK.out]; unfold owsW; simpa using hown')
      have HX3 := Lib.hid hx3
      clear hg3 hnil3 hat3 hown' HOW hx3 HTK HTL hi0 hz0 hz1 hz2
      go_wp2_with fail
      go_roundw
      case rel => exact ⟨k + 1, by omega, by go_num, HOW3.out, HX3.out⟩
      case measure => simp [intOf]; omega
    · have e : k = n := by omega
      have HE := Lib.hid (show (m.map f).take k = m.map f from List.take_of_length_le (by rw [List.length_map, ← HN.out]; omega))
      clear e
      go_wp2_with fail
      go_ret
      exact ⟨_, rfl, by rw [← HE.out]; exact HOW.out, HXR.out⟩
theorem owsW_low {w : World} {B B' : Nat} {v : Value} {T : List Int} (h : owsW w B v T) (hB : B' ≤ B) : owsW w B' v T := by
  refine ⟨h.1, ?_⟩
  rcases h.2 with h2 | ⟨g, cap, cur, e, hb, hg, hr⟩
  · exact .inl h2
  · exact .inr ⟨g, cap, cur, e, by omega, hg, hr⟩
set_option maxHeartbeats 4000000 in
theorem findings_above (a : Option Addr) (cap : Nat) (m : List (List Int)) (j : Nat) (w : World) (h : Rows w a cap m) (hm : m.length ≤ 1000) (hr : ∀ x ∈ m, j < x.length ∧ x.length ≤ 16 ∧ ∀ y ∈ x, 0 ≤ y ∧ y ≤ 1000) :
    Calls Tryz.prog 24 #[.slice a m.length cap, .int .i64 j] w fun e w' => ∃ v, e = .returned v ∧ owsW w' w.heap.size v (aboveL m j) ∧ Ext w w' := by
  have hle := h.le
  have hmx := h.mx
  obtain ⟨x1, hw, hx, Kj⟩ := boxQ1 w #[.int .i64 j] 3
  replace hw := Lib.hid hw
  have HC := Lib.hid (findings_column 63 #[.pointer (some ⟨w.heap.size, 0, none⟩)] (aboveR j) a cap m x1 (h.ext hx) hm (enters_of Tryz.func63 (by kernel_rfl) rfl) (fun W hW a2 c2 x hxm hI => findings_above1 a2 c2 x w.heap.size j W hI ((Kj.out.ext hW).cell (i := 0) rfl) (hr x hxm).1 (hr x hxm).2.1 (hr x hxm).2.2))
  clear h hr
  go_enter Tryz.func24, Tryz.ntmps24
  go_upto_region 1 with fail
  rw [hw.out]
  clear hw
  go_wp2_with fail
  with_reducible refine (HC.out).mono ?_
  rintro e x2 ⟨v, rfl, hv, hy⟩
  have HV := Lib.hid (owsW_low hv hx.size)
  have HX := Lib.hid (hx.trans hy)
  clear hv hy HC
  go_wp2_with fail
  go_ret
  exact ⟨_, rfl, HV.out, HX.out⟩
end Go.Proofs.YtmcbbhlglccmgaaGreat

namespace Go.Proofs.YtmcbbhlglccmgaaGreat
open Go.RowKit Go BigFrame Go.Shelf
set_option maxRecDepth 100000
set_option linter.unusedSimpArgs false
set_option linter.unusedVariables false

/-! Layer 42: right marks; findings.Against. -/
structure RightW (m : List (List Int)) (n : Nat) : Prop where
  p : 0 < m.length
  le : m.length ≤ 64
  two : 2 ≤ n
  row : ∀ x ∈ m, x.length = n ∧ x.length ≤ 16 ∧ ∀ y ∈ x, 0 ≤ y ∧ y ≤ 1000
theorem errW_ok {m : List (List Int)} (h : errW m = 0) : RightW m (m.headD []).length := by
  unfold errW at h
  by_cases h1 : 64 < m.length
  · rw [if_pos h1] at h; cases h
  rw [if_neg h1] at h
  cases h2 : m.any longB
  case true => rw [h2] at h; cases h
  case false =>
    rw [h2, if_neg (by simp)] at h
    cases m with
    | nil => cases h
    | cons r l =>
      dsimp only at h
      by_cases h4 : r.length < 2
      · rw [if_pos h4] at h; cases h
      rw [if_neg h4] at h
      cases h5 : (r :: l).any (wrongB r.length)
      case true => rw [h5] at h; cases h
      case false =>
        refine ⟨by simp, by omega, by show 2 ≤ r.length; omega, fun x hx => ?_⟩
        have e1 := List.any_eq_false.1 h5 x hx
        have e2 := List.any_eq_false.1 h2 x hx
        simp only [wrongB, Bool.or_eq_true, decide_eq_true_eq, not_or, Decidable.not_not] at e1
        simp only [longB, decide_eq_true_eq] at e2
        refine ⟨e1.1, by omega, fun y hy => ?_⟩
        have e3 : x.any offB = false := by simpa using e1.2
        have e4 := List.any_eq_false.1 e3 y hy
        simp only [offB, Bool.or_eq_true, decide_eq_true_eq, not_or] at e4
        omega
theorem askW_ok {m : List (List Int)} {js : List Int} (h : askW m js = 0) : RightW m (m.headD []).length ∧ 0 ≤ minL js ∧ maxL js < ((m.headD []).length : Int) := by
  unfold askW at h
  by_cases h0 : errW m = 0
  · rw [if_neg (by omega)] at h
    by_cases h1 : minL js < 0
    · rw [if_pos h1] at h; cases h
    rw [if_neg h1] at h
    by_cases h2 : ((m.headD []).length : Int) ≤ maxL js
    · rw [if_pos h2] at h; cases h
    exact ⟨errW_ok h0, by omega, by omega⟩
  · rw [if_pos h0] at h; exact absurd h h0
theorem ints_one {w : World} {g : Nat} {a : Int} {t : TypeId} (h : Blk w g #[.int .i64 a] t) (ha : -9223372036854775808 ≤ a ∧ a ≤ 9223372036854775807) : Ints w (some ⟨g, 0, none⟩) 1 [a] :=
  ⟨by simp, by omega, (by simp), fun A hA i hi => by
    cases hA
    simp only [List.length_cons, List.length_nil] at hi
    match i, hi with
    | 0, _ => exact ⟨rfl, _, h.cell (i := 0) rfl, rfl, ha.1, ha.2⟩⟩
def AgaP (m : List (List Int)) (j : Int) (w : World) (e : Ending) (w' : World) : Prop :=
  (askW m [j] ≠ 0 → e = .returned (.tuple #[.slice none 0 0, .int .i64 (askW m [j])])) ∧ (askW m [j] = 0 → ∃ v, e = .returned (.tuple #[v, .int .i64 0]) ∧ owsW w' w.heap.size v (aboveL m j.toNat)) ∧ Ext w w'
set_option maxHeartbeats 4000000 in
theorem findings_Against (a : Option Addr) (cap : Nat) (m : List (List Int)) (j : Int) (w : World) (h : Rows w a cap m) (hj : -9223372036854775808 ≤ j ∧ j ≤ 9223372036854775807) :
    Calls Tryz.prog 9 #[.slice a m.length cap, .int .i64 j] w (AgaP m j w) := by
  have hle := h.le
  have hmx := h.mx
  have HC := Lib.hid (findings_check a cap m (Array.size (World.heap w)) 0 1 [j] (w.alloc (.cells #[.int .i64 j] 3)) (h.ext (Ext.alloc _ _)) (ints_one (Blk.new0 w #[.int .i64 j] 3) hj) (by simp))
  simp only [List.length_cons, List.length_nil, Nat.zero_add] at HC
  have hx0 := Ext.alloc w (.cells #[.int .i64 j] 3)
  have HX0 := Lib.hid hx0
  by_cases hE : askW m [j] = 0
  · obtain ⟨hr, h1, h2⟩ := askW_ok hE
    have h1' : 0 ≤ j := h1
    have h2' : j < ((m.headD []).length : Int) := h2
    obtain ⟨k, rfl⟩ : ∃ k : Nat, j = (k : Int) := ⟨j.toNat, by omega⟩
    have HA := Lib.hid (fun W (hW : Ext w W) => findings_above a cap m k W (h.ext hW) (by have := hr.le; omega) (fun x hx => ⟨by have := (hr.row x hx).1; omega, (hr.row x hx).2⟩))
    have HE := Lib.hid hE
    rw [hE] at HC
    clear h hr h1 h2 h1' h2' hE hx0
    go_enter Tryz.func9, Tryz.ntmps9
    go_wp2_with fail
    with_reducible refine (HC.out).mono ?_
    rintro e x2 ⟨rfl, hy⟩
    have HX := Lib.hid (HX0.out.trans hy)
    clear hy HC HX0
    go_wp2_with fail
    with_reducible refine (HA.out _ HX.out).mono ?_
    rintro e x3 ⟨v, rfl, hv, hy⟩
    have HV := Lib.hid (owsW_low hv HX.out.size)
    have HY := Lib.hid (HX.out.trans hy)
    clear hv hy HA HX
    go_wp2_with fail
    refine bodyPost_ret (v := .tuple #[v, .int .i64 0]) (by simp [results, Tryz.results9, go_sem]) rfl ?_
    exact ⟨fun hn => absurd HE.out hn, fun _ => ⟨_, rfl, by simpa using HV.out⟩, HY.out⟩
  · have HE := Lib.hid hE
    obtain ⟨E, hEE⟩ : ∃ E, askW m [j] = E := ⟨_, rfl⟩
    have HEE := Lib.hid hEE
    rw [hEE] at HC hE
    have t1 : (E != 0) = true := by simpa using hE
    clear h hEE hx0
    go_enter Tryz.func9, Tryz.ntmps9
    go_wp2_with fail
    with_reducible refine (HC.out).mono ?_
    rintro e x2 ⟨rfl, hy⟩
    have HX := Lib.hid (HX0.out.trans hy)
    clear hy HC HX0
    go_wp2_with fail
    refine bodyPost_ret (v := .tuple #[.slice none 0 0, .int .i64 E]) (by simp [results, Tryz.results9, go_sem]) rfl ?_
    exact ⟨fun _ => by rw [HEE.out], fun hn => absurd hn HE.out, HX.out⟩
set_option maxHeartbeats 2000000 in
theorem findings_pick1 (a : Option Addr) (cap : Nat) (l : List Int) (p : Nat) (j : Nat) (w : World) (h : Ints w a cap l) (hp : w.cell? ⟨p, 0, none⟩ = some (.int .i64 j)) (hj : j < l.length) :
    Calls Tryz.prog 36 #[.slice a l.length cap, .pointer (some ⟨p, 0, none⟩)] w fun e w' => e = .returned (.int .i64 (l.getD j 0)) ∧ w = w' := by
  have hle := h.le
  have hmx := h.mx
  obtain ⟨b, o, rfl⟩ := h.head hj
  obtain ⟨y, hy, hcy, _⟩ := Ints.get h hj
  have HY := Lib.hid (show l.getD j 0 = y by rw [List.getD_eq_getElem?_getD, hy]; rfl)
  have g5 : (j : Int) < (l.length : Int) := by omega
  have g6 : (0 : Int) ≤ (j : Int) := by omega
  rw [HY.out]
  clear h hy
  go_enter Tryz.func36, Tryz.ntmps36
  go_wp2_with fail
  go_ret
  exact ⟨rfl, rfl⟩
set_option maxHeartbeats 2000000 in
theorem findings_pick2 (a : Option Addr) (cap : Nat) (l : List Int) (p : Nat) (j : Nat) (w : World) (h : Ints w a cap l) (hp : w.cell? ⟨p, 0, none⟩ = some (.int .i64 j)) (hj : j < l.length) :
    Calls Tryz.prog 37 #[.slice a l.length cap, .pointer (some ⟨p, 0, none⟩)] w fun e w' => e = .returned (.int .i64 (l.getD j 0)) ∧ w = w' := by
  have hle := h.le
  have hmx := h.mx
  obtain ⟨b, o, rfl⟩ := h.head hj
  obtain ⟨y, hy, hcy, _⟩ := Ints.get h hj
  have HY := Lib.hid (show l.getD j 0 = y by rw [List.getD_eq_getElem?_getD, hy]; rfl)
  have g5 : (j : Int) < (l.length : Int) := by omega
  have g6 : (0 : Int) ≤ (j : Int) := by omega
  rw [HY.out]
  clear h hy
  go_enter Tryz.func37, Tryz.ntmps37
  go_wp2_with fail
  go_ret
  exact ⟨rfl, rfl⟩
theorem findings_factorials (w : World) : Calls Tryz.prog 82 #[] w fun e w' => e = .returned (.agg #[.int .i64 1, .int .i64 1, .int .i64 2, .int .i64 6, .int .i64 24, .int .i64 120, .int .i64 720, .int .i64 5040, .int .i64 40320]) ∧ Ext w w' := by
  go_enter Tryz.func82, Tryz.ntmps82
  go_wp2_with fail
  refine bodyPost_ret (v := .agg #[.int .i64 1, .int .i64 1, .int .i64 2, .int .i64 6, .int .i64 24, .int .i64 120, .int .i64 720, .int .i64 5040, .int .i64 40320]) (by simp [results, Tryz.results82, go_sem]) rfl ?_
  exact ⟨rfl, (by repeat (first | with_reducible exact Ext.refl _ | with_reducible assumption | with_reducible refine Ext.drewN ?_ _ | with_reducible refine Ext.drew ?_ | with_reducible refine Ext.alloc' ?_ _ | with_reducible refine Ext.set ?_ (by dsimp only; omega) _))⟩
end Go.Proofs.YtmcbbhlglccmgaaGreat

namespace Go.Proofs.YtmcbbhlglccmgaaGreat
open Go.RowKit Go BigFrame Go.Shelf
set_option maxRecDepth 100000
set_option linter.unusedSimpArgs false
set_option linter.unusedVariables false

/-! Layer 42: findings.permuted. -/
def factW (n : Nat) : Int := [1, 1, 2, 6, 24, 120, 720, 5040, 40320].getD n 0
set_option maxHeartbeats 4000000 in
theorem findings_permuted_limit (a : Option Addr) (n cap : Nat) (fp : FuncId) (caps : Array Value) (z E : Int) (w : World) (hn : n ≤ cap) (hc : cap ≤ 9223372036854775807) (hen : ∀ args w, (callFunc fp args).run Tryz.prog w = .ok (.enter fp args) w)
    (hp : ∀ W, Ext w W → Calls Tryz.prog fp caps W fun e w' => e = .returned (.tuple #[.int .i64 z, .int .i64 E]) ∧ Ext W w') (h1 : 8 < n) :
    Calls Tryz.prog 38 #[.slice a n cap, .func (.func fp) #[] caps] w (RatE 2 w) := by
  have t1 : decide ((8 : Int) < (n : Int)) = true := decide_eq_true (by omega)
  clear hp hen
  obtain ⟨x1, hw, hx, Kp⟩ := boxQ1 w #[.bool false, .slice none 0 0, .bool false, .slice none 0 0] 34
  replace hw := Lib.hid hw
  go_enter Tryz.func38, Tryz.ntmps38
  go_upto_region 1 with fail
  try simp only [Nat.add_assoc, Nat.reduceAdd, Nat.add_zero]
  rw [hw.out]
  clear hw
  have hs0 := hx.size
  obtain ⟨cp0, cp1, cp2, cp3⟩ := bk4 Kp
  obtain ⟨g0, z0, g1, z1, g2, z2, g3, z3⟩ := bp4 Kp (.bool false) (.slice none 0 0) (.bool false) (.slice none 0 0)
  go_wp2_with fail
  clear g0 z0 g1 z1 g2 z2 g3 z3
  clear cp0 cp1 cp2 cp3
  replace hx := bx4 hx (w.heap.size) (.bool false) (.slice none 0 0) (.bool false) (.slice none 0 0) (by omega)
  replace Kp := bs4 Kp (.bool false) (.slice none 0 0) (.bool false) (.slice none 0 0)
  generalize ((((x1).setCell ⟨w.heap.size, 0, none⟩ (.bool false)).setCell ⟨w.heap.size, 1, none⟩ (.slice none 0 0)).setCell ⟨w.heap.size, 2, none⟩ (.bool false)).setCell ⟨w.heap.size, 3, none⟩ (.slice none 0 0) = x2 at *
  obtain ⟨cp0, cp1, cp2, cp3⟩ := bk4 Kp
  refine bodyPost_ret (v := .tuple #[zeroRat, .int .i64 2]) (by simp [results, Tryz.results38, go_sem, cp0, cp1, cp2, cp3, zeroRat]) rfl ?_
  exact ⟨rfl, hx⟩
set_option maxHeartbeats 4000000 in
theorem findings_permuted_ok (a : Option Addr) (n cap : Nat) (fp : FuncId) (caps : Array Value) (z E : Int) (w : World) (hn : n ≤ cap) (hc : cap ≤ 9223372036854775807) (hen : ∀ args w, (callFunc fp args).run Tryz.prog w = .ok (.enter fp args) w)
    (hp : ∀ W, Ext w W → Calls Tryz.prog fp caps W fun e w' => e = .returned (.tuple #[.int .i64 z, .int .i64 E]) ∧ Ext W w') (h1 : ¬ 8 < n) (hE : E = 0) (hz : -9223372036854775808 ≤ z ∧ z ≤ 9223372036854775807) :
    Calls Tryz.prog 38 #[.slice a n cap, .func (.func fp) #[] caps] w (RatP (Rat.divInt z (factW n)) w) := by
  subst hE
  have t1 : decide ((8 : Int) < (n : Int)) = false := decide_eq_false (by omega)
  have t1n : ¬ 8 < n := h1
  have HP := Lib.hid hp
  have HEN := Lib.hid hen
  clear hp hen
  have hcs : n = 0 ∨ n = 1 ∨ n = 2 ∨ n = 3 ∨ n = 4 ∨ n = 5 ∨ n = 6 ∨ n = 7 ∨ n = 8 := by omega
  have hidx : ∀ w, (Instr.index 104 (.agg #[.int .i64 1, .int .i64 1, .int .i64 2, .int .i64 6, .int .i64 24, .int .i64 120, .int .i64 720, .int .i64 5040, .int .i64 40320]) (.int .i64 (n : Int))).run Tryz.prog w = .ok (.int .i64 (factW n)) w := by
    intro w
    rcases hcs with rfl | rfl | rfl | rfl | rfl | rfl | rfl | rfl | rfl
    all_goals kernel_rfl
  have hfw : 1 ≤ factW n ∧ factW n ≤ 40320 := by rcases hcs with rfl | rfl | rfl | rfl | rfl | rfl | rfl | rfl | rfl <;> decide
  generalize factW n = d at *
  have HI := Lib.hid hidx
  clear hcs h1 hidx
  obtain ⟨x1, hw, hx, Kp⟩ := boxQ1 w #[.bool false, .slice none 0 0, .bool false, .slice none 0 0] 34
  replace hw := Lib.hid hw
  go_enter Tryz.func38, Tryz.ntmps38
  go_upto_region 1 with fail
  try simp only [Nat.add_assoc, Nat.reduceAdd, Nat.add_zero]
  rw [hw.out]
  clear hw
  have hs0 := hx.size
  obtain ⟨cp0, cp1, cp2, cp3⟩ := bk4 Kp
  have hen := HEN.out
  go_wp2_with fail
  clear cp0 cp1 cp2 cp3
  clear hen
  with_reducible refine (HP.out _ hx).mono ?_
  rintro e x7 ⟨rfl, hy⟩
  replace hx := hx.trans hy
  replace Kp := kE Kp hy
  clear hy HP HEN
  obtain ⟨cp0, cp1, cp2, cp3⟩ := bk4 Kp
  go_wp2_with fail
  with_reducible refine (findings_factorials _).mono ?_
  clear cp0 cp1 cp2 cp3
  rintro e x2 ⟨rfl, hy⟩
  replace hx := hx.trans hy
  replace Kp := kE Kp hy
  clear hy
  have hsz := hx.size
  have hidx := HI.out
  obtain ⟨cp0, cp1, cp2, cp3⟩ := bk4 Kp
  go_wp2_with fail
  clear cp0 cp1 cp2 cp3
  refine (ratio_Make z d _ hz ?hd1 ?hd2).mono ?_
  case hd1 => omega
  case hd2 => omega
  rintro e x3 ⟨v, rfl, hv, hy⟩
  replace hx := hx.trans hy
  replace Kp := kE Kp hy
  clear hy hidx HI
  obtain ⟨nr, ar, qr, cr, br, kr, dr, rfl, hv', hf', hg'⟩ := hv
  have Vr := Lib.hid hv'
  have Fr := Lib.hid (fun A hA => Nat.le_trans hsz (hf' A hA))
  have Gr := Lib.hid (fun A hA => Nat.le_trans hsz (hg' A hA))
  clear hv' hf' hg' hsz
  obtain ⟨cp0, cp1, cp2, cp3⟩ := bk4 Kp
  obtain ⟨g0, z0, g1, z1, g2, z2, g3, z3⟩ := bp4 Kp (.bool nr) (.slice ar qr cr) (.bool false) (.slice br kr dr)
  go_wp2_with fail
  clear g0 z0 g1 z1 g2 z2 g3 z3
  clear cp0 cp1 cp2 cp3
  replace Vr := (by first | exact rv4 Vr Kp (.bool nr) (.slice ar qr cr) (.bool false) (.slice br kr dr) rfl rfl rfl rfl | exact bv4 Vr Kp (.bool nr) (.slice ar qr cr) (.bool false) (.slice br kr dr) rfl rfl rfl rfl)
  replace hx := bx4 hx (w.heap.size) (.bool nr) (.slice ar qr cr) (.bool false) (.slice br kr dr) (by omega)
  replace Kp := bs4 Kp (.bool nr) (.slice ar qr cr) (.bool false) (.slice br kr dr)
  generalize ((((x3).setCell ⟨w.heap.size, 0, none⟩ (.bool nr)).setCell ⟨w.heap.size, 1, none⟩ (.slice ar qr cr)).setCell ⟨w.heap.size, 2, none⟩ (.bool false)).setCell ⟨w.heap.size, 3, none⟩ (.slice br kr dr) = x4 at *
  obtain ⟨cp0, cp1, cp2, cp3⟩ := bk4 Kp
  refine bodyPost_ret (v := .tuple #[.agg #[.bool nr, .slice ar qr cr, .bool false, .slice br kr dr], .int .i64 0]) (by simp [results, Tryz.results38, go_sem, cp0, cp1, cp2, cp3]) rfl ?_
  exact ⟨_, rfl, ⟨_, _, _, _, _, _, _, rfl, Vr.out, Fr.out, Gr.out⟩, hx⟩
end Go.Proofs.YtmcbbhlglccmgaaGreat

namespace Go.Proofs.YtmcbbhlglccmgaaGreat
open Go.RowKit Go BigFrame Go.Shelf
set_option maxRecDepth 100000
set_option linter.unusedSimpArgs false
set_option linter.unusedVariables false

/-! Layer 42: ContainsFunc over rows of bools. -/
set_option maxHeartbeats 2000000 in
theorem idxB_none (fp : FuncId) (caps : Array Value) (B : List Bool → Bool) (a : Option Addr) (cap : Nat) (m : List (List Bool)) (w : World) (h : BRows w a cap m) (hen : ∀ args w, (callFunc fp args).run Tryz.prog w = .ok (.enter fp args) w)
    (hp : ∀ a cap x, x ∈ m → Bools w a cap x → Calls Tryz.prog fp (#[.slice a x.length cap] ++ caps) w fun e W' => e = .returned (.bool (B x)) ∧ w = W') (hn : m.any B = false) :
    Calls Tryz.prog 64 #[.slice a m.length cap, .func (.func fp) #[] caps] w fun e w' => e = .returned (.int .i64 (-1)) ∧ w = w' := by
  have hle := h.le
  have hmx := h.mx
  have HN := Lib.hid hn
  have HP := Lib.hid hp
  have HEN := Lib.hid hen
  clear hn hp hen
  go_enter Tryz.func64, Tryz.ntmps64
  go_wp2_with fail
  go_loop [8] (fun i => ∃ k : Nat, k ≤ m.length ∧ i = .int .i64 k) (fun i => m.length - (intOf i).toNat)
  case atStart => exact ⟨0, Nat.zero_le _, rfl⟩
  case round =>
    obtain ⟨k, hk, rfl⟩ := hrel
    by_cases hkn : k < m.length
    · obtain ⟨b, o, rfl⟩ := h.head hkn
      obtain ⟨x, a2, cap2, hx, hc, hI⟩ := BRows.get h hkn
      have hmem := List.mem_of_getElem? hx
      have ho : B x = false := by
        have := List.any_eq_false.1 HN.out x hmem
        simpa using this
      have hO := HP.out a2 cap2 x hmem hI
      rw [ho] at hO
      have HO := Lib.hid hO
      have g1 : (0 : Int) ≤ (k : Int) := by omega
      have g2 : (k : Int) < (m.length : Int) := by omega
      clear hx hO ho hmem
      have hen := HEN.out
      go_wp2_with fail
      refine HO.out.mono ?_
      rintro e w' ⟨rfl, rfl⟩
      go_wp2_with fail
      go_round
      case rel => exact ⟨k + 1, by omega, by go_num⟩
      case measure => simp [intOf]; omega
    · obtain rfl : k = m.length := by omega
      go_wp2_with fail
      go_ret
      exact ⟨rfl, rfl⟩
set_option maxHeartbeats 2000000 in
theorem idxB_some (fp : FuncId) (caps : Array Value) (B : List Bool → Bool) (a : Option Addr) (cap : Nat) (m : List (List Bool)) (w : World) (h : BRows w a cap m) (hen : ∀ args w, (callFunc fp args).run Tryz.prog w = .ok (.enter fp args) w)
    (hp : ∀ a cap x, x ∈ m → Bools w a cap x → Calls Tryz.prog fp (#[.slice a x.length cap] ++ caps) w fun e W' => e = .returned (.bool (B x)) ∧ w = W') (hn : m.any B = true) :
    Calls Tryz.prog 64 #[.slice a m.length cap, .func (.func fp) #[] caps] w (SomeIxW w) := by
  have hle := h.le
  have hmx := h.mx
  have HN := Lib.hid hn
  have HP := Lib.hid hp
  have HEN := Lib.hid hen
  clear hn hp hen
  go_enter Tryz.func64, Tryz.ntmps64
  go_wp2_with fail
  go_loop [8] (fun i => ∃ k : Nat, k ≤ m.length ∧ i = .int .i64 k ∧ (m.take k).any B = false) (fun i => m.length - (intOf i).toNat)
  case atStart => exact ⟨0, Nat.zero_le _, rfl, rfl⟩
  case round =>
    obtain ⟨k, hk, rfl, hno⟩ := hrel
    have HNO := Lib.hid hno
    clear hno
    by_cases hkn : k < m.length
    · obtain ⟨b, o, rfl⟩ := h.head hkn
      obtain ⟨x, a2, cap2, hx, hc, hI⟩ := BRows.get h hkn
      have hmem := List.mem_of_getElem? hx
      have hO := HP.out a2 cap2 x hmem hI
      have hT := Lib.hid (take_get hx)
      have g1 : (0 : Int) ≤ (k : Int) := by omega
      have g2 : (k : Int) < (m.length : Int) := by omega
      clear hx hmem
      cases ho : B x with
      | false =>
        rw [ho] at hO
        have HO := Lib.hid hO
        have Ho := Lib.hid ho
        clear ho hO
        have hen := HEN.out
        go_wp2_with fail
        refine HO.out.mono ?_
        rintro e w' ⟨rfl, rfl⟩
        go_wp2_with fail
        go_round
        case rel => exact ⟨k + 1, by omega, by go_num, by rw [hT.out, List.any_append, HNO.out]; simp [Ho.out]⟩
        case measure => simp [intOf]; omega
      | true =>
        rw [ho] at hO
        have HO := Lib.hid hO
        clear ho hO
        have hen := HEN.out
        go_wp2_with fail
        refine HO.out.mono ?_
        rintro e w' ⟨rfl, rfl⟩
        go_wp2_with fail
        go_ret
        exact ⟨k, rfl, rfl⟩
    · obtain rfl : k = m.length := by omega
      exfalso
      have := HNO.out
      rw [List.take_length, HN.out] at this
      cases this
theorem containsB (fp : FuncId) (caps : Array Value) (B : List Bool → Bool) (a : Option Addr) (cap : Nat) (m : List (List Bool)) (w : World) (h : BRows w a cap m) (hen : ∀ args w, (callFunc fp args).run Tryz.prog w = .ok (.enter fp args) w)
    (hp : ∀ a cap x, x ∈ m → Bools w a cap x → Calls Tryz.prog fp (#[.slice a x.length cap] ++ caps) w fun e W' => e = .returned (.bool (B x)) ∧ w = W') :
    Calls Tryz.prog 26 #[.slice a m.length cap, .func (.func fp) #[] caps] w fun e w' => e = .returned (.bool (m.any B)) ∧ w = w' := by
  have hle := h.le
  have hmx := h.mx
  cases hn : m.any B with
  | false =>
    have HI := Lib.hid (idxB_none fp caps B a cap m w h hen hp hn)
    clear hn hen hp
    go_enter Tryz.func26, Tryz.ntmps26
    go_wp2_with (go_at_call 64; refine HI.out.mono ?_; rintro e w' ⟨rfl, rfl⟩)
    go_ret
    exact ⟨rfl, rfl⟩
  | true =>
    have HI := Lib.hid (idxB_some fp caps B a cap m w h hen hp hn)
    clear hn hen hp
    go_enter Tryz.func26, Tryz.ntmps26
    go_wp2_with (go_at_call 64; refine HI.out.mono ?_; rintro e w' ⟨i, rfl, rfl⟩)
    go_ret
    exact ⟨rfl, rfl⟩
end Go.Proofs.YtmcbbhlglccmgaaGreat

