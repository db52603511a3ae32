import Derived.Test.YtmcbbhlglccmgaaGreatEFn
import Derived.Test.YtmcbbhlglccmgaaGreatECnt2
namespace Go.Proofs.YtmcbbhlglccmgaaGreat
open Go.RowKit Go BigFrame Go.Shelf
set_option maxRecDepth 100000
set_option linter.unusedSimpArgs false

theorem exact_lists_ok (a a2 : Option Addr) (la lb cap cap2 : Nat) (w : World) (h : la = lb) (h8 : la ≤ 8) :
    Calls Tryz.prog 83 #[.slice a la cap, .slice a2 lb cap2] w fun e w' => e = .returned (.tuple #[]) ∧ w = w' := by
  subst h
  have d1 : decide ((la : Int) ≤ 8) = true := by simp; omega
  go_enter Tryz.func83, Tryz.ntmps83
  go_wp2_with (go_at_call 66; refine (exact_need_ok _ _).mono ?_; rintro e w' ⟨rfl, rfl⟩)
  go_end0
  exact ⟨rfl, rfl⟩
theorem exact_lists_limit (a a2 : Option Addr) (la lb cap cap2 : Nat) (w : World) (h8 : 8 < la ∨ 8 < lb) :
    Calls Tryz.prog 83 #[.slice a la cap, .slice a2 lb cap2] w fun e w' => e = .panicked [{ v := .iface 28 (.int .i64 2), recovered := false }] ∧ w = w' := by
  by_cases h : la < lb
  · have d1 : decide ((lb : Int) ≤ 8) = false := by simp; omega
    go_enter Tryz.func83, Tryz.ntmps83
    go_wp2_with (go_at_call 66; refine (exact_need_no _ _).mono ?_; rintro e w' ⟨rfl, rfl⟩)
    exact ⟨rfl, rfl, rfl⟩
  · have d1 : decide ((la : Int) ≤ 8) = false := by simp; omega
    go_enter Tryz.func83, Tryz.ntmps83
    go_wp2_with (go_at_call 66; refine (exact_need_no _ _).mono ?_; rintro e w' ⟨rfl, rfl⟩)
    exact ⟨rfl, rfl, rfl⟩
theorem exact_lists_arg (a a2 : Option Addr) (la lb cap cap2 : Nat) (w : World) (h8 : la ≤ 8 ∧ lb ≤ 8) (hne : la ≠ lb) :
    Calls Tryz.prog 83 #[.slice a la cap, .slice a2 lb cap2] w fun e w' => e = .panicked [{ v := .iface 28 (.int .i64 1), recovered := false }] ∧ w = w' := by
  have d2 : ((la : Int) == (lb : Int)) = false := by simp; omega
  obtain ⟨h1, h2⟩ := h8
  by_cases h : la < lb
  · have d1 : decide ((lb : Int) ≤ 8) = true := by simp; omega
    go_enter Tryz.func83, Tryz.ntmps83
    go_wp2_with fail
    refine (exact_need_ok _ _).mono ?_
    rintro e w' ⟨rfl, rfl⟩
    go_wp2_with (go_at_call 66; refine (exact_need_no _ _).mono ?_; rintro e w' ⟨rfl, rfl⟩)
    exact ⟨rfl, rfl, rfl⟩
  · have d1 : decide ((la : Int) ≤ 8) = true := by simp; omega
    go_enter Tryz.func83, Tryz.ntmps83
    go_wp2_with fail
    refine (exact_need_ok _ _).mono ?_
    rintro e w' ⟨rfl, rfl⟩
    go_wp2_with (go_at_call 66; refine (exact_need_no _ _).mono ?_; rintro e w' ⟨rfl, rfl⟩)
    exact ⟨rfl, rfl, rfl⟩

theorem exact_mul (x y : Int) (w : World) (h : -9223372036854775808 ≤ x * y ∧ x * y ≤ 9223372036854775807) : Calls Tryz.prog 87 #[.int .i64 x, .int .i64 y] w fun e w' => e = .returned (.int .i64 (x * y)) ∧ w = w' := by
  obtain ⟨h1, h2⟩ := h
  go_enter Tryz.func87, Tryz.ntmps87
  go_wp2_with fail
  go_ret
  exact ⟨rfl, rfl⟩
def eqP (x y : Int) : Int := if x = y then 1 else 0
theorem exact_eq (x y : Int) (w : World) : Calls Tryz.prog 84 #[.int .i64 x, .int .i64 y] w fun e w' => e = .returned (.int .i64 (eqP x y)) ∧ w = w' := by
  unfold eqP
  by_cases h : x = y
  · subst h
    go_enter Tryz.func84, Tryz.ntmps84
    go_wp2_with fail
    go_ret
    exact ⟨by simp, rfl⟩
  · have d : (x == y) = false := by simpa using h
    go_enter Tryz.func84, Tryz.ntmps84
    go_wp2_with fail
    go_ret
    exact ⟨by simp [h], rfl⟩

set_option maxHeartbeats 1000000 in
theorem exact_Orders_bad (a a2 : Option Addr) (la lb cap cap2 : Nat) (sum E : Int) (w : World)
    (hL : ∀ W, Calls Tryz.prog 83 #[.slice a la cap, .slice a2 lb cap2] W fun e w' => e = .panicked [{ v := .iface 28 (.int .i64 E), recovered := false }] ∧ W = w') :
    Calls Tryz.prog 45 #[.slice a la cap, .slice a2 lb cap2, .int .i64 sum] w fun e w' => e = .returned (.tuple #[.int .i64 0, .int .i64 E]) ∧ Ext w w' := by
  have HL := Lib.hid hL
  have hx := Ext.alloc w (.cells #[.int .i64 0] 28)
  have k := Lib.hid (Blk.new0 w #[.int .i64 0] 28)
  clear hL
  go_enter_defers Tryz.func45, Tryz.ntmps45
  go_wp2_with fail
  refine (HL.out _).mono ?_
  rintro e w1 ⟨rfl, rfl⟩
  generalize w.alloc (.cells #[.int .i64 0] 28) = w1 at *
  generalize hp : w.heap.size = p at *
  refine leaves_cons (f := 65) (args := #[.pointer (some ⟨p, 0, none⟩)]) (by simp) (by simp [go_sem]) ?_
  refine (exact_caught_panicking ⟨p, 0, none⟩ 0 E [] _ (k.out.cell (i := 0) rfl) (k.out.free 0)).mono ?_
  rintro e u' w'' ⟨rfl, rfl, rfl⟩
  have c0 := (k.out.set 0 (.int .i64 E)).cell (i := 0) (v := .int .i64 E) rfl
  simp [Leaves, settle, results, Tryz.results45, go_sem, c0]
  exact hx.set (p := ⟨p, 0, none⟩) (by rw [hp]; exact Nat.le_refl _) _

set_option maxHeartbeats 1000000 in
theorem exact_Orders_out (nn : Nat) (a a2 : Option Addr) (cap cap2 : Nat) (l m : List Int) (sum : Int) (w : World) (h : Ints w a cap l) (h2 : Ints w a2 cap2 m) (hl : l.length = nn) (hm : m.length = nn) (hn : nn ≤ 8) (ho : (l.any outB || m.any outB) = true) :
    Calls Tryz.prog 45 #[.slice a nn cap, .slice a2 nn cap2, .int .i64 sum] w fun e w' => e = .returned (.tuple #[.int .i64 0, .int .i64 1]) ∧ Ext w w' := by
  have hx := Ext.alloc w (.cells #[.int .i64 0] 28)
  have k := Lib.hid (Blk.new0 w #[.int .i64 0] 28)
  have hA := exact_contains a cap l _ (h.ext hx)
  have hB := exact_contains a2 cap2 m _ (h2.ext hx)
  rw [hl] at hA
  rw [hm] at hB
  have HL := Lib.hid (exact_lists_ok a a2 nn nn cap cap2 (w.alloc (.cells #[.int .i64 0] 28)) rfl hn)
  generalize hoa : l.any outB = oa at *
  generalize hob : m.any outB = ob at *
  have HA := Lib.hid hA
  have HB := Lib.hid hB
  clear hA hB h h2 hl hm hoa hob
  cases oa
  · have : ob = true := by simpa using ho
    subst this
    clear ho
    go_enter_defers Tryz.func45, Tryz.ntmps45
    go_wp2_with fail
    refine HL.out.mono ?_
    rintro e w1 ⟨rfl, rfl⟩
    go_wp2_with fail
    refine HA.out.mono ?_
    rintro e w1 ⟨rfl, rfl⟩
    go_wp2_with fail
    refine HB.out.mono ?_
    rintro e w1 ⟨rfl, rfl⟩
    go_wp2_with fail
    refine (exact_need_no _ _).mono ?_
    rintro e w1 ⟨rfl, rfl⟩
    generalize w.alloc (.cells #[.int .i64 0] 28) = w1 at *
    generalize hp : w.heap.size = p at *
    refine leaves_cons (f := 65) (args := #[.pointer (some ⟨p, 0, none⟩)]) (by simp) (by simp [go_sem]) ?_
    refine (exact_caught_panicking ⟨p, 0, none⟩ 0 1 [] _ (k.out.cell (i := 0) rfl) (k.out.free 0)).mono ?_
    rintro e u' w'' ⟨rfl, rfl, rfl⟩
    have c0 := (k.out.set 0 (.int .i64 1)).cell (i := 0) (v := .int .i64 1) rfl
    simp [Leaves, settle, results, Tryz.results45, go_sem, c0]
    exact hx.set (p := ⟨p, 0, none⟩) (by rw [hp]; exact Nat.le_refl _) _
  · clear ho HB
    go_enter_defers Tryz.func45, Tryz.ntmps45
    go_wp2_with fail
    refine HL.out.mono ?_
    rintro e w1 ⟨rfl, rfl⟩
    go_wp2_with fail
    refine HA.out.mono ?_
    rintro e w1 ⟨rfl, rfl⟩
    go_wp2_with fail
    refine (exact_need_no _ _).mono ?_
    rintro e w1 ⟨rfl, rfl⟩
    generalize w.alloc (.cells #[.int .i64 0] 28) = w1 at *
    generalize hp : w.heap.size = p at *
    refine leaves_cons (f := 65) (args := #[.pointer (some ⟨p, 0, none⟩)]) (by simp) (by simp [go_sem]) ?_
    refine (exact_caught_panicking ⟨p, 0, none⟩ 0 1 [] _ (k.out.cell (i := 0) rfl) (k.out.free 0)).mono ?_
    rintro e u' w'' ⟨rfl, rfl, rfl⟩
    have c0 := (k.out.set 0 (.int .i64 1)).cell (i := 0) (v := .int .i64 1) rfl
    simp [Leaves, settle, results, Tryz.results45, go_sem, c0]
    exact hx.set (p := ⟨p, 0, none⟩) (by rw [hp]; exact Nat.le_refl _) _

theorem out_bd {l : List Int} (h : l.any outB = false) (i : Nat) : -1048576 ≤ l.getD i 0 ∧ l.getD i 0 ≤ 1048576 := by
  by_cases hi : i < l.length
  · have := List.any_eq_false.1 h (l.getD i 0) (by simp [List.getD, hi])
    simp only [outB, Bool.or_eq_true, decide_eq_true_eq, not_or] at this
    omega
  · simp [List.getD, Nat.le_of_not_lt hi]
theorem mul_bd (x y : Int) (h1 : -1048576 ≤ x ∧ x ≤ 1048576) (h2 : -1048576 ≤ y ∧ y ≤ 1048576) : -1099511627776 ≤ x * y ∧ x * y ≤ 1099511627776 := by
  obtain ⟨a1, a2⟩ := h1
  obtain ⟨b1, b2⟩ := h2
  have h3 : (x.natAbs : Int) ≤ 1048576 := by omega
  have h4 : (y.natAbs : Int) ≤ 1048576 := by omega
  have h5 : x.natAbs * y.natAbs ≤ 1048576 * 1048576 := Nat.mul_le_mul (by omega) (by omega)
  rw [← Int.natAbs_mul] at h5
  omega
def mulP (x y : Int) : Int := x * y

set_option maxHeartbeats 1000000 in
theorem exact_Orders_ok (nn : Nat) (a a2 : Option Addr) (cap cap2 : Nat) (l m : List Int) (sum : Int) (w : World) (h : Ints w a cap l) (h2 : Ints w a2 cap2 m) (hl : l.length = nn) (hm : m.length = nn) (hn : nn ≤ 8) (hoa : l.any outB = false) (hob : m.any outB = false)
    (hs : -9223372036854775808 ≤ sum ∧ sum ≤ 9223372036854775807) :
    Calls Tryz.prog 45 #[.slice a nn cap, .slice a2 nn cap2, .int .i64 sum] w fun e w' => e = .returned (.tuple #[.int .i64 (cntG mulP l m sum), .int .i64 0]) ∧ Ext w w' := by
  have hx := Ext.alloc w (.cells #[.int .i64 0] 28)
  have k := Lib.hid (Blk.new0 w #[.int .i64 0] 28)
  have hA := exact_contains a cap l _ (h.ext hx)
  have hB := exact_contains a2 cap2 m _ (h2.ext hx)
  have hC := counted_any nn a a2 cap cap2 l m sum 87 mulP _ (h.ext hx) (h2.ext hx) hl hm hn (enters_of Tryz.func87 (by kernel_rfl) rfl)
    (fun i j W _ _ => exact_mul _ _ W (by have := mul_bd _ _ (out_bd hoa i) (out_bd hob j); omega)) (fun i j _ _ => mul_bd _ _ (out_bd hoa i) (out_bd hob j)) hs
  rw [hl, hoa] at hA
  rw [hm, hob] at hB
  have HL := Lib.hid (exact_lists_ok a a2 nn nn cap cap2 (w.alloc (.cells #[.int .i64 0] 28)) rfl hn)
  have HA := Lib.hid hA
  have HB := Lib.hid hB
  have HC := Lib.hid hC
  clear hA hB h h2 hl hm hoa hob hC
  go_enter_defers Tryz.func45, Tryz.ntmps45
  go_wp2_with fail
  refine HL.out.mono ?_
  rintro e w1 ⟨rfl, rfl⟩
  go_wp2_with fail
  refine HA.out.mono ?_
  rintro e w1 ⟨rfl, rfl⟩
  go_wp2_with fail
  refine HB.out.mono ?_
  rintro e w1 ⟨rfl, rfl⟩
  go_wp2_with fail
  refine (exact_need_ok _ _).mono ?_
  rintro e w1 ⟨rfl, rfl⟩
  go_wp2_with fail
  refine HC.out.mono ?_
  rintro e w2 ⟨rfl, hy⟩
  have k2 := k.out.ext hy
  have c0 := k2.cell (i := 0) (v := .int .i64 0) rfl
  have f0 := k2.free 0
  have hx2 := hx.trans hy
  have K2 := Lib.hid k2
  clear k2
  generalize hp : w.heap.size = p at *
  go_wp2_with fail
  refine leaves_cons (f := 65) (args := #[.pointer (some ⟨p, 0, none⟩)]) (by simp) (by simp [go_sem]) ?_
  refine (exact_caught_idle ⟨p, 0, none⟩ _).mono ?_
  rintro e u' w'' ⟨rfl, rfl, rfl⟩
  have c0 := (K2.out.set 0 (.int .i64 0)).cell (i := 0) (v := .int .i64 0) rfl
  simp [Leaves, settle, results, Tryz.results45, go_sem, c0]
  exact hx2.set (p := ⟨p, 0, none⟩) (by rw [hp]; exact Nat.le_refl _) _
end Go.Proofs.YtmcbbhlglccmgaaGreat
