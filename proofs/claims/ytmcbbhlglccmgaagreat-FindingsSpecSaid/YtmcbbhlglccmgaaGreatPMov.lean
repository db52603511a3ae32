import Derived.Test.YtmcbbhlglccmgaaGreatND
import Derived.Laws.Shifts
namespace Go.Proofs.YtmcbbhlglccmgaaGreat
open Go.RowKit Go BigFrame Go.Shelf
set_option maxRecDepth 100000
set_option linter.unusedSimpArgs false

theorem nat_big_ok (neg : Bool) (a : Option Addr) (cap : Nat) (l : List Int) (w : World) (h : Ints w a cap l) (hl : (trimL l).length ≤ 2048) :
    Calls Tryz.prog 72 #[.bool neg, .slice a l.length cap] w fun e w' => e = .returned (.agg #[.bool (neg && decide (0 < (trimL l).length)), .slice a (trimL l).length cap]) ∧ Ext w w' :=
  (nat_big neg a cap l w h).mono fun e w' hh => by
    rcases hh with ⟨_, h1, h2⟩ | ⟨h1, _⟩
    · exact ⟨h1, h2⟩
    · omega

theorem sgn_mul (n1 n2 : Bool) (x y : Int) : sgn n1 x * sgn n2 y = sgn (!(n1 == n2)) (x * y) := by cases n1 <;> cases n2 <;> simp [sgn, Int.neg_mul, Int.mul_neg]
end Go.Proofs.YtmcbbhlglccmgaaGreat

namespace Go.Proofs.YtmcbbhlglccmgaaGreat
open Go.RowKit Go BigFrame Go.Shelf
set_option maxRecDepth 100000
set_option linter.unusedSimpArgs false

theorem pow2_bd {n : Nat} (h : n ≤ 29) : (1 : Int) ≤ 2 ^ n ∧ (2 : Int) ^ n ≤ 536870912 := by
  have h1 : (1 : Int) ≤ 2 ^ n := Int.pow_pos (by decide)
  have h2 : ((2 ^ n : Nat) : Int) ≤ ((2 ^ 29 : Nat) : Int) := Int.ofNat_le.2 (Nat.pow_le_pow_right (by decide) h)
  rw [Int.natCast_pow, Int.natCast_pow] at h2
  exact ⟨h1, by simpa using h2⟩
/-- A slice and a number that a closure captures. -/
structure CapN (w : World) (p q : Nat) (a : Option Addr) (ca n : Nat) (l : List Int) : Prop where
  p : Blk w p #[.slice a l.length ca] 90
  q : Blk w q #[.int .i64 (n : Int)] 3
  l : Ints w a ca l
theorem CapN.ext {w w' : World} {p q : Nat} {a : Option Addr} {ca n : Nat} {l : List Int} (h : CapN w p q a ca n l) (k : Ext w w') : CapN w' p q a ca n l := ⟨h.p.ext k, h.q.ext k, h.l.ext k⟩
set_option maxHeartbeats 1000000 in
theorem nat_mov1 (p q : Nat) (a : Option Addr) (ca n : Nat) (l : List Int) (i : Nat) (w : World) (h : CapN w p q a ca n l) (hl : Digs l) (hn : n ≤ 29) :
    Calls Tryz.prog 124 #[.int .i64 i, .pointer (some ⟨p, 0, none⟩), .pointer (some ⟨q, 0, none⟩)] w fun e w' => e = .returned (.int .i64 (l.getD i 0 * 2 ^ n)) ∧ Ext w w' := by
  have C1 := Lib.hid (fun W : Later w => later_same (W := W) (nat_at a ca l i W.1 (h.l.ext W.2)))
  have L1 := later_cell (h.p.cell (i := 0) rfl)
  have L2 := later_cell (h.q.cell (i := 0) rfl)
  obtain ⟨x1, x2⟩ := hl.getD i
  obtain ⟨p1, p2⟩ := pow2_bd hn
  have hmul : 0 ≤ l.getD i 0 * 2 ^ n ∧ l.getD i 0 * 2 ^ n ≤ 1073741824 * 536870912 := ⟨Int.mul_nonneg x1 (by omega), Int.mul_le_mul (by omega) p2 (by omega) (by omega)⟩
  have hwr : IntKind.i64.wrap (l.getD i 0 * 2 ^ n) = l.getD i 0 * 2 ^ n := IntWalk.i64_in _ (by omega)
  have hmin : min n 64 = n := by omega
  have hshl : ∀ x : Int, Op.shift .shl .i64 x .i64 (n : Int) = pure (.int .i64 (IntKind.i64.wrap (x * 2 ^ n))) := fun x => by
    rw [shift_shl_any _ _ _ _ (by omega)]
    have : min (n : Int).toNat IntKind.i64.bits = n := by simp [IntKind.bits]; omega
    rw [this]
  generalize hx : l.getD i 0 = x at *
  generalize hP : (2 : Int) ^ n = P at *
  clear h hl
  go_enter Tryz.func124, Tryz.ntmps124
  go_upto_region 1 with fail
  refine wp_region_later (by kernel_rfl) (by kernel_rfl) ?_; repeat (go_big_quiet_step ((go_at_call 119; with_reducible exact C1.out _)))
  refine wpQuiet_nil ?_; rintro _ ⟨⟨W1, HW1⟩, rfl⟩; (try dsimp only)
  go_wp2_with fail
  go_ret
  exact ⟨rfl, HW1⟩
theorem mov_fits {l : List Int} (hl : Digs l) {n : Nat} (hn : n ≤ 29) : trimL (carryL (fun i => l.getD i 0 * 2 ^ n) (l.length + 1)) = digs (dval l * 2 ^ n).toNat := by
  obtain ⟨p1, p2⟩ := pow2_bd hn
  have e : sval (fun i => l.getD i 0 * 2 ^ n) (l.length + 1) = dval l * 2 ^ n := by
    rw [sval_scale (fun i => l.getD i 0), sval_list l _ (by omega)]
  have a1 := dval_nonneg hl
  have b1 := dval_lt hl
  have hp := pow_pos30 l.length
  have h0 : 0 ≤ dval l * 2 ^ n := Int.mul_nonneg a1 (by omega)
  have h1 : dval l * 2 ^ n ≤ 1073741824 ^ l.length * 536870912 := Int.mul_le_mul (by omega) p2 (by omega) (by omega)
  rw [carry_fits _ _ (by rw [e]; exact h0) (by rw [e, Int.pow_succ]; omega), e]
set_option maxHeartbeats 1000000 in
theorem nat_moved (a : Option Addr) (ca n : Nat) (l : List Int) (w : World) (h : Ints w a ca l) (hl : Digs l) (h1 : l.length ≤ 99998) (hn : n ≤ 29) :
    Calls Tryz.prog 122 #[.slice a l.length ca, .int .i64 n] w (DigP (digs (dval l * 2 ^ n).toNat) w) := by
  have hle1 := h.le
  have hmx1 := h.mx
  have hmf : ∀ (fn : Fn) (first cap : Array Value) (w : World), (Instr.makeFunc fn first cap).run Tryz.prog w = .ok (.func fn first cap) w := fun _ _ _ _ => rfl
  have hx : Ext w ((w.alloc (.cells #[.slice a l.length ca] 90)).alloc (.cells #[.int .i64 (n : Int)] 3)) := (by repeat (first | with_reducible exact Ext.refl _ | with_reducible assumption | with_reducible refine Ext.drewN ?_ _ | with_reducible refine Ext.drew ?_ | with_reducible refine Ext.alloc' ?_ _ | with_reducible refine Ext.set ?_ (by dsimp only; omega) _))
  have hC : CapN ((w.alloc (.cells #[.slice a l.length ca] 90)).alloc (.cells #[.int .i64 (n : Int)] 3)) w.heap.size (w.heap.size + 1) a ca n l :=
    ⟨(Blk.new0 w _ _).alloc _, Blk.new1 w _ _ _, h.ext hx⟩
  have c1 := hC.p.cell (i := 0) rfl
  have hsz : w.heap.size ≤ ((w.alloc (.cells #[.slice a l.length ca] 90)).alloc (.cells #[.int .i64 (n : Int)] 3)).heap.size := hx.size
  obtain ⟨p1, p2⟩ := pow2_bd hn
  have hK := nat_carried (l.length + 1) 124 (.pointer (some ⟨w.heap.size, 0, none⟩)) (.pointer (some ⟨w.heap.size + 1, 0, none⟩)) (fun i => l.getD i 0 * 2 ^ n) _ (by omega)
    (fun i => by
      obtain ⟨x1, x2⟩ := hl.getD i
      have h1 : 0 ≤ l.getD i 0 * 2 ^ n := Int.mul_nonneg x1 (by omega)
      have h2 : l.getD i 0 * 2 ^ n ≤ 1073741824 * 536870912 := Int.mul_le_mul (by omega) p2 (by omega) (by omega)
      exact ⟨by omega, by omega⟩) (enters_of Tryz.func124 (by kernel_rfl) rfl)
    (fun i W hi hW => nat_mov1 _ _ a ca n l i W (hC.ext hW) hl hn)
  rw [mov_fits hl hn] at hK
  generalize digs (dval l * 2 ^ n).toNat = R at *
  have HK := Lib.hid hK
  generalize hw1 : (w.alloc (.cells #[.slice a l.length ca] 90)).alloc (.cells #[.int .i64 (n : Int)] 3) = w1 at *
  have HW := Lib.hid hw1
  clear hK hC hw1 p1 p2
  go_enter Tryz.func122, Tryz.ntmps122
  go_upto_region 1 with fail
  rw [HW.out]
  go_wp2_with fail
  refine HK.out.mono ?_
  rintro e w2 ⟨v, rfl, hO, hy⟩
  go_wp2_with fail
  go_ret
  exact ⟨v, rfl, hO.base hsz, hx.trans hy⟩
end Go.Proofs.YtmcbbhlglccmgaaGreat

