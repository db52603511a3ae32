import Derived.Test.YtpaaanbcadlhiaaDoorPLaw0
import Derived.Deep.DeepCutAuto
namespace Go.Proofs.YtpaaanbcadlhiaaDoor
open Go.RowKit Go BigFrame
set_option maxRecDepth 100000
set_option linter.unusedSimpArgs false

/-! Pieces for the laws: the calculator's of, Choose at any numbers, boxes. -/
theorem of_val (cb : Nat) {v : Value} {z : Int} {w : World} (hc : Blk w cb #[.bool false] 49) (hv : BigV w v z) (hz : Len z) :
    Calls Tryd.prog 35 #[.pointer (some ⟨cb, 0, none⟩), v, .int .i64 0] w fun e w' => e = .returned v ∧ Ext w w' := by
  obtain ⟨n1, l, ⟨a, ca, rfl, hi⟩, hb⟩ := hv
  exact calc_of cb n1 a ca l w hc hi (hb.chk hz)
def binZ (n : Nat) (k : Int) : Int := if 0 ≤ k then (bin n k.toNat : Nat) else 0
theorem choose_any (n : Nat) (k : Int) (w : World) (hn : n ≤ 4096) : Calls Tryd.prog 19 #[.int .i64 n, .int .i64 k] w (PairP (binZ n k) 0 w) := by
  unfold binZ
  by_cases h0 : 0 ≤ k
  · rw [if_pos h0]
    by_cases hk : k ≤ n
    · have h := nat_Choose n k.toNat w hn (by omega)
      rw [show ((k.toNat : Nat) : Int) = k by omega] at h
      exact h.mono fun e w' hh => PairP.one hh
    · rw [bin_gt (by omega)]
      exact (nat_Choose_none n k w ⟨by omega, by omega⟩ (.inr (by omega))).mono fun e w' hh => PairP.zero hh
  · rw [if_neg h0]
    exact (nat_Choose_none n k w ⟨by omega, by omega⟩ (.inl (by omega))).mono fun e w' hh => PairP.zero hh
theorem binZ_len {n : Nat} (k : Int) (hn : n ≤ 4096) : Len (binZ n k) := by
  unfold binZ Len
  split
  · have := bin_len (i := k.toNat) hn
    rw [Int.natAbs_natCast]; omega
  · rw [show ((0 : Int).natAbs) = 0 from rfl, digs_zero]; simp
theorem binZ_succ (n : Nat) {k : Int} (hk : 0 ≤ k) : binZ (n + 1) (k + 1) = binZ n k + binZ n (k + 1) := by
  unfold binZ
  rw [if_pos hk, if_pos (by omega), if_pos (by omega), show (k + 1).toNat = k.toNat + 1 by omega, bin_succ]
  omega
theorem binZ_symm (n : Nat) {k : Int} (hk : 0 ≤ k) : binZ n k = binZ n ((n : Int) - k) := by
  unfold binZ
  rw [if_pos hk]
  by_cases h : k ≤ n
  · rw [if_pos (by omega), bin_symm (n := n) (k := k.toNat) (by omega), show ((n : Int) - k).toNat = n - k.toNat by omega]
  · rw [if_neg (by omega), bin_gt (by omega)]; rfl
theorem binZ_zero (n : Nat) : binZ n 0 = 1 := by
  unfold binZ
  rw [if_pos (by omega), show (0 : Int).toNat = 0 from rfl, bin_zero]; rfl
theorem alloc_facts {cur W : World} (h : Ext cur W) (cs : Array Value) (t : TypeId) : Ext cur (W.alloc (.cells cs t)) ∧ Blk (W.alloc (.cells cs t)) W.heap.size cs t ∧ cur.heap.size ≤ W.heap.size := ⟨h.alloc' _, Blk.new0 W cs t, h.size⟩
theorem BigV.later {w0 w : World} {v : Value} {z : Int} (h : BigV w0 v z) (hx : Ext w0 w) {p q : Addr} (hp : w0.heap.size ≤ p.block) (hq : w0.heap.size ≤ q.block) (x y : Value) : BigV ((w.setCell p x).setCell q y) v z := h.ext ((hx.set hp x).set hq y)
theorem BigN.boxed {w0 w : World} {v : Value} {z : Int} {B : Nat} (h : BigN w0 v z B) (hx : Ext w0 w) {p q : Addr} (hp : p.block < B) (hq : q.block < B) (x y : Value) : BigV ((w.setCell p x).setCell q y) v z := (((h.ext hx).put hp x).put hq y).val
end Go.Proofs.YtpaaanbcadlhiaaDoor
