import Derived.Test.YtmkleegfbapakaaTailIn
import Derived.Test.YtmkleegfbapakaaDMeas
import Derived.RangeFuncBox
import Derived.Shelf.Abstract
namespace Go.Proofs.Ytmkleegfbapakaa
open Go.RowKit Go D28 Go.Shelf
set_option maxRecDepth 100000

attribute [local go_sem] Oper.semAt_some

/-- The pairs in front of (i, k), in the order of twos. -/
def prs (i k : Nat) : List (Nat × Nat) := ((List.range i).flatMap fun i => (List.range i).map fun k => (i, k)) ++ (List.range k).map fun k => (i, k)
theorem prs_succ (i k : Nat) : prs i (k + 1) = prs i k ++ [(i, k)] := by
  unfold prs; rw [List.range_succ, List.map_append, List.append_assoc]; rfl
theorem prs_next (i : Nat) : prs i i = prs (i + 1) 0 := by
  unfold prs; simp [List.range_succ]
theorem prs_mono (i n : Nat) (h : i ≤ n) : (prs i 0).length ≤ (prs n 0).length := by
  induction n with
  | zero => obtain rfl : i = 0 := by omega
            exact Nat.le_refl _
  | succ n ih =>
    rcases Nat.lt_or_ge i (n + 1) with h1 | h1
    · refine Nat.le_trans (ih (by omega)) ?_
      rw [← prs_next]; unfold prs; simp
    · obtain rfl : i = n + 1 := by omega
      exact Nat.le_refl _
theorem prs_lt (i k n : Nat) (hk : k < i) (hi : i < n) : (prs i k).length < (prs n 0).length := by
  refine Nat.lt_of_lt_of_le ?_ (prs_mono (i + 1) n hi)
  rw [← prs_next]; unfold prs; simp; omega

/-- What a round of twos must keep: what lay below n0, and the box of the list. -/
def KpT (n₀ Bs : Nat) (v : Value) (A B : World) : Prop := Below n₀ A B ∧ (Blk A Bs #[v] 25 → Blk B Bs #[v] 25)
theorem KpT.refl (n₀ Bs : Nat) (v : Value) (A : World) : KpT n₀ Bs v A A := ⟨Below.refl _ _, id⟩
theorem KpT.trans {n₀ Bs : Nat} {v : Value} {A B C : World} (h : KpT n₀ Bs v A B) (k : KpT n₀ Bs v B C) : KpT n₀ Bs v A C := ⟨h.1.trans k.1, fun x => k.2 (h.2 x)⟩

set_option maxHeartbeats 2000000 in
theorem twos1_in (n : Nat) (hn : 1 ≤ n) (l Bs n₀ b off len cap : Nat) (V : Nat → Value) (hle : len ≤ cap) (hmx : cap ≤ 9223372036854775807) (hb : b < n₀) (J Jx : List (Nat × Nat) → World → Prop)
    (hY : ∀ pre x W, J pre W → pre.length < (prs len 0).length → YieldAt Fence.wide (n - 1) Try.prog l #[V x.1, V x.2] W fun e W' =>
      (e = .returned (.bool true) ∧ J (pre ++ [x]) W' ∧ KpT n₀ Bs (.slice (some ⟨b, off, none⟩) len cap) W W') ∨ (e = .returned (.bool false) ∧ Jx (pre ++ [x]) W'))
    (W : World) (hBs : Blk W Bs #[.slice (some ⟨b, off, none⟩) len cap] 25) (hc : ∀ j, j < len → W.cell? ⟨b, off + j, none⟩ = some (V j)) (h0 : J [] W) :
    CallsIn Fence.wide n Try.prog 79 #[.func (.yield l) #[] #[], .pointer (some ⟨Bs, 0, none⟩)] W fun e W' => (∃ v, e = .returned v) ∧
      ((∃ ys, ys = prs len 0 ∧ J ys W') ∨ (∃ pre, True ∧ Jx pre W')) := by
  refine callsIn_of_wp Try.func79 rfl trivial ?_ rfl
  simp only [Try.ntmps79, List.size_toArray, List.length_cons, List.length_nil, Nat.reduceAdd, Nat.reduceSub, Array.replicate_succ, Array.replicate_zero, List.push_toArray, List.append_toArray, List.nil_append, List.cons_append]
  have b0 := hBs.cell (i := 0) (v := .slice (some ⟨b, off, none⟩) len cap) rfl
  gi_wp2
  gi_loopw [9] (fun i wr => ∃ q : Nat, q ≤ len ∧ i = .int .i64 q ∧ J (prs q 0) wr ∧ KpT n₀ Bs (.slice (some ⟨b, off, none⟩) len cap) W wr)
    (fun i _ => len - (intOf i).toNat)
  case atStart => exact ⟨0, Nat.zero_le _, rfl, h0, KpT.refl _ _ _ _⟩
  case round =>
    obtain ⟨q, hq, rfl, hJq, hkq⟩ := hrel
    clear b0
    by_cases hqn : q < len
    · have b0 := (hkq.2 hBs).cell (i := 0) (v := .slice (some ⟨b, off, none⟩) len cap) rfl
      have hcq := (hkq.1.cell (p := ⟨b, off + q, none⟩) hb).trans (hc q hqn)
      gi_wp2
      gi_loopw [18] (fun i wy => ∃ p : Nat, p ≤ q ∧ i = .int .i64 p ∧ J (prs q p) wy ∧ KpT n₀ Bs (.slice (some ⟨b, off, none⟩) len cap) W wy)
        (fun i _ => q - (intOf i).toNat)
      case atStart => exact ⟨0, Nat.zero_le _, rfl, hJq, hkq⟩
      case round =>
        obtain ⟨p, hp, rfl, hJp, hkp⟩ := hrel
        clear b0 hcq
        by_cases hpq : p < q
        · obtain ⟨fn, tmps, assign, body, hy, hR⟩ := hY _ (q, p) wr hJp (prs_lt _ _ _ hpq hqn)
          dsimp only at hy
          have hcp := (hkp.1.cell (p := ⟨b, off + p, none⟩) hb).trans (hc p (by omega))
          gi_wp2
          refine hR.mono ?_
          rintro e W3 (⟨rfl, hJ3, hk3⟩ | ⟨rfl, hJx3⟩)
          · gi_wp2
            go_roundw
            case rel => exact ⟨p + 1, by omega, by go_num, by rw [prs_succ]; exact hJ3, hkp.trans hk3⟩
            case measure => simp [intOf]; omega
          · gi_wp2
            refine bodyPost_ret (results_none rfl _ _ _) rfl ?_
            exact ⟨⟨_, rfl⟩, .inr ⟨_, trivial, hJx3⟩⟩
        · obtain rfl : p = q := by omega
          gi_wp2
          go_roundw
          case rel => exact ⟨p + 1, by omega, by go_num, by rw [← prs_next]; exact hJp, hkp⟩
          case measure => simp [intOf]; omega
    · obtain rfl : q = len := by omega
      gi_wp2
      go_end0
      exact ⟨⟨_, rfl⟩, .inl ⟨_, rfl, hJq⟩⟩

set_option maxHeartbeats 1000000 in
theorem twos1_nil_in (n : Nat) (l Bs cap : Nat) (a : Option Addr) (J : List (Nat × Nat) → World → Prop) (W : World) (hBs : Blk W Bs #[.slice a 0 cap] 25) (h0 : J [] W) :
    CallsIn Fence.wide n Try.prog 79 #[.func (.yield l) #[] #[], .pointer (some ⟨Bs, 0, none⟩)] W fun e W' => (∃ v, e = .returned v) ∧ J [] W' := by
  refine callsIn_of_wp Try.func79 rfl trivial ?_ rfl
  simp only [Try.ntmps79, List.size_toArray, List.length_cons, List.length_nil, Nat.reduceAdd, Nat.reduceSub, Array.replicate_succ, Array.replicate_zero, List.push_toArray, List.append_toArray, List.nil_append, List.cons_append]
  have b0 := hBs.cell (i := 0) (v := .slice a 0 cap) rfl
  gi_wp2
  gi_loopw [9] (fun i wr => i = .int .i64 0 ∧ J [] wr) (fun _ _ => 0)
  case atStart => exact ⟨rfl, h0⟩
  case round =>
    obtain ⟨rfl, hJs⟩ := hrel
    gi_wp2
    go_end0
    exact ⟨⟨_, rfl⟩, hJs⟩

set_option maxHeartbeats 1000000 in
/-- twos boxes the list; the function value carries the box. -/
theorem twos_in (n : Nat) (v : Value) (w : World) (hv : ∃ a len cap, v = .slice a len cap) :
    CallsIn Fence.wide n Try.prog 46 #[v] w fun e w' => e = .returned (.func (.func 79) #[] #[.pointer (some ⟨w.heap.size, 0, none⟩)]) ∧ w' = w.alloc (.cells #[v] 25) := by
  obtain ⟨a, len, cap, rfl⟩ := hv
  refine callsIn_of_wp Try.func46 rfl trivial ?_ rfl
  simp only [Try.ntmps46, List.size_toArray, List.length_cons, List.length_nil, Nat.reduceAdd, Nat.reduceSub, Array.replicate_succ, Array.replicate_zero, List.push_toArray, List.append_toArray, List.nil_append, List.cons_append]
  gi_wp2
  go_ret
  exact ⟨rfl, rfl⟩

/-- The slice values of the rows. -/
theorem Rows.vals {w : World} {a : Option Addr} {cap : Nat} {ps : List (List Int)} (h : Rows w a cap ps) :
    ∃ V : Nat → Value, ∀ i (_ : i < ps.length), ∃ b o, a = some ⟨b, o, none⟩ ∧ w.cell? ⟨b, o + i, none⟩ = some (V i) ∧ ∃ a' c, V i = .slice a' (ps.getD i []).length c ∧ Ints w a' c (ps.getD i []) := by
  have : ∀ i, ∃ v, ∀ (hi : i < ps.length), ∃ b o, a = some ⟨b, o, none⟩ ∧ w.cell? ⟨b, o + i, none⟩ = some v ∧ ∃ a' c, v = .slice a' (ps.getD i []).length c ∧ Ints w a' c (ps.getD i []) := by
    intro i
    by_cases hi : i < ps.length
    · obtain ⟨b, o, rfl⟩ := h.head hi
      obtain ⟨a', c, h1, h2⟩ := h.cell hi
      have e : ps.getD i [] = ps[i] := by simp [List.getD, hi]
      exact ⟨_, fun _ => ⟨b, o, rfl, h1, a', c, by rw [e], by rw [e]; exact h2⟩⟩
    · exact ⟨undef, fun h => absurd h hi⟩
  exact ⟨fun i => Classical.choose (this i), fun i => Classical.choose_spec (this i)⟩

/-- The contract of what twos hands back. -/
theorem twos_stops (n : Nat) (hn : 1 ≤ n) (Bs n₀ : Nat) (a : Option Addr) (cap : Nat) (ps : List (List Int)) (w w₀ : World) (hw : Ext w₀ w) (hr : Rows w₀ a cap ps) (hn₀ : n₀ = w₀.heap.size)
    (V : Nat → Value) (hV : ∀ i (_ : i < ps.length), ∃ b o, a = some ⟨b, o, none⟩ ∧ w₀.cell? ⟨b, o + i, none⟩ = some (V i))
    (hB : Blk w Bs #[.slice a ps.length cap] 25) :
    SeqStopsK Fence.wide n Try.prog 79 #[.pointer (some ⟨Bs, 0, none⟩)] (fun x : Nat × Nat => #[V x.1, V x.2]) (KpT n₀ Bs (.slice a ps.length cap))
      (fun ys => ys = prs ps.length 0) (fun _ => True) (prs ps.length 0).length w := fun l J Jx W hW _ _ hY h0 => by
  subst hn₀
  have hB' := hB.ext hW
  have h1 := hr.le
  have h2 := hr.mx
  by_cases e : ps.length = 0
  · have e2 : ps = [] := List.length_eq_zero_iff.1 e
    subst e2
    refine (twos1_nil_in n l Bs cap a J W hB' h0).mono fun e W' ⟨he, hj⟩ => ⟨he, .inl ⟨_, rfl, hj⟩⟩
  · obtain ⟨b, o, rfl, hc0⟩ := hV 0 (by omega)
    have hb := lt_of_cell hc0
    refine (twos1_in n hn l Bs w₀.heap.size b o ps.length cap V h1 h2 hb J Jx hY W hB' (fun j hj => ?_) h0)
    obtain ⟨b', o', e, hc⟩ := hV j hj
    cases e
    exact ((hw.trans (hW)).cell (p := ⟨b, o + j, none⟩) hb).trans hc
end Go.Proofs.Ytmkleegfbapakaa
