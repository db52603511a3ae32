import Derived.Test.YtmcbbhlglccmgaaVPut
import Derived.Test.YtmcbbhlglccmgaaV5
namespace Go.Proofs.Ytmcbbhlglccmgaa
open Go.RowKit Go BigFrame
set_option maxRecDepth 100000
set_option linter.unusedSimpArgs false
set_option linter.unusedVariables false

/-! Put one by one, the better marks come in order; ref16.sum. -/
def Srt (l : List Int) : Prop := l.Pairwise (· ≤ ·)
theorem putL_perm (l : List Int) (n : Int) : (putL l n).Perm (n :: l) := by
  unfold putL
  have h := List.takeWhile_append_dropWhile (p := fun x => decide (x ≤ n)) (l := l)
  refine (List.perm_middle).trans ?_
  rw [h]
theorem putL_srt {l : List Int} {n : Int} (h : Srt l) : Srt (putL l n) := by
  unfold putL Srt at *
  have h1 : ∀ x ∈ l.takeWhile (fun x => decide (x ≤ n)), x ≤ n := fun x hx => by
    have := List.all_takeWhile (p := fun x => decide (x ≤ n)) (l := l)
    rw [List.all_eq_true] at this
    exact of_decide_eq_true (this x hx)
  have h2 : ∀ x ∈ l.dropWhile (fun x => decide (x ≤ n)), n ≤ x := by
    induction l with
    | nil => simp
    | cons y l ih =>
      rw [List.dropWhile_cons]
      by_cases hy : y ≤ n
      · rw [if_pos (by simpa using hy)]
        refine ih (List.Pairwise.of_cons h) (fun x hx => h1 x ?_)
        rw [List.takeWhile_cons, if_pos (by simpa using hy)]
        exact List.mem_cons_of_mem _ hx
      · rw [if_neg (by simpa using hy)]
        intro x hx
        rcases List.mem_cons.1 hx with rfl | hx
        · omega
        · have := (List.pairwise_cons.1 h).1 x hx; omega
  refine List.pairwise_append.2 ⟨h.sublist (List.takeWhile_sublist _), List.pairwise_cons.2 ⟨h2, h.sublist (List.dropWhile_sublist _)⟩, fun a ha b hb => ?_⟩
  have := h1 a ha
  rcases List.mem_cons.1 hb with rfl | hb
  · exact this
  · have := h2 b hb; omega
/-- The first k marks, put one by one. -/
def accL (c : CritA) (l : List Int) (k : Nat) : List Int := ((l.take k).map (turnC c)).foldl putL []
theorem accL_succ {c : CritA} {l : List Int} {k : Nat} {x : Int} (h : l[k]? = some x) : accL c l (k + 1) = putL (accL c l k) (turnC c x) := by
  unfold accL
  rw [take_getQ h, List.map_append, List.foldl_append]
  rfl
theorem accL_perm (c : CritA) (l : List Int) : ∀ k, (accL c l k).Perm ((l.take k).map (turnC c))
  | 0 => by simp [accL]
  | k + 1 => by
    cases hx : l[k]? with
    | none => 
      have : l.length ≤ k := by simpa using hx
      have e : accL c l (k + 1) = accL c l k := by unfold accL; rw [List.take_of_length_le (by omega), List.take_of_length_le this]
      rw [e, List.take_of_length_le (show l.length ≤ k + 1 by omega)]
      have := accL_perm c l k
      rwa [List.take_of_length_le (by omega)] at this
    | some x =>
      rw [accL_succ hx, take_getQ hx, List.map_append]
      refine (putL_perm _ _).trans (((accL_perm c l k).cons _).trans ?_)
      exact List.perm_append_comm (l₁ := [turnC c x])
theorem accL_srt (c : CritA) (l : List Int) (k : Nat) : Srt (accL c l k) := by
  unfold accL
  generalize (l.take k).map (turnC c) = m
  suffices ∀ s, Srt s → Srt (m.foldl putL s) from this [] List.Pairwise.nil
  induction m with
  | nil => exact fun s hs => hs
  | cons x m ih => exact fun s hs => ih _ (putL_srt hs)
theorem accL_len (c : CritA) (l : List Int) {k : Nat} (hk : k ≤ l.length) : (accL c l k).length = k := by
  rw [(accL_perm c l k).length_eq, List.length_map, List.length_take]; omega
theorem tw_all {p : Int → Bool} : ∀ {l : List Int}, (∀ x ∈ l, p x = true) → l.takeWhile p = l
  | [], _ => rfl
  | y :: l, h => by rw [List.takeWhile_cons, if_pos (h y (by simp)), tw_all (fun x hx => h x (List.mem_cons_of_mem _ hx))]
theorem bet_all {c : CritA} {l : List Int} (h : ∀ x ∈ l, onC c x = true) : bet c l = l.map (turnC c) := by
  unfold bet
  rw [tw_all h]
theorem srt_unique {l m : List Int} (h : l.Perm m) (hl : Srt l) (hm : Srt m) : l = m :=
  List.Perm.eq_of_pairwise (le := fun a b => a ≤ b) (fun a b _ _ h1 h2 => by omega) hl hm h
theorem srtC_srt (c : CritA) (l : List Int) : Srt (srtC c l) := by
  have tr : ∀ a b c : Int, decide (a ≤ b) = true → decide (b ≤ c) = true → decide (a ≤ c) = true := fun a b c h1 h2 => by simp only [decide_eq_true_eq] at *; omega
  have tot : ∀ a b : Int, (decide (a ≤ b) || decide (b ≤ a)) = true := fun a b => by simp only [Bool.or_eq_true, decide_eq_true_eq]; omega
  have := List.pairwise_mergeSort tr tot (bet c l)
  exact this.imp fun h => of_decide_eq_true h
theorem srtC_acc {c : CritA} {l : List Int} (h : ∀ x ∈ l, onC c x = true) : srtC c l = accL c l l.length := by
  refine srt_unique ?_ (srtC_srt c l) (accL_srt c l _)
  refine (List.mergeSort_perm _ _).trans ?_
  rw [bet_all h]
  have h2 := (accL_perm c l l.length).symm
  rw [List.take_length] at h2
  exact h2
theorem bet_short {c : CritA} {l : List Int} : (bet c l).length = l.length ↔ ∀ x ∈ l, onC c x = true := by
  unfold bet
  rw [List.length_map]
  refine ⟨fun h x hx => ?_, fun h => by rw [tw_all h]⟩
  have e := (List.takeWhile_prefix (p := onC c) (l := l)).eq_of_length h
  have := List.all_takeWhile (p := onC c) (l := l)
  rw [List.all_eq_true] at this
  exact this x (by rw [e]; exact hx)
set_option maxHeartbeats 1000000 in
theorem ref16_sum (a : Option Addr) (cap : Nat) (l : List Int) (w : World) (h : Ints w a cap l) (hl : l.length ≤ 1000) (hb : ∀ x ∈ l, 0 ≤ x ∧ x ≤ 1000) :
    Calls Try.prog 62 #[.slice a l.length cap] w fun e w' => e = .returned (.int .i64 l.sum) ∧ w = w' := by
  have hle := h.le
  have hmx := h.mx
  have HB := Lib.hid hb
  clear hb
  go_enter Try.func62, Try.ntmps62
  go_wp2
  go_loop [3, 4] (fun s i => ∃ k : Nat, k ≤ l.length ∧ i = .int .i64 k ∧ s = .int .i64 (l.take k).sum) (fun _ i => l.length - (intOf i).toNat)
  case atStart => exact ⟨0, Nat.zero_le _, rfl, rfl⟩
  case round =>
    obtain ⟨k, hk, rfl, rfl⟩ := hrel
    have hst := sum_le (l := l.take k) (fun x hx => HB.out x (List.mem_of_mem_take hx))
    rw [List.length_take, Nat.min_eq_left hk] at hst
    obtain ⟨st1, st2⟩ := hst
    by_cases hlt : k < l.length
    · obtain ⟨b, o, rfl⟩ := h.head hlt
      obtain ⟨x, hxk, hc, hx1, hx2⟩ := Ints.get h hlt
      obtain ⟨y1, y2⟩ := HB.out x (List.mem_of_getElem? hxk)
      have HT := Lib.hid (sum_take hxk)
      have g1 : (0 : Int) ≤ (k : Int) := by omega
      have g2 : (k : Int) < (l.length : Int) := by omega
      clear hxk
      generalize (l.take k).sum = s at *
      go_wp2
      go_round
      case rel => exact ⟨k + 1, by omega, by go_num, by rw [HT.out]⟩
      case measure => simp [intOf]; omega
    · obtain rfl : k = l.length := by omega
      rw [List.take_length] at *
      go_wp2
      go_ret
      exact ⟨rfl, rfl⟩
end Go.Proofs.Ytmcbbhlglccmgaa
