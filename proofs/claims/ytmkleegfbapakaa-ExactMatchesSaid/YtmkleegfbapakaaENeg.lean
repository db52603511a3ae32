import Derived.Test.YtmkleegfbapakaaELaw1
import Derived.Test.YtmkleegfbapakaaEOrdM
namespace Go.Proofs.Ytmkleegfbapakaa
open Go.RowKit Go BigFrame
set_option maxRecDepth 100000
set_option linter.unusedSimpArgs false

def NegP (l : List Int) (w : World) (e : Ending) (w' : World) : Prop := ∃ a cap, e = .returned (.slice a l.length cap) ∧ Ints w' a cap (l.map fun x => -x) ∧ Ext w w'
theorem ints_of_own {w : World} {B n : Nat} {v : Value} {l : List Int} (h : w.ownsRow B 3 1 v n (l.map (Value.int .i64))) (hn : l.length = n) (hl : ∀ x ∈ l, -9223372036854775808 ≤ x ∧ x ≤ 9223372036854775807) :
    ∃ a cap, v = .slice a n cap ∧ Ints w a cap l := by
  have h0 := h
  rcases h.2 with ⟨e, h1⟩ | ⟨g, cap, cur, e, _, hg, hn', hx, _⟩
  · have : n = 0 := h1
    subst this
    refine ⟨none, 0, e, by omega, by omega, fun _ => rfl, fun A hA => by cases hA⟩
  · subst e
    refine ⟨_, cap, rfl, by omega, by unfold maxLen at hx; exact hx, fun h => by (cases h), fun A hA i hi => ?_⟩
    cases hA
    refine ⟨rfl, .int .i64 l[i], ?_, rfl, hl _ (List.getElem_mem hi)⟩
    have := World.ownsRow.cellAt h0 i (by omega)
    simpa [hi] using this

set_option maxHeartbeats 1000000 in
theorem law_negative (a : Option Addr) (cap : Nat) (l : List Int) (w : World) (h : Ints w a cap l) (hn : l.length ≤ 100) (hb : ∀ x ∈ l, -1048576 ≤ x ∧ x ≤ 1048576) :
    Calls Try.prog 36 #[.slice a l.length cap] w (NegP l w) := by
  obtain ⟨i0, hi0, hz0, hz1, hz2⟩ := info_parts infoI
  have hle := h.le
  have hmx := h.mx
  have HI := Lib.hid h
  have HB := Lib.hid hb
  have hO : w.ownsRow w.heap.size 3 1 (.slice none 0 0) 0 [] := ⟨by simp, .inl ⟨rfl, rfl⟩⟩
  have HO := Lib.hid hO
  clear h hb hO
  go_enter Try.func36, Try.ntmps36
  go_wp2_with fail
  go_loopw [2, 7] (fun v i wr => ∃ k : Nat, k ≤ l.length ∧ i = .int .i64 k ∧ wr.ownsRow w.heap.size 3 1 v k (((l.take k).map fun x => -x).map (Value.int .i64)) ∧ Ext w wr) (fun _ i _ => l.length - (intOf i).toNat)
  case atStart => exact ⟨0, Nat.zero_le _, rfl, HO.out, Ext.refl _⟩
  case round =>
    clear HO
    obtain ⟨k, hk, rfl, hown, hxr⟩ := hrel
    by_cases hkn : k < l.length
    · obtain ⟨b, o, rfl, hc⟩ := (HI.out.ext hxr).at0 rfl hkn
      have ec := hc k hkn
      have hx := HB.out (l.getD k 0) (by simp only [List.getD, List.getElem?_eq_getElem hkn, Option.getD_some]; exact List.getElem_mem _)
      have hT := Lib.hid (take_snoc hkn)
      obtain ⟨x, ex⟩ : ∃ x, l.getD k 0 = x := ⟨_, rfl⟩
      rw [ex] at ec hx hT
      obtain ⟨x1, x2⟩ := hx
      have g1 : (0 : Int) ≤ (k : Int) := by omega
      have g2 : (k : Int) < (l.length : Int) := by omega
      have HOW := Lib.hid hown
      clear hc ex
      go_wp2_with (at_builtin; refine wpList_append_own_at _ rfl (.tmp 11) (.tmp 14) 39 rfl w.heap.size 3 i0 (.int .i64 0) 1 8 Try.underlying39 hi0 hz0 hz1 hz2 rfl (by decide) _ _ _ rfl (hown.alloc _) ⟨wr.heap.size, 0, none⟩ 1 1 [.int .i64 (-x)] rfl rfl (World.news_of_block (cs := #[.int .i64 (-x)]) (t := 3) (fr := (0, 0)) (heap_alloc_new wr _)) (by simp [Value.oneCell']) (by unfold maxLen; omega) (by omega) (by have := hxr.size; simp; omega) ?_; intro v2 w3 hown2 hgrow2 hnil2 hat2)
      have hE : Ext w w3 := Below.grown (hxr.alloc' (.cells #[.int .i64 (-x)] 3)) hgrow2 (by have := hxr.size; simp; omega) (fun j e => own_base HOW.out e)
      have hO2 : w3.ownsRow w.heap.size 3 1 v2 (k + 1) (((l.take (k + 1)).map fun x => -x).map (Value.int .i64)) := by rw [hT.out]; simpa using hown2
      have HO2 := Lib.hid hO2
      clear hown2 hgrow2 hnil2 hat2 hown hO2
      go_wp2_with fail
      go_roundw
      case rel => exact ⟨k + 1, by omega, by go_num, HO2.out, hE⟩
      case measure => simp [intOf]; omega
    · obtain rfl : k = l.length := by omega
      have hO2 := hown
      rw [List.take_length] at hO2
      obtain ⟨a2, cap2, rfl, hi2⟩ := ints_of_own hO2 (by simp) (fun x hx => by
        obtain ⟨y, hy, rfl⟩ := List.mem_map.1 hx
        have := HB.out y hy
        omega)
      have HI2 := Lib.hid hi2
      clear hown hO2 hi2
      go_wp2_with fail
      go_ret
      exact ⟨_, _, rfl, HI2.out, hxr⟩
theorem fact_bd {n : Nat} (h : n ≤ 8) : 1 ≤ fact n ∧ fact n ≤ 40320 := by
  have : ∀ n : Nat, n ≤ 8 → 1 ≤ fact n ∧ fact n ≤ 40320 := by decide
  exact this n h
set_option maxHeartbeats 1000000 in
theorem law_factorial (n : Nat) (w : World) (hn : n ≤ 8) : Calls Try.prog 37 #[.int .i64 n] w fun e w' => e = .returned (.int .i64 (fact n)) ∧ w = w' := by
  have HN := Lib.hid hn
  go_enter Try.func37, Try.ntmps37
  go_wp2_with fail
  go_loop [3, 4] (fun f i => ∃ k : Nat, (k ≤ n ∨ k = 1) ∧ 1 ≤ k ∧ i = .int .i64 ((k : Int) + 1) ∧ f = .int .i64 (fact k : Nat)) (fun _ i => n + 2 - (intOf i).toNat)
  case atStart => exact ⟨1, .inr rfl, Nat.le_refl _, rfl, rfl⟩
  case round =>
    obtain ⟨k, hk, hk1, rfl, rfl⟩ := hrel
    have hk8 : k ≤ 8 := by omega
    have hf := fact_bd hk8
    have hs : fact (k + 1) = (k + 1) * fact k := rfl
    by_cases hkn : k + 1 ≤ n
    · have d1 : decide ((k : Int) + 1 ≤ (n : Int)) = true := by simp; omega
      have hf2 := fact_bd (n := k + 1) (by omega)
      obtain ⟨F, hF⟩ : ∃ F : Int, ((fact k : Nat) : Int) = F := ⟨_, rfl⟩
      have hm : F * ((k : Int) + 1) = ((fact (k + 1) : Nat) : Int) := by rw [hs, ← hF]; simp [Int.mul_comm]
      have b1 : (-9223372036854775808 : Int) ≤ F * ((k : Int) + 1) := by rw [hm]; omega
      have b2 : F * ((k : Int) + 1) ≤ 9223372036854775807 := by rw [hm]; omega
      have HM := Lib.hid hm
      rw [hF]
      clear hs hm hF hf hf2 hk
      go_wp2_with fail
      go_round
      case rel => exact ⟨k + 1, .inl hkn, by omega, by go_num, by rw [HM.out]⟩
      case measure => simp [intOf]; omega
    · have d1 : decide ((k : Int) + 1 ≤ (n : Int)) = false := by simp; omega
      have he : fact k = fact n := by
        rcases hk with h | h
        · rw [show k = n by omega]
        · subst h
          have : n = 0 ∨ n = 1 := by omega
          rcases this with rfl | rfl <;> rfl
      rw [he]
      clear hs he hf
      go_wp2_with fail
      go_ret
      exact ⟨rfl, rfl⟩
end Go.Proofs.Ytmkleegfbapakaa
