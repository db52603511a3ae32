import Derived.Test.YtmkleegfbapakaaERef3
namespace Go.Proofs.Ytmkleegfbapakaa
open Go.RowKit Go BigFrame Go.Shelf
set_option maxRecDepth 100000
set_option linter.unusedSimpArgs false

/-- The increasing lists that begin with some, in the reference's way: f numbers more, from first on, below n. -/
def refL : Nat → List Int → Nat → Nat → List (List Int)
  | 0, b, _, _ => [b]
  | f + 1, b, first, n => (List.range (n - first)).flatMap fun i => refL f (b ++ [((first + i : Nat) : Int)]) (first + i + 1) n
def refLTo (f : Nat) (b : List Int) (first n k : Nat) : List (List Int) := (List.range k).flatMap fun i => refL f (b ++ [((first + i : Nat) : Int)]) (first + i + 1) n
theorem refLTo_succ (f : Nat) (b : List Int) (first n k : Nat) : refLTo f b first n (k + 1) = refLTo f b first n k ++ refL f (b ++ [((first + k : Nat) : Int)]) (first + k + 1) n := by simp [refLTo, List.range_succ]
theorem refL_le (n : Nat) : ∀ (f : Nat) (b : List Int) (first : Nat), (refL f b first n).length ≤ 2 ^ (n - first) := by
  intro f
  induction f with
  | zero => intro b first; simpa [refL] using Nat.one_le_two_pow
  | succ f ih =>
    intro b first
    have h : ∀ k, k ≤ n - first → (refLTo f b first n k).length + 2 ^ (n - first - k) ≤ 2 ^ (n - first) := by
      intro k
      induction k with
      | zero => intro _; simp [refLTo]
      | succ k ihk =>
        intro hk
        have h1 := ihk (by omega)
        have h2 := ih (b ++ [((first + k : Nat) : Int)]) (first + k + 1)
        rw [refLTo_succ, List.length_append]
        rw [show n - (first + k + 1) = n - first - (k + 1) by omega] at h2
        have e : 2 ^ (n - first - k) = 2 ^ (n - first - (k + 1)) + 2 ^ (n - first - (k + 1)) := by
          rw [show n - first - k = (n - first - (k + 1)) + 1 by omega, Nat.pow_succ]; omega
        omega
    have h1 := h (n - first) (Nat.le_refl _)
    have e : refL (f + 1) b first n = refLTo f b first n (n - first) := rfl
    rw [e]
    exact Nat.le_trans (Nat.le_add_right _ _) h1

theorem refLTo_mono (f : Nat) (b : List Int) (first n : Nat) {k d : Nat} (h : k ≤ d) : (refLTo f b first n k).length ≤ (refLTo f b first n d).length := by
  induction d with
  | zero => rw [show k = 0 by omega]; exact Nat.le_refl _
  | succ d ih =>
    rcases Nat.lt_or_ge k (d + 1) with h1 | h1
    · rw [refLTo_succ, List.length_append]; have := ih (by omega); omega
    · rw [show k = d + 1 by omega]; exact Nat.le_refl _

theorem ref_lists_end (n : Nat) (m : Nat) (a : Option Addr) (cap : Nat) (b : List Int) (w : World) (h : Ints w a cap b) (hb : b.length = m) (hA : ∀ A, a = some A → A.block < w.heap.size) :
    Calls Try.prog 62 #[.slice a m cap, .int .i64 n, .int .i64 m] w (OrdP [b] (Pbeg a w.heap.size) w) := by
  have hR : RowsF (w.alloc (.cells #[.slice a m cap] 39)) w.heap.size (.slice (some ⟨w.heap.size, 0, none⟩) 1 1) [b] (Pbeg a w.heap.size) := by
    refine ⟨by simp, [.slice a m cap], ⟨by simp, .inr ⟨w.heap.size, 1, #[.slice a m cap], rfl, Nat.le_refl _, heap_alloc_new w _, Nat.le_refl _, by unfold maxLen; omega, rfl, rfl⟩⟩, fun i hi => ?_⟩
    have : i = 0 := by simpa using hi
    subst this
    refine ⟨_, rfl, ⟨a, cap, by simp [hb], h.ext (Ext.alloc _ _)⟩, fun A m c e => ?_⟩
    simp only [Value.slice.injEq] at e
    have hlt := hA A e.1
    exact ⟨fun e2 => by simp only [Value.ownBlock, Option.some.injEq] at e2; omega, .inl ⟨A, e.1, rfl⟩, by simp; omega⟩
  have HR := Lib.hid hR
  clear hR h hb hA
  go_enter Try.func62, Try.ntmps62
  go_wp2_with fail
  go_ret
  exact ⟨_, rfl, HR.out, Ext.alloc _ _⟩

set_option maxHeartbeats 4000000 in
theorem ref_lists_some (n m : Nat) (hn : n ≤ 20) (f : Nat) (ih : ∀ (b : List Int) (first : Nat), b.length + f = m → b ≠ [] → b.getD (b.length - 1) 0 = (first : Int) - 1 → first ≤ n → ∀ (a : Option Addr) (cap : Nat) (w : World), Ints w a cap b → (∀ A, a = some A → A.block < w.heap.size) →
      Calls Try.prog 62 #[.slice a b.length cap, .int .i64 n, .int .i64 m] w (OrdP (refL f b first n) (Pbeg a w.heap.size) w))
    (b : List Int) (hb : b.length + (f + 1) = m) (hm : m ≤ n) (hb0 : b ≠ []) (first : Nat) (hfirst : b.getD (b.length - 1) 0 = (first : Int) - 1) (hfn : first ≤ n) (a : Option Addr) (cap : Nat) (w : World) (h : Ints w a cap b) :
    Calls Try.prog 62 #[.slice a b.length cap, .int .i64 n, .int .i64 m] w (OrdP (refL (f + 1) b first n) (Pbeg a w.heap.size) w) := by
  obtain ⟨i0, hi0, hz0, hz1, hz2⟩ := info_parts infoInt
  obtain ⟨i1, hi1, hy0, hy1, hy2⟩ := info_parts infoInts
  have hb1 : 0 < b.length := List.length_pos_iff.2 hb0
  have hb0 := Lib.hid hb0
  have hne : ((b.length : Int) == (m : Int)) = false := by simp; omega
  have hpo : decide ((0 : Int) < (b.length : Int)) = true := by simp; omega
  have hpo2 : decide (0 < b.length) = true := by simp; omega
  have hle := h.le
  have hmx := h.mx
  have HI := Lib.hid h
  have HIH := Lib.hid ih
  have hR0 : RowsF (w.alloc (.cells #[] 39)) w.heap.size (.slice (some ⟨w.heap.size, 0, none⟩) 0 0) [] (Pbeg a w.heap.size) :=
    ⟨by simp, [], ⟨by simp, .inr ⟨w.heap.size, 0, #[], rfl, Nat.le_refl _, heap_alloc_new w _, Nat.le_refl _, by unfold maxLen; omega, rfl, rfl⟩⟩, fun i hi => by simp at hi⟩
  have HR0 := Lib.hid hR0
  have hx0 := Ext.alloc w (.cells #[] 39)
  obtain ⟨bb, bo, rfl⟩ := h.head hb1
  have hca := (h.cell (i := b.length - 1) (by omega)).1
  have hcb : w.cell? ⟨bb, bo + (b.length - 1), none⟩ = some (.int .i64 ((first : Int) - 1)) := by rw [hca, ← hfirst]; simp [List.getD, show b.length - 1 < b.length by omega]
  obtain ⟨q, hq⟩ : ∃ q, b.length = q + 1 := ⟨b.length - 1, by omega⟩
  rw [show b.length - 1 = q by omega] at hcb
  have HQ := Lib.hid hq
  have g1 : (0 : Int) ≤ (q : Int) := by omega
  have g2 : (q : Int) < (b.length : Int) := by omega
  have g3 : (b.length : Int) - 1 = (q : Int) := by omega
  have HF := Lib.hid hfirst
  clear h ih hR0 hca hfirst hq
  go_enter Try.func62, Try.ntmps62
  go_upto_region 7 with fail
  clear hcb g1 g2 g3 hpo hpo2
  generalize w.alloc (.cells #[] 39) = w1 at *
  go_wp2_with fail
  go_loopw [8, 9] (fun v i wr => ∃ k : Nat, k ≤ n - first ∧ i = .int .i64 ((first + k : Nat) : Int) ∧ RowsF wr w.heap.size v (refLTo f b first n k) (Pbeg (some ⟨bb, bo, none⟩) w.heap.size) ∧ Ext w wr) (fun _ i _ => n - (intOf i).toNat)
  case atStart => exact ⟨0, Nat.zero_le _, by simp, HR0.out, hx0⟩
  case round =>
    obtain ⟨k, hk, rfl, hR, hxr⟩ := hrel
    clear hx0 HR0
    obtain ⟨g, cp, hv, hg1, hg2, hg3, hg4⟩ := hR.form
    subst hv
    obtain ⟨x, hx⟩ : ∃ x, first + k = x := ⟨_, rfl⟩
    have HX := Lib.hid hx
    rw [hx]
    by_cases hkn : x < n
    · have hRs := refLTo_succ f b first n k
      rw [hx] at hRs
      have HR := Lib.hid hR
      have hszr := hxr.size
      have hRL2 := refL_le n f (b ++ [(x : Int)]) (x + 1)
      have hRL : (refLTo f b first n k).length + (refL f (b ++ [(x : Int)]) (x + 1) n).length ≤ 2097152 := by
        have h1 := refL_le n (f + 1) b first
        have h2 : (refLTo f b first n (k + 1)).length ≤ 1048576 + 1048576 := by
          have h3 : (refLTo f b first n (n - first)).length ≤ 2 ^ (n - first) := h1
          have h4 : (2 : Nat) ^ (n - first) ≤ 2 ^ 20 := Nat.pow_le_pow_right (by omega) (by omega)
          have h5 : (2 : Nat) ^ 20 = 1048576 := by decide
          have h6 : (refLTo f b first n (k + 1)).length ≤ (refLTo f b first n (n - first)).length := refLTo_mono f _ _ n (by omega)
          omega
        rw [hRs, List.length_append] at h2
        omega
      have HRs := Lib.hid hRs
      clear hR hRs hRL2
      obtain ⟨L2, hL2⟩ : ∃ L, refL f (b ++ [(x : Int)]) (x + 1) n = L := ⟨_, rfl⟩
      have hih : ∀ (g2 cap2 : Nat) (W : World), Ints W (some ⟨g2, 0, none⟩) cap2 (b ++ [(x : Int)]) → g2 < W.heap.size →
          Calls Try.prog 62 #[.slice (some ⟨g2, 0, none⟩) (b.length + 1) cap2, .int .i64 n, .int .i64 m] W (OrdP L2 (Pbeg (some ⟨g2, 0, none⟩) W.heap.size) W) := fun g2 cap2 W hI hg => by
        have := HIH.out (b ++ [(x : Int)]) (x + 1) (by simp; omega) (by simp) (by simp [List.getD]) (by omega) (some ⟨g2, 0, none⟩) cap2 W hI (fun A hA => by cases hA; exact hg)
        rw [hL2] at this
        simpa using this
      rw [hL2] at HRs hRL
      have HIH2 := Lib.hid hih
      clear hih hL2 HIH
      generalize hL1 : refLTo f b first n k = L1 at *
      clear hL1
      have hown0 : (wr.alloc (.cells #[] 3)).ownsRow wr.heap.size 3 1 (.slice (some ⟨wr.heap.size, 0, none⟩) 0 0) 0 [] := ⟨by simp, .inr ⟨wr.heap.size, 0, #[], rfl, Nat.le_refl _, heap_alloc_new wr _, Nat.le_refl _, by unfold maxLen; omega, rfl, rfl⟩⟩
      have hbl : b.length ≤ 20 := by omega
      clear hx hk
      have hrng := HI.out.range
      have hI1 := HI.out.ext (hxr.alloc' (.cells #[] 3))
      go_wp2_with (first
        | (at_builtin; refine wpList_append_own_at _ rfl (.tmp 34) (.tmp 35) 39 rfl wr.heap.size 3 i0 (.int .i64 0) 1 8 Try.underlying39 hi0 hz0 hz1 hz2 rfl (by decide) (.slice (some ⟨wr.heap.size, 0, none⟩) 0 0) 0 [] rfl hown0 ⟨bb, bo, none⟩ b.length cap (b.map (Value.int .i64)) rfl (by simp) (hI1.news) (fun u hu => by obtain ⟨z, _, rfl⟩ := List.mem_map.1 hu; rfl) (by unfold maxLen; omega) (by omega) (by simp) ?_; intro v1 w2 hown1 hgrow1 _ hat1; have hs1 := hgrow1.size; simp only [World.size_alloc] at hs1; simp only [Nat.zero_add, List.nil_append] at hown1)
        | (at_builtin; refine wpList_append_own_at _ rfl (.tmp 36) (.tmp 38) 39 rfl wr.heap.size 3 i0 (.int .i64 0) 1 8 Try.underlying39 hi0 hz0 hz1 hz2 rfl (by decide) _ _ _ rfl (hown1.alloc _) ⟨w2.heap.size, 0, none⟩ 1 1 [.int .i64 (x : Int)] rfl rfl (World.news_of_block (cs := #[.int .i64 (x : Int)]) (t := 3) (fr := (0, 0)) (heap_alloc_new w2 _)) (by simp [Value.oneCell']) (by unfold maxLen; omega) (by omega) (by simp; omega) ?_; intro v2 w3 hown2 hgrow2 _ hat2; obtain ⟨g2, cap2, rfl⟩ := ownsRow_succ hown2; have hs2 := hgrow2.size; simp only [World.size_alloc] at hs2)
        | (go_at_call 62; refine (HIH2.out g2 cap2 _ (ints_of_owns (by simpa using hown2) (fun y hy => by rcases List.mem_append.1 hy with h | h; exact hrng y h; (simp at h; omega)) (by simp)) (by have h := hown2.form (by omega); obtain ⟨_, _, e, _, hlt⟩ := h; cases e; exact hlt)).mono ?_; rintro e w4 ⟨v3, rfl, hR3, hy3⟩; obtain ⟨g3, cp3, rfl, hb3, hg3, hn3, hm3⟩ := hR3.form; have hE2 := Below.grown (Ext.alloc wr (.cells #[] 3)) hgrow1 (by simp) (fun k e => by simp only [Value.ownBlock, Option.some.injEq] at e; omega); have hE3 := Below.grown (Ext.alloc' hE2 (.cells #[.int .i64 (x : Int)] 3)) hgrow2 (by simp; omega) (fun k e => owns_base hown1 e); have hE4 := Ext.trans hE3 hy3; have hg22 := owns_base hown2 (k := g2) rfl; obtain ⟨xs, hown, hxs⟩ := (HR.out.ext hE4).ex; obtain ⟨xs2, hown3, hxs2⟩ := hR3.ex; have HXS := Lib.hid hxs; have HXS2 := Lib.hid hxs2; have hs3 := hE3.size; have hs4 := hy3.size; clear hxs hxs2)
        | (at_builtin; refine wpList_append_own_at _ rfl (.tmp 33) (.tmp 42) 25 rfl w.heap.size 39 i1 (.slice none 0 0) 1 24 Try.underlying25 hi1 hy0 hy1 hy2 rfl (by decide) (.slice (some ⟨g, 0, none⟩) L1.length cp) L1.length xs rfl hown ⟨g3, 0, none⟩ L2.length cp3 xs2 rfl hown3.1 (news_of_owns hown3) (fun u hu => by obtain ⟨i, hi, rfl⟩ := List.getElem_of_mem hu; obtain ⟨y, e, ⟨a', c', e2, _⟩, _⟩ := HXS2.out i (by have := hown3.1; omega); rw [List.getElem?_eq_getElem hi, Option.some.injEq] at e; rw [e, e2]; rfl) (by unfold maxLen; omega) (by omega) (by omega) ?_; intro v5 w5 hown5 hgrow5 hnil5 hat5)
        )
      obtain ⟨gg, cc, hv5⟩ : ∃ gg cc, v5 = .slice gg (L1.length + L2.length) cc := by
        rcases hown5.2 with ⟨e, _⟩ | ⟨_, _, _, e, _⟩
        · exact absurd (hnil5.1 e).1 (by simp)
        · exact ⟨_, _, e⟩
      subst hv5
      have hJ := RowsF.join (Pb := Pbeg (some ⟨bb, bo, none⟩) w.heap.size) (L := L1) (L2 := L2) (by simp) (by simpa using hown.1) HXS.out (fun i hi => by
        obtain ⟨y, e, hr⟩ := HXS2.out i hi
        refine ⟨y, e, hr.re fun j hj => ?_⟩
        have : w3.heap.size ≤ j ∨ j = g2 := by
          rcases hj with ⟨A, hA, hj⟩ | hj
          · cases hA; exact .inr hj.symm
          · exact .inl hj
        exact ⟨fun e => by simp only [Value.ownBlock, Option.some.injEq] at e; omega, .inr (by omega)⟩) hown5 hgrow5 hnil5 hat5
      have HJ := Lib.hid hJ
      have hE5 : Ext w w5 := Below.grown (hxr.trans hE4) hgrow5 (by omega) (fun j e => owns_base hown e)
      clear hJ hown5 hgrow5 hnil5 hat5 hown3 hown hown2 hgrow2 hat2 hown1 hgrow1 hat1 hown0
      go_wp2_with fail
      go_roundw
      case rel => exact ⟨k + 1, by have := HX.out; omega, by have := HX.out; rw [show first + (k + 1) = x + 1 by omega]; go_num, by rw [HRs.out]; exact HJ.out, hE5⟩
      case measure => have := HX.out; simp [intOf]; omega
    · obtain rfl : k = n - first := by omega
      have HR := Lib.hid hR
      clear hR
      go_wp2_with fail
      go_ret
      exact ⟨_, rfl, HR.out, hxr⟩

set_option maxHeartbeats 4000000 in
theorem ref_lists_nil (n m : Nat) (hn : n ≤ 20) (f : Nat) (ih : ∀ (b : List Int) (first : Nat), b.length + f = m → b ≠ [] → b.getD (b.length - 1) 0 = (first : Int) - 1 → first ≤ n → ∀ (a : Option Addr) (cap : Nat) (w : World), Ints w a cap b → (∀ A, a = some A → A.block < w.heap.size) →
      Calls Try.prog 62 #[.slice a b.length cap, .int .i64 n, .int .i64 m] w (OrdP (refL f b first n) (Pbeg a w.heap.size) w))
    (hb : f + 1 = m) (hm : m ≤ n) (w : World) :
    Calls Try.prog 62 #[.slice none 0 0, .int .i64 n, .int .i64 m] w (OrdP (refL (f + 1) [] 0 n) (Pbeg none w.heap.size) w) := by
  obtain ⟨i0, hi0, hz0, hz1, hz2⟩ := info_parts infoInt
  obtain ⟨i1, hi1, hy0, hy1, hy2⟩ := info_parts infoInts
  have h : Ints w none 0 [] := ⟨Nat.le_refl _, by omega, fun _ => rfl, fun A hA => by cases hA⟩
  have hne : ((0 : Int) == (m : Int)) = false := by simp; omega
  have HI := Lib.hid h
  have HIH := Lib.hid ih
  have hR0 : RowsF (w.alloc (.cells #[] 39)) w.heap.size (.slice (some ⟨w.heap.size, 0, none⟩) 0 0) [] (Pbeg none w.heap.size) :=
    ⟨by simp, [], ⟨by simp, .inr ⟨w.heap.size, 0, #[], rfl, Nat.le_refl _, heap_alloc_new w _, Nat.le_refl _, by unfold maxLen; omega, rfl, rfl⟩⟩, fun i hi => by simp at hi⟩
  have HR0 := Lib.hid hR0
  have hx0 := Ext.alloc w (.cells #[] 39)
  clear h ih hR0
  go_enter Try.func62, Try.ntmps62
  go_upto_region 7 with fail
  generalize w.alloc (.cells #[] 39) = w1 at *
  go_wp2_with fail
  go_loopw [8, 9] (fun v i wr => ∃ k : Nat, k ≤ n - 0 ∧ i = .int .i64 ((0 + k : Nat) : Int) ∧ RowsF wr w.heap.size v (refLTo f [] 0 n k) (Pbeg none w.heap.size) ∧ Ext w wr) (fun _ i _ => n - (intOf i).toNat)
  case atStart => exact ⟨0, Nat.zero_le _, by simp, HR0.out, hx0⟩
  case round =>
    obtain ⟨k, hk, rfl, hR, hxr⟩ := hrel
    clear hx0 HR0
    obtain ⟨g, cp, hv, hg1, hg2, hg3, hg4⟩ := hR.form
    subst hv
    obtain ⟨x, hx⟩ : ∃ x, 0 + k = x := ⟨_, rfl⟩
    have HX := Lib.hid hx
    rw [hx]
    by_cases hkn : x < n
    · have hRs := refLTo_succ f [] 0 n k
      rw [hx] at hRs
      have HR := Lib.hid hR
      have hszr := hxr.size
      have hRL2 := refL_le n f ([] ++ [(x : Int)]) (x + 1)
      have hRL : (refLTo f [] 0 n k).length + (refL f ([] ++ [(x : Int)]) (x + 1) n).length ≤ 2097152 := by
        have h1 := refL_le n (f + 1) [] 0
        have h2 : (refLTo f [] 0 n (k + 1)).length ≤ 1048576 + 1048576 := by
          have h3 : (refLTo f [] 0 n (n - 0)).length ≤ 2 ^ (n - 0) := h1
          have h4 : (2 : Nat) ^ (n - 0) ≤ 2 ^ 20 := Nat.pow_le_pow_right (by omega) (by omega)
          have h5 : (2 : Nat) ^ 20 = 1048576 := by decide
          have h6 : (refLTo f [] 0 n (k + 1)).length ≤ (refLTo f [] 0 n (n - 0)).length := refLTo_mono f _ _ n (by omega)
          omega
        rw [hRs, List.length_append] at h2
        omega
      have HRs := Lib.hid hRs
      clear hR hRs hRL2
      obtain ⟨L2, hL2⟩ : ∃ L, refL f ([] ++ [(x : Int)]) (x + 1) n = L := ⟨_, rfl⟩
      have hih : ∀ (g2 cap2 : Nat) (W : World), Ints W (some ⟨g2, 0, none⟩) cap2 ([] ++ [(x : Int)]) → g2 < W.heap.size →
          Calls Try.prog 62 #[.slice (some ⟨g2, 0, none⟩) (0 + 1) cap2, .int .i64 n, .int .i64 m] W (OrdP L2 (Pbeg (some ⟨g2, 0, none⟩) W.heap.size) W) := fun g2 cap2 W hI hg => by
        have := HIH.out ([] ++ [(x : Int)]) (x + 1) (by simp; omega) (by simp) (by simp [List.getD]) (by omega) (some ⟨g2, 0, none⟩) cap2 W hI (fun A hA => by cases hA; exact hg)
        rw [hL2] at this
        simpa using this
      rw [hL2] at HRs hRL
      have HIH2 := Lib.hid hih
      clear hih hL2 HIH
      generalize hL1 : refLTo f [] 0 n k = L1 at *
      clear hL1
      have hown0 : (wr.alloc (.cells #[] 3)).ownsRow wr.heap.size 3 1 (.slice (some ⟨wr.heap.size, 0, none⟩) 0 0) 0 [] := ⟨by simp, .inr ⟨wr.heap.size, 0, #[], rfl, Nat.le_refl _, heap_alloc_new wr _, Nat.le_refl _, by unfold maxLen; omega, rfl, rfl⟩⟩
      have hbl : 0 ≤ 20 := by omega
      clear hx hk
      go_wp2_with (first
        | (at_builtin; refine wpList_append_own_none rfl (.tmp 34) (.tmp 35) 39 rfl wr.heap.size 3 i0 1 Try.underlying39 hi0 (.slice (some ⟨wr.heap.size, 0, none⟩) 0 0) 0 [] rfl hown0 rfl ?_)
        | (at_builtin; refine wpList_append_own_at _ rfl (.tmp 36) (.tmp 38) 39 rfl wr.heap.size 3 i0 (.int .i64 0) 1 8 Try.underlying39 hi0 hz0 hz1 hz2 rfl (by decide) _ _ _ rfl (hown0.alloc _) ⟨wr.heap.size + 1, 0, none⟩ 1 1 [.int .i64 (x : Int)] rfl rfl (World.news_of_block (cs := #[.int .i64 (x : Int)]) (t := 3) (fr := (0, 0)) (by have := heap_alloc_new (wr.alloc (.cells #[] 3)) (.cells #[.int .i64 (x : Int)] 3); simpa using this)) (by simp [Value.oneCell']) (by unfold maxLen; omega) (by omega) (by simp; omega) ?_; intro v2 w3 hown2 hgrow2 _ hat2; obtain ⟨g2, cap2, rfl⟩ := ownsRow_succ hown2; have hs2 := hgrow2.size; simp only [World.size_alloc] at hs2)
        | (go_at_call 62; refine (HIH2.out g2 cap2 _ (ints_of_owns (by simpa using hown2) (fun y hy => by simp at hy; omega) (by simp)) (by have h := hown2.form (by omega); obtain ⟨_, _, e, _, hlt⟩ := h; cases e; exact hlt)).mono ?_; rintro e w4 ⟨v3, rfl, hR3, hy3⟩; obtain ⟨g3, cp3, rfl, hb3, hg3, hn3, hm3⟩ := hR3.form; have hE2 := Ext.alloc wr (.cells #[] 3); have hE3 := Below.grown (Ext.alloc' hE2 (.cells #[.int .i64 (x : Int)] 3)) hgrow2 (by simp; omega) (fun k e => owns_base hown0 e); have hE4 := Ext.trans hE3 hy3; have hg22 := owns_base hown2 (k := g2) rfl; obtain ⟨xs, hown, hxs⟩ := (HR.out.ext hE4).ex; obtain ⟨xs2, hown3, hxs2⟩ := hR3.ex; have HXS := Lib.hid hxs; have HXS2 := Lib.hid hxs2; have hs3 := hE3.size; have hs4 := hy3.size; clear hxs hxs2)
        | (at_builtin; refine wpList_append_own_at _ rfl (.tmp 33) (.tmp 42) 25 rfl w.heap.size 39 i1 (.slice none 0 0) 1 24 Try.underlying25 hi1 hy0 hy1 hy2 rfl (by decide) (.slice (some ⟨g, 0, none⟩) L1.length cp) L1.length xs rfl hown ⟨g3, 0, none⟩ L2.length cp3 xs2 rfl hown3.1 (news_of_owns hown3) (fun u hu => by obtain ⟨i, hi, rfl⟩ := List.getElem_of_mem hu; obtain ⟨y, e, ⟨a', c', e2, _⟩, _⟩ := HXS2.out i (by have := hown3.1; omega); rw [List.getElem?_eq_getElem hi, Option.some.injEq] at e; rw [e, e2]; rfl) (by unfold maxLen; omega) (by omega) (by omega) ?_; intro v5 w5 hown5 hgrow5 hnil5 hat5)
        )
      obtain ⟨gg, cc, hv5⟩ : ∃ gg cc, v5 = .slice gg (L1.length + L2.length) cc := by
        rcases hown5.2 with ⟨e, _⟩ | ⟨_, _, _, e, _⟩
        · exact absurd (hnil5.1 e).1 (by simp)
        · exact ⟨_, _, e⟩
      subst hv5
      have hJ := RowsF.join (Pb := Pbeg none w.heap.size) (L := L1) (L2 := L2) (by simp) (by simpa using hown.1) HXS.out (fun i hi => by
        obtain ⟨y, e, hr⟩ := HXS2.out i hi
        refine ⟨y, e, hr.re fun j hj => ?_⟩
        have : w3.heap.size ≤ j ∨ j = g2 := by
          rcases hj with ⟨A, hA, hj⟩ | hj
          · cases hA; exact .inr hj.symm
          · exact .inl hj
        exact ⟨fun e => by simp only [Value.ownBlock, Option.some.injEq] at e; omega, .inr (by omega)⟩) hown5 hgrow5 hnil5 hat5
      have HJ := Lib.hid hJ
      have hE5 : Ext w w5 := Below.grown (hxr.trans hE4) hgrow5 (by omega) (fun j e => owns_base hown e)
      clear hJ hown5 hgrow5 hnil5 hat5 hown3 hown hown2 hgrow2 hat2 hown0
      go_wp2_with fail
      go_roundw
      case rel => exact ⟨k + 1, by have := HX.out; omega, by have := HX.out; rw [show 0 + (k + 1) = x + 1 by omega]; go_num, by rw [HRs.out]; exact HJ.out, hE5⟩
      case measure => have := HX.out; simp [intOf]; omega
    · obtain rfl : k = n - 0 := by omega
      have HR := Lib.hid hR
      clear hR
      go_wp2_with fail
      go_ret
      exact ⟨_, rfl, HR.out, hxr⟩

theorem ref_Lists (n m : Nat) (hn : n ≤ 20) (hm : m ≤ n) : ∀ (f : Nat) (b : List Int) (first : Nat), b.length + f = m → b ≠ [] → b.getD (b.length - 1) 0 = (first : Int) - 1 → first ≤ n → ∀ (a : Option Addr) (cap : Nat) (w : World), Ints w a cap b → (∀ A, a = some A → A.block < w.heap.size) →
      Calls Try.prog 62 #[.slice a b.length cap, .int .i64 n, .int .i64 m] w (OrdP (refL f b first n) (Pbeg a w.heap.size) w) := by
  intro f
  induction f with
  | zero =>
    intro b first hb hb0 hf hfn a cap w h hA
    have := ref_lists_end n m a cap b w h (by omega) hA
    rw [show m = b.length by omega] at this ⊢
    exact this
  | succ f ih =>
    intro b first hb hb0 hf hfn a cap w h hA
    exact ref_lists_some n m hn f ih b hb hm hb0 first hf hfn a cap w h
theorem ref_Lists_all (n m : Nat) (hn : n ≤ 20) (hm : m ≤ n) (w : World) : Calls Try.prog 62 #[.slice none 0 0, .int .i64 n, .int .i64 m] w (OrdP (refL m [] 0 n) (Pbeg none w.heap.size) w) := by
  cases m with
  | zero => exact ref_lists_end n 0 none 0 [] w ⟨Nat.le_refl _, by omega, fun _ => rfl, fun A hA => by cases hA⟩ rfl (fun A hA => by cases hA)
  | succ f => exact ref_lists_nil n (f + 1) hn f (fun b first h1 h2 h3 h4 => ref_Lists n (f + 1) hn hm f b first h1 h2 h3 h4) rfl hm w
end Go.Proofs.Ytmkleegfbapakaa
