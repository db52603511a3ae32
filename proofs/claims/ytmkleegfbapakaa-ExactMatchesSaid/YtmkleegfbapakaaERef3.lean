import Derived.Test.YtmkleegfbapakaaERef2
import Derived.Test.YtmkleegfbapakaaEOrd
namespace Go.Proofs.Ytmkleegfbapakaa
open Go.RowKit Go BigFrame Go.Shelf
set_option maxRecDepth 100000
set_option linter.unusedSimpArgs false

theorem infoInts : (Try.prog.info? 39).map (fun i => (i.zero, i.size, i.bytes)) = some (some (.slice none 0 0), 1, 24) := by kernel_rfl

def OrdP (L : List (List Int)) (Pb : Nat → Prop) (w : World) (e : Ending) (w' : World) : Prop := ∃ v, e = .returned v ∧ RowsF w' w.heap.size v L Pb ∧ Ext w w'
def Pbeg (a : Option Addr) (h : Nat) (k : Nat) : Prop := (∃ A, a = some A ∧ A.block = k) ∨ h ≤ k

theorem ref_orders_end (n : Nat) (a : Option Addr) (cap : Nat) (b : List Int) (w : World) (h : Ints w a cap b) (hb : b.length = n) (hA : ∀ A, a = some A → A.block < w.heap.size) :
    Calls Try.prog 82 #[.slice a n cap, .int .i64 n] w (OrdP [b] (Pbeg a w.heap.size) w) := by
  have hR : RowsF (w.alloc (.cells #[.slice a n cap] 39)) w.heap.size (.slice (some ⟨w.heap.size, 0, none⟩) 1 1) [b] (Pbeg a w.heap.size) := by
    refine ⟨by simp, [.slice a n cap], ⟨by simp, .inr ⟨w.heap.size, 1, #[.slice a n cap], rfl, Nat.le_refl _, heap_alloc_new w _, Nat.le_refl _, by unfold maxLen; omega, rfl, rfl⟩⟩, fun i hi => ?_⟩
    have : i = 0 := by simpa using hi
    subst this
    refine ⟨_, rfl, ⟨a, cap, by simp [hb], h.ext (Ext.alloc _ _)⟩, fun A m c e => ?_⟩
    simp only [Value.slice.injEq] at e
    have hlt := hA A e.1
    exact ⟨fun e2 => by simp only [Value.ownBlock, Option.some.injEq] at e2; omega, .inl ⟨A, e.1, rfl⟩, by simp; omega⟩
  have HR := Lib.hid hR
  clear hR h hb hA
  go_enter Try.func82, Try.ntmps82
  go_wp2_with fail
  go_ret
  exact ⟨_, rfl, HR.out, Ext.alloc _ _⟩

theorem ints_of_owns {w : World} {B g cap m : Nat} {l : List Int} (h : w.ownsRow B 3 1 (.slice (some ⟨g, 0, none⟩) m cap) m (l.map (Value.int .i64))) (hl : ∀ x ∈ l, -9223372036854775808 ≤ x ∧ x ≤ 9223372036854775807) (hm : l.length = m) : Ints w (some ⟨g, 0, none⟩) cap l := by
  have h0 := h
  rcases h0.2 with ⟨e, _⟩ | ⟨g', cap', cur, e, _, hg, hn, hx, _⟩
  · cases e
  · simp only [Value.slice.injEq, Option.some.injEq, Addr.mk.injEq, and_true, true_and] at e
    obtain ⟨rfl, rfl⟩ := e
    refine ⟨by omega, by unfold maxLen at hx; exact hx, fun h => by (cases h), fun A hA i hi => ?_⟩
    cases hA
    refine ⟨rfl, .int .i64 l[i], ?_, rfl, hl _ (List.getElem_mem hi)⟩
    have := World.ownsRow.cellAt h i (by omega)
    simpa [hi] using this
theorem Ints.news {w : World} {bb o cap : Nat} {l : List Int} (h : Ints w (some ⟨bb, o, none⟩) cap l) : ∀ j u, (l.map (Value.int .i64))[j]? = some u → w.cell? ((⟨bb, o, none⟩ : Addr).add j) = some u := fun j u hu => by
  obtain ⟨hj, e⟩ := List.getElem?_eq_some_iff.1 hu
  simp only [List.length_map] at hj
  have := (h.cell hj).1
  rw [show (⟨bb, o, none⟩ : Addr).add j = ⟨bb, o + j, none⟩ by unfold Addr.add; split <;> simp_all, this, ← e]
  simp
theorem Ints.range {w : World} {a : Option Addr} {cap : Nat} {l : List Int} (h : Ints w a cap l) : ∀ x ∈ l, -9223372036854775808 ≤ x ∧ x ≤ 9223372036854775807 := fun x hx => by
  obtain ⟨i, hi, rfl⟩ := List.getElem_of_mem hx
  obtain ⟨b, o, rfl⟩ := h.head hi
  exact (h.cell hi).2

theorem owns_base {w : World} {base : Nat} {e : TypeId} {s n : Nat} {v : Value} {xs : List Value} (h : w.ownsRow base e s v n xs) {k : Nat} (hk : v.ownBlock = some k) : base ≤ k := by
  rcases h.2 with ⟨rfl, _⟩ | ⟨g, cap, cur, rfl, hb, _⟩
  · cases hk
  · cases hk; exact hb
theorem Row1.re {w : World} {v v' x : Value} {Pb Pb' : Nat → Prop} {l : List Int} (h : Row1 w v Pb x l) (hp : ∀ k, Pb k → v'.ownBlock ≠ some k ∧ Pb' k) : Row1 w v' Pb' x l :=
  ⟨h.1, fun A n c e => ⟨(hp _ (h.2 A n c e).2.1).1, (hp _ (h.2 A n c e).2.1).2, (h.2 A n c e).2.2⟩⟩
theorem news_of_owns {w : World} {B g cap m : Nat} {e : TypeId} {xs : List Value} (h : w.ownsRow B e 1 (.slice (some ⟨g, 0, none⟩) m cap) m xs) : ∀ j u, xs[j]? = some u → w.cell? ((⟨g, 0, none⟩ : Addr).add j) = some u := fun j u hu => by
  obtain ⟨hj, _⟩ := List.getElem?_eq_some_iff.1 hu
  have hl : xs.length = m := by simpa using h.1
  rw [show (⟨g, 0, none⟩ : Addr).add j = ⟨g, j, none⟩ by unfold Addr.add; split <;> simp_all, World.ownsRow.cellAt h j (by omega), hu]

set_option maxHeartbeats 4000000 in
theorem ref_orders_some (n : Nat) (hn : n ≤ 8) (f : Nat) (ih : ∀ (b : List Int), b.length + f = n → ∀ (a : Option Addr) (cap : Nat) (w : World), Ints w a cap b → (∀ A, a = some A → A.block < w.heap.size) → (b = [] → a = none ∧ cap = 0) →
      Calls Try.prog 82 #[.slice a b.length cap, .int .i64 n] w (OrdP (refgen f b n) (Pbeg a w.heap.size) w))
    (b : List Int) (hb : b.length + (f + 1) = n) (hb0 : b ≠ []) (a : Option Addr) (cap : Nat) (w : World) (h : Ints w a cap b) :
    Calls Try.prog 82 #[.slice a b.length cap, .int .i64 n] w (OrdP (refgen (f + 1) b n) (Pbeg a w.heap.size) w) := by
  obtain ⟨i0, hi0, hz0, hz1, hz2⟩ := info_parts infoInt
  obtain ⟨i1, hi1, hy0, hy1, hy2⟩ := info_parts infoInts
  have hb0 := Lib.hid hb0
  have hne : ((b.length : Int) == (n : Int)) = false := by simp; omega
  have hle := h.le
  have hmx := h.mx
  have HI := Lib.hid h
  have HIH := Lib.hid ih
  have hR0 : RowsF (w.alloc (.cells #[] 39)) w.heap.size (.slice (some ⟨w.heap.size, 0, none⟩) 0 0) [] (Pbeg a w.heap.size) :=
    ⟨by simp, [], ⟨by simp, .inr ⟨w.heap.size, 0, #[], rfl, Nat.le_refl _, heap_alloc_new w _, Nat.le_refl _, by unfold maxLen; omega, rfl, rfl⟩⟩, fun i hi => by simp at hi⟩
  have HR0 := Lib.hid hR0
  have hx0 := Ext.alloc w (.cells #[] 39)
  clear h ih hR0
  go_enter Try.func82, Try.ntmps82
  go_upto_region 4 with fail
  generalize w.alloc (.cells #[] 39) = w1 at *
  go_wp2_with fail
  go_loopw [5, 6] (fun v i wr => ∃ k : Nat, k ≤ n ∧ i = .int .i64 k ∧ RowsF wr w.heap.size v (refTo f b n k) (Pbeg a w.heap.size) ∧ Ext w wr) (fun _ i _ => n - (intOf i).toNat)
  case atStart => exact ⟨0, Nat.zero_le _, rfl, HR0.out, hx0⟩
  case round =>
    obtain ⟨k, hk, rfl, hR, hxr⟩ := hrel
    clear hx0 HR0
    obtain ⟨g, cp, hv, hg1, hg2, hg3, hg4⟩ := hR.form
    subst hv
    by_cases hkn : k < n
    · have hRs := refTo_succ f b n k
      have hHas := ref37_has a cap b (k : Int) wr (HI.out.ext hxr)
      have HR := Lib.hid hR
      have HRs := Lib.hid hRs
      clear hR hRs
      by_cases hmem : (k : Int) ∈ b
      · rw [decide_eq_true hmem] at hHas
        have HRs := HRs.out
        rw [if_pos hmem, List.append_nil] at HRs
        have HRs := Lib.hid HRs
        have HH := Lib.hid hHas
        clear hHas hmem
        go_wp2_with (go_at_call 101; refine HH.out.mono ?_; rintro e w' ⟨rfl, rfl⟩)
        go_roundw
        case rel => exact ⟨k + 1, by omega, by go_num, by rw [HRs.out]; exact HR.out, hxr⟩
        case measure => simp [intOf]; omega
      · rw [decide_eq_false hmem] at hHas
        have HRs := HRs.out
        rw [if_neg hmem] at HRs
        have HRs := Lib.hid HRs
        have HH := Lib.hid hHas
        have HM := Lib.hid hmem
        clear hHas hmem
        have hszr := hxr.size
        have hrng := HI.out.range
        have hRL := refTo_le (f := f) (b := b) (n := n) (N := 8 ^ f) (fun x => refgen_le hn f _) k
        have hRL2 := refgen_le hn f (b ++ [(k : Int)])
        have h8 : 8 ^ f ≤ 8 ^ 8 := Nat.pow_le_pow_right (by omega) (by omega)
        have h9 : k * 8 ^ f ≤ 8 * 8 ^ f := Nat.mul_le_mul_right _ (by omega)
        have hbound : (refTo f b n k).length + (refgen f (b ++ [(k : Int)]) n).length ≤ 200000000 := by
          have : (8 : Nat) ^ 8 = 16777216 := by decide
          omega
        obtain ⟨L2, hL2⟩ : ∃ L, refgen f (b ++ [(k : Int)]) n = L := ⟨_, rfl⟩
        have hih : ∀ (g2 cap2 : Nat) (W : World), Ints W (some ⟨g2, 0, none⟩) cap2 (b ++ [(k : Int)]) → g2 < W.heap.size →
            Calls Try.prog 82 #[.slice (some ⟨g2, 0, none⟩) (b.length + 1) cap2, .int .i64 n] W (OrdP L2 (Pbeg (some ⟨g2, 0, none⟩) W.heap.size) W) := fun g2 cap2 W hI hg => by
          have := HIH.out (b ++ [(k : Int)]) (by simp; omega) (some ⟨g2, 0, none⟩) cap2 W hI (fun A hA => by cases hA; exact hg) (fun h => by simp at h)
          rw [hL2] at this
          simpa using this
        rw [hL2] at HRs hbound
        have HIH2 := Lib.hid hih
        clear hih hL2 hRL hRL2 h8 h9 HIH
        generalize hL1 : refTo f b n k = L1 at *
        clear hL1
        have hown0 : (wr.alloc (.cells #[] 3)).ownsRow wr.heap.size 3 1 (.slice (some ⟨wr.heap.size, 0, none⟩) 0 0) 0 [] := ⟨by simp, .inr ⟨wr.heap.size, 0, #[], rfl, Nat.le_refl _, heap_alloc_new wr _, Nat.le_refl _, by unfold maxLen; omega, rfl, rfl⟩⟩
        have hbl : b.length ≤ 8 := by omega
        obtain ⟨bb, bo, ha⟩ := HI.out.head (i := 0) (by have h := hb0.out; cases b; exact absurd rfl h; simp)
        subst ha
        have hI1 := HI.out.ext (hxr.alloc' (.cells #[] 3))
        go_wp2_with (first
          | (go_at_call 101; refine HH.out.mono ?_; rintro e w' ⟨rfl, rfl⟩)
          | (at_builtin; refine wpList_append_own_at _ rfl (.tmp 24) (.tmp 25) 39 rfl wr.heap.size 3 i0 (.int .i64 0) 1 8 Try.underlying39 hi0 hz0 hz1 hz2 rfl (by decide) (.slice (some ⟨wr.heap.size, 0, none⟩) 0 0) 0 [] rfl hown0 ⟨bb, bo, none⟩ b.length cap (b.map (Value.int .i64)) rfl (by simp) (hI1.news) (fun u hu => by obtain ⟨z, _, rfl⟩ := List.mem_map.1 hu; rfl) (by unfold maxLen; omega) (by omega) (by simp) ?_; intro v1 w2 hown1 hgrow1 _ hat1; have hs1 := hgrow1.size; simp only [World.size_alloc] at hs1; simp only [Nat.zero_add, List.nil_append] at hown1)
          | (at_builtin; refine wpList_append_own_at _ rfl (.tmp 26) (.tmp 28) 39 rfl wr.heap.size 3 i0 (.int .i64 0) 1 8 Try.underlying39 hi0 hz0 hz1 hz2 rfl (by decide) _ _ _ rfl (hown1.alloc _) ⟨w2.heap.size, 0, none⟩ 1 1 [.int .i64 (k : Int)] rfl rfl (World.news_of_block (cs := #[.int .i64 (k : Int)]) (t := 3) (fr := (0, 0)) (heap_alloc_new w2 _)) (by simp [Value.oneCell']) (by unfold maxLen; omega) (by omega) (by simp; omega) ?_; intro v2 w3 hown2 hgrow2 _ hat2; obtain ⟨g2, cap2, rfl⟩ := ownsRow_succ hown2; have hs2 := hgrow2.size; simp only [World.size_alloc] at hs2)
          | (go_at_call 82; refine (HIH2.out g2 cap2 _ (ints_of_owns (by simpa using hown2) (fun x hx => by rcases List.mem_append.1 hx with h | h; exact hrng x h; (simp at h; omega)) (by simp)) (by have h := hown2.form (by omega); obtain ⟨_, _, e, _, hlt⟩ := h; cases e; exact hlt)).mono ?_; rintro e w4 ⟨v3, rfl, hR3, hy3⟩; obtain ⟨g3, cp3, rfl, hb3, hg3, hn3, hm3⟩ := hR3.form; have hE2 := Below.grown (Ext.alloc wr (.cells #[] 3)) hgrow1 (by simp) (fun k e => by simp only [Value.ownBlock, Option.some.injEq] at e; omega); have hE3 := Below.grown (Ext.alloc' hE2 (.cells #[.int .i64 (k : Int)] 3)) hgrow2 (by simp; omega) (fun k e => owns_base hown1 e); have hE4 := Ext.trans hE3 hy3; have hg22 := owns_base hown2 (k := g2) rfl; obtain ⟨xs, hown, hxs⟩ := (HR.out.ext hE4).ex; obtain ⟨xs2, hown3, hxs2⟩ := hR3.ex; have HXS := Lib.hid hxs; have HXS2 := Lib.hid hxs2; have hs3 := hE3.size; have hs4 := hy3.size; clear hxs hxs2)
          | (at_builtin; refine wpList_append_own_at _ rfl (.tmp 23) (.tmp 31) 25 rfl w.heap.size 39 i1 (.slice none 0 0) 1 24 Try.underlying25 hi1 hy0 hy1 hy2 rfl (by decide) (.slice (some ⟨g, 0, none⟩) L1.length cp) L1.length xs rfl hown ⟨g3, 0, none⟩ L2.length cp3 xs2 rfl hown3.1 (news_of_owns hown3) (fun u hu => by obtain ⟨i, hi, rfl⟩ := List.getElem_of_mem hu; obtain ⟨x, e, ⟨a', c', e2, _⟩, _⟩ := HXS2.out i (by have := hown3.1; omega); rw [List.getElem?_eq_getElem hi, Option.some.injEq] at e; rw [e, e2]; rfl) (by unfold maxLen; omega) (by omega) (by omega) ?_; intro v5 w5 hown5 hgrow5 hnil5 hat5)
          )
        obtain ⟨gg, cc, hv5⟩ : ∃ gg cc, v5 = .slice gg (L1.length + L2.length) cc := by
          rcases hown5.2 with ⟨e, _⟩ | ⟨_, _, _, e, _⟩
          · exact absurd (hnil5.1 e).1 (by simp)
          · exact ⟨_, _, e⟩
        subst hv5
        have hJ := RowsF.join (Pb := Pbeg (some ⟨bb, bo, none⟩) w.heap.size) (L := L1) (L2 := L2) (by simp) (by simpa using hown.1) HXS.out (fun i hi => by
          obtain ⟨x, e, hr⟩ := HXS2.out i hi
          refine ⟨x, e, hr.re fun j hj => ?_⟩
          have : w3.heap.size ≤ j ∨ j = g2 := by
            rcases hj with ⟨A, hA, hj⟩ | hj
            · cases hA; exact .inr hj.symm
            · exact .inl hj
          exact ⟨fun e => by simp only [Value.ownBlock, Option.some.injEq] at e; omega, .inr (by omega)⟩) hown5 hgrow5 hnil5 hat5
        have HJ := Lib.hid hJ
        have hE5 : Ext w w5 := Below.grown (hxr.trans hE4) hgrow5 (by omega) (fun j e => owns_base hown e)
        clear hJ hown5 hgrow5 hnil5 hat5 hown3 hown hown2 hgrow2 hat2 hown1 hgrow1 hat1 hown0
        go_wp2_with fail
        go_roundw
        case rel => exact ⟨k + 1, by omega, by go_num, by rw [HRs.out]; exact HJ.out, hE5⟩
        case measure => simp [intOf]; omega
    · obtain rfl : k = n := by omega
      have HR := Lib.hid hR
      clear hR
      go_wp2_with fail
      go_ret
      exact ⟨_, rfl, HR.out, hxr⟩

set_option maxHeartbeats 4000000 in
theorem ref_orders_nil (n : Nat) (hn : n ≤ 8) (f : Nat) (ih : ∀ (b : List Int), b.length + f = n → ∀ (a : Option Addr) (cap : Nat) (w : World), Ints w a cap b → (∀ A, a = some A → A.block < w.heap.size) → (b = [] → a = none ∧ cap = 0) →
      Calls Try.prog 82 #[.slice a b.length cap, .int .i64 n] w (OrdP (refgen f b n) (Pbeg a w.heap.size) w))
    (hb : f + 1 = n) (w : World) :
    Calls Try.prog 82 #[.slice none 0 0, .int .i64 n] w (OrdP (refgen (f + 1) [] n) (Pbeg none w.heap.size) w) := by
  obtain ⟨i0, hi0, hz0, hz1, hz2⟩ := info_parts infoInt
  obtain ⟨i1, hi1, hy0, hy1, hy2⟩ := info_parts infoInts
  have h : Ints w none 0 [] := ⟨Nat.le_refl _, by omega, fun _ => rfl, fun A hA => by cases hA⟩
  have hne : ((0 : Int) == (n : Int)) = false := by simp; omega
  have hle := h.le
  have hmx := h.mx
  have HI := Lib.hid h
  have HIH := Lib.hid ih
  have hR0 : RowsF (w.alloc (.cells #[] 39)) w.heap.size (.slice (some ⟨w.heap.size, 0, none⟩) 0 0) [] (Pbeg none w.heap.size) :=
    ⟨by simp, [], ⟨by simp, .inr ⟨w.heap.size, 0, #[], rfl, Nat.le_refl _, heap_alloc_new w _, Nat.le_refl _, by unfold maxLen; omega, rfl, rfl⟩⟩, fun i hi => by simp at hi⟩
  have HR0 := Lib.hid hR0
  have hx0 := Ext.alloc w (.cells #[] 39)
  clear h ih hR0
  go_enter Try.func82, Try.ntmps82
  go_upto_region 4 with fail
  generalize w.alloc (.cells #[] 39) = w1 at *
  go_wp2_with fail
  go_loopw [5, 6] (fun v i wr => ∃ k : Nat, k ≤ n ∧ i = .int .i64 k ∧ RowsF wr w.heap.size v (refTo f [] n k) (Pbeg none w.heap.size) ∧ Ext w wr) (fun _ i _ => n - (intOf i).toNat)
  case atStart => exact ⟨0, Nat.zero_le _, rfl, HR0.out, hx0⟩
  case round =>
    obtain ⟨k, hk, rfl, hR, hxr⟩ := hrel
    clear hx0 HR0
    obtain ⟨g, cp, hv, hg1, hg2, hg3, hg4⟩ := hR.form
    subst hv
    by_cases hkn : k < n
    · have hRs := refTo_succ f [] n k
      have hHas := ref37_has none 0 [] (k : Int) wr (HI.out.ext hxr)
      have HR := Lib.hid hR
      have HRs := Lib.hid hRs
      clear hR hRs
      by_cases hmem : (k : Int) ∈ ([] : List Int)
      · exact absurd hmem (by simp)
      · rw [decide_eq_false hmem] at hHas
        have HRs := HRs.out
        rw [if_neg hmem, List.nil_append] at HRs
        have HRs := Lib.hid HRs
        have HH := Lib.hid hHas
        have HM := Lib.hid hmem
        clear hHas hmem
        have hszr := hxr.size
        have hrng := HI.out.range
        have hRL := refTo_le (f := f) (b := []) (n := n) (N := 8 ^ f) (fun x => refgen_le hn f _) k
        have hRL2 := refgen_le hn f [(k : Int)]
        have h8 : 8 ^ f ≤ 8 ^ 8 := Nat.pow_le_pow_right (by omega) (by omega)
        have h9 : k * 8 ^ f ≤ 8 * 8 ^ f := Nat.mul_le_mul_right _ (by omega)
        have hbound : (refTo f [] n k).length + (refgen f [(k : Int)] n).length ≤ 200000000 := by
          have : (8 : Nat) ^ 8 = 16777216 := by decide
          omega
        obtain ⟨L2, hL2⟩ : ∃ L, refgen f [(k : Int)] n = L := ⟨_, rfl⟩
        have hih : ∀ (g2 cap2 : Nat) (W : World), Ints W (some ⟨g2, 0, none⟩) cap2 [(k : Int)] → g2 < W.heap.size →
            Calls Try.prog 82 #[.slice (some ⟨g2, 0, none⟩) (0 + 1) cap2, .int .i64 n] W (OrdP L2 (Pbeg (some ⟨g2, 0, none⟩) W.heap.size) W) := fun g2 cap2 W hI hg => by
          have := HIH.out [(k : Int)] (by simp; omega) (some ⟨g2, 0, none⟩) cap2 W hI (fun A hA => by cases hA; exact hg) (fun h => by simp at h)
          rw [hL2] at this
          simpa using this
        rw [hL2] at HRs hbound
        have HIH2 := Lib.hid hih
        clear hih hL2 hRL hRL2 h8 h9 HIH
        generalize hL1 : refTo f [] n k = L1 at *
        clear hL1
        have hown0 : (wr.alloc (.cells #[] 3)).ownsRow wr.heap.size 3 1 (.slice (some ⟨wr.heap.size, 0, none⟩) 0 0) 0 [] := ⟨by simp, .inr ⟨wr.heap.size, 0, #[], rfl, Nat.le_refl _, heap_alloc_new wr _, Nat.le_refl _, by unfold maxLen; omega, rfl, rfl⟩⟩
        have hbl : 0 ≤ 8 := by omega
        go_wp2_with (first
          | (go_at_call 101; refine HH.out.mono ?_; rintro e w' ⟨rfl, rfl⟩)
          | (at_builtin; refine wpList_append_own_none rfl (.tmp 24) (.tmp 25) 39 rfl wr.heap.size 3 i0 1 Try.underlying39 hi0 (.slice (some ⟨wr.heap.size, 0, none⟩) 0 0) 0 [] rfl hown0 rfl ?_)
          | (at_builtin; refine wpList_append_own_at _ rfl (.tmp 26) (.tmp 28) 39 rfl wr.heap.size 3 i0 (.int .i64 0) 1 8 Try.underlying39 hi0 hz0 hz1 hz2 rfl (by decide) _ _ _ rfl (hown0.alloc _) ⟨wr.heap.size + 1, 0, none⟩ 1 1 [.int .i64 (k : Int)] rfl rfl (World.news_of_block (cs := #[.int .i64 (k : Int)]) (t := 3) (fr := (0, 0)) (by have := heap_alloc_new (wr.alloc (.cells #[] 3)) (.cells #[.int .i64 (k : Int)] 3); simpa using this)) (by simp [Value.oneCell']) (by unfold maxLen; omega) (by omega) (by simp; omega) ?_; intro v2 w3 hown2 hgrow2 _ hat2; obtain ⟨g2, cap2, rfl⟩ := ownsRow_succ hown2; have hs2 := hgrow2.size; simp only [World.size_alloc] at hs2)
          | (go_at_call 82; refine (HIH2.out g2 cap2 _ (ints_of_owns (by simpa using hown2) (fun x hx => by simp at hx; omega) (by simp)) (by have h := hown2.form (by omega); obtain ⟨_, _, e, _, hlt⟩ := h; cases e; exact hlt)).mono ?_; rintro e w4 ⟨v3, rfl, hR3, hy3⟩; obtain ⟨g3, cp3, rfl, hb3, hg3, hn3, hm3⟩ := hR3.form; have hE2 := Ext.alloc wr (.cells #[] 3); have hE3 := Below.grown (Ext.alloc' hE2 (.cells #[.int .i64 (k : Int)] 3)) hgrow2 (by simp; omega) (fun k e => owns_base hown0 e); have hE4 := Ext.trans hE3 hy3; have hg22 := owns_base hown2 (k := g2) rfl; obtain ⟨xs, hown, hxs⟩ := (HR.out.ext hE4).ex; obtain ⟨xs2, hown3, hxs2⟩ := hR3.ex; have HXS := Lib.hid hxs; have HXS2 := Lib.hid hxs2; have hs3 := hE3.size; have hs4 := hy3.size; clear hxs hxs2)
          | (at_builtin; refine wpList_append_own_at _ rfl (.tmp 23) (.tmp 31) 25 rfl w.heap.size 39 i1 (.slice none 0 0) 1 24 Try.underlying25 hi1 hy0 hy1 hy2 rfl (by decide) (.slice (some ⟨g, 0, none⟩) L1.length cp) L1.length xs rfl hown ⟨g3, 0, none⟩ L2.length cp3 xs2 rfl hown3.1 (news_of_owns hown3) (fun u hu => by obtain ⟨i, hi, rfl⟩ := List.getElem_of_mem hu; obtain ⟨x, e, ⟨a', c', e2, _⟩, _⟩ := HXS2.out i (by have := hown3.1; omega); rw [List.getElem?_eq_getElem hi, Option.some.injEq] at e; rw [e, e2]; rfl) (by unfold maxLen; omega) (by omega) (by omega) ?_; intro v5 w5 hown5 hgrow5 hnil5 hat5)
          )
        obtain ⟨gg, cc, hv5⟩ : ∃ gg cc, v5 = .slice gg (L1.length + L2.length) cc := by
          rcases hown5.2 with ⟨e, _⟩ | ⟨_, _, _, e, _⟩
          · exact absurd (hnil5.1 e).1 (by simp)
          · exact ⟨_, _, e⟩
        subst hv5
        have hJ := RowsF.join (Pb := Pbeg none w.heap.size) (L := L1) (L2 := L2) (by simp) (by simpa using hown.1) HXS.out (fun i hi => by
          obtain ⟨x, e, hr⟩ := HXS2.out i hi
          refine ⟨x, e, hr.re fun j hj => ?_⟩
          have : w3.heap.size ≤ j ∨ j = g2 := by
            rcases hj with ⟨A, hA, hj⟩ | hj
            · cases hA; exact .inr hj.symm
            · exact .inl hj
          exact ⟨fun e => by simp only [Value.ownBlock, Option.some.injEq] at e; omega, .inr (by omega)⟩) hown5 hgrow5 hnil5 hat5
        have HJ := Lib.hid hJ
        have hE5 : Ext w w5 := Below.grown (hxr.trans hE4) hgrow5 (by omega) (fun j e => owns_base hown e)
        clear hJ hown5 hgrow5 hnil5 hat5 hown3 hown hown2 hgrow2 hat2 hown0
        go_wp2_with fail
        go_roundw
        case rel => exact ⟨k + 1, by omega, by go_num, by rw [HRs.out]; exact HJ.out, hE5⟩
        case measure => simp [intOf]; omega
    · obtain rfl : k = n := by omega
      have HR := Lib.hid hR
      clear hR
      go_wp2_with fail
      go_ret
      exact ⟨_, rfl, HR.out, hxr⟩

theorem ref_orders (n : Nat) (hn : n ≤ 8) : ∀ (f : Nat) (b : List Int), b.length + f = n → ∀ (a : Option Addr) (cap : Nat) (w : World), Ints w a cap b → (∀ A, a = some A → A.block < w.heap.size) → (b = [] → a = none ∧ cap = 0) →
    Calls Try.prog 82 #[.slice a b.length cap, .int .i64 n] w (OrdP (refgen f b n) (Pbeg a w.heap.size) w) := by
  intro f
  induction f with
  | zero =>
    intro b hb a cap w h hA _
    obtain rfl : b.length = n := by omega
    exact ref_orders_end b.length a cap b w h rfl hA
  | succ f ih =>
    intro b hb a cap w h hA hnil
    by_cases hb0 : b = []
    · obtain ⟨ha, hcap⟩ := hnil hb0
      subst ha hcap hb0
      exact ref_orders_nil n hn f ih (by simpa using hb) w
    · exact ref_orders_some n hn f ih b hb hb0 a cap w h
end Go.Proofs.Ytmkleegfbapakaa
