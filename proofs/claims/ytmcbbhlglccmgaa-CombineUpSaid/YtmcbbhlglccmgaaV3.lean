import Derived.Test.YtmcbbhlglccmgaaV2
import Derived.Test.YtmcbbhlglccmgaaVSrt
import Derived.Test.YtmcbbhlglccmgaaNB
import Derived.Test.YtmcbbhlglccmgaaQ4
import Derived.Maps.OwnIn
namespace Go.Proofs.Ytmcbbhlglccmgaa
open Go.RowKit Go Go.Shelf
set_option maxRecDepth 100000
set_option linter.unusedSimpArgs false
set_option linter.unusedVariables false
attribute [local go_sem] Oper.semAt_some

/-! slices.Sorted(better(c, marks)). -/
/-- What comes of marks: as long as they are on the scale. -/
def bet (c : CritA) (l : List Int) : List Int := (l.takeWhile (onC c)).map (turnC c)
theorem take_while_take {p : Int → Bool} : ∀ (l : List Int) (k : Nat), k < l.length → (∀ j, j < k → ∀ x, l[j]? = some x → p x = true) → ∀ x, l[k]? = some x → (l.takeWhile p).take k = l.take k ∧ (p x = true → (l.takeWhile p).take (k + 1) = l.take (k + 1) ∧ k + 1 ≤ (l.takeWhile p).length) ∧ (p x = false → l.takeWhile p = l.take k)
  | [], k, h, _, _, _ => by simp at h
  | y :: l, 0, _, _, x, hx => by
    simp only [List.getElem?_cons_zero, Option.some.injEq] at hx
    subst hx
    refine ⟨by simp, fun h => ?_, fun h => ?_⟩
    · rw [List.takeWhile_cons, if_pos h]; simp
    · rw [List.takeWhile_cons, if_neg (by simp [h])]; simp
  | y :: l, k + 1, hk, hall, x, hx => by
    have hy : p y = true := hall 0 (by omega) y rfl
    have := take_while_take l k (by simpa using hk) (fun j hj u hu => hall (j + 1) (by omega) u (by simpa using hu)) x (by simpa using hx)
    rw [List.takeWhile_cons, if_pos hy]
    refine ⟨by simp [this.1], fun h => ?_, fun h => ?_⟩
    · obtain ⟨h1, h2⟩ := this.2.1 h
      exact ⟨by simp [h1], by simp; omega⟩
    · simp [this.2.2 h]
/-- Worlds behind a bound are as they were: the marks and the criterion in their boxes. -/
structure BetW (w : World) (Bm Bc n₀ : Nat) (c : CritA) (a : Option Addr) (cap : Nat) (l : List Int) : Prop where
  bm : Blk w Bm #[.slice a l.length cap] 27
  bc : Blk w Bc c.cells 48
  im : Ints w a cap l
  lm : Bm < n₀
  lc : Bc < n₀
  la : ∀ A, a = some A → 0 < l.length → A.block < n₀
theorem below_blk {n₀ : Nat} {A B : World} {b : Nat} {cs : Array Value} {t : TypeId} (h : Below n₀ A B) (k : Blk A b cs t) (hb : b < n₀) : Blk B b cs t := (h.block b hb).trans k
theorem BetW.keep {w w' : World} {Bm Bc n₀ : Nat} {c : CritA} {a : Option Addr} {cap : Nat} {l : List Int} (h : BetW w Bm Bc n₀ c a cap l) (k : Below n₀ w w') : BetW w' Bm Bc n₀ c a cap l :=
  ⟨below_blk k h.bm h.lm, below_blk k h.bc h.lc, ⟨h.im.le, h.im.mx, h.im.nil, fun A hA i hi => by
    obtain ⟨e, v, hv, r⟩ := h.im.cells A hA i hi
    exact ⟨e, v, (k.cell (p := ⟨A.block, A.off + i, none⟩) (h.la A hA (by omega))).trans hv, r⟩⟩, h.lm, h.lc, h.la⟩
theorem below_of_ext {n₀ : Nat} {A B : World} (h : Ext A B) (hn : n₀ ≤ A.heap.size) : Below n₀ A B := h.mono hn
theorem grown_of_ext {A B : World} (h : Ext A B) : A.grownBy B none := ⟨h.os, h.tape, h.output, h.size, fun k hk _ => h.block k hk⟩
theorem bet_snoc {c : CritA} {l : List Int} {k : Nat} (hk : k < l.length) (hall : ∀ j, j < k → ∀ x, l[j]? = some x → onC c x = true) {x : Int} (hx : l[k]? = some x) :
    (onC c x = true → (bet c l).take k ++ [turnC c x] = (bet c l).take (k + 1)) ∧ (onC c x = false → bet c l = (bet c l).take k) := by
  obtain ⟨h1, h2, h3⟩ := take_while_take l k hk hall x hx
  unfold bet
  refine ⟨fun h => ?_, fun h => ?_⟩
  · obtain ⟨h4, h5⟩ := h2 h
    rw [← List.map_take, ← List.map_take, h4, h1, take_getQ hx]; simp
  · rw [h3 h, ← List.map_take, List.take_take, Nat.min_self]
set_option maxHeartbeats 2000000 in
theorem better_seq (n : Nat) (Bm Bc n₀ : Nat) (c : CritA) (hc : c.In) (hr : rightC c = true) (a : Option Addr) (cap : Nat) (l : List Int) (w : World) (hW0 : BetW w Bm Bc n₀ c a cap l) (hn0 : n₀ ≤ w.heap.size) :
    SeqZ n Try.prog 98 #[.pointer (some ⟨Bm, 0, none⟩), .pointer (some ⟨Bc, 0, none⟩)] (fun x : Int => #[.int .i64 x]) (fun xs => xs = (bet c l).take xs.length) (Below n₀) (fun xs => xs = bet c l) (fun _ => True) w := fun lp J Jx W hW hJ hJx hY h0 => by
  have hle := hW0.im.le
  have hmx := hW0.im.mx
  have hw0 := Lib.hid (hW0.keep (hW.mono hn0))
  have hnW : n₀ ≤ W.heap.size := Nat.le_trans hn0 hW.size
  clear hW0
  refine callsIn_of_wp Try.func98 rfl trivial ?_ rfl
  simp only [Try.ntmps98, List.size_toArray, List.length_cons, List.length_nil, Nat.reduceAdd, Nat.reduceSub, Array.replicate_succ, Array.replicate_zero, List.push_toArray, List.append_toArray, List.nil_append, List.cons_append]
  have c0 := hw0.out.bm.cell (i := 0) rfl
  gi_wp2
  gi_loopw [10] (fun i wr => ∃ k : Nat, k ≤ l.length ∧ i = .int .i64 k ∧ (∀ j, j < k → ∀ x, l[j]? = some x → onC c x = true) ∧ J ((bet c l).take k) wr ∧ Below n₀ W wr) (fun i _ => l.length - (intOf i).toNat)
  case atStart => exact ⟨0, Nat.zero_le _, rfl, fun j hj => absurd hj (Nat.not_lt_zero _), by simpa using h0, Below.refl _ _⟩
  case round =>
    obtain ⟨k, hk, rfl, hall, hJs, hkp⟩ := hrel
    clear c0
    by_cases hlt : k < l.length
    · have hwr := hw0.out.keep hkp
      obtain ⟨b, o, rfl⟩ := hwr.im.head hlt
      obtain ⟨x, hx, hcx, hx1, hx2⟩ := Ints.get hwr.im hlt
      obtain ⟨k0, k1, k2, k3, k4, k5, k6⟩ := hwr.bc.crit
      have g1 : (0 : Int) ≤ (k : Int) := by omega
      have g2 : (k : Int) < (l.length : Int) := by omega
      have HS := Lib.hid (bet_snoc hlt hall hx)
      have HC := Lib.hid (fun wx => combine_Better c hc x ⟨hx1, hx2⟩ wx)
      have HA := Lib.hid hall
      have HX := Lib.hid hx
      have HKP := Lib.hid hkp
      have HJ := Lib.hid hJs
      have hnr : n₀ ≤ wr.heap.size := Nat.le_trans hnW hkp.size
      clear hwr hx hall hkp hJs
      cases ho : onC c x
      · have hb : betterC c x = (0, 160) := by simp [betterC, hr, ho]
        rw [hb] at HC
        have HO := Lib.hid ho
        clear ho hb
        obtain ⟨nm, lo, hi, st, how, tr, rv⟩ := c
        dsimp only [CritA.val, CritA.cells] at *
        gi_wp2
        refine ⟨trivial, fun h => (by cases h), ?_⟩
        refine (callsIn_wide.2 (HC.out _)).mono ?_
        rintro e w2 ⟨rfl, hy⟩
        gi_wp2
        refine ⟨fun f h => (by cases h), ?_⟩
        gi_wp2
        refine bodyPost_ret (results_none rfl _ _ _) rfl ?_
        refine ⟨⟨_, rfl⟩, .inl ⟨_, rfl, ?_⟩⟩
        rw [HS.out.2 HO.out]
        exact hJ _ _ _ none HJ.out (grown_of_ext hy) (fun r e => by cases e)
      · have hb : betterC c x = (turnC c x, 0) := by simp [betterC, hr, ho]
        rw [hb] at HC
        have HO := Lib.hid ho
        have hS1 := HS.out.1 ho
        have hlen : (bet c l).take (k + 1) = (bet c l).take ((bet c l).take (k + 1)).length := by
          rw [List.length_take, ← List.take_take, List.take_length]
        clear ho hb
        generalize turnC c x = y at *
        obtain ⟨nm, lo, hi, st, how, tr, rv⟩ := c
        dsimp only [CritA.val, CritA.cells] at *
        gi_wp2
        refine ⟨trivial, fun h => (by cases h), ?_⟩
        refine (callsIn_wide.2 (HC.out _)).mono ?_
        rintro e w2 ⟨rfl, hyx⟩
        have hJ2 : J ((bet ⟨nm, lo, hi, st, how, tr, rv⟩ l).take k) w2 := hJ _ _ _ none HJ.out (grown_of_ext hyx) (fun r e => by cases e)
        obtain ⟨fn, tmps, assign, body, hy, hR⟩ := hY _ y w2 hJ2 (by rw [hS1]; exact hlen)
        have hk2 : Below n₀ W w2 := HKP.out.trans (below_of_ext hyx hnr)
        have HK2 := Lib.hid hk2
        have HS1 := Lib.hid hS1
        clear hk2 hJ2 hyx hlen hS1
        gi_wp2
        refine ⟨fun h => (by cases h), ?_⟩
        refine hR.mono ?_
        rintro e W3 (⟨rfl, hJ3, hk3⟩ | ⟨rfl, hJx3⟩)
        · gi_wp2
          go_roundw
          case rel => exact ⟨k + 1, by omega, by go_num, fun j hj u hu => (by
            by_cases hjk : j < k
            · exact HA.out j hjk u hu
            · obtain rfl : j = k := by omega
              rw [HX.out] at hu
              cases hu
              exact HO.out), by rw [← HS1.out]; exact hJ3, HK2.out.trans hk3⟩
          case measure => first | (simp [intOf]; done) | (simp [intOf]; omega)
        · gi_wp2
          refine bodyPost_ret (results_none rfl _ _ _) rfl ?_
          exact ⟨⟨_, rfl⟩, .inr ⟨_, trivial, hJx3⟩⟩
    · obtain rfl : k = l.length := by omega
      gi_wp2
      go_end0
      refine ⟨⟨_, rfl⟩, .inl ⟨_, rfl, ?_⟩⟩
      have : (bet c l).take l.length = bet c l := List.take_of_length_le (by unfold bet; rw [List.length_map]; exact (List.takeWhile_prefix _).length_le)
      rw [← this]; exact hJs

/-- Own slices of integers, nil too: they stand as others than cells change. -/
theorem ownsRow_own {β : Type} (base : Nat) (f : β → List Int) (Bs : Nat) (w0 : World) : ∀ (B : Nat), w0.heap.size ≤ B → OwnFrom B (fun (s : β) W => ∃ v, Blk W Bs #[v] 27 ∧ W.ownsRow base 3 1 v (f s).length ((f s).map (Value.int .i64)) ∧ Below w0.heap.size w0 W) := fun B hB s W W' row ⟨v, hb, hr, hbl⟩ hg hrow => by
  refine ⟨v, Blk.kept hb hg (fun r e => (hrow r e).2), hr.kept hg ?_, hbl.grown hg hbl.size (fun r e => Nat.le_trans hB (hrow r e).1)⟩
  rcases hr.2 with ⟨rfl, _⟩ | ⟨g, cap, cur, rfl, _, hgb, _⟩
  · exact .inl rfl
  · refine .inr fun e => ?_
    obtain ⟨_, o, ho, hc⟩ := hrow g (by simpa [Value.ownBlock] using e.symm)
    rw [hgb] at ho
    cases ho
    simp [Obj.isCells] at hc
theorem infoIntV : (Try.prog.info? 3).map (fun i => (i.zero, i.size, i.bytes)) = some (some (.int .i64 0), 1, 8) := by kernel_rfl
set_option maxHeartbeats 4000000 in
theorem append_better (g : Nat) (lb : Array Value) (eg : ∀ args w, (callFunc g args).run Try.prog w = .ok (.enter g args) w) (T : List Int) (hT : T.length ≤ 1000) (n₀ : Nat) (w : World) (hn0 : n₀ ≤ w.heap.size)
    (hseq : ∀ w', Ext w w' → SeqZ 4 Try.prog g lb (fun x : Int => #[.int .i64 x]) (fun xs => xs = T.take xs.length) (Below n₀) (fun xs => xs = T) (fun _ => True) w') :
    Calls Try.prog 117 #[.slice none 0 0, .func (.func g) #[] lb] w fun e w' => ∃ v, e = .returned v ∧ w'.ownsRow w.heap.size 3 1 v T.length (T.map (Value.int .i64)) ∧ Ext w w' := by
  obtain ⟨i0, hi0, hz0, hz1, hz2⟩ := info_parts infoIntV
  have HI := Lib.hid (And.intro hi0 (And.intro hz0 (And.intro hz1 hz2)))
  clear hi0 hz0 hz1 hz2
  refine (callsIn_wide (n := 5)).1 ?_
  refine callsIn_of_wp_marks Try.func117 rfl trivial ?_ rfl
  simp only [Try.ntmps117, List.size_toArray, List.length_cons, List.length_nil, Nat.reduceAdd, Nat.reduceSub, Array.replicate_succ, Array.replicate_zero, List.push_toArray, List.append_toArray, List.nil_append, List.cons_append]
  refine wpIn_wide.2 ?_
  go_upto_region 1 with fail
  have hx := Ext.alloc w (.cells #[.slice none 0 0] 27)
  have X1 := Lib.hid (Blk.new0 w #[.slice none 0 0] 27)
  have hs1 : (w.alloc (.cells #[.slice none 0 0] 27)).heap.size = w.heap.size + 1 := by simp
  have hsq := hseq _ hx
  generalize w.alloc (.cells #[.slice none 0 0] 27) = w1 at *
  go_wp2_with fail
  refine (wpIn_wide (n := 5)).1 ?_
  refine wpIn_rangeFunc_ownZ (by omega) (gf := g) (lb := lb) rfl eg hsq (fun h k => Below.trans h k) (fun W l o o' h1 h2 h3 h4 => belowK_b (w := w1) (by omega) W l o o' h1 h2 h3 h4) (fun _ => rfl)
    (fun pre W => ∃ v, Blk W w.heap.size #[v] 27 ∧ W.ownsRow w.heap.size 3 1 v pre.length (pre.map (Value.int .i64)) ∧ Below w.heap.size w W)
    (fun _ _ _ => False) (ownsRow_own w.heap.size id w.heap.size w w1.heap.size (by omega)) (fun _ _ _ _ _ h _ _ => h.elim)
    ⟨_, X1.out, World.ownsRow_nil _ _ _ _, hx⟩ ?a1 ?assign ?body ?done ?stop
  case assign =>
    intro l x W K hK
    gi_wp2
    exact hK
  case body =>
    rintro lp pre x W ⟨v, hb, hr, hB⟩ hok
    obtain ⟨hi0, hz0, hz1, hz2⟩ := HI.out
    have hlen : pre.length + 1 ≤ 1000 := by
      have := congrArg List.length hok
      rw [List.length_take, List.length_append, List.length_singleton] at this
      omega
    have c1 := hb.cell (i := 0) rfl
    have hBlt := hb.lt
    have HB := Lib.hid hb
    have hsz := hB.size
    have hbx : W.heap[w.heap.size]? = some (.cells #[v] 27 (0, 0)) := hb
    have ne_of : some w.heap.size ≠ v.ownBlock := by
      rcases ownsRow_ne_a hr hbx (fun cur e => by have := (Obj.cells.inj e).2.1; exact absurd this (by decide)) with e | e
      · rw [e]; simp
      · exact fun e' => e e'.symm
    have HNE := Lib.hid ne_of
    have HOK := Lib.hid hok
    have HR := Lib.hid hr
    clear hb hok hsq X1 hbx ne_of hs1 hr
    gi_wp2_with (first
      | (gi_at_builtin; refine wpListIn_append_own _ rfl _ _ 27 rfl w.heap.size 3 i0 (.int .i64 0) 1 8 Try.underlying27 hi0 hz0 hz1 hz2 rfl (by decide) _ _ _ rfl (HR.out.alloc _) ⟨W.heap.size, 0, none⟩ 1 1 [.int .i64 x] rfl rfl (cell_one_new _ _ _) (by simp [Value.oneCell']) (by unfold maxLen; omega) (by omega) (by simp; omega) ?_; intro v' w3 hown' hg3 hnil3
         have hv3 : Blk w3 w.heap.size #[v] 27 := (hg3.block w.heap.size (by simp; omega) HNE.out).trans (HB.out.alloc _)
         obtain ⟨hc3, hf3⟩ := cell_of_box_a hv3
         obtain ⟨g', cap', cur', rfl, hbase', hgb', hr1, hr2, hr3, hr4⟩ : ∃ g' cap' cur', v' = .slice (some ⟨g', 0, none⟩) (pre.length + 1) cap' ∧ w.heap.size ≤ g' ∧ w3.heap[g']? = some (.cells cur' 3 (0, 0)) ∧ pre.length + 1 ≤ cap' ∧ cap' ≤ maxLen ∧ cur'.size = cap' * 1 ∧ cur'.toList.take ((pre.length + 1) * 1) = pre.map (Value.int .i64) ++ [.int .i64 x] := by
           rcases hown'.2 with ⟨_, h0⟩ | h'
           · exact absurd h0 (by omega)
           · exact h'
         go_frame)
      | fail)
    have hsl : (Value.slice (some ⟨g', 0, none⟩) (pre.length + 1) cap').ownBlock = some g' := rfl
    have hgn : g' ≠ w.heap.size := fun e => by
      have h3 : w3.heap[w.heap.size]? = some (.cells #[v] 27 (0, 0)) := hv3
      rw [← e, hgb'] at h3
      have := (Obj.cells.inj (Option.some.inj h3)).2.1
      exact absurd this (by decide)
    have hg4 : w3.grownBy (w3.setCell ⟨w.heap.size, 0, none⟩ (.slice (some ⟨g', 0, none⟩) (pre.length + 1) cap')) (some w.heap.size) := grownBy_setCell0_a _ _ _
    have hr4 := hown'.kept hg4 (.inr (by rw [hsl]; exact fun e => hgn (Option.some.inj e)))
    have hb3 : Below w.heap.size w w3 := (hB.alloc hB.size _).grown hg3 (by simp; omega) (fun k e => ((HR.out.alloc (.cells #[.int .i64 x] 3)).lt k e).1)
    have hb4 : Below w.heap.size w (w3.setCell ⟨w.heap.size, 0, none⟩ (.slice (some ⟨g', 0, none⟩) (pre.length + 1) cap')) := hb3.grown hg4 hb3.size (fun k e => by cases e; omega)
    have hn₀ : Below n₀ W (w3.setCell ⟨w.heap.size, 0, none⟩ (.slice (some ⟨g', 0, none⟩) (pre.length + 1) cap')) := (((Below.refl n₀ W).alloc (by omega) _).grown hg3 (by simp; omega) (fun k e => Nat.le_trans hn0 ((HR.out.alloc (.cells #[.int .i64 x] 3)).lt k e).1)).grown hg4 (by have := hb3.size; omega) (fun k e => by cases e; omega)
    refine ⟨((KeepsOthers.alloc _ _).trans (KeepsOthers.of_grownBy hg3 (fun j o e ho => ?_))).trans (KeepsOthers.setCell _ _ _), hn₀, _, hv3.set 0 _, by simpa using hr4, hb4⟩
    have hra := HR.out.alloc (.cells #[.int .i64 x] 3)
    rcases hra.2 with ⟨rfl, _⟩ | ⟨gq, capq, curq, rfl, _, hgq, _⟩
    · have e2 : (none : Option Nat) = some j := e
      cases e2
    · have e2 : some gq = some j := e
      cases e2
      rw [hgq] at ho
      cases ho
      rfl
  case done =>
    rintro D ys W hD rfl ⟨v, hb, hr, hB⟩ hK
    have k0 := hb.cell (i := 0) rfl
    have HK := Lib.hid hK
    have HR := Lib.hid hr
    clear hK hr hsq X1
    go_wp2_with fail
    refine ⟨by simp, .inl ⟨_, _, rfl, run_takeDeferred HK.out, ?_⟩⟩
    refine ⟨_, by simp [results, Try.f117, go_sem], v, rfl, ?_, ?_⟩
    · refine HR.out.kept (grownBy_putObj' _ _ _) ?_
      rcases HR.out.2 with ⟨rfl, _⟩ | ⟨gq, capq, curq, rfl, _, hgq, _⟩
      · exact .inl rfl
      · refine .inr fun e => ?_
        simp only [Value.ownBlock, Option.some.injEq] at e
        subst e
        have := HK.out
        rw [hgq] at this
        cases this
    · exact Below.trans hB (belowK_b (n₀ := w.heap.size) (w := w) (Nat.le_refl _) _ D _ _ (by omega) HK.out rfl rfl)
  case stop => exact fun _ _ _ _ _ _ h => h.elim
end Go.Proofs.Ytmcbbhlglccmgaa
