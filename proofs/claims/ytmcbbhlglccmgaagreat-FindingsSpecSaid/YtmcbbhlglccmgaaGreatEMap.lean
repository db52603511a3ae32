import Derived.Test.YtmcbbhlglccmgaaGreatEPerm3
import Derived.Test.YtmcbbhlglccmgaaGreatESubM
import Derived.Maps.RangeWalk
import Derived.Maps.OwnOps
import Derived.WideKeyEntry
import Derived.DeepKeys4
import Derived.KernelRfl
import Derived.OpenShut
namespace Go.Proofs.YtmcbbhlglccmgaaGreat
open Go.RowKit Go Go.Maps
open Go.WideElems (Fit rg)
open Go.ChangeMaps (setBlock)
set_option maxRecDepth 100000
set_option linter.unusedSimpArgs false

theorem sub_laid : laidOutB Tryz.prog = true := by kernel_rfl
theorem sub_row : (88 : TypeId) < Tryz.prog.types.size := of_decide_eq_true (by kernel_rfl)
theorem sub_wide : (match Tryz.prog.underlying 88 with | some (.array _ _) | some (.struct _) => true | _ => false) = true := by rw [Tryz.underlying88]
theorem sub_kl : WideMaps.KeyLaw Tryz.prog 88 := deep_law_laid sub_laid (m := 2) (by omega) sub_row (by kernel_rfl) sub_wide
theorem sub_law : Keyed Tryz.prog 88 := Keyed.of_law sub_kl
theorem sub_cells : Tryz.prog.cellsOf 88 = 2 := by kernel_rfl
theorem int_cells : Tryz.prog.cellsOf 3 = 1 := by kernel_rfl
theorem sub_keyType : Tryz.prog.keyType 88 = true := by kernel_rfl
theorem sub_zero (w : World) : (zeroValue 3).run Tryz.prog w = .ok (.int .i64 0) w := by kernel_rfl
def keyV (m : Int) (s : Int) : Value := .agg #[.int .i64 m, .int .i64 s]
def keyL (m : Int) (s : Int) : Lit := .string (keyBytes [.int .i64 m, .int .i64 s])
theorem keyOf_key {m s : Int} (hm : -9223372036854775808 ≤ m ∧ m ≤ 9223372036854775807) (hs : -9223372036854775808 ≤ s ∧ s ≤ 9223372036854775807) : keyOf Tryz.prog 88 (keyV m s) = some (keyL m s) := by
  unfold keyOf keyV keyL
  rw [Tryz.underlying88]
  have hf : (Value.agg #[.int .i64 m, .int .i64 s]).formed Tryz.prog 88 = true := by simp [Value.formed, Tryz.underlying88, sub_cells]
  obtain ⟨d, hd⟩ : ∃ d, Tryz.prog.types.size = d + 1 := ⟨Tryz.prog.types.size - 1, (Nat.succ_pred_eq_of_pos (Nat.lt_of_le_of_lt (Nat.zero_le _) sub_row)).symm⟩
  rw [hd]
  have w1 : (Lit.int .i64 m).wf = true := WalkArith.wf_i64 hm
  have w2 : (Lit.int .i64 s).wf = true := WalkArith.wf_i64 hs
  cases d with
  | zero => exact absurd hd (by have := sub_row; intro e; rw [e] at this; exact absurd this (by decide))
  | succ d => simp [sub_keyType, hf, Program.keyLits, Tryz.underlying88, Tryz.underlying3, sub_cells, int_cells, w1, w2, Value.cells]
theorem keyOf_inv {v : Value} {kl : Lit} (h : keyOf Tryz.prog 88 v = some kl) : ∃ m s : Int, v = keyV m s ∧ kl = keyL m s ∧ (-9223372036854775808 ≤ m ∧ m ≤ 9223372036854775807) ∧ (-9223372036854775808 ≤ s ∧ s ≤ 9223372036854775807) := by
  unfold keyOf at h
  rw [Tryz.underlying88] at h
  simp only [sub_keyType, Bool.true_and] at h
  split at h
  · rename_i hf
    obtain ⟨d, hd⟩ : ∃ d, Tryz.prog.types.size = d + 1 := ⟨Tryz.prog.types.size - 1, (Nat.succ_pred_eq_of_pos (Nat.lt_of_le_of_lt (Nat.zero_le _) sub_row)).symm⟩
    rw [hd] at h
    cases v <;> simp [Value.formed, Tryz.underlying88, sub_cells] at hf
    rename_i cs
    obtain ⟨l⟩ := cs
    cases d with
    | zero => exact absurd hd (by have := sub_row; intro e; rw [e] at this; exact absurd this (by decide))
    | succ d =>
      match l, hf with
      | [c0, c1], _ =>
        simp [Program.keyLits, Tryz.underlying88, Tryz.underlying3, sub_cells, int_cells, Value.cells] at h
        cases c0 <;> simp at h
        rename_i k0 n0 _
        by_cases h0 : k0 = IntKind.i64 ∧ (Lit.int IntKind.i64 n0).wf = true
        · rw [if_pos h0] at h
          cases c1 <;> simp at h
          rename_i k1 n1 _
          by_cases h1 : k1 = IntKind.i64 ∧ (Lit.int IntKind.i64 n1).wf = true
          · rw [if_pos h1] at h
            obtain ⟨rfl, w0⟩ := h0
            obtain ⟨rfl, w1⟩ := h1
            simp at h
            exact ⟨n0, n1, rfl, h.symm, bounds_i64 w0, bounds_i64 w1⟩
          · rw [if_neg h1] at h
            simp at h
        · rw [if_neg h0] at h
          simp at h
  · cases h

/-- Keys of subsets: few elements, a sum within bounds. -/
def Wf (p : Nat × Int) : Prop := p.1 ≤ 1000 ∧ -1099511627776 ≤ p.2 ∧ p.2 ≤ 1099511627776
def klOf (p : Nat × Int) : Lit := keyL p.1 p.2
def kvOf (p : Nat × Int) : Value := keyV p.1 p.2
theorem keyOf_wf {p : Nat × Int} (h : Wf p) : keyOf Tryz.prog 88 (kvOf p) = some (klOf p) := by
  obtain ⟨h1, h2, h3⟩ := h
  exact keyOf_key (by omega) (by omega)
theorem klOf_inj {p q : Nat × Int} (hp : Wf p) (hq : Wf q) (h : klOf p = klOf q) : p = q := by
  have := sub_law.inj (keyOf_wf hp) (by rw [h]; exact keyOf_wf hq)
  obtain ⟨a, b⟩ := p
  obtain ⟨c, d⟩ := q
  simp only [kvOf, keyV, Value.agg.injEq, Array.mk.injEq, List.cons.injEq, Value.int.injEq, true_and, and_true] at this
  obtain ⟨h1, h2⟩ := this
  rw [h2, show a = c by omega]
theorem klOf_key {p : Nat × Int} (h : Wf p) : WideAt.IsKeyLit (klOf p) := sub_law.key (keyOf_wf h)
def litN (n : Nat) : DataW Unit := .lit (.int .i64 n)
/-- A map that counts. -/
structure MapC (D : DataW Unit) (f : Nat × Int → Nat) : Prop where
  isMap : IsMap D
  atk : ∀ p, Wf p → D.atKey (klOf p) (litN 0) = litN (f p)
  hask : ∀ p, Wf p → Maps.has D (klOf p) = decide (0 < f p)
  only : ∀ k, Maps.has D k = true → ∃ p, Wf p ∧ k = klOf p
theorem MapC.empty : MapC (.map []) (fun _ => 0) := ⟨isMap_empty, fun p _ => rfl, fun p _ => rfl, fun k h => by cases h⟩
theorem MapC.put {D : DataW Unit} {f : Nat × Int → Nat} (h : MapC D f) {p : Nat × Int} (hp : Wf p) (c : Nat) (hc : 0 < c) : MapC (D.put (klOf p) (litN (f p + c))) (fun q => if q = p then f p + c else f q) := by
  refine ⟨h.isMap.put _ _, fun q hq => ?_, fun q hq => ?_, fun k hk => ?_⟩
  · by_cases e : q = p
    · subst e; rw [if_pos rfl]; exact atKey_put_same h.isMap (klOf_key hp) _ _
    · rw [if_neg e, atKey_put_other (fun e2 => e (klOf_inj hq hp e2)), h.atk q hq]
  · by_cases e : q = p
    · subst e; rw [if_pos rfl, has_put_same h.isMap (klOf_key hp)]; simp; omega
    · rw [if_neg e, has_put_other (fun e2 => e (klOf_inj hq hp e2)), h.hask q hq]
  · by_cases e : k = klOf p
    · exact ⟨p, hp, e⟩
    · rw [has_put_other e] at hk; exact h.only k hk
abbrev OM (w : World) (b n : Nat) (D : DataW Unit) : Prop := w.ownsMap Tryz.prog 88 (plainElem Tryz.prog 3) b n D

theorem setBlock_twice (w : World) (b : Nat) (o o' : Obj) : setBlock (setBlock w b o) b o' = setBlock w b o' := by simp [setBlock]
/-- What mapEntry leaves. -/
theorem OM.entry {w : World} {b n : Nat} {D : DataW Unit} (h : OM w b n D) (hn : n < maxLen) {key : Value} {kl : Lit} (hkey : keyOf Tryz.prog 88 key = some kl) :
    ∃ v0 st w1 D1, (Instr.mapEntry 89 (.map (some b)) key).run Tryz.prog w = .ok (.tuple #[v0, .int .i64 (st : Nat)]) w1 ∧ OM w1 b (n + 1) D1 ∧ D1.atKey kl (litN 0) = D.atKey kl (litN 0) ∧ w.grownBy w1 (some b) ∧ w1.heap.size = w.heap.size ∧
      ∀ val, ∃ w2, (Instr.entryStore 89 (.map (some b)) (.int .i64 (st : Nat)) val).run Tryz.prog w1 = .ok () w2 ∧ (Instr.mapUpdate 89 (.map (some b)) key val).run Tryz.prog w = .ok () w2 := by
  have hz0 : (plainElem (H := Unit) Tryz.prog 3) (.int .i64 0) = some (litN 0, []) := plainElem_int Tryz.underlying3 (by decide)
  obtain ⟨w', hup, hown, hgr⟩ := World.ownsMap.update (R := plainElem (H := Unit) Tryz.prog 3) h sub_law Tryz.underlying89 hn hkey hz0
  have h0 := h
  obtain ⟨es, clock, hb, F, hs, rfl⟩ := h
  obtain ⟨v0, st, es1, clock1, hrun, _, hst⟩ := WideElems.entry_then_store sub_kl Tryz.underlying89 (z := .int .i64 0) sub_zero hb F hkey
  have hstore : ∀ val, ∃ w2, (Instr.entryStore 89 (.map (some b)) (.int .i64 (st : Nat)) val).run Tryz.prog (setBlock w b (.map es1 clock1)) = .ok () w2 ∧ (Instr.mapUpdate 89 (.map (some b)) key val).run Tryz.prog w = .ok () w2 := by
    intro val
    obtain ⟨es', clock', e1, e2⟩ := hst (setBlock w b (.map es1 clock1)) val (ChangeMaps.heap_setBlock_same hb _)
    rw [setBlock_twice] at e1
    exact ⟨_, e1, e2⟩
  have hgrow : w.grownBy (setBlock w b (.map es1 clock1)) (some b) := ⟨rfl, rfl, rfl, by simp [setBlock], fun i _ hi => ChangeMaps.heap_setBlock_other hb _ (fun e => hi (by rw [e]))⟩
  rcases sub_law.find w hkey es.toList F.keys with ⟨h1, h2⟩ | ⟨j, e0, h1, h2, h3⟩
  · have r1 : (Instr.mapEntry 89 (.map (some b)) key).run Tryz.prog w = .ok (.tuple #[.int .i64 0, goInt clock]) (setBlock w b (.map (es.push ⟨key, .int .i64 0, clock⟩) (clock + 1))) := by
      simp [Instr.mapEntry, run_underlying Tryz.underlying89, MapKept.run_getObj_map hb, sub_law.check w false hkey, h1, sub_zero, MapKept.run_setObj_map _ hb, Result.andThen, setBlock]
    have r2 : (Instr.mapUpdate 89 (.map (some b)) key (.int .i64 0)).run Tryz.prog w = .ok () (setBlock w b (.map (es.push ⟨key, .int .i64 0, clock⟩) (clock + 1))) := by
      simp [Instr.mapUpdate, run_underlying Tryz.underlying89, MapKept.run_getObj_map hb, sub_law.check w false hkey, h1, MapKept.run_setObj_map _ hb, Result.andThen, setBlock]
    rw [r1] at hrun
    rw [r2] at hup
    simp only [Result.ok.injEq] at hrun hup
    refine ⟨v0, st, _, (DataW.map ((es.toList.map (rg Tryz.prog 88 (plainElem Tryz.prog 3))).foldr DataW.insert [])).put kl (litN 0), by rw [r1]; simp only [Result.ok.injEq]; exact hrun, ?_, ?_, hgrow, by simp [setBlock], hstore⟩
    · rw [← hrun.2, hup.2]; exact hown
    · rw [atKey_put_same ⟨_, rfl⟩ (sub_law.key hkey)]
      rcases Maps.fit_look false sub_law Tryz.underlying89 (sub_zero w) hb F hkey with ⟨_, _, hat⟩ | ⟨e0, _, he0, he1, _⟩
      · rw [hat]
      · exact absurd he1 (h2 e0 he0)
  · have hj : es[j]? = some e0 := by simpa using h2
    have hsame : es.modify j (fun e => { e with key := key }) = es := by
      refine Array.ext (by simp) fun i hi1 hi2 => ?_
      rw [Array.getElem_modify]
      split
      · rename_i e
        subst e
        have : es[j] = e0 := by rw [Array.getElem?_eq_getElem hi2] at hj; exact Option.some.inj hj
        rw [this, ← h3]
      · rfl
    have r1 : (Instr.mapEntry 89 (.map (some b)) key).run Tryz.prog w = .ok (.tuple #[e0.val, goInt e0.born]) (setBlock w b (.map es clock)) := by
      simp [Instr.mapEntry, run_underlying Tryz.underlying89, MapKept.run_getObj_map hb, sub_law.check w false hkey, h1, hj, h3, sub_law.stays w hkey, hsame, MapKept.run_setObj_map _ hb, Result.andThen, setBlock]
    rw [r1] at hrun
    simp only [Result.ok.injEq] at hrun
    refine ⟨v0, st, _, .map ((es.toList.map (rg Tryz.prog 88 (plainElem Tryz.prog 3))).foldr DataW.insert []), by rw [r1]; simp only [Result.ok.injEq]; exact hrun, ?_, rfl, hgrow, by simp [setBlock], hstore⟩
    rw [← hrun.2]
    exact ⟨es, clock, ChangeMaps.heap_setBlock_same hb _, F, by omega, rfl⟩

/-- One kind of subset, c times more. -/
theorem OM.add {w : World} {b n : Nat} {D : DataW Unit} {f : Nat × Int → Nat} (h : OM w b n D) (hn : n + 1 < maxLen) (hf : MapC D f) {p : Nat × Int} (hp : Wf p) (c : Nat) (hc : 0 < c) (hb : f p + c ≤ 9223372036854775807) :
    ∃ v0 st w1 w2 D2, (Instr.lookup 89 (.map (some b)) (kvOf p) false).run Tryz.prog w = .ok (.int .i64 (f p : Nat)) w ∧ (Instr.mapEntry 89 (.map (some b)) (kvOf p)).run Tryz.prog w = .ok (.tuple #[v0, .int .i64 (st : Nat)]) w1 ∧
      (Instr.lookup 89 (.map (some b)) (kvOf p) false).run Tryz.prog w1 = .ok (.int .i64 (f p : Nat)) w1 ∧ (Instr.entryStore 89 (.map (some b)) (.int .i64 (st : Nat)) (.int .i64 ((f p + c : Nat) : Int))).run Tryz.prog w1 = .ok () w2 ∧
      w.grownBy w1 (some b) ∧ w1.heap.size = w.heap.size ∧ OM w2 b (n + 1) D2 ∧ MapC D2 (fun q => if q = p then f p + c else f q) ∧ w.grownBy w2 (some b) := by
  obtain ⟨v0, st, w1, D1, e1, o1, a1, g1, z1, hst⟩ := h.entry (by omega) (keyOf_wf hp)
  obtain ⟨w2, e2, u2⟩ := hst (.int .i64 ((f p + c : Nat) : Int))
  have hv : (plainElem (H := Unit) Tryz.prog 3) (.int .i64 ((f p + c : Nat) : Int)) = some (litN (f p + c), []) := plainElem_int Tryz.underlying3 (WalkArith.wf_i64 (by omega))
  obtain ⟨w', hup, hown, hgr⟩ := World.ownsMap.update (R := plainElem (H := Unit) Tryz.prog 3) h sub_law Tryz.underlying89 (by omega) (keyOf_wf hp) hv
  rw [u2] at hup
  simp only [Result.ok.injEq, true_and] at hup
  subst hup
  obtain ⟨c0, l0, k0, _⟩ := h.lookup_int sub_law Tryz.underlying89 Tryz.underlying3 (sub_zero w) (keyOf_wf hp)
  obtain ⟨c1, l1, k1, _⟩ := o1.lookup_int sub_law Tryz.underlying89 Tryz.underlying3 (sub_zero w1) (keyOf_wf hp)
  have ha := hf.atk p hp
  have e0 : c0 = (f p : Nat) := by
    have := k0.symm.trans ha
    simpa [litN] using this
  have e1' : c1 = (f p : Nat) := by
    have := k1.symm.trans (a1.trans ha)
    simpa [litN] using this
  subst e0 e1'
  exact ⟨v0, st, w1, w2, _, l0, e1, l1, e2, g1, z1, hown, hf.put hp c hc, hgr⟩
end Go.Proofs.YtmcbbhlglccmgaaGreat
