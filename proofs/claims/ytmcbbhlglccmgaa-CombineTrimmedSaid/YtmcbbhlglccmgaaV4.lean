import Derived.Test.YtmcbbhlglccmgaaV3
import Derived.Test.YtmcbbhlglccmgaaQ5
namespace Go.Proofs.Ytmcbbhlglccmgaa
open Go.RowKit Go Go.Shelf Go.Sort
set_option maxRecDepth 100000
set_option linter.unusedSimpArgs false
set_option linter.unusedVariables false

/-! Collect, Sorted, mean. -/
abbrev ows (w : World) (base : Nat) (v : Value) (T : List Int) : Prop := w.ownsRow base 3 1 v T.length (T.map (Value.int .i64))
theorem collect_better (g : Nat) (lb : Array Value) (T : List Int) (w : World)
    (H : Calls Try.prog 117 #[.slice none 0 0, .func (.func g) #[] lb] w fun e w' => ∃ v, e = .returned v ∧ ows w' w.heap.size v T ∧ Ext w w') :
    Calls Try.prog 96 #[.func (.func g) #[] lb] w fun e w' => ∃ v, e = .returned v ∧ ows w' w.heap.size v T ∧ Ext w w' := by
  have HH := Lib.hid H
  clear H
  go_enter Try.func96, Try.ntmps96
  go_wp2_with fail
  with_reducible refine HH.out.mono ?_
  rintro e w2 ⟨v, rfl, h1, h2⟩
  go_wp2_with fail
  go_ret
  exact ⟨v, rfl, h1, h2⟩
theorem sorted_better (g : Nat) (lb : Array Value) (T : List Int) (hT : T.length ≤ 1000) (w : World)
    (H : Calls Try.prog 117 #[.slice none 0 0, .func (.func g) #[] lb] w fun e w' => ∃ v, e = .returned v ∧ ows w' w.heap.size v T ∧ Ext w w') :
    Calls Try.prog 55 #[.func (.func g) #[] lb] w fun e w' => ∃ v, e = .returned v ∧ ows w' w.heap.size v (T.mergeSort fun x y => decide (x ≤ y)) ∧ Ext w w' := by
  have HH := Lib.hid (collect_better g lb T w H)
  clear H
  go_enter Try.func55, Try.ntmps55
  go_wp2_with fail
  with_reducible refine HH.out.mono ?_
  rintro e W ⟨v, rfl, hrow, hb⟩
  have HR := Lib.hid hrow
  rcases hrow.2 with ⟨rfl, hz⟩ | ⟨gb, cap, cur, rfl, hbase, hgb, r1, r2, r3, r4⟩
  · have hss : T = [] := List.eq_nil_of_length_eq_zero hz
    subst hss
    have cS : ∀ W, Calls Try.prog 97 #[.slice none 0 0] W _ := fun W => AnyM.slices_Sort_int_none srtInts none 0 W
    clear hrow HH
    go_wp2_with fail
    refine (cS _).mono ?_
    rintro e w' ⟨rfl, rfl⟩
    go_wp2_with fail
    go_ret
    exact ⟨_, rfl, by simpa using HR.out, hb⟩
  · have hH : Holds (Value.int .i64) W gb 0 T.toArray := holds_of_block_i hgb (by simpa using r4)
    have hgl : gb < W.heap.size := (Array.getElem?_eq_some_iff.1 hgb).1
    have hsz : T.length < 4611686018427387904 := by omega
    have cS : Calls Try.prog 97 #[.slice (some ⟨gb, 0, none⟩) T.length cap] W _ := AnyM.slices_Sort_int srtInts gb 0 cap T W hH hgl hsz
    clear hrow HH
    go_wp2_with fail
    refine cS.mono ?_
    rintro e w' ⟨rfl, nn, os, rfl⟩
    go_wp2_with fail
    go_ret
    have h1 := ownsRow_sorted_i (n := nn) (os := os) (ts := T.mergeSort fun x y => decide (x ≤ y)) (List.length_mergeSort _) hbase hgb r1 r2 r3
    exact ⟨_, rfl, by unfold ows; rw [List.length_mergeSort]; exact h1, hb.grown (grownBy_sorted_i _) hb.size (fun j hj => by cases hj; exact hbase)⟩
theorem sum_le {l : List Int} (h : ∀ x ∈ l, 0 ≤ x ∧ x ≤ 1000) : 0 ≤ l.sum ∧ l.sum ≤ 1000 * l.length := by
  induction l with
  | nil => simp
  | cons x l ih =>
    have h1 := h x (by simp)
    have h2 := ih (fun y hy => h y (by simp [hy]))
    simp only [List.sum_cons, List.length_cons]
    omega
theorem sum_take {l : List Int} {k : Nat} {x : Int} (hx : l[k]? = some x) : (l.take (k + 1)).sum = (l.take k).sum + x := by
  rw [take_getQ hx]; simp
set_option maxHeartbeats 2000000 in
theorem combine_mean (a : Option Addr) (cap : Nat) (l : List Int) (t : Int) (w : World) (h : Ints w a cap l) (hl : 0 < l.length ∧ l.length ≤ 1000) (hb : ∀ x ∈ l, 0 ≤ x ∧ x ≤ 1000) (ht : 1 ≤ t ∧ t ≤ 1000) :
    Calls Try.prog 58 #[.slice a l.length cap, .int .i64 t] w (RatP (Rat.divInt (l.sum * t) (l.length : Int)) w) := by
  have hle := h.le
  have hmx := h.mx
  have HB := Lib.hid hb
  have HS := Lib.hid (sum_le hb)
  obtain ⟨x1, hw, hx, Kr⟩ := boxQ1 w #[.bool false, .slice none 0 0, .bool false, .slice none 0 0] 35
  replace hw := Lib.hid hw
  have h' := h.ext hx
  clear h hb
  go_enter Try.func58, Try.ntmps58
  go_upto_region 1 with fail
  rw [hw.out]
  clear hw
  have hs0 := hx.size
  obtain ⟨cr0, cr1, cr2, cr3⟩ := bk4 Kr
  go_wp2_with fail
  go_loop [6, 11] (fun s i => ∃ k : Nat, k ≤ l.length ∧ i = .int .i64 k ∧ s = .int .i64 (l.take k).sum) (fun _ i => l.length - (intOf i).toNat)
  case atStart => exact ⟨0, Nat.zero_le _, rfl, rfl⟩
  case round =>
    obtain ⟨k, hk, rfl, rfl⟩ := hrel
    have hst := sum_le (l := l.take k) (fun x hx => HB.out x (List.mem_of_mem_take hx))
    rw [List.length_take, Nat.min_eq_left hk] at hst
    obtain ⟨st1, st2⟩ := hst
    by_cases hlt : k < l.length
    · obtain ⟨b, o, rfl⟩ := h'.head hlt
      obtain ⟨x, hxk, hc, hx1, hx2⟩ := Ints.get h' hlt
      obtain ⟨y1, y2⟩ := HB.out x (List.mem_of_getElem? hxk)
      have HT := Lib.hid (sum_take hxk)
      have g1 : (0 : Int) ≤ (k : Int) := by omega
      have g2 : (k : Int) < (l.length : Int) := by omega
      clear hxk
      generalize (l.take k).sum = s at *
      go_wp2
      go_round
      case rel => exact ⟨k + 1, by omega, by go_num, by rw [HT.out]⟩
      case measure => simp [intOf]; omega
    · obtain rfl : k = l.length := by omega
      rw [List.take_length] at *
      have hm : 0 ≤ l.sum * t ∧ l.sum * t ≤ 1000000 * 1000 := by
        have h1 := Int.mul_le_mul (show l.sum ≤ 1000000 by omega) ht.2 (by omega) (by omega)
        have h2 := Int.mul_nonneg st1 (show 0 ≤ t by omega)
        exact ⟨h2, by omega⟩
      obtain ⟨hm1, hm2⟩ := hm
      have hl1 := hl.1
      have hl2 := hl.2
      have hsz := hx.size
      have HM := Lib.hid (ratio_Make (l.sum * t) (l.length : Int) x1 (by omega) (by omega) (by omega))
      generalize hp : l.sum * t = p at *
      clear HS HB ht hl
      go_wp2_with fail
      with_reducible refine (HM.out).mono ?_
      clear cr0 cr1 cr2 cr3
      rintro e x4 ⟨v, rfl, hv, hy⟩
      replace hx := hx.trans hy
      replace Kr := kE Kr hy
      clear hy
      obtain ⟨nv, av, qv, cv, bv, kv, dv, rfl, hv', hf', hg'⟩ := hv
      have Vv := Lib.hid hv'
      have Fv := Lib.hid (fun A hA => Nat.le_trans hsz (hf' A hA))
      have Gv := Lib.hid (fun A hA => Nat.le_trans hsz (hg' A hA))
      clear hv' hf' hg' hsz
      obtain ⟨cr0, cr1, cr2, cr3⟩ := bk4 Kr
      obtain ⟨g0, z0, g1, z1, g2, z2, g3, z3⟩ := bp4 Kr (.bool nv) (.slice av qv cv) (.bool false) (.slice bv kv dv)
      go_wp2_with fail
      clear g0 z0 g1 z1 g2 z2 g3 z3
      clear cr0 cr1 cr2 cr3
      replace Vv := (by first | exact rv4 Vv Kr (.bool nv) (.slice av qv cv) (.bool false) (.slice bv kv dv) rfl rfl rfl rfl | exact bv4 Vv Kr (.bool nv) (.slice av qv cv) (.bool false) (.slice bv kv dv) rfl rfl rfl rfl)
      replace hx := bx4 hx (w.heap.size) (.bool nv) (.slice av qv cv) (.bool false) (.slice bv kv dv) (by omega)
      replace Kr := bs4 Kr (.bool nv) (.slice av qv cv) (.bool false) (.slice bv kv dv)
      generalize ((((x4).setCell ⟨w.heap.size, 0, none⟩ (.bool nv)).setCell ⟨w.heap.size, 1, none⟩ (.slice av qv cv)).setCell ⟨w.heap.size, 2, none⟩ (.bool false)).setCell ⟨w.heap.size, 3, none⟩ (.slice bv kv dv) = x5 at *
      obtain ⟨cr0, cr1, cr2, cr3⟩ := bk4 Kr
      refine bodyPost_ret (v := .tuple #[.agg #[.bool nv, .slice av qv cv, .bool false, .slice bv kv dv], .int .i64 0]) (by simp [results, Try.results58, go_sem, cr0, cr1, cr2, cr3]) rfl ?_
      exact ⟨_, rfl, ⟨_, _, _, _, _, _, _, rfl, Vv.out, Fv.out, Gv.out⟩, hx⟩
end Go.Proofs.Ytmcbbhlglccmgaa
