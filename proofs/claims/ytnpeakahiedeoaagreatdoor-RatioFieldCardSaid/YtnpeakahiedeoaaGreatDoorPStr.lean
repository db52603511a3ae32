import Derived.Test.YtnpeakahiedeoaaGreatDoorPGcd
import Derived.Lib.Strings
import Derived.Lib.Slices
import Derived.Lib.Walk
import Derived.Lib.TrimByte
import Derived.Lib.UnsafeStr
import Derived.Shelf.RegionOpenPlain
import Derived.Laws.Strings3
import Derived.RegionTactic
import Derived.Deep.RegionWith
import Derived.WalkKit
namespace Go.Proofs.YtnpeakahiedeoaaGreatDoor
open Go.RowKit Go BigFrame Go.Shelf
set_option maxRecDepth 100000
set_option linter.unusedSimpArgs false

/-! Strings and bytes: strings.CutPrefix, TrimLeft (one byte), slices.Reverse. -/
set_option maxHeartbeats 1000000 in
theorem str_HasPrefix (s p : ByteArray) (w : World) :
    Calls Tryz.prog 129 #[.string s, .string p] w fun e w' => e = .returned (.bool (Lib.hasPrefix s.data.toList p.data.toList)) ∧ w' = w := by
  rw [← Lib.hasPrefix_of_take, ← Lib.size_eq, ← Lib.size_eq]
  go_enter Tryz.func129, Tryz.ntmps129
  go_wp2
  · rename_i h
    go_ret
    refine ⟨?_, rfl⟩
    show Ending.returned (Value.bool ((s.extract 0 p.size).toList == p.toList)) = _
    rw [Lib.extract_toList, Lib.toList_data]
    simp [h]
  · rename_i h
    go_ret
    refine ⟨?_, rfl⟩
    show Ending.returned (Value.bool false) = _
    simp [h]
def cutP (s : ByteArray) : Value := .tuple #[.string ⟨(if s.data.toList.head? = some 45 then s.data.toList.tail else s.data.toList).toArray⟩, .bool (decide (s.data.toList.head? = some 45))]
theorem has45 (s : ByteArray) : Lib.hasPrefix s.data.toList (⟨#[45]⟩ : ByteArray).data.toList = decide (s.data.toList.head? = some 45) := by
  cases hs : s.data.toList with
  | nil => rfl
  | cons b l =>
    simp only [Lib.hasPrefix, List.isPrefixOf, List.head?_cons, Option.some.injEq]
    by_cases h : b = 45
    · subst h; rfl
    · have h2 : (45 == b) = false := by simpa using fun e => h e.symm
      simp [h, h2]
theorem ba_mk (s : ByteArray) : (⟨s.data.toList.toArray⟩ : ByteArray) = s := by simp
set_option maxHeartbeats 1000000 in
theorem str_CutPrefix0 (s : ByteArray) (w : World) :
    Calls Tryz.prog 114 #[.string s, .string ⟨#[45]⟩] w fun e w' => e = .returned (cutP s) ∧ w' = w := by
  have HP := str_HasPrefix s ⟨#[45]⟩ w
  rw [has45] at HP
  unfold cutP
  by_cases hb : s.data.toList.head? = some 45
  · rw [decide_eq_true hb] at HP
    rw [decide_eq_true hb, if_pos hb]
    have hsz : 1 ≤ s.size := by
      rw [Lib.size_eq]
      cases hs : s.data.toList with
      | nil => rw [hs] at hb; cases hb
      | cons b l => simp
    have hx1 : s.extract 1 s.size = ⟨s.data.toList.tail.toArray⟩ := by
      rw [← ba_mk (s.extract 1 s.size), ← Lib.toList_data, Lib.extract_toList, List.take_of_length_le (by rw [Lib.size_eq]; simp), List.drop_one]
    have HP := Lib.hid HP
    clear hb
    go_enter Tryz.func114, Tryz.ntmps114
    go_wp2_with fail
    refine HP.out.mono ?_
    rintro e w2 ⟨rfl, rfl⟩
    go_wp2_with fail
    trace_state
    go_ret2
    exact ⟨rfl, rfl⟩
  · rw [decide_eq_false hb] at HP
    rw [decide_eq_false hb, if_neg hb, ba_mk]
    have HP := Lib.hid HP
    clear hb
    go_enter Tryz.func114, Tryz.ntmps114
    go_wp2_with fail
    refine HP.out.mono ?_
    rintro e w2 ⟨rfl, rfl⟩
    go_wp2_with fail
    go_ret2
    exact ⟨rfl, rfl⟩
set_option maxHeartbeats 1000000 in
theorem str_CutPrefix (s : ByteArray) (w : World) :
    Calls Tryz.prog 97 #[.string s, .string ⟨#[45]⟩] w fun e w' => e = .returned (cutP s) ∧ w' = w := by
  have HP := str_CutPrefix0 s w
  unfold cutP at HP ⊢
  generalize decide (s.data.toList.head? = some 45) = b at *
  generalize (⟨(if s.data.toList.head? = some 45 then s.data.toList.tail else s.data.toList).toArray⟩ : ByteArray) = r at *
  have HP := Lib.hid HP
  go_enter Tryz.func97, Tryz.ntmps97
  go_wp2_with fail
  refine HP.out.mono ?_
  rintro e w2 ⟨rfl, rfl⟩
  go_wp2_with fail
  go_ret2
  exact ⟨rfl, rfl⟩
set_option maxHeartbeats 2000000 in
theorem str_trimLeftByte (s : ByteArray) (c : UInt8) (w : World) :
    Calls Tryz.prog 109 #[.string s, .int .u8 c.toNat] w fun e w' => e = .returned (.string ⟨(Lib.trimLeftB s.data.toList c).toArray⟩) ∧ w' = w := by
  go_enter Tryz.func109, Tryz.ntmps109
  go_wp2
  go_loop [0] (fun v => ∃ k : Nat, k ≤ s.size ∧ v = .string ⟨(s.data.toList.drop k).toArray⟩ ∧ ∀ (j : Nat) b, j < k → s.data.toList[j]? = some b → b = c) (fun v => Lib.strSize v)
  case atStart => exact ⟨0, Nat.zero_le _, by simp, fun j b hj => absurd hj (Nat.not_lt_zero _)⟩
  case round =>
    obtain ⟨k, hk, rfl, hc⟩ := hrel
    have hts : (⟨(s.data.toList.drop k).toArray⟩ : ByteArray).size = s.size - k := by rw [Lib.size_mk, List.length_drop, ← Lib.size_eq]
    have hb0 : ∀ h, s.data.toList[k]? = some ((⟨(s.data.toList.drop k).toArray⟩ : ByteArray)[0]'h) := by
      intro h
      rw [← Lib.getElem_mk (s.data.toList.drop k) 0 h, List.getElem?_drop]
      rfl
    have hx1 : (⟨(s.data.toList.drop k).toArray⟩ : ByteArray).extract 1 (s.size - k) = ⟨(s.data.toList.drop (k + 1)).toArray⟩ := by
      rw [Lib.extract_mk, List.drop_drop, List.take_of_length_le (by simp; omega)]
    have hK : Lib.Kept (∀ (j : Nat) b, j < k → s.data.toList[j]? = some b → b = c) := hc
    clear hc
    generalize ht : (⟨(s.data.toList.drop k).toArray⟩ : ByteArray) = t at hts hb0 hx1 ⊢
    have hK3 : Lib.Kept ((⟨(s.data.toList.drop k).toArray⟩ : ByteArray) = t) := ht
    clear ht
    have hkl : Lib.Kept (k ≤ s.data.toList.length) := by rw [← Lib.size_eq]; exact hk
    by_cases h0 : 0 < t.size
    · have hbk := hb0 h0
      clear hb0
      by_cases heq : t[0]'h0 = c
      · have heq' : ((t[0]'h0).toNat : Int) = (c.toNat : Int) := by rw [heq]
        have hK2 : Lib.Kept (s.data.toList[k]? = some (t[0]'h0)) := hbk
        have hp : 0 < s.size - k := by omega
        clear hbk
        go_wp2
        refine ⟨⟨k + 1, by omega, rfl, fun j b hj hb => ?_⟩, ?_⟩
        · by_cases e : j = k
          · subst e
            have h2 : s.data.toList[j]? = some (t[0]'h0) := hK2
            have h3 : s.data.toList[j]? = some b := by simpa using hb
            rw [h2] at h3
            rw [← Option.some.inj h3, heq]
          · exact hK j b (by omega) (by simpa using hb)
        · rw [Lib.strSize_string, Lib.strSize_string, Lib.size_mk, List.length_drop, ← Lib.size_eq]
          omega
      · have hne' : ¬ ((t[0]'h0).toNat : Int) = (c.toNat : Int) := by
          intro e
          exact heq (UInt8.toNat_inj.1 (by exact_mod_cast e))
        have hbeq : (((t[0]'h0).toNat : Int) == (c.toNat : Int)) = false := by simpa using hne'
        have hp : 0 < s.size - k := by omega
        have hK2 : Lib.Kept (s.data.toList[k]? = some (t[0]'h0)) := hbk
        clear hbk
        go_wp2
        go_ret
        refine ⟨?_, rfl⟩
        have ht' : (⟨(s.data.toList.drop k).toArray⟩ : ByteArray) = t := hK3
        show Ending.returned (Value.string t) = _
        rw [Lib.trimLeftB_drop s.data.toList c k hkl hK (fun b hb => by
          have h2 : s.data.toList[k]? = some (t[0]'h0) := hK2
          rw [h2] at hb
          rw [← Option.some.inj hb]
          exact heq), ht']
    · clear hb0
      have hp : ¬ 0 < s.size - k := by omega
      go_wp2
      go_ret
      refine ⟨?_, rfl⟩
      have ht' : (⟨(s.data.toList.drop k).toArray⟩ : ByteArray) = t := hK3
      show Ending.returned (Value.string t) = _
      rw [Lib.trimLeftB_drop s.data.toList c k hkl hK (fun b hb => by
        have : s.data.toList.length ≤ k := by rw [← Lib.size_eq]; omega
        simp [List.getElem?_eq_none this] at hb), ht']
set_option maxHeartbeats 1000000 in
theorem str_TrimLeft0 (s : ByteArray) (w : World) :
    Calls Tryz.prog 94 #[.string s, .string ⟨#[48]⟩] w fun e w' => e = .returned (.string ⟨(Lib.trimLeftB s.data.toList 48).toArray⟩) ∧ w' = w := by
  have HP := Lib.hid (str_trimLeftByte s 48 w)
  by_cases hs : s = ⟨#[]⟩
  · subst hs
    clear HP
    go_enter Tryz.func94, Tryz.ntmps94
    go_wp2_with fail
    go_ret
    exact ⟨rfl, rfl⟩
  · have h1 : decide (s = ⟨#[]⟩) = false := by simpa using hs
    have he : s.toList.isEmpty = false := by
      rw [Lib.toList_data]
      cases hd : s.data.toList with
      | nil => exact absurd (by rw [← ba_mk s, hd]) hs
      | cons _ _ => rfl
    have h3 : decide ((((⟨#[48]⟩ : ByteArray)[0]'(by decide)).toNat : Int) < 128) = true := by decide
    have h4 : decide ((((⟨#[48]⟩ : ByteArray)[0]'(by decide)).toNat) < 128) = true := by decide
    go_enter Tryz.func94, Tryz.ntmps94
    go_wp2_with fail
    refine HP.out.mono ?_
    rintro e w2 ⟨rfl, rfl⟩
    go_wp2_with fail
    go_ret
    exact ⟨rfl, rfl⟩

theorem rev_step {n i j : Nat} {L M : List UInt8} (hM : M.length = n) (hi : i < j) (hj : j = n - 1 - i) (h : ∀ q, q < n → M[q]? = if q < i ∨ n - i ≤ q then L[n - 1 - q]? else L[q]?) (x y : UInt8) (hx : L[i]? = some x) (hy : L[j]? = some y) :
    ∀ q, q < n → ((M.set i y).set j x)[q]? = if q < i + 1 ∨ n - (i + 1) ≤ q then L[n - 1 - q]? else L[q]? := by
  intro q hq
  simp only [List.getElem?_set, List.length_set, hM]
  by_cases h1 : j = q
  · subst h1
    simp only [if_true, show j < n by omega]
    rw [if_pos (.inr (by omega)), ← hx]; congr 1; omega
  · rw [if_neg h1]
    by_cases h2 : i = q
    · subst h2
      simp only [if_true, show i < n by omega]
      rw [if_pos (.inl (by omega)), ← hy, hj]
    · rw [if_neg h2, h q hq]
      by_cases h3 : q < i ∨ n - i ≤ q
      · rw [if_pos h3, if_pos (by omega)]
      · rw [if_neg h3, if_neg (by omega)]
/-- A slice of bytes that the call made. -/
def OwnB (w : World) (B : Nat) (v : Value) (L : List UInt8) : Prop := w.ownsRow B 5 1 v L.length (Lib.byteCells L)
set_option maxHeartbeats 2000000 in
theorem sl_Reverse (B g cap : Nat) (L : List UInt8) (w : World) (h : OwnB w B (.slice (some ⟨g, 0, none⟩) L.length cap) L) (hB : B ≤ g) (hlen : L.length ≤ 1000000) :
    Calls Tryz.prog 93 #[.slice (some ⟨g, 0, none⟩) L.length cap] w fun e w' => e = .returned (.tuple #[]) ∧ OwnB w' B (.slice (some ⟨g, 0, none⟩) L.length cap) L.reverse ∧ Below B w w' := by
  have HO := Lib.hid h
  have HL := Lib.hid (rfl : L.length = L.length)
  obtain ⟨n, hn⟩ : ∃ n, L.length = n := ⟨_, rfl⟩
  clear h HL
  rw [hn] at hlen
  have HN := Lib.hid hn
  rw [hn]
  clear hn
  have mixed : Tryz.prog.follows Departure.mixedOrders = true := by kernel_rfl
  go_enter Tryz.func93, Tryz.ntmps93
  go_wp2_with fail
  go_loopg [2, 3] n (fun k s2 s3 wr => ∃ (i : Nat) (M : List UInt8), s2 = .int .i64 i ∧ s3 = .int .i64 ((n : Int) - 1 - i) ∧ 2 * i ≤ n + 1 ∧ k = n - i ∧ M.length = n ∧ (∀ q, q < n → M[q]? = if q < i ∨ n - i ≤ q then L[n - 1 - q]? else L[q]?) ∧
    wr.ownsRow B 5 1 (.slice (some ⟨g, 0, none⟩) n cap) n (Lib.byteCells M) ∧ Below B w wr)
  case atStart =>
    refine ⟨0, L, rfl, by go_num, by omega, rfl, HN.out, fun q hq => ?_, ?_, Below.refl _ _⟩
    · rw [if_neg (by omega)]
    · have := HO.out; unfold OwnB at this; rw [HN.out] at this; exact this
  case round =>
    obtain ⟨i, M, rfl, rfl, hi2, hk, hM, hq, hown, hb⟩ := hrel
    by_cases hlt : (i : Int) < (n : Int) - 1 - i
    · obtain ⟨j, hj⟩ : ∃ j : Nat, (n : Int) - 1 - i = j := ⟨n - 1 - i, by omega⟩
      rw [hj] at hlt ⊢
      have hij : i < j := by omega
      have hjn : j < n := by omega
      obtain ⟨x, hx⟩ : ∃ x, L[i]? = some x := ⟨_, List.getElem?_eq_getElem (by rw [HN.out]; omega)⟩
      obtain ⟨y, hy⟩ : ∃ y, L[j]? = some y := ⟨_, List.getElem?_eq_getElem (by rw [HN.out]; omega)⟩
      have mi : M[i]? = some x := by rw [hq i (by omega), if_neg (by omega)]; exact hx
      have mj : M[j]? = some y := by rw [hq j (by omega), if_neg (by omega)]; exact hy
      have e1 : wr.cell? ⟨g, i, none⟩ = some (.int .u8 (x.toNat : Int)) := by rw [World.ownsRow.cellAt hown i (by omega)]; simp [Lib.byteCells, mi]
      have e2 : wr.cell? ⟨g, j, none⟩ = some (.int .u8 (y.toNat : Int)) := by rw [World.ownsRow.cellAt hown j (by omega)]; simp [Lib.byteCells, mj]
      have f1 := World.ownsRow.frozenAt hown i
      have f2 := World.ownsRow.frozenAt hown j
      have hs1 := World.ownsRow.stored hown i (.int .u8 (y.toNat : Int))
      have hs2 := World.ownsRow.stored hs1.1 j (.int .u8 (x.toNat : Int))
      have e3 : (wr.setCell ⟨g, i, none⟩ (.int .u8 (y.toNat : Int))).cell? ⟨g, j, none⟩ = some (.int .u8 (y.toNat : Int)) := by
        rw [World.ownsRow.cellAt hs1.1 j (by omega), List.getElem?_set, if_neg (by omega)]; simp [Lib.byteCells, mj]
      have f3 := World.ownsRow.frozenAt hs1.1 j
      have hcells : ((Lib.byteCells M).set i (.int .u8 (y.toNat : Int))).set j (.int .u8 (x.toNat : Int)) = Lib.byteCells ((M.set i y).set j x) := by simp [Lib.byteCells, List.map_set]
      rw [hcells] at hs2
      have A := Lib.hid (And.intro hs2.1 (And.intro (rev_step hM hij (by omega) hq x y hx hy) ((hb.setCell (p := ⟨g, i, none⟩) hB (.int .u8 (y.toNat : Int))).setCell (p := ⟨g, j, none⟩) hB (.int .u8 (x.toNat : Int)))))
      have HB2 := Lib.hid (And.intro hM hk)
      have hij2 : (i : Int) < (j : Int) := by omega
      have hji : ¬ i = j := by omega
      have hjn2 : (j : Int) < (n : Int) := by omega
      have hin2 : (i : Int) < (n : Int) := by omega
      have HJ := Lib.hid hj
      clear hs1 hs2 hcells hown hq hb hM hk mi mj hx hy hj
      go_wp2_with fail
      go_region_o
      go_wp2_with fail
      go_roundg (n - (i + 1))
      case measure => have := HB2.out.2; omega
      case rel =>
        obtain ⟨h1, h2, h3⟩ := A.out
        have := HJ.out
        exact ⟨i + 1, (M.set i y).set j x, by go_num, by go_num, by omega, rfl, by simp [HB2.out.1], h2, h1.drew, h3.drew⟩
    · have HQ := Lib.hid hq
      have HM := Lib.hid hM
      have d1 : decide ((i : Int) < (n : Int) - 1 - i) = false := by simpa using hlt
      have HOW := Lib.hid hown
      have HBW := Lib.hid hb
      clear hq hM hk hown hb
      go_wp2_with fail
      go_end0
      refine ⟨rfl, ?_, HBW.out⟩
      have hMr : M = L.reverse := by
        apply List.ext_getElem?
        intro q
        by_cases hqn : q < n
        · rw [HQ.out q hqn, List.getElem?_reverse (by rw [HN.out]; exact hqn), HN.out]
          by_cases h3 : q < i ∨ n - i ≤ q
          · rw [if_pos h3]
          · rw [if_neg h3]; congr 1; omega
        · rw [List.getElem?_eq_none (by rw [HM.out]; omega), List.getElem?_eq_none (by rw [List.length_reverse, HN.out]; omega)]
      unfold OwnB
      rw [List.length_reverse, HN.out, ← hMr]
      exact HOW.out
end Go.Proofs.YtnpeakahiedeoaaGreatDoor
