import Derived.Test.YtnpeakahiedeoaaGreatDoorPRead
namespace Go.Proofs.YtnpeakahiedeoaaGreatDoor
open Go.RowKit Go BigFrame Go.Shelf
set_option maxRecDepth 100000
set_option linter.unusedSimpArgs false

theorem numL_acc : ∀ (l : List UInt8) (a : Nat), 0 < a → 0 < l.foldl (fun a b => a * 10 + (b.toNat - 48)) a
  | [], a, h => h
  | b :: l, a, h => numL_acc l (a * 10 + (b.toNat - 48)) (by omega)
theorem numL_pos {b : UInt8} {l : List UInt8} (h : b ≠ 48) (hd : (b :: l).all isDig = true) : 0 < numL (b :: l) := by
  rw [List.all_cons, Bool.and_eq_true] at hd
  have h2 := hd.1
  simp only [isDig, Bool.and_eq_true, decide_eq_true_eq] at h2
  have h3 : b.toNat ≠ 48 := fun e => h (UInt8.toNat_inj.1 e)
  exact numL_acc l (0 * 10 + (b.toNat - 48)) (by omega)
theorem read_val (s : ByteArray) (w : World) (hs : s.size ≤ 1000) : Calls Tryz.prog 64 #[.string s] w (ReadP (readL s.data.toList) w) := by
  unfold readL
  by_cases hb : okHead (negOf s.data.toList) (restOf s.data.toList) = true
  · rw [hb, Bool.true_and]
    obtain ⟨R, hR⟩ : ∃ R : ByteArray, ⟨(restOf s.data.toList).toArray⟩ = R := ⟨_, rfl⟩
    have hRl : restOf s.data.toList = R.data.toList := by rw [← hR]
    have hRs : R.size ≤ 1000 := by
      rw [Lib.size_eq, ← hRl]
      have h1 : (restOf s.data.toList).length ≤ s.data.toList.length := by
        unfold restOf; split
        · simp
        · exact Nat.le_refl _
      rw [← Lib.size_eq] at h1; omega
    rw [hRl] at hb ⊢
    cases hl : R.data.toList with
    | nil => rw [hl] at hb; simp [okHead] at hb
    | cons b l =>
      have h3 : 0 < R.size := by rw [Lib.size_eq, hl]; simp
      have hb0 : R[0]'h3 = b := by
        have h4 : R.data.toList[0]? = some b := by rw [hl]; rfl
        rw [List.getElem?_eq_getElem (by rw [← Lib.size_eq]; exact h3)] at h4
        exact Option.some.inj h4
      rw [hl] at hb
      rw [← hl]
      refine nat_Read_body s R _ (R.toList == [48]) w hRl rfl hRs (by rw [Lib.toList_data, hl]; rfl) rfl h3 ?_ ?_ ?_
      · intro hz he
        rw [hb0] at he
        obtain rfl : b = 48 := UInt8.toNat_inj.1 (by show b.toNat = 48; omega)
        rw [Lib.toList_data, hl] at hz
        cases l with
        | nil => simp at hz
        | cons c l => simp [okHead] at hb
      · intro hz
        rw [Lib.toList_data, hl] at hz
        simp at hz
        obtain ⟨rfl, rfl⟩ := hz
        simpa [okHead] using hb
      · intro hn ha
        rw [hl] at ha ⊢
        refine numL_pos ?_ ha
        intro e
        subst e
        cases l with
        | nil => simp [okHead, hn] at hb
        | cons c l => simp [okHead] at hb
  · have hb' : okHead (negOf s.data.toList) (restOf s.data.toList) = false := by simpa using hb
    rw [hb', Bool.false_and, if_neg (by simp)]
    exact (nat_Read_head s w hb').mono fun e w' h => ReadP.none h
end Go.Proofs.YtnpeakahiedeoaaGreatDoor
