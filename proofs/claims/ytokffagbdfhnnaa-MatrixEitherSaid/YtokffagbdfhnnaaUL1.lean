import Derived.Test.YtokffagbdfhnnaaUP
import Derived.Test.YtokffagbdfhnnaaUS
import Derived.OwnWalk
import Derived.Deep.QuietTactic
import Derived.Deep.Cut
namespace Go.Proofs.Ytokffagbdfhnnaa
open Go.RowKit Go BigFrame Go.Shelf
set_option maxRecDepth 100000
set_option linter.unusedSimpArgs false
set_option linter.unusedVariables false
attribute [local go_sem] Oper.semAt_some

/-! MatrixEither. -/
theorem fewL_len {L : List RatA} (h : fewL L = true) : L.length ≤ 1000 := by
  unfold fewL lenF at h
  simp only [Bool.or_eq_true, Bool.and_eq_true, decide_eq_true_eq] at h
  omega
set_option maxHeartbeats 8000000 in
theorem law11_MatrixEither (a : Option Addr) (cap : Nat) (A : List (List RatA)) (s : Option Addr) (sc : Nat) (L : List RatA) (w : World) (h : RRows w a cap A) (k : RatsI w s sc L) :
    Calls Try.prog 4 #[.slice a A.length cap, .slice s L.length sc] w fun e w' => e = .returned (.bool true) ∧ Ext w w' := by
  have hle := h.le
  have hmx := h.mx
  have sle := k.le
  have smx := k.mx
  have HH := Lib.hid h
  have HK := Lib.hid k
  clear h k
  go_enter Try.func4, Try.ntmps4
  go_wp2_with fail
  refine (law11_sane _).mono ?_
  rintro e x1 ⟨rfl, hy⟩
  have HX := Lib.hid hy
  clear hy
  go_wp2_with fail
  refine (few_Mat a cap A _ (RRows.ext HX.out HH.out)).mono ?_
  rintro e x2 ⟨rfl, hy⟩
  replace HX := Lib.hid (HX.out.trans hy)
  clear hy
  cases hfa : fewA A with
  | false =>
    go_wp2_with fail
    go_ret
    exact ⟨rfl, HX.out⟩
  | true =>
  go_wp2_with fail
  refine (few_List s sc L _ (HK.out.ext HX.out)).mono ?_
  rintro e x3 ⟨rfl, hy⟩
  replace HX := Lib.hid (HX.out.trans hy)
  clear hy
  cases hfl : fewL L with
  | false =>
    go_wp2_with fail
    go_ret
    exact ⟨rfl, HX.out⟩
  | true =>
  have hL := fewL_len hfl
  have HL := Lib.hid hL
  have HD : Hid (vecE A L A.length = 0 → A.length ≤ 4 ∧ widA A ≤ 4) := Lib.hid fun e => few_dim hfa (vecE_0 e).1
  clear hfa hfl hL
  go_wp2_with fail
  refine (matrix_Solve a cap A s sc L x3 (RRows.ext HX.out HH.out) (HK.out.ext HX.out) HL.out (fun e => few_S (HD.out e).1 (HD.out e).2)).mono ?_
  rintro e x4 ⟨b1, cb1, V1, rfl, hr1, hy⟩
  replace HX := Lib.hid (HX.out.trans hy)
  have HR1 := Lib.hid hr1
  clear hy hr1
  go_wp2_with fail
  refine (matrix_Refute a cap A s sc L x4 (RRows.ext HX.out HH.out) (HK.out.ext HX.out) HL.out (fun e => few_T (HD.out e).1 (HD.out e).2)).mono ?_
  rintro e x5 ⟨b2, cb2, V2, rfl, hr2, hy⟩
  replace HX := Lib.hid (HX.out.trans hy)
  replace HR1 := Lib.hid (HR1.out.ext hy)
  have HR2 := Lib.hid hr2
  clear hy hr2
  by_cases hz : vecE A L A.length = 0
  · have hd := HD.out hz
    have h3 := vecE_0 hz
    have hLA : L.length = A.length := by omega
    have HZ := Lib.hid hz
    have HC := Lib.hid (chk_read h3.1 (RRows.ext HX.out HH.out))
    have HB := Lib.hid (els_read h3.2.2 (HK.out.ext HX.out))
    have HSZ := Lib.hid (And.intro (mx_sz h3.1) (vec_sz h3.2.2))
    have HE := Lib.hid (either_mx hz)
    rw [hz]
    rw [hLA] at HB
    clear h3 HD
    cases hs : solOk A L with
    | true =>
      have hr : refOk A L = false := by rw [HE.out, hs]; rfl
      have n1 : solN A L = widA A := by unfold solN; rw [hs]; rfl
      have n2 : refN A L = 0 := by unfold refN; rw [hr]; rfl
      rw [n1] at HR1
      have r1le := HR1.out.le
      have r1mx := HR1.out.mx
      have HG := Lib.hid (sol_solves HZ.out hs)
      have HS2 := Lib.hid (solF_sz HZ.out hd.1 hd.2)
      rw [hr, n1, n2]
      rw [hLA]
      have HSB : Hid (∀ r, r < A.length → Sz (vecF L r) 2) := Lib.hid (by rw [← hLA]; exact HSZ.out.2)
      have HW := Lib.hid (show 1 + (2 + 354 + 1) * widA A + 2 ≤ 2048 by have := hd.2; omega)
      clear hr n1 n2 hs HE HR2 hd hLA HZ hz
      go_wp2_with fail
      refine (law11_solves a cap A.length (widA A) (vxA A) (mxA A) b1 cb1 V1 (fun c => some (solF A L c)) s sc (vecV L) (vecF L) 354 x5 HC.out HR1.out.toM HB.out HSZ.out.1 (fun c hc y e => by cases e; exact HS2.out c) HSB.out HW.out).mono ?_
      rintro e x6 ⟨rfl, hy⟩
      replace HX := Lib.hid (HX.out.trans hy)
      rw [HG.out]
      clear hy
      go_wp2_with fail
      go_ret
      exact ⟨rfl, HX.out⟩
    | false =>
      have hr : refOk A L = true := by rw [HE.out, hs]; rfl
      have n1 : solN A L = 0 := by unfold solN; rw [hs]; rfl
      have n2 : refN A L = A.length := by unfold refN; rw [hr]; rfl
      rw [n2] at HR2
      have r1le := HR2.out.le
      have r1mx := HR2.out.mx
      have HG := Lib.hid (ref_refutes HZ.out hr)
      have HS2 := Lib.hid (refF_sz HZ.out hd.1 hd.2)
      rw [hr, n1, n2]
      rw [hLA]
      have HSB : Hid (∀ r, r < A.length → Sz (vecF L r) 2) := Lib.hid (by rw [← hLA]; exact HSZ.out.2)
      have HW := Lib.hid (show 1 + (2 + 434 + 1) * A.length + 2 ≤ 2048 by have := hd.1; omega)
      have HN0 : Hid (A.length = 0 → widA A = 0) := Lib.hid fun e => by rw [List.eq_nil_of_length_eq_zero e]; rfl
      have h4 := hd.1
      have h5 := hd.2
      clear hr n1 n2 hs HE HR1 hd hLA HZ hz
      go_wp2_with fail
      refine (law11_refutes a cap A.length (widA A) (vxA A) (mxA A) b2 cb2 A.length V2 (fun c => some (refF A L c)) s sc (vecV L) (vecF L) 434 x5 HC.out HN0.out HR2.out.toM HB.out HSZ.out.1 (fun _ c hc y e => by cases e; exact HS2.out c) HSB.out (fun _ => HW.out) (by omega) (by omega)).mono ?_
      rintro e x6 ⟨rfl, hy⟩
      replace HX := Lib.hid (HX.out.trans hy)
      rw [HG.out]
      clear hy
      go_wp2_with fail
      go_ret
      exact ⟨rfl, HX.out⟩
  · have s1 : solOk A L = false := by unfold solOk; rw [decide_eq_false hz]; rfl
    have s2 : refOk A L = false := by unfold refOk; rw [decide_eq_false hz]; rfl
    have n1 : solN A L = 0 := by unfold solN; rw [s1]; rfl
    have n2 : refN A L = 0 := by unfold refN; rw [s2]; rfl
    rw [s1, s2, n1, n2]
    have g1 : (vecE A L A.length != 0) = true := by simp [hz]
    have g2 : (vecE A L A.length == vecE A L A.length) = true := by simp
    clear s1 s2 n1 n2 hz HR1 HR2 HD
    go_wp2_with fail
    go_ret
    exact ⟨rfl, HX.out⟩
end Go.Proofs.Ytokffagbdfhnnaa
