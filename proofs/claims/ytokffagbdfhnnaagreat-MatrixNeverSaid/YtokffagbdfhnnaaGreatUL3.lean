import Derived.Test.YtokffagbdfhnnaaGreatUP
import Derived.Test.YtokffagbdfhnnaaGreatUS
import Derived.OwnWalk
import Derived.Deep.QuietTactic
import Derived.Deep.Cut
namespace Go.Proofs.YtokffagbdfhnnaaGreat
open Go.RowKit Go BigFrame Go.Shelf
set_option maxRecDepth 100000
set_option linter.unusedSimpArgs false
set_option linter.unusedVariables false
attribute [local go_sem] Oper.semAt_some

/-! MatrixNever. -/
theorem fewL_len {L : List RatA} (h : fewL L = true) : L.length ≤ 1000 := by
  unfold fewL lenF at h
  simp only [Bool.or_eq_true, Bool.and_eq_true, decide_eq_true_eq] at h
  omega
theorem optA_sz {x : RatA} {r : Rat} (hf : fewX x = true) (h : optA x = some r) : Sz r 2 := by
  unfold optA at h
  by_cases hok : x.ok = true
  · rw [if_pos hok] at h
    have e : valA x = r := Option.some.inj h
    obtain ⟨_, e1, e2⟩ := ok_valA hok
    obtain ⟨s, h1, h2, h3, h4, _⟩ := okR_rat hok
    unfold fewX at hf
    simp only [Bool.and_eq_true, decide_eq_true_eq] at hf
    have s1 : sgn x.n (dval x.l) = s.num := by have := h1.2.2; unfold sgn; rw [this]
    have s2 : sgn x.n2 (dval x.m) = (s.den : Int) := by have := h2.2.2; unfold sgn; rw [this]
    have es : valA x = s := Rat.ext (e1.trans s1) (by have := e2.trans s2; exact_mod_cast this)
    rw [← e, es]
    exact ⟨Nat.lt_of_lt_of_le h3 (Nat.pow_le_pow_right (by omega) hf.1), Nat.lt_of_lt_of_le h4 (Nat.pow_le_pow_right (by omega) hf.2)⟩
  · rw [if_neg hok] at h; cases h
theorem vecO_sz {L : List RatA} (hf : fewL L = true) : ∀ c, c < L.length → ∀ r, vecO L c = some r → Sz r 2 := fun c hc r h => by
  unfold fewL at hf
  simp only [Bool.and_eq_true] at hf
  unfold vecO at h
  have e : L.getD c noA = L[c] := by rw [List.getD_eq_getElem?_getD, List.getElem?_eq_getElem hc]; rfl
  rw [e] at h
  exact optA_sz (List.all_eq_true.1 hf.2 _ (List.getElem_mem hc)) h
theorem dotM_all {f g : Nat → Option Rat} {n : Nat} {s : Rat} (h : dotM f g n = some s) {c : Nat} (hc : c < n) : g c = some ((g c).getD 0) := by
  cases hg : g c with
  | none => rw [dotM_none (.inr hg) hc] at h; cases h
  | some y => rfl
section
variable {A : List (List RatA)} {X Y B : List RatA}
theorem never_ref (hv : vecE A B A.length = 0) (h : refutesB A.length (widA A) Y.length (mxA A) (vecO Y) (vecF B) = true) (hs : solOk A B = true) : False := by
  obtain ⟨_, h1, h2⟩ := refutesB_iff.1 h
  have hall : ∀ c, c < A.length → vecO Y c = some ((vecO Y c).getD 0) := fun c hc => dotM_all h2 hc
  refine never_mx (A := A) (L := B) (x := solF A B) (y := fun c => (vecO Y c).getD 0) (sol_eqs hv hs) (fun k hk => ?_) ?_
  · have := h1 k hk
    rw [dotM_some (F := fun r => mxA A r k) (G := fun c => (vecO Y c).getD 0) fun c hc => ⟨rfl, hall c hc⟩] at this
    exact Option.some.inj this
  · rw [dotM_some (F := vecF B) (G := fun c => (vecO Y c).getD 0) fun c hc => ⟨rfl, hall c hc⟩] at h2
    exact Option.some.inj h2
theorem solves_ok (hv : vecE A B A.length = 0) (h : solvesB A.length (widA A) (mxA A) (vecO X) (vecF B) = true) : solOk A B = true := by
  refine ok_of_mx hv (x := fun c => (vecO X c).getD 0) fun r hr => ?_
  have h1 := solvesB_iff.1 h r hr
  rw [dotM_some (F := mxA A r) (G := fun c => (vecO X c).getD 0) fun c hc => ⟨rfl, dotM_all h1 hc⟩] at h1
  exact Option.some.inj h1
end
set_option maxHeartbeats 16000000 in
theorem law11_MatrixNever (a : Option Addr) (cap : Nat) (A : List (List RatA)) (s : Option Addr) (sc : Nat) (B : List RatA) (t : Option Addr) (tc : Nat) (X : List RatA) (u : Option Addr) (uc : Nat) (Y : List RatA) (w : World) (h : RRows w a cap A) (kb : RatsI w s sc B) (kx : RatsI w t tc X) (ky : RatsI w u uc Y) :
    Calls Tryz.prog 5 #[.slice a A.length cap, .slice s B.length sc, .slice t X.length tc, .slice u Y.length uc] w fun e w' => e = .returned (.bool true) ∧ Ext w w' := by
  have hle := h.le
  have hmx := h.mx
  have sle := kb.le
  have smx := kb.mx
  have tle := kx.le
  have tmx := kx.mx
  have ule := ky.le
  have umx := ky.mx
  have HH := Lib.hid h
  have HB := Lib.hid kb
  have HXX := Lib.hid kx
  have HYY := Lib.hid ky
  have HWD : Hid (0 < A.length → ∃ b o a' c', a = some ⟨b, o, none⟩ ∧ w.cell? ⟨b, o, none⟩ = some (.slice a' (widA A) c')) := Lib.hid fun h0 => by
    obtain ⟨b, o, rfl⟩ := HH.out.head h0
    obtain ⟨L0, ar, cr, e1, e2, _⟩ := HH.out.get h0
    refine ⟨b, o, ar, cr, rfl, ?_⟩
    have : widA A = L0.length := by unfold widA; rw [List.getD_eq_getElem?_getD, e1]; rfl
    rw [this]
    simpa using e2
  clear h kb kx ky
  go_enter Tryz.func5, Tryz.ntmps5
  go_wp2_with fail
  refine (law11_sane _).mono ?_
  rintro e x1 ⟨rfl, hy⟩
  have HX := Lib.hid hy
  clear hy
  go_wp2_with fail
  refine (few_Mat a cap A _ (RRows.ext HX.out HH.out)).mono ?_
  rintro e x2 ⟨rfl, hy⟩
  replace HX := Lib.hid (HX.out.trans hy)
  clear hy
  cases hfa : fewA A with
  | false =>
    go_wp2_with fail
    go_ret
    exact ⟨rfl, HX.out⟩
  | true =>
  go_wp2_with fail
  refine (few_List s sc B _ (HB.out.ext HX.out)).mono ?_
  rintro e x3 ⟨rfl, hy⟩
  replace HX := Lib.hid (HX.out.trans hy)
  clear hy
  cases hfb : fewL B with
  | false =>
    go_wp2_with fail
    go_ret
    exact ⟨rfl, HX.out⟩
  | true =>
  go_wp2_with fail
  refine (few_List t tc X _ (HXX.out.ext HX.out)).mono ?_
  rintro e x4 ⟨rfl, hy⟩
  replace HX := Lib.hid (HX.out.trans hy)
  clear hy
  cases hfx : fewL X with
  | false =>
    go_wp2_with fail
    go_ret
    exact ⟨rfl, HX.out⟩
  | true =>
  go_wp2_with fail
  refine (few_List u uc Y _ (HYY.out.ext HX.out)).mono ?_
  rintro e x5 ⟨rfl, hy⟩
  replace HX := Lib.hid (HX.out.trans hy)
  clear hy
  cases hfy : fewL Y with
  | false =>
    go_wp2_with fail
    go_ret
    exact ⟨rfl, HX.out⟩
  | true =>
  go_wp2_with fail
  refine (matrix_Check a cap A _ (RRows.ext HX.out HH.out)).mono ?_
  rintro e x6 ⟨rfl, hy⟩
  replace HX := Lib.hid (HX.out.trans hy)
  clear hy
  by_cases hc : chkE A = 0
  case neg =>
    have g1 : (chkE A != 0) = true := by simp [hc]
    clear hc
    go_wp2_with fail
    go_ret
    exact ⟨rfl, HX.out⟩
  have HC := Lib.hid hc
  have HCK := Lib.hid (ref_Check11 a cap A x6 (RRows.ext HX.out HH.out))
  rw [hc] at HCK
  rw [hc]
  have hd := few_dim hfa hc
  have HBL := Lib.hid (fewL_len hfb)
  have HSX := Lib.hid (vecO_sz hfx)
  have HSY := Lib.hid (vecO_sz hfy)
  have hyl : Hid (fewL Y = true) := Lib.hid hfy
  clear hc hfa hfb hfx hfy
  go_wp2_with fail
  refine HCK.out.mono ?_
  rintro e x7 ⟨rfl, hy⟩
  replace HX := Lib.hid (HX.out.trans hy)
  clear hy HCK
  obtain ⟨d1, d2⟩ := hd
  go_wp2_with fail
  refine (matrix_Solve a cap A s sc B x7 (RRows.ext HX.out HH.out) (HB.out.ext HX.out) HBL.out (fun _ => few_S d1 d2)).mono ?_
  rintro e x8 ⟨b1, cb1, V1, rfl, hr1, hy⟩
  replace HX := Lib.hid (HX.out.trans hy)
  clear hy hr1
  go_wp2_with fail
  refine (matrix_Refute a cap A s sc B x8 (RRows.ext HX.out HH.out) (HB.out.ext HX.out) HBL.out (fun _ => few_T d1 d2)).mono ?_
  rintro e x9 ⟨b2, cb2, V2, rfl, hr2, hy⟩
  replace HX := Lib.hid (HX.out.trans hy)
  clear hy hr2
  by_cases hz : vecE A B A.length = 0
  case neg =>
    have g1 : (vecE A B A.length != 0) = true := by simp [hz]
    have g2 : (vecE A B A.length == vecE A B A.length) = true := by simp
    clear hz
    go_wp2_with fail
    go_ret
    exact ⟨rfl, HX.out⟩
  have HZ := Lib.hid hz
  have h3 := vecE_0 hz
  have hBA : B.length = A.length := by omega
  have HBA := Lib.hid hBA
  have HMR : Hid (∀ W, Ext w W → MatR W a cap A.length (widA A) (vxA A) (mxA A)) := Lib.hid fun W k => chk_read HC.out (RRows.ext k HH.out)
  have HBR : Hid (∀ W, Ext w W → RowR W s sc A.length (vecV B) (vecF B)) := Lib.hid fun W k => by have := els_read h3.2.2 (HB.out.ext k); rwa [hBA] at this
  have HSM := Lib.hid (mx_sz HC.out)
  have HSB : Hid (∀ r, r < A.length → Sz (vecF B r) 2) := Lib.hid (by rw [← hBA]; exact vec_sz h3.2.2)
  have HE := Lib.hid (either_mx hz)
  have HN0 : Hid (A.length = 0 → widA A = 0) := Lib.hid fun e => by rw [List.eq_nil_of_length_eq_zero e]; rfl
  have HRF : Hid (Calls Tryz.prog 20 #[.slice a A.length cap, .slice u Y.length uc, .slice s A.length sc] x9 fun e w' => e = .returned (.bool (refutesB A.length (widA A) Y.length (mxA A) (vecO Y) (vecF B))) ∧ Ext x9 w') := Lib.hid
    (law11_refutes a cap A.length (widA A) (vxA A) (mxA A) u uc Y.length (vecV Y) (vecO Y) s sc (vecV B) (vecF B) 2 x9 (HMR.out _ HX.out) HN0.out (rats_M (HYY.out.ext HX.out)) (HBR.out _ HX.out) HSM.out (fun _ => HSY.out) HSB.out (fun _ => by omega) (by omega) (by omega))
  rw [hz, hBA]
  clear hz h3 hBA hyl
  go_wp2_with fail
  refine HRF.out.mono ?_
  rintro e y1 ⟨rfl, hy⟩
  replace HX := Lib.hid (HX.out.trans hy)
  clear hy HRF
  have HR9 : Hid (refutesB A.length (widA A) Y.length (mxA A) (vecO Y) (vecF B) = true → solOk A B = false) := Lib.hid fun h => by
    cases hs : solOk A B with
    | false => rfl
    | true => exact (never_ref HZ.out h hs).elim
  have HWD2 : Hid (0 < A.length → ∃ b o a' c', a = some ⟨b, o, none⟩ ∧ y1.cell? ⟨b, o, none⟩ = some (.slice a' (widA A) c')) := Lib.hid fun h0 => by
    obtain ⟨b, o, a', c', e1, e2⟩ := HWD.out h0
    exact ⟨b, o, a', c', e1, cell_exQ HX.out e2⟩
  obtain ⟨F, hF⟩ : ∃ F, refutesB A.length (widA A) Y.length (mxA A) (vecO Y) (vecF B) = F := ⟨_, rfl⟩
  obtain ⟨S, hS⟩ : ∃ S, solOk A B = S := ⟨_, rfl⟩
  have HS := Lib.hid hS
  have hr : refOk A B = !S := by rw [HE.out, hS]
  rw [hF, hS] at HR9
  rw [hF, hS, hr]
  have key : (F && S) = false := by
    cases F with
    | false => rfl
    | true => rw [HR9.out rfl]; rfl
  clear hF hS hr HR9 HE
  have HCO := Lib.hid (ref_Columns a cap A.length (widA A) y1 HWD2.out)
  rw [wid_if] at HCO
  clear HWD HWD2
  have step : (F = false ∨ S = false) := by cases F <;> cases S <;> first | exact .inl rfl | exact .inr rfl | cases key
  clear key
  by_cases hX : X.length = widA A
  case neg =>
    have g1 : ((X.length : Int) != (widA A : Int)) = true := by simp; omega
    cases F with
    | false =>
      go_wp2_with fail
      refine HCO.out.mono ?_
      rintro e y2 ⟨rfl, rfl⟩
      go_wp2_with fail
      go_ret
      exact ⟨rfl, HX.out⟩
    | true =>
      obtain rfl : S = false := step.resolve_left (by simp)
      go_wp2_with fail
      refine HCO.out.mono ?_
      rintro e y2 ⟨rfl, rfl⟩
      go_wp2_with fail
      go_ret
      exact ⟨rfl, HX.out⟩
  have g1 : ((X.length : Int) != (widA A : Int)) = false := by simp [hX]
  rw [hX] at g1
  have HSV : Hid (Calls Tryz.prog 22 #[.slice a A.length cap, .slice t (widA A) tc, .slice s A.length sc] y1 fun e w' => e = .returned (.bool (solvesB A.length (widA A) (mxA A) (vecO X) (vecF B))) ∧ Ext y1 w') := Lib.hid (by
    have hm := rats_M (HXX.out.ext HX.out)
    have hsz := HSX.out
    rw [hX] at hm hsz
    exact law11_solves a cap A.length (widA A) (vxA A) (mxA A) t tc (vecV X) (vecO X) s sc (vecV B) (vecF B) 2 y1 (HMR.out _ HX.out) hm (HBR.out _ HX.out) HSM.out hsz HSB.out (by omega))
  obtain ⟨T, hT⟩ : ∃ T, solvesB A.length (widA A) (mxA A) (vecO X) (vecF B) = T := ⟨_, rfl⟩
  rw [hT] at HSV
  have hTS : Hid (T = true → S = true) := Lib.hid fun e => by rw [← HS.out]; exact solves_ok HZ.out (hT.trans e)
  rw [hX]
  clear hX hT HSX HXX
  cases T with
  | false =>
    rcases step with rfl | rfl
    · go_wp2_with fail
      refine HCO.out.mono ?_
      rintro e y2 ⟨rfl, rfl⟩
      go_wp2_with fail
      refine HSV.out.mono ?_
      rintro e y3 ⟨rfl, hy⟩
      replace HX := Lib.hid (HX.out.trans hy)
      clear hy HSV
      go_wp2_with fail
      go_ret
      exact ⟨rfl, HX.out⟩
    · cases F
      · go_wp2_with fail
        refine HCO.out.mono ?_
        rintro e y2 ⟨rfl, rfl⟩
        go_wp2_with fail
        refine HSV.out.mono ?_
        rintro e y3 ⟨rfl, hy⟩
        replace HX := Lib.hid (HX.out.trans hy)
        clear hy HSV
        go_wp2_with fail
        go_ret
        exact ⟨rfl, HX.out⟩
      · go_wp2_with fail
        refine HCO.out.mono ?_
        rintro e y2 ⟨rfl, rfl⟩
        go_wp2_with fail
        refine HSV.out.mono ?_
        rintro e y3 ⟨rfl, hy⟩
        replace HX := Lib.hid (HX.out.trans hy)
        clear hy HSV
        go_wp2_with fail
        go_ret
        exact ⟨rfl, HX.out⟩
  | true =>
    obtain rfl := hTS.out rfl
    obtain rfl : F = false := step.resolve_right (by simp)
    go_wp2_with fail
    refine HCO.out.mono ?_
    rintro e y2 ⟨rfl, rfl⟩
    go_wp2_with fail
    refine HSV.out.mono ?_
    rintro e y3 ⟨rfl, hy⟩
    replace HX := Lib.hid (HX.out.trans hy)
    clear hy HSV
    go_wp2_with fail
    go_ret
    exact ⟨rfl, HX.out⟩
end Go.Proofs.YtokffagbdfhnnaaGreat
