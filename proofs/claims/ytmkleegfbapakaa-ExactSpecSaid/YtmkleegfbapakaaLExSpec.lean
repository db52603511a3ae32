import Derived.Test.YtmkleegfbapakaaELaw0
namespace Go.Proofs.Ytmkleegfbapakaa
open Go.RowKit Go BigFrame
set_option maxRecDepth 100000
set_option linter.unusedSimpArgs false

set_option maxHeartbeats 2000000 in
theorem lawExactSpec (a : Option Addr) (cap : Nat) (l : List Int) (k sum : Int) (w : World) (h : Ints w a cap l) :
    Calls Try.prog 8 #[.slice a l.length cap, .int .i64 k, .int .i64 sum] w fun e w' => e = .returned (.bool true) ∧ Ext w w' := by
  have hle := h.le
  have hmx := h.mx
  go_enter Try.func8, Try.ntmps8
  go_wp2_with fail
  with_reducible refine (law41Sane _).mono ?_
  rintro e w1 ⟨rfl, hy⟩
  have HI := Lib.hid (h.ext hy)
  have hx := hy
  clear h hy
  go_wp2_with fail
  with_reducible refine (ref_Few41 _ _ _ _).mono ?_
  rintro e w1 ⟨rfl, rfl⟩
  cases hf : fewB41 l.length with
  | false =>
    clear hf
    go_wp2_with fail
    go_ret
    exact ⟨rfl, hx⟩
  | true =>
    have hfs : fewS l := by
      unfold fewB41 at hf
      simp only [Bool.or_eq_true, Bool.and_eq_true, decide_eq_true_eq] at hf
      unfold fewS; omega
    obtain ⟨z, hz⟩ : ∃ z, zS l k sum = z := ⟨_, rfl⟩
    obtain ⟨E, hE⟩ : ∃ E, eS l k = E := ⟨_, rfl⟩
    have H1 := exact_Subsets_any a cap k l sum w1 HI.out hfs
    rw [hz, hE] at H1
    have H1 := Lib.hid H1
    have H2 := fun (w' : World) (hy : Ext w1 w') => ref_Subsets_any a cap k l sum w' (HI.out.ext hy) hfs
    rw [hz, hE] at H2
    have H2 := Lib.hid H2
    clear hf hfs hz hE
    go_wp2_with fail
    refine H1.out.mono ?_
    rintro e w2 ⟨v, rfl, ⟨na, aa, ca, La, rfl, hia, hba, _⟩, hy⟩
    obtain ⟨qa, hqa⟩ : ∃ q, La.length = q := ⟨_, rfl⟩
    rw [hqa]
    have Qa := Lib.hid hqa
    clear hqa
    go_upto_region 6 with fail
    have hl := Ext.alloc w2 (.cells #[.bool na, .slice aa qa ca] 42)
    have Ka := Lib.hid (Blk.new0 w2 #[.bool na, .slice aa qa ca] 42)
    have Ia := Lib.hid (hia.ext hl)
    have Ba := Lib.hid hba
    have hx := (hx.trans hy).trans hl
    have hy := hy.trans hl
    clear hia hba hl
    generalize w2.alloc (.cells #[.bool na, .slice aa qa ca] 42) = w3 at *
    generalize w2.heap.size = pa at *
    go_wp2_with fail
    refine (H2.out _ hy).mono ?_
    rintro e w4 ⟨v, rfl, ⟨nb, ab, cb, Lb, rfl, hib, hbb, _⟩, hy2⟩
    obtain ⟨qb, hqb⟩ : ∃ q, Lb.length = q := ⟨_, rfl⟩
    rw [hqb]
    have Qb := Lib.hid hqb
    clear hqb hy
    go_upto_region 7 with fail
    have hl := Ext.alloc w4 (.cells #[.bool nb, .slice ab qb cb] 42)
    have Kb := Lib.hid (Blk.new0 w4 #[.bool nb, .slice ab qb cb] 42)
    have Ka := Lib.hid (Ka.out.ext (hy2.trans hl))
    have Va : Hid (BigV (w4.alloc (.cells #[.bool nb, .slice ab qb cb] 42)) (.agg #[.bool na, .slice aa qa ca]) z) := Lib.hid ⟨na, La, ⟨aa, ca, by rw [Qa.out], Ia.out.ext (hy2.trans hl)⟩, Ba.out⟩
    have Vb : Hid (BigV (w4.alloc (.cells #[.bool nb, .slice ab qb cb] 42)) (.agg #[.bool nb, .slice ab qb cb]) z) := Lib.hid ⟨nb, Lb, ⟨ab, cb, by rw [Qb.out], hib.ext hl⟩, hbb⟩
    have hx := (hx.trans hy2).trans hl
    clear hib hbb hl hy2
    generalize w4.alloc (.cells #[.bool nb, .slice ab qb cb] 42) = w5 at *
    generalize w4.heap.size = pb at *
    have c0 := Ka.out.cell (i := 0) (v := .bool na) rfl
    have c1 := Ka.out.cell (i := 1) (v := .slice aa qa ca) rfl
    have d0 := Kb.out.cell (i := 0) (v := .bool nb) rfl
    have d1 := Kb.out.cell (i := 1) (v := .slice ab qb cb) rfl
    go_wp2_with fail
    refine (sameT Va.out Vb.out rfl).mono ?_
    rintro e w6 ⟨rfl, hy⟩
    have hx := hx.trans hy
    clear hy c0 c1 d0 d1
    go_wp2_with fail
    go_ret
    exact ⟨rfl, hx⟩
end Go.Proofs.Ytmkleegfbapakaa
