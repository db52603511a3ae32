import Derived.Test.YtmkleegfbapakaaELaw1
namespace Go.Proofs.Ytmkleegfbapakaa
open Go.RowKit Go BigFrame
set_option maxRecDepth 100000
set_option linter.unusedSimpArgs false

set_option maxHeartbeats 2000000 in
theorem lawExactOrdersSpec (a a2 : Option Addr) (cap cap2 : Nat) (l m : List Int) (sum : Int) (w : World) (h : Ints w a cap l) (h2 : Ints w a2 cap2 m) (hs : -9223372036854775808 ≤ sum ∧ sum ≤ 9223372036854775807) :
    Calls Try.prog 9 #[.slice a l.length cap, .slice a2 m.length cap2, .int .i64 sum] w fun e w' => e = .returned (.bool true) ∧ Ext w w' := by
  have hle := h.le
  have hmx := h.mx
  have hle2 := h2.le
  have hmx2 := h2.mx
  have HS := Lib.hid hs
  clear hs
  go_enter Try.func9, Try.ntmps9
  go_wp2_with fail
  with_reducible refine (law41Sane _).mono ?_
  rintro e w1 ⟨rfl, hy⟩
  have HI := Lib.hid (h.ext hy)
  have HI2 := Lib.hid (h2.ext hy)
  have hx := hy
  clear h h2 hy
  go_wp2_with fail
  with_reducible refine (ref_FewOrders _ _ _ _ _ _ _).mono ?_
  rintro e w1 ⟨⟨b, rfl⟩, rfl⟩
  cases b with
  | false =>
    go_wp2_with fail
    go_ret
    exact ⟨rfl, hx⟩
  | true =>
    obtain ⟨z, hz⟩ : ∃ z, oZ l m sum = z := ⟨_, rfl⟩
    obtain ⟨E, hE⟩ : ∃ E, oE l m = E := ⟨_, rfl⟩
    obtain ⟨y, hz'⟩ : ∃ z, mZ l m sum = z := ⟨_, rfl⟩
    obtain ⟨G, hE'⟩ : ∃ E, mE l m = E := ⟨_, rfl⟩
    have H1 := exact_Orders_any a a2 cap cap2 l m sum _ HI.out HI2.out HS.out
    have H2 := fun (w' : World) (hy : Ext w1 w') => ref_Orders_any a a2 cap cap2 l m sum w' (HI.out.ext hy) (HI2.out.ext hy)
    have H3 := fun (w' : World) (hy : Ext w1 w') => exact_Matches_any a a2 cap cap2 l m sum w' (HI.out.ext hy) (HI2.out.ext hy) HS.out
    have H4 := fun (w' : World) (hy : Ext w1 w') => ref_Matches_any a a2 cap cap2 l m sum w' (HI.out.ext hy) (HI2.out.ext hy)
    rw [hz, hE] at H1 H2
    rw [hz', hE'] at H3 H4
    have H1 := Lib.hid H1
    have H2 := Lib.hid H2
    have H3 := Lib.hid H3
    have H4 := Lib.hid H4
    clear hz hE hz' hE'
    go_wp2_with fail
    with_reducible refine H1.out.mono ?_
    rintro e w2 ⟨rfl, hy⟩
    go_wp2_with fail
    with_reducible refine (H2.out _ hy).mono ?_
    rintro e w3 ⟨rfl, hy2⟩
    have hy := hy.trans hy2
    clear hy2
    go_wp2_with fail
    with_reducible refine (H3.out _ hy).mono ?_
    rintro e w4 ⟨rfl, hy2⟩
    have hy := hy.trans hy2
    clear hy2
    go_wp2_with fail
    with_reducible refine (H4.out _ hy).mono ?_
    rintro e w5 ⟨rfl, hy2⟩
    have hy := hy.trans hy2
    clear hy2
    go_wp2_with fail
    go_ret
    exact ⟨rfl, hx.trans hy⟩
end Go.Proofs.Ytmkleegfbapakaa
