import Derived.Test.YtmcbbhlglccmgaaV9
import Derived.Test.YtmcbbhlglccmgaaQS
namespace Go.Proofs.Ytmcbbhlglccmgaa
open Go.RowKit Go BigFrame
set_option maxRecDepth 100000
set_option linter.unusedSimpArgs false
set_option linter.unusedVariables false

/-! law16.sane. -/
abbrev crS (st how tr : Int) (rv : Bool) : CritA := ⟨⟨#[]⟩, 0, 10, st, how, tr, rv⟩
theorem ints_lit {w : World} {g : Nat} {t : TypeId} (l : List Int) (h : Blk w g (l.map (Value.int .i64)).toArray t) {k : Nat} (hk : l.length = k) (hl : l.length ≤ 1000) (hb : ∀ x ∈ l, In64 x) : Ints w (some ⟨g, 0, none⟩) k l :=
  ⟨Nat.le_of_eq hk, by omega, by simp, fun A hA i hi => by
    cases hA
    obtain ⟨h1, h2⟩ := hb l[i] (List.getElem_mem hi)
    exact ⟨rfl, _, h.cell (i := 0 + i) (v := .int .i64 l[i]) (by simp [hi]), rfl, h1, h2⟩⟩
theorem in64_of {l : List Int} (h : l.all (fun x => decide (-9223372036854775808 ≤ x) && decide (x ≤ 9223372036854775807)) = true) : ∀ x ∈ l, In64 x := fun x hx => by
  have := List.all_eq_true.1 h x hx
  simpa [In64] using this
theorem tot_ok {c : CritA} (hc : c.In) {a : Option Addr} {cap : Nat} {l : List Int} {w : World} {n : Nat} (hn : l.length = n) (h : Ints w a cap l) (hl : l.length ≤ 1000) (he : totE c l = 0) : Calls Try.prog 24 #[c.val, .slice a n cap] w (RatP (totQ c l) w) := by
  subst hn
  exact (combine_Total c hc a cap l w h hl).mono fun _ _ k => k.1 he
theorem tot_err {c : CritA} (hc : c.In) {a : Option Addr} {cap : Nat} {l : List Int} {w : World} {E : Int} {n : Nat} (hn : l.length = n) (h : Ints w a cap l) (hl : l.length ≤ 1000) (he : totE c l = E) (h0 : E ≠ 0) : Calls Try.prog 24 #[c.val, .slice a n cap] w (RatE E w) := by
  subst hn
  exact (combine_Total c hc a cap l w h hl).mono fun _ _ k => by have := k.2 (by rw [he]; exact h0); rwa [he] at this
def inB (n : Int) : Bool := decide (-9223372036854775808 ≤ n) && decide (n ≤ 9223372036854775807)
theorem critIn {c : CritA} (h : (inB c.lo && (inB c.hi && (inB c.st && (inB c.how && inB c.tr)))) = true) : c.In := by
  simp only [inB, Bool.and_eq_true, decide_eq_true_eq] at h
  obtain ⟨h1, h2, h3, h4, h5⟩ := h
  exact ⟨h1, h2, h3, h4, h5⟩
set_option maxHeartbeats 1000000 in
theorem law16_scale (st how tr : Int) (w : World) : Calls Try.prog 50 #[.int .i64 st, .int .i64 how, .int .i64 tr] w fun e w' => e = .returned (crS st how tr false).val ∧ Ext w w' := by
  dsimp only [crS, CritA.val, CritA.cells]
  obtain ⟨x1, hw, hx, Kc⟩ := boxQ1 w #[.string ⟨#[]⟩, .int .i64 0, .int .i64 0, .int .i64 0, .int .i64 0, .int .i64 0, .bool false] 48
  replace hw := Lib.hid hw
  go_enter Try.func50, Try.ntmps50
  go_upto_region 1 with fail
  try simp only [Nat.add_assoc, Nat.reduceAdd, Nat.add_zero]
  rw [hw.out]
  clear hw
  have hs0 := hx.size
  have cc0 := Kc.out.cell (i := 0) (v := .string ⟨#[]⟩) rfl
  have cc1 := Kc.out.cell (i := 1) (v := .int .i64 0) rfl
  have cc2 := Kc.out.cell (i := 2) (v := .int .i64 0) rfl
  have cc3 := Kc.out.cell (i := 3) (v := .int .i64 0) rfl
  have cc4 := Kc.out.cell (i := 4) (v := .int .i64 0) rfl
  have cc5 := Kc.out.cell (i := 5) (v := .int .i64 0) rfl
  have cc6 := Kc.out.cell (i := 6) (v := .bool false) rfl
  have g0 := (Kc.out).cell (i := 0) (v := .string ⟨#[]⟩) rfl
  have z0 := (Kc.out).free 0
  have g1 := ((Kc.out).set 0 (.string ⟨#[]⟩)).cell (i := 1) (v := .int .i64 0) rfl
  have z1 := ((Kc.out).set 0 (.string ⟨#[]⟩)).free 1
  have g2 := (((Kc.out).set 0 (.string ⟨#[]⟩)).set 1 (.int .i64 0)).cell (i := 2) (v := .int .i64 0) rfl
  have z2 := (((Kc.out).set 0 (.string ⟨#[]⟩)).set 1 (.int .i64 0)).free 2
  have g3 := ((((Kc.out).set 0 (.string ⟨#[]⟩)).set 1 (.int .i64 0)).set 2 (.int .i64 10)).cell (i := 3) (v := .int .i64 0) rfl
  have z3 := ((((Kc.out).set 0 (.string ⟨#[]⟩)).set 1 (.int .i64 0)).set 2 (.int .i64 10)).free 3
  have g4 := (((((Kc.out).set 0 (.string ⟨#[]⟩)).set 1 (.int .i64 0)).set 2 (.int .i64 10)).set 3 (.int .i64 st)).cell (i := 4) (v := .int .i64 0) rfl
  have z4 := (((((Kc.out).set 0 (.string ⟨#[]⟩)).set 1 (.int .i64 0)).set 2 (.int .i64 10)).set 3 (.int .i64 st)).free 4
  have g5 := ((((((Kc.out).set 0 (.string ⟨#[]⟩)).set 1 (.int .i64 0)).set 2 (.int .i64 10)).set 3 (.int .i64 st)).set 4 (.int .i64 how)).cell (i := 5) (v := .int .i64 0) rfl
  have z5 := ((((((Kc.out).set 0 (.string ⟨#[]⟩)).set 1 (.int .i64 0)).set 2 (.int .i64 10)).set 3 (.int .i64 st)).set 4 (.int .i64 how)).free 5
  have g6 := (((((((Kc.out).set 0 (.string ⟨#[]⟩)).set 1 (.int .i64 0)).set 2 (.int .i64 10)).set 3 (.int .i64 st)).set 4 (.int .i64 how)).set 5 (.int .i64 tr)).cell (i := 6) (v := .bool false) rfl
  have z6 := (((((((Kc.out).set 0 (.string ⟨#[]⟩)).set 1 (.int .i64 0)).set 2 (.int .i64 10)).set 3 (.int .i64 st)).set 4 (.int .i64 how)).set 5 (.int .i64 tr)).free 6
  go_wp2_with fail
  clear g0 z0 g1 z1 g2 z2 g3 z3 g4 z4 g5 z5 g6 z6
  clear cc0 cc1 cc2 cc3 cc4 cc5 cc6
  replace hx := hx.set (p := ⟨w.heap.size, 0, none⟩) (by dsimp only; omega) (.string ⟨#[]⟩)
  replace Kc := Lib.hid (Kc.out.set 0 (.string ⟨#[]⟩))
  replace hx := hx.set (p := ⟨w.heap.size, 1, none⟩) (by dsimp only; omega) (.int .i64 0)
  replace Kc := Lib.hid (Kc.out.set 1 (.int .i64 0))
  replace hx := hx.set (p := ⟨w.heap.size, 2, none⟩) (by dsimp only; omega) (.int .i64 10)
  replace Kc := Lib.hid (Kc.out.set 2 (.int .i64 10))
  replace hx := hx.set (p := ⟨w.heap.size, 3, none⟩) (by dsimp only; omega) (.int .i64 st)
  replace Kc := Lib.hid (Kc.out.set 3 (.int .i64 st))
  replace hx := hx.set (p := ⟨w.heap.size, 4, none⟩) (by dsimp only; omega) (.int .i64 how)
  replace Kc := Lib.hid (Kc.out.set 4 (.int .i64 how))
  replace hx := hx.set (p := ⟨w.heap.size, 5, none⟩) (by dsimp only; omega) (.int .i64 tr)
  replace Kc := Lib.hid (Kc.out.set 5 (.int .i64 tr))
  replace hx := hx.set (p := ⟨w.heap.size, 6, none⟩) (by dsimp only; omega) (.bool false)
  replace Kc := Lib.hid (Kc.out.set 6 (.bool false))
  replace Kc := Lib.hid (show Blk _ _ #[.string ⟨#[]⟩, .int .i64 0, .int .i64 10, .int .i64 st, .int .i64 how, .int .i64 tr, .bool false] 48 from Kc.out)
  generalize (((((((x1).setCell ⟨w.heap.size, 0, none⟩ (.string ⟨#[]⟩)).setCell ⟨w.heap.size, 1, none⟩ (.int .i64 0)).setCell ⟨w.heap.size, 2, none⟩ (.int .i64 10)).setCell ⟨w.heap.size, 3, none⟩ (.int .i64 st)).setCell ⟨w.heap.size, 4, none⟩ (.int .i64 how)).setCell ⟨w.heap.size, 5, none⟩ (.int .i64 tr)).setCell ⟨w.heap.size, 6, none⟩ (.bool false) = x2 at *
  have cc0 := Kc.out.cell (i := 0) (v := .string ⟨#[]⟩) rfl
  have cc1 := Kc.out.cell (i := 1) (v := .int .i64 0) rfl
  have cc2 := Kc.out.cell (i := 2) (v := .int .i64 10) rfl
  have cc3 := Kc.out.cell (i := 3) (v := .int .i64 st) rfl
  have cc4 := Kc.out.cell (i := 4) (v := .int .i64 how) rfl
  have cc5 := Kc.out.cell (i := 5) (v := .int .i64 tr) rfl
  have cc6 := Kc.out.cell (i := 6) (v := .bool false) rfl
  refine bodyPost_ret (v := .agg #[.string ⟨#[]⟩, .int .i64 0, .int .i64 10, .int .i64 st, .int .i64 how, .int .i64 tr, .bool false]) (by simp [results, Try.results50, go_sem, cc0, cc1, cc2, cc3, cc4, cc5, cc6]) rfl ?_
  exact ⟨rfl, hx⟩
set_option maxHeartbeats 1000000 in
theorem law16_is {v : Value} {r : Rat} {w : World} (n d : Int) (hv : RatV w v r) (hn : -1000 ≤ n ∧ n ≤ 1000) (hd : 0 < d ∧ d ≤ 1000) (e : r = Rat.divInt n d) : Calls Try.prog 51 #[v, .int .i64 0, .int .i64 n, .int .i64 d] w fun e w' => e = .returned (.bool true) ∧ Ext w w' := by
  obtain ⟨nx, ax, qx, cx, bx, kx, dx, rfl⟩ := hv.form
  have HV := Lib.hid hv
  have HM := Lib.hid (fun W => ratio_Make n d W (by omega) (by omega) (by omega))
  rw [← e] at HM
  clear hv e
  obtain ⟨x1, hw, hx, Kx⟩ := boxQ1 w #[.bool nx, .slice ax qx cx, .bool false, .slice bx kx dx] 35
  replace hw := Lib.hid hw
  have Vx := Lib.hid (HV.out.ext hx)
  clear HV
  go_enter Try.func51, Try.ntmps51
  go_upto_region 1 with fail
  try simp only [Nat.add_assoc, Nat.reduceAdd, Nat.add_zero]
  rw [hw.out]
  clear hw
  have hs0 := hx.size
  obtain ⟨cx0, cx1, cx2, cx3⟩ := bk4 Kx
  have hsz := hx.size
  go_wp2_with fail
  with_reducible refine (HM.out _).mono ?_
  clear cx0 cx1 cx2 cx3
  rintro e x2 ⟨v, rfl, hv, hy⟩
  replace hx := hx.trans hy
  replace Kx := kE Kx hy
  replace Vx := Lib.hid (Vx.out.ext hy)
  clear hy
  obtain ⟨ny, ay, qy, cy, by_, ky, dy, rfl, hv', hf', hg'⟩ := hv
  have Vy := Lib.hid hv'
  have Fy := Lib.hid (fun A hA => Nat.le_trans hsz (hf' A hA))
  have Gy := Lib.hid (fun A hA => Nat.le_trans hsz (hg' A hA))
  clear hv' hf' hg' hsz
  clear Fy Gy
  go_upto_region 2 with fail
  have hl := Ext.alloc x2 (.cells #[.bool ny, .slice ay qy cy, .bool false, .slice by_ ky dy] 35)
  have lxy : w.heap.size < x2.heap.size := Kx.out.lt
  have hpy : w.heap.size ≤ x2.heap.size := hx.size
  replace hx := hx.trans hl
  replace Kx := kE Kx hl
  replace Vx := Lib.hid (Vx.out.ext hl)
  replace Vy := Lib.hid (Vy.out.ext hl)
  have Ky := Lib.hid (Blk.new0 x2 #[.bool ny, .slice ay qy cy, .bool false, .slice by_ ky dy] 35)
  clear hl
  generalize x2.alloc (.cells #[.bool ny, .slice ay qy cy, .bool false, .slice by_ ky dy] 35) = x3 at *
  generalize x2.heap.size = py at *
  obtain ⟨cx0, cx1, cx2, cx3⟩ := bk4 Kx
  obtain ⟨cy0, cy1, cy2, cy3⟩ := bk4 Ky
  go_wp2_with fail
  with_reducible refine ((same_rat Vx.out Vy.out)).mono ?_
  clear cx0 cx1 cx2 cx3 cy0 cy1 cy2 cy3
  rintro e x4 ⟨rfl, hy⟩
  replace hx := hx.trans hy
  replace Kx := kE Kx hy
  replace Ky := kE Ky hy
  replace Vx := Lib.hid (Vx.out.ext hy)
  replace Vy := Lib.hid (Vy.out.ext hy)
  clear hy
  simp only [decide_true]
  go_wp2_with fail
  go_ret
  exact ⟨rfl, hx⟩
set_option maxHeartbeats 16000000 in
theorem law16_sane (w : World) : Calls Try.prog 20 #[] w fun e w' => e = .returned (.bool true) ∧ Ext w w' := by
  have hx : Ext w w := Ext.refl w
  go_enter Try.func20, Try.ntmps20
  go_upto_region 1 with fail
  have hs0 := hx.size
  go_upto_region 2 with fail
  have hl := Ext.alloc w (.cells #[.int .i64 1, .int .i64 9, .int .i64 4, .int .i64 2] 3)
  have hpl : w.heap.size ≤ w.heap.size := hx.size
  replace hx := hx.trans hl
  have Kl := Lib.hid (Blk.new0 w #[.int .i64 1, .int .i64 9, .int .i64 4, .int .i64 2] 3)
  clear hl
  generalize w.alloc (.cells #[.int .i64 1, .int .i64 9, .int .i64 4, .int .i64 2] 3) = x1 at *
  generalize w.heap.size = pl at *
  obtain ⟨cl0, cl1, cl2, cl3⟩ := bk4 Kl
  go_wp2_with fail
  refine (law16_scale 1 1 0 _).mono ?_
  clear cl0 cl1 cl2 cl3
  rintro e x2 ⟨rfl, hy⟩
  replace hx := hx.trans hy
  replace Kl := kE Kl hy
  clear hy
  obtain ⟨cl0, cl1, cl2, cl3⟩ := bk4 Kl
  have hsz := hx.size
  go_wp2_with fail
  with_reducible refine (tot_ok (critIn (c := crS 1 1 0 false) (by decide)) (l := [1, 9, 4, 2]) (n := 4) (cap := 4) rfl (ints_lit [1, 9, 4, 2] Kl.out rfl (by decide) (in64_of (by decide))) (by decide) (by decide +kernel)).mono ?_
  clear cl0 cl1 cl2 cl3
  rintro e x3 ⟨v, rfl, hv, hy⟩
  replace hx := hx.trans hy
  replace Kl := kE Kl hy
  clear hy
  obtain ⟨na, aa, qa, ca, ba, ka, da, rfl, hv', hf', hg'⟩ := hv
  have Va := Lib.hid hv'
  have Fa := Lib.hid (fun A hA => Nat.le_trans hsz (hf' A hA))
  have Ga := Lib.hid (fun A hA => Nat.le_trans hsz (hg' A hA))
  clear hv' hf' hg' hsz
  clear Fa Ga
  go_upto_region 3 with fail
  have hl := Ext.alloc x3 (.cells #[.bool na, .slice aa qa ca, .bool false, .slice ba ka da] 35)
  have lla : pl < x3.heap.size := Kl.out.lt
  have hpa : w.heap.size ≤ x3.heap.size := hx.size
  replace hx := hx.trans hl
  replace Kl := kE Kl hl
  replace Va := Lib.hid (Va.out.ext hl)
  have Ka := Lib.hid (Blk.new0 x3 #[.bool na, .slice aa qa ca, .bool false, .slice ba ka da] 35)
  clear hl
  generalize x3.alloc (.cells #[.bool na, .slice aa qa ca, .bool false, .slice ba ka da] 35) = x4 at *
  generalize x3.heap.size = pa at *
  obtain ⟨cl0, cl1, cl2, cl3⟩ := bk4 Kl
  obtain ⟨ca0, ca1, ca2, ca3⟩ := bk4 Ka
  go_wp2_with fail
  refine (law16_scale 1 2 0 _).mono ?_
  clear cl0 cl1 cl2 cl3 ca0 ca1 ca2 ca3
  rintro e x5 ⟨rfl, hy⟩
  replace hx := hx.trans hy
  replace Kl := kE Kl hy
  replace Ka := kE Ka hy
  replace Va := Lib.hid (Va.out.ext hy)
  clear hy
  obtain ⟨cl0, cl1, cl2, cl3⟩ := bk4 Kl
  obtain ⟨ca0, ca1, ca2, ca3⟩ := bk4 Ka
  have hsz := hx.size
  go_wp2_with fail
  with_reducible refine (tot_ok (critIn (c := crS 1 2 0 false) (by decide)) (l := [1, 9, 4, 2]) (n := 4) (cap := 4) rfl (ints_lit [1, 9, 4, 2] Kl.out rfl (by decide) (in64_of (by decide))) (by decide) (by decide +kernel)).mono ?_
  clear cl0 cl1 cl2 cl3 ca0 ca1 ca2 ca3
  rintro e x6 ⟨v, rfl, hv, hy⟩
  replace hx := hx.trans hy
  replace Kl := kE Kl hy
  replace Ka := kE Ka hy
  replace Va := Lib.hid (Va.out.ext hy)
  clear hy
  obtain ⟨nm, am, qm, cm, bm, km, dm, rfl, hv', hf', hg'⟩ := hv
  have Vm := Lib.hid hv'
  have Fm := Lib.hid (fun A hA => Nat.le_trans hsz (hf' A hA))
  have Gm := Lib.hid (fun A hA => Nat.le_trans hsz (hg' A hA))
  clear hv' hf' hg' hsz
  clear Fm Gm
  go_upto_region 4 with fail
  have hl := Ext.alloc x6 (.cells #[.bool nm, .slice am qm cm, .bool false, .slice bm km dm] 35)
  have llm : pl < x6.heap.size := Kl.out.lt
  have lam : pa < x6.heap.size := Ka.out.lt
  have hpm : w.heap.size ≤ x6.heap.size := hx.size
  replace hx := hx.trans hl
  replace Kl := kE Kl hl
  replace Ka := kE Ka hl
  replace Va := Lib.hid (Va.out.ext hl)
  replace Vm := Lib.hid (Vm.out.ext hl)
  have Km := Lib.hid (Blk.new0 x6 #[.bool nm, .slice am qm cm, .bool false, .slice bm km dm] 35)
  clear hl
  generalize x6.alloc (.cells #[.bool nm, .slice am qm cm, .bool false, .slice bm km dm] 35) = x7 at *
  generalize x6.heap.size = pm at *
  obtain ⟨cl0, cl1, cl2, cl3⟩ := bk4 Kl
  obtain ⟨ca0, ca1, ca2, ca3⟩ := bk4 Ka
  obtain ⟨cm0, cm1, cm2, cm3⟩ := bk4 Km
  go_wp2_with fail
  refine (law16_scale 1 2 1 _).mono ?_
  clear cl0 cl1 cl2 cl3 ca0 ca1 ca2 ca3 cm0 cm1 cm2 cm3
  rintro e x8 ⟨rfl, hy⟩
  replace hx := hx.trans hy
  replace Kl := kE Kl hy
  replace Ka := kE Ka hy
  replace Km := kE Km hy
  replace Va := Lib.hid (Va.out.ext hy)
  replace Vm := Lib.hid (Vm.out.ext hy)
  clear hy
  obtain ⟨cl0, cl1, cl2, cl3⟩ := bk4 Kl
  obtain ⟨ca0, ca1, ca2, ca3⟩ := bk4 Ka
  obtain ⟨cm0, cm1, cm2, cm3⟩ := bk4 Km
  have hsz := hx.size
  go_wp2_with fail
  with_reducible refine (tot_ok (critIn (c := crS 1 2 1 false) (by decide)) (l := [1, 9, 4, 2]) (n := 4) (cap := 4) rfl (ints_lit [1, 9, 4, 2] Kl.out rfl (by decide) (in64_of (by decide))) (by decide) (by decide +kernel)).mono ?_
  clear cl0 cl1 cl2 cl3 ca0 ca1 ca2 ca3 cm0 cm1 cm2 cm3
  rintro e x9 ⟨v, rfl, hv, hy⟩
  replace hx := hx.trans hy
  replace Kl := kE Kl hy
  replace Ka := kE Ka hy
  replace Km := kE Km hy
  replace Va := Lib.hid (Va.out.ext hy)
  replace Vm := Lib.hid (Vm.out.ext hy)
  clear hy
  obtain ⟨nc, ac, qc, cc, bc, kc, dc, rfl, hv', hf', hg'⟩ := hv
  have Vc := Lib.hid hv'
  have Fc := Lib.hid (fun A hA => Nat.le_trans hsz (hf' A hA))
  have Gc := Lib.hid (fun A hA => Nat.le_trans hsz (hg' A hA))
  clear hv' hf' hg' hsz
  clear Fc Gc
  go_upto_region 5 with fail
  have hl := Ext.alloc x9 (.cells #[.bool nc, .slice ac qc cc, .bool false, .slice bc kc dc] 35)
  have llc : pl < x9.heap.size := Kl.out.lt
  have lac : pa < x9.heap.size := Ka.out.lt
  have lmc : pm < x9.heap.size := Km.out.lt
  have hpc : w.heap.size ≤ x9.heap.size := hx.size
  replace hx := hx.trans hl
  replace Kl := kE Kl hl
  replace Ka := kE Ka hl
  replace Km := kE Km hl
  replace Va := Lib.hid (Va.out.ext hl)
  replace Vm := Lib.hid (Vm.out.ext hl)
  replace Vc := Lib.hid (Vc.out.ext hl)
  have Kc := Lib.hid (Blk.new0 x9 #[.bool nc, .slice ac qc cc, .bool false, .slice bc kc dc] 35)
  clear hl
  generalize x9.alloc (.cells #[.bool nc, .slice ac qc cc, .bool false, .slice bc kc dc] 35) = x10 at *
  generalize x9.heap.size = pc at *
  obtain ⟨cl0, cl1, cl2, cl3⟩ := bk4 Kl
  obtain ⟨ca0, ca1, ca2, ca3⟩ := bk4 Ka
  obtain ⟨cm0, cm1, cm2, cm3⟩ := bk4 Km
  obtain ⟨cc0, cc1, cc2, cc3⟩ := bk4 Kc
  go_wp2_with fail
  refine (law16_scale 1 3 0 _).mono ?_
  clear cl0 cl1 cl2 cl3 ca0 ca1 ca2 ca3 cm0 cm1 cm2 cm3 cc0 cc1 cc2 cc3
  rintro e x11 ⟨rfl, hy⟩
  replace hx := hx.trans hy
  replace Kl := kE Kl hy
  replace Ka := kE Ka hy
  replace Km := kE Km hy
  replace Kc := kE Kc hy
  replace Va := Lib.hid (Va.out.ext hy)
  replace Vm := Lib.hid (Vm.out.ext hy)
  replace Vc := Lib.hid (Vc.out.ext hy)
  clear hy
  obtain ⟨cl0, cl1, cl2, cl3⟩ := bk4 Kl
  obtain ⟨ca0, ca1, ca2, ca3⟩ := bk4 Ka
  obtain ⟨cm0, cm1, cm2, cm3⟩ := bk4 Km
  obtain ⟨cc0, cc1, cc2, cc3⟩ := bk4 Kc
  have hsz := hx.size
  go_wp2_with fail
  with_reducible refine (tot_ok (critIn (c := crS 1 3 0 false) (by decide)) (l := [1, 9, 4, 2]) (n := 4) (cap := 4) rfl (ints_lit [1, 9, 4, 2] Kl.out rfl (by decide) (in64_of (by decide))) (by decide) (by decide +kernel)).mono ?_
  clear cl0 cl1 cl2 cl3 ca0 ca1 ca2 ca3 cm0 cm1 cm2 cm3 cc0 cc1 cc2 cc3
  rintro e x12 ⟨v, rfl, hv, hy⟩
  replace hx := hx.trans hy
  replace Kl := kE Kl hy
  replace Ka := kE Ka hy
  replace Km := kE Km hy
  replace Kc := kE Kc hy
  replace Va := Lib.hid (Va.out.ext hy)
  replace Vm := Lib.hid (Vm.out.ext hy)
  replace Vc := Lib.hid (Vc.out.ext hy)
  clear hy
  obtain ⟨nd, ad, qd, cd, bd, kd, dd, rfl, hv', hf', hg'⟩ := hv
  have Vd := Lib.hid hv'
  have Fd := Lib.hid (fun A hA => Nat.le_trans hsz (hf' A hA))
  have Gd := Lib.hid (fun A hA => Nat.le_trans hsz (hg' A hA))
  clear hv' hf' hg' hsz
  clear Fd Gd
  go_upto_region 6 with fail
  have hl := Ext.alloc x12 (.cells #[.bool nd, .slice ad qd cd, .bool false, .slice bd kd dd] 35)
  have lld : pl < x12.heap.size := Kl.out.lt
  have lad : pa < x12.heap.size := Ka.out.lt
  have lmd : pm < x12.heap.size := Km.out.lt
  have lcd : pc < x12.heap.size := Kc.out.lt
  have hpd : w.heap.size ≤ x12.heap.size := hx.size
  replace hx := hx.trans hl
  replace Kl := kE Kl hl
  replace Ka := kE Ka hl
  replace Km := kE Km hl
  replace Kc := kE Kc hl
  replace Va := Lib.hid (Va.out.ext hl)
  replace Vm := Lib.hid (Vm.out.ext hl)
  replace Vc := Lib.hid (Vc.out.ext hl)
  replace Vd := Lib.hid (Vd.out.ext hl)
  have Kd := Lib.hid (Blk.new0 x12 #[.bool nd, .slice ad qd cd, .bool false, .slice bd kd dd] 35)
  clear hl
  generalize x12.alloc (.cells #[.bool nd, .slice ad qd cd, .bool false, .slice bd kd dd] 35) = x13 at *
  generalize x12.heap.size = pd at *
  obtain ⟨cl0, cl1, cl2, cl3⟩ := bk4 Kl
  obtain ⟨ca0, ca1, ca2, ca3⟩ := bk4 Ka
  obtain ⟨cm0, cm1, cm2, cm3⟩ := bk4 Km
  obtain ⟨cc0, cc1, cc2, cc3⟩ := bk4 Kc
  obtain ⟨cd0, cd1, cd2, cd3⟩ := bk4 Kd
  go_wp2_with fail
  refine (law16_scale 1 2 0 _).mono ?_
  clear cl0 cl1 cl2 cl3 ca0 ca1 ca2 ca3 cm0 cm1 cm2 cm3 cc0 cc1 cc2 cc3 cd0 cd1 cd2 cd3
  rintro e x14 ⟨rfl, hy⟩
  replace hx := hx.trans hy
  replace Kl := kE Kl hy
  replace Ka := kE Ka hy
  replace Km := kE Km hy
  replace Kc := kE Kc hy
  replace Kd := kE Kd hy
  replace Va := Lib.hid (Va.out.ext hy)
  replace Vm := Lib.hid (Vm.out.ext hy)
  replace Vc := Lib.hid (Vc.out.ext hy)
  replace Vd := Lib.hid (Vd.out.ext hy)
  clear hy
  obtain ⟨cl0, cl1, cl2, cl3⟩ := bk4 Kl
  obtain ⟨ca0, ca1, ca2, ca3⟩ := bk4 Ka
  obtain ⟨cm0, cm1, cm2, cm3⟩ := bk4 Km
  obtain ⟨cc0, cc1, cc2, cc3⟩ := bk4 Kc
  obtain ⟨cd0, cd1, cd2, cd3⟩ := bk4 Kd
  have hl := Ext.alloc x14 (.cells #[.int .i64 1, .int .i64 2] 3)
  have hKK := Blk.new0 x14 #[.int .i64 1, .int .i64 2] 3
  have hsz := (hx.trans hl).size
  have HTT := Lib.hid (tot_ok (critIn (c := crS 1 2 0 false) (by decide)) (l := [1, 2]) (n := 2) (cap := 2) rfl (ints_lit [1, 2] hKK rfl (by decide) (in64_of (by decide))) (by decide) (by decide +kernel))
  clear hKK
  go_wp2_with fail
  with_reducible refine (HTT.out).mono ?_
  clear cl0 cl1 cl2 cl3 ca0 ca1 ca2 ca3 cm0 cm1 cm2 cm3 cc0 cc1 cc2 cc3 cd0 cd1 cd2 cd3
  rintro e x15 ⟨v, rfl, hv, hy⟩
  replace hy := hl.trans hy
  replace hx := hx.trans hy
  replace Kl := kE Kl hy
  replace Ka := kE Ka hy
  replace Km := kE Km hy
  replace Kc := kE Kc hy
  replace Kd := kE Kd hy
  replace Va := Lib.hid (Va.out.ext hy)
  replace Vm := Lib.hid (Vm.out.ext hy)
  replace Vc := Lib.hid (Vc.out.ext hy)
  replace Vd := Lib.hid (Vd.out.ext hy)
  clear hy HTT hl
  obtain ⟨nh, ah, qh, ch, bh, kh, dh, rfl, hv', hf', hg'⟩ := hv
  have Vh := Lib.hid hv'
  have Fh := Lib.hid (fun A hA => Nat.le_trans hsz (hf' A hA))
  have Gh := Lib.hid (fun A hA => Nat.le_trans hsz (hg' A hA))
  clear hv' hf' hg' hsz
  clear Fh Gh
  go_upto_region 7 with fail
  have hl := Ext.alloc x15 (.cells #[.bool nh, .slice ah qh ch, .bool false, .slice bh kh dh] 35)
  have llh : pl < x15.heap.size := Kl.out.lt
  have lah : pa < x15.heap.size := Ka.out.lt
  have lmh : pm < x15.heap.size := Km.out.lt
  have lch : pc < x15.heap.size := Kc.out.lt
  have ldh : pd < x15.heap.size := Kd.out.lt
  have hph : w.heap.size ≤ x15.heap.size := hx.size
  replace hx := hx.trans hl
  replace Kl := kE Kl hl
  replace Ka := kE Ka hl
  replace Km := kE Km hl
  replace Kc := kE Kc hl
  replace Kd := kE Kd hl
  replace Va := Lib.hid (Va.out.ext hl)
  replace Vm := Lib.hid (Vm.out.ext hl)
  replace Vc := Lib.hid (Vc.out.ext hl)
  replace Vd := Lib.hid (Vd.out.ext hl)
  replace Vh := Lib.hid (Vh.out.ext hl)
  have Kh := Lib.hid (Blk.new0 x15 #[.bool nh, .slice ah qh ch, .bool false, .slice bh kh dh] 35)
  clear hl
  generalize x15.alloc (.cells #[.bool nh, .slice ah qh ch, .bool false, .slice bh kh dh] 35) = x16 at *
  generalize x15.heap.size = ph at *
  obtain ⟨cl0, cl1, cl2, cl3⟩ := bk4 Kl
  obtain ⟨ca0, ca1, ca2, ca3⟩ := bk4 Ka
  obtain ⟨cm0, cm1, cm2, cm3⟩ := bk4 Km
  obtain ⟨cc0, cc1, cc2, cc3⟩ := bk4 Kc
  obtain ⟨cd0, cd1, cd2, cd3⟩ := bk4 Kd
  obtain ⟨ch0, ch1, ch2, ch3⟩ := bk4 Kh
  go_wp2_with fail
  refine (law16_scale 1 2 1 _).mono ?_
  clear cl0 cl1 cl2 cl3 ca0 ca1 ca2 ca3 cm0 cm1 cm2 cm3 cc0 cc1 cc2 cc3 cd0 cd1 cd2 cd3 ch0 ch1 ch2 ch3
  rintro e x17 ⟨rfl, hy⟩
  replace hx := hx.trans hy
  replace Kl := kE Kl hy
  replace Ka := kE Ka hy
  replace Km := kE Km hy
  replace Kc := kE Kc hy
  replace Kd := kE Kd hy
  replace Kh := kE Kh hy
  replace Va := Lib.hid (Va.out.ext hy)
  replace Vm := Lib.hid (Vm.out.ext hy)
  replace Vc := Lib.hid (Vc.out.ext hy)
  replace Vd := Lib.hid (Vd.out.ext hy)
  replace Vh := Lib.hid (Vh.out.ext hy)
  clear hy
  obtain ⟨cl0, cl1, cl2, cl3⟩ := bk4 Kl
  obtain ⟨ca0, ca1, ca2, ca3⟩ := bk4 Ka
  obtain ⟨cm0, cm1, cm2, cm3⟩ := bk4 Km
  obtain ⟨cc0, cc1, cc2, cc3⟩ := bk4 Kc
  obtain ⟨cd0, cd1, cd2, cd3⟩ := bk4 Kd
  obtain ⟨ch0, ch1, ch2, ch3⟩ := bk4 Kh
  have hl := Ext.alloc x17 (.cells #[.int .i64 4, .int .i64 5] 3)
  have hKK := Blk.new0 x17 #[.int .i64 4, .int .i64 5] 3
  have HTT := Lib.hid (tot_err (critIn (c := crS 1 2 1 false) (by decide)) (l := [4, 5]) (E := 160) (n := 2) (cap := 2) rfl (ints_lit [4, 5] hKK rfl (by decide) (in64_of (by decide))) (by decide) (by decide +kernel) (by decide))
  clear hKK
  go_wp2_with fail
  with_reducible refine (HTT.out).mono ?_
  clear cl0 cl1 cl2 cl3 ca0 ca1 ca2 ca3 cm0 cm1 cm2 cm3 cc0 cc1 cc2 cc3 cd0 cd1 cd2 cd3 ch0 ch1 ch2 ch3
  rintro e x18 ⟨rfl, hy⟩
  replace hy := hl.trans hy
  replace hx := hx.trans hy
  replace Kl := kE Kl hy
  replace Ka := kE Ka hy
  replace Km := kE Km hy
  replace Kc := kE Kc hy
  replace Kd := kE Kd hy
  replace Kh := kE Kh hy
  replace Va := Lib.hid (Va.out.ext hy)
  replace Vm := Lib.hid (Vm.out.ext hy)
  replace Vc := Lib.hid (Vc.out.ext hy)
  replace Vd := Lib.hid (Vd.out.ext hy)
  replace Vh := Lib.hid (Vh.out.ext hy)
  clear hy HTT hl
  go_upto_region 8 with fail
  have hl := Ext.alloc x18 (.cells #[.bool false, .slice none 0 0, .bool false, .slice none 0 0] 35)
  have llz : pl < x18.heap.size := Kl.out.lt
  have laz : pa < x18.heap.size := Ka.out.lt
  have lmz : pm < x18.heap.size := Km.out.lt
  have lcz : pc < x18.heap.size := Kc.out.lt
  have ldz : pd < x18.heap.size := Kd.out.lt
  have lhz : ph < x18.heap.size := Kh.out.lt
  have hpz : w.heap.size ≤ x18.heap.size := hx.size
  replace hx := hx.trans hl
  replace Kl := kE Kl hl
  replace Ka := kE Ka hl
  replace Km := kE Km hl
  replace Kc := kE Kc hl
  replace Kd := kE Kd hl
  replace Kh := kE Kh hl
  replace Va := Lib.hid (Va.out.ext hl)
  replace Vm := Lib.hid (Vm.out.ext hl)
  replace Vc := Lib.hid (Vc.out.ext hl)
  replace Vd := Lib.hid (Vd.out.ext hl)
  replace Vh := Lib.hid (Vh.out.ext hl)
  have Kz := Lib.hid (Blk.new0 x18 #[.bool false, .slice none 0 0, .bool false, .slice none 0 0] 35)
  clear hl
  generalize x18.alloc (.cells #[.bool false, .slice none 0 0, .bool false, .slice none 0 0] 35) = x19 at *
  generalize x18.heap.size = pz at *
  clear Kz
  obtain ⟨cl0, cl1, cl2, cl3⟩ := bk4 Kl
  obtain ⟨ca0, ca1, ca2, ca3⟩ := bk4 Ka
  obtain ⟨cm0, cm1, cm2, cm3⟩ := bk4 Km
  obtain ⟨cc0, cc1, cc2, cc3⟩ := bk4 Kc
  obtain ⟨cd0, cd1, cd2, cd3⟩ := bk4 Kd
  obtain ⟨ch0, ch1, ch2, ch3⟩ := bk4 Kh
  go_wp2_with fail
  refine (law16_scale 1 1 0 _).mono ?_
  clear cl0 cl1 cl2 cl3 ca0 ca1 ca2 ca3 cm0 cm1 cm2 cm3 cc0 cc1 cc2 cc3 cd0 cd1 cd2 cd3 ch0 ch1 ch2 ch3
  rintro e x20 ⟨rfl, hy⟩
  replace hx := hx.trans hy
  replace Kl := kE Kl hy
  replace Ka := kE Ka hy
  replace Km := kE Km hy
  replace Kc := kE Kc hy
  replace Kd := kE Kd hy
  replace Kh := kE Kh hy
  replace Va := Lib.hid (Va.out.ext hy)
  replace Vm := Lib.hid (Vm.out.ext hy)
  replace Vc := Lib.hid (Vc.out.ext hy)
  replace Vd := Lib.hid (Vd.out.ext hy)
  replace Vh := Lib.hid (Vh.out.ext hy)
  clear hy
  obtain ⟨cl0, cl1, cl2, cl3⟩ := bk4 Kl
  obtain ⟨ca0, ca1, ca2, ca3⟩ := bk4 Ka
  obtain ⟨cm0, cm1, cm2, cm3⟩ := bk4 Km
  obtain ⟨cc0, cc1, cc2, cc3⟩ := bk4 Kc
  obtain ⟨cd0, cd1, cd2, cd3⟩ := bk4 Kd
  obtain ⟨ch0, ch1, ch2, ch3⟩ := bk4 Kh
  go_wp2_with fail
  with_reducible refine (tot_err (critIn (c := crS 1 1 0 false) (by decide)) (l := []) (E := 160) (n := 0) (cap := 0) rfl (show Ints _ none 0 [] from ⟨Nat.le_refl _, by omega, fun _ => rfl, fun A hA => by cases hA⟩) (by decide) (by decide +kernel) (by decide)).mono ?_
  clear cl0 cl1 cl2 cl3 ca0 ca1 ca2 ca3 cm0 cm1 cm2 cm3 cc0 cc1 cc2 cc3 cd0 cd1 cd2 cd3 ch0 ch1 ch2 ch3
  rintro e x21 ⟨rfl, hy⟩
  replace hx := hx.trans hy
  replace Kl := kE Kl hy
  replace Ka := kE Ka hy
  replace Km := kE Km hy
  replace Kc := kE Kc hy
  replace Kd := kE Kd hy
  replace Kh := kE Kh hy
  replace Va := Lib.hid (Va.out.ext hy)
  replace Vm := Lib.hid (Vm.out.ext hy)
  replace Vc := Lib.hid (Vc.out.ext hy)
  replace Vd := Lib.hid (Vd.out.ext hy)
  replace Vh := Lib.hid (Vh.out.ext hy)
  clear hy
  go_upto_region 9 with fail
  have hl := Ext.alloc x21 (.cells #[.bool false, .slice none 0 0, .bool false, .slice none 0 0] 35)
  have llz : pl < x21.heap.size := Kl.out.lt
  have laz : pa < x21.heap.size := Ka.out.lt
  have lmz : pm < x21.heap.size := Km.out.lt
  have lcz : pc < x21.heap.size := Kc.out.lt
  have ldz : pd < x21.heap.size := Kd.out.lt
  have lhz : ph < x21.heap.size := Kh.out.lt
  have hpz : w.heap.size ≤ x21.heap.size := hx.size
  replace hx := hx.trans hl
  replace Kl := kE Kl hl
  replace Ka := kE Ka hl
  replace Km := kE Km hl
  replace Kc := kE Kc hl
  replace Kd := kE Kd hl
  replace Kh := kE Kh hl
  replace Va := Lib.hid (Va.out.ext hl)
  replace Vm := Lib.hid (Vm.out.ext hl)
  replace Vc := Lib.hid (Vc.out.ext hl)
  replace Vd := Lib.hid (Vd.out.ext hl)
  replace Vh := Lib.hid (Vh.out.ext hl)
  have Kz := Lib.hid (Blk.new0 x21 #[.bool false, .slice none 0 0, .bool false, .slice none 0 0] 35)
  clear hl
  generalize x21.alloc (.cells #[.bool false, .slice none 0 0, .bool false, .slice none 0 0] 35) = x22 at *
  generalize x21.heap.size = pz at *
  clear Kz
  obtain ⟨cl0, cl1, cl2, cl3⟩ := bk4 Kl
  obtain ⟨ca0, ca1, ca2, ca3⟩ := bk4 Ka
  obtain ⟨cm0, cm1, cm2, cm3⟩ := bk4 Km
  obtain ⟨cc0, cc1, cc2, cc3⟩ := bk4 Kc
  obtain ⟨cd0, cd1, cd2, cd3⟩ := bk4 Kd
  obtain ⟨ch0, ch1, ch2, ch3⟩ := bk4 Kh
  go_wp2_with fail
  refine (law16_scale 3 1 0 _).mono ?_
  clear cl0 cl1 cl2 cl3 ca0 ca1 ca2 ca3 cm0 cm1 cm2 cm3 cc0 cc1 cc2 cc3 cd0 cd1 cd2 cd3 ch0 ch1 ch2 ch3
  rintro e x23 ⟨rfl, hy⟩
  replace hx := hx.trans hy
  replace Kl := kE Kl hy
  replace Ka := kE Ka hy
  replace Km := kE Km hy
  replace Kc := kE Kc hy
  replace Kd := kE Kd hy
  replace Kh := kE Kh hy
  replace Va := Lib.hid (Va.out.ext hy)
  replace Vm := Lib.hid (Vm.out.ext hy)
  replace Vc := Lib.hid (Vc.out.ext hy)
  replace Vd := Lib.hid (Vd.out.ext hy)
  replace Vh := Lib.hid (Vh.out.ext hy)
  clear hy
  obtain ⟨cl0, cl1, cl2, cl3⟩ := bk4 Kl
  obtain ⟨ca0, ca1, ca2, ca3⟩ := bk4 Ka
  obtain ⟨cm0, cm1, cm2, cm3⟩ := bk4 Km
  obtain ⟨cc0, cc1, cc2, cc3⟩ := bk4 Kc
  obtain ⟨cd0, cd1, cd2, cd3⟩ := bk4 Kd
  obtain ⟨ch0, ch1, ch2, ch3⟩ := bk4 Kh
  have hl := Ext.alloc x23 (.cells #[.int .i64 0] 3)
  have hKK := Blk.new0 x23 #[.int .i64 0] 3
  have HTT := Lib.hid (tot_err (critIn (c := crS 3 1 0 false) (by decide)) (l := [0]) (E := 150) (n := 1) (cap := 1) rfl (ints_lit [0] hKK rfl (by decide) (in64_of (by decide))) (by decide) (by decide +kernel) (by decide))
  clear hKK
  go_wp2_with fail
  with_reducible refine (HTT.out).mono ?_
  clear cl0 cl1 cl2 cl3 ca0 ca1 ca2 ca3 cm0 cm1 cm2 cm3 cc0 cc1 cc2 cc3 cd0 cd1 cd2 cd3 ch0 ch1 ch2 ch3
  rintro e x24 ⟨rfl, hy⟩
  replace hy := hl.trans hy
  replace hx := hx.trans hy
  replace Kl := kE Kl hy
  replace Ka := kE Ka hy
  replace Km := kE Km hy
  replace Kc := kE Kc hy
  replace Kd := kE Kd hy
  replace Kh := kE Kh hy
  replace Va := Lib.hid (Va.out.ext hy)
  replace Vm := Lib.hid (Vm.out.ext hy)
  replace Vc := Lib.hid (Vc.out.ext hy)
  replace Vd := Lib.hid (Vd.out.ext hy)
  replace Vh := Lib.hid (Vh.out.ext hy)
  clear hy HTT hl
  go_upto_region 10 with fail
  have hl := Ext.alloc x24 (.cells #[.bool false, .slice none 0 0, .bool false, .slice none 0 0] 35)
  have llz : pl < x24.heap.size := Kl.out.lt
  have laz : pa < x24.heap.size := Ka.out.lt
  have lmz : pm < x24.heap.size := Km.out.lt
  have lcz : pc < x24.heap.size := Kc.out.lt
  have ldz : pd < x24.heap.size := Kd.out.lt
  have lhz : ph < x24.heap.size := Kh.out.lt
  have hpz : w.heap.size ≤ x24.heap.size := hx.size
  replace hx := hx.trans hl
  replace Kl := kE Kl hl
  replace Ka := kE Ka hl
  replace Km := kE Km hl
  replace Kc := kE Kc hl
  replace Kd := kE Kd hl
  replace Kh := kE Kh hl
  replace Va := Lib.hid (Va.out.ext hl)
  replace Vm := Lib.hid (Vm.out.ext hl)
  replace Vc := Lib.hid (Vc.out.ext hl)
  replace Vd := Lib.hid (Vd.out.ext hl)
  replace Vh := Lib.hid (Vh.out.ext hl)
  have Kz := Lib.hid (Blk.new0 x24 #[.bool false, .slice none 0 0, .bool false, .slice none 0 0] 35)
  clear hl
  generalize x24.alloc (.cells #[.bool false, .slice none 0 0, .bool false, .slice none 0 0] 35) = x25 at *
  generalize x24.heap.size = pz at *
  clear Kz
  obtain ⟨cl0, cl1, cl2, cl3⟩ := bk4 Kl
  obtain ⟨ca0, ca1, ca2, ca3⟩ := bk4 Ka
  obtain ⟨cm0, cm1, cm2, cm3⟩ := bk4 Km
  obtain ⟨cc0, cc1, cc2, cc3⟩ := bk4 Kc
  obtain ⟨cd0, cd1, cd2, cd3⟩ := bk4 Kd
  obtain ⟨ch0, ch1, ch2, ch3⟩ := bk4 Kh
  go_wp2_with fail
  refine (law16_scale 5 1 0 _).mono ?_
  clear cl0 cl1 cl2 cl3 ca0 ca1 ca2 ca3 cm0 cm1 cm2 cm3 cc0 cc1 cc2 cc3 cd0 cd1 cd2 cd3 ch0 ch1 ch2 ch3
  rintro e x26 ⟨rfl, hy⟩
  replace hx := hx.trans hy
  replace Kl := kE Kl hy
  replace Ka := kE Ka hy
  replace Km := kE Km hy
  replace Kc := kE Kc hy
  replace Kd := kE Kd hy
  replace Kh := kE Kh hy
  replace Va := Lib.hid (Va.out.ext hy)
  replace Vm := Lib.hid (Vm.out.ext hy)
  replace Vc := Lib.hid (Vc.out.ext hy)
  replace Vd := Lib.hid (Vd.out.ext hy)
  replace Vh := Lib.hid (Vh.out.ext hy)
  clear hy
  obtain ⟨cl0, cl1, cl2, cl3⟩ := bk4 Kl
  obtain ⟨ca0, ca1, ca2, ca3⟩ := bk4 Ka
  obtain ⟨cm0, cm1, cm2, cm3⟩ := bk4 Km
  obtain ⟨cc0, cc1, cc2, cc3⟩ := bk4 Kc
  obtain ⟨cd0, cd1, cd2, cd3⟩ := bk4 Kd
  obtain ⟨ch0, ch1, ch2, ch3⟩ := bk4 Kh
  have hl := Ext.alloc x26 (.cells #[.int .i64 0, .int .i64 6] 3)
  have hKK := Blk.new0 x26 #[.int .i64 0, .int .i64 6] 3
  have HTT := Lib.hid (tot_err (critIn (c := crS 5 1 0 false) (by decide)) (l := [0, 6]) (E := 160) (n := 2) (cap := 2) rfl (ints_lit [0, 6] hKK rfl (by decide) (in64_of (by decide))) (by decide) (by decide +kernel) (by decide))
  clear hKK
  go_wp2_with fail
  with_reducible refine (HTT.out).mono ?_
  clear cl0 cl1 cl2 cl3 ca0 ca1 ca2 ca3 cm0 cm1 cm2 cm3 cc0 cc1 cc2 cc3 cd0 cd1 cd2 cd3 ch0 ch1 ch2 ch3
  rintro e x27 ⟨rfl, hy⟩
  replace hy := hl.trans hy
  replace hx := hx.trans hy
  replace Kl := kE Kl hy
  replace Ka := kE Ka hy
  replace Km := kE Km hy
  replace Kc := kE Kc hy
  replace Kd := kE Kd hy
  replace Kh := kE Kh hy
  replace Va := Lib.hid (Va.out.ext hy)
  replace Vm := Lib.hid (Vm.out.ext hy)
  replace Vc := Lib.hid (Vc.out.ext hy)
  replace Vd := Lib.hid (Vd.out.ext hy)
  replace Vh := Lib.hid (Vh.out.ext hy)
  clear hy HTT hl
  go_upto_region 11 with fail
  have hl := Ext.alloc x27 (.cells #[.bool false, .slice none 0 0, .bool false, .slice none 0 0] 35)
  have llz : pl < x27.heap.size := Kl.out.lt
  have laz : pa < x27.heap.size := Ka.out.lt
  have lmz : pm < x27.heap.size := Km.out.lt
  have lcz : pc < x27.heap.size := Kc.out.lt
  have ldz : pd < x27.heap.size := Kd.out.lt
  have lhz : ph < x27.heap.size := Kh.out.lt
  have hpz : w.heap.size ≤ x27.heap.size := hx.size
  replace hx := hx.trans hl
  replace Kl := kE Kl hl
  replace Ka := kE Ka hl
  replace Km := kE Km hl
  replace Kc := kE Kc hl
  replace Kd := kE Kd hl
  replace Kh := kE Kh hl
  replace Va := Lib.hid (Va.out.ext hl)
  replace Vm := Lib.hid (Vm.out.ext hl)
  replace Vc := Lib.hid (Vc.out.ext hl)
  replace Vd := Lib.hid (Vd.out.ext hl)
  replace Vh := Lib.hid (Vh.out.ext hl)
  have Kz := Lib.hid (Blk.new0 x27 #[.bool false, .slice none 0 0, .bool false, .slice none 0 0] 35)
  clear hl
  generalize x27.alloc (.cells #[.bool false, .slice none 0 0, .bool false, .slice none 0 0] 35) = x28 at *
  generalize x27.heap.size = pz at *
  clear Kz
  clear Kl
  obtain ⟨ca0, ca1, ca2, ca3⟩ := bk4 Ka
  obtain ⟨cm0, cm1, cm2, cm3⟩ := bk4 Km
  obtain ⟨cc0, cc1, cc2, cc3⟩ := bk4 Kc
  obtain ⟨cd0, cd1, cd2, cd3⟩ := bk4 Kd
  obtain ⟨ch0, ch1, ch2, ch3⟩ := bk4 Kh
  go_wp2_with fail
  refine (law16_scale 5 3 0 _).mono ?_
  clear ca0 ca1 ca2 ca3 cm0 cm1 cm2 cm3 cc0 cc1 cc2 cc3 cd0 cd1 cd2 cd3 ch0 ch1 ch2 ch3
  rintro e x29 ⟨rfl, hy⟩
  replace hx := hx.trans hy
  replace Ka := kE Ka hy
  replace Km := kE Km hy
  replace Kc := kE Kc hy
  replace Kd := kE Kd hy
  replace Kh := kE Kh hy
  replace Va := Lib.hid (Va.out.ext hy)
  replace Vm := Lib.hid (Vm.out.ext hy)
  replace Vc := Lib.hid (Vc.out.ext hy)
  replace Vd := Lib.hid (Vd.out.ext hy)
  replace Vh := Lib.hid (Vh.out.ext hy)
  clear hy
  dsimp only [crS, CritA.val, CritA.cells]
  obtain ⟨ca0, ca1, ca2, ca3⟩ := bk4 Ka
  obtain ⟨cm0, cm1, cm2, cm3⟩ := bk4 Km
  obtain ⟨cc0, cc1, cc2, cc3⟩ := bk4 Kc
  obtain ⟨cd0, cd1, cd2, cd3⟩ := bk4 Kd
  obtain ⟨ch0, ch1, ch2, ch3⟩ := bk4 Kh
  go_upto_region 13 with fail
  have hl := Ext.alloc x29 (.cells #[.string ⟨#[]⟩, .int .i64 0, .int .i64 10, .int .i64 5, .int .i64 3, .int .i64 0, .bool true] 48)
  have lav : pa < x29.heap.size := Ka.out.lt
  have lmv : pm < x29.heap.size := Km.out.lt
  have lcv : pc < x29.heap.size := Kc.out.lt
  have ldv : pd < x29.heap.size := Kd.out.lt
  have lhv : ph < x29.heap.size := Kh.out.lt
  have hpv : w.heap.size ≤ x29.heap.size := hx.size
  clear ca0 ca1 ca2 ca3 cm0 cm1 cm2 cm3 cc0 cc1 cc2 cc3 cd0 cd1 cd2 cd3 ch0 ch1 ch2 ch3
  replace hx := hx.trans hl
  replace Ka := kE Ka hl
  replace Km := kE Km hl
  replace Kc := kE Kc hl
  replace Kd := kE Kd hl
  replace Kh := kE Kh hl
  replace Va := Lib.hid (Va.out.ext hl)
  replace Vm := Lib.hid (Vm.out.ext hl)
  replace Vc := Lib.hid (Vc.out.ext hl)
  replace Vd := Lib.hid (Vd.out.ext hl)
  replace Vh := Lib.hid (Vh.out.ext hl)
  have Kv := Lib.hid (Blk.new0 x29 #[.string ⟨#[]⟩, .int .i64 0, .int .i64 10, .int .i64 5, .int .i64 3, .int .i64 0, .bool true] 48)
  clear hl
  generalize x29.alloc (.cells #[.string ⟨#[]⟩, .int .i64 0, .int .i64 10, .int .i64 5, .int .i64 3, .int .i64 0, .bool true] 48) = x30 at *
  generalize x29.heap.size = pv at *
  obtain ⟨ca0, ca1, ca2, ca3⟩ := bk4 Ka
  obtain ⟨cm0, cm1, cm2, cm3⟩ := bk4 Km
  obtain ⟨cc0, cc1, cc2, cc3⟩ := bk4 Kc
  obtain ⟨cd0, cd1, cd2, cd3⟩ := bk4 Kd
  obtain ⟨ch0, ch1, ch2, ch3⟩ := bk4 Kh
  have cv0 := Kv.out.cell (i := 0) (v := .string ⟨#[]⟩) rfl
  have cv1 := Kv.out.cell (i := 1) (v := .int .i64 0) rfl
  have cv2 := Kv.out.cell (i := 2) (v := .int .i64 10) rfl
  have cv3 := Kv.out.cell (i := 3) (v := .int .i64 5) rfl
  have cv4 := Kv.out.cell (i := 4) (v := .int .i64 3) rfl
  have cv5 := Kv.out.cell (i := 5) (v := .int .i64 0) rfl
  have cv6 := Kv.out.cell (i := 6) (v := .bool true) rfl
  have hl := Ext.alloc x30 (.cells #[.int .i64 0, .int .i64 10, .int .i64 10] 3)
  have hKK := Blk.new0 x30 #[.int .i64 0, .int .i64 10, .int .i64 10] 3
  have hsz := (hx.trans hl).size
  have HTT := Lib.hid (tot_ok (critIn (c := crS 5 3 0 true) (by decide)) (l := [0, 10, 10]) (n := 3) (cap := 3) rfl (ints_lit [0, 10, 10] hKK rfl (by decide) (in64_of (by decide))) (by decide) (by decide +kernel))
  clear hKK
  go_wp2_with fail
  with_reducible refine (HTT.out).mono ?_
  clear ca0 ca1 ca2 ca3 cm0 cm1 cm2 cm3 cc0 cc1 cc2 cc3 cd0 cd1 cd2 cd3 ch0 ch1 ch2 ch3 cv0 cv1 cv2 cv3 cv4 cv5 cv6
  rintro e x31 ⟨v, rfl, hv, hy⟩
  replace hy := hl.trans hy
  replace hx := hx.trans hy
  replace Ka := kE Ka hy
  replace Km := kE Km hy
  replace Kc := kE Kc hy
  replace Kd := kE Kd hy
  replace Kh := kE Kh hy
  replace Kv := kE Kv hy
  replace Va := Lib.hid (Va.out.ext hy)
  replace Vm := Lib.hid (Vm.out.ext hy)
  replace Vc := Lib.hid (Vc.out.ext hy)
  replace Vd := Lib.hid (Vd.out.ext hy)
  replace Vh := Lib.hid (Vh.out.ext hy)
  clear hy HTT hl
  obtain ⟨nn, an, qn, cn, bn, kn, dn, rfl, hv', hf', hg'⟩ := hv
  have Vn := Lib.hid hv'
  have Fn := Lib.hid (fun A hA => Nat.le_trans hsz (hf' A hA))
  have Gn := Lib.hid (fun A hA => Nat.le_trans hsz (hg' A hA))
  clear hv' hf' hg' hsz
  clear Fn Gn
  go_upto_region 14 with fail
  have hl := Ext.alloc x31 (.cells #[.bool nn, .slice an qn cn, .bool false, .slice bn kn dn] 35)
  have lan : pa < x31.heap.size := Ka.out.lt
  have lmn : pm < x31.heap.size := Km.out.lt
  have lcn : pc < x31.heap.size := Kc.out.lt
  have ldn : pd < x31.heap.size := Kd.out.lt
  have lhn : ph < x31.heap.size := Kh.out.lt
  have lvn : pv < x31.heap.size := Kv.out.lt
  have hpn : w.heap.size ≤ x31.heap.size := hx.size
  replace hx := hx.trans hl
  replace Ka := kE Ka hl
  replace Km := kE Km hl
  replace Kc := kE Kc hl
  replace Kd := kE Kd hl
  replace Kh := kE Kh hl
  replace Kv := kE Kv hl
  replace Va := Lib.hid (Va.out.ext hl)
  replace Vm := Lib.hid (Vm.out.ext hl)
  replace Vc := Lib.hid (Vc.out.ext hl)
  replace Vd := Lib.hid (Vd.out.ext hl)
  replace Vh := Lib.hid (Vh.out.ext hl)
  replace Vn := Lib.hid (Vn.out.ext hl)
  have Kn := Lib.hid (Blk.new0 x31 #[.bool nn, .slice an qn cn, .bool false, .slice bn kn dn] 35)
  clear hl
  generalize x31.alloc (.cells #[.bool nn, .slice an qn cn, .bool false, .slice bn kn dn] 35) = x32 at *
  generalize x31.heap.size = pn at *
  clear Kv
  go_upto_region 15 with fail
  have hl := Ext.alloc x32 (.cells #[.string ⟨#[]⟩, .int .i64 2, .int .i64 8, .int .i64 3, .int .i64 1, .int .i64 0, .bool true] 48)
  have lat : pa < x32.heap.size := Ka.out.lt
  have lmt : pm < x32.heap.size := Km.out.lt
  have lct : pc < x32.heap.size := Kc.out.lt
  have ldt : pd < x32.heap.size := Kd.out.lt
  have lht : ph < x32.heap.size := Kh.out.lt
  have lnt : pn < x32.heap.size := Kn.out.lt
  have hpt : w.heap.size ≤ x32.heap.size := hx.size
  replace hx := hx.trans hl
  replace Ka := kE Ka hl
  replace Km := kE Km hl
  replace Kc := kE Kc hl
  replace Kd := kE Kd hl
  replace Kh := kE Kh hl
  replace Kn := kE Kn hl
  replace Va := Lib.hid (Va.out.ext hl)
  replace Vm := Lib.hid (Vm.out.ext hl)
  replace Vc := Lib.hid (Vc.out.ext hl)
  replace Vd := Lib.hid (Vd.out.ext hl)
  replace Vh := Lib.hid (Vh.out.ext hl)
  replace Vn := Lib.hid (Vn.out.ext hl)
  have Kt := Lib.hid (Blk.new0 x32 #[.string ⟨#[]⟩, .int .i64 2, .int .i64 8, .int .i64 3, .int .i64 1, .int .i64 0, .bool true] 48)
  clear hl
  generalize x32.alloc (.cells #[.string ⟨#[]⟩, .int .i64 2, .int .i64 8, .int .i64 3, .int .i64 1, .int .i64 0, .bool true] 48) = x33 at *
  generalize x32.heap.size = pt at *
  obtain ⟨ca0, ca1, ca2, ca3⟩ := bk4 Ka
  obtain ⟨cm0, cm1, cm2, cm3⟩ := bk4 Km
  obtain ⟨cc0, cc1, cc2, cc3⟩ := bk4 Kc
  obtain ⟨cd0, cd1, cd2, cd3⟩ := bk4 Kd
  obtain ⟨ch0, ch1, ch2, ch3⟩ := bk4 Kh
  obtain ⟨cn0, cn1, cn2, cn3⟩ := bk4 Kn
  have ct0 := Kt.out.cell (i := 0) (v := .string ⟨#[]⟩) rfl
  have ct1 := Kt.out.cell (i := 1) (v := .int .i64 2) rfl
  have ct2 := Kt.out.cell (i := 2) (v := .int .i64 8) rfl
  have ct3 := Kt.out.cell (i := 3) (v := .int .i64 3) rfl
  have ct4 := Kt.out.cell (i := 4) (v := .int .i64 1) rfl
  have ct5 := Kt.out.cell (i := 5) (v := .int .i64 0) rfl
  have ct6 := Kt.out.cell (i := 6) (v := .bool true) rfl
  have HBt := Lib.hid (fun W => combine_Better (⟨⟨#[]⟩, 2, 8, 3, 1, 0, true⟩ : CritA) (critIn (c := (⟨⟨#[]⟩, 2, 8, 3, 1, 0, true⟩ : CritA)) (by decide)) 5 ⟨by decide, by decide⟩ W)
  rw [show betterC (⟨⟨#[]⟩, 2, 8, 3, 1, 0, true⟩ : CritA) 5 = (5, 0) by decide] at HBt
  go_wp2_with fail
  with_reducible refine (HBt.out _).mono ?_
  clear ca0 ca1 ca2 ca3 cm0 cm1 cm2 cm3 cc0 cc1 cc2 cc3 cd0 cd1 cd2 cd3 ch0 ch1 ch2 ch3 cn0 cn1 cn2 cn3 ct0 ct1 ct2 ct3 ct4 ct5 ct6
  rintro e x34 ⟨rfl, hy⟩
  replace hx := hx.trans hy
  replace Ka := kE Ka hy
  replace Km := kE Km hy
  replace Kc := kE Kc hy
  replace Kd := kE Kd hy
  replace Kh := kE Kh hy
  replace Kn := kE Kn hy
  replace Kt := kE Kt hy
  replace Va := Lib.hid (Va.out.ext hy)
  replace Vm := Lib.hid (Vm.out.ext hy)
  replace Vc := Lib.hid (Vc.out.ext hy)
  replace Vd := Lib.hid (Vd.out.ext hy)
  replace Vh := Lib.hid (Vh.out.ext hy)
  replace Vn := Lib.hid (Vn.out.ext hy)
  clear hy
  clear HBt
  obtain ⟨ca0, ca1, ca2, ca3⟩ := bk4 Ka
  obtain ⟨cm0, cm1, cm2, cm3⟩ := bk4 Km
  obtain ⟨cc0, cc1, cc2, cc3⟩ := bk4 Kc
  obtain ⟨cd0, cd1, cd2, cd3⟩ := bk4 Kd
  obtain ⟨ch0, ch1, ch2, ch3⟩ := bk4 Kh
  obtain ⟨cn0, cn1, cn2, cn3⟩ := bk4 Kn
  have ct0 := Kt.out.cell (i := 0) (v := .string ⟨#[]⟩) rfl
  have ct1 := Kt.out.cell (i := 1) (v := .int .i64 2) rfl
  have ct2 := Kt.out.cell (i := 2) (v := .int .i64 8) rfl
  have ct3 := Kt.out.cell (i := 3) (v := .int .i64 3) rfl
  have ct4 := Kt.out.cell (i := 4) (v := .int .i64 1) rfl
  have ct5 := Kt.out.cell (i := 5) (v := .int .i64 0) rfl
  have ct6 := Kt.out.cell (i := 6) (v := .bool true) rfl
  have HBt := Lib.hid (fun W => combine_Better (⟨⟨#[]⟩, 2, 8, 3, 1, 0, true⟩ : CritA) (critIn (c := (⟨⟨#[]⟩, 2, 8, 3, 1, 0, true⟩ : CritA)) (by decide)) 2 ⟨by decide, by decide⟩ W)
  rw [show betterC (⟨⟨#[]⟩, 2, 8, 3, 1, 0, true⟩ : CritA) 2 = (8, 0) by decide] at HBt
  go_wp2_with fail
  with_reducible refine (HBt.out _).mono ?_
  clear ca0 ca1 ca2 ca3 cm0 cm1 cm2 cm3 cc0 cc1 cc2 cc3 cd0 cd1 cd2 cd3 ch0 ch1 ch2 ch3 cn0 cn1 cn2 cn3 ct0 ct1 ct2 ct3 ct4 ct5 ct6
  rintro e x35 ⟨rfl, hy⟩
  replace hx := hx.trans hy
  replace Ka := kE Ka hy
  replace Km := kE Km hy
  replace Kc := kE Kc hy
  replace Kd := kE Kd hy
  replace Kh := kE Kh hy
  replace Kn := kE Kn hy
  replace Kt := kE Kt hy
  replace Va := Lib.hid (Va.out.ext hy)
  replace Vm := Lib.hid (Vm.out.ext hy)
  replace Vc := Lib.hid (Vc.out.ext hy)
  replace Vd := Lib.hid (Vd.out.ext hy)
  replace Vh := Lib.hid (Vh.out.ext hy)
  replace Vn := Lib.hid (Vn.out.ext hy)
  clear hy
  clear HBt
  obtain ⟨ca0, ca1, ca2, ca3⟩ := bk4 Ka
  obtain ⟨cm0, cm1, cm2, cm3⟩ := bk4 Km
  obtain ⟨cc0, cc1, cc2, cc3⟩ := bk4 Kc
  obtain ⟨cd0, cd1, cd2, cd3⟩ := bk4 Kd
  obtain ⟨ch0, ch1, ch2, ch3⟩ := bk4 Kh
  obtain ⟨cn0, cn1, cn2, cn3⟩ := bk4 Kn
  have ct0 := Kt.out.cell (i := 0) (v := .string ⟨#[]⟩) rfl
  have ct1 := Kt.out.cell (i := 1) (v := .int .i64 2) rfl
  have ct2 := Kt.out.cell (i := 2) (v := .int .i64 8) rfl
  have ct3 := Kt.out.cell (i := 3) (v := .int .i64 3) rfl
  have ct4 := Kt.out.cell (i := 4) (v := .int .i64 1) rfl
  have ct5 := Kt.out.cell (i := 5) (v := .int .i64 0) rfl
  have ct6 := Kt.out.cell (i := 6) (v := .bool true) rfl
  have HBt := Lib.hid (fun W => combine_Better (⟨⟨#[]⟩, 2, 8, 3, 1, 0, true⟩ : CritA) (critIn (c := (⟨⟨#[]⟩, 2, 8, 3, 1, 0, true⟩ : CritA)) (by decide)) 4 ⟨by decide, by decide⟩ W)
  rw [show betterC (⟨⟨#[]⟩, 2, 8, 3, 1, 0, true⟩ : CritA) 4 = (0, 160) by decide] at HBt
  go_wp2_with fail
  with_reducible refine (HBt.out _).mono ?_
  clear ca0 ca1 ca2 ca3 cm0 cm1 cm2 cm3 cc0 cc1 cc2 cc3 cd0 cd1 cd2 cd3 ch0 ch1 ch2 ch3 cn0 cn1 cn2 cn3 ct0 ct1 ct2 ct3 ct4 ct5 ct6
  rintro e x36 ⟨rfl, hy⟩
  replace hx := hx.trans hy
  replace Ka := kE Ka hy
  replace Km := kE Km hy
  replace Kc := kE Kc hy
  replace Kd := kE Kd hy
  replace Kh := kE Kh hy
  replace Kn := kE Kn hy
  replace Kt := kE Kt hy
  replace Va := Lib.hid (Va.out.ext hy)
  replace Vm := Lib.hid (Vm.out.ext hy)
  replace Vc := Lib.hid (Vc.out.ext hy)
  replace Vd := Lib.hid (Vd.out.ext hy)
  replace Vh := Lib.hid (Vh.out.ext hy)
  replace Vn := Lib.hid (Vn.out.ext hy)
  clear hy
  clear HBt
  clear Kt
  obtain ⟨ca0, ca1, ca2, ca3⟩ := bk4 Ka
  go_wp2_with fail
  with_reducible refine (law16_is 16 1 Va.out (by omega) (by omega) (by decide +kernel)).mono ?_
  clear ca0 ca1 ca2 ca3
  rintro e x37 ⟨rfl, hy⟩
  replace hx := hx.trans hy
  replace Ka := kE Ka hy
  replace Km := kE Km hy
  replace Kc := kE Kc hy
  replace Kd := kE Kd hy
  replace Kh := kE Kh hy
  replace Kn := kE Kn hy
  replace Va := Lib.hid (Va.out.ext hy)
  replace Vm := Lib.hid (Vm.out.ext hy)
  replace Vc := Lib.hid (Vc.out.ext hy)
  replace Vd := Lib.hid (Vd.out.ext hy)
  replace Vh := Lib.hid (Vh.out.ext hy)
  replace Vn := Lib.hid (Vn.out.ext hy)
  clear hy
  obtain ⟨cm0, cm1, cm2, cm3⟩ := bk4 Km
  go_wp2_with fail
  with_reducible refine (law16_is 4 1 Vm.out (by omega) (by omega) (by decide +kernel)).mono ?_
  clear cm0 cm1 cm2 cm3
  rintro e x38 ⟨rfl, hy⟩
  replace hx := hx.trans hy
  replace Ka := kE Ka hy
  replace Km := kE Km hy
  replace Kc := kE Kc hy
  replace Kd := kE Kd hy
  replace Kh := kE Kh hy
  replace Kn := kE Kn hy
  replace Va := Lib.hid (Va.out.ext hy)
  replace Vm := Lib.hid (Vm.out.ext hy)
  replace Vc := Lib.hid (Vc.out.ext hy)
  replace Vd := Lib.hid (Vd.out.ext hy)
  replace Vh := Lib.hid (Vh.out.ext hy)
  replace Vn := Lib.hid (Vn.out.ext hy)
  clear hy
  obtain ⟨cc0, cc1, cc2, cc3⟩ := bk4 Kc
  go_wp2_with fail
  with_reducible refine (law16_is 3 1 Vc.out (by omega) (by omega) (by decide +kernel)).mono ?_
  clear cc0 cc1 cc2 cc3
  rintro e x39 ⟨rfl, hy⟩
  replace hx := hx.trans hy
  replace Ka := kE Ka hy
  replace Km := kE Km hy
  replace Kc := kE Kc hy
  replace Kd := kE Kd hy
  replace Kh := kE Kh hy
  replace Kn := kE Kn hy
  replace Va := Lib.hid (Va.out.ext hy)
  replace Vm := Lib.hid (Vm.out.ext hy)
  replace Vc := Lib.hid (Vc.out.ext hy)
  replace Vd := Lib.hid (Vd.out.ext hy)
  replace Vh := Lib.hid (Vh.out.ext hy)
  replace Vn := Lib.hid (Vn.out.ext hy)
  clear hy
  obtain ⟨cd0, cd1, cd2, cd3⟩ := bk4 Kd
  go_wp2_with fail
  with_reducible refine (law16_is 3 1 Vd.out (by omega) (by omega) (by decide +kernel)).mono ?_
  clear cd0 cd1 cd2 cd3
  rintro e x40 ⟨rfl, hy⟩
  replace hx := hx.trans hy
  replace Ka := kE Ka hy
  replace Km := kE Km hy
  replace Kc := kE Kc hy
  replace Kd := kE Kd hy
  replace Kh := kE Kh hy
  replace Kn := kE Kn hy
  replace Va := Lib.hid (Va.out.ext hy)
  replace Vm := Lib.hid (Vm.out.ext hy)
  replace Vc := Lib.hid (Vc.out.ext hy)
  replace Vd := Lib.hid (Vd.out.ext hy)
  replace Vh := Lib.hid (Vh.out.ext hy)
  replace Vn := Lib.hid (Vn.out.ext hy)
  clear hy
  obtain ⟨ch0, ch1, ch2, ch3⟩ := bk4 Kh
  go_wp2_with fail
  with_reducible refine (law16_is 3 2 Vh.out (by omega) (by omega) (by decide +kernel)).mono ?_
  clear ch0 ch1 ch2 ch3
  rintro e x41 ⟨rfl, hy⟩
  replace hx := hx.trans hy
  replace Ka := kE Ka hy
  replace Km := kE Km hy
  replace Kc := kE Kc hy
  replace Kd := kE Kd hy
  replace Kh := kE Kh hy
  replace Kn := kE Kn hy
  replace Va := Lib.hid (Va.out.ext hy)
  replace Vm := Lib.hid (Vm.out.ext hy)
  replace Vc := Lib.hid (Vc.out.ext hy)
  replace Vd := Lib.hid (Vd.out.ext hy)
  replace Vh := Lib.hid (Vh.out.ext hy)
  replace Vn := Lib.hid (Vn.out.ext hy)
  clear hy
  obtain ⟨cn0, cn1, cn2, cn3⟩ := bk4 Kn
  go_wp2_with fail
  with_reducible refine (law16_is 0 1 Vn.out (by omega) (by omega) (by decide +kernel)).mono ?_
  clear cn0 cn1 cn2 cn3
  rintro e x42 ⟨rfl, hy⟩
  replace hx := hx.trans hy
  replace Ka := kE Ka hy
  replace Km := kE Km hy
  replace Kc := kE Kc hy
  replace Kd := kE Kd hy
  replace Kh := kE Kh hy
  replace Kn := kE Kn hy
  replace Va := Lib.hid (Va.out.ext hy)
  replace Vm := Lib.hid (Vm.out.ext hy)
  replace Vc := Lib.hid (Vc.out.ext hy)
  replace Vd := Lib.hid (Vd.out.ext hy)
  replace Vh := Lib.hid (Vh.out.ext hy)
  replace Vn := Lib.hid (Vn.out.ext hy)
  clear hy
  go_wp2_with fail
  go_ret
  exact ⟨rfl, hx⟩
end Go.Proofs.Ytmcbbhlglccmgaa
