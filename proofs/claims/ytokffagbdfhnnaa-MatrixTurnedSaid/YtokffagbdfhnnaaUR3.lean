import Derived.Test.YtokffagbdfhnnaaUR2
import Derived.OwnWalk
import Derived.Below
import Derived.Deep.QuietTactic
import Derived.Deep.Cut
namespace Go.Proofs.Ytokffagbdfhnnaa
open Go.RowKit Go BigFrame Go.Shelf
set_option maxRecDepth 100000
set_option linter.unusedSimpArgs false
set_option linter.unusedVariables false
attribute [local go_sem] Oper.semAt_some

/-! MatrixTurned: its drawn regions. -/
theorem fewL_len {L : List RatA} (h : fewL L = true) : L.length ≤ 1000 := by
  unfold fewL lenF at h
  simp only [Bool.or_eq_true, Bool.and_eq_true, decide_eq_true_eq] at h
  omega
theorem len60 {r : Rat} (h : r.num.natAbs < 2 ^ 60 ∧ r.den < 2 ^ 30) : Len r.num ∧ Len (r.den : Int) := by
  have e : (2 : Nat) ^ 60 ≤ 1073741824 ^ 3 := by decide
  have e2 : (2 : Nat) ^ 30 ≤ 1073741824 ^ 3 := by decide
  exact ⟨len_lt (n := 3) (by omega) (by omega), len_lt (n := 3) (by rw [Int.natAbs_natCast]; omega) (by omega)⟩
abbrev noC : RatC := ⟨false, none, 0, 0, false, none, 0, 0⟩
theorem OwnRats.rowX {w : World} {B N : Nat} {v : Value} {L : List RatC} {rs : List Rat} {f : Nat → Rat} (h : OwnRats w B v L rs) (hN : L.length = N) (hf : ∀ c, c < N → rs.getD c 0 = f c) :
    ∃ a cap, v = .slice a N cap ∧ RowR w a cap N (fun c => L.getD c noC) f ∧ ∀ A, a = some A → v.ownBlock = some A.block := by
  subst hN
  by_cases h0 : 0 < L.length
  · obtain ⟨g, cap, rfl, _, h1, h2, h3⟩ := h.fill h0
    exact ⟨_, cap, rfl, h3.read ⟨h1, h2⟩ hf, fun A hA => by cases hA; rfl⟩
  · obtain ⟨a, cap, rfl, h1, h2⟩ := h.form
    rcases h.own.2 with ⟨e, _⟩ | ⟨gx, cx, cur, e, _⟩
    · simp only [Value.slice.injEq] at e
      obtain ⟨rfl, _, rfl⟩ := e
      exact ⟨none, 0, rfl, ⟨h1, h2, fun _ => rfl, fun A hA => (by cases hA), fun c hc => by omega⟩, fun A hA => by cases hA⟩
    · simp only [Value.slice.injEq] at e
      obtain ⟨rfl, _, rfl⟩ := e
      exact ⟨_, _, rfl, ⟨h1, h2, fun e => (by cases e), fun A hA c hc => by omega, fun c hc => by omega⟩, fun A hA => by cases hA; rfl⟩
theorem same_final {A B : List (List RatA)} {X Y : List RatA} (h1 : solOk B Y = solOk A X) (h2 : solOk A X = true → solN B Y = widA A ∧ sameF (widA A) (widA A) (solF A X) (solF B Y) = true) : sameF (solN A X) (solN B Y) (solF A X) (solF B Y) = true := by
  cases hs : solOk A X with
  | true =>
    obtain ⟨e, h3⟩ := h2 hs
    rw [e, show solN A X = widA A by unfold solN; rw [hs]; rfl]; exact h3
  | false =>
    rw [show solN A X = 0 by unfold solN; rw [hs]; rfl, show solN B Y = 0 by unfold solN; rw [h1, hs]; rfl]; rfl
theorem rows_news {W : World} {ba oa m : Nat} {val : Nat → Value} (h : ∀ r, r < m → W.cell? ⟨ba, oa + r, none⟩ = some (val r)) : ∀ A', some (⟨ba, oa, none⟩ : Addr) = some A' → ∀ (j : Nat) (u : Value), ((List.range m).map val)[j]? = some u → W.cell? (A'.add j) = some u := fun A' hA j u hu => by
  cases hA
  have hj : j < m := by have := (List.getElem?_eq_some_iff.1 hu).1; simpa using this
  rw [List.getElem?_map, List.getElem?_range hj] at hu
  rw [← Option.some.inj hu, Addr.add_off]
  exact h j hj
theorem Fill.other {w w' : World} {g g2 N : Nat} {V : Nat → RatC} {f : Nat → Rat} (h : Fill w g2 N V f) (hg : w.grownBy w' (some g)) (hne : g ≠ g2) (ho : ∀ c, c < N → (V c).Off (some g)) : Fill w' g2 N V f :=
  ⟨h.row.grown hg (fun e => hne (Option.some.inj e)), fun c hc => (h.val c hc).grown hg (ho c hc), h.off⟩
theorem Fill.congr {w : World} {g N : Nat} {V V' : Nat → RatC} {f f' : Nat → Rat} (h : Fill w g N V f) (hV : ∀ c, c < N → V c = V' c) (hf : ∀ c, c < N → f c = f' c) : Fill w g N V' f' := by
  obtain ⟨⟨cs, hb, h4⟩, h2, h3⟩ := h
  exact ⟨⟨cs, hb, fun c hc => by rw [← hV c hc]; exact h4 c hc⟩, fun c hc => by rw [← hV c hc, ← hf c hc]; exact h2 c hc, fun c hc => by rw [← hV c hc]; exact h3 c hc⟩
theorem sw_ite {α : Type} (f : Nat → α) {i k : Nat} (h : i ≠ k) (r : Nat) : (if r = k then f i else if r = i then f k else f r) = sw f i k r := by
  unfold sw
  by_cases e1 : r = i
  · subst e1; rw [if_neg h, if_pos rfl, if_pos rfl]
  · rw [if_neg e1, if_neg e1]
theorem RowsB.swap {w : World} {g m i k : Nat} {val : Nat → Value} (h : RowsB w g m val) (hi : i < m) (hk : k < m) (hik : i ≠ k) : RowsB ((w.setCell ⟨g, i, none⟩ (val k)).setCell ⟨g, k, none⟩ (val i)) g m (sw val i k) :=
  ((h.put hi (val k)).put hk (val i)).congr fun r _ => sw_ite val hik r
theorem Fill.swap {w : World} {g m i k : Nat} {V : Nat → RatC} {f : Nat → Rat} (h : Fill w g m V f) (hi : i < m) (hk : k < m) (hik : i ≠ k) : Fill (set4U (set4U w g i (V k)) g k (V i)) g m (sw V i k) (sw f i k) := by
  have h1 := h.put hi (h.val k hk) (h.off k hk)
  have h2 := h1.put hk (x := V i) (q := f i) ((h.val i hi).grown (grown4 w g i (V k)) (h.off i hi)) (h.off i hi)
  exact h2.congr (fun c _ => sw_ite V hik c) (fun c _ => sw_ite f hik c)
theorem sw_aug {A : List (List RatA)} {X : List RatA} {i k : Nat} (r c : Nat) : (if c < widA A then sw (mxA A) i k r c else sw (vecF X) i k r) = sw (augA A X) i k r c := by
  unfold sw
  by_cases e1 : r = i
  · simp only [e1, if_true]; rfl
  · by_cases e2 : r = k
    · simp only [e1, e2, if_true, if_false]
      by_cases e3 : k = i
      · simp only [e3, if_true]; rfl
      · simp only [e3, if_false]; rfl
    · simp only [e1, e2, if_false]; rfl
theorem add_aug {A : List (List RatA)} {X : List RatA} {i k : Nat} (r c : Nat) : (if c < widA A then addX (mxA A) i k r c else (if r = i then vecF X k + vecF X i else sw (vecF X) i k r)) = addX (augA A X) i k r c := by
  by_cases e1 : r = i
  · simp only [addX, e1, if_true]
    unfold augA
    by_cases e2 : c < widA A
    · simp only [e2, if_true]
    · simp only [e2, if_false]; rfl
  · simp only [addX, e1, if_false]
    exact sw_aug r c
theorem sz_len {r : Rat} (h : Sz r 5) : Len r.num ∧ Len (r.den : Int) := ⟨len_lt h.1 (by omega), len_lt (by rw [Int.natAbs_natCast]; exact h.2) (by omega)⟩
theorem chk_single {L : List RatA} (h : L.length ≤ 17) : chkE [L] = elsE L := by
  rw [chkE_rows (by simp) (fun K hK => by rw [List.mem_singleton.1 hK]; exact h) (fun K hK => by rw [List.mem_singleton.1 hK]; rfl)]
  unfold rowsE
  split
  · rename_i e; rw [e]; rfl
  · rfl
theorem mod_at {n m : Nat} {z : Int} (hz : z = (n : Int)) (hn : n ≤ 255) : (wrap64 z).tmod (m : Int) = ((n % m : Nat) : Int) := by
  have e : wrap64 z = z := by unfold wrap64; omega
  rw [e, hz, Int.tmod_eq_emod_of_nonneg (by omega)]
  rfl
def findReg (k : Nat) : Code → Option Code
  | .region id ops m => if id == k then some (.region id ops m) else none
  | .seq a b => match findReg k a with
    | some c => some c
    | none => findReg k b
  | .cond _ a b => match findReg k a with
    | some c => some c
    | none => findReg k b
  | .block _ c => findReg k c
  | .loop c => findReg k c
  | .scope c => findReg k c
  | _ => none
theorem wp_codeQ {P : Program} {c c' : Code} {Q : Exit → Act → World → Prop} {a : Act} {w : World} (h : c = c') (k : Code.wp P c' Q a w) : Code.wp P c Q a w := h ▸ k
set_option maxHeartbeats 8000000 in
theorem turned_r23 {g g2 cg cg2 m i k : Nat} (i0 : (0 : Int) ≤ (i : Int)) (i1 : (i : Int) < (m : Int)) (k0 : (0 : Int) ≤ (k : Int)) (k1 : (k : Int) < (m : Int)) (hik : i ≠ k) {N cI cK : Nat} {aI aK : Option Addr} {w0 w : World} {val : Nat → Value} (HRB : Hid (RowsB w0 g m val)) (hw : Ext w0 w) (eI : val i = .slice aI N cI) (eK : val k = .slice aK N cK) {K' : Act → World → Prop} {Q' : Exit → Act → World → Prop} {l0 l1 l2 l3 l4 l5 l6 l7 l8 l9 l10 l11 l12 l13 l14 l15 l16 l17 l21 l22 l23 l24 l25 l26 l27 l28 l29 l30 l31 l32 l33 l34 l35 l36 l37 l38 l39 l40 l41 l42 l43 l44 l45 l46 l47 l48 l49 l50 l51 l52 l53 l54 l55 l56 l57 l58 l59 l60 l61 l62 l63 l64 l65 l66 l67 l68 l69 l70 l71 l72 l73 l74 l75 l76 l77 l78 l79 l80 l81 l82 l83 l84 l85 l86 l87 l88 l89 l90 l91 l92 l93 l94 l95 l96 l97 l98 l99 l100 l101 l102 l103 l104 l105 l106 l107 l108 l109 l110 l111 l112 l113 l114 l115 l116 l117 l118 l119 l120 l121 l122 l123 l124 l125 l126 l127 l128 l129 l130 l131 l132 l133 l134 l135 l136 l137 l138 l139 l140 l141 l142 l143 l144 l145 l146 l147 l148 l149 l150 l151 l152 l153 l154 l155 l156 l157 l158 l159 l160 l161 l162 l163 l164 l165 l166 l167 l168 l169 l170 l171 l172 l173 l174 l175 l176 l177 l178 l179 l180 l181 l182 l183 l184 l185 l186 l187 l188 l189 l190 l191 l192 l193 l194 l195 l196 l197 l198 l199 l200 l201 l202 l203 l204 l205 l206 l207 l208 l209 l210 l211 l212 l213 l214 l215 l216 l217 l218 l219 l220 l221 l222 l223 l224 l225 l226 l227 l228 l229 l230 l231 l232 l233 l234 l235 l236 l237 l238 l239 l240 l241 l242 l243 l244 l245 l246 l247 l248 l249 l250 l251 l252 l253 l254 l255 l256 l257 l258 l259 l260 l261 l262 l263 l264 l265 l266 l267 l268 l269 l270 l271 l272 l273 l274 l275 l276 l277 l278 l279 l280 l281 l282 l283 l284 l285 : Value}
    (hfin : ∀ {u143 u144 u145 u146 u147 u148 u149 u150 u151 u152 u153 u154 u155 u156 : Value} , K' ⟨#[l0, l1, l2, l3, l4, l5, l6, l7, l8, l9, l10, l11, l12, l13, l14, l15, l16, l17, .int .i64 (i : Int), .int .i64 (k : Int), .slice (some ⟨g, 0, none⟩) m cg, l21, l22, l23, l24, l25, l26, l27, l28, l29, l30, l31, l32, l33, l34, l35, l36, l37, l38, l39, l40, l41, l42, l43, l44, l45, l46, l47, l48, l49, l50, l51, l52, l53, l54, l55, l56, l57, l58, l59, l60, l61, l62, l63, l64, l65, l66, l67, l68, l69, l70, l71, l72, l73, l74, l75, l76, l77, l78, l79, l80, l81, l82, l83, l84, l85, l86, l87, l88, l89, l90, l91, l92, l93, l94, l95, l96, l97, l98, l99, l100, l101, l102, l103, l104, l105, l106, l107, l108, l109, l110, l111, l112, l113, l114, l115, l116, l117, l118, l119, l120, l121, l122, l123, l124, l125, l126, l127, l128, l129, l130, l131, l132, l133, l134, l135, l136, l137, l138, l139, l140, l141, l142, u143, u144, u145, u146, u147, u148, u149, u150, u151, u152, u153, u154, u155, u156, l157, l158, l159, l160, l161, l162, l163, l164, l165, l166, l167, l168, l169, l170, l171, l172, l173, l174, l175, l176, l177, l178, l179, l180, l181, l182, l183, l184, l185, l186, l187, l188, l189, l190, l191, l192, l193, l194, l195, l196, l197, l198, l199, l200, l201, l202, l203, l204, l205, l206, l207, l208, l209, l210, l211, l212, l213, l214, l215, l216, l217, l218, l219, l220, l221, l222, l223, l224, l225, l226, l227, l228, l229, l230, l231, l232, l233, l234, l235, l236, l237, l238, l239, l240, l241, l242, l243, l244, l245, l246, l247, l248, l249, l250, l251, l252, l253, l254, l255, l256, l257, l258, l259, l260, l261, l262, l263, l264, l265, l266, l267, l268, l269, l270, l271, l272, l273, l274, l275, l276, l277, l278, l279, l280, l281, l282, l283, l284, l285], []⟩ (((World.drew w).setCell ⟨g, i, none⟩ (.slice aK N cK)).setCell ⟨g, k, none⟩ (.slice aI N cI))) :
    Code.wp Try.prog ((Try.f3.body.bind (findReg 23)).getD .skip) (Exit.then K' Q') ⟨#[l0, l1, l2, l3, l4, l5, l6, l7, l8, l9, l10, l11, l12, l13, l14, l15, l16, l17, .int .i64 (i : Int), .int .i64 (k : Int), .slice (some ⟨g, 0, none⟩) m cg, l21, l22, l23, l24, l25, l26, l27, l28, l29, l30, l31, l32, l33, l34, l35, l36, l37, l38, l39, l40, l41, l42, l43, l44, l45, l46, l47, l48, l49, l50, l51, l52, l53, l54, l55, l56, l57, l58, l59, l60, l61, l62, l63, l64, l65, l66, l67, l68, l69, l70, l71, l72, l73, l74, l75, l76, l77, l78, l79, l80, l81, l82, l83, l84, l85, l86, l87, l88, l89, l90, l91, l92, l93, l94, l95, l96, l97, l98, l99, l100, l101, l102, l103, l104, l105, l106, l107, l108, l109, l110, l111, l112, l113, l114, l115, l116, l117, l118, l119, l120, l121, l122, l123, l124, l125, l126, l127, l128, l129, l130, l131, l132, l133, l134, l135, l136, l137, l138, l139, l140, l141, l142, l143, l144, l145, l146, l147, l148, l149, l150, l151, l152, l153, l154, l155, l156, l157, l158, l159, l160, l161, l162, l163, l164, l165, l166, l167, l168, l169, l170, l171, l172, l173, l174, l175, l176, l177, l178, l179, l180, l181, l182, l183, l184, l185, l186, l187, l188, l189, l190, l191, l192, l193, l194, l195, l196, l197, l198, l199, l200, l201, l202, l203, l204, l205, l206, l207, l208, l209, l210, l211, l212, l213, l214, l215, l216, l217, l218, l219, l220, l221, l222, l223, l224, l225, l226, l227, l228, l229, l230, l231, l232, l233, l234, l235, l236, l237, l238, l239, l240, l241, l242, l243, l244, l245, l246, l247, l248, l249, l250, l251, l252, l253, l254, l255, l256, l257, l258, l259, l260, l261, l262, l263, l264, l265, l266, l267, l268, l269, l270, l271, l272, l273, l274, l275, l276, l277, l278, l279, l280, l281, l282, l283, l284, l285], []⟩ w := by
  conv => arg 2; whnf
  have him : i < m := by omega
  have hkm : k < m := by omega
  have HRB3 := Lib.hid (HRB.out.ext (hw.trans ((Ext.refl w).drew)))
  have ci := HRB3.out.cell him
  have ck := HRB3.out.cell hkm
  have fi := HRB3.out.free i
  have ck2 := (HRB3.out.put him (val k)).cell hkm
  have fk2 := (HRB3.out.put him (val k)).free k
  rw [if_neg (fun e => hik e.symm)] at ck2
  rw [eI] at ci
  rw [eK] at ck ck2 fk2
  clear HRB HRB3 eI eK hw
  refine wp_region_noPanic ?_
  refine wp_region_held_drew (S := (fun _ => True)) (by kernel_rfl) ?_ (fun hHeld => ?_)
  · trivial
  (try simp only [pur, Nat.reduceAdd])
  generalize World.drew w = x9 at *
  refine tk (v := ?_) 0 rfl (by kernel_rfl) (fun _ _ _ h => h) (by rfl) ?_ (by assumption) ?_
  rotate_left
  · (intro w hSw; (try dsimp only at hSw); (try go_simp); (try with_reducible rfl))
  (try simp only [Act.put, pus])
  refine tk (v := ?_) 1 rfl (by kernel_rfl) (fun _ _ _ h => h) (by rfl) ?_ (by assumption) ?_
  rotate_left
  · (intro w hSw; (try dsimp only at hSw); (try go_simp); (try with_reducible rfl))
  (try simp only [Act.put, pus])
  refine tk (v := ?_) 2 rfl (by kernel_rfl) (fun _ _ _ h => h) (by rfl) ?_ (by assumption) ?_
  rotate_left
  · (intro w hSw; (try dsimp only at hSw); (try go_simp); (try with_reducible rfl))
  (try simp only [Act.put, pus])
  refine tk (v := ?_) 3 rfl (by kernel_rfl) (fun _ _ _ h => h) (by rfl) ?_ (by assumption) ?_
  rotate_left
  · (intro w hSw; (try dsimp only at hSw); (try go_simp); (try with_reducible rfl))
  (try simp only [Act.put, pus])
  refine tk (v := ?_) 4 rfl (by kernel_rfl) (fun _ _ _ h => h) (by rfl) ?_ (by assumption) ?_
  rotate_left
  · (intro w hSw; (try dsimp only at hSw); (try go_simp); (try with_reducible rfl))
  (try simp only [Act.put, pus])
  refine tk (v := ?_) 5 rfl (by kernel_rfl) (fun _ _ _ h => h) (by rfl) ?_ (by assumption) ?_
  rotate_left
  · (intro w hSw; (try dsimp only at hSw); (try go_simp); (try with_reducible rfl))
  (try simp only [Act.put, pus])
  refine tk (v := ?_) 6 rfl (by kernel_rfl) (fun _ _ _ h => h) (by rfl) ?_ (by assumption) ?_
  rotate_left
  · (intro w hSw; (try dsimp only at hSw); (try go_simp); (try with_reducible rfl))
  (try simp only [Act.put, pus])
  refine tk (v := ?_) 8 rfl (by kernel_rfl) (fun _ _ _ h => h) (by rfl) ?_ (by assumption) ?_
  rotate_left
  · (intro w hSw; (try dsimp only at hSw); (try go_simp); (try with_reducible rfl))
  (try simp only [Act.put, pus])
  refine tk (v := ?_) 9 rfl (by kernel_rfl) (fun _ _ _ h => h) (by rfl) ?_ (by assumption) ?_
  rotate_left
  · (intro w hSw; (try dsimp only at hSw); (try go_simp); (try with_reducible rfl))
  (try simp only [Act.put, pus])
  refine tk (v := ?_) 10 rfl (by kernel_rfl) (fun _ _ _ h => h) (by rfl) ?_ (by assumption) ?_
  rotate_left
  · (intro w hSw; (try dsimp only at hSw); (try go_simp); (try with_reducible rfl))
  (try simp only [Act.put, pus])
  refine wpAnyH_ready (rs := [7, 11]) (by kernel_rfl) (by simp) ?_
  refine AllReadyH.cons (o := _) rfl (fun K hK => ?_) ?_
  · go_simp
    refine hK.out _ _ ?_ (fun hHeld2 => ?_)
    · trivial
    clear hK K hHeld
    have hHeld := hHeld2
    clear hHeld2
    (try simp only [Act.put, pus])
    refine wpAnyH_ready (rs := [11]) (by kernel_rfl) (by simp) ?_
    refine AllReadyH.cons (o := _) rfl (fun K hK => ?_) ?_
    · go_simp
      refine hK.out _ _ ?_ (fun hHeld2 => ?_)
      · trivial
      clear hK K hHeld
      have hHeld := hHeld2
      clear hHeld2
      (try simp only [Act.put, pus])
      refine tk (v := ?_) 12 rfl (by kernel_rfl) (fun _ _ _ h => h) (by rfl) ?_ (by assumption) ?_
      rotate_left
      · (intro w hSw; (try dsimp only at hSw); (try go_simp); (try with_reducible rfl))
      (try simp only [Act.put, pus])
      refine wpAnyH_ready (rs := [13]) (by kernel_rfl) (by simp) ?_
      refine AllReadyH.cons (o := _) rfl (fun K hK => ?_) ?_
      · go_simp
        refine hK.out _ _ ?_ (fun hHeld2 => ?_)
        · trivial
        clear hK K hHeld
        have hHeld := hHeld2
        clear hHeld2
        (try simp only [Act.put, pus])
        refine tk (v := ?_) 14 rfl (by kernel_rfl) (fun _ _ _ h => h) (by rfl) ?_ (by assumption) ?_
        rotate_left
        · (intro w hSw; (try dsimp only at hSw); (try go_simp); (try with_reducible rfl))
        (try simp only [Act.put, pus])
        refine wpAnyH_ready (rs := [15]) (by kernel_rfl) (by simp) ?_
        refine AllReadyH.cons (o := _) rfl (fun K hK => ?_) ?_
        · go_simp
          refine hK.out _ _ ?_ (fun hHeld2 => ?_)
          · trivial
          clear hK K hHeld
          have hHeld := hHeld2
          clear hHeld2
          (try simp only [Act.put, pus])
          refine wpAnyH_done (by kernel_rfl) ?_ _
          (refine NoPanic.normal ?_; show K' _ _; exact hfin)
        exact AllReadyH.nil
      exact AllReadyH.nil
    exact AllReadyH.nil
  refine AllReadyH.cons (o := _) rfl (fun K hK => ?_) ?_
  · go_simp
    refine hK.out _ _ ?_ (fun hHeld2 => ?_)
    · trivial
    clear hK K hHeld
    have hHeld := hHeld2
    clear hHeld2
    (try simp only [Act.put, pus])
    refine wpAnyH_ready (rs := [7]) (by kernel_rfl) (by simp) ?_
    refine AllReadyH.cons (o := _) rfl (fun K hK => ?_) ?_
    · go_simp
      refine hK.out _ _ ?_ (fun hHeld2 => ?_)
      · trivial
      clear hK K hHeld
      have hHeld := hHeld2
      clear hHeld2
      (try simp only [Act.put, pus])
      refine tk (v := ?_) 12 rfl (by kernel_rfl) (fun _ _ _ h => h) (by rfl) ?_ (by assumption) ?_
      rotate_left
      · (intro w hSw; (try dsimp only at hSw); (try go_simp); (try with_reducible rfl))
      (try simp only [Act.put, pus])
      refine wpAnyH_ready (rs := [13]) (by kernel_rfl) (by simp) ?_
      refine AllReadyH.cons (o := _) rfl (fun K hK => ?_) ?_
      · go_simp
        refine hK.out _ _ ?_ (fun hHeld2 => ?_)
        · trivial
        clear hK K hHeld
        have hHeld := hHeld2
        clear hHeld2
        (try simp only [Act.put, pus])
        refine tk (v := ?_) 14 rfl (by kernel_rfl) (fun _ _ _ h => h) (by rfl) ?_ (by assumption) ?_
        rotate_left
        · (intro w hSw; (try dsimp only at hSw); (try go_simp); (try with_reducible rfl))
        (try simp only [Act.put, pus])
        refine wpAnyH_ready (rs := [15]) (by kernel_rfl) (by simp) ?_
        refine AllReadyH.cons (o := _) rfl (fun K hK => ?_) ?_
        · go_simp
          refine hK.out _ _ ?_ (fun hHeld2 => ?_)
          · trivial
          clear hK K hHeld
          have hHeld := hHeld2
          clear hHeld2
          (try simp only [Act.put, pus])
          refine wpAnyH_done (by kernel_rfl) ?_ _
          (refine NoPanic.normal ?_; show K' _ _; exact hfin)
        exact AllReadyH.nil
      exact AllReadyH.nil
    exact AllReadyH.nil
  exact AllReadyH.nil
set_option maxHeartbeats 8000000 in
theorem turned_r24 {g g2 cg cg2 m i k : Nat} (i0 : (0 : Int) ≤ (i : Int)) (i1 : (i : Int) < (m : Int)) (k0 : (0 : Int) ≤ (k : Int)) (k1 : (k : Int) < (m : Int)) (hik : i ≠ k) {nI mI nK mK : Bool} {aI bI aK bK : Option Addr} {qI cI kI dI qK cK kK dK : Nat} {w0 w : World} {V : Nat → RatC} (HF : Hid (RowB w0 g2 m V)) (hw : Ext w0 w) (eI : V i = ⟨nI, aI, qI, cI, mI, bI, kI, dI⟩) (eK : V k = ⟨nK, aK, qK, cK, mK, bK, kK, dK⟩) {K' : Act → World → Prop} {Q' : Exit → Act → World → Prop} {l0 l1 l2 l3 l4 l5 l6 l7 l8 l9 l10 l11 l12 l13 l14 l15 l16 l17 l20 l22 l23 l24 l25 l26 l27 l28 l29 l30 l31 l32 l33 l34 l35 l36 l37 l38 l39 l40 l41 l42 l43 l44 l45 l46 l47 l48 l49 l50 l51 l52 l53 l54 l55 l56 l57 l58 l59 l60 l61 l62 l63 l64 l65 l66 l67 l68 l69 l70 l71 l72 l73 l74 l75 l76 l77 l78 l79 l80 l81 l82 l83 l84 l85 l86 l87 l88 l89 l90 l91 l92 l93 l94 l95 l96 l97 l98 l99 l100 l101 l102 l103 l104 l105 l106 l107 l108 l109 l110 l111 l112 l113 l114 l115 l116 l117 l118 l119 l120 l121 l122 l123 l124 l125 l126 l127 l128 l129 l130 l131 l132 l133 l134 l135 l136 l137 l138 l139 l140 l141 l142 l143 l144 l145 l146 l147 l148 l149 l150 l151 l152 l153 l154 l155 l156 l157 l158 l159 l160 l161 l162 l163 l164 l165 l166 l167 l168 l169 l170 l171 l172 l173 l174 l175 l176 l177 l178 l179 l180 l181 l182 l183 l184 l185 l186 l187 l188 l189 l190 l191 l192 l193 l194 l195 l196 l197 l198 l199 l200 l201 l202 l203 l204 l205 l206 l207 l208 l209 l210 l211 l212 l213 l214 l215 l216 l217 l218 l219 l220 l221 l222 l223 l224 l225 l226 l227 l228 l229 l230 l231 l232 l233 l234 l235 l236 l237 l238 l239 l240 l241 l242 l243 l244 l245 l246 l247 l248 l249 l250 l251 l252 l253 l254 l255 l256 l257 l258 l259 l260 l261 l262 l263 l264 l265 l266 l267 l268 l269 l270 l271 l272 l273 l274 l275 l276 l277 l278 l279 l280 l281 l282 l283 l284 l285 : Value}
    (hfin : ∀ {u157 u158 u159 u160 u161 u162 u163 u164 u165 u166 u167 u168 u169 u170 : Value} , K' ⟨#[l0, l1, l2, l3, l4, l5, l6, l7, l8, l9, l10, l11, l12, l13, l14, l15, l16, l17, .int .i64 (i : Int), .int .i64 (k : Int), l20, .slice (some ⟨g2, 0, none⟩) m cg2, l22, l23, l24, l25, l26, l27, l28, l29, l30, l31, l32, l33, l34, l35, l36, l37, l38, l39, l40, l41, l42, l43, l44, l45, l46, l47, l48, l49, l50, l51, l52, l53, l54, l55, l56, l57, l58, l59, l60, l61, l62, l63, l64, l65, l66, l67, l68, l69, l70, l71, l72, l73, l74, l75, l76, l77, l78, l79, l80, l81, l82, l83, l84, l85, l86, l87, l88, l89, l90, l91, l92, l93, l94, l95, l96, l97, l98, l99, l100, l101, l102, l103, l104, l105, l106, l107, l108, l109, l110, l111, l112, l113, l114, l115, l116, l117, l118, l119, l120, l121, l122, l123, l124, l125, l126, l127, l128, l129, l130, l131, l132, l133, l134, l135, l136, l137, l138, l139, l140, l141, l142, l143, l144, l145, l146, l147, l148, l149, l150, l151, l152, l153, l154, l155, l156, u157, u158, u159, u160, u161, u162, u163, u164, u165, u166, u167, u168, u169, u170, l171, l172, l173, l174, l175, l176, l177, l178, l179, l180, l181, l182, l183, l184, l185, l186, l187, l188, l189, l190, l191, l192, l193, l194, l195, l196, l197, l198, l199, l200, l201, l202, l203, l204, l205, l206, l207, l208, l209, l210, l211, l212, l213, l214, l215, l216, l217, l218, l219, l220, l221, l222, l223, l224, l225, l226, l227, l228, l229, l230, l231, l232, l233, l234, l235, l236, l237, l238, l239, l240, l241, l242, l243, l244, l245, l246, l247, l248, l249, l250, l251, l252, l253, l254, l255, l256, l257, l258, l259, l260, l261, l262, l263, l264, l265, l266, l267, l268, l269, l270, l271, l272, l273, l274, l275, l276, l277, l278, l279, l280, l281, l282, l283, l284, l285], []⟩ (World.setCell (World.setCell (World.setCell (World.setCell (World.setCell (World.setCell (World.setCell (World.setCell (World.drew w) ⟨g2, i * 4, none⟩ (.bool nK)) ⟨g2, i * 4 + 1, none⟩ (.slice aK qK cK)) ⟨g2, i * 4 + 2, none⟩ (.bool mK)) ⟨g2, i * 4 + 3, none⟩ (.slice bK kK dK)) ⟨g2, k * 4, none⟩ (.bool nI)) ⟨g2, k * 4 + 1, none⟩ (.slice aI qI cI)) ⟨g2, k * 4 + 2, none⟩ (.bool mI)) ⟨g2, k * 4 + 3, none⟩ (.slice bI kI dI))) :
    Code.wp Try.prog ((Try.f3.body.bind (findReg 24)).getD .skip) (Exit.then K' Q') ⟨#[l0, l1, l2, l3, l4, l5, l6, l7, l8, l9, l10, l11, l12, l13, l14, l15, l16, l17, .int .i64 (i : Int), .int .i64 (k : Int), l20, .slice (some ⟨g2, 0, none⟩) m cg2, l22, l23, l24, l25, l26, l27, l28, l29, l30, l31, l32, l33, l34, l35, l36, l37, l38, l39, l40, l41, l42, l43, l44, l45, l46, l47, l48, l49, l50, l51, l52, l53, l54, l55, l56, l57, l58, l59, l60, l61, l62, l63, l64, l65, l66, l67, l68, l69, l70, l71, l72, l73, l74, l75, l76, l77, l78, l79, l80, l81, l82, l83, l84, l85, l86, l87, l88, l89, l90, l91, l92, l93, l94, l95, l96, l97, l98, l99, l100, l101, l102, l103, l104, l105, l106, l107, l108, l109, l110, l111, l112, l113, l114, l115, l116, l117, l118, l119, l120, l121, l122, l123, l124, l125, l126, l127, l128, l129, l130, l131, l132, l133, l134, l135, l136, l137, l138, l139, l140, l141, l142, l143, l144, l145, l146, l147, l148, l149, l150, l151, l152, l153, l154, l155, l156, l157, l158, l159, l160, l161, l162, l163, l164, l165, l166, l167, l168, l169, l170, l171, l172, l173, l174, l175, l176, l177, l178, l179, l180, l181, l182, l183, l184, l185, l186, l187, l188, l189, l190, l191, l192, l193, l194, l195, l196, l197, l198, l199, l200, l201, l202, l203, l204, l205, l206, l207, l208, l209, l210, l211, l212, l213, l214, l215, l216, l217, l218, l219, l220, l221, l222, l223, l224, l225, l226, l227, l228, l229, l230, l231, l232, l233, l234, l235, l236, l237, l238, l239, l240, l241, l242, l243, l244, l245, l246, l247, l248, l249, l250, l251, l252, l253, l254, l255, l256, l257, l258, l259, l260, l261, l262, l263, l264, l265, l266, l267, l268, l269, l270, l271, l272, l273, l274, l275, l276, l277, l278, l279, l280, l281, l282, l283, l284, l285], []⟩ w := by
  conv => arg 2; whnf
  have him : i < m := by omega
  have hkm : k < m := by omega
  have HFA := Lib.hid (HF.out.ext (hw.trans ((Ext.refl w).drew)))
  obtain ⟨ck0, ck1, ck2, ck3⟩ := HFA.out.cells hkm
  obtain ⟨ci0, ci1, ci2, ci3⟩ := HFA.out.cells him
  rw [eK] at ck0 ck1 ck2 ck3
  rw [eI] at ci0 ci1 ci2 ci3
  dsimp only at ck0 ck1 ck2 ck3 ci0 ci1 ci2 ci3
  have HP2 := Lib.hid ((HFA.out.put him ⟨nK, aK, qK, cK, mK, bK, kK, dK⟩).2.put hkm ⟨nI, aI, qI, cI, mI, bI, kI, dI⟩).1
  unfold set4U at HP2
  dsimp only at HP2
  clear HF eI eK hw
  refine wp_region_noPanic ?_
  refine wp_region_held_drew (S := (fun _ => True)) (by kernel_rfl) ?_ (fun hHeld => ?_)
  · trivial
  (try simp only [pur, Nat.reduceAdd])
  generalize World.drew w = x9 at *
  refine tk (v := ?_) 0 rfl (by kernel_rfl) (fun _ _ _ h => h) (by rfl) ?_ (by assumption) ?_
  rotate_left
  · (intro w hSw; (try dsimp only at hSw); (try go_simp); (try with_reducible rfl))
  (try simp only [Act.put, pus])
  refine tk (v := ?_) 1 rfl (by kernel_rfl) (fun _ _ _ h => h) (by rfl) ?_ (by assumption) ?_
  rotate_left
  · (intro w hSw; (try dsimp only at hSw); (try go_simp); (try with_reducible rfl))
  (try simp only [Act.put, pus])
  refine tk (v := ?_) 2 rfl (by kernel_rfl) (fun _ _ _ h => h) (by rfl) ?_ (by assumption) ?_
  rotate_left
  · (intro w hSw; (try dsimp only at hSw); (try go_simp); (try with_reducible rfl))
  (try simp only [Act.put, pus])
  refine tk (v := ?_) 3 rfl (by kernel_rfl) (fun _ _ _ h => h) (by rfl) ?_ (by assumption) ?_
  rotate_left
  · (intro w hSw; (try dsimp only at hSw); (try go_simp); (try with_reducible rfl))
  (try simp only [Act.put, pus])
  refine tk (v := ?_) 4 rfl (by kernel_rfl) (fun _ _ _ h => h) (by rfl) ?_ (by assumption) ?_
  rotate_left
  · (intro w hSw; (try dsimp only at hSw); (try go_simp); (try with_reducible rfl))
  (try simp only [Act.put, pus])
  refine tk (v := ?_) 5 rfl (by kernel_rfl) (fun _ _ _ h => h) (by rfl) ?_ (by assumption) ?_
  rotate_left
  · (intro w hSw; (try dsimp only at hSw); (try go_simp); (try with_reducible rfl))
  (try simp only [Act.put, pus])
  refine tk (v := ?_) 6 rfl (by kernel_rfl) (fun _ _ _ h => h) (by rfl) ?_ (by assumption) ?_
  rotate_left
  · (intro w hSw; (try dsimp only at hSw); (try go_simp); (try with_reducible rfl))
  (try simp only [Act.put, pus])
  refine tk (v := ?_) 8 rfl (by kernel_rfl) (fun _ _ _ h => h) (by rfl) ?_ (by assumption) ?_
  rotate_left
  · (intro w hSw; (try dsimp only at hSw); (try go_simp); (try with_reducible rfl))
  (try simp only [Act.put, pus])
  refine tk (v := ?_) 9 rfl (by kernel_rfl) (fun _ _ _ h => h) (by rfl) ?_ (by assumption) ?_
  rotate_left
  · (intro w hSw; (try dsimp only at hSw); (try go_simp); (try with_reducible rfl))
  (try simp only [Act.put, pus])
  refine tk (v := ?_) 10 rfl (by kernel_rfl) (fun _ _ _ h => h) (by rfl) ?_ (by assumption) ?_
  rotate_left
  · (intro w hSw; (try dsimp only at hSw); (try go_simp); (try with_reducible rfl))
  (try simp only [Act.put, pus])
  refine wpAnyH_ready (rs := [7, 11]) (by kernel_rfl) (by simp) ?_
  refine AllReadyH.cons (o := _) rfl (fun K hK => ?_) ?_
  · go_simp
    refine hK.out _ _ ?_ (fun hHeld2 => ?_)
    · trivial
    clear hK K hHeld
    have hHeld := hHeld2
    clear hHeld2
    (try simp only [Act.put, pus])
    refine wpAnyH_ready (rs := [11]) (by kernel_rfl) (by simp) ?_
    refine AllReadyH.cons (o := _) rfl (fun K hK => ?_) ?_
    · go_simp
      refine hK.out _ _ ?_ (fun hHeld2 => ?_)
      · trivial
      clear hK K hHeld
      have hHeld := hHeld2
      clear hHeld2
      (try simp only [Act.put, pus])
      refine tk (v := ?_) 12 rfl (by kernel_rfl) (fun _ _ _ h => h) (by rfl) ?_ (by assumption) ?_
      rotate_left
      · (intro w hSw; (try dsimp only at hSw); (try go_simp); (try with_reducible rfl))
      (try simp only [Act.put, pus])
      refine wpAnyH_ready (rs := [13]) (by kernel_rfl) (by simp) ?_
      refine AllReadyH.cons (o := _) rfl (fun K hK => ?_) ?_
      · obtain ⟨p0, p1, p2, p3, ⟨_, p4⟩, ⟨_, p5⟩, ⟨_, p6⟩, ⟨_, p7⟩⟩ := (HFA.out.put him ⟨nK, aK, qK, cK, mK, bK, kK, dK⟩).1; dsimp only at p0 p1 p2 p3 p4 p5 p6 p7; go_simp; clear p0 p1 p2 p3 p4 p5 p6 p7
        refine hK.out _ _ ?_ (fun hHeld2 => ?_)
        · trivial
        clear hK K hHeld
        have hHeld := hHeld2
        clear hHeld2
        (try simp only [Act.put, pus])
        refine tk (v := ?_) 14 rfl (by kernel_rfl) (fun _ _ _ h => h) (by rfl) ?_ (by assumption) ?_
        rotate_left
        · (intro w hSw; (try dsimp only at hSw); (try go_simp); (try with_reducible rfl))
        (try simp only [Act.put, pus])
        refine wpAnyH_ready (rs := [15]) (by kernel_rfl) (by simp) ?_
        refine AllReadyH.cons (o := _) rfl (fun K hK => ?_) ?_
        · obtain ⟨p0, p1, p2, p3, ⟨_, p4⟩, ⟨_, p5⟩, ⟨_, p6⟩, ⟨_, p7⟩⟩ := HP2.out; dsimp only at p0 p1 p2 p3 p4 p5 p6 p7; go_simp; clear p0 p1 p2 p3 p4 p5 p6 p7
          refine hK.out _ _ ?_ (fun hHeld2 => ?_)
          · trivial
          clear hK K hHeld
          have hHeld := hHeld2
          clear hHeld2
          (try simp only [Act.put, pus])
          refine wpAnyH_done (by kernel_rfl) ?_ _
          (refine NoPanic.normal ?_; show K' _ _; exact hfin)
        exact AllReadyH.nil
      exact AllReadyH.nil
    exact AllReadyH.nil
  refine AllReadyH.cons (o := _) rfl (fun K hK => ?_) ?_
  · go_simp
    refine hK.out _ _ ?_ (fun hHeld2 => ?_)
    · trivial
    clear hK K hHeld
    have hHeld := hHeld2
    clear hHeld2
    (try simp only [Act.put, pus])
    refine wpAnyH_ready (rs := [7]) (by kernel_rfl) (by simp) ?_
    refine AllReadyH.cons (o := _) rfl (fun K hK => ?_) ?_
    · go_simp
      refine hK.out _ _ ?_ (fun hHeld2 => ?_)
      · trivial
      clear hK K hHeld
      have hHeld := hHeld2
      clear hHeld2
      (try simp only [Act.put, pus])
      refine tk (v := ?_) 12 rfl (by kernel_rfl) (fun _ _ _ h => h) (by rfl) ?_ (by assumption) ?_
      rotate_left
      · (intro w hSw; (try dsimp only at hSw); (try go_simp); (try with_reducible rfl))
      (try simp only [Act.put, pus])
      refine wpAnyH_ready (rs := [13]) (by kernel_rfl) (by simp) ?_
      refine AllReadyH.cons (o := _) rfl (fun K hK => ?_) ?_
      · obtain ⟨p0, p1, p2, p3, ⟨_, p4⟩, ⟨_, p5⟩, ⟨_, p6⟩, ⟨_, p7⟩⟩ := (HFA.out.put him ⟨nK, aK, qK, cK, mK, bK, kK, dK⟩).1; dsimp only at p0 p1 p2 p3 p4 p5 p6 p7; go_simp; clear p0 p1 p2 p3 p4 p5 p6 p7
        refine hK.out _ _ ?_ (fun hHeld2 => ?_)
        · trivial
        clear hK K hHeld
        have hHeld := hHeld2
        clear hHeld2
        (try simp only [Act.put, pus])
        refine tk (v := ?_) 14 rfl (by kernel_rfl) (fun _ _ _ h => h) (by rfl) ?_ (by assumption) ?_
        rotate_left
        · (intro w hSw; (try dsimp only at hSw); (try go_simp); (try with_reducible rfl))
        (try simp only [Act.put, pus])
        refine wpAnyH_ready (rs := [15]) (by kernel_rfl) (by simp) ?_
        refine AllReadyH.cons (o := _) rfl (fun K hK => ?_) ?_
        · obtain ⟨p0, p1, p2, p3, ⟨_, p4⟩, ⟨_, p5⟩, ⟨_, p6⟩, ⟨_, p7⟩⟩ := HP2.out; dsimp only at p0 p1 p2 p3 p4 p5 p6 p7; go_simp; clear p0 p1 p2 p3 p4 p5 p6 p7
          refine hK.out _ _ ?_ (fun hHeld2 => ?_)
          · trivial
          clear hK K hHeld
          have hHeld := hHeld2
          clear hHeld2
          (try simp only [Act.put, pus])
          refine wpAnyH_done (by kernel_rfl) ?_ _
          (refine NoPanic.normal ?_; show K' _ _; exact hfin)
        exact AllReadyH.nil
      exact AllReadyH.nil
    exact AllReadyH.nil
  exact AllReadyH.nil
set_option maxHeartbeats 8000000 in
theorem turned_r32 {g g2 cg cg2 m i k : Nat} (i0 : (0 : Int) ≤ (i : Int)) (i1 : (i : Int) < (m : Int)) (k0 : (0 : Int) ≤ (k : Int)) (k1 : (k : Int) < (m : Int)) (hik : i ≠ k) {w : World} {nx mx ny my : Bool} {ax bx ay by_ : Option Addr} {qx cx kx dx qy cy ky dy : Nat} {r s : Rat} {N c bK oK bI oI cK0 cI0 : Nat} (c0 : (0 : Int) ≤ (c : Int)) (c1 : (c : Int) < (N : Int)) (hci : World.cell? w ⟨g, i, none⟩ = some (.slice (some ⟨bK, oK, none⟩) N cK0)) (e0 : World.cell? w ⟨bK, oK + c * 4, none⟩ = some (.bool nx)) (e1 : World.cell? w ⟨bK, oK + c * 4 + 1, none⟩ = some (.slice ax qx cx)) (e2 : World.cell? w ⟨bK, oK + c * 4 + 2, none⟩ = some (.bool mx)) (e3 : World.cell? w ⟨bK, oK + c * 4 + 3, none⟩ = some (.slice bx kx dx)) (hck : World.cell? w ⟨g, k, none⟩ = some (.slice (some ⟨bI, oI, none⟩) N cI0)) (f0 : World.cell? w ⟨bI, oI + c * 4, none⟩ = some (.bool ny)) (f1 : World.cell? w ⟨bI, oI + c * 4 + 1, none⟩ = some (.slice ay qy cy)) (f2 : World.cell? w ⟨bI, oI + c * 4 + 2, none⟩ = some (.bool my)) (f3 : World.cell? w ⟨bI, oI + c * 4 + 3, none⟩ = some (.slice by_ ky dy)) (VX : Hid (RatV w (.agg #[.bool nx, .slice ax qx cx, .bool mx, .slice bx kx dx]) r)) (VY : Hid (RatV w (.agg #[.bool ny, .slice ay qy cy, .bool my, .slice by_ ky dy]) s)) (ZX : Hid (Sz r 2)) (ZY : Hid (Sz s 2)) {K' : Act → World → Prop} {Q' : Exit → Act → World → Prop} {l0 l1 l2 l3 l4 l5 l6 l7 l8 l9 l10 l11 l12 l13 l14 l15 l16 l17 l21 l22 l23 l24 l25 l27 l28 l29 l30 l31 l32 l33 l34 l35 l36 l37 l38 l39 l40 l41 l42 l43 l44 l45 l46 l47 l48 l49 l50 l51 l52 l53 l54 l55 l56 l57 l58 l59 l60 l61 l62 l63 l64 l65 l66 l67 l68 l69 l70 l71 l72 l73 l74 l75 l76 l77 l78 l79 l80 l81 l82 l83 l84 l85 l86 l87 l88 l89 l90 l91 l92 l93 l94 l95 l96 l97 l98 l99 l100 l101 l102 l103 l104 l105 l106 l107 l108 l109 l110 l111 l112 l113 l114 l115 l116 l117 l118 l119 l120 l121 l122 l123 l124 l125 l126 l127 l128 l129 l130 l131 l132 l133 l134 l135 l136 l137 l138 l139 l140 l141 l142 l143 l144 l145 l146 l147 l148 l149 l150 l151 l152 l153 l154 l155 l156 l157 l158 l159 l160 l161 l162 l163 l164 l165 l166 l167 l168 l169 l170 l171 l172 l173 l174 l175 l176 l177 l178 l179 l180 l181 l182 l183 l184 l185 l186 l187 l188 l189 l190 l191 l192 l193 l194 l195 l196 l197 l198 l199 l200 l201 l202 l203 l204 l205 l206 l207 l208 l209 l210 l211 l212 l213 l214 l215 l216 l217 l218 l219 l220 l221 l222 l223 l224 l225 l226 l227 l228 l229 l230 l231 l232 l233 l234 l235 l236 l237 l238 l239 l240 l241 l242 l243 l244 l245 l246 l247 l248 l249 l250 l251 l252 l253 l254 l255 l256 l257 l258 l259 l260 l261 l262 l263 l264 l265 l266 l267 l268 l269 l270 l271 l272 l273 l274 l275 l276 l277 l278 l279 l280 l281 l282 l283 l284 l285 : Value}
    (hfin : ∀ {u200 u201 u202 u203 u204 u205 u206 u207 u208 u209 u210 u211 u212 u213 u214 u215 u216 u217 : Value} {pd : Nat} {nd : Bool} {ad : Option Addr} {qd cd : Nat} {bd : Option Addr} {kd dd : Nat} {w' : World}, Blk w' pd #[.bool nd, .slice ad qd cd, .bool false, .slice bd kd dd] 38 → RatV w' (.agg #[.bool nd, .slice ad qd cd, .bool false, .slice bd kd dd]) (r + s) → ((∀ A', ad = some A' → w.heap.size ≤ A'.block) ∧ ∀ A', bd = some A' → w.heap.size ≤ A'.block) → w.heap.size ≤ pd → Ext w w' → K' ⟨#[l0, l1, l2, l3, l4, l5, l6, l7, l8, l9, l10, l11, l12, l13, l14, l15, l16, l17, .int .i64 (i : Int), .int .i64 (k : Int), .slice (some ⟨g, 0, none⟩) m cg, l21, l22, l23, l24, l25, .int .i64 (c : Int), .pointer (some ⟨pd, 0, none⟩), .int .i64 0, l29, l30, l31, l32, l33, l34, l35, l36, l37, l38, l39, l40, l41, l42, l43, l44, l45, l46, l47, l48, l49, l50, l51, l52, l53, l54, l55, l56, l57, l58, l59, l60, l61, l62, l63, l64, l65, l66, l67, l68, l69, l70, l71, l72, l73, l74, l75, l76, l77, l78, l79, l80, l81, l82, l83, l84, l85, l86, l87, l88, l89, l90, l91, l92, l93, l94, l95, l96, l97, l98, l99, l100, l101, l102, l103, l104, l105, l106, l107, l108, l109, l110, l111, l112, l113, l114, l115, l116, l117, l118, l119, l120, l121, l122, l123, l124, l125, l126, l127, l128, l129, l130, l131, l132, l133, l134, l135, l136, l137, l138, l139, l140, l141, l142, l143, l144, l145, l146, l147, l148, l149, l150, l151, l152, l153, l154, l155, l156, l157, l158, l159, l160, l161, l162, l163, l164, l165, l166, l167, l168, l169, l170, l171, l172, l173, l174, l175, l176, l177, l178, l179, l180, l181, l182, l183, l184, l185, l186, l187, l188, l189, l190, l191, l192, l193, l194, l195, l196, l197, l198, l199, u200, u201, u202, u203, u204, u205, u206, u207, u208, u209, u210, u211, u212, u213, u214, u215, u216, u217, l218, l219, l220, l221, l222, l223, l224, l225, l226, l227, l228, l229, l230, l231, l232, l233, l234, l235, l236, l237, l238, l239, l240, l241, l242, l243, l244, l245, l246, l247, l248, l249, l250, l251, l252, l253, l254, l255, l256, l257, l258, l259, l260, l261, l262, l263, l264, l265, l266, l267, l268, l269, l270, l271, l272, l273, l274, l275, l276, l277, l278, l279, l280, l281, l282, l283, l284, l285], []⟩ w') :
    Code.wp Try.prog ((Try.f3.body.bind (findReg 32)).getD .skip) (Exit.then K' Q') ⟨#[l0, l1, l2, l3, l4, l5, l6, l7, l8, l9, l10, l11, l12, l13, l14, l15, l16, l17, .int .i64 (i : Int), .int .i64 (k : Int), .slice (some ⟨g, 0, none⟩) m cg, l21, l22, l23, l24, l25, .int .i64 (c : Int), l27, l28, l29, l30, l31, l32, l33, l34, l35, l36, l37, l38, l39, l40, l41, l42, l43, l44, l45, l46, l47, l48, l49, l50, l51, l52, l53, l54, l55, l56, l57, l58, l59, l60, l61, l62, l63, l64, l65, l66, l67, l68, l69, l70, l71, l72, l73, l74, l75, l76, l77, l78, l79, l80, l81, l82, l83, l84, l85, l86, l87, l88, l89, l90, l91, l92, l93, l94, l95, l96, l97, l98, l99, l100, l101, l102, l103, l104, l105, l106, l107, l108, l109, l110, l111, l112, l113, l114, l115, l116, l117, l118, l119, l120, l121, l122, l123, l124, l125, l126, l127, l128, l129, l130, l131, l132, l133, l134, l135, l136, l137, l138, l139, l140, l141, l142, l143, l144, l145, l146, l147, l148, l149, l150, l151, l152, l153, l154, l155, l156, l157, l158, l159, l160, l161, l162, l163, l164, l165, l166, l167, l168, l169, l170, l171, l172, l173, l174, l175, l176, l177, l178, l179, l180, l181, l182, l183, l184, l185, l186, l187, l188, l189, l190, l191, l192, l193, l194, l195, l196, l197, l198, l199, l200, l201, l202, l203, l204, l205, l206, l207, l208, l209, l210, l211, l212, l213, l214, l215, l216, l217, l218, l219, l220, l221, l222, l223, l224, l225, l226, l227, l228, l229, l230, l231, l232, l233, l234, l235, l236, l237, l238, l239, l240, l241, l242, l243, l244, l245, l246, l247, l248, l249, l250, l251, l252, l253, l254, l255, l256, l257, l258, l259, l260, l261, l262, l263, l264, l265, l266, l267, l268, l269, l270, l271, l272, l273, l274, l275, l276, l277, l278, l279, l280, l281, l282, l283, l284, l285], []⟩ w := by
  conv => arg 2; whnf
  have hx : Ext w w := Ext.refl w
  have hE : Ext w (World.drew w) := (Ext.refl _).drew
  have hyd : Ext w (World.drew w) := (Ext.refl _).drew
  replace hx := hx.trans hyd
  replace VX := Lib.hid (VX.out.ext hyd)
  replace VY := Lib.hid (VY.out.ext hyd)
  clear hyd
  have s0 : World.cell? (World.drew w) ⟨g, i, none⟩ = some (.slice (some ⟨bK, oK, none⟩) N cK0) := hci
  have s1 : World.cell? (World.drew w) ⟨bK, oK + c * 4, none⟩ = some (.bool nx) := e0
  have s2 : World.cell? (World.drew w) ⟨bK, oK + c * 4 + 1, none⟩ = some (.slice ax qx cx) := e1
  have s3 : World.cell? (World.drew w) ⟨bK, oK + c * 4 + 2, none⟩ = some (.bool mx) := e2
  have s4 : World.cell? (World.drew w) ⟨bK, oK + c * 4 + 3, none⟩ = some (.slice bx kx dx) := e3
  have s5 : World.cell? (World.drew w) ⟨g, k, none⟩ = some (.slice (some ⟨bI, oI, none⟩) N cI0) := hck
  have s6 : World.cell? (World.drew w) ⟨bI, oI + c * 4, none⟩ = some (.bool ny) := f0
  have s7 : World.cell? (World.drew w) ⟨bI, oI + c * 4 + 1, none⟩ = some (.slice ay qy cy) := f1
  have s8 : World.cell? (World.drew w) ⟨bI, oI + c * 4 + 2, none⟩ = some (.bool my) := f2
  have s9 : World.cell? (World.drew w) ⟨bI, oI + c * 4 + 3, none⟩ = some (.slice by_ ky dy) := f3
  refine wp_region_noPanic ?_
  refine wp_region_held_drew (S := (fun w' => World.cell? w' ⟨g, i, none⟩ = some (.slice (some ⟨bK, oK, none⟩) N cK0) ∧ World.cell? w' ⟨bK, oK + c * 4, none⟩ = some (.bool nx) ∧ World.cell? w' ⟨bK, oK + c * 4 + 1, none⟩ = some (.slice ax qx cx) ∧ World.cell? w' ⟨bK, oK + c * 4 + 2, none⟩ = some (.bool mx) ∧ World.cell? w' ⟨bK, oK + c * 4 + 3, none⟩ = some (.slice bx kx dx) ∧ World.cell? w' ⟨g, k, none⟩ = some (.slice (some ⟨bI, oI, none⟩) N cI0) ∧ World.cell? w' ⟨bI, oI + c * 4, none⟩ = some (.bool ny) ∧ World.cell? w' ⟨bI, oI + c * 4 + 1, none⟩ = some (.slice ay qy cy) ∧ World.cell? w' ⟨bI, oI + c * 4 + 2, none⟩ = some (.bool my) ∧ World.cell? w' ⟨bI, oI + c * 4 + 3, none⟩ = some (.slice by_ ky dy))) (by kernel_rfl) ?_ (fun hHeld => ?_)
  · exact ⟨s0, s1, s2, s3, s4, s5, s6, s7, s8, s9⟩
  (try simp only [pur, Nat.reduceAdd])
  generalize World.drew w = x71 at *
  refine tk (v := ?_) 0 rfl (by kernel_rfl) (fun _ _ _ h => h) (by rfl) ?_ (by assumption) ?_
  rotate_left
  · (intro w hSw; (try dsimp only at hSw); (try go_simp); (try with_reducible rfl))
  (try simp only [Act.put, pus])
  refine tk (v := ?_) 1 rfl (by kernel_rfl) (fun _ _ _ h => h) (by rfl) ?_ (by assumption) ?_
  rotate_left
  · (intro w hSw; (try dsimp only at hSw); (try go_simp); (try with_reducible rfl))
  (try simp only [Act.put, pus])
  refine tk (v := ?_) 2 rfl (by kernel_rfl) (fun _ _ _ h => h) (by rfl) ?_ (by assumption) ?_
  rotate_left
  · (intro w hSw; (try dsimp only at hSw); (try go_simp); (try with_reducible rfl))
  (try simp only [Act.put, pus])
  refine tk (v := ?_) 3 rfl (by kernel_rfl) (fun _ _ _ h => h) (by rfl) ?_ (by assumption) ?_
  rotate_left
  · (intro w hSw; (try dsimp only at hSw); (try go_simp); (try with_reducible rfl))
  (try simp only [Act.put, pus])
  refine tk (v := ?_) 4 rfl (by kernel_rfl) (fun _ _ _ h => h) (by rfl) ?_ (by assumption) ?_
  rotate_left
  · (intro w hSw; (try dsimp only at hSw); (try go_simp); (try with_reducible rfl))
  (try simp only [Act.put, pus])
  refine tk (v := ?_) 5 rfl (by kernel_rfl) (fun _ _ _ h => h) (by rfl) ?_ (by assumption) ?_
  rotate_left
  · (intro w hSw; (try dsimp only at hSw); (try go_simp); (try with_reducible rfl))
  (try simp only [Act.put, pus])
  refine tk (v := ?_) 6 rfl (by kernel_rfl) (fun _ _ _ h => h) (by rfl) ?_ (by assumption) ?_
  rotate_left
  · (intro w hSw; (try dsimp only at hSw); (try go_simp); (try with_reducible rfl))
  (try simp only [Act.put, pus])
  refine tk (v := ?_) 7 rfl (by kernel_rfl) (fun _ _ _ h => h) (by rfl) ?_ (by assumption) ?_
  rotate_left
  · (intro w hSw; (try dsimp only at hSw); (try go_simp); (try with_reducible rfl))
  (try simp only [Act.put, pus])
  refine tk (v := ?_) 8 rfl (by kernel_rfl) (fun _ _ _ h => h) (by rfl) ?_ (by assumption) ?_
  rotate_left
  · (intro w hSw; (try dsimp only at hSw); (try go_simp); (try with_reducible rfl))
  (try simp only [Act.put, pus])
  refine tk (v := ?_) 9 rfl (by kernel_rfl) (fun _ _ _ h => h) (by rfl) ?_ (by assumption) ?_
  rotate_left
  · (intro w hSw; (try dsimp only at hSw); (try go_simp); (try with_reducible rfl))
  (try simp only [Act.put, pus])
  refine tk (v := ?_) 10 rfl (by kernel_rfl) (fun _ _ _ h => h) (by rfl) ?_ (by assumption) ?_
  rotate_left
  · (intro w hSw; (try dsimp only at hSw); (try go_simp); (try with_reducible rfl))
  (try simp only [Act.put, pus])
  refine tk (v := ?_) 11 rfl (by kernel_rfl) (fun _ _ _ h => h) (by rfl) ?_ (by assumption) ?_
  rotate_left
  · (intro w hSw; (try dsimp only at hSw); (try go_simp); (try with_reducible rfl))
  (try simp only [Act.put, pus])
  refine tk (v := ?_) 12 rfl (by kernel_rfl) (fun _ _ _ h => h) (by rfl) ?_ (by assumption) ?_
  rotate_left
  · (intro w hSw; (try dsimp only at hSw); (try go_simp); (try with_reducible rfl))
  (try simp only [Act.put, pus])
  refine tk (v := ?_) 13 rfl (by kernel_rfl) (fun _ _ _ h => h) (by rfl) ?_ (by assumption) ?_
  rotate_left
  · (intro w hSw; (try dsimp only at hSw); (try go_simp); (try with_reducible rfl))
  (try simp only [Act.put, pus])
  refine wpAnyH_ready (rs := [14, 18]) (by kernel_rfl) (by simp) ?_
  refine AllReadyH.cons (o := _) rfl (fun K hK => ?_) ?_
  · go_simp
    have hzx := hE.size; (with_reducible refine (ratio_Add VX.out VY.out ZX.out ZY.out (by omega)).mono ?_); rintro e x72 ⟨v1, rfl, hv, hy⟩; replace hE := hE.trans hy; replace hx := hx.trans hy; replace s0 := cell_exQ hy s0; replace s1 := cell_exQ hy s1; replace s2 := cell_exQ hy s2; replace s3 := cell_exQ hy s3; replace s4 := cell_exQ hy s4; replace s5 := cell_exQ hy s5; replace s6 := cell_exQ hy s6; replace s7 := cell_exQ hy s7; replace s8 := cell_exQ hy s8; replace s9 := cell_exQ hy s9; replace VX := Lib.hid (VX.out.ext hy); replace VY := Lib.hid (VY.out.ext hy); clear hy; obtain ⟨nd, ad, qd, cd, bd, kd, dd, rfl, hv', hf', hg'⟩ := hv; have Vd := Lib.hid hv'; have Fd := Lib.hid (And.intro (fun A' hA => Nat.le_trans hzx (hf' A' hA)) (fun A' hA => Nat.le_trans hzx (hg' A' hA))); clear hv' hf' hg' hzx
    refine hK.out _ _ ?_ (fun hHeld2 => ?_)
    · exact ⟨s0, s1, s2, s3, s4, s5, s6, s7, s8, s9⟩
    clear hK K hHeld
    have hHeld := hHeld2
    clear hHeld2
    (try simp only [Act.put, pus])
    refine tk (v := ?_) 15 rfl (by kernel_rfl) (fun _ _ _ h => h) (by rfl) ?_ (by assumption) ?_
    rotate_left
    · (intro w hSw; (try dsimp only at hSw); (try go_simp); (try with_reducible rfl))
    (try simp only [Act.put, pus])
    refine tk (v := ?_) 16 rfl (by kernel_rfl) (fun _ _ _ h => h) (by rfl) ?_ (by assumption) ?_
    rotate_left
    · (intro w hSw; (try dsimp only at hSw); (try go_simp); (try with_reducible rfl))
    (try simp only [Act.put, pus])
    refine tk (v := ?_) 17 rfl (by kernel_rfl) (fun _ _ _ h => h) (by rfl) ?_ (by assumption) ?_
    rotate_left
    · (intro w hSw; (try dsimp only at hSw); (try go_simp); (try with_reducible rfl))
    (try simp only [Act.put, pus])
    refine wpAnyH_ready (rs := [18]) (by kernel_rfl) (by simp) ?_
    refine AllReadyH.cons (o := _) rfl (fun K hK => ?_) ?_
    · go_simp
      have hy : Ext x72 (World.alloc x72 (.cells #[.bool false, .slice none 0 0, .bool false, .slice none 0 0] 38)) := Ext.alloc _ _; have hpd : w.heap.size ≤ Array.size (World.heap x72) := hx.size; have hqd := hE.size; replace hE := hE.trans hy; replace hx := hx.trans hy; have md0 := lt_of_cell s0; replace s0 := cell_exQ hy s0; have md1 := lt_of_cell s1; replace s1 := cell_exQ hy s1; replace s2 := cell_exQ hy s2; replace s3 := cell_exQ hy s3; replace s4 := cell_exQ hy s4; replace s5 := cell_exQ hy s5; have md6 := lt_of_cell s6; replace s6 := cell_exQ hy s6; replace s7 := cell_exQ hy s7; replace s8 := cell_exQ hy s8; replace s9 := cell_exQ hy s9; replace VX := Lib.hid (VX.out.ext hy); replace VY := Lib.hid (VY.out.ext hy); replace Vd := Lib.hid (Vd.out.ext hy); have Kd := Lib.hid (Blk.new0 x72 #[.bool false, .slice none 0 0, .bool false, .slice none 0 0] 38); clear hy; generalize World.alloc x72 (.cells #[.bool false, .slice none 0 0, .bool false, .slice none 0 0] 38) = x73 at *; generalize Array.size (World.heap x72) = pd at *
      refine hK.out _ _ ?_ (fun hHeld2 => ?_)
      · exact ⟨s0, s1, s2, s3, s4, s5, s6, s7, s8, s9⟩
      clear hK K hHeld
      have hHeld := hHeld2
      clear hHeld2
      (try simp only [Act.put, pus])
      refine wpAnyH_ready (rs := [19]) (by kernel_rfl) (by simp) ?_
      refine AllReadyH.cons (o := _) rfl (fun K hK => ?_) ?_
      · obtain ⟨g0, z0, g1, z1, g2, z2, g3, z3⟩ := bp4 Kd (.bool nd) (.slice ad qd cd) (.bool false) (.slice bd kd dd); go_simp; clear g0 z0 g1 z1 g2 z2 g3 z3; replace Vd := (by first | exact rv4 Vd Kd (.bool nd) (.slice ad qd cd) (.bool false) (.slice bd kd dd) rfl rfl rfl rfl | exact bv4 Vd Kd (.bool nd) (.slice ad qd cd) (.bool false) (.slice bd kd dd) rfl rfl rfl rfl); replace hx := bx4 hx (pd) (.bool nd) (.slice ad qd cd) (.bool false) (.slice bd kd dd) (by omega); replace hE := bx4 hE (pd) (.bool nd) (.slice ad qd cd) (.bool false) (.slice bd kd dd) (by omega); replace s0 := bf4 s0 (pd) (.bool nd) (.slice ad qd cd) (.bool false) (.slice bd kd dd) (by omega); replace s1 := bf4 s1 (pd) (.bool nd) (.slice ad qd cd) (.bool false) (.slice bd kd dd) (by omega); replace s2 := bf4 s2 (pd) (.bool nd) (.slice ad qd cd) (.bool false) (.slice bd kd dd) (by omega); replace s3 := bf4 s3 (pd) (.bool nd) (.slice ad qd cd) (.bool false) (.slice bd kd dd) (by omega); replace s4 := bf4 s4 (pd) (.bool nd) (.slice ad qd cd) (.bool false) (.slice bd kd dd) (by omega); replace s5 := bf4 s5 (pd) (.bool nd) (.slice ad qd cd) (.bool false) (.slice bd kd dd) (by omega); replace s6 := bf4 s6 (pd) (.bool nd) (.slice ad qd cd) (.bool false) (.slice bd kd dd) (by omega); replace s7 := bf4 s7 (pd) (.bool nd) (.slice ad qd cd) (.bool false) (.slice bd kd dd) (by omega); replace s8 := bf4 s8 (pd) (.bool nd) (.slice ad qd cd) (.bool false) (.slice bd kd dd) (by omega); replace s9 := bf4 s9 (pd) (.bool nd) (.slice ad qd cd) (.bool false) (.slice bd kd dd) (by omega); replace Kd := bs4 Kd (.bool nd) (.slice ad qd cd) (.bool false) (.slice bd kd dd); generalize (World.setCell (World.setCell (World.setCell (World.setCell x73 ⟨pd, 0, none⟩ (.bool nd)) ⟨pd, 1, none⟩ (.slice ad qd cd)) ⟨pd, 2, none⟩ (.bool false)) ⟨pd, 3, none⟩ (.slice bd kd dd)) = xe at *
        refine hK.out _ _ ?_ (fun hHeld2 => ?_)
        · exact ⟨s0, s1, s2, s3, s4, s5, s6, s7, s8, s9⟩
        clear hK K hHeld
        have hHeld := hHeld2
        clear hHeld2
        (try simp only [Act.put, pus])
        refine tk (v := ?_) 20 rfl (by kernel_rfl) (fun _ _ _ h => h) (by rfl) ?_ (by assumption) ?_
        rotate_left
        · (intro w hSw; (try dsimp only at hSw); (try go_simp); (try with_reducible rfl))
        (try simp only [Act.put, pus])
        refine wpAnyH_done (by kernel_rfl) ?_ _
        (refine NoPanic.normal ?_; show K' _ _; exact hfin Kd.out Vd.out Fd.out hqd hE)
      exact AllReadyH.nil
    exact AllReadyH.nil
  refine AllReadyH.cons (o := _) rfl (fun K hK => ?_) ?_
  · go_simp
    have hy : Ext x71 (World.alloc x71 (.cells #[.bool false, .slice none 0 0, .bool false, .slice none 0 0] 38)) := Ext.alloc _ _; have hpd : w.heap.size ≤ Array.size (World.heap x71) := hx.size; have hqd := hE.size; replace hE := hE.trans hy; replace hx := hx.trans hy; have md0 := lt_of_cell s0; replace s0 := cell_exQ hy s0; have md1 := lt_of_cell s1; replace s1 := cell_exQ hy s1; replace s2 := cell_exQ hy s2; replace s3 := cell_exQ hy s3; replace s4 := cell_exQ hy s4; replace s5 := cell_exQ hy s5; have md6 := lt_of_cell s6; replace s6 := cell_exQ hy s6; replace s7 := cell_exQ hy s7; replace s8 := cell_exQ hy s8; replace s9 := cell_exQ hy s9; replace VX := Lib.hid (VX.out.ext hy); replace VY := Lib.hid (VY.out.ext hy); have Kd := Lib.hid (Blk.new0 x71 #[.bool false, .slice none 0 0, .bool false, .slice none 0 0] 38); clear hy; generalize World.alloc x71 (.cells #[.bool false, .slice none 0 0, .bool false, .slice none 0 0] 38) = x74 at *; generalize Array.size (World.heap x71) = pd at *
    refine hK.out _ _ ?_ (fun hHeld2 => ?_)
    · exact ⟨s0, s1, s2, s3, s4, s5, s6, s7, s8, s9⟩
    clear hK K hHeld
    have hHeld := hHeld2
    clear hHeld2
    (try simp only [Act.put, pus])
    refine wpAnyH_ready (rs := [14]) (by kernel_rfl) (by simp) ?_
    refine AllReadyH.cons (o := _) rfl (fun K hK => ?_) ?_
    · go_simp
      have hzx := hE.size; (with_reducible refine (ratio_Add VX.out VY.out ZX.out ZY.out (by omega)).mono ?_); rintro e x75 ⟨v1, rfl, hv, hy⟩; replace hE := hE.trans hy; replace hx := hx.trans hy; replace s0 := cell_exQ hy s0; replace s1 := cell_exQ hy s1; replace s2 := cell_exQ hy s2; replace s3 := cell_exQ hy s3; replace s4 := cell_exQ hy s4; replace s5 := cell_exQ hy s5; replace s6 := cell_exQ hy s6; replace s7 := cell_exQ hy s7; replace s8 := cell_exQ hy s8; replace s9 := cell_exQ hy s9; replace Kd := kE Kd hy; replace VX := Lib.hid (VX.out.ext hy); replace VY := Lib.hid (VY.out.ext hy); clear hy; obtain ⟨nd, ad, qd, cd, bd, kd, dd, rfl, hv', hf', hg'⟩ := hv; have Vd := Lib.hid hv'; have Fd := Lib.hid (And.intro (fun A' hA => Nat.le_trans hzx (hf' A' hA)) (fun A' hA => Nat.le_trans hzx (hg' A' hA))); clear hv' hf' hg' hzx
      refine hK.out _ _ ?_ (fun hHeld2 => ?_)
      · exact ⟨s0, s1, s2, s3, s4, s5, s6, s7, s8, s9⟩
      clear hK K hHeld
      have hHeld := hHeld2
      clear hHeld2
      (try simp only [Act.put, pus])
      refine tk (v := ?_) 15 rfl (by kernel_rfl) (fun _ _ _ h => h) (by rfl) ?_ (by assumption) ?_
      rotate_left
      · (intro w hSw; (try dsimp only at hSw); (try go_simp); (try with_reducible rfl))
      (try simp only [Act.put, pus])
      refine tk (v := ?_) 16 rfl (by kernel_rfl) (fun _ _ _ h => h) (by rfl) ?_ (by assumption) ?_
      rotate_left
      · (intro w hSw; (try dsimp only at hSw); (try go_simp); (try with_reducible rfl))
      (try simp only [Act.put, pus])
      refine tk (v := ?_) 17 rfl (by kernel_rfl) (fun _ _ _ h => h) (by rfl) ?_ (by assumption) ?_
      rotate_left
      · (intro w hSw; (try dsimp only at hSw); (try go_simp); (try with_reducible rfl))
      (try simp only [Act.put, pus])
      refine wpAnyH_ready (rs := [19]) (by kernel_rfl) (by simp) ?_
      refine AllReadyH.cons (o := _) rfl (fun K hK => ?_) ?_
      · obtain ⟨g0, z0, g1, z1, g2, z2, g3, z3⟩ := bp4 Kd (.bool nd) (.slice ad qd cd) (.bool false) (.slice bd kd dd); go_simp; clear g0 z0 g1 z1 g2 z2 g3 z3; replace Vd := (by first | exact rv4 Vd Kd (.bool nd) (.slice ad qd cd) (.bool false) (.slice bd kd dd) rfl rfl rfl rfl | exact bv4 Vd Kd (.bool nd) (.slice ad qd cd) (.bool false) (.slice bd kd dd) rfl rfl rfl rfl); replace hx := bx4 hx (pd) (.bool nd) (.slice ad qd cd) (.bool false) (.slice bd kd dd) (by omega); replace hE := bx4 hE (pd) (.bool nd) (.slice ad qd cd) (.bool false) (.slice bd kd dd) (by omega); replace s0 := bf4 s0 (pd) (.bool nd) (.slice ad qd cd) (.bool false) (.slice bd kd dd) (by omega); replace s1 := bf4 s1 (pd) (.bool nd) (.slice ad qd cd) (.bool false) (.slice bd kd dd) (by omega); replace s2 := bf4 s2 (pd) (.bool nd) (.slice ad qd cd) (.bool false) (.slice bd kd dd) (by omega); replace s3 := bf4 s3 (pd) (.bool nd) (.slice ad qd cd) (.bool false) (.slice bd kd dd) (by omega); replace s4 := bf4 s4 (pd) (.bool nd) (.slice ad qd cd) (.bool false) (.slice bd kd dd) (by omega); replace s5 := bf4 s5 (pd) (.bool nd) (.slice ad qd cd) (.bool false) (.slice bd kd dd) (by omega); replace s6 := bf4 s6 (pd) (.bool nd) (.slice ad qd cd) (.bool false) (.slice bd kd dd) (by omega); replace s7 := bf4 s7 (pd) (.bool nd) (.slice ad qd cd) (.bool false) (.slice bd kd dd) (by omega); replace s8 := bf4 s8 (pd) (.bool nd) (.slice ad qd cd) (.bool false) (.slice bd kd dd) (by omega); replace s9 := bf4 s9 (pd) (.bool nd) (.slice ad qd cd) (.bool false) (.slice bd kd dd) (by omega); replace Kd := bs4 Kd (.bool nd) (.slice ad qd cd) (.bool false) (.slice bd kd dd); generalize (World.setCell (World.setCell (World.setCell (World.setCell x75 ⟨pd, 0, none⟩ (.bool nd)) ⟨pd, 1, none⟩ (.slice ad qd cd)) ⟨pd, 2, none⟩ (.bool false)) ⟨pd, 3, none⟩ (.slice bd kd dd)) = xe at *
        refine hK.out _ _ ?_ (fun hHeld2 => ?_)
        · exact ⟨s0, s1, s2, s3, s4, s5, s6, s7, s8, s9⟩
        clear hK K hHeld
        have hHeld := hHeld2
        clear hHeld2
        (try simp only [Act.put, pus])
        refine tk (v := ?_) 20 rfl (by kernel_rfl) (fun _ _ _ h => h) (by rfl) ?_ (by assumption) ?_
        rotate_left
        · (intro w hSw; (try dsimp only at hSw); (try go_simp); (try with_reducible rfl))
        (try simp only [Act.put, pus])
        refine wpAnyH_done (by kernel_rfl) ?_ _
        (refine NoPanic.normal ?_; show K' _ _; exact hfin Kd.out Vd.out Fd.out hqd hE)
      exact AllReadyH.nil
    exact AllReadyH.nil
  exact AllReadyH.nil
set_option maxHeartbeats 8000000 in
theorem turned_r36 {g g2 cg cg2 m i k : Nat} (i0 : (0 : Int) ≤ (i : Int)) (i1 : (i : Int) < (m : Int)) (k0 : (0 : Int) ≤ (k : Int)) (k1 : (k : Int) < (m : Int)) (hik : i ≠ k) {w : World} {nx mx ny my : Bool} {ax bx ay by_ : Option Addr} {qx cx kx dx qy cy ky dy : Nat} {r s : Rat} (e0 : World.cell? w ⟨g2, i * 4, none⟩ = some (.bool nx)) (e1 : World.cell? w ⟨g2, i * 4 + 1, none⟩ = some (.slice ax qx cx)) (e2 : World.cell? w ⟨g2, i * 4 + 2, none⟩ = some (.bool mx)) (e3 : World.cell? w ⟨g2, i * 4 + 3, none⟩ = some (.slice bx kx dx)) (f0 : World.cell? w ⟨g2, k * 4, none⟩ = some (.bool ny)) (f1 : World.cell? w ⟨g2, k * 4 + 1, none⟩ = some (.slice ay qy cy)) (f2 : World.cell? w ⟨g2, k * 4 + 2, none⟩ = some (.bool my)) (f3 : World.cell? w ⟨g2, k * 4 + 3, none⟩ = some (.slice by_ ky dy)) (VX : Hid (RatV w (.agg #[.bool nx, .slice ax qx cx, .bool mx, .slice bx kx dx]) r)) (VY : Hid (RatV w (.agg #[.bool ny, .slice ay qy cy, .bool my, .slice by_ ky dy]) s)) (ZX : Hid (Sz r 2)) (ZY : Hid (Sz s 2)) {K' : Act → World → Prop} {Q' : Exit → Act → World → Prop} {l0 l1 l2 l3 l4 l5 l6 l7 l8 l9 l10 l11 l12 l13 l14 l15 l16 l17 l20 l22 l23 l24 l25 l26 l27 l28 l29 l30 l31 l32 l33 l34 l35 l36 l37 l38 l39 l40 l41 l42 l43 l44 l45 l46 l47 l48 l49 l50 l51 l52 l53 l54 l55 l56 l57 l58 l59 l60 l61 l62 l63 l64 l65 l66 l67 l68 l69 l70 l71 l72 l73 l74 l75 l76 l77 l78 l79 l80 l81 l82 l83 l84 l85 l86 l87 l88 l89 l90 l91 l92 l93 l94 l95 l96 l97 l98 l99 l100 l101 l102 l103 l104 l105 l106 l107 l108 l109 l110 l111 l112 l113 l114 l115 l116 l117 l118 l119 l120 l121 l122 l123 l124 l125 l126 l127 l128 l129 l130 l131 l132 l133 l134 l135 l136 l137 l138 l139 l140 l141 l142 l143 l144 l145 l146 l147 l148 l149 l150 l151 l152 l153 l154 l155 l156 l157 l158 l159 l160 l161 l162 l163 l164 l165 l166 l167 l168 l169 l170 l171 l172 l173 l174 l175 l176 l177 l178 l179 l180 l181 l182 l183 l184 l185 l186 l187 l188 l189 l190 l191 l192 l193 l194 l195 l196 l197 l198 l199 l200 l201 l202 l203 l204 l205 l206 l207 l208 l209 l210 l211 l212 l213 l214 l215 l216 l217 l218 l219 l220 l221 l222 l223 l224 l225 l226 l227 l228 l229 l230 l231 l232 l233 l234 l235 l236 l237 l238 l239 l240 l241 l242 l243 l244 l245 l246 l247 l248 l249 l250 l251 l252 l253 l254 l255 l256 l257 l258 l259 l260 l261 l262 l263 l264 l265 l266 l267 l268 l269 l270 l271 l272 l273 l274 l275 l276 l277 l278 l279 l280 l281 l282 l283 l284 l285 : Value}
    (hfin : ∀ {u224 u225 u226 u227 u228 u229 u230 u231 u232 u233 u234 u235 : Value} {pd : Nat} {nd : Bool} {ad : Option Addr} {qd cd : Nat} {bd : Option Addr} {kd dd : Nat} {w' : World}, Blk w' pd #[.bool nd, .slice ad qd cd, .bool false, .slice bd kd dd] 38 → RatV w' (.agg #[.bool nd, .slice ad qd cd, .bool false, .slice bd kd dd]) (r + s) → ((∀ A', ad = some A' → w.heap.size ≤ A'.block) ∧ ∀ A', bd = some A' → w.heap.size ≤ A'.block) → w.heap.size ≤ pd → Ext w w' → K' ⟨#[l0, l1, l2, l3, l4, l5, l6, l7, l8, l9, l10, l11, l12, l13, l14, l15, l16, l17, .int .i64 (i : Int), .int .i64 (k : Int), l20, .slice (some ⟨g2, 0, none⟩) m cg2, l22, l23, l24, l25, l26, l27, l28, .pointer (some ⟨pd, 0, none⟩), .int .i64 0, l31, l32, l33, l34, l35, l36, l37, l38, l39, l40, l41, l42, l43, l44, l45, l46, l47, l48, l49, l50, l51, l52, l53, l54, l55, l56, l57, l58, l59, l60, l61, l62, l63, l64, l65, l66, l67, l68, l69, l70, l71, l72, l73, l74, l75, l76, l77, l78, l79, l80, l81, l82, l83, l84, l85, l86, l87, l88, l89, l90, l91, l92, l93, l94, l95, l96, l97, l98, l99, l100, l101, l102, l103, l104, l105, l106, l107, l108, l109, l110, l111, l112, l113, l114, l115, l116, l117, l118, l119, l120, l121, l122, l123, l124, l125, l126, l127, l128, l129, l130, l131, l132, l133, l134, l135, l136, l137, l138, l139, l140, l141, l142, l143, l144, l145, l146, l147, l148, l149, l150, l151, l152, l153, l154, l155, l156, l157, l158, l159, l160, l161, l162, l163, l164, l165, l166, l167, l168, l169, l170, l171, l172, l173, l174, l175, l176, l177, l178, l179, l180, l181, l182, l183, l184, l185, l186, l187, l188, l189, l190, l191, l192, l193, l194, l195, l196, l197, l198, l199, l200, l201, l202, l203, l204, l205, l206, l207, l208, l209, l210, l211, l212, l213, l214, l215, l216, l217, l218, l219, l220, l221, l222, l223, u224, u225, u226, u227, u228, u229, u230, u231, u232, u233, u234, u235, l236, l237, l238, l239, l240, l241, l242, l243, l244, l245, l246, l247, l248, l249, l250, l251, l252, l253, l254, l255, l256, l257, l258, l259, l260, l261, l262, l263, l264, l265, l266, l267, l268, l269, l270, l271, l272, l273, l274, l275, l276, l277, l278, l279, l280, l281, l282, l283, l284, l285], []⟩ w') :
    Code.wp Try.prog ((Try.f3.body.bind (findReg 36)).getD .skip) (Exit.then K' Q') ⟨#[l0, l1, l2, l3, l4, l5, l6, l7, l8, l9, l10, l11, l12, l13, l14, l15, l16, l17, .int .i64 (i : Int), .int .i64 (k : Int), l20, .slice (some ⟨g2, 0, none⟩) m cg2, l22, l23, l24, l25, l26, l27, l28, l29, l30, l31, l32, l33, l34, l35, l36, l37, l38, l39, l40, l41, l42, l43, l44, l45, l46, l47, l48, l49, l50, l51, l52, l53, l54, l55, l56, l57, l58, l59, l60, l61, l62, l63, l64, l65, l66, l67, l68, l69, l70, l71, l72, l73, l74, l75, l76, l77, l78, l79, l80, l81, l82, l83, l84, l85, l86, l87, l88, l89, l90, l91, l92, l93, l94, l95, l96, l97, l98, l99, l100, l101, l102, l103, l104, l105, l106, l107, l108, l109, l110, l111, l112, l113, l114, l115, l116, l117, l118, l119, l120, l121, l122, l123, l124, l125, l126, l127, l128, l129, l130, l131, l132, l133, l134, l135, l136, l137, l138, l139, l140, l141, l142, l143, l144, l145, l146, l147, l148, l149, l150, l151, l152, l153, l154, l155, l156, l157, l158, l159, l160, l161, l162, l163, l164, l165, l166, l167, l168, l169, l170, l171, l172, l173, l174, l175, l176, l177, l178, l179, l180, l181, l182, l183, l184, l185, l186, l187, l188, l189, l190, l191, l192, l193, l194, l195, l196, l197, l198, l199, l200, l201, l202, l203, l204, l205, l206, l207, l208, l209, l210, l211, l212, l213, l214, l215, l216, l217, l218, l219, l220, l221, l222, l223, l224, l225, l226, l227, l228, l229, l230, l231, l232, l233, l234, l235, l236, l237, l238, l239, l240, l241, l242, l243, l244, l245, l246, l247, l248, l249, l250, l251, l252, l253, l254, l255, l256, l257, l258, l259, l260, l261, l262, l263, l264, l265, l266, l267, l268, l269, l270, l271, l272, l273, l274, l275, l276, l277, l278, l279, l280, l281, l282, l283, l284, l285], []⟩ w := by
  conv => arg 2; whnf
  have hx : Ext w w := Ext.refl w
  have hE : Ext w (World.drew w) := (Ext.refl _).drew
  have hyd : Ext w (World.drew w) := (Ext.refl _).drew
  replace hx := hx.trans hyd
  replace VX := Lib.hid (VX.out.ext hyd)
  replace VY := Lib.hid (VY.out.ext hyd)
  clear hyd
  have s0 : World.cell? (World.drew w) ⟨g2, i * 4, none⟩ = some (.bool nx) := e0
  have s1 : World.cell? (World.drew w) ⟨g2, i * 4 + 1, none⟩ = some (.slice ax qx cx) := e1
  have s2 : World.cell? (World.drew w) ⟨g2, i * 4 + 2, none⟩ = some (.bool mx) := e2
  have s3 : World.cell? (World.drew w) ⟨g2, i * 4 + 3, none⟩ = some (.slice bx kx dx) := e3
  have s4 : World.cell? (World.drew w) ⟨g2, k * 4, none⟩ = some (.bool ny) := f0
  have s5 : World.cell? (World.drew w) ⟨g2, k * 4 + 1, none⟩ = some (.slice ay qy cy) := f1
  have s6 : World.cell? (World.drew w) ⟨g2, k * 4 + 2, none⟩ = some (.bool my) := f2
  have s7 : World.cell? (World.drew w) ⟨g2, k * 4 + 3, none⟩ = some (.slice by_ ky dy) := f3
  refine wp_region_noPanic ?_
  refine wp_region_held_drew (S := (fun w' => World.cell? w' ⟨g2, i * 4, none⟩ = some (.bool nx) ∧ World.cell? w' ⟨g2, i * 4 + 1, none⟩ = some (.slice ax qx cx) ∧ World.cell? w' ⟨g2, i * 4 + 2, none⟩ = some (.bool mx) ∧ World.cell? w' ⟨g2, i * 4 + 3, none⟩ = some (.slice bx kx dx) ∧ World.cell? w' ⟨g2, k * 4, none⟩ = some (.bool ny) ∧ World.cell? w' ⟨g2, k * 4 + 1, none⟩ = some (.slice ay qy cy) ∧ World.cell? w' ⟨g2, k * 4 + 2, none⟩ = some (.bool my) ∧ World.cell? w' ⟨g2, k * 4 + 3, none⟩ = some (.slice by_ ky dy))) (by kernel_rfl) ?_ (fun hHeld => ?_)
  · exact ⟨s0, s1, s2, s3, s4, s5, s6, s7⟩
  (try simp only [pur, Nat.reduceAdd])
  generalize World.drew w = x71 at *
  refine tk (v := ?_) 0 rfl (by kernel_rfl) (fun _ _ _ h => h) (by rfl) ?_ (by assumption) ?_
  rotate_left
  · (intro w hSw; (try dsimp only at hSw); (try go_simp); (try with_reducible rfl))
  (try simp only [Act.put, pus])
  refine tk (v := ?_) 1 rfl (by kernel_rfl) (fun _ _ _ h => h) (by rfl) ?_ (by assumption) ?_
  rotate_left
  · (intro w hSw; (try dsimp only at hSw); (try go_simp); (try with_reducible rfl))
  (try simp only [Act.put, pus])
  refine tk (v := ?_) 2 rfl (by kernel_rfl) (fun _ _ _ h => h) (by rfl) ?_ (by assumption) ?_
  rotate_left
  · (intro w hSw; (try dsimp only at hSw); (try go_simp); (try with_reducible rfl))
  (try simp only [Act.put, pus])
  refine tk (v := ?_) 3 rfl (by kernel_rfl) (fun _ _ _ h => h) (by rfl) ?_ (by assumption) ?_
  rotate_left
  · (intro w hSw; (try dsimp only at hSw); (try go_simp); (try with_reducible rfl))
  (try simp only [Act.put, pus])
  refine tk (v := ?_) 4 rfl (by kernel_rfl) (fun _ _ _ h => h) (by rfl) ?_ (by assumption) ?_
  rotate_left
  · (intro w hSw; (try dsimp only at hSw); (try go_simp); (try with_reducible rfl))
  (try simp only [Act.put, pus])
  refine tk (v := ?_) 5 rfl (by kernel_rfl) (fun _ _ _ h => h) (by rfl) ?_ (by assumption) ?_
  rotate_left
  · (intro w hSw; (try dsimp only at hSw); (try go_simp); (try with_reducible rfl))
  (try simp only [Act.put, pus])
  refine tk (v := ?_) 6 rfl (by kernel_rfl) (fun _ _ _ h => h) (by rfl) ?_ (by assumption) ?_
  rotate_left
  · (intro w hSw; (try dsimp only at hSw); (try go_simp); (try with_reducible rfl))
  (try simp only [Act.put, pus])
  refine tk (v := ?_) 7 rfl (by kernel_rfl) (fun _ _ _ h => h) (by rfl) ?_ (by assumption) ?_
  rotate_left
  · (intro w hSw; (try dsimp only at hSw); (try go_simp); (try with_reducible rfl))
  (try simp only [Act.put, pus])
  refine wpAnyH_ready (rs := [8, 12]) (by kernel_rfl) (by simp) ?_
  refine AllReadyH.cons (o := _) rfl (fun K hK => ?_) ?_
  · go_simp
    have hzx := hE.size; (with_reducible refine (ratio_Add VX.out VY.out ZX.out ZY.out (by omega)).mono ?_); rintro e x72 ⟨v1, rfl, hv, hy⟩; replace hE := hE.trans hy; replace hx := hx.trans hy; replace s0 := cell_exQ hy s0; replace s1 := cell_exQ hy s1; replace s2 := cell_exQ hy s2; replace s3 := cell_exQ hy s3; replace s4 := cell_exQ hy s4; replace s5 := cell_exQ hy s5; replace s6 := cell_exQ hy s6; replace s7 := cell_exQ hy s7; replace VX := Lib.hid (VX.out.ext hy); replace VY := Lib.hid (VY.out.ext hy); clear hy; obtain ⟨nd, ad, qd, cd, bd, kd, dd, rfl, hv', hf', hg'⟩ := hv; have Vd := Lib.hid hv'; have Fd := Lib.hid (And.intro (fun A' hA => Nat.le_trans hzx (hf' A' hA)) (fun A' hA => Nat.le_trans hzx (hg' A' hA))); clear hv' hf' hg' hzx
    refine hK.out _ _ ?_ (fun hHeld2 => ?_)
    · exact ⟨s0, s1, s2, s3, s4, s5, s6, s7⟩
    clear hK K hHeld
    have hHeld := hHeld2
    clear hHeld2
    (try simp only [Act.put, pus])
    refine tk (v := ?_) 9 rfl (by kernel_rfl) (fun _ _ _ h => h) (by rfl) ?_ (by assumption) ?_
    rotate_left
    · (intro w hSw; (try dsimp only at hSw); (try go_simp); (try with_reducible rfl))
    (try simp only [Act.put, pus])
    refine tk (v := ?_) 10 rfl (by kernel_rfl) (fun _ _ _ h => h) (by rfl) ?_ (by assumption) ?_
    rotate_left
    · (intro w hSw; (try dsimp only at hSw); (try go_simp); (try with_reducible rfl))
    (try simp only [Act.put, pus])
    refine tk (v := ?_) 11 rfl (by kernel_rfl) (fun _ _ _ h => h) (by rfl) ?_ (by assumption) ?_
    rotate_left
    · (intro w hSw; (try dsimp only at hSw); (try go_simp); (try with_reducible rfl))
    (try simp only [Act.put, pus])
    refine wpAnyH_ready (rs := [12]) (by kernel_rfl) (by simp) ?_
    refine AllReadyH.cons (o := _) rfl (fun K hK => ?_) ?_
    · go_simp
      have hy : Ext x72 (World.alloc x72 (.cells #[.bool false, .slice none 0 0, .bool false, .slice none 0 0] 38)) := Ext.alloc _ _; have hpd : w.heap.size ≤ Array.size (World.heap x72) := hx.size; have hqd := hE.size; replace hE := hE.trans hy; replace hx := hx.trans hy; have md0 := lt_of_cell s0; replace s0 := cell_exQ hy s0; replace s1 := cell_exQ hy s1; replace s2 := cell_exQ hy s2; replace s3 := cell_exQ hy s3; replace s4 := cell_exQ hy s4; replace s5 := cell_exQ hy s5; replace s6 := cell_exQ hy s6; replace s7 := cell_exQ hy s7; replace VX := Lib.hid (VX.out.ext hy); replace VY := Lib.hid (VY.out.ext hy); replace Vd := Lib.hid (Vd.out.ext hy); have Kd := Lib.hid (Blk.new0 x72 #[.bool false, .slice none 0 0, .bool false, .slice none 0 0] 38); clear hy; generalize World.alloc x72 (.cells #[.bool false, .slice none 0 0, .bool false, .slice none 0 0] 38) = x73 at *; generalize Array.size (World.heap x72) = pd at *
      refine hK.out _ _ ?_ (fun hHeld2 => ?_)
      · exact ⟨s0, s1, s2, s3, s4, s5, s6, s7⟩
      clear hK K hHeld
      have hHeld := hHeld2
      clear hHeld2
      (try simp only [Act.put, pus])
      refine wpAnyH_ready (rs := [13]) (by kernel_rfl) (by simp) ?_
      refine AllReadyH.cons (o := _) rfl (fun K hK => ?_) ?_
      · obtain ⟨g0, z0, g1, z1, g2, z2, g3, z3⟩ := bp4 Kd (.bool nd) (.slice ad qd cd) (.bool false) (.slice bd kd dd); go_simp; clear g0 z0 g1 z1 g2 z2 g3 z3; replace Vd := (by first | exact rv4 Vd Kd (.bool nd) (.slice ad qd cd) (.bool false) (.slice bd kd dd) rfl rfl rfl rfl | exact bv4 Vd Kd (.bool nd) (.slice ad qd cd) (.bool false) (.slice bd kd dd) rfl rfl rfl rfl); replace hx := bx4 hx (pd) (.bool nd) (.slice ad qd cd) (.bool false) (.slice bd kd dd) (by omega); replace hE := bx4 hE (pd) (.bool nd) (.slice ad qd cd) (.bool false) (.slice bd kd dd) (by omega); replace s0 := bf4 s0 (pd) (.bool nd) (.slice ad qd cd) (.bool false) (.slice bd kd dd) (by omega); replace s1 := bf4 s1 (pd) (.bool nd) (.slice ad qd cd) (.bool false) (.slice bd kd dd) (by omega); replace s2 := bf4 s2 (pd) (.bool nd) (.slice ad qd cd) (.bool false) (.slice bd kd dd) (by omega); replace s3 := bf4 s3 (pd) (.bool nd) (.slice ad qd cd) (.bool false) (.slice bd kd dd) (by omega); replace s4 := bf4 s4 (pd) (.bool nd) (.slice ad qd cd) (.bool false) (.slice bd kd dd) (by omega); replace s5 := bf4 s5 (pd) (.bool nd) (.slice ad qd cd) (.bool false) (.slice bd kd dd) (by omega); replace s6 := bf4 s6 (pd) (.bool nd) (.slice ad qd cd) (.bool false) (.slice bd kd dd) (by omega); replace s7 := bf4 s7 (pd) (.bool nd) (.slice ad qd cd) (.bool false) (.slice bd kd dd) (by omega); replace Kd := bs4 Kd (.bool nd) (.slice ad qd cd) (.bool false) (.slice bd kd dd); generalize (World.setCell (World.setCell (World.setCell (World.setCell x73 ⟨pd, 0, none⟩ (.bool nd)) ⟨pd, 1, none⟩ (.slice ad qd cd)) ⟨pd, 2, none⟩ (.bool false)) ⟨pd, 3, none⟩ (.slice bd kd dd)) = xe at *
        refine hK.out _ _ ?_ (fun hHeld2 => ?_)
        · exact ⟨s0, s1, s2, s3, s4, s5, s6, s7⟩
        clear hK K hHeld
        have hHeld := hHeld2
        clear hHeld2
        (try simp only [Act.put, pus])
        refine tk (v := ?_) 14 rfl (by kernel_rfl) (fun _ _ _ h => h) (by rfl) ?_ (by assumption) ?_
        rotate_left
        · (intro w hSw; (try dsimp only at hSw); (try go_simp); (try with_reducible rfl))
        (try simp only [Act.put, pus])
        refine wpAnyH_done (by kernel_rfl) ?_ _
        (refine NoPanic.normal ?_; show K' _ _; exact hfin Kd.out Vd.out Fd.out hqd hE)
      exact AllReadyH.nil
    exact AllReadyH.nil
  refine AllReadyH.cons (o := _) rfl (fun K hK => ?_) ?_
  · go_simp
    have hy : Ext x71 (World.alloc x71 (.cells #[.bool false, .slice none 0 0, .bool false, .slice none 0 0] 38)) := Ext.alloc _ _; have hpd : w.heap.size ≤ Array.size (World.heap x71) := hx.size; have hqd := hE.size; replace hE := hE.trans hy; replace hx := hx.trans hy; have md0 := lt_of_cell s0; replace s0 := cell_exQ hy s0; replace s1 := cell_exQ hy s1; replace s2 := cell_exQ hy s2; replace s3 := cell_exQ hy s3; replace s4 := cell_exQ hy s4; replace s5 := cell_exQ hy s5; replace s6 := cell_exQ hy s6; replace s7 := cell_exQ hy s7; replace VX := Lib.hid (VX.out.ext hy); replace VY := Lib.hid (VY.out.ext hy); have Kd := Lib.hid (Blk.new0 x71 #[.bool false, .slice none 0 0, .bool false, .slice none 0 0] 38); clear hy; generalize World.alloc x71 (.cells #[.bool false, .slice none 0 0, .bool false, .slice none 0 0] 38) = x74 at *; generalize Array.size (World.heap x71) = pd at *
    refine hK.out _ _ ?_ (fun hHeld2 => ?_)
    · exact ⟨s0, s1, s2, s3, s4, s5, s6, s7⟩
    clear hK K hHeld
    have hHeld := hHeld2
    clear hHeld2
    (try simp only [Act.put, pus])
    refine wpAnyH_ready (rs := [8]) (by kernel_rfl) (by simp) ?_
    refine AllReadyH.cons (o := _) rfl (fun K hK => ?_) ?_
    · go_simp
      have hzx := hE.size; (with_reducible refine (ratio_Add VX.out VY.out ZX.out ZY.out (by omega)).mono ?_); rintro e x75 ⟨v1, rfl, hv, hy⟩; replace hE := hE.trans hy; replace hx := hx.trans hy; replace s0 := cell_exQ hy s0; replace s1 := cell_exQ hy s1; replace s2 := cell_exQ hy s2; replace s3 := cell_exQ hy s3; replace s4 := cell_exQ hy s4; replace s5 := cell_exQ hy s5; replace s6 := cell_exQ hy s6; replace s7 := cell_exQ hy s7; replace Kd := kE Kd hy; replace VX := Lib.hid (VX.out.ext hy); replace VY := Lib.hid (VY.out.ext hy); clear hy; obtain ⟨nd, ad, qd, cd, bd, kd, dd, rfl, hv', hf', hg'⟩ := hv; have Vd := Lib.hid hv'; have Fd := Lib.hid (And.intro (fun A' hA => Nat.le_trans hzx (hf' A' hA)) (fun A' hA => Nat.le_trans hzx (hg' A' hA))); clear hv' hf' hg' hzx
      refine hK.out _ _ ?_ (fun hHeld2 => ?_)
      · exact ⟨s0, s1, s2, s3, s4, s5, s6, s7⟩
      clear hK K hHeld
      have hHeld := hHeld2
      clear hHeld2
      (try simp only [Act.put, pus])
      refine tk (v := ?_) 9 rfl (by kernel_rfl) (fun _ _ _ h => h) (by rfl) ?_ (by assumption) ?_
      rotate_left
      · (intro w hSw; (try dsimp only at hSw); (try go_simp); (try with_reducible rfl))
      (try simp only [Act.put, pus])
      refine tk (v := ?_) 10 rfl (by kernel_rfl) (fun _ _ _ h => h) (by rfl) ?_ (by assumption) ?_
      rotate_left
      · (intro w hSw; (try dsimp only at hSw); (try go_simp); (try with_reducible rfl))
      (try simp only [Act.put, pus])
      refine tk (v := ?_) 11 rfl (by kernel_rfl) (fun _ _ _ h => h) (by rfl) ?_ (by assumption) ?_
      rotate_left
      · (intro w hSw; (try dsimp only at hSw); (try go_simp); (try with_reducible rfl))
      (try simp only [Act.put, pus])
      refine wpAnyH_ready (rs := [13]) (by kernel_rfl) (by simp) ?_
      refine AllReadyH.cons (o := _) rfl (fun K hK => ?_) ?_
      · obtain ⟨g0, z0, g1, z1, g2, z2, g3, z3⟩ := bp4 Kd (.bool nd) (.slice ad qd cd) (.bool false) (.slice bd kd dd); go_simp; clear g0 z0 g1 z1 g2 z2 g3 z3; replace Vd := (by first | exact rv4 Vd Kd (.bool nd) (.slice ad qd cd) (.bool false) (.slice bd kd dd) rfl rfl rfl rfl | exact bv4 Vd Kd (.bool nd) (.slice ad qd cd) (.bool false) (.slice bd kd dd) rfl rfl rfl rfl); replace hx := bx4 hx (pd) (.bool nd) (.slice ad qd cd) (.bool false) (.slice bd kd dd) (by omega); replace hE := bx4 hE (pd) (.bool nd) (.slice ad qd cd) (.bool false) (.slice bd kd dd) (by omega); replace s0 := bf4 s0 (pd) (.bool nd) (.slice ad qd cd) (.bool false) (.slice bd kd dd) (by omega); replace s1 := bf4 s1 (pd) (.bool nd) (.slice ad qd cd) (.bool false) (.slice bd kd dd) (by omega); replace s2 := bf4 s2 (pd) (.bool nd) (.slice ad qd cd) (.bool false) (.slice bd kd dd) (by omega); replace s3 := bf4 s3 (pd) (.bool nd) (.slice ad qd cd) (.bool false) (.slice bd kd dd) (by omega); replace s4 := bf4 s4 (pd) (.bool nd) (.slice ad qd cd) (.bool false) (.slice bd kd dd) (by omega); replace s5 := bf4 s5 (pd) (.bool nd) (.slice ad qd cd) (.bool false) (.slice bd kd dd) (by omega); replace s6 := bf4 s6 (pd) (.bool nd) (.slice ad qd cd) (.bool false) (.slice bd kd dd) (by omega); replace s7 := bf4 s7 (pd) (.bool nd) (.slice ad qd cd) (.bool false) (.slice bd kd dd) (by omega); replace Kd := bs4 Kd (.bool nd) (.slice ad qd cd) (.bool false) (.slice bd kd dd); generalize (World.setCell (World.setCell (World.setCell (World.setCell x75 ⟨pd, 0, none⟩ (.bool nd)) ⟨pd, 1, none⟩ (.slice ad qd cd)) ⟨pd, 2, none⟩ (.bool false)) ⟨pd, 3, none⟩ (.slice bd kd dd)) = xe at *
        refine hK.out _ _ ?_ (fun hHeld2 => ?_)
        · exact ⟨s0, s1, s2, s3, s4, s5, s6, s7⟩
        clear hK K hHeld
        have hHeld := hHeld2
        clear hHeld2
        (try simp only [Act.put, pus])
        refine tk (v := ?_) 14 rfl (by kernel_rfl) (fun _ _ _ h => h) (by rfl) ?_ (by assumption) ?_
        rotate_left
        · (intro w hSw; (try dsimp only at hSw); (try go_simp); (try with_reducible rfl))
        (try simp only [Act.put, pus])
        refine wpAnyH_done (by kernel_rfl) ?_ _
        (refine NoPanic.normal ?_; show K' _ _; exact hfin Kd.out Vd.out Fd.out hqd hE)
      exact AllReadyH.nil
    exact AllReadyH.nil
  exact AllReadyH.nil
end Go.Proofs.Ytokffagbdfhnnaa

namespace Go.Proofs.Ytokffagbdfhnnaa
open Go.RowKit Go BigFrame Go.Shelf
set_option maxRecDepth 100000
set_option linter.unusedSimpArgs false
set_option linter.unusedVariables false
attribute [local go_sem] Oper.semAt_some

/-! MatrixTurned. -/
def tailAt (n : Nat) : Code → Option Code
  | .region id ops m => if id == n then some (.region id ops m) else none
  | .seq a b => match tailAt n a with
    | some c => some (.seq c b)
    | none => tailAt n b
  | _ => none
set_option maxHeartbeats 32000000 in
theorem turned_t37 {ba oa cb1 g g2 cg cg2 i k : Nat} {A : List (List RatA)} {X : List RatA} {b1 : Option Addr} {V1 : Nat → RatC} {Rk : Int} {rr : Nat → Option Addr × Nat} {val : Nat → Value} {cK0 vc pd : Nat} {aK0 va : Option Addr} {K : List RatC} {nd : Bool} {ad bd : Option Addr} {qd cd kd dd : Nat} {w y3 y5 wr wc : World} (HRR : Hid (∀ r, r < A.length → ∀ W, Ext w W → World.cell? W ⟨ba, oa + r, none⟩ = some (.slice (rr r).1 (widA A) (rr r).2) ∧ RowR W (rr r).1 (rr r).2 (widA A) (vxA A r) (mxA A r))) (HVR : Hid (∀ r, val r = .slice (rr r).1 (widA A) (rr r).2)) (HSM : Hid (∀ r, r < A.length → ∀ c, c < widA A → Sz (mxA A r c) 2)) (HZ : Hid (vecE A X A.length = 0)) (HRQ : Hid (rankA A = Rk)) (m0 : 0 < A.length) (d1 : A.length ≤ 4) (d2 : widA A ≤ 4) (him : i < A.length) (hkm : k < A.length) (i0 : (0 : Int) ≤ (i : Int)) (i1 : (i : Int) < (A.length : Int)) (k0 : (0 : Int) ≤ (k : Int)) (k1 : (k : Int) < (A.length : Int)) (hik : i ≠ k) (hcg : A.length ≤ cg) (hcm : cg ≤ 9223372036854775807) (hcg2 : A.length ≤ cg2) (hcm2 : cg2 ≤ 9223372036854775807) (hne : g ≠ g2) (hgB : y3.heap.size ≤ g) (hg23 : y3.heap.size ≤ g2) (hww : w.heap.size ≤ y3.heap.size) (HOF : Hid (∀ o : Nat, w.heap.size ≤ o → ∀ c, c < A.length → (vecV X c).Off (some o))) (HR0 : Hid (RowR y3 b1 cb1 (solN A X) V1 (solF A X))) (HX0 : Hid (Ext w y3)) (HEY : Hid (Ext y3 y5)) (HXR : Hid (Ext y5 wr)) (HZX : Hid (∀ r, r < A.length → Sz (vecF X r) 2)) (hg5 : g < y5.heap.size) (hg25 : g2 < y5.heap.size) (HCI : Hid (∀ W, Ext y5 W → World.cell? W ⟨g, i, none⟩ = some (.slice aK0 (widA A) cK0))) (HRw : Hid (RowsB wr g A.length (sw val i k))) (HFw : Hid (Fill wr g2 A.length (sw (vecV X) i k) (sw (vecF X) i k))) (HROW : Hid (RowR wr va vc (widA A) (fun c => K.getD c noC) (fun c => mxA A k c + mxA A i c))) (HOWN : Hid (∀ A', va = some A' → y5.heap.size ≤ A'.block)) (HKOF : Hid (∀ x ∈ K, ∀ o, o < y5.heap.size → x.Off (some o))) (HKL : Hid (K.length = widA A)) (rwle : widA A ≤ vc) (rwmx : vc ≤ 9223372036854775807) (hkd : Blk wc pd #[.bool nd, .slice ad qd cd, .bool false, .slice bd kd dd] 38) (hvd : RatV wc (.agg #[.bool nd, .slice ad qd cd, .bool false, .slice bd kd dd]) (vecF X k + vecF X i)) (hfd : (∀ A', ad = some A' → wr.heap.size ≤ A'.block) ∧ ∀ A', bd = some A' → wr.heap.size ≤ A'.block) (hpd : wr.heap.size ≤ pd) (hyy : Ext wr wc) {l0 l1 l2 l3 l4 l5 l6 l7 l8 l9 l10 l12 l13 l14 l17 l22 l23 l24 l26 l27 l28 l31 l32 l33 l34 l35 l36 l37 l38 l39 l40 l41 l42 l43 l44 l45 l46 l47 l48 l49 l50 l51 l52 l53 l54 l55 l56 l57 l58 l59 l60 l61 l62 l63 l64 l65 l66 l67 l68 l69 l70 l71 l72 l73 l74 l75 l76 l77 l78 l79 l80 l81 l82 l83 l84 l85 l86 l87 l88 l89 l90 l91 l92 l93 l94 l95 l96 l97 l98 l99 l100 l101 l102 l103 l104 l105 l106 l107 l108 l109 l110 l111 l112 l113 l114 l115 l116 l117 l118 l119 l120 l121 l122 l123 l124 l125 l126 l127 l128 l129 l130 l131 l132 l133 l134 l135 l136 l137 l138 l139 l140 l141 l142 l143 l144 l145 l146 l147 l148 l149 l150 l151 l152 l153 l154 l155 l156 l157 l158 l159 l160 l161 l162 l163 l164 l165 l166 l167 l168 l169 l170 l171 l172 l173 l174 l175 l176 l177 l178 l179 l180 l181 l182 l183 l184 l185 l186 l187 l188 l189 l190 l191 l192 l193 l194 l195 l196 l197 l198 l199 l200 l201 l202 l203 l204 l205 l206 l207 l208 l209 l210 l211 l212 l213 l214 l215 l216 l217 l218 l219 l220 l221 l222 l223 l224 l225 l226 l227 l228 l229 l230 l231 l232 l233 l234 l235 l236 l237 l238 l239 l240 l241 l242 l243 l244 l245 l246 l247 l248 l249 l250 l251 l252 l253 l254 l255 l256 l257 l258 l259 l260 l261 l262 l263 l264 l265 l266 l267 l268 l269 l270 l271 l272 l273 l274 l275 l276 l277 l278 l279 l280 l281 l282 l283 l284 l285 : Value} :
    Code.wp Try.prog ((Try.f3.body.bind (tailAt 37)).getD .skip) (bodyPost Try.prog Try.f3 fun e w' => e = .returned (.bool true) ∧ Ext w w') ⟨#[l0, l1, l2, l3, l4, l5, l6, l7, l8, l9, l10, .int .i64 Rk, l12, l13, l14, .slice b1 (solN A X) cb1, .bool (solOk A X), l17, .int .i64 (i : Int), .int .i64 (k : Int), .slice (some ⟨g, 0, none⟩) A.length cg, .slice (some ⟨g2, 0, none⟩) A.length cg2, l22, l23, l24, .slice va (widA A) vc, l26, l27, l28, .pointer (some ⟨pd, 0, none⟩), .int .i64 0, l31, l32, l33, l34, l35, l36, l37, l38, l39, l40, l41, l42, l43, l44, l45, l46, l47, l48, l49, l50, l51, l52, l53, l54, l55, l56, l57, l58, l59, l60, l61, l62, l63, l64, l65, l66, l67, l68, l69, l70, l71, l72, l73, l74, l75, l76, l77, l78, l79, l80, l81, l82, l83, l84, l85, l86, l87, l88, l89, l90, l91, l92, l93, l94, l95, l96, l97, l98, l99, l100, l101, l102, l103, l104, l105, l106, l107, l108, l109, l110, l111, l112, l113, l114, l115, l116, l117, l118, l119, l120, l121, l122, l123, l124, l125, l126, l127, l128, l129, l130, l131, l132, l133, l134, l135, l136, l137, l138, l139, l140, l141, l142, l143, l144, l145, l146, l147, l148, l149, l150, l151, l152, l153, l154, l155, l156, l157, l158, l159, l160, l161, l162, l163, l164, l165, l166, l167, l168, l169, l170, l171, l172, l173, l174, l175, l176, l177, l178, l179, l180, l181, l182, l183, l184, l185, l186, l187, l188, l189, l190, l191, l192, l193, l194, l195, l196, l197, l198, l199, l200, l201, l202, l203, l204, l205, l206, l207, l208, l209, l210, l211, l212, l213, l214, l215, l216, l217, l218, l219, l220, l221, l222, l223, l224, l225, l226, l227, l228, l229, l230, l231, l232, l233, l234, l235, l236, l237, l238, l239, l240, l241, l242, l243, l244, l245, l246, l247, l248, l249, l250, l251, l252, l253, l254, l255, l256, l257, l258, l259, l260, l261, l262, l263, l264, l265, l266, l267, l268, l269, l270, l271, l272, l273, l274, l275, l276, l277, l278, l279, l280, l281, l282, l283, l284, l285], []⟩ wc := by
          conv => arg 2; whnf
          have HXD := Lib.hid (HXR.out.trans hyy)
          have HRw2 := Lib.hid (HRw.out.ext hyy)
          have HFw2 := Lib.hid (HFw.out.ext hyy)
          have HROW2 := Lib.hid (HROW.out.ext hyy)
          have hci2 := HCI.out _ HXD.out
          have hfi2 := HRw2.out.free i
          have hwr5 := HXR.out.size
          have hng : pd ≠ g := by omega
          have hng2 : pd ≠ g2 := by omega
          have h3g := HEY.out.size
          have HE3 : Hid (Ext y3 (World.setCell wc ⟨g, i, none⟩ (.slice va (widA A) vc))) := Lib.hid (((HEY.out.trans HXD.out)).set (p := ⟨g, i, none⟩) (by dsimp only; omega) _)
          have HRw3 := Lib.hid (HRw2.out.put him (.slice va (widA A) vc))
          have HFw3 := Lib.hid (HFw2.out.other (grownSet wc g i (.slice va (widA A) vc)) hne (fun c hc => by
            obtain ⟨s, e, hs⟩ := sw_at (vecV X) i k c
            rw [e]; exact HOF.out g (by omega) s (by omega)))
          have HROW3 := Lib.hid (HROW2.out.grown (grownSet wc g i (.slice va (widA A) vc)) (fun A' e eq => by have := HOWN.out A' e; have := Option.some.inj eq; omega) (fun c hc => HKOF.out _ (by rw [List.getD_eq_getElem?_getD, List.getElem?_eq_getElem (show c < K.length by rw [HKL.out]; exact hc)]; exact List.getElem_mem _) g hg5))
          have HBd := Lib.hid (hkd.other (p := ⟨g, i, none⟩) hng (.slice va (widA A) vc))
          have HVd := Lib.hid (hvd.grown (x := ⟨nd, ad, qd, cd, false, bd, kd, dd⟩) (grownSet wc g i (.slice va (widA A) vc)) ⟨fun _ A' hA e => by have := hfd.1 A' hA; have := Option.some.inj e; omega, fun _ A' hA e => by have := hfd.2 A' hA; have := Option.some.inj e; omega⟩)
          obtain ⟨q0_, q1_, q2_, q3_⟩ := bk4 HBd
          have HF10 := Lib.hid (HFw3.out.put him (x := ⟨nd, ad, qd, cd, false, bd, kd, dd⟩) HVd.out ⟨fun _ A' hA e => by have := hfd.1 A' hA; have := Option.some.inj e; omega, fun _ A' hA e => by have := hfd.2 A' hA; have := Option.some.inj e; omega⟩)
          have HR10 := Lib.hid (HRw3.out.grown (grown4 _ g2 i ⟨nd, ad, qd, cd, false, bd, kd, dd⟩) (fun e => hne (Option.some.inj e).symm))
          have HROW10 := Lib.hid (HROW3.out.grown (grown4 _ g2 i ⟨nd, ad, qd, cd, false, bd, kd, dd⟩) (fun A' e eq => by have := HOWN.out A' e; have := Option.some.inj eq; omega) (fun c hc => HKOF.out _ (by rw [List.getD_eq_getElem?_getD, List.getElem?_eq_getElem (show c < K.length by rw [HKL.out]; exact hc)]; exact List.getElem_mem _) g2 hg25))
          have HE10 : Hid (Ext y3 (set4U (World.setCell wc ⟨g, i, none⟩ (.slice va (widA A) vc)) g2 i ⟨nd, ad, qd, cd, false, bd, kd, dd⟩)) := Lib.hid (Below.grown HE3.out (grown4 _ g2 i ⟨nd, ad, qd, cd, false, bd, kd, dd⟩) HE3.out.size (fun r e => by cases e; omega))
          obtain ⟨p0, p1, p2, p3, ⟨_, p4⟩, ⟨_, p5⟩, ⟨_, p6⟩, ⟨_, p7⟩⟩ := (HFw3.out.row.put him ⟨nd, ad, qd, cd, false, bd, kd, dd⟩).1
          dsimp only at p0 p1 p2 p3 p4 p5 p6 p7
          unfold set4U at HF10 HR10 HROW10 HE10
          dsimp only at HF10 HR10 HROW10 HE10
          clear HRw HFw HROW HRw2 HFw2 HROW2 HE3 HRw3 HFw3 HROW3 HBd HVd hkd hvd hfd hyy
          have HXw : Hid (Ext w y3) := Lib.hid (HX0.out)
          go_wp2_with fail
          generalize (World.setCell (World.setCell (World.setCell (World.setCell (World.setCell wc ⟨g, i, none⟩ (.slice va (widA A) vc)) ⟨g2, i * 4, none⟩ (.bool nd)) ⟨g2, i * 4 + 1, none⟩ (.slice ad qd cd)) ⟨g2, i * 4 + 2, none⟩ (.bool false)) ⟨g2, i * 4 + 3, none⟩ (.slice bd kd dd)) = z1 at *
          clear p0 p1 p2 p3 p4 p5 p6 p7 q0_ q1_ q2_ q3_
          have hxz := HXw.out.trans HE10.out
          have hm2 : MatR z1 (some ⟨g, 0, none⟩) cg A.length (widA A) (fun r => if r = i then (fun c => K.getD c noC) else sw (vxA A) i k r) (addX (mxA A) i k) := HR10.out.mat (fun r hr => by
            by_cases e1 : r = i
            · simp only [e1, if_true]
              refine ⟨_, _, rfl, ?_⟩
              have hh := HROW10.out
              have e9 : addX (mxA A) i k i = fun c => mxA A k c + mxA A i c := by funext c; simp only [addX, if_true]
              rw [e9]; exact hh
            · have e9 : addX (mxA A) i k r = sw (mxA A) i k r := by funext c; simp only [addX, e1, if_false]
              simp only [e1, if_false, e9]
              by_cases e2 : r = k
              · rw [e2, sw_r _ hik, sw_r _ hik, sw_r _ hik, HVR.out]; exact ⟨_, _, rfl, (HRR.out i him z1 hxz).2⟩
              · rw [sw_o _ e1 e2, sw_o _ e1 e2, sw_o _ e1 e2, HVR.out]; exact ⟨_, _, rfl, (HRR.out r hr z1 hxz).2⟩) hcg hcm
          have hz5 : ∀ r, r < A.length → ∀ c, c < widA A → Sz (addX (mxA A) i k r c) 5 := fun r hr c hc => by
            by_cases e1 : r = i
            · simp only [addX, e1, if_true]; exact Sz.mono ((HSM.out k hkm c hc).add (HSM.out i him c hc)) (by omega)
            · simp only [addX, e1, if_false]
              obtain ⟨s', e, hs⟩ := sw_at (mxA A) i k r
              rw [e]; exact (HSM.out s' (by omega) c hc).mono (by omega)
          have hx5 : ∀ r, r < A.length → Sz (if r = i then vecF X k + vecF X i else sw (vecF X) i k r) 5 := fun r hr => by
            by_cases e1 : r = i
            · simp only [e1, if_true]; exact Sz.mono ((HZX.out k hkm).add (HZX.out i him)) (by omega)
            · simp only [e1, if_false]
              obtain ⟨s', e, hs⟩ := sw_at (vecF X) i k r
              rw [e]; exact (HZX.out s' (by omega)).mono (by omega)
          obtain ⟨A2, l2, ra2, L2, n2⟩ := hm2.raw (fun r hr c hc => sz_len (hz5 r hr c hc))
          obtain ⟨X2, lx2, rx2, nx2⟩ := (HF10.out.read ⟨hcg2, hcm2⟩ (f' := fun r => if r = i then vecF X k + vecF X i else sw (vecF X) i k r) (fun _ _ => rfl)).raw (fun r hr => sz_len (hx5 r hr))
          obtain ⟨cs1, cs2⟩ := comb_add (U := augA A X) him hkm hik
          obtain ⟨ht1, ht2⟩ := turned_all (B := A2) (Y := X2) HZ.out m0 l2 L2 n2 nx2 (fun r _ c _ => add_aug r c) cs1 cs2
          have w2 : widA A2 = widA A := wid_of L2 (by omega)
          have HRA2 : Hid (Calls Try.prog 11 #[.slice (some ⟨g, 0, none⟩) A.length cg] z1 fun e w' => e = .returned (.tuple #[.int .i64 (rankA A2), .int .i64 (chkE A2)]) ∧ Ext z1 w') := Lib.hid (by
            have := matrix_Rank _ cg A2 z1 ra2 (fun _ => few_X (by omega) (by omega))
            rwa [l2] at this)
          have HSO2 : Hid (∀ W, Ext z1 W → Calls Try.prog 12 #[.slice (some ⟨g, 0, none⟩) A.length cg, .slice (some ⟨g2, 0, none⟩) A.length cg2] W (SolveP A2 X2 W)) := Lib.hid fun W kk => by
            have := matrix_Solve _ cg A2 _ cg2 X2 W (RRows.ext kk ra2) (rx2.ext kk) (by omega) (fun _ => few_S (by omega) (by omega))
            rwa [l2, lx2] at this
          have HCK2 : Hid (∀ W, Ext z1 W → Calls Try.prog 9 #[.slice (some ⟨g, 0, none⟩) A.length cg] W fun e w' => e = .returned (.int .i64 (chkE A2)) ∧ Ext W w') := Lib.hid fun W kk => by
            have := ref_Check11 _ cg A2 W (RRows.ext kk ra2)
            rwa [l2] at this
          have HCX2 : Hid (∀ W b, Ext z1 W → Blk W b #[.slice (some ⟨g2, 0, none⟩) A.length cg2] 23 → Calls Try.prog 9 #[.slice (some ⟨b, 0, none⟩) 1 1] W fun e w' => e = .returned (.int .i64 (elsE X2)) ∧ Ext W w') := Lib.hid fun W b kk hb => by
            rw [← lx2] at hb
            have := ref_Check11 (some ⟨b, 0, none⟩) 1 [X2] W (mat_blk1 hb (rx2.ext kk))
            rwa [chk_single (by omega)] at this
          have HRK2 : Hid (vecE A2 X2 A2.length = 0 → rankA A2 = Rk ∧ solOk A2 X2 = solOk A X ∧ sameF (solN A X) (solN A2 X2) (solF A X) (solF A2 X2) = true) := Lib.hid fun hv => by
            obtain ⟨ho, hs⟩ := ht2 hv
            exact ⟨by rw [ht1 (vecE_0 hv).1, HRQ.out], ho, same_final ho hs⟩
          have HVE : Hid (chkE A2 = 0 → vecE A2 X2 A2.length = elsE X2) := Lib.hid fun h => by unfold vecE; rw [if_neg (by simpa using h), if_neg (by rw [lx2, l2]; simp)]
          have HVN : Hid (chkE A2 ≠ 0 → vecE A2 X2 A2.length = chkE A2) := Lib.hid fun h => by unfold vecE; rw [if_pos h]
          have HL2 := Lib.hid l2
          have HR1z := Lib.hid (HR0.out.ext HE10.out)
          clear hm2 hz5 hx5 ra2 L2 n2 rx2 nx2 lx2 cs1 cs2 ht1 ht2 w2 l2 HR10 HROW10 HF10 hxz
          refine HRA2.out.mono ?_
          rintro e z2 ⟨rfl, hy⟩
          have HZ2 := Lib.hid hy
          clear hy HRA2
          go_wp2_with fail
          refine (HSO2.out z2 HZ2.out).mono ?_
          rintro e z3 ⟨b3, cb3, V3, rfl, hr3, hy⟩
          replace HZ2 := Lib.hid (HZ2.out.trans hy)
          have HXE := Lib.hid ((HXw.out.trans HE10.out).trans HZ2.out)
          replace HR1z := Lib.hid (HR1z.out.ext HZ2.out)
          have HR3 := Lib.hid hr3
          clear hy HSO2 hr3
          rw [HL2.out] at HVE HVN HRK2
          rw [HL2.out]
          by_cases hv : vecE A2 X2 A.length = 0
          · obtain ⟨r1, r2, r3⟩ := HRK2.out hv
            have hcz : chkE A2 = 0 := Classical.byContradiction fun h => h ((HVN.out h).symm.trans hv)
            have HSE2 : Hid (Calls Try.prog 13 #[.slice b1 (solN A X) cb1, .slice b3 (solN A2 X2) cb3] z3 fun e w' => e = .returned (.bool true) ∧ Ext z3 w') := Lib.hid (by
              have := ref_Same11 b1 cb1 (solN A X) V1 (solF A X) b3 cb3 (solN A2 X2) V3 (solF A2 X2) z3 HR1z.out HR3.out
              rwa [r3] at this)
            rw [r1, r2, hv, hcz]
            have g1 : (Rk == Rk) = true := by simp
            have g2' : (solOk A X == solOk A X) = true := by simp
            clear r1 r2 r3 hcz hv HRK2 HVE HVN HCK2 HCX2
            go_wp2_with fail
            refine HSE2.out.mono ?_
            rintro e z4 ⟨rfl, hy⟩
            replace HXE := Lib.hid (HXE.out.trans hy)
            clear hy HSE2
            go_wp2_with fail
            go_ret
            exact ⟨rfl, HXE.out⟩
          · by_cases hcz : chkE A2 = 0
            · have he2 : elsE X2 ≠ 0 := fun h => hv ((HVE.out hcz).trans h)
              have g1 : (vecE A2 X2 A.length != 0) = true := by simp [hv]
              have HCK3 := Lib.hid (HCK2.out z3 HZ2.out)
              rw [hcz] at HCK3
              rw [hcz]
              clear hcz HCK2 HRK2 HVE HVN hv
              go_wp2_with fail
              refine HCK3.out.mono ?_
              rintro e z4 ⟨rfl, hy⟩
              replace HZ2 := Lib.hid (HZ2.out.trans hy)
              replace HXE := Lib.hid (HXE.out.trans hy)
              have hl := Ext.alloc z4 (.cells #[.slice (some ⟨g2, 0, none⟩) A.length cg2] 23)
              have HCX3 := Lib.hid (HCX2.out _ _ (HZ2.out.trans hl) (Blk.new0 z4 #[.slice (some ⟨g2, 0, none⟩) A.length cg2] 23))
              replace HXE := Lib.hid (HXE.out.trans hl)
              have g2' : (elsE X2 != 0) = true := by simp [he2]
              clear hy hl HCK3 g1 HCX2
              go_wp2_with fail
              refine HCX3.out.mono ?_
              rintro e z5 ⟨rfl, hy⟩
              replace HXE := Lib.hid (HXE.out.trans hy)
              clear hy HCX3
              go_wp2_with fail
              go_ret
              exact ⟨rfl, HXE.out⟩
            · have g1 : (chkE A2 != 0) = true := by simp [hcz]
              have HCK3 := Lib.hid (HCK2.out z3 HZ2.out)
              clear hcz HCK2 HRK2 HVE HVN hv HCX2
              go_wp2_with fail
              refine HCK3.out.mono ?_
              rintro e z4 ⟨rfl, hy⟩
              replace HXE := Lib.hid (HXE.out.trans hy)
              clear hy HCK3
              go_wp2_with fail
              go_ret
              exact ⟨rfl, HXE.out⟩
end Go.Proofs.Ytokffagbdfhnnaa

namespace Go.Proofs.Ytokffagbdfhnnaa
open Go.RowKit Go BigFrame Go.Shelf
set_option maxRecDepth 100000
set_option linter.unusedSimpArgs false
set_option linter.unusedVariables false
attribute [local go_sem] Oper.semAt_some

/-! MatrixTurned. -/
set_option maxHeartbeats 32000000 in
theorem turned_t25 {ba oa cb1 g g2 cg cg2 i k : Nat} {A : List (List RatA)} {X : List RatA} {b1 : Option Addr} {V1 : Nat → RatC} {Rk : Int} {rr : Nat → Option Addr × Nat} {val : Nat → Value} {w y3 wc : World} (HRR : Hid (∀ r, r < A.length → ∀ W, Ext w W → World.cell? W ⟨ba, oa + r, none⟩ = some (.slice (rr r).1 (widA A) (rr r).2) ∧ RowR W (rr r).1 (rr r).2 (widA A) (vxA A r) (mxA A r))) (HVR : Hid (∀ r, val r = .slice (rr r).1 (widA A) (rr r).2)) (HSM : Hid (∀ r, r < A.length → ∀ c, c < widA A → Sz (mxA A r c) 2)) (HZ : Hid (vecE A X A.length = 0)) (HRQ : Hid (rankA A = Rk)) (m0 : 0 < A.length) (d1 : A.length ≤ 4) (d2 : widA A ≤ 4) (him : i < A.length) (hkm : k < A.length) (i0 : (0 : Int) ≤ (i : Int)) (i1 : (i : Int) < (A.length : Int)) (k0 : (0 : Int) ≤ (k : Int)) (k1 : (k : Int) < (A.length : Int)) (hik : i ≠ k) (hcg : A.length ≤ cg) (hcm : cg ≤ 9223372036854775807) (hcg2 : A.length ≤ cg2) (hcm2 : cg2 ≤ 9223372036854775807) (hne : g ≠ g2) (hgB : y3.heap.size ≤ g) (hg23 : y3.heap.size ≤ g2) (hww : w.heap.size ≤ y3.heap.size) (HOF : Hid (∀ o : Nat, w.heap.size ≤ o → ∀ c, c < A.length → (vecV X c).Off (some o))) (HR1 : Hid (RowR y3 b1 cb1 (solN A X) V1 (solF A X))) (HX : Hid (Ext w y3)) (HXL : Hid (X.length = A.length)) (HSL : Hid (∀ r, r < A.length → ∀ c, c < widA A → (mxA A r c).num.natAbs < 2 ^ 60 ∧ (mxA A r c).den < 2 ^ 30)) (HSX : Hid (∀ r, r < A.length → (vecF X r).num.natAbs < 2 ^ 60 ∧ (vecF X r).den < 2 ^ 30)) (hrb : RowsB wc g A.length (sw val i k)) (hfb : Fill wc g2 A.length (sw (vecV X) i k) (sw (vecF X) i k)) (hey : Ext y3 wc) {l0 l1 l2 l3 l4 l5 l6 l7 l8 l9 l10 l12 l13 l14 l17 l22 l23 l24 l25 l26 l27 l28 l29 l30 l31 l32 l33 l34 l35 l36 l37 l38 l39 l40 l41 l42 l43 l44 l45 l46 l47 l48 l49 l50 l51 l52 l53 l54 l55 l56 l57 l58 l59 l60 l61 l62 l63 l64 l65 l66 l67 l68 l69 l70 l71 l72 l73 l74 l75 l76 l77 l78 l79 l80 l81 l82 l83 l84 l85 l86 l87 l88 l89 l90 l91 l92 l93 l94 l95 l96 l97 l98 l99 l100 l101 l102 l103 l104 l105 l106 l107 l108 l109 l110 l111 l112 l113 l114 l115 l116 l117 l118 l119 l120 l121 l122 l123 l124 l125 l126 l127 l128 l129 l130 l131 l132 l133 l134 l135 l136 l137 l138 l139 l140 l141 l142 l143 l144 l145 l146 l147 l148 l149 l150 l151 l152 l153 l154 l155 l156 l157 l158 l159 l160 l161 l162 l163 l164 l165 l166 l167 l168 l169 l170 l171 l172 l173 l174 l175 l176 l177 l178 l179 l180 l181 l182 l183 l184 l185 l186 l187 l188 l189 l190 l191 l192 l193 l194 l195 l196 l197 l198 l199 l200 l201 l202 l203 l204 l205 l206 l207 l208 l209 l210 l211 l212 l213 l214 l215 l216 l217 l218 l219 l220 l221 l222 l223 l224 l225 l226 l227 l228 l229 l230 l231 l232 l233 l234 l235 l236 l237 l238 l239 l240 l241 l242 l243 l244 l245 l246 l247 l248 l249 l250 l251 l252 l253 l254 l255 l256 l257 l258 l259 l260 l261 l262 l263 l264 l265 l266 l267 l268 l269 l270 l271 l272 l273 l274 l275 l276 l277 l278 l279 l280 l281 l282 l283 l284 l285 : Value} :
    Code.wp Try.prog ((Try.f3.body.bind (tailAt 25)).getD .skip) (bodyPost Try.prog Try.f3 fun e w' => e = .returned (.bool true) ∧ Ext w w') ⟨#[l0, l1, l2, l3, l4, l5, l6, l7, l8, l9, l10, .int .i64 Rk, l12, l13, l14, .slice b1 (solN A X) cb1, .bool (solOk A X), l17, .int .i64 (i : Int), .int .i64 (k : Int), .slice (some ⟨g, 0, none⟩) A.length cg, .slice (some ⟨g2, 0, none⟩) A.length cg2, l22, l23, l24, l25, l26, l27, l28, l29, l30, l31, l32, l33, l34, l35, l36, l37, l38, l39, l40, l41, l42, l43, l44, l45, l46, l47, l48, l49, l50, l51, l52, l53, l54, l55, l56, l57, l58, l59, l60, l61, l62, l63, l64, l65, l66, l67, l68, l69, l70, l71, l72, l73, l74, l75, l76, l77, l78, l79, l80, l81, l82, l83, l84, l85, l86, l87, l88, l89, l90, l91, l92, l93, l94, l95, l96, l97, l98, l99, l100, l101, l102, l103, l104, l105, l106, l107, l108, l109, l110, l111, l112, l113, l114, l115, l116, l117, l118, l119, l120, l121, l122, l123, l124, l125, l126, l127, l128, l129, l130, l131, l132, l133, l134, l135, l136, l137, l138, l139, l140, l141, l142, l143, l144, l145, l146, l147, l148, l149, l150, l151, l152, l153, l154, l155, l156, l157, l158, l159, l160, l161, l162, l163, l164, l165, l166, l167, l168, l169, l170, l171, l172, l173, l174, l175, l176, l177, l178, l179, l180, l181, l182, l183, l184, l185, l186, l187, l188, l189, l190, l191, l192, l193, l194, l195, l196, l197, l198, l199, l200, l201, l202, l203, l204, l205, l206, l207, l208, l209, l210, l211, l212, l213, l214, l215, l216, l217, l218, l219, l220, l221, l222, l223, l224, l225, l226, l227, l228, l229, l230, l231, l232, l233, l234, l235, l236, l237, l238, l239, l240, l241, l242, l243, l244, l245, l246, l247, l248, l249, l250, l251, l252, l253, l254, l255, l256, l257, l258, l259, l260, l261, l262, l263, l264, l265, l266, l267, l268, l269, l270, l271, l272, l273, l274, l275, l276, l277, l278, l279, l280, l281, l282, l283, l284, l285], []⟩ wc := by
      conv => arg 2; whnf
      have HRB4 := Lib.hid hrb
      have HF8 := Lib.hid hfb
      have HXC := Lib.hid (HX.out.trans hey)
      have HR1c := Lib.hid (HR1.out.ext hey)
      have hgs : g < wc.heap.size := hrb.lt
      have hg2s : g2 < wc.heap.size := hfb.row.lt
      have hwg : w.heap.size ≤ g := by omega
      have hwg2 : w.heap.size ≤ g2 := by omega
      have HR0 := HR1
      have HEY := Lib.hid hey
      clear HR1 hey
      have hvi : sw val i k i = .slice (rr k).1 (widA A) (rr k).2 := by rw [sw_l, HVR.out]
      have hvk : sw val i k k = .slice (rr i).1 (widA A) (rr i).2 := by rw [sw_r _ hik, HVR.out]
      have hm1 : MatR wc (some ⟨g, 0, none⟩) cg A.length (widA A) (sw (vxA A) i k) (sw (mxA A) i k) := hrb.mat (fun r hr => by
        by_cases e1 : r = i
        · rw [e1, hvi, sw_l, sw_l]; exact ⟨_, _, rfl, (HRR.out k hkm wc HXC.out).2⟩
        · by_cases e2 : r = k
          · rw [e2, hvk, sw_r _ hik, sw_r _ hik]; exact ⟨_, _, rfl, (HRR.out i him wc HXC.out).2⟩
          · rw [sw_o _ e1 e2, sw_o _ e1 e2, sw_o _ e1 e2, HVR.out]; exact ⟨_, _, rfl, (HRR.out r hr wc HXC.out).2⟩) hcg hcm
      have hsl1 : ∀ r, r < A.length → ∀ c, c < widA A → (sw (mxA A) i k r c).num.natAbs < 2 ^ 60 ∧ (sw (mxA A) i k r c).den < 2 ^ 30 := fun r hr c hc => by
        obtain ⟨s, e, hs⟩ := sw_at (mxA A) i k r
        rw [e]; exact HSL.out s (by omega) c hc
      have hsx1 : ∀ r, r < A.length → (sw (vecF X) i k r).num.natAbs < 2 ^ 60 ∧ (sw (vecF X) i k r).den < 2 ^ 30 := fun r hr => by
        obtain ⟨s, e, hs⟩ := sw_at (vecF X) i k r
        rw [e]; exact HSX.out s (by omega)
      obtain ⟨A1, l1, ra1, L1, n1⟩ := hm1.raw (fun r hr c hc => len60 (hsl1 r hr c hc))
      obtain ⟨X1, lx1, rx1, nx1⟩ := (hfb.read ⟨hcg2, hcm2⟩ (fun _ _ => rfl)).raw (fun r hr => len60 (hsx1 r hr))
      have hc1 : chkE A1 = 0 := chk_raw l1 L1 n1 hsl1 (by omega) (by omega)
      have he1 : elsE X1 = 0 := elsE_all fun x hx => by
        obtain ⟨j, hj, rfl⟩ := List.getElem_of_mem hx
        have hjm : j < A.length := by omega
        have := nx1 j hjm
        have e2 : X1.getD j noA = X1[j] := by rw [List.getD_eq_getElem?_getD, List.getElem?_eq_getElem hj]; rfl
        rw [e2] at this
        exact small_of this (hsx1 j hjm)
      have hv1 : vecE A1 X1 A1.length = 0 := by unfold vecE; rw [if_neg (by simpa using hc1), if_neg (by rw [lx1, l1]; simp)]; exact he1
      obtain ⟨cs1, cs2⟩ := comb_swap (U := augA A X) him hkm hik
      obtain ⟨_, ht⟩ := turned_all (B := A1) (Y := X1) HZ.out m0 l1 L1 n1 nx1 (fun r _ c _ => sw_aug r c) cs1 cs2
      obtain ⟨ho1, hs1⟩ := ht hv1
      have HSM1 := Lib.hid (same_final ho1 hs1)
      have w1 : widA A1 = widA A := wid_of L1 (by omega)
      have HS1 : Hid (Calls Try.prog 12 #[.slice (some ⟨g, 0, none⟩) A.length cg, .slice (some ⟨g2, 0, none⟩) A.length cg2] wc (fun e w' => ∃ (a : Option Addr) (cap : Nat) (V : Nat → RatC), e = .returned (.tuple #[.slice a (solN A1 X1) cap, .bool (solOk A X), .int .i64 0]) ∧ RowR w' a cap (solN A1 X1) V (solF A1 X1) ∧ Ext wc w')) := Lib.hid (by
        have := matrix_Solve _ cg A1 _ cg2 X1 wc ra1 rx1 (by omega) (fun _ => few_S (by omega) (by omega))
        rw [l1, lx1] at this
        refine this.mono ?_
        rintro e w' ⟨a', cap', V', rfl, h1, h2⟩
        rw [hv1, ho1]
        exact ⟨a', cap', V', rfl, h1, h2⟩)
      clear hm1 hsl1 hsx1 l1 ra1 L1 n1 lx1 rx1 nx1 hc1 he1 hv1 cs1 cs2 ht ho1 hs1 w1 hrb hfb hvi hvk
      go_wp2_with fail
      refine HS1.out.mono ?_
      rintro e y4 ⟨b2, cb2, V2, rfl, hr2, hy⟩
      replace HXC := Lib.hid (HXC.out.trans hy)
      replace HEY := Lib.hid (HEY.out.trans hy)
      replace HRB4 := Lib.hid (HRB4.out.ext hy)
      replace HF8 := Lib.hid (HF8.out.ext hy)
      replace HR1c := Lib.hid (HR1c.out.ext hy)
      have h45 := hy.size
      have HSE : Hid (Calls Try.prog 13 #[.slice b1 (solN A X) cb1, .slice b2 (solN A1 X1) cb2] y4 fun e w' => e = .returned (.bool true) ∧ Ext y4 w') := Lib.hid (by
        have := ref_Same11 b1 cb1 (solN A X) V1 (solF A X) b2 cb2 (solN A1 X1) V2 (solF A1 X1) y4 HR1c.out hr2
        rwa [HSM1.out] at this)
      have g1 : (solOk A X != solOk A X) = false := by simp
      clear hy hr2 HS1 HSM1
      go_wp2_with fail
      refine HSE.out.mono ?_
      rintro e y5 ⟨rfl, hy⟩
      replace HXC := Lib.hid (HXC.out.trans hy)
      replace HEY := Lib.hid (HEY.out.trans hy)
      replace HRB4 := Lib.hid (HRB4.out.ext hy)
      replace HF8 := Lib.hid (HF8.out.ext hy)
      replace HR1c := Lib.hid (HR1c.out.ext hy)
      have h56 := hy.size
      have hg5 : g < y5.heap.size := by omega
      have hg25 : g2 < y5.heap.size := by omega
      have hw5 : w.heap.size ≤ y5.heap.size := HXC.out.size
      have HX0 := HX
      clear hy HSE g1 HX
      have HCI : Hid (∀ W, Ext y5 W → World.cell? W ⟨g, i, none⟩ = some (.slice (rr k).1 (widA A) (rr k).2)) := Lib.hid fun W kk => by
        have := (HRB4.out.ext kk).cell him
        rwa [sw_l, HVR.out] at this
      have HCK : Hid (∀ W, Ext y5 W → World.cell? W ⟨g, k, none⟩ = some (.slice (rr i).1 (widA A) (rr i).2)) := Lib.hid fun W kk => by
        have := (HRB4.out.ext kk).cell hkm
        rwa [sw_r _ hik, HVR.out] at this
      have HRK : Hid (∀ W, Ext y5 W → RowR W (rr k).1 (rr k).2 (widA A) (vxA A k) (mxA A k)) := Lib.hid fun W kk => (HRR.out k hkm W (HXC.out.trans kk)).2
      have HRI : Hid (∀ W, Ext y5 W → RowR W (rr i).1 (rr i).2 (widA A) (vxA A i) (mxA A i)) := Lib.hid fun W kk => (HRR.out i him W (HXC.out.trans kk)).2
      generalize hpk : rr k = pk at HCI HRK
      generalize hpi : rr i = pi at HCK HRI
      obtain ⟨aK0, cK0⟩ := pk
      obtain ⟨aI0, cI0⟩ := pi
      dsimp only at HCI HCK HRK HRI
      have rkle := (HRK.out y5 (Ext.refl _)).le
      have rkmx := (HRK.out y5 (Ext.refl _)).mx
      have rile := (HRI.out y5 (Ext.refl _)).le
      have rimx := (HRI.out y5 (Ext.refl _)).mx
      go_wp2_with fail
      go_loopw [25, 26] (fun s25 v wr => ∃ c : Nat, c ≤ widA A ∧ v = .int .i64 c ∧ ∃ K, OwnRats wr y5.heap.size s25 K ((List.range c).map fun c => mxA A k c + mxA A i c) ∧ (∀ x ∈ K, ∀ o, o < y5.heap.size → x.Off (some o)) ∧ Ext y5 wr) (fun _ v _ => widA A - (intOf v).toNat)
      case atStart => exact ⟨0, Nat.zero_le _, rfl, [], OwnRats.nil _ _, fun x hx => (by cases hx), Ext.refl _⟩
      case round =>
        obtain ⟨c, hc, rfl, K, hO, hOK, hxr⟩ := hrel
        have c0' : (0 : Int) ≤ (c : Int) := by omega
        obtain ⟨va, vc, rfl, hvl, hvc⟩ := hO.form
        have hKl : K.length = c := by have := hO.len; rwa [List.length_map, List.length_range] at this
        have HO := Lib.hid hO
        have HOK := Lib.hid hOK
        have HXR := Lib.hid hxr
        have HKL := Lib.hid hKl
        have hci := HCI.out wr hxr
        clear hO hOK hxr hKl
        by_cases hcN : c < widA A
        · have c1' : (c : Int) < (widA A : Int) := by omega
          have hw1 : IntKind.i64.wrap ((c : Int) + 1) = (c : Int) + 1 := IntWalk.i64_in _ (by omega)
          go_upto_region 32 with fail
          obtain ⟨bK, oK, rfl⟩ := (HRK.out wr HXR.out).head hcN
          obtain ⟨bI, oI, rfl⟩ := (HRI.out wr HXR.out).head hcN
          obtain ⟨_, e0, e1, e2, e3⟩ := (HRK.out wr HXR.out).cells _ rfl c hcN
          obtain ⟨_, f0, f1, f2, f3⟩ := (HRI.out wr HXR.out).cells _ rfl c hcN
          have vx := (HRK.out wr HXR.out).val c hcN
          have vy := (HRI.out wr HXR.out).val c hcN
          have hck := HCK.out wr HXR.out
          have zx := HSM.out k hkm c hcN
          have zy := HSM.out i him c hcN
          generalize vxA A k c = xc at *
          obtain ⟨nx, ax, qx, cx, mx, bx, kx, dx⟩ := xc
          generalize vxA A i c = yc at *
          obtain ⟨ny, ay, qy, cy, my, by_, ky, dy⟩ := yc
          dsimp only [RatC.val] at e0 e1 e2 e3 f0 f1 f2 f3 vx vy
          have VX := Lib.hid vx
          have VY := Lib.hid vy
          have ZX := Lib.hid zx
          have ZY := Lib.hid zy
          have hx : Ext w wr := HXC.out.trans HXR.out
          clear vx vy zx zy
          go_cut [27, 28] (fun s1 s2 wx => ∃ (p : Nat) (nd : Bool) (ad : Option Addr) (qd cd : Nat) (bd : Option Addr) (kd dd : Nat), s1 = .pointer (some ⟨p, 0, none⟩) ∧ s2 = .int .i64 0 ∧ Blk wx p #[.bool nd, .slice ad qd cd, .bool false, .slice bd kd dd] 38 ∧ RatV wx (.agg #[.bool nd, .slice ad qd cd, .bool false, .slice bd kd dd]) (mxA A k c + mxA A i c) ∧ ((∀ A', ad = some A' → wr.heap.size ≤ A'.block) ∧ ∀ A', bd = some A' → wr.heap.size ≤ A'.block) ∧ wr.heap.size ≤ p ∧ Ext wr wx)
          case first =>
            rename_i J1 K1 hJ1 hK1
            refine wp_codeQ (c' := ((Try.f3.body.bind (findReg 32)).getD .skip)) (by kernel_rfl) ?_
            apply turned_r32 (g2 := 0) (cg2 := 0) i0 i1 k0 k1 hik c0' c1' hci e0 e1 e2 e3 hck f0 f1 f2 f3 VX VY ZX ZY
            intros
            rename_i pd nd ad qd cd bd kd dd w' hkd hvd hfd hpd hyy
            refine hK1 _ _ ?_
            go_meet
            exact ⟨pd, nd, ad, qd, cd, bd, kd, dd, rfl, rfl, hkd, hvd, hfd, hpd, hyy⟩
          case rest =>
          obtain ⟨pd, nd, ad, qd, cd, bd, kd, dd, rfl, rfl, hkd, hvd, hfd, hpd, hyy⟩ := hcut
          have hx7 := HXR.out.size
          have HXD := Lib.hid (HXR.out.trans hyy)
          have HOD := Lib.hid (HO.out.ext hyy)
          have hlt := HO.out.lt
          have hya := Ext.alloc wc (.cells #[.bool nd, .slice ad qd cd, .bool false, .slice bd kd dd] 38)
          have HBz := Lib.hid (Blk.new0 wc #[.bool nd, .slice ad qd cd, .bool false, .slice bd kd dd] 38)
          have HXa := Lib.hid (HXD.out.trans hya)
          have HOa := Lib.hid (HOD.out.ext hya)
          have HVa := Lib.hid (RatV.ext hvd hya)
          have hfd1 := hfd.1
          have hfd2 := hfd.2
          have HOFF : Hid (RatC.Off ⟨nd, ad, qd, cd, false, bd, kd, dd⟩ (Value.slice va K.length vc).ownBlock) := Lib.hid ⟨fun _ A' hA e => by have := hfd1 A' hA; have := (hlt _ e).2; omega, fun _ A' hA e => by have := hfd2 A' hA; have := (hlt _ e).2; omega⟩
          have HOF2 : Hid (∀ o, o < y5.heap.size → RatC.Off ⟨nd, ad, qd, cd, false, bd, kd, dd⟩ (some o)) := Lib.hid fun o ho => ⟨fun _ A' hA e => by have := hfd1 A' hA; injection e with e; omega, fun _ A' hA e => by have := hfd2 A' hA; injection e with e; omega⟩
          obtain ⟨k0_, k1_, k2_, k3_⟩ := bk4 (Lib.hid hkd)
          clear hya hvd hlt hfd hfd1 hfd2 HO HOD HXR HXD hyy
          go_wp2_with (at_builtin; refine wpl_append_rat rfl (.tmp 220) (.tmp 222) rfl HXa.out rfl HOa.out rfl (x := ⟨nd, ad, qd, cd, false, bd, kd, dd⟩) (r := mxA A k c + mxA A i c) HBz.out HVa.out HOFF.out (by have := HKL.out; omega) ?_; intro v' w3 hO' hE' hg' hat')
          obtain ⟨ua, uc, rfl, hul, huc⟩ := hO'.form
          go_roundw
          case rel => exact ⟨c + 1, by omega, by go_num, _, (by rw [List.range_succ, List.map_append]; exact hO'), fun y hy o ho => (List.mem_append.1 hy).elim (fun h => HOK.out y h o ho) (fun h => by rw [List.mem_singleton.1 h]; exact HOF2.out o ho), hE'⟩
          case measure => simp [intOf]; omega
        · have c1' : ¬ (c : Int) < (widA A : Int) := by omega
          obtain rfl : c = widA A := by omega
          obtain ⟨arow, crow, erow, hrow, hown⟩ := HO.out.rowX HKL.out (f := fun c => mxA A k c + mxA A i c) (fun c hc => by rw [List.getD_eq_getElem?_getD, List.getElem?_map, List.getElem?_range hc]; rfl)
          simp only [Value.slice.injEq] at erow
          obtain ⟨rfl, hKN, rfl⟩ := erow
          have h3z := vecE_0 HZ.out
          have HZX : Hid (∀ r, r < A.length → Sz (vecF X r) 2) := Lib.hid fun r hr => vec_sz h3z.2.2 r (by rw [HXL.out]; exact hr)
          have HFw := Lib.hid (HF8.out.ext HXR.out)
          have HRw := Lib.hid (HRB4.out.ext HXR.out)
          have HROW := Lib.hid hrow
          have HOWN : Hid (∀ A', va = some A' → y5.heap.size ≤ A'.block) := Lib.hid fun A' e => (HO.out.lt _ (hown A' e)).1
          have HKOF := Lib.hid HOK.out
          have rwle := hrow.le
          have rwmx := hrow.mx
          rw [hKN]
          go_upto_region 36 with fail
          have vI := HFw.out.val i him
          have vK := HFw.out.val k hkm
          obtain ⟨e0, e1, e2, e3⟩ := HFw.out.row.cells him
          obtain ⟨f0, f1, f2, f3⟩ := HFw.out.row.cells hkm
          rw [sw_l] at e0 e1 e2 e3 vI
          rw [sw_l] at vI
          rw [sw_r _ hik] at f0 f1 f2 f3 vK
          rw [sw_r _ hik] at vK
          generalize vecV X k = xc at e0 e1 e2 e3 vI
          obtain ⟨nx, ax, qx, cx, mx, bx, kx, dx⟩ := xc
          generalize vecV X i = yc at f0 f1 f2 f3 vK
          obtain ⟨ny, ay, qy, cy, my, by_, ky, dy⟩ := yc
          dsimp only [RatC.val] at e0 e1 e2 e3 f0 f1 f2 f3 vI vK
          have VX := Lib.hid vI
          have VY := Lib.hid vK
          have hx : Ext w wr := HXC.out.trans HXR.out
          clear vI vK hKN hrow hown h3z
          go_cut [29, 30] (fun s1 s2 wx => ∃ (p : Nat) (nd : Bool) (ad : Option Addr) (qd cd : Nat) (bd : Option Addr) (kd dd : Nat), s1 = .pointer (some ⟨p, 0, none⟩) ∧ s2 = .int .i64 0 ∧ Blk wx p #[.bool nd, .slice ad qd cd, .bool false, .slice bd kd dd] 38 ∧ RatV wx (.agg #[.bool nd, .slice ad qd cd, .bool false, .slice bd kd dd]) (vecF X k + vecF X i) ∧ ((∀ A', ad = some A' → wr.heap.size ≤ A'.block) ∧ ∀ A', bd = some A' → wr.heap.size ≤ A'.block) ∧ wr.heap.size ≤ p ∧ Ext wr wx)
          case first =>
            rename_i J1 K1 hJ1 hK1
            refine wp_codeQ (c' := ((Try.f3.body.bind (findReg 36)).getD .skip)) (by kernel_rfl) ?_
            apply turned_r36 (g := 0) (cg := 0) i0 i1 k0 k1 hik e0 e1 e2 e3 f0 f1 f2 f3 VX VY (Lib.hid (HZX.out k hkm)) (Lib.hid (HZX.out i him))
            intros
            rename_i pd nd ad qd cd bd kd dd w' hkd hvd hfd hpd hyy
            refine hK1 _ _ ?_
            go_meet
            exact ⟨pd, nd, ad, qd, cd, bd, kd, dd, rfl, rfl, hkd, hvd, hfd, hpd, hyy⟩
          case rest =>
          obtain ⟨pd, nd, ad, qd, cd, bd, kd, dd, rfl, rfl, hkd, hvd, hfd, hpd, hyy⟩ := hcut
          rename_i K9 hK9
          refine hK9 _ _ ?_
          refine wp_codeQ (c' := ((Try.f3.body.bind (tailAt 37)).getD .skip)) (by kernel_rfl) ?_
          apply turned_t37 HRR HVR HSM HZ HRQ m0 d1 d2 him hkm i0 i1 k0 k1 hik hcg hcm hcg2 hcm2 hne hgB hg23 hww HOF HR0 HX0 HEY HXR HZX hg5 hg25 HCI HRw HFw HROW HOWN HKOF HKL rwle rwmx hkd hvd hfd hpd hyy
end Go.Proofs.Ytokffagbdfhnnaa

namespace Go.Proofs.Ytokffagbdfhnnaa
open Go.RowKit Go BigFrame Go.Shelf
set_option maxRecDepth 100000
set_option linter.unusedSimpArgs false
set_option linter.unusedVariables false
attribute [local go_sem] Oper.semAt_some

/-! MatrixTurned. -/
set_option maxHeartbeats 32000000 in
theorem law11_MatrixTurned (a : Option Addr) (cap : Nat) (A : List (List RatA)) (s : Option Addr) (sc : Nat) (X : List RatA) (n0 n1 : Int) (w : World) (h : RRows w a cap A) (k : RatsI w s sc X) (hn0 : 0 ≤ n0 ∧ n0 ≤ 255) (hn1 : 0 ≤ n1 ∧ n1 ≤ 255) :
    Calls Try.prog 3 #[.slice a A.length cap, .slice s X.length sc, .int .u8 n0, .int .u8 n1] w fun e w' => e = .returned (.bool true) ∧ Ext w w' := by
  have hle := h.le
  have hmx := h.mx
  have sle := k.le
  have smx := k.mx
  have HH := Lib.hid h
  have HK := Lib.hid k
  have HN01 := Lib.hid (And.intro hn0 hn1)
  clear h k hn0 hn1
  go_enter Try.func3, Try.ntmps3
  go_wp2_with fail
  refine (law11_sane _).mono ?_
  rintro e x1 ⟨rfl, hy⟩
  have HX := Lib.hid hy
  clear hy
  go_wp2_with fail
  refine (few_Mat a cap A _ (RRows.ext HX.out HH.out)).mono ?_
  rintro e x2 ⟨rfl, hy⟩
  replace HX := Lib.hid (HX.out.trans hy)
  clear hy
  cases hfa : fewA A with
  | false =>
    go_wp2_with fail
    go_ret
    exact ⟨rfl, HX.out⟩
  | true =>
  go_wp2_with fail
  refine (few_List s sc X _ (HK.out.ext HX.out)).mono ?_
  rintro e x3 ⟨rfl, hy⟩
  replace HX := Lib.hid (HX.out.trans hy)
  clear hy
  cases hfl : fewL X with
  | false =>
    go_wp2_with fail
    go_ret
    exact ⟨rfl, HX.out⟩
  | true =>
  have HL := Lib.hid (fewL_len hfl)
  have HFA := Lib.hid hfa
  clear hfa hfl
  go_wp2_with fail
  refine (ref_Check11 a cap A _ (RRows.ext HX.out HH.out)).mono ?_
  rintro e x4 ⟨rfl, hy⟩
  replace HX := Lib.hid (HX.out.trans hy)
  clear hy
  by_cases hc : chkE A = 0
  case neg =>
    have g1 : (chkE A != 0) = true := by simp [hc]
    clear hc
    go_wp2_with fail
    go_ret
    exact ⟨rfl, HX.out⟩
  have HD := Lib.hid (few_dim HFA.out hc)
  have HC := Lib.hid hc
  rw [hc]
  clear hc
  by_cases hA0 : A.length = 0
  case pos =>
    have g1 : ((A.length : Int) == 0) = true := by simp [hA0]
    go_wp2_with fail
    go_ret
    exact ⟨rfl, HX.out⟩
  have g1 : ((A.length : Int) == 0) = false := by rw [beq_eq_false_iff_ne]; omega
  by_cases hX : X.length = A.length
  case neg =>
    have g2 : ((X.length : Int) != (A.length : Int)) = true := by simp; omega
    go_wp2_with fail
    go_ret
    exact ⟨rfl, HX.out⟩
  have g2 : ((X.length : Int) != (A.length : Int)) = false := by simp [hX]
  have HXL := Lib.hid hX
  rw [hX] at g2 sle
  rw [hX]
  clear hX
  have d1 := HD.out.1
  have d2 := HD.out.2
  have HMR : Hid (∀ W, Ext w W → MatR W a cap A.length (widA A) (vxA A) (mxA A)) := Lib.hid fun W k => chk_read HC.out (RRows.ext k HH.out)
  have HSM := Lib.hid (mx_sz HC.out)
  have HSL : Hid (∀ r, r < A.length → ∀ c, c < widA A → (mxA A r c).num.natAbs < 2 ^ 60 ∧ (mxA A r c).den < 2 ^ 30) := Lib.hid fun r hr c hc2 => err_valA (chk_mat HC.out hr hc2).2
  have m0 : 0 < A.length := by omega
  have m0' : (0 : Int) < (A.length : Int) := by omega
  obtain ⟨ba, oa, rfl⟩ := HH.out.head m0
  obtain ⟨_, ar0, cr0, hc00, hr00⟩ := (HMR.out w (Ext.refl _)).cells _ rfl 0 m0
  simp only [Nat.add_zero] at hc00
  have HC0 : Hid (∀ W, Ext w W → World.cell? W ⟨ba, oa, none⟩ = some (.slice ar0 (widA A) cr0)) := Lib.hid fun W k => cell_exQ k hc00
  have r0le := hr00.le
  have r0mx := hr00.mx
  clear hc00 hr00
  go_wp2_with fail
  clear g1 g2
  generalize hx4 : x4 = x0 at *
  clear hx4
  go_loopw [9, 10] (fun s9 v wr => ∃ q : Nat, q ≤ widA A ∧ v = .int .i64 q ∧ ∃ g cp V M, RowsO wr x0.heap.size q A.length s9 g cp V M ∧ (∀ r, r < q → ∀ c, c < A.length → M r c = mxA A c r) ∧ Ext x0 wr) (fun _ v _ => widA A - (intOf v).toNat)
  case atStart => exact ⟨0, Nat.zero_le _, rfl, fun _ => 0, fun _ => 0, fun _ _ => ⟨false, none, 0, 0, false, none, 0, 0⟩, fun _ _ => 0, RowsO.nil _ _ _ _ _ _ _, fun r hr => by omega, Ext.refl _⟩
  case round =>
    obtain ⟨q, hq, rfl, g, cp, V, M, hro, hmq, hxr⟩ := hrel
    have q0 : (0 : Int) ≤ (q : Int) := by omega
    obtain ⟨av, cv, rfl⟩ := row_form hro.own
    have HRO := Lib.hid hro
    have HMQ := Lib.hid hmq
    have HE := Lib.hid hxr
    have hc0 := HC0.out wr (HX.out.trans hxr)
    clear hro hmq hxr
    by_cases hqN : q < widA A
    · have q1 : (q : Int) < (widA A : Int) := by omega
      have hw1 : IntKind.i64.wrap ((q : Int) + 1) = (q : Int) + 1 := IntWalk.i64_in _ (by omega)
      go_wp2_with fail
      refine (ref_ColumnQ _ cap A.length (widA A) (vxA A) (mxA A) q wr (HMR.out wr (HX.out.trans HE.out)) hqN (by omega) (by omega)).mono ?_
      rintro e y1 ⟨v, K, rfl, hO, hKV, hy⟩
      replace HRO := Lib.hid (HRO.out.ext hy)
      have hlt := World.ownsRow.lt HRO.out.own
      have hoff : ∀ x ∈ K, x.Off (Value.slice av q cv).ownBlock := fun x hx => by
        obtain ⟨c, hc, rfl⟩ := hKV x hx
        exact old_off ((HMR.out x0 HX.out).val hc hqN) (fun g' e => (hlt _ e).1)
      have hKl : K.length = A.length := by have := hO.len; rwa [List.length_map, List.length_range] at this
      obtain ⟨gq, cq, rfl, hcq, hrb, hrv, hrof⟩ := hO.rowN hKl m0 hoff
      replace HE := Lib.hid (HE.out.trans hy)
      have hya := Ext.alloc y1 (.cells #[.slice (some ⟨gq, 0, none⟩) A.length cq] 23)
      have HK3 := Lib.hid (Blk.new0 y1 #[.slice (some ⟨gq, 0, none⟩) A.length cq] 23)
      have HE3 := Lib.hid (HE.out.trans hya)
      have HRO3 := Lib.hid (HRO.out.ext hya)
      have HRB := Lib.hid (hrb.ext hya)
      have HRV := Lib.hid (fun (c : Nat) (hc : c < A.length) => RatV.ext (hrv c hc) hya)
      have HROF := Lib.hid hrof
      have HCQ := Lib.hid hcq
      have hcq1 := hcq.1
      have hcq2 := hcq.2
      clear hya hrb hrv hrof hcq hoff hKl hlt hO hKV hy HRO hc0
      go_wp2_with (at_builtin; (refine wpl_append_row rfl (.tmp 71) (.tmp 75) 22 23 rfl (z := .slice none 0 0) (k := 1) (by_ := 24) Try.underlying22 infoRowU rfl (by decide) (B := x0.heap.size) HE3.out.size rfl HRO3.out.own rfl (fun e => by cases e) (news := [.slice (some ⟨gq, 0, none⟩) A.length cq]) rfl (fun A' hA j u hu => by cases hA; exact one_news HK3.out hu) (fun u hu => by rw [List.mem_singleton.1 hu]; rfl) (by omega) (by omega) ?_; intro v9 x9 ho hg hnl hat; obtain ⟨a9, c9, rfl⟩ := row_form ho; have HR9 := Lib.hid (HRO3.out.push ho hg hat HRB.out HRV.out HROF.out HCQ.out); have HE9 : Hid (Ext x0 x9) := Lib.hid (Below.grown HE3.out hg HE3.out.size (fun r e => (World.ownsRow.lt HRO3.out.own r e).1)); clear ho hg hnl hat))
      go_roundw
      case rel => exact ⟨q + 1, by omega, by go_num, _, _, _, _, HR9.out, fun r hr c hc => (by
        by_cases e : r = q
        · rw [if_pos e, e, List.getD_eq_getElem?_getD, List.getElem?_map, List.getElem?_range hc]; rfl
        · rw [if_neg e]; exact HMQ.out r (by omega) c hc), HE9.out⟩
      case measure => simp [intOf]; omega
    · have q1 : ¬ (q : Int) < (widA A : Int) := by omega
      obtain rfl : q = widA A := by omega
      obtain ⟨at_, ct_, e9, hmt⟩ := HRO.out.mat
      simp only [Value.slice.injEq] at e9
      obtain ⟨rfl, _, rfl⟩ := e9
      obtain ⟨TT, hTl, hTr, hTL, hTn⟩ := hmt.raw (fun r hr c hc => by rw [HMQ.out r hr c hc]; exact len60 (HSL.out c hc r hr))
      have hTn2 : ∀ r, r < widA A → ∀ c, c < A.length → NumA ((TT.getD r []).getD c noA) (mxA A c r) := fun r hr c hc => by rw [← HMQ.out r hr c hc]; exact hTn r hr c hc
      obtain ⟨t1, t2, t3, t4, t5⟩ := rank_T HC.out hTl hTL hTn2 d1 d2
      have HRT : Hid (∀ W, Ext wr W → Calls Try.prog 11 #[.slice av (widA A) cv] W fun e w' => e = .returned (.tuple #[.int .i64 (rankA A), .int .i64 0]) ∧ Ext W w') := Lib.hid fun W k => by
        have := matrix_Rank av cv TT W (RRows.ext k hTr) (fun _ => t3)
        rwa [hTl, t1, t2] at this
      have g4 : ¬ rankA A > (A.length : Int) := by omega
      have g5 : ¬ rankA A > (widA A : Int) := by omega
      have tvle := hmt.le
      have tvmx := hmt.mx
      clear hmt hTl hTr hTL hTn hTn2 t1 t2 t3 t4 t5 HRO HMQ
      have HRA : Hid (Calls Try.prog 11 #[.slice (some ⟨ba, oa, none⟩) A.length cap] wr fun e w' => e = .returned (.tuple #[.int .i64 (rankA A), .int .i64 0]) ∧ Ext wr w') := Lib.hid (by
        have := matrix_Rank _ cap A wr (RRows.ext (HX.out.trans HE.out) HH.out) (fun _ => few_X d1 d2)
        rwa [HC.out] at this)
      generalize hRk : rankA A = Rk at *
      have HRQ := Lib.hid hRk
      clear hRk
      go_wp2_with fail
      refine HRA.out.mono ?_
      rintro e y1 ⟨rfl, hy⟩
      have HE1 := Lib.hid hy
      clear hy HRA hc0
      go_wp2_with fail
      refine (HRT.out y1 HE1.out).mono ?_
      rintro e y2 ⟨rfl, hy⟩
      replace HX := Lib.hid (((HX.out.trans HE.out).trans HE1.out).trans hy)
      clear hy HRT HE1 HE
      have hc0 := HC0.out y2 HX.out
      have g6 : (Rk != Rk) = false := by simp
      have HSO : Hid (Calls Try.prog 12 #[.slice (some ⟨ba, oa, none⟩) A.length cap, .slice s A.length sc] y2 (SolveP A X y2)) := Lib.hid (by
        have := matrix_Solve _ cap A s sc X y2 (RRows.ext HX.out HH.out) (HK.out.ext HX.out) HL.out (fun _ => few_S d1 d2)
        rwa [HXL.out] at this)
      go_wp2_with fail
      refine HSO.out.mono ?_
      rintro e y3 ⟨b1, cb1, V1, rfl, hr1, hy⟩
      replace HX := Lib.hid (HX.out.trans hy)
      clear hy HSO hc0 g4 g5 g6
      by_cases hz : vecE A X A.length = 0
      case neg =>
        have s1 : solOk A X = false := by unfold solOk; rw [decide_eq_false hz]; rfl
        have n9 : solN A X = 0 := by unfold solN; rw [s1]; rfl
        have g7 : (vecE A X A.length != 0) = true := by simp [hz]
        rw [n9, s1]
        clear hr1 hz s1 n9
        go_wp2_with fail
        go_ret
        exact ⟨rfl, HX.out⟩
      have HZ := Lib.hid hz
      have HR1 := Lib.hid hr1
      rw [hz]
      clear hr1 hz
      go_upto_region 19 with fail
      obtain ⟨z0, hz0⟩ : ∃ z : Nat, n0 = (z : Int) := ⟨n0.toNat, by have := HN01.out.1; omega⟩
      obtain ⟨z1, hz1⟩ : ∃ z : Nat, n1 = (z : Int) := ⟨n1.toNat, by have := HN01.out.2; omega⟩
      rw [mod_at hz0 (by have := HN01.out.1; omega), mod_at hz1 (by have := HN01.out.2; omega)]
      have him : z0 % A.length < A.length := Nat.mod_lt _ m0
      have hkm : z1 % A.length < A.length := Nat.mod_lt _ m0
      clear hz0 hz1
      generalize z0 % A.length = i at *
      generalize z1 % A.length = k at *
      have i0 : (0 : Int) ≤ (i : Int) := by omega
      have k0 : (0 : Int) ≤ (k : Int) := by omega
      have i1 : (i : Int) < (A.length : Int) := by omega
      have k1 : (k : Int) < (A.length : Int) := by omega
      by_cases hik : i = k
      case pos =>
        have g1 : ((i : Int) == (k : Int)) = true := by simp [hik]
        clear HR1
        go_wp2_with fail
        go_ret
        exact ⟨rfl, HX.out⟩
      have g1 : ((i : Int) == (k : Int)) = false := by rw [beq_eq_false_iff_ne]; omega
      have g1' : (i == k) = false := by rw [beq_eq_false_iff_ne]; exact hik
      obtain ⟨rr, hrr⟩ : ∃ rr : Nat → Option Addr × Nat, ∀ r, r < A.length → ∀ W, Ext w W → World.cell? W ⟨ba, oa + r, none⟩ = some (.slice (rr r).1 (widA A) (rr r).2) ∧ RowR W (rr r).1 (rr r).2 (widA A) (vxA A r) (mxA A r) := by
        have one : ∀ r, ∃ p : Option Addr × Nat, r < A.length → ∀ W, Ext w W → World.cell? W ⟨ba, oa + r, none⟩ = some (.slice p.1 (widA A) p.2) ∧ RowR W p.1 p.2 (widA A) (vxA A r) (mxA A r) := fun r => by
          by_cases hr : r < A.length
          · obtain ⟨_, a', c', h1, h2⟩ := (HMR.out w (Ext.refl _)).cells _ rfl r hr
            exact ⟨(a', c'), fun _ W kk => ⟨cell_exQ kk h1, h2.ext kk⟩⟩
          · exact ⟨(none, 0), fun e => absurd e hr⟩
        obtain ⟨f, hf⟩ := Classical.axiomOfChoice one
        exact ⟨f, hf⟩
      have HRR := Lib.hid hrr
      have h3 := vecE_0 HZ.out
      have HRX : Hid (∀ W, Ext w W → RowR W s sc A.length (vecV X) (vecF X)) := Lib.hid fun W kk => by have := els_read h3.2.2 (HK.out.ext kk); rwa [HXL.out] at this
      have HSX : Hid (∀ r, r < A.length → (vecF X r).num.natAbs < 2 ^ 60 ∧ (vecF X r).den < 2 ^ 30) := Lib.hid fun r hr => err_valA (els_mem h3.2.2 (by rw [HXL.out]; exact hr))
      obtain ⟨bs, os, rfl⟩ := (HRX.out w (Ext.refl _)).head m0
      clear hrr h3
      generalize hval : (fun r => Value.slice (rr r).1 (widA A) (rr r).2) = val
      have hya := Ext.alloc y3 (.cells #[] 23)
      have K0 := Lib.hid (Blk.new0 y3 #[] 23)
      have HXa := Lib.hid hya
      clear hya
      go_upto_region 22 with (at_builtin; go_loud (refine wpl_append_row rfl (.tmp 137) (.tmp 138) 22 23 rfl (z := .slice none 0 0) (k := 1) (by_ := 24) Try.underlying22 infoRowU rfl (by decide) (B := y3.heap.size) HXa.out.size rfl (ownEmpty K0.out (Nat.le_refl _)) rfl (fun e => by cases e) (news := (List.range A.length).map val) (by simp) (rows_news (W := y3.alloc (.cells #[] 23)) (fun r hr => by rw [← hval]; exact (HRR.out r hr _ (HX.out.trans HXa.out)).1)) (fun u hu => by obtain ⟨r, _, rfl⟩ := List.mem_map.1 hu; rw [← hval]; rfl) (by omega) (by omega) ?_; intro v7 x7 ho hg hnl hat; obtain ⟨g, cg, rfl, hgB, hcg, hcm⟩ := own_row_form ho hnl; have HRB := Lib.hid (rowsB_of_own (m := A.length) (val := val) ho (fun r hr => by rw [List.nil_append, List.getElem?_map, List.getElem?_range hr]; rfl)); have HE7 : Hid (Ext y3 x7) := Lib.hid (Below.grown HXa.out hg HXa.out.size (fun r e => by cases e; exact Nat.le_refl _)); have hya := Ext.alloc x7 (.cells #[] 38); have K2 := Lib.hid (Blk.new0 x7 #[] 38); have HXb := Lib.hid (HE7.out.trans hya); have HRB2 := Lib.hid (HRB.out.ext hya); have h7s := HE7.out.size; clear ho hg hnl hat hya))
      go_upto_region 23 with (at_builtin; go_loud (refine wpl_append_row rfl (.tmp 140) (.tmp 141) 23 38 rfl (z := .agg #[.bool false, .slice none 0 0, .bool false, .slice none 0 0]) (k := 4) (by_ := 64) Try.underlying23 infoRatU rfl (by decide) (B := x7.heap.size) (by have := K2.out.lt; omega) rfl (ownEmpty K2.out (Nat.le_refl _)) rfl (fun e => by cases e) (newsU_len A.length (vecV X)) (fun A' hA => by cases hA; exact (HRX.out _ (HX.out.trans HXb.out)).news) (newsU_one A.length (vecV X)) (by omega) (by omega) ?_; intro v8 x8 ho hg hnl hat; obtain ⟨g2, cg2, rfl, hg2B, hcg2, hcm2⟩ := own_row_form ho hnl; have HFB := Lib.hid (rowB_of_own ho); have HE8 : Hid (Ext y3 x8) := Lib.hid (Below.grown HXb.out hg HXb.out.size (fun r e => by cases e; exact h7s)); have HRB3 := Lib.hid (HRB2.out.grown hg (fun e => by have h1 := HRB.out.lt; have e2 : x7.heap.size = g := Option.some.inj e; omega)); clear ho hg hnl hat))
      have hgl := HRB.out.lt
      have hx7 := HE8.out.size
      have hww := HX.out.size
      have hne : g ≠ g2 := by omega
      have HOF : Hid (∀ o : Nat, w.heap.size ≤ o → ∀ c, c < A.length → (vecV X c).Off (some o)) := Lib.hid fun o ho c hc => old_off ((HRX.out w (Ext.refl _)).val c hc) (fun g' e => by cases e; exact ho)
      have HF8 : Hid (Fill x8 g2 A.length (vecV X) (vecF X)) := Lib.hid ⟨HFB.out, (HRX.out x8 (HX.out.trans HE8.out)).val, HOF.out g2 (by omega)⟩
      have hvr : ∀ r, val r = .slice (rr r).1 (widA A) (rr r).2 := fun r => by rw [← hval]
      have HVR := Lib.hid hvr
      clear K0 HXa HXb K2 HRB HRB2 HE7 HFB hval g1 g1'
      go_cut [] (fun wx => RowsB wx g A.length (sw val i k) ∧ Fill wx g2 A.length (vecV X) (vecF X) ∧ Ext y3 wx)
      case first =>
        rename_i J1 K1 hJ1 hK1
        have hyd : Ext x8 (World.drew x8) := (Ext.refl _).drew
        have HRBd := Lib.hid (HRB3.out.ext hyd)
        have HFd := Lib.hid (HF8.out.ext hyd)
        have HEd := Lib.hid (HE8.out.trans hyd)
        have HS := Lib.hid (HRBd.out.swap him hkm hik)
        have HF9 := Lib.hid ((HFd.out.other (grownSet _ g i (val k)) hne (HOF.out g (by omega))).other (grownSet _ g k (val i)) hne (HOF.out g (by omega)))
        have HE9 : Hid (Ext y3 (((World.drew x8).setCell ⟨g, i, none⟩ (val k)).setCell ⟨g, k, none⟩ (val i))) := Lib.hid ((HEd.out.set (p := ⟨g, i, none⟩) (by dsimp only; omega) (val k)).set (p := ⟨g, k, none⟩) (by dsimp only; omega) (val i))
        rw [hvr k, hvr i] at HS HF9 HE9
        clear HRBd HFd HEd hyd
        refine wp_codeQ (c' := ((Try.f3.body.bind (findReg 23)).getD .skip)) (by kernel_rfl) ?_
        apply turned_r23 (g2 := 0) (cg2 := 0) i0 i1 k0 k1 hik HRB3 (Ext.refl _) (hvr i) (hvr k)
        intros
        refine hK1 _ _ ?_
        go_meet
        exact ⟨HS.out, HF9.out, HE9.out⟩
      case rest =>
      obtain ⟨hrb, hfb, hey⟩ := hcut
      have HRB3 := Lib.hid hrb
      have HF8 := Lib.hid hfb
      have HE8 := Lib.hid hey
      clear hrb hfb hey
      go_upto_region 24 with fail
      go_cut [] (fun wx => RowsB wx g A.length (sw val i k) ∧ Fill wx g2 A.length (sw (vecV X) i k) (sw (vecF X) i k) ∧ Ext y3 wx)
      case first =>
        rename_i J1 K1 hJ1 hK1
        have hyd : Ext wc (World.drew wc) := (Ext.refl _).drew
        have HRBd := Lib.hid (HRB3.out.ext hyd)
        have HFA := Lib.hid (HF8.out.ext hyd)
        have HEd := Lib.hid (HE8.out.trans hyd)
        have HFW := Lib.hid (HFA.out.swap him hkm hik)
        obtain ⟨xK, exK⟩ : ∃ x, vecV X k = x := ⟨_, rfl⟩
        obtain ⟨xI, exI⟩ : ∃ x, vecV X i = x := ⟨_, rfl⟩
        obtain ⟨nK, aK, qK, cK, mK, bK, kK, dK⟩ := xK
        obtain ⟨nI, aI, qI, cI, mI, bI, kI, dI⟩ := xI
        rw [exK, exI] at HFW
        have HRW : Hid (RowsB (set4U (set4U (World.drew wc) g2 i ⟨nK, aK, qK, cK, mK, bK, kK, dK⟩) g2 k ⟨nI, aI, qI, cI, mI, bI, kI, dI⟩) g A.length (sw val i k)) := Lib.hid ((HRBd.out.grown (grown4 _ g2 i ⟨nK, aK, qK, cK, mK, bK, kK, dK⟩) (fun e => hne (Option.some.inj e).symm)).grown (grown4 _ g2 k ⟨nI, aI, qI, cI, mI, bI, kI, dI⟩) (fun e => hne (Option.some.inj e).symm))
        have h8s := HEd.out.size
        have HEW : Hid (Ext y3 (set4U (set4U (World.drew wc) g2 i ⟨nK, aK, qK, cK, mK, bK, kK, dK⟩) g2 k ⟨nI, aI, qI, cI, mI, bI, kI, dI⟩)) := Lib.hid (by
          have h1 : Ext y3 (set4U (World.drew wc) g2 i ⟨nK, aK, qK, cK, mK, bK, kK, dK⟩) := Below.grown HEd.out (grown4 _ g2 i ⟨nK, aK, qK, cK, mK, bK, kK, dK⟩) HEd.out.size (fun r e => by cases e; omega)
          exact Below.grown h1 (grown4 _ g2 k ⟨nI, aI, qI, cI, mI, bI, kI, dI⟩) h1.size (fun r e => by cases e; omega))
        clear HRBd HFA HEd hyd
        refine wp_codeQ (c' := ((Try.f3.body.bind (findReg 24)).getD .skip)) (by kernel_rfl) ?_
        apply turned_r24 (g := 0) (cg := 0) i0 i1 k0 k1 hik (Lib.hid HF8.out.row) (Ext.refl _) exI exK
        intros
        refine hK1 _ _ ?_
        go_meet
        exact ⟨HRW.out, HFW.out, HEW.out⟩
      case rest =>
      obtain ⟨hrb, hfb, hey⟩ := hcut
      have hg23 : y3.heap.size ≤ g2 := by omega
      rename_i K9 hK9
      refine hK9 _ _ ?_
      refine wp_codeQ (c' := ((Try.f3.body.bind (tailAt 25)).getD .skip)) (by kernel_rfl) ?_
      apply turned_t25 HRR HVR HSM HZ HRQ m0 d1 d2 him hkm i0 i1 k0 k1 hik hcg hcm hcg2 hcm2 hne hgB hg23 hww HOF HR1 HX HXL HSL HSX hrb hfb hey
end Go.Proofs.Ytokffagbdfhnnaa

