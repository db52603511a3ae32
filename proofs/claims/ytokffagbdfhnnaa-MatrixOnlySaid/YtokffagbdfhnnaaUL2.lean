import Derived.Test.YtokffagbdfhnnaaUP
import Derived.Test.YtokffagbdfhnnaaUS
import Derived.OwnWalk
import Derived.Below
import Derived.Deep.QuietTactic
import Derived.Deep.Cut
namespace Go.Proofs.Ytokffagbdfhnnaa
open Go.RowKit Go BigFrame Go.Shelf
set_option maxRecDepth 100000
set_option linter.unusedSimpArgs false
set_option linter.unusedVariables false
attribute [local go_sem] Oper.semAt_some

/-! Layer 11: the first columns of a matrix. -/
theorem IsRats.ext {w w' : World} {v : Value} {L : List RatA} (h : IsRats w v L) (k : Ext w w') : IsRats w' v L := by
  obtain ⟨a, c, e, r⟩ := h
  exact ⟨a, c, e, r.ext k⟩
theorem rats_pre {w : World} {a : Option Addr} {cap : Nat} {L : List RatA} (h : RatsI w a cap L) {k : Nat} (hk : k ≤ L.length) : RatsI w a cap (L.take k) :=
  ⟨by rw [List.length_take]; have := h.le; omega, h.mx, h.nil, fun A hA i hi => by
    have hi' : i < L.length := by rw [List.length_take] at hi; omega
    have := h.cells A hA i hi'
    rw [List.getElem_take]
    exact this, fun i hi => by
    have hi' : i < L.length := by rw [List.length_take] at hi; omega
    rw [List.getElem_take]
    exact h.ints i hi'⟩
theorem rats_to {a : Option Addr} {cap n k : Nat} {L : List RatA} {w : World} (h : RatsI w a cap L) (hn : L.length = n) (hk : k ≤ n) :
    ∃ ad, (∀ W : World, (Instr.slice 23 (.slice a n cap) none (some (.int .i64 k)) none).run Try.prog W = .ok (.slice ad k cap) W) ∧ RatsI w ad cap (L.take k) := by
  subst hn
  have hle := h.le
  have hmx := h.mx
  refine ⟨if cap = 0 then a else a.map (·.add (0 * 4)), fun W => ?_, ?_⟩
  · have hu22 : Try.prog.underlying 23 = some (.slice (Try.prog.elem 23)) := by kernel_rfl
    have hc4 : Try.prog.cellsOf (Try.prog.elem 23) = 4 := by kernel_rfl
    have h2 : (0 : Int) ≤ (k : Int) := by omega
    have h3 : (k : Int) ≤ (cap : Int) := by omega
    rw [run_slice_h (ht := hu22) (h0 := h2) (h2 := h3)]
    simp [go_sem, hc4]
  · have hp := rats_pre h hk
    by_cases hc : cap = 0
    · rw [if_pos hc]; exact hp
    · rw [if_neg hc]
      cases a with
      | none => exact absurd (h.nil rfl) hc
      | some A =>
        by_cases h0 : 0 < (L.take k).length
        · have hs := (hp.cells A rfl 0 h0).1
          have e : (some A).map (·.add (0 * 4)) = some A := by
            obtain ⟨b, o, s⟩ := A
            dsimp only at hs
            subst hs
            simp [Addr.add]
          rw [e]; exact hp
        · have e : L.take k = [] := List.eq_nil_of_length_eq_zero (by omega)
          rw [e]
          exact ⟨by simp, hmx, fun h => by simp at h, fun A hA i hi => absurd hi (by simp), fun i hi => absurd hi (by simp)⟩
/-- An own slice whose elements are rows that lay in w0. -/
structure OldRows (w0 w : World) (B : Nat) (v : Value) (A : List (List RatA)) : Prop where
  ex : ∃ vs, w.ownsRow B 23 1 v A.length vs ∧ ∀ i (h : i < A.length), ∃ x, vs[i]? = some x ∧ IsRats w0 x A[i]
section
variable {w0 w w' : World} {B : Nat} {v v' : Value} {A : List (List RatA)}
theorem OldRows.nil (w0 w : World) (B : Nat) : OldRows w0 w B (.slice none 0 0) [] := ⟨[], World.ownsRow_nil _ _ _ _, fun i h => absurd h (by simp)⟩
theorem OldRows.ext (h : OldRows w0 w B v A) (k : Ext w w') : OldRows w0 w' B v A := by
  obtain ⟨vs, ho, hx⟩ := h.ex
  exact ⟨vs, ownsRow_ext ho k, hx⟩
theorem OldRows.form (h : OldRows w0 w B v A) : ∃ a cap, v = .slice a A.length cap := by
  obtain ⟨vs, ho, _⟩ := h.ex
  exact row_form ho
theorem OldRows.read (h : OldRows w0 w B v A) (k : Ext w0 w) : ∃ a cap, v = .slice a A.length cap ∧ RRows w a cap A := by
  obtain ⟨vs, ho, hx⟩ := h.ex
  rcases ho.2 with ⟨rfl, h0⟩ | ⟨g, cap, cur, rfl, _, _, h1, h2, _⟩
  · have : A = [] := List.eq_nil_of_length_eq_zero h0
    subst this
    exact ⟨none, 0, rfl, mat_nil w⟩
  · refine ⟨_, cap, rfl, ⟨h1, by unfold maxLen at h2; omega, by simp, fun A' hA i hi => ?_⟩⟩
    cases hA
    obtain ⟨x, e, hr⟩ := hx i hi
    have := World.ownsRow.cellAt ho i (by omega)
    rw [e] at this
    exact ⟨rfl, x, by simpa using this, hr.ext k⟩
end
theorem old_snoc {A : List (List RatA)} {vs : List Value} {w0 : World} {x : Value} {L : List RatA} (hvl : vs.length = A.length) (hx : ∀ i (h : i < A.length), ∃ x, vs[i]? = some x ∧ IsRats w0 x A[i]) (hn : IsRats w0 x L) :
    ∀ i (h : i < (A ++ [L]).length), ∃ y, (vs ++ [x])[i]? = some y ∧ IsRats w0 y (A ++ [L])[i] := fun i hi => by
  rw [List.length_append, List.length_singleton] at hi
  by_cases hk : i < A.length
  · obtain ⟨u, e, h1⟩ := hx i hk
    refine ⟨u, by rw [List.getElem?_append_left (by omega)]; exact e, ?_⟩
    rw [List.getElem_append_left hk]
    exact h1
  · have hi' : i = A.length := by omega
    subst hi'
    refine ⟨x, by rw [← hvl]; simp, ?_⟩
    rw [List.getElem_append_right (Nat.le_refl _)]
    simp only [Nat.sub_self, List.getElem_singleton]
    exact hn
def FirstP (A : List (List RatA)) (k : Nat) (w : World) (e : Ending) (w' : World) : Prop := ∃ a cap, e = .returned (.slice a A.length cap) ∧ RRows w' a cap (A.map fun L => L.take k) ∧ Ext w w'
set_option maxHeartbeats 4000000 in
theorem law11_first (a : Option Addr) (cap : Nat) (A : List (List RatA)) (k N : Nat) (w : World) (h : RRows w a cap A) (hN : ∀ L ∈ A, L.length = N) (hk : k ≤ N) (hA : A.length ≤ 1000) (hN2 : N ≤ 1000) :
    Calls Try.prog 20 #[.slice a A.length cap, .int .i64 k] w (FirstP A k w) := by
  have hle := h.le
  have hmx := h.mx
  have HH := Lib.hid h
  have HNN := Lib.hid hN
  clear h hN
  go_enter Try.func20, Try.ntmps20
  go_wp2_with fail
  go_loopw [4, 5] (fun s4 v wr => ∃ i : Nat, i ≤ A.length ∧ v = .int .i64 i ∧ OldRows w wr w.heap.size s4 ((A.take i).map fun L => L.take k) ∧ Ext w wr) (fun _ v _ => A.length - (intOf v).toNat)
  case atStart => exact ⟨0, Nat.zero_le _, rfl, OldRows.nil _ _ _, Ext.refl _⟩
  case round =>
    obtain ⟨i, hi, rfl, hO, hx⟩ := hrel
    have i0 : (0 : Int) ≤ (i : Int) := by omega
    have hlen : ((A.take i).map fun L => L.take k).length = i := by rw [List.length_map, List.length_take]; omega
    obtain ⟨va, vc, rfl⟩ := hO.form
    rw [hlen]
    have HL := Lib.hid hlen
    have HO := Lib.hid hO
    clear hO hlen
    by_cases him : i < A.length
    · have i1 : (i : Int) < (A.length : Int) := by omega
      have hw1 : IntKind.i64.wrap ((i : Int) + 1) = (i : Int) + 1 := IntWalk.i64_in _ (by omega)
      obtain ⟨b, o, rfl⟩ := HH.out.head him
      obtain ⟨L, ar, cr, hLi, c0, hR⟩ := (RRows.ext hx HH.out).get him
      obtain ⟨L', ar', cr', hLi', c0', hR'⟩ := HH.out.get him
      have hsame : L' = L := by rw [hLi'] at hLi; exact Option.some.inj hLi
      subst hsame
      have hc9 := cell_exQ hx c0'
      rw [c0] at hc9
      simp only [Option.some.injEq, Value.slice.injEq, true_and] at hc9
      obtain ⟨rfl, rfl⟩ := hc9
      have hLN : L'.length = N := HNN.out L' (List.mem_of_getElem? hLi)
      obtain ⟨ad, hsl, hR2⟩ := rats_to (k := k) hR' hLN hk
      have rle := hR'.le
      have rmx := hR'.mx
      have HR2 := Lib.hid hR2
      have HLI := Lib.hid hLi
      rw [hLN] at c0
      have hya := Ext.alloc wr (.cells #[.slice ad k cr] 23)
      have HBz := Lib.hid (Blk.new0 wr #[.slice ad k cr] 23)
      have HXa := Lib.hid (hx.trans hya)
      obtain ⟨vs, hvs, hel⟩ := (HO.out.ext hya).ex
      rw [HL.out] at hvs
      have HVS := Lib.hid hvs
      have HTK : Hid (IsRats w (.slice ad k cr) (L'.take k)) := Lib.hid ⟨ad, cr, by rw [List.length_take, hLN, Nat.min_eq_left hk], hR2⟩
      have HSN := Lib.hid (old_snoc (by have := hvs.1; rw [HL.out]; omega) hel HTK.out)
      clear hya hvs hel hx hR hR' hR2 c0' hLi hLi' HO
      go_wp2_with (at_builtin; (refine wpl_append_row rfl (.tmp 12) (.tmp 19) 22 23 rfl (z := .slice none 0 0) (k := 1) (by_ := 24) Try.underlying22 infoRowU rfl (by decide) (B := w.heap.size) HXa.out.size rfl HVS.out rfl (fun e => by cases e) (news := [.slice ad k cr]) rfl (fun A' hA j u hu => by cases hA; exact one_news HBz.out hu) (fun u hu => by rw [List.mem_singleton.1 hu]; rfl) (by omega) (by omega) ?_; intro v9 x9 ho hg hnl hat; obtain ⟨a9, c9, rfl⟩ := row_form ho; have HE9 : Hid (Ext w x9) := Lib.hid (Below.grown HXa.out hg HXa.out.size (fun r e => (World.ownsRow.lt HVS.out r e).1)); have HO9 := Lib.hid ho; clear ho hg hnl hat))
      go_roundw
      case rel => exact ⟨i + 1, by omega, by go_num, (by
        have e9 : (A.take (i + 1)).map (fun L => L.take k) = (A.take i).map (fun L => L.take k) ++ [L'.take k] := by rw [List.take_add_one, HLI.out]; simp
        rw [e9]
        exact ⟨vs ++ [.slice ad k cr], by rw [List.length_append, HL.out]; exact HO9.out, HSN.out⟩), HE9.out⟩
      case measure => simp [intOf]; omega
    · have i1 : ¬ (i : Int) < (A.length : Int) := by omega
      have hie : i = A.length := by omega
      subst hie
      have HP : Hid (FirstP A k w (.returned (.slice va A.length vc)) wr) := Lib.hid (by
        have ho := HO.out
        have e0 : (A.take A.length).map (fun L => L.take k) = A.map fun L => L.take k := by rw [List.take_of_length_le (Nat.le_refl _)]
        rw [e0] at ho
        obtain ⟨a', cap', e, hr⟩ := ho.read hx
        rw [List.length_map] at e
        exact ⟨a', cap', by rw [e], hr, hx⟩)
      clear HO hx HL
      go_wp2_with fail
      go_ret
      exact HP.out
end Go.Proofs.Ytokffagbdfhnnaa

namespace Go.Proofs.Ytokffagbdfhnnaa
open Go.RowKit Go BigFrame Go.Shelf
set_option maxRecDepth 100000
set_option linter.unusedSimpArgs false
set_option linter.unusedVariables false

/-! Layer 11: first columns, raw readings of results, the only solution: plain. -/
theorem rowsE_all : ∀ {A : List (List RatA)}, (∀ L ∈ A, elsE L = 0) → rowsE A = 0
  | [], _ => rfl
  | L :: A, h => by unfold rowsE; rw [if_pos (h L (by simp))]; exact rowsE_all fun M hM => h M (by simp [hM])
theorem elsE_all : ∀ {L : List RatA}, (∀ x ∈ L, errX x = 0) → elsE L = 0
  | [], _ => rfl
  | x :: L, h => by unfold elsE; rw [if_pos (h x (by simp))]; exact elsE_all fun y hy => h y (by simp [hy])
theorem chkE_of {A : List (List RatA)} {N : Nat} (h1 : A.length ≤ 17) (h2 : N ≤ 17) (h3 : ∀ L ∈ A, L.length = N) (h4 : ∀ L ∈ A, ∀ x ∈ L, errX x = 0) : chkE A = 0 := by
  rw [chkE_rows h1 (fun L hL => by have := h3 L hL; omega) (fun L hL => by
    cases A with
    | nil => cases hL
    | cons K A => rw [h3 L hL]; exact (h3 K (by simp)).symm)]
  exact rowsE_all fun L hL => elsE_all (h4 L hL)
section
variable {A : List (List RatA)} {k : Nat}
theorem chk_pre (hc : chkE A = 0) (hk : k ≤ widA A) : chkE (A.map fun L => L.take k) = 0 := by
  obtain ⟨h1, h2, h3, h4⟩ := chkE_0 hc
  by_cases h0 : A.length = 0
  · rw [List.eq_nil_of_length_eq_zero h0]; exact (by decide : chkE [] = 0)
  have h17 := h2 _ (mem_of_lt (show 0 < A.length by omega))
  refine chkE_of (N := k) (by rw [List.length_map]; exact h1) (Nat.le_trans hk h17) (fun L hL => ?_) (fun L hL x hx => ?_)
  · obtain ⟨M, hM, rfl⟩ := List.mem_map.1 hL
    rw [List.length_take, h3 M hM]; omega
  · obtain ⟨M, hM, rfl⟩ := List.mem_map.1 hL
    exact h4 M hM x (List.mem_of_mem_take hx)
theorem wid_pre (hk : k ≤ widA A) : widA (A.map fun L => L.take k) = if A.length = 0 then 0 else k := by
  cases A with
  | nil => rfl
  | cons L A =>
    rw [if_neg (by simp)]
    unfold widA at hk ⊢
    simp only [List.map_cons, List.getD_cons_zero, List.length_take] at hk ⊢
    omega
theorem mx_pre (r c : Nat) (hc : c < k) : mxA (A.map fun L => L.take k) r c = mxA A r c := by
  unfold mxA
  congr 1
  by_cases hr : r < A.length
  · have e : (A.map fun L => L.take k).getD r [] = (A.getD r []).take k := by
      simp [List.getD_eq_getElem?_getD, hr]
    rw [e]
    simp only [List.getD_eq_getElem?_getD, List.getElem?_take_of_lt hc]
  · have e : (A.map fun L => L.take k).getD r [] = A.getD r [] := by
      rw [List.getD_eq_getElem?_getD, List.getD_eq_getElem?_getD, List.getElem?_eq_none (by rw [List.length_map]; omega), List.getElem?_eq_none (by omega)]
    rw [e]
/-- The rank of the first columns. -/
def rkX (A : List (List RatA)) (k : Nat) : Nat := (elimX A.length (mxA A) k).ps.length
theorem rank_pre (hc : chkE A = 0) (hk : k ≤ widA A) (h0 : 0 < A.length) : rankA (A.map fun L => L.take k) = (rkX A k : Int) := by
  unfold rankA rkX
  rw [if_pos (chk_pre hc hk), wid_pre hk, if_neg (by omega), List.length_map]
  rw [(elim_cols (N := k) (fun r _ c hc => mx_pre (A := A) r c hc) (Nat.le_refl k)).1]
theorem rank_step (A : List (List RatA)) (k : Nat) : (rkX A (k + 1) = rkX A k + 1 ∧ k ∈ (elimX A.length (mxA A) (k + 1)).ps) ∨ (rkX A (k + 1) = rkX A k ∧ ¬ k ∈ (elimX A.length (mxA A) (k + 1)).ps) := by
  unfold rkX
  rcases elim_succ (m := A.length) (A := mxA A) k with ⟨h1, h2⟩ | ⟨h1, h2⟩
  · exact .inl ⟨by rw [h1]; simp, h2⟩
  · exact .inr ⟨by rw [h1], h2⟩
theorem pre_few (h1 : A.length ≤ 4) (hk : k ≤ widA A) (h2 : widA A ≤ 4) : FewX (A.map fun L => L.take k) := few_X (by rw [List.length_map]; exact h1) (by rw [wid_pre hk]; split <;> omega)
end
theorem RowR.raw {w : World} {a : Option Addr} {cap N : Nat} {V : Nat → RatC} {f : Nat → Rat} (h : RowR w a cap N V f) (hl : ∀ c, c < N → Len (f c).num ∧ Len ((f c).den : Int)) :
    ∃ L : List RatA, L.length = N ∧ RatsI w a cap L ∧ ∀ c, c < N → NumA (L.getD c noA) (f c) := by
  have one : ∀ c, ∃ y : RatA, c < N → y.n = (V c).n ∧ y.a = (V c).a ∧ y.l.length = (V c).q ∧ y.c = (V c).c ∧ y.n2 = (V c).m ∧ y.b = (V c).b ∧ y.m.length = (V c).k ∧ y.d = (V c).d ∧ RatI w y ∧ NumA y (f c) := fun c => by
    by_cases hc : c < N
    · obtain ⟨l, m, e1, e2, hi, hn⟩ := ratV_num (h.val c hc) (hl c hc).1 (hl c hc).2
      exact ⟨_, fun _ => ⟨rfl, rfl, e1, rfl, rfl, rfl, e2, rfl, hi, hn⟩⟩
    · exact ⟨noA, fun h => absurd h hc⟩
  obtain ⟨g, hg⟩ := Classical.axiomOfChoice one
  have hgd : ∀ c (hc : c < ((List.range N).map g).length), ((List.range N).map g)[c] = g c := fun c hc => by simp
  refine ⟨(List.range N).map g, by simp, ⟨by simp; exact h.le, h.mx, h.nil, fun A hA c hc => ?_, fun c hc => ?_⟩, fun c hc => ?_⟩
  · have hcN : c < N := by simpa using hc
    rw [hgd c hc]
    obtain ⟨e1, e2, e3, e4, e5, e6, e7, e8, _⟩ := hg c hcN
    have := h.cells A hA c hcN
    rw [e1, e2, e3, e4, e5, e6, e7, e8]
    exact this
  · have hcN : c < N := by simpa using hc
    rw [hgd c hc]
    exact (hg c hcN).2.2.2.2.2.2.2.2.1
  · have e : ((List.range N).map g).getD c noA = g c := by simp [List.getD_eq_getElem?_getD, hc]
    rw [e]
    exact (hg c hc).2.2.2.2.2.2.2.2.2
theorem num_err {y : RatA} {r : Rat} (h : NumA y r) : errX y = 0 ∨ errX y = 2 := by
  unfold errX
  rw [if_pos h.ok]
  split
  · exact .inl rfl
  · exact .inr rfl
theorem els_02 : ∀ {L : List RatA}, (∀ x ∈ L, errX x = 0 ∨ errX x = 2) → elsE L = 0 ∨ elsE L = 2
  | [], _ => .inl rfl
  | x :: L, h => by
    unfold elsE
    by_cases e : errX x = 0
    · rw [if_pos e]; exact els_02 fun y hy => h y (by simp [hy])
    · rw [if_neg e]; exact .inr ((h x (by simp)).resolve_left e)
theorem vecF_raw {L : List RatA} {N : Nat} {f : Nat → Rat} (h : ∀ c, c < N → NumA (L.getD c noA) (f c)) {c : Nat} (hc : c < N) : vecF L c = f c := (h c hc).val
section
variable {A : List (List RatA)} {X B : List RatA}
/-- The pivots, seen from the numbers alone. -/
theorem piv_iff {k : Nat} (hk : k < widA A) : k ∈ (elimX A.length (augA A B) (widA A)).ps ↔ k ∈ (elimX A.length (mxA A) (k + 1)).ps := by
  rw [elim_mem hk]
  have : (elimX A.length (augA A B) (k + 1)).ps = (elimX A.length (mxA A) (k + 1)).ps := (elim_cols (N := widA A) (fun r _ c hc => by unfold augA; rw [if_pos hc]) (by omega)).1
  rw [this]
theorem only_zero {k : Nat} (hk : k < widA A) (hn : ¬ k ∈ (elimX A.length (mxA A) (k + 1)).ps) : solF A B k = 0 := sol_zero fun h => hn ((piv_iff hk).1 h)
theorem only_sol (hx : ∀ r, r < A.length → dotX (widA A) (mxA A r) (vecF X) = vecF B r) (h0 : ∀ k, k < widA A → ¬ k ∈ (elimX A.length (mxA A) (k + 1)).ps → vecF X k = 0) : ∀ k, k < widA A → vecF X k = solF A B k :=
  sol_only (elimX_ech A.length (augA A B) (widA A)) (fun r hr => by rw [aug_dot, aug_last]; exact hx r hr) fun c hc hn => h0 c hc fun h => hn ((piv_iff hc).2 h)
end
end Go.Proofs.Ytokffagbdfhnnaa

namespace Go.Proofs.Ytokffagbdfhnnaa
open Go.RowKit Go BigFrame Go.Shelf
set_option maxRecDepth 100000
set_option linter.unusedSimpArgs false
set_option linter.unusedVariables false
attribute [local go_sem] Oper.semAt_some

/-! MatrixOnly. -/
theorem fewL_len {L : List RatA} (h : fewL L = true) : L.length ≤ 1000 := by
  unfold fewL lenF at h
  simp only [Bool.or_eq_true, Bool.and_eq_true, decide_eq_true_eq] at h
  omega
def pivB (A : List (List RatA)) (c : Nat) : Bool := decide (c ∈ (elimX A.length (mxA A) (c + 1)).ps)
def allB (A : List (List RatA)) (i : Nat) : Bool := (List.range i).all (pivB A)
def zerB (A : List (List RatA)) (X : List RatA) (i : Nat) : Bool := (List.range i).all fun c => pivB A c || decide (vecF X c = 0)
theorem allB_succ (A : List (List RatA)) (i : Nat) : allB A (i + 1) = (allB A i && pivB A i) := by unfold allB; rw [List.range_succ, List.all_append]; simp
theorem zerB_succ (A : List (List RatA)) (X : List RatA) (i : Nat) : zerB A X (i + 1) = (zerB A X i && (pivB A i || decide (vecF X i = 0))) := by unfold zerB; rw [List.range_succ, List.all_append]; simp
theorem pivB_yes {A : List (List RatA)} {c : Nat} (h : c ∈ (elimX A.length (mxA A) (c + 1)).ps) : pivB A c = true := decide_eq_true h
theorem pivB_no {A : List (List RatA)} {c : Nat} (h : ¬ c ∈ (elimX A.length (mxA A) (c + 1)).ps) : pivB A c = false := decide_eq_false h
theorem only_same {A : List (List RatA)} {X B : List RatA} (hx : ∀ r, r < A.length → dotX (widA A) (mxA A r) (vecF X) = vecF B r) (hz : zerB A X (widA A) = true) : sameF (widA A) (widA A) (vecF X) (solF A B) = true :=
  sameF_iff.2 ⟨rfl, only_sol hx fun k hk hn => by
    have := List.all_eq_true.1 hz k (List.mem_range.2 hk)
    rw [pivB_no hn, Bool.false_or] at this
    exact of_decide_eq_true this⟩
theorem all_zer {A : List (List RatA)} {X : List RatA} {i : Nat} (h : allB A i = true) : zerB A X i = true :=
  List.all_eq_true.2 fun c hc => by rw [List.all_eq_true.1 h c hc]; rfl
theorem rank_first {A : List (List RatA)} {k : Nat} (c1 : Option Addr) (cc1 : Nat) (w : World) (hq : RRows w c1 cc1 (A.map fun L => L.take k)) (hc : chkE A = 0) (hk : k ≤ widA A) (h0 : 0 < A.length) (h1 : A.length ≤ 4) (h2 : widA A ≤ 4) :
    Calls Try.prog 11 #[.slice c1 A.length cc1] w fun e w' => e = .returned (.tuple #[.int .i64 (rkX A k), .int .i64 0]) ∧ Ext w w' := by
  have hf : FewX (A.map fun L => L.take k) := pre_few h1 hk h2
  have hl : (A.map fun L => L.take k).length = A.length := List.length_map _
  have e1 := rank_pre hc hk h0
  have e2 := chk_pre hc hk
  generalize (A.map fun L => L.take k) = A' at *
  have := matrix_Rank c1 cc1 A' w hq (fun _ => hf)
  rw [hl, e1, e2] at this
  exact this
set_option maxHeartbeats 16000000 in
theorem law11_MatrixOnly (a : Option Addr) (cap : Nat) (A : List (List RatA)) (s : Option Addr) (sc : Nat) (X : List RatA) (w : World) (h : RRows w a cap A) (k : RatsI w s sc X) :
    Calls Try.prog 5 #[.slice a A.length cap, .slice s X.length sc] w fun e w' => e = .returned (.bool true) ∧ Ext w w' := by
  have hle := h.le
  have hmx := h.mx
  have sle := k.le
  have smx := k.mx
  have HH := Lib.hid h
  have HK := Lib.hid k
  have HWD : Hid (0 < A.length → ∃ b o a' c', a = some ⟨b, o, none⟩ ∧ w.cell? ⟨b, o, none⟩ = some (.slice a' (widA A) c')) := Lib.hid fun h0 => by
    obtain ⟨b, o, rfl⟩ := HH.out.head h0
    obtain ⟨L0, ar, cr, e1, e2, _⟩ := HH.out.get h0
    refine ⟨b, o, ar, cr, rfl, ?_⟩
    have : widA A = L0.length := by unfold widA; rw [List.getD_eq_getElem?_getD, e1]; rfl
    rw [this]
    simpa using e2
  clear h k
  go_enter Try.func5, Try.ntmps5
  go_wp2_with fail
  refine (law11_sane _).mono ?_
  rintro e x1 ⟨rfl, hy⟩
  have HX := Lib.hid hy
  clear hy
  go_wp2_with fail
  refine (few_Mat a cap A _ (RRows.ext HX.out HH.out)).mono ?_
  rintro e x2 ⟨rfl, hy⟩
  replace HX := Lib.hid (HX.out.trans hy)
  clear hy
  cases hfa : fewA A with
  | false =>
    go_wp2_with fail
    go_ret
    exact ⟨rfl, HX.out⟩
  | true =>
  go_wp2_with fail
  refine (few_List s sc X _ (HK.out.ext HX.out)).mono ?_
  rintro e x3 ⟨rfl, hy⟩
  replace HX := Lib.hid (HX.out.trans hy)
  clear hy
  cases hfl : fewL X with
  | false =>
    go_wp2_with fail
    go_ret
    exact ⟨rfl, HX.out⟩
  | true =>
  have HL := Lib.hid (fewL_len hfl)
  have HFA := Lib.hid hfa
  clear hfa hfl
  have HWD2 : Hid (0 < A.length → ∃ b o a' c', a = some ⟨b, o, none⟩ ∧ x3.cell? ⟨b, o, none⟩ = some (.slice a' (widA A) c')) := Lib.hid fun h0 => by
    obtain ⟨b, o, a', c', e1, e2⟩ := HWD.out h0
    exact ⟨b, o, a', c', e1, cell_exQ HX.out e2⟩
  go_wp2_with fail
  refine (ref_Columns a cap A.length (widA A) x3 HWD2.out).mono ?_
  rintro e x4 ⟨rfl, rfl⟩
  rw [wid_if]
  clear HWD HWD2
  by_cases hX : X.length = widA A
  case neg =>
    have g1 : ((X.length : Int) != (widA A : Int)) = true := by simp; omega
    go_wp2_with fail
    go_ret
    exact ⟨rfl, HX.out⟩
  have HXL := Lib.hid hX
  have g1 : ((X.length : Int) != (widA A : Int)) = false := by simp [hX]
  rw [hX] at g1
  rw [hX]
  clear hX
  go_wp2_with fail
  refine (ref_Check11 a cap A _ (RRows.ext HX.out HH.out)).mono ?_
  rintro e x4 ⟨rfl, hy⟩
  replace HX := Lib.hid (HX.out.trans hy)
  clear hy g1
  by_cases hc : chkE A = 0
  case neg =>
    have g1 : (chkE A != 0) = true := by simp [hc]
    clear hc
    go_wp2_with fail
    go_ret
    exact ⟨rfl, HX.out⟩
  have HD := Lib.hid (few_dim HFA.out hc)
  have HC := Lib.hid hc
  rw [hc]
  clear hc
  have HAP : Hid (Calls Try.prog 19 #[.slice a A.length cap, .slice s (widA A) sc] x4 (ApplyP A X x4)) := Lib.hid (by
    have := matrix_Apply a cap A s sc X x4 (RRows.ext HX.out HH.out) (HK.out.ext HX.out) HL.out
    rw [HXL.out] at this
    exact this)
  have HEV : Hid (vecE A X (widA A) = elsE X) := Lib.hid (by unfold vecE; rw [if_neg (by simpa using HC.out), if_neg (by rw [HXL.out]; simp)])
  go_wp2_with fail
  refine HAP.out.mono ?_
  rintro e x5 ⟨b1, cb1, V1, rfl, hr1, hy⟩
  replace HX := Lib.hid (HX.out.trans hy)
  clear hy HAP
  rw [HEV.out]
  by_cases he : elsE X = 0
  case neg =>
    have n0 : appN A X = 0 := by unfold appN; rw [HEV.out, if_neg he]
    have g1 : (elsE X != 0) = true := by simp [he]
    rw [n0]
    clear hr1 he n0
    go_wp2_with fail
    go_ret
    exact ⟨rfl, HX.out⟩
  have n0 : appN A X = A.length := by unfold appN; rw [HEV.out, if_pos he]
  rw [n0] at hr1
  rw [n0, he]
  have HE := Lib.hid he
  have HRX : Hid (∀ W, Ext w W → RowR W s sc (widA A) (vecV X) (vecF X)) := Lib.hid fun W kk => by have := els_read HE.out (HK.out.ext kk); rwa [HXL.out] at this
  have HSX : Hid (∀ c, c < widA A → Sz (vecF X c) 2) := Lib.hid fun c hc => vec_sz HE.out c (by rw [HXL.out]; exact hc)
  have HBZ : Hid (∀ r, r < A.length → Sz (appF A X r) (1 + 5 * widA A)) := Lib.hid fun r hr => dot_sz fun c hc => ⟨mx_sz HC.out r hr c hc, HSX.out c hc⟩
  clear he n0 HEV
  obtain ⟨B, hBl, hBr, hBn⟩ := hr1.raw (fun r hr => by
    have h1 := HBZ.out r hr
    have h2 := HD.out.2
    exact ⟨len_lt h1.1 (by omega), len_lt (by rw [Int.natAbs_natCast]; exact h1.2) (by omega)⟩)
  have rle := hr1.le
  have rmx := hr1.mx
  have HBL := Lib.hid hBl
  have HBR := Lib.hid hBr
  have HBN := Lib.hid hBn
  have HFL : Hid (Calls Try.prog 8 #[.slice b1 A.length cb1] x5 fun e w' => e = .returned (.bool (fewL B)) ∧ Ext x5 w') := Lib.hid (by
    have := few_List b1 cb1 B x5 hBr
    rwa [hBl] at this)
  clear hr1 hBl hBr hBn
  go_wp2_with fail
  refine HFL.out.mono ?_
  rintro e x6 ⟨rfl, hy⟩
  replace HX := Lib.hid (HX.out.trans hy)
  replace HBR := Lib.hid (HBR.out.ext hy)
  clear hy HFL
  cases hfb : fewL B with
  | false =>
    go_wp2_with fail
    go_ret
    exact ⟨rfl, HX.out⟩
  | true =>
  have HSO : Hid (Calls Try.prog 12 #[.slice a A.length cap, .slice b1 A.length cb1] x6 (SolveP A B x6)) := Lib.hid (by
    have := matrix_Solve a cap A b1 cb1 B x6 (RRows.ext HX.out HH.out) HBR.out (fewL_len hfb) (fun _ => few_S HD.out.1 HD.out.2)
    rwa [HBL.out] at this)
  have HEV : Hid (vecE A B A.length = elsE B) := Lib.hid (by unfold vecE; rw [if_neg (by simpa using HC.out), if_neg (by rw [HBL.out]; simp)])
  have hmem : ∀ x ∈ B, errX x = 0 ∨ errX x = 2 := fun x hx => by
    obtain ⟨i, hi, rfl⟩ := List.getElem_of_mem hx
    have := HBN.out i (by have := HBL.out; omega)
    rw [List.getD_eq_getElem?_getD, List.getElem?_eq_getElem hi] at this
    exact num_err this
  clear hfb
  go_wp2_with fail
  refine HSO.out.mono ?_
  rintro e x7 ⟨b2, cb2, V2, rfl, hr2, hy⟩
  replace HX := Lib.hid (HX.out.trans hy)
  clear hy HSO HBR
  rw [HEV.out]
  rcases els_02 hmem with he | he
  case inr =>
    have s1 : solOk A B = false := by unfold solOk; rw [HEV.out, decide_eq_false (by rw [he]; decide)]; rfl
    rw [he, s1]
    clear hmem hr2 he s1
    go_wp2_with fail
    go_ret
    exact ⟨rfl, HX.out⟩
  have HV0 : Hid (vecE A B A.length = 0) := Lib.hid (HEV.out.trans he)
  have HEQ : Hid (∀ r, r < A.length → dotX (widA A) (mxA A r) (vecF X) = vecF B r) := Lib.hid fun r hr => (vecF_raw HBN.out hr).symm
  have s1 : solOk A B = true := ok_of_mx HV0.out HEQ.out
  have n1 : solN A B = widA A := by unfold solN; rw [s1]; rfl
  rw [n1] at hr2
  rw [he, s1, n1]
  have r2le := hr2.le
  have r2mx := hr2.mx
  have HR2 := Lib.hid hr2
  have HSS := Lib.hid (solF_sz HV0.out HD.out.1 HD.out.2)
  have d1 := HD.out.1
  have d2 := HD.out.2
  have g1 : ((widA A : Int) != (widA A : Int)) = false := by simp
  have HROWS : Hid (∀ L ∈ A, L.length = widA A) := Lib.hid (chkE_0 HC.out).2.2.1
  clear hmem hr2 he s1 n1 HEV
  go_wp2_with fail
  clear g1
  go_loopw [10, 11, 12] (fun s10 s11 v wr => ∃ i : Nat, i ≤ widA A ∧ v = .int .i64 i ∧ s10 = .bool (zerB A X i) ∧ s11 = .bool (allB A i) ∧ Ext x7 wr) (fun _ _ v _ => widA A - (intOf v).toNat)
  case atStart => exact ⟨0, Nat.zero_le _, rfl, rfl, rfl, Ext.refl _⟩
  case round =>
    obtain ⟨i, hi, rfl, rfl, rfl, hx⟩ := hrel
    have i0 : (0 : Int) ≤ (i : Int) := by omega
    have HE7 := Lib.hid hx
    clear hx
    by_cases hiN : i < widA A
    · have i1 : (i : Int) < (widA A : Int) := by omega
      have hw1 : IntKind.i64.wrap ((i : Int) + 1) = (i : Int) + 1 := IntWalk.i64_in _ (by omega)
      have h0 : 0 < A.length := by
        by_cases e : A.length = 0
        · rw [show widA A = 0 by rw [List.eq_nil_of_length_eq_zero e]; rfl] at hiN; omega
        · omega
      have HF1 := Lib.hid (law11_first a cap A i (widA A) wr (RRows.ext (HX.out.trans HE7.out) HH.out) HROWS.out (by omega) (by omega) (by omega))
      go_wp2_with fail
      refine HF1.out.mono ?_
      rintro e x8 ⟨c1, cc1, rfl, hq1, hy⟩
      replace HE7 := Lib.hid (HE7.out.trans hy)
      have q1le := hq1.le
      have q1mx := hq1.mx
      have HK1 := Lib.hid (rank_first c1 cc1 x8 hq1 HC.out (by omega) h0 d1 d2)
      clear hy hq1 HF1
      go_wp2_with fail
      refine HK1.out.mono ?_
      rintro e x9 ⟨rfl, hy⟩
      replace HE7 := Lib.hid (HE7.out.trans hy)
      clear hy HK1
      have HF2 : Hid (Calls Try.prog 20 #[.slice a A.length cap, .int .i64 ((i : Int) + 1)] x9 (FirstP A (i + 1) x9)) := Lib.hid (by
        have := law11_first a cap A (i + 1) (widA A) x9 (RRows.ext (HX.out.trans HE7.out) HH.out) HROWS.out (by omega) (by omega) (by omega)
        rwa [show ((i + 1 : Nat) : Int) = (i : Int) + 1 by omega] at this)
      go_wp2_with fail
      refine HF2.out.mono ?_
      rintro e y1 ⟨c2, cc2, rfl, hq2, hy⟩
      replace HE7 := Lib.hid (HE7.out.trans hy)
      have q2le := hq2.le
      have q2mx := hq2.mx
      have HK2 := Lib.hid (rank_first c2 cc2 y1 hq2 HC.out (by omega) h0 d1 d2)
      clear hy hq2 HF2
      go_wp2_with fail
      refine HK2.out.mono ?_
      rintro e y2 ⟨rfl, hy⟩
      replace HE7 := Lib.hid (HE7.out.trans hy)
      clear hy HK2
      have hrs := rank_step A i
      have hrl : rkX A i ≤ A.length := (rank_le A.length i (mxA A)).1
      have hn4 : ((rkX A i : Nat) : Int) ≤ 4 := by omega
      have hn0 : (0 : Int) ≤ ((rkX A i : Nat) : Int) := by omega
      have hrs2 : (((rkX A (i + 1) : Nat) : Int) = ((rkX A i : Nat) : Int) + 1 ∧ i ∈ (elimX A.length (mxA A) (i + 1)).ps) ∨ (((rkX A (i + 1) : Nat) : Int) = ((rkX A i : Nat) : Int) ∧ ¬ i ∈ (elimX A.length (mxA A) (i + 1)).ps) := by
        rcases hrs with ⟨h1, h2⟩ | ⟨h1, h2⟩
        · exact .inl ⟨by omega, h2⟩
        · exact .inr ⟨by omega, h2⟩
      clear hrs hrl
      generalize ((rkX A (i + 1) : Nat) : Int) = m at *
      generalize ((rkX A i : Nat) : Int) = n at *
      have hw2 : IntKind.i64.wrap (n + 1) = n + 1 := IntWalk.i64_in _ (by omega)
      have HAS := Lib.hid (allB_succ A i)
      have HZS := Lib.hid (zerB_succ A X i)
      have g1 : ¬ m < n := by omega
      have g2 : ¬ m > n + 1 := by omega
      rcases hrs2 with ⟨hm, hp⟩ | ⟨hm, hp⟩
      · have g3 : m > n := by omega
        have HA2 : Hid (allB A (i + 1) = allB A i) := Lib.hid (by rw [HAS.out, pivB_yes hp, Bool.and_true])
        have HZ2 : Hid (zerB A X (i + 1) = zerB A X i) := Lib.hid (by rw [HZS.out, pivB_yes hp]; simp)
        clear hm hp HAS HZS
        go_wp2_with fail
        go_roundw
        case rel => exact ⟨i + 1, by omega, by go_num, by rw [HZ2.out], by rw [HA2.out], HE7.out⟩
        case measure => simp [intOf]; omega
      · subst hm
        clear g1 g2
        have g1 : ¬ m < m := by omega
        have g2 : ¬ m > m + 1 := by omega
        have HA2 : Hid (allB A (i + 1) = false) := Lib.hid (by rw [HAS.out, pivB_no hp, Bool.and_false])
        have HZ2 : Hid (zerB A X (i + 1) = (zerB A X i && decide (vecF X i = 0))) := Lib.hid (by rw [HZS.out, pivB_no hp, Bool.false_or])
        have HS0 : Hid (decide (solF A B i = 0) = true) := Lib.hid (decide_eq_true (only_zero hiN hp))
        clear hp HAS HZS
        go_upto_region 26 with fail
        obtain ⟨bb, ob, rfl⟩ := HR2.out.head hiN
        obtain ⟨_, c0, c1', c2', c3⟩ := (HR2.out.ext HE7.out).cells _ rfl i hiN
        have vy := (HR2.out.ext HE7.out).val i hiN
        generalize V2 i = xc at *
        obtain ⟨nx, ax, qx, cx, mx, bx, kx, dx⟩ := xc
        dsimp only [RatC.val] at c0 c1' c2' c3 vy
        have VY := Lib.hid vy
        have hx := HE7.out
        clear vy HE7
        go_cut [120] (fun s wx => s = .bool false ∧ Ext x7 wx)
        case first =>
            have s0 : World.cell? y2 ⟨bb, ob + i * 4, none⟩ = some (.bool nx) := c0
            have s1 : World.cell? y2 ⟨bb, ob + i * 4 + 1, none⟩ = some (.slice ax qx cx) := c1'
            have s2 : World.cell? y2 ⟨bb, ob + i * 4 + 2, none⟩ = some (.bool mx) := c2'
            have s3 : World.cell? y2 ⟨bb, ob + i * 4 + 3, none⟩ = some (.slice bx kx dx) := c3
            have hE : Ext y2 (World.drew y2) := (Ext.refl _).drew
            have hyd : Ext y2 (World.drew y2) := (Ext.refl _).drew
            replace hx := hx.trans hyd
            replace VY := Lib.hid (VY.out.ext hyd)
            clear hyd
            replace s0 : World.cell? (World.drew y2) ⟨bb, ob + i * 4, none⟩ = some (.bool nx) := s0
            replace s1 : World.cell? (World.drew y2) ⟨bb, ob + i * 4 + 1, none⟩ = some (.slice ax qx cx) := s1
            replace s2 : World.cell? (World.drew y2) ⟨bb, ob + i * 4 + 2, none⟩ = some (.bool mx) := s2
            replace s3 : World.cell? (World.drew y2) ⟨bb, ob + i * 4 + 3, none⟩ = some (.slice bx kx dx) := s3
            refine wp_region_held_drew (S := (fun w' => World.cell? w' ⟨bb, ob + i * 4, none⟩ = some (.bool nx) ∧ World.cell? w' ⟨bb, ob + i * 4 + 1, none⟩ = some (.slice ax qx cx) ∧ World.cell? w' ⟨bb, ob + i * 4 + 2, none⟩ = some (.bool mx) ∧ World.cell? w' ⟨bb, ob + i * 4 + 3, none⟩ = some (.slice bx kx dx))) (by kernel_rfl) ?_ (fun hHeld => ?_)
            · exact ⟨s0, s1, s2, s3⟩
            (try simp only [pur, Nat.reduceAdd])
            generalize World.drew y2 = x61 at *
            refine tk (v := ?_) 0 rfl (by kernel_rfl) (fun _ _ _ h => h) (by rfl) ?_ (by assumption) ?_
            rotate_left
            · (intro w hSw; (try dsimp only at hSw); (try go_simp); (try with_reducible rfl))
            (try simp only [Act.put, pus])
            refine tk (v := ?_) 1 rfl (by kernel_rfl) (fun _ _ _ h => h) (by rfl) ?_ (by assumption) ?_
            rotate_left
            · (intro w hSw; (try dsimp only at hSw); (try go_simp); (try with_reducible rfl))
            (try simp only [Act.put, pus])
            refine tk (v := ?_) 2 rfl (by kernel_rfl) (fun _ _ _ h => h) (by rfl) ?_ (by assumption) ?_
            rotate_left
            · (intro w hSw; (try dsimp only at hSw); (try go_simp); (try with_reducible rfl))
            (try simp only [Act.put, pus])
            refine tk (v := ?_) 3 rfl (by kernel_rfl) (fun _ _ _ h => h) (by rfl) ?_ (by assumption) ?_
            rotate_left
            · (intro w hSw; (try dsimp only at hSw); (try go_simp); (try with_reducible rfl))
            (try simp only [Act.put, pus])
            refine wpAnyH_ready (rs := [4]) (by kernel_rfl) (by simp) ?_
            refine AllReadyH.cons (o := _) rfl (fun K hK => ?_) ?_
            · go_simp
              (with_reducible refine (law11_num 0 1 _ (by omega) (by omega) (by omega)).mono ?_); rintro e x62 ⟨v1, rfl, hv, hy⟩; replace hE := hE.trans hy; replace hx := hx.trans hy; replace s0 := cell_exQ hy s0; replace s1 := cell_exQ hy s1; replace s2 := cell_exQ hy s2; replace s3 := cell_exQ hy s3; replace VY := Lib.hid (VY.out.ext hy); clear hy; obtain ⟨nt, at1, qt, ct, bt, kt, dt, rfl, hv', -, -⟩ := hv; rw [show Rat.divInt 0 1 = 0 from by decide +kernel] at hv'; have Vt := Lib.hid hv'; clear hv'
              refine hK.out _ _ ?_ (fun hHeld2 => ?_)
              · exact ⟨s0, s1, s2, s3⟩
              clear hK K hHeld
              have hHeld := hHeld2
              clear hHeld2
              (try simp only [Act.put, pus])
              refine wpAnyH_ready (rs := [5]) (by kernel_rfl) (by simp) ?_
              refine AllReadyH.cons (o := _) rfl (fun K hK => ?_) ?_
              · go_simp
                (with_reducible refine (law11_equal VY.out Vt.out (HSS.out i) (j := 1) sz01 (by omega)).mono ?_); rintro e x63 ⟨rfl, hy⟩; replace hE := hE.trans hy; replace hx := hx.trans hy; replace s0 := cell_exQ hy s0; replace s1 := cell_exQ hy s1; replace s2 := cell_exQ hy s2; replace s3 := cell_exQ hy s3; replace VY := Lib.hid (VY.out.ext hy); replace Vt := Lib.hid (Vt.out.ext hy); clear hy
                refine hK.out _ _ ?_ (fun hHeld2 => ?_)
                · exact ⟨s0, s1, s2, s3⟩
                clear hK K hHeld
                have hHeld := hHeld2
                clear hHeld2
                (try simp only [Act.put, pus])
                refine tk (v := ?_) 6 rfl (by kernel_rfl) (fun _ _ _ h => h) (by rfl) ?_ (by assumption) ?_
                rotate_left
                · (intro w hSw; (try dsimp only at hSw); (try go_simp); (try with_reducible rfl))
                (try simp only [Act.put, pus])
                refine wpAnyH_done (by kernel_rfl) ?_ _
                go_wp2_with fail; go_meet; exact ⟨by rw [HS0.out]; rfl, hx⟩
              exact AllReadyH.nil
            exact AllReadyH.nil
        case rest =>
          obtain ⟨rfl, hx⟩ := hcut
          clear c0 c1' c2' c3 VY
          go_upto_region 28 with fail
          cases hzb : zerB A X i with
          | false =>
            have HZ3 : Hid (zerB A X (i + 1) = false) := Lib.hid (by rw [HZ2.out, hzb]; rfl)
            have HE7 := Lib.hid hx
            clear hzb hx HZ2
            refine wp_region_later (by kernel_rfl) (by kernel_rfl) ?_; repeat (go_big_quiet_step (fail))
            refine wpQuiet_nil ?_; rintro _ ⟨⟨W1, HW1⟩, rfl⟩; (try dsimp only)
            have HE8 := Lib.hid (HE7.out.trans HW1)
            clear HW1
            go_wp2_with fail
            go_roundw
            case rel => exact ⟨i + 1, by omega, by go_num, by rw [HZ3.out], by rw [HA2.out], HE8.out⟩
            case measure => simp [intOf]; omega
          | true =>
            have HZ3 : Hid (zerB A X (i + 1) = decide (vecF X i = 0)) := Lib.hid (by rw [HZ2.out, hzb]; rfl)
            have hrx := HRX.out _ (HX.out.trans hx)
            obtain ⟨bx2, ox, rfl⟩ := hrx.head hiN
            obtain ⟨_, d0, d1', d2', d3⟩ := hrx.cells _ rfl i hiN
            have vx := hrx.val i hiN
            generalize vecV X i = yc at *
            obtain ⟨ny, ay, qy, cy, my, by_, ky, dy⟩ := yc
            dsimp only [RatC.val] at d0 d1' d2' d3 vx
            have VX := Lib.hid vx
            clear vx hrx hzb HZ2
            have s0 : World.cell? wc ⟨bx2, ox + i * 4, none⟩ = some (.bool ny) := d0
            have s1 : World.cell? wc ⟨bx2, ox + i * 4 + 1, none⟩ = some (.slice ay qy cy) := d1'
            have s2 : World.cell? wc ⟨bx2, ox + i * 4 + 2, none⟩ = some (.bool my) := d2'
            have s3 : World.cell? wc ⟨bx2, ox + i * 4 + 3, none⟩ = some (.slice by_ ky dy) := d3
            have hE : Ext wc (World.drew wc) := (Ext.refl _).drew
            have hyd : Ext wc (World.drew wc) := (Ext.refl _).drew
            replace hx := hx.trans hyd
            replace VX := Lib.hid (VX.out.ext hyd)
            clear hyd
            replace s0 : World.cell? (World.drew wc) ⟨bx2, ox + i * 4, none⟩ = some (.bool ny) := s0
            replace s1 : World.cell? (World.drew wc) ⟨bx2, ox + i * 4 + 1, none⟩ = some (.slice ay qy cy) := s1
            replace s2 : World.cell? (World.drew wc) ⟨bx2, ox + i * 4 + 2, none⟩ = some (.bool my) := s2
            replace s3 : World.cell? (World.drew wc) ⟨bx2, ox + i * 4 + 3, none⟩ = some (.slice by_ ky dy) := s3
            refine wp_region_held_drew (S := (fun w' => World.cell? w' ⟨bx2, ox + i * 4, none⟩ = some (.bool ny) ∧ World.cell? w' ⟨bx2, ox + i * 4 + 1, none⟩ = some (.slice ay qy cy) ∧ World.cell? w' ⟨bx2, ox + i * 4 + 2, none⟩ = some (.bool my) ∧ World.cell? w' ⟨bx2, ox + i * 4 + 3, none⟩ = some (.slice by_ ky dy))) (by kernel_rfl) ?_ (fun hHeld => ?_)
            · exact ⟨s0, s1, s2, s3⟩
            (try simp only [pur, Nat.reduceAdd])
            generalize World.drew wc = x61 at *
            refine tk (v := ?_) 0 rfl (by kernel_rfl) (fun _ _ _ h => h) (by rfl) ?_ (by assumption) ?_
            rotate_left
            · (intro w hSw; (try dsimp only at hSw); (try go_simp); (try with_reducible rfl))
            (try simp only [Act.put, pus])
            refine tk (v := ?_) 1 rfl (by kernel_rfl) (fun _ _ _ h => h) (by rfl) ?_ (by assumption) ?_
            rotate_left
            · (intro w hSw; (try dsimp only at hSw); (try go_simp); (try with_reducible rfl))
            (try simp only [Act.put, pus])
            refine tk (v := ?_) 2 rfl (by kernel_rfl) (fun _ _ _ h => h) (by rfl) ?_ (by assumption) ?_
            rotate_left
            · (intro w hSw; (try dsimp only at hSw); (try go_simp); (try with_reducible rfl))
            (try simp only [Act.put, pus])
            refine tk (v := ?_) 3 rfl (by kernel_rfl) (fun _ _ _ h => h) (by rfl) ?_ (by assumption) ?_
            rotate_left
            · (intro w hSw; (try dsimp only at hSw); (try go_simp); (try with_reducible rfl))
            (try simp only [Act.put, pus])
            refine tk (v := ?_) 4 rfl (by kernel_rfl) (fun _ _ _ h => h) (by rfl) ?_ (by assumption) ?_
            rotate_left
            · (intro w hSw; (try dsimp only at hSw); (try go_simp); (try with_reducible rfl))
            (try simp only [Act.put, pus])
            refine tk (v := ?_) 5 rfl (by kernel_rfl) (fun _ _ _ h => h) (by rfl) ?_ (by assumption) ?_
            rotate_left
            · (intro w hSw; (try dsimp only at hSw); (try go_simp); (try with_reducible rfl))
            (try simp only [Act.put, pus])
            refine wpAnyH_ready (rs := [6]) (by kernel_rfl) (by simp) ?_
            refine AllReadyH.cons (o := _) rfl (fun K hK => ?_) ?_
            · go_simp
              (with_reducible refine (law11_num 0 1 _ (by omega) (by omega) (by omega)).mono ?_); rintro e x62 ⟨v1, rfl, hv, hy⟩; replace hE := hE.trans hy; replace hx := hx.trans hy; replace s0 := cell_exQ hy s0; replace s1 := cell_exQ hy s1; replace s2 := cell_exQ hy s2; replace s3 := cell_exQ hy s3; replace VX := Lib.hid (VX.out.ext hy); clear hy; obtain ⟨nt, at1, qt, ct, bt, kt, dt, rfl, hv', -, -⟩ := hv; rw [show Rat.divInt 0 1 = 0 from by decide +kernel] at hv'; have Vt := Lib.hid hv'; clear hv'
              refine hK.out _ _ ?_ (fun hHeld2 => ?_)
              · exact ⟨s0, s1, s2, s3⟩
              clear hK K hHeld
              have hHeld := hHeld2
              clear hHeld2
              (try simp only [Act.put, pus])
              refine wpAnyH_ready (rs := [7]) (by kernel_rfl) (by simp) ?_
              refine AllReadyH.cons (o := _) rfl (fun K hK => ?_) ?_
              · go_simp
                (with_reducible refine (law11_equal VX.out Vt.out (HSX.out i hiN) (j := 1) sz01 (by omega)).mono ?_); rintro e x63 ⟨rfl, hy⟩; replace hE := hE.trans hy; replace hx := hx.trans hy; replace s0 := cell_exQ hy s0; replace s1 := cell_exQ hy s1; replace s2 := cell_exQ hy s2; replace s3 := cell_exQ hy s3; replace VX := Lib.hid (VX.out.ext hy); replace Vt := Lib.hid (Vt.out.ext hy); clear hy
                refine hK.out _ _ ?_ (fun hHeld2 => ?_)
                · exact ⟨s0, s1, s2, s3⟩
                clear hK K hHeld
                have hHeld := hHeld2
                clear hHeld2
                (try simp only [Act.put, pus])
                refine tk (v := ?_) 8 rfl (by kernel_rfl) (fun _ _ _ h => h) (by rfl) ?_ (by assumption) ?_
                rotate_left
                · (intro w hSw; (try dsimp only at hSw); (try go_simp); (try with_reducible rfl))
                (try simp only [Act.put, pus])
                refine tk (v := ?_) 9 rfl (by kernel_rfl) (fun _ _ _ h => h) (by rfl) ?_ (by assumption) ?_
                rotate_left
                · (intro w hSw; (try dsimp only at hSw); (try go_simp); (try with_reducible rfl))
                (try simp only [Act.put, pus])
                refine wpAnyH_done (by kernel_rfl) ?_ _
                have HE8 := Lib.hid hx
                go_wp2_with fail
                go_roundw
                case rel => exact ⟨i + 1, by omega, by go_num, by rw [HZ3.out], by rw [HA2.out], HE8.out⟩
                case measure => simp [intOf]; omega
              exact AllReadyH.nil
            exact AllReadyH.nil
    · have i1 : ¬ (i : Int) < (widA A : Int) := by omega
      obtain rfl : i = widA A := by omega
      have HSM : Hid (Calls Try.prog 13 #[.slice s (widA A) sc, .slice b2 (widA A) cb2] wr fun e w' => e = .returned (.bool (sameF (widA A) (widA A) (vecF X) (solF A B))) ∧ Ext wr w') := Lib.hid (ref_Same11 s sc (widA A) (vecV X) (vecF X) b2 cb2 (widA A) V2 (solF A B) wr (HRX.out _ (HX.out.trans HE7.out)) (HR2.out.ext HE7.out))
      cases hab : allB A (widA A) with
      | true =>
        have HG := Lib.hid (only_same HEQ.out (all_zer (X := X) hab))
        rw [all_zer (X := X) hab]
        clear hab
        go_wp2_with fail
        refine HSM.out.mono ?_
        rintro e y1 ⟨rfl, hy⟩
        replace HX := Lib.hid ((HX.out.trans HE7.out).trans hy)
        rw [HG.out]
        clear hy HSM
        go_wp2_with fail
        go_ret
        exact ⟨rfl, HX.out⟩
      | false =>
        cases hzb : zerB A X (widA A) with
        | true =>
          have HG := Lib.hid (only_same HEQ.out hzb)
          clear hab hzb
          go_wp2_with fail
          refine HSM.out.mono ?_
          rintro e y1 ⟨rfl, hy⟩
          replace HX := Lib.hid ((HX.out.trans HE7.out).trans hy)
          rw [HG.out]
          clear hy HSM
          go_wp2_with fail
          go_ret
          exact ⟨rfl, HX.out⟩
        | false =>
          have HX2 := Lib.hid (HX.out.trans HE7.out)
          clear hab hzb HSM
          go_wp2_with fail
          go_ret
          exact ⟨rfl, HX2.out⟩
end Go.Proofs.Ytokffagbdfhnnaa

