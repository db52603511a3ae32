import Derived.Test.YtolffmmkjnhkkaaGreatMA
import Derived.OwnWalk
import Derived.Deep.QuietTactic
namespace Go.Proofs.YtolffmmkjnhkkaaGreat
open Go.RowKit Go BigFrame Go.Shelf
set_option maxRecDepth 100000
set_option linter.unusedSimpArgs false
set_option linter.unusedVariables false
attribute [local go_sem] Oper.semAt_some

/-! Layer 40: an own slice of ratios as one that comes in; the law's list and means. -/
theorem ratA_of {w : World} {x : RatC} {r : Rat} {k : Nat} (h : RatV w x.val r) (hz : Sz r k) (hk : k ≤ 2048) :
    ∃ y : RatA, y.n = x.n ∧ y.a = x.a ∧ y.l.length = x.q ∧ y.c = x.c ∧ y.n2 = x.m ∧ y.b = x.b ∧ y.m.length = x.k ∧ y.d = x.d ∧ RatI w y ∧ y.ok = true ∧ ∀ W, RatI W y → RatV W y.val r := by
  obtain ⟨n, a, q, c, m, b, k1, d⟩ := x
  obtain ⟨n1, a', q', c', n2, b', k', d', e, ⟨n3, l, ⟨a3, c3, e3, hi⟩, hb⟩, ⟨n4, l2, ⟨a4, c4, e4, hj⟩, hc⟩⟩ := h
  simp only [RatC.val, Value.agg.injEq, Array.mk.injEq, List.cons.injEq, Value.bool.injEq, Value.slice.injEq, and_true] at e e3 e4
  obtain ⟨rfl, ⟨rfl, rfl, rfl⟩, rfl, rfl, rfl, rfl⟩ := e
  obtain ⟨rfl, rfl, rfl, rfl⟩ := e3
  obtain ⟨rfl, rfl, rfl, rfl⟩ := e4
  have l1 : Len r.num := len_lt hz.1 hk
  have l2' : Len (r.den : Int) := len_lt hz.den hk
  refine ⟨⟨n, a, c, l, m, b, d, l2⟩, rfl, rfl, rfl, rfl, rfl, rfl, rfl, rfl, ⟨hi, hj⟩, ?_, fun W hW => ?_⟩
  · refine okR_iff.2 ⟨hb.chk l1, hc.chk l2', ?_, ?_, ?_⟩
    · cases m with
      | false => rfl
      | true =>
        have := hc.sgn
        have h2 := r.den_pos
        have h3 : sgn true (dval l2) ≤ 0 := by unfold sgn; simp; exact dval_nonneg hc.1.digs
        omega
    · refine Nat.pos_of_ne_zero fun h0 => ?_
      have := hc.sgn
      have h2 := r.den_pos
      have h3 : l2 = [] := List.eq_nil_of_length_eq_zero h0
      subst h3
      have h4 : sgn m (dval []) = 0 := by unfold sgn dval; simp
      omega
    · rw [← hb.sgn, ← hc.sgn]
      have := r.reduced
      simpa [Int.gcd, Nat.Coprime] using this
  · exact ⟨n, a, l.length, c, m, b, l2.length, d, rfl, ⟨n, l, ⟨a, c, rfl, hW.i⟩, hb⟩, ⟨m, l2, ⟨b, d, rfl, hW.j⟩, hc⟩⟩
theorem ratsI_list {w : World} {k : Nat} (hk : k ≤ 2048) : ∀ (L : List RatC) (rs : List Rat), L.length = rs.length → (∀ i (h : i < L.length) r, rs[i]? = some r → RatV w L[i].val r) → (∀ r ∈ rs, Sz r k) →
    ∃ LA : List RatA, LA.length = L.length ∧ (∀ i (h : i < L.length) (h' : i < LA.length), LA[i].n = L[i].n ∧ LA[i].a = L[i].a ∧ LA[i].l.length = L[i].q ∧ LA[i].c = L[i].c ∧ LA[i].n2 = L[i].m ∧ LA[i].b = L[i].b ∧ LA[i].m.length = L[i].k ∧ LA[i].d = L[i].d ∧ RatI w LA[i]) ∧ LA.any (fun x => !x.ok) = false ∧ ValL LA rs k := by
  intro L
  induction L with
  | nil =>
    intro rs hl _ _
    have : rs = [] := List.eq_nil_of_length_eq_zero hl.symm
    subst this
    exact ⟨[], rfl, fun i h => absurd h (by simp), rfl, rfl, fun i x r h => by simp at h⟩
  | cons x L ih =>
    intro rs hl hv hz
    cases rs with
    | nil => simp at hl
    | cons r rs =>
      obtain ⟨LA, h1, h2, h3, h4, h5⟩ := ih rs (by simpa using hl) (fun i h s hs => hv (i + 1) (by simp; omega) s (by simpa using hs)) (fun s hs => hz s (by simp [hs]))
      obtain ⟨y, y1, y2, y3, y4, y5, y6, y7, y8, y9, y10, y11⟩ := ratA_of (hv 0 (by simp) r rfl) (hz r (by simp)) hk
      refine ⟨y :: LA, by simp [h1], fun i h h' => ?_, by simp [y10]; simpa using h3, by simp [h4], fun i z s hz' hs => ?_⟩
      · cases i with
        | zero => exact ⟨y1, y2, y3, y4, y5, y6, y7, y8, y9⟩
        | succ i => exact h2 i (by simpa using h) (by simpa using h')
      · cases i with
        | zero =>
          simp only [List.getElem?_cons_zero, Option.some.injEq] at hz' hs
          subst hz' hs
          exact ⟨hz r (by simp), y11⟩
        | succ i =>
          simp only [List.getElem?_cons_succ] at hz' hs
          exact h5 i z s hz' hs
theorem OwnOs.rats {w : World} {B : Nat} {v : Value} {L : List RatC} {rs : List Rat} {k : Nat} (h : OwnOs w B v L (rs.map some)) (hz : ∀ r ∈ rs, Sz r k) (hk : k ≤ 2048) :
    ∃ a cap LA, v = .slice a LA.length cap ∧ RatsI w a cap LA ∧ LA.any (fun x => !x.ok) = false ∧ ValL LA rs k := by
  obtain ⟨LA, h1, h2, h3, h4⟩ := ratsI_list hk L rs (by have := h.len; simpa using this) (fun i hi r hr => by
    have := h.val i hi
    rw [List.getD_eq_getElem?_getD, List.getElem?_map, hr] at this
    exact this) hz
  obtain ⟨a, cap, hr, hv⟩ := h.row
  refine ⟨a, cap, LA, by rw [hv, h1], ⟨by rw [h1]; exact hr.le, hr.mx, hr.nil, fun A hA i hi => ?_, fun i hi => (h2 i (by omega) hi).2.2.2.2.2.2.2.2⟩, h3, h4⟩
  obtain ⟨g0, g1, g2, g3, g4⟩ := hr.cells A hA i (by dsimp only; omega)
  obtain ⟨y1, y2, y3, y4, y5, y6, y7, y8, y9⟩ := h2 i (by omega) hi
  dsimp only at g1 g2 g3 g4
  rw [y1, y2, y3, y4, y5, y6, y7, y8]
  exact ⟨g0, g1, g2, g3, g4⟩
def halves (l : List Int) : List Rat := l.map fun n => Rat.divInt n 2
def ListP (l : List Int) (w : World) (e : Ending) (w' : World) : Prop := ∃ v xs, e = .returned v ∧ OwnOs w' w.heap.size v xs ((halves l).map some) ∧ Ext w w'
set_option maxHeartbeats 4000000 in
theorem law40_list (a : Option Addr) (cap : Nat) (l : List Int) (w : World) (h : Ints w a cap l) (hm : ∀ x ∈ l, -1000 ≤ x ∧ x ≤ 1000) (hl : l.length ≤ 1000) :
    Calls Tryz.prog 23 #[.slice a l.length cap] w (ListP l w) := by
  have hle := h.le
  have hmx := h.mx
  have HH := Lib.hid h
  have HM := Lib.hid hm
  clear h hm
  have hx := Ext.refl w
  go_enter Tryz.func23, Tryz.ntmps23
  go_wp2_with fail
  go_loopw [2, 9] (fun v i wr => ∃ q : Nat, q ≤ l.length ∧ i = .int .i64 q ∧ ∃ xs, OwnOs wr w.heap.size v xs ((halves (l.take q)).map some) ∧ Ext w wr) (fun _ i _ => l.length - (intOf i).toNat)
  case atStart => exact ⟨0, Nat.zero_le _, rfl, [], OwnOs.nil _ _, hx⟩
  case round =>
    obtain ⟨q, hq, rfl, xs, hO, hxr⟩ := hrel
    have q1 : (0 : Int) ≤ (q : Int) := by omega
    have HXL := Lib.hid (show xs.length = q by have := hO.len; unfold halves at this; rw [List.length_map, List.length_map, List.length_take] at this; omega)
    obtain ⟨va, vc, rfl, hvl, hvc⟩ := hO.form
    have HO := Lib.hid hO
    have HXR := Lib.hid hxr
    clear hO hx
    by_cases hqn : q < l.length
    · have q2 : (q : Int) < (l.length : Int) := by omega
      have hw1 : IntKind.i64.wrap ((q : Int) + 1) = (q : Int) + 1 := IntWalk.i64_in _ (by omega)
      obtain ⟨b, o, rfl⟩ := HH.out.head hqn
      obtain ⟨z, hz, hc, hz1, hz2⟩ := Ints.get (HH.out.ext hxr) hqn
      have HZ := Lib.hid hz
      have HZM := HM.out z (List.mem_of_getElem? hz)
      have hlt := Lib.hid (fun g e => (HO.out.lt g e).2)
      clear hz
      go_wp2_with fail
      refine (ratio_Make z 2 _ (by omega) (by omega) (by omega)).mono ?_
      rintro e x4 ⟨v4, rfl, hv4, hy⟩
      obtain ⟨n1, a1, q1', c1, b1, k1, d1, rfl, hv', hf', hg'⟩ := hv4
      have hoff : RatC.Off ⟨n1, a1, q1', c1, false, b1, k1, d1⟩ (Value.slice va xs.length vc).ownBlock := FreshC.off ⟨fun _ => hf', fun _ => hg'⟩ hlt.out
      have HOFF := Lib.hid hoff
      have hyb := Ext.alloc x4 (.cells #[.bool n1, .slice a1 q1' c1, .bool false, .slice b1 k1 d1] 38)
      have Kt := Lib.hid (Blk.new0 x4 #[.bool n1, .slice a1 q1' c1, .bool false, .slice b1 k1 d1] 38)
      replace hxr := (hxr.trans hy).trans hyb
      have HOa := Lib.hid ((HO.out.ext hy).ext hyb)
      have HRD := Lib.hid (RatV.ext hv' hyb)
      clear hoff hy hv' hf' hg' hc
      go_upto_region 5 with fail
      generalize x4.alloc (.cells #[.bool n1, .slice a1 q1' c1, .bool false, .slice b1 k1 d1] 38) = x5 at *
      generalize x4.heap.size = pt at *
      obtain ⟨s0, s1, s2, s3⟩ := bk4 Kt
      go_upto_region 7 with fail
      have hyc := Ext.alloc x5 (.cells #[.bool n1, .slice a1 q1' c1, .bool false, .slice b1 k1 d1] 38)
      have HBz := Lib.hid (Blk.new0 x5 #[.bool n1, .slice a1 q1' c1, .bool false, .slice b1 k1 d1] 38)
      have HXa := Lib.hid (hxr.trans hyc)
      replace HOa := Lib.hid (HOa.out.ext hyc)
      replace HRD := Lib.hid (RatV.ext HRD.out hyc)
      clear hyc hxr
      go_wp2_with (at_builtin; refine wpl_append_o rfl (.tmp 20) (.tmp 22) rfl HXa.out rfl HOa.out rfl (x := ⟨n1, a1, q1', c1, false, b1, k1, d1⟩) (r := some (Rat.divInt z 2)) HBz.out HRD.out HOFF.out (by have := HXL.out; omega) ?_; intro v' w5 hO5 hx5 hg5 hat5)
      obtain ⟨ua, uc, rfl, hul, huc⟩ := hO5.form
      go_roundw
      case rel => exact ⟨q + 1, by omega, by go_num, _, (by unfold halves at hO5 ⊢; rw [take_get HZ.out, List.map_append, List.map_append]; exact hO5), hx5⟩
      case measure => simp [intOf]; omega
    · have q2 : ¬ (q : Int) < (l.length : Int) := by omega
      have hqe : q = l.length := by omega
      subst hqe
      have HO2 := Lib.hid (by have := HO.out; rwa [List.take_length] at this)
      clear HO
      go_wp2_with fail
      go_ret
      exact ⟨_, xs, rfl, HO2.out, HXR.out⟩
end Go.Proofs.YtolffmmkjnhkkaaGreat
