import Derived.Test.YtokffagbdfhnnaaUP
import Derived.Test.YtokffagbdfhnnaaUS
import Derived.OwnWalk
import Derived.Below
import Derived.Deep.QuietTactic
import Derived.Deep.Cut
namespace Go.Proofs.Ytokffagbdfhnnaa
open Go.RowKit Go BigFrame Go.Shelf
set_option maxRecDepth 100000
set_option linter.unusedSimpArgs false
set_option linter.unusedVariables false
attribute [local go_sem] Oper.semAt_some

/-! Layer 11: the first columns of a matrix. -/
theorem IsRats.ext {w w' : World} {v : Value} {L : List RatA} (h : IsRats w v L) (k : Ext w w') : IsRats w' v L := by
  obtain ⟨a, c, e, r⟩ := h
  exact ⟨a, c, e, r.ext k⟩
/-- An own slice whose elements are rows that lay in w0. -/
structure OldRows (w0 w : World) (B : Nat) (v : Value) (A : List (List RatA)) : Prop where
  ex : ∃ vs, w.ownsRow B 23 1 v A.length vs ∧ ∀ i (h : i < A.length), ∃ x, vs[i]? = some x ∧ IsRats w0 x A[i]
section
variable {w0 w w' : World} {B : Nat} {v v' : Value} {A : List (List RatA)}
theorem OldRows.nil (w0 w : World) (B : Nat) : OldRows w0 w B (.slice none 0 0) [] := ⟨[], World.ownsRow_nil _ _ _ _, fun i h => absurd h (by simp)⟩
theorem OldRows.ext (h : OldRows w0 w B v A) (k : Ext w w') : OldRows w0 w' B v A := by
  obtain ⟨vs, ho, hx⟩ := h.ex
  exact ⟨vs, ownsRow_ext ho k, hx⟩
theorem OldRows.form (h : OldRows w0 w B v A) : ∃ a cap, v = .slice a A.length cap := by
  obtain ⟨vs, ho, _⟩ := h.ex
  exact row_form ho
theorem OldRows.read (h : OldRows w0 w B v A) (k : Ext w0 w) : ∃ a cap, v = .slice a A.length cap ∧ RRows w a cap A := by
  obtain ⟨vs, ho, hx⟩ := h.ex
  rcases ho.2 with ⟨rfl, h0⟩ | ⟨g, cap, cur, rfl, _, _, h1, h2, _⟩
  · have : A = [] := List.eq_nil_of_length_eq_zero h0
    subst this
    exact ⟨none, 0, rfl, mat_nil w⟩
  · refine ⟨_, cap, rfl, ⟨h1, by unfold maxLen at h2; omega, by simp, fun A' hA i hi => ?_⟩⟩
    cases hA
    obtain ⟨x, e, hr⟩ := hx i hi
    have := World.ownsRow.cellAt ho i (by omega)
    rw [e] at this
    exact ⟨rfl, x, by simpa using this, hr.ext k⟩
end
def FirstP (A : List (List RatA)) (k : Nat) (w : World) (e : Ending) (w' : World) : Prop := ∃ a cap, e = .returned (.slice a A.length cap) ∧ RRows w' a cap (A.map fun L => L.take k) ∧ Ext w w'
end Go.Proofs.Ytokffagbdfhnnaa

namespace Go.Proofs.Ytokffagbdfhnnaa
open Go.RowKit Go BigFrame Go.Shelf
set_option maxRecDepth 100000
set_option linter.unusedSimpArgs false
set_option linter.unusedVariables false

/-! Layer 11: first columns, raw readings of results, the only solution: plain. -/
theorem rowsE_all : ∀ {A : List (List RatA)}, (∀ L ∈ A, elsE L = 0) → rowsE A = 0
  | [], _ => rfl
  | L :: A, h => by unfold rowsE; rw [if_pos (h L (by simp))]; exact rowsE_all fun M hM => h M (by simp [hM])
theorem elsE_all : ∀ {L : List RatA}, (∀ x ∈ L, errX x = 0) → elsE L = 0
  | [], _ => rfl
  | x :: L, h => by unfold elsE; rw [if_pos (h x (by simp))]; exact elsE_all fun y hy => h y (by simp [hy])
theorem chkE_of {A : List (List RatA)} {N : Nat} (h1 : A.length ≤ 17) (h2 : N ≤ 17) (h3 : ∀ L ∈ A, L.length = N) (h4 : ∀ L ∈ A, ∀ x ∈ L, errX x = 0) : chkE A = 0 := by
  rw [chkE_rows h1 (fun L hL => by have := h3 L hL; omega) (fun L hL => by
    cases A with
    | nil => cases hL
    | cons K A => rw [h3 L hL]; exact (h3 K (by simp)).symm)]
  exact rowsE_all fun L hL => elsE_all (h4 L hL)
section
variable {A : List (List RatA)} {k : Nat}
/-- The rank of the first columns. -/
def rkX (A : List (List RatA)) (k : Nat) : Nat := (elimX A.length (mxA A) k).ps.length
end
theorem RowR.raw {w : World} {a : Option Addr} {cap N : Nat} {V : Nat → RatC} {f : Nat → Rat} (h : RowR w a cap N V f) (hl : ∀ c, c < N → Len (f c).num ∧ Len ((f c).den : Int)) :
    ∃ L : List RatA, L.length = N ∧ RatsI w a cap L ∧ ∀ c, c < N → NumA (L.getD c noA) (f c) := by
  have one : ∀ c, ∃ y : RatA, c < N → y.n = (V c).n ∧ y.a = (V c).a ∧ y.l.length = (V c).q ∧ y.c = (V c).c ∧ y.n2 = (V c).m ∧ y.b = (V c).b ∧ y.m.length = (V c).k ∧ y.d = (V c).d ∧ RatI w y ∧ NumA y (f c) := fun c => by
    by_cases hc : c < N
    · obtain ⟨l, m, e1, e2, hi, hn⟩ := ratV_num (h.val c hc) (hl c hc).1 (hl c hc).2
      exact ⟨_, fun _ => ⟨rfl, rfl, e1, rfl, rfl, rfl, e2, rfl, hi, hn⟩⟩
    · exact ⟨noA, fun h => absurd h hc⟩
  obtain ⟨g, hg⟩ := Classical.axiomOfChoice one
  have hgd : ∀ c (hc : c < ((List.range N).map g).length), ((List.range N).map g)[c] = g c := fun c hc => by simp
  refine ⟨(List.range N).map g, by simp, ⟨by simp; exact h.le, h.mx, h.nil, fun A hA c hc => ?_, fun c hc => ?_⟩, fun c hc => ?_⟩
  · have hcN : c < N := by simpa using hc
    rw [hgd c hc]
    obtain ⟨e1, e2, e3, e4, e5, e6, e7, e8, _⟩ := hg c hcN
    have := h.cells A hA c hcN
    rw [e1, e2, e3, e4, e5, e6, e7, e8]
    exact this
  · have hcN : c < N := by simpa using hc
    rw [hgd c hc]
    exact (hg c hcN).2.2.2.2.2.2.2.2.1
  · have e : ((List.range N).map g).getD c noA = g c := by simp [List.getD_eq_getElem?_getD, hc]
    rw [e]
    exact (hg c hc).2.2.2.2.2.2.2.2.2
section
variable {A : List (List RatA)} {X B : List RatA}
end
end Go.Proofs.Ytokffagbdfhnnaa

namespace Go.Proofs.Ytokffagbdfhnnaa
open Go.RowKit Go BigFrame Go.Shelf
set_option maxRecDepth 100000
set_option linter.unusedSimpArgs false
set_option linter.unusedVariables false
attribute [local go_sem] Oper.semAt_some

/-! Layer 11: columns as own slices; blocks of rows; matrices read as raw ones; exchanged and added rows. -/
/-- A column, as an own slice of copies. -/
def ColQ (m : Nat) (V : Nat → RatC) (f : Nat → Rat) (w : World) (e : Ending) (w' : World) : Prop := ∃ (v : Value) (K : List RatC), e = .returned v ∧ OwnRats w' w.heap.size v K ((List.range m).map f) ∧ (∀ x ∈ K, ∃ c, c < m ∧ x = V c) ∧ Ext w w'
set_option maxHeartbeats 4000000 in
theorem ref_ColumnQ (a : Option Addr) (cap m N : Nat) (V : Nat → Nat → RatC) (M : Mx) (k : Nat) (w : World) (h : MatR w a cap m N V M) (hk : k < N) (hm : m ≤ 1000) (hN : N ≤ 1000) :
    Calls Try.prog 10 #[.slice a m cap, .int .i64 k] w (ColQ m (fun r => V r k) (fun r => M r k) w) := by
  have hle := h.le
  have hmx := h.mx
  have HR := Lib.hid h
  have k0 : (0 : Int) ≤ (k : Int) := by omega
  have k1 : (k : Int) < (N : Int) := by omega
  clear h
  go_enter Try.func10, Try.ntmps10
  go_wp2_with fail
  go_loopw [5, 6] (fun s5 v wr => ∃ i : Nat, i ≤ m ∧ v = .int .i64 i ∧ ∃ K, OwnRats wr w.heap.size s5 K ((List.range i).map fun c => M c k) ∧ (∀ x ∈ K, ∃ c, c < i ∧ x = V c k) ∧ Ext w wr) (fun _ v _ => m - (intOf v).toNat)
  case atStart => exact ⟨0, Nat.zero_le _, rfl, [], OwnRats.nil _ _, fun x hx => (by cases hx), Ext.refl _⟩
  case round =>
    obtain ⟨i, hi, rfl, K, hO, hKV, hxr⟩ := hrel
    have i0 : (0 : Int) ≤ (i : Int) := by omega
    obtain ⟨va, vc, rfl, hvl, hvc⟩ := hO.form
    have hKl : K.length = i := by have := hO.len; rwa [List.length_map, List.length_range] at this
    have HO := Lib.hid hO
    have HXR := Lib.hid hxr
    have HKL := Lib.hid hKl
    have HKV := Lib.hid hKV
    clear hO hxr hKl hKV
    by_cases him : i < m
    · have i1 : (i : Int) < (m : Int) := by omega
      have hw2 : IntKind.i64.wrap ((i : Int) + 1) = (i : Int) + 1 := IntWalk.i64_in _ (by omega)
      obtain ⟨b, o, rfl⟩ := HR.out.head him
      obtain ⟨_, ar, cr, h1, hrw⟩ := (HR.out.ext HXR.out).cells _ rfl i him
      dsimp only at h1
      obtain ⟨br, or_, rfl⟩ := hrw.head hk
      obtain ⟨_, c0, c1', c2, c3⟩ := hrw.cells _ rfl k hk
      have hv0 := HR.out.val him hk
      have hv := hrw.val k hk
      have hrle := hrw.le
      have hrmx := hrw.mx
      obtain ⟨x, hxx⟩ : ∃ x, V i k = x := ⟨_, rfl⟩
      rw [hxx] at c0 c1' c2 c3 hv hv0
      obtain ⟨nx, ax, qx, cx, mx, bx, kx, dx⟩ := x
      have HXX := Lib.hid hxx
      dsimp only [RatC.val] at c0 c1' c2 c3 hv hv0
      have hlt := HO.out.lt
      have hoff : RatC.Off ⟨nx, ax, qx, cx, mx, bx, kx, dx⟩ (Value.slice va K.length vc).ownBlock := old_off (x := ⟨nx, ax, qx, cx, mx, bx, kx, dx⟩) hv0 (fun g' e => (hlt _ e).1)
      have hya := Ext.alloc wr (.cells #[.bool nx, .slice ax qx cx, .bool mx, .slice bx kx dx] 38)
      have HBz := Lib.hid (Blk.new0 wr #[.bool nx, .slice ax qx cx, .bool mx, .slice bx kx dx] 38)
      have HXa := Lib.hid (HXR.out.trans hya)
      have HOa := Lib.hid (HO.out.ext hya)
      have HVa := Lib.hid (RatV.ext hv hya)
      have HOFF := Lib.hid hoff
      clear hoff hya hv hv0 hlt hrw hxx HO HXR
      go_wp2_with (at_builtin; refine wpl_append_rat rfl (.tmp 13) (.tmp 21) rfl HXa.out rfl HOa.out rfl (x := ⟨nx, ax, qx, cx, mx, bx, kx, dx⟩) (r := M i k) HBz.out HVa.out HOFF.out (by have := HKL.out; omega) ?_; intro v' w3 hO' hE' hg' hat')
      obtain ⟨ua, uc, rfl, hul, huc⟩ := hO'.form
      go_roundw
      case rel => exact ⟨i + 1, by omega, by go_num, _, (by rw [List.range_succ, List.map_append]; exact hO'), fun y hy => (List.mem_append.1 hy).elim (fun h => by obtain ⟨c, hc, e⟩ := HKV.out y h; exact ⟨c, by omega, e⟩) (fun h => ⟨i, by omega, by rw [HXX.out]; exact List.mem_singleton.1 h⟩), hE'⟩
      case measure => simp [intOf]; omega
    · have i1 : ¬ (i : Int) < (m : Int) := by omega
      have hie : i = m := by omega
      subst hie
      have HP : Hid (ColQ i (fun r => V r k) (fun r => M r k) w (.returned (.slice va K.length vc)) wr) := Lib.hid ⟨_, K, rfl, HO.out, HKV.out, HXR.out⟩
      clear HO HXR HKL HR
      go_wp2_with fail
      go_ret
      exact HP.out
/-- A block that begins with m values. -/
def RowsB (w : World) (g m : Nat) (val : Nat → Value) : Prop := ∃ cs, Blk w g cs 23 ∧ ∀ r, r < m → cs[r]? = some (val r)
section
variable {w w' : World} {g m : Nat} {val : Nat → Value}
theorem RowsB.ext (h : RowsB w g m val) (k : Ext w w') : RowsB w' g m val := by
  obtain ⟨cs, hb, hc⟩ := h
  exact ⟨cs, hb.ext k, hc⟩
theorem RowsB.cell (h : RowsB w g m val) {r : Nat} (hr : r < m) : w.cell? ⟨g, r, none⟩ = some (val r) := by
  obtain ⟨cs, hb, hc⟩ := h
  exact hb.cell (hc r hr)
theorem RowsB.lt (h : RowsB w g m val) : g < w.heap.size := by
  obtain ⟨cs, hb, hc⟩ := h
  exact hb.lt
theorem RowsB.free (h : RowsB w g m val) (r : Nat) : w.frozen? ⟨g, r, none⟩ = false := by
  obtain ⟨cs, hb, hc⟩ := h
  exact hb.free r
theorem RowsB.put (h : RowsB w g m val) {i : Nat} (hi : i < m) (u : Value) : RowsB (w.setCell ⟨g, i, none⟩ u) g m (fun r => if r = i then u else val r) := by
  obtain ⟨cs, hb, hc⟩ := h
  refine ⟨_, hb.set i u, fun r hr => ?_⟩
  have hsz : i < cs.size := (Array.getElem?_eq_some_iff.1 (hc i hi)).1
  show _ = some (if r = i then u else val r)
  by_cases e : r = i
  · subst e; rw [if_pos rfl]; exact setSelf hsz
  · rw [if_neg e, Array.getElem?_setIfInBounds, if_neg (fun h => e h.symm)]; exact hc r hr
theorem RowsB.grown (h : RowsB w g m val) {row : Option Nat} (hg : w.grownBy w' row) (hr : row ≠ some g) : RowsB w' g m val := by
  obtain ⟨cs, hb, hc⟩ := h
  exact ⟨cs, blkGrown hb hg hr, hc⟩
theorem RowsB.congr {val' : Nat → Value} (h : RowsB w g m val) (k : ∀ r, r < m → val r = val' r) : RowsB w g m val' := by
  obtain ⟨cs, hb, hc⟩ := h
  exact ⟨cs, hb, fun r hr => by rw [← k r hr]; exact hc r hr⟩
theorem RowsB.mat {N cap : Nat} {V : Nat → Nat → RatC} {M : Mx} (h : RowsB w g m val) (hv : ∀ r, r < m → ∃ a c, val r = .slice a N c ∧ RowR w a c N (V r) (M r)) (h1 : m ≤ cap) (h2 : cap ≤ 9223372036854775807) : MatR w (some ⟨g, 0, none⟩) cap m N V M :=
  ⟨h1, h2, fun e => (by cases e), fun A hA r hr => by
    cases hA
    obtain ⟨a, c, e, hrow⟩ := hv r hr
    refine ⟨rfl, a, c, ?_, hrow⟩
    have := h.cell hr
    rw [e] at this
    simpa using this⟩
theorem rowsB_of_own {B n n' cap : Nat} {xs : List Value} (h : w.ownsRow B 23 1 (.slice (some ⟨g, 0, none⟩) n' cap) n xs) (hx : ∀ r, r < m → xs[r]? = some (val r)) : RowsB w g m val := by
  rcases h.2 with ⟨e, _⟩ | ⟨g', cap', cur, e, hb, hg, h1, h2, h3, h4⟩
  · cases e
  · simp only [Value.slice.injEq, Option.some.injEq, Addr.mk.injEq, and_true, true_and] at e
    obtain ⟨rfl, _, rfl⟩ := e
    refine ⟨cur, hg, fun r hr => ?_⟩
    have hu := hx r hr
    rw [← h4, List.getElem?_take] at hu
    split at hu
    · simpa using hu
    · cases hu
end
theorem RowR.grown {w w' : World} {a : Option Addr} {cap N : Nat} {V : Nat → RatC} {f : Nat → Rat} (h : RowR w a cap N V f) {row : Option Nat} (hg : w.grownBy w' row) (hr : ∀ A, a = some A → row ≠ some A.block) (ho : ∀ c, c < N → (V c).Off row) : RowR w' a cap N V f :=
  ⟨h.le, h.mx, h.nil, fun A hA c hc => by
    obtain ⟨h0, h1, h2, h3, h4⟩ := h.cells A hA c hc
    have key : ∀ (j : Nat) (u : Value), w.cell? ⟨A.block, j, none⟩ = some u → w'.cell? ⟨A.block, j, none⟩ = some u := fun j u hu => by
      have hlt := World.block_lt_of_cell? w _ hu
      have := hg.block A.block hlt (fun e => hr A hA e.symm)
      simp only [World.cell?] at hu ⊢
      rw [this]; exact hu
    exact ⟨h0, key _ _ h1, key _ _ h2, key _ _ h3, key _ _ h4⟩, fun c hc => (h.val c hc).grown hg (ho c hc)⟩
theorem MatR.raw {w : World} {a : Option Addr} {cap m N : Nat} {V : Nat → Nat → RatC} {M : Mx} (h : MatR w a cap m N V M) (hl : ∀ r, r < m → ∀ c, c < N → Len (M r c).num ∧ Len ((M r c).den : Int)) :
    ∃ A : List (List RatA), A.length = m ∧ RRows w a cap A ∧ (∀ L ∈ A, L.length = N) ∧ ∀ r, r < m → ∀ c, c < N → NumA ((A.getD r []).getD c noA) (M r c) := by
  have one : ∀ r, ∃ L : List RatA, r < m → L.length = N ∧ (∀ A, a = some A → A.spot = none ∧ ∃ a' c', w.cell? ⟨A.block, A.off + r, none⟩ = some (.slice a' N c') ∧ RatsI w a' c' L) ∧ ∀ c, c < N → NumA (L.getD c noA) (M r c) := fun r => by
    by_cases hr : r < m
    · obtain ⟨b, o, rfl⟩ := h.head hr
      obtain ⟨h0, a', c', h1, h2⟩ := h.cells _ rfl r hr
      obtain ⟨L, e1, e2, e3⟩ := h2.raw (hl r hr)
      exact ⟨L, fun _ => ⟨e1, fun A hA => by cases hA; exact ⟨rfl, a', c', h1, e2⟩, e3⟩⟩
    · exact ⟨[], fun e => absurd e hr⟩
  obtain ⟨G, hG⟩ := Classical.axiomOfChoice one
  have hgd : ∀ r (hr : r < ((List.range m).map G).length), ((List.range m).map G)[r] = G r := fun r hr => by simp
  refine ⟨(List.range m).map G, by simp, ⟨by simp; exact h.le, h.mx, h.nil, fun A hA r hr => ?_⟩, fun L hL => ?_, fun r hr => ?_⟩
  · have hrm : r < m := by simpa using hr
    rw [hgd r hr]
    obtain ⟨e1, e2, _⟩ := hG r hrm
    obtain ⟨h0, a', c', h1, h2⟩ := e2 A hA
    exact ⟨h0, _, h1, a', c', by rw [e1], h2⟩
  · obtain ⟨r, hr, rfl⟩ := List.mem_map.1 hL
    exact (hG r (List.mem_range.1 hr)).1
  · have e : ((List.range m).map G).getD r [] = G r := by simp [List.getD_eq_getElem?_getD, hr]
    rw [e]
    exact (hG r hr).2.2
section
variable {A B : List (List RatA)} {X Y : List RatA} {M : Mx} {m N : Nat}
theorem wid_of (h : ∀ L ∈ A, L.length = N) (h0 : 0 < A.length) : widA A = N := h _ (mem_of_lt h0)
theorem mx_raw (h : ∀ r, r < m → ∀ c, c < N → NumA ((A.getD r []).getD c noA) (M r c)) {r c : Nat} (hr : r < m) (hc : c < N) : mxA A r c = M r c := (h r hr c hc).val
/-- Rows that are sums of multiples of others, both ways: the same pivots and the same solution. -/
theorem turn_same (h : ∀ r, r < m → ∀ c, c < N + 1 → augA B Y r c = M r c) (c1 : Comb m (augA A X) M) (c2 : Comb m M (augA A X)) :
    (elimX m (augA B Y) N).ps = (elimX m (augA A X) N).ps ∧ okB m N (elimX m (augA B Y) N) = okB m N (elimX m (augA A X) N) ∧ (okB m N (elimX m (augA A X) N) = true → ∀ c, c < N → solX N (elimX m (augA A X) N) c = solX N (elimX m (augA B Y) N) c) := by
  obtain ⟨s1, s2, s3⟩ := sol_same (n := N) c1 c2
  refine ⟨?_, ?_, fun ho c hc => ?_⟩
  · rw [(elim_cols h (Nat.le_succ N)).1, s1]
  · rw [okB_congr h (Nat.lt_succ_self N), Bool.eq_iff_iff, okB_iff, okB_iff]
    exact s2.symm
  · rw [solX_congr h (Nat.lt_succ_self N) hc]
    exact s3 (okB_iff.1 ho) c hc
theorem aug_raw (hN : widA B = N) (hA : ∀ r, r < m → ∀ c, c < N → NumA ((B.getD r []).getD c noA) (M r c)) {f : Nat → Rat} (hY : ∀ r, r < m → NumA (Y.getD r noA) (f r)) : ∀ r, r < m → ∀ c, c < N + 1 → augA B Y r c = (fun r c => if c < N then M r c else f r) r c := fun r hr c hc => by
  unfold augA
  rw [hN]
  by_cases e : c < N
  · simp only [e, if_true]; exact (hA r hr c e).val
  · simp only [e, if_false]; exact (hY r hr).val
theorem rank_aug (hc : chkE A = 0) (hm : A.length = m) (hN : widA A = N) : rankA A = ((elimX m (augA A X) N).ps.length : Int) := by
  subst hm hN
  unfold rankA
  rw [if_pos hc, (elim_cols (N := widA A) (A := mxA A) (B := augA A X) (fun r _ c hc => by unfold augA; rw [if_pos hc]) (Nat.le_refl _)).1]
end
end Go.Proofs.Ytokffagbdfhnnaa

namespace Go.Proofs.Ytokffagbdfhnnaa
open Go.RowKit Go BigFrame Go.Shelf
set_option maxRecDepth 100000
set_option linter.unusedSimpArgs false
set_option linter.unusedVariables false

/-! Layer 11: rows exchanged and added, turned matrices: plain. -/
section
variable {U : Mx} {m i k : Nat}
theorem sw_l {α : Type} (f : Nat → α) (i k : Nat) : sw f i k i = f k := by unfold sw; rw [if_pos rfl]
theorem sw_r {α : Type} (f : Nat → α) {i k : Nat} (h : i ≠ k) : sw f i k k = f i := by unfold sw; rw [if_neg (fun e => h e.symm), if_pos rfl]
theorem sw_o {α : Type} (f : Nat → α) {i k r : Nat} (h1 : r ≠ i) (h2 : r ≠ k) : sw f i k r = f r := by unfold sw; rw [if_neg h1, if_neg h2]
theorem comb_swap (hi : i < m) (hk : k < m) (hik : i ≠ k) : Comb m U (sw U i k) ∧ Comb m (sw U i k) U := by
  constructor
  · refine Comb.two fun r hr => ?_
    obtain ⟨s, e, hs⟩ := sw_at U i k r
    exact ⟨s, s, by omega, by omega, 1, 0, fun c => by rw [e]; grind⟩
  · refine Comb.two fun r hr => ?_
    by_cases e1 : r = i
    · exact ⟨k, k, hk, hk, 1, 0, fun c => by rw [sw_r U hik, e1]; grind⟩
    · by_cases e2 : r = k
      · exact ⟨i, i, hi, hi, 1, 0, fun c => by rw [sw_l, e2]; grind⟩
      · exact ⟨r, r, hr, hr, 1, 0, fun c => by rw [sw_o U e1 e2]; grind⟩
/-- Rows exchanged, and then the second of them added to the first. -/
def addX (U : Mx) (i k : Nat) : Mx := fun r c => if r = i then U k c + U i c else sw U i k r c
theorem comb_add (hi : i < m) (hk : k < m) (hik : i ≠ k) : Comb m U (addX U i k) ∧ Comb m (addX U i k) U := by
  constructor
  · refine Comb.two fun r hr => ?_
    by_cases e : r = i
    · exact ⟨k, i, hk, hi, 1, 1, fun c => by unfold addX; rw [if_pos e]; grind⟩
    · obtain ⟨s, e9, hs⟩ := sw_at U i k r
      exact ⟨s, s, by omega, by omega, 1, 0, fun c => by unfold addX; rw [if_neg e, e9]; grind⟩
  · refine Comb.two fun r hr => ?_
    have hk2 : ∀ c, addX U i k k c = U i c := fun c => by unfold addX; rw [if_neg (fun e => hik e.symm), sw_r U hik]
    have hi2 : ∀ c, addX U i k i c = U k c + U i c := fun c => by unfold addX; rw [if_pos rfl]
    by_cases e1 : r = i
    · exact ⟨k, k, hk, hk, 1, 0, fun c => by rw [hk2, e1]; grind⟩
    · by_cases e2 : r = k
      · exact ⟨i, k, hi, hk, 1, -1, fun c => by rw [hk2, hi2, e2]; grind⟩
      · exact ⟨r, r, hr, hr, 1, 0, fun c => by unfold addX; rw [if_neg e1, sw_o U e1 e2]; grind⟩
end
section
variable {A T : List (List RatA)}
theorem small_of {x : RatA} {r : Rat} (h : NumA x r) (h1 : r.num.natAbs < 2 ^ 60 ∧ r.den < 2 ^ 30) : errX x = 0 := h.err (by have := h1.1; omega) (by have := h1.2; omega)
theorem chk_raw {m N : Nat} {M : Mx} (hT : T.length = m) (hL : ∀ L ∈ T, L.length = N) (hn : ∀ r, r < m → ∀ c, c < N → NumA ((T.getD r []).getD c noA) (M r c)) (hs : ∀ r, r < m → ∀ c, c < N → (M r c).num.natAbs < 2 ^ 60 ∧ (M r c).den < 2 ^ 30) (h1 : m ≤ 17) (h2 : N ≤ 17) : chkE T = 0 := by
  subst hT
  refine chkE_of h1 h2 hL fun L hLT x hx => ?_
  obtain ⟨r, hr, rfl⟩ := List.getElem_of_mem hLT
  obtain ⟨c, hc, rfl⟩ := List.getElem_of_mem hx
  have hcN : c < N := by rw [← hL _ hLT]; exact hc
  have := hn r hr c hcN
  have e1 : T.getD r [] = T[r] := by rw [List.getD_eq_getElem?_getD, List.getElem?_eq_getElem hr]; rfl
  have e2 : T[r].getD c noA = T[r][c] := by rw [List.getD_eq_getElem?_getD, List.getElem?_eq_getElem hc]; rfl
  rw [e1, e2] at this
  exact small_of this (hs r hr c hcN)
/-- The rank of the columns. -/
theorem rank_T (hc : chkE A = 0) (hT : T.length = widA A) (hL : ∀ L ∈ T, L.length = A.length) (hn : ∀ r, r < widA A → ∀ c, c < A.length → NumA ((T.getD r []).getD c noA) (mxA A c r)) (h1 : A.length ≤ 4) (h2 : widA A ≤ 4) :
    chkE T = 0 ∧ rankA T = rankA A ∧ FewX T ∧ rankA A ≤ A.length ∧ rankA A ≤ widA A := by
  have hcT : chkE T = 0 := chk_raw hT hL hn (fun r hr c hc2 => err_valA (chk_mat hc hc2 hr).2) (by omega) (by omega)
  have hrA : rankA A = ((elimX A.length (mxA A) (widA A)).ps.length : Int) := if_pos hc
  have hle := rank_le A.length (widA A) (mxA A)
  refine ⟨hcT, ?_, ?_, by rw [hrA]; omega, by rw [hrA]; omega⟩
  · by_cases h0 : widA A = 0
    · have e : rankA T = ((elimX T.length (mxA T) (widA T)).ps.length : Int) := if_pos hcT
      have hle2 := rank_le T.length (widA T) (mxA T)
      rw [e, hrA]; omega
    · have hw : widA T = A.length := wid_of hL (by omega)
      have e : rankA T = ((elimX T.length (mxA T) (widA T)).ps.length : Int) := if_pos hcT
      rw [e, hw, hT, (elim_cols (N := A.length) (A := mxA T) (B := fun r c => mxA A c r) (fun r hr c hc2 => (hn r hr c hc2).val) (Nat.le_refl _)).1, rank_turned, hrA]
  · refine few_X (by omega) ?_
    by_cases h0 : widA A = 0
    · rw [List.eq_nil_of_length_eq_zero (hT.trans h0)]; decide
    · rw [wid_of hL (by omega)]; exact h1
end
section
variable {A B : List (List RatA)} {X Y : List RatA} {M' : Mx} {f' : Nat → Rat}
/-- What becomes of rank and solution, when rows are exchanged or added. -/
theorem turned_all (hv : vecE A X A.length = 0) (h0 : 0 < A.length) (hB : B.length = A.length) (hL : ∀ L ∈ B, L.length = widA A) (hn : ∀ r, r < A.length → ∀ c, c < widA A → NumA ((B.getD r []).getD c noA) (M' r c)) (hY : ∀ r, r < A.length → NumA (Y.getD r noA) (f' r))
    {S : Mx} (hS : ∀ r, r < A.length → ∀ c, c < widA A + 1 → (if c < widA A then M' r c else f' r) = S r c) (c1 : Comb A.length (augA A X) S) (c2 : Comb A.length S (augA A X)) :
    (chkE B = 0 → rankA B = rankA A) ∧ (vecE B Y B.length = 0 → solOk B Y = solOk A X ∧ (solOk A X = true → solN B Y = widA A ∧ sameF (widA A) (widA A) (solF A X) (solF B Y) = true)) := by
  have hw : widA B = widA A := wid_of hL (by omega)
  have ha := aug_raw (B := B) (Y := Y) hw hn hY
  have ha2 : ∀ r, r < A.length → ∀ c, c < widA A + 1 → augA B Y r c = S r c := fun r hr c hc => by rw [ha r hr c hc]; exact hS r hr c hc
  obtain ⟨s1, s2, s3⟩ := turn_same (A := A) (B := B) (X := X) (Y := Y) (N := widA A) ha2 c1 c2
  have hc := (vecE_0 hv).1
  refine ⟨fun hcB => ?_, fun hvB => ?_⟩
  · rw [rank_aug (X := Y) hcB hB hw, rank_aug (X := X) hc rfl rfl, s1]
  · have e1 : solOk B Y = solOk A X := by rw [sol_ok' hvB, sol_ok' hv, hB, hw, s2]
    refine ⟨e1, fun ho => ⟨by unfold solN; rw [e1, ho, hw]; rfl, ?_⟩⟩
    rw [sol_ok' hv] at ho
    refine sameF_iff.2 ⟨rfl, fun c hc2 => ?_⟩
    have := s3 ho c hc2
    unfold solF
    rw [hB, hw]
    exact this
end
end Go.Proofs.Ytokffagbdfhnnaa

