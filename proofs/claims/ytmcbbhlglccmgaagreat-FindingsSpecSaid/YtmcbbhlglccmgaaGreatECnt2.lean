import Derived.Test.YtmcbbhlglccmgaaGreatEOrd
import Derived.Test.YtmcbbhlglccmgaaGreatKeep
import Derived.IntWalk
import Derived.Test.YtmcbbhlglccmgaaGreatTailIn
import Derived.Deep.Cut
import Derived.LoopIn
import Derived.LoopNIn
import Derived.OwnWalkIn
import Derived.RangeFuncBound
import Derived.RangeFuncBox
import Derived.RangeFuncCalls
import Derived.RangeFuncLeaves
import Derived.RangeFuncNested
import Derived.Shelf.Abstract
import Derived.TacticsInMore
namespace Go.Proofs.YtmcbbhlglccmgaaGreat
open Go.RowKit Go Go.Shelf
set_option maxRecDepth 100000
set_option linter.unusedSimpArgs false

attribute [local go_sem] Oper.semAt_some

theorem Vars.ext {A B : World} {nn nB liB fB lb : Nat} (h : Vars A nn nB liB fB lb) (k : Ext A B) : Vars B nn nB liB fB lb := ⟨h.n.ext k, h.l.ext k, by obtain ⟨t, ht⟩ := h.f; exact ⟨t, ht.ext k⟩⟩
theorem iota_ok (n : Nat) : Okp n (iota n) := ⟨by simp [iota], fun j hj => by simp [iota, List.getD, hj]⟩

set_option maxHeartbeats 1000000 in
/-- orders(n) hands back a range over all orders. -/
theorem orders_seq (n nn nB liB fB lb : Nat) (w : World) (hnn : nn ≤ 100) (hV : Vars w nn nB liB fB lb) (hx : LB w lb (iota nn)) (h1 : nB ≠ lb) (h2 : liB ≠ lb) (h3 : fB ≠ lb) :
    SeqX n Tryz.prog 113 #[.pointer (some ⟨fB, 0, none⟩)] (fun _ : List Int => #[.slice (some ⟨lb, 0, none⟩) nn nn]) (fun x W => LB W lb x ∧ Okp nn x) (KpO nB liB fB lb) (fun A B => A.grownBy B (some lb))
      (fun xs => xs = gen nn 0 (iota nn)) (gen nn 0 (iota nn)).length w := fun l J W hW hJ hY h0 => by
  have hV' := hV.ext hW
  have hx' := Blk.ext hx hW
  have hF := Lib.hid (from_in l nB liB fB lb nn (gen nn 0 (iota nn)).length h1 h2 h3 hnn J hJ (fun m pre x W1 hj hl ho hlen => yieldAt_any m (hY pre x W1 hj ⟨hl, ho⟩ hlen)) nn 0 rfl [] (iota nn) W (iota_ok nn) hV' hx' h0 (by simp))
  obtain ⟨tf, hf⟩ := hV'.f
  have c1 := hf.cell (i := 0) rfl
  refine callsIn_wide.2 ?_
  clear hV' hx' hf hV hx
  go_enter Tryz.func113, Tryz.ntmps113
  go_wp2_with (go_at_call 112; refine hF.out.mono ?_; rintro e w7 ⟨rfl, hJ7, hK7⟩)
  go_end0
  exact ⟨⟨_, rfl⟩, _, rfl, by simpa using hJ7⟩

/-- The sum over the pairs of an order. -/
def psum (pt : Int → Int → Int) (l m p : List Int) (k : Nat) : Int := sm k (fun i => pt (l.getD i 0) (m.getD (p.getD i 0).toNat 0))
def cntL (pt : Int → Int → Int) (l m : List Int) (least : Int) (ps : List (List Int)) : Nat := ps.countP fun p => decide (least ≤ psum pt l m p l.length)
def cntG (pt : Int → Int → Int) (l m : List Int) (least : Int) : Nat := cntL pt l m least (gen l.length 0 (iota l.length))
theorem cntL_snoc (pt : Int → Int → Int) (l m : List Int) (least : Int) (ps : List (List Int)) (p : List Int) : cntL pt l m least (ps ++ [p]) = cntL pt l m least ps + if least ≤ psum pt l m p l.length then 1 else 0 := by
  unfold cntL; rw [List.countP_append]; by_cases h : least ≤ psum pt l m p l.length <;> simp [h]
theorem cntL_le (pt : Int → Int → Int) (l m : List Int) (least : Int) (ps : List (List Int)) : cntL pt l m least ps ≤ ps.length := List.countP_le_length
end Go.Proofs.YtmcbbhlglccmgaaGreat

namespace Go.Proofs.YtmcbbhlglccmgaaGreat
open Go.RowKit Go Go.Shelf
set_option maxRecDepth 100000
set_option linter.unusedSimpArgs false

attribute [local go_sem] Oper.semAt_some

def fact : Nat → Nat
  | 0 => 1
  | n + 1 => (n + 1) * fact n
theorem gen_length : ∀ (f i : Nat) (x : List Int), (gen f i x).length = fact f
  | 0, _, _ => rfl
  | f + 1, i, x => by
    simp only [gen, List.length_flatMap, gen_length f, fact]
    rw [List.map_const', List.sum_replicate_nat]
    simp
theorem fact_le {n : Nat} (h : n ≤ 8) : fact n ≤ 40320 := by
  have : ∀ n : Nat, n ≤ 8 → fact n ≤ 40320 := by decide
  exact this n h

theorem psum_succ (pt : Int → Int → Int) (l m p : List Int) (k : Nat) : psum pt l m p (k + 1) = psum pt l m p k + pt (l.getD k 0) (m.getD (p.getD k 0).toNat 0) := rfl
theorem psum_bd {pt : Int → Int → Int} {l m p : List Int} (h : ∀ i j, i < l.length → j < m.length → -1099511627776 ≤ pt (l.getD i 0) (m.getD j 0) ∧ pt (l.getD i 0) (m.getD j 0) ≤ 1099511627776) (hp : Okp m.length p) (hl : l.length = m.length) :
    ∀ k, k ≤ l.length → -(1099511627776 * k) ≤ psum pt l m p k ∧ psum pt l m p k ≤ 1099511627776 * k := by
  intro k
  induction k with
  | zero => intro _; simp [psum, sm]
  | succ k ih =>
    intro hk
    have := ih (by omega)
    have h2 := hp.2 k (by omega)
    have := h k (p.getD k 0).toNat (by omega) (by omega)
    rw [psum_succ]
    omega

theorem Blk.newAt {w : World} {n : Nat} (hn : w.heap.size = n) (cs : Array Value) (t : TypeId) : Blk (w.alloc (.cells cs t)) n cs t := by subst hn; exact Blk.new0 w cs t
theorem Ints.at {w : World} {a : Option Addr} {cap nn : Nat} {l : List Int} (h : Ints w a cap l) (hl : l.length = nn) {i : Nat} (hi : i < nn) : ∃ b o, a = some ⟨b, o, none⟩ ∧ ∀ j, j < nn → w.cell? ⟨b, o + j, none⟩ = some (.int .i64 (l.getD j 0)) := by
  obtain ⟨b, o, rfl⟩ := h.head (i := i) (by omega)
  refine ⟨b, o, rfl, fun j hj => ?_⟩
  have := (h.cell (i := j) (by omega)).1
  rw [this]
  simp [List.getD, show j < l.length by omega]

/-- The variables of counted. -/
structure CV (W : World) (h0 nn : Nat) (a a2 : Option Addr) (cap cap2 : Nat) (least : Int) (fp : FuncId) : Prop where
  a : Blk W h0 #[.slice a nn cap] 27
  b : Blk W (h0 + 1) #[.slice a2 nn cap2] 27
  l : Blk W (h0 + 2) #[.int .i64 least] 3
  p : ∃ t, Blk W (h0 + 3) #[.func (.func fp) #[] #[]] t
theorem cv_own {β : Type} (h0 nn : Nat) (a a2 : Option Addr) (cap cap2 : Nat) (least : Int) (fp : FuncId) : Own (fun (_ : β) W => CV W h0 nn a a2 cap cap2 least fp) := fun _ _ _ _ hs hg hr =>
  ⟨hs.a.kept hg hr, hs.b.kept hg hr, hs.l.kept hg hr, by obtain ⟨t, ht⟩ := hs.p; exact ⟨t, ht.kept hg hr⟩⟩
theorem CV.ext {A B : World} {h0 nn : Nat} {a a2 : Option Addr} {cap cap2 : Nat} {least : Int} {fp : FuncId} (h : CV A h0 nn a a2 cap cap2 least fp) (k : Ext A B) : CV B h0 nn a a2 cap cap2 least fp :=
  ⟨h.a.ext k, h.b.ext k, h.l.ext k, by obtain ⟨t, ht⟩ := h.p; exact ⟨t, ht.ext k⟩⟩
theorem CV.row {A B : World} {h0 nn lb : Nat} {a a2 : Option Addr} {cap cap2 : Nat} {least : Int} {fp : FuncId} (h : CV A h0 nn a a2 cap cap2 least fp) (k : A.grownBy B (some lb)) (hl : h0 + 4 ≤ lb) : CV B h0 nn a a2 cap cap2 least fp := by
  have g : ∀ b cs t, b < h0 + 4 → Blk A b cs t → Blk B b cs t := fun b cs t hb hB => (k.block b hB.lt (fun e => by simp only [Option.some.injEq] at e; omega)).trans hB
  exact ⟨g _ _ _ (by omega) h.a, g _ _ _ (by omega) h.b, g _ _ _ (by omega) h.l, by obtain ⟨t, ht⟩ := h.p; exact ⟨t, g _ _ _ (by omega) ht⟩⟩
theorem CV.other {A : World} {h0 nn : Nat} {a a2 : Option Addr} {cap cap2 : Nat} {least : Int} {fp : FuncId} (h : CV A h0 nn a a2 cap cap2 least fp) (v : Value) : CV (A.setCell ⟨h0 + 4, 0, none⟩ v) h0 nn a a2 cap cap2 least fp :=
  ⟨h.a.other (by dsimp only; omega) v, h.b.other (by dsimp only; omega) v, h.l.other (by dsimp only; omega) v, by obtain ⟨t, ht⟩ := h.p; exact ⟨t, ht.other (by dsimp only; omega) v⟩⟩

set_option maxHeartbeats 4000000 in
theorem counted_any (nn : Nat) (a a2 : Option Addr) (cap cap2 : Nat) (l m : List Int) (least : Int) (fp : FuncId) (pt : Int → Int → Int) (w : World) (h : Ints w a cap l) (h2 : Ints w a2 cap2 m) (hl : l.length = nn) (hm : m.length = nn) (hn : nn ≤ 8)
    (hen : ∀ args w, (callFunc fp args).run Tryz.prog w = .ok (.enter fp args) w) (hp : ∀ i j W, i < nn → j < nn → Calls Tryz.prog fp #[.int .i64 (l.getD i 0), .int .i64 (m.getD j 0)] W fun e W' => e = .returned (.int .i64 (pt (l.getD i 0) (m.getD j 0))) ∧ W = W')
    (hb : ∀ i j, i < nn → j < nn → -1099511627776 ≤ pt (l.getD i 0) (m.getD j 0) ∧ pt (l.getD i 0) (m.getD j 0) ≤ 1099511627776) (_hle : -9223372036854775808 ≤ least ∧ least ≤ 9223372036854775807) :
    Calls Tryz.prog 85 #[.slice a nn cap, .slice a2 nn cap2, .int .i64 least, .func (.func fp) #[] #[]] w fun e w' => e = .returned (.int .i64 (cntG pt l m least)) ∧ Ext w w' := by
  have hlc := h.le
  have hmx := h.mx
  have hlc2 := h2.le
  have hmx2 := h2.mx
  rw [hl] at hlc
  rw [hm] at hlc2
  have HP := Lib.hid hp
  have HEN := Lib.hid hen
  have HB := Lib.hid hb
  have HL := Lib.hid hl
  have HM := Lib.hid hm
  have HI := Lib.hid h
  have HI2 := Lib.hid h2
  clear hp hb hl hm h h2 hen
  refine (callsIn_wide (n := 5)).1 ?_
  refine callsIn_of_wp_marks Tryz.func85 rfl trivial ?_ rfl
  simp only [Tryz.ntmps85, List.size_toArray, List.length_cons, List.length_nil, Nat.reduceAdd, Nat.reduceSub, Array.replicate_succ, Array.replicate_zero, List.push_toArray, List.append_toArray, List.nil_append, List.cons_append]
  refine wpIn_wide.2 ?_
  go_upto_region 1 with fail
  have X1 := ((((Blk.newAt (w := w) rfl #[.slice a nn cap] 27).alloc (.cells #[.slice a2 nn cap2] 27)).alloc (.cells #[.int .i64 least] 3)).alloc (.cells #[.func (.func fp) #[] #[]] 107)).alloc (.cells #[.int .i64 0] 3)
  have X2 := (((Blk.newAt (w := w.alloc (.cells #[.slice a nn cap] 27)) (n := w.heap.size + 1) (by simp) #[.slice a2 nn cap2] 27).alloc (.cells #[.int .i64 least] 3)).alloc (.cells #[.func (.func fp) #[] #[]] 107)).alloc (.cells #[.int .i64 0] 3)
  have X3 := ((Blk.newAt (w := (w.alloc (.cells #[.slice a nn cap] 27)).alloc (.cells #[.slice a2 nn cap2] 27)) (n := w.heap.size + 2) (by simp) #[.int .i64 least] 3).alloc (.cells #[.func (.func fp) #[] #[]] 107)).alloc (.cells #[.int .i64 0] 3)
  have X4 := (Blk.newAt (w := ((w.alloc (.cells #[.slice a nn cap] 27)).alloc (.cells #[.slice a2 nn cap2] 27)).alloc (.cells #[.int .i64 least] 3)) (n := w.heap.size + 3) (by simp) #[.func (.func fp) #[] #[]] 107).alloc (.cells #[.int .i64 0] 3)
  have X5 := Blk.newAt (w := (((w.alloc (.cells #[.slice a nn cap] 27)).alloc (.cells #[.slice a2 nn cap2] 27)).alloc (.cells #[.int .i64 least] 3)).alloc (.cells #[.func (.func fp) #[] #[]] 107)) (n := w.heap.size + 4) (by simp) #[.int .i64 0] 3
  have hx : Ext w (((((w.alloc (.cells #[.slice a nn cap] 27)).alloc (.cells #[.slice a2 nn cap2] 27)).alloc (.cells #[.int .i64 least] 3)).alloc (.cells #[.func (.func fp) #[] #[]] 107)).alloc (.cells #[.int .i64 0] 3)) := (by repeat (first | with_reducible exact Ext.refl _ | with_reducible assumption | with_reducible refine Ext.drewN ?_ _ | with_reducible refine Ext.drew ?_ | with_reducible refine Ext.alloc' ?_ _ | with_reducible refine Ext.set ?_ (by dsimp only; omega) _))
  have CVx := Lib.hid (CV.mk X1 X2 X3 ⟨_, X4⟩)
  have X5 := Lib.hid X5
  have c1 := CVx.out.a.cell (i := 0) (v := .slice a nn cap) rfl
  clear X1 X2 X3 X4
  generalize (((((w.alloc (.cells #[.slice a nn cap] 27)).alloc (.cells #[.slice a2 nn cap2] 27)).alloc (.cells #[.int .i64 least] 3)).alloc (.cells #[.func (.func fp) #[] #[]] 107)).alloc (.cells #[.int .i64 0] 3)) = w5 at *
  simp only [Nat.add_assoc, Nat.reduceAdd]
  go_wp2_with (go_at_call 103; refine (orders_any nn _ (by omega)).mono ?_; rintro e6 w6 ⟨nB, liB, fB, lb, rfl, hV, hLB, g1, g2, g3, g4, g5, g6, g7, hy⟩)
  have hlt5 : w.heap.size + 4 < w5.heap.size := X5.out.lt
  have hlt6 := hLB.lt
  have CV6 := CVx.out.ext hy
  have X6 := X5.out.ext hy
  have hx6 := hx.trans hy
  have hltf : fB < w6.heap.size := by obtain ⟨t, ht⟩ := hV.f; exact ht.lt
  have hN := fact_le hn
  have hs6 := hy.size
  clear c1
  refine (wpIn_wide (n := 5)).1 ?_
  refine wpIn_rangeFunc_ownX (by omega) (gf := 113) (lb := #[.pointer (some ⟨fB, 0, none⟩)]) rfl (enters_of Tryz.func113 (by kernel_rfl) rfl)
    (orders_seq 4 nn nB liB fB lb w6 (by omega) hV hLB g5 g6 g7) (fun h k => KpO.trans h k) (fun W l o o' _ h1 h2 _ => ⟨fun _ _ h => h.put h1 h2 o', fun _ _ h => h.put h1 h2 o', fun _ _ h => h.put h1 h2 o', fun _ _ h => h.put h1 h2 o'⟩) (fun _ => rfl)
    (fun A B h => KeepsFrom.of_grownBy h (fun j e => by simp only [Option.some.injEq] at e; omega))
    (OwnFrom.and (Own.from (blk_own lb _ (fun x : List Int => (x.map (Value.int .i64)).toArray)) _) (ownFrom_pure _ _))
    (fun pre W => CV W w.heap.size nn a a2 cap cap2 least fp ∧ Blk W (w.heap.size + 4) #[.int .i64 (cntL pt l m least pre)] 3 ∧ Below w.heap.size w W)
    (OwnFrom.and (Own.from (cv_own _ _ _ _ _ _ _ _) _) (OwnFrom.and (Own.from (blk_own _ _ _) _) (ownFrom_below (Nat.le_refl _) (by omega))))
    (fun s A B hs hg => ⟨hs.1.row hg (by omega), (hg.block _ hs.2.1.lt (fun e => by simp only [Option.some.injEq] at e; omega)).trans hs.2.1, hs.2.2.grown hg (hs.2.2.size) (fun k e => by simp only [Option.some.injEq] at e; omega)⟩)
    ⟨CV6, X6, hx6⟩ ?a1 ?assign ?body ?done
  case assign =>
    intro l x W K hK
    gi_wp2
    exact hK
  case body =>
    rintro lp pre x W ⟨hC, hX, hB⟩ ⟨hLx, hOx⟩ hlen
    have HLX : Hid (LB W lb x) := Lib.hid hLx
    have HOX := Lib.hid hOx
    have HX := Lib.hid hX
    have HC := Lib.hid hC
    have HS := Lib.hid (psum_bd (pt := pt) (l := l) (m := m) (p := x) (by rw [HL.out, HM.out]; exact HB.out) (by rw [HM.out]; exact hOx) (by rw [HL.out, HM.out]))
    clear hLx hOx hX
    have hlen2 : pre.length < 40320 := by rw [gen_length] at hlen; omega
    have hcl := cntL_le pt l m least pre
    gi_wp2_with fail
    gi_loopw [10, 19] (fun s i wr => ∃ k : Nat, k ≤ nn ∧ i = .int .i64 k ∧ s = .int .i64 (psum pt l m x k) ∧ Ext W wr) (fun _ i _ => nn - (intOf i).toNat)
    case atStart => exact ⟨0, Nat.zero_le _, rfl, rfl, Ext.refl _⟩
    case round =>
      obtain ⟨k, hk, rfl, rfl, hxr⟩ := hrel
      obtain ⟨s1, s2⟩ := HS.out k (by rw [HL.out]; exact hk)
      by_cases hkn : k < nn
      · have hs := psum_succ pt l m x k
        obtain ⟨s3, s4⟩ := HS.out (k + 1) (by rw [HL.out]; exact hkn)
        rw [hs] at s3 s4
        have HSC := Lib.hid hs
        obtain ⟨o1, o2⟩ := HOX.out.2 k hkn
        obtain ⟨j, hj⟩ : ∃ j : Nat, x.getD k 0 = (j : Int) := ⟨(x.getD k 0).toNat, by omega⟩
        have e1 := (LB.cellAt (Blk.ext HLX.out hxr : LB wr lb x) (i := k) (by rw [HOX.out.1]; exact hkn))
        rw [hj] at e1 o2 s3 s4 HSC
        have hjn : j < nn := by omega
        rw [show ((j : Nat) : Int).toNat = j by omega] at s3 s4 HSC
        obtain ⟨b1, q1, rfl, ha⟩ := HI.out.at HL.out hkn
        obtain ⟨b2, q2, rfl, hb⟩ := HI2.out.at HM.out hkn
        have ha := ha k hkn
        have hb := hb j hjn
        have ea := (hxr.cell (p := ⟨b1, q1 + k, none⟩) (Nat.lt_of_lt_of_le (lt_of_cell ha) hB.size)).trans ((hB.cell (p := ⟨b1, q1 + k, none⟩) (lt_of_cell ha)).trans ha)
        have eb := (hxr.cell (p := ⟨b2, q2 + j, none⟩) (Nat.lt_of_lt_of_le (lt_of_cell hb) hB.size)).trans ((hB.cell (p := ⟨b2, q2 + j, none⟩) (lt_of_cell hb)).trans hb)
        have hCr := HC.out.ext hxr
        have CC := Lib.hid (fun W' : Later wr => later_same (W := W') (HP.out k j W'.1 hkn hjn))
        obtain ⟨tp, hpB⟩ := hCr.p
        have L1 := later_cell (hCr.a.cell (i := 0) rfl)
        have L2 := later_cell (hCr.b.cell (i := 0) rfl)
        have L3 := later_cell (hpB.cell (i := 0) rfl)
        have L4 := later_cell ea
        have L5 := later_cell eb
        clear hs hj ha hb ea eb hCr hpB o1 o2 hC
        generalize psum pt l m x k = s at *
        generalize pt (l.getD k 0) (m.getD j 0) = v at *
        generalize l.getD k 0 = x1 at *
        generalize m.getD j 0 = x2 at *
        have hwr : IntKind.i64.wrap (s + v) = s + v := IntWalk.i64_in _ (by omega)
        have g1 : (0 : Int) ≤ (k : Int) := by omega
        have g2 : (k : Int) < (nn : Int) := by omega
        have g3 : (0 : Int) ≤ (j : Int) := by omega
        have g4 : (j : Int) < (nn : Int) := by omega
        gi_wp2_with fail
        have hen := HEN.out
        refine wpIn_region_later_tail 12 (by kernel_rfl) (by kernel_rfl) ?_; simp only [List.take_succ_cons, List.take_zero, List.drop_succ_cons, List.drop_zero]; repeat (go_big_quiet_step (exact CC.out _))
        refine wpQuiet_nil ?_; rintro w7 ⟨⟨W1, HW1⟩, rfl⟩; (try dsimp only)
        clear hen L1 L2 L3 L4 L5 e1 hwr
        gi_wp2_with fail
        go_roundw
        case rel => exact ⟨k + 1, by omega, by go_num, by rw [HSC.out], hxr.trans HW1⟩
        case measure => simp [intOf]; omega
      · obtain rfl : k = nn := by omega
        have hCr := HC.out.ext hxr
        have hXr := HX.out.ext hxr
        have hst := cntL_snoc pt l m least pre x
        rw [HL.out] at hst
        have HST := Lib.hid hst
        have cl := hCr.l.cell (i := 0) (v := .int .i64 least) rfl
        have HXr := Lib.hid hXr
        have HCr := Lib.hid hCr
        generalize psum pt l m x k = s at *
        have kp : KpO nB liB fB lb W wr := ⟨fun _ _ h => h.ext hxr, fun _ _ h => h.ext hxr, fun _ _ h => h.ext hxr, fun _ _ h => h.ext hxr⟩
        by_cases hge : least ≤ s
        · have hst := HST.out
          rw [if_pos hge] at hst
          have HST := Lib.hid hst
          have t1 : decide (least ≤ s) = true := by simpa using hge
          generalize cntL pt l m least pre = c at *
          have cc := HXr.out.cell (i := 0) (v := .int .i64 (c : Int)) rfl
          have fc := HXr.out.free 0
          clear hXr hCr hst hC
          gi_wp2_with fail
          refine ⟨hxr.others.trans (KeepsOthers.setCell _ _ _), kp.trans ⟨fun _ _ h => ?_, fun _ _ h => ?_, fun _ _ h => ?_, fun _ _ h => ?_⟩, HCr.out.other _, ?_, (hB.trans (hxr.mono hB.size)).setCell (p := ⟨w.heap.size + 4, 0, none⟩) (by dsimp only; omega) _⟩
          · exact h.other (p := ⟨w.heap.size + 4, 0, none⟩) (by dsimp only; omega) _
          · exact h.other (p := ⟨w.heap.size + 4, 0, none⟩) (by dsimp only; omega) _
          · exact h.other (p := ⟨w.heap.size + 4, 0, none⟩) (by dsimp only; omega) _
          · exact h.other (p := ⟨w.heap.size + 4, 0, none⟩) (by dsimp only; omega) _
          · rw [HST.out]; exact HXr.out.set 0 _
        · have hst := HST.out
          rw [if_neg hge] at hst
          have HST := Lib.hid hst
          have t1 : decide (least ≤ s) = false := by simpa using hge
          clear hXr hCr hst hC
          gi_wp2_with fail
          exact ⟨hxr.others, kp, HCr.out, by rw [HST.out]; exact HXr.out, hB.trans (hxr.mono hB.size)⟩
  case done =>
    rintro D ys W hD rfl ⟨hC, hX, hB⟩ hK
    have cB := cntL_le pt l m least (gen nn 0 (iota nn))
    have hcnt : cntG pt l m least = cntL pt l m least (gen nn 0 (iota nn)) := by unfold cntG; rw [HL.out]
    have HC := Lib.hid hcnt
    clear hcnt
    generalize cntL pt l m least (gen nn 0 (iota nn)) = c at *
    have k0 := hX.cell (i := 0) (v := .int .i64 (c : Int)) rfl
    have f0 := hX.free 0
    have HK := Lib.hid hK
    have HX := Lib.hid hX
    clear hK hX
    go_wp2_with fail
    have hK' := (KeepsOthers.setCell W ⟨w.heap.size + 4, 0, none⟩ (.int .i64 (c : Int))).same D _ HK.out rfl
    refine ⟨by simp, .inl ⟨_, _, rfl, run_takeDeferred hK', ?_⟩⟩
    have kt := (HX.out.set 0 (.int .i64 (c : Int))).put hK' rfl (.deferred none)
    have k0 := kt.cell (i := 0) (v := .int .i64 (c : Int)) rfl
    refine ⟨.int .i64 (c : Int), by simp [results, Tryz.f85, go_sem, k0], by rw [HC.out], ?_⟩
    exact Below.trans (hB.setCell (p := ⟨w.heap.size + 4, 0, none⟩) (by dsimp only; omega) _) (belowK_b (n₀ := w.heap.size) (w := w) (Nat.le_refl _) _ D _ _ (by omega) hK' rfl rfl)
end Go.Proofs.YtmcbbhlglccmgaaGreat

