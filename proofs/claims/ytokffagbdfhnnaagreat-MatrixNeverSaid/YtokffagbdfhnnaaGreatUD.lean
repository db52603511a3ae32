import Derived.Test.YtokffagbdfhnnaaGreatUA
import Derived.Test.YtokffagbdfhnnaaGreatUC
import Derived.OwnWalk
import Derived.Deep.QuietTactic
namespace Go.Proofs.YtokffagbdfhnnaaGreat
open Go.RowKit Go BigFrame Go.Shelf
set_option maxRecDepth 100000
set_option linter.unusedSimpArgs false
set_option linter.unusedVariables false
attribute [local go_sem] Oper.semAt_some

/-! Layer 11: the law's sums, over numbers that may not be valid. -/
def RatM (w : World) (x : RatC) : Option Rat → Prop
  | some r => RatV w x.val r
  | none => ∃ l m : List Int, l.length = x.q ∧ m.length = x.k ∧ Ints w x.a x.c l ∧ Ints w x.b x.d m ∧ okR x.n l x.m m = false
theorem RatM.ext {w w' : World} {x : RatC} : ∀ {o : Option Rat}, RatM w x o → Ext w w' → RatM w' x o
  | some _, h, k => RatV.ext h k
  | none, ⟨l, m, h1, h2, h3, h4, h5⟩, k => ⟨l, m, h1, h2, h3.ext k, h4.ext k, h5⟩
theorem RatM.raw {w : World} {x : RatC} : ∀ {o : Option Rat}, RatM w x o → ∃ y : RatA, x.val = y.val ∧ Ints w y.a y.c y.l ∧ Ints w y.b y.d y.m ∧ (o = none → y.ok = false)
  | some r, h => by
    have h' : RatV w x.val r := h
    obtain ⟨l, e1, h1, _⟩ := h'.num.parts
    obtain ⟨m, e2, h2, _⟩ := h'.den.parts
    exact ⟨⟨x.n, x.a, x.c, l, x.m, x.b, x.d, m⟩, by simp only [RatA.val, RatC.val, e1, e2], h1, h2, fun e => by cases e⟩
  | none, ⟨l, m, e1, e2, h1, h2, h3⟩ => ⟨⟨x.n, x.a, x.c, l, x.m, x.b, x.d, m⟩, by simp only [RatA.val, RatC.val, e1, e2], h1, h2, fun _ => h3⟩
/-- A slice of N ratios, valid or not. -/
structure RatsM (w : World) (a : Option Addr) (cap N : Nat) (V : Nat → RatC) (f : Nat → Option Rat) : Prop where
  le : N ≤ cap
  mx : cap ≤ 9223372036854775807
  nil : a = none → cap = 0
  cells : ∀ A, a = some A → ∀ c, c < N → A.spot = none ∧ w.cell? ⟨A.block, A.off + c * 4, none⟩ = some (.bool (V c).n) ∧ w.cell? ⟨A.block, A.off + c * 4 + 1, none⟩ = some (.slice (V c).a (V c).q (V c).c) ∧
    w.cell? ⟨A.block, A.off + c * 4 + 2, none⟩ = some (.bool (V c).m) ∧ w.cell? ⟨A.block, A.off + c * 4 + 3, none⟩ = some (.slice (V c).b (V c).k (V c).d)
  val : ∀ c, c < N → RatM w (V c) (f c)
section
variable {w w' : World} {a : Option Addr} {cap N : Nat} {V : Nat → RatC} {f : Nat → Option Rat}
theorem RatsM.ext (h : RatsM w a cap N V f) (k : Ext w w') : RatsM w' a cap N V f :=
  ⟨h.le, h.mx, h.nil, fun A hA c hc => by
    obtain ⟨h0, h1, h2, h3, h4⟩ := h.cells A hA c hc
    exact ⟨h0, cell_exQ k h1, cell_exQ k h2, cell_exQ k h3, cell_exQ k h4⟩, fun c hc => (h.val c hc).ext k⟩
theorem RatsM.head (h : RatsM w a cap N V f) {i : Nat} (hi : i < N) : ∃ b o, a = some ⟨b, o, none⟩ := by
  cases a with
  | none => have := h.nil rfl; have := h.le; omega
  | some A =>
    obtain ⟨h0, _⟩ := h.cells A rfl i hi
    obtain ⟨b, o, s⟩ := A
    dsimp only at h0
    exact ⟨b, o, by rw [h0]⟩
theorem RowR.toM {F : Nat → Rat} (h : RowR w a cap N V F) : RatsM w a cap N V (fun c => some (F c)) := ⟨h.le, h.mx, h.nil, h.cells, h.val⟩
end
def optA (x : RatA) : Option Rat := if x.ok then some (valA x) else none
def vecO (L : List RatA) : Nat → Option Rat := fun c => optA (L.getD c noA)
theorem optA_M {w : World} {x : RatA} (h : RatI w x) : RatM w ⟨x.n, x.a, x.l.length, x.c, x.n2, x.b, x.m.length, x.d⟩ (optA x) := by
  unfold optA
  by_cases e : x.ok = true
  · rw [if_pos e]; exact (ok_valA e).1 w h
  · rw [if_neg e]; exact ⟨x.l, x.m, rfl, rfl, h.i, h.j, (Bool.not_eq_true _).mp e⟩
theorem rats_M {L : List RatA} {w : World} {a : Option Addr} {cap : Nat} (k : RatsI w a cap L) : RatsM w a cap L.length (vecV L) (vecO L) :=
  ⟨k.le, k.mx, k.nil, fun A hA c hc => by
    have e : L.getD c noA = L[c] := by rw [List.getD_eq_getElem?_getD, List.getElem?_eq_getElem hc]; rfl
    obtain ⟨g0, g1, g2, g3, g4⟩ := k.cells A hA c hc
    unfold vecV
    rw [e]
    exact ⟨g0, g1, g2, g3, g4⟩, fun c hc => by
    have e : L.getD c noA = L[c] := by rw [List.getD_eq_getElem?_getD, List.getElem?_eq_getElem hc]; rfl
    unfold vecV vecO
    rw [e]
    exact optA_M (k.ints c hc)⟩
def addO : Option Rat → Option Rat → Option Rat
  | some x, some y => some (x + y)
  | _, _ => none
def mulO : Option Rat → Option Rat → Option Rat
  | some x, some y => some (x * y)
  | _, _ => none
/-- The sum of the products, if all numbers are valid. -/
def dotM (f g : Nat → Option Rat) : Nat → Option Rat
  | 0 => some 0
  | n + 1 => addO (dotM f g n) (mulO (f n) (g n))
theorem dotM_some {f g : Nat → Option Rat} {F G : Nat → Rat} : ∀ {n : Nat}, (∀ c, c < n → f c = some (F c) ∧ g c = some (G c)) → dotM f g n = some (dotX n F G)
  | 0, _ => rfl
  | n + 1, h => by
    unfold dotM
    rw [dotM_some fun c hc => h c (by omega), (h n (by omega)).1, (h n (by omega)).2]
    rfl
theorem dotM_none {f g : Nat → Option Rat} {c : Nat} (hc : f c = none ∨ g c = none) : ∀ {n : Nat}, c < n → dotM f g n = none
  | n + 1, h => by
    unfold dotM
    by_cases e : c = n
    · subst e
      have : mulO (f c) (g c) = none := by rcases hc with h1 | h1 <;> rw [h1] <;> (first | rfl | (cases f c <;> rfl))
      rw [this]
      cases dotM f g c <;> rfl
    · rw [dotM_none hc (by omega)]; rfl
theorem dotM_sz {f g : Nat → Option Rat} {p q : Nat} : ∀ {n : Nat}, (∀ c, c < n → (∀ r, f c = some r → Sz r p) ∧ ∀ r, g c = some r → Sz r q) → ∀ {s : Rat}, dotM f g n = some s → Sz s (1 + (p + q + 1) * n)
  | 0, _, s, hs => by
    have : s = 0 := by unfold dotM at hs; exact (Option.some.inj hs).symm
    subst this
    rw [Nat.mul_zero]
    exact ⟨by decide, by decide⟩
  | n + 1, h, s, hs => by
    unfold dotM at hs
    cases hd : dotM f g n with
    | none => rw [hd] at hs; cases hs
    | some t =>
      cases hf : f n with
      | none => rw [hd, hf] at hs; cases hs
      | some x =>
        cases hg : g n with
        | none => rw [hd, hf, hg] at hs; cases hs
        | some y =>
          rw [hd, hf, hg] at hs
          have e9 : s = t + x * y := (Option.some.inj hs).symm
          have ih := dotM_sz (n := n) (fun c hc => h c (by omega)) hd
          have h2 := h n (by omega)
          have e : 1 + (p + q + 1) * (n + 1) = 1 + (p + q + 1) * n + (p + q) + 1 := by rw [Nat.mul_succ]; omega
          rw [e, e9]
          exact ih.add ((h2.1 x hf).mul (h2.2 y hg))
theorem noRat_bad {w : World} : Ints w none 0 [] := ⟨Nat.le_refl _, by omega, fun _ => rfl, fun A hA => by cases hA⟩
theorem mul_bad {w : World} {x y : RatC} {o p : Option Rat} (hv : RatM w x o) (hu : RatM w y p) (hn : o = none ∨ p = none) : Calls Tryz.prog 40 #[x.val, y.val] w (RatE 100 w) := by
  obtain ⟨x', e1, h1, h2, h3⟩ := hv.raw
  obtain ⟨y', e2, h4, h5, h6⟩ := hu.raw
  rw [e1, e2]
  refine ratio_Mul_bad x' y' w h1 h2 h4 h5 ?_
  rcases hn with e | e
  · rw [h3 e]; rfl
  · rw [h6 e, Bool.and_false]
theorem add_bad {w : World} {v : Value} {r : Rat} (hv : RatV w v r) : Calls Tryz.prog 41 #[v, zeroRat] w (RatE 100 w) := by
  obtain ⟨nx, ax, qx, cx, bx, kx, dx, rfl⟩ := hv.form
  obtain ⟨x', e1, h1, h2, h3⟩ := RatM.raw (w := w) (x := ⟨nx, ax, qx, cx, false, bx, kx, dx⟩) (o := some r) hv
  have := ratio_Add_bad x' ⟨false, none, 0, [], false, none, 0, []⟩ w h1 h2 noRat_bad noRat_bad (by rw [show RatA.ok ⟨false, none, 0, [], false, none, 0, []⟩ = false from by decide, Bool.and_false])
  rw [← e1] at this
  exact this
def SumM (o : Option Rat) (w : World) (e : Ending) (w' : World) : Prop := ∃ (n : Bool) (a : Option Addr) (q c : Nat) (b : Option Addr) (k d : Nat), e = .returned (.tuple #[.agg #[.bool n, .slice a q c, .bool false, .slice b k d], .bool o.isSome]) ∧ (∀ r, o = some r → RatV w' (.agg #[.bool n, .slice a q c, .bool false, .slice b k d]) r) ∧ Ext w w'
set_option maxHeartbeats 8000000 in
theorem law11_sum (a : Option Addr) (cap N : Nat) (V : Nat → RatC) (f : Nat → Option Rat) (b : Option Addr) (cb : Nat) (U : Nat → RatC) (x : Nat → Option Rat) (p q : Nat) (w : World)
    (ha : RatsM w a cap N V f) (hb : RatsM w b cb N U x) (hsz : ∀ c, c < N → (∀ r, f c = some r → Sz r p) ∧ ∀ r, x c = some r → Sz r q) (hN : 1 + (p + q + 1) * N ≤ 2048) :
    Calls Tryz.prog 47 #[.slice a N cap, .slice b N cb] w (SumM (dotM f x N) w) := by
  have hle := ha.le
  have hmx := ha.mx
  have ble := hb.le
  have bmx := hb.mx
  have HA := Lib.hid ha
  have HB := Lib.hid hb
  have HZ := Lib.hid hsz
  have HN := Lib.hid hN
  clear ha hb hsz hN
  obtain ⟨x1, hw, hx, Ks⟩ := boxQ1 w #[.bool false, .slice none 0 0, .bool false, .slice none 0 0] 44
  replace hw := Lib.hid hw
  go_enter Tryz.func47, Tryz.ntmps47
  go_upto_region 1 with fail
  try simp only [Nat.add_assoc, Nat.reduceAdd, Nat.add_zero]
  rw [hw.out]
  clear hw
  have hs0 := hx.size
  have hsz := hx.size
  go_wp2_with fail
  with_reducible refine (law11_num 0 1 _ (by omega) (by omega) (by omega)).mono ?_
  rintro e x2 ⟨v, rfl, hv, hy⟩
  replace hx := hx.trans hy
  replace Ks := kE Ks hy
  clear hy
  obtain ⟨n0, a0, q0, c0, b0, k0, d0, rfl, hv', hf', hg'⟩ := hv
  have e01 : Rat.divInt 0 1 = 0 := by decide +kernel
  rw [e01] at hv'
  have V0 := Lib.hid hv'
  clear hv' hf' hg' hsz e01
  obtain ⟨g0, z0, g1, z1, g2, z2, g3, z3⟩ := bp4 Ks (.bool n0) (.slice a0 q0 c0) (.bool false) (.slice b0 k0 d0)
  go_upto_region 2 with fail
  clear g0 z0 g1 z1 g2 z2 g3 z3
  replace V0 := (by first | exact rv4 V0 Ks (.bool n0) (.slice a0 q0 c0) (.bool false) (.slice b0 k0 d0) rfl rfl rfl rfl | exact bv4 V0 Ks (.bool n0) (.slice a0 q0 c0) (.bool false) (.slice b0 k0 d0) rfl rfl rfl rfl)
  replace hx := bx4 hx (w.heap.size) (.bool n0) (.slice a0 q0 c0) (.bool false) (.slice b0 k0 d0) (by omega)
  replace Ks := bs4 Ks (.bool n0) (.slice a0 q0 c0) (.bool false) (.slice b0 k0 d0)
  generalize ((((x2).setCell ⟨w.heap.size, 0, none⟩ (.bool n0)).setCell ⟨w.heap.size, 1, none⟩ (.slice a0 q0 c0)).setCell ⟨w.heap.size, 2, none⟩ (.bool false)).setCell ⟨w.heap.size, 3, none⟩ (.slice b0 k0 d0) = x3 at *
  have HX0 := Lib.hid hx
  clear hx
  go_wp2_with fail
  go_loopw [6] (fun v wr => ∃ i : Nat, i ≤ N ∧ v = .int .i64 i ∧ ∃ (t : RatC) (s : Rat), Blk wr w.heap.size #[.bool t.n, .slice t.a t.q t.c, .bool t.m, .slice t.b t.k t.d] 44 ∧ RatV wr t.val s ∧ t.m = false ∧ dotM f x i = some s ∧ Ext w wr) (fun v _ => N - (intOf v).toNat)
  case atStart => exact ⟨0, Nat.zero_le _, rfl, ⟨n0, a0, q0, c0, false, b0, k0, d0⟩, 0, Ks.out, V0.out, rfl, rfl, HX0.out⟩
  case round =>
    obtain ⟨i, hi, rfl, ⟨nt, at1, qt, ct, mt, bt, kt, dt⟩, s, hks, hvt, hmt, hdt, hx⟩ := hrel
    dsimp only [RatC.val] at hks hvt hmt
    subst hmt
    have i0 : (0 : Int) ≤ (i : Int) := by omega
    by_cases hiN : i < N
    · have i1 : (i : Int) < (N : Int) := by omega
      have hw1 : IntKind.i64.wrap ((i : Int) + 1) = (i : Int) + 1 := IntWalk.i64_in _ (by omega)
      have hA := HA.out.ext hx
      have hB' := HB.out.ext hx
      obtain ⟨ba, oa, rfl⟩ := HA.out.head hiN
      obtain ⟨bb, ob, rfl⟩ := HB.out.head hiN
      obtain ⟨_, c0, c1, c2, c3⟩ := hA.cells _ rfl i hiN
      obtain ⟨_, d0, d1, d2, d3⟩ := hB'.cells _ rfl i hiN
      have vx := hA.val i hiN
      have vy := hB'.val i hiN
      have zx := (HZ.out i hiN).1
      have zy := (HZ.out i hiN).2
      have ZT : Hid (Sz s (1 + (p + q + 1) * i)) := Lib.hid (dotM_sz (n := i) (fun c hc => HZ.out c (by omega)) hdt)
      have hmN : (p + q + 1) * (i + 1) ≤ (p + q + 1) * N := Nat.mul_le_mul_left _ (by omega)
      have HMN : Hid (1 + (p + q + 1) * i + (p + q) + 1 ≤ 2048) := Lib.hid (by have := HN.out; rw [Nat.mul_succ] at hmN; omega)
      have HPQ : Hid (p + q ≤ 2048) := Lib.hid (by have := HMN.out; omega)
      have HS1 : Hid (dotM f x (i + 1) = addO (some s) (mulO (f i) (x i))) := Lib.hid (by unfold dotM; rw [hdt])
      have HS2 : Hid (mulO (f i) (x i) = none → dotM f x N = none) := Lib.hid fun h => by
        refine dotM_none (c := i) ?_ hiN
        cases hf : f i with
        | none => exact .inl rfl
        | some r =>
          cases hg : x i with
          | none => exact .inr rfl
          | some t => rw [hf, hg] at h; cases h
      generalize V i = xc at *
      obtain ⟨nx, ax, qx, cx, mx, bx, kx, dx⟩ := xc
      generalize U i = yc at *
      obtain ⟨ny, ay, qy, cy, my, by_, ky, dy⟩ := yc
      dsimp only at c0 c1 c2 c3 d0 d1 d2 d3
      have HDT := Lib.hid hdt
      have Ks := Lib.hid hks
      have VT := Lib.hid hvt
      clear hA hB' hks hvt hdt hmN
      go_upto_region 5 with fail
      by_cases hbad : f i = none ∨ x i = none
      · have HE : Hid (mulO (f i) (x i) = none) := Lib.hid (by rcases hbad with h | h <;> rw [h] <;> (first | rfl | (cases f i <;> rfl)))
        have VX := Lib.hid vx
        have VY := Lib.hid vy
        clear vx vy zx zy
        go_cut [7, 8] (fun s1 s2 wx => ∃ (p : Nat), s1 = .pointer (some ⟨p, 0, none⟩) ∧ s2 = .int .i64 100 ∧ Blk wx w.heap.size #[.bool nt, .slice at1 qt ct, .bool false, .slice bt kt dt] 44 ∧ p ≠ w.heap.size ∧ Blk wx p #[.bool false, .slice none 0 0, .bool false, .slice none 0 0] 44 ∧ RatV wx (.agg #[.bool nt, .slice at1 qt ct, .bool false, .slice bt kt dt]) s ∧ Ext w wx)
        case first =>
          have s0 : World.cell? wr ⟨ba, oa + i * 4, none⟩ = some (.bool nx) := c0
          have s1 : World.cell? wr ⟨ba, oa + i * 4 + 1, none⟩ = some (.slice ax qx cx) := c1
          have s2 : World.cell? wr ⟨ba, oa + i * 4 + 2, none⟩ = some (.bool mx) := c2
          have s3 : World.cell? wr ⟨ba, oa + i * 4 + 3, none⟩ = some (.slice bx kx dx) := c3
          have s4 : World.cell? wr ⟨bb, ob + i * 4, none⟩ = some (.bool ny) := d0
          have s5 : World.cell? wr ⟨bb, ob + i * 4 + 1, none⟩ = some (.slice ay qy cy) := d1
          have s6 : World.cell? wr ⟨bb, ob + i * 4 + 2, none⟩ = some (.bool my) := d2
          have s7 : World.cell? wr ⟨bb, ob + i * 4 + 3, none⟩ = some (.slice by_ ky dy) := d3
          have hE : Ext wr (World.drew wr) := (Ext.refl _).drew
          have hyd : Ext wr (World.drew wr) := (Ext.refl _).drew
          replace hx := hx.trans hyd
          replace Ks := kE Ks hyd
          replace VT := Lib.hid (VT.out.ext hyd)
          replace VX := Lib.hid (VX.out.ext hyd)
          replace VY := Lib.hid (VY.out.ext hyd)
          clear hyd
          replace s0 : World.cell? (World.drew wr) ⟨ba, oa + i * 4, none⟩ = some (.bool nx) := s0
          replace s1 : World.cell? (World.drew wr) ⟨ba, oa + i * 4 + 1, none⟩ = some (.slice ax qx cx) := s1
          replace s2 : World.cell? (World.drew wr) ⟨ba, oa + i * 4 + 2, none⟩ = some (.bool mx) := s2
          replace s3 : World.cell? (World.drew wr) ⟨ba, oa + i * 4 + 3, none⟩ = some (.slice bx kx dx) := s3
          replace s4 : World.cell? (World.drew wr) ⟨bb, ob + i * 4, none⟩ = some (.bool ny) := s4
          replace s5 : World.cell? (World.drew wr) ⟨bb, ob + i * 4 + 1, none⟩ = some (.slice ay qy cy) := s5
          replace s6 : World.cell? (World.drew wr) ⟨bb, ob + i * 4 + 2, none⟩ = some (.bool my) := s6
          replace s7 : World.cell? (World.drew wr) ⟨bb, ob + i * 4 + 3, none⟩ = some (.slice by_ ky dy) := s7
          refine wp_region_held_drew (S := (fun w' => World.cell? w' ⟨ba, oa + i * 4, none⟩ = some (.bool nx) ∧ World.cell? w' ⟨ba, oa + i * 4 + 1, none⟩ = some (.slice ax qx cx) ∧ World.cell? w' ⟨ba, oa + i * 4 + 2, none⟩ = some (.bool mx) ∧ World.cell? w' ⟨ba, oa + i * 4 + 3, none⟩ = some (.slice bx kx dx) ∧ World.cell? w' ⟨bb, ob + i * 4, none⟩ = some (.bool ny) ∧ World.cell? w' ⟨bb, ob + i * 4 + 1, none⟩ = some (.slice ay qy cy) ∧ World.cell? w' ⟨bb, ob + i * 4 + 2, none⟩ = some (.bool my) ∧ World.cell? w' ⟨bb, ob + i * 4 + 3, none⟩ = some (.slice by_ ky dy))) (by kernel_rfl) ?_ (fun hHeld => ?_)
          · exact ⟨s0, s1, s2, s3, s4, s5, s6, s7⟩
          (try simp only [pur, Nat.reduceAdd])
          generalize World.drew wr = x21 at *
          refine tk (v := ?_) 0 rfl (by kernel_rfl) (fun _ _ _ h => h) (by rfl) ?_ (by assumption) ?_
          rotate_left
          · (intro w hSw; (try dsimp only at hSw); (try go_simp); (try with_reducible rfl))
          (try simp only [Act.put, pus])
          refine tk (v := ?_) 1 rfl (by kernel_rfl) (fun _ _ _ h => h) (by rfl) ?_ (by assumption) ?_
          rotate_left
          · (intro w hSw; (try dsimp only at hSw); (try go_simp); (try with_reducible rfl))
          (try simp only [Act.put, pus])
          refine tk (v := ?_) 2 rfl (by kernel_rfl) (fun _ _ _ h => h) (by rfl) ?_ (by assumption) ?_
          rotate_left
          · (intro w hSw; (try dsimp only at hSw); (try go_simp); (try with_reducible rfl))
          (try simp only [Act.put, pus])
          refine tk (v := ?_) 3 rfl (by kernel_rfl) (fun _ _ _ h => h) (by rfl) ?_ (by assumption) ?_
          rotate_left
          · (intro w hSw; (try dsimp only at hSw); (try go_simp); (try with_reducible rfl))
          (try simp only [Act.put, pus])
          refine tk (v := ?_) 4 rfl (by kernel_rfl) (fun _ _ _ h => h) (by rfl) ?_ (by assumption) ?_
          rotate_left
          · (intro w hSw; (try dsimp only at hSw); (try go_simp); (try with_reducible rfl))
          (try simp only [Act.put, pus])
          refine tk (v := ?_) 5 rfl (by kernel_rfl) (fun _ _ _ h => h) (by rfl) ?_ (by assumption) ?_
          rotate_left
          · (intro w hSw; (try dsimp only at hSw); (try go_simp); (try with_reducible rfl))
          (try simp only [Act.put, pus])
          refine tk (v := ?_) 6 rfl (by kernel_rfl) (fun _ _ _ h => h) (by rfl) ?_ (by assumption) ?_
          rotate_left
          · (intro w hSw; (try dsimp only at hSw); (try go_simp); (try with_reducible rfl))
          (try simp only [Act.put, pus])
          refine tk (v := ?_) 7 rfl (by kernel_rfl) (fun _ _ _ h => h) (by rfl) ?_ (by assumption) ?_
          rotate_left
          · (intro w hSw; (try dsimp only at hSw); (try go_simp); (try with_reducible rfl))
          (try simp only [Act.put, pus])
          refine wpAnyH_ready (rs := [8, 12]) (by kernel_rfl) (by simp) ?_
          refine AllReadyH.cons (o := _) rfl (fun K hK => ?_) ?_
          · go_simp
            (with_reducible refine (mul_bad (x := ⟨nx, ax, qx, cx, mx, bx, kx, dx⟩) (y := ⟨ny, ay, qy, cy, my, by_, ky, dy⟩) VX.out VY.out hbad).mono ?_); rintro e x22 ⟨rfl, hy⟩; replace hE := hE.trans hy; replace hx := hx.trans hy; replace s0 := cell_exQ hy s0; replace s1 := cell_exQ hy s1; replace s2 := cell_exQ hy s2; replace s3 := cell_exQ hy s3; replace s4 := cell_exQ hy s4; replace s5 := cell_exQ hy s5; replace s6 := cell_exQ hy s6; replace s7 := cell_exQ hy s7; replace Ks := kE Ks hy; replace VT := Lib.hid (VT.out.ext hy); replace VX := Lib.hid (VX.out.ext hy); replace VY := Lib.hid (VY.out.ext hy); clear hy
            refine hK.out _ _ ?_ (fun hHeld2 => ?_)
            · exact ⟨s0, s1, s2, s3, s4, s5, s6, s7⟩
            clear hK K hHeld
            have hHeld := hHeld2
            clear hHeld2
            (try simp only [Act.put, pus])
            refine tk (v := ?_) 9 rfl (by kernel_rfl) (fun _ _ _ h => h) (by rfl) ?_ (by assumption) ?_
            rotate_left
            · (intro w hSw; (try dsimp only at hSw); (try go_simp); (try with_reducible rfl))
            (try simp only [Act.put, pus])
            refine tk (v := ?_) 10 rfl (by kernel_rfl) (fun _ _ _ h => h) (by rfl) ?_ (by assumption) ?_
            rotate_left
            · (intro w hSw; (try dsimp only at hSw); (try go_simp); (try with_reducible rfl))
            (try simp only [Act.put, pus])
            refine tk (v := ?_) 11 rfl (by kernel_rfl) (fun _ _ _ h => h) (by rfl) ?_ (by assumption) ?_
            rotate_left
            · (intro w hSw; (try dsimp only at hSw); (try go_simp); (try with_reducible rfl))
            (try simp only [Act.put, pus])
            refine wpAnyH_ready (rs := [12]) (by kernel_rfl) (by simp) ?_
            refine AllReadyH.cons (o := _) rfl (fun K hK => ?_) ?_
            · go_simp
              have hy : Ext x22 (World.alloc x22 (.cells #[.bool false, .slice none 0 0, .bool false, .slice none 0 0] 44)) := Ext.alloc _ _; have lsp : w.heap.size < Array.size (World.heap x22) := Ks.out.lt; have hpp : w.heap.size ≤ Array.size (World.heap x22) := hx.size; have hqp := hE.size; replace hE := hE.trans hy; replace hx := hx.trans hy; have mp0 := lt_of_cell s0; replace s0 := cell_exQ hy s0; have mp1 := lt_of_cell s1; replace s1 := cell_exQ hy s1; have mp2 := lt_of_cell s2; replace s2 := cell_exQ hy s2; have mp3 := lt_of_cell s3; replace s3 := cell_exQ hy s3; have mp4 := lt_of_cell s4; replace s4 := cell_exQ hy s4; have mp5 := lt_of_cell s5; replace s5 := cell_exQ hy s5; have mp6 := lt_of_cell s6; replace s6 := cell_exQ hy s6; have mp7 := lt_of_cell s7; replace s7 := cell_exQ hy s7; replace Ks := kE Ks hy; replace VT := Lib.hid (VT.out.ext hy); replace VX := Lib.hid (VX.out.ext hy); replace VY := Lib.hid (VY.out.ext hy); have Kp := Lib.hid (Blk.new0 x22 #[.bool false, .slice none 0 0, .bool false, .slice none 0 0] 44); clear hy; generalize World.alloc x22 (.cells #[.bool false, .slice none 0 0, .bool false, .slice none 0 0] 44) = x23 at *; generalize Array.size (World.heap x22) = pp at *
              refine hK.out _ _ ?_ (fun hHeld2 => ?_)
              · exact ⟨s0, s1, s2, s3, s4, s5, s6, s7⟩
              clear hK K hHeld
              have hHeld := hHeld2
              clear hHeld2
              (try simp only [Act.put, pus])
              refine wpAnyH_ready (rs := [13]) (by kernel_rfl) (by simp) ?_
              refine AllReadyH.cons (o := _) rfl (fun K hK => ?_) ?_
              · obtain ⟨g0, z0, g1, z1, g2, z2, g3, z3⟩ := bp4 Kp (.bool false) (.slice none 0 0) (.bool false) (.slice none 0 0); go_simp; clear g0 z0 g1 z1 g2 z2 g3 z3; replace VT := (by first | exact rv4 VT Kp (.bool false) (.slice none 0 0) (.bool false) (.slice none 0 0) rfl rfl rfl rfl | exact bv4 VT Kp (.bool false) (.slice none 0 0) (.bool false) (.slice none 0 0) rfl rfl rfl rfl); replace hx := bx4 hx (pp) (.bool false) (.slice none 0 0) (.bool false) (.slice none 0 0) (by omega); replace hE := bx4 hE (pp) (.bool false) (.slice none 0 0) (.bool false) (.slice none 0 0) (by omega); replace s0 := bf4 s0 (pp) (.bool false) (.slice none 0 0) (.bool false) (.slice none 0 0) (by omega); replace s1 := bf4 s1 (pp) (.bool false) (.slice none 0 0) (.bool false) (.slice none 0 0) (by omega); replace s2 := bf4 s2 (pp) (.bool false) (.slice none 0 0) (.bool false) (.slice none 0 0) (by omega); replace s3 := bf4 s3 (pp) (.bool false) (.slice none 0 0) (.bool false) (.slice none 0 0) (by omega); replace s4 := bf4 s4 (pp) (.bool false) (.slice none 0 0) (.bool false) (.slice none 0 0) (by omega); replace s5 := bf4 s5 (pp) (.bool false) (.slice none 0 0) (.bool false) (.slice none 0 0) (by omega); replace s6 := bf4 s6 (pp) (.bool false) (.slice none 0 0) (.bool false) (.slice none 0 0) (by omega); replace s7 := bf4 s7 (pp) (.bool false) (.slice none 0 0) (.bool false) (.slice none 0 0) (by omega); replace Ks := bo4 Ks (pp) (.bool false) (.slice none 0 0) (.bool false) (.slice none 0 0) (by omega); replace Kp := bs4 Kp (.bool false) (.slice none 0 0) (.bool false) (.slice none 0 0); generalize (World.setCell (World.setCell (World.setCell (World.setCell x23 ⟨pp, 0, none⟩ (.bool false)) ⟨pp, 1, none⟩ (.slice none 0 0)) ⟨pp, 2, none⟩ (.bool false)) ⟨pp, 3, none⟩ (.slice none 0 0)) = xe at *
                refine hK.out _ _ ?_ (fun hHeld2 => ?_)
                · exact ⟨s0, s1, s2, s3, s4, s5, s6, s7⟩
                clear hK K hHeld
                have hHeld := hHeld2
                clear hHeld2
                (try simp only [Act.put, pus])
                refine tk (v := ?_) 14 rfl (by kernel_rfl) (fun _ _ _ h => h) (by rfl) ?_ (by assumption) ?_
                rotate_left
                · (intro w hSw; (try dsimp only at hSw); (try go_simp); (try with_reducible rfl))
                (try simp only [Act.put, pus])
                refine wpAnyH_done (by kernel_rfl) ?_ _
                (go_wp2_with fail; go_meet; exact ⟨_, rfl, rfl, Ks.out, by omega, Kp.out, VT.out, hx⟩)
              exact AllReadyH.nil
            exact AllReadyH.nil
          refine AllReadyH.cons (o := _) rfl (fun K hK => ?_) ?_
          · go_simp
            have hy : Ext x21 (World.alloc x21 (.cells #[.bool false, .slice none 0 0, .bool false, .slice none 0 0] 44)) := Ext.alloc _ _; have lsp : w.heap.size < Array.size (World.heap x21) := Ks.out.lt; have hpp : w.heap.size ≤ Array.size (World.heap x21) := hx.size; have hqp := hE.size; replace hE := hE.trans hy; replace hx := hx.trans hy; have mp0 := lt_of_cell s0; replace s0 := cell_exQ hy s0; have mp1 := lt_of_cell s1; replace s1 := cell_exQ hy s1; have mp2 := lt_of_cell s2; replace s2 := cell_exQ hy s2; have mp3 := lt_of_cell s3; replace s3 := cell_exQ hy s3; have mp4 := lt_of_cell s4; replace s4 := cell_exQ hy s4; have mp5 := lt_of_cell s5; replace s5 := cell_exQ hy s5; have mp6 := lt_of_cell s6; replace s6 := cell_exQ hy s6; have mp7 := lt_of_cell s7; replace s7 := cell_exQ hy s7; replace Ks := kE Ks hy; replace VT := Lib.hid (VT.out.ext hy); replace VX := Lib.hid (VX.out.ext hy); replace VY := Lib.hid (VY.out.ext hy); have Kp := Lib.hid (Blk.new0 x21 #[.bool false, .slice none 0 0, .bool false, .slice none 0 0] 44); clear hy; generalize World.alloc x21 (.cells #[.bool false, .slice none 0 0, .bool false, .slice none 0 0] 44) = x24 at *; generalize Array.size (World.heap x21) = pp at *
            refine hK.out _ _ ?_ (fun hHeld2 => ?_)
            · exact ⟨s0, s1, s2, s3, s4, s5, s6, s7⟩
            clear hK K hHeld
            have hHeld := hHeld2
            clear hHeld2
            (try simp only [Act.put, pus])
            refine wpAnyH_ready (rs := [8]) (by kernel_rfl) (by simp) ?_
            refine AllReadyH.cons (o := _) rfl (fun K hK => ?_) ?_
            · go_simp
              (with_reducible refine (mul_bad (x := ⟨nx, ax, qx, cx, mx, bx, kx, dx⟩) (y := ⟨ny, ay, qy, cy, my, by_, ky, dy⟩) VX.out VY.out hbad).mono ?_); rintro e x25 ⟨rfl, hy⟩; replace hE := hE.trans hy; replace hx := hx.trans hy; replace s0 := cell_exQ hy s0; replace s1 := cell_exQ hy s1; replace s2 := cell_exQ hy s2; replace s3 := cell_exQ hy s3; replace s4 := cell_exQ hy s4; replace s5 := cell_exQ hy s5; replace s6 := cell_exQ hy s6; replace s7 := cell_exQ hy s7; replace Ks := kE Ks hy; replace Kp := kE Kp hy; replace VT := Lib.hid (VT.out.ext hy); replace VX := Lib.hid (VX.out.ext hy); replace VY := Lib.hid (VY.out.ext hy); clear hy
              refine hK.out _ _ ?_ (fun hHeld2 => ?_)
              · exact ⟨s0, s1, s2, s3, s4, s5, s6, s7⟩
              clear hK K hHeld
              have hHeld := hHeld2
              clear hHeld2
              (try simp only [Act.put, pus])
              refine tk (v := ?_) 9 rfl (by kernel_rfl) (fun _ _ _ h => h) (by rfl) ?_ (by assumption) ?_
              rotate_left
              · (intro w hSw; (try dsimp only at hSw); (try go_simp); (try with_reducible rfl))
              (try simp only [Act.put, pus])
              refine tk (v := ?_) 10 rfl (by kernel_rfl) (fun _ _ _ h => h) (by rfl) ?_ (by assumption) ?_
              rotate_left
              · (intro w hSw; (try dsimp only at hSw); (try go_simp); (try with_reducible rfl))
              (try simp only [Act.put, pus])
              refine tk (v := ?_) 11 rfl (by kernel_rfl) (fun _ _ _ h => h) (by rfl) ?_ (by assumption) ?_
              rotate_left
              · (intro w hSw; (try dsimp only at hSw); (try go_simp); (try with_reducible rfl))
              (try simp only [Act.put, pus])
              refine wpAnyH_ready (rs := [13]) (by kernel_rfl) (by simp) ?_
              refine AllReadyH.cons (o := _) rfl (fun K hK => ?_) ?_
              · obtain ⟨g0, z0, g1, z1, g2, z2, g3, z3⟩ := bp4 Kp (.bool false) (.slice none 0 0) (.bool false) (.slice none 0 0); go_simp; clear g0 z0 g1 z1 g2 z2 g3 z3; replace VT := (by first | exact rv4 VT Kp (.bool false) (.slice none 0 0) (.bool false) (.slice none 0 0) rfl rfl rfl rfl | exact bv4 VT Kp (.bool false) (.slice none 0 0) (.bool false) (.slice none 0 0) rfl rfl rfl rfl); replace hx := bx4 hx (pp) (.bool false) (.slice none 0 0) (.bool false) (.slice none 0 0) (by omega); replace hE := bx4 hE (pp) (.bool false) (.slice none 0 0) (.bool false) (.slice none 0 0) (by omega); replace s0 := bf4 s0 (pp) (.bool false) (.slice none 0 0) (.bool false) (.slice none 0 0) (by omega); replace s1 := bf4 s1 (pp) (.bool false) (.slice none 0 0) (.bool false) (.slice none 0 0) (by omega); replace s2 := bf4 s2 (pp) (.bool false) (.slice none 0 0) (.bool false) (.slice none 0 0) (by omega); replace s3 := bf4 s3 (pp) (.bool false) (.slice none 0 0) (.bool false) (.slice none 0 0) (by omega); replace s4 := bf4 s4 (pp) (.bool false) (.slice none 0 0) (.bool false) (.slice none 0 0) (by omega); replace s5 := bf4 s5 (pp) (.bool false) (.slice none 0 0) (.bool false) (.slice none 0 0) (by omega); replace s6 := bf4 s6 (pp) (.bool false) (.slice none 0 0) (.bool false) (.slice none 0 0) (by omega); replace s7 := bf4 s7 (pp) (.bool false) (.slice none 0 0) (.bool false) (.slice none 0 0) (by omega); replace Ks := bo4 Ks (pp) (.bool false) (.slice none 0 0) (.bool false) (.slice none 0 0) (by omega); replace Kp := bs4 Kp (.bool false) (.slice none 0 0) (.bool false) (.slice none 0 0); generalize (World.setCell (World.setCell (World.setCell (World.setCell x25 ⟨pp, 0, none⟩ (.bool false)) ⟨pp, 1, none⟩ (.slice none 0 0)) ⟨pp, 2, none⟩ (.bool false)) ⟨pp, 3, none⟩ (.slice none 0 0)) = xe at *
                refine hK.out _ _ ?_ (fun hHeld2 => ?_)
                · exact ⟨s0, s1, s2, s3, s4, s5, s6, s7⟩
                clear hK K hHeld
                have hHeld := hHeld2
                clear hHeld2
                (try simp only [Act.put, pus])
                refine tk (v := ?_) 14 rfl (by kernel_rfl) (fun _ _ _ h => h) (by rfl) ?_ (by assumption) ?_
                rotate_left
                · (intro w hSw; (try dsimp only at hSw); (try go_simp); (try with_reducible rfl))
                (try simp only [Act.put, pus])
                refine wpAnyH_done (by kernel_rfl) ?_ _
                (go_wp2_with fail; go_meet; exact ⟨_, rfl, rfl, Ks.out, by omega, Kp.out, VT.out, hx⟩)
              exact AllReadyH.nil
            exact AllReadyH.nil
          exact AllReadyH.nil
        case rest =>
          obtain ⟨pp, rfl, rfl, hks, hpp, hkp, hvt, hx⟩ := hcut
          have Ks := Lib.hid hks
          have Kp := Lib.hid hkp
          have VT := Lib.hid hvt
          clear hks hkp hvt VX VY c0 c1 c2 c3 d0 d1 d2 d3
          obtain ⟨cs0, cs1, cs2, cs3⟩ := bk4 Ks
          obtain ⟨cp0, cp1, cp2, cp3⟩ := bk4 Kp
          have hsz := hx.size
          go_wp2_with fail
          with_reducible refine (add_bad VT.out).mono ?_
          clear cs0 cs1 cs2 cs3 cp0 cp1 cp2 cp3
          rintro e x26 ⟨rfl, hy⟩
          replace hx := hx.trans hy
          replace Ks := kE Ks hy
          replace Kp := kE Kp hy
          replace VT := Lib.hid (VT.out.ext hy)
          clear hy
          clear hsz
          go_upto_region 7 with fail
          have hl := Ext.alloc x26 (.cells #[.bool false, .slice none 0 0, .bool false, .slice none 0 0] 44)
          have lsx : w.heap.size < x26.heap.size := Ks.out.lt
          have lpx : pp < x26.heap.size := Kp.out.lt
          have hpx : w.heap.size ≤ x26.heap.size := hx.size
          replace hx := hx.trans hl
          replace Ks := kE Ks hl
          replace Kp := kE Kp hl
          replace VT := Lib.hid (VT.out.ext hl)
          have Kx := Lib.hid (Blk.new0 x26 #[.bool false, .slice none 0 0, .bool false, .slice none 0 0] 44)
          clear hl
          generalize x26.alloc (.cells #[.bool false, .slice none 0 0, .bool false, .slice none 0 0] 44) = x27 at *
          generalize x26.heap.size = px at *
          obtain ⟨cs0, cs1, cs2, cs3⟩ := bk4 Ks
          obtain ⟨cp0, cp1, cp2, cp3⟩ := bk4 Kp
          obtain ⟨cx0, cx1, cx2, cx3⟩ := bk4 Kx
          obtain ⟨g0, z0, g1, z1, g2, z2, g3, z3⟩ := bp4 Ks (.bool nt) (.slice at1 qt ct) (.bool false) (.slice bt kt dt)
          go_wp2_with fail
          clear g0 z0 g1 z1 g2 z2 g3 z3
          clear cs0 cs1 cs2 cs3 cp0 cp1 cp2 cp3 cx0 cx1 cx2 cx3
          replace VT := (by first | exact rv4 VT Ks (.bool nt) (.slice at1 qt ct) (.bool false) (.slice bt kt dt) rfl rfl rfl rfl | exact bv4 VT Ks (.bool nt) (.slice at1 qt ct) (.bool false) (.slice bt kt dt) rfl rfl rfl rfl)
          replace hx := bx4 hx (w.heap.size) (.bool nt) (.slice at1 qt ct) (.bool false) (.slice bt kt dt) (by omega)
          replace Ks := bs4 Ks (.bool nt) (.slice at1 qt ct) (.bool false) (.slice bt kt dt)
          replace Kp := bo4 Kp (w.heap.size) (.bool nt) (.slice at1 qt ct) (.bool false) (.slice bt kt dt) (by omega)
          replace Kx := bo4 Kx (w.heap.size) (.bool nt) (.slice at1 qt ct) (.bool false) (.slice bt kt dt) (by omega)
          generalize ((((x27).setCell ⟨w.heap.size, 0, none⟩ (.bool nt)).setCell ⟨w.heap.size, 1, none⟩ (.slice at1 qt ct)).setCell ⟨w.heap.size, 2, none⟩ (.bool false)).setCell ⟨w.heap.size, 3, none⟩ (.slice bt kt dt) = x28 at *
          have HO : dotM f x N = none := HS2.out HE.out
          obtain ⟨cs0, cs1, cs2, cs3⟩ := bk4 Ks
          refine bodyPost_ret (v := .tuple #[.agg #[.bool nt, .slice at1 qt ct, .bool false, .slice bt kt dt], .bool false]) (by simp [results, Tryz.results47, go_sem, cs0, cs1, cs2, cs3]) rfl ?_
          exact ⟨_, _, _, _, _, _, _, by rw [HO]; rfl, fun r h => (by rw [HO] at h; cases h), hx⟩
      · obtain ⟨r, hr⟩ : ∃ r, f i = some r := by cases h : f i with | none => exact absurd (.inl h) hbad | some r => exact ⟨r, rfl⟩
        obtain ⟨t, ht⟩ : ∃ t, x i = some t := by cases h : x i with | none => exact absurd (.inr h) hbad | some t => exact ⟨t, rfl⟩
        have zr := zx r hr
        have zt := zy t ht
        rw [hr] at vx
        rw [ht] at vy
        have hS := HS1.out
        rw [hr, ht] at hS
        have HSS : Hid (dotM f x (i + 1) = some (s + r * t)) := Lib.hid hS
        have VX : Hid (RatV wr (.agg #[.bool nx, .slice ax qx cx, .bool mx, .slice bx kx dx]) r) := Lib.hid vx
        have VY : Hid (RatV wr (.agg #[.bool ny, .slice ay qy cy, .bool my, .slice by_ ky dy]) t) := Lib.hid vy
        have ZR := Lib.hid zr
        have ZT2 := Lib.hid zt
        clear vx vy zx zy hbad zr zt hS HS1 HS2 hr ht
        go_cut [7, 8] (fun s1 s2 wx => ∃ (p : Nat) (np : Bool) (ap : Option Addr) (qp cp : Nat) (bp : Option Addr) (kp dp : Nat), s1 = .pointer (some ⟨p, 0, none⟩) ∧ s2 = .int .i64 0 ∧ Blk wx w.heap.size #[.bool nt, .slice at1 qt ct, .bool false, .slice bt kt dt] 44 ∧ p ≠ w.heap.size ∧ Blk wx p #[.bool np, .slice ap qp cp, .bool false, .slice bp kp dp] 44 ∧ RatV wx (.agg #[.bool np, .slice ap qp cp, .bool false, .slice bp kp dp]) (r * t) ∧ RatV wx (.agg #[.bool nt, .slice at1 qt ct, .bool false, .slice bt kt dt]) s ∧ Ext w wx)
        case first =>
          have s0 : World.cell? wr ⟨ba, oa + i * 4, none⟩ = some (.bool nx) := c0
          have s1 : World.cell? wr ⟨ba, oa + i * 4 + 1, none⟩ = some (.slice ax qx cx) := c1
          have s2 : World.cell? wr ⟨ba, oa + i * 4 + 2, none⟩ = some (.bool mx) := c2
          have s3 : World.cell? wr ⟨ba, oa + i * 4 + 3, none⟩ = some (.slice bx kx dx) := c3
          have s4 : World.cell? wr ⟨bb, ob + i * 4, none⟩ = some (.bool ny) := d0
          have s5 : World.cell? wr ⟨bb, ob + i * 4 + 1, none⟩ = some (.slice ay qy cy) := d1
          have s6 : World.cell? wr ⟨bb, ob + i * 4 + 2, none⟩ = some (.bool my) := d2
          have s7 : World.cell? wr ⟨bb, ob + i * 4 + 3, none⟩ = some (.slice by_ ky dy) := d3
          have hE : Ext wr (World.drew wr) := (Ext.refl _).drew
          have hyd : Ext wr (World.drew wr) := (Ext.refl _).drew
          replace hx := hx.trans hyd
          replace Ks := kE Ks hyd
          replace VT := Lib.hid (VT.out.ext hyd)
          replace VX := Lib.hid (VX.out.ext hyd)
          replace VY := Lib.hid (VY.out.ext hyd)
          clear hyd
          replace s0 : World.cell? (World.drew wr) ⟨ba, oa + i * 4, none⟩ = some (.bool nx) := s0
          replace s1 : World.cell? (World.drew wr) ⟨ba, oa + i * 4 + 1, none⟩ = some (.slice ax qx cx) := s1
          replace s2 : World.cell? (World.drew wr) ⟨ba, oa + i * 4 + 2, none⟩ = some (.bool mx) := s2
          replace s3 : World.cell? (World.drew wr) ⟨ba, oa + i * 4 + 3, none⟩ = some (.slice bx kx dx) := s3
          replace s4 : World.cell? (World.drew wr) ⟨bb, ob + i * 4, none⟩ = some (.bool ny) := s4
          replace s5 : World.cell? (World.drew wr) ⟨bb, ob + i * 4 + 1, none⟩ = some (.slice ay qy cy) := s5
          replace s6 : World.cell? (World.drew wr) ⟨bb, ob + i * 4 + 2, none⟩ = some (.bool my) := s6
          replace s7 : World.cell? (World.drew wr) ⟨bb, ob + i * 4 + 3, none⟩ = some (.slice by_ ky dy) := s7
          refine wp_region_held_drew (S := (fun w' => World.cell? w' ⟨ba, oa + i * 4, none⟩ = some (.bool nx) ∧ World.cell? w' ⟨ba, oa + i * 4 + 1, none⟩ = some (.slice ax qx cx) ∧ World.cell? w' ⟨ba, oa + i * 4 + 2, none⟩ = some (.bool mx) ∧ World.cell? w' ⟨ba, oa + i * 4 + 3, none⟩ = some (.slice bx kx dx) ∧ World.cell? w' ⟨bb, ob + i * 4, none⟩ = some (.bool ny) ∧ World.cell? w' ⟨bb, ob + i * 4 + 1, none⟩ = some (.slice ay qy cy) ∧ World.cell? w' ⟨bb, ob + i * 4 + 2, none⟩ = some (.bool my) ∧ World.cell? w' ⟨bb, ob + i * 4 + 3, none⟩ = some (.slice by_ ky dy))) (by kernel_rfl) ?_ (fun hHeld => ?_)
          · exact ⟨s0, s1, s2, s3, s4, s5, s6, s7⟩
          (try simp only [pur, Nat.reduceAdd])
          generalize World.drew wr = x21 at *
          refine tk (v := ?_) 0 rfl (by kernel_rfl) (fun _ _ _ h => h) (by rfl) ?_ (by assumption) ?_
          rotate_left
          · (intro w hSw; (try dsimp only at hSw); (try go_simp); (try with_reducible rfl))
          (try simp only [Act.put, pus])
          refine tk (v := ?_) 1 rfl (by kernel_rfl) (fun _ _ _ h => h) (by rfl) ?_ (by assumption) ?_
          rotate_left
          · (intro w hSw; (try dsimp only at hSw); (try go_simp); (try with_reducible rfl))
          (try simp only [Act.put, pus])
          refine tk (v := ?_) 2 rfl (by kernel_rfl) (fun _ _ _ h => h) (by rfl) ?_ (by assumption) ?_
          rotate_left
          · (intro w hSw; (try dsimp only at hSw); (try go_simp); (try with_reducible rfl))
          (try simp only [Act.put, pus])
          refine tk (v := ?_) 3 rfl (by kernel_rfl) (fun _ _ _ h => h) (by rfl) ?_ (by assumption) ?_
          rotate_left
          · (intro w hSw; (try dsimp only at hSw); (try go_simp); (try with_reducible rfl))
          (try simp only [Act.put, pus])
          refine tk (v := ?_) 4 rfl (by kernel_rfl) (fun _ _ _ h => h) (by rfl) ?_ (by assumption) ?_
          rotate_left
          · (intro w hSw; (try dsimp only at hSw); (try go_simp); (try with_reducible rfl))
          (try simp only [Act.put, pus])
          refine tk (v := ?_) 5 rfl (by kernel_rfl) (fun _ _ _ h => h) (by rfl) ?_ (by assumption) ?_
          rotate_left
          · (intro w hSw; (try dsimp only at hSw); (try go_simp); (try with_reducible rfl))
          (try simp only [Act.put, pus])
          refine tk (v := ?_) 6 rfl (by kernel_rfl) (fun _ _ _ h => h) (by rfl) ?_ (by assumption) ?_
          rotate_left
          · (intro w hSw; (try dsimp only at hSw); (try go_simp); (try with_reducible rfl))
          (try simp only [Act.put, pus])
          refine tk (v := ?_) 7 rfl (by kernel_rfl) (fun _ _ _ h => h) (by rfl) ?_ (by assumption) ?_
          rotate_left
          · (intro w hSw; (try dsimp only at hSw); (try go_simp); (try with_reducible rfl))
          (try simp only [Act.put, pus])
          refine wpAnyH_ready (rs := [8, 12]) (by kernel_rfl) (by simp) ?_
          refine AllReadyH.cons (o := _) rfl (fun K hK => ?_) ?_
          · go_simp
            (with_reducible refine (ratio_Mul VX.out VY.out ZR.out ZT2.out HPQ.out).mono ?_); rintro e x22 ⟨v1, rfl, hv, hy⟩; replace hE := hE.trans hy; replace hx := hx.trans hy; replace s0 := cell_exQ hy s0; replace s1 := cell_exQ hy s1; replace s2 := cell_exQ hy s2; replace s3 := cell_exQ hy s3; replace s4 := cell_exQ hy s4; replace s5 := cell_exQ hy s5; replace s6 := cell_exQ hy s6; replace s7 := cell_exQ hy s7; replace Ks := kE Ks hy; replace VT := Lib.hid (VT.out.ext hy); replace VX := Lib.hid (VX.out.ext hy); replace VY := Lib.hid (VY.out.ext hy); clear hy; obtain ⟨np, ap, qp, cp, bp, kp, dp, rfl, hv', -, -⟩ := hv; have Vp := Lib.hid hv'; clear hv'
            refine hK.out _ _ ?_ (fun hHeld2 => ?_)
            · exact ⟨s0, s1, s2, s3, s4, s5, s6, s7⟩
            clear hK K hHeld
            have hHeld := hHeld2
            clear hHeld2
            (try simp only [Act.put, pus])
            refine tk (v := ?_) 9 rfl (by kernel_rfl) (fun _ _ _ h => h) (by rfl) ?_ (by assumption) ?_
            rotate_left
            · (intro w hSw; (try dsimp only at hSw); (try go_simp); (try with_reducible rfl))
            (try simp only [Act.put, pus])
            refine tk (v := ?_) 10 rfl (by kernel_rfl) (fun _ _ _ h => h) (by rfl) ?_ (by assumption) ?_
            rotate_left
            · (intro w hSw; (try dsimp only at hSw); (try go_simp); (try with_reducible rfl))
            (try simp only [Act.put, pus])
            refine tk (v := ?_) 11 rfl (by kernel_rfl) (fun _ _ _ h => h) (by rfl) ?_ (by assumption) ?_
            rotate_left
            · (intro w hSw; (try dsimp only at hSw); (try go_simp); (try with_reducible rfl))
            (try simp only [Act.put, pus])
            refine wpAnyH_ready (rs := [12]) (by kernel_rfl) (by simp) ?_
            refine AllReadyH.cons (o := _) rfl (fun K hK => ?_) ?_
            · go_simp
              have hy : Ext x22 (World.alloc x22 (.cells #[.bool false, .slice none 0 0, .bool false, .slice none 0 0] 44)) := Ext.alloc _ _; have lsp : w.heap.size < Array.size (World.heap x22) := Ks.out.lt; have hpp : w.heap.size ≤ Array.size (World.heap x22) := hx.size; have hqp := hE.size; replace hE := hE.trans hy; replace hx := hx.trans hy; have mp0 := lt_of_cell s0; replace s0 := cell_exQ hy s0; have mp1 := lt_of_cell s1; replace s1 := cell_exQ hy s1; have mp2 := lt_of_cell s2; replace s2 := cell_exQ hy s2; have mp3 := lt_of_cell s3; replace s3 := cell_exQ hy s3; have mp4 := lt_of_cell s4; replace s4 := cell_exQ hy s4; have mp5 := lt_of_cell s5; replace s5 := cell_exQ hy s5; have mp6 := lt_of_cell s6; replace s6 := cell_exQ hy s6; have mp7 := lt_of_cell s7; replace s7 := cell_exQ hy s7; replace Ks := kE Ks hy; replace VT := Lib.hid (VT.out.ext hy); replace VX := Lib.hid (VX.out.ext hy); replace VY := Lib.hid (VY.out.ext hy); replace Vp := Lib.hid (Vp.out.ext hy); have Kp := Lib.hid (Blk.new0 x22 #[.bool false, .slice none 0 0, .bool false, .slice none 0 0] 44); clear hy; generalize World.alloc x22 (.cells #[.bool false, .slice none 0 0, .bool false, .slice none 0 0] 44) = x23 at *; generalize Array.size (World.heap x22) = pp at *
              refine hK.out _ _ ?_ (fun hHeld2 => ?_)
              · exact ⟨s0, s1, s2, s3, s4, s5, s6, s7⟩
              clear hK K hHeld
              have hHeld := hHeld2
              clear hHeld2
              (try simp only [Act.put, pus])
              refine wpAnyH_ready (rs := [13]) (by kernel_rfl) (by simp) ?_
              refine AllReadyH.cons (o := _) rfl (fun K hK => ?_) ?_
              · obtain ⟨g0, z0, g1, z1, g2, z2, g3, z3⟩ := bp4 Kp (.bool np) (.slice ap qp cp) (.bool false) (.slice bp kp dp); go_simp; clear g0 z0 g1 z1 g2 z2 g3 z3; replace VT := (by first | exact rv4 VT Kp (.bool np) (.slice ap qp cp) (.bool false) (.slice bp kp dp) rfl rfl rfl rfl | exact bv4 VT Kp (.bool np) (.slice ap qp cp) (.bool false) (.slice bp kp dp) rfl rfl rfl rfl); replace VX := (by first | exact rv4 VX Kp (.bool np) (.slice ap qp cp) (.bool false) (.slice bp kp dp) rfl rfl rfl rfl | exact bv4 VX Kp (.bool np) (.slice ap qp cp) (.bool false) (.slice bp kp dp) rfl rfl rfl rfl); replace VY := (by first | exact rv4 VY Kp (.bool np) (.slice ap qp cp) (.bool false) (.slice bp kp dp) rfl rfl rfl rfl | exact bv4 VY Kp (.bool np) (.slice ap qp cp) (.bool false) (.slice bp kp dp) rfl rfl rfl rfl); replace Vp := (by first | exact rv4 Vp Kp (.bool np) (.slice ap qp cp) (.bool false) (.slice bp kp dp) rfl rfl rfl rfl | exact bv4 Vp Kp (.bool np) (.slice ap qp cp) (.bool false) (.slice bp kp dp) rfl rfl rfl rfl); replace hx := bx4 hx (pp) (.bool np) (.slice ap qp cp) (.bool false) (.slice bp kp dp) (by omega); replace hE := bx4 hE (pp) (.bool np) (.slice ap qp cp) (.bool false) (.slice bp kp dp) (by omega); replace s0 := bf4 s0 (pp) (.bool np) (.slice ap qp cp) (.bool false) (.slice bp kp dp) (by omega); replace s1 := bf4 s1 (pp) (.bool np) (.slice ap qp cp) (.bool false) (.slice bp kp dp) (by omega); replace s2 := bf4 s2 (pp) (.bool np) (.slice ap qp cp) (.bool false) (.slice bp kp dp) (by omega); replace s3 := bf4 s3 (pp) (.bool np) (.slice ap qp cp) (.bool false) (.slice bp kp dp) (by omega); replace s4 := bf4 s4 (pp) (.bool np) (.slice ap qp cp) (.bool false) (.slice bp kp dp) (by omega); replace s5 := bf4 s5 (pp) (.bool np) (.slice ap qp cp) (.bool false) (.slice bp kp dp) (by omega); replace s6 := bf4 s6 (pp) (.bool np) (.slice ap qp cp) (.bool false) (.slice bp kp dp) (by omega); replace s7 := bf4 s7 (pp) (.bool np) (.slice ap qp cp) (.bool false) (.slice bp kp dp) (by omega); replace Ks := bo4 Ks (pp) (.bool np) (.slice ap qp cp) (.bool false) (.slice bp kp dp) (by omega); replace Kp := bs4 Kp (.bool np) (.slice ap qp cp) (.bool false) (.slice bp kp dp); generalize (World.setCell (World.setCell (World.setCell (World.setCell x23 ⟨pp, 0, none⟩ (.bool np)) ⟨pp, 1, none⟩ (.slice ap qp cp)) ⟨pp, 2, none⟩ (.bool false)) ⟨pp, 3, none⟩ (.slice bp kp dp)) = xe at *
                refine hK.out _ _ ?_ (fun hHeld2 => ?_)
                · exact ⟨s0, s1, s2, s3, s4, s5, s6, s7⟩
                clear hK K hHeld
                have hHeld := hHeld2
                clear hHeld2
                (try simp only [Act.put, pus])
                refine tk (v := ?_) 14 rfl (by kernel_rfl) (fun _ _ _ h => h) (by rfl) ?_ (by assumption) ?_
                rotate_left
                · (intro w hSw; (try dsimp only at hSw); (try go_simp); (try with_reducible rfl))
                (try simp only [Act.put, pus])
                refine wpAnyH_done (by kernel_rfl) ?_ _
                (go_wp2_with fail; go_meet; exact ⟨_, _, _, _, _, _, _, _, rfl, rfl, Ks.out, by omega, Kp.out, Vp.out, VT.out, hx⟩)
              exact AllReadyH.nil
            exact AllReadyH.nil
          refine AllReadyH.cons (o := _) rfl (fun K hK => ?_) ?_
          · go_simp
            have hy : Ext x21 (World.alloc x21 (.cells #[.bool false, .slice none 0 0, .bool false, .slice none 0 0] 44)) := Ext.alloc _ _; have lsp : w.heap.size < Array.size (World.heap x21) := Ks.out.lt; have hpp : w.heap.size ≤ Array.size (World.heap x21) := hx.size; have hqp := hE.size; replace hE := hE.trans hy; replace hx := hx.trans hy; have mp0 := lt_of_cell s0; replace s0 := cell_exQ hy s0; have mp1 := lt_of_cell s1; replace s1 := cell_exQ hy s1; have mp2 := lt_of_cell s2; replace s2 := cell_exQ hy s2; have mp3 := lt_of_cell s3; replace s3 := cell_exQ hy s3; have mp4 := lt_of_cell s4; replace s4 := cell_exQ hy s4; have mp5 := lt_of_cell s5; replace s5 := cell_exQ hy s5; have mp6 := lt_of_cell s6; replace s6 := cell_exQ hy s6; have mp7 := lt_of_cell s7; replace s7 := cell_exQ hy s7; replace Ks := kE Ks hy; replace VT := Lib.hid (VT.out.ext hy); replace VX := Lib.hid (VX.out.ext hy); replace VY := Lib.hid (VY.out.ext hy); have Kp := Lib.hid (Blk.new0 x21 #[.bool false, .slice none 0 0, .bool false, .slice none 0 0] 44); clear hy; generalize World.alloc x21 (.cells #[.bool false, .slice none 0 0, .bool false, .slice none 0 0] 44) = x24 at *; generalize Array.size (World.heap x21) = pp at *
            refine hK.out _ _ ?_ (fun hHeld2 => ?_)
            · exact ⟨s0, s1, s2, s3, s4, s5, s6, s7⟩
            clear hK K hHeld
            have hHeld := hHeld2
            clear hHeld2
            (try simp only [Act.put, pus])
            refine wpAnyH_ready (rs := [8]) (by kernel_rfl) (by simp) ?_
            refine AllReadyH.cons (o := _) rfl (fun K hK => ?_) ?_
            · go_simp
              (with_reducible refine (ratio_Mul VX.out VY.out ZR.out ZT2.out HPQ.out).mono ?_); rintro e x25 ⟨v1, rfl, hv, hy⟩; replace hE := hE.trans hy; replace hx := hx.trans hy; replace s0 := cell_exQ hy s0; replace s1 := cell_exQ hy s1; replace s2 := cell_exQ hy s2; replace s3 := cell_exQ hy s3; replace s4 := cell_exQ hy s4; replace s5 := cell_exQ hy s5; replace s6 := cell_exQ hy s6; replace s7 := cell_exQ hy s7; replace Ks := kE Ks hy; replace Kp := kE Kp hy; replace VT := Lib.hid (VT.out.ext hy); replace VX := Lib.hid (VX.out.ext hy); replace VY := Lib.hid (VY.out.ext hy); clear hy; obtain ⟨np, ap, qp, cp, bp, kp, dp, rfl, hv', -, -⟩ := hv; have Vp := Lib.hid hv'; clear hv'
              refine hK.out _ _ ?_ (fun hHeld2 => ?_)
              · exact ⟨s0, s1, s2, s3, s4, s5, s6, s7⟩
              clear hK K hHeld
              have hHeld := hHeld2
              clear hHeld2
              (try simp only [Act.put, pus])
              refine tk (v := ?_) 9 rfl (by kernel_rfl) (fun _ _ _ h => h) (by rfl) ?_ (by assumption) ?_
              rotate_left
              · (intro w hSw; (try dsimp only at hSw); (try go_simp); (try with_reducible rfl))
              (try simp only [Act.put, pus])
              refine tk (v := ?_) 10 rfl (by kernel_rfl) (fun _ _ _ h => h) (by rfl) ?_ (by assumption) ?_
              rotate_left
              · (intro w hSw; (try dsimp only at hSw); (try go_simp); (try with_reducible rfl))
              (try simp only [Act.put, pus])
              refine tk (v := ?_) 11 rfl (by kernel_rfl) (fun _ _ _ h => h) (by rfl) ?_ (by assumption) ?_
              rotate_left
              · (intro w hSw; (try dsimp only at hSw); (try go_simp); (try with_reducible rfl))
              (try simp only [Act.put, pus])
              refine wpAnyH_ready (rs := [13]) (by kernel_rfl) (by simp) ?_
              refine AllReadyH.cons (o := _) rfl (fun K hK => ?_) ?_
              · obtain ⟨g0, z0, g1, z1, g2, z2, g3, z3⟩ := bp4 Kp (.bool np) (.slice ap qp cp) (.bool false) (.slice bp kp dp); go_simp; clear g0 z0 g1 z1 g2 z2 g3 z3; replace VT := (by first | exact rv4 VT Kp (.bool np) (.slice ap qp cp) (.bool false) (.slice bp kp dp) rfl rfl rfl rfl | exact bv4 VT Kp (.bool np) (.slice ap qp cp) (.bool false) (.slice bp kp dp) rfl rfl rfl rfl); replace VX := (by first | exact rv4 VX Kp (.bool np) (.slice ap qp cp) (.bool false) (.slice bp kp dp) rfl rfl rfl rfl | exact bv4 VX Kp (.bool np) (.slice ap qp cp) (.bool false) (.slice bp kp dp) rfl rfl rfl rfl); replace VY := (by first | exact rv4 VY Kp (.bool np) (.slice ap qp cp) (.bool false) (.slice bp kp dp) rfl rfl rfl rfl | exact bv4 VY Kp (.bool np) (.slice ap qp cp) (.bool false) (.slice bp kp dp) rfl rfl rfl rfl); replace Vp := (by first | exact rv4 Vp Kp (.bool np) (.slice ap qp cp) (.bool false) (.slice bp kp dp) rfl rfl rfl rfl | exact bv4 Vp Kp (.bool np) (.slice ap qp cp) (.bool false) (.slice bp kp dp) rfl rfl rfl rfl); replace hx := bx4 hx (pp) (.bool np) (.slice ap qp cp) (.bool false) (.slice bp kp dp) (by omega); replace hE := bx4 hE (pp) (.bool np) (.slice ap qp cp) (.bool false) (.slice bp kp dp) (by omega); replace s0 := bf4 s0 (pp) (.bool np) (.slice ap qp cp) (.bool false) (.slice bp kp dp) (by omega); replace s1 := bf4 s1 (pp) (.bool np) (.slice ap qp cp) (.bool false) (.slice bp kp dp) (by omega); replace s2 := bf4 s2 (pp) (.bool np) (.slice ap qp cp) (.bool false) (.slice bp kp dp) (by omega); replace s3 := bf4 s3 (pp) (.bool np) (.slice ap qp cp) (.bool false) (.slice bp kp dp) (by omega); replace s4 := bf4 s4 (pp) (.bool np) (.slice ap qp cp) (.bool false) (.slice bp kp dp) (by omega); replace s5 := bf4 s5 (pp) (.bool np) (.slice ap qp cp) (.bool false) (.slice bp kp dp) (by omega); replace s6 := bf4 s6 (pp) (.bool np) (.slice ap qp cp) (.bool false) (.slice bp kp dp) (by omega); replace s7 := bf4 s7 (pp) (.bool np) (.slice ap qp cp) (.bool false) (.slice bp kp dp) (by omega); replace Ks := bo4 Ks (pp) (.bool np) (.slice ap qp cp) (.bool false) (.slice bp kp dp) (by omega); replace Kp := bs4 Kp (.bool np) (.slice ap qp cp) (.bool false) (.slice bp kp dp); generalize (World.setCell (World.setCell (World.setCell (World.setCell x25 ⟨pp, 0, none⟩ (.bool np)) ⟨pp, 1, none⟩ (.slice ap qp cp)) ⟨pp, 2, none⟩ (.bool false)) ⟨pp, 3, none⟩ (.slice bp kp dp)) = xe at *
                refine hK.out _ _ ?_ (fun hHeld2 => ?_)
                · exact ⟨s0, s1, s2, s3, s4, s5, s6, s7⟩
                clear hK K hHeld
                have hHeld := hHeld2
                clear hHeld2
                (try simp only [Act.put, pus])
                refine tk (v := ?_) 14 rfl (by kernel_rfl) (fun _ _ _ h => h) (by rfl) ?_ (by assumption) ?_
                rotate_left
                · (intro w hSw; (try dsimp only at hSw); (try go_simp); (try with_reducible rfl))
                (try simp only [Act.put, pus])
                refine wpAnyH_done (by kernel_rfl) ?_ _
                (go_wp2_with fail; go_meet; exact ⟨_, _, _, _, _, _, _, _, rfl, rfl, Ks.out, by omega, Kp.out, Vp.out, VT.out, hx⟩)
              exact AllReadyH.nil
            exact AllReadyH.nil
          exact AllReadyH.nil
        case rest =>
          obtain ⟨pp, np, ap, qp, cp, bp, kp, dp, rfl, rfl, hks, hpp, hkp, hvp, hvt, hx⟩ := hcut
          have Ks := Lib.hid hks
          have Kp := Lib.hid hkp
          have VT := Lib.hid hvt
          clear hks hkp hvt VX VY c0 c1 c2 c3 d0 d1 d2 d3
          have Vp := Lib.hid hvp
          clear hvp
          obtain ⟨cs0, cs1, cs2, cs3⟩ := bk4 Ks
          obtain ⟨cp0, cp1, cp2, cp3⟩ := bk4 Kp
          have hsz := hx.size
          go_wp2_with fail
          with_reducible refine (ratio_Add VT.out Vp.out ZT.out (ZR.out.mul ZT2.out) HMN.out).mono ?_
          clear cs0 cs1 cs2 cs3 cp0 cp1 cp2 cp3
          rintro e x26 ⟨v9, rfl, hv, hy⟩
          replace hx := hx.trans hy
          replace Ks := kE Ks hy
          replace Kp := kE Kp hy
          replace VT := Lib.hid (VT.out.ext hy)
          replace Vp := Lib.hid (Vp.out.ext hy)
          clear hy
          obtain ⟨nx, ax, qx, cx, bx, kx, dx, rfl, hv', hf', hg'⟩ := hv
          have Vx := Lib.hid hv'
          have Fx := Lib.hid (fun A hA => Nat.le_trans hsz (hf' A hA))
          have Gx := Lib.hid (fun A hA => Nat.le_trans hsz (hg' A hA))
          clear hv' hf' hg' hsz
          go_upto_region 7 with fail
          have hl := Ext.alloc x26 (.cells #[.bool nx, .slice ax qx cx, .bool false, .slice bx kx dx] 44)
          have lsx : w.heap.size < x26.heap.size := Ks.out.lt
          have lpx : pp < x26.heap.size := Kp.out.lt
          have hpx : w.heap.size ≤ x26.heap.size := hx.size
          replace hx := hx.trans hl
          replace Ks := kE Ks hl
          replace Kp := kE Kp hl
          replace VT := Lib.hid (VT.out.ext hl)
          replace Vp := Lib.hid (Vp.out.ext hl)
          replace Vx := Lib.hid (Vx.out.ext hl)
          have Kx := Lib.hid (Blk.new0 x26 #[.bool nx, .slice ax qx cx, .bool false, .slice bx kx dx] 44)
          clear hl
          generalize x26.alloc (.cells #[.bool nx, .slice ax qx cx, .bool false, .slice bx kx dx] 44) = x27 at *
          generalize x26.heap.size = px at *
          obtain ⟨cs0, cs1, cs2, cs3⟩ := bk4 Ks
          obtain ⟨cp0, cp1, cp2, cp3⟩ := bk4 Kp
          obtain ⟨cx0, cx1, cx2, cx3⟩ := bk4 Kx
          obtain ⟨g0, z0, g1, z1, g2, z2, g3, z3⟩ := bp4 Ks (.bool nx) (.slice ax qx cx) (.bool false) (.slice bx kx dx)
          go_wp2_with fail
          clear g0 z0 g1 z1 g2 z2 g3 z3
          clear cs0 cs1 cs2 cs3 cp0 cp1 cp2 cp3 cx0 cx1 cx2 cx3
          replace VT := (by first | exact rv4 VT Ks (.bool nx) (.slice ax qx cx) (.bool false) (.slice bx kx dx) rfl rfl rfl rfl | exact bv4 VT Ks (.bool nx) (.slice ax qx cx) (.bool false) (.slice bx kx dx) rfl rfl rfl rfl)
          replace Vp := (by first | exact rv4 Vp Ks (.bool nx) (.slice ax qx cx) (.bool false) (.slice bx kx dx) rfl rfl rfl rfl | exact bv4 Vp Ks (.bool nx) (.slice ax qx cx) (.bool false) (.slice bx kx dx) rfl rfl rfl rfl)
          replace Vx := (by first | exact rv4 Vx Ks (.bool nx) (.slice ax qx cx) (.bool false) (.slice bx kx dx) rfl rfl rfl rfl | exact bv4 Vx Ks (.bool nx) (.slice ax qx cx) (.bool false) (.slice bx kx dx) rfl rfl rfl rfl)
          replace hx := bx4 hx (w.heap.size) (.bool nx) (.slice ax qx cx) (.bool false) (.slice bx kx dx) (by omega)
          replace Ks := bs4 Ks (.bool nx) (.slice ax qx cx) (.bool false) (.slice bx kx dx)
          replace Kp := bo4 Kp (w.heap.size) (.bool nx) (.slice ax qx cx) (.bool false) (.slice bx kx dx) (by omega)
          replace Kx := bo4 Kx (w.heap.size) (.bool nx) (.slice ax qx cx) (.bool false) (.slice bx kx dx) (by omega)
          generalize ((((x27).setCell ⟨w.heap.size, 0, none⟩ (.bool nx)).setCell ⟨w.heap.size, 1, none⟩ (.slice ax qx cx)).setCell ⟨w.heap.size, 2, none⟩ (.bool false)).setCell ⟨w.heap.size, 3, none⟩ (.slice bx kx dx) = x28 at *
          go_roundw
          case rel => exact ⟨i + 1, by omega, by go_num, ⟨nx, ax, qx, cx, false, bx, kx, dx⟩, _, Ks.out, Vx.out, rfl, HSS.out, hx⟩
          case measure => simp [intOf]; omega
    · have hie : i = N := by omega
      subst hie
      have Ks := Lib.hid hks
      have VT := Lib.hid hvt
      have HDT := Lib.hid hdt
      clear hks hvt hdt
      obtain ⟨cs0, cs1, cs2, cs3⟩ := bk4 Ks
      obtain ⟨g0, z0, g1, z1, g2, z2, g3, z3⟩ := bp4 Ks (.bool nt) (.slice at1 qt ct) (.bool false) (.slice bt kt dt)
      go_wp2_with fail
      clear g0 z0 g1 z1 g2 z2 g3 z3
      clear cs0 cs1 cs2 cs3
      replace VT := (by first | exact rv4 VT Ks (.bool nt) (.slice at1 qt ct) (.bool false) (.slice bt kt dt) rfl rfl rfl rfl | exact bv4 VT Ks (.bool nt) (.slice at1 qt ct) (.bool false) (.slice bt kt dt) rfl rfl rfl rfl)
      replace hx := bx4 hx (w.heap.size) (.bool nt) (.slice at1 qt ct) (.bool false) (.slice bt kt dt) (by omega)
      replace Ks := bs4 Ks (.bool nt) (.slice at1 qt ct) (.bool false) (.slice bt kt dt)
      generalize ((((wr).setCell ⟨w.heap.size, 0, none⟩ (.bool nt)).setCell ⟨w.heap.size, 1, none⟩ (.slice at1 qt ct)).setCell ⟨w.heap.size, 2, none⟩ (.bool false)).setCell ⟨w.heap.size, 3, none⟩ (.slice bt kt dt) = x41 at *
      obtain ⟨cs0, cs1, cs2, cs3⟩ := bk4 Ks
      refine bodyPost_ret (v := .tuple #[.agg #[.bool nt, .slice at1 qt ct, .bool false, .slice bt kt dt], .bool true]) (by simp [results, Tryz.results47, go_sem, cs0, cs1, cs2, cs3]) rfl ?_
      exact ⟨_, _, _, _, _, _, _, by rw [HDT.out]; rfl, fun r h => by rw [HDT.out] at h; cases h; exact VT.out, hx⟩
end Go.Proofs.YtokffagbdfhnnaaGreat
