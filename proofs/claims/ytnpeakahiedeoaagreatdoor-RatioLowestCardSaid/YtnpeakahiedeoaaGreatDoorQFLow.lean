/- RatioLowest: the Go law returns true at every input, and its arguments read as before; the tied card. -/
import Derived.Test.YtnpeakahiedeoaaGreatDoorQSane
import Derived.Test.YtnpeakahiedeoaaGreatDoorQFew
import Derived.Test.YtnpeakahiedeoaaGreatDoorR0
import Derived.Test.YtnpeakahiedeoaaGreatDoorRows
import Derived.Test.YtnpeakahiedeoaaGreatDoorCards
import Derived.Test.YtnpeakahiedeoaaGreatDoorTie
import Derived.Test.YtnpeakahiedeoaaGreatDoorQOpen
import Derived.ProofKit
import Derived.OpenShut
import Derived.LaidMore
import Derived.Lay
import Derived.SevenTiedAt
import Derived.Stop.Joined
import Derived.ShutString
import Derived.ChangeOld
import Derived.Below
namespace Go.Proofs.YtnpeakahiedeoaaGreatDoor
open Go.RowKit Go BigFrame
set_option maxRecDepth 100000
set_option linter.unusedSimpArgs false
set_option linter.unusedVariables false

/-! law10.RatioLowest. -/
theorem law_few2 {W : World} {gg : Nat} {x y : RatA} {t : TypeId} (h : Blk W gg #[.bool x.n, .slice x.a x.l.length x.c, .bool x.n2, .slice x.b x.m.length x.d, .bool y.n, .slice y.a y.l.length y.c, .bool y.n2, .slice y.b y.m.length y.d] t) (h1 : RatI W x) (h2 : RatI W y) :
    Calls Tryz.prog 24 #[.slice (some ⟨gg, 0, none⟩) 2 2] W fun e w' => e = .returned (.bool (fewL x && fewL y)) ∧ Ext W w' :=
  (law_few gg [x, y] W (ratRow2 h h1.i h1.j h2.i h2.j) (by simp) (fun u hu => by
    simp only [List.mem_cons, List.not_mem_nil, or_false] at hu
    rcases hu with rfl | rfl
    · exact ⟨Nat.le_trans h1.i.le h1.i.mx, Nat.le_trans h1.j.le h1.j.mx⟩
    · exact ⟨Nat.le_trans h2.i.le h2.i.mx, Nat.le_trans h2.j.le h2.j.mx⟩)).mono fun e w' hh => ⟨by rw [hh.1]; simp, hh.2⟩
theorem fewL_szL {x : RatA} (h : fewL x = true) : ∃ r : Rat, Sz r 6 ∧ ∀ w, RatI w x → RatV w x.val r := by
  simp only [fewL, Bool.and_eq_true, decide_eq_true_eq] at h
  exact few_sz h.2.2 (by simp [fewR, fewQ, h.1, h.2.1])
/-- A result that may be missing. -/
def zO : Option Rat → Int
  | some r => r.num
  | none => 0
def yO : Option Rat → Int
  | some r => (r.den : Int)
  | none => 0
def ResO (o : Option Rat) (E : Int) (w : World) (e : Ending) (w' : World) : Prop := ∃ n a q c m b k d, e = .returned (.tuple #[.agg #[.bool n, .slice a q c, .bool m, .slice b k d], .int .i64 E]) ∧ BigV w' (.agg #[.bool n, .slice a q c]) (zO o) ∧ BigV w' (.agg #[.bool m, .slice b k d]) (yO o) ∧ (∀ A, a = some A → w.heap.size ≤ A.block) ∧ (∀ A, b = some A → w.heap.size ≤ A.block) ∧ Ext w w'
def ResB (z E : Int) (w : World) (e : Ending) (w' : World) : Prop := ∃ n a q c, e = .returned (.tuple #[.agg #[.bool n, .slice a q c], .int .i64 E]) ∧ BigV w' (.agg #[.bool n, .slice a q c]) z ∧ Ext w w'
theorem ResO.ok {r : Rat} {w w' : World} {e : Ending} (h : RatP r w e w') : ResO (some r) 0 w e w' := by
  obtain ⟨v, rfl, hv, hx⟩ := h
  obtain ⟨n, a, q, c, b, k, d, rfl, hv, hf, hg⟩ := hv
  exact ⟨n, a, q, c, false, b, k, d, rfl, hv.num, hv.den, hf, hg, hx⟩
theorem ResO.err {E : Int} {w w' : World} {e : Ending} (h : RatE E w e w') : ResO none E w e w' := ⟨_, _, _, _, _, _, _, _, h.1, BigV.zero _, BigV.zero _, (fun A hA => (by cases hA)), (fun A hA => (by cases hA)), h.2⟩
theorem ResB.ok {z : Int} {w w' : World} {e : Ending} (h : OneP z w e w') : ResB z 0 w e w' := by
  obtain ⟨v, rfl, hv, hx⟩ := h
  obtain ⟨n, a, q, c, rfl, hv, _⟩ := hv.two
  exact ⟨n, a, q, c, rfl, hv, hx⟩
theorem ResB.err {E : Int} {w w' : World} {e : Ending} (h : e = .returned (.tuple #[zeroBig, .int .i64 E]) ∧ Ext w w') : ResB 0 E w e w' := ⟨_, _, _, _, h.1, BigV.zero _, h.2⟩
/-- Sizes of what comes in. -/
structure AllSz (rs : List Rat) (k : Nat) : Prop where
  h : ∀ r ∈ rs, Sz r k
theorem AllSz.more {rs : List Rat} {k : Nat} {r : Rat} (h : AllSz rs k) (hr : Sz r k) : AllSz (rs ++ [r]) k := ⟨fun x hx => by
  rcases List.mem_append.1 hx with hx | hx
  · exact h.h x hx
  · obtain rfl := List.mem_singleton.1 hx; exact hr⟩
theorem OwnRats.new (w : World) : OwnRats (w.alloc (.cells #[] 26)) w.heap.size (.slice (some ⟨w.heap.size, 0, none⟩) 0 0) [] [] :=
  ⟨rfl, ⟨by simp, .inr ⟨w.heap.size, 0, #[], rfl, Nat.le_refl _, heap_alloc_new w _, Nat.le_refl _, by unfold maxLen; omega, rfl, rfl⟩⟩, fun i h => by simp at h, fun x hx => by cases hx⟩
theorem red_gcd (r : Rat) : ((Int.gcd r.num (r.den : Int) : Nat) : Int) = 1 := by
  have := r.reduced
  unfold Nat.Coprime at this
  show ((Nat.gcd r.num.natAbs (r.den : Int).natAbs : Nat) : Int) = 1
  rw [Int.natAbs_natCast, this]; rfl
theorem off_new {w : World} {x : RatC} {z y : Int} (h : BigV w (.agg #[.bool x.n, .slice x.a x.q x.c]) z) (k : BigV w (.agg #[.bool x.m, .slice x.b x.k x.d]) y) : x.Off (some w.heap.size) :=
  ⟨fun hq A hA e => by have := h.lt hq A hA; simp only [Option.some.injEq] at e; omega, fun hq A hA e => by have := k.lt hq A hA; simp only [Option.some.injEq] at e; omega⟩
theorem off_fresh {x : RatC} {n : Nat} {o : Option Nat} (ho : ∀ g, o = some g → g < n) (h : ∀ A, x.a = some A → n ≤ A.block) (k : ∀ A, x.b = some A → n ≤ A.block) : x.Off o :=
  ⟨fun _ A hA e => by have := h A hA; have := ho _ e; omega, fun _ A hA e => by have := k A hA; have := ho _ e; omega⟩
theorem ratV_falseL {w : World} {n m : Bool} {a b : Option Addr} {q c k d : Nat} {r : Rat} (h : RatV w (.agg #[.bool n, .slice a q c, .bool m, .slice b k d]) r) : m = false := by
  obtain ⟨_, _, _, _, _, _, _, e⟩ := h.form
  simp only [Value.agg.injEq, Array.mk.injEq, List.cons.injEq, Value.bool.injEq] at e
  exact e.2.2.1
theorem sameBig_eq {x y : Value} {z : Int} {w : World} (h : BigV w x z) (h2 : BigV w y z) : Calls Tryz.prog 31 #[x, y] w fun e w' => e = .returned (.bool true) ∧ Ext w w' :=
  (sameBig_val h h2).mono fun _ _ k => ⟨by rw [k.1, decide_eq_true rfl], k.2⟩
theorem BlkGrown {w w' : World} {b : Nat} {cs : Array Value} {t : TypeId} {k : Option Nat} (h : Blk w b cs t) (hg : w.grownBy w' k) (hk : k ≠ some b) : Blk w' b cs t := (hg.block b h.lt (fun e => hk e.symm)).trans h
def fkL : List FuncId := [33, 35, 37, 39]
theorem fk_cell {w : World} {p : Nat} {t : TypeId} (h : Blk w p #[.func (.func 33) #[] #[], .func (.func 35) #[] #[], .func (.func 37) #[] #[], .func (.func 39) #[] #[]] t) : ∀ {k : Nat}, k < 4 → w.cell? ⟨p, k, none⟩ = some (.func (.func (fkL.getD k 0)) #[] #[])
  | 0, _ => h.cell rfl
  | 1, _ => h.cell rfl
  | 2, _ => h.cell rfl
  | 3, _ => h.cell rfl
set_option maxHeartbeats 4000000 in
theorem law_Low_n1 (n1 n2 n3 : Bool) (a1 a2 a3 : Option Addr) (c1 c2 c3 : Nat) (l1 l2 l3 : List Int) (x y : RatA) (w : World) (h1 : Ints w a1 c1 l1) (h2 : Ints w a2 c2 l2) (h3 : Ints w a3 c3 l3) (hx1 : RatI w x) (hy1 : RatI w y) (f0 : 6 < l1.length) : Calls Tryz.prog 9 #[.agg #[.bool n1, .slice a1 l1.length c1], .agg #[.bool n2, .slice a2 l2.length c2], .agg #[.bool n3, .slice a3 l3.length c3], x.val, y.val] w fun e w' => e = .returned (.bool true) ∧ Ext w w' := by
  have g1 := h1.le
  have g2 := h1.mx
  have g3 := h2.le
  have g4 := h2.mx
  have g5 := h3.le
  have g6 := h3.mx
  have u1 : decide ((6 : Int) < (l1.length : Int)) = true := decide_eq_true (by omega)
  clear f0 hx1 hy1 h1 h2 h3
  obtain ⟨nx, ax, cx, lx, mx, bx, dx, kx⟩ := x
  obtain ⟨ny, ay, cy, ly, my, by_, dy, ky⟩ := y
  dsimp only [RatA.val] at *
  obtain ⟨x1, hw, hx, Kp, Kq, Ku, Kx, Ky⟩ := boxQ5 w #[.bool n1, .slice a1 l1.length c1] 24 #[.bool n2, .slice a2 l2.length c2] 24 #[.bool n3, .slice a3 l3.length c3] 24 #[.bool nx, .slice ax lx.length cx, .bool mx, .slice bx kx.length dx] 26 #[.bool ny, .slice ay ly.length cy, .bool my, .slice by_ ky.length dy] 26
  replace hw := Lib.hid hw
  go_enter Tryz.func9, Tryz.ntmps9
  go_upto_region 1 with fail
  try simp only [Nat.add_assoc, Nat.reduceAdd, Nat.add_zero]
  rw [hw.out]
  clear hw
  have hs0 := hx.size
  obtain ⟨cp0, cp1⟩ := bk2 Kp
  obtain ⟨cq0, cq1⟩ := bk2 Kq
  obtain ⟨cu0, cu1⟩ := bk2 Ku
  obtain ⟨cx0, cx1, cx2, cx3⟩ := bk4 Kx
  obtain ⟨cy0, cy1, cy2, cy3⟩ := bk4 Ky
  go_wp2_with fail
  with_reducible refine (law10_sane _).mono ?_
  clear cp0 cp1 cq0 cq1 cu0 cu1 cx0 cx1 cx2 cx3 cy0 cy1 cy2 cy3
  rintro e x2 ⟨rfl, hy⟩
  replace hx := hx.trans hy
  replace Kp := kE Kp hy
  replace Kq := kE Kq hy
  replace Ku := kE Ku hy
  replace Kx := kE Kx hy
  replace Ky := kE Ky hy
  clear hy
  obtain ⟨cp0, cp1⟩ := bk2 Kp
  obtain ⟨cq0, cq1⟩ := bk2 Kq
  obtain ⟨cu0, cu1⟩ := bk2 Ku
  obtain ⟨cx0, cx1, cx2, cx3⟩ := bk4 Kx
  obtain ⟨cy0, cy1, cy2, cy3⟩ := bk4 Ky
  go_wp2_with fail
  go_ret
  exact ⟨rfl, hx⟩
set_option maxHeartbeats 4000000 in
theorem law_Low_n2 (n1 n2 n3 : Bool) (a1 a2 a3 : Option Addr) (c1 c2 c3 : Nat) (l1 l2 l3 : List Int) (x y : RatA) (w : World) (h1 : Ints w a1 c1 l1) (h2 : Ints w a2 c2 l2) (h3 : Ints w a3 c3 l3) (hx1 : RatI w x) (hy1 : RatI w y) (f0 : ¬ 6 < l1.length ∧ 6 < l2.length) : Calls Tryz.prog 9 #[.agg #[.bool n1, .slice a1 l1.length c1], .agg #[.bool n2, .slice a2 l2.length c2], .agg #[.bool n3, .slice a3 l3.length c3], x.val, y.val] w fun e w' => e = .returned (.bool true) ∧ Ext w w' := by
  have g1 := h1.le
  have g2 := h1.mx
  have g3 := h2.le
  have g4 := h2.mx
  have g5 := h3.le
  have g6 := h3.mx
  have u1 : decide ((6 : Int) < (l1.length : Int)) = false := decide_eq_false (by omega)
  have v1 : ¬ 6 < l1.length := by omega
  have u2 : decide ((6 : Int) < (l2.length : Int)) = true := decide_eq_true (by omega)
  clear f0 hx1 hy1 h1 h2 h3
  obtain ⟨nx, ax, cx, lx, mx, bx, dx, kx⟩ := x
  obtain ⟨ny, ay, cy, ly, my, by_, dy, ky⟩ := y
  dsimp only [RatA.val] at *
  obtain ⟨x1, hw, hx, Kp, Kq, Ku, Kx, Ky⟩ := boxQ5 w #[.bool n1, .slice a1 l1.length c1] 24 #[.bool n2, .slice a2 l2.length c2] 24 #[.bool n3, .slice a3 l3.length c3] 24 #[.bool nx, .slice ax lx.length cx, .bool mx, .slice bx kx.length dx] 26 #[.bool ny, .slice ay ly.length cy, .bool my, .slice by_ ky.length dy] 26
  replace hw := Lib.hid hw
  go_enter Tryz.func9, Tryz.ntmps9
  go_upto_region 1 with fail
  try simp only [Nat.add_assoc, Nat.reduceAdd, Nat.add_zero]
  rw [hw.out]
  clear hw
  have hs0 := hx.size
  obtain ⟨cp0, cp1⟩ := bk2 Kp
  obtain ⟨cq0, cq1⟩ := bk2 Kq
  obtain ⟨cu0, cu1⟩ := bk2 Ku
  obtain ⟨cx0, cx1, cx2, cx3⟩ := bk4 Kx
  obtain ⟨cy0, cy1, cy2, cy3⟩ := bk4 Ky
  go_wp2_with fail
  with_reducible refine (law10_sane _).mono ?_
  clear cp0 cp1 cq0 cq1 cu0 cu1 cx0 cx1 cx2 cx3 cy0 cy1 cy2 cy3
  rintro e x2 ⟨rfl, hy⟩
  replace hx := hx.trans hy
  replace Kp := kE Kp hy
  replace Kq := kE Kq hy
  replace Ku := kE Ku hy
  replace Kx := kE Kx hy
  replace Ky := kE Ky hy
  clear hy
  obtain ⟨cp0, cp1⟩ := bk2 Kp
  obtain ⟨cq0, cq1⟩ := bk2 Kq
  obtain ⟨cu0, cu1⟩ := bk2 Ku
  obtain ⟨cx0, cx1, cx2, cx3⟩ := bk4 Kx
  obtain ⟨cy0, cy1, cy2, cy3⟩ := bk4 Ky
  go_wp2_with fail
  go_ret
  exact ⟨rfl, hx⟩
set_option maxHeartbeats 4000000 in
theorem law_Low_n3 (n1 n2 n3 : Bool) (a1 a2 a3 : Option Addr) (c1 c2 c3 : Nat) (l1 l2 l3 : List Int) (x y : RatA) (w : World) (h1 : Ints w a1 c1 l1) (h2 : Ints w a2 c2 l2) (h3 : Ints w a3 c3 l3) (hx1 : RatI w x) (hy1 : RatI w y) (f0 : ¬ 6 < l1.length ∧ ¬ 6 < l2.length ∧ 6 < l3.length) : Calls Tryz.prog 9 #[.agg #[.bool n1, .slice a1 l1.length c1], .agg #[.bool n2, .slice a2 l2.length c2], .agg #[.bool n3, .slice a3 l3.length c3], x.val, y.val] w fun e w' => e = .returned (.bool true) ∧ Ext w w' := by
  have g1 := h1.le
  have g2 := h1.mx
  have g3 := h2.le
  have g4 := h2.mx
  have g5 := h3.le
  have g6 := h3.mx
  have u1 : decide ((6 : Int) < (l1.length : Int)) = false := decide_eq_false (by omega)
  have v1 : ¬ 6 < l1.length := by omega
  have u2 : decide ((6 : Int) < (l2.length : Int)) = false := decide_eq_false (by omega)
  have v2 : ¬ 6 < l2.length := by omega
  have u3 : decide ((6 : Int) < (l3.length : Int)) = true := decide_eq_true (by omega)
  clear f0 hx1 hy1 h1 h2 h3
  obtain ⟨nx, ax, cx, lx, mx, bx, dx, kx⟩ := x
  obtain ⟨ny, ay, cy, ly, my, by_, dy, ky⟩ := y
  dsimp only [RatA.val] at *
  obtain ⟨x1, hw, hx, Kp, Kq, Ku, Kx, Ky⟩ := boxQ5 w #[.bool n1, .slice a1 l1.length c1] 24 #[.bool n2, .slice a2 l2.length c2] 24 #[.bool n3, .slice a3 l3.length c3] 24 #[.bool nx, .slice ax lx.length cx, .bool mx, .slice bx kx.length dx] 26 #[.bool ny, .slice ay ly.length cy, .bool my, .slice by_ ky.length dy] 26
  replace hw := Lib.hid hw
  go_enter Tryz.func9, Tryz.ntmps9
  go_upto_region 1 with fail
  try simp only [Nat.add_assoc, Nat.reduceAdd, Nat.add_zero]
  rw [hw.out]
  clear hw
  have hs0 := hx.size
  obtain ⟨cp0, cp1⟩ := bk2 Kp
  obtain ⟨cq0, cq1⟩ := bk2 Kq
  obtain ⟨cu0, cu1⟩ := bk2 Ku
  obtain ⟨cx0, cx1, cx2, cx3⟩ := bk4 Kx
  obtain ⟨cy0, cy1, cy2, cy3⟩ := bk4 Ky
  go_wp2_with fail
  with_reducible refine (law10_sane _).mono ?_
  clear cp0 cp1 cq0 cq1 cu0 cu1 cx0 cx1 cx2 cx3 cy0 cy1 cy2 cy3
  rintro e x2 ⟨rfl, hy⟩
  replace hx := hx.trans hy
  replace Kp := kE Kp hy
  replace Kq := kE Kq hy
  replace Ku := kE Ku hy
  replace Kx := kE Kx hy
  replace Ky := kE Ky hy
  clear hy
  obtain ⟨cp0, cp1⟩ := bk2 Kp
  obtain ⟨cq0, cq1⟩ := bk2 Kq
  obtain ⟨cu0, cu1⟩ := bk2 Ku
  obtain ⟨cx0, cx1, cx2, cx3⟩ := bk4 Kx
  obtain ⟨cy0, cy1, cy2, cy3⟩ := bk4 Ky
  go_wp2_with fail
  go_ret
  exact ⟨rfl, hx⟩
set_option maxHeartbeats 4000000 in
theorem law_Low_few (n1 n2 n3 : Bool) (a1 a2 a3 : Option Addr) (c1 c2 c3 : Nat) (l1 l2 l3 : List Int) (x y : RatA) (w : World) (h1 : Ints w a1 c1 l1) (h2 : Ints w a2 c2 l2) (h3 : Ints w a3 c3 l3) (hx1 : RatI w x) (hy1 : RatI w y) (f0 : (¬ 6 < l1.length ∧ ¬ 6 < l2.length ∧ ¬ 6 < l3.length) ∧ (fewL x && fewL y) = false) : Calls Tryz.prog 9 #[.agg #[.bool n1, .slice a1 l1.length c1], .agg #[.bool n2, .slice a2 l2.length c2], .agg #[.bool n3, .slice a3 l3.length c3], x.val, y.val] w fun e w' => e = .returned (.bool true) ∧ Ext w w' := by
  have HFW := Lib.hid (fun (W : World) (gg : Nat) (t : TypeId) (hE : Ext w W) (h : Blk W gg #[.bool x.n, .slice x.a x.l.length x.c, .bool x.n2, .slice x.b x.m.length x.d, .bool y.n, .slice y.a y.l.length y.c, .bool y.n2, .slice y.b y.m.length y.d] t) => law_few2 h (hx1.ext hE) (hy1.ext hE))
  rw [f0.2] at HFW
  have g1 := h1.le
  have g2 := h1.mx
  have g3 := h2.le
  have g4 := h2.mx
  have g5 := h3.le
  have g6 := h3.mx
  have u1 : decide ((6 : Int) < (l1.length : Int)) = false := decide_eq_false (by omega)
  have v1 : ¬ 6 < l1.length := by omega
  have u2 : decide ((6 : Int) < (l2.length : Int)) = false := decide_eq_false (by omega)
  have v2 : ¬ 6 < l2.length := by omega
  have u3 : decide ((6 : Int) < (l3.length : Int)) = false := decide_eq_false (by omega)
  have v3 : ¬ 6 < l3.length := by omega
  clear f0 hx1 hy1 h1 h2 h3
  obtain ⟨nx, ax, cx, lx, mx, bx, dx, kx⟩ := x
  obtain ⟨ny, ay, cy, ly, my, by_, dy, ky⟩ := y
  dsimp only [RatA.val] at *
  obtain ⟨x1, hw, hx, Kp, Kq, Ku, Kx, Ky⟩ := boxQ5 w #[.bool n1, .slice a1 l1.length c1] 24 #[.bool n2, .slice a2 l2.length c2] 24 #[.bool n3, .slice a3 l3.length c3] 24 #[.bool nx, .slice ax lx.length cx, .bool mx, .slice bx kx.length dx] 26 #[.bool ny, .slice ay ly.length cy, .bool my, .slice by_ ky.length dy] 26
  replace hw := Lib.hid hw
  go_enter Tryz.func9, Tryz.ntmps9
  go_upto_region 1 with fail
  try simp only [Nat.add_assoc, Nat.reduceAdd, Nat.add_zero]
  rw [hw.out]
  clear hw
  have hs0 := hx.size
  obtain ⟨cp0, cp1⟩ := bk2 Kp
  obtain ⟨cq0, cq1⟩ := bk2 Kq
  obtain ⟨cu0, cu1⟩ := bk2 Ku
  obtain ⟨cx0, cx1, cx2, cx3⟩ := bk4 Kx
  obtain ⟨cy0, cy1, cy2, cy3⟩ := bk4 Ky
  go_wp2_with fail
  with_reducible refine (law10_sane _).mono ?_
  clear cp0 cp1 cq0 cq1 cu0 cu1 cx0 cx1 cx2 cx3 cy0 cy1 cy2 cy3
  rintro e x2 ⟨rfl, hy⟩
  replace hx := hx.trans hy
  replace Kp := kE Kp hy
  replace Kq := kE Kq hy
  replace Ku := kE Ku hy
  replace Kx := kE Kx hy
  replace Ky := kE Ky hy
  clear hy
  obtain ⟨cp0, cp1⟩ := bk2 Kp
  obtain ⟨cq0, cq1⟩ := bk2 Kq
  obtain ⟨cu0, cu1⟩ := bk2 Ku
  obtain ⟨cx0, cx1, cx2, cx3⟩ := bk4 Kx
  obtain ⟨cy0, cy1, cy2, cy3⟩ := bk4 Ky
  clear cp0 cp1 cq0 cq1 cu0 cu1 cx0 cx1 cx2 cx3 cy0 cy1 cy2 cy3
  obtain ⟨cp0, cp1⟩ := bk2 Kp
  obtain ⟨cq0, cq1⟩ := bk2 Kq
  obtain ⟨cu0, cu1⟩ := bk2 Ku
  obtain ⟨cx0, cx1, cx2, cx3⟩ := bk4 Kx
  obtain ⟨cy0, cy1, cy2, cy3⟩ := bk4 Ky
  have hl := Ext.alloc x2 (.cells #[.bool nx, .slice ax lx.length cx, .bool mx, .slice bx kx.length dx, .bool ny, .slice ay ly.length cy, .bool my, .slice by_ ky.length dy] 26)
  have hKK := Blk.new0 x2 #[.bool nx, .slice ax lx.length cx, .bool mx, .slice bx kx.length dx, .bool ny, .slice ay ly.length cy, .bool my, .slice by_ ky.length dy] 26
  have hlx := hx.trans hl
  have HTT := Lib.hid (HFW.out _ _ _ hlx hKK)
  clear hKK hlx
  go_wp2_with fail
  with_reducible refine (HTT.out).mono ?_
  clear cp0 cp1 cq0 cq1 cu0 cu1 cx0 cx1 cx2 cx3 cy0 cy1 cy2 cy3
  rintro e x3 ⟨rfl, hy⟩
  replace hy := hl.trans hy
  replace hx := hx.trans hy
  replace Kp := kE Kp hy
  replace Kq := kE Kq hy
  replace Ku := kE Ku hy
  replace Kx := kE Kx hy
  replace Ky := kE Ky hy
  clear hy HTT hl
  go_wp2_with fail
  go_ret
  exact ⟨rfl, hx⟩
set_option maxHeartbeats 16000000 in
theorem law_Low_ok {n1 n2 n3 nx ny mx my : Bool} {a1 a2 a3 ax bx ay by_ : Option Addr} {q1 q2 q3 c1 c2 c3 qx cx kx dx qy cy ky dy : Nat} {z1 z2 E Ef Eg : Int} {o : Option Rat} {w : World} (t1 : q1 ≤ 6) (t2 : q2 ≤ 6) (t3 : q3 ≤ 6) 
    (hf : ∀ W gg ty, Ext w W → Blk W gg #[.bool nx, .slice ax qx cx, .bool mx, .slice bx kx dx, .bool ny, .slice ay qy cy, .bool my, .slice by_ ky dy] ty → Calls Tryz.prog 24 #[.slice (some ⟨gg, 0, none⟩) 2 2] W fun e w' => e = .returned (.bool true) ∧ Ext W w')
    (h1 : ∀ W, Ext w W → Calls Tryz.prog 15 #[.agg #[.bool n1, .slice a1 q1 c1], .agg #[.bool n2, .slice a2 q2 c2]] W (ResO o E W))
    (h2 : ∀ W, Ext w W → Calls Tryz.prog 43 #[.agg #[.bool n1, .slice a1 q1 c1], .agg #[.bool n3, .slice a3 q3 c3]] W (ResB z1 Ef W))
    (h3 : ∀ W, Ext w W → Calls Tryz.prog 43 #[.agg #[.bool n2, .slice a2 q2 c2], .agg #[.bool n3, .slice a3 q3 c3]] W (ResB z2 Eg W))
    (h4 : Ef = 0 → Eg = 0 → 0 < q3 → ∀ W v u, BigV W v z1 → BigV W u z2 → Calls Tryz.prog 15 #[v, u] W (ResO o E W))
    (h5 : E = 0 → ∃ r, o = some r ∧ Sz r 40)
    (h6 : ∀ k, k < 4 → ∃ (fid : FuncId) (ok : Option Rat) (Ek : Int), fkL.getD k 0 = fid ∧ (∀ args w, (callFunc fid args).run Tryz.prog w = .ok (.enter fid args) w) ∧ (∀ W, Ext w W → Calls Tryz.prog fid #[.agg #[.bool nx, .slice ax qx cx, .bool mx, .slice bx kx dx], .agg #[.bool ny, .slice ay qy cy, .bool my, .slice by_ ky dy]] W (ResO ok Ek W)) ∧ (Ek = 0 → ∃ r, ok = some r ∧ Sz r 40)) :
    Calls Tryz.prog 9 #[.agg #[.bool n1, .slice a1 q1 c1], .agg #[.bool n2, .slice a2 q2 c2], .agg #[.bool n3, .slice a3 q3 c3], .agg #[.bool nx, .slice ax qx cx, .bool mx, .slice bx kx dx], .agg #[.bool ny, .slice ay qy cy, .bool my, .slice by_ ky dy]] w fun e w' => e = .returned (.bool true) ∧ Ext w w' := by
  have HFW := Lib.hid hf
  have H1 := Lib.hid h1
  have H2 := Lib.hid h2
  have H3 := Lib.hid h3
  have H4 := Lib.hid h4
  have H5 := Lib.hid h5
  have H6 := Lib.hid h6
  clear hf h1 h2 h3 h4 h5 h6
  have u1 : decide ((6 : Int) < (q1 : Int)) = false := decide_eq_false (by omega)
  have v1 : ¬ 6 < q1 := by omega
  have u2 : decide ((6 : Int) < (q2 : Int)) = false := decide_eq_false (by omega)
  have v2 : ¬ 6 < q2 := by omega
  have u3 : decide ((6 : Int) < (q3 : Int)) = false := decide_eq_false (by omega)
  have v3 : ¬ 6 < q3 := by omega
  obtain ⟨x1, hw, hx, Kp, Kq, Ku, Kx, Ky⟩ := boxQ5 w #[.bool n1, .slice a1 q1 c1] 24 #[.bool n2, .slice a2 q2 c2] 24 #[.bool n3, .slice a3 q3 c3] 24 #[.bool nx, .slice ax qx cx, .bool mx, .slice bx kx dx] 26 #[.bool ny, .slice ay qy cy, .bool my, .slice by_ ky dy] 26
  replace hw := Lib.hid hw
  go_enter Tryz.func9, Tryz.ntmps9
  go_upto_region 1 with fail
  try simp only [Nat.add_assoc, Nat.reduceAdd, Nat.add_zero]
  rw [hw.out]
  clear hw
  have hs0 := hx.size
  obtain ⟨cp0, cp1⟩ := bk2 Kp
  obtain ⟨cq0, cq1⟩ := bk2 Kq
  obtain ⟨cu0, cu1⟩ := bk2 Ku
  obtain ⟨cx0, cx1, cx2, cx3⟩ := bk4 Kx
  obtain ⟨cy0, cy1, cy2, cy3⟩ := bk4 Ky
  go_wp2_with fail
  with_reducible refine (law10_sane _).mono ?_
  clear cp0 cp1 cq0 cq1 cu0 cu1 cx0 cx1 cx2 cx3 cy0 cy1 cy2 cy3
  rintro e x2 ⟨rfl, hy⟩
  replace hx := hx.trans hy
  replace Kp := kE Kp hy
  replace Kq := kE Kq hy
  replace Ku := kE Ku hy
  replace Kx := kE Kx hy
  replace Ky := kE Ky hy
  clear hy
  obtain ⟨cp0, cp1⟩ := bk2 Kp
  obtain ⟨cq0, cq1⟩ := bk2 Kq
  obtain ⟨cu0, cu1⟩ := bk2 Ku
  obtain ⟨cx0, cx1, cx2, cx3⟩ := bk4 Kx
  obtain ⟨cy0, cy1, cy2, cy3⟩ := bk4 Ky
  clear cp0 cp1 cq0 cq1 cu0 cu1 cx0 cx1 cx2 cx3 cy0 cy1 cy2 cy3
  obtain ⟨cp0, cp1⟩ := bk2 Kp
  obtain ⟨cq0, cq1⟩ := bk2 Kq
  obtain ⟨cu0, cu1⟩ := bk2 Ku
  obtain ⟨cx0, cx1, cx2, cx3⟩ := bk4 Kx
  obtain ⟨cy0, cy1, cy2, cy3⟩ := bk4 Ky
  have hl := Ext.alloc x2 (.cells #[.bool nx, .slice ax qx cx, .bool mx, .slice bx kx dx, .bool ny, .slice ay qy cy, .bool my, .slice by_ ky dy] 26)
  have hKK := Blk.new0 x2 #[.bool nx, .slice ax qx cx, .bool mx, .slice bx kx dx, .bool ny, .slice ay qy cy, .bool my, .slice by_ ky dy] 26
  have hlx := hx.trans hl
  have HTT := Lib.hid (HFW.out _ _ _ hlx hKK)
  clear hKK hlx
  go_wp2_with fail
  with_reducible refine (HTT.out).mono ?_
  clear cp0 cp1 cq0 cq1 cu0 cu1 cx0 cx1 cx2 cx3 cy0 cy1 cy2 cy3
  rintro e x3 ⟨rfl, hy⟩
  replace hy := hl.trans hy
  replace hx := hx.trans hy
  replace Kp := kE Kp hy
  replace Kq := kE Kq hy
  replace Ku := kE Ku hy
  replace Kx := kE Kx hy
  replace Ky := kE Ky hy
  clear hy HTT hl
  clear u1 u2 u3 v1 v2 v3
  obtain ⟨cp0, cp1⟩ := bk2 Kp
  obtain ⟨cq0, cq1⟩ := bk2 Kq
  obtain ⟨cu0, cu1⟩ := bk2 Ku
  go_wp2_with fail
  clear cp0 cp1 cq0 cq1 cu0 cu1
  with_reducible refine (H1.out _ hx).mono ?_
  rintro e x4 ⟨nr, ar, qr, cr, mr, br, kr, dr, rfl, hv, hu, -, -, hy⟩
  replace hx := hx.trans hy
  replace Kp := kE Kp hy
  replace Kq := kE Kq hy
  replace Ku := kE Ku hy
  replace Kx := kE Kx hy
  replace Ky := kE Ky hy
  clear hy
  have Vr := Lib.hid hv
  have Ur := Lib.hid hu
  clear hv hu
  go_upto_region 6 with fail
  have hl := Ext.alloc x4 (.cells #[.bool nr, .slice ar qr cr, .bool mr, .slice br kr dr] 26)
  have lpr : w.heap.size < x4.heap.size := Kp.out.lt
  have lqr : w.heap.size + 1 < x4.heap.size := Kq.out.lt
  have lur : w.heap.size + 2 < x4.heap.size := Ku.out.lt
  have lxr : w.heap.size + 3 < x4.heap.size := Kx.out.lt
  have lyr : w.heap.size + 4 < x4.heap.size := Ky.out.lt
  have hpr : w.heap.size ≤ x4.heap.size := hx.size
  replace hx := hx.trans hl
  replace Kp := kE Kp hl
  replace Kq := kE Kq hl
  replace Ku := kE Ku hl
  replace Kx := kE Kx hl
  replace Ky := kE Ky hl
  replace Vr := Lib.hid (Vr.out.ext hl)
  replace Ur := Lib.hid (Ur.out.ext hl)
  have Kr := Lib.hid (Blk.new0 x4 #[.bool nr, .slice ar qr cr, .bool mr, .slice br kr dr] 26)
  clear hl
  generalize x4.alloc (.cells #[.bool nr, .slice ar qr cr, .bool mr, .slice br kr dr] 26) = x5 at *
  generalize x4.heap.size = pr at *
  obtain ⟨cp0, cp1⟩ := bk2 Kp
  obtain ⟨cq0, cq1⟩ := bk2 Kq
  obtain ⟨cu0, cu1⟩ := bk2 Ku
  go_wp2_with fail
  clear cp0 cp1 cq0 cq1 cu0 cu1
  with_reducible refine (H2.out _ hx).mono ?_
  rintro e x6 ⟨nf, af, qf, cf, rfl, hv, hy⟩
  replace hx := hx.trans hy
  replace Kp := kE Kp hy
  replace Kq := kE Kq hy
  replace Ku := kE Ku hy
  replace Kx := kE Kx hy
  replace Ky := kE Ky hy
  replace Kr := kE Kr hy
  replace Vr := Lib.hid (Vr.out.ext hy)
  replace Ur := Lib.hid (Ur.out.ext hy)
  clear hy
  have Vf := Lib.hid hv
  clear hv
  go_upto_region 7 with fail
  have hl := Ext.alloc x6 (.cells #[.bool nf, .slice af qf cf] 24)
  have lpf : w.heap.size < x6.heap.size := Kp.out.lt
  have lqf : w.heap.size + 1 < x6.heap.size := Kq.out.lt
  have luf : w.heap.size + 2 < x6.heap.size := Ku.out.lt
  have lxf : w.heap.size + 3 < x6.heap.size := Kx.out.lt
  have lyf : w.heap.size + 4 < x6.heap.size := Ky.out.lt
  have lrf : pr < x6.heap.size := Kr.out.lt
  have hpf : w.heap.size ≤ x6.heap.size := hx.size
  replace hx := hx.trans hl
  replace Kp := kE Kp hl
  replace Kq := kE Kq hl
  replace Ku := kE Ku hl
  replace Kx := kE Kx hl
  replace Ky := kE Ky hl
  replace Kr := kE Kr hl
  replace Vr := Lib.hid (Vr.out.ext hl)
  replace Ur := Lib.hid (Ur.out.ext hl)
  replace Vf := Lib.hid (Vf.out.ext hl)
  have Kf := Lib.hid (Blk.new0 x6 #[.bool nf, .slice af qf cf] 24)
  clear hl
  generalize x6.alloc (.cells #[.bool nf, .slice af qf cf] 24) = x7 at *
  generalize x6.heap.size = pf at *
  obtain ⟨cp0, cp1⟩ := bk2 Kp
  obtain ⟨cq0, cq1⟩ := bk2 Kq
  obtain ⟨cu0, cu1⟩ := bk2 Ku
  go_wp2_with fail
  clear cp0 cp1 cq0 cq1 cu0 cu1
  with_reducible refine (H3.out _ hx).mono ?_
  rintro e x8 ⟨ng, ag, qg, cg, rfl, hv, hy⟩
  replace hx := hx.trans hy
  replace Kp := kE Kp hy
  replace Kq := kE Kq hy
  replace Ku := kE Ku hy
  replace Kx := kE Kx hy
  replace Ky := kE Ky hy
  replace Kr := kE Kr hy
  replace Kf := kE Kf hy
  replace Vr := Lib.hid (Vr.out.ext hy)
  replace Ur := Lib.hid (Ur.out.ext hy)
  replace Vf := Lib.hid (Vf.out.ext hy)
  clear hy
  have Vg := Lib.hid hv
  clear hv
  go_upto_region 8 with fail
  have hl := Ext.alloc x8 (.cells #[.bool ng, .slice ag qg cg] 24)
  have lpg : w.heap.size < x8.heap.size := Kp.out.lt
  have lqg : w.heap.size + 1 < x8.heap.size := Kq.out.lt
  have lug : w.heap.size + 2 < x8.heap.size := Ku.out.lt
  have lxg : w.heap.size + 3 < x8.heap.size := Kx.out.lt
  have lyg : w.heap.size + 4 < x8.heap.size := Ky.out.lt
  have lrg : pr < x8.heap.size := Kr.out.lt
  have lfg : pf < x8.heap.size := Kf.out.lt
  have hpg : w.heap.size ≤ x8.heap.size := hx.size
  replace hx := hx.trans hl
  replace Kp := kE Kp hl
  replace Kq := kE Kq hl
  replace Ku := kE Ku hl
  replace Kx := kE Kx hl
  replace Ky := kE Ky hl
  replace Kr := kE Kr hl
  replace Kf := kE Kf hl
  replace Vr := Lib.hid (Vr.out.ext hl)
  replace Ur := Lib.hid (Ur.out.ext hl)
  replace Vf := Lib.hid (Vf.out.ext hl)
  replace Vg := Lib.hid (Vg.out.ext hl)
  have Kg := Lib.hid (Blk.new0 x8 #[.bool ng, .slice ag qg cg] 24)
  clear hl
  generalize x8.alloc (.cells #[.bool ng, .slice ag qg cg] 24) = x9 at *
  generalize x8.heap.size = pg at *
  clear H1 H2 H3 HFW
  go_cut [82] (fun s82 wx => s82 = .bool ((Ef == 0) && ((Eg == 0) && decide (0 < q3))) ∧ x9 = wx)
  case first =>
    obtain ⟨cu0, cu1⟩ := bk2 Ku
    cases hb1 : (Ef == 0)
    · have HQ : Hid (((false : Bool) && ((Eg == 0) && decide (0 < q3))) = false) := Lib.hid rfl
      go_wp2_with fail
      go_meet
      first | exact ⟨rfl, rfl⟩ | exact ⟨by simp [hb1], rfl⟩ | (refine ⟨?_, rfl⟩; simp_all)
    cases hb2 : (Eg == 0)
    · go_wp2_with fail
      go_meet
      first | exact ⟨rfl, rfl⟩ | exact ⟨by simp [hb1, hb2], rfl⟩ | (refine ⟨?_, rfl⟩; simp_all)
    by_cases hb3 : 0 < q3
    · have hb4 : (0 : Int) < (q3 : Int) := by omega
      go_wp2_with fail
      go_meet
      first | exact ⟨rfl, rfl⟩ | exact ⟨by simp [hb1, hb2, hb3], rfl⟩ | (refine ⟨?_, rfl⟩; simp_all)
    · have hb4 : ¬ (0 : Int) < (q3 : Int) := by omega
      have hb5 : decide ((0 : Int) < (q3 : Int)) = false := decide_eq_false hb4
      go_wp2_with fail
      go_meet
      first | exact ⟨rfl, rfl⟩ | exact ⟨by simp [hb1, hb2, hb3], rfl⟩ | (refine ⟨?_, rfl⟩; simp_all)
  case rest =>
  obtain ⟨rfl, rfl⟩ := hcut
  obtain ⟨B, hB⟩ : ∃ B, B = ((Ef == 0) && ((Eg == 0) && decide (0 < q3))) := ⟨_, rfl⟩
  rw [← hB]
  have HB := Lib.hid hB
  clear hB
  go_upto_if 82 with fail
  go_cut [] (fun wx => Ext x9 wx)
  case first =>
    cases B with
    | false =>
      go_wp2_with fail
      go_meet
      exact Ext.refl _
    | true =>
      have hq : Ef = 0 ∧ Eg = 0 ∧ 0 < q3 := by
        have := HB.out
        simpa using this.symm
      obtain ⟨e1, e2, e3⟩ := hq
      have HO := Lib.hid (H4.out e1 e2 e3 _ _ _ Vf.out Vg.out)
      have hE : Ext x9 x9 := Ext.refl _
      clear e1 e2 e3 HB
      obtain ⟨cf0, cf1⟩ := bk2 Kf
      obtain ⟨cg0, cg1⟩ := bk2 Kg
      go_wp2_with fail
      clear cf0 cf1 cg0 cg1
      with_reducible refine (HO.out).mono ?_
      rintro e x10 ⟨nv, av, qv, cv, mv, bv, kv, dv, rfl, hv, hu, -, -, hy⟩
      replace hE := hE.trans hy
      replace hx := hx.trans hy
      replace Kp := kE Kp hy
      replace Kq := kE Kq hy
      replace Ku := kE Ku hy
      replace Kx := kE Kx hy
      replace Ky := kE Ky hy
      replace Kr := kE Kr hy
      replace Kf := kE Kf hy
      replace Kg := kE Kg hy
      replace Vr := Lib.hid (Vr.out.ext hy)
      replace Ur := Lib.hid (Ur.out.ext hy)
      replace Vf := Lib.hid (Vf.out.ext hy)
      replace Vg := Lib.hid (Vg.out.ext hy)
      clear hy HO
      have Vv := Lib.hid hv
      have Uv := Lib.hid hu
      clear hv hu
      go_upto_region 10 with fail
      replace hE := hE.trans (Ext.alloc x10 (.cells #[.bool nv, .slice av qv cv, .bool mv, .slice bv kv dv] 26))
      have hl := Ext.alloc x10 (.cells #[.bool nv, .slice av qv cv, .bool mv, .slice bv kv dv] 26)
      have lpv : w.heap.size < x10.heap.size := Kp.out.lt
      have lqv : w.heap.size + 1 < x10.heap.size := Kq.out.lt
      have luv : w.heap.size + 2 < x10.heap.size := Ku.out.lt
      have lxv : w.heap.size + 3 < x10.heap.size := Kx.out.lt
      have lyv : w.heap.size + 4 < x10.heap.size := Ky.out.lt
      have lrv : pr < x10.heap.size := Kr.out.lt
      have lfv : pf < x10.heap.size := Kf.out.lt
      have lgv : pg < x10.heap.size := Kg.out.lt
      have hpv : w.heap.size ≤ x10.heap.size := hx.size
      replace hx := hx.trans hl
      replace Kp := kE Kp hl
      replace Kq := kE Kq hl
      replace Ku := kE Ku hl
      replace Kx := kE Kx hl
      replace Ky := kE Ky hl
      replace Kr := kE Kr hl
      replace Kf := kE Kf hl
      replace Kg := kE Kg hl
      replace Vr := Lib.hid (Vr.out.ext hl)
      replace Ur := Lib.hid (Ur.out.ext hl)
      replace Vf := Lib.hid (Vf.out.ext hl)
      replace Vg := Lib.hid (Vg.out.ext hl)
      replace Vv := Lib.hid (Vv.out.ext hl)
      replace Uv := Lib.hid (Uv.out.ext hl)
      have Kv := Lib.hid (Blk.new0 x10 #[.bool nv, .slice av qv cv, .bool mv, .slice bv kv dv] 26)
      clear hl
      generalize x10.alloc (.cells #[.bool nv, .slice av qv cv, .bool mv, .slice bv kv dv] 26) = x11 at *
      generalize x10.heap.size = pv at *
      have HS := Lib.hid (same_val Vr.out Ur.out Vv.out Uv.out)
      simp only [and_self, decide_true] at HS
      have hEE : (E == E) = true := by simp
      have hEn : (E != E) = false := by simp
      obtain ⟨cr0, cr1, cr2, cr3⟩ := bk4 Kr
      obtain ⟨cv0, cv1, cv2, cv3⟩ := bk4 Kv
      go_wp2_with fail
      clear cr0 cr1 cr2 cr3 cv0 cv1 cv2 cv3
      with_reducible refine (HS.out).mono ?_
      rintro e x12 ⟨rfl, hy⟩
      replace hE := hE.trans hy
      clear hy
      go_wp2_with fail
      go_meet
      exact hE
  case rest =>
  have hy := hcut
  clear hcut H4 HB
  replace hx := hx.trans hy
  replace Kp := kE Kp hy
  replace Kq := kE Kq hy
  replace Ku := kE Ku hy
  replace Kx := kE Kx hy
  replace Ky := kE Ky hy
  replace Kr := kE Kr hy
  replace Kf := kE Kf hy
  replace Kg := kE Kg hy
  replace Vr := Lib.hid (Vr.out.ext hy)
  replace Ur := Lib.hid (Ur.out.ext hy)
  replace Vf := Lib.hid (Vf.out.ext hy)
  replace Vg := Lib.hid (Vg.out.ext hy)
  clear hy
  clear Kf Kg Kp Kq Ku
  clear Vf Vg
  generalize wc = W1 at *
  go_upto_region 13 with fail
  have HX := Lib.hid hx
  have HKx := Kx
  have HKy := Ky
  have HO := Lib.hid (OwnRats.new W1)
  have HOF : Hid ((⟨nr, ar, qr, cr, mr, br, kr, dr⟩ : RatC).Off (Value.slice (some ⟨Array.size (World.heap W1), 0, none⟩) 0 0).ownBlock) := Lib.hid (off_new Vr.out Ur.out)
  have hE : Ext W1 (W1.alloc (.cells #[] 26)) := Ext.alloc _ _
  obtain ⟨B0, hB0⟩ : ∃ B0, Array.size (World.heap W1) = B0 := ⟨_, rfl⟩
  have HB0 := Lib.hid hB0
  have hob : ∀ g0, (Value.slice (some ⟨Array.size (World.heap W1), 0, none⟩) 0 0).ownBlock = some g0 → B0 ≤ g0 := fun g0 e => by simp only [Value.ownBlock, Option.some.injEq] at e; omega
  generalize Value.slice (some ⟨Array.size (World.heap W1), 0, none⟩) 0 0 = v0 at *
  replace hx := hx.trans hE
  replace Kx := kE Kx hE
  replace Ky := kE Ky hE
  replace Kr := kE Kr hE
  replace Vr := Lib.hid (Vr.out.ext hE)
  replace Ur := Lib.hid (Ur.out.ext hE)
  generalize W1.alloc (.cells #[] 26) = wl at *
  clear hB0
  obtain ⟨cr0, cr1, cr2, cr3⟩ := bk4 Kr
  go_upto_if 100 with fail
  clear cr0 cr1 cr2 cr3
  go_cut [19] (fun s19 wx => ∃ (L : List RatC) (rs : List Rat), OwnRats wx (Array.size (World.heap W1)) s19 L rs ∧ L.length ≤ 1 ∧ AllSz rs 40 ∧ Ext W1 wx)
  case first =>
    cases he : (E == 0)
    · go_wp2_with fail
      go_meet
      exact ⟨[], [], HO.out, by simp, ⟨by simp⟩, hE⟩
    · obtain ⟨r, rfl, hs⟩ := H5.out (by simpa using he)
      have HR : Hid (RatV wl (.agg #[.bool nr, .slice ar qr cr, .bool mr, .slice br kr dr]) r) := Lib.hid (RatV.mk Vr.out Ur.out)
      have HS := Lib.hid hs
      have HE := Lib.hid hE
      clear hs he hE
      obtain ⟨cr0, cr1, cr2, cr3⟩ := bk4 Kr
      have hal := Ext.alloc wl (.cells #[.bool nr, .slice ar qr cr, .bool mr, .slice br kr dr] 26)
      have HA1 := Lib.hid (HE.out.trans hal)
      have HA2 := Lib.hid (HO.out.ext hal)
      have HA3 := Lib.hid (Blk.new0 wl #[.bool nr, .slice ar qr cr, .bool mr, .slice br kr dr] 26)
      have HA4 := Lib.hid (HR.out.ext hal)
      clear hal
      go_wp2_with (at_builtin; refine wpl_append_rat rfl (.tmp 101) (.tmp 103) rfl HA1.out rfl HA2.out rfl (x := ⟨nr, ar, qr, cr, mr, br, kr, dr⟩) HA3.out HA4.out HOF.out (by simp) ?_; intro v' w3 hO' hE' hg' hat')
      go_meet
      exact ⟨_, _, hO', by simp, (⟨by simp⟩ : AllSz [] 40).more HS.out, hE'⟩
  case rest =>
  obtain ⟨L0, rs0, hO0, hl0, hs0, hy0⟩ := hcut
  clear HO HOF hE hx Kx Ky Kr Vr Ur hob
  generalize wc = W2 at *
  have hx := HX.out.trans hy0
  have Kx := kE HKx hy0
  have Ky := kE HKy hy0
  have HO0 := Lib.hid hO0
  clear hO0
  go_wp2_with fail
  have HOL := Lib.hid HO0.out.lt
  have hyF : Ext W1 (World.alloc W2 (.cells #[.func (.func 33) #[] #[], .func (.func 35) #[] #[], .func (.func 37) #[] #[], .func (.func 39) #[] #[]] 51)) := hy0.alloc' _
  have hl := Ext.alloc W2 (.cells #[.func (.func 33) #[] #[], .func (.func 35) #[] #[], .func (.func 37) #[] #[], .func (.func 39) #[] #[]] 51)
  have lxF : w.heap.size + 3 < W2.heap.size := Kx.out.lt
  have lyF : w.heap.size + 4 < W2.heap.size := Ky.out.lt
  have hpF : w.heap.size ≤ W2.heap.size := hx.size
  replace hx := hx.trans hl
  replace Kx := kE Kx hl
  replace Ky := kE Ky hl
  replace HO0 := Lib.hid (HO0.out.ext hl)
  have KF := Lib.hid (Blk.new0 W2 #[.func (.func 33) #[] #[], .func (.func 35) #[] #[], .func (.func 37) #[] #[], .func (.func 39) #[] #[]] 51)
  clear hl
  generalize W2.alloc (.cells #[.func (.func 33) #[] #[], .func (.func 35) #[] #[], .func (.func 37) #[] #[], .func (.func 39) #[] #[]] 51) = x10 at *
  generalize W2.heap.size = pF at *
  clear hx Kx Ky
  go_loopw [19, 107] (fun s i wr => ∃ (k : Nat) (L : List RatC) (rs : List Rat), k ≤ 4 ∧ i = .int .i64 k ∧ OwnRats wr (Array.size (World.heap W1)) s L rs ∧ L.length ≤ k + 1 ∧ AllSz rs 40 ∧ Blk wr pF #[.func (.func 33) #[] #[], .func (.func 35) #[] #[], .func (.func 37) #[] #[], .func (.func 39) #[] #[]] 51 ∧ s.ownBlock ≠ some pF ∧ Ext W1 wr) (fun _ i _ => 4 - (intOf i).toNat)
  case atStart => exact ⟨0, L0, rs0, by omega, rfl, HO0.out, hl0, hs0, KF.out, fun e => by have := (HOL.out _ e).2; omega, hyF⟩
  case round =>
    obtain ⟨k, L, rs, hk, rfl, hO, hLl, hS, hB, hnb, hxr⟩ := hrel
    have HXR := Lib.hid hxr
    have hx := HX.out.trans hxr
    have Kx := kE HKx hxr
    have Ky := kE HKy hxr
    have KF := Lib.hid hB
    have HO := Lib.hid hO
    have HNB := Lib.hid hnb
    have HSZ := Lib.hid hS
    have g1 : (0 : Int) ≤ (k : Int) := by omega
    have hE : Ext wr wr := Ext.refl _
    clear hO hB hnb hxr hS
    by_cases hlt : k < 4
    · have cF := fk_cell KF.out hlt
      obtain ⟨fid, ok, Ek, hfid, hen0, hc6, ho6⟩ := H6.out k hlt
      rw [hfid] at cF
      have HC6 := Lib.hid hc6
      have HO6 := Lib.hid ho6
      have HEN := Lib.hid hen0
      have g2 : (k : Int) < 4 := by omega
      clear hc6 ho6 hen0 hfid
      obtain ⟨cx0, cx1, cx2, cx3⟩ := bk4 Kx
      obtain ⟨cy0, cy1, cy2, cy3⟩ := bk4 Ky
      have hsz := HO.out.lt
      have HLT := Lib.hid hsz
      clear hsz
      have hen := HEN.out
      go_wp2_with fail
      clear hen
      clear cx0 cx1 cx2 cx3 cy0 cy1 cy2 cy3
      with_reducible refine (HC6.out _ hx).mono ?_
      rintro e x11 ⟨nr, ar, qr, cr, mr, br, kr, dr, rfl, hv, hu, hf, hg, hy⟩
      have HOF : Hid ((⟨nr, ar, qr, cr, mr, br, kr, dr⟩ : RatC).Off _) := Lib.hid (off_fresh (fun g0 e => (HLT.out g0 e).2) hf hg)
      clear hf hg cF HLT
      replace hx := hx.trans hy
      replace Kx := kE Kx hy
      replace Ky := kE Ky hy
      replace KF := kE KF hy
      replace HO := Lib.hid (HO.out.ext hy)
      replace hE := hE.trans hy
      clear hy
      have Vr := Lib.hid hv
      have Ur := Lib.hid hu
      clear hv hu
      go_upto_region 19 with fail
      replace hE := hE.trans (Ext.alloc x11 (.cells #[.bool nr, .slice ar qr cr, .bool mr, .slice br kr dr] 26))
      have hl := Ext.alloc x11 (.cells #[.bool nr, .slice ar qr cr, .bool mr, .slice br kr dr] 26)
      have lxr : w.heap.size + 3 < x11.heap.size := Kx.out.lt
      have lyr : w.heap.size + 4 < x11.heap.size := Ky.out.lt
      have lFr : pF < x11.heap.size := KF.out.lt
      have hpr : w.heap.size ≤ x11.heap.size := hx.size
      replace hx := hx.trans hl
      replace Kx := kE Kx hl
      replace Ky := kE Ky hl
      replace KF := kE KF hl
      replace HO := Lib.hid (HO.out.ext hl)
      replace Vr := Lib.hid (Vr.out.ext hl)
      replace Ur := Lib.hid (Ur.out.ext hl)
      have Kr := Lib.hid (Blk.new0 x11 #[.bool nr, .slice ar qr cr, .bool mr, .slice br kr dr] 26)
      clear hl
      generalize x11.alloc (.cells #[.bool nr, .slice ar qr cr, .bool mr, .slice br kr dr] 26) = x12 at *
      generalize x11.heap.size = pr at *
      have HE := Lib.hid (HXR.out.trans hE)
      clear hE
      cases he : (Ek == 0)
      · go_wp2_with fail
        go_roundw
        case rel => exact ⟨k + 1, L, rs, by omega, by go_num, HO.out, by omega, HSZ.out, KF.out, HNB.out, HE.out⟩
        case measure => simp [intOf]; omega
      · obtain rfl : Ek = 0 := by simpa using he
        obtain ⟨r, rfl, hs⟩ := HO6.out rfl
        have HR : Hid (RatV x12 (.agg #[.bool nr, .slice ar qr cr, .bool mr, .slice br kr dr]) r) := Lib.hid (RatV.mk Vr.out Ur.out)
        have HS := Lib.hid hs
        clear hs he
        obtain ⟨cr0, cr1, cr2, cr3⟩ := bk4 Kr
        have hal := Ext.alloc x12 (.cells #[.bool nr, .slice ar qr cr, .bool mr, .slice br kr dr] 26)
        have HA1 := Lib.hid (HE.out.trans hal)
        have HA2 := Lib.hid (HO.out.ext hal)
        have HA3 := Lib.hid (Blk.new0 x12 #[.bool nr, .slice ar qr cr, .bool mr, .slice br kr dr] 26)
        have HA4 := Lib.hid (HR.out.ext hal)
        clear hal
        go_wp2_with (at_builtin; refine wpl_append_rat rfl (.tmp 120) (.tmp 122) rfl HA1.out rfl HA2.out rfl (x := ⟨nr, ar, qr, cr, mr, br, kr, dr⟩) HA3.out HA4.out HOF.out (by omega) ?_; intro v' w3 hO' hE' hg' hat')
        have hB' := BlkGrown (KF.out.ext (Ext.alloc x12 (.cells #[.bool nr, .slice ar qr cr, .bool mr, .slice br kr dr] 26))) hg' HNB.out
        have hnb' : v'.ownBlock ≠ some pF := by
          rcases hat' with h | h
          · rw [h]; exact HNB.out
          · rw [h]; intro e; have := KF.out.lt; simp at e; omega
        go_roundw
        case rel => exact ⟨k + 1, _, _, by omega, by go_num, hO', by simp; omega, HSZ.out.more HS.out, hB', hnb', hE'⟩
        case measure => simp [intOf]; omega
    have hk4 : ¬ (k : Int) < 4 := by omega
    clear Kx Ky KF HNB
    obtain ⟨al0, cl0, rfl, hco, hcm⟩ := HO.out.form
    go_wp2_with fail
    have HXw := Lib.hid hx
    have HOw := HO
    clear hx HO
    generalize wr = wR at *
    go_loopw [127] (fun i wx => ∃ j : Nat, j ≤ L.length ∧ i = .int .i64 j ∧ Ext wR wx) (fun i _ => L.length - (intOf i).toNat)
    case atStart => exact ⟨0, by omega, rfl, Ext.refl _⟩
    case round =>
      obtain ⟨j, hj, rfl, hxr⟩ := hrel
      have HXR2 := Lib.hid hxr
      have hx := HXw.out.trans hxr
      have g3 : (0 : Int) ≤ (j : Int) := by omega
      by_cases hlt : j < L.length
      · have hO2 := HOw.out.ext hxr
        obtain ⟨g0, cap0, e0, -, -, -, -⟩ := hO2.head (by omega)
        simp only [Value.slice.injEq, true_and] at e0
        obtain ⟨rfl, rfl⟩ := e0
        obtain ⟨c0, c1, c2, c3⟩ := hO2.cells hlt
        have hv := hO2.val j hlt
        have hsz := HSZ.out.h (rs.getD j 0) (by
          have hl := hO2.len
          rw [List.getD_eq_getElem?_getD, List.getElem?_eq_getElem (by omega)]
          exact List.getElem_mem _)
        generalize rs.getD j 0 = r at *
        generalize L[j] = y0 at *
        obtain ⟨nl, al, ql, cl, ml, bl, kl, dl⟩ := y0
        dsimp only [RatC.val] at hv c0 c1 c2 c3
        obtain rfl := ratV_falseL hv
        have hkl := hv.den_len
        have Vl := Lib.hid hv
        have SZl := Lib.hid hsz
        have g4 : (j : Int) < (L.length : Int) := by omega
        clear hO2 hxr hv hsz
        go_upto_region 25 with fail
        clear c0 c1 c2 c3
        have hE2 : Ext wr (World.alloc wr (.cells #[.bool nl, .slice al ql cl, .bool false, .slice bl kl dl] 26)) := Ext.alloc _ _
        have hl := Ext.alloc wr (.cells #[.bool nl, .slice al ql cl, .bool false, .slice bl kl dl] 26)
        have hpl : w.heap.size ≤ wr.heap.size := hx.size
        replace hx := hx.trans hl
        replace Vl := Lib.hid (Vl.out.ext hl)
        have Kl := Lib.hid (Blk.new0 wr #[.bool nl, .slice al ql cl, .bool false, .slice bl kl dl] 26)
        clear hl
        generalize wr.alloc (.cells #[.bool nl, .slice al ql cl, .bool false, .slice bl kl dl] 26) = x11 at *
        generalize wr.heap.size = pl at *
        obtain ⟨cl0, cl1, cl2, cl3⟩ := bk4 Kl
        go_wp2_with fail
        clear cl0 cl1 cl2 cl3
        with_reducible refine (gcd_any Vl.out.num Vl.out.den (SZl.out.lenN (by omega)) (SZl.out.lenD (by omega))).mono ?_
        rintro e x12 ⟨v, rfl, hv, hy⟩
        rw [red_gcd] at hv
        replace hE2 := hE2.trans hy
        replace hx := hx.trans hy
        replace Kl := kE Kl hy
        replace Vl := Lib.hid (Vl.out.ext hy)
        clear hy
        obtain ⟨ng, ag, qg, cg, rfl⟩ := hv.form
        have Vg := Lib.hid hv
        clear hv
        go_upto_region 26 with fail
        replace hE2 := hE2.trans (Ext.alloc x12 (.cells #[.bool ng, .slice ag qg cg] 24))
        have hl := Ext.alloc x12 (.cells #[.bool ng, .slice ag qg cg] 24)
        have llg : pl < x12.heap.size := Kl.out.lt
        have hpg : w.heap.size ≤ x12.heap.size := hx.size
        replace hx := hx.trans hl
        replace Kl := kE Kl hl
        replace Vl := Lib.hid (Vl.out.ext hl)
        replace Vg := Lib.hid (Vg.out.ext hl)
        have Kg := Lib.hid (Blk.new0 x12 #[.bool ng, .slice ag qg cg] 24)
        clear hl
        generalize x12.alloc (.cells #[.bool ng, .slice ag qg cg] 24) = x13 at *
        generalize x12.heap.size = pg at *
        have tk : ((kl : Int) == 0) = false := beq_false_of_ne (by omega)
        have HE2 := Lib.hid hE2
        clear hE2
        go_cut [163] (fun s163 wx => s163 = .bool false ∧ Ext x13 wx)
        case first =>
          rename_i J1 K1 hJ1 hK1
          have s0 : World.cell? x13 ⟨pg, 0, none⟩ = some (.bool ng) := Kg.out.cell (i := 0) (v := .bool ng) rfl
          have s1 : World.cell? x13 ⟨pg, 1, none⟩ = some (.slice ag qg cg) := Kg.out.cell (i := 1) (v := .slice ag qg cg) rfl
          have s2 : World.cell? x13 ⟨pl, 0, none⟩ = some (.bool nl) := Kl.out.cell (i := 0) (v := .bool nl) rfl
          have s3 : World.cell? x13 ⟨pl, 1, none⟩ = some (.slice al ql cl) := Kl.out.cell (i := 1) (v := .slice al ql cl) rfl
          have s4 : World.cell? x13 ⟨pl, 2, none⟩ = some (.bool false) := Kl.out.cell (i := 2) (v := .bool false) rfl
          have s5 : World.cell? x13 ⟨pl, 3, none⟩ = some (.slice bl kl dl) := Kl.out.cell (i := 3) (v := .slice bl kl dl) rfl
          have hE : Ext x13 (World.drew x13) := (Ext.refl _).drew
          have hyd : Ext x13 (World.drew x13) := (Ext.refl _).drew
          replace hx := hx.trans hyd
          replace Kl := kE Kl hyd
          replace Kg := kE Kg hyd
          replace Vl := Lib.hid (Vl.out.ext hyd)
          replace Vg := Lib.hid (Vg.out.ext hyd)
          clear hyd
          replace s0 : World.cell? (World.drew x13) ⟨pg, 0, none⟩ = some (.bool ng) := s0
          replace s1 : World.cell? (World.drew x13) ⟨pg, 1, none⟩ = some (.slice ag qg cg) := s1
          replace s2 : World.cell? (World.drew x13) ⟨pl, 0, none⟩ = some (.bool nl) := s2
          replace s3 : World.cell? (World.drew x13) ⟨pl, 1, none⟩ = some (.slice al ql cl) := s3
          replace s4 : World.cell? (World.drew x13) ⟨pl, 2, none⟩ = some (.bool false) := s4
          replace s5 : World.cell? (World.drew x13) ⟨pl, 3, none⟩ = some (.slice bl kl dl) := s5
          refine wp_region_held_drew (S := (fun w' => World.cell? w' ⟨pg, 0, none⟩ = some (.bool ng) ∧ World.cell? w' ⟨pg, 1, none⟩ = some (.slice ag qg cg) ∧ World.cell? w' ⟨pl, 0, none⟩ = some (.bool nl) ∧ World.cell? w' ⟨pl, 1, none⟩ = some (.slice al ql cl) ∧ World.cell? w' ⟨pl, 2, none⟩ = some (.bool false) ∧ World.cell? w' ⟨pl, 3, none⟩ = some (.slice bl kl dl))) (by kernel_rfl) ?_ (fun hHeld => ?_)
          · exact ⟨s0, s1, s2, s3, s4, s5⟩
          (try simp only [← List.toArray_replicate, List.size_toArray, List.length_cons, List.length_nil, Nat.reduceAdd, List.replicate_succ, List.replicate_zero])
          generalize World.drew x13 = x14 at *
          refine wpAnyH_take (i := 0) (oi := _) (v := ?_) rfl (by kernel_rfl) (by kernel_rfl) (by kernel_rfl) (fun _ _ _ h => h) (Or.inl ⟨by rfl, ?_⟩) (by assumption) ?_
          rotate_left
          · (intro w hSw; (try dsimp only at hSw); (try go_simp); (try with_reducible rfl))
          (try simp only [Act.put, List.getElem_toArray, List.getElem_cons_succ, List.getElem_cons_zero, List.setIfInBounds_toArray, List.set_cons_zero, List.set_cons_succ])
          refine wpAnyH_take (i := 1) (oi := _) (v := ?_) rfl (by kernel_rfl) (by kernel_rfl) (by kernel_rfl) (fun _ _ _ h => h) (Or.inl ⟨by rfl, ?_⟩) (by assumption) ?_
          rotate_left
          · (intro w hSw; (try dsimp only at hSw); (try go_simp); (try with_reducible rfl))
          (try simp only [Act.put, List.getElem_toArray, List.getElem_cons_succ, List.getElem_cons_zero, List.setIfInBounds_toArray, List.set_cons_zero, List.set_cons_succ])
          refine wpAnyH_take (i := 2) (oi := _) (v := ?_) rfl (by kernel_rfl) (by kernel_rfl) (by kernel_rfl) (fun _ _ _ h => h) (Or.inl ⟨by rfl, ?_⟩) (by assumption) ?_
          rotate_left
          · (intro w hSw; (try dsimp only at hSw); (try go_simp); (try with_reducible rfl))
          (try simp only [Act.put, List.getElem_toArray, List.getElem_cons_succ, List.getElem_cons_zero, List.setIfInBounds_toArray, List.set_cons_zero, List.set_cons_succ])
          refine wpAnyH_take (i := 3) (oi := _) (v := ?_) rfl (by kernel_rfl) (by kernel_rfl) (by kernel_rfl) (fun _ _ _ h => h) (Or.inl ⟨by rfl, ?_⟩) (by assumption) ?_
          rotate_left
          · (intro w hSw; (try dsimp only at hSw); (try go_simp); (try with_reducible rfl))
          (try simp only [Act.put, List.getElem_toArray, List.getElem_cons_succ, List.getElem_cons_zero, List.setIfInBounds_toArray, List.set_cons_zero, List.set_cons_succ])
          refine wpAnyH_ready (rs := [4]) (by kernel_rfl) (by simp) ?_
          refine AllReadyH.cons (o := _) rfl (fun K hK => ?_) ?_
          · go_simp
            (with_reducible refine (law_big 1 _ (by decide)).mono ?_); rintro e x15 ⟨v1, rfl, hv, hy⟩; replace hE := hE.trans hy; replace hx := hx.trans hy; replace s0 := cell_exQ hy s0; replace s1 := cell_exQ hy s1; replace s2 := cell_exQ hy s2; replace s3 := cell_exQ hy s3; replace s4 := cell_exQ hy s4; replace s5 := cell_exQ hy s5; replace Kl := kE Kl hy; replace Kg := kE Kg hy; replace Vl := Lib.hid (Vl.out.ext hy); replace Vg := Lib.hid (Vg.out.ext hy); clear hy; have V1 := Lib.hid hv; clear hv
            refine hK.out _ _ ?_ (fun hHeld2 => ?_)
            · exact ⟨s0, s1, s2, s3, s4, s5⟩
            clear hK K hHeld
            have hHeld := hHeld2
            clear hHeld2
            (try simp only [Act.put, List.getElem_toArray, List.getElem_cons_succ, List.getElem_cons_zero, List.setIfInBounds_toArray, List.set_cons_zero, List.set_cons_succ])
            refine wpAnyH_ready (rs := [5]) (by kernel_rfl) (by simp) ?_
            refine AllReadyH.cons (o := _) rfl (fun K hK => ?_) ?_
            · go_simp
              (with_reducible refine (sameBig_eq Vg.out V1.out).mono ?_); rintro e x16 ⟨rfl, hy⟩; replace hE := hE.trans hy; replace hx := hx.trans hy; replace s0 := cell_exQ hy s0; replace s1 := cell_exQ hy s1; replace s2 := cell_exQ hy s2; replace s3 := cell_exQ hy s3; replace s4 := cell_exQ hy s4; replace s5 := cell_exQ hy s5; replace Kl := kE Kl hy; replace Kg := kE Kg hy; replace Vl := Lib.hid (Vl.out.ext hy); replace Vg := Lib.hid (Vg.out.ext hy); replace V1 := Lib.hid (V1.out.ext hy); clear hy
              refine hK.out _ _ ?_ (fun hHeld2 => ?_)
              · exact ⟨s0, s1, s2, s3, s4, s5⟩
              clear hK K hHeld
              have hHeld := hHeld2
              clear hHeld2
              (try simp only [Act.put, List.getElem_toArray, List.getElem_cons_succ, List.getElem_cons_zero, List.setIfInBounds_toArray, List.set_cons_zero, List.set_cons_succ])
              refine wpAnyH_take (i := 6) (oi := _) (v := ?_) rfl (by kernel_rfl) (by kernel_rfl) (by kernel_rfl) (fun _ _ _ h => h) (Or.inl ⟨by rfl, ?_⟩) (by assumption) ?_
              rotate_left
              · (intro w hSw; (try dsimp only at hSw); (try go_simp); (try with_reducible rfl))
              (try simp only [Act.put, List.getElem_toArray, List.getElem_cons_succ, List.getElem_cons_zero, List.setIfInBounds_toArray, List.set_cons_zero, List.set_cons_succ])
              refine wpAnyH_take (i := 7) (oi := _) (v := ?_) rfl (by kernel_rfl) (by kernel_rfl) (by kernel_rfl) (fun _ _ _ h => h) (Or.inl ⟨by rfl, ?_⟩) (by assumption) ?_
              rotate_left
              · (intro w hSw; (try dsimp only at hSw); (try go_simp); (try with_reducible rfl))
              (try simp only [Act.put, List.getElem_toArray, List.getElem_cons_succ, List.getElem_cons_zero, List.setIfInBounds_toArray, List.set_cons_zero, List.set_cons_succ])
              refine wpAnyH_take (i := 8) (oi := _) (v := ?_) rfl (by kernel_rfl) (by kernel_rfl) (by kernel_rfl) (fun _ _ _ h => h) (Or.inl ⟨by rfl, ?_⟩) (by assumption) ?_
              rotate_left
              · (intro w hSw; (try dsimp only at hSw); (try go_simp); (try with_reducible rfl))
              (try simp only [Act.put, List.getElem_toArray, List.getElem_cons_succ, List.getElem_cons_zero, List.setIfInBounds_toArray, List.set_cons_zero, List.set_cons_succ])
              refine wpAnyH_take (i := 9) (oi := _) (v := ?_) rfl (by kernel_rfl) (by kernel_rfl) (by kernel_rfl) (fun _ _ _ h => h) (Or.inl ⟨by rfl, ?_⟩) (by assumption) ?_
              rotate_left
              · (intro w hSw; (try dsimp only at hSw); (try go_simp); (try with_reducible rfl))
              (try simp only [Act.put, List.getElem_toArray, List.getElem_cons_succ, List.getElem_cons_zero, List.setIfInBounds_toArray, List.set_cons_zero, List.set_cons_succ])
              refine wpAnyH_take (i := 10) (oi := _) (v := ?_) rfl (by kernel_rfl) (by kernel_rfl) (by kernel_rfl) (fun _ _ _ h => h) (Or.inl ⟨by rfl, ?_⟩) (by assumption) ?_
              rotate_left
              · (intro w hSw; (try dsimp only at hSw); (try go_simp); (try with_reducible rfl))
              (try simp only [Act.put, List.getElem_toArray, List.getElem_cons_succ, List.getElem_cons_zero, List.setIfInBounds_toArray, List.set_cons_zero, List.set_cons_succ])
              refine wpAnyH_take (i := 11) (oi := _) (v := ?_) rfl (by kernel_rfl) (by kernel_rfl) (by kernel_rfl) (fun _ _ _ h => h) (Or.inl ⟨by rfl, ?_⟩) (by assumption) ?_
              rotate_left
              · (intro w hSw; (try dsimp only at hSw); (try go_simp); (try with_reducible rfl))
              (try simp only [Act.put, List.getElem_toArray, List.getElem_cons_succ, List.getElem_cons_zero, List.setIfInBounds_toArray, List.set_cons_zero, List.set_cons_succ])
              refine wpAnyH_take (i := 12) (oi := _) (v := ?_) rfl (by kernel_rfl) (by kernel_rfl) (by kernel_rfl) (fun _ _ _ h => h) (Or.inl ⟨by rfl, ?_⟩) (by assumption) ?_
              rotate_left
              · (intro w hSw; (try dsimp only at hSw); (try go_simp); (try with_reducible rfl))
              (try simp only [Act.put, List.getElem_toArray, List.getElem_cons_succ, List.getElem_cons_zero, List.setIfInBounds_toArray, List.set_cons_zero, List.set_cons_succ])
              refine wpAnyH_take (i := 13) (oi := _) (v := ?_) rfl (by kernel_rfl) (by kernel_rfl) (by kernel_rfl) (fun _ _ _ h => h) (Or.inl ⟨by rfl, ?_⟩) (by assumption) ?_
              rotate_left
              · (intro w hSw; (try dsimp only at hSw); (try go_simp); (try with_reducible rfl))
              (try simp only [Act.put, List.getElem_toArray, List.getElem_cons_succ, List.getElem_cons_zero, List.setIfInBounds_toArray, List.set_cons_zero, List.set_cons_succ])
              refine wpAnyH_take (i := 14) (oi := _) (v := ?_) rfl (by kernel_rfl) (by kernel_rfl) (by kernel_rfl) (fun _ _ _ h => h) (Or.inl ⟨by rfl, ?_⟩) (by assumption) ?_
              rotate_left
              · (intro w hSw; (try dsimp only at hSw); (try go_simp); (try with_reducible rfl))
              (try simp only [Act.put, List.getElem_toArray, List.getElem_cons_succ, List.getElem_cons_zero, List.setIfInBounds_toArray, List.set_cons_zero, List.set_cons_succ])
              refine wpAnyH_take (i := 15) (oi := _) (v := ?_) rfl (by kernel_rfl) (by kernel_rfl) (by kernel_rfl) (fun _ _ _ h => h) (Or.inl ⟨by rfl, ?_⟩) (by assumption) ?_
              rotate_left
              · (intro w hSw; (try dsimp only at hSw); (try go_simp); (try with_reducible rfl))
              (try simp only [Act.put, List.getElem_toArray, List.getElem_cons_succ, List.getElem_cons_zero, List.setIfInBounds_toArray, List.set_cons_zero, List.set_cons_succ])
              refine wpAnyH_take (i := 16) (oi := _) (v := ?_) rfl (by kernel_rfl) (by kernel_rfl) (by kernel_rfl) (fun _ _ _ h => h) (Or.inl ⟨by rfl, ?_⟩) (by assumption) ?_
              rotate_left
              · (intro w hSw; (try dsimp only at hSw); (try go_simp); (try with_reducible rfl))
              (try simp only [Act.put, List.getElem_toArray, List.getElem_cons_succ, List.getElem_cons_zero, List.setIfInBounds_toArray, List.set_cons_zero, List.set_cons_succ])
              refine wpAnyH_take (i := 17) (oi := _) (v := ?_) rfl (by kernel_rfl) (by kernel_rfl) (by kernel_rfl) (fun _ _ _ h => h) (Or.inl ⟨by rfl, ?_⟩) (by assumption) ?_
              rotate_left
              · (intro w hSw; (try dsimp only at hSw); (try go_simp); (try with_reducible rfl))
              (try simp only [Act.put, List.getElem_toArray, List.getElem_cons_succ, List.getElem_cons_zero, List.setIfInBounds_toArray, List.set_cons_zero, List.set_cons_succ])
              refine wpAnyH_take (i := 18) (oi := _) (v := ?_) rfl (by kernel_rfl) (by kernel_rfl) (by kernel_rfl) (fun _ _ _ h => h) (Or.inl ⟨by rfl, ?_⟩) (by assumption) ?_
              rotate_left
              · (intro w hSw; (try dsimp only at hSw); (try go_simp); (try with_reducible rfl))
              (try simp only [Act.put, List.getElem_toArray, List.getElem_cons_succ, List.getElem_cons_zero, List.setIfInBounds_toArray, List.set_cons_zero, List.set_cons_succ])
              refine wpAnyH_take (i := 19) (oi := _) (v := ?_) rfl (by kernel_rfl) (by kernel_rfl) (by kernel_rfl) (fun _ _ _ h => h) (Or.inl ⟨by rfl, ?_⟩) (by assumption) ?_
              rotate_left
              · (intro w hSw; (try dsimp only at hSw); (try go_simp); (try with_reducible rfl))
              (try simp only [Act.put, List.getElem_toArray, List.getElem_cons_succ, List.getElem_cons_zero, List.setIfInBounds_toArray, List.set_cons_zero, List.set_cons_succ])
              refine wpAnyH_take (i := 20) (oi := _) (v := ?_) rfl (by kernel_rfl) (by kernel_rfl) (by kernel_rfl) (fun _ _ _ h => h) (Or.inl ⟨by rfl, ?_⟩) (by assumption) ?_
              rotate_left
              · (intro w hSw; (try dsimp only at hSw); (try go_simp); (try with_reducible rfl))
              (try simp only [Act.put, List.getElem_toArray, List.getElem_cons_succ, List.getElem_cons_zero, List.setIfInBounds_toArray, List.set_cons_zero, List.set_cons_succ])
              refine wpAnyH_take (i := 21) (oi := _) (v := ?_) rfl (by kernel_rfl) (by kernel_rfl) (by kernel_rfl) (fun _ _ _ h => h) (Or.inl ⟨by rfl, ?_⟩) (by assumption) ?_
              rotate_left
              · (intro w hSw; (try dsimp only at hSw); (try go_simp); (try with_reducible rfl))
              (try simp only [Act.put, List.getElem_toArray, List.getElem_cons_succ, List.getElem_cons_zero, List.setIfInBounds_toArray, List.set_cons_zero, List.set_cons_succ])
              refine wpAnyH_ready (rs := [22]) (by kernel_rfl) (by simp) ?_
              refine AllReadyH.cons (o := _) rfl (fun K hK => ?_) ?_
              · go_simp
                (with_reducible refine (ratio_check_val Vl.out (SZl.out.lenN (by omega)) (SZl.out.lenD (by omega))).mono ?_); rintro e x17 ⟨rfl, hy⟩; replace hE := hE.trans hy; replace hx := hx.trans hy; replace s0 := cell_exQ hy s0; replace s1 := cell_exQ hy s1; replace s2 := cell_exQ hy s2; replace s3 := cell_exQ hy s3; replace s4 := cell_exQ hy s4; replace s5 := cell_exQ hy s5; replace Kl := kE Kl hy; replace Kg := kE Kg hy; replace Vl := Lib.hid (Vl.out.ext hy); replace Vg := Lib.hid (Vg.out.ext hy); replace V1 := Lib.hid (V1.out.ext hy); clear hy
                refine hK.out _ _ ?_ (fun hHeld2 => ?_)
                · exact ⟨s0, s1, s2, s3, s4, s5⟩
                clear hK K hHeld
                have hHeld := hHeld2
                clear hHeld2
                (try simp only [Act.put, List.getElem_toArray, List.getElem_cons_succ, List.getElem_cons_zero, List.setIfInBounds_toArray, List.set_cons_zero, List.set_cons_succ])
                refine wpAnyH_take (i := 23) (oi := _) (v := ?_) rfl (by kernel_rfl) (by kernel_rfl) (by kernel_rfl) (fun _ _ _ h => h) (Or.inl ⟨by rfl, ?_⟩) (by assumption) ?_
                rotate_left
                · (intro w hSw; (try dsimp only at hSw); (try go_simp); (try with_reducible rfl))
                (try simp only [Act.put, List.getElem_toArray, List.getElem_cons_succ, List.getElem_cons_zero, List.setIfInBounds_toArray, List.set_cons_zero, List.set_cons_succ])
                refine wpAnyH_take (i := 24) (oi := _) (v := ?_) rfl (by kernel_rfl) (by kernel_rfl) (by kernel_rfl) (fun _ _ _ h => h) (Or.inl ⟨by rfl, ?_⟩) (by assumption) ?_
                rotate_left
                · (intro w hSw; (try dsimp only at hSw); (try go_simp); (try with_reducible rfl))
                (try simp only [Act.put, List.getElem_toArray, List.getElem_cons_succ, List.getElem_cons_zero, List.setIfInBounds_toArray, List.set_cons_zero, List.set_cons_succ])
                refine wpAnyH_done (by kernel_rfl) ?_ _
                show K1 _ _
                refine hK1 _ _ ?_
                go_meet
                exact ⟨rfl, hE⟩
              exact AllReadyH.nil
            exact AllReadyH.nil
          exact AllReadyH.nil
        case rest =>
        obtain ⟨rfl, hy⟩ := hcut
        have HYF := Lib.hid (HXR2.out.trans (HE2.out.trans hy))
        clear hx hy Kl Kg Vl Vg HE2 HXR2 tk
        go_wp2_with fail
        go_roundw
        case rel => exact ⟨j + 1, by omega, by go_num, HYF.out⟩
        case measure => simp [intOf]; omega
      · obtain rfl : j = L.length := by omega
        go_wp2_with fail
        go_ret
        exact ⟨rfl, hx⟩
theorem of_valL {v u : Value} {z y : Int} {w : World} (hv : BigV w v z) (hu : BigV w u y) (hz : Len z) (hy : Len y) (h0 : y ≠ 0) : Calls Tryz.prog 15 #[v, u] w (RatP (Rat.divInt z y) w) := by
  obtain ⟨n1, l, ⟨a, ca, rfl, hi⟩, hb⟩ := hv
  obtain ⟨n2, m, ⟨b, cb, rfl, hj⟩, hc⟩ := hu
  have e1 : sgn n1 (dval l) = z := hb.2.2.symm
  have e2 : sgn n2 (dval m) = y := hc.2.2.symm
  have hm : 0 < m.length := List.length_pos_iff.2 (fun e => h0 (by rw [← e2, e]; cases n2 <;> rfl))
  rw [← e1, ← e2]
  exact ratio_Of_ok n1 n2 a b ca cb l m w hi hj (hb.chk hz) (hc.chk hy) hm
theorem of_zeroL {v u : Value} {z : Int} {w : World} (hv : BigV w v z) (hu : BigV w u 0) (hz : Len z) : Calls Tryz.prog 15 #[v, u] w (RatE 1 w) := by
  obtain ⟨n1, l, ⟨a, ca, rfl, hi⟩, hb⟩ := hv
  obtain ⟨n2, m, ⟨b, cb, rfl, hj⟩, hc⟩ := hu
  have hm : m = [] := (hc.inj (show Big false [] 0 from ⟨trivial, by simp, rfl⟩)).2
  exact ratio_Of_zero n1 n2 a b ca cb l m w hi hj (hb.chk hz) (hc.chk (len_small (by decide))) (by rw [hm]; rfl)
/-- A valid integer of few digits. -/
structure ValB (n : Bool) (l : List Int) (z : Int) : Prop where
  sz : z.natAbs < 1073741824 ^ 6
  big : Big n l z
theorem ValB.v {n : Bool} {l : List Int} {z : Int} (h : ValB n l z) {w : World} {a : Option Addr} {c : Nat} (hi : Ints w a c l) : BigV w (.agg #[.bool n, .slice a l.length c]) z := ⟨n, l, ⟨a, c, rfl, hi⟩, h.big⟩
theorem ValB.of {n : Bool} {l : List Int} (hl : ¬ 6 < l.length) (h : chkB n l = true) : ∃ z, ValB n l z := by
  obtain ⟨h1, h2, h3⟩ := chk_iff.1 h
  have h0 := dval_nonneg h3.digs
  refine ⟨_, abs_lt ?_, h3, h2, rfl⟩
  have e : (if n = true then -dval l else dval l).natAbs = (dval l).toNat := by split <;> omega
  rw [e, digs_of h3]; omega
theorem ValB.len0 {n : Bool} {l : List Int} {z : Int} (h : ValB n l z) (hl : 0 < l.length) : z ≠ 0 := fun e => by
  subst e
  have hm : l = [] := (h.big.inj (show Big false [] 0 from ⟨trivial, by simp, rfl⟩)).2
  rw [hm] at hl; simp at hl
theorem mul_anyL {n1 n2 : Bool} {a b : Option Addr} {ca cb : Nat} {l m : List Int} {w : World} (h : Ints w a ca l) (k : Ints w b cb m) (hl : ¬ 6 < l.length) (hm : ¬ 6 < m.length) :
    ∃ z E, (∀ W, Ext w W → Calls Tryz.prog 43 #[.agg #[.bool n1, .slice a l.length ca], .agg #[.bool n2, .slice b m.length cb]] W (ResB z E W)) ∧ (E = 0 → ∃ x y, ValB n1 l x ∧ ValB n2 m y ∧ z = x * y) := by
  cases hb : (chkB n1 l && chkB n2 m)
  · exact ⟨0, 90, fun W hW => (nat_Mul_bad n1 n2 a b ca cb l m W (h.ext hW) (k.ext hW) hb).mono fun _ _ q => ResB.err q, fun e => by cases e⟩
  · rw [Bool.and_eq_true] at hb
    obtain ⟨x, hx⟩ := ValB.of hl hb.1
    obtain ⟨y, hy⟩ := ValB.of hm hb.2
    exact ⟨x * y, 0, fun W hW => (mul_val (hx.v (h.ext hW)) (hy.v (k.ext hW)) (len_lt hx.sz (by omega)) (len_lt hy.sz (by omega)) (len_lt (mul_lt hx.sz hy.sz) (by omega))).mono fun _ _ q => ResB.ok q, fun _ => ⟨x, y, hx, hy, rfl⟩⟩
theorem ValB.inj {n : Bool} {l : List Int} {x y : Int} (h : ValB n l x) (k : ValB n l y) : x = y := h.big.2.2.trans k.big.2.2.symm
theorem of_anyL {n1 n2 : Bool} {a b : Option Addr} {ca cb : Nat} {l m : List Int} {w : World} (h : Ints w a ca l) (k : Ints w b cb m) (hl : ¬ 6 < l.length) (hm : ¬ 6 < m.length) :
    ∃ o E, (∀ W, Ext w W → Calls Tryz.prog 15 #[.agg #[.bool n1, .slice a l.length ca], .agg #[.bool n2, .slice b m.length cb]] W (ResO o E W)) ∧ (E = 0 → ∃ r, o = some r ∧ Sz r 40) ∧
      (∀ x y, ValB n1 l x → ValB n2 m y → (y = 0 → o = none ∧ E = 1) ∧ (y ≠ 0 → o = some (Rat.divInt x y) ∧ E = 0)) := by
  cases b1 : chkB n1 l
  · exact ⟨none, 90, fun W hW => (ratio_Of_b1 n1 n2 a b ca cb l m W (h.ext hW) (k.ext hW) b1).mono fun _ _ q => ResO.err q, (fun e => by cases e), fun x y hx _ => by
      have := hx.big.chk (len_lt hx.sz (by omega)); rw [b1] at this; cases this⟩
  cases b2 : chkB n2 m
  · exact ⟨none, 90, fun W hW => (ratio_Of_b2 n1 n2 a b ca cb l m W (h.ext hW) (k.ext hW) b1 b2).mono fun _ _ q => ResO.err q, (fun e => by cases e), fun x y _ hy => by
      have := hy.big.chk (len_lt hy.sz (by omega)); rw [b2] at this; cases this⟩
  obtain ⟨x, hx⟩ := ValB.of hl b1
  obtain ⟨y, hy⟩ := ValB.of hm b2
  by_cases h0 : y = 0
  · subst h0
    exact ⟨none, 1, fun W hW => (of_zeroL (hx.v (h.ext hW)) (hy.v (k.ext hW)) (len_lt hx.sz (by omega))).mono fun _ _ q => ResO.err q, (fun e => by cases e), fun x' y' _ hy' => by
      obtain rfl := hy.inj hy'
      exact ⟨fun _ => ⟨rfl, rfl⟩, fun e => absurd rfl e⟩⟩
  · exact ⟨some (Rat.divInt x y), 0, fun W hW => (of_valL (hx.v (h.ext hW)) (hy.v (k.ext hW)) (len_lt hx.sz (by omega)) (len_lt hy.sz (by omega)) h0).mono fun _ _ q => ResO.ok q, (fun _ => ⟨_, rfl, (divInt_sz hx.sz hy.sz h0).mono (by omega)⟩), fun x' y' hx' hy' => by
      obtain rfl := hx.inj hx'
      obtain rfl := hy.inj hy'
      exact ⟨fun e => absurd e h0, fun _ => ⟨rfl, rfl⟩⟩⟩
theorem law_Low (n1 n2 n3 : Bool) (a1 a2 a3 : Option Addr) (c1 c2 c3 : Nat) (l1 l2 l3 : List Int) (x y : RatA) (w : World) (h1 : Ints w a1 c1 l1) (h2 : Ints w a2 c2 l2) (h3 : Ints w a3 c3 l3) (hx1 : RatI w x) (hy1 : RatI w y) : Calls Tryz.prog 9 #[.agg #[.bool n1, .slice a1 l1.length c1], .agg #[.bool n2, .slice a2 l2.length c2], .agg #[.bool n3, .slice a3 l3.length c3], x.val, y.val] w fun e w' => e = .returned (.bool true) ∧ Ext w w' := by
  by_cases t1 : 6 < l1.length
  · exact law_Low_n1 n1 n2 n3 a1 a2 a3 c1 c2 c3 l1 l2 l3 x y w h1 h2 h3 hx1 hy1 t1
  by_cases t2 : 6 < l2.length
  · exact law_Low_n2 n1 n2 n3 a1 a2 a3 c1 c2 c3 l1 l2 l3 x y w h1 h2 h3 hx1 hy1 ⟨t1, t2⟩
  by_cases t3 : 6 < l3.length
  · exact law_Low_n3 n1 n2 n3 a1 a2 a3 c1 c2 c3 l1 l2 l3 x y w h1 h2 h3 hx1 hy1 ⟨t1, t2, t3⟩
  cases f0 : (fewL x && fewL y)
  · exact law_Low_few n1 n2 n3 a1 a2 a3 c1 c2 c3 l1 l2 l3 x y w h1 h2 h3 hx1 hy1 ⟨⟨t1, t2, t3⟩, f0⟩
  have HFW := fun (W : World) (gg : Nat) (t : TypeId) (hE : Ext w W) (h : Blk W gg #[.bool x.n, .slice x.a x.l.length x.c, .bool x.n2, .slice x.b x.m.length x.d, .bool y.n, .slice y.a y.l.length y.c, .bool y.n2, .slice y.b y.m.length y.d] t) => law_few2 h (hx1.ext hE) (hy1.ext hE)
  rw [f0] at HFW
  rw [Bool.and_eq_true] at f0
  obtain ⟨r, S1, hr⟩ := fewL_szL f0.1
  obtain ⟨s, S2, hs⟩ := fewL_szL f0.2
  have V1 := fun W hW => hr W (hx1.ext hW : RatI W x)
  have V2 := fun W hW => hs W (hy1.ext hW : RatI W y)
  obtain ⟨o, E, k1, k2, k3⟩ := of_anyL (n1 := n1) (n2 := n2) h1 h2 t1 t2
  obtain ⟨z1, Ef, m1, m2⟩ := mul_anyL (n1 := n1) (n2 := n3) h1 h3 t1 t3
  obtain ⟨z2, Eg, p1, p2⟩ := mul_anyL (n1 := n2) (n2 := n3) h2 h3 t2 t3
  have h4 : Ef = 0 → Eg = 0 → 0 < l3.length → ∀ W v u, BigV W v z1 → BigV W u z2 → Calls Tryz.prog 15 #[v, u] W (ResO o E W) := fun e1 e2 e3 W v u hv hu => by
    obtain ⟨z, u1, hz, hu1, rfl⟩ := m2 e1
    obtain ⟨y0, u2, hy0, hu2, rfl⟩ := p2 e2
    obtain rfl := hu1.inj hu2
    have hu0 := hu1.len0 e3
    have lz := len_lt (mul_lt hz.sz hu1.sz) (by omega)
    have ly := len_lt (mul_lt hy0.sz hu1.sz) (by omega)
    obtain ⟨q1, q2⟩ := k3 z y0 hz hy0
    by_cases h0 : y0 = 0
    · obtain ⟨rfl, rfl⟩ := q1 h0
      rw [h0, Int.zero_mul] at hu
      exact (of_zeroL hv hu lz).mono fun _ _ q => ResO.err q
    · obtain ⟨rfl, rfl⟩ := q2 h0
      have := of_valL hv hu lz ly (Int.mul_ne_zero h0 hu0)
      rw [Rat.divInt_mul_right hu0] at this
      exact this.mono fun _ _ q => ResO.ok q
  have h6 : ∀ k, k < 4 → (∀ W, Ext w W → Calls Tryz.prog (fkL.getD k 0) #[x.val, y.val] W (ResO ((fun k => if k = 0 then some (r + s) else if k = 1 then some (r - s) else if k = 2 then some (r * s) else if s = 0 then none else some (r / s)) k) ((fun k => if k = 3 ∧ s = 0 then 1 else 0) k) W)) ∧
      ((fun k => if k = 3 ∧ s = 0 then (1 : Int) else 0) k = 0 → ∃ q, (fun k => if k = 0 then some (r + s) else if k = 1 then some (r - s) else if k = 2 then some (r * s) else if s = 0 then none else some (r / s)) k = some q ∧ Sz q 40) := fun k hk => by
    match k, hk with
    | 0, _ => exact ⟨fun W hW => (ratio_Add (V1 W hW) (V2 W hW) S1 S2 (by omega)).mono fun _ _ q => ResO.ok q, fun _ => ⟨_, rfl, (S1.add S2).mono (by omega)⟩⟩
    | 1, _ => exact ⟨fun W hW => (ratio_Sub (V1 W hW) (V2 W hW) S1 S2 (by omega)).mono fun _ _ q => ResO.ok q, fun _ => ⟨_, rfl, (S1.sub S2).mono (by omega)⟩⟩
    | 2, _ => exact ⟨fun W hW => (ratio_Mul (V1 W hW) (V2 W hW) S1 S2 (by omega)).mono fun _ _ q => ResO.ok q, fun _ => ⟨_, rfl, (S1.mul S2).mono (by omega)⟩⟩
    | 3, _ =>
      by_cases hs0 : s = 0
      · refine ⟨fun W hW => ?_, fun e => by simp [hs0] at e⟩
        have := ratio_Quo_arg (V1 W hW) (hs0 ▸ V2 W hW) (S1.lenN (by omega)) (S1.lenD (by omega))
        simp only [hs0]
        exact this.mono fun _ _ q => ResO.err q
      · refine ⟨fun W hW => ?_, fun _ => ⟨r / s, by simp [hs0], (S1.quo S2 hs0).mono (by omega)⟩⟩
        have := ratio_Quo (V1 W hW) (V2 W hW) S1 S2 (by omega) hs0
        simp only [hs0]
        exact this.mono fun _ _ q => ResO.ok q
  obtain ⟨nx, ax, cx, lx, mx, bx, dx, kx⟩ := x
  obtain ⟨ny, ay, cy, ly, my, by_, dy, ky⟩ := y
  dsimp only [RatA.val] at *
  have h7 : ∀ k, k < 4 → ∀ args w, (callFunc (fkL.getD k 0) args).run Tryz.prog w = .ok (.enter (fkL.getD k 0) args) w := fun k hk => by
    match k, hk with
    | 0, _ => exact enters_of Tryz.func33 (by kernel_rfl) rfl
    | 1, _ => exact enters_of Tryz.func35 (by kernel_rfl) rfl
    | 2, _ => exact enters_of Tryz.func37 (by kernel_rfl) rfl
    | 3, _ => exact enters_of Tryz.func39 (by kernel_rfl) rfl
  exact law_Low_ok (by omega) (by omega) (by omega) HFW k1 m1 p1 h4 k2 (fun k hk => ⟨_, _, _, rfl, h7 k hk, (h6 k hk).1, (h6 k hk).2⟩)
end Go.Proofs.YtnpeakahiedeoaaGreatDoor

namespace Go.Proofs.YtnpeakahiedeoaaGreatDoor
open Go.ChangeShapes Go.WideShapes Go.ChangeAt Go.RowKit
set_option linter.unusedVariables false
set_option maxRecDepth 100000

theorem ownRatioLowest : ownKnob Tryz.prog.godebug = none := by kernel_rfl
theorem laidOutRatioLowest : laidOutB Tryz.prog = true := by kernel_rfl

theorem liftedRatioLowest (os : Os) (started : os.Started) (H : Type) (enc : TypeId × Value → H) :
    ReturnsInHanded {} Tryz.checked os 9 .any (fun w args => (Rows.ratioLowestSpec.pre enc Tryz.prog Tryz.f9 [] false w args ∧ laidMetH Tryz.prog Rows.ratioLowestRow.laid w) ∧ sizedMet enc Tryz.prog Tryz.f9 (OpenSpec.ofChange Rows.ratioLowestSpec) false w args)
      (Rows.ratioLowestSpec.post enc Tryz.prog Tryz.f9 false true false false) := by
  refine returnsInHanded_of_change_and (C := Tryz.checked) (X := fun w _ => laidMetH Tryz.prog Rows.ratioLowestRow.laid w) (fun _ _ _ hh h => h.of_heap hh) ownRatioLowest started (by kernel_rfl) Tryz.func9
    (ChangeSpec.witness_shaped (enc := enc) (C := Tryz.checked) (os := os) (X := fun w _ => laidMetH Tryz.prog Rows.ratioLowestRow.laid w) false (World.laidAll Tryz.prog os Rows.ratioLowestRow.laid) #[.agg #[.bool false, .slice none 0 0], .agg #[.bool false, .slice none 0 0], .agg #[.bool false, .slice none 0 0], .agg #[.bool false, .slice none 0 0, .bool false, .slice none 0 0], .agg #[.bool false, .slice none 0 0, .bool false, .slice none 0 0]] 8 (World.laidAll_os _ _ _)
      (World.shaped_of_ZipB (by kernel_rfl) (by kernel_rfl)) (by kernel_rfl) (by kernel_rfl) (by kernel_rfl)
      (by rw [MakeChecks.laidMetH_plain _ _ _ (by kernel_rfl)]; exact laidMet_laidAll _ (by kernel_rfl) (by kernel_rfl))) ?_
  intro W base args ds gs before hval0 hW _ _ hL _
  have hval : ∀ (j : Nat) t v, Tryz.f9.params[j]? = some t → args[j]? = some v → Value.okWide Tryz.prog W .any base t v := hval0
  have hW' := hW
  obtain ⟨p, q, hA0, hV, rfl, hfz, hnd⟩ := hW
  have hA : DataW.TrodAll enc Tryz.prog W 0 (fun _ => true) true Tryz.f9.params.toList args.toList ds p := hA0
  rw [Tryz.params9] at hA hval
  obtain ⟨v0, vs0, d0, ds0, p0, q0, hargs, rfl, rfl, h0, r0⟩ := trodAll_cons hA
  obtain ⟨v1, vs1, d1, ds1, p1, q1, rfl, rfl, rfl, h1, r1⟩ := trodAll_cons r0
  obtain ⟨v2, vs2, d2, ds2, p2, q2, rfl, rfl, rfl, h2, r2⟩ := trodAll_cons r1
  obtain ⟨v3, vs3, d3, ds3, p3, q3, rfl, rfl, rfl, h3, r3⟩ := trodAll_cons r2
  obtain ⟨v4, vs4, d4, ds4, p4, q4, rfl, rfl, rfl, h4, r4⟩ := trodAll_cons r3
  obtain ⟨rfl, rfl, rfl⟩ := trodAll_nil r4
  obtain rfl : args = #[v0, v1, v2, v3, v4] := by cases args; simp_all
  obtain ⟨rfl, rfl⟩ := trodVars_none hV
  have k0 := h0
  have lt0 : ∀ x ∈ p0, x.block < W.heap.size := by obtain ⟨m, hm⟩ := k0; exact DataW.trod_lt m _ _ _ hm
  have k1 := h1
  have lt1 : ∀ x ∈ p1, x.block < W.heap.size := by obtain ⟨m, hm⟩ := k1; exact DataW.trod_lt m _ _ _ hm
  have k2 := h2
  have lt2 : ∀ x ∈ p2, x.block < W.heap.size := by obtain ⟨m, hm⟩ := k2; exact DataW.trod_lt m _ _ _ hm
  have k3 := h3
  have lt3 : ∀ x ∈ p3, x.block < W.heap.size := by obtain ⟨m, hm⟩ := k3; exact DataW.trod_lt m _ _ _ hm
  have k4 := h4
  have lt4 : ∀ x ∈ p4, x.block < W.heap.size := by obtain ⟨m, hm⟩ := k4; exact DataW.trod_lt m _ _ _ hm
  obtain ⟨g0, a0, cap0, l0, rfl, w0⟩ := open_big (hval 0 24 v0 rfl rfl) h0
  obtain ⟨g1, a1, cap1, l1, rfl, w1⟩ := open_big (hval 1 24 v1 rfl rfl) h1
  obtain ⟨g2, a2, cap2, l2, rfl, w2⟩ := open_big (hval 2 24 v2 rfl rfl) h2
  obtain ⟨x3, rfl, w3⟩ := open_rat (hval 3 26 v3 rfl rfl) h3
  obtain ⟨x4, rfl, w4⟩ := open_rat (hval 4 26 v4 rfl rfl) h4
  clear hA0 hval0 hL
  refine (law_Low g0 g1 g2 a0 a1 a2 cap0 cap1 cap2 l0 l1 l2 x3 x4 W w0 w1 w2 w3 w4).mono fun e W' ⟨he, bel⟩ => ?_
  subst he
  exact ⟨_, rfl, _, _, _, [], _, [], hW', trodAll_mk1 (shut_bool Tryz.underlying4 _), (trodAll_cons_mk (Below.trod laidOutRatioLowest (by kernel_rfl) (of_decide_eq_true (by kernel_rfl)) k0 bel lt0) (trodAll_cons_mk (Below.trod laidOutRatioLowest (by kernel_rfl) (of_decide_eq_true (by kernel_rfl)) k1 bel lt1) (trodAll_cons_mk (Below.trod laidOutRatioLowest (by kernel_rfl) (of_decide_eq_true (by kernel_rfl)) k2 bel lt2) (trodAll_cons_mk (Below.trod laidOutRatioLowest (by kernel_rfl) (of_decide_eq_true (by kernel_rfl)) k3 bel lt3) (trodAll_cons_mk (Below.trod laidOutRatioLowest (by kernel_rfl) (of_decide_eq_true (by kernel_rfl)) k4 bel lt4) trodAll_mk0))))), rfl, bel.frame _, fun h => by cases h⟩

theorem ratioLowest_row : Rows.RatioLowestSaid :=
  OpenClaim.holds_of_wide 9 Tryz.f9 rfl rfl rfl rfl rfl rfl rfl ⟨rfl, rfl, rfl, rfl, rfl⟩ rfl rfl rfl rfl rfl (by kernel_rfl) Tryz.func9 (by kernel_rfl)
    (of_decide_eq_true (by kernel_rfl)) (by unfold Func.isWrapper; rw [if_neg (of_decide_eq_false (by kernel_rfl))]; exact ⟨rfl, rfl⟩)
    (fun os started H enc _ => liftedRatioLowest os started H enc)
theorem ratioLowest_holds : Rows.RatioLowestCardSaid :=
  Claim7.holds_tied_plain_at .later [] [.data, .pinned] true (true, "c9699e65e6934fe35cd3ec2aff4e45b52a3c715e77c50a88570d36f2513a0942") true ratioLowest_row (fun _ h => by cases h) (by kernel_rfl) (fun _ h => by cases h) ratioLowest_row_tie rfl ⟨rfl, rfl⟩ (by kernel_rfl) rfl
    (fun f fn hf hfn => by
      obtain rfl : f = 9 := Option.some.inj ((show Tryz.prog.funcNamed "podium/podiumlaw10.RatioLowest" = some 9 by kernel_rfl).symm.trans hf) |>.symm
      obtain rfl : fn = Tryz.f9 := (Option.some.inj (Tryz.func9.symm.trans hfn)).symm
      exact ⟨by kernel_rfl, fun j t ht => by
        rw [Tryz.params9] at ht
        have hm : t ∈ [24, 24, 24, 26, 26] := by simpa using Array.mem_of_getElem? ht
        have hall : ([24, 24, 24, 26, 26].all fun u => !Tryz.prog.wantsStandIn u) = true := by kernel_rfl
        exact (show Tryz.prog.wantsStandIn t = false by simpa using List.all_eq_true.1 hall t hm)⟩)
    (by kernel_rfl)

#print axioms ratioLowest_holds
end Go.Proofs.YtnpeakahiedeoaaGreatDoor

