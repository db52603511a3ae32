import Derived.Test.YtpaaanbcadlhiaaDoorPLaw1
import Derived.Test.YtpaaanbcadlhiaaDoorPRefT
import Derived.Test.YtpaaanbcadlhiaaDoorPRefRd
namespace Go.Proofs.YtpaaanbcadlhiaaDoor
open Go.RowKit Go BigFrame
set_option maxRecDepth 100000
set_option linter.unusedSimpArgs false
set_option linter.unusedVariables false

section
variable {n1 : Bool} {a : Option Addr} {ca : Nat} {l : List Int} {w : World}
theorem both_Text (h : Ints w a ca l) : ∃ (t : ByteArray) (E : Int), ∀ W, Ext w W → (Calls Tryd.prog 21 #[.agg #[.bool n1, .slice a l.length ca]] W fun e w' => e = .returned (.tuple #[.string t, .int .i64 E]) ∧ Ext W w') ∧
    (Calls Tryd.prog 22 #[.agg #[.bool n1, .slice a l.length ca]] W fun e w' => e = .returned (.tuple #[.string t, .int .i64 E]) ∧ Ext W w') := by
  by_cases hb : chkB n1 l = true
  · obtain ⟨h1, h2⟩ := of_chk hb
    have hL : Len (sgn n1 (dval l)) := by unfold Len; rw [← h1.digs]; exact h2
    exact ⟨_, 0, fun W hx => ⟨text_val ⟨n1, l, ⟨a, ca, rfl, h.ext hx⟩, h1⟩ hL, rText_val ⟨n1, l, ⟨a, ca, rfl, h.ext hx⟩, h1⟩ hL⟩⟩
  · have hb' : chkB n1 l = false := by simpa using hb
    exact ⟨_, 90, fun W hx => ⟨nat_Text_bad n1 a ca l W (h.ext hx) hb', ref_Text_bad n1 a ca l W (h.ext hx) hb'⟩⟩
theorem ReadP.pair {o : Option Int} : ∃ z E, ∀ (W W' : World) (e : Ending), ReadP o W e W' → PairP z E W e W' := by
  cases o with
  | none => exact ⟨0, 90, fun W W' e h => PairP.zero (h.1 rfl)⟩
  | some z => exact ⟨z, 0, fun W W' e h => PairP.one (h.2 z rfl)⟩
theorem both_Read (s : ByteArray) (hs : s.size ≤ 1000) : ∃ z E, ∀ W, (Calls Tryd.prog 23 #[.string s] W (PairP z E W)) ∧ Calls Tryd.prog 24 #[.string s] W (PairP z E W) := by
  obtain ⟨z, E, h⟩ := ReadP.pair (o := readL s.data.toList)
  exact ⟨z, E, fun W => ⟨(read_val s W hs).mono fun e w' hh => h W w' e hh, (rRead_val s W hs).mono fun e w' hh => h W w' e hh⟩⟩
end

set_option maxHeartbeats 2000000 in
theorem law_TextSpec0 (na : Bool) (aa : Option Addr) (qa ca : Nat) (l : List Int) (s : ByteArray) (w : World) (ha : Ints w aa ca l) (la : l.length = qa) (hs : s.size ≤ 9223372036854775807) (hf : fewN qa = false) :
    Calls Tryd.prog 4 #[.agg #[.bool na, .slice aa qa ca], .string s] w fun e w' => e = .returned (.bool true) ∧ Ext w w' := by
  have FA := Lib.hid (fun W => ref_Few na aa ca l W)
  rw [la] at FA
  rw [hf] at FA
  clear hf la ha hs
  have hx : Ext w ((w).alloc (.cells #[.bool na, .slice aa qa ca] 24)) := (by repeat (first | with_reducible exact Ext.refl _ | with_reducible assumption | with_reducible refine Ext.drewN ?_ _ | with_reducible refine Ext.drew ?_ | with_reducible refine Ext.alloc' ?_ _ | with_reducible refine Ext.set ?_ (by dsimp only; omega) _))
  have Ka : Blk ((w).alloc (.cells #[.bool na, .slice aa qa ca] 24)) (w.heap.size) #[.bool na, .slice aa qa ca] 24 := by have h := Blk.new0 (w) #[.bool na, .slice aa qa ca] 24; simpa [Nat.add_assoc] using h
  have Ka := Lib.hid Ka
  go_enter Tryd.func4, Tryd.ntmps4
  go_upto_region 1 with fail
  try simp only [Nat.add_assoc, Nat.reduceAdd, Nat.add_zero]
  generalize (w).alloc (.cells #[.bool na, .slice aa qa ca] 24) = x1 at *
  go_wp2_with fail
  with_reducible refine (law09Sane _).mono ?_
  rintro e x2 ⟨rfl, hy⟩
  have hx := hx.trans hy
  have Ka := Lib.hid (Ka.out.ext hy)
  clear hy
  have ca0 := Ka.out.cell (i := 0) (v := .bool na) rfl
  have ca1 := Ka.out.cell (i := 1) (v := .slice aa qa ca) rfl
  go_wp2_with fail
  with_reducible refine (FA.out _).mono ?_
  rintro e x3 ⟨rfl, hy⟩
  have hx := hx.trans hy
  have Ka := Lib.hid (Ka.out.ext hy)
  clear hy
  go_wp2_with fail
  go_ret
  exact ⟨rfl, hx⟩
set_option maxHeartbeats 2000000 in
theorem law_TextSpec1 (na : Bool) (aa : Option Addr) (qa ca : Nat) (l : List Int) (s : ByteArray) (w : World) (ha : Ints w aa ca l) (la : l.length = qa) (hs : s.size ≤ 9223372036854775807) (hf : fewN qa = true ∧ 200 < s.size) :
    Calls Tryd.prog 4 #[.agg #[.bool na, .slice aa qa ca], .string s] w fun e w' => e = .returned (.bool true) ∧ Ext w w' := by
  have FA := Lib.hid (fun W => ref_Few na aa ca l W)
  rw [la] at FA
  rw [hf.1] at FA
  have s1 : decide (200 < s.size) = true := by simpa using hf.2
  have s2 : decide ((200 : Int) < (s.size : Int)) = true := by simp only [decide_eq_true_eq]; omega
  clear hf la ha hs
  have hx : Ext w ((w).alloc (.cells #[.bool na, .slice aa qa ca] 24)) := (by repeat (first | with_reducible exact Ext.refl _ | with_reducible assumption | with_reducible refine Ext.drewN ?_ _ | with_reducible refine Ext.drew ?_ | with_reducible refine Ext.alloc' ?_ _ | with_reducible refine Ext.set ?_ (by dsimp only; omega) _))
  have Ka : Blk ((w).alloc (.cells #[.bool na, .slice aa qa ca] 24)) (w.heap.size) #[.bool na, .slice aa qa ca] 24 := by have h := Blk.new0 (w) #[.bool na, .slice aa qa ca] 24; simpa [Nat.add_assoc] using h
  have Ka := Lib.hid Ka
  go_enter Tryd.func4, Tryd.ntmps4
  go_upto_region 1 with fail
  try simp only [Nat.add_assoc, Nat.reduceAdd, Nat.add_zero]
  generalize (w).alloc (.cells #[.bool na, .slice aa qa ca] 24) = x4 at *
  go_wp2_with fail
  with_reducible refine (law09Sane _).mono ?_
  rintro e x5 ⟨rfl, hy⟩
  have hx := hx.trans hy
  have Ka := Lib.hid (Ka.out.ext hy)
  clear hy
  have ca0 := Ka.out.cell (i := 0) (v := .bool na) rfl
  have ca1 := Ka.out.cell (i := 1) (v := .slice aa qa ca) rfl
  go_wp2_with fail
  with_reducible refine (FA.out _).mono ?_
  rintro e x6 ⟨rfl, hy⟩
  have hx := hx.trans hy
  have Ka := Lib.hid (Ka.out.ext hy)
  clear hy
  go_wp2_with fail
  go_ret
  exact ⟨rfl, hx⟩
set_option maxHeartbeats 2000000 in
theorem law_TextSpec2 (na : Bool) (aa : Option Addr) (qa ca : Nat) (l : List Int) (s : ByteArray) (w : World) (ha : Ints w aa ca l) (la : l.length = qa) (hs : s.size ≤ 9223372036854775807) (hf : fewN qa = true ∧ s.size ≤ 200) :
    Calls Tryd.prog 4 #[.agg #[.bool na, .slice aa qa ca], .string s] w fun e w' => e = .returned (.bool true) ∧ Ext w w' := by
  have FA := Lib.hid (fun W => ref_Few na aa ca l W)
  rw [la] at FA
  rw [hf.1] at FA
  have s1 : decide (200 < s.size) = false := decide_eq_false (by omega)
  have s2 : decide ((200 : Int) < (s.size : Int)) = false := decide_eq_false (by omega)
  obtain ⟨tT, tE, hT⟩ := both_Text (n1 := na) ha
  rw [la] at hT
  have HT := Lib.hid hT
  obtain ⟨rz, rE, hR⟩ := both_Read s (by omega)
  have HR := Lib.hid hR
  clear hT hR
  clear hf la ha hs
  have hx : Ext w ((w).alloc (.cells #[.bool na, .slice aa qa ca] 24)) := (by repeat (first | with_reducible exact Ext.refl _ | with_reducible assumption | with_reducible refine Ext.drewN ?_ _ | with_reducible refine Ext.drew ?_ | with_reducible refine Ext.alloc' ?_ _ | with_reducible refine Ext.set ?_ (by dsimp only; omega) _))
  have Ka : Blk ((w).alloc (.cells #[.bool na, .slice aa qa ca] 24)) (w.heap.size) #[.bool na, .slice aa qa ca] 24 := by have h := Blk.new0 (w) #[.bool na, .slice aa qa ca] 24; simpa [Nat.add_assoc] using h
  have Ka := Lib.hid Ka
  go_enter Tryd.func4, Tryd.ntmps4
  go_upto_region 1 with fail
  try simp only [Nat.add_assoc, Nat.reduceAdd, Nat.add_zero]
  generalize (w).alloc (.cells #[.bool na, .slice aa qa ca] 24) = x7 at *
  go_wp2_with fail
  with_reducible refine (law09Sane _).mono ?_
  rintro e x8 ⟨rfl, hy⟩
  have hx := hx.trans hy
  have Ka := Lib.hid (Ka.out.ext hy)
  clear hy
  have ca0 := Ka.out.cell (i := 0) (v := .bool na) rfl
  have ca1 := Ka.out.cell (i := 1) (v := .slice aa qa ca) rfl
  go_wp2_with fail
  with_reducible refine (FA.out _).mono ?_
  rintro e x9 ⟨rfl, hy⟩
  have hx := hx.trans hy
  have Ka := Lib.hid (Ka.out.ext hy)
  clear hy
  clear ca0 ca1
  have ca0 := Ka.out.cell (i := 0) (v := .bool na) rfl
  have ca1 := Ka.out.cell (i := 1) (v := .slice aa qa ca) rfl
  go_wp2_with fail
  with_reducible refine ((HT.out _ hx).1).mono ?_
  rintro e x10 ⟨rfl, hy⟩
  have hx := hx.trans hy
  have Ka := Lib.hid (Ka.out.ext hy)
  clear hy
  clear ca0 ca1
  have ca0 := Ka.out.cell (i := 0) (v := .bool na) rfl
  have ca1 := Ka.out.cell (i := 1) (v := .slice aa qa ca) rfl
  go_wp2_with fail
  with_reducible refine ((HT.out _ hx).2).mono ?_
  rintro e x11 ⟨rfl, hy⟩
  have hx := hx.trans hy
  have Ka := Lib.hid (Ka.out.ext hy)
  clear hy
  clear ca0 ca1
  go_wp2_with fail
  with_reducible refine ((HR.out _).1).mono ?_
  rintro e x12 ⟨v, rfl, hv, hy⟩
  have hv := hv
  have hx := hx.trans hy
  have Ka := Lib.hid (Ka.out.ext hy)
  clear hy
  obtain ⟨nx, ax, qx, cx, rfl⟩ := hv.form
  have Vx := Lib.hid hv
  clear hv
  go_upto_region 8 with fail
  have hl := Ext.alloc x12 (.cells #[.bool nx, .slice ax qx cx] 24)
  have hx := hx.trans hl
  have Ka := Lib.hid (Ka.out.ext hl)
  have Vx := Lib.hid (Vx.out.ext hl)
  have Kx := Lib.hid (Blk.new0 x12 #[.bool nx, .slice ax qx cx] 24)
  clear hl
  generalize x12.alloc (.cells #[.bool nx, .slice ax qx cx] 24) = x13 at *
  generalize x12.heap.size = px at *
  go_wp2_with fail
  with_reducible refine ((HR.out _).2).mono ?_
  rintro e x14 ⟨v, rfl, hv, hy⟩
  have hv := hv
  have hx := hx.trans hy
  have Ka := Lib.hid (Ka.out.ext hy)
  have Vx := Lib.hid (Vx.out.ext hy)
  have Kx := Lib.hid (Kx.out.ext hy)
  clear hy
  obtain ⟨ny, ay, qy, cy, rfl⟩ := hv.form
  have Vy := Lib.hid hv
  clear hv
  go_upto_region 9 with fail
  have hl := Ext.alloc x14 (.cells #[.bool ny, .slice ay qy cy] 24)
  have hx := hx.trans hl
  have Ka := Lib.hid (Ka.out.ext hl)
  have Vx := Lib.hid (Vx.out.ext hl)
  have Kx := Lib.hid (Kx.out.ext hl)
  have Vy := Lib.hid (Vy.out.ext hl)
  have Ky := Lib.hid (Blk.new0 x14 #[.bool ny, .slice ay qy cy] 24)
  clear hl
  generalize x14.alloc (.cells #[.bool ny, .slice ay qy cy] 24) = x15 at *
  generalize x14.heap.size = py at *
  have cx0 := Kx.out.cell (i := 0) (v := .bool nx) rfl
  have cx1 := Kx.out.cell (i := 1) (v := .slice ax qx cx) rfl
  have cy0 := Ky.out.cell (i := 0) (v := .bool ny) rfl
  have cy1 := Ky.out.cell (i := 1) (v := .slice ay qy cy) rfl
  go_wp2_with fail
  with_reducible refine (sameT Vx.out Vy.out rfl).mono ?_
  rintro e x16 ⟨rfl, hy⟩
  have hx := hx.trans hy
  have Ka := Lib.hid (Ka.out.ext hy)
  have Vx := Lib.hid (Vx.out.ext hy)
  have Kx := Lib.hid (Kx.out.ext hy)
  have Vy := Lib.hid (Vy.out.ext hy)
  have Ky := Lib.hid (Ky.out.ext hy)
  clear hy
  go_wp2_with fail
  go_ret
  exact ⟨rfl, hx⟩
theorem law_TextSpec (na : Bool) (aa : Option Addr) (ca : Nat) (l : List Int) (s : ByteArray) (w : World) (ha : Ints w aa ca l) (hs : s.size ≤ 9223372036854775807) :
    Calls Tryd.prog 4 #[.agg #[.bool na, .slice aa l.length ca], .string s] w fun e w' => e = .returned (.bool true) ∧ Ext w w' := by
  cases h1 : fewN l.length
  · exact law_TextSpec0 na aa _ ca l s w ha rfl hs h1
  · by_cases h2 : 200 < s.size
    · exact law_TextSpec1 na aa _ ca l s w ha rfl hs ⟨h1, h2⟩
    · exact law_TextSpec2 na aa _ ca l s w ha rfl hs ⟨h1, by omega⟩
end Go.Proofs.YtpaaanbcadlhiaaDoor
