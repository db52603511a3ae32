import Derived.Test.YtnpeakahiedeoaaGreatDoorQ5
import Derived.Test.YtnpeakahiedeoaaGreatDoorPText
import Derived.Test.YtnpeakahiedeoaaGreatDoorPTxt1
import Derived.Lib.Strings
import Derived.Test.YtnpeakahiedeoaaGreatDoorQ0
import Derived.Lib.Slices
import Derived.Lib.Walk
import Derived.Lib.Bytealg
import Derived.Deep.QuietTactic
import Derived.Test.YtnpeakahiedeoaaGreatDoorPRead2
namespace Go.Proofs.YtnpeakahiedeoaaGreatDoor
open Go.RowKit Go BigFrame
set_option maxRecDepth 100000
set_option linter.unusedSimpArgs false
set_option linter.unusedVariables false

/-! ratio.Text. -/
/-- The text of a ratio, as bytes. -/
def textR (r : Rat) : ByteArray := if r.den = 1 then ⟨(txtL r.num).toArray⟩ else ⟨(txtL r.num).toArray⟩ ++ (⟨#[47]⟩ ++ ⟨(txtL (r.den : Int)).toArray⟩)
/-- The text of 1 is no other number's. -/
theorem txt_one {z : Int} : ((⟨(txtL z).toArray⟩ : ByteArray) = ⟨#[49]⟩) ↔ z = 1 := by
  constructor
  · intro h
    have h1 : txtL z = [49] := by
      have := congrArg (fun b : ByteArray => b.data.toList) h
      simpa using this
    have h2 := read_text z
    rw [h1, show readL [49] = some 1 by decide] at h2
    exact (Option.some.inj h2).symm
  · rintro rfl
    rw [text_read (z := 1) (l := [49]) (by decide)]
theorem txt_sizes {r : Rat} (hb : (txtL r.num).length ≤ 1000 ∧ (txtL (r.den : Int)).length ≤ 1000) : (⟨(txtL r.num).toArray⟩ : ByteArray).size ≤ 1000 ∧ (⟨(txtL (r.den : Int)).toArray⟩ : ByteArray).size ≤ 1000 := by
  have e : ∀ l : List UInt8, (⟨l.toArray⟩ : ByteArray).size = l.length := fun l => by simp [ByteArray.size]
  rw [e, e]
  exact hb
theorem bytes_ne {t : ByteArray} {b : UInt8} (h : ¬ t = ⟨#[b]⟩) : (!(t.toList == [b])) = true := by
  rw [Bool.not_eq_true', beq_eq_false_iff_ne]
  intro e
  apply h
  rw [Lib.toList_data] at e
  have : t.data = #[b] := by rw [← Array.toList_inj]; exact e
  cases t
  simp_all
set_option maxHeartbeats 2000000 in
theorem ratio_Text_one {v : Value} {r : Rat} {w : World} (hv : RatV w v r) (l1 : Len r.num) (l2 : Len (r.den : Int)) (hb : (txtL r.num).length ≤ 1000 ∧ (txtL (r.den : Int)).length ≤ 1000) (h1 : r.den = 1) : Calls Tryz.prog 20 #[v] w fun e w' => e = .returned (.tuple #[.string (textR r), .int .i64 0]) ∧ Ext w w' := by
  have L0 := Lib.hid (And.intro l1 l2)
  obtain ⟨nx, ax, qx, cx, bx, kx, dx, rfl⟩ := hv.form
  have Vx := Lib.hid hv
  have HT := text_val hv.num l1
  have HB : Hid ((⟨(txtL r.num).toArray⟩ : ByteArray).size ≤ 1000 ∧ (⟨(txtL (r.den : Int)).toArray⟩ : ByteArray).size ≤ 1000) := Lib.hid (txt_sizes hb)
  have HR := Lib.hid (show textR r = ⟨(txtL r.num).toArray⟩ from by unfold textR; rw [if_pos h1])
  have HD : Hid (((⟨(txtL (r.den : Int)).toArray⟩ : ByteArray) = ⟨#[49]⟩) ↔ r.den = 1) := Lib.hid (txt_one.trans (by omega))
  have HO := Lib.hid h1
  clear hv l1 l2 hb HT h1
  have HTN := Lib.hid (fun W (h : RatV W (.agg #[.bool nx, .slice ax qx cx, .bool false, .slice bx kx dx]) r) => text_val h.num L0.out.1)
  have HTD := Lib.hid (fun W (h : RatV W (.agg #[.bool nx, .slice ax qx cx, .bool false, .slice bx kx dx]) r) => text_val h.den L0.out.2)
  obtain ⟨x1, hw, hx, Kx, Ke⟩ := boxQ2 w #[.bool nx, .slice ax qx cx, .bool false, .slice bx kx dx] 26 #[.int .i64 0] 30
  replace hw := Lib.hid hw
  have Vx := Lib.hid (Vx.out.ext hx)
  go_enter_defers Tryz.func20, Tryz.ntmps20
  go_upto_region 1 with fail
  try simp only [Nat.add_assoc, Nat.reduceAdd, Nat.add_zero]
  rw [hw.out]
  clear hw
  have hs0 := hx.size
  obtain ⟨cx0, cx1, cx2, cx3⟩ := bk4 Kx
  have ce0 := bk1 Ke
  have hl := Ext.alloc x1 (.cells #[.bool nx, .slice ax qx cx, .bool false, .slice bx kx dx] 26)
  have hKK := Blk.new0 x1 #[.bool nx, .slice ax qx cx, .bool false, .slice bx kx dx] 26
  have hlx := hx.trans hl
  have HTT := Lib.hid (valid1_val hKK (Vx.out.ext hl) L0.out.1 L0.out.2)
  clear hKK hlx
  go_wp2_with fail
  with_reducible refine (HTT.out).mono ?_
  clear cx0 cx1 cx2 cx3 ce0
  rintro e x2 ⟨rfl, hy⟩
  replace hy := hl.trans hy
  replace hx := hx.trans hy
  replace Kx := kE Kx hy
  replace Ke := kE Ke hy
  replace Vx := Lib.hid (Vx.out.ext hy)
  clear hy HTT hl
  obtain ⟨cx0, cx1, cx2, cx3⟩ := bk4 Kx
  have ce0 := bk1 Ke
  go_wp2_with fail
  with_reducible refine (HTN.out _ Vx.out).mono ?_
  clear cx0 cx1 cx2 cx3 ce0
  rintro e x3 ⟨rfl, hy⟩
  replace hx := hx.trans hy
  replace Kx := kE Kx hy
  replace Ke := kE Ke hy
  replace Vx := Lib.hid (Vx.out.ext hy)
  clear hy
  obtain ⟨cx0, cx1, cx2, cx3⟩ := bk4 Kx
  have ce0 := bk1 Ke
  go_wp2_with fail
  with_reducible refine (ratio_didS _ _).mono ?_
  clear cx0 cx1 cx2 cx3 ce0
  rintro e x4 ⟨rfl, hy⟩
  replace hx := hx.trans hy
  replace Kx := kE Kx hy
  replace Ke := kE Ke hy
  replace Vx := Lib.hid (Vx.out.ext hy)
  clear hy
  obtain ⟨cx0, cx1, cx2, cx3⟩ := bk4 Kx
  have ce0 := bk1 Ke
  go_wp2_with fail
  with_reducible refine (HTD.out _ Vx.out).mono ?_
  clear cx0 cx1 cx2 cx3 ce0
  rintro e x5 ⟨rfl, hy⟩
  replace hx := hx.trans hy
  replace Kx := kE Kx hy
  replace Ke := kE Ke hy
  replace Vx := Lib.hid (Vx.out.ext hy)
  clear hy
  obtain ⟨cx0, cx1, cx2, cx3⟩ := bk4 Kx
  have ce0 := bk1 Ke
  go_wp2_with fail
  with_reducible refine (ratio_didS _ _).mono ?_
  clear cx0 cx1 cx2 cx3 ce0
  rintro e x6 ⟨rfl, hy⟩
  replace hx := hx.trans hy
  replace Kx := kE Kx hy
  replace Ke := kE Ke hy
  replace Vx := Lib.hid (Vx.out.ext hy)
  clear hy
  have ht := HD.out.2 HO.out
  generalize (⟨(txtL r.num).toArray⟩ : ByteArray) = tn at *
  generalize (⟨(txtL (r.den : Int)).toArray⟩ : ByteArray) = td at *
  subst ht
  go_upto_region 5 with fail
  obtain ⟨cx0, cx1, cx2, cx3⟩ := bk4 Kx
  have ce0 := bk1 Ke
  obtain ⟨g0, z0⟩ := bp1 Ke (.int .i64 0)
  go_wp2_with fail
  clear g0 z0
  clear cx0 cx1 cx2 cx3 ce0
  replace Vx := (by first | exact rv1 Vx Ke (.int .i64 0) rfl | exact bv1 Vx Ke (.int .i64 0) rfl)
  replace hx := bx1 hx (w.heap.size + 1) (.int .i64 0) (by omega)
  replace Kx := bo1 Kx (w.heap.size + 1) (.int .i64 0) (by omega)
  replace Ke := bs1 Ke (.int .i64 0)
  generalize (x6).setCell ⟨w.heap.size + 1, 0, none⟩ (.int .i64 0) = x7 at *
  have ce0 := bk1 Ke
  refine leaves_cons (f := 49) (args := #[.pointer (some ⟨w.heap.size + 1, 0, none⟩)]) (by simp) (by simp [go_sem]) ?_
  refine (ratio_caught_idle ⟨w.heap.size + 1, 0, none⟩ _).mono ?_
  rintro e u' w'' ⟨rfl, rfl, rfl⟩
  simp [Leaves, settle, results, Tryz.results20, go_sem, ce0]
  exact ⟨HR.out.symm, hx⟩
set_option maxHeartbeats 2000000 in
theorem ratio_Text_more {v : Value} {r : Rat} {w : World} (hv : RatV w v r) (l1 : Len r.num) (l2 : Len (r.den : Int)) (hb : (txtL r.num).length ≤ 1000 ∧ (txtL (r.den : Int)).length ≤ 1000) (h1 : r.den ≠ 1) : Calls Tryz.prog 20 #[v] w fun e w' => e = .returned (.tuple #[.string (textR r), .int .i64 0]) ∧ Ext w w' := by
  have L0 := Lib.hid (And.intro l1 l2)
  obtain ⟨nx, ax, qx, cx, bx, kx, dx, rfl⟩ := hv.form
  have Vx := Lib.hid hv
  have HT := text_val hv.num l1
  have HB : Hid ((⟨(txtL r.num).toArray⟩ : ByteArray).size ≤ 1000 ∧ (⟨(txtL (r.den : Int)).toArray⟩ : ByteArray).size ≤ 1000) := Lib.hid (txt_sizes hb)
  have HR := Lib.hid (show textR r = ⟨(txtL r.num).toArray⟩ ++ (⟨#[47]⟩ ++ ⟨(txtL (r.den : Int)).toArray⟩) from by unfold textR; rw [if_neg h1])
  have HD : Hid (((⟨(txtL (r.den : Int)).toArray⟩ : ByteArray) = ⟨#[49]⟩) ↔ r.den = 1) := Lib.hid (txt_one.trans (by omega))
  have HO := Lib.hid h1
  clear hv l1 l2 hb HT h1
  have HTN := Lib.hid (fun W (h : RatV W (.agg #[.bool nx, .slice ax qx cx, .bool false, .slice bx kx dx]) r) => text_val h.num L0.out.1)
  have HTD := Lib.hid (fun W (h : RatV W (.agg #[.bool nx, .slice ax qx cx, .bool false, .slice bx kx dx]) r) => text_val h.den L0.out.2)
  obtain ⟨x1, hw, hx, Kx, Ke⟩ := boxQ2 w #[.bool nx, .slice ax qx cx, .bool false, .slice bx kx dx] 26 #[.int .i64 0] 30
  replace hw := Lib.hid hw
  have Vx := Lib.hid (Vx.out.ext hx)
  go_enter_defers Tryz.func20, Tryz.ntmps20
  go_upto_region 1 with fail
  try simp only [Nat.add_assoc, Nat.reduceAdd, Nat.add_zero]
  rw [hw.out]
  clear hw
  have hs0 := hx.size
  obtain ⟨cx0, cx1, cx2, cx3⟩ := bk4 Kx
  have ce0 := bk1 Ke
  have hl := Ext.alloc x1 (.cells #[.bool nx, .slice ax qx cx, .bool false, .slice bx kx dx] 26)
  have hKK := Blk.new0 x1 #[.bool nx, .slice ax qx cx, .bool false, .slice bx kx dx] 26
  have hlx := hx.trans hl
  have HTT := Lib.hid (valid1_val hKK (Vx.out.ext hl) L0.out.1 L0.out.2)
  clear hKK hlx
  go_wp2_with fail
  with_reducible refine (HTT.out).mono ?_
  clear cx0 cx1 cx2 cx3 ce0
  rintro e x2 ⟨rfl, hy⟩
  replace hy := hl.trans hy
  replace hx := hx.trans hy
  replace Kx := kE Kx hy
  replace Ke := kE Ke hy
  replace Vx := Lib.hid (Vx.out.ext hy)
  clear hy HTT hl
  obtain ⟨cx0, cx1, cx2, cx3⟩ := bk4 Kx
  have ce0 := bk1 Ke
  go_wp2_with fail
  with_reducible refine (HTN.out _ Vx.out).mono ?_
  clear cx0 cx1 cx2 cx3 ce0
  rintro e x3 ⟨rfl, hy⟩
  replace hx := hx.trans hy
  replace Kx := kE Kx hy
  replace Ke := kE Ke hy
  replace Vx := Lib.hid (Vx.out.ext hy)
  clear hy
  obtain ⟨cx0, cx1, cx2, cx3⟩ := bk4 Kx
  have ce0 := bk1 Ke
  go_wp2_with fail
  with_reducible refine (ratio_didS _ _).mono ?_
  clear cx0 cx1 cx2 cx3 ce0
  rintro e x4 ⟨rfl, hy⟩
  replace hx := hx.trans hy
  replace Kx := kE Kx hy
  replace Ke := kE Ke hy
  replace Vx := Lib.hid (Vx.out.ext hy)
  clear hy
  obtain ⟨cx0, cx1, cx2, cx3⟩ := bk4 Kx
  have ce0 := bk1 Ke
  go_wp2_with fail
  with_reducible refine (HTD.out _ Vx.out).mono ?_
  clear cx0 cx1 cx2 cx3 ce0
  rintro e x5 ⟨rfl, hy⟩
  replace hx := hx.trans hy
  replace Kx := kE Kx hy
  replace Ke := kE Ke hy
  replace Vx := Lib.hid (Vx.out.ext hy)
  clear hy
  obtain ⟨cx0, cx1, cx2, cx3⟩ := bk4 Kx
  have ce0 := bk1 Ke
  go_wp2_with fail
  with_reducible refine (ratio_didS _ _).mono ?_
  clear cx0 cx1 cx2 cx3 ce0
  rintro e x6 ⟨rfl, hy⟩
  replace hx := hx.trans hy
  replace Kx := kE Kx hy
  replace Ke := kE Ke hy
  replace Vx := Lib.hid (Vx.out.ext hy)
  clear hy
  have ht := mt HD.out.1 HO.out
  generalize (⟨(txtL r.num).toArray⟩ : ByteArray) = tn at *
  generalize (⟨(txtL (r.den : Int)).toArray⟩ : ByteArray) = td at *
  have ht5 := bytes_ne ht
  obtain ⟨hb1, hb2⟩ := HB.out
  have hn1 : ¬ (9223372036854775807 < 1 + td.size) := by omega
  have hn2 : ¬ (9223372036854775807 < tn.size + (1 + td.size)) := by omega
  have hn3 : ¬ (9223372036854775807 < tn.size + 1 + td.size) := by omega
  clear hb1 hb2
  go_upto_region 5 with fail
  obtain ⟨cx0, cx1, cx2, cx3⟩ := bk4 Kx
  have ce0 := bk1 Ke
  obtain ⟨g0, z0⟩ := bp1 Ke (.int .i64 0)
  go_wp2_with fail
  clear g0 z0
  clear cx0 cx1 cx2 cx3 ce0
  replace Vx := (by first | exact rv1 Vx Ke (.int .i64 0) rfl | exact bv1 Vx Ke (.int .i64 0) rfl)
  replace hx := bx1 hx (w.heap.size + 1) (.int .i64 0) (by omega)
  replace Kx := bo1 Kx (w.heap.size + 1) (.int .i64 0) (by omega)
  replace Ke := bs1 Ke (.int .i64 0)
  generalize (x6).setCell ⟨w.heap.size + 1, 0, none⟩ (.int .i64 0) = x7 at *
  have ce0 := bk1 Ke
  refine leaves_cons (f := 49) (args := #[.pointer (some ⟨w.heap.size + 1, 0, none⟩)]) (by simp) (by simp [go_sem]) ?_
  refine (ratio_caught_idle ⟨w.heap.size + 1, 0, none⟩ _).mono ?_
  rintro e u' w'' ⟨rfl, rfl, rfl⟩
  simp [Leaves, settle, results, Tryz.results20, go_sem, ce0]
  exact ⟨HR.out.symm, hx⟩
theorem ratio_Text {v : Value} {r : Rat} {w : World} (hv : RatV w v r) (l1 : Len r.num) (l2 : Len (r.den : Int)) (hb : (txtL r.num).length ≤ 1000 ∧ (txtL (r.den : Int)).length ≤ 1000) : Calls Tryz.prog 20 #[v] w fun e w' => e = .returned (.tuple #[.string (textR r), .int .i64 0]) ∧ Ext w w' := by
  by_cases h1 : r.den = 1
  · exact ratio_Text_one hv l1 l2 hb h1
  · exact ratio_Text_more hv l1 l2 hb h1
end Go.Proofs.YtnpeakahiedeoaaGreatDoor

namespace Go.Proofs.YtnpeakahiedeoaaGreatDoor
open Go.RowKit Go BigFrame
set_option maxRecDepth 100000
set_option linter.unusedSimpArgs false
set_option linter.unusedVariables false

/-! strings.Cut at a separator of one byte. -/
set_option maxHeartbeats 1000000 in
theorem slite_IndexByte (s : ByteArray) (c : Int) (w : World) :
    Calls Tryz.prog 125 #[.string s, .int .u8 c] w fun e w' => e = .returned (.int .i64 (Lib.indexByte s.data.toList c.toNat.toUInt8)) ∧ w' = w := by
  go_enter Tryz.func125, Tryz.ntmps125
  go_wp2
  rw [run_callFunc_extern Tryz.func135 (by kernel_rfl) (by kernel_rfl) (by kernel_rfl) (e := Extern.BytealgIndexByte.indexByte) (by kernel_rfl), Lib.run_indexByteString]
  simp only [Result.andThen]
  rw [Oper.upon_value]
  go_wp2
  go_ret
  exact ⟨rfl, rfl⟩
set_option maxHeartbeats 2000000 in
theorem slite_Index_one (s : ByteArray) (c : UInt8) (w : World) :
    Calls Tryz.prog 113 #[.string s, .string ⟨#[c]⟩] w fun e w' => e = .returned (.int .i64 (Lib.indexByte s.data.toList c)) ∧ w' = w := by
  go_enter Tryz.func113, Tryz.ntmps113
  go_wp2_with (go_at_call 125; refine (slite_IndexByte _ _ _).mono ?_; rintro e w' ⟨rfl, rfl⟩)
  · have h : ([c] == s.toList) = true := by assumption
    go_ret
    refine ⟨?_, rfl⟩
    have e : s.data.toList = [c] := by rw [← Lib.toList_data]; exact (beq_iff_eq.1 h).symm
    rw [e]
    simp [Lib.indexByte]
  · go_ret
    exact ⟨rfl, rfl⟩
/-- Where a byte is not there. -/
theorem slite_Cut_none (s : ByteArray) (c : UInt8) (w : World) (h : Lib.indexByte s.data.toList c = -1) :
    Calls Tryz.prog 96 #[.string s, .string ⟨#[c]⟩] w fun e w' => e = .returned (.tuple #[.string s, .string ⟨#[]⟩, .bool false]) ∧ Ext w w' := by
  have hx := Ext.refl w
  have HI := slite_Index_one s c w
  rw [h] at HI
  have HI := Lib.hid HI
  clear h
  go_enter Tryz.func96, Tryz.ntmps96
  go_wp2_with fail
  refine HI.out.mono ?_
  rintro e w' ⟨rfl, rfl⟩
  go_wp2_with fail
  go_ret3
  exact ⟨rfl, hx⟩
theorem strings_Cut_none (s : ByteArray) (c : UInt8) (w : World) (h : Lib.indexByte s.data.toList c = -1) :
    Calls Tryz.prog 63 #[.string s, .string ⟨#[c]⟩] w fun e w' => e = .returned (.tuple #[.string s, .string ⟨#[]⟩, .bool false]) ∧ Ext w w' := by
  have HI := Lib.hid (slite_Cut_none s c w h)
  clear h
  go_enter Tryz.func63, Tryz.ntmps63
  go_wp2_with fail
  refine HI.out.mono ?_
  rintro e w' ⟨rfl, hx⟩
  go_wp2_with fail
  go_ret3
  exact ⟨rfl, hx⟩
set_option maxHeartbeats 1000000 in
theorem slite_Cut_some (s : ByteArray) (c : UInt8) (w : World) (k : Nat) (h : Lib.indexByte s.data.toList c = (k : Int)) (hk : k < s.size) (hm : s.size ≤ 1000) :
    Calls Tryz.prog 96 #[.string s, .string ⟨#[c]⟩] w fun e w' => e = .returned (.tuple #[.string (s.extract 0 k), .string (s.extract (k + 1) s.size), .bool true]) ∧ Ext w w' := by
  have hx := Ext.refl w
  have HI := slite_Index_one s c w
  rw [h] at HI
  have HI := Lib.hid HI
  clear h
  go_enter Tryz.func96, Tryz.ntmps96
  go_wp2_with fail
  refine HI.out.mono ?_
  rintro e w' ⟨rfl, rfl⟩
  have g0 : decide ((0 : Int) ≤ (k : Int)) = true := by simp
  have g1 : (k : Int) ≤ (s.size : Int) := by omega
  have g2 : (k : Int) + 1 ≤ (s.size : Int) := by omega
  have g4 : (0 : Int) ≤ (k : Int) + 1 := by omega
  have g3 : IntKind.i64.wrap ((k : Int) + 1) = (k : Int) + 1 := IntWalk.i64_in _ (by omega)
  go_upto_region 3 with fail
  refine wp_region_held_drew (S := (fun _ => True)) (by kernel_rfl) ?_ (fun hHeld => ?_)
  · trivial
  (try simp only [← List.toArray_replicate, List.size_toArray, List.length_cons, List.length_nil, Nat.reduceAdd, List.replicate_succ, List.replicate_zero])
  refine wpAnyH_take (i := 0) (oi := _) (v := ?_) rfl (by kernel_rfl) (by kernel_rfl) (by kernel_rfl) (fun _ _ _ h => h) (Or.inl ⟨by rfl, ?_⟩) (by assumption) ?_
  rotate_left
  · (intro w hSw; (try dsimp only at hSw); (try go_simp); (try with_reducible rfl))
  (try simp only [Act.put, List.getElem_toArray, List.getElem_cons_succ, List.getElem_cons_zero, List.setIfInBounds_toArray, List.set_cons_zero, List.set_cons_succ])
  refine wpAnyH_take (i := 1) (oi := _) (v := ?_) rfl (by kernel_rfl) (by kernel_rfl) (by kernel_rfl) (fun _ _ _ h => h) (Or.inl ⟨by rfl, ?_⟩) (by assumption) ?_
  rotate_left
  · (intro w hSw; (try dsimp only at hSw); (try go_simp); (try with_reducible rfl))
  (try simp only [Act.put, List.getElem_toArray, List.getElem_cons_succ, List.getElem_cons_zero, List.setIfInBounds_toArray, List.set_cons_zero, List.set_cons_succ])
  refine wpAnyH_take (i := 2) (oi := _) (v := ?_) rfl (by kernel_rfl) (by kernel_rfl) (by kernel_rfl) (fun _ _ _ h => h) (Or.inl ⟨by rfl, ?_⟩) (by assumption) ?_
  rotate_left
  · (intro w hSw; (try dsimp only at hSw); (try go_simp); (try with_reducible rfl))
  (try simp only [Act.put, List.getElem_toArray, List.getElem_cons_succ, List.getElem_cons_zero, List.setIfInBounds_toArray, List.set_cons_zero, List.set_cons_succ])
  refine wpAnyH_take (i := 3) (oi := _) (v := ?_) rfl (by kernel_rfl) (by kernel_rfl) (by kernel_rfl) (fun _ _ _ h => h) (Or.inl ⟨by rfl, ?_⟩) (by assumption) ?_
  rotate_left
  · (intro w hSw; (try dsimp only at hSw); (try go_simp); (try with_reducible rfl))
  (try simp only [Act.put, List.getElem_toArray, List.getElem_cons_succ, List.getElem_cons_zero, List.setIfInBounds_toArray, List.set_cons_zero, List.set_cons_succ])
  refine wpAnyH_take (i := 4) (oi := _) (v := ?_) rfl (by kernel_rfl) (by kernel_rfl) (by kernel_rfl) (fun _ _ _ h => h) (Or.inl ⟨by rfl, ?_⟩) (by assumption) ?_
  rotate_left
  · (intro w hSw; (try dsimp only at hSw); (try go_simp); (try with_reducible rfl))
  (try simp only [Act.put, List.getElem_toArray, List.getElem_cons_succ, List.getElem_cons_zero, List.setIfInBounds_toArray, List.set_cons_zero, List.set_cons_succ])
  refine wpAnyH_take (i := 5) (oi := _) (v := ?_) rfl (by kernel_rfl) (by kernel_rfl) (by kernel_rfl) (fun _ _ _ h => h) (Or.inl ⟨by rfl, ?_⟩) (by assumption) ?_
  rotate_left
  · (intro w hSw; (try dsimp only at hSw); (try go_simp); (try with_reducible rfl))
  (try simp only [Act.put, List.getElem_toArray, List.getElem_cons_succ, List.getElem_cons_zero, List.setIfInBounds_toArray, List.set_cons_zero, List.set_cons_succ])
  refine wpAnyH_take (i := 6) (oi := _) (v := ?_) rfl (by kernel_rfl) (by kernel_rfl) (by kernel_rfl) (fun _ _ _ h => h) (Or.inl ⟨by rfl, ?_⟩) (by assumption) ?_
  rotate_left
  · (intro w hSw; (try dsimp only at hSw); (try go_simp); (try with_reducible rfl))
  (try simp only [Act.put, List.getElem_toArray, List.getElem_cons_succ, List.getElem_cons_zero, List.setIfInBounds_toArray, List.set_cons_zero, List.set_cons_succ])
  refine wpAnyH_take (i := 7) (oi := _) (v := ?_) rfl (by kernel_rfl) (by kernel_rfl) (by kernel_rfl) (fun _ _ _ h => h) (Or.inl ⟨by rfl, ?_⟩) (by assumption) ?_
  rotate_left
  · (intro w hSw; (try dsimp only at hSw); (try go_simp); (try with_reducible rfl))
  (try simp only [Act.put, List.getElem_toArray, List.getElem_cons_succ, List.getElem_cons_zero, List.setIfInBounds_toArray, List.set_cons_zero, List.set_cons_succ])
  refine wpAnyH_take (i := 8) (oi := _) (v := ?_) rfl (by kernel_rfl) (by kernel_rfl) (by kernel_rfl) (fun _ _ _ h => h) (Or.inl ⟨by rfl, ?_⟩) (by assumption) ?_
  rotate_left
  · (intro w hSw; (try dsimp only at hSw); (try go_simp); (try with_reducible rfl))
  (try simp only [Act.put, List.getElem_toArray, List.getElem_cons_succ, List.getElem_cons_zero, List.setIfInBounds_toArray, List.set_cons_zero, List.set_cons_succ])
  refine wpAnyH_take (i := 9) (oi := _) (v := ?_) rfl (by kernel_rfl) (by kernel_rfl) (by kernel_rfl) (fun _ _ _ h => h) (Or.inl ⟨by rfl, ?_⟩) (by assumption) ?_
  rotate_left
  · (intro w hSw; (try dsimp only at hSw); (try go_simp); (try with_reducible rfl))
  (try simp only [Act.put, List.getElem_toArray, List.getElem_cons_succ, List.getElem_cons_zero, List.setIfInBounds_toArray, List.set_cons_zero, List.set_cons_succ])
  refine wpAnyH_take (i := 10) (oi := _) (v := ?_) rfl (by kernel_rfl) (by kernel_rfl) (by kernel_rfl) (fun _ _ _ h => h) (Or.inl ⟨by rfl, ?_⟩) (by assumption) ?_
  rotate_left
  · (intro w hSw; (try dsimp only at hSw); (try go_simp); (try with_reducible rfl))
  (try simp only [Act.put, List.getElem_toArray, List.getElem_cons_succ, List.getElem_cons_zero, List.setIfInBounds_toArray, List.set_cons_zero, List.set_cons_succ])
  refine wpAnyH_take (i := 11) (oi := _) (v := ?_) rfl (by kernel_rfl) (by kernel_rfl) (by kernel_rfl) (fun _ _ _ h => h) (Or.inl ⟨by rfl, ?_⟩) (by assumption) ?_
  rotate_left
  · (intro w hSw; (try dsimp only at hSw); (try go_simp); (try with_reducible rfl))
  (try simp only [Act.put, List.getElem_toArray, List.getElem_cons_succ, List.getElem_cons_zero, List.setIfInBounds_toArray, List.set_cons_zero, List.set_cons_succ])
  refine wpAnyH_done (by kernel_rfl) ?_ _
  (go_wp2_with fail; go_ret3; exact ⟨rfl, hx.drew⟩)
theorem strings_Cut_some (s : ByteArray) (c : UInt8) (w : World) (k : Nat) (h : Lib.indexByte s.data.toList c = (k : Int)) (hk : k < s.size) (hm : s.size ≤ 1000) :
    Calls Tryz.prog 63 #[.string s, .string ⟨#[c]⟩] w fun e w' => e = .returned (.tuple #[.string (s.extract 0 k), .string (s.extract (k + 1) s.size), .bool true]) ∧ Ext w w' := by
  have HI := Lib.hid (slite_Cut_some s c w k h hk hm)
  clear h hk hm
  go_enter Tryz.func63, Tryz.ntmps63
  go_wp2_with fail
  refine HI.out.mono ?_
  rintro e w' ⟨rfl, hx⟩
  go_wp2_with fail
  go_ret3
  exact ⟨rfl, hx⟩
end Go.Proofs.YtnpeakahiedeoaaGreatDoor

namespace Go.Proofs.YtnpeakahiedeoaaGreatDoor
open Go.RowKit Go BigFrame
set_option maxRecDepth 100000
set_option linter.unusedSimpArgs false
set_option linter.unusedVariables false

/-! ratio.Read. -/
/-- A text cut at its first '/'. -/
def cutL : List UInt8 → List UInt8 × Option (List UInt8)
  | [] => ([], none)
  | b :: l => if b == 47 then ([], some l) else (b :: (cutL l).1, (cutL l).2)
/-- The ratio of two integers, if it is valid. -/
def mkR (z d : Int) : Option Rat := if 0 < d ∧ Int.gcd z d = 1 then some (Rat.divInt z d) else none
/-- The ratio of a text. -/
def readR (l : List UInt8) : Option Rat :=
  match cutL l with
  | (a, none) => (readL a).map (fun z => Rat.divInt z 1)
  | (a, some b) => match readL a, readL b with
    | some z, some d => if b == [49] then none else mkR z d
    | _, _ => none
theorem okR_eq {n1 n2 : Bool} {l m : List Int} {z d : Int} (h1 : Big n1 l z) (h2 : Big n2 m d) (k1 : Len z) (k2 : Len d) : okR n1 l n2 m = decide (0 < d ∧ Int.gcd z d = 1) := by
  have e1 : sgn n1 (dval l) = z := h1.2.2.symm
  have e2 : sgn n2 (dval m) = d := h2.2.2.symm
  have h0 := dval_nonneg h2.1.digs
  have key : okR n1 l n2 m = true ↔ 0 < d ∧ Int.gcd z d = 1 := by
    rw [okR_iff, e1, e2]
    constructor
    · rintro ⟨_, _, rfl, hm, hg⟩
      have := dval_pos h2.1 (List.ne_nil_of_length_pos hm)
      exact ⟨by rw [← e2]; exact this, hg⟩
    · rintro ⟨hd, hg⟩
      refine ⟨h1.chk k1, h2.chk k2, ?_, ?_, hg⟩
      · cases n2
        · rfl
        · simp [sgn] at e2; omega
      · refine List.length_pos_iff.2 fun e => ?_
        rw [e] at e2; cases n2 <;> simp [sgn, dval] at e2 <;> omega
  by_cases h : 0 < d ∧ Int.gcd z d = 1
  · rw [decide_eq_true h]; exact key.2 h
  · rw [decide_eq_false h]
    cases hk : okR n1 l n2 m
    · rfl
    · exact absurd (key.1 hk) h
theorem divInt_low {z d : Int} (hd : 0 < d) (hg : Int.gcd z d = 1) : (Rat.divInt z d).num = z ∧ ((Rat.divInt z d).den : Int) = d := by
  have := low_pos (z := z) hd
  rw [hg] at this
  simpa using this
set_option maxHeartbeats 2000000 in
theorem ratio_Read_a1 (s sn sd : ByteArray) (z d : Int) (w : World) (HC : ∀ W, Calls Tryz.prog 63 #[.string s, .string ⟨#[47]⟩] W fun e w' => e = .returned (.tuple #[.string sn, .string sd, .bool false]) ∧ Ext W w') (HN : ∀ W, Calls Tryz.prog 64 #[.string sn] W (fun e w' => e = .returned (.tuple #[zeroBig, .int .i64 90]) ∧ Ext W w')) : Calls Tryz.prog 22 #[.string s] w (RatE 100 w) := by
  have HC := Lib.hid HC
  have HN := Lib.hid HN
  obtain ⟨x1, hw, hx, Kr⟩ := boxQ1 w #[.bool false, .slice none 0 0, .bool false, .slice none 0 0] 26
  replace hw := Lib.hid hw
  go_enter Tryz.func22, Tryz.ntmps22
  go_upto_region 1 with fail
  try simp only [Nat.add_assoc, Nat.reduceAdd, Nat.add_zero]
  rw [hw.out]
  clear hw
  have hs0 := hx.size
  obtain ⟨cr0, cr1, cr2, cr3⟩ := bk4 Kr
  go_wp2_with fail
  with_reducible refine (HC.out _).mono ?_
  clear cr0 cr1 cr2 cr3
  rintro e x2 ⟨rfl, hy⟩
  replace hx := hx.trans hy
  replace Kr := kE Kr hy
  clear hy
  obtain ⟨cr0, cr1, cr2, cr3⟩ := bk4 Kr
  go_wp2_with fail
  with_reducible refine (HN.out _).mono ?_
  clear cr0 cr1 cr2 cr3
  rintro e x3 ⟨rfl, hy⟩
  replace hx := hx.trans hy
  replace Kr := kE Kr hy
  clear hy
  go_upto_region 3 with fail
  have hl := Ext.alloc x3 (.cells #[.bool false, .slice none 0 0] 24)
  have lrn : w.heap.size < x3.heap.size := Kr.out.lt
  have hpn : w.heap.size ≤ x3.heap.size := hx.size
  replace hx := hx.trans hl
  replace Kr := kE Kr hl
  have Kn := Lib.hid (Blk.new0 x3 #[.bool false, .slice none 0 0] 24)
  clear hl
  generalize x3.alloc (.cells #[.bool false, .slice none 0 0] 24) = x4 at *
  generalize x3.heap.size = pn at *
  obtain ⟨cr0, cr1, cr2, cr3⟩ := bk4 Kr
  obtain ⟨cn0, cn1⟩ := bk2 Kn
  have hsz := hx.size
  go_wp2_with fail
  with_reducible refine (ratio_one _).mono ?_
  clear cr0 cr1 cr2 cr3 cn0 cn1
  rintro e x5 ⟨v, rfl, hv, hy⟩
  replace hx := hx.trans hy
  replace Kr := kE Kr hy
  replace Kn := kE Kn hy
  clear hy
  obtain ⟨no, ao, qo, co, rfl, hv', hf'⟩ := hv.two
  have Vo := Lib.hid hv'
  have Fo := Lib.hid (fun A hA => Nat.le_trans hsz (hf' A hA))
  clear hv' hf' hsz
  go_upto_region 4 with fail
  have hl := Ext.alloc x5 (.cells #[.bool no, .slice ao qo co] 24)
  have lro : w.heap.size < x5.heap.size := Kr.out.lt
  have lno : pn < x5.heap.size := Kn.out.lt
  have hpo : w.heap.size ≤ x5.heap.size := hx.size
  replace hx := hx.trans hl
  replace Kr := kE Kr hl
  replace Kn := kE Kn hl
  replace Vo := Lib.hid (Vo.out.ext hl)
  have Ko := Lib.hid (Blk.new0 x5 #[.bool no, .slice ao qo co] 24)
  clear hl
  generalize x5.alloc (.cells #[.bool no, .slice ao qo co] 24) = x6 at *
  generalize x5.heap.size = po at *
  obtain ⟨cr0, cr1, cr2, cr3⟩ := bk4 Kr
  obtain ⟨cn0, cn1⟩ := bk2 Kn
  obtain ⟨co0, co1⟩ := bk2 Ko
  go_upto_region 7 with fail
  have hl := Ext.alloc x6 (.cells #[.bool false, .slice none 0 0, .bool no, .slice ao qo co] 26)
  have lry : w.heap.size < x6.heap.size := Kr.out.lt
  have lny : pn < x6.heap.size := Kn.out.lt
  have loy : po < x6.heap.size := Ko.out.lt
  have hpy : w.heap.size ≤ x6.heap.size := hx.size
  clear cr0 cr1 cr2 cr3 cn0 cn1 co0 co1
  replace hx := hx.trans hl
  replace Kr := kE Kr hl
  replace Kn := kE Kn hl
  replace Ko := kE Ko hl
  replace Vo := Lib.hid (Vo.out.ext hl)
  have Ky := Lib.hid (Blk.new0 x6 #[.bool false, .slice none 0 0, .bool no, .slice ao qo co] 26)
  clear hl
  generalize x6.alloc (.cells #[.bool false, .slice none 0 0, .bool no, .slice ao qo co] 26) = x7 at *
  generalize x6.heap.size = py at *
  obtain ⟨cr0, cr1, cr2, cr3⟩ := bk4 Kr
  obtain ⟨cn0, cn1⟩ := bk2 Kn
  obtain ⟨co0, co1⟩ := bk2 Ko
  obtain ⟨cy0, cy1, cy2, cy3⟩ := bk4 Ky
  go_upto_region 8 with fail
  clear cr0 cr1 cr2 cr3 cn0 cn1 co0 co1 cy0 cy1 cy2 cy3
  clear Kn Ko
  clear Vo
  obtain ⟨cr0, cr1, cr2, cr3⟩ := bk4 Kr
  obtain ⟨cy0, cy1, cy2, cy3⟩ := bk4 Ky
  obtain ⟨g0, z0, g1, z1, g2, z2, g3, z3⟩ := bp4 Kr (.bool false) (.slice none 0 0) (.bool false) (.slice none 0 0)
  go_wp2_with fail
  clear g0 z0 g1 z1 g2 z2 g3 z3
  clear cr0 cr1 cr2 cr3 cy0 cy1 cy2 cy3
  replace hx := bx4 hx (w.heap.size) (.bool false) (.slice none 0 0) (.bool false) (.slice none 0 0) (by omega)
  replace Kr := bs4 Kr (.bool false) (.slice none 0 0) (.bool false) (.slice none 0 0)
  replace Ky := bo4 Ky (w.heap.size) (.bool false) (.slice none 0 0) (.bool false) (.slice none 0 0) (by omega)
  generalize ((((x7).setCell ⟨w.heap.size, 0, none⟩ (.bool false)).setCell ⟨w.heap.size, 1, none⟩ (.slice none 0 0)).setCell ⟨w.heap.size, 2, none⟩ (.bool false)).setCell ⟨w.heap.size, 3, none⟩ (.slice none 0 0) = x8 at *
  obtain ⟨cr0, cr1, cr2, cr3⟩ := bk4 Kr
  refine bodyPost_ret (v := .tuple #[.agg #[.bool false, .slice none 0 0, .bool false, .slice none 0 0], .int .i64 100]) (by simp [results, Tryz.results22, go_sem, cr0, cr1, cr2, cr3]) rfl ?_
  exact ⟨rfl, hx⟩
set_option maxHeartbeats 2000000 in
theorem ratio_Read_a2 (s sn sd : ByteArray) (z d : Int) (w : World) (HC : ∀ W, Calls Tryz.prog 63 #[.string s, .string ⟨#[47]⟩] W fun e w' => e = .returned (.tuple #[.string sn, .string sd, .bool false]) ∧ Ext W w') (HN : ∀ W, Calls Tryz.prog 64 #[.string sn] W (OneP z W)) (lz : Len z) (ld : Len (1 : Int)) (hck : decide (0 < (1 : Int) ∧ Int.gcd z (1 : Int) = 1) = true) : Calls Tryz.prog 22 #[.string s] w (RatP (Rat.divInt z 1) w) := by
  have HC := Lib.hid HC
  have HN := Lib.hid HN
  have HK := Lib.hid (And.intro lz (And.intro ld hck))
  clear lz ld hck
  obtain ⟨x1, hw, hx, Kr⟩ := boxQ1 w #[.bool false, .slice none 0 0, .bool false, .slice none 0 0] 26
  replace hw := Lib.hid hw
  go_enter Tryz.func22, Tryz.ntmps22
  go_upto_region 1 with fail
  try simp only [Nat.add_assoc, Nat.reduceAdd, Nat.add_zero]
  rw [hw.out]
  clear hw
  have hs0 := hx.size
  obtain ⟨cr0, cr1, cr2, cr3⟩ := bk4 Kr
  go_wp2_with fail
  with_reducible refine (HC.out _).mono ?_
  clear cr0 cr1 cr2 cr3
  rintro e x2 ⟨rfl, hy⟩
  replace hx := hx.trans hy
  replace Kr := kE Kr hy
  clear hy
  obtain ⟨cr0, cr1, cr2, cr3⟩ := bk4 Kr
  have hsz := hx.size
  go_wp2_with fail
  with_reducible refine (HN.out _).mono ?_
  clear cr0 cr1 cr2 cr3
  rintro e x3 ⟨v, rfl, hv, hy⟩
  replace hx := hx.trans hy
  replace Kr := kE Kr hy
  clear hy
  obtain ⟨nn, an, qn, cn, rfl, hv', hf'⟩ := hv.two
  have Vn := Lib.hid hv'
  have Fn := Lib.hid (fun A hA => Nat.le_trans hsz (hf' A hA))
  clear hv' hf' hsz
  go_upto_region 3 with fail
  have hl := Ext.alloc x3 (.cells #[.bool nn, .slice an qn cn] 24)
  have lrn : w.heap.size < x3.heap.size := Kr.out.lt
  have hpn : w.heap.size ≤ x3.heap.size := hx.size
  replace hx := hx.trans hl
  replace Kr := kE Kr hl
  replace Vn := Lib.hid (Vn.out.ext hl)
  have Kn := Lib.hid (Blk.new0 x3 #[.bool nn, .slice an qn cn] 24)
  clear hl
  generalize x3.alloc (.cells #[.bool nn, .slice an qn cn] 24) = x4 at *
  generalize x3.heap.size = pn at *
  obtain ⟨cr0, cr1, cr2, cr3⟩ := bk4 Kr
  obtain ⟨cn0, cn1⟩ := bk2 Kn
  have hsz := hx.size
  go_wp2_with fail
  with_reducible refine (ratio_one _).mono ?_
  clear cr0 cr1 cr2 cr3 cn0 cn1
  rintro e x5 ⟨v, rfl, hv, hy⟩
  replace hx := hx.trans hy
  replace Kr := kE Kr hy
  replace Kn := kE Kn hy
  replace Vn := Lib.hid (Vn.out.ext hy)
  clear hy
  obtain ⟨no, ao, qo, co, rfl, hv', hf'⟩ := hv.two
  have Vo := Lib.hid hv'
  have Fo := Lib.hid (fun A hA => Nat.le_trans hsz (hf' A hA))
  clear hv' hf' hsz
  go_upto_region 4 with fail
  have hl := Ext.alloc x5 (.cells #[.bool no, .slice ao qo co] 24)
  have lro : w.heap.size < x5.heap.size := Kr.out.lt
  have lno : pn < x5.heap.size := Kn.out.lt
  have hpo : w.heap.size ≤ x5.heap.size := hx.size
  replace hx := hx.trans hl
  replace Kr := kE Kr hl
  replace Kn := kE Kn hl
  replace Vn := Lib.hid (Vn.out.ext hl)
  replace Vo := Lib.hid (Vo.out.ext hl)
  have Ko := Lib.hid (Blk.new0 x5 #[.bool no, .slice ao qo co] 24)
  clear hl
  generalize x5.alloc (.cells #[.bool no, .slice ao qo co] 24) = x6 at *
  generalize x5.heap.size = po at *
  obtain ⟨cr0, cr1, cr2, cr3⟩ := bk4 Kr
  obtain ⟨cn0, cn1⟩ := bk2 Kn
  obtain ⟨co0, co1⟩ := bk2 Ko
  go_upto_region 7 with fail
  have hl := Ext.alloc x6 (.cells #[.bool nn, .slice an qn cn, .bool no, .slice ao qo co] 26)
  have lry : w.heap.size < x6.heap.size := Kr.out.lt
  have lny : pn < x6.heap.size := Kn.out.lt
  have loy : po < x6.heap.size := Ko.out.lt
  have hpy : w.heap.size ≤ x6.heap.size := hx.size
  clear cr0 cr1 cr2 cr3 cn0 cn1 co0 co1
  replace hx := hx.trans hl
  replace Kr := kE Kr hl
  replace Kn := kE Kn hl
  replace Ko := kE Ko hl
  replace Vn := Lib.hid (Vn.out.ext hl)
  replace Vo := Lib.hid (Vo.out.ext hl)
  have Ky := Lib.hid (Blk.new0 x6 #[.bool nn, .slice an qn cn, .bool no, .slice ao qo co] 26)
  clear hl
  generalize x6.alloc (.cells #[.bool nn, .slice an qn cn, .bool no, .slice ao qo co] 26) = x7 at *
  generalize x6.heap.size = py at *
  obtain ⟨ln, hln, hin, hbn⟩ := Vn.out.parts
  obtain ⟨lo, hlo, hio, hbo⟩ := Vo.out.parts
  have hCK := ratio_Check nn no _ _ _ _ ln lo _ hin hio
  rw [okR_eq hbn hbo HK.out.1 HK.out.2.1, HK.out.2.2, hln, hlo] at hCK
  have HCK := Lib.hid hCK
  clear hCK hln hin hbn hlo hio hbo
  obtain ⟨cr0, cr1, cr2, cr3⟩ := bk4 Kr
  obtain ⟨cn0, cn1⟩ := bk2 Kn
  obtain ⟨co0, co1⟩ := bk2 Ko
  obtain ⟨cy0, cy1, cy2, cy3⟩ := bk4 Ky
  go_wp2_with fail
  with_reducible refine (show Calls Tryz.prog 18 _ _ (fun e w' => e = .returned (.int .i64 0) ∧ Ext x7 w') from HCK.out).mono ?_
  clear cr0 cr1 cr2 cr3 cn0 cn1 co0 co1 cy0 cy1 cy2 cy3
  rintro e x8 ⟨rfl, hy⟩
  replace hx := hx.trans hy
  replace Kr := kE Kr hy
  replace Kn := kE Kn hy
  replace Ko := kE Ko hy
  replace Ky := kE Ky hy
  replace Vn := Lib.hid (Vn.out.ext hy)
  replace Vo := Lib.hid (Vo.out.ext hy)
  clear hy
  obtain ⟨cr0, cr1, cr2, cr3⟩ := bk4 Kr
  obtain ⟨cn0, cn1⟩ := bk2 Kn
  obtain ⟨co0, co1⟩ := bk2 Ko
  obtain ⟨cy0, cy1, cy2, cy3⟩ := bk4 Ky
  go_upto_region 9 with fail
  clear cr0 cr1 cr2 cr3 cn0 cn1 co0 co1 cy0 cy1 cy2 cy3
  clear Kn Ko
  have hlow := divInt_low (z := z) (d := 1) (of_decide_eq_true HK.out.2.2).1 (of_decide_eq_true HK.out.2.2).2
  have HR := Lib.hid (show RatV x8 (.agg #[.bool nn, .slice an qn cn, .bool no, .slice ao qo co]) (Rat.divInt z 1) from RatV.mk (by rw [hlow.1]; exact Vn.out) (by rw [hlow.2]; exact Vo.out))
  clear hlow
  have hnd : no = false := HR.out.den.pos (by omega)
  subst hnd
  clear Vn
  clear Vo
  obtain ⟨cr0, cr1, cr2, cr3⟩ := bk4 Kr
  obtain ⟨cy0, cy1, cy2, cy3⟩ := bk4 Ky
  obtain ⟨g0, z0, g1, z1, g2, z2, g3, z3⟩ := bp4 Kr (.bool nn) (.slice an qn cn) (.bool false) (.slice ao qo co)
  go_wp2_with fail
  clear g0 z0 g1 z1 g2 z2 g3 z3
  clear cr0 cr1 cr2 cr3 cy0 cy1 cy2 cy3
  replace HR := (by first | exact rv4 HR Kr (.bool nn) (.slice an qn cn) (.bool false) (.slice ao qo co) rfl rfl rfl rfl | exact bv4 HR Kr (.bool nn) (.slice an qn cn) (.bool false) (.slice ao qo co) rfl rfl rfl rfl)
  replace hx := bx4 hx (w.heap.size) (.bool nn) (.slice an qn cn) (.bool false) (.slice ao qo co) (by omega)
  replace Kr := bs4 Kr (.bool nn) (.slice an qn cn) (.bool false) (.slice ao qo co)
  replace Ky := bo4 Ky (w.heap.size) (.bool nn) (.slice an qn cn) (.bool false) (.slice ao qo co) (by omega)
  generalize ((((x8).setCell ⟨w.heap.size, 0, none⟩ (.bool nn)).setCell ⟨w.heap.size, 1, none⟩ (.slice an qn cn)).setCell ⟨w.heap.size, 2, none⟩ (.bool false)).setCell ⟨w.heap.size, 3, none⟩ (.slice ao qo co) = x9 at *
  obtain ⟨cr0, cr1, cr2, cr3⟩ := bk4 Kr
  refine bodyPost_ret (v := .tuple #[.agg #[.bool nn, .slice an qn cn, .bool false, .slice ao qo co], .int .i64 0]) (by simp [results, Tryz.results22, go_sem, cr0, cr1, cr2, cr3]) rfl ?_
  exact ⟨_, rfl, ⟨_, _, _, _, _, _, _, rfl, HR.out, Fn.out, Fo.out⟩, hx⟩
set_option maxHeartbeats 2000000 in
theorem ratio_Read_b1 (s sn sd : ByteArray) (z d : Int) (w : World) (HC : ∀ W, Calls Tryz.prog 63 #[.string s, .string ⟨#[47]⟩] W fun e w' => e = .returned (.tuple #[.string sn, .string sd, .bool true]) ∧ Ext W w') (HN : ∀ W, Calls Tryz.prog 64 #[.string sn] W (fun e w' => e = .returned (.tuple #[zeroBig, .int .i64 90]) ∧ Ext W w')) (HD : ∀ W, Calls Tryz.prog 64 #[.string sd] W (OneP d W)) : Calls Tryz.prog 22 #[.string s] w (RatE 100 w) := by
  have HC := Lib.hid HC
  have HN := Lib.hid HN
  have HD := Lib.hid HD
  obtain ⟨x1, hw, hx, Kr⟩ := boxQ1 w #[.bool false, .slice none 0 0, .bool false, .slice none 0 0] 26
  replace hw := Lib.hid hw
  go_enter Tryz.func22, Tryz.ntmps22
  go_upto_region 1 with fail
  try simp only [Nat.add_assoc, Nat.reduceAdd, Nat.add_zero]
  rw [hw.out]
  clear hw
  have hs0 := hx.size
  obtain ⟨cr0, cr1, cr2, cr3⟩ := bk4 Kr
  go_wp2_with fail
  with_reducible refine (HC.out _).mono ?_
  clear cr0 cr1 cr2 cr3
  rintro e x2 ⟨rfl, hy⟩
  replace hx := hx.trans hy
  replace Kr := kE Kr hy
  clear hy
  obtain ⟨cr0, cr1, cr2, cr3⟩ := bk4 Kr
  go_wp2_with fail
  with_reducible refine (HN.out _).mono ?_
  clear cr0 cr1 cr2 cr3
  rintro e x3 ⟨rfl, hy⟩
  replace hx := hx.trans hy
  replace Kr := kE Kr hy
  clear hy
  go_upto_region 3 with fail
  have hl := Ext.alloc x3 (.cells #[.bool false, .slice none 0 0] 24)
  have lrn : w.heap.size < x3.heap.size := Kr.out.lt
  have hpn : w.heap.size ≤ x3.heap.size := hx.size
  replace hx := hx.trans hl
  replace Kr := kE Kr hl
  have Kn := Lib.hid (Blk.new0 x3 #[.bool false, .slice none 0 0] 24)
  clear hl
  generalize x3.alloc (.cells #[.bool false, .slice none 0 0] 24) = x4 at *
  generalize x3.heap.size = pn at *
  obtain ⟨cr0, cr1, cr2, cr3⟩ := bk4 Kr
  obtain ⟨cn0, cn1⟩ := bk2 Kn
  have hsz := hx.size
  go_wp2_with fail
  with_reducible refine (ratio_one _).mono ?_
  clear cr0 cr1 cr2 cr3 cn0 cn1
  rintro e x5 ⟨v, rfl, hv, hy⟩
  replace hx := hx.trans hy
  replace Kr := kE Kr hy
  replace Kn := kE Kn hy
  clear hy
  obtain ⟨no, ao, qo, co, rfl, hv', hf'⟩ := hv.two
  have Vo := Lib.hid hv'
  have Fo := Lib.hid (fun A hA => Nat.le_trans hsz (hf' A hA))
  clear hv' hf' hsz
  go_upto_region 4 with fail
  have hl := Ext.alloc x5 (.cells #[.bool no, .slice ao qo co] 24)
  have lro : w.heap.size < x5.heap.size := Kr.out.lt
  have lno : pn < x5.heap.size := Kn.out.lt
  have hpo : w.heap.size ≤ x5.heap.size := hx.size
  replace hx := hx.trans hl
  replace Kr := kE Kr hl
  replace Kn := kE Kn hl
  replace Vo := Lib.hid (Vo.out.ext hl)
  have Ko := Lib.hid (Blk.new0 x5 #[.bool no, .slice ao qo co] 24)
  clear hl
  generalize x5.alloc (.cells #[.bool no, .slice ao qo co] 24) = x6 at *
  generalize x5.heap.size = po at *
  obtain ⟨cr0, cr1, cr2, cr3⟩ := bk4 Kr
  obtain ⟨cn0, cn1⟩ := bk2 Kn
  obtain ⟨co0, co1⟩ := bk2 Ko
  have hsz := hx.size
  go_wp2_with fail
  with_reducible refine (HD.out _).mono ?_
  clear cr0 cr1 cr2 cr3 cn0 cn1 co0 co1
  rintro e x7 ⟨v, rfl, hv, hy⟩
  replace hx := hx.trans hy
  replace Kr := kE Kr hy
  replace Kn := kE Kn hy
  replace Ko := kE Ko hy
  replace Vo := Lib.hid (Vo.out.ext hy)
  clear hy
  obtain ⟨nv, av, qv, cv, rfl, hv', hf'⟩ := hv.two
  have Vv := Lib.hid hv'
  have Fv := Lib.hid (fun A hA => Nat.le_trans hsz (hf' A hA))
  clear hv' hf' hsz
  obtain ⟨cr0, cr1, cr2, cr3⟩ := bk4 Kr
  obtain ⟨cn0, cn1⟩ := bk2 Kn
  obtain ⟨co0, co1⟩ := bk2 Ko
  obtain ⟨g0, z0, g1, z1⟩ := bp2 Ko (.bool nv) (.slice av qv cv)
  go_upto_region 6 with fail
  clear g0 z0 g1 z1
  clear cr0 cr1 cr2 cr3 cn0 cn1 co0 co1
  replace Vo := (by first | exact rv2 Vo Ko (.bool nv) (.slice av qv cv) rfl rfl | exact bv2 Vo Ko (.bool nv) (.slice av qv cv) rfl rfl)
  replace Vv := (by first | exact rv2 Vv Ko (.bool nv) (.slice av qv cv) rfl rfl | exact bv2 Vv Ko (.bool nv) (.slice av qv cv) rfl rfl)
  replace hx := bx2 hx (po) (.bool nv) (.slice av qv cv) (by omega)
  replace Kr := bo2 Kr (po) (.bool nv) (.slice av qv cv) (by omega)
  replace Kn := bo2 Kn (po) (.bool nv) (.slice av qv cv) (by omega)
  replace Ko := bs2 Ko (.bool nv) (.slice av qv cv)
  generalize ((x7).setCell ⟨po, 0, none⟩ (.bool nv)).setCell ⟨po, 1, none⟩ (.slice av qv cv) = x8 at *
  obtain ⟨cr0, cr1, cr2, cr3⟩ := bk4 Kr
  obtain ⟨cn0, cn1⟩ := bk2 Kn
  obtain ⟨co0, co1⟩ := bk2 Ko
  go_upto_region 7 with fail
  have hl := Ext.alloc x8 (.cells #[.bool false, .slice none 0 0, .bool nv, .slice av qv cv] 26)
  have lry : w.heap.size < x8.heap.size := Kr.out.lt
  have lny : pn < x8.heap.size := Kn.out.lt
  have loy : po < x8.heap.size := Ko.out.lt
  have hpy : w.heap.size ≤ x8.heap.size := hx.size
  clear cr0 cr1 cr2 cr3 cn0 cn1 co0 co1
  replace hx := hx.trans hl
  replace Kr := kE Kr hl
  replace Kn := kE Kn hl
  replace Ko := kE Ko hl
  replace Vo := Lib.hid (Vo.out.ext hl)
  replace Vv := Lib.hid (Vv.out.ext hl)
  have Ky := Lib.hid (Blk.new0 x8 #[.bool false, .slice none 0 0, .bool nv, .slice av qv cv] 26)
  clear hl
  generalize x8.alloc (.cells #[.bool false, .slice none 0 0, .bool nv, .slice av qv cv] 26) = x9 at *
  generalize x8.heap.size = py at *
  obtain ⟨cr0, cr1, cr2, cr3⟩ := bk4 Kr
  obtain ⟨cn0, cn1⟩ := bk2 Kn
  obtain ⟨co0, co1⟩ := bk2 Ko
  obtain ⟨cy0, cy1, cy2, cy3⟩ := bk4 Ky
  go_upto_region 8 with fail
  clear cr0 cr1 cr2 cr3 cn0 cn1 co0 co1 cy0 cy1 cy2 cy3
  clear Kn Ko
  clear Vo
  clear Vv
  obtain ⟨cr0, cr1, cr2, cr3⟩ := bk4 Kr
  obtain ⟨cy0, cy1, cy2, cy3⟩ := bk4 Ky
  obtain ⟨g0, z0, g1, z1, g2, z2, g3, z3⟩ := bp4 Kr (.bool false) (.slice none 0 0) (.bool false) (.slice none 0 0)
  go_wp2_with fail
  clear g0 z0 g1 z1 g2 z2 g3 z3
  clear cr0 cr1 cr2 cr3 cy0 cy1 cy2 cy3
  replace hx := bx4 hx (w.heap.size) (.bool false) (.slice none 0 0) (.bool false) (.slice none 0 0) (by omega)
  replace Kr := bs4 Kr (.bool false) (.slice none 0 0) (.bool false) (.slice none 0 0)
  replace Ky := bo4 Ky (w.heap.size) (.bool false) (.slice none 0 0) (.bool false) (.slice none 0 0) (by omega)
  generalize ((((x9).setCell ⟨w.heap.size, 0, none⟩ (.bool false)).setCell ⟨w.heap.size, 1, none⟩ (.slice none 0 0)).setCell ⟨w.heap.size, 2, none⟩ (.bool false)).setCell ⟨w.heap.size, 3, none⟩ (.slice none 0 0) = x10 at *
  obtain ⟨cr0, cr1, cr2, cr3⟩ := bk4 Kr
  refine bodyPost_ret (v := .tuple #[.agg #[.bool false, .slice none 0 0, .bool false, .slice none 0 0], .int .i64 100]) (by simp [results, Tryz.results22, go_sem, cr0, cr1, cr2, cr3]) rfl ?_
  exact ⟨rfl, hx⟩
set_option maxHeartbeats 2000000 in
theorem ratio_Read_b2 (s sn sd : ByteArray) (z d : Int) (w : World) (HC : ∀ W, Calls Tryz.prog 63 #[.string s, .string ⟨#[47]⟩] W fun e w' => e = .returned (.tuple #[.string sn, .string sd, .bool true]) ∧ Ext W w') (HN : ∀ W, Calls Tryz.prog 64 #[.string sn] W (fun e w' => e = .returned (.tuple #[zeroBig, .int .i64 90]) ∧ Ext W w')) (HD : ∀ W, Calls Tryz.prog 64 #[.string sd] W (fun e w' => e = .returned (.tuple #[zeroBig, .int .i64 90]) ∧ Ext W w')) : Calls Tryz.prog 22 #[.string s] w (RatE 100 w) := by
  have HC := Lib.hid HC
  have HN := Lib.hid HN
  have HD := Lib.hid HD
  obtain ⟨x1, hw, hx, Kr⟩ := boxQ1 w #[.bool false, .slice none 0 0, .bool false, .slice none 0 0] 26
  replace hw := Lib.hid hw
  go_enter Tryz.func22, Tryz.ntmps22
  go_upto_region 1 with fail
  try simp only [Nat.add_assoc, Nat.reduceAdd, Nat.add_zero]
  rw [hw.out]
  clear hw
  have hs0 := hx.size
  obtain ⟨cr0, cr1, cr2, cr3⟩ := bk4 Kr
  go_wp2_with fail
  with_reducible refine (HC.out _).mono ?_
  clear cr0 cr1 cr2 cr3
  rintro e x2 ⟨rfl, hy⟩
  replace hx := hx.trans hy
  replace Kr := kE Kr hy
  clear hy
  obtain ⟨cr0, cr1, cr2, cr3⟩ := bk4 Kr
  go_wp2_with fail
  with_reducible refine (HN.out _).mono ?_
  clear cr0 cr1 cr2 cr3
  rintro e x3 ⟨rfl, hy⟩
  replace hx := hx.trans hy
  replace Kr := kE Kr hy
  clear hy
  go_upto_region 3 with fail
  have hl := Ext.alloc x3 (.cells #[.bool false, .slice none 0 0] 24)
  have lrn : w.heap.size < x3.heap.size := Kr.out.lt
  have hpn : w.heap.size ≤ x3.heap.size := hx.size
  replace hx := hx.trans hl
  replace Kr := kE Kr hl
  have Kn := Lib.hid (Blk.new0 x3 #[.bool false, .slice none 0 0] 24)
  clear hl
  generalize x3.alloc (.cells #[.bool false, .slice none 0 0] 24) = x4 at *
  generalize x3.heap.size = pn at *
  obtain ⟨cr0, cr1, cr2, cr3⟩ := bk4 Kr
  obtain ⟨cn0, cn1⟩ := bk2 Kn
  have hsz := hx.size
  go_wp2_with fail
  with_reducible refine (ratio_one _).mono ?_
  clear cr0 cr1 cr2 cr3 cn0 cn1
  rintro e x5 ⟨v, rfl, hv, hy⟩
  replace hx := hx.trans hy
  replace Kr := kE Kr hy
  replace Kn := kE Kn hy
  clear hy
  obtain ⟨no, ao, qo, co, rfl, hv', hf'⟩ := hv.two
  have Vo := Lib.hid hv'
  have Fo := Lib.hid (fun A hA => Nat.le_trans hsz (hf' A hA))
  clear hv' hf' hsz
  go_upto_region 4 with fail
  have hl := Ext.alloc x5 (.cells #[.bool no, .slice ao qo co] 24)
  have lro : w.heap.size < x5.heap.size := Kr.out.lt
  have lno : pn < x5.heap.size := Kn.out.lt
  have hpo : w.heap.size ≤ x5.heap.size := hx.size
  replace hx := hx.trans hl
  replace Kr := kE Kr hl
  replace Kn := kE Kn hl
  replace Vo := Lib.hid (Vo.out.ext hl)
  have Ko := Lib.hid (Blk.new0 x5 #[.bool no, .slice ao qo co] 24)
  clear hl
  generalize x5.alloc (.cells #[.bool no, .slice ao qo co] 24) = x6 at *
  generalize x5.heap.size = po at *
  obtain ⟨cr0, cr1, cr2, cr3⟩ := bk4 Kr
  obtain ⟨cn0, cn1⟩ := bk2 Kn
  obtain ⟨co0, co1⟩ := bk2 Ko
  go_wp2_with fail
  with_reducible refine (HD.out _).mono ?_
  clear cr0 cr1 cr2 cr3 cn0 cn1 co0 co1
  rintro e x7 ⟨rfl, hy⟩
  replace hx := hx.trans hy
  replace Kr := kE Kr hy
  replace Kn := kE Kn hy
  replace Ko := kE Ko hy
  replace Vo := Lib.hid (Vo.out.ext hy)
  clear hy
  obtain ⟨cr0, cr1, cr2, cr3⟩ := bk4 Kr
  obtain ⟨cn0, cn1⟩ := bk2 Kn
  obtain ⟨co0, co1⟩ := bk2 Ko
  obtain ⟨g0, z0, g1, z1⟩ := bp2 Ko (.bool false) (.slice none 0 0)
  go_upto_region 6 with fail
  clear g0 z0 g1 z1
  clear cr0 cr1 cr2 cr3 cn0 cn1 co0 co1
  replace Vo := (by first | exact rv2 Vo Ko (.bool false) (.slice none 0 0) rfl rfl | exact bv2 Vo Ko (.bool false) (.slice none 0 0) rfl rfl)
  replace hx := bx2 hx (po) (.bool false) (.slice none 0 0) (by omega)
  replace Kr := bo2 Kr (po) (.bool false) (.slice none 0 0) (by omega)
  replace Kn := bo2 Kn (po) (.bool false) (.slice none 0 0) (by omega)
  replace Ko := bs2 Ko (.bool false) (.slice none 0 0)
  generalize ((x7).setCell ⟨po, 0, none⟩ (.bool false)).setCell ⟨po, 1, none⟩ (.slice none 0 0) = x8 at *
  obtain ⟨cr0, cr1, cr2, cr3⟩ := bk4 Kr
  obtain ⟨cn0, cn1⟩ := bk2 Kn
  obtain ⟨co0, co1⟩ := bk2 Ko
  go_upto_region 7 with fail
  have hl := Ext.alloc x8 (.cells #[.bool false, .slice none 0 0, .bool false, .slice none 0 0] 26)
  have lry : w.heap.size < x8.heap.size := Kr.out.lt
  have lny : pn < x8.heap.size := Kn.out.lt
  have loy : po < x8.heap.size := Ko.out.lt
  have hpy : w.heap.size ≤ x8.heap.size := hx.size
  clear cr0 cr1 cr2 cr3 cn0 cn1 co0 co1
  replace hx := hx.trans hl
  replace Kr := kE Kr hl
  replace Kn := kE Kn hl
  replace Ko := kE Ko hl
  replace Vo := Lib.hid (Vo.out.ext hl)
  have Ky := Lib.hid (Blk.new0 x8 #[.bool false, .slice none 0 0, .bool false, .slice none 0 0] 26)
  clear hl
  generalize x8.alloc (.cells #[.bool false, .slice none 0 0, .bool false, .slice none 0 0] 26) = x9 at *
  generalize x8.heap.size = py at *
  obtain ⟨cr0, cr1, cr2, cr3⟩ := bk4 Kr
  obtain ⟨cn0, cn1⟩ := bk2 Kn
  obtain ⟨co0, co1⟩ := bk2 Ko
  obtain ⟨cy0, cy1, cy2, cy3⟩ := bk4 Ky
  go_upto_region 8 with fail
  clear cr0 cr1 cr2 cr3 cn0 cn1 co0 co1 cy0 cy1 cy2 cy3
  clear Kn Ko
  clear Vo
  obtain ⟨cr0, cr1, cr2, cr3⟩ := bk4 Kr
  obtain ⟨cy0, cy1, cy2, cy3⟩ := bk4 Ky
  obtain ⟨g0, z0, g1, z1, g2, z2, g3, z3⟩ := bp4 Kr (.bool false) (.slice none 0 0) (.bool false) (.slice none 0 0)
  go_wp2_with fail
  clear g0 z0 g1 z1 g2 z2 g3 z3
  clear cr0 cr1 cr2 cr3 cy0 cy1 cy2 cy3
  replace hx := bx4 hx (w.heap.size) (.bool false) (.slice none 0 0) (.bool false) (.slice none 0 0) (by omega)
  replace Kr := bs4 Kr (.bool false) (.slice none 0 0) (.bool false) (.slice none 0 0)
  replace Ky := bo4 Ky (w.heap.size) (.bool false) (.slice none 0 0) (.bool false) (.slice none 0 0) (by omega)
  generalize ((((x9).setCell ⟨w.heap.size, 0, none⟩ (.bool false)).setCell ⟨w.heap.size, 1, none⟩ (.slice none 0 0)).setCell ⟨w.heap.size, 2, none⟩ (.bool false)).setCell ⟨w.heap.size, 3, none⟩ (.slice none 0 0) = x10 at *
  obtain ⟨cr0, cr1, cr2, cr3⟩ := bk4 Kr
  refine bodyPost_ret (v := .tuple #[.agg #[.bool false, .slice none 0 0, .bool false, .slice none 0 0], .int .i64 100]) (by simp [results, Tryz.results22, go_sem, cr0, cr1, cr2, cr3]) rfl ?_
  exact ⟨rfl, hx⟩
set_option maxHeartbeats 2000000 in
theorem ratio_Read_b3 (s sn sd : ByteArray) (z d : Int) (w : World) (HC : ∀ W, Calls Tryz.prog 63 #[.string s, .string ⟨#[47]⟩] W fun e w' => e = .returned (.tuple #[.string sn, .string sd, .bool true]) ∧ Ext W w') (HN : ∀ W, Calls Tryz.prog 64 #[.string sn] W (OneP z W)) (HD : ∀ W, Calls Tryz.prog 64 #[.string sd] W (fun e w' => e = .returned (.tuple #[zeroBig, .int .i64 90]) ∧ Ext W w')) : Calls Tryz.prog 22 #[.string s] w (RatE 100 w) := by
  have HC := Lib.hid HC
  have HN := Lib.hid HN
  have HD := Lib.hid HD
  obtain ⟨x1, hw, hx, Kr⟩ := boxQ1 w #[.bool false, .slice none 0 0, .bool false, .slice none 0 0] 26
  replace hw := Lib.hid hw
  go_enter Tryz.func22, Tryz.ntmps22
  go_upto_region 1 with fail
  try simp only [Nat.add_assoc, Nat.reduceAdd, Nat.add_zero]
  rw [hw.out]
  clear hw
  have hs0 := hx.size
  obtain ⟨cr0, cr1, cr2, cr3⟩ := bk4 Kr
  go_wp2_with fail
  with_reducible refine (HC.out _).mono ?_
  clear cr0 cr1 cr2 cr3
  rintro e x2 ⟨rfl, hy⟩
  replace hx := hx.trans hy
  replace Kr := kE Kr hy
  clear hy
  obtain ⟨cr0, cr1, cr2, cr3⟩ := bk4 Kr
  have hsz := hx.size
  go_wp2_with fail
  with_reducible refine (HN.out _).mono ?_
  clear cr0 cr1 cr2 cr3
  rintro e x3 ⟨v, rfl, hv, hy⟩
  replace hx := hx.trans hy
  replace Kr := kE Kr hy
  clear hy
  obtain ⟨nn, an, qn, cn, rfl, hv', hf'⟩ := hv.two
  have Vn := Lib.hid hv'
  have Fn := Lib.hid (fun A hA => Nat.le_trans hsz (hf' A hA))
  clear hv' hf' hsz
  go_upto_region 3 with fail
  have hl := Ext.alloc x3 (.cells #[.bool nn, .slice an qn cn] 24)
  have lrn : w.heap.size < x3.heap.size := Kr.out.lt
  have hpn : w.heap.size ≤ x3.heap.size := hx.size
  replace hx := hx.trans hl
  replace Kr := kE Kr hl
  replace Vn := Lib.hid (Vn.out.ext hl)
  have Kn := Lib.hid (Blk.new0 x3 #[.bool nn, .slice an qn cn] 24)
  clear hl
  generalize x3.alloc (.cells #[.bool nn, .slice an qn cn] 24) = x4 at *
  generalize x3.heap.size = pn at *
  obtain ⟨cr0, cr1, cr2, cr3⟩ := bk4 Kr
  obtain ⟨cn0, cn1⟩ := bk2 Kn
  have hsz := hx.size
  go_wp2_with fail
  with_reducible refine (ratio_one _).mono ?_
  clear cr0 cr1 cr2 cr3 cn0 cn1
  rintro e x5 ⟨v, rfl, hv, hy⟩
  replace hx := hx.trans hy
  replace Kr := kE Kr hy
  replace Kn := kE Kn hy
  replace Vn := Lib.hid (Vn.out.ext hy)
  clear hy
  obtain ⟨no, ao, qo, co, rfl, hv', hf'⟩ := hv.two
  have Vo := Lib.hid hv'
  have Fo := Lib.hid (fun A hA => Nat.le_trans hsz (hf' A hA))
  clear hv' hf' hsz
  go_upto_region 4 with fail
  have hl := Ext.alloc x5 (.cells #[.bool no, .slice ao qo co] 24)
  have lro : w.heap.size < x5.heap.size := Kr.out.lt
  have lno : pn < x5.heap.size := Kn.out.lt
  have hpo : w.heap.size ≤ x5.heap.size := hx.size
  replace hx := hx.trans hl
  replace Kr := kE Kr hl
  replace Kn := kE Kn hl
  replace Vn := Lib.hid (Vn.out.ext hl)
  replace Vo := Lib.hid (Vo.out.ext hl)
  have Ko := Lib.hid (Blk.new0 x5 #[.bool no, .slice ao qo co] 24)
  clear hl
  generalize x5.alloc (.cells #[.bool no, .slice ao qo co] 24) = x6 at *
  generalize x5.heap.size = po at *
  obtain ⟨cr0, cr1, cr2, cr3⟩ := bk4 Kr
  obtain ⟨cn0, cn1⟩ := bk2 Kn
  obtain ⟨co0, co1⟩ := bk2 Ko
  go_wp2_with fail
  with_reducible refine (HD.out _).mono ?_
  clear cr0 cr1 cr2 cr3 cn0 cn1 co0 co1
  rintro e x7 ⟨rfl, hy⟩
  replace hx := hx.trans hy
  replace Kr := kE Kr hy
  replace Kn := kE Kn hy
  replace Ko := kE Ko hy
  replace Vn := Lib.hid (Vn.out.ext hy)
  replace Vo := Lib.hid (Vo.out.ext hy)
  clear hy
  obtain ⟨cr0, cr1, cr2, cr3⟩ := bk4 Kr
  obtain ⟨cn0, cn1⟩ := bk2 Kn
  obtain ⟨co0, co1⟩ := bk2 Ko
  obtain ⟨g0, z0, g1, z1⟩ := bp2 Ko (.bool false) (.slice none 0 0)
  go_upto_region 6 with fail
  clear g0 z0 g1 z1
  clear cr0 cr1 cr2 cr3 cn0 cn1 co0 co1
  replace Vn := (by first | exact rv2 Vn Ko (.bool false) (.slice none 0 0) rfl rfl | exact bv2 Vn Ko (.bool false) (.slice none 0 0) rfl rfl)
  replace Vo := (by first | exact rv2 Vo Ko (.bool false) (.slice none 0 0) rfl rfl | exact bv2 Vo Ko (.bool false) (.slice none 0 0) rfl rfl)
  replace hx := bx2 hx (po) (.bool false) (.slice none 0 0) (by omega)
  replace Kr := bo2 Kr (po) (.bool false) (.slice none 0 0) (by omega)
  replace Kn := bo2 Kn (po) (.bool false) (.slice none 0 0) (by omega)
  replace Ko := bs2 Ko (.bool false) (.slice none 0 0)
  generalize ((x7).setCell ⟨po, 0, none⟩ (.bool false)).setCell ⟨po, 1, none⟩ (.slice none 0 0) = x8 at *
  obtain ⟨cr0, cr1, cr2, cr3⟩ := bk4 Kr
  obtain ⟨cn0, cn1⟩ := bk2 Kn
  obtain ⟨co0, co1⟩ := bk2 Ko
  go_upto_region 7 with fail
  have hl := Ext.alloc x8 (.cells #[.bool nn, .slice an qn cn, .bool false, .slice none 0 0] 26)
  have lry : w.heap.size < x8.heap.size := Kr.out.lt
  have lny : pn < x8.heap.size := Kn.out.lt
  have loy : po < x8.heap.size := Ko.out.lt
  have hpy : w.heap.size ≤ x8.heap.size := hx.size
  clear cr0 cr1 cr2 cr3 cn0 cn1 co0 co1
  replace hx := hx.trans hl
  replace Kr := kE Kr hl
  replace Kn := kE Kn hl
  replace Ko := kE Ko hl
  replace Vn := Lib.hid (Vn.out.ext hl)
  replace Vo := Lib.hid (Vo.out.ext hl)
  have Ky := Lib.hid (Blk.new0 x8 #[.bool nn, .slice an qn cn, .bool false, .slice none 0 0] 26)
  clear hl
  generalize x8.alloc (.cells #[.bool nn, .slice an qn cn, .bool false, .slice none 0 0] 26) = x9 at *
  generalize x8.heap.size = py at *
  obtain ⟨cr0, cr1, cr2, cr3⟩ := bk4 Kr
  obtain ⟨cn0, cn1⟩ := bk2 Kn
  obtain ⟨co0, co1⟩ := bk2 Ko
  obtain ⟨cy0, cy1, cy2, cy3⟩ := bk4 Ky
  go_upto_region 8 with fail
  clear cr0 cr1 cr2 cr3 cn0 cn1 co0 co1 cy0 cy1 cy2 cy3
  clear Kn Ko
  clear Vn
  clear Vo
  obtain ⟨cr0, cr1, cr2, cr3⟩ := bk4 Kr
  obtain ⟨cy0, cy1, cy2, cy3⟩ := bk4 Ky
  obtain ⟨g0, z0, g1, z1, g2, z2, g3, z3⟩ := bp4 Kr (.bool false) (.slice none 0 0) (.bool false) (.slice none 0 0)
  go_wp2_with fail
  clear g0 z0 g1 z1 g2 z2 g3 z3
  clear cr0 cr1 cr2 cr3 cy0 cy1 cy2 cy3
  replace hx := bx4 hx (w.heap.size) (.bool false) (.slice none 0 0) (.bool false) (.slice none 0 0) (by omega)
  replace Kr := bs4 Kr (.bool false) (.slice none 0 0) (.bool false) (.slice none 0 0)
  replace Ky := bo4 Ky (w.heap.size) (.bool false) (.slice none 0 0) (.bool false) (.slice none 0 0) (by omega)
  generalize ((((x9).setCell ⟨w.heap.size, 0, none⟩ (.bool false)).setCell ⟨w.heap.size, 1, none⟩ (.slice none 0 0)).setCell ⟨w.heap.size, 2, none⟩ (.bool false)).setCell ⟨w.heap.size, 3, none⟩ (.slice none 0 0) = x10 at *
  obtain ⟨cr0, cr1, cr2, cr3⟩ := bk4 Kr
  refine bodyPost_ret (v := .tuple #[.agg #[.bool false, .slice none 0 0, .bool false, .slice none 0 0], .int .i64 100]) (by simp [results, Tryz.results22, go_sem, cr0, cr1, cr2, cr3]) rfl ?_
  exact ⟨rfl, hx⟩
set_option maxHeartbeats 2000000 in
theorem ratio_Read_b4 (s sn sd : ByteArray) (z d : Int) (w : World) (HC : ∀ W, Calls Tryz.prog 63 #[.string s, .string ⟨#[47]⟩] W fun e w' => e = .returned (.tuple #[.string sn, .string sd, .bool true]) ∧ Ext W w') (HN : ∀ W, Calls Tryz.prog 64 #[.string sn] W (OneP z W)) (HD : ∀ W, Calls Tryz.prog 64 #[.string sd] W (OneP d W)) (lz : Len z) (ld : Len d) (hck : decide (0 < d ∧ Int.gcd z d = 1) = false) : Calls Tryz.prog 22 #[.string s] w (RatE 100 w) := by
  have HC := Lib.hid HC
  have HN := Lib.hid HN
  have HD := Lib.hid HD
  have HK := Lib.hid (And.intro lz (And.intro ld hck))
  clear lz ld hck
  obtain ⟨x1, hw, hx, Kr⟩ := boxQ1 w #[.bool false, .slice none 0 0, .bool false, .slice none 0 0] 26
  replace hw := Lib.hid hw
  go_enter Tryz.func22, Tryz.ntmps22
  go_upto_region 1 with fail
  try simp only [Nat.add_assoc, Nat.reduceAdd, Nat.add_zero]
  rw [hw.out]
  clear hw
  have hs0 := hx.size
  obtain ⟨cr0, cr1, cr2, cr3⟩ := bk4 Kr
  go_wp2_with fail
  with_reducible refine (HC.out _).mono ?_
  clear cr0 cr1 cr2 cr3
  rintro e x2 ⟨rfl, hy⟩
  replace hx := hx.trans hy
  replace Kr := kE Kr hy
  clear hy
  obtain ⟨cr0, cr1, cr2, cr3⟩ := bk4 Kr
  have hsz := hx.size
  go_wp2_with fail
  with_reducible refine (HN.out _).mono ?_
  clear cr0 cr1 cr2 cr3
  rintro e x3 ⟨v, rfl, hv, hy⟩
  replace hx := hx.trans hy
  replace Kr := kE Kr hy
  clear hy
  obtain ⟨nn, an, qn, cn, rfl, hv', hf'⟩ := hv.two
  have Vn := Lib.hid hv'
  have Fn := Lib.hid (fun A hA => Nat.le_trans hsz (hf' A hA))
  clear hv' hf' hsz
  go_upto_region 3 with fail
  have hl := Ext.alloc x3 (.cells #[.bool nn, .slice an qn cn] 24)
  have lrn : w.heap.size < x3.heap.size := Kr.out.lt
  have hpn : w.heap.size ≤ x3.heap.size := hx.size
  replace hx := hx.trans hl
  replace Kr := kE Kr hl
  replace Vn := Lib.hid (Vn.out.ext hl)
  have Kn := Lib.hid (Blk.new0 x3 #[.bool nn, .slice an qn cn] 24)
  clear hl
  generalize x3.alloc (.cells #[.bool nn, .slice an qn cn] 24) = x4 at *
  generalize x3.heap.size = pn at *
  obtain ⟨cr0, cr1, cr2, cr3⟩ := bk4 Kr
  obtain ⟨cn0, cn1⟩ := bk2 Kn
  have hsz := hx.size
  go_wp2_with fail
  with_reducible refine (ratio_one _).mono ?_
  clear cr0 cr1 cr2 cr3 cn0 cn1
  rintro e x5 ⟨v, rfl, hv, hy⟩
  replace hx := hx.trans hy
  replace Kr := kE Kr hy
  replace Kn := kE Kn hy
  replace Vn := Lib.hid (Vn.out.ext hy)
  clear hy
  obtain ⟨no, ao, qo, co, rfl, hv', hf'⟩ := hv.two
  have Vo := Lib.hid hv'
  have Fo := Lib.hid (fun A hA => Nat.le_trans hsz (hf' A hA))
  clear hv' hf' hsz
  go_upto_region 4 with fail
  have hl := Ext.alloc x5 (.cells #[.bool no, .slice ao qo co] 24)
  have lro : w.heap.size < x5.heap.size := Kr.out.lt
  have lno : pn < x5.heap.size := Kn.out.lt
  have hpo : w.heap.size ≤ x5.heap.size := hx.size
  replace hx := hx.trans hl
  replace Kr := kE Kr hl
  replace Kn := kE Kn hl
  replace Vn := Lib.hid (Vn.out.ext hl)
  replace Vo := Lib.hid (Vo.out.ext hl)
  have Ko := Lib.hid (Blk.new0 x5 #[.bool no, .slice ao qo co] 24)
  clear hl
  generalize x5.alloc (.cells #[.bool no, .slice ao qo co] 24) = x6 at *
  generalize x5.heap.size = po at *
  obtain ⟨cr0, cr1, cr2, cr3⟩ := bk4 Kr
  obtain ⟨cn0, cn1⟩ := bk2 Kn
  obtain ⟨co0, co1⟩ := bk2 Ko
  have hsz := hx.size
  go_wp2_with fail
  with_reducible refine (HD.out _).mono ?_
  clear cr0 cr1 cr2 cr3 cn0 cn1 co0 co1
  rintro e x7 ⟨v, rfl, hv, hy⟩
  replace hx := hx.trans hy
  replace Kr := kE Kr hy
  replace Kn := kE Kn hy
  replace Ko := kE Ko hy
  replace Vn := Lib.hid (Vn.out.ext hy)
  replace Vo := Lib.hid (Vo.out.ext hy)
  clear hy
  obtain ⟨nv, av, qv, cv, rfl, hv', hf'⟩ := hv.two
  have Vv := Lib.hid hv'
  have Fv := Lib.hid (fun A hA => Nat.le_trans hsz (hf' A hA))
  clear hv' hf' hsz
  obtain ⟨cr0, cr1, cr2, cr3⟩ := bk4 Kr
  obtain ⟨cn0, cn1⟩ := bk2 Kn
  obtain ⟨co0, co1⟩ := bk2 Ko
  obtain ⟨g0, z0, g1, z1⟩ := bp2 Ko (.bool nv) (.slice av qv cv)
  go_upto_region 6 with fail
  clear g0 z0 g1 z1
  clear cr0 cr1 cr2 cr3 cn0 cn1 co0 co1
  replace Vn := (by first | exact rv2 Vn Ko (.bool nv) (.slice av qv cv) rfl rfl | exact bv2 Vn Ko (.bool nv) (.slice av qv cv) rfl rfl)
  replace Vo := (by first | exact rv2 Vo Ko (.bool nv) (.slice av qv cv) rfl rfl | exact bv2 Vo Ko (.bool nv) (.slice av qv cv) rfl rfl)
  replace Vv := (by first | exact rv2 Vv Ko (.bool nv) (.slice av qv cv) rfl rfl | exact bv2 Vv Ko (.bool nv) (.slice av qv cv) rfl rfl)
  replace hx := bx2 hx (po) (.bool nv) (.slice av qv cv) (by omega)
  replace Kr := bo2 Kr (po) (.bool nv) (.slice av qv cv) (by omega)
  replace Kn := bo2 Kn (po) (.bool nv) (.slice av qv cv) (by omega)
  replace Ko := bs2 Ko (.bool nv) (.slice av qv cv)
  generalize ((x7).setCell ⟨po, 0, none⟩ (.bool nv)).setCell ⟨po, 1, none⟩ (.slice av qv cv) = x8 at *
  obtain ⟨cr0, cr1, cr2, cr3⟩ := bk4 Kr
  obtain ⟨cn0, cn1⟩ := bk2 Kn
  obtain ⟨co0, co1⟩ := bk2 Ko
  go_upto_region 7 with fail
  have hl := Ext.alloc x8 (.cells #[.bool nn, .slice an qn cn, .bool nv, .slice av qv cv] 26)
  have lry : w.heap.size < x8.heap.size := Kr.out.lt
  have lny : pn < x8.heap.size := Kn.out.lt
  have loy : po < x8.heap.size := Ko.out.lt
  have hpy : w.heap.size ≤ x8.heap.size := hx.size
  clear cr0 cr1 cr2 cr3 cn0 cn1 co0 co1
  replace hx := hx.trans hl
  replace Kr := kE Kr hl
  replace Kn := kE Kn hl
  replace Ko := kE Ko hl
  replace Vn := Lib.hid (Vn.out.ext hl)
  replace Vo := Lib.hid (Vo.out.ext hl)
  replace Vv := Lib.hid (Vv.out.ext hl)
  have Ky := Lib.hid (Blk.new0 x8 #[.bool nn, .slice an qn cn, .bool nv, .slice av qv cv] 26)
  clear hl
  generalize x8.alloc (.cells #[.bool nn, .slice an qn cn, .bool nv, .slice av qv cv] 26) = x9 at *
  generalize x8.heap.size = py at *
  obtain ⟨ln, hln, hin, hbn⟩ := Vn.out.parts
  obtain ⟨lo, hlo, hio, hbo⟩ := Vv.out.parts
  have hCK := ratio_Check nn nv _ _ _ _ ln lo _ hin hio
  rw [okR_eq hbn hbo HK.out.1 HK.out.2.1, HK.out.2.2, hln, hlo] at hCK
  have HCK := Lib.hid hCK
  clear hCK hln hin hbn hlo hio hbo
  obtain ⟨cr0, cr1, cr2, cr3⟩ := bk4 Kr
  obtain ⟨cn0, cn1⟩ := bk2 Kn
  obtain ⟨co0, co1⟩ := bk2 Ko
  obtain ⟨cy0, cy1, cy2, cy3⟩ := bk4 Ky
  go_wp2_with fail
  with_reducible refine (show Calls Tryz.prog 18 _ _ (fun e w' => e = .returned (.int .i64 100) ∧ Ext x9 w') from HCK.out).mono ?_
  clear cr0 cr1 cr2 cr3 cn0 cn1 co0 co1 cy0 cy1 cy2 cy3
  rintro e x10 ⟨rfl, hy⟩
  replace hx := hx.trans hy
  replace Kr := kE Kr hy
  replace Kn := kE Kn hy
  replace Ko := kE Ko hy
  replace Ky := kE Ky hy
  replace Vn := Lib.hid (Vn.out.ext hy)
  replace Vo := Lib.hid (Vo.out.ext hy)
  replace Vv := Lib.hid (Vv.out.ext hy)
  clear hy
  obtain ⟨cr0, cr1, cr2, cr3⟩ := bk4 Kr
  obtain ⟨cn0, cn1⟩ := bk2 Kn
  obtain ⟨co0, co1⟩ := bk2 Ko
  obtain ⟨cy0, cy1, cy2, cy3⟩ := bk4 Ky
  go_upto_region 8 with fail
  clear cr0 cr1 cr2 cr3 cn0 cn1 co0 co1 cy0 cy1 cy2 cy3
  clear Kn Ko
  clear Vn
  clear Vo
  clear Vv
  obtain ⟨cr0, cr1, cr2, cr3⟩ := bk4 Kr
  obtain ⟨cy0, cy1, cy2, cy3⟩ := bk4 Ky
  obtain ⟨g0, z0, g1, z1, g2, z2, g3, z3⟩ := bp4 Kr (.bool false) (.slice none 0 0) (.bool false) (.slice none 0 0)
  go_wp2_with fail
  clear g0 z0 g1 z1 g2 z2 g3 z3
  clear cr0 cr1 cr2 cr3 cy0 cy1 cy2 cy3
  replace hx := bx4 hx (w.heap.size) (.bool false) (.slice none 0 0) (.bool false) (.slice none 0 0) (by omega)
  replace Kr := bs4 Kr (.bool false) (.slice none 0 0) (.bool false) (.slice none 0 0)
  replace Ky := bo4 Ky (w.heap.size) (.bool false) (.slice none 0 0) (.bool false) (.slice none 0 0) (by omega)
  generalize ((((x10).setCell ⟨w.heap.size, 0, none⟩ (.bool false)).setCell ⟨w.heap.size, 1, none⟩ (.slice none 0 0)).setCell ⟨w.heap.size, 2, none⟩ (.bool false)).setCell ⟨w.heap.size, 3, none⟩ (.slice none 0 0) = x11 at *
  obtain ⟨cr0, cr1, cr2, cr3⟩ := bk4 Kr
  refine bodyPost_ret (v := .tuple #[.agg #[.bool false, .slice none 0 0, .bool false, .slice none 0 0], .int .i64 100]) (by simp [results, Tryz.results22, go_sem, cr0, cr1, cr2, cr3]) rfl ?_
  exact ⟨rfl, hx⟩
set_option maxHeartbeats 2000000 in
theorem ratio_Read_b5 (s sn sd : ByteArray) (z d : Int) (w : World) (HC : ∀ W, Calls Tryz.prog 63 #[.string s, .string ⟨#[47]⟩] W fun e w' => e = .returned (.tuple #[.string sn, .string sd, .bool true]) ∧ Ext W w') (HN : ∀ W, Calls Tryz.prog 64 #[.string sn] W (OneP z W)) (HD : ∀ W, Calls Tryz.prog 64 #[.string sd] W (OneP d W)) (lz : Len z) (ld : Len d) (hck : decide (0 < d ∧ Int.gcd z d = 1) = true) (hl : (sd.toList == [49]) = true) : Calls Tryz.prog 22 #[.string s] w (RatE 100 w) := by
  have HC := Lib.hid HC
  have HN := Lib.hid HN
  have HD := Lib.hid HD
  have HK := Lib.hid (And.intro lz (And.intro ld hck))
  clear lz ld hck
  have HL := Lib.hid hl
  clear hl
  obtain ⟨x1, hw, hx, Kr⟩ := boxQ1 w #[.bool false, .slice none 0 0, .bool false, .slice none 0 0] 26
  replace hw := Lib.hid hw
  go_enter Tryz.func22, Tryz.ntmps22
  go_upto_region 1 with fail
  try simp only [Nat.add_assoc, Nat.reduceAdd, Nat.add_zero]
  rw [hw.out]
  clear hw
  have hs0 := hx.size
  obtain ⟨cr0, cr1, cr2, cr3⟩ := bk4 Kr
  go_wp2_with fail
  with_reducible refine (HC.out _).mono ?_
  clear cr0 cr1 cr2 cr3
  rintro e x2 ⟨rfl, hy⟩
  replace hx := hx.trans hy
  replace Kr := kE Kr hy
  clear hy
  obtain ⟨cr0, cr1, cr2, cr3⟩ := bk4 Kr
  have hsz := hx.size
  go_wp2_with fail
  with_reducible refine (HN.out _).mono ?_
  clear cr0 cr1 cr2 cr3
  rintro e x3 ⟨v, rfl, hv, hy⟩
  replace hx := hx.trans hy
  replace Kr := kE Kr hy
  clear hy
  obtain ⟨nn, an, qn, cn, rfl, hv', hf'⟩ := hv.two
  have Vn := Lib.hid hv'
  have Fn := Lib.hid (fun A hA => Nat.le_trans hsz (hf' A hA))
  clear hv' hf' hsz
  go_upto_region 3 with fail
  have hl := Ext.alloc x3 (.cells #[.bool nn, .slice an qn cn] 24)
  have lrn : w.heap.size < x3.heap.size := Kr.out.lt
  have hpn : w.heap.size ≤ x3.heap.size := hx.size
  replace hx := hx.trans hl
  replace Kr := kE Kr hl
  replace Vn := Lib.hid (Vn.out.ext hl)
  have Kn := Lib.hid (Blk.new0 x3 #[.bool nn, .slice an qn cn] 24)
  clear hl
  generalize x3.alloc (.cells #[.bool nn, .slice an qn cn] 24) = x4 at *
  generalize x3.heap.size = pn at *
  obtain ⟨cr0, cr1, cr2, cr3⟩ := bk4 Kr
  obtain ⟨cn0, cn1⟩ := bk2 Kn
  have hsz := hx.size
  go_wp2_with fail
  with_reducible refine (ratio_one _).mono ?_
  clear cr0 cr1 cr2 cr3 cn0 cn1
  rintro e x5 ⟨v, rfl, hv, hy⟩
  replace hx := hx.trans hy
  replace Kr := kE Kr hy
  replace Kn := kE Kn hy
  replace Vn := Lib.hid (Vn.out.ext hy)
  clear hy
  obtain ⟨no, ao, qo, co, rfl, hv', hf'⟩ := hv.two
  have Vo := Lib.hid hv'
  have Fo := Lib.hid (fun A hA => Nat.le_trans hsz (hf' A hA))
  clear hv' hf' hsz
  go_upto_region 4 with fail
  have hl := Ext.alloc x5 (.cells #[.bool no, .slice ao qo co] 24)
  have lro : w.heap.size < x5.heap.size := Kr.out.lt
  have lno : pn < x5.heap.size := Kn.out.lt
  have hpo : w.heap.size ≤ x5.heap.size := hx.size
  replace hx := hx.trans hl
  replace Kr := kE Kr hl
  replace Kn := kE Kn hl
  replace Vn := Lib.hid (Vn.out.ext hl)
  replace Vo := Lib.hid (Vo.out.ext hl)
  have Ko := Lib.hid (Blk.new0 x5 #[.bool no, .slice ao qo co] 24)
  clear hl
  generalize x5.alloc (.cells #[.bool no, .slice ao qo co] 24) = x6 at *
  generalize x5.heap.size = po at *
  obtain ⟨cr0, cr1, cr2, cr3⟩ := bk4 Kr
  obtain ⟨cn0, cn1⟩ := bk2 Kn
  obtain ⟨co0, co1⟩ := bk2 Ko
  have hsz := hx.size
  go_wp2_with fail
  with_reducible refine (HD.out _).mono ?_
  clear cr0 cr1 cr2 cr3 cn0 cn1 co0 co1
  rintro e x7 ⟨v, rfl, hv, hy⟩
  replace hx := hx.trans hy
  replace Kr := kE Kr hy
  replace Kn := kE Kn hy
  replace Ko := kE Ko hy
  replace Vn := Lib.hid (Vn.out.ext hy)
  replace Vo := Lib.hid (Vo.out.ext hy)
  clear hy
  obtain ⟨nv, av, qv, cv, rfl, hv', hf'⟩ := hv.two
  have Vv := Lib.hid hv'
  have Fv := Lib.hid (fun A hA => Nat.le_trans hsz (hf' A hA))
  clear hv' hf' hsz
  obtain ⟨cr0, cr1, cr2, cr3⟩ := bk4 Kr
  obtain ⟨cn0, cn1⟩ := bk2 Kn
  obtain ⟨co0, co1⟩ := bk2 Ko
  obtain ⟨g0, z0, g1, z1⟩ := bp2 Ko (.bool nv) (.slice av qv cv)
  go_upto_region 6 with fail
  clear g0 z0 g1 z1
  clear cr0 cr1 cr2 cr3 cn0 cn1 co0 co1
  replace Vn := (by first | exact rv2 Vn Ko (.bool nv) (.slice av qv cv) rfl rfl | exact bv2 Vn Ko (.bool nv) (.slice av qv cv) rfl rfl)
  replace Vo := (by first | exact rv2 Vo Ko (.bool nv) (.slice av qv cv) rfl rfl | exact bv2 Vo Ko (.bool nv) (.slice av qv cv) rfl rfl)
  replace Vv := (by first | exact rv2 Vv Ko (.bool nv) (.slice av qv cv) rfl rfl | exact bv2 Vv Ko (.bool nv) (.slice av qv cv) rfl rfl)
  replace hx := bx2 hx (po) (.bool nv) (.slice av qv cv) (by omega)
  replace Kr := bo2 Kr (po) (.bool nv) (.slice av qv cv) (by omega)
  replace Kn := bo2 Kn (po) (.bool nv) (.slice av qv cv) (by omega)
  replace Ko := bs2 Ko (.bool nv) (.slice av qv cv)
  generalize ((x7).setCell ⟨po, 0, none⟩ (.bool nv)).setCell ⟨po, 1, none⟩ (.slice av qv cv) = x8 at *
  obtain ⟨cr0, cr1, cr2, cr3⟩ := bk4 Kr
  obtain ⟨cn0, cn1⟩ := bk2 Kn
  obtain ⟨co0, co1⟩ := bk2 Ko
  go_upto_region 7 with fail
  have hl := Ext.alloc x8 (.cells #[.bool nn, .slice an qn cn, .bool nv, .slice av qv cv] 26)
  have lry : w.heap.size < x8.heap.size := Kr.out.lt
  have lny : pn < x8.heap.size := Kn.out.lt
  have loy : po < x8.heap.size := Ko.out.lt
  have hpy : w.heap.size ≤ x8.heap.size := hx.size
  clear cr0 cr1 cr2 cr3 cn0 cn1 co0 co1
  replace hx := hx.trans hl
  replace Kr := kE Kr hl
  replace Kn := kE Kn hl
  replace Ko := kE Ko hl
  replace Vn := Lib.hid (Vn.out.ext hl)
  replace Vo := Lib.hid (Vo.out.ext hl)
  replace Vv := Lib.hid (Vv.out.ext hl)
  have Ky := Lib.hid (Blk.new0 x8 #[.bool nn, .slice an qn cn, .bool nv, .slice av qv cv] 26)
  clear hl
  generalize x8.alloc (.cells #[.bool nn, .slice an qn cn, .bool nv, .slice av qv cv] 26) = x9 at *
  generalize x8.heap.size = py at *
  obtain ⟨ln, hln, hin, hbn⟩ := Vn.out.parts
  obtain ⟨lo, hlo, hio, hbo⟩ := Vv.out.parts
  have hCK := ratio_Check nn nv _ _ _ _ ln lo _ hin hio
  rw [okR_eq hbn hbo HK.out.1 HK.out.2.1, HK.out.2.2, hln, hlo] at hCK
  have HCK := Lib.hid hCK
  clear hCK hln hin hbn hlo hio hbo
  obtain ⟨cr0, cr1, cr2, cr3⟩ := bk4 Kr
  obtain ⟨cn0, cn1⟩ := bk2 Kn
  obtain ⟨co0, co1⟩ := bk2 Ko
  obtain ⟨cy0, cy1, cy2, cy3⟩ := bk4 Ky
  have hl := HL.out
  have hl2 : (!(sd.toList == [49])) = false := by rw [hl]; rfl
  go_wp2_with fail
  with_reducible refine (show Calls Tryz.prog 18 _ _ (fun e w' => e = .returned (.int .i64 0) ∧ Ext x9 w') from HCK.out).mono ?_
  clear cr0 cr1 cr2 cr3 cn0 cn1 co0 co1 cy0 cy1 cy2 cy3
  rintro e x10 ⟨rfl, hy⟩
  replace hx := hx.trans hy
  replace Kr := kE Kr hy
  replace Kn := kE Kn hy
  replace Ko := kE Ko hy
  replace Ky := kE Ky hy
  replace Vn := Lib.hid (Vn.out.ext hy)
  replace Vo := Lib.hid (Vo.out.ext hy)
  replace Vv := Lib.hid (Vv.out.ext hy)
  clear hy
  obtain ⟨cr0, cr1, cr2, cr3⟩ := bk4 Kr
  obtain ⟨cn0, cn1⟩ := bk2 Kn
  obtain ⟨co0, co1⟩ := bk2 Ko
  obtain ⟨cy0, cy1, cy2, cy3⟩ := bk4 Ky
  go_upto_region 8 with fail
  clear cr0 cr1 cr2 cr3 cn0 cn1 co0 co1 cy0 cy1 cy2 cy3
  clear Kn Ko
  clear Vn
  clear Vo
  clear Vv
  obtain ⟨cr0, cr1, cr2, cr3⟩ := bk4 Kr
  obtain ⟨cy0, cy1, cy2, cy3⟩ := bk4 Ky
  obtain ⟨g0, z0, g1, z1, g2, z2, g3, z3⟩ := bp4 Kr (.bool false) (.slice none 0 0) (.bool false) (.slice none 0 0)
  go_wp2_with fail
  clear g0 z0 g1 z1 g2 z2 g3 z3
  clear cr0 cr1 cr2 cr3 cy0 cy1 cy2 cy3
  replace hx := bx4 hx (w.heap.size) (.bool false) (.slice none 0 0) (.bool false) (.slice none 0 0) (by omega)
  replace Kr := bs4 Kr (.bool false) (.slice none 0 0) (.bool false) (.slice none 0 0)
  replace Ky := bo4 Ky (w.heap.size) (.bool false) (.slice none 0 0) (.bool false) (.slice none 0 0) (by omega)
  generalize ((((x10).setCell ⟨w.heap.size, 0, none⟩ (.bool false)).setCell ⟨w.heap.size, 1, none⟩ (.slice none 0 0)).setCell ⟨w.heap.size, 2, none⟩ (.bool false)).setCell ⟨w.heap.size, 3, none⟩ (.slice none 0 0) = x11 at *
  obtain ⟨cr0, cr1, cr2, cr3⟩ := bk4 Kr
  refine bodyPost_ret (v := .tuple #[.agg #[.bool false, .slice none 0 0, .bool false, .slice none 0 0], .int .i64 100]) (by simp [results, Tryz.results22, go_sem, cr0, cr1, cr2, cr3]) rfl ?_
  exact ⟨rfl, hx⟩
set_option maxHeartbeats 2000000 in
theorem ratio_Read_b6 (s sn sd : ByteArray) (z d : Int) (w : World) (HC : ∀ W, Calls Tryz.prog 63 #[.string s, .string ⟨#[47]⟩] W fun e w' => e = .returned (.tuple #[.string sn, .string sd, .bool true]) ∧ Ext W w') (HN : ∀ W, Calls Tryz.prog 64 #[.string sn] W (OneP z W)) (HD : ∀ W, Calls Tryz.prog 64 #[.string sd] W (OneP d W)) (lz : Len z) (ld : Len d) (hck : decide (0 < d ∧ Int.gcd z d = 1) = true) (hl : (sd.toList == [49]) = false) : Calls Tryz.prog 22 #[.string s] w (RatP (Rat.divInt z d) w) := by
  have HC := Lib.hid HC
  have HN := Lib.hid HN
  have HD := Lib.hid HD
  have HK := Lib.hid (And.intro lz (And.intro ld hck))
  clear lz ld hck
  have HL := Lib.hid hl
  clear hl
  obtain ⟨x1, hw, hx, Kr⟩ := boxQ1 w #[.bool false, .slice none 0 0, .bool false, .slice none 0 0] 26
  replace hw := Lib.hid hw
  go_enter Tryz.func22, Tryz.ntmps22
  go_upto_region 1 with fail
  try simp only [Nat.add_assoc, Nat.reduceAdd, Nat.add_zero]
  rw [hw.out]
  clear hw
  have hs0 := hx.size
  obtain ⟨cr0, cr1, cr2, cr3⟩ := bk4 Kr
  go_wp2_with fail
  with_reducible refine (HC.out _).mono ?_
  clear cr0 cr1 cr2 cr3
  rintro e x2 ⟨rfl, hy⟩
  replace hx := hx.trans hy
  replace Kr := kE Kr hy
  clear hy
  obtain ⟨cr0, cr1, cr2, cr3⟩ := bk4 Kr
  have hsz := hx.size
  go_wp2_with fail
  with_reducible refine (HN.out _).mono ?_
  clear cr0 cr1 cr2 cr3
  rintro e x3 ⟨v, rfl, hv, hy⟩
  replace hx := hx.trans hy
  replace Kr := kE Kr hy
  clear hy
  obtain ⟨nn, an, qn, cn, rfl, hv', hf'⟩ := hv.two
  have Vn := Lib.hid hv'
  have Fn := Lib.hid (fun A hA => Nat.le_trans hsz (hf' A hA))
  clear hv' hf' hsz
  go_upto_region 3 with fail
  have hl := Ext.alloc x3 (.cells #[.bool nn, .slice an qn cn] 24)
  have lrn : w.heap.size < x3.heap.size := Kr.out.lt
  have hpn : w.heap.size ≤ x3.heap.size := hx.size
  replace hx := hx.trans hl
  replace Kr := kE Kr hl
  replace Vn := Lib.hid (Vn.out.ext hl)
  have Kn := Lib.hid (Blk.new0 x3 #[.bool nn, .slice an qn cn] 24)
  clear hl
  generalize x3.alloc (.cells #[.bool nn, .slice an qn cn] 24) = x4 at *
  generalize x3.heap.size = pn at *
  obtain ⟨cr0, cr1, cr2, cr3⟩ := bk4 Kr
  obtain ⟨cn0, cn1⟩ := bk2 Kn
  have hsz := hx.size
  go_wp2_with fail
  with_reducible refine (ratio_one _).mono ?_
  clear cr0 cr1 cr2 cr3 cn0 cn1
  rintro e x5 ⟨v, rfl, hv, hy⟩
  replace hx := hx.trans hy
  replace Kr := kE Kr hy
  replace Kn := kE Kn hy
  replace Vn := Lib.hid (Vn.out.ext hy)
  clear hy
  obtain ⟨no, ao, qo, co, rfl, hv', hf'⟩ := hv.two
  have Vo := Lib.hid hv'
  have Fo := Lib.hid (fun A hA => Nat.le_trans hsz (hf' A hA))
  clear hv' hf' hsz
  go_upto_region 4 with fail
  have hl := Ext.alloc x5 (.cells #[.bool no, .slice ao qo co] 24)
  have lro : w.heap.size < x5.heap.size := Kr.out.lt
  have lno : pn < x5.heap.size := Kn.out.lt
  have hpo : w.heap.size ≤ x5.heap.size := hx.size
  replace hx := hx.trans hl
  replace Kr := kE Kr hl
  replace Kn := kE Kn hl
  replace Vn := Lib.hid (Vn.out.ext hl)
  replace Vo := Lib.hid (Vo.out.ext hl)
  have Ko := Lib.hid (Blk.new0 x5 #[.bool no, .slice ao qo co] 24)
  clear hl
  generalize x5.alloc (.cells #[.bool no, .slice ao qo co] 24) = x6 at *
  generalize x5.heap.size = po at *
  obtain ⟨cr0, cr1, cr2, cr3⟩ := bk4 Kr
  obtain ⟨cn0, cn1⟩ := bk2 Kn
  obtain ⟨co0, co1⟩ := bk2 Ko
  have hsz := hx.size
  go_wp2_with fail
  with_reducible refine (HD.out _).mono ?_
  clear cr0 cr1 cr2 cr3 cn0 cn1 co0 co1
  rintro e x7 ⟨v, rfl, hv, hy⟩
  replace hx := hx.trans hy
  replace Kr := kE Kr hy
  replace Kn := kE Kn hy
  replace Ko := kE Ko hy
  replace Vn := Lib.hid (Vn.out.ext hy)
  replace Vo := Lib.hid (Vo.out.ext hy)
  clear hy
  obtain ⟨nv, av, qv, cv, rfl, hv', hf'⟩ := hv.two
  have Vv := Lib.hid hv'
  have Fv := Lib.hid (fun A hA => Nat.le_trans hsz (hf' A hA))
  clear hv' hf' hsz
  obtain ⟨cr0, cr1, cr2, cr3⟩ := bk4 Kr
  obtain ⟨cn0, cn1⟩ := bk2 Kn
  obtain ⟨co0, co1⟩ := bk2 Ko
  obtain ⟨g0, z0, g1, z1⟩ := bp2 Ko (.bool nv) (.slice av qv cv)
  go_upto_region 6 with fail
  clear g0 z0 g1 z1
  clear cr0 cr1 cr2 cr3 cn0 cn1 co0 co1
  replace Vn := (by first | exact rv2 Vn Ko (.bool nv) (.slice av qv cv) rfl rfl | exact bv2 Vn Ko (.bool nv) (.slice av qv cv) rfl rfl)
  replace Vo := (by first | exact rv2 Vo Ko (.bool nv) (.slice av qv cv) rfl rfl | exact bv2 Vo Ko (.bool nv) (.slice av qv cv) rfl rfl)
  replace Vv := (by first | exact rv2 Vv Ko (.bool nv) (.slice av qv cv) rfl rfl | exact bv2 Vv Ko (.bool nv) (.slice av qv cv) rfl rfl)
  replace hx := bx2 hx (po) (.bool nv) (.slice av qv cv) (by omega)
  replace Kr := bo2 Kr (po) (.bool nv) (.slice av qv cv) (by omega)
  replace Kn := bo2 Kn (po) (.bool nv) (.slice av qv cv) (by omega)
  replace Ko := bs2 Ko (.bool nv) (.slice av qv cv)
  generalize ((x7).setCell ⟨po, 0, none⟩ (.bool nv)).setCell ⟨po, 1, none⟩ (.slice av qv cv) = x8 at *
  obtain ⟨cr0, cr1, cr2, cr3⟩ := bk4 Kr
  obtain ⟨cn0, cn1⟩ := bk2 Kn
  obtain ⟨co0, co1⟩ := bk2 Ko
  go_upto_region 7 with fail
  have hl := Ext.alloc x8 (.cells #[.bool nn, .slice an qn cn, .bool nv, .slice av qv cv] 26)
  have lry : w.heap.size < x8.heap.size := Kr.out.lt
  have lny : pn < x8.heap.size := Kn.out.lt
  have loy : po < x8.heap.size := Ko.out.lt
  have hpy : w.heap.size ≤ x8.heap.size := hx.size
  clear cr0 cr1 cr2 cr3 cn0 cn1 co0 co1
  replace hx := hx.trans hl
  replace Kr := kE Kr hl
  replace Kn := kE Kn hl
  replace Ko := kE Ko hl
  replace Vn := Lib.hid (Vn.out.ext hl)
  replace Vo := Lib.hid (Vo.out.ext hl)
  replace Vv := Lib.hid (Vv.out.ext hl)
  have Ky := Lib.hid (Blk.new0 x8 #[.bool nn, .slice an qn cn, .bool nv, .slice av qv cv] 26)
  clear hl
  generalize x8.alloc (.cells #[.bool nn, .slice an qn cn, .bool nv, .slice av qv cv] 26) = x9 at *
  generalize x8.heap.size = py at *
  obtain ⟨ln, hln, hin, hbn⟩ := Vn.out.parts
  obtain ⟨lo, hlo, hio, hbo⟩ := Vv.out.parts
  have hCK := ratio_Check nn nv _ _ _ _ ln lo _ hin hio
  rw [okR_eq hbn hbo HK.out.1 HK.out.2.1, HK.out.2.2, hln, hlo] at hCK
  have HCK := Lib.hid hCK
  clear hCK hln hin hbn hlo hio hbo
  obtain ⟨cr0, cr1, cr2, cr3⟩ := bk4 Kr
  obtain ⟨cn0, cn1⟩ := bk2 Kn
  obtain ⟨co0, co1⟩ := bk2 Ko
  obtain ⟨cy0, cy1, cy2, cy3⟩ := bk4 Ky
  have hl := HL.out
  have hl2 : (!(sd.toList == [49])) = true := by rw [hl]; rfl
  go_wp2_with fail
  with_reducible refine (show Calls Tryz.prog 18 _ _ (fun e w' => e = .returned (.int .i64 0) ∧ Ext x9 w') from HCK.out).mono ?_
  clear cr0 cr1 cr2 cr3 cn0 cn1 co0 co1 cy0 cy1 cy2 cy3
  rintro e x10 ⟨rfl, hy⟩
  replace hx := hx.trans hy
  replace Kr := kE Kr hy
  replace Kn := kE Kn hy
  replace Ko := kE Ko hy
  replace Ky := kE Ky hy
  replace Vn := Lib.hid (Vn.out.ext hy)
  replace Vo := Lib.hid (Vo.out.ext hy)
  replace Vv := Lib.hid (Vv.out.ext hy)
  clear hy
  obtain ⟨cr0, cr1, cr2, cr3⟩ := bk4 Kr
  obtain ⟨cn0, cn1⟩ := bk2 Kn
  obtain ⟨co0, co1⟩ := bk2 Ko
  obtain ⟨cy0, cy1, cy2, cy3⟩ := bk4 Ky
  go_upto_region 9 with fail
  clear cr0 cr1 cr2 cr3 cn0 cn1 co0 co1 cy0 cy1 cy2 cy3
  clear Kn Ko
  have hlow := divInt_low (z := z) (d := d) (of_decide_eq_true HK.out.2.2).1 (of_decide_eq_true HK.out.2.2).2
  have HR := Lib.hid (show RatV x10 (.agg #[.bool nn, .slice an qn cn, .bool nv, .slice av qv cv]) (Rat.divInt z d) from RatV.mk (by rw [hlow.1]; exact Vn.out) (by rw [hlow.2]; exact Vv.out))
  clear hlow
  have hnd : nv = false := HR.out.den.pos (by omega)
  subst hnd
  clear Vn
  clear Vo
  clear Vv
  obtain ⟨cr0, cr1, cr2, cr3⟩ := bk4 Kr
  obtain ⟨cy0, cy1, cy2, cy3⟩ := bk4 Ky
  obtain ⟨g0, z0, g1, z1, g2, z2, g3, z3⟩ := bp4 Kr (.bool nn) (.slice an qn cn) (.bool false) (.slice av qv cv)
  go_wp2_with fail
  clear g0 z0 g1 z1 g2 z2 g3 z3
  clear cr0 cr1 cr2 cr3 cy0 cy1 cy2 cy3
  replace HR := (by first | exact rv4 HR Kr (.bool nn) (.slice an qn cn) (.bool false) (.slice av qv cv) rfl rfl rfl rfl | exact bv4 HR Kr (.bool nn) (.slice an qn cn) (.bool false) (.slice av qv cv) rfl rfl rfl rfl)
  replace hx := bx4 hx (w.heap.size) (.bool nn) (.slice an qn cn) (.bool false) (.slice av qv cv) (by omega)
  replace Kr := bs4 Kr (.bool nn) (.slice an qn cn) (.bool false) (.slice av qv cv)
  replace Ky := bo4 Ky (w.heap.size) (.bool nn) (.slice an qn cn) (.bool false) (.slice av qv cv) (by omega)
  generalize ((((x10).setCell ⟨w.heap.size, 0, none⟩ (.bool nn)).setCell ⟨w.heap.size, 1, none⟩ (.slice an qn cn)).setCell ⟨w.heap.size, 2, none⟩ (.bool false)).setCell ⟨w.heap.size, 3, none⟩ (.slice av qv cv) = x11 at *
  obtain ⟨cr0, cr1, cr2, cr3⟩ := bk4 Kr
  refine bodyPost_ret (v := .tuple #[.agg #[.bool nn, .slice an qn cn, .bool false, .slice av qv cv], .int .i64 0]) (by simp [results, Tryz.results22, go_sem, cr0, cr1, cr2, cr3]) rfl ?_
  exact ⟨_, rfl, ⟨_, _, _, _, _, _, _, rfl, HR.out, Fn.out, Fv.out⟩, hx⟩
end Go.Proofs.YtnpeakahiedeoaaGreatDoor

namespace Go.Proofs.YtnpeakahiedeoaaGreatDoor
open Go.RowKit Go BigFrame
set_option maxRecDepth 100000
set_option linter.unusedSimpArgs false
set_option linter.unusedVariables false

/-! ratio.Read, at any text of at most 1000 bytes. -/
theorem bsz (s : ByteArray) : s.data.toList.length = s.size := by rw [Array.length_toList]; rfl
theorem ext_to (s : ByteArray) (k : Nat) : (s.extract 0 k).data.toList = s.data.toList.take k := by
  rw [ByteArray.data_extract, Array.toList_extract, List.extract_eq_take_drop]; simp
theorem ext_from (s : ByteArray) (k : Nat) : (s.extract k s.size).data.toList = s.data.toList.drop k := by
  rw [ByteArray.data_extract, Array.toList_extract, List.extract_eq_take_drop, List.take_of_length_le]
  rw [List.length_drop, Array.length_toList]
  exact Nat.le_refl _
theorem cut_index (l : List UInt8) : (Lib.indexByte l 47 = -1 ∧ cutL l = (l, none)) ∨ ∃ k : Nat, k < l.length ∧ Lib.indexByte l 47 = (k : Int) ∧ cutL l = (l.take k, some (l.drop (k + 1))) := by
  induction l with
  | nil => exact .inl ⟨rfl, rfl⟩
  | cons b l ih =>
    by_cases hb : (b == 47) = true
    · exact .inr ⟨0, by simp, by simp [Lib.indexByte, hb], by simp [cutL, hb]⟩
    · rcases ih with ⟨h1, h2⟩ | ⟨k, hk, h1, h2⟩
      · exact .inl ⟨by simp [Lib.indexByte, hb, h1], by simp [cutL, hb, h2]⟩
      · refine .inr ⟨k + 1, by simpa using hk, ?_, by simp [cutL, hb, h2]⟩
        have h3 : ((k : Int) == -1) = false := by simp only [beq_eq_false_iff_ne]; omega
        simp only [Lib.indexByte, hb, h1, h3]
        simp
def ReadRP (o : Option Rat) (w : World) (e : Ending) (w' : World) : Prop := (o = none → RatE 100 w e w') ∧ ∀ r, o = some r → RatP r w e w'
theorem ReadRP.none {w w' : World} {e : Ending} (h : RatE 100 w e w') : ReadRP none w e w' := ⟨fun _ => h, fun r hr => by cases hr⟩
theorem ReadRP.some {r : Rat} {w w' : World} {e : Ending} (h : RatP r w e w') : ReadRP (some r) w e w' := ⟨fun hr => (by cases hr), fun r' hr => by cases hr; exact h⟩
theorem read_none {s : ByteArray} (hs : s.size ≤ 1000) (h : readL s.data.toList = none) (W : World) : Calls Tryz.prog 64 #[.string s] W fun e w' => e = .returned (.tuple #[zeroBig, .int .i64 90]) ∧ Ext W w' := (read_val s W hs).mono fun e w' hh => hh.1 h
theorem read_some {s : ByteArray} (hs : s.size ≤ 1000) {z : Int} (h : readL s.data.toList = some z) (W : World) : Calls Tryz.prog 64 #[.string s] W (OneP z W) := (read_val s W hs).mono fun e w' hh => hh.2 z h
theorem toList_lit (s : ByteArray) : (s.toList == [49]) = (s.data.toList == [49]) := by rw [Lib.toList_data]
theorem ratio_Read (s : ByteArray) (w : World) (hs : s.size ≤ 1000) : Calls Tryz.prog 22 #[.string s] w (ReadRP (readR s.data.toList) w) := by
  have hsl := bsz s
  unfold readR
  rcases cut_index s.data.toList with ⟨h1, h2⟩ | ⟨k, hk, h1, h2⟩
  · rw [h2]
    dsimp only
    have HC := fun W => strings_Cut_none s 47 W h1
    cases hr : readL s.data.toList with
    | none => exact (ratio_Read_a1 s s ⟨#[]⟩ 0 0 w HC (read_none hs hr)).mono fun e w' h => .none h
    | some z =>
      have hg : decide ((0 : Int) < 1 ∧ Int.gcd z 1 = 1) = true := by simp
      exact (ratio_Read_a2 s s ⟨#[]⟩ z 0 w HC (read_some hs hr) (read_len hr (by omega)) (len_small (by decide)) hg).mono fun e w' h => .some h
  · rw [h2]
    have HC := fun W => strings_Cut_some s 47 W k h1 (by omega) hs
    generalize hsn : s.extract 0 k = sn at HC
    generalize hsd : s.extract (k + 1) s.size = sd at HC
    have en : s.data.toList.take k = sn.data.toList := by rw [← hsn, ext_to]
    have ed : s.data.toList.drop (k + 1) = sd.data.toList := by rw [← hsd, ext_from]
    have zn : sn.size ≤ 1000 := by
      have := bsz sn
      rw [← this, ← en, List.length_take]; omega
    have zd : sd.size ≤ 1000 := by
      have := bsz sd
      rw [← this, ← ed, List.length_drop]; omega
    rw [en, ed]
    dsimp only
    have ln : sn.data.toList.length ≤ 1000 := by rw [bsz]; exact zn
    have ld : sd.data.toList.length ≤ 1000 := by rw [bsz]; exact zd
    cases hr : readL sn.data.toList with
    | none =>
      cases hq : readL sd.data.toList with
      | none => exact (ratio_Read_b2 s sn sd 0 0 w HC (read_none zn hr) (read_none zd hq)).mono fun e w' h => .none h
      | some d => exact (ratio_Read_b1 s sn sd 0 d w HC (read_none zn hr) (read_some zd hq)).mono fun e w' h => .none h
    | some z =>
      cases hq : readL sd.data.toList with
      | none => exact (ratio_Read_b3 s sn sd z 0 w HC (read_some zn hr) (read_none zd hq)).mono fun e w' h => .none h
      | some d =>
        have lz := read_len hr ln
        have ld' := read_len hq ld
        dsimp only
        cases hl : (sd.data.toList == [49])
        · rw [if_neg (by simp)]
          have hl' : (sd.toList == [49]) = false := by rw [toList_lit]; exact hl
          unfold mkR
          by_cases hg : 0 < d ∧ Int.gcd z d = 1
          · rw [if_pos hg]
            exact (ratio_Read_b6 s sn sd z d w HC (read_some zn hr) (read_some zd hq) lz ld' (decide_eq_true hg) hl').mono fun e w' h => .some h
          · rw [if_neg hg]
            exact (ratio_Read_b4 s sn sd z d w HC (read_some zn hr) (read_some zd hq) lz ld' (decide_eq_false hg)).mono fun e w' h => .none h
        · rw [if_pos rfl]
          have hl' : (sd.toList == [49]) = true := by rw [toList_lit]; exact hl
          by_cases hg : 0 < d ∧ Int.gcd z d = 1
          · exact (ratio_Read_b5 s sn sd z d w HC (read_some zn hr) (read_some zd hq) lz ld' (decide_eq_true hg) hl').mono fun e w' h => .none h
          · exact (ratio_Read_b4 s sn sd z d w HC (read_some zn hr) (read_some zd hq) lz ld' (decide_eq_false hg)).mono fun e w' h => .none h
end Go.Proofs.YtnpeakahiedeoaaGreatDoor

