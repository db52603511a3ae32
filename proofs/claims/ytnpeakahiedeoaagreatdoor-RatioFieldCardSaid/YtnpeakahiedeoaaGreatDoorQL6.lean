import Derived.Test.YtnpeakahiedeoaaGreatDoorQSane
import Derived.Test.YtnpeakahiedeoaaGreatDoorQFew
namespace Go.Proofs.YtnpeakahiedeoaaGreatDoor
open Go.RowKit Go BigFrame
set_option maxRecDepth 100000
set_option linter.unusedSimpArgs false
set_option linter.unusedVariables false

/-! law10.RatioField. -/
theorem setCell_sameQ {w : World} {b i : Nat} {cs : Array Value} {t : TypeId} {v : Value} (h : Blk w b cs t) (hc : cs[i]? = some v) : ∀ j : Nat, (w.setCell ⟨b, i, none⟩ v).heap[j]? = w.heap[j]? := fun j => by
  by_cases hj : j = b
  · subst hj
    have h1 : Blk (w.setCell ⟨j, i, none⟩ v) j (cs.setIfInBounds i v) t := h.set i v
    have h2 : cs.setIfInBounds i v = cs := by
      apply Array.ext_getElem?
      intro k
      rw [Array.getElem?_setIfInBounds]
      split
      · rename_i e; subst e; split
        · exact hc.symm
        · rename_i hn; exact absurd (Array.getElem?_eq_some_iff.1 hc).1 hn
      · rfl
    rw [h2] at h1
    exact h1.trans h.symm
  · exact Below.heap_setCell _ _ _ _ hj
theorem Ext.setSameQ {w w' : World} {b i : Nat} {cs : Array Value} {t : TypeId} {v : Value} (hx : Ext w w') (h : Blk w' b cs t) (hc : cs[i]? = some v) : Ext w (w'.setCell ⟨b, i, none⟩ v) := by
  refine ⟨hx.os, hx.tape, hx.output, ?_, fun j hj => ?_⟩
  · simpa [World.setCell] using hx.size
  · rw [setCell_sameQ h hc]; exact hx.block j hj
set_option maxHeartbeats 2000000 in
theorem calc_doAdd {cb : Nat} {nx ny : Bool} {ax bx ay by_ : Option Addr} {qx cx kx dx qy cy ky dy : Nat} {r : Rat} {w : World} (hc : Blk w cb #[.int .i64 0] 53) (hf : ∀ W, Ext w W → Calls Tryz.prog 33 #[.agg #[.bool nx, .slice ax qx cx, .bool false, .slice bx kx dx], .agg #[.bool ny, .slice ay qy cy, .bool false, .slice by_ ky dy]] W (RatP r W)) :
    Calls Tryz.prog 41 #[.pointer (some ⟨cb, 0, none⟩), .func (.func 33) #[] #[], .agg #[.bool nx, .slice ax qx cx, .bool false, .slice bx kx dx], .agg #[.bool ny, .slice ay qy cy, .bool false, .slice by_ ky dy]] w fun e w' => ∃ n a q c b k d, e = .returned (.agg #[.bool n, .slice a q c, .bool false, .slice b k d]) ∧ RatV w' (.agg #[.bool n, .slice a q c, .bool false, .slice b k d]) r ∧ Ext w w' := by
  have hcb := hc.lt
  have HF := Lib.hid hf
  clear hf
  obtain ⟨x1, hw, hx, Kx, Ky, Kv⟩ := boxQ3 w #[.bool nx, .slice ax qx cx, .bool false, .slice bx kx dx] 26 #[.bool ny, .slice ay qy cy, .bool false, .slice by_ ky dy] 26 #[.bool false, .slice none 0 0, .bool false, .slice none 0 0] 26
  replace hw := Lib.hid hw
  have KC := Lib.hid (hc.ext hx)
  have HFW := Lib.hid (HF.out _ hx)
  clear hc HF
  go_enter Tryz.func41, Tryz.ntmps41
  go_upto_region 1 with fail
  try simp only [Nat.add_assoc, Nat.reduceAdd, Nat.add_zero]
  rw [hw.out]
  clear hw
  have hs0 := hx.size
  obtain ⟨cx0, cx1, cx2, cx3⟩ := bk4 Kx
  obtain ⟨cy0, cy1, cy2, cy3⟩ := bk4 Ky
  obtain ⟨cv0, cv1, cv2, cv3⟩ := bk4 Kv
  have cC0 := bk1 KC
  go_wp2_with fail
  with_reducible refine (HFW.out).mono ?_
  clear cx0 cx1 cx2 cx3 cy0 cy1 cy2 cy3 cv0 cv1 cv2 cv3 cC0
  rintro e x2 ⟨v, rfl, hv, hy⟩
  replace hx := hx.trans hy
  replace Kx := kE Kx hy
  replace Ky := kE Ky hy
  replace Kv := kE Kv hy
  replace KC := kE KC hy
  clear hy
  obtain ⟨np, ap, qp, cp, bp, kp, dp, rfl, hv', hf', hg'⟩ := hv
  have Vp := Lib.hid hv'
  clear hv' hf' hg' HFW
  go_upto_region 4 with fail
  have hl := Ext.alloc x2 (.cells #[.bool np, .slice ap qp cp, .bool false, .slice bp kp dp] 26)
  have lxp : w.heap.size < x2.heap.size := Kx.out.lt
  have lyp : w.heap.size + 1 < x2.heap.size := Ky.out.lt
  have lvp : w.heap.size + 2 < x2.heap.size := Kv.out.lt
  have lCp : cb < x2.heap.size := KC.out.lt
  have hpp : w.heap.size ≤ x2.heap.size := hx.size
  replace hx := hx.trans hl
  replace Kx := kE Kx hl
  replace Ky := kE Ky hl
  replace Kv := kE Kv hl
  replace KC := kE KC hl
  replace Vp := Lib.hid (Vp.out.ext hl)
  have Kp := Lib.hid (Blk.new0 x2 #[.bool np, .slice ap qp cp, .bool false, .slice bp kp dp] 26)
  clear hl
  generalize x2.alloc (.cells #[.bool np, .slice ap qp cp, .bool false, .slice bp kp dp] 26) = x3 at *
  generalize x2.heap.size = pp at *
  obtain ⟨g0, z0⟩ := bp1 KC (.int .i64 0)
  go_upto_region 5 with fail
  clear g0 z0
  replace hx := hx.setSameQ KC.out (i := 0) (v := .int .i64 0) rfl
  replace Vp := rv1 Vp KC (.int .i64 0) rfl
  replace Kx := bo1 Kx cb (.int .i64 0) (by omega)
  replace Ky := bo1 Ky cb (.int .i64 0) (by omega)
  replace Kv := bo1 Kv cb (.int .i64 0) (by omega)
  replace Kp := bo1 Kp cb (.int .i64 0) (by omega)
  replace KC := bs1 KC (.int .i64 0)
  generalize World.setCell x3 ⟨cb, 0, none⟩ (.int .i64 0) = x4 at *
  obtain ⟨cx0, cx1, cx2, cx3⟩ := bk4 Kx
  obtain ⟨cy0, cy1, cy2, cy3⟩ := bk4 Ky
  obtain ⟨cv0, cv1, cv2, cv3⟩ := bk4 Kv
  have cC0 := bk1 KC
  obtain ⟨cp0, cp1, cp2, cp3⟩ := bk4 Kp
  obtain ⟨g0, z0, g1, z1, g2, z2, g3, z3⟩ := bp4 Kv (.bool np) (.slice ap qp cp) (.bool false) (.slice bp kp dp)
  go_wp2_with fail
  clear g0 z0 g1 z1 g2 z2 g3 z3
  clear cx0 cx1 cx2 cx3 cy0 cy1 cy2 cy3 cv0 cv1 cv2 cv3 cC0 cp0 cp1 cp2 cp3
  replace Vp := (by first | exact rv4 Vp Kv (.bool np) (.slice ap qp cp) (.bool false) (.slice bp kp dp) rfl rfl rfl rfl | exact bv4 Vp Kv (.bool np) (.slice ap qp cp) (.bool false) (.slice bp kp dp) rfl rfl rfl rfl)
  replace hx := bx4 hx (w.heap.size + 2) (.bool np) (.slice ap qp cp) (.bool false) (.slice bp kp dp) (by omega)
  replace Kx := bo4 Kx (w.heap.size + 2) (.bool np) (.slice ap qp cp) (.bool false) (.slice bp kp dp) (by omega)
  replace Ky := bo4 Ky (w.heap.size + 2) (.bool np) (.slice ap qp cp) (.bool false) (.slice bp kp dp) (by omega)
  replace Kv := bs4 Kv (.bool np) (.slice ap qp cp) (.bool false) (.slice bp kp dp)
  replace KC := bo4 KC (w.heap.size + 2) (.bool np) (.slice ap qp cp) (.bool false) (.slice bp kp dp) (by omega)
  replace Kp := bo4 Kp (w.heap.size + 2) (.bool np) (.slice ap qp cp) (.bool false) (.slice bp kp dp) (by omega)
  generalize ((((x4).setCell ⟨w.heap.size + 2, 0, none⟩ (.bool np)).setCell ⟨w.heap.size + 2, 1, none⟩ (.slice ap qp cp)).setCell ⟨w.heap.size + 2, 2, none⟩ (.bool false)).setCell ⟨w.heap.size + 2, 3, none⟩ (.slice bp kp dp) = x5 at *
  obtain ⟨cv0, cv1, cv2, cv3⟩ := bk4 Kv
  refine bodyPost_ret (v := .agg #[.bool np, .slice ap qp cp, .bool false, .slice bp kp dp]) (by simp [results, Tryz.results41, go_sem, cv0, cv1, cv2, cv3]) rfl ?_
  exact ⟨_, _, _, _, _, _, _, rfl, Vp.out, hx⟩
set_option maxHeartbeats 2000000 in
theorem calc_doSub {cb : Nat} {nx ny : Bool} {ax bx ay by_ : Option Addr} {qx cx kx dx qy cy ky dy : Nat} {r : Rat} {w : World} (hc : Blk w cb #[.int .i64 0] 53) (hf : ∀ W, Ext w W → Calls Tryz.prog 35 #[.agg #[.bool nx, .slice ax qx cx, .bool false, .slice bx kx dx], .agg #[.bool ny, .slice ay qy cy, .bool false, .slice by_ ky dy]] W (RatP r W)) :
    Calls Tryz.prog 41 #[.pointer (some ⟨cb, 0, none⟩), .func (.func 35) #[] #[], .agg #[.bool nx, .slice ax qx cx, .bool false, .slice bx kx dx], .agg #[.bool ny, .slice ay qy cy, .bool false, .slice by_ ky dy]] w fun e w' => ∃ n a q c b k d, e = .returned (.agg #[.bool n, .slice a q c, .bool false, .slice b k d]) ∧ RatV w' (.agg #[.bool n, .slice a q c, .bool false, .slice b k d]) r ∧ Ext w w' := by
  have hcb := hc.lt
  have HF := Lib.hid hf
  clear hf
  obtain ⟨x1, hw, hx, Kx, Ky, Kv⟩ := boxQ3 w #[.bool nx, .slice ax qx cx, .bool false, .slice bx kx dx] 26 #[.bool ny, .slice ay qy cy, .bool false, .slice by_ ky dy] 26 #[.bool false, .slice none 0 0, .bool false, .slice none 0 0] 26
  replace hw := Lib.hid hw
  have KC := Lib.hid (hc.ext hx)
  have HFW := Lib.hid (HF.out _ hx)
  clear hc HF
  go_enter Tryz.func41, Tryz.ntmps41
  go_upto_region 1 with fail
  try simp only [Nat.add_assoc, Nat.reduceAdd, Nat.add_zero]
  rw [hw.out]
  clear hw
  have hs0 := hx.size
  obtain ⟨cx0, cx1, cx2, cx3⟩ := bk4 Kx
  obtain ⟨cy0, cy1, cy2, cy3⟩ := bk4 Ky
  obtain ⟨cv0, cv1, cv2, cv3⟩ := bk4 Kv
  have cC0 := bk1 KC
  go_wp2_with fail
  with_reducible refine (HFW.out).mono ?_
  clear cx0 cx1 cx2 cx3 cy0 cy1 cy2 cy3 cv0 cv1 cv2 cv3 cC0
  rintro e x2 ⟨v, rfl, hv, hy⟩
  replace hx := hx.trans hy
  replace Kx := kE Kx hy
  replace Ky := kE Ky hy
  replace Kv := kE Kv hy
  replace KC := kE KC hy
  clear hy
  obtain ⟨np, ap, qp, cp, bp, kp, dp, rfl, hv', hf', hg'⟩ := hv
  have Vp := Lib.hid hv'
  clear hv' hf' hg' HFW
  go_upto_region 4 with fail
  have hl := Ext.alloc x2 (.cells #[.bool np, .slice ap qp cp, .bool false, .slice bp kp dp] 26)
  have lxp : w.heap.size < x2.heap.size := Kx.out.lt
  have lyp : w.heap.size + 1 < x2.heap.size := Ky.out.lt
  have lvp : w.heap.size + 2 < x2.heap.size := Kv.out.lt
  have lCp : cb < x2.heap.size := KC.out.lt
  have hpp : w.heap.size ≤ x2.heap.size := hx.size
  replace hx := hx.trans hl
  replace Kx := kE Kx hl
  replace Ky := kE Ky hl
  replace Kv := kE Kv hl
  replace KC := kE KC hl
  replace Vp := Lib.hid (Vp.out.ext hl)
  have Kp := Lib.hid (Blk.new0 x2 #[.bool np, .slice ap qp cp, .bool false, .slice bp kp dp] 26)
  clear hl
  generalize x2.alloc (.cells #[.bool np, .slice ap qp cp, .bool false, .slice bp kp dp] 26) = x3 at *
  generalize x2.heap.size = pp at *
  obtain ⟨g0, z0⟩ := bp1 KC (.int .i64 0)
  go_upto_region 5 with fail
  clear g0 z0
  replace hx := hx.setSameQ KC.out (i := 0) (v := .int .i64 0) rfl
  replace Vp := rv1 Vp KC (.int .i64 0) rfl
  replace Kx := bo1 Kx cb (.int .i64 0) (by omega)
  replace Ky := bo1 Ky cb (.int .i64 0) (by omega)
  replace Kv := bo1 Kv cb (.int .i64 0) (by omega)
  replace Kp := bo1 Kp cb (.int .i64 0) (by omega)
  replace KC := bs1 KC (.int .i64 0)
  generalize World.setCell x3 ⟨cb, 0, none⟩ (.int .i64 0) = x4 at *
  obtain ⟨cx0, cx1, cx2, cx3⟩ := bk4 Kx
  obtain ⟨cy0, cy1, cy2, cy3⟩ := bk4 Ky
  obtain ⟨cv0, cv1, cv2, cv3⟩ := bk4 Kv
  have cC0 := bk1 KC
  obtain ⟨cp0, cp1, cp2, cp3⟩ := bk4 Kp
  obtain ⟨g0, z0, g1, z1, g2, z2, g3, z3⟩ := bp4 Kv (.bool np) (.slice ap qp cp) (.bool false) (.slice bp kp dp)
  go_wp2_with fail
  clear g0 z0 g1 z1 g2 z2 g3 z3
  clear cx0 cx1 cx2 cx3 cy0 cy1 cy2 cy3 cv0 cv1 cv2 cv3 cC0 cp0 cp1 cp2 cp3
  replace Vp := (by first | exact rv4 Vp Kv (.bool np) (.slice ap qp cp) (.bool false) (.slice bp kp dp) rfl rfl rfl rfl | exact bv4 Vp Kv (.bool np) (.slice ap qp cp) (.bool false) (.slice bp kp dp) rfl rfl rfl rfl)
  replace hx := bx4 hx (w.heap.size + 2) (.bool np) (.slice ap qp cp) (.bool false) (.slice bp kp dp) (by omega)
  replace Kx := bo4 Kx (w.heap.size + 2) (.bool np) (.slice ap qp cp) (.bool false) (.slice bp kp dp) (by omega)
  replace Ky := bo4 Ky (w.heap.size + 2) (.bool np) (.slice ap qp cp) (.bool false) (.slice bp kp dp) (by omega)
  replace Kv := bs4 Kv (.bool np) (.slice ap qp cp) (.bool false) (.slice bp kp dp)
  replace KC := bo4 KC (w.heap.size + 2) (.bool np) (.slice ap qp cp) (.bool false) (.slice bp kp dp) (by omega)
  replace Kp := bo4 Kp (w.heap.size + 2) (.bool np) (.slice ap qp cp) (.bool false) (.slice bp kp dp) (by omega)
  generalize ((((x4).setCell ⟨w.heap.size + 2, 0, none⟩ (.bool np)).setCell ⟨w.heap.size + 2, 1, none⟩ (.slice ap qp cp)).setCell ⟨w.heap.size + 2, 2, none⟩ (.bool false)).setCell ⟨w.heap.size + 2, 3, none⟩ (.slice bp kp dp) = x5 at *
  obtain ⟨cv0, cv1, cv2, cv3⟩ := bk4 Kv
  refine bodyPost_ret (v := .agg #[.bool np, .slice ap qp cp, .bool false, .slice bp kp dp]) (by simp [results, Tryz.results41, go_sem, cv0, cv1, cv2, cv3]) rfl ?_
  exact ⟨_, _, _, _, _, _, _, rfl, Vp.out, hx⟩
set_option maxHeartbeats 2000000 in
theorem calc_doMul {cb : Nat} {nx ny : Bool} {ax bx ay by_ : Option Addr} {qx cx kx dx qy cy ky dy : Nat} {r : Rat} {w : World} (hc : Blk w cb #[.int .i64 0] 53) (hf : ∀ W, Ext w W → Calls Tryz.prog 37 #[.agg #[.bool nx, .slice ax qx cx, .bool false, .slice bx kx dx], .agg #[.bool ny, .slice ay qy cy, .bool false, .slice by_ ky dy]] W (RatP r W)) :
    Calls Tryz.prog 41 #[.pointer (some ⟨cb, 0, none⟩), .func (.func 37) #[] #[], .agg #[.bool nx, .slice ax qx cx, .bool false, .slice bx kx dx], .agg #[.bool ny, .slice ay qy cy, .bool false, .slice by_ ky dy]] w fun e w' => ∃ n a q c b k d, e = .returned (.agg #[.bool n, .slice a q c, .bool false, .slice b k d]) ∧ RatV w' (.agg #[.bool n, .slice a q c, .bool false, .slice b k d]) r ∧ Ext w w' := by
  have hcb := hc.lt
  have HF := Lib.hid hf
  clear hf
  obtain ⟨x1, hw, hx, Kx, Ky, Kv⟩ := boxQ3 w #[.bool nx, .slice ax qx cx, .bool false, .slice bx kx dx] 26 #[.bool ny, .slice ay qy cy, .bool false, .slice by_ ky dy] 26 #[.bool false, .slice none 0 0, .bool false, .slice none 0 0] 26
  replace hw := Lib.hid hw
  have KC := Lib.hid (hc.ext hx)
  have HFW := Lib.hid (HF.out _ hx)
  clear hc HF
  go_enter Tryz.func41, Tryz.ntmps41
  go_upto_region 1 with fail
  try simp only [Nat.add_assoc, Nat.reduceAdd, Nat.add_zero]
  rw [hw.out]
  clear hw
  have hs0 := hx.size
  obtain ⟨cx0, cx1, cx2, cx3⟩ := bk4 Kx
  obtain ⟨cy0, cy1, cy2, cy3⟩ := bk4 Ky
  obtain ⟨cv0, cv1, cv2, cv3⟩ := bk4 Kv
  have cC0 := bk1 KC
  go_wp2_with fail
  with_reducible refine (HFW.out).mono ?_
  clear cx0 cx1 cx2 cx3 cy0 cy1 cy2 cy3 cv0 cv1 cv2 cv3 cC0
  rintro e x2 ⟨v, rfl, hv, hy⟩
  replace hx := hx.trans hy
  replace Kx := kE Kx hy
  replace Ky := kE Ky hy
  replace Kv := kE Kv hy
  replace KC := kE KC hy
  clear hy
  obtain ⟨np, ap, qp, cp, bp, kp, dp, rfl, hv', hf', hg'⟩ := hv
  have Vp := Lib.hid hv'
  clear hv' hf' hg' HFW
  go_upto_region 4 with fail
  have hl := Ext.alloc x2 (.cells #[.bool np, .slice ap qp cp, .bool false, .slice bp kp dp] 26)
  have lxp : w.heap.size < x2.heap.size := Kx.out.lt
  have lyp : w.heap.size + 1 < x2.heap.size := Ky.out.lt
  have lvp : w.heap.size + 2 < x2.heap.size := Kv.out.lt
  have lCp : cb < x2.heap.size := KC.out.lt
  have hpp : w.heap.size ≤ x2.heap.size := hx.size
  replace hx := hx.trans hl
  replace Kx := kE Kx hl
  replace Ky := kE Ky hl
  replace Kv := kE Kv hl
  replace KC := kE KC hl
  replace Vp := Lib.hid (Vp.out.ext hl)
  have Kp := Lib.hid (Blk.new0 x2 #[.bool np, .slice ap qp cp, .bool false, .slice bp kp dp] 26)
  clear hl
  generalize x2.alloc (.cells #[.bool np, .slice ap qp cp, .bool false, .slice bp kp dp] 26) = x3 at *
  generalize x2.heap.size = pp at *
  obtain ⟨g0, z0⟩ := bp1 KC (.int .i64 0)
  go_upto_region 5 with fail
  clear g0 z0
  replace hx := hx.setSameQ KC.out (i := 0) (v := .int .i64 0) rfl
  replace Vp := rv1 Vp KC (.int .i64 0) rfl
  replace Kx := bo1 Kx cb (.int .i64 0) (by omega)
  replace Ky := bo1 Ky cb (.int .i64 0) (by omega)
  replace Kv := bo1 Kv cb (.int .i64 0) (by omega)
  replace Kp := bo1 Kp cb (.int .i64 0) (by omega)
  replace KC := bs1 KC (.int .i64 0)
  generalize World.setCell x3 ⟨cb, 0, none⟩ (.int .i64 0) = x4 at *
  obtain ⟨cx0, cx1, cx2, cx3⟩ := bk4 Kx
  obtain ⟨cy0, cy1, cy2, cy3⟩ := bk4 Ky
  obtain ⟨cv0, cv1, cv2, cv3⟩ := bk4 Kv
  have cC0 := bk1 KC
  obtain ⟨cp0, cp1, cp2, cp3⟩ := bk4 Kp
  obtain ⟨g0, z0, g1, z1, g2, z2, g3, z3⟩ := bp4 Kv (.bool np) (.slice ap qp cp) (.bool false) (.slice bp kp dp)
  go_wp2_with fail
  clear g0 z0 g1 z1 g2 z2 g3 z3
  clear cx0 cx1 cx2 cx3 cy0 cy1 cy2 cy3 cv0 cv1 cv2 cv3 cC0 cp0 cp1 cp2 cp3
  replace Vp := (by first | exact rv4 Vp Kv (.bool np) (.slice ap qp cp) (.bool false) (.slice bp kp dp) rfl rfl rfl rfl | exact bv4 Vp Kv (.bool np) (.slice ap qp cp) (.bool false) (.slice bp kp dp) rfl rfl rfl rfl)
  replace hx := bx4 hx (w.heap.size + 2) (.bool np) (.slice ap qp cp) (.bool false) (.slice bp kp dp) (by omega)
  replace Kx := bo4 Kx (w.heap.size + 2) (.bool np) (.slice ap qp cp) (.bool false) (.slice bp kp dp) (by omega)
  replace Ky := bo4 Ky (w.heap.size + 2) (.bool np) (.slice ap qp cp) (.bool false) (.slice bp kp dp) (by omega)
  replace Kv := bs4 Kv (.bool np) (.slice ap qp cp) (.bool false) (.slice bp kp dp)
  replace KC := bo4 KC (w.heap.size + 2) (.bool np) (.slice ap qp cp) (.bool false) (.slice bp kp dp) (by omega)
  replace Kp := bo4 Kp (w.heap.size + 2) (.bool np) (.slice ap qp cp) (.bool false) (.slice bp kp dp) (by omega)
  generalize ((((x4).setCell ⟨w.heap.size + 2, 0, none⟩ (.bool np)).setCell ⟨w.heap.size + 2, 1, none⟩ (.slice ap qp cp)).setCell ⟨w.heap.size + 2, 2, none⟩ (.bool false)).setCell ⟨w.heap.size + 2, 3, none⟩ (.slice bp kp dp) = x5 at *
  obtain ⟨cv0, cv1, cv2, cv3⟩ := bk4 Kv
  refine bodyPost_ret (v := .agg #[.bool np, .slice ap qp cp, .bool false, .slice bp kp dp]) (by simp [results, Tryz.results41, go_sem, cv0, cv1, cv2, cv3]) rfl ?_
  exact ⟨_, _, _, _, _, _, _, rfl, Vp.out, hx⟩
set_option maxHeartbeats 2000000 in
theorem calc_doQuo {cb : Nat} {nx ny : Bool} {ax bx ay by_ : Option Addr} {qx cx kx dx qy cy ky dy : Nat} {r : Rat} {w : World} (hc : Blk w cb #[.int .i64 0] 53) (hf : ∀ W, Ext w W → Calls Tryz.prog 39 #[.agg #[.bool nx, .slice ax qx cx, .bool false, .slice bx kx dx], .agg #[.bool ny, .slice ay qy cy, .bool false, .slice by_ ky dy]] W (RatP r W)) :
    Calls Tryz.prog 41 #[.pointer (some ⟨cb, 0, none⟩), .func (.func 39) #[] #[], .agg #[.bool nx, .slice ax qx cx, .bool false, .slice bx kx dx], .agg #[.bool ny, .slice ay qy cy, .bool false, .slice by_ ky dy]] w fun e w' => ∃ n a q c b k d, e = .returned (.agg #[.bool n, .slice a q c, .bool false, .slice b k d]) ∧ RatV w' (.agg #[.bool n, .slice a q c, .bool false, .slice b k d]) r ∧ Ext w w' := by
  have hcb := hc.lt
  have HF := Lib.hid hf
  clear hf
  obtain ⟨x1, hw, hx, Kx, Ky, Kv⟩ := boxQ3 w #[.bool nx, .slice ax qx cx, .bool false, .slice bx kx dx] 26 #[.bool ny, .slice ay qy cy, .bool false, .slice by_ ky dy] 26 #[.bool false, .slice none 0 0, .bool false, .slice none 0 0] 26
  replace hw := Lib.hid hw
  have KC := Lib.hid (hc.ext hx)
  have HFW := Lib.hid (HF.out _ hx)
  clear hc HF
  go_enter Tryz.func41, Tryz.ntmps41
  go_upto_region 1 with fail
  try simp only [Nat.add_assoc, Nat.reduceAdd, Nat.add_zero]
  rw [hw.out]
  clear hw
  have hs0 := hx.size
  obtain ⟨cx0, cx1, cx2, cx3⟩ := bk4 Kx
  obtain ⟨cy0, cy1, cy2, cy3⟩ := bk4 Ky
  obtain ⟨cv0, cv1, cv2, cv3⟩ := bk4 Kv
  have cC0 := bk1 KC
  go_wp2_with fail
  with_reducible refine (HFW.out).mono ?_
  clear cx0 cx1 cx2 cx3 cy0 cy1 cy2 cy3 cv0 cv1 cv2 cv3 cC0
  rintro e x2 ⟨v, rfl, hv, hy⟩
  replace hx := hx.trans hy
  replace Kx := kE Kx hy
  replace Ky := kE Ky hy
  replace Kv := kE Kv hy
  replace KC := kE KC hy
  clear hy
  obtain ⟨np, ap, qp, cp, bp, kp, dp, rfl, hv', hf', hg'⟩ := hv
  have Vp := Lib.hid hv'
  clear hv' hf' hg' HFW
  go_upto_region 4 with fail
  have hl := Ext.alloc x2 (.cells #[.bool np, .slice ap qp cp, .bool false, .slice bp kp dp] 26)
  have lxp : w.heap.size < x2.heap.size := Kx.out.lt
  have lyp : w.heap.size + 1 < x2.heap.size := Ky.out.lt
  have lvp : w.heap.size + 2 < x2.heap.size := Kv.out.lt
  have lCp : cb < x2.heap.size := KC.out.lt
  have hpp : w.heap.size ≤ x2.heap.size := hx.size
  replace hx := hx.trans hl
  replace Kx := kE Kx hl
  replace Ky := kE Ky hl
  replace Kv := kE Kv hl
  replace KC := kE KC hl
  replace Vp := Lib.hid (Vp.out.ext hl)
  have Kp := Lib.hid (Blk.new0 x2 #[.bool np, .slice ap qp cp, .bool false, .slice bp kp dp] 26)
  clear hl
  generalize x2.alloc (.cells #[.bool np, .slice ap qp cp, .bool false, .slice bp kp dp] 26) = x3 at *
  generalize x2.heap.size = pp at *
  obtain ⟨g0, z0⟩ := bp1 KC (.int .i64 0)
  go_upto_region 5 with fail
  clear g0 z0
  replace hx := hx.setSameQ KC.out (i := 0) (v := .int .i64 0) rfl
  replace Vp := rv1 Vp KC (.int .i64 0) rfl
  replace Kx := bo1 Kx cb (.int .i64 0) (by omega)
  replace Ky := bo1 Ky cb (.int .i64 0) (by omega)
  replace Kv := bo1 Kv cb (.int .i64 0) (by omega)
  replace Kp := bo1 Kp cb (.int .i64 0) (by omega)
  replace KC := bs1 KC (.int .i64 0)
  generalize World.setCell x3 ⟨cb, 0, none⟩ (.int .i64 0) = x4 at *
  obtain ⟨cx0, cx1, cx2, cx3⟩ := bk4 Kx
  obtain ⟨cy0, cy1, cy2, cy3⟩ := bk4 Ky
  obtain ⟨cv0, cv1, cv2, cv3⟩ := bk4 Kv
  have cC0 := bk1 KC
  obtain ⟨cp0, cp1, cp2, cp3⟩ := bk4 Kp
  obtain ⟨g0, z0, g1, z1, g2, z2, g3, z3⟩ := bp4 Kv (.bool np) (.slice ap qp cp) (.bool false) (.slice bp kp dp)
  go_wp2_with fail
  clear g0 z0 g1 z1 g2 z2 g3 z3
  clear cx0 cx1 cx2 cx3 cy0 cy1 cy2 cy3 cv0 cv1 cv2 cv3 cC0 cp0 cp1 cp2 cp3
  replace Vp := (by first | exact rv4 Vp Kv (.bool np) (.slice ap qp cp) (.bool false) (.slice bp kp dp) rfl rfl rfl rfl | exact bv4 Vp Kv (.bool np) (.slice ap qp cp) (.bool false) (.slice bp kp dp) rfl rfl rfl rfl)
  replace hx := bx4 hx (w.heap.size + 2) (.bool np) (.slice ap qp cp) (.bool false) (.slice bp kp dp) (by omega)
  replace Kx := bo4 Kx (w.heap.size + 2) (.bool np) (.slice ap qp cp) (.bool false) (.slice bp kp dp) (by omega)
  replace Ky := bo4 Ky (w.heap.size + 2) (.bool np) (.slice ap qp cp) (.bool false) (.slice bp kp dp) (by omega)
  replace Kv := bs4 Kv (.bool np) (.slice ap qp cp) (.bool false) (.slice bp kp dp)
  replace KC := bo4 KC (w.heap.size + 2) (.bool np) (.slice ap qp cp) (.bool false) (.slice bp kp dp) (by omega)
  replace Kp := bo4 Kp (w.heap.size + 2) (.bool np) (.slice ap qp cp) (.bool false) (.slice bp kp dp) (by omega)
  generalize ((((x4).setCell ⟨w.heap.size + 2, 0, none⟩ (.bool np)).setCell ⟨w.heap.size + 2, 1, none⟩ (.slice ap qp cp)).setCell ⟨w.heap.size + 2, 2, none⟩ (.bool false)).setCell ⟨w.heap.size + 2, 3, none⟩ (.slice bp kp dp) = x5 at *
  obtain ⟨cv0, cv1, cv2, cv3⟩ := bk4 Kv
  refine bodyPost_ret (v := .agg #[.bool np, .slice ap qp cp, .bool false, .slice bp kp dp]) (by simp [results, Tryz.results41, go_sem, cv0, cv1, cv2, cv3]) rfl ?_
  exact ⟨_, _, _, _, _, _, _, rfl, Vp.out, hx⟩
set_option maxHeartbeats 2000000 in
theorem calc_cmp {cb : Nat} {nx ny : Bool} {ax bx ay by_ : Option Addr} {qx cx kx dx qy cy ky dy : Nat} {r s : Rat} {i j : Nat} {z : Int} {w : World} (hc : Blk w cb #[.int .i64 0] 53) (hv : RatV w (.agg #[.bool nx, .slice ax qx cx, .bool false, .slice bx kx dx]) r) (hu : RatV w (.agg #[.bool ny, .slice ay qy cy, .bool false, .slice by_ ky dy]) s) (hr : Sz r i) (hs : Sz s j) (hij : i + j ≤ 2048) (hz : cmpR r s = z) :
    Calls Tryz.prog 42 #[.pointer (some ⟨cb, 0, none⟩), .agg #[.bool nx, .slice ax qx cx, .bool false, .slice bx kx dx], .agg #[.bool ny, .slice ay qy cy, .bool false, .slice by_ ky dy]] w fun e w' => e = .returned (.int .i64 z) ∧ Ext w w' := by
  have hcb := hc.lt
  subst hz
  have HF := Lib.hid (fun W (h : Ext w W) => ratio_Cmp (hv.ext h) (hu.ext h) hr hs hij)
  generalize cmpR r s = z at *
  clear hv hu hr hs hij
  obtain ⟨x1, hw, hx, Kx, Ky⟩ := boxQ2 w #[.bool nx, .slice ax qx cx, .bool false, .slice bx kx dx] 26 #[.bool ny, .slice ay qy cy, .bool false, .slice by_ ky dy] 26
  replace hw := Lib.hid hw
  have KC := Lib.hid (hc.ext hx)
  have HFW := Lib.hid (HF.out _ hx)
  clear hc HF
  go_enter Tryz.func42, Tryz.ntmps42
  go_upto_region 1 with fail
  try simp only [Nat.add_assoc, Nat.reduceAdd, Nat.add_zero]
  rw [hw.out]
  clear hw
  have hs0 := hx.size
  obtain ⟨cx0, cx1, cx2, cx3⟩ := bk4 Kx
  obtain ⟨cy0, cy1, cy2, cy3⟩ := bk4 Ky
  have cC0 := bk1 KC
  go_wp2_with fail
  with_reducible refine (HFW.out).mono ?_
  clear cx0 cx1 cx2 cx3 cy0 cy1 cy2 cy3 cC0
  rintro e x2 ⟨rfl, hy⟩
  replace hx := hx.trans hy
  replace Kx := kE Kx hy
  replace Ky := kE Ky hy
  replace KC := kE KC hy
  clear hy
  go_upto_region 4 with fail
  obtain ⟨g0, z0⟩ := bp1 KC (.int .i64 0)
  go_upto_region 5 with fail
  clear g0 z0
  replace hx := hx.setSameQ KC.out (i := 0) (v := .int .i64 0) rfl
  replace Kx := bo1 Kx cb (.int .i64 0) (by omega)
  replace Ky := bo1 Ky cb (.int .i64 0) (by omega)
  replace KC := bs1 KC (.int .i64 0)
  generalize World.setCell x2 ⟨cb, 0, none⟩ (.int .i64 0) = x3 at *
  go_wp2_with fail
  go_ret
  exact ⟨rfl, hx⟩
theorem same_eqQ {v u : Value} {r s : Rat} {w : World} (hv : RatV w v r) (hu : RatV w u s) (e : r = s) : Calls Tryz.prog 17 #[v, u] w fun e w' => e = .returned (.bool true) ∧ Ext w w' :=
  (same_rat hv hu).mono fun _ _ h => ⟨by rw [h.1, decide_eq_true e], h.2⟩
theorem ratRow3 {W : World} {g : Nat} {x y z : RatA} {t : TypeId} (h : Blk W g #[.bool x.n, .slice x.a x.l.length x.c, .bool x.n2, .slice x.b x.m.length x.d, .bool y.n, .slice y.a y.l.length y.c, .bool y.n2, .slice y.b y.m.length y.d, .bool z.n, .slice z.a z.l.length z.c, .bool z.n2, .slice z.b z.m.length z.d] t) (h1 : RatI W x) (h2 : RatI W y) (h3 : RatI W z) : RatRow W g [x, y, z] where
  c0 := fun i hi => by
    match i, hi with
    | 0, _ => exact h.cell rfl
    | 1, _ => exact h.cell rfl
    | 2, _ => exact h.cell rfl
  c1 := fun i hi => by
    match i, hi with
    | 0, _ => exact h.cell rfl
    | 1, _ => exact h.cell rfl
    | 2, _ => exact h.cell rfl
  c2 := fun i hi => by
    match i, hi with
    | 0, _ => exact h.cell rfl
    | 1, _ => exact h.cell rfl
    | 2, _ => exact h.cell rfl
  c3 := fun i hi => by
    match i, hi with
    | 0, _ => exact h.cell rfl
    | 1, _ => exact h.cell rfl
    | 2, _ => exact h.cell rfl
  i := fun i hi => by
    match i, hi with
    | 0, _ => exact h1.i
    | 1, _ => exact h2.i
    | 2, _ => exact h3.i
  j := fun i hi => by
    match i, hi with
    | 0, _ => exact h1.j
    | 1, _ => exact h2.j
    | 2, _ => exact h3.j
theorem law_few3 {W : World} {gg : Nat} {x y z : RatA} {t : TypeId} (h : Blk W gg #[.bool x.n, .slice x.a x.l.length x.c, .bool x.n2, .slice x.b x.m.length x.d, .bool y.n, .slice y.a y.l.length y.c, .bool y.n2, .slice y.b y.m.length y.d, .bool z.n, .slice z.a z.l.length z.c, .bool z.n2, .slice z.b z.m.length z.d] t) (h1 : RatI W x) (h2 : RatI W y) (h3 : RatI W z) :
    Calls Tryz.prog 24 #[.slice (some ⟨gg, 0, none⟩) 3 3] W fun e w' => e = .returned (.bool (fewL x && (fewL y && fewL z))) ∧ Ext W w' :=
  (law_few gg [x, y, z] W (ratRow3 h h1 h2 h3) (by simp) (fun u hu => by
    simp only [List.mem_cons, List.not_mem_nil, or_false] at hu
    rcases hu with rfl | rfl | rfl
    · exact ⟨Nat.le_trans h1.i.le h1.i.mx, Nat.le_trans h1.j.le h1.j.mx⟩
    · exact ⟨Nat.le_trans h2.i.le h2.i.mx, Nat.le_trans h2.j.le h2.j.mx⟩
    · exact ⟨Nat.le_trans h3.i.le h3.i.mx, Nat.le_trans h3.j.le h3.j.mx⟩)).mono fun e w' hh => ⟨by rw [hh.1]; simp, hh.2⟩
theorem fewL_szF {x : RatA} (h : fewL x = true) : ∃ r : Rat, Sz r 6 ∧ ∀ w, RatI w x → RatV w x.val r := by
  simp only [fewL, Bool.and_eq_true, decide_eq_true_eq] at h
  exact few_sz h.2.2 (by simp [fewR, fewQ, h.1, h.2.1])
/-! the laws of an ordered field. -/
theorem cmpR_swap (r s : Rat) : cmpR s r = -cmpR r s := by
  unfold cmpR
  by_cases h1 : r < s
  · rw [if_pos h1, if_neg (fun h => Rat.not_lt.2 (Rat.le_of_lt h1) h), if_pos h1]; rfl
  · by_cases h2 : s < r
    · rw [if_pos h2, if_neg h1, if_pos h2]
    · rw [if_neg h1, if_neg h2, if_neg h1]; simp [h2]
theorem cmpR_congr {r s p q : Rat} (h1 : p < q ↔ r < s) (h2 : q < p ↔ s < r) : cmpR p q = cmpR r s := by
  unfold cmpR
  simp only [h1, h2]
theorem cmpR_add (r s t : Rat) : cmpR (r + t) (s + t) = cmpR r s := cmpR_congr (by grind) (by grind)
theorem cmpR_mul (r s : Rat) {t : Rat} (h : 0 < t) : cmpR (r * t) (s * t) = cmpR r s := cmpR_congr (Rat.mul_lt_mul_right h) (Rat.mul_lt_mul_right h)
theorem add_sub_selfQ (r s : Rat) : r + s - s = r := by grind
theorem cmpR_le (r s : Rat) : -1 ≤ cmpR r s ∧ cmpR r s ≤ 1 := by
  unfold cmpR
  split
  · omega
  · split <;> omega
theorem ratV_false {w : World} {n m : Bool} {a b : Option Addr} {q c k d : Nat} {r : Rat} (h : RatV w (.agg #[.bool n, .slice a q c, .bool m, .slice b k d]) r) : m = false := by
  obtain ⟨_, _, _, _, _, _, _, e⟩ := h.form
  simp only [Value.agg.injEq, Array.mk.injEq, List.cons.injEq, Value.bool.injEq] at e
  exact e.2.2.1
set_option maxHeartbeats 4000000 in
theorem law_Field_no (x y z : RatA) (w : World) (hx1 : RatI w x) (hy1 : RatI w y) (hz1 : RatI w z) (f0 : (fewL x && (fewL y && fewL z)) = false) : Calls Tryz.prog 8 #[x.val, y.val, z.val] w fun e w' => e = .returned (.bool true) ∧ Ext w w' := by
  have HFW := Lib.hid (fun (W : World) (gg : Nat) (t : TypeId) (hE : Ext w W) (h : Blk W gg #[.bool x.n, .slice x.a x.l.length x.c, .bool x.n2, .slice x.b x.m.length x.d, .bool y.n, .slice y.a y.l.length y.c, .bool y.n2, .slice y.b y.m.length y.d, .bool z.n, .slice z.a z.l.length z.c, .bool z.n2, .slice z.b z.m.length z.d] t) => law_few3 h (hx1.ext hE) (hy1.ext hE) (hz1.ext hE))
  rw [f0] at HFW
  clear hx1 hy1 hz1 f0
  obtain ⟨nx, ax, cx, lx, mx, bx, dx, kx⟩ := x
  obtain ⟨ny, ay, cy, ly, my, by_, dy, ky⟩ := y
  obtain ⟨nz, az, cz, lz, mz, bz, dz, kz⟩ := z
  dsimp only [RatA.val] at *
  obtain ⟨x1, hw, hx, Kx, Ky, Kz⟩ := boxQ3 w #[.bool nx, .slice ax lx.length cx, .bool mx, .slice bx kx.length dx] 26 #[.bool ny, .slice ay ly.length cy, .bool my, .slice by_ ky.length dy] 26 #[.bool nz, .slice az lz.length cz, .bool mz, .slice bz kz.length dz] 26
  replace hw := Lib.hid hw
  go_enter Tryz.func8, Tryz.ntmps8
  go_upto_region 1 with fail
  try simp only [Nat.add_assoc, Nat.reduceAdd, Nat.add_zero]
  rw [hw.out]
  clear hw
  have hs0 := hx.size
  obtain ⟨cx0, cx1, cx2, cx3⟩ := bk4 Kx
  obtain ⟨cy0, cy1, cy2, cy3⟩ := bk4 Ky
  obtain ⟨cz0, cz1, cz2, cz3⟩ := bk4 Kz
  go_wp2_with fail
  with_reducible refine (law10_sane _).mono ?_
  clear cx0 cx1 cx2 cx3 cy0 cy1 cy2 cy3 cz0 cz1 cz2 cz3
  rintro e x2 ⟨rfl, hy⟩
  replace hx := hx.trans hy
  replace Kx := kE Kx hy
  replace Ky := kE Ky hy
  replace Kz := kE Kz hy
  clear hy
  obtain ⟨cx0, cx1, cx2, cx3⟩ := bk4 Kx
  obtain ⟨cy0, cy1, cy2, cy3⟩ := bk4 Ky
  obtain ⟨cz0, cz1, cz2, cz3⟩ := bk4 Kz
  have hl := Ext.alloc x2 (.cells #[.bool nx, .slice ax lx.length cx, .bool mx, .slice bx kx.length dx, .bool ny, .slice ay ly.length cy, .bool my, .slice by_ ky.length dy, .bool nz, .slice az lz.length cz, .bool mz, .slice bz kz.length dz] 26)
  have hKK := Blk.new0 x2 #[.bool nx, .slice ax lx.length cx, .bool mx, .slice bx kx.length dx, .bool ny, .slice ay ly.length cy, .bool my, .slice by_ ky.length dy, .bool nz, .slice az lz.length cz, .bool mz, .slice bz kz.length dz] 26
  have hlx := hx.trans hl
  have HTT := Lib.hid (HFW.out _ _ _ hlx hKK)
  clear hKK hlx
  go_wp2_with fail
  with_reducible refine (HTT.out).mono ?_
  clear cx0 cx1 cx2 cx3 cy0 cy1 cy2 cy3 cz0 cz1 cz2 cz3
  rintro e x3 ⟨rfl, hy⟩
  replace hy := hl.trans hy
  replace hx := hx.trans hy
  replace Kx := kE Kx hy
  replace Ky := kE Ky hy
  replace Kz := kE Kz hy
  clear hy HTT hl
  go_wp2_with fail
  go_ret
  exact ⟨rfl, hx⟩
def findReg (k : Nat) : Code → Option Code
  | .region id ops m => if id == k then some (.region id ops m) else none
  | .seq a b => match findReg k a with
    | some c => some c
    | none => findReg k b
  | .cond _ a b => match findReg k a with
    | some c => some c
    | none => findReg k b
  | .block _ c => findReg k c
  | .loop c => findReg k c
  | .scope c => findReg k c
  | _ => none
set_option maxHeartbeats 8000000 in
theorem field_r7 {nx ny nz : Bool} {ax bx ay by_ az bz : Option Addr} {qx cx kx dx qy cy ky dy qz cz kz dz : Nat} {px py pz pe : Nat} {r s t : Rat} {o : Int} {w w0 : World} {K' : Act → World → Prop} {l0 l1 l2 l6 l10 l11 l12 l13 l14 l15 l16 l17 l18 l19 l20 l21 l22 l23 l24 l25 l26 l27 l28 l29 l30 l31 l32 l33 l34 l35 l36 l37 l38 l39 l40 l41 l42 l43 l44 l45 l46 l47 l48 l49 l50 l51 l52 l53 l54 l55 l56 l57 l58 l59 l60 l61 l62 l63 l64 l65 l66 l67 l68 l69 l70 l71 l72 l73 l74 l75 l76 l77 l78 l79 l80 l81 l82 l83 l84 l85 l86 l87 l88 l89 l90 l91 l92 l93 l94 l95 l96 l97 l98 l99 l100 l101 l102 l103 l104 l105 l106 l107 l108 l109 l110 l111 l112 l113 l114 l115 l116 l117 l118 l119 l120 l121 l122 l123 l124 l125 l126 l127 l128 l129 l130 l131 l132 l133 l134 l135 l136 l137 l138 l139 l140 l141 l142 l143 l144 l145 l146 l147 l148 l149 l150 l151 l152 l153 l154 l155 l156 l157 l158 l159 l160 l161 l162 l163 l164 l165 l166 l167 l168 l169 l170 l171 l172 l173 l174 l175 l176 l177 l178 l179 : Value} (Kx : Hid (Blk w px #[.bool nx, .slice ax qx cx, .bool false, .slice bx kx dx] 26)) (Ky : Hid (Blk w py #[.bool ny, .slice ay qy cy, .bool false, .slice by_ ky dy] 26)) (Kz : Hid (Blk w pz #[.bool nz, .slice az qz cz, .bool false, .slice bz kz dz] 26)) (Ke : Hid (Blk w pe #[.int .i64 0] 53)) (Vx : Hid (RatV w (.agg #[.bool nx, .slice ax qx cx, .bool false, .slice bx kx dx]) r)) (Vy : Hid (RatV w (.agg #[.bool ny, .slice ay qy cy, .bool false, .slice by_ ky dy]) s)) (Vz : Hid (RatV w (.agg #[.bool nz, .slice az qz cz, .bool false, .slice bz kz dz]) t)) (Tx : Hid (Sz r 6)) (Ty : Hid (Sz s 6)) (Tz : Hid (Sz t 6))
    (hfin : ∀ {u20 u21 u22 u23 u24 u25 u26 u27 u28 u29 u30 u31 u32 u33 u34 u35 u36 u37 u38 u39 : Value} {w' : World}, Ext w w' → K' ⟨#[l0, l1, l2, .pointer (some ⟨px, 0, none⟩), .pointer (some ⟨py, 0, none⟩), .pointer (some ⟨pz, 0, none⟩), l6, .pointer (some ⟨pe, 0, none⟩), .func (.func 33) #[] #[], .func (.func 37) #[] #[], .bool true, l11, l12, l13, l14, l15, l16, l17, l18, l19, u20, u21, u22, u23, u24, u25, u26, u27, u28, u29, u30, u31, u32, u33, u34, u35, u36, u37, u38, u39, l40, l41, l42, l43, l44, l45, l46, l47, l48, l49, l50, l51, l52, l53, l54, l55, l56, l57, l58, l59, l60, l61, l62, l63, l64, l65, l66, l67, l68, l69, l70, l71, l72, l73, l74, l75, l76, l77, l78, l79, l80, l81, l82, l83, l84, l85, l86, l87, l88, l89, l90, l91, l92, l93, l94, l95, l96, l97, l98, l99, l100, l101, l102, l103, l104, l105, l106, l107, l108, l109, l110, l111, l112, l113, l114, l115, l116, l117, l118, l119, l120, l121, l122, l123, l124, l125, l126, l127, l128, l129, l130, l131, l132, l133, l134, l135, l136, l137, l138, l139, l140, l141, l142, l143, l144, l145, l146, l147, l148, l149, l150, l151, l152, l153, l154, l155, l156, l157, l158, l159, l160, l161, l162, l163, l164, l165, l166, l167, l168, l169, l170, l171, l172, l173, l174, l175, l176, l177, l178, l179], []⟩ w') :
    Code.wp Tryz.prog ((Tryz.f8.body.bind (findReg 7)).getD .skip) (Exit.then K' (bodyPost Tryz.prog Tryz.f8 fun e w' => e = .returned (.bool true) ∧ Ext w0 w')) ⟨#[l0, l1, l2, .pointer (some ⟨px, 0, none⟩), .pointer (some ⟨py, 0, none⟩), .pointer (some ⟨pz, 0, none⟩), l6, .pointer (some ⟨pe, 0, none⟩), .func (.func 33) #[] #[], .func (.func 37) #[] #[], l10, l11, l12, l13, l14, l15, l16, l17, l18, l19, l20, l21, l22, l23, l24, l25, l26, l27, l28, l29, l30, l31, l32, l33, l34, l35, l36, l37, l38, l39, l40, l41, l42, l43, l44, l45, l46, l47, l48, l49, l50, l51, l52, l53, l54, l55, l56, l57, l58, l59, l60, l61, l62, l63, l64, l65, l66, l67, l68, l69, l70, l71, l72, l73, l74, l75, l76, l77, l78, l79, l80, l81, l82, l83, l84, l85, l86, l87, l88, l89, l90, l91, l92, l93, l94, l95, l96, l97, l98, l99, l100, l101, l102, l103, l104, l105, l106, l107, l108, l109, l110, l111, l112, l113, l114, l115, l116, l117, l118, l119, l120, l121, l122, l123, l124, l125, l126, l127, l128, l129, l130, l131, l132, l133, l134, l135, l136, l137, l138, l139, l140, l141, l142, l143, l144, l145, l146, l147, l148, l149, l150, l151, l152, l153, l154, l155, l156, l157, l158, l159, l160, l161, l162, l163, l164, l165, l166, l167, l168, l169, l170, l171, l172, l173, l174, l175, l176, l177, l178, l179], []⟩ w := by
  conv => arg 2; whnf
  have hx : Ext w w := Ext.refl _
  have s0 : World.cell? w ⟨px, 0, none⟩ = some (.bool nx) := Kx.out.cell (i := 0) (v := .bool nx) rfl
  have s1 : World.cell? w ⟨px, 1, none⟩ = some (.slice ax qx cx) := Kx.out.cell (i := 1) (v := .slice ax qx cx) rfl
  have s2 : World.cell? w ⟨px, 2, none⟩ = some (.bool false) := Kx.out.cell (i := 2) (v := .bool false) rfl
  have s3 : World.cell? w ⟨px, 3, none⟩ = some (.slice bx kx dx) := Kx.out.cell (i := 3) (v := .slice bx kx dx) rfl
  have s4 : World.cell? w ⟨py, 0, none⟩ = some (.bool ny) := Ky.out.cell (i := 0) (v := .bool ny) rfl
  have s5 : World.cell? w ⟨py, 1, none⟩ = some (.slice ay qy cy) := Ky.out.cell (i := 1) (v := .slice ay qy cy) rfl
  have s6 : World.cell? w ⟨py, 2, none⟩ = some (.bool false) := Ky.out.cell (i := 2) (v := .bool false) rfl
  have s7 : World.cell? w ⟨py, 3, none⟩ = some (.slice by_ ky dy) := Ky.out.cell (i := 3) (v := .slice by_ ky dy) rfl
  have hE : Ext w (World.drew w) := (Ext.refl _).drew
  have hyd : Ext w (World.drew w) := (Ext.refl _).drew
  replace hx := hx.trans hyd
  replace Kx := kE Kx hyd
  replace Ky := kE Ky hyd
  replace Kz := kE Kz hyd
  replace Ke := kE Ke hyd
  replace Vx := Lib.hid (Vx.out.ext hyd)
  replace Vy := Lib.hid (Vy.out.ext hyd)
  replace Vz := Lib.hid (Vz.out.ext hyd)
  clear hyd
  replace s0 : World.cell? (World.drew w) ⟨px, 0, none⟩ = some (.bool nx) := s0
  replace s1 : World.cell? (World.drew w) ⟨px, 1, none⟩ = some (.slice ax qx cx) := s1
  replace s2 : World.cell? (World.drew w) ⟨px, 2, none⟩ = some (.bool false) := s2
  replace s3 : World.cell? (World.drew w) ⟨px, 3, none⟩ = some (.slice bx kx dx) := s3
  replace s4 : World.cell? (World.drew w) ⟨py, 0, none⟩ = some (.bool ny) := s4
  replace s5 : World.cell? (World.drew w) ⟨py, 1, none⟩ = some (.slice ay qy cy) := s5
  replace s6 : World.cell? (World.drew w) ⟨py, 2, none⟩ = some (.bool false) := s6
  replace s7 : World.cell? (World.drew w) ⟨py, 3, none⟩ = some (.slice by_ ky dy) := s7
  refine wp_region_held_drew (S := (fun w' => World.cell? w' ⟨px, 0, none⟩ = some (.bool nx) ∧ World.cell? w' ⟨px, 1, none⟩ = some (.slice ax qx cx) ∧ World.cell? w' ⟨px, 2, none⟩ = some (.bool false) ∧ World.cell? w' ⟨px, 3, none⟩ = some (.slice bx kx dx) ∧ World.cell? w' ⟨py, 0, none⟩ = some (.bool ny) ∧ World.cell? w' ⟨py, 1, none⟩ = some (.slice ay qy cy) ∧ World.cell? w' ⟨py, 2, none⟩ = some (.bool false) ∧ World.cell? w' ⟨py, 3, none⟩ = some (.slice by_ ky dy))) (by kernel_rfl) ?_ (fun hHeld => ?_)
  · exact ⟨s0, s1, s2, s3, s4, s5, s6, s7⟩
  (try simp only [← List.toArray_replicate, List.size_toArray, List.length_cons, List.length_nil, Nat.reduceAdd, List.replicate_succ, List.replicate_zero])
  generalize World.drew w = x1 at *
  refine wpAnyH_take (i := 0) (oi := _) (v := ?_) rfl (by kernel_rfl) (by kernel_rfl) (by kernel_rfl) (fun _ _ _ h => h) (Or.inl ⟨by rfl, ?_⟩) (by assumption) ?_
  rotate_left
  · (intro w hSw; (try dsimp only at hSw); (try go_simp); (try with_reducible rfl))
  (try simp only [Act.put, List.getElem_toArray, List.getElem_cons_succ, List.getElem_cons_zero, List.setIfInBounds_toArray, List.set_cons_zero, List.set_cons_succ])
  refine wpAnyH_take (i := 1) (oi := _) (v := ?_) rfl (by kernel_rfl) (by kernel_rfl) (by kernel_rfl) (fun _ _ _ h => h) (Or.inl ⟨by rfl, ?_⟩) (by assumption) ?_
  rotate_left
  · (intro w hSw; (try dsimp only at hSw); (try go_simp); (try with_reducible rfl))
  (try simp only [Act.put, List.getElem_toArray, List.getElem_cons_succ, List.getElem_cons_zero, List.setIfInBounds_toArray, List.set_cons_zero, List.set_cons_succ])
  refine wpAnyH_take (i := 2) (oi := _) (v := ?_) rfl (by kernel_rfl) (by kernel_rfl) (by kernel_rfl) (fun _ _ _ h => h) (Or.inl ⟨by rfl, ?_⟩) (by assumption) ?_
  rotate_left
  · (intro w hSw; (try dsimp only at hSw); (try go_simp); (try with_reducible rfl))
  (try simp only [Act.put, List.getElem_toArray, List.getElem_cons_succ, List.getElem_cons_zero, List.setIfInBounds_toArray, List.set_cons_zero, List.set_cons_succ])
  refine wpAnyH_take (i := 4) (oi := _) (v := ?_) rfl (by kernel_rfl) (by kernel_rfl) (by kernel_rfl) (fun _ _ _ h => h) (Or.inl ⟨by rfl, ?_⟩) (by assumption) ?_
  rotate_left
  · (intro w hSw; (try dsimp only at hSw); (try go_simp); (try with_reducible rfl))
  (try simp only [Act.put, List.getElem_toArray, List.getElem_cons_succ, List.getElem_cons_zero, List.setIfInBounds_toArray, List.set_cons_zero, List.set_cons_succ])
  refine wpAnyH_take (i := 5) (oi := _) (v := ?_) rfl (by kernel_rfl) (by kernel_rfl) (by kernel_rfl) (fun _ _ _ h => h) (Or.inl ⟨by rfl, ?_⟩) (by assumption) ?_
  rotate_left
  · (intro w hSw; (try dsimp only at hSw); (try go_simp); (try with_reducible rfl))
  (try simp only [Act.put, List.getElem_toArray, List.getElem_cons_succ, List.getElem_cons_zero, List.setIfInBounds_toArray, List.set_cons_zero, List.set_cons_succ])
  refine wpAnyH_take (i := 6) (oi := _) (v := ?_) rfl (by kernel_rfl) (by kernel_rfl) (by kernel_rfl) (fun _ _ _ h => h) (Or.inl ⟨by rfl, ?_⟩) (by assumption) ?_
  rotate_left
  · (intro w hSw; (try dsimp only at hSw); (try go_simp); (try with_reducible rfl))
  (try simp only [Act.put, List.getElem_toArray, List.getElem_cons_succ, List.getElem_cons_zero, List.setIfInBounds_toArray, List.set_cons_zero, List.set_cons_succ])
  refine wpAnyH_ready (rs := [3]) (by kernel_rfl) (by simp) ?_
  refine AllReadyH.cons (o := _) rfl (fun K hK => ?_) ?_
  · go_simp
    (with_reducible refine (calc_doAdd Ke.out (fun W h => ratio_Add (Vx.out.ext h) (Vy.out.ext h) Tx.out Ty.out (by omega))).mono ?_); rintro e x2 ⟨n1, a1, q1, c1, b1, k1, d1, rfl, hv, hy⟩; replace hE := hE.trans hy; replace hx := hx.trans hy; replace s0 := cell_exQ hy s0; replace s1 := cell_exQ hy s1; replace s2 := cell_exQ hy s2; replace s3 := cell_exQ hy s3; replace s4 := cell_exQ hy s4; replace s5 := cell_exQ hy s5; replace s6 := cell_exQ hy s6; replace s7 := cell_exQ hy s7; replace Kx := kE Kx hy; replace Ky := kE Ky hy; replace Kz := kE Kz hy; replace Ke := kE Ke hy; replace Vx := Lib.hid (Vx.out.ext hy); replace Vy := Lib.hid (Vy.out.ext hy); replace Vz := Lib.hid (Vz.out.ext hy); clear hy; have V1 := Lib.hid hv; clear hv
    refine hK.out _ _ ?_ (fun hHeld2 => ?_)
    · exact ⟨s0, s1, s2, s3, s4, s5, s6, s7⟩
    clear hK K hHeld
    have hHeld := hHeld2
    clear hHeld2
    (try simp only [Act.put, List.getElem_toArray, List.getElem_cons_succ, List.getElem_cons_zero, List.setIfInBounds_toArray, List.set_cons_zero, List.set_cons_succ])
    refine wpAnyH_ready (rs := [7]) (by kernel_rfl) (by simp) ?_
    refine AllReadyH.cons (o := _) rfl (fun K hK => ?_) ?_
    · go_simp
      (with_reducible refine (calc_doAdd Ke.out (fun W h => ratio_Add (Vy.out.ext h) (Vx.out.ext h) Ty.out Tx.out (by omega))).mono ?_); rintro e x3 ⟨n2, a2, q2, c2, b2, k2, d2, rfl, hv, hy⟩; replace hE := hE.trans hy; replace hx := hx.trans hy; replace s0 := cell_exQ hy s0; replace s1 := cell_exQ hy s1; replace s2 := cell_exQ hy s2; replace s3 := cell_exQ hy s3; replace s4 := cell_exQ hy s4; replace s5 := cell_exQ hy s5; replace s6 := cell_exQ hy s6; replace s7 := cell_exQ hy s7; replace Kx := kE Kx hy; replace Ky := kE Ky hy; replace Kz := kE Kz hy; replace Ke := kE Ke hy; replace Vx := Lib.hid (Vx.out.ext hy); replace Vy := Lib.hid (Vy.out.ext hy); replace Vz := Lib.hid (Vz.out.ext hy); replace V1 := Lib.hid (V1.out.ext hy); clear hy; have V2 := Lib.hid hv; clear hv
      refine hK.out _ _ ?_ (fun hHeld2 => ?_)
      · exact ⟨s0, s1, s2, s3, s4, s5, s6, s7⟩
      clear hK K hHeld
      have hHeld := hHeld2
      clear hHeld2
      (try simp only [Act.put, List.getElem_toArray, List.getElem_cons_succ, List.getElem_cons_zero, List.setIfInBounds_toArray, List.set_cons_zero, List.set_cons_succ])
      refine wpAnyH_ready (rs := [8]) (by kernel_rfl) (by simp) ?_
      refine AllReadyH.cons (o := _) rfl (fun K hK => ?_) ?_
      · go_simp
        (with_reducible refine (same_eqQ V1.out V2.out (Rat.add_comm r s)).mono ?_); rintro e x4 ⟨rfl, hy⟩; replace hE := hE.trans hy; replace hx := hx.trans hy; replace s0 := cell_exQ hy s0; replace s1 := cell_exQ hy s1; replace s2 := cell_exQ hy s2; replace s3 := cell_exQ hy s3; replace s4 := cell_exQ hy s4; replace s5 := cell_exQ hy s5; replace s6 := cell_exQ hy s6; replace s7 := cell_exQ hy s7; replace Kx := kE Kx hy; replace Ky := kE Ky hy; replace Kz := kE Kz hy; replace Ke := kE Ke hy; replace Vx := Lib.hid (Vx.out.ext hy); replace Vy := Lib.hid (Vy.out.ext hy); replace Vz := Lib.hid (Vz.out.ext hy); replace V1 := Lib.hid (V1.out.ext hy); replace V2 := Lib.hid (V2.out.ext hy); clear hy
        refine hK.out _ _ ?_ (fun hHeld2 => ?_)
        · exact ⟨s0, s1, s2, s3, s4, s5, s6, s7⟩
        clear hK K hHeld
        have hHeld := hHeld2
        clear hHeld2
        (try simp only [Act.put, List.getElem_toArray, List.getElem_cons_succ, List.getElem_cons_zero, List.setIfInBounds_toArray, List.set_cons_zero, List.set_cons_succ])
        refine wpAnyH_take (i := 9) (oi := _) (v := ?_) rfl (by kernel_rfl) (by kernel_rfl) (by kernel_rfl) (fun _ _ _ h => h) (Or.inl ⟨by rfl, ?_⟩) (by assumption) ?_
        rotate_left
        · (intro w hSw; (try dsimp only at hSw); (try go_simp); (try with_reducible rfl))
        (try simp only [Act.put, List.getElem_toArray, List.getElem_cons_succ, List.getElem_cons_zero, List.setIfInBounds_toArray, List.set_cons_zero, List.set_cons_succ])
        refine wpAnyH_take (i := 10) (oi := _) (v := ?_) rfl (by kernel_rfl) (by kernel_rfl) (by kernel_rfl) (fun _ _ _ h => h) (Or.inl ⟨by rfl, ?_⟩) (by assumption) ?_
        rotate_left
        · (intro w hSw; (try dsimp only at hSw); (try go_simp); (try with_reducible rfl))
        (try simp only [Act.put, List.getElem_toArray, List.getElem_cons_succ, List.getElem_cons_zero, List.setIfInBounds_toArray, List.set_cons_zero, List.set_cons_succ])
        refine wpAnyH_take (i := 11) (oi := _) (v := ?_) rfl (by kernel_rfl) (by kernel_rfl) (by kernel_rfl) (fun _ _ _ h => h) (Or.inl ⟨by rfl, ?_⟩) (by assumption) ?_
        rotate_left
        · (intro w hSw; (try dsimp only at hSw); (try go_simp); (try with_reducible rfl))
        (try simp only [Act.put, List.getElem_toArray, List.getElem_cons_succ, List.getElem_cons_zero, List.setIfInBounds_toArray, List.set_cons_zero, List.set_cons_succ])
        refine wpAnyH_take (i := 12) (oi := _) (v := ?_) rfl (by kernel_rfl) (by kernel_rfl) (by kernel_rfl) (fun _ _ _ h => h) (Or.inl ⟨by rfl, ?_⟩) (by assumption) ?_
        rotate_left
        · (intro w hSw; (try dsimp only at hSw); (try go_simp); (try with_reducible rfl))
        (try simp only [Act.put, List.getElem_toArray, List.getElem_cons_succ, List.getElem_cons_zero, List.setIfInBounds_toArray, List.set_cons_zero, List.set_cons_succ])
        refine wpAnyH_take (i := 14) (oi := _) (v := ?_) rfl (by kernel_rfl) (by kernel_rfl) (by kernel_rfl) (fun _ _ _ h => h) (Or.inl ⟨by rfl, ?_⟩) (by assumption) ?_
        rotate_left
        · (intro w hSw; (try dsimp only at hSw); (try go_simp); (try with_reducible rfl))
        (try simp only [Act.put, List.getElem_toArray, List.getElem_cons_succ, List.getElem_cons_zero, List.setIfInBounds_toArray, List.set_cons_zero, List.set_cons_succ])
        refine wpAnyH_take (i := 15) (oi := _) (v := ?_) rfl (by kernel_rfl) (by kernel_rfl) (by kernel_rfl) (fun _ _ _ h => h) (Or.inl ⟨by rfl, ?_⟩) (by assumption) ?_
        rotate_left
        · (intro w hSw; (try dsimp only at hSw); (try go_simp); (try with_reducible rfl))
        (try simp only [Act.put, List.getElem_toArray, List.getElem_cons_succ, List.getElem_cons_zero, List.setIfInBounds_toArray, List.set_cons_zero, List.set_cons_succ])
        refine wpAnyH_take (i := 16) (oi := _) (v := ?_) rfl (by kernel_rfl) (by kernel_rfl) (by kernel_rfl) (fun _ _ _ h => h) (Or.inl ⟨by rfl, ?_⟩) (by assumption) ?_
        rotate_left
        · (intro w hSw; (try dsimp only at hSw); (try go_simp); (try with_reducible rfl))
        (try simp only [Act.put, List.getElem_toArray, List.getElem_cons_succ, List.getElem_cons_zero, List.setIfInBounds_toArray, List.set_cons_zero, List.set_cons_succ])
        refine wpAnyH_ready (rs := [13]) (by kernel_rfl) (by simp) ?_
        refine AllReadyH.cons (o := _) rfl (fun K hK => ?_) ?_
        · go_simp
          (with_reducible refine (calc_doMul Ke.out (fun W h => ratio_Mul (Vx.out.ext h) (Vy.out.ext h) Tx.out Ty.out (by omega))).mono ?_); rintro e x5 ⟨n3, a3, q3, c3, b3, k3, d3, rfl, hv, hy⟩; replace hE := hE.trans hy; replace hx := hx.trans hy; replace s0 := cell_exQ hy s0; replace s1 := cell_exQ hy s1; replace s2 := cell_exQ hy s2; replace s3 := cell_exQ hy s3; replace s4 := cell_exQ hy s4; replace s5 := cell_exQ hy s5; replace s6 := cell_exQ hy s6; replace s7 := cell_exQ hy s7; replace Kx := kE Kx hy; replace Ky := kE Ky hy; replace Kz := kE Kz hy; replace Ke := kE Ke hy; replace Vx := Lib.hid (Vx.out.ext hy); replace Vy := Lib.hid (Vy.out.ext hy); replace Vz := Lib.hid (Vz.out.ext hy); replace V1 := Lib.hid (V1.out.ext hy); replace V2 := Lib.hid (V2.out.ext hy); clear hy; have V3 := Lib.hid hv; clear hv
          refine hK.out _ _ ?_ (fun hHeld2 => ?_)
          · exact ⟨s0, s1, s2, s3, s4, s5, s6, s7⟩
          clear hK K hHeld
          have hHeld := hHeld2
          clear hHeld2
          (try simp only [Act.put, List.getElem_toArray, List.getElem_cons_succ, List.getElem_cons_zero, List.setIfInBounds_toArray, List.set_cons_zero, List.set_cons_succ])
          refine wpAnyH_ready (rs := [17]) (by kernel_rfl) (by simp) ?_
          refine AllReadyH.cons (o := _) rfl (fun K hK => ?_) ?_
          · go_simp
            (with_reducible refine (calc_doMul Ke.out (fun W h => ratio_Mul (Vy.out.ext h) (Vx.out.ext h) Ty.out Tx.out (by omega))).mono ?_); rintro e x6 ⟨n4, a4, q4, c4, b4, k4, d4, rfl, hv, hy⟩; replace hE := hE.trans hy; replace hx := hx.trans hy; replace s0 := cell_exQ hy s0; replace s1 := cell_exQ hy s1; replace s2 := cell_exQ hy s2; replace s3 := cell_exQ hy s3; replace s4 := cell_exQ hy s4; replace s5 := cell_exQ hy s5; replace s6 := cell_exQ hy s6; replace s7 := cell_exQ hy s7; replace Kx := kE Kx hy; replace Ky := kE Ky hy; replace Kz := kE Kz hy; replace Ke := kE Ke hy; replace Vx := Lib.hid (Vx.out.ext hy); replace Vy := Lib.hid (Vy.out.ext hy); replace Vz := Lib.hid (Vz.out.ext hy); replace V1 := Lib.hid (V1.out.ext hy); replace V2 := Lib.hid (V2.out.ext hy); replace V3 := Lib.hid (V3.out.ext hy); clear hy; have V4 := Lib.hid hv; clear hv
            refine hK.out _ _ ?_ (fun hHeld2 => ?_)
            · exact ⟨s0, s1, s2, s3, s4, s5, s6, s7⟩
            clear hK K hHeld
            have hHeld := hHeld2
            clear hHeld2
            (try simp only [Act.put, List.getElem_toArray, List.getElem_cons_succ, List.getElem_cons_zero, List.setIfInBounds_toArray, List.set_cons_zero, List.set_cons_succ])
            refine wpAnyH_ready (rs := [18]) (by kernel_rfl) (by simp) ?_
            refine AllReadyH.cons (o := _) rfl (fun K hK => ?_) ?_
            · go_simp
              (with_reducible refine (same_eqQ V3.out V4.out (Rat.mul_comm r s)).mono ?_); rintro e x7 ⟨rfl, hy⟩; replace hE := hE.trans hy; replace hx := hx.trans hy; replace s0 := cell_exQ hy s0; replace s1 := cell_exQ hy s1; replace s2 := cell_exQ hy s2; replace s3 := cell_exQ hy s3; replace s4 := cell_exQ hy s4; replace s5 := cell_exQ hy s5; replace s6 := cell_exQ hy s6; replace s7 := cell_exQ hy s7; replace Kx := kE Kx hy; replace Ky := kE Ky hy; replace Kz := kE Kz hy; replace Ke := kE Ke hy; replace Vx := Lib.hid (Vx.out.ext hy); replace Vy := Lib.hid (Vy.out.ext hy); replace Vz := Lib.hid (Vz.out.ext hy); replace V1 := Lib.hid (V1.out.ext hy); replace V2 := Lib.hid (V2.out.ext hy); replace V3 := Lib.hid (V3.out.ext hy); replace V4 := Lib.hid (V4.out.ext hy); clear hy
              refine hK.out _ _ ?_ (fun hHeld2 => ?_)
              · exact ⟨s0, s1, s2, s3, s4, s5, s6, s7⟩
              clear hK K hHeld
              have hHeld := hHeld2
              clear hHeld2
              (try simp only [Act.put, List.getElem_toArray, List.getElem_cons_succ, List.getElem_cons_zero, List.setIfInBounds_toArray, List.set_cons_zero, List.set_cons_succ])
              refine wpAnyH_take (i := 19) (oi := _) (v := ?_) rfl (by kernel_rfl) (by kernel_rfl) (by kernel_rfl) (fun _ _ _ h => h) (Or.inl ⟨by rfl, ?_⟩) (by assumption) ?_
              rotate_left
              · (intro w hSw; (try dsimp only at hSw); (try go_simp); (try with_reducible rfl))
              (try simp only [Act.put, List.getElem_toArray, List.getElem_cons_succ, List.getElem_cons_zero, List.setIfInBounds_toArray, List.set_cons_zero, List.set_cons_succ])
              refine wpAnyH_take (i := 20) (oi := _) (v := ?_) rfl (by kernel_rfl) (by kernel_rfl) (by kernel_rfl) (fun _ _ _ h => h) (Or.inl ⟨by rfl, ?_⟩) (by assumption) ?_
              rotate_left
              · (intro w hSw; (try dsimp only at hSw); (try go_simp); (try with_reducible rfl))
              (try simp only [Act.put, List.getElem_toArray, List.getElem_cons_succ, List.getElem_cons_zero, List.setIfInBounds_toArray, List.set_cons_zero, List.set_cons_succ])
              refine wpAnyH_done (by kernel_rfl) ?_ _
              show K' _ _
              refine hfin ?_
              exact hE
            exact AllReadyH.nil
          exact AllReadyH.nil
        exact AllReadyH.nil
      exact AllReadyH.nil
    exact AllReadyH.nil
  exact AllReadyH.nil
set_option maxHeartbeats 8000000 in
theorem field_r8 {nx ny nz : Bool} {ax bx ay by_ az bz : Option Addr} {qx cx kx dx qy cy ky dy qz cz kz dz : Nat} {px py pz pe : Nat} {r s t : Rat} {o : Int} {w w0 : World} {K' : Act → World → Prop} {l0 l1 l2 l6 l11 l12 l13 l14 l15 l16 l17 l18 l19 l20 l21 l22 l23 l24 l25 l26 l27 l28 l29 l30 l31 l32 l33 l34 l35 l36 l37 l38 l39 l40 l41 l42 l43 l44 l45 l46 l47 l48 l49 l50 l51 l52 l53 l54 l55 l56 l57 l58 l59 l60 l61 l62 l63 l64 l65 l66 l67 l68 l69 l70 l71 l72 l73 l74 l75 l76 l77 l78 l79 l80 l81 l82 l83 l84 l85 l86 l87 l88 l89 l90 l91 l92 l93 l94 l95 l96 l97 l98 l99 l100 l101 l102 l103 l104 l105 l106 l107 l108 l109 l110 l111 l112 l113 l114 l115 l116 l117 l118 l119 l120 l121 l122 l123 l124 l125 l126 l127 l128 l129 l130 l131 l132 l133 l134 l135 l136 l137 l138 l139 l140 l141 l142 l143 l144 l145 l146 l147 l148 l149 l150 l151 l152 l153 l154 l155 l156 l157 l158 l159 l160 l161 l162 l163 l164 l165 l166 l167 l168 l169 l170 l171 l172 l173 l174 l175 l176 l177 l178 l179 : Value} (Kx : Hid (Blk w px #[.bool nx, .slice ax qx cx, .bool false, .slice bx kx dx] 26)) (Ky : Hid (Blk w py #[.bool ny, .slice ay qy cy, .bool false, .slice by_ ky dy] 26)) (Kz : Hid (Blk w pz #[.bool nz, .slice az qz cz, .bool false, .slice bz kz dz] 26)) (Ke : Hid (Blk w pe #[.int .i64 0] 53)) (Vx : Hid (RatV w (.agg #[.bool nx, .slice ax qx cx, .bool false, .slice bx kx dx]) r)) (Vy : Hid (RatV w (.agg #[.bool ny, .slice ay qy cy, .bool false, .slice by_ ky dy]) s)) (Vz : Hid (RatV w (.agg #[.bool nz, .slice az qz cz, .bool false, .slice bz kz dz]) t)) (Tx : Hid (Sz r 6)) (Ty : Hid (Sz s 6)) (Tz : Hid (Sz t 6))
    (hfin : ∀ {u40 u41 u42 u43 u44 u45 u46 u47 u48 u49 u50 u51 u52 u53 u54 u55 u56 u57 : Value} {w' : World}, Ext w w' → K' ⟨#[l0, l1, l2, .pointer (some ⟨px, 0, none⟩), .pointer (some ⟨py, 0, none⟩), .pointer (some ⟨pz, 0, none⟩), l6, .pointer (some ⟨pe, 0, none⟩), .func (.func 33) #[] #[], .func (.func 37) #[] #[], .bool true, l11, l12, l13, l14, l15, l16, l17, l18, l19, l20, l21, l22, l23, l24, l25, l26, l27, l28, l29, l30, l31, l32, l33, l34, l35, l36, l37, l38, l39, u40, u41, u42, u43, u44, u45, u46, u47, u48, u49, u50, u51, u52, u53, u54, u55, u56, u57, l58, l59, l60, l61, l62, l63, l64, l65, l66, l67, l68, l69, l70, l71, l72, l73, l74, l75, l76, l77, l78, l79, l80, l81, l82, l83, l84, l85, l86, l87, l88, l89, l90, l91, l92, l93, l94, l95, l96, l97, l98, l99, l100, l101, l102, l103, l104, l105, l106, l107, l108, l109, l110, l111, l112, l113, l114, l115, l116, l117, l118, l119, l120, l121, l122, l123, l124, l125, l126, l127, l128, l129, l130, l131, l132, l133, l134, l135, l136, l137, l138, l139, l140, l141, l142, l143, l144, l145, l146, l147, l148, l149, l150, l151, l152, l153, l154, l155, l156, l157, l158, l159, l160, l161, l162, l163, l164, l165, l166, l167, l168, l169, l170, l171, l172, l173, l174, l175, l176, l177, l178, l179], []⟩ w') :
    Code.wp Tryz.prog ((Tryz.f8.body.bind (findReg 8)).getD .skip) (Exit.then K' (bodyPost Tryz.prog Tryz.f8 fun e w' => e = .returned (.bool true) ∧ Ext w0 w')) ⟨#[l0, l1, l2, .pointer (some ⟨px, 0, none⟩), .pointer (some ⟨py, 0, none⟩), .pointer (some ⟨pz, 0, none⟩), l6, .pointer (some ⟨pe, 0, none⟩), .func (.func 33) #[] #[], .func (.func 37) #[] #[], .bool true, l11, l12, l13, l14, l15, l16, l17, l18, l19, l20, l21, l22, l23, l24, l25, l26, l27, l28, l29, l30, l31, l32, l33, l34, l35, l36, l37, l38, l39, l40, l41, l42, l43, l44, l45, l46, l47, l48, l49, l50, l51, l52, l53, l54, l55, l56, l57, l58, l59, l60, l61, l62, l63, l64, l65, l66, l67, l68, l69, l70, l71, l72, l73, l74, l75, l76, l77, l78, l79, l80, l81, l82, l83, l84, l85, l86, l87, l88, l89, l90, l91, l92, l93, l94, l95, l96, l97, l98, l99, l100, l101, l102, l103, l104, l105, l106, l107, l108, l109, l110, l111, l112, l113, l114, l115, l116, l117, l118, l119, l120, l121, l122, l123, l124, l125, l126, l127, l128, l129, l130, l131, l132, l133, l134, l135, l136, l137, l138, l139, l140, l141, l142, l143, l144, l145, l146, l147, l148, l149, l150, l151, l152, l153, l154, l155, l156, l157, l158, l159, l160, l161, l162, l163, l164, l165, l166, l167, l168, l169, l170, l171, l172, l173, l174, l175, l176, l177, l178, l179], []⟩ w := by
  conv => arg 2; whnf
  have hx : Ext w w := Ext.refl _
  have s0 : World.cell? w ⟨px, 0, none⟩ = some (.bool nx) := Kx.out.cell (i := 0) (v := .bool nx) rfl
  have s1 : World.cell? w ⟨px, 1, none⟩ = some (.slice ax qx cx) := Kx.out.cell (i := 1) (v := .slice ax qx cx) rfl
  have s2 : World.cell? w ⟨px, 2, none⟩ = some (.bool false) := Kx.out.cell (i := 2) (v := .bool false) rfl
  have s3 : World.cell? w ⟨px, 3, none⟩ = some (.slice bx kx dx) := Kx.out.cell (i := 3) (v := .slice bx kx dx) rfl
  have s4 : World.cell? w ⟨py, 0, none⟩ = some (.bool ny) := Ky.out.cell (i := 0) (v := .bool ny) rfl
  have s5 : World.cell? w ⟨py, 1, none⟩ = some (.slice ay qy cy) := Ky.out.cell (i := 1) (v := .slice ay qy cy) rfl
  have s6 : World.cell? w ⟨py, 2, none⟩ = some (.bool false) := Ky.out.cell (i := 2) (v := .bool false) rfl
  have s7 : World.cell? w ⟨py, 3, none⟩ = some (.slice by_ ky dy) := Ky.out.cell (i := 3) (v := .slice by_ ky dy) rfl
  have s8 : World.cell? w ⟨pz, 0, none⟩ = some (.bool nz) := Kz.out.cell (i := 0) (v := .bool nz) rfl
  have s9 : World.cell? w ⟨pz, 1, none⟩ = some (.slice az qz cz) := Kz.out.cell (i := 1) (v := .slice az qz cz) rfl
  have s10 : World.cell? w ⟨pz, 2, none⟩ = some (.bool false) := Kz.out.cell (i := 2) (v := .bool false) rfl
  have s11 : World.cell? w ⟨pz, 3, none⟩ = some (.slice bz kz dz) := Kz.out.cell (i := 3) (v := .slice bz kz dz) rfl
  have hE : Ext w (World.drew w) := (Ext.refl _).drew
  have hyd : Ext w (World.drew w) := (Ext.refl _).drew
  replace hx := hx.trans hyd
  replace Kx := kE Kx hyd
  replace Ky := kE Ky hyd
  replace Kz := kE Kz hyd
  replace Ke := kE Ke hyd
  replace Vx := Lib.hid (Vx.out.ext hyd)
  replace Vy := Lib.hid (Vy.out.ext hyd)
  replace Vz := Lib.hid (Vz.out.ext hyd)
  clear hyd
  replace s0 : World.cell? (World.drew w) ⟨px, 0, none⟩ = some (.bool nx) := s0
  replace s1 : World.cell? (World.drew w) ⟨px, 1, none⟩ = some (.slice ax qx cx) := s1
  replace s2 : World.cell? (World.drew w) ⟨px, 2, none⟩ = some (.bool false) := s2
  replace s3 : World.cell? (World.drew w) ⟨px, 3, none⟩ = some (.slice bx kx dx) := s3
  replace s4 : World.cell? (World.drew w) ⟨py, 0, none⟩ = some (.bool ny) := s4
  replace s5 : World.cell? (World.drew w) ⟨py, 1, none⟩ = some (.slice ay qy cy) := s5
  replace s6 : World.cell? (World.drew w) ⟨py, 2, none⟩ = some (.bool false) := s6
  replace s7 : World.cell? (World.drew w) ⟨py, 3, none⟩ = some (.slice by_ ky dy) := s7
  replace s8 : World.cell? (World.drew w) ⟨pz, 0, none⟩ = some (.bool nz) := s8
  replace s9 : World.cell? (World.drew w) ⟨pz, 1, none⟩ = some (.slice az qz cz) := s9
  replace s10 : World.cell? (World.drew w) ⟨pz, 2, none⟩ = some (.bool false) := s10
  replace s11 : World.cell? (World.drew w) ⟨pz, 3, none⟩ = some (.slice bz kz dz) := s11
  refine wp_region_held_drew (S := (fun w' => World.cell? w' ⟨px, 0, none⟩ = some (.bool nx) ∧ World.cell? w' ⟨px, 1, none⟩ = some (.slice ax qx cx) ∧ World.cell? w' ⟨px, 2, none⟩ = some (.bool false) ∧ World.cell? w' ⟨px, 3, none⟩ = some (.slice bx kx dx) ∧ World.cell? w' ⟨py, 0, none⟩ = some (.bool ny) ∧ World.cell? w' ⟨py, 1, none⟩ = some (.slice ay qy cy) ∧ World.cell? w' ⟨py, 2, none⟩ = some (.bool false) ∧ World.cell? w' ⟨py, 3, none⟩ = some (.slice by_ ky dy) ∧ World.cell? w' ⟨pz, 0, none⟩ = some (.bool nz) ∧ World.cell? w' ⟨pz, 1, none⟩ = some (.slice az qz cz) ∧ World.cell? w' ⟨pz, 2, none⟩ = some (.bool false) ∧ World.cell? w' ⟨pz, 3, none⟩ = some (.slice bz kz dz))) (by kernel_rfl) ?_ (fun hHeld => ?_)
  · exact ⟨s0, s1, s2, s3, s4, s5, s6, s7, s8, s9, s10, s11⟩
  (try simp only [← List.toArray_replicate, List.size_toArray, List.length_cons, List.length_nil, Nat.reduceAdd, List.replicate_succ, List.replicate_zero])
  generalize World.drew w = x1 at *
  refine wpAnyH_take (i := 0) (oi := _) (v := ?_) rfl (by kernel_rfl) (by kernel_rfl) (by kernel_rfl) (fun _ _ _ h => h) (Or.inl ⟨by rfl, ?_⟩) (by assumption) ?_
  rotate_left
  · (intro w hSw; (try dsimp only at hSw); (try go_simp); (try with_reducible rfl))
  (try simp only [Act.put, List.getElem_toArray, List.getElem_cons_succ, List.getElem_cons_zero, List.setIfInBounds_toArray, List.set_cons_zero, List.set_cons_succ])
  refine wpAnyH_take (i := 1) (oi := _) (v := ?_) rfl (by kernel_rfl) (by kernel_rfl) (by kernel_rfl) (fun _ _ _ h => h) (Or.inl ⟨by rfl, ?_⟩) (by assumption) ?_
  rotate_left
  · (intro w hSw; (try dsimp only at hSw); (try go_simp); (try with_reducible rfl))
  (try simp only [Act.put, List.getElem_toArray, List.getElem_cons_succ, List.getElem_cons_zero, List.setIfInBounds_toArray, List.set_cons_zero, List.set_cons_succ])
  refine wpAnyH_take (i := 2) (oi := _) (v := ?_) rfl (by kernel_rfl) (by kernel_rfl) (by kernel_rfl) (fun _ _ _ h => h) (Or.inl ⟨by rfl, ?_⟩) (by assumption) ?_
  rotate_left
  · (intro w hSw; (try dsimp only at hSw); (try go_simp); (try with_reducible rfl))
  (try simp only [Act.put, List.getElem_toArray, List.getElem_cons_succ, List.getElem_cons_zero, List.setIfInBounds_toArray, List.set_cons_zero, List.set_cons_succ])
  refine wpAnyH_take (i := 3) (oi := _) (v := ?_) rfl (by kernel_rfl) (by kernel_rfl) (by kernel_rfl) (fun _ _ _ h => h) (Or.inl ⟨by rfl, ?_⟩) (by assumption) ?_
  rotate_left
  · (intro w hSw; (try dsimp only at hSw); (try go_simp); (try with_reducible rfl))
  (try simp only [Act.put, List.getElem_toArray, List.getElem_cons_succ, List.getElem_cons_zero, List.setIfInBounds_toArray, List.set_cons_zero, List.set_cons_succ])
  refine wpAnyH_take (i := 4) (oi := _) (v := ?_) rfl (by kernel_rfl) (by kernel_rfl) (by kernel_rfl) (fun _ _ _ h => h) (Or.inl ⟨by rfl, ?_⟩) (by assumption) ?_
  rotate_left
  · (intro w hSw; (try dsimp only at hSw); (try go_simp); (try with_reducible rfl))
  (try simp only [Act.put, List.getElem_toArray, List.getElem_cons_succ, List.getElem_cons_zero, List.setIfInBounds_toArray, List.set_cons_zero, List.set_cons_succ])
  refine wpAnyH_take (i := 5) (oi := _) (v := ?_) rfl (by kernel_rfl) (by kernel_rfl) (by kernel_rfl) (fun _ _ _ h => h) (Or.inl ⟨by rfl, ?_⟩) (by assumption) ?_
  rotate_left
  · (intro w hSw; (try dsimp only at hSw); (try go_simp); (try with_reducible rfl))
  (try simp only [Act.put, List.getElem_toArray, List.getElem_cons_succ, List.getElem_cons_zero, List.setIfInBounds_toArray, List.set_cons_zero, List.set_cons_succ])
  refine wpAnyH_take (i := 7) (oi := _) (v := ?_) rfl (by kernel_rfl) (by kernel_rfl) (by kernel_rfl) (fun _ _ _ h => h) (Or.inl ⟨by rfl, ?_⟩) (by assumption) ?_
  rotate_left
  · (intro w hSw; (try dsimp only at hSw); (try go_simp); (try with_reducible rfl))
  (try simp only [Act.put, List.getElem_toArray, List.getElem_cons_succ, List.getElem_cons_zero, List.setIfInBounds_toArray, List.set_cons_zero, List.set_cons_succ])
  refine wpAnyH_take (i := 9) (oi := _) (v := ?_) rfl (by kernel_rfl) (by kernel_rfl) (by kernel_rfl) (fun _ _ _ h => h) (Or.inl ⟨by rfl, ?_⟩) (by assumption) ?_
  rotate_left
  · (intro w hSw; (try dsimp only at hSw); (try go_simp); (try with_reducible rfl))
  (try simp only [Act.put, List.getElem_toArray, List.getElem_cons_succ, List.getElem_cons_zero, List.setIfInBounds_toArray, List.set_cons_zero, List.set_cons_succ])
  refine wpAnyH_take (i := 10) (oi := _) (v := ?_) rfl (by kernel_rfl) (by kernel_rfl) (by kernel_rfl) (fun _ _ _ h => h) (Or.inl ⟨by rfl, ?_⟩) (by assumption) ?_
  rotate_left
  · (intro w hSw; (try dsimp only at hSw); (try go_simp); (try with_reducible rfl))
  (try simp only [Act.put, List.getElem_toArray, List.getElem_cons_succ, List.getElem_cons_zero, List.setIfInBounds_toArray, List.set_cons_zero, List.set_cons_succ])
  refine wpAnyH_take (i := 11) (oi := _) (v := ?_) rfl (by kernel_rfl) (by kernel_rfl) (by kernel_rfl) (fun _ _ _ h => h) (Or.inl ⟨by rfl, ?_⟩) (by assumption) ?_
  rotate_left
  · (intro w hSw; (try dsimp only at hSw); (try go_simp); (try with_reducible rfl))
  (try simp only [Act.put, List.getElem_toArray, List.getElem_cons_succ, List.getElem_cons_zero, List.setIfInBounds_toArray, List.set_cons_zero, List.set_cons_succ])
  refine wpAnyH_take (i := 12) (oi := _) (v := ?_) rfl (by kernel_rfl) (by kernel_rfl) (by kernel_rfl) (fun _ _ _ h => h) (Or.inl ⟨by rfl, ?_⟩) (by assumption) ?_
  rotate_left
  · (intro w hSw; (try dsimp only at hSw); (try go_simp); (try with_reducible rfl))
  (try simp only [Act.put, List.getElem_toArray, List.getElem_cons_succ, List.getElem_cons_zero, List.setIfInBounds_toArray, List.set_cons_zero, List.set_cons_succ])
  refine wpAnyH_take (i := 13) (oi := _) (v := ?_) rfl (by kernel_rfl) (by kernel_rfl) (by kernel_rfl) (fun _ _ _ h => h) (Or.inl ⟨by rfl, ?_⟩) (by assumption) ?_
  rotate_left
  · (intro w hSw; (try dsimp only at hSw); (try go_simp); (try with_reducible rfl))
  (try simp only [Act.put, List.getElem_toArray, List.getElem_cons_succ, List.getElem_cons_zero, List.setIfInBounds_toArray, List.set_cons_zero, List.set_cons_succ])
  refine wpAnyH_ready (rs := [6]) (by kernel_rfl) (by simp) ?_
  refine AllReadyH.cons (o := _) rfl (fun K hK => ?_) ?_
  · go_simp
    (with_reducible refine (calc_doAdd Ke.out (fun W h => ratio_Add (Vx.out.ext h) (Vy.out.ext h) Tx.out Ty.out (by omega))).mono ?_); rintro e x2 ⟨n1, a1, q1, c1, b1, k1, d1, rfl, hv, hy⟩; replace hE := hE.trans hy; replace hx := hx.trans hy; replace s0 := cell_exQ hy s0; replace s1 := cell_exQ hy s1; replace s2 := cell_exQ hy s2; replace s3 := cell_exQ hy s3; replace s4 := cell_exQ hy s4; replace s5 := cell_exQ hy s5; replace s6 := cell_exQ hy s6; replace s7 := cell_exQ hy s7; replace s8 := cell_exQ hy s8; replace s9 := cell_exQ hy s9; replace s10 := cell_exQ hy s10; replace s11 := cell_exQ hy s11; replace Kx := kE Kx hy; replace Ky := kE Ky hy; replace Kz := kE Kz hy; replace Ke := kE Ke hy; replace Vx := Lib.hid (Vx.out.ext hy); replace Vy := Lib.hid (Vy.out.ext hy); replace Vz := Lib.hid (Vz.out.ext hy); clear hy; have V1 := Lib.hid hv; clear hv
    refine hK.out _ _ ?_ (fun hHeld2 => ?_)
    · exact ⟨s0, s1, s2, s3, s4, s5, s6, s7, s8, s9, s10, s11⟩
    clear hK K hHeld
    have hHeld := hHeld2
    clear hHeld2
    (try simp only [Act.put, List.getElem_toArray, List.getElem_cons_succ, List.getElem_cons_zero, List.setIfInBounds_toArray, List.set_cons_zero, List.set_cons_succ])
    refine wpAnyH_ready (rs := [8]) (by kernel_rfl) (by simp) ?_
    refine AllReadyH.cons (o := _) rfl (fun K hK => ?_) ?_
    · go_simp
      (with_reducible refine (calc_doAdd Ke.out (fun W h => ratio_Add (V1.out.ext h) (Vz.out.ext h) (Sz.add Tx.out Ty.out) Tz.out (by omega))).mono ?_); rintro e x3 ⟨n2, a2, q2, c2, b2, k2, d2, rfl, hv, hy⟩; replace hE := hE.trans hy; replace hx := hx.trans hy; replace s0 := cell_exQ hy s0; replace s1 := cell_exQ hy s1; replace s2 := cell_exQ hy s2; replace s3 := cell_exQ hy s3; replace s4 := cell_exQ hy s4; replace s5 := cell_exQ hy s5; replace s6 := cell_exQ hy s6; replace s7 := cell_exQ hy s7; replace s8 := cell_exQ hy s8; replace s9 := cell_exQ hy s9; replace s10 := cell_exQ hy s10; replace s11 := cell_exQ hy s11; replace Kx := kE Kx hy; replace Ky := kE Ky hy; replace Kz := kE Kz hy; replace Ke := kE Ke hy; replace Vx := Lib.hid (Vx.out.ext hy); replace Vy := Lib.hid (Vy.out.ext hy); replace Vz := Lib.hid (Vz.out.ext hy); replace V1 := Lib.hid (V1.out.ext hy); clear hy; have V2 := Lib.hid hv; clear hv
      refine hK.out _ _ ?_ (fun hHeld2 => ?_)
      · exact ⟨s0, s1, s2, s3, s4, s5, s6, s7, s8, s9, s10, s11⟩
      clear hK K hHeld
      have hHeld := hHeld2
      clear hHeld2
      (try simp only [Act.put, List.getElem_toArray, List.getElem_cons_succ, List.getElem_cons_zero, List.setIfInBounds_toArray, List.set_cons_zero, List.set_cons_succ])
      refine wpAnyH_ready (rs := [14]) (by kernel_rfl) (by simp) ?_
      refine AllReadyH.cons (o := _) rfl (fun K hK => ?_) ?_
      · go_simp
        (with_reducible refine (calc_doAdd Ke.out (fun W h => ratio_Add (Vy.out.ext h) (Vz.out.ext h) Ty.out Tz.out (by omega))).mono ?_); rintro e x4 ⟨n3, a3, q3, c3, b3, k3, d3, rfl, hv, hy⟩; replace hE := hE.trans hy; replace hx := hx.trans hy; replace s0 := cell_exQ hy s0; replace s1 := cell_exQ hy s1; replace s2 := cell_exQ hy s2; replace s3 := cell_exQ hy s3; replace s4 := cell_exQ hy s4; replace s5 := cell_exQ hy s5; replace s6 := cell_exQ hy s6; replace s7 := cell_exQ hy s7; replace s8 := cell_exQ hy s8; replace s9 := cell_exQ hy s9; replace s10 := cell_exQ hy s10; replace s11 := cell_exQ hy s11; replace Kx := kE Kx hy; replace Ky := kE Ky hy; replace Kz := kE Kz hy; replace Ke := kE Ke hy; replace Vx := Lib.hid (Vx.out.ext hy); replace Vy := Lib.hid (Vy.out.ext hy); replace Vz := Lib.hid (Vz.out.ext hy); replace V1 := Lib.hid (V1.out.ext hy); replace V2 := Lib.hid (V2.out.ext hy); clear hy; have V3 := Lib.hid hv; clear hv
        refine hK.out _ _ ?_ (fun hHeld2 => ?_)
        · exact ⟨s0, s1, s2, s3, s4, s5, s6, s7, s8, s9, s10, s11⟩
        clear hK K hHeld
        have hHeld := hHeld2
        clear hHeld2
        (try simp only [Act.put, List.getElem_toArray, List.getElem_cons_succ, List.getElem_cons_zero, List.setIfInBounds_toArray, List.set_cons_zero, List.set_cons_succ])
        refine wpAnyH_ready (rs := [15]) (by kernel_rfl) (by simp) ?_
        refine AllReadyH.cons (o := _) rfl (fun K hK => ?_) ?_
        · go_simp
          (with_reducible refine (calc_doAdd Ke.out (fun W h => ratio_Add (Vx.out.ext h) (V3.out.ext h) Tx.out (Sz.add Ty.out Tz.out) (by omega))).mono ?_); rintro e x5 ⟨n4, a4, q4, c4, b4, k4, d4, rfl, hv, hy⟩; replace hE := hE.trans hy; replace hx := hx.trans hy; replace s0 := cell_exQ hy s0; replace s1 := cell_exQ hy s1; replace s2 := cell_exQ hy s2; replace s3 := cell_exQ hy s3; replace s4 := cell_exQ hy s4; replace s5 := cell_exQ hy s5; replace s6 := cell_exQ hy s6; replace s7 := cell_exQ hy s7; replace s8 := cell_exQ hy s8; replace s9 := cell_exQ hy s9; replace s10 := cell_exQ hy s10; replace s11 := cell_exQ hy s11; replace Kx := kE Kx hy; replace Ky := kE Ky hy; replace Kz := kE Kz hy; replace Ke := kE Ke hy; replace Vx := Lib.hid (Vx.out.ext hy); replace Vy := Lib.hid (Vy.out.ext hy); replace Vz := Lib.hid (Vz.out.ext hy); replace V1 := Lib.hid (V1.out.ext hy); replace V2 := Lib.hid (V2.out.ext hy); replace V3 := Lib.hid (V3.out.ext hy); clear hy; have V4 := Lib.hid hv; clear hv
          refine hK.out _ _ ?_ (fun hHeld2 => ?_)
          · exact ⟨s0, s1, s2, s3, s4, s5, s6, s7, s8, s9, s10, s11⟩
          clear hK K hHeld
          have hHeld := hHeld2
          clear hHeld2
          (try simp only [Act.put, List.getElem_toArray, List.getElem_cons_succ, List.getElem_cons_zero, List.setIfInBounds_toArray, List.set_cons_zero, List.set_cons_succ])
          refine wpAnyH_ready (rs := [16]) (by kernel_rfl) (by simp) ?_
          refine AllReadyH.cons (o := _) rfl (fun K hK => ?_) ?_
          · go_simp
            (with_reducible refine (same_eqQ V2.out V4.out (Rat.add_assoc r s t)).mono ?_); rintro e x6 ⟨rfl, hy⟩; replace hE := hE.trans hy; replace hx := hx.trans hy; replace s0 := cell_exQ hy s0; replace s1 := cell_exQ hy s1; replace s2 := cell_exQ hy s2; replace s3 := cell_exQ hy s3; replace s4 := cell_exQ hy s4; replace s5 := cell_exQ hy s5; replace s6 := cell_exQ hy s6; replace s7 := cell_exQ hy s7; replace s8 := cell_exQ hy s8; replace s9 := cell_exQ hy s9; replace s10 := cell_exQ hy s10; replace s11 := cell_exQ hy s11; replace Kx := kE Kx hy; replace Ky := kE Ky hy; replace Kz := kE Kz hy; replace Ke := kE Ke hy; replace Vx := Lib.hid (Vx.out.ext hy); replace Vy := Lib.hid (Vy.out.ext hy); replace Vz := Lib.hid (Vz.out.ext hy); replace V1 := Lib.hid (V1.out.ext hy); replace V2 := Lib.hid (V2.out.ext hy); replace V3 := Lib.hid (V3.out.ext hy); replace V4 := Lib.hid (V4.out.ext hy); clear hy
            refine hK.out _ _ ?_ (fun hHeld2 => ?_)
            · exact ⟨s0, s1, s2, s3, s4, s5, s6, s7, s8, s9, s10, s11⟩
            clear hK K hHeld
            have hHeld := hHeld2
            clear hHeld2
            (try simp only [Act.put, List.getElem_toArray, List.getElem_cons_succ, List.getElem_cons_zero, List.setIfInBounds_toArray, List.set_cons_zero, List.set_cons_succ])
            refine wpAnyH_take (i := 17) (oi := _) (v := ?_) rfl (by kernel_rfl) (by kernel_rfl) (by kernel_rfl) (fun _ _ _ h => h) (Or.inl ⟨by rfl, ?_⟩) (by assumption) ?_
            rotate_left
            · (intro w hSw; (try dsimp only at hSw); (try go_simp); (try with_reducible rfl))
            (try simp only [Act.put, List.getElem_toArray, List.getElem_cons_succ, List.getElem_cons_zero, List.setIfInBounds_toArray, List.set_cons_zero, List.set_cons_succ])
            refine wpAnyH_take (i := 18) (oi := _) (v := ?_) rfl (by kernel_rfl) (by kernel_rfl) (by kernel_rfl) (fun _ _ _ h => h) (Or.inl ⟨by rfl, ?_⟩) (by assumption) ?_
            rotate_left
            · (intro w hSw; (try dsimp only at hSw); (try go_simp); (try with_reducible rfl))
            (try simp only [Act.put, List.getElem_toArray, List.getElem_cons_succ, List.getElem_cons_zero, List.setIfInBounds_toArray, List.set_cons_zero, List.set_cons_succ])
            refine wpAnyH_done (by kernel_rfl) ?_ _
            show K' _ _
            refine hfin ?_
            exact hE
          exact AllReadyH.nil
        exact AllReadyH.nil
      exact AllReadyH.nil
    exact AllReadyH.nil
  exact AllReadyH.nil
set_option maxHeartbeats 8000000 in
theorem field_r9 {nx ny nz : Bool} {ax bx ay by_ az bz : Option Addr} {qx cx kx dx qy cy ky dy qz cz kz dz : Nat} {px py pz pe : Nat} {r s t : Rat} {o : Int} {w w0 : World} {K' : Act → World → Prop} {l0 l1 l2 l6 l11 l12 l13 l14 l15 l16 l17 l18 l19 l20 l21 l22 l23 l24 l25 l26 l27 l28 l29 l30 l31 l32 l33 l34 l35 l36 l37 l38 l39 l40 l41 l42 l43 l44 l45 l46 l47 l48 l49 l50 l51 l52 l53 l54 l55 l56 l57 l58 l59 l60 l61 l62 l63 l64 l65 l66 l67 l68 l69 l70 l71 l72 l73 l74 l75 l76 l77 l78 l79 l80 l81 l82 l83 l84 l85 l86 l87 l88 l89 l90 l91 l92 l93 l94 l95 l96 l97 l98 l99 l100 l101 l102 l103 l104 l105 l106 l107 l108 l109 l110 l111 l112 l113 l114 l115 l116 l117 l118 l119 l120 l121 l122 l123 l124 l125 l126 l127 l128 l129 l130 l131 l132 l133 l134 l135 l136 l137 l138 l139 l140 l141 l142 l143 l144 l145 l146 l147 l148 l149 l150 l151 l152 l153 l154 l155 l156 l157 l158 l159 l160 l161 l162 l163 l164 l165 l166 l167 l168 l169 l170 l171 l172 l173 l174 l175 l176 l177 l178 l179 : Value} (Kx : Hid (Blk w px #[.bool nx, .slice ax qx cx, .bool false, .slice bx kx dx] 26)) (Ky : Hid (Blk w py #[.bool ny, .slice ay qy cy, .bool false, .slice by_ ky dy] 26)) (Kz : Hid (Blk w pz #[.bool nz, .slice az qz cz, .bool false, .slice bz kz dz] 26)) (Ke : Hid (Blk w pe #[.int .i64 0] 53)) (Vx : Hid (RatV w (.agg #[.bool nx, .slice ax qx cx, .bool false, .slice bx kx dx]) r)) (Vy : Hid (RatV w (.agg #[.bool ny, .slice ay qy cy, .bool false, .slice by_ ky dy]) s)) (Vz : Hid (RatV w (.agg #[.bool nz, .slice az qz cz, .bool false, .slice bz kz dz]) t)) (Tx : Hid (Sz r 6)) (Ty : Hid (Sz s 6)) (Tz : Hid (Sz t 6))
    (hfin : ∀ {u58 u59 u60 u61 u62 u63 u64 u65 u66 u67 u68 u69 u70 u71 u72 u73 u74 u75 : Value} {w' : World}, Ext w w' → K' ⟨#[l0, l1, l2, .pointer (some ⟨px, 0, none⟩), .pointer (some ⟨py, 0, none⟩), .pointer (some ⟨pz, 0, none⟩), l6, .pointer (some ⟨pe, 0, none⟩), .func (.func 33) #[] #[], .func (.func 37) #[] #[], .bool true, l11, l12, l13, l14, l15, l16, l17, l18, l19, l20, l21, l22, l23, l24, l25, l26, l27, l28, l29, l30, l31, l32, l33, l34, l35, l36, l37, l38, l39, l40, l41, l42, l43, l44, l45, l46, l47, l48, l49, l50, l51, l52, l53, l54, l55, l56, l57, u58, u59, u60, u61, u62, u63, u64, u65, u66, u67, u68, u69, u70, u71, u72, u73, u74, u75, l76, l77, l78, l79, l80, l81, l82, l83, l84, l85, l86, l87, l88, l89, l90, l91, l92, l93, l94, l95, l96, l97, l98, l99, l100, l101, l102, l103, l104, l105, l106, l107, l108, l109, l110, l111, l112, l113, l114, l115, l116, l117, l118, l119, l120, l121, l122, l123, l124, l125, l126, l127, l128, l129, l130, l131, l132, l133, l134, l135, l136, l137, l138, l139, l140, l141, l142, l143, l144, l145, l146, l147, l148, l149, l150, l151, l152, l153, l154, l155, l156, l157, l158, l159, l160, l161, l162, l163, l164, l165, l166, l167, l168, l169, l170, l171, l172, l173, l174, l175, l176, l177, l178, l179], []⟩ w') :
    Code.wp Tryz.prog ((Tryz.f8.body.bind (findReg 9)).getD .skip) (Exit.then K' (bodyPost Tryz.prog Tryz.f8 fun e w' => e = .returned (.bool true) ∧ Ext w0 w')) ⟨#[l0, l1, l2, .pointer (some ⟨px, 0, none⟩), .pointer (some ⟨py, 0, none⟩), .pointer (some ⟨pz, 0, none⟩), l6, .pointer (some ⟨pe, 0, none⟩), .func (.func 33) #[] #[], .func (.func 37) #[] #[], .bool true, l11, l12, l13, l14, l15, l16, l17, l18, l19, l20, l21, l22, l23, l24, l25, l26, l27, l28, l29, l30, l31, l32, l33, l34, l35, l36, l37, l38, l39, l40, l41, l42, l43, l44, l45, l46, l47, l48, l49, l50, l51, l52, l53, l54, l55, l56, l57, l58, l59, l60, l61, l62, l63, l64, l65, l66, l67, l68, l69, l70, l71, l72, l73, l74, l75, l76, l77, l78, l79, l80, l81, l82, l83, l84, l85, l86, l87, l88, l89, l90, l91, l92, l93, l94, l95, l96, l97, l98, l99, l100, l101, l102, l103, l104, l105, l106, l107, l108, l109, l110, l111, l112, l113, l114, l115, l116, l117, l118, l119, l120, l121, l122, l123, l124, l125, l126, l127, l128, l129, l130, l131, l132, l133, l134, l135, l136, l137, l138, l139, l140, l141, l142, l143, l144, l145, l146, l147, l148, l149, l150, l151, l152, l153, l154, l155, l156, l157, l158, l159, l160, l161, l162, l163, l164, l165, l166, l167, l168, l169, l170, l171, l172, l173, l174, l175, l176, l177, l178, l179], []⟩ w := by
  conv => arg 2; whnf
  have hx : Ext w w := Ext.refl _
  have s0 : World.cell? w ⟨px, 0, none⟩ = some (.bool nx) := Kx.out.cell (i := 0) (v := .bool nx) rfl
  have s1 : World.cell? w ⟨px, 1, none⟩ = some (.slice ax qx cx) := Kx.out.cell (i := 1) (v := .slice ax qx cx) rfl
  have s2 : World.cell? w ⟨px, 2, none⟩ = some (.bool false) := Kx.out.cell (i := 2) (v := .bool false) rfl
  have s3 : World.cell? w ⟨px, 3, none⟩ = some (.slice bx kx dx) := Kx.out.cell (i := 3) (v := .slice bx kx dx) rfl
  have s4 : World.cell? w ⟨py, 0, none⟩ = some (.bool ny) := Ky.out.cell (i := 0) (v := .bool ny) rfl
  have s5 : World.cell? w ⟨py, 1, none⟩ = some (.slice ay qy cy) := Ky.out.cell (i := 1) (v := .slice ay qy cy) rfl
  have s6 : World.cell? w ⟨py, 2, none⟩ = some (.bool false) := Ky.out.cell (i := 2) (v := .bool false) rfl
  have s7 : World.cell? w ⟨py, 3, none⟩ = some (.slice by_ ky dy) := Ky.out.cell (i := 3) (v := .slice by_ ky dy) rfl
  have s8 : World.cell? w ⟨pz, 0, none⟩ = some (.bool nz) := Kz.out.cell (i := 0) (v := .bool nz) rfl
  have s9 : World.cell? w ⟨pz, 1, none⟩ = some (.slice az qz cz) := Kz.out.cell (i := 1) (v := .slice az qz cz) rfl
  have s10 : World.cell? w ⟨pz, 2, none⟩ = some (.bool false) := Kz.out.cell (i := 2) (v := .bool false) rfl
  have s11 : World.cell? w ⟨pz, 3, none⟩ = some (.slice bz kz dz) := Kz.out.cell (i := 3) (v := .slice bz kz dz) rfl
  have hE : Ext w (World.drew w) := (Ext.refl _).drew
  have hyd : Ext w (World.drew w) := (Ext.refl _).drew
  replace hx := hx.trans hyd
  replace Kx := kE Kx hyd
  replace Ky := kE Ky hyd
  replace Kz := kE Kz hyd
  replace Ke := kE Ke hyd
  replace Vx := Lib.hid (Vx.out.ext hyd)
  replace Vy := Lib.hid (Vy.out.ext hyd)
  replace Vz := Lib.hid (Vz.out.ext hyd)
  clear hyd
  replace s0 : World.cell? (World.drew w) ⟨px, 0, none⟩ = some (.bool nx) := s0
  replace s1 : World.cell? (World.drew w) ⟨px, 1, none⟩ = some (.slice ax qx cx) := s1
  replace s2 : World.cell? (World.drew w) ⟨px, 2, none⟩ = some (.bool false) := s2
  replace s3 : World.cell? (World.drew w) ⟨px, 3, none⟩ = some (.slice bx kx dx) := s3
  replace s4 : World.cell? (World.drew w) ⟨py, 0, none⟩ = some (.bool ny) := s4
  replace s5 : World.cell? (World.drew w) ⟨py, 1, none⟩ = some (.slice ay qy cy) := s5
  replace s6 : World.cell? (World.drew w) ⟨py, 2, none⟩ = some (.bool false) := s6
  replace s7 : World.cell? (World.drew w) ⟨py, 3, none⟩ = some (.slice by_ ky dy) := s7
  replace s8 : World.cell? (World.drew w) ⟨pz, 0, none⟩ = some (.bool nz) := s8
  replace s9 : World.cell? (World.drew w) ⟨pz, 1, none⟩ = some (.slice az qz cz) := s9
  replace s10 : World.cell? (World.drew w) ⟨pz, 2, none⟩ = some (.bool false) := s10
  replace s11 : World.cell? (World.drew w) ⟨pz, 3, none⟩ = some (.slice bz kz dz) := s11
  refine wp_region_held_drew (S := (fun w' => World.cell? w' ⟨px, 0, none⟩ = some (.bool nx) ∧ World.cell? w' ⟨px, 1, none⟩ = some (.slice ax qx cx) ∧ World.cell? w' ⟨px, 2, none⟩ = some (.bool false) ∧ World.cell? w' ⟨px, 3, none⟩ = some (.slice bx kx dx) ∧ World.cell? w' ⟨py, 0, none⟩ = some (.bool ny) ∧ World.cell? w' ⟨py, 1, none⟩ = some (.slice ay qy cy) ∧ World.cell? w' ⟨py, 2, none⟩ = some (.bool false) ∧ World.cell? w' ⟨py, 3, none⟩ = some (.slice by_ ky dy) ∧ World.cell? w' ⟨pz, 0, none⟩ = some (.bool nz) ∧ World.cell? w' ⟨pz, 1, none⟩ = some (.slice az qz cz) ∧ World.cell? w' ⟨pz, 2, none⟩ = some (.bool false) ∧ World.cell? w' ⟨pz, 3, none⟩ = some (.slice bz kz dz))) (by kernel_rfl) ?_ (fun hHeld => ?_)
  · exact ⟨s0, s1, s2, s3, s4, s5, s6, s7, s8, s9, s10, s11⟩
  (try simp only [← List.toArray_replicate, List.size_toArray, List.length_cons, List.length_nil, Nat.reduceAdd, List.replicate_succ, List.replicate_zero])
  generalize World.drew w = x1 at *
  refine wpAnyH_take (i := 0) (oi := _) (v := ?_) rfl (by kernel_rfl) (by kernel_rfl) (by kernel_rfl) (fun _ _ _ h => h) (Or.inl ⟨by rfl, ?_⟩) (by assumption) ?_
  rotate_left
  · (intro w hSw; (try dsimp only at hSw); (try go_simp); (try with_reducible rfl))
  (try simp only [Act.put, List.getElem_toArray, List.getElem_cons_succ, List.getElem_cons_zero, List.setIfInBounds_toArray, List.set_cons_zero, List.set_cons_succ])
  refine wpAnyH_take (i := 1) (oi := _) (v := ?_) rfl (by kernel_rfl) (by kernel_rfl) (by kernel_rfl) (fun _ _ _ h => h) (Or.inl ⟨by rfl, ?_⟩) (by assumption) ?_
  rotate_left
  · (intro w hSw; (try dsimp only at hSw); (try go_simp); (try with_reducible rfl))
  (try simp only [Act.put, List.getElem_toArray, List.getElem_cons_succ, List.getElem_cons_zero, List.setIfInBounds_toArray, List.set_cons_zero, List.set_cons_succ])
  refine wpAnyH_take (i := 2) (oi := _) (v := ?_) rfl (by kernel_rfl) (by kernel_rfl) (by kernel_rfl) (fun _ _ _ h => h) (Or.inl ⟨by rfl, ?_⟩) (by assumption) ?_
  rotate_left
  · (intro w hSw; (try dsimp only at hSw); (try go_simp); (try with_reducible rfl))
  (try simp only [Act.put, List.getElem_toArray, List.getElem_cons_succ, List.getElem_cons_zero, List.setIfInBounds_toArray, List.set_cons_zero, List.set_cons_succ])
  refine wpAnyH_take (i := 3) (oi := _) (v := ?_) rfl (by kernel_rfl) (by kernel_rfl) (by kernel_rfl) (fun _ _ _ h => h) (Or.inl ⟨by rfl, ?_⟩) (by assumption) ?_
  rotate_left
  · (intro w hSw; (try dsimp only at hSw); (try go_simp); (try with_reducible rfl))
  (try simp only [Act.put, List.getElem_toArray, List.getElem_cons_succ, List.getElem_cons_zero, List.setIfInBounds_toArray, List.set_cons_zero, List.set_cons_succ])
  refine wpAnyH_take (i := 4) (oi := _) (v := ?_) rfl (by kernel_rfl) (by kernel_rfl) (by kernel_rfl) (fun _ _ _ h => h) (Or.inl ⟨by rfl, ?_⟩) (by assumption) ?_
  rotate_left
  · (intro w hSw; (try dsimp only at hSw); (try go_simp); (try with_reducible rfl))
  (try simp only [Act.put, List.getElem_toArray, List.getElem_cons_succ, List.getElem_cons_zero, List.setIfInBounds_toArray, List.set_cons_zero, List.set_cons_succ])
  refine wpAnyH_take (i := 5) (oi := _) (v := ?_) rfl (by kernel_rfl) (by kernel_rfl) (by kernel_rfl) (fun _ _ _ h => h) (Or.inl ⟨by rfl, ?_⟩) (by assumption) ?_
  rotate_left
  · (intro w hSw; (try dsimp only at hSw); (try go_simp); (try with_reducible rfl))
  (try simp only [Act.put, List.getElem_toArray, List.getElem_cons_succ, List.getElem_cons_zero, List.setIfInBounds_toArray, List.set_cons_zero, List.set_cons_succ])
  refine wpAnyH_take (i := 7) (oi := _) (v := ?_) rfl (by kernel_rfl) (by kernel_rfl) (by kernel_rfl) (fun _ _ _ h => h) (Or.inl ⟨by rfl, ?_⟩) (by assumption) ?_
  rotate_left
  · (intro w hSw; (try dsimp only at hSw); (try go_simp); (try with_reducible rfl))
  (try simp only [Act.put, List.getElem_toArray, List.getElem_cons_succ, List.getElem_cons_zero, List.setIfInBounds_toArray, List.set_cons_zero, List.set_cons_succ])
  refine wpAnyH_take (i := 9) (oi := _) (v := ?_) rfl (by kernel_rfl) (by kernel_rfl) (by kernel_rfl) (fun _ _ _ h => h) (Or.inl ⟨by rfl, ?_⟩) (by assumption) ?_
  rotate_left
  · (intro w hSw; (try dsimp only at hSw); (try go_simp); (try with_reducible rfl))
  (try simp only [Act.put, List.getElem_toArray, List.getElem_cons_succ, List.getElem_cons_zero, List.setIfInBounds_toArray, List.set_cons_zero, List.set_cons_succ])
  refine wpAnyH_take (i := 10) (oi := _) (v := ?_) rfl (by kernel_rfl) (by kernel_rfl) (by kernel_rfl) (fun _ _ _ h => h) (Or.inl ⟨by rfl, ?_⟩) (by assumption) ?_
  rotate_left
  · (intro w hSw; (try dsimp only at hSw); (try go_simp); (try with_reducible rfl))
  (try simp only [Act.put, List.getElem_toArray, List.getElem_cons_succ, List.getElem_cons_zero, List.setIfInBounds_toArray, List.set_cons_zero, List.set_cons_succ])
  refine wpAnyH_take (i := 11) (oi := _) (v := ?_) rfl (by kernel_rfl) (by kernel_rfl) (by kernel_rfl) (fun _ _ _ h => h) (Or.inl ⟨by rfl, ?_⟩) (by assumption) ?_
  rotate_left
  · (intro w hSw; (try dsimp only at hSw); (try go_simp); (try with_reducible rfl))
  (try simp only [Act.put, List.getElem_toArray, List.getElem_cons_succ, List.getElem_cons_zero, List.setIfInBounds_toArray, List.set_cons_zero, List.set_cons_succ])
  refine wpAnyH_take (i := 12) (oi := _) (v := ?_) rfl (by kernel_rfl) (by kernel_rfl) (by kernel_rfl) (fun _ _ _ h => h) (Or.inl ⟨by rfl, ?_⟩) (by assumption) ?_
  rotate_left
  · (intro w hSw; (try dsimp only at hSw); (try go_simp); (try with_reducible rfl))
  (try simp only [Act.put, List.getElem_toArray, List.getElem_cons_succ, List.getElem_cons_zero, List.setIfInBounds_toArray, List.set_cons_zero, List.set_cons_succ])
  refine wpAnyH_take (i := 13) (oi := _) (v := ?_) rfl (by kernel_rfl) (by kernel_rfl) (by kernel_rfl) (fun _ _ _ h => h) (Or.inl ⟨by rfl, ?_⟩) (by assumption) ?_
  rotate_left
  · (intro w hSw; (try dsimp only at hSw); (try go_simp); (try with_reducible rfl))
  (try simp only [Act.put, List.getElem_toArray, List.getElem_cons_succ, List.getElem_cons_zero, List.setIfInBounds_toArray, List.set_cons_zero, List.set_cons_succ])
  refine wpAnyH_ready (rs := [6]) (by kernel_rfl) (by simp) ?_
  refine AllReadyH.cons (o := _) rfl (fun K hK => ?_) ?_
  · go_simp
    (with_reducible refine (calc_doMul Ke.out (fun W h => ratio_Mul (Vx.out.ext h) (Vy.out.ext h) Tx.out Ty.out (by omega))).mono ?_); rintro e x2 ⟨n1, a1, q1, c1, b1, k1, d1, rfl, hv, hy⟩; replace hE := hE.trans hy; replace hx := hx.trans hy; replace s0 := cell_exQ hy s0; replace s1 := cell_exQ hy s1; replace s2 := cell_exQ hy s2; replace s3 := cell_exQ hy s3; replace s4 := cell_exQ hy s4; replace s5 := cell_exQ hy s5; replace s6 := cell_exQ hy s6; replace s7 := cell_exQ hy s7; replace s8 := cell_exQ hy s8; replace s9 := cell_exQ hy s9; replace s10 := cell_exQ hy s10; replace s11 := cell_exQ hy s11; replace Kx := kE Kx hy; replace Ky := kE Ky hy; replace Kz := kE Kz hy; replace Ke := kE Ke hy; replace Vx := Lib.hid (Vx.out.ext hy); replace Vy := Lib.hid (Vy.out.ext hy); replace Vz := Lib.hid (Vz.out.ext hy); clear hy; have V1 := Lib.hid hv; clear hv
    refine hK.out _ _ ?_ (fun hHeld2 => ?_)
    · exact ⟨s0, s1, s2, s3, s4, s5, s6, s7, s8, s9, s10, s11⟩
    clear hK K hHeld
    have hHeld := hHeld2
    clear hHeld2
    (try simp only [Act.put, List.getElem_toArray, List.getElem_cons_succ, List.getElem_cons_zero, List.setIfInBounds_toArray, List.set_cons_zero, List.set_cons_succ])
    refine wpAnyH_ready (rs := [8]) (by kernel_rfl) (by simp) ?_
    refine AllReadyH.cons (o := _) rfl (fun K hK => ?_) ?_
    · go_simp
      (with_reducible refine (calc_doMul Ke.out (fun W h => ratio_Mul (V1.out.ext h) (Vz.out.ext h) (Sz.mul Tx.out Ty.out) Tz.out (by omega))).mono ?_); rintro e x3 ⟨n2, a2, q2, c2, b2, k2, d2, rfl, hv, hy⟩; replace hE := hE.trans hy; replace hx := hx.trans hy; replace s0 := cell_exQ hy s0; replace s1 := cell_exQ hy s1; replace s2 := cell_exQ hy s2; replace s3 := cell_exQ hy s3; replace s4 := cell_exQ hy s4; replace s5 := cell_exQ hy s5; replace s6 := cell_exQ hy s6; replace s7 := cell_exQ hy s7; replace s8 := cell_exQ hy s8; replace s9 := cell_exQ hy s9; replace s10 := cell_exQ hy s10; replace s11 := cell_exQ hy s11; replace Kx := kE Kx hy; replace Ky := kE Ky hy; replace Kz := kE Kz hy; replace Ke := kE Ke hy; replace Vx := Lib.hid (Vx.out.ext hy); replace Vy := Lib.hid (Vy.out.ext hy); replace Vz := Lib.hid (Vz.out.ext hy); replace V1 := Lib.hid (V1.out.ext hy); clear hy; have V2 := Lib.hid hv; clear hv
      refine hK.out _ _ ?_ (fun hHeld2 => ?_)
      · exact ⟨s0, s1, s2, s3, s4, s5, s6, s7, s8, s9, s10, s11⟩
      clear hK K hHeld
      have hHeld := hHeld2
      clear hHeld2
      (try simp only [Act.put, List.getElem_toArray, List.getElem_cons_succ, List.getElem_cons_zero, List.setIfInBounds_toArray, List.set_cons_zero, List.set_cons_succ])
      refine wpAnyH_ready (rs := [14]) (by kernel_rfl) (by simp) ?_
      refine AllReadyH.cons (o := _) rfl (fun K hK => ?_) ?_
      · go_simp
        (with_reducible refine (calc_doMul Ke.out (fun W h => ratio_Mul (Vy.out.ext h) (Vz.out.ext h) Ty.out Tz.out (by omega))).mono ?_); rintro e x4 ⟨n3, a3, q3, c3, b3, k3, d3, rfl, hv, hy⟩; replace hE := hE.trans hy; replace hx := hx.trans hy; replace s0 := cell_exQ hy s0; replace s1 := cell_exQ hy s1; replace s2 := cell_exQ hy s2; replace s3 := cell_exQ hy s3; replace s4 := cell_exQ hy s4; replace s5 := cell_exQ hy s5; replace s6 := cell_exQ hy s6; replace s7 := cell_exQ hy s7; replace s8 := cell_exQ hy s8; replace s9 := cell_exQ hy s9; replace s10 := cell_exQ hy s10; replace s11 := cell_exQ hy s11; replace Kx := kE Kx hy; replace Ky := kE Ky hy; replace Kz := kE Kz hy; replace Ke := kE Ke hy; replace Vx := Lib.hid (Vx.out.ext hy); replace Vy := Lib.hid (Vy.out.ext hy); replace Vz := Lib.hid (Vz.out.ext hy); replace V1 := Lib.hid (V1.out.ext hy); replace V2 := Lib.hid (V2.out.ext hy); clear hy; have V3 := Lib.hid hv; clear hv
        refine hK.out _ _ ?_ (fun hHeld2 => ?_)
        · exact ⟨s0, s1, s2, s3, s4, s5, s6, s7, s8, s9, s10, s11⟩
        clear hK K hHeld
        have hHeld := hHeld2
        clear hHeld2
        (try simp only [Act.put, List.getElem_toArray, List.getElem_cons_succ, List.getElem_cons_zero, List.setIfInBounds_toArray, List.set_cons_zero, List.set_cons_succ])
        refine wpAnyH_ready (rs := [15]) (by kernel_rfl) (by simp) ?_
        refine AllReadyH.cons (o := _) rfl (fun K hK => ?_) ?_
        · go_simp
          (with_reducible refine (calc_doMul Ke.out (fun W h => ratio_Mul (Vx.out.ext h) (V3.out.ext h) Tx.out (Sz.mul Ty.out Tz.out) (by omega))).mono ?_); rintro e x5 ⟨n4, a4, q4, c4, b4, k4, d4, rfl, hv, hy⟩; replace hE := hE.trans hy; replace hx := hx.trans hy; replace s0 := cell_exQ hy s0; replace s1 := cell_exQ hy s1; replace s2 := cell_exQ hy s2; replace s3 := cell_exQ hy s3; replace s4 := cell_exQ hy s4; replace s5 := cell_exQ hy s5; replace s6 := cell_exQ hy s6; replace s7 := cell_exQ hy s7; replace s8 := cell_exQ hy s8; replace s9 := cell_exQ hy s9; replace s10 := cell_exQ hy s10; replace s11 := cell_exQ hy s11; replace Kx := kE Kx hy; replace Ky := kE Ky hy; replace Kz := kE Kz hy; replace Ke := kE Ke hy; replace Vx := Lib.hid (Vx.out.ext hy); replace Vy := Lib.hid (Vy.out.ext hy); replace Vz := Lib.hid (Vz.out.ext hy); replace V1 := Lib.hid (V1.out.ext hy); replace V2 := Lib.hid (V2.out.ext hy); replace V3 := Lib.hid (V3.out.ext hy); clear hy; have V4 := Lib.hid hv; clear hv
          refine hK.out _ _ ?_ (fun hHeld2 => ?_)
          · exact ⟨s0, s1, s2, s3, s4, s5, s6, s7, s8, s9, s10, s11⟩
          clear hK K hHeld
          have hHeld := hHeld2
          clear hHeld2
          (try simp only [Act.put, List.getElem_toArray, List.getElem_cons_succ, List.getElem_cons_zero, List.setIfInBounds_toArray, List.set_cons_zero, List.set_cons_succ])
          refine wpAnyH_ready (rs := [16]) (by kernel_rfl) (by simp) ?_
          refine AllReadyH.cons (o := _) rfl (fun K hK => ?_) ?_
          · go_simp
            (with_reducible refine (same_eqQ V2.out V4.out (Rat.mul_assoc r s t)).mono ?_); rintro e x6 ⟨rfl, hy⟩; replace hE := hE.trans hy; replace hx := hx.trans hy; replace s0 := cell_exQ hy s0; replace s1 := cell_exQ hy s1; replace s2 := cell_exQ hy s2; replace s3 := cell_exQ hy s3; replace s4 := cell_exQ hy s4; replace s5 := cell_exQ hy s5; replace s6 := cell_exQ hy s6; replace s7 := cell_exQ hy s7; replace s8 := cell_exQ hy s8; replace s9 := cell_exQ hy s9; replace s10 := cell_exQ hy s10; replace s11 := cell_exQ hy s11; replace Kx := kE Kx hy; replace Ky := kE Ky hy; replace Kz := kE Kz hy; replace Ke := kE Ke hy; replace Vx := Lib.hid (Vx.out.ext hy); replace Vy := Lib.hid (Vy.out.ext hy); replace Vz := Lib.hid (Vz.out.ext hy); replace V1 := Lib.hid (V1.out.ext hy); replace V2 := Lib.hid (V2.out.ext hy); replace V3 := Lib.hid (V3.out.ext hy); replace V4 := Lib.hid (V4.out.ext hy); clear hy
            refine hK.out _ _ ?_ (fun hHeld2 => ?_)
            · exact ⟨s0, s1, s2, s3, s4, s5, s6, s7, s8, s9, s10, s11⟩
            clear hK K hHeld
            have hHeld := hHeld2
            clear hHeld2
            (try simp only [Act.put, List.getElem_toArray, List.getElem_cons_succ, List.getElem_cons_zero, List.setIfInBounds_toArray, List.set_cons_zero, List.set_cons_succ])
            refine wpAnyH_take (i := 17) (oi := _) (v := ?_) rfl (by kernel_rfl) (by kernel_rfl) (by kernel_rfl) (fun _ _ _ h => h) (Or.inl ⟨by rfl, ?_⟩) (by assumption) ?_
            rotate_left
            · (intro w hSw; (try dsimp only at hSw); (try go_simp); (try with_reducible rfl))
            (try simp only [Act.put, List.getElem_toArray, List.getElem_cons_succ, List.getElem_cons_zero, List.setIfInBounds_toArray, List.set_cons_zero, List.set_cons_succ])
            refine wpAnyH_take (i := 18) (oi := _) (v := ?_) rfl (by kernel_rfl) (by kernel_rfl) (by kernel_rfl) (fun _ _ _ h => h) (Or.inl ⟨by rfl, ?_⟩) (by assumption) ?_
            rotate_left
            · (intro w hSw; (try dsimp only at hSw); (try go_simp); (try with_reducible rfl))
            (try simp only [Act.put, List.getElem_toArray, List.getElem_cons_succ, List.getElem_cons_zero, List.setIfInBounds_toArray, List.set_cons_zero, List.set_cons_succ])
            refine wpAnyH_done (by kernel_rfl) ?_ _
            show K' _ _
            refine hfin ?_
            exact hE
          exact AllReadyH.nil
        exact AllReadyH.nil
      exact AllReadyH.nil
    exact AllReadyH.nil
  exact AllReadyH.nil
set_option maxHeartbeats 8000000 in
theorem field_r10 {nx ny nz : Bool} {ax bx ay by_ az bz : Option Addr} {qx cx kx dx qy cy ky dy qz cz kz dz : Nat} {px py pz pe : Nat} {r s t : Rat} {o : Int} {w w0 : World} {K' : Act → World → Prop} {l0 l1 l2 l6 l11 l12 l13 l14 l15 l16 l17 l18 l19 l20 l21 l22 l23 l24 l25 l26 l27 l28 l29 l30 l31 l32 l33 l34 l35 l36 l37 l38 l39 l40 l41 l42 l43 l44 l45 l46 l47 l48 l49 l50 l51 l52 l53 l54 l55 l56 l57 l58 l59 l60 l61 l62 l63 l64 l65 l66 l67 l68 l69 l70 l71 l72 l73 l74 l75 l76 l77 l78 l79 l80 l81 l82 l83 l84 l85 l86 l87 l88 l89 l90 l91 l92 l93 l94 l95 l96 l97 l98 l99 l100 l101 l102 l103 l104 l105 l106 l107 l108 l109 l110 l111 l112 l113 l114 l115 l116 l117 l118 l119 l120 l121 l122 l123 l124 l125 l126 l127 l128 l129 l130 l131 l132 l133 l134 l135 l136 l137 l138 l139 l140 l141 l142 l143 l144 l145 l146 l147 l148 l149 l150 l151 l152 l153 l154 l155 l156 l157 l158 l159 l160 l161 l162 l163 l164 l165 l166 l167 l168 l169 l170 l171 l172 l173 l174 l175 l176 l177 l178 l179 : Value} (Kx : Hid (Blk w px #[.bool nx, .slice ax qx cx, .bool false, .slice bx kx dx] 26)) (Ky : Hid (Blk w py #[.bool ny, .slice ay qy cy, .bool false, .slice by_ ky dy] 26)) (Kz : Hid (Blk w pz #[.bool nz, .slice az qz cz, .bool false, .slice bz kz dz] 26)) (Ke : Hid (Blk w pe #[.int .i64 0] 53)) (Vx : Hid (RatV w (.agg #[.bool nx, .slice ax qx cx, .bool false, .slice bx kx dx]) r)) (Vy : Hid (RatV w (.agg #[.bool ny, .slice ay qy cy, .bool false, .slice by_ ky dy]) s)) (Vz : Hid (RatV w (.agg #[.bool nz, .slice az qz cz, .bool false, .slice bz kz dz]) t)) (Tx : Hid (Sz r 6)) (Ty : Hid (Sz s 6)) (Tz : Hid (Sz t 6))
    (hfin : ∀ {u76 u77 u78 u79 u80 u81 u82 u83 u84 u85 u86 u87 u88 u89 u90 u91 u92 u93 u94 u95 u96 : Value} {w' : World}, Ext w w' → K' ⟨#[l0, l1, l2, .pointer (some ⟨px, 0, none⟩), .pointer (some ⟨py, 0, none⟩), .pointer (some ⟨pz, 0, none⟩), l6, .pointer (some ⟨pe, 0, none⟩), .func (.func 33) #[] #[], .func (.func 37) #[] #[], .bool true, l11, l12, l13, l14, l15, l16, l17, l18, l19, l20, l21, l22, l23, l24, l25, l26, l27, l28, l29, l30, l31, l32, l33, l34, l35, l36, l37, l38, l39, l40, l41, l42, l43, l44, l45, l46, l47, l48, l49, l50, l51, l52, l53, l54, l55, l56, l57, l58, l59, l60, l61, l62, l63, l64, l65, l66, l67, l68, l69, l70, l71, l72, l73, l74, l75, u76, u77, u78, u79, u80, u81, u82, u83, u84, u85, u86, u87, u88, u89, u90, u91, u92, u93, u94, u95, u96, l97, l98, l99, l100, l101, l102, l103, l104, l105, l106, l107, l108, l109, l110, l111, l112, l113, l114, l115, l116, l117, l118, l119, l120, l121, l122, l123, l124, l125, l126, l127, l128, l129, l130, l131, l132, l133, l134, l135, l136, l137, l138, l139, l140, l141, l142, l143, l144, l145, l146, l147, l148, l149, l150, l151, l152, l153, l154, l155, l156, l157, l158, l159, l160, l161, l162, l163, l164, l165, l166, l167, l168, l169, l170, l171, l172, l173, l174, l175, l176, l177, l178, l179], []⟩ w') :
    Code.wp Tryz.prog ((Tryz.f8.body.bind (findReg 10)).getD .skip) (Exit.then K' (bodyPost Tryz.prog Tryz.f8 fun e w' => e = .returned (.bool true) ∧ Ext w0 w')) ⟨#[l0, l1, l2, .pointer (some ⟨px, 0, none⟩), .pointer (some ⟨py, 0, none⟩), .pointer (some ⟨pz, 0, none⟩), l6, .pointer (some ⟨pe, 0, none⟩), .func (.func 33) #[] #[], .func (.func 37) #[] #[], .bool true, l11, l12, l13, l14, l15, l16, l17, l18, l19, l20, l21, l22, l23, l24, l25, l26, l27, l28, l29, l30, l31, l32, l33, l34, l35, l36, l37, l38, l39, l40, l41, l42, l43, l44, l45, l46, l47, l48, l49, l50, l51, l52, l53, l54, l55, l56, l57, l58, l59, l60, l61, l62, l63, l64, l65, l66, l67, l68, l69, l70, l71, l72, l73, l74, l75, l76, l77, l78, l79, l80, l81, l82, l83, l84, l85, l86, l87, l88, l89, l90, l91, l92, l93, l94, l95, l96, l97, l98, l99, l100, l101, l102, l103, l104, l105, l106, l107, l108, l109, l110, l111, l112, l113, l114, l115, l116, l117, l118, l119, l120, l121, l122, l123, l124, l125, l126, l127, l128, l129, l130, l131, l132, l133, l134, l135, l136, l137, l138, l139, l140, l141, l142, l143, l144, l145, l146, l147, l148, l149, l150, l151, l152, l153, l154, l155, l156, l157, l158, l159, l160, l161, l162, l163, l164, l165, l166, l167, l168, l169, l170, l171, l172, l173, l174, l175, l176, l177, l178, l179], []⟩ w := by
  conv => arg 2; whnf
  have hx : Ext w w := Ext.refl _
  have s0 : World.cell? w ⟨px, 0, none⟩ = some (.bool nx) := Kx.out.cell (i := 0) (v := .bool nx) rfl
  have s1 : World.cell? w ⟨px, 1, none⟩ = some (.slice ax qx cx) := Kx.out.cell (i := 1) (v := .slice ax qx cx) rfl
  have s2 : World.cell? w ⟨px, 2, none⟩ = some (.bool false) := Kx.out.cell (i := 2) (v := .bool false) rfl
  have s3 : World.cell? w ⟨px, 3, none⟩ = some (.slice bx kx dx) := Kx.out.cell (i := 3) (v := .slice bx kx dx) rfl
  have s4 : World.cell? w ⟨py, 0, none⟩ = some (.bool ny) := Ky.out.cell (i := 0) (v := .bool ny) rfl
  have s5 : World.cell? w ⟨py, 1, none⟩ = some (.slice ay qy cy) := Ky.out.cell (i := 1) (v := .slice ay qy cy) rfl
  have s6 : World.cell? w ⟨py, 2, none⟩ = some (.bool false) := Ky.out.cell (i := 2) (v := .bool false) rfl
  have s7 : World.cell? w ⟨py, 3, none⟩ = some (.slice by_ ky dy) := Ky.out.cell (i := 3) (v := .slice by_ ky dy) rfl
  have s8 : World.cell? w ⟨pz, 0, none⟩ = some (.bool nz) := Kz.out.cell (i := 0) (v := .bool nz) rfl
  have s9 : World.cell? w ⟨pz, 1, none⟩ = some (.slice az qz cz) := Kz.out.cell (i := 1) (v := .slice az qz cz) rfl
  have s10 : World.cell? w ⟨pz, 2, none⟩ = some (.bool false) := Kz.out.cell (i := 2) (v := .bool false) rfl
  have s11 : World.cell? w ⟨pz, 3, none⟩ = some (.slice bz kz dz) := Kz.out.cell (i := 3) (v := .slice bz kz dz) rfl
  have hE : Ext w (World.drew w) := (Ext.refl _).drew
  have hyd : Ext w (World.drew w) := (Ext.refl _).drew
  replace hx := hx.trans hyd
  replace Kx := kE Kx hyd
  replace Ky := kE Ky hyd
  replace Kz := kE Kz hyd
  replace Ke := kE Ke hyd
  replace Vx := Lib.hid (Vx.out.ext hyd)
  replace Vy := Lib.hid (Vy.out.ext hyd)
  replace Vz := Lib.hid (Vz.out.ext hyd)
  clear hyd
  replace s0 : World.cell? (World.drew w) ⟨px, 0, none⟩ = some (.bool nx) := s0
  replace s1 : World.cell? (World.drew w) ⟨px, 1, none⟩ = some (.slice ax qx cx) := s1
  replace s2 : World.cell? (World.drew w) ⟨px, 2, none⟩ = some (.bool false) := s2
  replace s3 : World.cell? (World.drew w) ⟨px, 3, none⟩ = some (.slice bx kx dx) := s3
  replace s4 : World.cell? (World.drew w) ⟨py, 0, none⟩ = some (.bool ny) := s4
  replace s5 : World.cell? (World.drew w) ⟨py, 1, none⟩ = some (.slice ay qy cy) := s5
  replace s6 : World.cell? (World.drew w) ⟨py, 2, none⟩ = some (.bool false) := s6
  replace s7 : World.cell? (World.drew w) ⟨py, 3, none⟩ = some (.slice by_ ky dy) := s7
  replace s8 : World.cell? (World.drew w) ⟨pz, 0, none⟩ = some (.bool nz) := s8
  replace s9 : World.cell? (World.drew w) ⟨pz, 1, none⟩ = some (.slice az qz cz) := s9
  replace s10 : World.cell? (World.drew w) ⟨pz, 2, none⟩ = some (.bool false) := s10
  replace s11 : World.cell? (World.drew w) ⟨pz, 3, none⟩ = some (.slice bz kz dz) := s11
  refine wp_region_held_drew (S := (fun w' => World.cell? w' ⟨px, 0, none⟩ = some (.bool nx) ∧ World.cell? w' ⟨px, 1, none⟩ = some (.slice ax qx cx) ∧ World.cell? w' ⟨px, 2, none⟩ = some (.bool false) ∧ World.cell? w' ⟨px, 3, none⟩ = some (.slice bx kx dx) ∧ World.cell? w' ⟨py, 0, none⟩ = some (.bool ny) ∧ World.cell? w' ⟨py, 1, none⟩ = some (.slice ay qy cy) ∧ World.cell? w' ⟨py, 2, none⟩ = some (.bool false) ∧ World.cell? w' ⟨py, 3, none⟩ = some (.slice by_ ky dy) ∧ World.cell? w' ⟨pz, 0, none⟩ = some (.bool nz) ∧ World.cell? w' ⟨pz, 1, none⟩ = some (.slice az qz cz) ∧ World.cell? w' ⟨pz, 2, none⟩ = some (.bool false) ∧ World.cell? w' ⟨pz, 3, none⟩ = some (.slice bz kz dz))) (by kernel_rfl) ?_ (fun hHeld => ?_)
  · exact ⟨s0, s1, s2, s3, s4, s5, s6, s7, s8, s9, s10, s11⟩
  (try simp only [← List.toArray_replicate, List.size_toArray, List.length_cons, List.length_nil, Nat.reduceAdd, List.replicate_succ, List.replicate_zero])
  generalize World.drew w = x1 at *
  refine wpAnyH_take (i := 0) (oi := _) (v := ?_) rfl (by kernel_rfl) (by kernel_rfl) (by kernel_rfl) (fun _ _ _ h => h) (Or.inl ⟨by rfl, ?_⟩) (by assumption) ?_
  rotate_left
  · (intro w hSw; (try dsimp only at hSw); (try go_simp); (try with_reducible rfl))
  (try simp only [Act.put, List.getElem_toArray, List.getElem_cons_succ, List.getElem_cons_zero, List.setIfInBounds_toArray, List.set_cons_zero, List.set_cons_succ])
  refine wpAnyH_take (i := 1) (oi := _) (v := ?_) rfl (by kernel_rfl) (by kernel_rfl) (by kernel_rfl) (fun _ _ _ h => h) (Or.inl ⟨by rfl, ?_⟩) (by assumption) ?_
  rotate_left
  · (intro w hSw; (try dsimp only at hSw); (try go_simp); (try with_reducible rfl))
  (try simp only [Act.put, List.getElem_toArray, List.getElem_cons_succ, List.getElem_cons_zero, List.setIfInBounds_toArray, List.set_cons_zero, List.set_cons_succ])
  refine wpAnyH_take (i := 2) (oi := _) (v := ?_) rfl (by kernel_rfl) (by kernel_rfl) (by kernel_rfl) (fun _ _ _ h => h) (Or.inl ⟨by rfl, ?_⟩) (by assumption) ?_
  rotate_left
  · (intro w hSw; (try dsimp only at hSw); (try go_simp); (try with_reducible rfl))
  (try simp only [Act.put, List.getElem_toArray, List.getElem_cons_succ, List.getElem_cons_zero, List.setIfInBounds_toArray, List.set_cons_zero, List.set_cons_succ])
  refine wpAnyH_take (i := 3) (oi := _) (v := ?_) rfl (by kernel_rfl) (by kernel_rfl) (by kernel_rfl) (fun _ _ _ h => h) (Or.inl ⟨by rfl, ?_⟩) (by assumption) ?_
  rotate_left
  · (intro w hSw; (try dsimp only at hSw); (try go_simp); (try with_reducible rfl))
  (try simp only [Act.put, List.getElem_toArray, List.getElem_cons_succ, List.getElem_cons_zero, List.setIfInBounds_toArray, List.set_cons_zero, List.set_cons_succ])
  refine wpAnyH_take (i := 4) (oi := _) (v := ?_) rfl (by kernel_rfl) (by kernel_rfl) (by kernel_rfl) (fun _ _ _ h => h) (Or.inl ⟨by rfl, ?_⟩) (by assumption) ?_
  rotate_left
  · (intro w hSw; (try dsimp only at hSw); (try go_simp); (try with_reducible rfl))
  (try simp only [Act.put, List.getElem_toArray, List.getElem_cons_succ, List.getElem_cons_zero, List.setIfInBounds_toArray, List.set_cons_zero, List.set_cons_succ])
  refine wpAnyH_take (i := 5) (oi := _) (v := ?_) rfl (by kernel_rfl) (by kernel_rfl) (by kernel_rfl) (fun _ _ _ h => h) (Or.inl ⟨by rfl, ?_⟩) (by assumption) ?_
  rotate_left
  · (intro w hSw; (try dsimp only at hSw); (try go_simp); (try with_reducible rfl))
  (try simp only [Act.put, List.getElem_toArray, List.getElem_cons_succ, List.getElem_cons_zero, List.setIfInBounds_toArray, List.set_cons_zero, List.set_cons_succ])
  refine wpAnyH_take (i := 6) (oi := _) (v := ?_) rfl (by kernel_rfl) (by kernel_rfl) (by kernel_rfl) (fun _ _ _ h => h) (Or.inl ⟨by rfl, ?_⟩) (by assumption) ?_
  rotate_left
  · (intro w hSw; (try dsimp only at hSw); (try go_simp); (try with_reducible rfl))
  (try simp only [Act.put, List.getElem_toArray, List.getElem_cons_succ, List.getElem_cons_zero, List.setIfInBounds_toArray, List.set_cons_zero, List.set_cons_succ])
  refine wpAnyH_take (i := 9) (oi := _) (v := ?_) rfl (by kernel_rfl) (by kernel_rfl) (by kernel_rfl) (fun _ _ _ h => h) (Or.inl ⟨by rfl, ?_⟩) (by assumption) ?_
  rotate_left
  · (intro w hSw; (try dsimp only at hSw); (try go_simp); (try with_reducible rfl))
  (try simp only [Act.put, List.getElem_toArray, List.getElem_cons_succ, List.getElem_cons_zero, List.setIfInBounds_toArray, List.set_cons_zero, List.set_cons_succ])
  refine wpAnyH_take (i := 10) (oi := _) (v := ?_) rfl (by kernel_rfl) (by kernel_rfl) (by kernel_rfl) (fun _ _ _ h => h) (Or.inl ⟨by rfl, ?_⟩) (by assumption) ?_
  rotate_left
  · (intro w hSw; (try dsimp only at hSw); (try go_simp); (try with_reducible rfl))
  (try simp only [Act.put, List.getElem_toArray, List.getElem_cons_succ, List.getElem_cons_zero, List.setIfInBounds_toArray, List.set_cons_zero, List.set_cons_succ])
  refine wpAnyH_take (i := 11) (oi := _) (v := ?_) rfl (by kernel_rfl) (by kernel_rfl) (by kernel_rfl) (fun _ _ _ h => h) (Or.inl ⟨by rfl, ?_⟩) (by assumption) ?_
  rotate_left
  · (intro w hSw; (try dsimp only at hSw); (try go_simp); (try with_reducible rfl))
  (try simp only [Act.put, List.getElem_toArray, List.getElem_cons_succ, List.getElem_cons_zero, List.setIfInBounds_toArray, List.set_cons_zero, List.set_cons_succ])
  refine wpAnyH_take (i := 12) (oi := _) (v := ?_) rfl (by kernel_rfl) (by kernel_rfl) (by kernel_rfl) (fun _ _ _ h => h) (Or.inl ⟨by rfl, ?_⟩) (by assumption) ?_
  rotate_left
  · (intro w hSw; (try dsimp only at hSw); (try go_simp); (try with_reducible rfl))
  (try simp only [Act.put, List.getElem_toArray, List.getElem_cons_succ, List.getElem_cons_zero, List.setIfInBounds_toArray, List.set_cons_zero, List.set_cons_succ])
  refine wpAnyH_take (i := 14) (oi := _) (v := ?_) rfl (by kernel_rfl) (by kernel_rfl) (by kernel_rfl) (fun _ _ _ h => h) (Or.inl ⟨by rfl, ?_⟩) (by assumption) ?_
  rotate_left
  · (intro w hSw; (try dsimp only at hSw); (try go_simp); (try with_reducible rfl))
  (try simp only [Act.put, List.getElem_toArray, List.getElem_cons_succ, List.getElem_cons_zero, List.setIfInBounds_toArray, List.set_cons_zero, List.set_cons_succ])
  refine wpAnyH_take (i := 15) (oi := _) (v := ?_) rfl (by kernel_rfl) (by kernel_rfl) (by kernel_rfl) (fun _ _ _ h => h) (Or.inl ⟨by rfl, ?_⟩) (by assumption) ?_
  rotate_left
  · (intro w hSw; (try dsimp only at hSw); (try go_simp); (try with_reducible rfl))
  (try simp only [Act.put, List.getElem_toArray, List.getElem_cons_succ, List.getElem_cons_zero, List.setIfInBounds_toArray, List.set_cons_zero, List.set_cons_succ])
  refine wpAnyH_take (i := 16) (oi := _) (v := ?_) rfl (by kernel_rfl) (by kernel_rfl) (by kernel_rfl) (fun _ _ _ h => h) (Or.inl ⟨by rfl, ?_⟩) (by assumption) ?_
  rotate_left
  · (intro w hSw; (try dsimp only at hSw); (try go_simp); (try with_reducible rfl))
  (try simp only [Act.put, List.getElem_toArray, List.getElem_cons_succ, List.getElem_cons_zero, List.setIfInBounds_toArray, List.set_cons_zero, List.set_cons_succ])
  refine wpAnyH_ready (rs := [7]) (by kernel_rfl) (by simp) ?_
  refine AllReadyH.cons (o := _) rfl (fun K hK => ?_) ?_
  · go_simp
    (with_reducible refine (calc_doAdd Ke.out (fun W h => ratio_Add (Vy.out.ext h) (Vz.out.ext h) Ty.out Tz.out (by omega))).mono ?_); rintro e x2 ⟨n1, a1, q1, c1, b1, k1, d1, rfl, hv, hy⟩; replace hE := hE.trans hy; replace hx := hx.trans hy; replace s0 := cell_exQ hy s0; replace s1 := cell_exQ hy s1; replace s2 := cell_exQ hy s2; replace s3 := cell_exQ hy s3; replace s4 := cell_exQ hy s4; replace s5 := cell_exQ hy s5; replace s6 := cell_exQ hy s6; replace s7 := cell_exQ hy s7; replace s8 := cell_exQ hy s8; replace s9 := cell_exQ hy s9; replace s10 := cell_exQ hy s10; replace s11 := cell_exQ hy s11; replace Kx := kE Kx hy; replace Ky := kE Ky hy; replace Kz := kE Kz hy; replace Ke := kE Ke hy; replace Vx := Lib.hid (Vx.out.ext hy); replace Vy := Lib.hid (Vy.out.ext hy); replace Vz := Lib.hid (Vz.out.ext hy); clear hy; have V1 := Lib.hid hv; clear hv
    refine hK.out _ _ ?_ (fun hHeld2 => ?_)
    · exact ⟨s0, s1, s2, s3, s4, s5, s6, s7, s8, s9, s10, s11⟩
    clear hK K hHeld
    have hHeld := hHeld2
    clear hHeld2
    (try simp only [Act.put, List.getElem_toArray, List.getElem_cons_succ, List.getElem_cons_zero, List.setIfInBounds_toArray, List.set_cons_zero, List.set_cons_succ])
    refine wpAnyH_ready (rs := [8]) (by kernel_rfl) (by simp) ?_
    refine AllReadyH.cons (o := _) rfl (fun K hK => ?_) ?_
    · go_simp
      (with_reducible refine (calc_doMul Ke.out (fun W h => ratio_Mul (Vx.out.ext h) (V1.out.ext h) Tx.out (Sz.add Ty.out Tz.out) (by omega))).mono ?_); rintro e x3 ⟨n2, a2, q2, c2, b2, k2, d2, rfl, hv, hy⟩; replace hE := hE.trans hy; replace hx := hx.trans hy; replace s0 := cell_exQ hy s0; replace s1 := cell_exQ hy s1; replace s2 := cell_exQ hy s2; replace s3 := cell_exQ hy s3; replace s4 := cell_exQ hy s4; replace s5 := cell_exQ hy s5; replace s6 := cell_exQ hy s6; replace s7 := cell_exQ hy s7; replace s8 := cell_exQ hy s8; replace s9 := cell_exQ hy s9; replace s10 := cell_exQ hy s10; replace s11 := cell_exQ hy s11; replace Kx := kE Kx hy; replace Ky := kE Ky hy; replace Kz := kE Kz hy; replace Ke := kE Ke hy; replace Vx := Lib.hid (Vx.out.ext hy); replace Vy := Lib.hid (Vy.out.ext hy); replace Vz := Lib.hid (Vz.out.ext hy); replace V1 := Lib.hid (V1.out.ext hy); clear hy; have V2 := Lib.hid hv; clear hv
      refine hK.out _ _ ?_ (fun hHeld2 => ?_)
      · exact ⟨s0, s1, s2, s3, s4, s5, s6, s7, s8, s9, s10, s11⟩
      clear hK K hHeld
      have hHeld := hHeld2
      clear hHeld2
      (try simp only [Act.put, List.getElem_toArray, List.getElem_cons_succ, List.getElem_cons_zero, List.setIfInBounds_toArray, List.set_cons_zero, List.set_cons_succ])
      refine wpAnyH_ready (rs := [13]) (by kernel_rfl) (by simp) ?_
      refine AllReadyH.cons (o := _) rfl (fun K hK => ?_) ?_
      · go_simp
        (with_reducible refine (calc_doMul Ke.out (fun W h => ratio_Mul (Vx.out.ext h) (Vy.out.ext h) Tx.out Ty.out (by omega))).mono ?_); rintro e x4 ⟨n3, a3, q3, c3, b3, k3, d3, rfl, hv, hy⟩; replace hE := hE.trans hy; replace hx := hx.trans hy; replace s0 := cell_exQ hy s0; replace s1 := cell_exQ hy s1; replace s2 := cell_exQ hy s2; replace s3 := cell_exQ hy s3; replace s4 := cell_exQ hy s4; replace s5 := cell_exQ hy s5; replace s6 := cell_exQ hy s6; replace s7 := cell_exQ hy s7; replace s8 := cell_exQ hy s8; replace s9 := cell_exQ hy s9; replace s10 := cell_exQ hy s10; replace s11 := cell_exQ hy s11; replace Kx := kE Kx hy; replace Ky := kE Ky hy; replace Kz := kE Kz hy; replace Ke := kE Ke hy; replace Vx := Lib.hid (Vx.out.ext hy); replace Vy := Lib.hid (Vy.out.ext hy); replace Vz := Lib.hid (Vz.out.ext hy); replace V1 := Lib.hid (V1.out.ext hy); replace V2 := Lib.hid (V2.out.ext hy); clear hy; have V3 := Lib.hid hv; clear hv
        refine hK.out _ _ ?_ (fun hHeld2 => ?_)
        · exact ⟨s0, s1, s2, s3, s4, s5, s6, s7, s8, s9, s10, s11⟩
        clear hK K hHeld
        have hHeld := hHeld2
        clear hHeld2
        (try simp only [Act.put, List.getElem_toArray, List.getElem_cons_succ, List.getElem_cons_zero, List.setIfInBounds_toArray, List.set_cons_zero, List.set_cons_succ])
        refine wpAnyH_ready (rs := [17]) (by kernel_rfl) (by simp) ?_
        refine AllReadyH.cons (o := _) rfl (fun K hK => ?_) ?_
        · go_simp
          (with_reducible refine (calc_doMul Ke.out (fun W h => ratio_Mul (Vx.out.ext h) (Vz.out.ext h) Tx.out Tz.out (by omega))).mono ?_); rintro e x5 ⟨n4, a4, q4, c4, b4, k4, d4, rfl, hv, hy⟩; replace hE := hE.trans hy; replace hx := hx.trans hy; replace s0 := cell_exQ hy s0; replace s1 := cell_exQ hy s1; replace s2 := cell_exQ hy s2; replace s3 := cell_exQ hy s3; replace s4 := cell_exQ hy s4; replace s5 := cell_exQ hy s5; replace s6 := cell_exQ hy s6; replace s7 := cell_exQ hy s7; replace s8 := cell_exQ hy s8; replace s9 := cell_exQ hy s9; replace s10 := cell_exQ hy s10; replace s11 := cell_exQ hy s11; replace Kx := kE Kx hy; replace Ky := kE Ky hy; replace Kz := kE Kz hy; replace Ke := kE Ke hy; replace Vx := Lib.hid (Vx.out.ext hy); replace Vy := Lib.hid (Vy.out.ext hy); replace Vz := Lib.hid (Vz.out.ext hy); replace V1 := Lib.hid (V1.out.ext hy); replace V2 := Lib.hid (V2.out.ext hy); replace V3 := Lib.hid (V3.out.ext hy); clear hy; have V4 := Lib.hid hv; clear hv
          refine hK.out _ _ ?_ (fun hHeld2 => ?_)
          · exact ⟨s0, s1, s2, s3, s4, s5, s6, s7, s8, s9, s10, s11⟩
          clear hK K hHeld
          have hHeld := hHeld2
          clear hHeld2
          (try simp only [Act.put, List.getElem_toArray, List.getElem_cons_succ, List.getElem_cons_zero, List.setIfInBounds_toArray, List.set_cons_zero, List.set_cons_succ])
          refine wpAnyH_ready (rs := [18]) (by kernel_rfl) (by simp) ?_
          refine AllReadyH.cons (o := _) rfl (fun K hK => ?_) ?_
          · go_simp
            (with_reducible refine (calc_doAdd Ke.out (fun W h => ratio_Add (V3.out.ext h) (V4.out.ext h) (Sz.mul Tx.out Ty.out) (Sz.mul Tx.out Tz.out) (by omega))).mono ?_); rintro e x6 ⟨n5, a5, q5, c5, b5, k5, d5, rfl, hv, hy⟩; replace hE := hE.trans hy; replace hx := hx.trans hy; replace s0 := cell_exQ hy s0; replace s1 := cell_exQ hy s1; replace s2 := cell_exQ hy s2; replace s3 := cell_exQ hy s3; replace s4 := cell_exQ hy s4; replace s5 := cell_exQ hy s5; replace s6 := cell_exQ hy s6; replace s7 := cell_exQ hy s7; replace s8 := cell_exQ hy s8; replace s9 := cell_exQ hy s9; replace s10 := cell_exQ hy s10; replace s11 := cell_exQ hy s11; replace Kx := kE Kx hy; replace Ky := kE Ky hy; replace Kz := kE Kz hy; replace Ke := kE Ke hy; replace Vx := Lib.hid (Vx.out.ext hy); replace Vy := Lib.hid (Vy.out.ext hy); replace Vz := Lib.hid (Vz.out.ext hy); replace V1 := Lib.hid (V1.out.ext hy); replace V2 := Lib.hid (V2.out.ext hy); replace V3 := Lib.hid (V3.out.ext hy); replace V4 := Lib.hid (V4.out.ext hy); clear hy; have V5 := Lib.hid hv; clear hv
            refine hK.out _ _ ?_ (fun hHeld2 => ?_)
            · exact ⟨s0, s1, s2, s3, s4, s5, s6, s7, s8, s9, s10, s11⟩
            clear hK K hHeld
            have hHeld := hHeld2
            clear hHeld2
            (try simp only [Act.put, List.getElem_toArray, List.getElem_cons_succ, List.getElem_cons_zero, List.setIfInBounds_toArray, List.set_cons_zero, List.set_cons_succ])
            refine wpAnyH_ready (rs := [19]) (by kernel_rfl) (by simp) ?_
            refine AllReadyH.cons (o := _) rfl (fun K hK => ?_) ?_
            · go_simp
              (with_reducible refine (same_eqQ V2.out V5.out (Rat.mul_add r s t)).mono ?_); rintro e x7 ⟨rfl, hy⟩; replace hE := hE.trans hy; replace hx := hx.trans hy; replace s0 := cell_exQ hy s0; replace s1 := cell_exQ hy s1; replace s2 := cell_exQ hy s2; replace s3 := cell_exQ hy s3; replace s4 := cell_exQ hy s4; replace s5 := cell_exQ hy s5; replace s6 := cell_exQ hy s6; replace s7 := cell_exQ hy s7; replace s8 := cell_exQ hy s8; replace s9 := cell_exQ hy s9; replace s10 := cell_exQ hy s10; replace s11 := cell_exQ hy s11; replace Kx := kE Kx hy; replace Ky := kE Ky hy; replace Kz := kE Kz hy; replace Ke := kE Ke hy; replace Vx := Lib.hid (Vx.out.ext hy); replace Vy := Lib.hid (Vy.out.ext hy); replace Vz := Lib.hid (Vz.out.ext hy); replace V1 := Lib.hid (V1.out.ext hy); replace V2 := Lib.hid (V2.out.ext hy); replace V3 := Lib.hid (V3.out.ext hy); replace V4 := Lib.hid (V4.out.ext hy); replace V5 := Lib.hid (V5.out.ext hy); clear hy
              refine hK.out _ _ ?_ (fun hHeld2 => ?_)
              · exact ⟨s0, s1, s2, s3, s4, s5, s6, s7, s8, s9, s10, s11⟩
              clear hK K hHeld
              have hHeld := hHeld2
              clear hHeld2
              (try simp only [Act.put, List.getElem_toArray, List.getElem_cons_succ, List.getElem_cons_zero, List.setIfInBounds_toArray, List.set_cons_zero, List.set_cons_succ])
              refine wpAnyH_take (i := 20) (oi := _) (v := ?_) rfl (by kernel_rfl) (by kernel_rfl) (by kernel_rfl) (fun _ _ _ h => h) (Or.inl ⟨by rfl, ?_⟩) (by assumption) ?_
              rotate_left
              · (intro w hSw; (try dsimp only at hSw); (try go_simp); (try with_reducible rfl))
              (try simp only [Act.put, List.getElem_toArray, List.getElem_cons_succ, List.getElem_cons_zero, List.setIfInBounds_toArray, List.set_cons_zero, List.set_cons_succ])
              refine wpAnyH_take (i := 21) (oi := _) (v := ?_) rfl (by kernel_rfl) (by kernel_rfl) (by kernel_rfl) (fun _ _ _ h => h) (Or.inl ⟨by rfl, ?_⟩) (by assumption) ?_
              rotate_left
              · (intro w hSw; (try dsimp only at hSw); (try go_simp); (try with_reducible rfl))
              (try simp only [Act.put, List.getElem_toArray, List.getElem_cons_succ, List.getElem_cons_zero, List.setIfInBounds_toArray, List.set_cons_zero, List.set_cons_succ])
              refine wpAnyH_done (by kernel_rfl) ?_ _
              show K' _ _
              refine hfin ?_
              exact hE
            exact AllReadyH.nil
          exact AllReadyH.nil
        exact AllReadyH.nil
      exact AllReadyH.nil
    exact AllReadyH.nil
  exact AllReadyH.nil
set_option maxHeartbeats 8000000 in
theorem field_r11 {nx ny nz : Bool} {ax bx ay by_ az bz : Option Addr} {qx cx kx dx qy cy ky dy qz cz kz dz : Nat} {px py pz pe : Nat} {r s t : Rat} {o : Int} {w w0 : World} {K' : Act → World → Prop} {l0 l1 l2 l6 l11 l12 l13 l14 l15 l16 l17 l18 l19 l20 l21 l22 l23 l24 l25 l26 l27 l28 l29 l30 l31 l32 l33 l34 l35 l36 l37 l38 l39 l40 l41 l42 l43 l44 l45 l46 l47 l48 l49 l50 l51 l52 l53 l54 l55 l56 l57 l58 l59 l60 l61 l62 l63 l64 l65 l66 l67 l68 l69 l70 l71 l72 l73 l74 l75 l76 l77 l78 l79 l80 l81 l82 l83 l84 l85 l86 l87 l88 l89 l90 l91 l92 l93 l94 l95 l96 l97 l98 l99 l100 l101 l102 l103 l104 l105 l106 l107 l108 l109 l110 l111 l112 l113 l114 l115 l116 l117 l118 l119 l120 l121 l122 l123 l124 l125 l126 l127 l128 l129 l130 l131 l132 l133 l134 l135 l136 l137 l138 l139 l140 l141 l142 l143 l144 l145 l146 l147 l148 l149 l150 l151 l152 l153 l154 l155 l156 l157 l158 l159 l160 l161 l162 l163 l164 l165 l166 l167 l168 l169 l170 l171 l172 l173 l174 l175 l176 l177 l178 l179 : Value} (Kx : Hid (Blk w px #[.bool nx, .slice ax qx cx, .bool false, .slice bx kx dx] 26)) (Ky : Hid (Blk w py #[.bool ny, .slice ay qy cy, .bool false, .slice by_ ky dy] 26)) (Kz : Hid (Blk w pz #[.bool nz, .slice az qz cz, .bool false, .slice bz kz dz] 26)) (Ke : Hid (Blk w pe #[.int .i64 0] 53)) (Vx : Hid (RatV w (.agg #[.bool nx, .slice ax qx cx, .bool false, .slice bx kx dx]) r)) (Vy : Hid (RatV w (.agg #[.bool ny, .slice ay qy cy, .bool false, .slice by_ ky dy]) s)) (Vz : Hid (RatV w (.agg #[.bool nz, .slice az qz cz, .bool false, .slice bz kz dz]) t)) (Tx : Hid (Sz r 6)) (Ty : Hid (Sz s 6)) (Tz : Hid (Sz t 6))
    (hfin : ∀ {u97 u98 u99 u100 u101 u102 u103 u104 u105 u106 u107 : Value} {w' : World}, Ext w w' → K' ⟨#[l0, l1, l2, .pointer (some ⟨px, 0, none⟩), .pointer (some ⟨py, 0, none⟩), .pointer (some ⟨pz, 0, none⟩), l6, .pointer (some ⟨pe, 0, none⟩), .func (.func 33) #[] #[], .func (.func 37) #[] #[], .bool true, l11, l12, l13, l14, l15, l16, l17, l18, l19, l20, l21, l22, l23, l24, l25, l26, l27, l28, l29, l30, l31, l32, l33, l34, l35, l36, l37, l38, l39, l40, l41, l42, l43, l44, l45, l46, l47, l48, l49, l50, l51, l52, l53, l54, l55, l56, l57, l58, l59, l60, l61, l62, l63, l64, l65, l66, l67, l68, l69, l70, l71, l72, l73, l74, l75, l76, l77, l78, l79, l80, l81, l82, l83, l84, l85, l86, l87, l88, l89, l90, l91, l92, l93, l94, l95, l96, u97, u98, u99, u100, u101, u102, u103, u104, u105, u106, u107, l108, l109, l110, l111, l112, l113, l114, l115, l116, l117, l118, l119, l120, l121, l122, l123, l124, l125, l126, l127, l128, l129, l130, l131, l132, l133, l134, l135, l136, l137, l138, l139, l140, l141, l142, l143, l144, l145, l146, l147, l148, l149, l150, l151, l152, l153, l154, l155, l156, l157, l158, l159, l160, l161, l162, l163, l164, l165, l166, l167, l168, l169, l170, l171, l172, l173, l174, l175, l176, l177, l178, l179], []⟩ w') :
    Code.wp Tryz.prog ((Tryz.f8.body.bind (findReg 11)).getD .skip) (Exit.then K' (bodyPost Tryz.prog Tryz.f8 fun e w' => e = .returned (.bool true) ∧ Ext w0 w')) ⟨#[l0, l1, l2, .pointer (some ⟨px, 0, none⟩), .pointer (some ⟨py, 0, none⟩), .pointer (some ⟨pz, 0, none⟩), l6, .pointer (some ⟨pe, 0, none⟩), .func (.func 33) #[] #[], .func (.func 37) #[] #[], .bool true, l11, l12, l13, l14, l15, l16, l17, l18, l19, l20, l21, l22, l23, l24, l25, l26, l27, l28, l29, l30, l31, l32, l33, l34, l35, l36, l37, l38, l39, l40, l41, l42, l43, l44, l45, l46, l47, l48, l49, l50, l51, l52, l53, l54, l55, l56, l57, l58, l59, l60, l61, l62, l63, l64, l65, l66, l67, l68, l69, l70, l71, l72, l73, l74, l75, l76, l77, l78, l79, l80, l81, l82, l83, l84, l85, l86, l87, l88, l89, l90, l91, l92, l93, l94, l95, l96, l97, l98, l99, l100, l101, l102, l103, l104, l105, l106, l107, l108, l109, l110, l111, l112, l113, l114, l115, l116, l117, l118, l119, l120, l121, l122, l123, l124, l125, l126, l127, l128, l129, l130, l131, l132, l133, l134, l135, l136, l137, l138, l139, l140, l141, l142, l143, l144, l145, l146, l147, l148, l149, l150, l151, l152, l153, l154, l155, l156, l157, l158, l159, l160, l161, l162, l163, l164, l165, l166, l167, l168, l169, l170, l171, l172, l173, l174, l175, l176, l177, l178, l179], []⟩ w := by
  conv => arg 2; whnf
  have hx : Ext w w := Ext.refl _
  have s0 : World.cell? w ⟨px, 0, none⟩ = some (.bool nx) := Kx.out.cell (i := 0) (v := .bool nx) rfl
  have s1 : World.cell? w ⟨px, 1, none⟩ = some (.slice ax qx cx) := Kx.out.cell (i := 1) (v := .slice ax qx cx) rfl
  have s2 : World.cell? w ⟨px, 2, none⟩ = some (.bool false) := Kx.out.cell (i := 2) (v := .bool false) rfl
  have s3 : World.cell? w ⟨px, 3, none⟩ = some (.slice bx kx dx) := Kx.out.cell (i := 3) (v := .slice bx kx dx) rfl
  have s4 : World.cell? w ⟨py, 0, none⟩ = some (.bool ny) := Ky.out.cell (i := 0) (v := .bool ny) rfl
  have s5 : World.cell? w ⟨py, 1, none⟩ = some (.slice ay qy cy) := Ky.out.cell (i := 1) (v := .slice ay qy cy) rfl
  have s6 : World.cell? w ⟨py, 2, none⟩ = some (.bool false) := Ky.out.cell (i := 2) (v := .bool false) rfl
  have s7 : World.cell? w ⟨py, 3, none⟩ = some (.slice by_ ky dy) := Ky.out.cell (i := 3) (v := .slice by_ ky dy) rfl
  have hE : Ext w (World.drew w) := (Ext.refl _).drew
  have hyd : Ext w (World.drew w) := (Ext.refl _).drew
  replace hx := hx.trans hyd
  replace Kx := kE Kx hyd
  replace Ky := kE Ky hyd
  replace Kz := kE Kz hyd
  replace Ke := kE Ke hyd
  replace Vx := Lib.hid (Vx.out.ext hyd)
  replace Vy := Lib.hid (Vy.out.ext hyd)
  replace Vz := Lib.hid (Vz.out.ext hyd)
  clear hyd
  replace s0 : World.cell? (World.drew w) ⟨px, 0, none⟩ = some (.bool nx) := s0
  replace s1 : World.cell? (World.drew w) ⟨px, 1, none⟩ = some (.slice ax qx cx) := s1
  replace s2 : World.cell? (World.drew w) ⟨px, 2, none⟩ = some (.bool false) := s2
  replace s3 : World.cell? (World.drew w) ⟨px, 3, none⟩ = some (.slice bx kx dx) := s3
  replace s4 : World.cell? (World.drew w) ⟨py, 0, none⟩ = some (.bool ny) := s4
  replace s5 : World.cell? (World.drew w) ⟨py, 1, none⟩ = some (.slice ay qy cy) := s5
  replace s6 : World.cell? (World.drew w) ⟨py, 2, none⟩ = some (.bool false) := s6
  replace s7 : World.cell? (World.drew w) ⟨py, 3, none⟩ = some (.slice by_ ky dy) := s7
  refine wp_region_held_drew (S := (fun w' => World.cell? w' ⟨px, 0, none⟩ = some (.bool nx) ∧ World.cell? w' ⟨px, 1, none⟩ = some (.slice ax qx cx) ∧ World.cell? w' ⟨px, 2, none⟩ = some (.bool false) ∧ World.cell? w' ⟨px, 3, none⟩ = some (.slice bx kx dx) ∧ World.cell? w' ⟨py, 0, none⟩ = some (.bool ny) ∧ World.cell? w' ⟨py, 1, none⟩ = some (.slice ay qy cy) ∧ World.cell? w' ⟨py, 2, none⟩ = some (.bool false) ∧ World.cell? w' ⟨py, 3, none⟩ = some (.slice by_ ky dy))) (by kernel_rfl) ?_ (fun hHeld => ?_)
  · exact ⟨s0, s1, s2, s3, s4, s5, s6, s7⟩
  (try simp only [← List.toArray_replicate, List.size_toArray, List.length_cons, List.length_nil, Nat.reduceAdd, List.replicate_succ, List.replicate_zero])
  generalize World.drew w = x1 at *
  refine wpAnyH_take (i := 0) (oi := _) (v := ?_) rfl (by kernel_rfl) (by kernel_rfl) (by kernel_rfl) (fun _ _ _ h => h) (Or.inl ⟨by rfl, ?_⟩) (by assumption) ?_
  rotate_left
  · (intro w hSw; (try dsimp only at hSw); (try go_simp); (try with_reducible rfl))
  (try simp only [Act.put, List.getElem_toArray, List.getElem_cons_succ, List.getElem_cons_zero, List.setIfInBounds_toArray, List.set_cons_zero, List.set_cons_succ])
  refine wpAnyH_take (i := 1) (oi := _) (v := ?_) rfl (by kernel_rfl) (by kernel_rfl) (by kernel_rfl) (fun _ _ _ h => h) (Or.inl ⟨by rfl, ?_⟩) (by assumption) ?_
  rotate_left
  · (intro w hSw; (try dsimp only at hSw); (try go_simp); (try with_reducible rfl))
  (try simp only [Act.put, List.getElem_toArray, List.getElem_cons_succ, List.getElem_cons_zero, List.setIfInBounds_toArray, List.set_cons_zero, List.set_cons_succ])
  refine wpAnyH_take (i := 2) (oi := _) (v := ?_) rfl (by kernel_rfl) (by kernel_rfl) (by kernel_rfl) (fun _ _ _ h => h) (Or.inl ⟨by rfl, ?_⟩) (by assumption) ?_
  rotate_left
  · (intro w hSw; (try dsimp only at hSw); (try go_simp); (try with_reducible rfl))
  (try simp only [Act.put, List.getElem_toArray, List.getElem_cons_succ, List.getElem_cons_zero, List.setIfInBounds_toArray, List.set_cons_zero, List.set_cons_succ])
  refine wpAnyH_take (i := 3) (oi := _) (v := ?_) rfl (by kernel_rfl) (by kernel_rfl) (by kernel_rfl) (fun _ _ _ h => h) (Or.inl ⟨by rfl, ?_⟩) (by assumption) ?_
  rotate_left
  · (intro w hSw; (try dsimp only at hSw); (try go_simp); (try with_reducible rfl))
  (try simp only [Act.put, List.getElem_toArray, List.getElem_cons_succ, List.getElem_cons_zero, List.setIfInBounds_toArray, List.set_cons_zero, List.set_cons_succ])
  refine wpAnyH_take (i := 4) (oi := _) (v := ?_) rfl (by kernel_rfl) (by kernel_rfl) (by kernel_rfl) (fun _ _ _ h => h) (Or.inl ⟨by rfl, ?_⟩) (by assumption) ?_
  rotate_left
  · (intro w hSw; (try dsimp only at hSw); (try go_simp); (try with_reducible rfl))
  (try simp only [Act.put, List.getElem_toArray, List.getElem_cons_succ, List.getElem_cons_zero, List.setIfInBounds_toArray, List.set_cons_zero, List.set_cons_succ])
  refine wpAnyH_take (i := 6) (oi := _) (v := ?_) rfl (by kernel_rfl) (by kernel_rfl) (by kernel_rfl) (fun _ _ _ h => h) (Or.inl ⟨by rfl, ?_⟩) (by assumption) ?_
  rotate_left
  · (intro w hSw; (try dsimp only at hSw); (try go_simp); (try with_reducible rfl))
  (try simp only [Act.put, List.getElem_toArray, List.getElem_cons_succ, List.getElem_cons_zero, List.setIfInBounds_toArray, List.set_cons_zero, List.set_cons_succ])
  refine wpAnyH_take (i := 8) (oi := _) (v := ?_) rfl (by kernel_rfl) (by kernel_rfl) (by kernel_rfl) (fun _ _ _ h => h) (Or.inl ⟨by rfl, ?_⟩) (by assumption) ?_
  rotate_left
  · (intro w hSw; (try dsimp only at hSw); (try go_simp); (try with_reducible rfl))
  (try simp only [Act.put, List.getElem_toArray, List.getElem_cons_succ, List.getElem_cons_zero, List.setIfInBounds_toArray, List.set_cons_zero, List.set_cons_succ])
  refine wpAnyH_ready (rs := [5]) (by kernel_rfl) (by simp) ?_
  refine AllReadyH.cons (o := _) rfl (fun K hK => ?_) ?_
  · go_simp
    (with_reducible refine (calc_doAdd Ke.out (fun W h => ratio_Add (Vx.out.ext h) (Vy.out.ext h) Tx.out Ty.out (by omega))).mono ?_); rintro e x2 ⟨n1, a1, q1, c1, b1, k1, d1, rfl, hv, hy⟩; replace hE := hE.trans hy; replace hx := hx.trans hy; replace s0 := cell_exQ hy s0; replace s1 := cell_exQ hy s1; replace s2 := cell_exQ hy s2; replace s3 := cell_exQ hy s3; replace s4 := cell_exQ hy s4; replace s5 := cell_exQ hy s5; replace s6 := cell_exQ hy s6; replace s7 := cell_exQ hy s7; replace Kx := kE Kx hy; replace Ky := kE Ky hy; replace Kz := kE Kz hy; replace Ke := kE Ke hy; replace Vx := Lib.hid (Vx.out.ext hy); replace Vy := Lib.hid (Vy.out.ext hy); replace Vz := Lib.hid (Vz.out.ext hy); clear hy; have V1 := Lib.hid hv; clear hv
    refine hK.out _ _ ?_ (fun hHeld2 => ?_)
    · exact ⟨s0, s1, s2, s3, s4, s5, s6, s7⟩
    clear hK K hHeld
    have hHeld := hHeld2
    clear hHeld2
    (try simp only [Act.put, List.getElem_toArray, List.getElem_cons_succ, List.getElem_cons_zero, List.setIfInBounds_toArray, List.set_cons_zero, List.set_cons_succ])
    refine wpAnyH_ready (rs := [7]) (by kernel_rfl) (by simp) ?_
    refine AllReadyH.cons (o := _) rfl (fun K hK => ?_) ?_
    · go_simp
      (with_reducible refine (calc_doSub Ke.out (fun W h => ratio_Sub (V1.out.ext h) (Vy.out.ext h) (Sz.add Tx.out Ty.out) Ty.out (by omega))).mono ?_); rintro e x3 ⟨n2, a2, q2, c2, b2, k2, d2, rfl, hv, hy⟩; replace hE := hE.trans hy; replace hx := hx.trans hy; replace s0 := cell_exQ hy s0; replace s1 := cell_exQ hy s1; replace s2 := cell_exQ hy s2; replace s3 := cell_exQ hy s3; replace s4 := cell_exQ hy s4; replace s5 := cell_exQ hy s5; replace s6 := cell_exQ hy s6; replace s7 := cell_exQ hy s7; replace Kx := kE Kx hy; replace Ky := kE Ky hy; replace Kz := kE Kz hy; replace Ke := kE Ke hy; replace Vx := Lib.hid (Vx.out.ext hy); replace Vy := Lib.hid (Vy.out.ext hy); replace Vz := Lib.hid (Vz.out.ext hy); replace V1 := Lib.hid (V1.out.ext hy); clear hy; have V2 := Lib.hid hv; clear hv
      refine hK.out _ _ ?_ (fun hHeld2 => ?_)
      · exact ⟨s0, s1, s2, s3, s4, s5, s6, s7⟩
      clear hK K hHeld
      have hHeld := hHeld2
      clear hHeld2
      (try simp only [Act.put, List.getElem_toArray, List.getElem_cons_succ, List.getElem_cons_zero, List.setIfInBounds_toArray, List.set_cons_zero, List.set_cons_succ])
      refine wpAnyH_ready (rs := [9]) (by kernel_rfl) (by simp) ?_
      refine AllReadyH.cons (o := _) rfl (fun K hK => ?_) ?_
      · go_simp
        (with_reducible refine (same_eqQ V2.out Vx.out (add_sub_selfQ r s)).mono ?_); rintro e x4 ⟨rfl, hy⟩; replace hE := hE.trans hy; replace hx := hx.trans hy; replace s0 := cell_exQ hy s0; replace s1 := cell_exQ hy s1; replace s2 := cell_exQ hy s2; replace s3 := cell_exQ hy s3; replace s4 := cell_exQ hy s4; replace s5 := cell_exQ hy s5; replace s6 := cell_exQ hy s6; replace s7 := cell_exQ hy s7; replace Kx := kE Kx hy; replace Ky := kE Ky hy; replace Kz := kE Kz hy; replace Ke := kE Ke hy; replace Vx := Lib.hid (Vx.out.ext hy); replace Vy := Lib.hid (Vy.out.ext hy); replace Vz := Lib.hid (Vz.out.ext hy); replace V1 := Lib.hid (V1.out.ext hy); replace V2 := Lib.hid (V2.out.ext hy); clear hy
        refine hK.out _ _ ?_ (fun hHeld2 => ?_)
        · exact ⟨s0, s1, s2, s3, s4, s5, s6, s7⟩
        clear hK K hHeld
        have hHeld := hHeld2
        clear hHeld2
        (try simp only [Act.put, List.getElem_toArray, List.getElem_cons_succ, List.getElem_cons_zero, List.setIfInBounds_toArray, List.set_cons_zero, List.set_cons_succ])
        refine wpAnyH_take (i := 10) (oi := _) (v := ?_) rfl (by kernel_rfl) (by kernel_rfl) (by kernel_rfl) (fun _ _ _ h => h) (Or.inl ⟨by rfl, ?_⟩) (by assumption) ?_
        rotate_left
        · (intro w hSw; (try dsimp only at hSw); (try go_simp); (try with_reducible rfl))
        (try simp only [Act.put, List.getElem_toArray, List.getElem_cons_succ, List.getElem_cons_zero, List.setIfInBounds_toArray, List.set_cons_zero, List.set_cons_succ])
        refine wpAnyH_take (i := 11) (oi := _) (v := ?_) rfl (by kernel_rfl) (by kernel_rfl) (by kernel_rfl) (fun _ _ _ h => h) (Or.inl ⟨by rfl, ?_⟩) (by assumption) ?_
        rotate_left
        · (intro w hSw; (try dsimp only at hSw); (try go_simp); (try with_reducible rfl))
        (try simp only [Act.put, List.getElem_toArray, List.getElem_cons_succ, List.getElem_cons_zero, List.setIfInBounds_toArray, List.set_cons_zero, List.set_cons_succ])
        refine wpAnyH_done (by kernel_rfl) ?_ _
        show K' _ _
        refine hfin ?_
        exact hE
      exact AllReadyH.nil
    exact AllReadyH.nil
  exact AllReadyH.nil
set_option maxHeartbeats 8000000 in
theorem field_r13 {nx ny nz : Bool} {ax bx ay by_ az bz : Option Addr} {qx cx kx dx qy cy ky dy qz cz kz dz : Nat} {px py pz pe : Nat} {r s t : Rat} {o : Int} {w w0 : World} {K' : Act → World → Prop} {l0 l1 l2 l6 l11 l12 l13 l14 l15 l16 l17 l18 l19 l20 l21 l22 l23 l24 l25 l26 l27 l28 l29 l30 l31 l32 l33 l34 l35 l36 l37 l38 l39 l40 l41 l42 l43 l44 l45 l46 l47 l48 l49 l50 l51 l52 l53 l54 l55 l56 l57 l58 l59 l60 l61 l62 l63 l64 l65 l66 l67 l68 l69 l70 l71 l72 l73 l74 l75 l76 l77 l78 l79 l80 l81 l82 l83 l84 l85 l86 l87 l88 l89 l90 l91 l92 l93 l94 l95 l96 l97 l98 l99 l100 l101 l102 l103 l104 l105 l106 l107 l108 l109 l110 l111 l112 l113 l114 l115 l116 l117 l118 l119 l120 l121 l122 l123 l124 l125 l126 l127 l128 l129 l130 l131 l132 l133 l134 l135 l136 l137 l138 l139 l140 l141 l142 l143 l144 l145 l146 l147 l148 l149 l150 l151 l152 l153 l154 l155 l156 l157 l158 l159 l160 l161 l162 l163 l164 l165 l166 l167 l168 l169 l170 l171 l172 l173 l174 l175 l176 l177 l178 l179 : Value} (Kx : Hid (Blk w px #[.bool nx, .slice ax qx cx, .bool false, .slice bx kx dx] 26)) (Ky : Hid (Blk w py #[.bool ny, .slice ay qy cy, .bool false, .slice by_ ky dy] 26)) (Kz : Hid (Blk w pz #[.bool nz, .slice az qz cz, .bool false, .slice bz kz dz] 26)) (Ke : Hid (Blk w pe #[.int .i64 0] 53)) (Vx : Hid (RatV w (.agg #[.bool nx, .slice ax qx cx, .bool false, .slice bx kx dx]) r)) (Vy : Hid (RatV w (.agg #[.bool ny, .slice ay qy cy, .bool false, .slice by_ ky dy]) s)) (Vz : Hid (RatV w (.agg #[.bool nz, .slice az qz cz, .bool false, .slice bz kz dz]) t)) (Tx : Hid (Sz r 6)) (Ty : Hid (Sz s 6)) (Tz : Hid (Sz t 6)) (HS : Hid (s ≠ 0))
    (hfin : ∀ {u113 u114 u115 u116 u117 u118 u119 u120 u121 u122 u123 : Value} {w' : World}, Ext w w' → K' ⟨#[l0, l1, l2, .pointer (some ⟨px, 0, none⟩), .pointer (some ⟨py, 0, none⟩), .pointer (some ⟨pz, 0, none⟩), l6, .pointer (some ⟨pe, 0, none⟩), .func (.func 33) #[] #[], .func (.func 37) #[] #[], .bool true, l11, l12, l13, l14, l15, l16, l17, l18, l19, l20, l21, l22, l23, l24, l25, l26, l27, l28, l29, l30, l31, l32, l33, l34, l35, l36, l37, l38, l39, l40, l41, l42, l43, l44, l45, l46, l47, l48, l49, l50, l51, l52, l53, l54, l55, l56, l57, l58, l59, l60, l61, l62, l63, l64, l65, l66, l67, l68, l69, l70, l71, l72, l73, l74, l75, l76, l77, l78, l79, l80, l81, l82, l83, l84, l85, l86, l87, l88, l89, l90, l91, l92, l93, l94, l95, l96, l97, l98, l99, l100, l101, l102, l103, l104, l105, l106, l107, l108, l109, l110, l111, l112, u113, u114, u115, u116, u117, u118, u119, u120, u121, u122, u123, l124, l125, l126, l127, l128, l129, l130, l131, l132, l133, l134, l135, l136, l137, l138, l139, l140, l141, l142, l143, l144, l145, l146, l147, l148, l149, l150, l151, l152, l153, l154, l155, l156, l157, l158, l159, l160, l161, l162, l163, l164, l165, l166, l167, l168, l169, l170, l171, l172, l173, l174, l175, l176, l177, l178, l179], []⟩ w') :
    Code.wp Tryz.prog ((Tryz.f8.body.bind (findReg 13)).getD .skip) (Exit.then K' (bodyPost Tryz.prog Tryz.f8 fun e w' => e = .returned (.bool true) ∧ Ext w0 w')) ⟨#[l0, l1, l2, .pointer (some ⟨px, 0, none⟩), .pointer (some ⟨py, 0, none⟩), .pointer (some ⟨pz, 0, none⟩), l6, .pointer (some ⟨pe, 0, none⟩), .func (.func 33) #[] #[], .func (.func 37) #[] #[], .bool true, l11, l12, l13, l14, l15, l16, l17, l18, l19, l20, l21, l22, l23, l24, l25, l26, l27, l28, l29, l30, l31, l32, l33, l34, l35, l36, l37, l38, l39, l40, l41, l42, l43, l44, l45, l46, l47, l48, l49, l50, l51, l52, l53, l54, l55, l56, l57, l58, l59, l60, l61, l62, l63, l64, l65, l66, l67, l68, l69, l70, l71, l72, l73, l74, l75, l76, l77, l78, l79, l80, l81, l82, l83, l84, l85, l86, l87, l88, l89, l90, l91, l92, l93, l94, l95, l96, l97, l98, l99, l100, l101, l102, l103, l104, l105, l106, l107, l108, l109, l110, l111, l112, l113, l114, l115, l116, l117, l118, l119, l120, l121, l122, l123, l124, l125, l126, l127, l128, l129, l130, l131, l132, l133, l134, l135, l136, l137, l138, l139, l140, l141, l142, l143, l144, l145, l146, l147, l148, l149, l150, l151, l152, l153, l154, l155, l156, l157, l158, l159, l160, l161, l162, l163, l164, l165, l166, l167, l168, l169, l170, l171, l172, l173, l174, l175, l176, l177, l178, l179], []⟩ w := by
  conv => arg 2; whnf
  have hx : Ext w w := Ext.refl _
  have s0 : World.cell? w ⟨px, 0, none⟩ = some (.bool nx) := Kx.out.cell (i := 0) (v := .bool nx) rfl
  have s1 : World.cell? w ⟨px, 1, none⟩ = some (.slice ax qx cx) := Kx.out.cell (i := 1) (v := .slice ax qx cx) rfl
  have s2 : World.cell? w ⟨px, 2, none⟩ = some (.bool false) := Kx.out.cell (i := 2) (v := .bool false) rfl
  have s3 : World.cell? w ⟨px, 3, none⟩ = some (.slice bx kx dx) := Kx.out.cell (i := 3) (v := .slice bx kx dx) rfl
  have s4 : World.cell? w ⟨py, 0, none⟩ = some (.bool ny) := Ky.out.cell (i := 0) (v := .bool ny) rfl
  have s5 : World.cell? w ⟨py, 1, none⟩ = some (.slice ay qy cy) := Ky.out.cell (i := 1) (v := .slice ay qy cy) rfl
  have s6 : World.cell? w ⟨py, 2, none⟩ = some (.bool false) := Ky.out.cell (i := 2) (v := .bool false) rfl
  have s7 : World.cell? w ⟨py, 3, none⟩ = some (.slice by_ ky dy) := Ky.out.cell (i := 3) (v := .slice by_ ky dy) rfl
  have hE : Ext w (World.drew w) := (Ext.refl _).drew
  have hyd : Ext w (World.drew w) := (Ext.refl _).drew
  replace hx := hx.trans hyd
  replace Kx := kE Kx hyd
  replace Ky := kE Ky hyd
  replace Kz := kE Kz hyd
  replace Ke := kE Ke hyd
  replace Vx := Lib.hid (Vx.out.ext hyd)
  replace Vy := Lib.hid (Vy.out.ext hyd)
  replace Vz := Lib.hid (Vz.out.ext hyd)
  clear hyd
  replace s0 : World.cell? (World.drew w) ⟨px, 0, none⟩ = some (.bool nx) := s0
  replace s1 : World.cell? (World.drew w) ⟨px, 1, none⟩ = some (.slice ax qx cx) := s1
  replace s2 : World.cell? (World.drew w) ⟨px, 2, none⟩ = some (.bool false) := s2
  replace s3 : World.cell? (World.drew w) ⟨px, 3, none⟩ = some (.slice bx kx dx) := s3
  replace s4 : World.cell? (World.drew w) ⟨py, 0, none⟩ = some (.bool ny) := s4
  replace s5 : World.cell? (World.drew w) ⟨py, 1, none⟩ = some (.slice ay qy cy) := s5
  replace s6 : World.cell? (World.drew w) ⟨py, 2, none⟩ = some (.bool false) := s6
  replace s7 : World.cell? (World.drew w) ⟨py, 3, none⟩ = some (.slice by_ ky dy) := s7
  refine wp_region_held_drew (S := (fun w' => World.cell? w' ⟨px, 0, none⟩ = some (.bool nx) ∧ World.cell? w' ⟨px, 1, none⟩ = some (.slice ax qx cx) ∧ World.cell? w' ⟨px, 2, none⟩ = some (.bool false) ∧ World.cell? w' ⟨px, 3, none⟩ = some (.slice bx kx dx) ∧ World.cell? w' ⟨py, 0, none⟩ = some (.bool ny) ∧ World.cell? w' ⟨py, 1, none⟩ = some (.slice ay qy cy) ∧ World.cell? w' ⟨py, 2, none⟩ = some (.bool false) ∧ World.cell? w' ⟨py, 3, none⟩ = some (.slice by_ ky dy))) (by kernel_rfl) ?_ (fun hHeld => ?_)
  · exact ⟨s0, s1, s2, s3, s4, s5, s6, s7⟩
  (try simp only [← List.toArray_replicate, List.size_toArray, List.length_cons, List.length_nil, Nat.reduceAdd, List.replicate_succ, List.replicate_zero])
  generalize World.drew w = x1 at *
  refine wpAnyH_take (i := 0) (oi := _) (v := ?_) rfl (by kernel_rfl) (by kernel_rfl) (by kernel_rfl) (fun _ _ _ h => h) (Or.inl ⟨by rfl, ?_⟩) (by assumption) ?_
  rotate_left
  · (intro w hSw; (try dsimp only at hSw); (try go_simp); (try with_reducible rfl))
  (try simp only [Act.put, List.getElem_toArray, List.getElem_cons_succ, List.getElem_cons_zero, List.setIfInBounds_toArray, List.set_cons_zero, List.set_cons_succ])
  refine wpAnyH_take (i := 1) (oi := _) (v := ?_) rfl (by kernel_rfl) (by kernel_rfl) (by kernel_rfl) (fun _ _ _ h => h) (Or.inl ⟨by rfl, ?_⟩) (by assumption) ?_
  rotate_left
  · (intro w hSw; (try dsimp only at hSw); (try go_simp); (try with_reducible rfl))
  (try simp only [Act.put, List.getElem_toArray, List.getElem_cons_succ, List.getElem_cons_zero, List.setIfInBounds_toArray, List.set_cons_zero, List.set_cons_succ])
  refine wpAnyH_take (i := 2) (oi := _) (v := ?_) rfl (by kernel_rfl) (by kernel_rfl) (by kernel_rfl) (fun _ _ _ h => h) (Or.inl ⟨by rfl, ?_⟩) (by assumption) ?_
  rotate_left
  · (intro w hSw; (try dsimp only at hSw); (try go_simp); (try with_reducible rfl))
  (try simp only [Act.put, List.getElem_toArray, List.getElem_cons_succ, List.getElem_cons_zero, List.setIfInBounds_toArray, List.set_cons_zero, List.set_cons_succ])
  refine wpAnyH_take (i := 3) (oi := _) (v := ?_) rfl (by kernel_rfl) (by kernel_rfl) (by kernel_rfl) (fun _ _ _ h => h) (Or.inl ⟨by rfl, ?_⟩) (by assumption) ?_
  rotate_left
  · (intro w hSw; (try dsimp only at hSw); (try go_simp); (try with_reducible rfl))
  (try simp only [Act.put, List.getElem_toArray, List.getElem_cons_succ, List.getElem_cons_zero, List.setIfInBounds_toArray, List.set_cons_zero, List.set_cons_succ])
  refine wpAnyH_take (i := 4) (oi := _) (v := ?_) rfl (by kernel_rfl) (by kernel_rfl) (by kernel_rfl) (fun _ _ _ h => h) (Or.inl ⟨by rfl, ?_⟩) (by assumption) ?_
  rotate_left
  · (intro w hSw; (try dsimp only at hSw); (try go_simp); (try with_reducible rfl))
  (try simp only [Act.put, List.getElem_toArray, List.getElem_cons_succ, List.getElem_cons_zero, List.setIfInBounds_toArray, List.set_cons_zero, List.set_cons_succ])
  refine wpAnyH_take (i := 6) (oi := _) (v := ?_) rfl (by kernel_rfl) (by kernel_rfl) (by kernel_rfl) (fun _ _ _ h => h) (Or.inl ⟨by rfl, ?_⟩) (by assumption) ?_
  rotate_left
  · (intro w hSw; (try dsimp only at hSw); (try go_simp); (try with_reducible rfl))
  (try simp only [Act.put, List.getElem_toArray, List.getElem_cons_succ, List.getElem_cons_zero, List.setIfInBounds_toArray, List.set_cons_zero, List.set_cons_succ])
  refine wpAnyH_take (i := 8) (oi := _) (v := ?_) rfl (by kernel_rfl) (by kernel_rfl) (by kernel_rfl) (fun _ _ _ h => h) (Or.inl ⟨by rfl, ?_⟩) (by assumption) ?_
  rotate_left
  · (intro w hSw; (try dsimp only at hSw); (try go_simp); (try with_reducible rfl))
  (try simp only [Act.put, List.getElem_toArray, List.getElem_cons_succ, List.getElem_cons_zero, List.setIfInBounds_toArray, List.set_cons_zero, List.set_cons_succ])
  refine wpAnyH_ready (rs := [5]) (by kernel_rfl) (by simp) ?_
  refine AllReadyH.cons (o := _) rfl (fun K hK => ?_) ?_
  · go_simp
    (with_reducible refine (calc_doMul Ke.out (fun W h => ratio_Mul (Vx.out.ext h) (Vy.out.ext h) Tx.out Ty.out (by omega))).mono ?_); rintro e x2 ⟨n1, a1, q1, c1, b1, k1, d1, rfl, hv, hy⟩; replace hE := hE.trans hy; replace hx := hx.trans hy; replace s0 := cell_exQ hy s0; replace s1 := cell_exQ hy s1; replace s2 := cell_exQ hy s2; replace s3 := cell_exQ hy s3; replace s4 := cell_exQ hy s4; replace s5 := cell_exQ hy s5; replace s6 := cell_exQ hy s6; replace s7 := cell_exQ hy s7; replace Kx := kE Kx hy; replace Ky := kE Ky hy; replace Kz := kE Kz hy; replace Ke := kE Ke hy; replace Vx := Lib.hid (Vx.out.ext hy); replace Vy := Lib.hid (Vy.out.ext hy); replace Vz := Lib.hid (Vz.out.ext hy); clear hy; have V1 := Lib.hid hv; clear hv
    refine hK.out _ _ ?_ (fun hHeld2 => ?_)
    · exact ⟨s0, s1, s2, s3, s4, s5, s6, s7⟩
    clear hK K hHeld
    have hHeld := hHeld2
    clear hHeld2
    (try simp only [Act.put, List.getElem_toArray, List.getElem_cons_succ, List.getElem_cons_zero, List.setIfInBounds_toArray, List.set_cons_zero, List.set_cons_succ])
    refine wpAnyH_ready (rs := [7]) (by kernel_rfl) (by simp) ?_
    refine AllReadyH.cons (o := _) rfl (fun K hK => ?_) ?_
    · go_simp
      (with_reducible refine (calc_doQuo Ke.out (fun W h => ratio_Quo (V1.out.ext h) (Vy.out.ext h) (Sz.mul Tx.out Ty.out) Ty.out (by omega) HS.out)).mono ?_); rintro e x3 ⟨n2, a2, q2, c2, b2, k2, d2, rfl, hv, hy⟩; replace hE := hE.trans hy; replace hx := hx.trans hy; replace s0 := cell_exQ hy s0; replace s1 := cell_exQ hy s1; replace s2 := cell_exQ hy s2; replace s3 := cell_exQ hy s3; replace s4 := cell_exQ hy s4; replace s5 := cell_exQ hy s5; replace s6 := cell_exQ hy s6; replace s7 := cell_exQ hy s7; replace Kx := kE Kx hy; replace Ky := kE Ky hy; replace Kz := kE Kz hy; replace Ke := kE Ke hy; replace Vx := Lib.hid (Vx.out.ext hy); replace Vy := Lib.hid (Vy.out.ext hy); replace Vz := Lib.hid (Vz.out.ext hy); replace V1 := Lib.hid (V1.out.ext hy); clear hy; have V2 := Lib.hid hv; clear hv
      refine hK.out _ _ ?_ (fun hHeld2 => ?_)
      · exact ⟨s0, s1, s2, s3, s4, s5, s6, s7⟩
      clear hK K hHeld
      have hHeld := hHeld2
      clear hHeld2
      (try simp only [Act.put, List.getElem_toArray, List.getElem_cons_succ, List.getElem_cons_zero, List.setIfInBounds_toArray, List.set_cons_zero, List.set_cons_succ])
      refine wpAnyH_ready (rs := [9]) (by kernel_rfl) (by simp) ?_
      refine AllReadyH.cons (o := _) rfl (fun K hK => ?_) ?_
      · go_simp
        (with_reducible refine (same_eqQ V2.out Vx.out (Rat.mul_div_cancel HS.out)).mono ?_); rintro e x4 ⟨rfl, hy⟩; replace hE := hE.trans hy; replace hx := hx.trans hy; replace s0 := cell_exQ hy s0; replace s1 := cell_exQ hy s1; replace s2 := cell_exQ hy s2; replace s3 := cell_exQ hy s3; replace s4 := cell_exQ hy s4; replace s5 := cell_exQ hy s5; replace s6 := cell_exQ hy s6; replace s7 := cell_exQ hy s7; replace Kx := kE Kx hy; replace Ky := kE Ky hy; replace Kz := kE Kz hy; replace Ke := kE Ke hy; replace Vx := Lib.hid (Vx.out.ext hy); replace Vy := Lib.hid (Vy.out.ext hy); replace Vz := Lib.hid (Vz.out.ext hy); replace V1 := Lib.hid (V1.out.ext hy); replace V2 := Lib.hid (V2.out.ext hy); clear hy
        refine hK.out _ _ ?_ (fun hHeld2 => ?_)
        · exact ⟨s0, s1, s2, s3, s4, s5, s6, s7⟩
        clear hK K hHeld
        have hHeld := hHeld2
        clear hHeld2
        (try simp only [Act.put, List.getElem_toArray, List.getElem_cons_succ, List.getElem_cons_zero, List.setIfInBounds_toArray, List.set_cons_zero, List.set_cons_succ])
        refine wpAnyH_take (i := 10) (oi := _) (v := ?_) rfl (by kernel_rfl) (by kernel_rfl) (by kernel_rfl) (fun _ _ _ h => h) (Or.inl ⟨by rfl, ?_⟩) (by assumption) ?_
        rotate_left
        · (intro w hSw; (try dsimp only at hSw); (try go_simp); (try with_reducible rfl))
        (try simp only [Act.put, List.getElem_toArray, List.getElem_cons_succ, List.getElem_cons_zero, List.setIfInBounds_toArray, List.set_cons_zero, List.set_cons_succ])
        refine wpAnyH_take (i := 11) (oi := _) (v := ?_) rfl (by kernel_rfl) (by kernel_rfl) (by kernel_rfl) (fun _ _ _ h => h) (Or.inl ⟨by rfl, ?_⟩) (by assumption) ?_
        rotate_left
        · (intro w hSw; (try dsimp only at hSw); (try go_simp); (try with_reducible rfl))
        (try simp only [Act.put, List.getElem_toArray, List.getElem_cons_succ, List.getElem_cons_zero, List.setIfInBounds_toArray, List.set_cons_zero, List.set_cons_succ])
        refine wpAnyH_done (by kernel_rfl) ?_ _
        show K' _ _
        refine hfin ?_
        exact hE
      exact AllReadyH.nil
    exact AllReadyH.nil
  exact AllReadyH.nil
set_option maxHeartbeats 8000000 in
theorem field_r15 {nx ny nz : Bool} {ax bx ay by_ az bz : Option Addr} {qx cx kx dx qy cy ky dy qz cz kz dz : Nat} {px py pz pe : Nat} {r s t : Rat} {o : Int} {w w0 : World} {K' : Act → World → Prop} {l0 l1 l2 l6 l12 l13 l14 l15 l16 l17 l18 l19 l20 l21 l22 l23 l24 l25 l26 l27 l28 l29 l30 l31 l32 l33 l34 l35 l36 l37 l38 l39 l40 l41 l42 l43 l44 l45 l46 l47 l48 l49 l50 l51 l52 l53 l54 l55 l56 l57 l58 l59 l60 l61 l62 l63 l64 l65 l66 l67 l68 l69 l70 l71 l72 l73 l74 l75 l76 l77 l78 l79 l80 l81 l82 l83 l84 l85 l86 l87 l88 l89 l90 l91 l92 l93 l94 l95 l96 l97 l98 l99 l100 l101 l102 l103 l104 l105 l106 l107 l108 l109 l110 l111 l112 l113 l114 l115 l116 l117 l118 l119 l120 l121 l122 l123 l124 l125 l126 l127 l128 l129 l130 l131 l132 l133 l134 l135 l136 l137 l138 l139 l140 l141 l142 l143 l144 l145 l146 l147 l148 l149 l150 l151 l152 l153 l154 l155 l156 l157 l158 l159 l160 l161 l162 l163 l164 l165 l166 l167 l168 l169 l170 l171 l172 l173 l174 l175 l176 l177 l178 l179 : Value} (Kx : Hid (Blk w px #[.bool nx, .slice ax qx cx, .bool false, .slice bx kx dx] 26)) (Ky : Hid (Blk w py #[.bool ny, .slice ay qy cy, .bool false, .slice by_ ky dy] 26)) (Kz : Hid (Blk w pz #[.bool nz, .slice az qz cz, .bool false, .slice bz kz dz] 26)) (Ke : Hid (Blk w pe #[.int .i64 0] 53)) (Vx : Hid (RatV w (.agg #[.bool nx, .slice ax qx cx, .bool false, .slice bx kx dx]) r)) (Vy : Hid (RatV w (.agg #[.bool ny, .slice ay qy cy, .bool false, .slice by_ ky dy]) s)) (Vz : Hid (RatV w (.agg #[.bool nz, .slice az qz cz, .bool false, .slice bz kz dz]) t)) (Tx : Hid (Sz r 6)) (Ty : Hid (Sz s 6)) (Tz : Hid (Sz t 6)) (ho : -1 ≤ o ∧ o ≤ 1) (HWr : Hid ((o == IntKind.i64.wrap o) = true)) (C1 : Hid (cmpR (r + t) (s + t) = o)) (C2 : Hid (cmpR s r = -o))
    (hfin : ∀ {u127 u128 u129 u130 u131 u132 u133 u134 u135 u136 u137 u138 u139 u140 u141 u142 u143 u144 u145 u146 u147 u148 : Value} {w' : World}, Ext w w' → K' ⟨#[l0, l1, l2, .pointer (some ⟨px, 0, none⟩), .pointer (some ⟨py, 0, none⟩), .pointer (some ⟨pz, 0, none⟩), l6, .pointer (some ⟨pe, 0, none⟩), .func (.func 33) #[] #[], .func (.func 37) #[] #[], .bool true, .int .i64 o, l12, l13, l14, l15, l16, l17, l18, l19, l20, l21, l22, l23, l24, l25, l26, l27, l28, l29, l30, l31, l32, l33, l34, l35, l36, l37, l38, l39, l40, l41, l42, l43, l44, l45, l46, l47, l48, l49, l50, l51, l52, l53, l54, l55, l56, l57, l58, l59, l60, l61, l62, l63, l64, l65, l66, l67, l68, l69, l70, l71, l72, l73, l74, l75, l76, l77, l78, l79, l80, l81, l82, l83, l84, l85, l86, l87, l88, l89, l90, l91, l92, l93, l94, l95, l96, l97, l98, l99, l100, l101, l102, l103, l104, l105, l106, l107, l108, l109, l110, l111, l112, l113, l114, l115, l116, l117, l118, l119, l120, l121, l122, l123, l124, l125, l126, u127, u128, u129, u130, u131, u132, u133, u134, u135, u136, u137, u138, u139, u140, u141, u142, u143, u144, u145, u146, u147, u148, l149, l150, l151, l152, l153, l154, l155, l156, l157, l158, l159, l160, l161, l162, l163, l164, l165, l166, l167, l168, l169, l170, l171, l172, l173, l174, l175, l176, l177, l178, l179], []⟩ w') :
    Code.wp Tryz.prog ((Tryz.f8.body.bind (findReg 15)).getD .skip) (Exit.then K' (bodyPost Tryz.prog Tryz.f8 fun e w' => e = .returned (.bool true) ∧ Ext w0 w')) ⟨#[l0, l1, l2, .pointer (some ⟨px, 0, none⟩), .pointer (some ⟨py, 0, none⟩), .pointer (some ⟨pz, 0, none⟩), l6, .pointer (some ⟨pe, 0, none⟩), .func (.func 33) #[] #[], .func (.func 37) #[] #[], .bool true, .int .i64 o, l12, l13, l14, l15, l16, l17, l18, l19, l20, l21, l22, l23, l24, l25, l26, l27, l28, l29, l30, l31, l32, l33, l34, l35, l36, l37, l38, l39, l40, l41, l42, l43, l44, l45, l46, l47, l48, l49, l50, l51, l52, l53, l54, l55, l56, l57, l58, l59, l60, l61, l62, l63, l64, l65, l66, l67, l68, l69, l70, l71, l72, l73, l74, l75, l76, l77, l78, l79, l80, l81, l82, l83, l84, l85, l86, l87, l88, l89, l90, l91, l92, l93, l94, l95, l96, l97, l98, l99, l100, l101, l102, l103, l104, l105, l106, l107, l108, l109, l110, l111, l112, l113, l114, l115, l116, l117, l118, l119, l120, l121, l122, l123, l124, l125, l126, l127, l128, l129, l130, l131, l132, l133, l134, l135, l136, l137, l138, l139, l140, l141, l142, l143, l144, l145, l146, l147, l148, l149, l150, l151, l152, l153, l154, l155, l156, l157, l158, l159, l160, l161, l162, l163, l164, l165, l166, l167, l168, l169, l170, l171, l172, l173, l174, l175, l176, l177, l178, l179], []⟩ w := by
  conv => arg 2; whnf
  have hx : Ext w w := Ext.refl _
  have s0 : World.cell? w ⟨px, 0, none⟩ = some (.bool nx) := Kx.out.cell (i := 0) (v := .bool nx) rfl
  have s1 : World.cell? w ⟨px, 1, none⟩ = some (.slice ax qx cx) := Kx.out.cell (i := 1) (v := .slice ax qx cx) rfl
  have s2 : World.cell? w ⟨px, 2, none⟩ = some (.bool false) := Kx.out.cell (i := 2) (v := .bool false) rfl
  have s3 : World.cell? w ⟨px, 3, none⟩ = some (.slice bx kx dx) := Kx.out.cell (i := 3) (v := .slice bx kx dx) rfl
  have s4 : World.cell? w ⟨py, 0, none⟩ = some (.bool ny) := Ky.out.cell (i := 0) (v := .bool ny) rfl
  have s5 : World.cell? w ⟨py, 1, none⟩ = some (.slice ay qy cy) := Ky.out.cell (i := 1) (v := .slice ay qy cy) rfl
  have s6 : World.cell? w ⟨py, 2, none⟩ = some (.bool false) := Ky.out.cell (i := 2) (v := .bool false) rfl
  have s7 : World.cell? w ⟨py, 3, none⟩ = some (.slice by_ ky dy) := Ky.out.cell (i := 3) (v := .slice by_ ky dy) rfl
  have s8 : World.cell? w ⟨pz, 0, none⟩ = some (.bool nz) := Kz.out.cell (i := 0) (v := .bool nz) rfl
  have s9 : World.cell? w ⟨pz, 1, none⟩ = some (.slice az qz cz) := Kz.out.cell (i := 1) (v := .slice az qz cz) rfl
  have s10 : World.cell? w ⟨pz, 2, none⟩ = some (.bool false) := Kz.out.cell (i := 2) (v := .bool false) rfl
  have s11 : World.cell? w ⟨pz, 3, none⟩ = some (.slice bz kz dz) := Kz.out.cell (i := 3) (v := .slice bz kz dz) rfl
  have hE : Ext w (World.drew w) := (Ext.refl _).drew
  have hyd : Ext w (World.drew w) := (Ext.refl _).drew
  replace hx := hx.trans hyd
  replace Kx := kE Kx hyd
  replace Ky := kE Ky hyd
  replace Kz := kE Kz hyd
  replace Ke := kE Ke hyd
  replace Vx := Lib.hid (Vx.out.ext hyd)
  replace Vy := Lib.hid (Vy.out.ext hyd)
  replace Vz := Lib.hid (Vz.out.ext hyd)
  clear hyd
  replace s0 : World.cell? (World.drew w) ⟨px, 0, none⟩ = some (.bool nx) := s0
  replace s1 : World.cell? (World.drew w) ⟨px, 1, none⟩ = some (.slice ax qx cx) := s1
  replace s2 : World.cell? (World.drew w) ⟨px, 2, none⟩ = some (.bool false) := s2
  replace s3 : World.cell? (World.drew w) ⟨px, 3, none⟩ = some (.slice bx kx dx) := s3
  replace s4 : World.cell? (World.drew w) ⟨py, 0, none⟩ = some (.bool ny) := s4
  replace s5 : World.cell? (World.drew w) ⟨py, 1, none⟩ = some (.slice ay qy cy) := s5
  replace s6 : World.cell? (World.drew w) ⟨py, 2, none⟩ = some (.bool false) := s6
  replace s7 : World.cell? (World.drew w) ⟨py, 3, none⟩ = some (.slice by_ ky dy) := s7
  replace s8 : World.cell? (World.drew w) ⟨pz, 0, none⟩ = some (.bool nz) := s8
  replace s9 : World.cell? (World.drew w) ⟨pz, 1, none⟩ = some (.slice az qz cz) := s9
  replace s10 : World.cell? (World.drew w) ⟨pz, 2, none⟩ = some (.bool false) := s10
  replace s11 : World.cell? (World.drew w) ⟨pz, 3, none⟩ = some (.slice bz kz dz) := s11
  refine wp_region_held_drew (S := (fun w' => World.cell? w' ⟨px, 0, none⟩ = some (.bool nx) ∧ World.cell? w' ⟨px, 1, none⟩ = some (.slice ax qx cx) ∧ World.cell? w' ⟨px, 2, none⟩ = some (.bool false) ∧ World.cell? w' ⟨px, 3, none⟩ = some (.slice bx kx dx) ∧ World.cell? w' ⟨py, 0, none⟩ = some (.bool ny) ∧ World.cell? w' ⟨py, 1, none⟩ = some (.slice ay qy cy) ∧ World.cell? w' ⟨py, 2, none⟩ = some (.bool false) ∧ World.cell? w' ⟨py, 3, none⟩ = some (.slice by_ ky dy) ∧ World.cell? w' ⟨pz, 0, none⟩ = some (.bool nz) ∧ World.cell? w' ⟨pz, 1, none⟩ = some (.slice az qz cz) ∧ World.cell? w' ⟨pz, 2, none⟩ = some (.bool false) ∧ World.cell? w' ⟨pz, 3, none⟩ = some (.slice bz kz dz))) (by kernel_rfl) ?_ (fun hHeld => ?_)
  · exact ⟨s0, s1, s2, s3, s4, s5, s6, s7, s8, s9, s10, s11⟩
  (try simp only [← List.toArray_replicate, List.size_toArray, List.length_cons, List.length_nil, Nat.reduceAdd, List.replicate_succ, List.replicate_zero])
  generalize World.drew w = x1 at *
  refine wpAnyH_take (i := 0) (oi := _) (v := ?_) rfl (by kernel_rfl) (by kernel_rfl) (by kernel_rfl) (fun _ _ _ h => h) (Or.inl ⟨by rfl, ?_⟩) (by assumption) ?_
  rotate_left
  · (intro w hSw; (try dsimp only at hSw); (try go_simp); (try with_reducible rfl))
  (try simp only [Act.put, List.getElem_toArray, List.getElem_cons_succ, List.getElem_cons_zero, List.setIfInBounds_toArray, List.set_cons_zero, List.set_cons_succ])
  refine wpAnyH_take (i := 1) (oi := _) (v := ?_) rfl (by kernel_rfl) (by kernel_rfl) (by kernel_rfl) (fun _ _ _ h => h) (Or.inl ⟨by rfl, ?_⟩) (by assumption) ?_
  rotate_left
  · (intro w hSw; (try dsimp only at hSw); (try go_simp); (try with_reducible rfl))
  (try simp only [Act.put, List.getElem_toArray, List.getElem_cons_succ, List.getElem_cons_zero, List.setIfInBounds_toArray, List.set_cons_zero, List.set_cons_succ])
  refine wpAnyH_take (i := 2) (oi := _) (v := ?_) rfl (by kernel_rfl) (by kernel_rfl) (by kernel_rfl) (fun _ _ _ h => h) (Or.inl ⟨by rfl, ?_⟩) (by assumption) ?_
  rotate_left
  · (intro w hSw; (try dsimp only at hSw); (try go_simp); (try with_reducible rfl))
  (try simp only [Act.put, List.getElem_toArray, List.getElem_cons_succ, List.getElem_cons_zero, List.setIfInBounds_toArray, List.set_cons_zero, List.set_cons_succ])
  refine wpAnyH_take (i := 3) (oi := _) (v := ?_) rfl (by kernel_rfl) (by kernel_rfl) (by kernel_rfl) (fun _ _ _ h => h) (Or.inl ⟨by rfl, ?_⟩) (by assumption) ?_
  rotate_left
  · (intro w hSw; (try dsimp only at hSw); (try go_simp); (try with_reducible rfl))
  (try simp only [Act.put, List.getElem_toArray, List.getElem_cons_succ, List.getElem_cons_zero, List.setIfInBounds_toArray, List.set_cons_zero, List.set_cons_succ])
  refine wpAnyH_take (i := 4) (oi := _) (v := ?_) rfl (by kernel_rfl) (by kernel_rfl) (by kernel_rfl) (fun _ _ _ h => h) (Or.inl ⟨by rfl, ?_⟩) (by assumption) ?_
  rotate_left
  · (intro w hSw; (try dsimp only at hSw); (try go_simp); (try with_reducible rfl))
  (try simp only [Act.put, List.getElem_toArray, List.getElem_cons_succ, List.getElem_cons_zero, List.setIfInBounds_toArray, List.set_cons_zero, List.set_cons_succ])
  refine wpAnyH_take (i := 5) (oi := _) (v := ?_) rfl (by kernel_rfl) (by kernel_rfl) (by kernel_rfl) (fun _ _ _ h => h) (Or.inl ⟨by rfl, ?_⟩) (by assumption) ?_
  rotate_left
  · (intro w hSw; (try dsimp only at hSw); (try go_simp); (try with_reducible rfl))
  (try simp only [Act.put, List.getElem_toArray, List.getElem_cons_succ, List.getElem_cons_zero, List.setIfInBounds_toArray, List.set_cons_zero, List.set_cons_succ])
  refine wpAnyH_take (i := 7) (oi := _) (v := ?_) rfl (by kernel_rfl) (by kernel_rfl) (by kernel_rfl) (fun _ _ _ h => h) (Or.inl ⟨by rfl, ?_⟩) (by assumption) ?_
  rotate_left
  · (intro w hSw; (try dsimp only at hSw); (try go_simp); (try with_reducible rfl))
  (try simp only [Act.put, List.getElem_toArray, List.getElem_cons_succ, List.getElem_cons_zero, List.setIfInBounds_toArray, List.set_cons_zero, List.set_cons_succ])
  refine wpAnyH_take (i := 8) (oi := _) (v := ?_) rfl (by kernel_rfl) (by kernel_rfl) (by kernel_rfl) (fun _ _ _ h => h) (Or.inl ⟨by rfl, ?_⟩) (by assumption) ?_
  rotate_left
  · (intro w hSw; (try dsimp only at hSw); (try go_simp); (try with_reducible rfl))
  (try simp only [Act.put, List.getElem_toArray, List.getElem_cons_succ, List.getElem_cons_zero, List.setIfInBounds_toArray, List.set_cons_zero, List.set_cons_succ])
  refine wpAnyH_take (i := 9) (oi := _) (v := ?_) rfl (by kernel_rfl) (by kernel_rfl) (by kernel_rfl) (fun _ _ _ h => h) (Or.inl ⟨by rfl, ?_⟩) (by assumption) ?_
  rotate_left
  · (intro w hSw; (try dsimp only at hSw); (try go_simp); (try with_reducible rfl))
  (try simp only [Act.put, List.getElem_toArray, List.getElem_cons_succ, List.getElem_cons_zero, List.setIfInBounds_toArray, List.set_cons_zero, List.set_cons_succ])
  refine wpAnyH_ready (rs := [6]) (by kernel_rfl) (by simp) ?_
  refine AllReadyH.cons (o := _) rfl (fun K hK => ?_) ?_
  · go_simp
    (with_reducible refine (calc_doAdd Ke.out (fun W h => ratio_Add (Vx.out.ext h) (Vz.out.ext h) Tx.out Tz.out (by omega))).mono ?_); rintro e x2 ⟨n1, a1, q1, c1, b1, k1, d1, rfl, hv, hy⟩; replace hE := hE.trans hy; replace hx := hx.trans hy; replace s0 := cell_exQ hy s0; replace s1 := cell_exQ hy s1; replace s2 := cell_exQ hy s2; replace s3 := cell_exQ hy s3; replace s4 := cell_exQ hy s4; replace s5 := cell_exQ hy s5; replace s6 := cell_exQ hy s6; replace s7 := cell_exQ hy s7; replace s8 := cell_exQ hy s8; replace s9 := cell_exQ hy s9; replace s10 := cell_exQ hy s10; replace s11 := cell_exQ hy s11; replace Kx := kE Kx hy; replace Ky := kE Ky hy; replace Kz := kE Kz hy; replace Ke := kE Ke hy; replace Vx := Lib.hid (Vx.out.ext hy); replace Vy := Lib.hid (Vy.out.ext hy); replace Vz := Lib.hid (Vz.out.ext hy); clear hy; have V1 := Lib.hid hv; clear hv
    refine hK.out _ _ ?_ (fun hHeld2 => ?_)
    · exact ⟨s0, s1, s2, s3, s4, s5, s6, s7, s8, s9, s10, s11⟩
    clear hK K hHeld
    have hHeld := hHeld2
    clear hHeld2
    (try simp only [Act.put, List.getElem_toArray, List.getElem_cons_succ, List.getElem_cons_zero, List.setIfInBounds_toArray, List.set_cons_zero, List.set_cons_succ])
    refine wpAnyH_ready (rs := [10]) (by kernel_rfl) (by simp) ?_
    refine AllReadyH.cons (o := _) rfl (fun K hK => ?_) ?_
    · go_simp
      (with_reducible refine (calc_doAdd Ke.out (fun W h => ratio_Add (Vy.out.ext h) (Vz.out.ext h) Ty.out Tz.out (by omega))).mono ?_); rintro e x3 ⟨n2, a2, q2, c2, b2, k2, d2, rfl, hv, hy⟩; replace hE := hE.trans hy; replace hx := hx.trans hy; replace s0 := cell_exQ hy s0; replace s1 := cell_exQ hy s1; replace s2 := cell_exQ hy s2; replace s3 := cell_exQ hy s3; replace s4 := cell_exQ hy s4; replace s5 := cell_exQ hy s5; replace s6 := cell_exQ hy s6; replace s7 := cell_exQ hy s7; replace s8 := cell_exQ hy s8; replace s9 := cell_exQ hy s9; replace s10 := cell_exQ hy s10; replace s11 := cell_exQ hy s11; replace Kx := kE Kx hy; replace Ky := kE Ky hy; replace Kz := kE Kz hy; replace Ke := kE Ke hy; replace Vx := Lib.hid (Vx.out.ext hy); replace Vy := Lib.hid (Vy.out.ext hy); replace Vz := Lib.hid (Vz.out.ext hy); replace V1 := Lib.hid (V1.out.ext hy); clear hy; have V2 := Lib.hid hv; clear hv
      refine hK.out _ _ ?_ (fun hHeld2 => ?_)
      · exact ⟨s0, s1, s2, s3, s4, s5, s6, s7, s8, s9, s10, s11⟩
      clear hK K hHeld
      have hHeld := hHeld2
      clear hHeld2
      (try simp only [Act.put, List.getElem_toArray, List.getElem_cons_succ, List.getElem_cons_zero, List.setIfInBounds_toArray, List.set_cons_zero, List.set_cons_succ])
      refine wpAnyH_ready (rs := [11]) (by kernel_rfl) (by simp) ?_
      refine AllReadyH.cons (o := _) rfl (fun K hK => ?_) ?_
      · go_simp
        (with_reducible refine (calc_cmp Ke.out V1.out V2.out (Sz.add Tx.out Tz.out) (Sz.add Ty.out Tz.out) (by omega) (C1.out)).mono ?_); rintro e x4 ⟨rfl, hy⟩; replace hE := hE.trans hy; replace hx := hx.trans hy; replace s0 := cell_exQ hy s0; replace s1 := cell_exQ hy s1; replace s2 := cell_exQ hy s2; replace s3 := cell_exQ hy s3; replace s4 := cell_exQ hy s4; replace s5 := cell_exQ hy s5; replace s6 := cell_exQ hy s6; replace s7 := cell_exQ hy s7; replace s8 := cell_exQ hy s8; replace s9 := cell_exQ hy s9; replace s10 := cell_exQ hy s10; replace s11 := cell_exQ hy s11; replace Kx := kE Kx hy; replace Ky := kE Ky hy; replace Kz := kE Kz hy; replace Ke := kE Ke hy; replace Vx := Lib.hid (Vx.out.ext hy); replace Vy := Lib.hid (Vy.out.ext hy); replace Vz := Lib.hid (Vz.out.ext hy); replace V1 := Lib.hid (V1.out.ext hy); replace V2 := Lib.hid (V2.out.ext hy); clear hy
        refine hK.out _ _ ?_ (fun hHeld2 => ?_)
        · exact ⟨s0, s1, s2, s3, s4, s5, s6, s7, s8, s9, s10, s11⟩
        clear hK K hHeld
        have hHeld := hHeld2
        clear hHeld2
        (try simp only [Act.put, List.getElem_toArray, List.getElem_cons_succ, List.getElem_cons_zero, List.setIfInBounds_toArray, List.set_cons_zero, List.set_cons_succ])
        refine wpAnyH_take (i := 12) (oi := _) (v := ?_) rfl (by kernel_rfl) (by kernel_rfl) (by kernel_rfl) (fun _ _ _ h => h) (Or.inl ⟨by rfl, ?_⟩) (by assumption) ?_
        rotate_left
        · (intro w hSw; (try dsimp only at hSw); (try go_simp); (try with_reducible rfl))
        (try simp only [Act.put, List.getElem_toArray, List.getElem_cons_succ, List.getElem_cons_zero, List.setIfInBounds_toArray, List.set_cons_zero, List.set_cons_succ])
        refine wpAnyH_take (i := 13) (oi := _) (v := ?_) rfl (by kernel_rfl) (by kernel_rfl) (by kernel_rfl) (fun _ _ _ h => h) (Or.inl ⟨by rfl, ?_⟩) (by assumption) ?_
        rotate_left
        · (intro w hSw; (try dsimp only at hSw); (try go_simp); (try with_reducible rfl))
        (try simp only [Act.put, List.getElem_toArray, List.getElem_cons_succ, List.getElem_cons_zero, List.setIfInBounds_toArray, List.set_cons_zero, List.set_cons_succ])
        refine wpAnyH_take (i := 14) (oi := _) (v := ?_) rfl (by kernel_rfl) (by kernel_rfl) (by kernel_rfl) (fun _ _ _ h => h) (Or.inl ⟨by rfl, ?_⟩) (by assumption) ?_
        rotate_left
        · (intro w hSw; (try dsimp only at hSw); (try go_simp); (try with_reducible rfl))
        (try simp only [Act.put, List.getElem_toArray, List.getElem_cons_succ, List.getElem_cons_zero, List.setIfInBounds_toArray, List.set_cons_zero, List.set_cons_succ])
        refine wpAnyH_take (i := 15) (oi := _) (v := ?_) rfl (by kernel_rfl) (by kernel_rfl) (by kernel_rfl) (fun _ _ _ h => h) (Or.inl ⟨by rfl, ?_⟩) (by assumption) ?_
        rotate_left
        · (intro w hSw; (try dsimp only at hSw); (try go_simp); (try with_reducible rfl))
        (try simp only [Act.put, List.getElem_toArray, List.getElem_cons_succ, List.getElem_cons_zero, List.setIfInBounds_toArray, List.set_cons_zero, List.set_cons_succ])
        refine wpAnyH_take (i := 16) (oi := _) (v := ?_) rfl (by kernel_rfl) (by kernel_rfl) (by kernel_rfl) (fun _ _ _ h => h) (Or.inl ⟨by rfl, ?_⟩) (by assumption) ?_
        rotate_left
        · (intro w hSw; (try dsimp only at hSw); (try go_simp); (try with_reducible rfl))
        (try simp only [Act.put, List.getElem_toArray, List.getElem_cons_succ, List.getElem_cons_zero, List.setIfInBounds_toArray, List.set_cons_zero, List.set_cons_succ])
        refine wpAnyH_take (i := 17) (oi := _) (v := ?_) rfl (by kernel_rfl) (by kernel_rfl) (by kernel_rfl) (fun _ _ _ h => h) (Or.inl ⟨by rfl, ?_⟩) (by assumption) ?_
        rotate_left
        · (intro w hSw; (try dsimp only at hSw); (try go_simp); (try with_reducible rfl))
        (try simp only [Act.put, List.getElem_toArray, List.getElem_cons_succ, List.getElem_cons_zero, List.setIfInBounds_toArray, List.set_cons_zero, List.set_cons_succ])
        refine wpAnyH_ready (rs := [18]) (by kernel_rfl) (by simp) ?_
        refine AllReadyH.cons (o := _) rfl (fun K hK => ?_) ?_
        · go_simp
          (with_reducible refine (calc_cmp Ke.out Vy.out Vx.out Ty.out Tx.out (by omega) (C2.out)).mono ?_); rintro e x5 ⟨rfl, hy⟩; replace hE := hE.trans hy; replace hx := hx.trans hy; replace s0 := cell_exQ hy s0; replace s1 := cell_exQ hy s1; replace s2 := cell_exQ hy s2; replace s3 := cell_exQ hy s3; replace s4 := cell_exQ hy s4; replace s5 := cell_exQ hy s5; replace s6 := cell_exQ hy s6; replace s7 := cell_exQ hy s7; replace s8 := cell_exQ hy s8; replace s9 := cell_exQ hy s9; replace s10 := cell_exQ hy s10; replace s11 := cell_exQ hy s11; replace Kx := kE Kx hy; replace Ky := kE Ky hy; replace Kz := kE Kz hy; replace Ke := kE Ke hy; replace Vx := Lib.hid (Vx.out.ext hy); replace Vy := Lib.hid (Vy.out.ext hy); replace Vz := Lib.hid (Vz.out.ext hy); replace V1 := Lib.hid (V1.out.ext hy); replace V2 := Lib.hid (V2.out.ext hy); clear hy
          refine hK.out _ _ ?_ (fun hHeld2 => ?_)
          · exact ⟨s0, s1, s2, s3, s4, s5, s6, s7, s8, s9, s10, s11⟩
          clear hK K hHeld
          have hHeld := hHeld2
          clear hHeld2
          (try simp only [Act.put, List.getElem_toArray, List.getElem_cons_succ, List.getElem_cons_zero, List.setIfInBounds_toArray, List.set_cons_zero, List.set_cons_succ])
          refine wpAnyH_take (i := 19) (oi := _) (v := ?_) rfl (by kernel_rfl) (by kernel_rfl) (by kernel_rfl) (fun _ _ _ h => h) (Or.inl ⟨by rfl, ?_⟩) (by assumption) ?_
          rotate_left
          · (intro w hSw; (try dsimp only at hSw); (try go_simp); (try with_reducible rfl))
          (try simp only [Act.put, List.getElem_toArray, List.getElem_cons_succ, List.getElem_cons_zero, List.setIfInBounds_toArray, List.set_cons_zero, List.set_cons_succ])
          refine wpAnyH_take (i := 20) (oi := _) (v := ?_) rfl (by kernel_rfl) (by kernel_rfl) (by kernel_rfl) (fun _ _ _ h => h) (Or.inl ⟨by rfl, ?_⟩) (by assumption) ?_
          rotate_left
          · (intro w hSw; (try dsimp only at hSw); (try go_simp); (try with_reducible rfl))
          (try simp only [Act.put, List.getElem_toArray, List.getElem_cons_succ, List.getElem_cons_zero, List.setIfInBounds_toArray, List.set_cons_zero, List.set_cons_succ])
          refine wpAnyH_take (i := 21) (oi := _) (v := ?_) rfl (by kernel_rfl) (by kernel_rfl) (by kernel_rfl) (fun _ _ _ h => h) (Or.inl ⟨by rfl, ?_⟩) (by assumption) ?_
          rotate_left
          · (intro w hSw; (try dsimp only at hSw); (try go_simp); (try with_reducible rfl))
          (try simp only [Act.put, List.getElem_toArray, List.getElem_cons_succ, List.getElem_cons_zero, List.setIfInBounds_toArray, List.set_cons_zero, List.set_cons_succ])
          refine wpAnyH_take (i := 22) (oi := _) (v := ?_) rfl (by kernel_rfl) (by kernel_rfl) (by kernel_rfl) (fun _ _ _ h => h) (Or.inl ⟨by rfl, ?_⟩) (by assumption) ?_
          rotate_left
          · (intro w hSw; (try dsimp only at hSw); (try go_simp); (try with_reducible rfl))
          (try simp only [Act.put, List.getElem_toArray, List.getElem_cons_succ, List.getElem_cons_zero, List.setIfInBounds_toArray, List.set_cons_zero, List.set_cons_succ])
          refine wpAnyH_done (by kernel_rfl) ?_ _
          show K' _ _
          rw [HWr.out]
          refine hfin ?_
          exact hE
        exact AllReadyH.nil
      exact AllReadyH.nil
    exact AllReadyH.nil
  exact AllReadyH.nil
set_option maxHeartbeats 8000000 in
theorem field_r17 {nx ny nz : Bool} {ax bx ay by_ az bz : Option Addr} {qx cx kx dx qy cy ky dy qz cz kz dz : Nat} {px py pz pe : Nat} {r s t : Rat} {o : Int} {w w0 : World} {K' : Act → World → Prop} {l0 l1 l2 l6 l12 l13 l14 l15 l16 l17 l18 l19 l20 l21 l22 l23 l24 l25 l26 l27 l28 l29 l30 l31 l32 l33 l34 l35 l36 l37 l38 l39 l40 l41 l42 l43 l44 l45 l46 l47 l48 l49 l50 l51 l52 l53 l54 l55 l56 l57 l58 l59 l60 l61 l62 l63 l64 l65 l66 l67 l68 l69 l70 l71 l72 l73 l74 l75 l76 l77 l78 l79 l80 l81 l82 l83 l84 l85 l86 l87 l88 l89 l90 l91 l92 l93 l94 l95 l96 l97 l98 l99 l100 l101 l102 l103 l104 l105 l106 l107 l108 l109 l110 l111 l112 l113 l114 l115 l116 l117 l118 l119 l120 l121 l122 l123 l124 l125 l126 l127 l128 l129 l130 l131 l132 l133 l134 l135 l136 l137 l138 l139 l140 l141 l142 l143 l144 l145 l146 l147 l148 l149 l150 l151 l152 l153 l154 l155 l156 l157 l158 l159 l160 l161 l162 l163 l164 l165 l166 l167 l168 l169 l170 l171 l172 l173 l174 l175 l176 l177 l178 l179 : Value} (Kx : Hid (Blk w px #[.bool nx, .slice ax qx cx, .bool false, .slice bx kx dx] 26)) (Ky : Hid (Blk w py #[.bool ny, .slice ay qy cy, .bool false, .slice by_ ky dy] 26)) (Kz : Hid (Blk w pz #[.bool nz, .slice az qz cz, .bool false, .slice bz kz dz] 26)) (Ke : Hid (Blk w pe #[.int .i64 0] 53)) (Vx : Hid (RatV w (.agg #[.bool nx, .slice ax qx cx, .bool false, .slice bx kx dx]) r)) (Vy : Hid (RatV w (.agg #[.bool ny, .slice ay qy cy, .bool false, .slice by_ ky dy]) s)) (Vz : Hid (RatV w (.agg #[.bool nz, .slice az qz cz, .bool false, .slice bz kz dz]) t)) (Tx : Hid (Sz r 6)) (Ty : Hid (Sz s 6)) (Tz : Hid (Sz t 6)) (ho : -1 ≤ o ∧ o ≤ 1) (C4 : Hid (cmpR (r * t) (s * t) = o))
    (hfin : ∀ {u160 u161 u162 u163 u164 u165 u166 u167 u168 u169 u170 u171 u172 u173 : Value} {w' : World}, Ext w w' → K' ⟨#[l0, l1, l2, .pointer (some ⟨px, 0, none⟩), .pointer (some ⟨py, 0, none⟩), .pointer (some ⟨pz, 0, none⟩), l6, .pointer (some ⟨pe, 0, none⟩), .func (.func 33) #[] #[], .func (.func 37) #[] #[], .bool true, .int .i64 o, l12, l13, l14, l15, l16, l17, l18, l19, l20, l21, l22, l23, l24, l25, l26, l27, l28, l29, l30, l31, l32, l33, l34, l35, l36, l37, l38, l39, l40, l41, l42, l43, l44, l45, l46, l47, l48, l49, l50, l51, l52, l53, l54, l55, l56, l57, l58, l59, l60, l61, l62, l63, l64, l65, l66, l67, l68, l69, l70, l71, l72, l73, l74, l75, l76, l77, l78, l79, l80, l81, l82, l83, l84, l85, l86, l87, l88, l89, l90, l91, l92, l93, l94, l95, l96, l97, l98, l99, l100, l101, l102, l103, l104, l105, l106, l107, l108, l109, l110, l111, l112, l113, l114, l115, l116, l117, l118, l119, l120, l121, l122, l123, l124, l125, l126, l127, l128, l129, l130, l131, l132, l133, l134, l135, l136, l137, l138, l139, l140, l141, l142, l143, l144, l145, l146, l147, l148, l149, l150, l151, l152, l153, l154, l155, l156, l157, l158, l159, u160, u161, u162, u163, u164, u165, u166, u167, u168, u169, u170, u171, u172, u173, l174, l175, l176, l177, l178, l179], []⟩ w') :
    Code.wp Tryz.prog ((Tryz.f8.body.bind (findReg 17)).getD .skip) (Exit.then K' (bodyPost Tryz.prog Tryz.f8 fun e w' => e = .returned (.bool true) ∧ Ext w0 w')) ⟨#[l0, l1, l2, .pointer (some ⟨px, 0, none⟩), .pointer (some ⟨py, 0, none⟩), .pointer (some ⟨pz, 0, none⟩), l6, .pointer (some ⟨pe, 0, none⟩), .func (.func 33) #[] #[], .func (.func 37) #[] #[], .bool true, .int .i64 o, l12, l13, l14, l15, l16, l17, l18, l19, l20, l21, l22, l23, l24, l25, l26, l27, l28, l29, l30, l31, l32, l33, l34, l35, l36, l37, l38, l39, l40, l41, l42, l43, l44, l45, l46, l47, l48, l49, l50, l51, l52, l53, l54, l55, l56, l57, l58, l59, l60, l61, l62, l63, l64, l65, l66, l67, l68, l69, l70, l71, l72, l73, l74, l75, l76, l77, l78, l79, l80, l81, l82, l83, l84, l85, l86, l87, l88, l89, l90, l91, l92, l93, l94, l95, l96, l97, l98, l99, l100, l101, l102, l103, l104, l105, l106, l107, l108, l109, l110, l111, l112, l113, l114, l115, l116, l117, l118, l119, l120, l121, l122, l123, l124, l125, l126, l127, l128, l129, l130, l131, l132, l133, l134, l135, l136, l137, l138, l139, l140, l141, l142, l143, l144, l145, l146, l147, l148, l149, l150, l151, l152, l153, l154, l155, l156, l157, l158, l159, l160, l161, l162, l163, l164, l165, l166, l167, l168, l169, l170, l171, l172, l173, l174, l175, l176, l177, l178, l179], []⟩ w := by
  conv => arg 2; whnf
  have hx : Ext w w := Ext.refl _
  have s0 : World.cell? w ⟨px, 0, none⟩ = some (.bool nx) := Kx.out.cell (i := 0) (v := .bool nx) rfl
  have s1 : World.cell? w ⟨px, 1, none⟩ = some (.slice ax qx cx) := Kx.out.cell (i := 1) (v := .slice ax qx cx) rfl
  have s2 : World.cell? w ⟨px, 2, none⟩ = some (.bool false) := Kx.out.cell (i := 2) (v := .bool false) rfl
  have s3 : World.cell? w ⟨px, 3, none⟩ = some (.slice bx kx dx) := Kx.out.cell (i := 3) (v := .slice bx kx dx) rfl
  have s4 : World.cell? w ⟨py, 0, none⟩ = some (.bool ny) := Ky.out.cell (i := 0) (v := .bool ny) rfl
  have s5 : World.cell? w ⟨py, 1, none⟩ = some (.slice ay qy cy) := Ky.out.cell (i := 1) (v := .slice ay qy cy) rfl
  have s6 : World.cell? w ⟨py, 2, none⟩ = some (.bool false) := Ky.out.cell (i := 2) (v := .bool false) rfl
  have s7 : World.cell? w ⟨py, 3, none⟩ = some (.slice by_ ky dy) := Ky.out.cell (i := 3) (v := .slice by_ ky dy) rfl
  have s8 : World.cell? w ⟨pz, 0, none⟩ = some (.bool nz) := Kz.out.cell (i := 0) (v := .bool nz) rfl
  have s9 : World.cell? w ⟨pz, 1, none⟩ = some (.slice az qz cz) := Kz.out.cell (i := 1) (v := .slice az qz cz) rfl
  have s10 : World.cell? w ⟨pz, 2, none⟩ = some (.bool false) := Kz.out.cell (i := 2) (v := .bool false) rfl
  have s11 : World.cell? w ⟨pz, 3, none⟩ = some (.slice bz kz dz) := Kz.out.cell (i := 3) (v := .slice bz kz dz) rfl
  have hE : Ext w (World.drew w) := (Ext.refl _).drew
  have hyd : Ext w (World.drew w) := (Ext.refl _).drew
  replace hx := hx.trans hyd
  replace Kx := kE Kx hyd
  replace Ky := kE Ky hyd
  replace Kz := kE Kz hyd
  replace Ke := kE Ke hyd
  replace Vx := Lib.hid (Vx.out.ext hyd)
  replace Vy := Lib.hid (Vy.out.ext hyd)
  replace Vz := Lib.hid (Vz.out.ext hyd)
  clear hyd
  replace s0 : World.cell? (World.drew w) ⟨px, 0, none⟩ = some (.bool nx) := s0
  replace s1 : World.cell? (World.drew w) ⟨px, 1, none⟩ = some (.slice ax qx cx) := s1
  replace s2 : World.cell? (World.drew w) ⟨px, 2, none⟩ = some (.bool false) := s2
  replace s3 : World.cell? (World.drew w) ⟨px, 3, none⟩ = some (.slice bx kx dx) := s3
  replace s4 : World.cell? (World.drew w) ⟨py, 0, none⟩ = some (.bool ny) := s4
  replace s5 : World.cell? (World.drew w) ⟨py, 1, none⟩ = some (.slice ay qy cy) := s5
  replace s6 : World.cell? (World.drew w) ⟨py, 2, none⟩ = some (.bool false) := s6
  replace s7 : World.cell? (World.drew w) ⟨py, 3, none⟩ = some (.slice by_ ky dy) := s7
  replace s8 : World.cell? (World.drew w) ⟨pz, 0, none⟩ = some (.bool nz) := s8
  replace s9 : World.cell? (World.drew w) ⟨pz, 1, none⟩ = some (.slice az qz cz) := s9
  replace s10 : World.cell? (World.drew w) ⟨pz, 2, none⟩ = some (.bool false) := s10
  replace s11 : World.cell? (World.drew w) ⟨pz, 3, none⟩ = some (.slice bz kz dz) := s11
  refine wp_region_held_drew (S := (fun w' => World.cell? w' ⟨px, 0, none⟩ = some (.bool nx) ∧ World.cell? w' ⟨px, 1, none⟩ = some (.slice ax qx cx) ∧ World.cell? w' ⟨px, 2, none⟩ = some (.bool false) ∧ World.cell? w' ⟨px, 3, none⟩ = some (.slice bx kx dx) ∧ World.cell? w' ⟨py, 0, none⟩ = some (.bool ny) ∧ World.cell? w' ⟨py, 1, none⟩ = some (.slice ay qy cy) ∧ World.cell? w' ⟨py, 2, none⟩ = some (.bool false) ∧ World.cell? w' ⟨py, 3, none⟩ = some (.slice by_ ky dy) ∧ World.cell? w' ⟨pz, 0, none⟩ = some (.bool nz) ∧ World.cell? w' ⟨pz, 1, none⟩ = some (.slice az qz cz) ∧ World.cell? w' ⟨pz, 2, none⟩ = some (.bool false) ∧ World.cell? w' ⟨pz, 3, none⟩ = some (.slice bz kz dz))) (by kernel_rfl) ?_ (fun hHeld => ?_)
  · exact ⟨s0, s1, s2, s3, s4, s5, s6, s7, s8, s9, s10, s11⟩
  (try simp only [← List.toArray_replicate, List.size_toArray, List.length_cons, List.length_nil, Nat.reduceAdd, List.replicate_succ, List.replicate_zero])
  generalize World.drew w = x1 at *
  refine wpAnyH_take (i := 0) (oi := _) (v := ?_) rfl (by kernel_rfl) (by kernel_rfl) (by kernel_rfl) (fun _ _ _ h => h) (Or.inl ⟨by rfl, ?_⟩) (by assumption) ?_
  rotate_left
  · (intro w hSw; (try dsimp only at hSw); (try go_simp); (try with_reducible rfl))
  (try simp only [Act.put, List.getElem_toArray, List.getElem_cons_succ, List.getElem_cons_zero, List.setIfInBounds_toArray, List.set_cons_zero, List.set_cons_succ])
  refine wpAnyH_take (i := 1) (oi := _) (v := ?_) rfl (by kernel_rfl) (by kernel_rfl) (by kernel_rfl) (fun _ _ _ h => h) (Or.inl ⟨by rfl, ?_⟩) (by assumption) ?_
  rotate_left
  · (intro w hSw; (try dsimp only at hSw); (try go_simp); (try with_reducible rfl))
  (try simp only [Act.put, List.getElem_toArray, List.getElem_cons_succ, List.getElem_cons_zero, List.setIfInBounds_toArray, List.set_cons_zero, List.set_cons_succ])
  refine wpAnyH_take (i := 2) (oi := _) (v := ?_) rfl (by kernel_rfl) (by kernel_rfl) (by kernel_rfl) (fun _ _ _ h => h) (Or.inl ⟨by rfl, ?_⟩) (by assumption) ?_
  rotate_left
  · (intro w hSw; (try dsimp only at hSw); (try go_simp); (try with_reducible rfl))
  (try simp only [Act.put, List.getElem_toArray, List.getElem_cons_succ, List.getElem_cons_zero, List.setIfInBounds_toArray, List.set_cons_zero, List.set_cons_succ])
  refine wpAnyH_take (i := 3) (oi := _) (v := ?_) rfl (by kernel_rfl) (by kernel_rfl) (by kernel_rfl) (fun _ _ _ h => h) (Or.inl ⟨by rfl, ?_⟩) (by assumption) ?_
  rotate_left
  · (intro w hSw; (try dsimp only at hSw); (try go_simp); (try with_reducible rfl))
  (try simp only [Act.put, List.getElem_toArray, List.getElem_cons_succ, List.getElem_cons_zero, List.setIfInBounds_toArray, List.set_cons_zero, List.set_cons_succ])
  refine wpAnyH_take (i := 4) (oi := _) (v := ?_) rfl (by kernel_rfl) (by kernel_rfl) (by kernel_rfl) (fun _ _ _ h => h) (Or.inl ⟨by rfl, ?_⟩) (by assumption) ?_
  rotate_left
  · (intro w hSw; (try dsimp only at hSw); (try go_simp); (try with_reducible rfl))
  (try simp only [Act.put, List.getElem_toArray, List.getElem_cons_succ, List.getElem_cons_zero, List.setIfInBounds_toArray, List.set_cons_zero, List.set_cons_succ])
  refine wpAnyH_take (i := 5) (oi := _) (v := ?_) rfl (by kernel_rfl) (by kernel_rfl) (by kernel_rfl) (fun _ _ _ h => h) (Or.inl ⟨by rfl, ?_⟩) (by assumption) ?_
  rotate_left
  · (intro w hSw; (try dsimp only at hSw); (try go_simp); (try with_reducible rfl))
  (try simp only [Act.put, List.getElem_toArray, List.getElem_cons_succ, List.getElem_cons_zero, List.setIfInBounds_toArray, List.set_cons_zero, List.set_cons_succ])
  refine wpAnyH_take (i := 7) (oi := _) (v := ?_) rfl (by kernel_rfl) (by kernel_rfl) (by kernel_rfl) (fun _ _ _ h => h) (Or.inl ⟨by rfl, ?_⟩) (by assumption) ?_
  rotate_left
  · (intro w hSw; (try dsimp only at hSw); (try go_simp); (try with_reducible rfl))
  (try simp only [Act.put, List.getElem_toArray, List.getElem_cons_succ, List.getElem_cons_zero, List.setIfInBounds_toArray, List.set_cons_zero, List.set_cons_succ])
  refine wpAnyH_take (i := 8) (oi := _) (v := ?_) rfl (by kernel_rfl) (by kernel_rfl) (by kernel_rfl) (fun _ _ _ h => h) (Or.inl ⟨by rfl, ?_⟩) (by assumption) ?_
  rotate_left
  · (intro w hSw; (try dsimp only at hSw); (try go_simp); (try with_reducible rfl))
  (try simp only [Act.put, List.getElem_toArray, List.getElem_cons_succ, List.getElem_cons_zero, List.setIfInBounds_toArray, List.set_cons_zero, List.set_cons_succ])
  refine wpAnyH_take (i := 9) (oi := _) (v := ?_) rfl (by kernel_rfl) (by kernel_rfl) (by kernel_rfl) (fun _ _ _ h => h) (Or.inl ⟨by rfl, ?_⟩) (by assumption) ?_
  rotate_left
  · (intro w hSw; (try dsimp only at hSw); (try go_simp); (try with_reducible rfl))
  (try simp only [Act.put, List.getElem_toArray, List.getElem_cons_succ, List.getElem_cons_zero, List.setIfInBounds_toArray, List.set_cons_zero, List.set_cons_succ])
  refine wpAnyH_ready (rs := [6]) (by kernel_rfl) (by simp) ?_
  refine AllReadyH.cons (o := _) rfl (fun K hK => ?_) ?_
  · go_simp
    (with_reducible refine (calc_doMul Ke.out (fun W h => ratio_Mul (Vx.out.ext h) (Vz.out.ext h) Tx.out Tz.out (by omega))).mono ?_); rintro e x2 ⟨n1, a1, q1, c1, b1, k1, d1, rfl, hv, hy⟩; replace hE := hE.trans hy; replace hx := hx.trans hy; replace s0 := cell_exQ hy s0; replace s1 := cell_exQ hy s1; replace s2 := cell_exQ hy s2; replace s3 := cell_exQ hy s3; replace s4 := cell_exQ hy s4; replace s5 := cell_exQ hy s5; replace s6 := cell_exQ hy s6; replace s7 := cell_exQ hy s7; replace s8 := cell_exQ hy s8; replace s9 := cell_exQ hy s9; replace s10 := cell_exQ hy s10; replace s11 := cell_exQ hy s11; replace Kx := kE Kx hy; replace Ky := kE Ky hy; replace Kz := kE Kz hy; replace Ke := kE Ke hy; replace Vx := Lib.hid (Vx.out.ext hy); replace Vy := Lib.hid (Vy.out.ext hy); replace Vz := Lib.hid (Vz.out.ext hy); clear hy; have V1 := Lib.hid hv; clear hv
    refine hK.out _ _ ?_ (fun hHeld2 => ?_)
    · exact ⟨s0, s1, s2, s3, s4, s5, s6, s7, s8, s9, s10, s11⟩
    clear hK K hHeld
    have hHeld := hHeld2
    clear hHeld2
    (try simp only [Act.put, List.getElem_toArray, List.getElem_cons_succ, List.getElem_cons_zero, List.setIfInBounds_toArray, List.set_cons_zero, List.set_cons_succ])
    refine wpAnyH_ready (rs := [10]) (by kernel_rfl) (by simp) ?_
    refine AllReadyH.cons (o := _) rfl (fun K hK => ?_) ?_
    · go_simp
      (with_reducible refine (calc_doMul Ke.out (fun W h => ratio_Mul (Vy.out.ext h) (Vz.out.ext h) Ty.out Tz.out (by omega))).mono ?_); rintro e x3 ⟨n2, a2, q2, c2, b2, k2, d2, rfl, hv, hy⟩; replace hE := hE.trans hy; replace hx := hx.trans hy; replace s0 := cell_exQ hy s0; replace s1 := cell_exQ hy s1; replace s2 := cell_exQ hy s2; replace s3 := cell_exQ hy s3; replace s4 := cell_exQ hy s4; replace s5 := cell_exQ hy s5; replace s6 := cell_exQ hy s6; replace s7 := cell_exQ hy s7; replace s8 := cell_exQ hy s8; replace s9 := cell_exQ hy s9; replace s10 := cell_exQ hy s10; replace s11 := cell_exQ hy s11; replace Kx := kE Kx hy; replace Ky := kE Ky hy; replace Kz := kE Kz hy; replace Ke := kE Ke hy; replace Vx := Lib.hid (Vx.out.ext hy); replace Vy := Lib.hid (Vy.out.ext hy); replace Vz := Lib.hid (Vz.out.ext hy); replace V1 := Lib.hid (V1.out.ext hy); clear hy; have V2 := Lib.hid hv; clear hv
      refine hK.out _ _ ?_ (fun hHeld2 => ?_)
      · exact ⟨s0, s1, s2, s3, s4, s5, s6, s7, s8, s9, s10, s11⟩
      clear hK K hHeld
      have hHeld := hHeld2
      clear hHeld2
      (try simp only [Act.put, List.getElem_toArray, List.getElem_cons_succ, List.getElem_cons_zero, List.setIfInBounds_toArray, List.set_cons_zero, List.set_cons_succ])
      refine wpAnyH_ready (rs := [11]) (by kernel_rfl) (by simp) ?_
      refine AllReadyH.cons (o := _) rfl (fun K hK => ?_) ?_
      · go_simp
        (with_reducible refine (calc_cmp Ke.out V1.out V2.out (Sz.mul Tx.out Tz.out) (Sz.mul Ty.out Tz.out) (by omega) (C4.out)).mono ?_); rintro e x4 ⟨rfl, hy⟩; replace hE := hE.trans hy; replace hx := hx.trans hy; replace s0 := cell_exQ hy s0; replace s1 := cell_exQ hy s1; replace s2 := cell_exQ hy s2; replace s3 := cell_exQ hy s3; replace s4 := cell_exQ hy s4; replace s5 := cell_exQ hy s5; replace s6 := cell_exQ hy s6; replace s7 := cell_exQ hy s7; replace s8 := cell_exQ hy s8; replace s9 := cell_exQ hy s9; replace s10 := cell_exQ hy s10; replace s11 := cell_exQ hy s11; replace Kx := kE Kx hy; replace Ky := kE Ky hy; replace Kz := kE Kz hy; replace Ke := kE Ke hy; replace Vx := Lib.hid (Vx.out.ext hy); replace Vy := Lib.hid (Vy.out.ext hy); replace Vz := Lib.hid (Vz.out.ext hy); replace V1 := Lib.hid (V1.out.ext hy); replace V2 := Lib.hid (V2.out.ext hy); clear hy
        refine hK.out _ _ ?_ (fun hHeld2 => ?_)
        · exact ⟨s0, s1, s2, s3, s4, s5, s6, s7, s8, s9, s10, s11⟩
        clear hK K hHeld
        have hHeld := hHeld2
        clear hHeld2
        (try simp only [Act.put, List.getElem_toArray, List.getElem_cons_succ, List.getElem_cons_zero, List.setIfInBounds_toArray, List.set_cons_zero, List.set_cons_succ])
        refine wpAnyH_take (i := 12) (oi := _) (v := ?_) rfl (by kernel_rfl) (by kernel_rfl) (by kernel_rfl) (fun _ _ _ h => h) (Or.inl ⟨by rfl, ?_⟩) (by assumption) ?_
        rotate_left
        · (intro w hSw; (try dsimp only at hSw); (try go_simp); (try with_reducible rfl))
        (try simp only [Act.put, List.getElem_toArray, List.getElem_cons_succ, List.getElem_cons_zero, List.setIfInBounds_toArray, List.set_cons_zero, List.set_cons_succ])
        refine wpAnyH_take (i := 13) (oi := _) (v := ?_) rfl (by kernel_rfl) (by kernel_rfl) (by kernel_rfl) (fun _ _ _ h => h) (Or.inl ⟨by rfl, ?_⟩) (by assumption) ?_
        rotate_left
        · (intro w hSw; (try dsimp only at hSw); (try go_simp); (try with_reducible rfl))
        (try simp only [Act.put, List.getElem_toArray, List.getElem_cons_succ, List.getElem_cons_zero, List.setIfInBounds_toArray, List.set_cons_zero, List.set_cons_succ])
        refine wpAnyH_take (i := 14) (oi := _) (v := ?_) rfl (by kernel_rfl) (by kernel_rfl) (by kernel_rfl) (fun _ _ _ h => h) (Or.inl ⟨by rfl, ?_⟩) (by assumption) ?_
        rotate_left
        · (intro w hSw; (try dsimp only at hSw); (try go_simp); (try with_reducible rfl))
        (try simp only [Act.put, List.getElem_toArray, List.getElem_cons_succ, List.getElem_cons_zero, List.setIfInBounds_toArray, List.set_cons_zero, List.set_cons_succ])
        refine wpAnyH_done (by kernel_rfl) ?_ _
        show K' _ _
        refine hfin ?_
        exact hE
      exact AllReadyH.nil
    exact AllReadyH.nil
  exact AllReadyH.nil
end Go.Proofs.YtnpeakahiedeoaaGreatDoor
