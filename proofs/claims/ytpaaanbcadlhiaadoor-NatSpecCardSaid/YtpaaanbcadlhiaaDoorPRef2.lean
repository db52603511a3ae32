import Derived.Test.YtpaaanbcadlhiaaDoorPRef1
namespace Go.Proofs.YtpaaanbcadlhiaaDoor
open Go.RowKit Go BigFrame Go.Shelf
set_option maxRecDepth 100000
set_option linter.unusedSimpArgs false

set_option maxHeartbeats 4000000 in
theorem ref_times (a b : Option Addr) (ca cb : Nat) (l m : List Int) (w : World) (h : Ints w a ca l) (k : Ints w b cb m) (hl : Digs l) (hm : Digs m) (h1 : l.length + m.length ≤ 99999) :
    Calls Tryd.prog 60 #[.slice a l.length ca, .slice b m.length cb] w (DigP (digs (dval l * dval m).toNat) w) := by
  obtain ⟨i0, hi0, hz0, hz1, hz2⟩ := info_parts infoI
  have hle1 := h.le
  have hmx1 := h.mx
  have hle2 := k.le
  have hmx2 := k.mx
  obtain ⟨n, hn⟩ : ∃ n, l.length + m.length = n := ⟨_, rfl⟩
  have hn2 : (l.length : Int) + (m.length : Int) = (n : Int) := by omega
  have HI := Lib.hid h
  have HI2 := Lib.hid k
  have HD1 := Lib.hid hl
  have HD2 := Lib.hid hm
  clear h k hl hm
  go_enter Tryd.func60, Tryd.ntmps60
  go_wp2_with (at_make; refine wpList_make_full _ rfl _ _ 22 rfl w.heap.size 3 i0 (.int .i64 0) 1 Tryd.underlying22 hi0 hz0 hz1 _ _ _ _ n rfl rfl rfl rfl (by rw [hz2]; omega) (by unfold maxLen; omega) (Nat.le_refl _) ?_; intro w2 hown hgrow)
  have hown : w2.ownsRow w.heap.size 3 1 (.slice (some ⟨w.heap.size, 0, none⟩) n n) n ((List.replicate n (0 : Int)).map (Value.int .i64)) := by simpa [Value.cells, toList_madeCells_one] using hown
  have hB0 : IB w2 w.heap.size (List.replicate n 0) := IB.of_owns hown
  have hx0 : Ext w w2 := grownExt (Ext.refl w) hgrow
  have hst := RowM.start l m
  rw [hn] at hst
  have HST := Lib.hid hst
  clear hown hgrow hst
  obtain ⟨g, hg⟩ : ∃ g, w.heap.size = g := ⟨_, rfl⟩
  rw [hg] at hB0 ⊢
  have HG := Lib.hid hg
  have HN := Lib.hid hn
  clear hg
  go_loopw [6] (fun i wr => ∃ (k : Nat) (M : List Int), k ≤ l.length ∧ i = .int .i64 k ∧ RowM l m k M ∧ IB wr g M ∧ Ext w wr) (fun i _ => l.length - (intOf i).toNat)
  case atStart => exact ⟨0, _, Nat.zero_le _, rfl, HST.out, hB0, hx0⟩
  case round =>
    clear hB0 hx0 HST
    obtain ⟨i, M, hi, rfl, hR, hBr, hxr⟩ := hrel
    by_cases hil : i < l.length
    · obtain ⟨b1, o1, rfl⟩ := (HI.out).head hil
      obtain ⟨x, hx, hc, _⟩ := Ints.get (HI.out.ext hxr) hil
      have hxd := HD1.out.getD i
      rw [getD_of hx] at hxd
      have HX := Lib.hid (getD_of hx)
      have HR := Lib.hid hR
      have HB : Hid (IB wr g M) := Lib.hid hBr
      have HXR := Lib.hid hxr
      have g1 : (0 : Int) ≤ (i : Int) := by omega
      have g2 : (i : Int) < (l.length : Int) := by omega
      have HXI := Lib.hid (show l[i] = x by have := getD_of hx; rw [← this]; simp [List.getD, hil])
      clear hx hR hBr hc
      go_wp2_with fail
      go_loopw [7, 8] (fun o j w3 => ∃ (k : Nat) (M : List Int) (z : Int), k ≤ m.length ∧ j = .int .i64 k ∧ o = .int .i64 z ∧ ColM l m i k x M z ∧ IB w3 g M ∧ Ext w w3) (fun _ j _ => m.length - (intOf j).toNat)
      case atStart => exact ⟨0, M, 0, Nat.zero_le _, rfl, rfl, HR.out.col x, HB.out, HXR.out⟩
      case round =>
        clear HR HB HXR hxr
        obtain ⟨k, M2, z, hk, rfl, rfl, hC, hB2, hx2⟩ := hrel
        obtain ⟨z0, z1⟩ : 0 ≤ z ∧ z < 1073741824 := ⟨hC.o0, hC.o1⟩
        by_cases hkm : k < m.length
        · obtain ⟨b2, o2, rfl⟩ := (HI2.out).head hkm
          obtain ⟨y, hy, hc2, _⟩ := Ints.get (HI2.out.ext hx2) hkm
          have hyd := HD2.out.getD k
          rw [getD_of hy] at hyd
          obtain ⟨b3, b4, b5, b6⟩ := hC.bd hxd hyd
          have e1 := IB.at hB2 (i := i + k) (by rw [hC.len]; omega)
          have ea := ((HI.out.ext hx2).cell (i := i) hil).1
          rw [HXI.out] at ea
          have f1 := hB2.free (i + k)
          have hdg := hC.dig.getD (i + k)
          have hstep := fun s hs => hC.step (s := s) hil hkm hxd HD2.out (getD_of hy) hs
          generalize M2.getD (i + k) 0 = u at *
          obtain ⟨p, hp⟩ : ∃ p, x * y = p := ⟨_, rfl⟩
          rw [hp] at b3 b4 b5 b6
          obtain ⟨s, hs⟩ : ∃ s, u + p + z = s := ⟨_, rfl⟩
          have hst := hstep s (by rw [hp]; exact hs)
          have HS := Lib.hid hst
          have HB2 : Hid (IB wr g M2) := Lib.hid hB2
          have HX2 := Lib.hid hx2
          have L1 := later_cell ea
          have L2 := later_cell hc2
          have L3 := later_cell e1
          have hw1 : IntKind.i64.wrap p = p := IntWalk.i64_in _ (by omega)
          have hw2 : IntKind.i64.wrap (u + p) = u + p := IntWalk.i64_in _ (by omega)
          have hw3 : IntKind.i64.wrap s = s := IntWalk.i64_in _ (by rw [hs] at b5 b6; omega)
          have g3 : (0 : Int) ≤ (k : Int) := by omega
          have g4 : (k : Int) < (m.length : Int) := by omega
          have g5 : (0 : Int) ≤ (i : Int) + (k : Int) := by omega
          have g6 : (i : Int) + (k : Int) < (n : Int) := by omega
          rw [hs] at b5 b6
          clear hy hstep hst hB2 hC ea hc2 e1 f1
          go_upto_region 9 with fail
          refine wp_region_later (by kernel_rfl) (by kernel_rfl) ?_; repeat (go_big_quiet_step (fail))
          refine wpQuiet_nil ?_; rintro w7 ⟨⟨W2, HW2⟩, rfl⟩; (try dsimp only)
          have HB2 : Hid (IB w7 g M2) := Lib.hid (Blk.ext HB2.out HW2)
          have HX2 := Lib.hid (hx2.trans HW2)
          have e1 := IB.at HB2.out (i := i + k) (by have := HS.out.len; simp only [List.length_set] at this; rw [this]; omega)
          have f1 := Blk.free HB2.out (i + k)
          clear L1 L2 L3 hw1 hw2 hw3 hx2
          go_wp2_with fail
          go_roundw
          case rel =>
            refine ⟨k + 1, _, _, by omega, by go_num, rfl, HS.out, IB.put HB2.out _ _, HX2.out.set (p := ⟨g, i + k, none⟩) (by dsimp only; rw [HG.out]; exact Nat.le_refl _) _⟩
          case measure => simp [intOf]; omega
        · obtain rfl : k = m.length := by omega
          have hdn := hC.done hil HX.out
          have e1 := IB.at hB2 (i := i + m.length) (by rw [hC.len]; omega)
          have f1 := hB2.free (i + m.length)
          have HS := Lib.hid hdn
          have HB2 : Hid (IB wr g M2) := Lib.hid hB2
          have HX2 := Lib.hid hx2
          have g5 : (0 : Int) ≤ (i : Int) + (m.length : Int) := by omega
          have g6 : (i : Int) + (m.length : Int) < (n : Int) := by omega
          clear hdn hB2 hx2 hC
          go_wp2_with fail
          go_roundw
          case rel => exact ⟨i + 1, _, by omega, by go_num, HS.out, IB.put HB2.out _ _, HX2.out.set (p := ⟨g, i + m.length, none⟩) (by dsimp only; rw [HG.out]; exact Nat.le_refl _) _⟩
          case measure => simp [intOf]; omega
    · obtain rfl : i = l.length := by omega
      have hdg := hR.dig
      have hTr := hR.done
      have hMn : M.length = n := by rw [hR.len]; exact HN.out
      have hI := IB.ints hBr (fun x hx => by have := hdg x hx; omega) (by rw [hMn]; omega)
      have hT := ref_trim _ _ _ wr hI
      have hO := IB.own (base := w.heap.size) hBr (by rw [HG.out]; exact Nat.le_refl _) (by rw [hMn]; unfold maxLen; omega) (trim_len M)
      rw [← trim_take, hTr, hMn] at hO
      rw [hTr, hMn] at hT
      have HT := Lib.hid hT
      have HO := Lib.hid hO
      have HXR := Lib.hid hxr
      clear hR hBr hI hT hO hdg hTr hxr
      go_wp2_with fail
      refine HT.out.mono ?_
      rintro e w4 ⟨rfl, rfl⟩
      go_wp2_with fail
      go_ret
      exact ⟨_, rfl, HO.out, HXR.out⟩
end Go.Proofs.YtpaaanbcadlhiaaDoor
