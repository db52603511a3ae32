import Derived.Test.YtmkleegfbapakaaDHas
import Derived.Test.YtmkleegfbapakaaBlk
import Derived.Deep.LoopGhost
namespace Go.Proofs.Ytmkleegfbapakaa
open Go.RowKit Go D28 BigFrame
set_option maxRecDepth 100000

/-- Strictly increasing. -/
def Inc (l : List Int) : Prop := l.Pairwise (· < ·)
theorem Inc.head {x : Int} {l : List Int} (h : Inc (x :: l)) : ∀ y ∈ l, x < y := (List.pairwise_cons.1 h).1
theorem Inc.tail {x : Int} {l : List Int} (h : Inc (x :: l)) : Inc l := (List.pairwise_cons.1 h).2

theorem common_less {x y : Int} {l m : List Int} (hm : Inc (y :: m)) (h : x < y) : dCommon (x :: l) (y :: m) = dCommon l (y :: m) := by
  have : x ∉ y :: m := by
    intro hx
    rcases List.mem_cons.1 hx with rfl | hx
    · omega
    · have := hm.head _ hx; omega
  simp only [dCommon, List.countP_cons]
  simp [this]
theorem common_more {x y : Int} {l m : List Int} (hl : Inc (x :: l)) (h : y < x) : dCommon (x :: l) (y :: m) = dCommon (x :: l) m := by
  unfold dCommon
  refine List.countP_congr fun z hz => ?_
  have hzy : z ≠ y := by
    rcases List.mem_cons.1 hz with rfl | hz
    · omega
    · have := hl.head _ hz; omega
  simp [hzy]
theorem common_same {x : Int} {l m : List Int} (hl : Inc (x :: l)) : dCommon (x :: l) (x :: m) = dCommon l m + 1 := by
  have : dCommon l (x :: m) = dCommon l m := by
    unfold dCommon
    refine List.countP_congr fun z hz => ?_
    have := hl.head _ hz
    have hzy : z ≠ x := by omega
    simp [hzy]
  rw [← this]
  simp only [dCommon, List.countP_cons]
  simp
theorem common_nil (l : List Int) : dCommon l [] = 0 := by
  unfold dCommon; rw [List.countP_eq_zero]; simp

/-- What is left of a slice behind its first element. -/
theorem Ints.rest {w : World} {b o cap : Nat} {x : Int} {l : List Int} (h : Ints w (some ⟨b, o, none⟩) cap (x :: l)) : ∃ a, (if cap = 1 then some (⟨b, o, none⟩ : Addr) else some ⟨b, o + 1, none⟩) = a ∧ Ints w a (cap - 1) l := by
  have hle := h.le
  simp only [List.length_cons] at hle
  refine ⟨_, rfl, by omega, by have := h.mx; omega, fun e => (by split at e <;> cases e), fun A hA i hi => ?_⟩
  by_cases hc : cap = 1
  · rw [if_pos hc] at hA
    cases hA
    omega
  · rw [if_neg hc] at hA
    cases hA
    obtain ⟨_, v, hv, hr⟩ := h.cells _ rfl (i + 1) (by simp; omega)
    exact ⟨rfl, v, by rw [← hv]; simp [Nat.add_assoc, Nat.add_comm 1 i], by simpa using hr⟩

set_option maxHeartbeats 800000 in
theorem desCommon (a a2 : Option Addr) (cap cap2 : Nat) (l m : List Int) (w : World) (h : Ints w a cap l) (h2 : Ints w a2 cap2 m) (hl : Inc l) (hm : Inc m) :
    Calls Try.prog 47 #[.slice a l.length cap, .slice a2 m.length cap2] w fun e w' => e = .returned (.int .i64 (dCommon l m)) ∧ ∃ n, w' = w.drewN n := by
  have hle := h.le
  have hmx := h.mx
  have HN := Lib.hid (rfl : dCommon l m = dCommon l m)
  go_enter Try.func47, Try.ntmps47
  go_wp2
  go_loopg [0, 1, 4] (l.length + m.length) (fun k va vb vn wr => ∃ (a' a2' : Option Addr) (c' c2' n q : Nat) (l' m' : List Int), va = .slice a' l'.length c' ∧ vb = .slice a2' m'.length c2' ∧ vn = .int .i64 n ∧ n + l'.length ≤ l.length ∧ k = l'.length + m'.length ∧
    Ints w a' c' l' ∧ Ints w a2' c2' m' ∧ Inc l' ∧ Inc m' ∧ dCommon l m = n + dCommon l' m' ∧ wr = w.drewN q)
  case atStart => exact ⟨a, a2, cap, cap2, 0, 0, l, m, rfl, rfl, rfl, by omega, rfl, h, h2, hl, hm, by omega, rfl⟩
  case round =>
    obtain ⟨a', a2', c', c2', n, q, l', m', rfl, rfl, rfl, hb, hk, h1', h2', hl', hm', he, rfl⟩ := hrel
    have HE := Lib.hid he
    have HK := Lib.hid hk
    clear he hk
    have hmx1 := h1'.mx
    have hmx2 := h2'.mx
    have hle1 := h1'.le
    have hle2 := h2'.le
    cases l' with
    | nil =>
      go_wp2_with fail
      go_ret
      refine ⟨ret_int ?_, _, rfl⟩
      rw [HE.out]; simp [dCommon]
    | cons x l' =>
      cases m' with
      | nil =>
        go_wp2_with fail
        go_ret
        refine ⟨ret_int ?_, _, rfl⟩
        rw [HE.out, common_nil]; simp
      | cons y m' =>
        obtain ⟨b1, o1, rfl⟩ := h1'.head (i := 0) (by simp)
        obtain ⟨b2, o2, rfl⟩ := h2'.head (i := 0) (by simp)
        have hc1 := (Ints.cell h1' (i := 0) (by simp)).1
        have hc2 := (Ints.cell h2' (i := 0) (by simp)).1
        simp only [Nat.add_zero, List.getElem_cons_zero] at hc1 hc2
        obtain ⟨r1, e1, hr1⟩ := Ints.rest h1'
        obtain ⟨r2, e2, hr2⟩ := Ints.rest h2'
        simp only [List.length_cons] at hle1 hle2 hb
        by_cases cx : x < y
        · have d1 : decide (x < y) = true := by simpa using cx
          go_wp2_with fail
          go_quiet (fail)
          go_wp2_with fail
          go_roundg (l'.length + (y :: m').length)
          case measure => rw [HK.out]; simp
          case rel => exact ⟨_, _, _, _, n, _, l', y :: m', rfl, rfl, rfl, by omega, rfl, hr1, h2', hl'.tail, hm', by rw [HE.out, common_less hm' cx], rfl⟩
        · have d1 : decide (x < y) = false := by simpa using cx
          by_cases cy : y < x
          · have d2 : decide (y < x) = true := by simpa using cy
            go_wp2_with fail
            go_quiet (fail)
            go_wp2_with fail
            go_quiet (fail)
            go_wp2_with fail
            go_roundg ((x :: l').length + m'.length)
            case measure => rw [HK.out]; simp
            case rel => exact ⟨_, _, _, _, n, _, x :: l', m', rfl, rfl, rfl, by simp only [List.length_cons]; omega, rfl, h1', hr2, hl', hm'.tail, by rw [HE.out, common_more hl' cy], rfl⟩
          · have d2 : decide (y < x) = false := by simpa using cy
            obtain rfl : x = y := by omega
            go_wp2_with fail
            go_quiet (fail)
            go_wp2_with fail
            go_quiet (fail)
            go_wp2_with fail
            go_quiet (fail)
            go_wp2_with fail
            go_roundg (l'.length + m'.length)
            case measure => rw [HK.out]; simp; omega
            case rel => exact ⟨_, _, _, _, n + 1, _, l', m', rfl, rfl, by go_num, by omega, rfl, hr1, hr2, hl'.tail, hm'.tail, by rw [HE.out, common_same hl']; omega, by simp only [World.drewN_drewN]; rfl⟩
end Go.Proofs.Ytmkleegfbapakaa
