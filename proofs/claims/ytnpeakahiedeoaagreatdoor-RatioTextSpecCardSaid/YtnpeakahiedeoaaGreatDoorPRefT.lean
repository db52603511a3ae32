import Derived.Test.YtnpeakahiedeoaaGreatDoorPRefD
import Derived.Test.YtnpeakahiedeoaaGreatDoorPText
namespace Go.Proofs.YtnpeakahiedeoaaGreatDoor
open Go.RowKit Go BigFrame Go.Shelf
set_option maxRecDepth 100000
set_option linter.unusedSimpArgs false

/-! ref.Text. -/
set_option maxHeartbeats 1000000 in
theorem ref_Text_bad (neg : Bool) (a : Option Addr) (ca : Nat) (l : List Int) (w : World) (h : Ints w a ca l) (hb : chkB neg l = false) :
    Calls Tryz.prog 62 #[.agg #[.bool neg, .slice a l.length ca]] w fun e w' => e = .returned (.tuple #[.string ⟨#[]⟩, .int .i64 90]) ∧ Ext w w' := by
  have B1 := Blk.new0 w #[.bool neg, .slice a l.length ca] 24
  have hx : Ext w (w.alloc (.cells #[.bool neg, .slice a l.length ca] 24)) := (by repeat (first | with_reducible exact Ext.refl _ | with_reducible assumption | with_reducible refine Ext.drewN ?_ _ | with_reducible refine Ext.drew ?_ | with_reducible refine Ext.alloc' ?_ _ | with_reducible refine Ext.set ?_ (by dsimp only; omega) _))
  have HC := ref_Check neg a ca l _ (h.ext hx)
  rw [hb] at HC
  have HC := Lib.hid HC
  have c0 := B1.cell (i := 0) (v := .bool neg) rfl
  have c1 := B1.cell (i := 1) (v := .slice a l.length ca) rfl
  clear h hb B1
  go_enter Tryz.func62, Tryz.ntmps62
  go_upto_region 1 with fail
  generalize w.alloc (.cells #[.bool neg, .slice a l.length ca] 24) = w1 at *
  go_wp2_with fail
  refine HC.out.mono ?_
  rintro e w2 ⟨rfl, hy⟩
  go_wp2_with fail
  refine bodyPost_ret (v := .tuple #[.string ⟨#[]⟩, .int .i64 90]) (by simp [results, Tryz.results62, go_sem, errN]) rfl ?_
  exact ⟨rfl, hx.trans hy⟩
theorem run_convert_one (w : World) (b : UInt8) : (convert 106 9 (.slice (some ⟨w.heap.size, 0, none⟩) 1 1)).run Tryz.prog (w.alloc (.cells #[.int .u8 (b.toNat : Int)] 5)) = .ok (.string ⟨#[b]⟩) (w.alloc (.cells #[.int .u8 (b.toNat : Int)] 5)) :=
  run_convert_bytes_back (P := Tryz.prog) _ 106 9 5 ⟨w.heap.size, 0, none⟩ 1 [b] Tryz.underlying106 Tryz.underlying5 Tryz.underlying9 (fun j hj => by
    obtain rfl : j = 0 := by simpa using hj
    exact World.cell?_alloc_mark w #[.int .u8 (b.toNat : Int)] 5 (0, 0) 0)
theorem decL_take {U k : Nat} {S : List UInt8} (h : decL U = S ++ decL k) (hk : 0 < k) : decL U = (S ++ [UInt8.ofNat (48 + k % 10)]) ++ decL (k / 10) := by
  rw [h, decL_pos hk, List.append_assoc]; rfl
def TextR (U k : Nat) (L : List UInt8) : Prop := ∃ S, decL U = S ++ decL k ∧ L = S.reverse
theorem TextR.step {U k : Nat} {L : List UInt8} (h : TextR U k L) (hk : 0 < k) {b : UInt8} (hb : UInt8.ofNat (48 + k % 10) = b) : TextR U (k / 10) (b :: L) := by
  obtain ⟨S, h1, rfl⟩ := h
  exact ⟨S ++ [b], by rw [← hb]; exact decL_take h1 hk, by simp⟩
theorem TextR.done {U : Nat} {L : List UInt8} (h : TextR U 0 L) : L = (decL U).reverse := by
  obtain ⟨S, h1, rfl⟩ := h
  rw [h1, decL_zero, List.append_nil]
theorem pow30_10 (k : Nat) : (1073741824 : Nat) ^ k ≤ 10 ^ (10 * k) := by
  rw [Nat.pow_mul]; exact Nat.pow_le_pow_left (by decide) k
theorem decL_len {U k : Nat} (h : (digs U).length ≤ k) : (decL U).length ≤ 10 * k := by
  have h1 := dval_lt (digs_norm U).digs
  rw [digs_val] at h1
  have h2 := pow_cast30 (digs U).length
  have h3 : U < 1073741824 ^ (digs U).length := by
    generalize (1073741824 : Int) ^ (digs U).length = P at *
    generalize (1073741824 : Nat) ^ (digs U).length = Q at *
    omega
  have h4 := (dgs_full _ _ (Nat.lt_of_lt_of_le h3 (pow30_10 _))).1
  omega
theorem TextR.len {U k n : Nat} {L : List UInt8} (h : TextR U k L) (hU : (digs U).length ≤ n) : L.length ≤ 10 * n := by
  obtain ⟨S, h1, rfl⟩ := h
  have := decL_len hU
  rw [h1, List.length_append] at this
  rw [List.length_reverse]; omega
theorem digit_ten (k : Nat) : (digs (k % 10)).getD 0 0 = ((k % 10 : Nat) : Int) := by
  by_cases h : k % 10 = 0
  · rw [h, digs_zero]; rfl
  · rw [digs_pos (by omega)]
    show ((k % 10 % 1073741824 : Nat) : Int) = _
    rw [Nat.mod_eq_of_lt (by omega)]
set_option maxHeartbeats 2000000 in
theorem ref_Text_ok (neg : Bool) (a : Option Addr) (ca n : Nat) (U : Nat) (w : World) (h : Ints w a ca (digs U)) (hn : (digs U).length = n) (hb : chkB neg (digs U) = true) :
    Calls Tryz.prog 62 #[.agg #[.bool neg, .slice a n ca]] w (TextP (sgn neg U) w) := by
  have B1 := Blk.new0 w #[.bool neg, .slice a n ca] 24
  have hx : Ext w (w.alloc (.cells #[.bool neg, .slice a n ca] 24)) := (by repeat (first | with_reducible exact Ext.refl _ | with_reducible assumption | with_reducible refine Ext.drewN ?_ _ | with_reducible refine Ext.drew ?_ | with_reducible refine Ext.alloc' ?_ _ | with_reducible refine Ext.set ?_ (by dsimp only; omega) _))
  have HC := ref_Check neg a ca (digs U) _ (h.ext hx)
  rw [hb, hn] at HC
  have HC := Lib.hid (show Calls Tryz.prog 53 _ _ fun e w' => e = .returned (.int .i64 0) ∧ Ext _ w' from HC)
  have hlen := (of_chk hb).2
  rw [hn] at hlen
  have hneg : neg = true → U ≠ 0 := fun e h0 => by
    subst e; subst h0
    rw [digs_zero] at hb
    exact absurd hb (by decide)
  have HNEG := Lib.hid hneg
  have HN := Lib.hid hn
  have HI := Lib.hid (h.ext hx)
  have HX := Lib.hid hx
  have HB := Lib.hid B1
  have c0 := B1.cell (i := 0) (v := .bool neg) rfl
  have c1 := B1.cell (i := 1) (v := .slice a n ca) rfl
  clear h hb B1 hn hx hneg
  go_enter Tryz.func62, Tryz.ntmps62
  go_upto_region 1 with fail
  generalize w.alloc (.cells #[.bool neg, .slice a n ca] 24) = w1 at *
  go_wp2_with fail
  refine HC.out.mono ?_
  rintro e w2 ⟨rfl, hy⟩
  have HY := Lib.hid hy
  have HB2 := Lib.hid (HB.out.ext hy)
  clear c0 c1 hy HC
  have d1 := HB2.out.cell (i := 1) (v := .slice a n ca) rfl
  go_wp2_with fail
  clear d1
  go_loopg [5, 6] U (fun k vs vm wr => ∃ (S : List UInt8) (am : Option Addr) (cm L : Nat), vs = .string ⟨S.toArray⟩ ∧ vm = .slice am L cm ∧ (digs k).length = L ∧ Ints wr am cm (digs k) ∧ L ≤ 2048 ∧ TextR U k S ∧ Ext w2 wr)
  case atStart => exact ⟨[], a, ca, n, rfl, rfl, HN.out, HI.out.ext HY.out, hlen, ⟨[], rfl, rfl⟩, Ext.refl _⟩
  case round =>
    obtain ⟨S, am, cm, L, rfl, rfl, hL, hi, hL2, hS, hxr⟩ := hrel
    by_cases hk : gk = 0
    · subst hk
      rw [digs_zero] at hL
      obtain rfl : L = 0 := by simpa using hL.symm
      have hS := hS.done
      subst hS
      have d1 := (HB2.out.ext hxr).cell (i := 0) (v := .bool neg) rfl
      have HXX := Lib.hid ((HX.out.trans HY.out).trans hxr)
      have hne := HNEG.out
      obtain ⟨D, hD⟩ : ∃ D, (decL U).reverse = D := ⟨_, rfl⟩
      rw [hD]
      have hlenD : D.length ≤ 20480 := by
        rw [← hD, List.length_reverse]
        have := decL_len (U := U) (k := 2048) (by rw [HN.out]; exact hlen)
        omega
      have hcat : ∀ W : World, (Op.stringOp .add ⟨#[45]⟩ ⟨D.toArray⟩).run Tryz.prog W = .ok (.string ⟨(45 :: D).toArray⟩) W := fun W => by
        have := run_string_add_lists (P := Tryz.prog) W [45] D (by simp) (by omega)
        simpa using this
      by_cases hU : U = 0
      · have hD0 : D = [] := by rw [← hD, hU, decL_zero]; rfl
        obtain rfl : neg = false := by cases neg with
          | false => rfl
          | true => exact absurd hU (hne rfl)
        subst hD0
        have HZ := Lib.hid (show txtL (sgn false (U : Int)) = [48] by rw [hU]; rfl)
        clear hi hL HN HI HNEG HB HB2 hxr hne hlen hlenD hcat hD hU
        go_wp2_with fail
        refine bodyPost_ret (v := .tuple #[.string ⟨#[48]⟩, .int .i64 0]) (by simp [results, Tryz.results62, go_sem]) rfl ?_
        exact ⟨by rw [HZ.out], HXX.out⟩
      · have hD0 : D ≠ [] := by
          intro e
          rw [e, decL_pos (by omega)] at hD
          simp at hD
        have htx : txtL (sgn neg (U : Int)) = if neg then 45 :: D else D := by
          have hz : sgn neg (U : Int) ≠ 0 := by unfold sgn; split <;> omega
          rw [txt_pos hz]
          have hab : (sgn neg (U : Int)).natAbs = U := by unfold sgn; split <;> omega
          rw [hab, hD]
          cases neg
          · rw [if_neg (by unfold sgn; simp)]; rfl
          · rw [if_pos (by unfold sgn; simp; omega), if_pos rfl]
        have HTX := Lib.hid htx
        have hemp : D.isEmpty = false := by cases D with
          | nil => exact absurd rfl hD0
          | cons _ _ => rfl
        clear hi hL HN HI HNEG HB HB2 hxr hne hlen hlenD hD hU htx
        cases hn : neg
        all_goals
          subst hn
          go_wp2_with fail
        · refine bodyPost_ret (v := .tuple #[.string ⟨D.toArray⟩, .int .i64 0]) (by simp [results, Tryz.results62, go_sem]) rfl ?_
          exact ⟨by rw [HTX.out]; rfl, HXX.out⟩
        · refine bodyPost_ret (v := .tuple #[.string ⟨(45 :: D).toArray⟩, .int .i64 0]) (by simp [results, Tryz.results62, go_sem]) rfl ?_
          exact ⟨by rw [HTX.out]; rfl, HXX.out⟩
    · have hp : 0 < L := by rw [← hL, digs_pos (by omega)]; simp
      have hI1 : Ints (wr.alloc (.cells #[.int .i64 10] 3)) (some ⟨wr.heap.size, 0, none⟩) 1 [10] := IB.ints (g := wr.heap.size) (L := [10]) (Blk.new0 wr #[.int .i64 10] 3) (fun x hx => by obtain rfl := List.mem_singleton.1 hx; omega) (by simp)
      obtain ⟨nd, vd⟩ := digs_small (d := 10) (by omega) (by omega)
      have hD := ref_divide am (some ⟨wr.heap.size, 0, none⟩) cm 1 L 1 (L + 1 - 1) (digs gk) [10] _ (hi.ext (Ext.alloc wr (.cells #[.int .i64 10] 3))) hI1 (digs_norm _).digs nd (by omega) rfl hL rfl (by omega) (by omega)
      have hv : (dval (digs gk) / dval [10]).toNat = gk / 10 := by
        rw [digs_val, vd]; have : ((gk : Int) / 10) = ((gk / 10 : Nat) : Int) := by omega
        rw [this]; rfl
      have hr : (dval (digs gk) % dval [10]).toNat = gk % 10 := by
        rw [digs_val, vd]; have : ((gk : Int) % 10) = ((gk % 10 : Nat) : Int) := by omega
        rw [this]; rfl
      unfold DivdP at hD
      rw [hv, hr] at hD
      have HD := Lib.hid hD
      have hsl : ((S.length : Nat) : Int) ≤ 20480 := by have := hS.len (n := 2048) (by rw [HN.out]; exact hlen); omega
      have HS := Lib.hid hS
      have d1 : decide (0 < L) = true := by simpa using hp
      have d2 : decide ((0 : Int) < (L : Int)) = true := by simp only [decide_eq_true_eq]; omega
      have hxa := Lib.hid (hxr.trans (Ext.alloc wr (.cells #[.int .i64 10] 3)))
      have hll : (digs (gk / 10)).length ≤ L := by rw [← hL]; exact digs_mono (by omega)
      have HLL := Lib.hid hll
      clear hD hv hr hI1 nd vd hi hL hS hp hll HB HB2 HC
      go_wp2_with fail
      with_reducible refine HD.out.mono ?_
      rintro e w3 ⟨aq, cq, ar, cr, rfl, hiq, hir, _, _, hy⟩
      have hG := ref_digit ar cr _ 0 w3 hir
      rw [digit_ten] at hG
      rw [show ((0 : Nat) : Int) = 0 from rfl] at hG
      have HG := Lib.hid hG
      clear hG hir
      obtain ⟨b, hb⟩ : ∃ b : UInt8, UInt8.ofNat (48 + gk % 10) = b := ⟨_, rfl⟩
      have hbv : ((b.toNat : Nat) : Int) = 48 + ((gk % 10 : Nat) : Int) := by rw [← hb, UInt8.toNat_ofNat']; omega
      obtain ⟨r, hr⟩ : ∃ r : Int, ((gk % 10 : Nat) : Int) = r := ⟨_, rfl⟩
      rw [hr] at hbv HG
      go_wp2_with fail
      with_reducible refine HG.out.mono ?_
      rintro e w4 ⟨rfl, rfl⟩
      have hbw : IntKind.u8.wrap (48 + r) = ((b.toNat : Nat) : Int) := by rw [hbv, IntKind.wrap_u8]; omega
      have hcv := run_convert_one w3 b
      have HHB := Lib.hid hb
      have HHI := Lib.hid hiq
      have HHY := Lib.hid hy
      have h48 : 0 ≤ r ∧ r ≤ 9 := by omega
      obtain ⟨h48, h49⟩ := h48
      have hcat : ∀ W : World, (Op.stringOp .add ⟨#[b]⟩ ⟨S.toArray⟩).run Tryz.prog W = .ok (.string ⟨(b :: S).toArray⟩) W := fun W => by
        have := run_string_add_lists (P := Tryz.prog) W [b] S (by simp) (by omega)
        simpa using this
      clear hb hiq hy hr HG HD hbv hsl
      go_wp2_with fail
      go_roundg (gk / 10)
      case measure => omega
      case rel => exact ⟨b :: S, aq, cq, _, rfl, rfl, rfl, HHI.out.ext (Ext.alloc _ _), by have := HLL.out; omega, HS.out.step (by omega) HHB.out, (hxa.out.trans HHY.out).trans (Ext.alloc _ _)⟩
theorem rText_val {v : Value} {z : Int} {w : World} (hv : BigV w v z) (hz : Len z) : Calls Tryz.prog 62 #[v] w (TextP z w) := by
  obtain ⟨n1, l, ⟨a, ca, rfl, hi⟩, hb⟩ := hv
  have hc := hb.chk hz
  have h0 := dval_nonneg hb.1.digs
  have hl2 := digs_of hb.1
  rw [← hl2] at hi hc ⊢
  have := ref_Text_ok n1 a ca _ (dval l).toNat w hi rfl hc
  rwa [show (((dval l).toNat : Nat) : Int) = dval l by omega, ← hb.sgn] at this
end Go.Proofs.YtnpeakahiedeoaaGreatDoor
