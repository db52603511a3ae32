import Derived.Test.YtnpeakahiedeoaaGreatDoorPText
import Derived.Lib.OthersKept
namespace Go.Proofs.YtnpeakahiedeoaaGreatDoor
open Go.RowKit Go BigFrame Go.Shelf
set_option maxRecDepth 100000
set_option linter.unusedSimpArgs false

/-! nat.Read. -/
def restOf (l : List UInt8) : List UInt8 := if l.head? = some 45 then l.tail else l
/-- The rest's form: not empty, no zero ahead of more, no zero behind a sign. -/
def okHead (neg : Bool) (r : List UInt8) : Bool := match r with
  | [] => false
  | [b] => !(b == 48 && neg)
  | b :: _ :: _ => !(b == 48)
def isDig (b : UInt8) : Bool := decide (48 ≤ b.toNat) && decide (b.toNat ≤ 57)
def numL (l : List UInt8) : Nat := l.foldl (fun a b => a * 10 + (b.toNat - 48)) 0
def negOf (l : List UInt8) : Bool := decide (l.head? = some 45)
def readL (l : List UInt8) : Option Int := if okHead (negOf l) (restOf l) && (restOf l).all isDig then some (sgn (negOf l) (numL (restOf l))) else none
theorem numL_snoc (l : List UInt8) (b : UInt8) : numL (l ++ [b]) = numL l * 10 + (b.toNat - 48) := by simp [numL, List.foldl_append]
theorem numL_take {l : List UInt8} {k : Nat} {b : UInt8} (h : l[k]? = some b) : numL (l.take (k + 1)) = numL (l.take k) * 10 + (b.toNat - 48) := by
  rw [List.take_add_one, h]; simp only [Option.toList_some]; exact numL_snoc _ _
theorem all_take {l : List UInt8} {k : Nat} {b : UInt8} (h : l[k]? = some b) : (l.take (k + 1)).all isDig = ((l.take k).all isDig && isDig b) := by
  rw [List.take_add_one, h]; simp only [Option.toList_some]; rw [List.all_append]; simp
theorem list_snoc_ind {α : Type} {P : List α → Prop} (h0 : P []) (h1 : ∀ l d, P l → P (l ++ [d])) (l : List α) : P l := by
  rw [← List.reverse_reverse l]
  generalize l.reverse = r
  induction r with
  | nil => exact h0
  | cons d r ih => rw [List.reverse_cons]; exact h1 _ _ ih
theorem numL_lt (l : List UInt8) : l.all isDig = true → numL l < 10 ^ l.length := by
  refine list_snoc_ind (P := fun l => l.all isDig = true → numL l < 10 ^ l.length) (fun _ => by decide) (fun l b ih h => ?_) l
  rw [List.all_append, Bool.and_eq_true] at h
  have h1 := ih h.1
  have h2 : isDig b = true := by simpa using h.2
  simp only [isDig, Bool.and_eq_true, decide_eq_true_eq] at h2
  rw [numL_snoc, List.length_append, List.length_singleton, Nat.pow_succ]
  omega
theorem Ints.iterAt {w : World} {a : Option Addr} {cap : Nat} {l : List Int} (h : Ints w a cap l) {k : Nat} {s : ByteArray} {p : Nat} (hk : w.heap[k]? = some (.stringIter s p)) (p' : Nat) : Ints (w.iterAt k s p') a cap l := by
  refine ⟨h.le, h.mx, h.nil, fun A hA i hi => ?_⟩
  obtain ⟨hs, v, hv, hr⟩ := h.cells A hA i hi
  refine ⟨hs, v, ?_, hr⟩
  have hne : A.block ≠ k := fun e => by
    simp only [World.cell?, e, hk] at hv
    simp at hv
  rw [World.cell?_of_block (w := w) (a := ⟨A.block, A.off + i, none⟩) (Lib.iterAt_other w k A.block s p' hne)]
  exact hv
theorem Blk.iterAt {w : World} {b : Nat} {cs : Array Value} {t : TypeId} (h : Blk w b cs t) {k : Nat} {s : ByteArray} {p : Nat} (hk : w.heap[k]? = some (.stringIter s p)) (p' : Nat) : Blk (w.iterAt k s p') b cs t := by
  have hne : b ≠ k := fun e => by
    have h2 : w.heap[b]? = some _ := h
    rw [e, hk] at h2; cases h2
  exact (Lib.iterAt_other w k b s p' hne).trans h

set_option maxHeartbeats 2000000 in
theorem nat_Read_head (s : ByteArray) (w : World) (hb : okHead (negOf s.data.toList) (restOf s.data.toList) = false) :
    Calls Tryz.prog 64 #[.string s] w fun e w' => e = .returned (.tuple #[zeroBig, .int .i64 90]) ∧ Ext w w' := by
  have HP := str_CutPrefix s (w.alloc (.cells #[.bool false, .slice none 0 0] 24))
  unfold cutP at HP
  have B1 := Blk.new0 w #[.bool false, .slice none 0 0] 24
  have hx : Ext w (w.alloc (.cells #[.bool false, .slice none 0 0] 24)) := (by repeat (first | with_reducible exact Ext.refl _ | with_reducible assumption | with_reducible refine Ext.drewN ?_ _ | with_reducible refine Ext.drew ?_ | with_reducible refine Ext.alloc' ?_ _ | with_reducible refine Ext.set ?_ (by dsimp only; omega) _))
  obtain ⟨rl, hrl⟩ : ∃ rl, restOf s.data.toList = rl := ⟨_, rfl⟩
  rw [show (if s.data.toList.head? = some 45 then s.data.toList.tail else s.data.toList) = rl from hrl, show decide (s.data.toList.head? = some 45) = negOf s.data.toList from rfl] at HP
  rw [hrl] at hb
  generalize negOf s.data.toList = neg at *
  have HP := Lib.hid HP
  have c0 := B1.cell (i := 0) (v := .bool false) rfl
  have c1 := B1.cell (i := 1) (v := .slice none 0 0) rfl
  have f0 := B1.free 0
  have f1 := B1.free 1
  have HB := Lib.hid B1
  clear hrl B1
  match rl, hb with
  | [], _ =>
    go_enter Tryz.func64, Tryz.ntmps64
    go_upto_region 1 with fail
    generalize w.alloc (.cells #[.bool false, .slice none 0 0] 24) = w1 at *
    go_wp2_with fail
    refine HP.out.mono ?_
    rintro e w2 ⟨rfl, rfl⟩
    have HX := Lib.hid ((hx.set (p := ⟨w.heap.size, 0, none⟩) (by dsimp only; omega) (.bool false)).set (p := ⟨w.heap.size, 1, none⟩) (by dsimp only; omega) (.slice none 0 0))
    go_wp2_with fail
    have K := (HB.out.set 0 (.bool false)).set 1 (.slice none 0 0)
    have e0 := K.cell (i := 0) (v := .bool false) rfl
    have e1 := K.cell (i := 1) (v := .slice none 0 0) rfl
    refine bodyPost_ret (v := .tuple #[zeroBig, .int .i64 90]) (by simp [results, Tryz.results64, go_sem, e0, e1]) rfl ?_
    exact ⟨rfl, HX.out⟩
  | [b], hb =>
    obtain ⟨rfl, rfl⟩ : b = 48 ∧ neg = true := by
      simpa [okHead] using hb
    clear hb
    go_enter Tryz.func64, Tryz.ntmps64
    go_upto_region 1 with fail
    generalize w.alloc (.cells #[.bool false, .slice none 0 0] 24) = w1 at *
    go_wp2_with fail
    refine HP.out.mono ?_
    rintro e w2 ⟨rfl, rfl⟩
    have HX := Lib.hid ((hx.set (p := ⟨w.heap.size, 0, none⟩) (by dsimp only; omega) (.bool false)).set (p := ⟨w.heap.size, 1, none⟩) (by dsimp only; omega) (.slice none 0 0))
    go_wp2_with fail
    have K := (HB.out.set 0 (.bool false)).set 1 (.slice none 0 0)
    have e0 := K.cell (i := 0) (v := .bool false) rfl
    have e1 := K.cell (i := 1) (v := .slice none 0 0) rfl
    refine bodyPost_ret (v := .tuple #[zeroBig, .int .i64 90]) (by simp [results, Tryz.results64, go_sem, e0, e1]) rfl ?_
    exact ⟨rfl, HX.out⟩
  | b :: c :: l, hb =>
    obtain rfl : b = 48 := by simpa [okHead] using hb
    obtain ⟨R, hR⟩ : ∃ R : ByteArray, ⟨(48 :: c :: l).toArray⟩ = R := ⟨_, rfl⟩
    rw [hR] at HP
    have h1 : R.toList.isEmpty = false := by rw [Lib.toList_data, ← hR]; rfl
    have h2 : (R.toList == [48]) = false := by rw [Lib.toList_data, ← hR]; simp
    have h3 : 0 < R.size := by rw [← hR]; simp [ByteArray.size]
    have h4 : ∀ h, (R[0]'h).toNat = 48 := fun h => by subst hR; rfl
    have h5 := h4 h3
    clear hb hR h4
    go_enter Tryz.func64, Tryz.ntmps64
    go_upto_region 1 with fail
    generalize w.alloc (.cells #[.bool false, .slice none 0 0] 24) = w1 at *
    go_wp2_with fail
    refine HP.out.mono ?_
    rintro e w2 ⟨rfl, rfl⟩
    have HX := Lib.hid ((hx.set (p := ⟨w.heap.size, 0, none⟩) (by dsimp only; omega) (.bool false)).set (p := ⟨w.heap.size, 1, none⟩) (by dsimp only; omega) (.slice none 0 0))
    go_wp2_with fail
    have K := (HB.out.set 0 (.bool false)).set 1 (.slice none 0 0)
    have e0 := K.cell (i := 0) (v := .bool false) rfl
    have e1 := K.cell (i := 1) (v := .slice none 0 0) rfl
    refine bodyPost_ret (v := .tuple #[zeroBig, .int .i64 90]) (by simp [results, Tryz.results64, go_sem, e0, e1]) rfl ?_
    exact ⟨rfl, HX.out⟩

theorem pow16 (n : Nat) : (16 : Nat) ^ n = 2 ^ (4 * n) := by rw [Nat.pow_mul]
theorem dec_len0 {N k M L : Nat} (h : N < 10 ^ k) (hk : k ≤ M) (hM : 4 * M ≤ 30 * L) : (digs N).length ≤ L := by
  apply digs_len
  have h1 : (10 : Nat) ^ k ≤ 16 ^ k := Nat.pow_le_pow_left (by decide) k
  have h2 : (16 : Nat) ^ k ≤ 16 ^ M := Nat.pow_le_pow_right (by decide) hk
  have h5 : (2 : Nat) ^ (4 * M) ≤ 2 ^ (30 * L) := Nat.pow_le_pow_right (by decide) hM
  rw [← pow30, ← pow16] at h5
  exact Nat.lt_of_lt_of_le h (Nat.le_trans h1 (Nat.le_trans h2 h5))
theorem dec_len {N k : Nat} (h : N < 10 ^ k) (hk : k ≤ 1000) : (digs N).length ≤ 134 := dec_len0 h hk (by decide)
/-- What Read hands back. -/
def ReadP (o : Option Int) (w : World) (e : Ending) (w' : World) : Prop := (o = none → e = .returned (.tuple #[zeroBig, .int .i64 90]) ∧ Ext w w') ∧ ∀ z, o = some z → OneP z w e w'
theorem ReadP.none {w w' : World} {e : Ending} (h : e = .returned (.tuple #[zeroBig, .int .i64 90]) ∧ Ext w w') : ReadP none w e w' := ⟨fun _ => h, fun _ h => by cases h⟩
theorem ReadP.some {w w' : World} {e : Ending} {z : Int} (h : OneP z w e w') : ReadP (some z) w e w' := ⟨fun h => by (cases h), fun y hy => by cases hy; exact h⟩
theorem digs_ten : Norm [10] ∧ dval [10] = 10 := digs_small (d := 10) (by omega) (by omega)

set_option maxHeartbeats 4000000 in
theorem nat_Read_body (s R : ByteArray) (neg zb : Bool) (w : World) (hR : restOf s.data.toList = R.data.toList) (hn : negOf s.data.toList = neg) (hs : R.size ≤ 1000) (h1 : R.toList.isEmpty = false) (h2 : (R.toList == [48]) = zb) (h3 : 0 < R.size)
    (h5 : zb = false → ¬ ((R[0]'h3).toNat : Int) = 48) (h6 : zb = true → neg = false) (h11 : neg = true → R.data.toList.all isDig = true → 0 < numL R.data.toList) :
    Calls Tryz.prog 64 #[.string s] w (ReadP (if R.data.toList.all isDig then some (sgn neg (numL R.data.toList)) else none) w) := by
  have HP := str_CutPrefix s (w.alloc (.cells #[.bool false, .slice none 0 0] 24))
  unfold cutP at HP
  have B1 := Blk.new0 w #[.bool false, .slice none 0 0] 24
  have hx : Ext w (w.alloc (.cells #[.bool false, .slice none 0 0] 24)) := (by repeat (first | with_reducible exact Ext.refl _ | with_reducible assumption | with_reducible refine Ext.drewN ?_ _ | with_reducible refine Ext.drew ?_ | with_reducible refine Ext.alloc' ?_ _ | with_reducible refine Ext.set ?_ (by dsimp only; omega) _))
  rw [show (if s.data.toList.head? = some 45 then s.data.toList.tail else s.data.toList) = R.data.toList from hR, show decide (s.data.toList.head? = some 45) = neg from hn, ba_mk] at HP
  have HP := Lib.hid HP
  have c0 := B1.cell (i := 0) (v := .bool false) rfl
  have c1 := B1.cell (i := 1) (v := .slice none 0 0) rfl
  have HB := Lib.hid B1
  have HRS := Lib.hid (show R.data.toList.length = R.size from (Lib.size_eq R).symm)
  obtain ⟨n, hn2⟩ : ∃ n, R.size = n := ⟨_, rfl⟩
  have HN := Lib.hid hn2
  have h3n : 0 < n := by omega
  have hs2 : (n : Int) ≤ 1000 := by omega
  have hsn : n ≤ 1000 := by omega
  obtain ⟨O, hO⟩ : ∃ O, (if R.data.toList.all isDig then some (sgn neg (numL R.data.toList)) else none) = O := ⟨_, rfl⟩
  have HO := Lib.hid hO
  rw [hO]
  clear hR hn B1 hO
  obtain ⟨nb, hnb⟩ : ∃ nb, neg = nb := ⟨_, rfl⟩
  have HNB := Lib.hid hnb
  rw [hnb] at h11
  have H11 := Lib.hid h11
  clear hnb h11
  rcases (show (zb = true ∧ neg = false) ∨ (zb = false ∧ neg = false) ∨ (zb = false ∧ neg = true) by cases zb <;> cases neg <;> simp at h6 ⊢) with ⟨rfl, rfl⟩ | hzz
  case' inl => clear h5 h6
  case' inr =>
    obtain rfl : zb = false := by rcases hzz with h | h <;> exact h.1
    have h7 : ¬ ((R[0]'h3).toNat : Int) = 48 := h5 rfl
    have h8 : ¬ (R[0]'h3).toNat = 48 := fun e => h7 (by rw [e]; rfl)
    have h9 : (((R[0]'h3).toNat : Int) == 48) = false := by simpa using h7
    have h10 : ((R[0]'h3).toNat == 48) = false := by simpa using h8
    clear h5 h6
    rcases hzz with ⟨_, rfl⟩ | ⟨_, rfl⟩
  all_goals
    go_enter Tryz.func64, Tryz.ntmps64
    go_upto_region 1 with fail
    generalize hw1 : w.alloc (.cells #[.bool false, .slice none 0 0] 24) = w1 at *
    clear hw1
    go_wp2_with fail
    refine HP.out.mono ?_
    rintro e w2 ⟨rfl, rfl⟩
    go_upto_region 5 with fail
    have HB2 := Lib.hid (HB.out.alloc (.cells #[] 3))
    have HI2 := Lib.hid (show Ints (w2.alloc (.cells #[] 3)) (some ⟨w2.heap.size, 0, none⟩) 0 [] from ⟨Nat.le_refl _, by omega, fun h => by (cases h), fun A hA i hi => by simp at hi⟩)
    have hx2 := hx.alloc' (.cells #[] 3)
    have hsz2 : w.heap.size < w2.heap.size := HB.out.lt
    have hsz3 : (w2.alloc (.cells #[] 3)).heap.size = w2.heap.size + 1 := by simp
    generalize w2.alloc (.cells #[] 3) = w3 at *
    clear c0 c1 HP HB
    have HB3 := Lib.hid (HB2.out.ext (Ext.alloc w3 (.stringIter R 0)))
    have HI3 := Lib.hid (HI2.out.ext (Ext.alloc w3 (.stringIter R 0)))
    have hx3 := Lib.hid (hx2.alloc' (.stringIter R 0))
    have hit : (w3.alloc (.stringIter R 0)).heap[w2.heap.size + 1]? = some (.stringIter R 0) := by rw [← hsz3]; exact heap_alloc_new w3 _
    have HIT := Lib.hid hit
    have HSZ := Lib.hid hsz3
    clear HB2 HI2 hx2 hit
    go_wp2_with fail
    rw [show w3.iter R 0 = w3.alloc (.stringIter R 0) from rfl]
    generalize w3.alloc (.stringIter R 0) = w4 at *
    try rw [HSZ.out]
    go_loopg [6] n (fun gk v6 wr => ∃ (k N : Nat) (a : Option Addr) (c L : Nat), k ≤ n ∧ gk = n - k ∧ v6 = .slice a L c ∧ L = (digs N).length ∧ N = numL (R.data.toList.take k) ∧ Ints wr a c (digs N) ∧ (R.data.toList.take k).all isDig = true ∧
      wr.heap[w2.heap.size + 1]? = some (.stringIter R k) ∧ Blk wr w.heap.size #[.bool false, .slice none 0 0] 24 ∧ Ext w wr ∧ (∀ A, a = some A → w.heap.size < A.block) ∧ w2.heap.size + 1 < wr.heap.size)
    case atStart =>
      exact ⟨0, 0, _, 0, 0, Nat.zero_le _, rfl, rfl, by rw [digs_zero]; rfl, rfl, by rw [digs_zero]; exact HI3.out, rfl, HIT.out, HB3.out, hx3.out, fun A hA => by cases hA; exact hsz2, (Array.getElem?_eq_some_iff.1 HIT.out).1⟩
    case round =>
      clear HI3 HIT HB3 hx3
      obtain ⟨k, N, a, c, L, hk, hgk, rfl, hL, hN, hI, hall, hit, hB, hxr, hfr, hszr⟩ := hrel
      have hnum := numL_lt _ hall
      rw [← hN, List.length_take, HRS.out, HN.out] at hnum
      have hlen := dec_len hnum (by omega)
      by_cases hkn : k < n
      · have hkR : k < R.size := by rw [HN.out]; exact hkn
        have hnx := Lib.run_next_any_at (P := Tryz.prog) wr (w2.heap.size + 1) R k 0 hit hkR
        obtain ⟨b, hb⟩ : ∃ b, R.data.toList[k]? = some b := ⟨_, List.getElem?_eq_getElem (by rw [HRS.out]; exact hkR)⟩
        obtain ⟨bv, hbv⟩ : ∃ bv : Int, (((R[k]'hkR).toNat : Nat) : Int) = bv := ⟨_, rfl⟩
        have hbb : b = R[k]'hkR := by
          rw [List.getElem?_eq_getElem (by rw [HRS.out]; exact hkR)] at hb
          exact (Option.some.inj hb).symm
        have hb0 : 0 ≤ bv := by omega
        have hb1 : bv ≤ 255 := by have := (R[k]'hkR).toNat_lt; omega
        by_cases hd : 48 ≤ bv ∧ bv ≤ 57
        · have hdig : isDig b = true := by
            rw [hbb]; simp only [isDig, Bool.and_eq_true, decide_eq_true_eq]; omega
          have hasc : (R[k]'hkR).toNat < 128 := by omega
          have hnx2 := Lib.run_next_ascii_at (P := Tryz.prog) wr (w2.heap.size + 1) R k 0 hit hkR hasc
          obtain ⟨D, hD⟩ : ∃ D : Nat, b.toNat - 48 = D := ⟨_, rfl⟩
          have hDv : (D : Int) = bv - 48 := by rw [← hD, hbb]; omega
          have hN' : numL (R.data.toList.take (k + 1)) = N * 10 + D := by rw [numL_take hb, ← hN, hD]
          have hall' : (R.data.toList.take (k + 1)).all isDig = true := by rw [all_take hb, hall, hdig]; rfl
          have hBi := hB.iterAt hit (k + 1)
          have hIi := hI.iterAt hit (k + 1)
          have hiti := Lib.iterAt_heap wr (w2.heap.size + 1) R k (k + 1) hit
          have hxi : Ext w (wr.iterAt (w2.heap.size + 1) R (k + 1)) := Lib.below_iterAt hxr (by omega) R _
          have hsi : (wr.iterAt (w2.heap.size + 1) R (k + 1)).heap.size = wr.heap.size := Lib.iterAt_size _ _ _ _
          clear hnx hbb hb hasc
          generalize wr.iterAt (w2.heap.size + 1) R (k + 1) = w5 at *
          have hI10 : Ints (w5.alloc (.cells #[.int .i64 10] 3)) (some ⟨w5.heap.size, 0, none⟩) 1 [10] := IB.ints (g := w5.heap.size) (L := [10]) (Blk.new0 w5 #[.int .i64 10] 3) (fun x hx => by obtain rfl := List.mem_singleton.1 hx; omega) (by simp)
          have hM := nat_mul a (some ⟨w5.heap.size, 0, none⟩) c 1 (digs N) [10] _ (hIi.ext (Ext.alloc w5 (.cells #[.int .i64 10] 3))) hI10 (digs_norm N).digs digs_ten.1.digs (by simp; omega)
          have hv : (dval (digs N) * dval [10]).toNat = N * 10 := by rw [digs_val, digs_ten.2]; omega
          rw [hv, ← hL, hsi, List.length_singleton] at hM
          have HM := Lib.hid hM
          have HBI := Lib.hid hBi
          have HITI := Lib.hid hiti
          have HXI := Lib.hid hxi
          have HNN := Lib.hid (And.intro hN' (And.intro hall' hDv))
          have hnum' := numL_lt _ hall'
          rw [hN', List.length_take, HRS.out, HN.out] at hnum'
          have HLEN := Lib.hid (show (digs (N * 10 + D)).length ≤ 134 from dec_len hnum' (by omega))
          have HLEN1 := Lib.hid (show (digs (N * 10)).length ≤ 134 by have := digs_mono (u := N * 10) (v := N * 10 + D) (by omega); have := HLEN.out; omega)
          have ha1 : decide (bv < 48) = false := by simp only [decide_eq_false_iff_not]; omega
          have ha2 : decide (57 < bv) = false := by simp only [decide_eq_false_iff_not]; omega
          have HGK := Lib.hid hgk
          have hw8 : IntKind.u8.wrap (bv - 48) = bv - 48 := by rw [IntKind.wrap_u8]; omega
          obtain ⟨d, hd2⟩ : ∃ d : Int, bv - 48 = d := ⟨_, rfl⟩
          have HDD := Lib.hid (show (D : Int) = d by rw [← hd2]; exact hDv)
          have hd0 : 0 ≤ d := by omega
          have hd9 : d ≤ 9 := by omega
          rw [hd2] at hw8
          clear hM hv hI10 hIi hBi hiti hxi hN' hall' hnum' hI hB hxr hit hall hN hgk hnum hDv hdig hD hd hL hlen
          go_wp2_with fail
          with_reducible refine HM.out.mono ?_
          rintro e w7 ⟨v7, rfl, hO7, hy7⟩
          obtain ⟨a7, c7, rfl, hi7, hb7⟩ := hO7.form0 (digs_norm _).digs
          have hID : Ints (w7.alloc (.cells #[.int .i64 d] 3)) (some ⟨w7.heap.size, 0, none⟩) 1 [d] := IB.ints (g := w7.heap.size) (L := [d]) (Blk.new0 w7 #[.int .i64 d] 3) (fun x hx => by obtain rfl := List.mem_singleton.1 hx; omega) (by simp)
          have htr : trimL [d] = digs D := by
            rw [trim_eq (fun x hx => by obtain rfl := List.mem_singleton.1 hx; omega)]
            congr 1
            have := HDD.out
            simp only [dval]; omega
          have hTC := nat_trim _ _ _ _ hID
          have hIT := hID.take (trimL [d]).length
          rw [← trim_take, htr] at hIT
          rw [htr, List.length_singleton] at hTC
          have hA := nat_add a7 (some ⟨w7.heap.size, 0, none⟩) c7 1 (digs (N * 10)) (digs D) (w7.alloc (.cells #[.int .i64 d] 3)) (hi7.ext (Ext.alloc _ _)) hIT (digs_norm _).digs (digs_norm _).digs (by have := HLEN1.out; omega) (by have := digs_mono (u := D) (v := N * 10 + D) (by omega); have := HLEN.out; omega)
          have hv2 : (dval (digs (N * 10)) + dval (digs D)).toNat = N * 10 + D := by rw [digs_val, digs_val]; omega
          rw [hv2] at hA
          have HTC := Lib.hid hTC
          have HAD := Lib.hid hA
          have hy8 := Lib.hid (((Ext.alloc w5 (.cells #[.int .i64 10] 3)).trans hy7).alloc' (.cells #[.int .i64 d] 3))
          clear hTC hA hIT hID htr hv2 hO7 hi7 hb7 hy7
          go_wp2_with fail
          with_reducible refine HTC.out.mono ?_
          rintro e w9 ⟨rfl, rfl⟩
          go_wp2_with fail
          with_reducible refine HAD.out.mono ?_
          rintro e w10 ⟨v10, rfl, hO10, hy10⟩
          obtain ⟨a10, c10, rfl, hi10, hb10⟩ := hO10.form0 (digs_norm _).digs
          have HI10 := Lib.hid hi10
          have HB10 := Lib.hid hb10
          have hyy := Lib.hid (hy8.out.trans hy10)
          have hs8 := hy8.out.size
          clear hO10 hi10 hb10 hy10
          go_wp2_with fail
          go_roundg (n - (k + 1))
          case measure => have := HGK.out; omega
          case rel =>
            obtain ⟨hN', hall', hDv⟩ := HNN.out
            refine ⟨k + 1, N * 10 + D, a10, c10, _, by omega, rfl, rfl, rfl, hN'.symm, HI10.out, hall', ?_, HBI.out.ext hyy.out, HXI.out.trans hyy.out, fun A hA => by have := HB10.out A hA; omega, by have := hyy.out.size; omega⟩
            exact (hyy.out.block _ (by omega)).trans HITI.out
        · have hdig : isDig b = false := by
            rw [hbb]; simp only [isDig, Bool.and_eq_false_iff, decide_eq_false_iff_not]; omega
          have hOn : O = none := by
            rw [← HO.out, if_neg]
            intro hc
            rw [List.all_eq_true] at hc
            have := hc b (List.mem_of_getElem? hb)
            rw [hdig] at this; cases this
          have hBi := hB.iterAt hit (k + (Utf8.decode R k).2)
          have hxi : Ext w (wr.iterAt (w2.heap.size + 1) R (k + (Utf8.decode R k).2)) := Lib.below_iterAt hxr (by omega) R _
          generalize wr.iterAt (w2.heap.size + 1) R (k + (Utf8.decode R k).2) = w5 at *
          have HON := Lib.hid hOn
          have HBI := Lib.hid hBi
          have d0 := hBi.cell (i := 0) (v := .bool false) rfl
          have d1 := hBi.cell (i := 1) (v := .slice none 0 0) rfl
          have f0 := hBi.free 0
          have f1 := hBi.free 1
          have HXI := Lib.hid ((hxi.set (p := ⟨w.heap.size, 0, none⟩) (by dsimp only; omega) (.bool false)).set (p := ⟨w.heap.size, 1, none⟩) (by dsimp only; omega) (.slice none 0 0))
          clear hOn hBi hxi hI hB hxr hit hall hN hL hgk hb hbb hdig hnum hlen
          have t1 : decide (bv < 48) = true ∨ (decide (bv < 48) = false ∧ decide (57 < bv) = true) := by
            simp only [decide_eq_true_eq, decide_eq_false_iff_not]; omega
          clear hd
          have K := (HBI.out.set 0 (.bool false)).set 1 (.slice none 0 0)
          have e0 := K.cell (i := 0) (v := .bool false) rfl
          have e1 := K.cell (i := 1) (v := .slice none 0 0) rfl
          clear K
          rcases t1 with t1 | ⟨t1, t2⟩
          · go_wp2_with fail
            refine bodyPost_ret (v := .tuple #[zeroBig, .int .i64 90]) (by simp [results, Tryz.results64, go_sem, e0, e1]) rfl ?_
            rw [HON.out]
            exact ReadP.none ⟨rfl, HXI.out⟩
          · go_wp2_with fail
            refine bodyPost_ret (v := .tuple #[zeroBig, .int .i64 90]) (by simp [results, Tryz.results64, go_sem, e0, e1]) rfl ?_
            rw [HON.out]
            exact ReadP.none ⟨rfl, HXI.out⟩
      · obtain rfl : k = n := by omega
        have hnx := Lib.run_next_end_at (P := Tryz.prog) wr (w2.heap.size + 1) R k 0 hit (by rw [HN.out]; omega)
        rw [List.take_of_length_le (by rw [HRS.out, HN.out]; exact Nat.le_refl _)] at hN hall
        have hOs : O = some (sgn nb N) := by rw [← HO.out, if_pos hall, hN, ← HNB.out]
        have HOS := Lib.hid hOs
        have d0 := hB.cell (i := 0) (v := .bool false) rfl
        have d1 := (hB.set 0 (.bool nb)).cell (i := 1) (v := .slice none 0 0) rfl
        have f0 := hB.free 0
        have f1 := (hB.set 0 (.bool nb)).free 1
        have K := Lib.hid ((hB.set 0 (.bool nb)).set 1 (.slice a L c))
        have HX := Lib.hid ((hxr.set (p := ⟨w.heap.size, 0, none⟩) (by dsimp only; omega) (.bool nb)).set (p := ⟨w.heap.size, 1, none⟩) (by dsimp only; omega) (.slice a L c))
        have HIF := Lib.hid ((hI.putO (p := ⟨w.heap.size, 0, none⟩) (fun A hA => by have := hfr A hA; dsimp only; omega) (.bool nb)).putO (p := ⟨w.heap.size, 1, none⟩) (fun A hA => by have := hfr A hA; dsimp only; omega) (.slice a L c))
        have HFR := Lib.hid hfr
        have HLL := Lib.hid hL
        have t1 : decide (2048 < L) = false := by simp only [decide_eq_false_iff_not]; omega
        have t2 : decide ((2048 : Int) < (L : Int)) = false := by simp only [decide_eq_false_iff_not]; omega
        have hsg : Big nb (digs N) (sgn nb N) := by
          have := big_of nb N
          rw [show (nb && decide (0 < (digs N).length)) = nb from by
            cases hc : nb with
            | false => rfl
            | true =>
              have hp := H11.out hc hall
              rw [← hN] at hp
              rw [digs_pos hp]; simp] at this
          exact this
        have HSG := Lib.hid hsg
        have hnbv := HNB.out
        obtain rfl := hnbv
        clear hN hall hOs hI hB hxr hit hgk hfr hL hnum hlen hsg
        go_wp2_with fail
        have e0 := K.out.cell (i := 0) (v := .bool _) rfl
        have e1 := K.out.cell (i := 1) (v := .slice a L c) rfl
        refine bodyPost_ret (v := .tuple #[.agg #[.bool _, .slice a L c], .int .i64 0]) (by simp [results, Tryz.results64, go_sem, e0, e1]; rfl) rfl ?_
        rw [HOS.out]
        exact ReadP.some ⟨.agg #[.bool _, .slice a L c], rfl, ⟨_, a, c, digs N, by rw [HLL.out], HIF.out, HSG.out, fun A hA => by have := HFR.out A hA; omega⟩, HX.out⟩
end Go.Proofs.YtnpeakahiedeoaaGreatDoor
