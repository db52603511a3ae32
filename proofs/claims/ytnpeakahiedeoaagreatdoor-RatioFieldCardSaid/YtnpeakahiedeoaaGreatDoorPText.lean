import Derived.Test.YtnpeakahiedeoaaGreatDoorPTxt0
import Derived.Laws.IdiomStrings
import Derived.Lib.BufferRead
namespace Go.Proofs.YtnpeakahiedeoaaGreatDoor
open Go.RowKit Go BigFrame Go.Shelf
set_option maxRecDepth 100000
set_option linter.unusedSimpArgs false

/-! nat.Text. -/
def TextP (z : Int) (w : World) (e : Ending) (w' : World) : Prop := e = .returned (.tuple #[.string ⟨(txtL z).toArray⟩, .int .i64 0]) ∧ Ext w w'
theorem infoB : (Tryz.prog.info? 5).map (fun i => (i.zero, i.size, i.bytes)) = some (some (.int .u8 0), 1, 1) := by kernel_rfl
theorem sl_Reverse_nil (w : World) : Calls Tryz.prog 93 #[.slice none 0 0] w fun e w' => e = .returned (.tuple #[]) ∧ w' = w := by
  go_enter Tryz.func93, Tryz.ntmps93
  go_wp2_with fail
  go_loopg [2, 3] 0 (fun _ s2 s3 wr => s2 = .int .i64 0 ∧ s3 = .int .i64 (-1) ∧ wr = w)
  case atStart => exact ⟨rfl, rfl, rfl⟩
  case round =>
    obtain ⟨rfl, rfl, rfl⟩ := hrel
    go_wp2_with fail
    go_end0
    exact ⟨rfl, rfl⟩
set_option maxHeartbeats 1000000 in
theorem nat_Text_zero (a : Option Addr) (ca : Nat) (w : World) (h : Ints w a ca []) :
    Calls Tryz.prog 61 #[.agg #[.bool false, .slice a 0 ca]] w (TextP 0 w) := by
  have B1 := Blk.new0 w #[.bool false, .slice a 0 ca] 24
  have hx : Ext w (w.alloc (.cells #[.bool false, .slice a 0 ca] 24)) := (by repeat (first | with_reducible exact Ext.refl _ | with_reducible assumption | with_reducible refine Ext.drewN ?_ _ | with_reducible refine Ext.drew ?_ | with_reducible refine Ext.alloc' ?_ _ | with_reducible refine Ext.set ?_ (by dsimp only; omega) _))
  have HC := nat_Check false a ca [] _ (h.ext hx)
  rw [show chkB false [] = true from rfl, show errN true = 0 from rfl] at HC
  have HC := Lib.hid HC
  have HB := Lib.hid B1
  have c0 := B1.cell (i := 0) (v := .bool false) rfl
  have c1 := B1.cell (i := 1) (v := .slice a 0 ca) rfl
  clear h B1
  go_enter Tryz.func61, Tryz.ntmps61
  go_upto_region 1 with fail
  generalize w.alloc (.cells #[.bool false, .slice a 0 ca] 24) = w1 at *
  go_wp2_with fail
  refine HC.out.mono ?_
  rintro e w2 ⟨rfl, hy⟩
  have d1 := (HB.out.ext hy).cell (i := 1) (v := .slice a 0 ca) rfl
  have HE := Lib.hid (hx.trans hy)
  clear c0 c1 hx hy HC
  go_wp2_with fail
  go_loopg [5, 6] 0 (fun _ b m wr => b = .slice none 0 0 ∧ m = .slice a 0 ca ∧ wr = w2)
  case atStart => exact ⟨rfl, rfl, rfl⟩
  case round =>
    obtain ⟨rfl, rfl, rfl⟩ := hrel
    have HR := Lib.hid (sl_Reverse_nil wr)
    have hcv := Lib.run_convert_nil_bytes (P := Tryz.prog) wr 106 9 5 0 Tryz.underlying106 Tryz.underlying5 Tryz.underlying9
    have HT := str_TrimLeft0 ⟨#[]⟩ wr
    rw [show Lib.trimLeftB (⟨#[]⟩ : ByteArray).data.toList 48 = [] from rfl] at HT
    have HT := Lib.hid HT
    go_wp2_with fail
    with_reducible refine HR.out.mono ?_
    rintro e w3 ⟨rfl, rfl⟩
    go_wp2_with fail
    refine HT.out.mono ?_
    rintro e w4 ⟨rfl, rfl⟩
    go_wp2_with fail
    refine bodyPost_ret (v := .tuple #[.string ⟨#[48]⟩, .int .i64 0]) (by simp [results, Tryz.results61, go_sem]) rfl ?_
    exact ⟨rfl, HE.out⟩

theorem add_zero_addr (g q : Nat) : (⟨g, 0, none⟩ : Addr).add q = ⟨g, q, none⟩ := by unfold Addr.add; split <;> simp_all
theorem own_ext {w w' : World} {B n : Nat} {v : Value} {e : TypeId} {xs : List Value} (h : w.ownsRow B e 1 v n xs) (k : Ext w w') : w'.ownsRow B e 1 v n xs := by
  refine ⟨h.1, ?_⟩
  rcases h.2 with h2 | ⟨g, cap, cur, e, hb, hg, hr⟩
  · exact .inl h2
  · exact .inr ⟨g, cap, cur, e, hb, (k.block g (Array.getElem?_eq_some_iff.1 hg).1).trans hg, hr⟩
theorem Ints.grown {w w' : World} {a : Option Addr} {cap : Nat} {l : List Int} {k : Option Nat} (h : Ints w a cap l) (hg : w.grownBy w' k) (hne : ∀ A, a = some A → 0 < l.length → k ≠ some A.block) : Ints w' a cap l := by
  refine ⟨h.le, h.mx, h.nil, fun A hA i hi => ?_⟩
  obtain ⟨hs, v, hv, hr⟩ := h.cells A hA i hi
  refine ⟨hs, v, ?_, hr⟩
  have hb : w'.heap[A.block]? = w.heap[A.block]? := hg.block A.block (World.block_lt_of_cell? w ⟨A.block, A.off + i, none⟩ hv) (fun e => hne A hA (by omega) e.symm)
  rw [World.cell?_of_block (w := w) (a := ⟨A.block, A.off + i, none⟩) hb]
  exact hv
/-- The state of Text's rounds: the bytes written so far, and the digits left. -/
structure TS (B : Nat) (w0 wr : World) (vb : Value) (n : Nat) (L : List UInt8) (am : Option Addr) (cm k : Nat) : Prop where
  own : wr.ownsRow B 5 1 vb n (Lib.byteCells L)
  nn : vb = .slice none 0 0 → n = 0
  len : L.length = n
  ints : Ints wr am cm (digs k)
  apart : ∀ A, am = some A → 0 < (digs k).length → vb.ownBlock ≠ some A.block ∧ A.block < wr.heap.size
  low : Below B w0 wr
  size : B ≤ wr.heap.size
theorem TS.push {B : Nat} {w0 wr w' : World} {vb v' : Value} {n : Nat} {L : List UInt8} {am : Option Addr} {cm k : Nat} (h : TS B w0 wr vb n L am cm k) (b : UInt8)
    (hown : w'.ownsRow B 5 1 v' (n + 1) (Lib.byteCells L ++ [.int .u8 (b.toNat : Int)])) (hg : (wr.alloc (.cells #[.int .u8 (b.toNat : Int)] 5)).grownBy w' vb.ownBlock)
    (hnil : v' = .slice none 0 0 ↔ vb = .slice none 0 0 ∧ 1 = 0) (hat : v'.ownBlock = vb.ownBlock ∨ v'.ownBlock = some (wr.alloc (.cells #[.int .u8 (b.toNat : Int)] 5)).heap.size) :
    TS B w0 w' v' (n + 1) (L ++ [b]) am cm k where
  own := by have : Lib.byteCells (L ++ [b]) = Lib.byteCells L ++ [.int .u8 (b.toNat : Int)] := by simp [Lib.byteCells]
            rw [this]; exact hown
  nn := fun e => absurd (hnil.1 e).2 (by omega)
  len := by simp [h.len]
  ints := (h.ints.ext (Ext.alloc _ _)).grown hg (fun A hA hl => (h.apart A hA hl).1)
  apart := fun A hA hl => by
    obtain ⟨h1, h2⟩ := h.apart A hA hl
    have h3 : (wr.alloc (.cells #[.int .u8 (b.toNat : Int)] 5)).heap.size ≤ w'.heap.size := hg.size
    have h4 : (wr.alloc (.cells #[.int .u8 (b.toNat : Int)] 5)).heap.size = wr.heap.size + 1 := by simp
    refine ⟨?_, by omega⟩
    rcases hat with e | e
    · rw [e]; exact h1
    · rw [e]; intro e2; have := Option.some.inj e2; omega
  low := Below.grown (h.low.alloc h.size _) hg (by simp; have := h.size; omega) (fun j e => (World.ownsRow.lt h.own j e).1)
  size := by
    have h3 : (wr.alloc (.cells #[.int .u8 (b.toNat : Int)] 5)).heap.size ≤ w'.heap.size := hg.size
    have h4 : (wr.alloc (.cells #[.int .u8 (b.toNat : Int)] 5)).heap.size = wr.heap.size + 1 := by simp
    have := h.size
    omega
theorem TS.short {B : Nat} {w0 wr w' : World} {vb : Value} {n : Nat} {L : List UInt8} {am an : Option Addr} {cm cn k k' : Nat} (h : TS B w0 wr vb n L am cm k)
    (hi : Ints w' an cn (digs k')) (hA : ∀ A, an = some A → wr.heap.size ≤ A.block) (hy : Ext wr w') : TS B w0 w' vb n L an cn k' where
  own := own_ext h.own hy
  nn := h.nn
  len := h.len
  ints := hi
  apart := fun A hAn hl => by
    refine ⟨fun e => ?_, ?_⟩
    · have h1 := (World.ownsRow.lt h.own _ e).2
      have h2 := hA A hAn
      omega
    · obtain ⟨b, o, e⟩ := hi.head hl
      have hI := hi
      rw [e] at hAn hI
      cases hAn
      exact lt_of_cell (hI.cell (i := 0) hl).1
  low := Below.trans h.low (hy.mono h.size)
  size := by have := h.size; have := hy.size; omega

set_option maxHeartbeats 4000000 in
theorem nat_Text_pos (neg : Bool) (a : Option Addr) (ca : Nat) (U : Nat) (w : World) (h : Ints w a ca (digs U)) (hb : chkB neg (digs U) = true) (hU : 0 < U) :
    Calls Tryz.prog 61 #[.agg #[.bool neg, .slice a (digs U).length ca]] w (TextP (sgn neg U) w) := by
  obtain ⟨i0, hi0, hz0, hz1, hz2⟩ := info_parts infoB
  have hlen := (chk_iff.1 hb).1
  have hUB : U < 1073741824 ^ 2048 := by
    have h1 := dval_lt (digs_norm U).digs
    rw [digs_val] at h1
    have h2 := pow_le30 (m := (digs U).length) (n := 2048) hlen
    have h3 := pow_cast30 2048
    generalize (1073741824 : Int) ^ 2048 = P at *
    generalize (1073741824 : Nat) ^ 2048 = Q at *
    omega
  have HUB := Lib.hid hUB
  have HUP := Lib.hid hU
  have B1 := Blk.new0 w #[.bool neg, .slice a (digs U).length ca] 24
  have hx : Ext w (w.alloc (.cells #[.bool neg, .slice a (digs U).length ca] 24)) := (by repeat (first | with_reducible exact Ext.refl _ | with_reducible assumption | with_reducible refine Ext.drewN ?_ _ | with_reducible refine Ext.drew ?_ | with_reducible refine Ext.alloc' ?_ _ | with_reducible refine Ext.set ?_ (by dsimp only; omega) _))
  have HC := nat_Check neg a ca (digs U) _ (h.ext hx)
  rw [hb, show errN true = 0 from rfl] at HC
  have HC := Lib.hid HC
  have HB := Lib.hid B1
  have HI := Lib.hid h
  obtain ⟨n0, hn0⟩ : ∃ n0, (digs U).length = n0 := ⟨_, rfl⟩
  have HN0 := Lib.hid hn0
  have hA : Hid (∀ A, a = some A → 0 < (digs U).length → A.block < w.heap.size) := Lib.hid (fun A hA hn => by
    obtain ⟨b0, o0, e0⟩ := h.head hn
    have hI0 := h
    rw [e0] at hA hI0
    cases hA
    exact lt_of_cell (hI0.cell (i := 0) hn).1)
  rw [hn0] at HC HB B1 hx hlen ⊢
  have c0 := B1.cell (i := 0) (v := .bool neg) rfl
  have c1 := B1.cell (i := 1) (v := .slice a n0 ca) rfl
  clear h B1 hb hUB hU hn0
  go_enter Tryz.func61, Tryz.ntmps61
  go_upto_region 1 with fail
  generalize w.alloc (.cells #[.bool neg, .slice a n0 ca] 24) = w1 at *
  go_wp2_with fail
  refine HC.out.mono ?_
  rintro e w2 ⟨rfl, hy⟩
  have HB2 := Lib.hid (HB.out.ext hy)
  have d1 := HB2.out.cell (i := 1) (v := .slice a n0 ca) rfl
  have HE := Lib.hid (hx.trans hy)
  clear c0 c1 hx hy HC HB
  go_wp2_with fail
  go_loopg [5, 6] U (fun k vb vm wr => ∃ (r : Nat) (am : Option Addr) (cm : Nat), vm = .slice am (digs k).length cm ∧ k = U / 10 ^ (9 * r) ∧ (0 < r → 10 ^ (9 * (r - 1)) ≤ U) ∧ TS w2.heap.size w2 wr vb (9 * r) (dgs (9 * r) U) am cm k)
  case atStart =>
    refine ⟨0, a, ca, by rw [HN0.out], by simp, fun h => by omega, World.ownsRow_nil _ _ _ _, fun _ => rfl, rfl, HI.out.ext HE.out, fun A hA' hl => ⟨fun e => ?_, ?_⟩, Below.refl _ _, Nat.le_refl _⟩
    · simp [Value.ownBlock] at e
    · have := hA.out A hA' hl; have := HE.out.size; omega
  case round =>
    obtain ⟨r, am, cm, rfl, hk, hrp, hts⟩ := hrel
    obtain ⟨KK, rfl⟩ : ∃ KK, KK = gk := ⟨gk, rfl⟩
    by_cases hk0 : KK = 0
    · subst hk0
      have hr0 : r ≠ 0 := fun e => by
        rw [e] at hk
        simp at hk
        have := HUP.out
        omega
      have hlt : U < 10 ^ (9 * r) := by
        rcases Nat.lt_or_ge U (10 ^ (9 * r)) with h1 | h1
        · exact h1
        · have := Nat.div_pos h1 (Nat.pow_pos (by omega)); omega
      have hl0 : (digs 0).length = 0 := by rw [digs_zero]; rfl
      have hr1 : r ≤ 2119 := by
        have := rounds_bd (hrp (by omega)) HUB.out
        omega
      have hlen9 := hts.len
      have hown := hts.own
      obtain ⟨g, cap, hvb, hgb⟩ : ∃ g cap, u5 = .slice (some ⟨g, 0, none⟩) (9 * r) cap ∧ w2.heap.size ≤ g := by
        rcases hown.2 with ⟨e, _⟩ | ⟨g, cap, cur, e, hb, _⟩
        · have := hts.nn e; omega
        · exact ⟨g, cap, e, hb⟩
      obtain rfl := hvb
      obtain ⟨nn, hnn⟩ : ∃ nn, 9 * r = nn := ⟨_, rfl⟩
      rw [hnn] at hown hlen9 hlt hts ⊢
      obtain ⟨D, hD⟩ : ∃ D, dgs nn U = D := ⟨_, rfl⟩
      have hR := sl_Reverse w2.heap.size g cap D wr (by unfold OwnB; rw [← hD, hlen9]; exact hown) hgb (by rw [← hD, hlen9]; omega)
      rw [show D.length = nn by rw [← hD]; exact hlen9] at hR
      have HR := Lib.hid hR
      have HD := Lib.hid hD
      have HLT := Lib.hid hlt
      have HDL := Lib.hid (show D.reverse.length = nn by rw [List.length_reverse, ← hD]; exact hlen9)
      have HLOW := Lib.hid hts.low
      have HNNL := Lib.hid (show nn ≤ 19071 by omega)
      rw [hl0]
      clear hR hown hts hD hlt hlen9 hk hrp hnn hl0
      go_wp2_with fail
      refine HR.out.mono ?_
      rintro e w5 ⟨rfl, hO5, hlow5⟩
      unfold OwnB at hO5
      rw [HDL.out] at hO5
      have hcv := run_convert_bytes_back (P := Tryz.prog) w5 106 9 5 ⟨g, 0, none⟩ cap D.reverse Tryz.underlying106 Tryz.underlying5 Tryz.underlying9 (fun q hq => by
        have := World.ownsRow.cellAt hO5 q (by have := HDL.out; omega)
        simp only [Lib.byteCells, List.getElem?_map, List.getElem?_eq_getElem hq, Option.map_some] at this
        rw [add_zero_addr, this])
      rw [HDL.out] at hcv
      have hT := str_TrimLeft0 ⟨D.reverse.toArray⟩ w5
      have hTT : Lib.trimLeftB (⟨D.reverse.toArray⟩ : ByteArray).data.toList 48 = (decL U).reverse := by
        show Lib.trimLeftB D.reverse 48 = _
        rw [← HD.out]; exact trim_text HLT.out
      rw [hTT] at hT
      obtain ⟨X, hX⟩ : ∃ X : ByteArray, ⟨(decL U).reverse.toArray⟩ = X := ⟨_, rfl⟩
      rw [hX] at hT
      have hne : X.toList.isEmpty = false := by
        rw [Lib.toList_data, ← hX]
        show (decL U).reverse.isEmpty = false
        rw [decL_pos HUP.out]; simp
      have hXs : X.size ≤ 20000 := by
        have h1 := (dgs_full nn U HLT.out).1
        have h2 := HNNL.out
        rw [← hX]
        show (decL U).reverse.length ≤ _
        rw [List.length_reverse]; omega
      have HT := Lib.hid hT
      have HX := Lib.hid hX
      have HBX := Lib.hid (show Blk w5 w.heap.size #[.bool neg, .slice a n0 ca] 24 from HB2.out.ext (Below.trans HLOW.out hlow5))
      have HEX := Lib.hid (HE.out.trans (show Ext w2 w5 from Below.trans HLOW.out hlow5))
      obtain ⟨Y, hY⟩ : ∃ Y : ByteArray, ⟨D.reverse.toArray⟩ = Y := ⟨_, rfl⟩
      rw [hY] at hcv HT
      have e0 := HBX.out.cell (i := 0) (v := .bool neg) rfl
      clear hT hTT hX hY HR hO5 hlow5 HLOW
      go_wp2_with fail
      refine HT.out.mono ?_
      rintro e w6 ⟨rfl, rfl⟩
      cases neg
      · go_wp2_with fail
        refine bodyPost_ret (v := .tuple #[.string X, .int .i64 0]) (by simp [results, Tryz.results61, go_sem]) rfl ?_
        refine ⟨?_, HEX.out⟩
        rw [← HX.out, txt_pos (by have := HUP.out; simp [sgn]; omega), if_neg (by simp [sgn])]
        rfl
      · go_wp2_with fail
        refine bodyPost_ret (v := .tuple #[.string (⟨#[45]⟩ ++ X), .int .i64 0]) (by simp [results, Tryz.results61, go_sem]) rfl ?_
        refine ⟨?_, HEX.out⟩
        rw [← HX.out, txt_pos (by have := HUP.out; simp [sgn]; omega), if_pos (by have := HUP.out; simp [sgn]; omega)]
        rw [show (sgn true (U : Int)).natAbs = U by simp [sgn]]
        congr 3
    · have hr : 10 ^ (9 * r) ≤ U := by
        rcases Nat.lt_or_ge U (10 ^ (9 * r)) with h1 | h1
        · rw [Nat.div_eq_of_lt h1] at hk; omega
        · exact h1
      have hrb := rounds_bd hr HUB.out
      have hlenk : (digs KK).length ≤ 2048 := by
        have := digs_mono (u := KK) (v := U) (by rw [hk]; exact Nat.div_le_self _ _)
        rw [HN0.out] at this; omega
      have hS := nat_short am cm (digs KK) 1000000000 wr hts.ints (digs_norm _).digs (by omega) (by omega) (by omega)
      obtain ⟨P, hP⟩ : ∃ P : Nat, KK % 1000000000 = P := ⟨_, rfl⟩
      have e1 : dval (digs KK) % 1000000000 = (P : Int) := by rw [digs_val, ← hP]; omega
      have e2 : (dval (digs KK) / 1000000000).toNat = KK / 1000000000 := by rw [digs_val]; omega
      have HS := Lib.hid hS
      have HE1 := Lib.hid e1
      have HE2 := Lib.hid e2
      have HTS := Lib.hid hts
      have HK := Lib.hid hk
      have HP := Lib.hid hP
      have hlp : 0 < (digs KK).length := by rw [digs_pos (by omega)]; simp
      obtain ⟨nk, hnk⟩ : ∃ nk, (digs KK).length = nk := ⟨_, rfl⟩
      have HNK := Lib.hid hnk
      rw [hnk] at HS hlp hlenk ⊢
      have t1 : decide (0 < nk) = true := by simpa using hlp
      have t2 : decide ((0 : Int) < (nk : Int)) = true := by simp only [decide_eq_true_eq]; omega
      have hP9 : (P : Int) < 1000000000 := by omega
      have HRR := Lib.hid (show 10 ^ (9 * (r + 1 - 1)) ≤ U from hr)
      clear hS hts hk hP e1 e2 hnk hr hrp
      go_wp2_with fail
      with_reducible refine HS.out.mono ?_
      rintro e w3 ⟨v3, rfl, hO, hy3⟩
      rw [HE1.out]
      rw [HE2.out] at hO
      obtain ⟨an, cn, rfl, hi3, hb3⟩ := hO.form0 (digs_norm _).digs
      have hts3 := HTS.out.short hi3 hb3 hy3
      have HTS3 := Lib.hid hts3
      clear hO hi3 hb3 hts3 HS
      go_wp2_with fail
      go_loopg [5, 7, 23] 9 (fun k v5 v7 v23 wr => ∃ (j P2 : Nat), j ≤ 9 ∧ k = 9 - j ∧ v23 = .int .i64 j ∧ v7 = .int .i64 P2 ∧ P2 = P / 10 ^ j ∧ TS w2.heap.size w2 wr v5 (9 * r + j) (dgs (9 * r) U ++ dgs j P) an cn (KK / 1000000000))
      case atStart =>
        exact ⟨0, P, by omega, rfl, rfl, rfl, by simp, by simpa [dgs] using HTS3.out⟩
      case round =>
        obtain ⟨j, P2, hj, hkj, rfl, rfl, hP2, hts4⟩ := hrel
        by_cases hj9 : j < 9
        · have hP2b : P2 < 1000000000 := by rw [hP2]; exact Nat.lt_of_le_of_lt (Nat.div_le_self _ _) (by omega)
          obtain ⟨b, hb⟩ : ∃ b : UInt8, UInt8.ofNat (48 + P2 % 10) = b := ⟨_, rfl⟩
          obtain ⟨p, hp⟩ : ∃ p : Int, (P2 : Int) = p := ⟨_, rfl⟩
          obtain ⟨bv, hbv0⟩ : ∃ bv : Int, ((b.toNat : Nat) : Int) = bv := ⟨_, rfl⟩
          have hbv : bv = 48 + p % 10 := by
            rw [← hbv0, ← hb, ← hp, UInt8.toNat_ofNat']; omega
          have hp0 : 0 ≤ p := by omega
          have hp1 : p < 1000000000 := by omega
          have hq : p / 10 = ((P2 / 10 : Nat) : Int) := by omega
          have HQ := Lib.hid hq
          have HBV := Lib.hid hbv0
          have hsz4 := hts4.size
          have HTS4 := Lib.hid hts4
          have HPP := Lib.hid (And.intro hP2 (And.intro hb hkj))
          have t3 : decide ((j : Int) < 9) = true := by simp only [decide_eq_true_eq]; omega
          have t4 : decide (j < 9) = true := by simp only [decide_eq_true_eq]; omega
          have hm : p.tmod 10 = p % 10 := Int.tmod_eq_emod_of_nonneg hp0
          have hdv : p.tdiv 10 = p / 10 := Int.tdiv_eq_ediv_of_nonneg hp0
          have hw : IntKind.u8.wrap (48 + p % 10) = bv := by rw [IntKind.wrap_u8, hbv]; omega
          rw [hp]
          have hown := hts4.own
          clear hts4 hP2 hb hkj hP2b hp hbv hbv0 hq hP9
          have hLB : (bv = ((b.toNat : Nat) : Int)) := HBV.out.symm
          have HLB := Lib.hid hLB
          have hj20 : 9 * r + j + 1 ≤ 20000 := by omega
          have HJ20 := Lib.hid hj20
          clear hLB hrb hj20
          go_wp2_with (at_builtin; refine wpList_append_own_at _ rfl (.tmp 25) (.tmp 30) 106 rfl w2.heap.size 5 i0 (.int .u8 0) 1 1 Tryz.underlying106 hi0 hz0 hz1 hz2 rfl (by decide) _ _ _ rfl (hown.alloc _) ⟨wr.heap.size, 0, none⟩ 1 1 [.int .u8 bv] rfl rfl (World.news_of_block (cs := #[.int .u8 bv]) (t := 5) (fr := (0, 0)) (heap_alloc_new wr _)) (by simp [Value.oneCell']) (by have := HJ20.out; unfold maxLen; omega) (by have := HJ20.out; omega) (by simp; omega) ?_; intro v4 w4 hown4 hgrow4 hnil4 hat4)
          rw [HLB.out] at hown4 hgrow4 hat4
          have hts5 := HTS4.out.push b hown4 hgrow4 hnil4 hat4
          have HTS5 := Lib.hid hts5
          clear hown4 hgrow4 hnil4 hat4 hown hts5
          go_wp2_with fail
          obtain ⟨hP2, hb, hkj⟩ := HPP.out
          go_roundg (9 - (j + 1))
          case measure => omega
          case rel =>
            refine ⟨j + 1, P2 / 10, by omega, rfl, by go_num, by rw [HQ.out], by rw [hP2, Nat.div_div_eq_div_mul, Nat.pow_succ], ?_⟩
            have := HTS5.out
            rw [List.append_assoc] at this
            have hd : dgs (j + 1) P = dgs j P ++ [b] := by rw [dgs_add j 1, ← hP2, ← hb]; rfl
            rw [hd]
            exact this
        · obtain rfl : j = 9 := by omega
          have HTS4 := Lib.hid hts4
          clear hts4 hP2 hkj
          go_wp2_with fail
          go_roundg (KK / 1000000000)
          case measure => omega
          case rel =>
            refine ⟨r + 1, an, cn, rfl, ?_, fun _ => HRR.out, ?_⟩
            · rw [HK.out, Nat.div_div_eq_div_mul, show 9 * (r + 1) = 9 * r + 9 by omega, Nat.pow_add]
            · have := HTS4.out
              have hd : dgs 9 P = dgs 9 (U / 10 ^ (9 * r)) := by rw [← HK.out, ← HP.out]; exact dgs_mod 9 9 KK (Nat.le_refl _)
              rw [hd, ← dgs_add] at this
              exact this
theorem text_val {v : Value} {z : Int} {w : World} (hv : BigV w v z) (hz : Len z) : Calls Tryz.prog 61 #[v] w (TextP z w) := by
  obtain ⟨n1, l, ⟨a, ca, rfl, hi⟩, hb⟩ := hv
  have hc := hb.chk hz
  by_cases hl : l = []
  · subst hl
    obtain rfl : n1 = false := by cases n1 with
      | false => rfl
      | true => exact absurd rfl (hb.2.1 rfl)
    have : z = 0 := by rw [hb.sgn]; rfl
    subst this
    exact nat_Text_zero a ca w hi
  · have hp := dval_pos hb.1 hl
    have hl2 := digs_of hb.1
    rw [← hl2] at hi hc ⊢
    have := nat_Text_pos n1 a ca (dval l).toNat w hi hc (by omega)
    rw [show (((dval l).toNat : Nat) : Int) = dval l by omega, ← hb.sgn] at this
    exact this
end Go.Proofs.YtnpeakahiedeoaaGreatDoor
