import Derived.Test.YtmcbbhlglccmgaaGreatWQ2
namespace Go.Proofs.YtmcbbhlglccmgaaGreat
open Go.RowKit Go BigFrame Go.Shelf
set_option maxRecDepth 100000
set_option linter.unusedSimpArgs false
set_option linter.unusedVariables false

/-! Layer 42: the reference's Drift, Agree, Favour. -/
theorem factW_pos {n : Nat} (h : n ≤ 8) : factW n = (fact n : Nat) := by
  have : n = 0 ∨ n = 1 ∨ n = 2 ∨ n = 3 ∨ n = 4 ∨ n = 5 ∨ n = 6 ∨ n = 7 ∨ n = 8 := by omega
  rcases this with rfl | rfl | rfl | rfl | rfl | rfl | rfl | rfl | rfl <;> decide
theorem fact_pos : ∀ n, 0 < fact n
  | 0 => by decide
  | n + 1 => Nat.mul_pos (by omega) (fact_pos n)
theorem run_append_two {a0 w : World} (hx0 : Ext a0 w) {v : Value} {L : List Int} (hown : OwnI w a0.heap.size v L) {v2 : Value} {L2 : List Int} (hown2 : OwnI w a0.heap.size v2 L2) (hne : v.ownBlock ≠ v2.ownBlock) {ad : Option Addr} {n c : Nat} {l : List Int} (hn : l.length = n) (hI : Ints w ad c l) (hlen : L.length + l.length ≤ 1000000) (ty : TypeId) :
    ∃ v' w', (Builtin.append_ #[27, 27] ty #[v, .slice ad n c]).run Tryz.prog w = .ok v' w' ∧ OwnI w' a0.heap.size v' (L ++ l) ∧ OwnI w' a0.heap.size v2 L2 ∧ v'.ownBlock ≠ v2.ownBlock ∧ Ext a0 w' := by
  obtain ⟨v', w', hr, h1, h2, h3⟩ := run_append_any hx0 hown hn hI hlen ty
  rcases hown2.own.2 with ⟨e, _⟩ | ⟨g, cap, cur, e, hb, hg, r⟩
  · exact absurd e hown2.nn
  · have hbo : v2.ownBlock = some g := by rw [e]; rfl
    obtain ⟨k1, k2⟩ := h3 g cur 3 hg (by rw [← hbo]; exact hne)
    exact ⟨v', w', hr, h1, ⟨hown2.nn, hown2.own.1, .inr ⟨g, cap, cur, e, hb, k1, r⟩⟩, by rw [hbo]; exact k2, h2⟩
theorem wpl_append_two {ops : Array Oper} {rest : List Oper} {o : Oper} {a : Act} {Q : Exit → Act → World → Prop} (hgd : o.guard = none) (s x : Operand)
    (ho : o.op = .call { callee := .builtin .append, args := #[s, x], argTypes := #[27, 27] }) {a0 w : World} (hx0 : Ext a0 w) {v : Value} (hs : a.eval s = v) {L : List Int} (hown : OwnI w a0.heap.size v L) {v2 : Value} {L2 : List Int} (hown2 : OwnI w a0.heap.size v2 L2) (hne : v.ownBlock ≠ v2.ownBlock) {ad : Option Addr} {n c : Nat} {l : List Int}
    (hx : a.eval x = .slice ad n c) (hn : l.length = n) (hI : Ints w ad c l) (hlen : L.length + l.length ≤ 1000000)
    (h : ∀ v' w', OwnI w' a0.heap.size v' (L ++ l) → OwnI w' a0.heap.size v2 L2 → v'.ownBlock ≠ v2.ownBlock → Ext a0 w' → wpList Tryz.prog ops Q rest (a.put o.dst v') w') :
    wpList Tryz.prog ops Q (o :: rest) a w := by
  refine wpList_plain hgd fun K hK => ?_
  obtain ⟨v', w', hr, h1, h2, h3, h4⟩ := run_append_two hx0 hown hown2 hne hn hI hlen o.type
  unfold Oper.wp execOp
  simp only [ho, resolve, invoke, builtin, Sem.run_bind, Sem.run_pure, Result.andThen_ok, List.map_toArray, List.map_cons, List.map_nil, hs, hx, hr]
  exact hK _ _ (h v' w' h1 h2 h3 h4)
set_option maxHeartbeats 4000000 in
theorem ref42_Drift_ask (a : Option Addr) (cap : Nat) (m : List (List Int)) (j : Int) (w : World) (h : Rows w a cap m) (hE : askW m [j] ≠ 0) :
    Calls Tryz.prog 16 #[.slice a m.length cap, .int .i64 j] w (RatE (askW m [j]) w) := by
  have hle := h.le
  have hmx := h.mx
  have HA := Lib.hid (fun W (hW : Ext w W) => ref42_Against_err a cap m j W (h.ext hW) hE)
  obtain ⟨E, hEE⟩ : ∃ E, askW m [j] = E := ⟨_, rfl⟩
  rw [hEE] at HA hE ⊢
  have t1 : (E != 0) = true := by simpa using hE
  clear h hEE
  obtain ⟨x1, hw, hx, Kp⟩ := boxQ1 w #[.bool false, .slice none 0 0, .bool false, .slice none 0 0] 34
  replace hw := Lib.hid hw
  go_enter Tryz.func16, Tryz.ntmps16
  go_upto_region 1 with fail
  try simp only [Nat.add_assoc, Nat.reduceAdd, Nat.add_zero]
  rw [hw.out]
  clear hw
  have hs0 := hx.size
  obtain ⟨cp0, cp1, cp2, cp3⟩ := bk4 Kp
  go_wp2_with fail
  with_reducible refine (HA.out _ hx).mono ?_
  clear cp0 cp1 cp2 cp3
  rintro e x2 ⟨rfl, hy⟩
  replace hx := hx.trans hy
  replace Kp := kE Kp hy
  clear hy
  clear HA
  obtain ⟨cp0, cp1, cp2, cp3⟩ := bk4 Kp
  obtain ⟨g0, z0, g1, z1, g2, z2, g3, z3⟩ := bp4 Kp (.bool false) (.slice none 0 0) (.bool false) (.slice none 0 0)
  go_wp2_with fail
  clear g0 z0 g1 z1 g2 z2 g3 z3
  clear cp0 cp1 cp2 cp3
  replace hx := bx4 hx (w.heap.size) (.bool false) (.slice none 0 0) (.bool false) (.slice none 0 0) (by omega)
  replace Kp := bs4 Kp (.bool false) (.slice none 0 0) (.bool false) (.slice none 0 0)
  generalize ((((x2).setCell ⟨w.heap.size, 0, none⟩ (.bool false)).setCell ⟨w.heap.size, 1, none⟩ (.slice none 0 0)).setCell ⟨w.heap.size, 2, none⟩ (.bool false)).setCell ⟨w.heap.size, 3, none⟩ (.slice none 0 0) = x3 at *
  obtain ⟨cp0, cp1, cp2, cp3⟩ := bk4 Kp
  refine bodyPost_ret (v := .tuple #[zeroRat, .int .i64 E]) (by simp [results, Tryz.results16, go_sem, cp0, cp1, cp2, cp3, zeroRat]) rfl ?_
  exact ⟨rfl, hx⟩
set_option maxHeartbeats 4000000 in
theorem ref42_Drift_lim (a : Option Addr) (cap : Nat) (m : List (List Int)) (j : Int) (w : World) (h : Rows w a cap m) (hE : askW m [j] = 0) (h8 : 8 < m.length) :
    Calls Tryz.prog 16 #[.slice a m.length cap, .int .i64 j] w (RatE 2 w) := by
  have hle := h.le
  have hmx := h.mx
  obtain ⟨hr, hj1, hj2⟩ := askW_ok hE
  have hj1' : 0 ≤ j := hj1
  have hj2' : j < ((m.headD []).length : Int) := hj2
  clear hj1 hj2
  obtain ⟨k, rfl⟩ : ∃ k : Nat, j = (k : Int) := ⟨j.toNat, by omega⟩
  have hk : k < (m.headD []).length := by omega
  have HBD := Lib.hid (above_bd hr hk)
  have HA := Lib.hid (fun W (hW : Ext w W) => ref42_Against_ok a cap m k W (h.ext hW) hE)
  try rw [show (k : Int).toNat = k from rfl]
  have hdl : (aboveL m k).length = m.length := by unfold aboveL; rw [List.length_map]
  generalize aboveL m k = d at *
  have HDL := Lib.hid hdl
  have h64 := hr.le
  have u1 : decide ((8 : Int) < (m.length : Int)) = true := decide_eq_true (by omega)
  clear h hr hdl hj1' hj2' hk
  obtain ⟨x1, hw, hx, Kp⟩ := boxQ1 w #[.bool false, .slice none 0 0, .bool false, .slice none 0 0] 34
  replace hw := Lib.hid hw
  go_enter Tryz.func16, Tryz.ntmps16
  go_upto_region 1 with fail
  try simp only [Nat.add_assoc, Nat.reduceAdd, Nat.add_zero]
  rw [hw.out]
  clear hw
  have hs0 := hx.size
  obtain ⟨cp0, cp1, cp2, cp3⟩ := bk4 Kp
  go_wp2_with fail
  with_reducible refine (HA.out _ hx).mono ?_
  clear cp0 cp1 cp2 cp3
  rintro e x2 ⟨v, rfl, hv, hy⟩
  replace hx := hx.trans hy
  replace Kp := kE Kp hy
  clear hy
  obtain ⟨gd, cd, rfl, hI, hgd⟩ := hv.look (fun x hx => by have := HBD.out x hx; omega)
  have Vd := Lib.hid hI
  have dle := hI.le
  have dmx := hI.mx
  rw [HDL.out] at dle
  rw [show d.length = m.length from HDL.out]
  clear hv hI HA hgd
  obtain ⟨cp0, cp1, cp2, cp3⟩ := bk4 Kp
  obtain ⟨g0, z0, g1, z1, g2, z2, g3, z3⟩ := bp4 Kp (.bool false) (.slice none 0 0) (.bool false) (.slice none 0 0)
  go_wp2_with fail
  clear g0 z0 g1 z1 g2 z2 g3 z3
  clear cp0 cp1 cp2 cp3
  clear Vd
  replace hx := bx4 hx (w.heap.size) (.bool false) (.slice none 0 0) (.bool false) (.slice none 0 0) (by omega)
  replace Kp := bs4 Kp (.bool false) (.slice none 0 0) (.bool false) (.slice none 0 0)
  generalize ((((x2).setCell ⟨w.heap.size, 0, none⟩ (.bool false)).setCell ⟨w.heap.size, 1, none⟩ (.slice none 0 0)).setCell ⟨w.heap.size, 2, none⟩ (.bool false)).setCell ⟨w.heap.size, 3, none⟩ (.slice none 0 0) = x3 at *
  obtain ⟨cp0, cp1, cp2, cp3⟩ := bk4 Kp
  refine bodyPost_ret (v := .tuple #[zeroRat, .int .i64 2]) (by simp [results, Tryz.results16, go_sem, cp0, cp1, cp2, cp3, zeroRat]) rfl ?_
  exact ⟨rfl, hx⟩
set_option maxHeartbeats 4000000 in
theorem ref42_Drift_ok (a : Option Addr) (cap : Nat) (m : List (List Int)) (j : Int) (w : World) (h : Rows w a cap m) (hE : askW m [j] = 0) (h8 : ¬ 8 < m.length) :
    Calls Tryz.prog 16 #[.slice a m.length cap, .int .i64 j] w (RatP (driQ m j.toNat) w) := by
  have hle := h.le
  have hmx := h.mx
  obtain ⟨hr, hj1, hj2⟩ := askW_ok hE
  have hj1' : 0 ≤ j := hj1
  have hj2' : j < ((m.headD []).length : Int) := hj2
  clear hj1 hj2
  obtain ⟨k, rfl⟩ : ∃ k : Nat, j = (k : Int) := ⟨j.toNat, by omega⟩
  have hk : k < (m.headD []).length := by omega
  have HBD := Lib.hid (above_bd hr hk)
  have HA := Lib.hid (fun W (hW : Ext w W) => ref42_Against_ok a cap m k W (h.ext hW) hE)
  try rw [show (k : Int).toNat = k from rfl]
  have hdl : (aboveL m k).length = m.length := by unfold aboveL; rw [List.length_map]
  have hQ : driQ m k = Rat.divInt (W mulP (up 0 m.length) (aboveL m k) (dsum (aboveL m k) m.length) : Nat) (fact m.length : Nat) := by
    unfold driQ
    rw [cntG_W mulP (iota m.length) (aboveL m k) _ (by rw [iota_len, hdl]), up_iota, factW_pos (by omega)]
  rw [hQ]
  obtain ⟨R, hR⟩ : ∃ R, R = Rat.divInt (W mulP (up 0 m.length) (aboveL m k) (dsum (aboveL m k) m.length) : Nat) (fact m.length : Nat) := ⟨_, rfl⟩
  rw [← hR]
  replace hR := Lib.hid hR
  clear hQ
  generalize aboveL m k = d at *
  have HDL := Lib.hid hdl
  have h64 := hr.le
  have u1 : decide ((8 : Int) < (m.length : Int)) = false := decide_eq_false (by omega)
  clear h hr hdl hj1' hj2' hk
  obtain ⟨x1, hw, hx, Kp⟩ := boxQ1 w #[.bool false, .slice none 0 0, .bool false, .slice none 0 0] 34
  replace hw := Lib.hid hw
  go_enter Tryz.func16, Tryz.ntmps16
  go_upto_region 1 with fail
  try simp only [Nat.add_assoc, Nat.reduceAdd, Nat.add_zero]
  rw [hw.out]
  clear hw
  have hs0 := hx.size
  obtain ⟨cp0, cp1, cp2, cp3⟩ := bk4 Kp
  go_wp2_with fail
  with_reducible refine (HA.out _ hx).mono ?_
  clear cp0 cp1 cp2 cp3
  rintro e x2 ⟨v, rfl, hv, hy⟩
  replace hx := hx.trans hy
  replace Kp := kE Kp hy
  clear hy
  obtain ⟨gd, cd, rfl, hI, hgd⟩ := hv.look (fun x hx => by have := HBD.out x hx; omega)
  have Vd := Lib.hid hI
  have dle := hI.le
  have dmx := hI.mx
  rw [HDL.out] at dle
  rw [show d.length = m.length from HDL.out]
  clear hv hI HA hgd
  obtain ⟨cp0, cp1, cp2, cp3⟩ := bk4 Kp
  go_wp2_with fail
  go_loop [8, 9] (fun z i => ∃ q : Nat, q ≤ m.length ∧ i = .int .i64 q ∧ z = .int .i64 (dsum d q)) (fun _ i => m.length - (intOf i).toNat)
  case atStart => exact ⟨0, Nat.zero_le _, rfl, rfl⟩
  case round =>
    obtain ⟨q, hq, rfl, rfl⟩ := hrel
    have g1 : (0 : Int) ≤ (q : Int) := by omega
    obtain ⟨b2, b3⟩ := dsum_bd HBD.out q (by omega)
    obtain ⟨S, eS⟩ : ∃ S, dsum d q = S := ⟨_, rfl⟩
    have HES := Lib.hid eS
    rw [eS] at b2 b3 ⊢
    clear eS
    by_cases hqn : q < m.length
    · have hq1 : q < d.length := by rw [HDL.out]; exact hqn
      obtain ⟨z, hz, hcz, -, -⟩ := Ints.get Vd.out hq1
      simp only [Nat.zero_add] at hcz
      have HZ : Hid (d.getD q 0 = z) := Lib.hid (by rw [List.getD_eq_getElem?_getD, hz]; rfl)
      obtain ⟨z1, z2⟩ := HBD.out z (List.mem_of_getElem? hz)
      obtain ⟨m2, m3⟩ := mul64 (k := q) (by omega) ⟨z1, z2⟩
      have g2 : (q : Int) < (m.length : Int) := by omega
      clear hz hq1
      go_wp2_with fail
      go_round
      case rel => exact ⟨q + 1, by omega, by go_num, by unfold dsum; rw [HES.out, HZ.out]⟩
      case measure => simp [intOf]; omega
    · obtain rfl : q = m.length := by omega
      have g2 : ¬ (m.length : Int) < (m.length : Int) := by omega
      have HOR := Lib.hid (fun W (hW : Ints W (some ⟨gd, 0, none⟩) cd d) => (by
        have hh := ref42_orders m.length (some ⟨gd, 0, none⟩) cd d 0 S W hW HDL.out (by omega) HBD.out (by omega)
        rw [show ((0 : Nat) : Int) = 0 from rfl] at hh
        exact hh : Calls Tryz.prog 46 #[.slice (some ⟨gd, 0, none⟩) m.length cd, .int .i64 0, .int .i64 S] W (CntP (Go.Proofs.YtmcbbhlglccmgaaGreat.W mulP (up 0 m.length) d S) W)))
      have hwb : Go.Proofs.YtmcbbhlglccmgaaGreat.W mulP (up 0 m.length) d S ≤ 40320 := by
        have h1 := W_le mulP (up 0 m.length) d S (by rw [up_len, HDL.out])
        rw [up_len] at h1
        exact Nat.le_trans h1 (fact_le (by omega))
      have hfb : fact m.length ≤ 40320 := fact_le (by omega)
      have hf0 := fact_pos m.length
      have HRF := Lib.hid (fun W => ref42_factorial m.length W (by omega))
      have hRR := hR.out
      rw [show dsum d m.length = S from HES.out] at hRR
      generalize Go.Proofs.YtmcbbhlglccmgaaGreat.W mulP (up 0 m.length) d S = Z at *
      generalize fact m.length = FN at *
      subst hRR
      clear HES HBD hR
      clear cp0 cp1 cp2 cp3
      obtain ⟨cp0, cp1, cp2, cp3⟩ := bk4 Kp
      go_wp2_with fail
      with_reducible refine (HOR.out _ Vd.out).mono ?_
      clear cp0 cp1 cp2 cp3
      rintro e x3 ⟨rfl, hy⟩
      replace hx := hx.trans hy
      replace Kp := kE Kp hy
      replace Vd := Lib.hid (Vd.out.ext hy)
      clear hy
      clear HOR
      obtain ⟨cp0, cp1, cp2, cp3⟩ := bk4 Kp
      go_wp2_with fail
      with_reducible refine (HRF.out _).mono ?_
      rintro e w' ⟨rfl, rfl⟩
      clear HRF
      have hsz := hx.size
      go_wp2_with fail
      with_reducible refine (rMakeR (Z : Int) (FN : Int) _ (by omega) (by omega) (by omega)).mono ?_
      clear cp0 cp1 cp2 cp3
      rintro e x4 ⟨v, rfl, hv, hy⟩
      replace hx := hx.trans hy
      replace Kp := kE Kp hy
      replace Vd := Lib.hid (Vd.out.ext hy)
      clear hy
      obtain ⟨nr, ar, qr, cr, br, kr, dr, rfl, hv', hf', hg'⟩ := hv
      have Vr := Lib.hid hv'
      have Fr := Lib.hid (fun A hA => Nat.le_trans hsz (hf' A hA))
      have Gr := Lib.hid (fun A hA => Nat.le_trans hsz (hg' A hA))
      clear hv' hf' hg' hsz
      obtain ⟨cp0, cp1, cp2, cp3⟩ := bk4 Kp
      obtain ⟨g0, z0, g1, z1, g2, z2, g3, z3⟩ := bp4 Kp (.bool nr) (.slice ar qr cr) (.bool false) (.slice br kr dr)
      go_wp2_with fail
      clear g0 z0 g1 z1 g2 z2 g3 z3
      clear cp0 cp1 cp2 cp3
      clear Vd
      replace Vr := (by first | exact rv4 Vr Kp (.bool nr) (.slice ar qr cr) (.bool false) (.slice br kr dr) rfl rfl rfl rfl | exact bv4 Vr Kp (.bool nr) (.slice ar qr cr) (.bool false) (.slice br kr dr) rfl rfl rfl rfl)
      replace hx := bx4 hx (w.heap.size) (.bool nr) (.slice ar qr cr) (.bool false) (.slice br kr dr) (by omega)
      replace Kp := bs4 Kp (.bool nr) (.slice ar qr cr) (.bool false) (.slice br kr dr)
      generalize ((((x4).setCell ⟨w.heap.size, 0, none⟩ (.bool nr)).setCell ⟨w.heap.size, 1, none⟩ (.slice ar qr cr)).setCell ⟨w.heap.size, 2, none⟩ (.bool false)).setCell ⟨w.heap.size, 3, none⟩ (.slice br kr dr) = x5 at *
      obtain ⟨cp0, cp1, cp2, cp3⟩ := bk4 Kp
      refine bodyPost_ret (v := .tuple #[.agg #[.bool nr, .slice ar qr cr, .bool false, .slice br kr dr], .int .i64 0]) (by simp [results, Tryz.results16, go_sem, cp0, cp1, cp2, cp3]) rfl ?_
      exact ⟨_, rfl, ⟨_, _, _, _, _, _, _, rfl, Vr.out, Fr.out, Gr.out⟩, hx⟩
set_option maxHeartbeats 8000000 in
theorem ref42_Agree_a (a : Option Addr) (cap : Nat) (m : List (List Int)) (ja jb : Int) (w : World) (h : Rows w a cap m) (hA : askW m [ja] ≠ 0) :
    Calls Tryz.prog 14 #[.slice a m.length cap, .int .i64 ja, .int .i64 jb] w (RatE (askW m [ja]) w) := by
  have hle := h.le
  have hmx := h.mx
  have HA := Lib.hid (fun W (hW : Ext w W) => ref42_ask a cap m ja W (h.ext hW))
  have HB := Lib.hid (fun W (hW : Ext w W) => ref42_ask a cap m jb W (h.ext hW))
  obtain ⟨E, hEE⟩ : ∃ E, askW m [ja] = E := ⟨_, rfl⟩
  rw [hEE] at HA hA ⊢
  have t1 : (E == 0) = false := beq_false_of_ne hA
  have t2 : (E != 0) = true := by simpa using hA
  clear h hEE
  obtain ⟨x1, hw, hx, Kp⟩ := boxQ1 w #[.bool false, .slice none 0 0, .bool false, .slice none 0 0] 34
  replace hw := Lib.hid hw
  go_enter Tryz.func14, Tryz.ntmps14
  go_upto_region 1 with fail
  try simp only [Nat.add_assoc, Nat.reduceAdd, Nat.add_zero]
  rw [hw.out]
  clear hw
  have hs0 := hx.size
  obtain ⟨cp0, cp1, cp2, cp3⟩ := bk4 Kp
  go_wp2_with fail
  with_reducible refine (HA.out _ hx).mono ?_
  clear cp0 cp1 cp2 cp3
  rintro e x2 ⟨rfl, hy⟩
  replace hx := hx.trans hy
  replace Kp := kE Kp hy
  clear hy
  clear HA HB
  obtain ⟨cp0, cp1, cp2, cp3⟩ := bk4 Kp
  obtain ⟨g0, z0, g1, z1, g2, z2, g3, z3⟩ := bp4 Kp (.bool false) (.slice none 0 0) (.bool false) (.slice none 0 0)
  go_wp2_with fail
  clear g0 z0 g1 z1 g2 z2 g3 z3
  clear cp0 cp1 cp2 cp3
  replace hx := bx4 hx (w.heap.size) (.bool false) (.slice none 0 0) (.bool false) (.slice none 0 0) (by omega)
  replace Kp := bs4 Kp (.bool false) (.slice none 0 0) (.bool false) (.slice none 0 0)
  generalize ((((x2).setCell ⟨w.heap.size, 0, none⟩ (.bool false)).setCell ⟨w.heap.size, 1, none⟩ (.slice none 0 0)).setCell ⟨w.heap.size, 2, none⟩ (.bool false)).setCell ⟨w.heap.size, 3, none⟩ (.slice none 0 0) = x3 at *
  obtain ⟨cp0, cp1, cp2, cp3⟩ := bk4 Kp
  refine bodyPost_ret (v := .tuple #[zeroRat, .int .i64 E]) (by simp [results, Tryz.results14, go_sem, cp0, cp1, cp2, cp3, zeroRat]) rfl ?_
  exact ⟨rfl, hx⟩
set_option maxHeartbeats 8000000 in
theorem ref42_Agree_b (a : Option Addr) (cap : Nat) (m : List (List Int)) (ja jb : Int) (w : World) (h : Rows w a cap m) (hA : askW m [ja] = 0) (hB : askW m [jb] ≠ 0) :
    Calls Tryz.prog 14 #[.slice a m.length cap, .int .i64 ja, .int .i64 jb] w (RatE (askW m [jb]) w) := by
  have hle := h.le
  have hmx := h.mx
  have HA := Lib.hid (fun W (hW : Ext w W) => ref42_ask a cap m ja W (h.ext hW))
  have HB := Lib.hid (fun W (hW : Ext w W) => ref42_ask a cap m jb W (h.ext hW))
  obtain ⟨E, hEE⟩ : ∃ E, askW m [jb] = E := ⟨_, rfl⟩
  rw [hEE] at HB hB ⊢
  rw [hA] at HA
  have t1 : (E == 0) = false := beq_false_of_ne hB
  have t2 : (E != 0) = true := by simpa using hB
  clear h hEE hA
  obtain ⟨x1, hw, hx, Kp⟩ := boxQ1 w #[.bool false, .slice none 0 0, .bool false, .slice none 0 0] 34
  replace hw := Lib.hid hw
  go_enter Tryz.func14, Tryz.ntmps14
  go_upto_region 1 with fail
  try simp only [Nat.add_assoc, Nat.reduceAdd, Nat.add_zero]
  rw [hw.out]
  clear hw
  have hs0 := hx.size
  obtain ⟨cp0, cp1, cp2, cp3⟩ := bk4 Kp
  go_wp2_with fail
  with_reducible refine (HA.out _ hx).mono ?_
  clear cp0 cp1 cp2 cp3
  rintro e x2 ⟨rfl, hy⟩
  replace hx := hx.trans hy
  replace Kp := kE Kp hy
  clear hy
  obtain ⟨cp0, cp1, cp2, cp3⟩ := bk4 Kp
  go_wp2_with fail
  with_reducible refine (HB.out _ hx).mono ?_
  clear cp0 cp1 cp2 cp3
  rintro e x3 ⟨rfl, hy⟩
  replace hx := hx.trans hy
  replace Kp := kE Kp hy
  clear hy
  clear HA HB
  obtain ⟨cp0, cp1, cp2, cp3⟩ := bk4 Kp
  obtain ⟨g0, z0, g1, z1, g2, z2, g3, z3⟩ := bp4 Kp (.bool false) (.slice none 0 0) (.bool false) (.slice none 0 0)
  go_wp2_with fail
  clear g0 z0 g1 z1 g2 z2 g3 z3
  clear cp0 cp1 cp2 cp3
  replace hx := bx4 hx (w.heap.size) (.bool false) (.slice none 0 0) (.bool false) (.slice none 0 0) (by omega)
  replace Kp := bs4 Kp (.bool false) (.slice none 0 0) (.bool false) (.slice none 0 0)
  generalize ((((x3).setCell ⟨w.heap.size, 0, none⟩ (.bool false)).setCell ⟨w.heap.size, 1, none⟩ (.slice none 0 0)).setCell ⟨w.heap.size, 2, none⟩ (.bool false)).setCell ⟨w.heap.size, 3, none⟩ (.slice none 0 0) = x4 at *
  obtain ⟨cp0, cp1, cp2, cp3⟩ := bk4 Kp
  refine bodyPost_ret (v := .tuple #[zeroRat, .int .i64 E]) (by simp [results, Tryz.results14, go_sem, cp0, cp1, cp2, cp3, zeroRat]) rfl ?_
  exact ⟨rfl, hx⟩
set_option maxHeartbeats 8000000 in
theorem ref42_Agree_same (a : Option Addr) (cap : Nat) (m : List (List Int)) (ja jb : Int) (w : World) (h : Rows w a cap m) (hA : askW m [ja] = 0) (hB : askW m [jb] = 0) (hab : ja = jb) :
    Calls Tryz.prog 14 #[.slice a m.length cap, .int .i64 ja, .int .i64 jb] w (RatE 1 w) := by
  have hle := h.le
  have hmx := h.mx
  have HA := Lib.hid (fun W (hW : Ext w W) => ref42_ask a cap m ja W (h.ext hW))
  have HB := Lib.hid (fun W (hW : Ext w W) => ref42_ask a cap m jb W (h.ext hW))
  rw [hA] at HA
  rw [hB] at HB
  have t1 : (ja == jb) = true := by simp [hab]
  clear h hA hB hab
  obtain ⟨x1, hw, hx, Kp⟩ := boxQ1 w #[.bool false, .slice none 0 0, .bool false, .slice none 0 0] 34
  replace hw := Lib.hid hw
  go_enter Tryz.func14, Tryz.ntmps14
  go_upto_region 1 with fail
  try simp only [Nat.add_assoc, Nat.reduceAdd, Nat.add_zero]
  rw [hw.out]
  clear hw
  have hs0 := hx.size
  obtain ⟨cp0, cp1, cp2, cp3⟩ := bk4 Kp
  go_wp2_with fail
  with_reducible refine (HA.out _ hx).mono ?_
  clear cp0 cp1 cp2 cp3
  rintro e x2 ⟨rfl, hy⟩
  replace hx := hx.trans hy
  replace Kp := kE Kp hy
  clear hy
  obtain ⟨cp0, cp1, cp2, cp3⟩ := bk4 Kp
  go_wp2_with fail
  with_reducible refine (HB.out _ hx).mono ?_
  clear cp0 cp1 cp2 cp3
  rintro e x3 ⟨rfl, hy⟩
  replace hx := hx.trans hy
  replace Kp := kE Kp hy
  clear hy
  clear HA HB
  obtain ⟨cp0, cp1, cp2, cp3⟩ := bk4 Kp
  obtain ⟨g0, z0, g1, z1, g2, z2, g3, z3⟩ := bp4 Kp (.bool false) (.slice none 0 0) (.bool false) (.slice none 0 0)
  go_wp2_with fail
  clear g0 z0 g1 z1 g2 z2 g3 z3
  clear cp0 cp1 cp2 cp3
  replace hx := bx4 hx (w.heap.size) (.bool false) (.slice none 0 0) (.bool false) (.slice none 0 0) (by omega)
  replace Kp := bs4 Kp (.bool false) (.slice none 0 0) (.bool false) (.slice none 0 0)
  generalize ((((x3).setCell ⟨w.heap.size, 0, none⟩ (.bool false)).setCell ⟨w.heap.size, 1, none⟩ (.slice none 0 0)).setCell ⟨w.heap.size, 2, none⟩ (.bool false)).setCell ⟨w.heap.size, 3, none⟩ (.slice none 0 0) = x4 at *
  obtain ⟨cp0, cp1, cp2, cp3⟩ := bk4 Kp
  refine bodyPost_ret (v := .tuple #[zeroRat, .int .i64 1]) (by simp [results, Tryz.results14, go_sem, cp0, cp1, cp2, cp3, zeroRat]) rfl ?_
  exact ⟨rfl, hx⟩
set_option maxHeartbeats 8000000 in
theorem ref42_Agree_lim (a : Option Addr) (cap : Nat) (m : List (List Int)) (ja jb : Int) (w : World) (h : Rows w a cap m) (hA : askW m [ja] = 0) (hB : askW m [jb] = 0) (hab : ja ≠ jb) (h8 : 8 < m.length) :
    Calls Tryz.prog 14 #[.slice a m.length cap, .int .i64 ja, .int .i64 jb] w (RatE 2 w) := by
  have hle := h.le
  have hmx := h.mx
  have HA := Lib.hid (fun W (hW : Ext w W) => ref42_ask a cap m ja W (h.ext hW))
  have HB := Lib.hid (fun W (hW : Ext w W) => ref42_ask a cap m jb W (h.ext hW))
  rw [hA] at HA
  rw [hB] at HB
  have t1 : (ja == jb) = false := beq_false_of_ne hab
  have u1 : decide ((8 : Int) < (m.length : Int)) = true := decide_eq_true (by omega)
  clear h hA hB hab
  obtain ⟨x1, hw, hx, Kp⟩ := boxQ1 w #[.bool false, .slice none 0 0, .bool false, .slice none 0 0] 34
  replace hw := Lib.hid hw
  go_enter Tryz.func14, Tryz.ntmps14
  go_upto_region 1 with fail
  try simp only [Nat.add_assoc, Nat.reduceAdd, Nat.add_zero]
  rw [hw.out]
  clear hw
  have hs0 := hx.size
  obtain ⟨cp0, cp1, cp2, cp3⟩ := bk4 Kp
  go_wp2_with fail
  with_reducible refine (HA.out _ hx).mono ?_
  clear cp0 cp1 cp2 cp3
  rintro e x2 ⟨rfl, hy⟩
  replace hx := hx.trans hy
  replace Kp := kE Kp hy
  clear hy
  obtain ⟨cp0, cp1, cp2, cp3⟩ := bk4 Kp
  go_wp2_with fail
  with_reducible refine (HB.out _ hx).mono ?_
  clear cp0 cp1 cp2 cp3
  rintro e x3 ⟨rfl, hy⟩
  replace hx := hx.trans hy
  replace Kp := kE Kp hy
  clear hy
  clear HA HB
  obtain ⟨cp0, cp1, cp2, cp3⟩ := bk4 Kp
  obtain ⟨g0, z0, g1, z1, g2, z2, g3, z3⟩ := bp4 Kp (.bool false) (.slice none 0 0) (.bool false) (.slice none 0 0)
  go_wp2_with fail
  clear g0 z0 g1 z1 g2 z2 g3 z3
  clear cp0 cp1 cp2 cp3
  replace hx := bx4 hx (w.heap.size) (.bool false) (.slice none 0 0) (.bool false) (.slice none 0 0) (by omega)
  replace Kp := bs4 Kp (.bool false) (.slice none 0 0) (.bool false) (.slice none 0 0)
  generalize ((((x3).setCell ⟨w.heap.size, 0, none⟩ (.bool false)).setCell ⟨w.heap.size, 1, none⟩ (.slice none 0 0)).setCell ⟨w.heap.size, 2, none⟩ (.bool false)).setCell ⟨w.heap.size, 3, none⟩ (.slice none 0 0) = x4 at *
  obtain ⟨cp0, cp1, cp2, cp3⟩ := bk4 Kp
  refine bodyPost_ret (v := .tuple #[zeroRat, .int .i64 2]) (by simp [results, Tryz.results14, go_sem, cp0, cp1, cp2, cp3, zeroRat]) rfl ?_
  exact ⟨rfl, hx⟩
set_option maxHeartbeats 8000000 in
theorem ref42_Agree_ok (a : Option Addr) (cap : Nat) (m : List (List Int)) (ja jb : Int) (w : World) (h : Rows w a cap m) (hA : askW m [ja] = 0) (hB : askW m [jb] = 0) (hab : ja ≠ jb) (h8 : ¬ 8 < m.length) :
    Calls Tryz.prog 14 #[.slice a m.length cap, .int .i64 ja, .int .i64 jb] w (RatP (agrQ m ja.toNat jb.toNat) w) := by
  have hle := h.le
  have hmx := h.mx
  have HA := Lib.hid (fun W (hW : Ext w W) => ref42_ask a cap m ja W (h.ext hW))
  have HB := Lib.hid (fun W (hW : Ext w W) => ref42_ask a cap m jb W (h.ext hW))
  rw [hA] at HA
  rw [hB] at HB
  obtain ⟨hr, ha1, ha2⟩ := askW_ok hA
  obtain ⟨-, hb1, hb2⟩ := askW_ok hB
  have ha1' : 0 ≤ ja := ha1
  have hb1' : 0 ≤ jb := hb1
  have ha2' : ja < ((m.headD []).length : Int) := ha2
  have hb2' : jb < ((m.headD []).length : Int) := hb2
  obtain ⟨n, hn⟩ : ∃ n, n = (m.headD []).length := ⟨_, rfl⟩
  rw [← hn] at hr ha2' hb2'
  clear ha1 ha2 hb1 hb2
  obtain ⟨j, rfl⟩ : ∃ k : Nat, ja = (k : Int) := ⟨ja.toNat, by omega⟩
  obtain ⟨k, rfl⟩ : ∃ k : Nat, jb = (k : Int) := ⟨jb.toNat, by omega⟩
  have hj : j < n := by omega
  have hk : k < n := by omega
  rw [show (k : Int).toNat = k from rfl, show (j : Int).toNat = j from rfl]
  have hxl : (colW m j).length = m.length := by unfold colW; rw [List.length_map]
  have hyl : (colW m k).length = m.length := by unfold colW; rw [List.length_map]
  have hQ : agrQ m j k = Rat.divInt (Go.Proofs.YtmcbbhlglccmgaaGreat.W eqP (colW m j) (colW m k) (cntE (colW m j) (colW m k) m.length : Nat) : Nat) (fact m.length : Nat) := by
    unfold agrQ
    rw [cntG_W eqP (colW m j) (colW m k) _ (by rw [hxl, hyl]), factW_pos (by omega)]
  rw [hQ]
  obtain ⟨R, hR⟩ : ∃ R, R = Rat.divInt (Go.Proofs.YtmcbbhlglccmgaaGreat.W eqP (colW m j) (colW m k) (cntE (colW m j) (colW m k) m.length : Nat) : Nat) (fact m.length : Nat) := ⟨_, rfl⟩
  rw [← hR]
  replace hR := Lib.hid hR
  have HXB := Lib.hid (col_bd hr hj)
  have HYB := Lib.hid (col_bd hr hk)
  have HXL := Lib.hid hxl
  have HYL := Lib.hid hyl
  have HH := Lib.hid h
  have HR := Lib.hid hr
  have t1 : ((j : Int) == (k : Int)) = false := beq_false_of_ne hab
  have u1 : decide ((8 : Int) < (m.length : Int)) = false := decide_eq_false (by omega)
  have gj0 : (0 : Int) ≤ (j : Int) := by omega
  have gk0 : (0 : Int) ≤ (k : Int) := by omega
  have gj1 : (j : Int) < (n : Int) := by omega
  have gk1 : (k : Int) < (n : Int) := by omega
  clear h hA hB hab hr ha1' hb1' ha2' hb2' hn hxl hyl hQ
  obtain ⟨x1, hw, hx, Kp⟩ := boxQ1 w #[.bool false, .slice none 0 0, .bool false, .slice none 0 0] 34
  replace hw := Lib.hid hw
  go_enter Tryz.func14, Tryz.ntmps14
  go_upto_region 1 with fail
  try simp only [Nat.add_assoc, Nat.reduceAdd, Nat.add_zero]
  rw [hw.out]
  clear hw
  have hs0 := hx.size
  obtain ⟨cp0, cp1, cp2, cp3⟩ := bk4 Kp
  go_wp2_with fail
  with_reducible refine (HA.out _ hx).mono ?_
  clear cp0 cp1 cp2 cp3
  rintro e x2 ⟨rfl, hy⟩
  replace hx := hx.trans hy
  replace Kp := kE Kp hy
  clear hy
  obtain ⟨cp0, cp1, cp2, cp3⟩ := bk4 Kp
  go_wp2_with fail
  with_reducible refine (HB.out _ hx).mono ?_
  clear cp0 cp1 cp2 cp3
  rintro e x3 ⟨rfl, hy⟩
  replace hx := hx.trans hy
  replace Kp := kE Kp hy
  clear hy
  clear HA HB
  obtain ⟨cp0, cp1, cp2, cp3⟩ := bk4 Kp
  go_upto_region 10 with fail
  clear u1 t1
  clear cp0 cp1 cp2 cp3
  obtain ⟨hO1, hE1⟩ := own_newW (Ext.refl x3)
  obtain ⟨hO2, hE2⟩ := own_newW hE1
  have HO1 := Lib.hid (hO1.ext (Ext.alloc _ (.cells #[] 3)))
  have HO2 := Lib.hid hO2
  have HE2 := Lib.hid hE2
  have HNE : Hid (Array.size (World.heap x3) ≠ Array.size (World.heap (x3.alloc (.cells #[] 3)))) := Lib.hid (by simp)
  clear hO1 hE1 hO2 hE2
  have H0hx := Lib.hid hx
  have H0p := Kp
  obtain ⟨cp0, cp1, cp2, cp3⟩ := bk4 Kp
  go_wp2_with fail
  clear cp0 cp1 cp2 cp3
  clear hx Kp
  go_loopw [9, 10, 11, 12] (fun v1 v2 z i wr => ∃ q : Nat, q ≤ m.length ∧ i = .int .i64 q ∧ OwnI wr (Array.size (World.heap x3)) v1 ((colW m j).take q) ∧ OwnI wr (Array.size (World.heap x3)) v2 ((colW m k).take q) ∧ v1.ownBlock ≠ v2.ownBlock ∧ z = .int .i64 (cntE (colW m j) (colW m k) q : Nat) ∧ Ext x3 wr) (fun _ _ _ i _ => m.length - (intOf i).toNat)
  case atStart => exact ⟨0, Nat.zero_le _, rfl, HO1.out, by have h := HO2.out; rw [World.size_alloc] at h; exact h, fun e => by
    simp only [Value.ownBlock, Option.some.injEq] at e
    omega, rfl, HE2.out⟩
  case round =>
    obtain ⟨q, hq, rfl, ho1, ho2, hne, rfl, hxr⟩ := hrel
    generalize wr = wA at *
    have HO1 := Lib.hid ho1
    have HO2 := Lib.hid ho2
    have HNE := Lib.hid hne
    have HXR := Lib.hid hxr
    have g1 : (0 : Int) ≤ (q : Int) := by omega
    have hcl := cntE_le (colW m j) (colW m k) q
    obtain ⟨C, hC⟩ : ∃ C, cntE (colW m j) (colW m k) q = C := ⟨_, rfl⟩
    have HC := Lib.hid hC
    rw [hC] at hcl ⊢
    clear ho1 ho2 hne hC
    by_cases hqn : q < m.length
    · have hx := H0hx.out.trans hxr
      obtain ⟨b, o, rfl⟩ := HH.out.head hqn
      obtain ⟨r, a2, c2, hrw, hc0, hI⟩ := Rows.get HH.out hqn
      obtain ⟨hrl, hr16, hrb⟩ := HR.out.row r (List.mem_of_getElem? hrw)
      obtain ⟨b2, o2, rfl⟩ := hI.head (i := j) (by omega)
      obtain ⟨y, hy, hcy0, _⟩ := Ints.get hI (i := j) (by omega)
      obtain ⟨z, hz, hcz0, _⟩ := Ints.get hI (i := k) (by omega)
      obtain ⟨y1, y2⟩ := hrb y (List.mem_of_getElem? hy)
      obtain ⟨z1, z2⟩ := hrb z (List.mem_of_getElem? hz)
      have rle := hI.le
      have rmx := hI.mx
      rw [hrl] at hc0 rle
      have HT1 : Hid ((colW m j).take (q + 1) = (colW m j).take q ++ [y]) := Lib.hid (take_get (by unfold colW; rw [List.getElem?_map, hrw]; simp [hy]))
      have HT2 : Hid ((colW m k).take (q + 1) = (colW m k).take q ++ [z]) := Lib.hid (take_get (by unfold colW; rw [List.getElem?_map, hrw]; simp [hz]))
      have HG1 : Hid ((colW m j).getD q 0 = y) := Lib.hid (by rw [List.getD_eq_getElem?_getD]; unfold colW; rw [List.getElem?_map, hrw]; simp [hy])
      have HG2 : Hid ((colW m k).getD q 0 = z) := Lib.hid (by rw [List.getD_eq_getElem?_getD]; unfold colW; rw [List.getElem?_map, hrw]; simp [hz])
      have HCE : Hid (cntE (colW m j) (colW m k) (q + 1) = C + if y = z then 1 else 0) := Lib.hid (by unfold cntE; rw [HC.out, HG1.out, HG2.out])
      have HL1 : Hid (((colW m j).take q).length + 1 ≤ 1000) := Lib.hid (by rw [List.length_take]; omega)
      have HL2 : Hid (((colW m k).take q).length + 1 ≤ 1000) := Lib.hid (by rw [List.length_take]; omega)
      have HCA := Lib.hid hc0
      have HCY := Lib.hid hcy0
      have HCZ := Lib.hid hcz0
      have hca := cell_exQ hx hc0
      have hcy := cell_exQ hx hcy0
      have g2 : (q : Int) < (m.length : Int) := by omega
      clear hrw hrl hrb hI hy hz hc0 hcy0 hcz0 hxr hx
      go_upto_region 17 with (at_builtin; refine wpl_append_two rfl (.tmp 44) (.tmp 52) rfl (HXR.out.alloc' (.cells #[.int .i64 y] 3)) rfl (HO1.out.ext (Ext.alloc wA (.cells #[.int .i64 y] 3))) (HO2.out.ext (Ext.alloc wA (.cells #[.int .i64 y] 3))) HNE.out (l := [y]) rfl rfl (ints_one (Blk.new0 wA #[.int .i64 y] 3) (by omega)) (by have := HL1.out; simp only [List.length_singleton]; omega) ?_; intro v3 w3 hown3 hown3b hne3 hx3)
      have hx3w := H0hx.out.trans hx3
      have hca3 := cell_exQ hx3w HCA.out
      have hcz3 := cell_exQ hx3w HCZ.out
      have HO3 := Lib.hid hown3
      have HO3b := Lib.hid hown3b
      have HNE3 := Lib.hid hne3
      have HX3 := Lib.hid hx3
      clear hca hcy hown3 hown3b hne3 hx3 hx3w
      go_upto_region 18 with (at_builtin; refine wpl_append_two rfl (.tmp 54) (.tmp 62) rfl (HX3.out.alloc' (.cells #[.int .i64 z] 3)) rfl (HO3b.out.ext (Ext.alloc w3 (.cells #[.int .i64 z] 3))) (HO3.out.ext (Ext.alloc w3 (.cells #[.int .i64 z] 3))) (Ne.symm HNE3.out) (l := [z]) rfl rfl (ints_one (Blk.new0 w3 #[.int .i64 z] 3) (by omega)) (by have := HL2.out; simp only [List.length_singleton]; omega) ?_; intro v4 w4 hown4 hown4b hne4 hx4)
      have hx4w := H0hx.out.trans hx4
      have hca4 := cell_exQ hx4w HCA.out
      have hcy4 := cell_exQ hx4w HCY.out
      have hcz4 := cell_exQ hx4w HCZ.out
      have HO4 := Lib.hid hown4
      have HO4b := Lib.hid hown4b
      have HNE4 := Lib.hid hne4
      have HX4 := Lib.hid hx4
      clear hca3 hcz3 hown4 hown4b hne4 hx4 hx4w
      by_cases hyz : y = z
      · have t5 : (y == z) = true := by simp [hyz]
        have HCF := Lib.hid HCE.out
        rw [if_pos hyz] at HCF
        clear hyz
        go_quiet (fail)
        go_wp2_with fail
        go_roundw
        case rel => exact ⟨q + 1, by omega, by go_num, by rw [HT1.out]; exact HO4b.out.ext ((Ext.refl _).drewN nq), by rw [HT2.out]; exact HO4.out.ext ((Ext.refl _).drewN nq), Ne.symm HNE4.out, by rw [HCF.out]; first | rfl | simp, HX4.out.drewN nq⟩
        case measure => simp [intOf]; omega
      · have t5 : (y == z) = false := by simp [hyz]
        have HCF := Lib.hid HCE.out
        rw [if_neg hyz] at HCF
        clear hyz
        go_quiet (fail)
        go_wp2_with fail
        go_roundw
        case rel => exact ⟨q + 1, by omega, by go_num, by rw [HT1.out]; exact HO4b.out.ext ((Ext.refl _).drewN nq), by rw [HT2.out]; exact HO4.out.ext ((Ext.refl _).drewN nq), Ne.symm HNE4.out, by rw [HCF.out]; first | rfl | simp, HX4.out.drewN nq⟩
        case measure => simp [intOf]; omega
    · have hx := H0hx.out.trans hxr
      have Kp := kE H0p hxr
      obtain rfl : q = m.length := by omega
      have g2 : ¬ (m.length : Int) < (m.length : Int) := by omega
      have h1 := HO1.out
      have h2 := HO2.out
      rw [List.take_of_length_le (by rw [HXL.out]; exact Nat.le_refl _)] at h1
      rw [List.take_of_length_le (by rw [HYL.out]; exact Nat.le_refl _)] at h2
      obtain ⟨gx, cx, e1, hIx, -⟩ := h1.look (fun x hx => by have := HXB.out x hx; omega)
      obtain ⟨gy, cy, e2, hIy, -⟩ := h2.look (fun x hx => by have := HYB.out x hx; omega)
      subst e1 e2
      rw [HXL.out, HYL.out]
      have xle := hIx.le
      have xmx := hIx.mx
      have yle := hIy.le
      have ymx := hIy.mx
      rw [HXL.out] at xle
      rw [HYL.out] at yle
      have Vx := Lib.hid hIx
      have Vy := Lib.hid hIy
      have HMT := Lib.hid (fun W (hX : Ints W (some ⟨gx, 0, none⟩) cx (colW m j)) (hY : Ints W (some ⟨gy, 0, none⟩) cy (colW m k)) => ref42_matches m.length _ _ cx cy (colW m j) (colW m k) (C : Int) W hX hY HXL.out HYL.out (by omega) (by omega))
      have hwb : Go.Proofs.YtmcbbhlglccmgaaGreat.W eqP (colW m j) (colW m k) (C : Int) ≤ 40320 := by
        have h1 := W_le eqP (colW m j) (colW m k) (C : Int) (by rw [HXL.out, HYL.out])
        rw [HXL.out] at h1
        exact Nat.le_trans h1 (fact_le (by omega))
      have hfb : fact m.length ≤ 40320 := fact_le (by omega)
      have hf0 := fact_pos m.length
      have HRF := Lib.hid (fun W => ref42_factorial m.length W (by omega))
      have hRR := hR.out
      rw [show cntE (colW m j) (colW m k) m.length = C from HC.out] at hRR
      generalize Go.Proofs.YtmcbbhlglccmgaaGreat.W eqP (colW m j) (colW m k) (C : Int) = Z at *
      generalize fact m.length = FN at *
      subst hRR
      clear hR
      clear h1 h2 hIx hIy HO1 HO2 HNE HC
      obtain ⟨cp0, cp1, cp2, cp3⟩ := bk4 Kp
      go_wp2_with fail
      with_reducible refine (HMT.out _ Vx.out Vy.out).mono ?_
      clear cp0 cp1 cp2 cp3
      rintro e x4 ⟨rfl, hy⟩
      replace hx := hx.trans hy
      replace Kp := kE Kp hy
      replace Vx := Lib.hid (Vx.out.ext hy)
      replace Vy := Lib.hid (Vy.out.ext hy)
      clear hy
      clear HMT
      obtain ⟨cp0, cp1, cp2, cp3⟩ := bk4 Kp
      go_wp2_with fail
      with_reducible refine (HRF.out _).mono ?_
      rintro e w' ⟨rfl, rfl⟩
      clear HRF
      have hsz := hx.size
      go_wp2_with fail
      with_reducible refine (rMakeR (Z : Int) (FN : Int) _ (by omega) (by omega) (by omega)).mono ?_
      clear cp0 cp1 cp2 cp3
      rintro e x5 ⟨v, rfl, hv, hy⟩
      replace hx := hx.trans hy
      replace Kp := kE Kp hy
      replace Vx := Lib.hid (Vx.out.ext hy)
      replace Vy := Lib.hid (Vy.out.ext hy)
      clear hy
      obtain ⟨nr, ar, qr, cr, br, kr, dr, rfl, hv', hf', hg'⟩ := hv
      have Vr := Lib.hid hv'
      have Fr := Lib.hid (fun A hA => Nat.le_trans hsz (hf' A hA))
      have Gr := Lib.hid (fun A hA => Nat.le_trans hsz (hg' A hA))
      clear hv' hf' hg' hsz
      obtain ⟨cp0, cp1, cp2, cp3⟩ := bk4 Kp
      obtain ⟨g0, z0, g1, z1, g2, z2, g3, z3⟩ := bp4 Kp (.bool nr) (.slice ar qr cr) (.bool false) (.slice br kr dr)
      go_wp2_with fail
      clear g0 z0 g1 z1 g2 z2 g3 z3
      clear cp0 cp1 cp2 cp3
      clear Vx
      clear Vy
      replace Vr := (by first | exact rv4 Vr Kp (.bool nr) (.slice ar qr cr) (.bool false) (.slice br kr dr) rfl rfl rfl rfl | exact bv4 Vr Kp (.bool nr) (.slice ar qr cr) (.bool false) (.slice br kr dr) rfl rfl rfl rfl)
      replace hx := bx4 hx (w.heap.size) (.bool nr) (.slice ar qr cr) (.bool false) (.slice br kr dr) (by omega)
      replace Kp := bs4 Kp (.bool nr) (.slice ar qr cr) (.bool false) (.slice br kr dr)
      generalize ((((x5).setCell ⟨w.heap.size, 0, none⟩ (.bool nr)).setCell ⟨w.heap.size, 1, none⟩ (.slice ar qr cr)).setCell ⟨w.heap.size, 2, none⟩ (.bool false)).setCell ⟨w.heap.size, 3, none⟩ (.slice br kr dr) = x6 at *
      obtain ⟨cp0, cp1, cp2, cp3⟩ := bk4 Kp
      refine bodyPost_ret (v := .tuple #[.agg #[.bool nr, .slice ar qr cr, .bool false, .slice br kr dr], .int .i64 0]) (by simp [results, Tryz.results14, go_sem, cp0, cp1, cp2, cp3]) rfl ?_
      exact ⟨_, rfl, ⟨_, _, _, _, _, _, _, rfl, Vr.out, Fr.out, Gr.out⟩, hx⟩
set_option maxHeartbeats 8000000 in
theorem ref42_Favour_ask (a a2 : Option Addr) (cap cap2 : Nat) (m : List (List Int)) (mates : List (List Bool)) (j : Int) (w : World) (h : Rows w a cap m) (h2 : BRows w a2 cap2 mates) (hE : askW m [j] ≠ 0) :
    Calls Tryz.prog 12 #[.slice a m.length cap, .slice a2 mates.length cap2, .int .i64 j] w (RatE (askW m [j]) w) := by
  have hle := h.le
  have hmx := h.mx
  have hle2 := h2.le
  have hmx2 := h2.mx
  have HA := Lib.hid (fun W (hW : Ext w W) => ref42_Against_err a cap m j W (h.ext hW) hE)
  obtain ⟨E, hEE⟩ : ∃ E, askW m [j] = E := ⟨_, rfl⟩
  rw [hEE] at HA hE ⊢
  have t1 : (E != 0) = true := by simpa using hE
  clear h h2 hEE
  obtain ⟨x1, hw, hx, Kp⟩ := boxQ1 w #[.bool false, .slice none 0 0, .bool false, .slice none 0 0] 34
  replace hw := Lib.hid hw
  go_enter Tryz.func12, Tryz.ntmps12
  go_upto_region 1 with fail
  try simp only [Nat.add_assoc, Nat.reduceAdd, Nat.add_zero]
  rw [hw.out]
  clear hw
  have hs0 := hx.size
  obtain ⟨cp0, cp1, cp2, cp3⟩ := bk4 Kp
  go_wp2_with fail
  with_reducible refine (HA.out _ hx).mono ?_
  clear cp0 cp1 cp2 cp3
  rintro e x2 ⟨rfl, hy⟩
  replace hx := hx.trans hy
  replace Kp := kE Kp hy
  clear hy
  clear HA
  obtain ⟨cp0, cp1, cp2, cp3⟩ := bk4 Kp
  obtain ⟨g0, z0, g1, z1, g2, z2, g3, z3⟩ := bp4 Kp (.bool false) (.slice none 0 0) (.bool false) (.slice none 0 0)
  go_wp2_with fail
  clear g0 z0 g1 z1 g2 z2 g3 z3
  clear cp0 cp1 cp2 cp3
  replace hx := bx4 hx (w.heap.size) (.bool false) (.slice none 0 0) (.bool false) (.slice none 0 0) (by omega)
  replace Kp := bs4 Kp (.bool false) (.slice none 0 0) (.bool false) (.slice none 0 0)
  generalize ((((x2).setCell ⟨w.heap.size, 0, none⟩ (.bool false)).setCell ⟨w.heap.size, 1, none⟩ (.slice none 0 0)).setCell ⟨w.heap.size, 2, none⟩ (.bool false)).setCell ⟨w.heap.size, 3, none⟩ (.slice none 0 0) = x3 at *
  obtain ⟨cp0, cp1, cp2, cp3⟩ := bk4 Kp
  refine bodyPost_ret (v := .tuple #[zeroRat, .int .i64 E]) (by simp [results, Tryz.results12, go_sem, cp0, cp1, cp2, cp3, zeroRat]) rfl ?_
  exact ⟨rfl, hx⟩
set_option maxHeartbeats 8000000 in
theorem ref42_Favour_len (a a2 : Option Addr) (cap cap2 : Nat) (m : List (List Int)) (mates : List (List Bool)) (j : Int) (w : World) (h : Rows w a cap m) (h2 : BRows w a2 cap2 mates) (hE : askW m [j] = 0) (hl : mates.length ≠ m.length) :
    Calls Tryz.prog 12 #[.slice a m.length cap, .slice a2 mates.length cap2, .int .i64 j] w (RatE 420 w) := by
  have hle := h.le
  have hmx := h.mx
  have hle2 := h2.le
  have hmx2 := h2.mx
  obtain ⟨hr, hj1, hj2⟩ := askW_ok hE
  have hj1' : 0 ≤ j := hj1
  have hj2' : j < ((m.headD []).length : Int) := hj2
  clear hj1 hj2
  obtain ⟨k, rfl⟩ : ∃ k : Nat, j = (k : Int) := ⟨j.toNat, by omega⟩
  have hk : k < (m.headD []).length := by omega
  have HBD := Lib.hid (above_bd hr hk)
  have HA := Lib.hid (fun W (hW : Ext w W) => ref42_Against_ok a cap m k W (h.ext hW) hE)
  try rw [show (k : Int).toNat = k from rfl]
  have hdl : (aboveL m k).length = m.length := by unfold aboveL; rw [List.length_map]
  generalize aboveL m k = d at *
  have HDL := Lib.hid hdl
  have h64 := hr.le
  have u1 : (((mates.length : Int) : Int) != (m.length : Int)) = true := by simp; omega
  clear h h2 hr hdl hj1' hj2' hk hl
  obtain ⟨x1, hw, hx, Kp⟩ := boxQ1 w #[.bool false, .slice none 0 0, .bool false, .slice none 0 0] 34
  replace hw := Lib.hid hw
  go_enter Tryz.func12, Tryz.ntmps12
  go_upto_region 1 with fail
  try simp only [Nat.add_assoc, Nat.reduceAdd, Nat.add_zero]
  rw [hw.out]
  clear hw
  have hs0 := hx.size
  obtain ⟨cp0, cp1, cp2, cp3⟩ := bk4 Kp
  go_wp2_with fail
  with_reducible refine (HA.out _ hx).mono ?_
  clear cp0 cp1 cp2 cp3
  rintro e x2 ⟨v, rfl, hv, hy⟩
  replace hx := hx.trans hy
  replace Kp := kE Kp hy
  clear hy
  obtain ⟨gd, cd, rfl, hI, hgd⟩ := hv.look (fun x hx => by have := HBD.out x hx; omega)
  have Vd := Lib.hid hI
  have dle := hI.le
  have dmx := hI.mx
  rw [HDL.out] at dle
  rw [show d.length = m.length from HDL.out]
  clear hv hI HA hgd
  obtain ⟨cp0, cp1, cp2, cp3⟩ := bk4 Kp
  obtain ⟨g0, z0, g1, z1, g2, z2, g3, z3⟩ := bp4 Kp (.bool false) (.slice none 0 0) (.bool false) (.slice none 0 0)
  go_wp2_with fail
  clear g0 z0 g1 z1 g2 z2 g3 z3
  clear cp0 cp1 cp2 cp3
  clear Vd
  replace hx := bx4 hx (w.heap.size) (.bool false) (.slice none 0 0) (.bool false) (.slice none 0 0) (by omega)
  replace Kp := bs4 Kp (.bool false) (.slice none 0 0) (.bool false) (.slice none 0 0)
  generalize ((((x2).setCell ⟨w.heap.size, 0, none⟩ (.bool false)).setCell ⟨w.heap.size, 1, none⟩ (.slice none 0 0)).setCell ⟨w.heap.size, 2, none⟩ (.bool false)).setCell ⟨w.heap.size, 3, none⟩ (.slice none 0 0) = x3 at *
  obtain ⟨cp0, cp1, cp2, cp3⟩ := bk4 Kp
  refine bodyPost_ret (v := .tuple #[zeroRat, .int .i64 420]) (by simp [results, Tryz.results12, go_sem, cp0, cp1, cp2, cp3, zeroRat]) rfl ?_
  exact ⟨rfl, hx⟩
set_option maxHeartbeats 8000000 in
theorem ref42_Favour_in (a a2 : Option Addr) (cap cap2 : Nat) (m : List (List Int)) (mates : List (List Bool)) (j : Int) (w : World) (h : Rows w a cap m) (h2 : BRows w a2 cap2 mates) (hE : askW m [j] = 0) (hl : mates.length = m.length) (h20 : m.length ≤ 20) :
    Calls Tryz.prog 12 #[.slice a m.length cap, .slice a2 mates.length cap2, .int .i64 j] w (fun e w' => (mates.any (mateB (m.headD []).length) = true ∧ RatE 420 w e w') ∨ (mates.any (mateB (m.headD []).length) = false ∧ RatP (favQ m mates j.toNat) w e w')) := by
  have hle := h.le
  have hmx := h.mx
  have hle2 := h2.le
  have hmx2 := h2.mx
  obtain ⟨hr, hj1, hj2⟩ := askW_ok hE
  have hj1' : 0 ≤ j := hj1
  have hj2' : j < ((m.headD []).length : Int) := hj2
  clear hj1 hj2
  obtain ⟨k, rfl⟩ : ∃ k : Nat, j = (k : Int) := ⟨j.toNat, by omega⟩
  have hk : k < (m.headD []).length := by omega
  have HBD := Lib.hid (above_bd hr hk)
  have HA := Lib.hid (fun W (hW : Ext w W) => ref42_Against_ok a cap m k W (h.ext hW) hE)
  try rw [show (k : Int).toNat = k from rfl]
  have hdl : (aboveL m k).length = m.length := by unfold aboveL; rw [List.length_map]
  have hQ : favQ m mates k = Rat.divInt (setsW (aboveL m k) (favN mates k mates.length) (favS (aboveL m k) mates k mates.length) : Nat) (bin m.length (favN mates k mates.length) : Nat) := by
    unfold favQ
    rw [setsW_cs, Int.sub_zero]
  rw [hQ]
  obtain ⟨R, hR⟩ : ∃ R, R = Rat.divInt (setsW (aboveL m k) (favN mates k mates.length) (favS (aboveL m k) mates k mates.length) : Nat) (bin m.length (favN mates k mates.length) : Nat) := ⟨_, rfl⟩
  rw [← hR]
  clear hQ
  obtain ⟨n, hn⟩ : ∃ n, (m.headD []).length = n := ⟨_, rfl⟩
  have hp := hr.p
  obtain ⟨r0, hr0⟩ : ∃ r0, m[0]? = some r0 := ⟨_, List.getElem?_eq_getElem hp⟩
  have hrn : r0.length = n := by rw [← hn, List.headD_eq_head?_getD, List.head?_eq_getElem?, hr0]; rfl
  obtain ⟨ba, oa, rfl⟩ := h.head hp
  obtain ⟨r1, a3, c3, hr1, hc1, hI1⟩ := Rows.get h hp
  rw [hr0] at hr1
  cases hr1
  simp only [Nat.add_zero] at hc1
  have r0le := hI1.le
  have r0mx := hI1.mx
  rw [hrn] at hc1 r0le
  have HC1 := Lib.hid hc1
  have HB := Lib.hid h2
  rw [hn] at hk
  rw [hn]
  rw [hl]
  rw [hl] at hle2 hR
  replace hR := Lib.hid hR
  have HL := Lib.hid hl
  have gp : (0 : Int) < (m.length : Int) := by omega
  have gk0 : (0 : Int) ≤ (k : Int) := by omega
  have gkn : (k : Int) < (n : Int) := by omega
  clear hr0 hrn hc1 hI1 hp
  generalize aboveL m k = d at *
  have HDL := Lib.hid hdl
  have h64 := hr.le
  have u1 : (((m.length : Int) : Int) != (m.length : Int)) = false := by simp
  clear h h2 hr hdl hj1' hj2' hl hn
  obtain ⟨x1, hw, hx, Kp⟩ := boxQ1 w #[.bool false, .slice none 0 0, .bool false, .slice none 0 0] 34
  replace hw := Lib.hid hw
  go_enter Tryz.func12, Tryz.ntmps12
  go_upto_region 1 with fail
  try simp only [Nat.add_assoc, Nat.reduceAdd, Nat.add_zero]
  rw [hw.out]
  clear hw
  have hs0 := hx.size
  obtain ⟨cp0, cp1, cp2, cp3⟩ := bk4 Kp
  go_wp2_with fail
  with_reducible refine (HA.out _ hx).mono ?_
  clear cp0 cp1 cp2 cp3
  rintro e x2 ⟨v, rfl, hv, hy⟩
  replace hx := hx.trans hy
  replace Kp := kE Kp hy
  clear hy
  obtain ⟨gd, cd, rfl, hI, hgd⟩ := hv.look (fun x hx => by have := HBD.out x hx; omega)
  have Vd := Lib.hid hI
  have dle := hI.le
  have dmx := hI.mx
  rw [HDL.out] at dle
  rw [show d.length = m.length from HDL.out]
  clear hv hI HA hgd
  have H0hx := Lib.hid hx
  have H0p := Kp
  have H0Vd := Vd
  obtain ⟨cp0, cp1, cp2, cp3⟩ := bk4 Kp
  go_wp2_with fail
  clear cp0 cp1 cp2 cp3
  clear u1
  clear hx Kp Vd
  go_loopw [10, 11, 12] (fun x s i wr => ∃ q : Nat, q ≤ m.length ∧ i = .int .i64 q ∧ x = .int .i64 (favN mates k q : Nat) ∧ s = .int .i64 (favS d mates k q) ∧ (mates.take q).any (mateB n) = false ∧ Ext x2 wr) (fun _ _ i _ => m.length - (intOf i).toNat)
  case atStart => exact ⟨0, Nat.zero_le _, rfl, rfl, rfl, rfl, Ext.refl _⟩
  case round =>
    obtain ⟨q, hq, rfl, rfl, rfl, hno, hxr⟩ := hrel
    generalize wr = wA at *
    have HNO := Lib.hid hno
    have HXR := Lib.hid hxr
    have g1 : (0 : Int) ≤ (q : Int) := by omega
    have hfn := favN_le mates k q
    obtain ⟨b2, b3⟩ := favS_bd HBD.out mates k q
    obtain ⟨C, hC⟩ : ∃ C, favN mates k q = C := ⟨_, rfl⟩
    obtain ⟨S, hS⟩ : ∃ S, favS d mates k q = S := ⟨_, rfl⟩
    have HC := Lib.hid hC
    have HS := Lib.hid hS
    rw [hC] at hfn ⊢
    rw [hS] at b2 b3 ⊢
    have s1 : S ≤ 320000 := by omega
    have s2 : -320000 ≤ S := by omega
    clear hno hC hS b2 b3
    by_cases hqn : q < m.length
    · have hx := H0hx.out.trans hxr
      have Kp := kE H0p hxr
      have Vd := Lib.hid (H0Vd.out.ext hxr)
      obtain ⟨bm, om, rfl⟩ := HB.out.head (i := q) (by rw [HL.out]; exact hqn)
      obtain ⟨l, a4, c4, hlr, hcl0, hI4⟩ := BRows.get HB.out (i := q) (by rw [HL.out]; exact hqn)
      have lle := hI4.le
      have lmx := hI4.mx
      have hcl := cell_exQ hx hcl0
      have hc1 := cell_exQ hx HC1.out
      have g2 : (q : Int) < (m.length : Int) := by omega
      have HLR := Lib.hid hlr
      have HI4 := Lib.hid (hI4.ext hx)
      clear hlr hcl0 hI4 hxr
      by_cases hln : l.length = n
      · have t5 : ((l.length : Int) != (n : Int)) = false := by simp [hln]
        rw [hln] at lle hcl
        obtain ⟨b5, o5, rfl⟩ := HI4.out.head (i := k) (by omega)
        obtain ⟨z, hz, hcz⟩ := Bools.get HI4.out (i := k) (by omega)
        have HNX : Hid ((mates.take (q + 1)).any (mateB n) = false) := Lib.hid (any_takeW HLR.out HNO.out (by unfold mateB; simp [hln]))
        have HZ : Hid (hasW mates k q = z) := Lib.hid (by
          have e : mates.getD q [] = l := by rw [List.getD_eq_getElem?_getD, HLR.out]; rfl
          unfold hasW
          rw [e, List.getD_eq_getElem?_getD, hz]; rfl)
        obtain ⟨y, hy, hcy, -, -⟩ := Ints.get Vd.out (i := q) (by rw [HDL.out]; exact hqn)
        simp only [Nat.zero_add] at hcy
        have HY : Hid (d.getD q 0 = y) := Lib.hid (by rw [List.getD_eq_getElem?_getD, hy]; rfl)
        obtain ⟨y1, y2⟩ := HBD.out y (List.mem_of_getElem? hy)
        have HFN : Hid (favN mates k (q + 1) = C + if z = true then 1 else 0) := Lib.hid (by unfold favN; rw [HC.out, HZ.out])
        have HFS : Hid (favS d mates k (q + 1) = S + if z = true then y else 0) := Lib.hid (by unfold favS; rw [HS.out, HZ.out, HY.out])
        have hczl : z = true ∨ z = false := by cases z <;> simp
        clear hz hy hln
        go_upto_region 11 with fail
        go_quiet (fail)
        go_upto_region 13 with fail
        have hxn : Ext wA (World.drewN wA nq) := (Ext.refl _).drewN nq
        replace hcl := cell_exQ hxn hcl
        replace hcz := cell_exQ hxn hcz
        replace hcy := cell_exQ hxn hcy
        have HXN := Lib.hid (HXR.out.trans hxn)
        clear hc1 hx t5 hxn
        generalize World.drewN wA nq = wB at *
        rcases hczl with rfl | rfl
        · go_wp2_with fail
          go_roundw
          case rel => exact ⟨q + 1, by omega, by go_num, by rw [HFN.out]; simp, by rw [HFS.out]; simp, HNX.out, HXN.out⟩
          case measure => simp [intOf]; omega
        · go_wp2_with fail
          go_roundw
          case rel => exact ⟨q + 1, by omega, by go_num, by rw [HFN.out]; simp, by rw [HFS.out]; simp, HNX.out, HXN.out⟩
          case measure => simp [intOf]; omega
      · have t5 : ((l.length : Int) != (n : Int)) = true := by simp; omega
        have HAN : Hid (mates.any (mateB n) = true) := Lib.hid (any_memW HLR.out (by unfold mateB; simp [hln]))
        clear hln
        go_upto_region 11 with fail
        go_quiet (fail)
        go_upto_region 12 with fail
        have hyd : Ext wA (World.drewN wA nq) := (Ext.refl _).drewN nq
        replace hx := hx.trans hyd
        replace Kp := kE Kp hyd
        replace Vd := Lib.hid (Vd.out.ext hyd)
        clear hyd hcl hc1 t5
        generalize World.drewN wA nq = wB at *
        obtain ⟨cp0, cp1, cp2, cp3⟩ := bk4 Kp
        obtain ⟨g0, z0, g1, z1, g2, z2, g3, z3⟩ := bp4 Kp (.bool false) (.slice none 0 0) (.bool false) (.slice none 0 0)
        go_wp2_with fail
        clear g0 z0 g1 z1 g2 z2 g3 z3
        clear cp0 cp1 cp2 cp3
        clear Vd
        replace hx := bx4 hx (w.heap.size) (.bool false) (.slice none 0 0) (.bool false) (.slice none 0 0) (by omega)
        replace Kp := bs4 Kp (.bool false) (.slice none 0 0) (.bool false) (.slice none 0 0)
        generalize ((((wB).setCell ⟨w.heap.size, 0, none⟩ (.bool false)).setCell ⟨w.heap.size, 1, none⟩ (.slice none 0 0)).setCell ⟨w.heap.size, 2, none⟩ (.bool false)).setCell ⟨w.heap.size, 3, none⟩ (.slice none 0 0) = x3 at *
        obtain ⟨cp0, cp1, cp2, cp3⟩ := bk4 Kp
        refine bodyPost_ret (v := .tuple #[zeroRat, .int .i64 420]) (by simp [results, Tryz.results12, go_sem, cp0, cp1, cp2, cp3, zeroRat]) rfl ?_
        exact .inl ⟨HAN.out, rfl, hx⟩
    · have hx := H0hx.out.trans hxr
      have Kp := kE H0p hxr
      have Vd := Lib.hid (H0Vd.out.ext hxr)
      obtain rfl : q = m.length := by omega
      have g2 : ¬ (m.length : Int) < (m.length : Int) := by omega
      have HAN : Hid (mates.any (mateB n) = false) := Lib.hid (by have := HNO.out; rwa [List.take_of_length_le (by rw [HL.out]; exact Nat.le_refl _)] at this)
      have HCH := Lib.hid (fun W => (by
        have hh := rChoose_any m.length (C : Int) W (by omega)
        rw [show binZ m.length (C : Int) = (bin m.length C : Nat) from by unfold binZ; rw [if_pos (by omega)]; rfl] at hh
        exact hh : Calls Tryz.prog 31 #[.int .i64 (m.length : Int), .int .i64 (C : Int)] W (PairP (bin m.length C : Nat) 0 W)))
      have HSE := Lib.hid (fun W (hW : Ints W (some ⟨gd, 0, none⟩) cd d) => ref42_sets m.length _ cd d C S W hW HDL.out h20 (by omega) HBD.out (by omega))
      have hz1 := setsW_bin d C S
      rw [HDL.out] at hz1
      have hz2 := bin_le20 h20 (k := C)
      have hz3 := bin_pos hfn
      have hRR := hR.out
      rw [show favN mates k m.length = C from HC.out, show favS d mates k m.length = S from HS.out] at hRR
      generalize setsW d C S = Z at *
      generalize bin m.length C = BN at *
      subst hRR
      clear hR
      clear HBD HNO HC HS
      obtain ⟨cp0, cp1, cp2, cp3⟩ := bk4 Kp
      have hsz := hx.size
      go_wp2_with fail
      with_reducible refine (HCH.out _).mono ?_
      clear cp0 cp1 cp2 cp3
      rintro e x3 ⟨v, rfl, hv, hy⟩
      replace hx := hx.trans hy
      replace Kp := kE Kp hy
      replace Vd := Lib.hid (Vd.out.ext hy)
      clear hy
      clear HCH hsz
      obtain ⟨na, aa, qa, ca, rfl⟩ := hv.form
      have Va := Lib.hid hv
      clear hv
      go_upto_region 17 with fail
      have hl := Ext.alloc x3 (.cells #[.bool na, .slice aa qa ca] 32)
      have lpa : w.heap.size < x3.heap.size := Kp.out.lt
      have hpa : w.heap.size ≤ x3.heap.size := hx.size
      replace hx := hx.trans hl
      replace Kp := kE Kp hl
      replace Vd := Lib.hid (Vd.out.ext hl)
      replace Va := Lib.hid (Va.out.ext hl)
      have Ka := Lib.hid (Blk.new0 x3 #[.bool na, .slice aa qa ca] 32)
      clear hl
      generalize x3.alloc (.cells #[.bool na, .slice aa qa ca] 32) = x4 at *
      generalize x3.heap.size = pa at *
      have s0 : World.cell? x4 ⟨pa, 0, none⟩ = some (.bool na) := Ka.out.cell (i := 0) rfl
      have s1 : World.cell? x4 ⟨pa, 1, none⟩ = some (.slice aa qa ca) := Ka.out.cell (i := 1) rfl
      have hE : Ext x4 (World.drew x4) := (Ext.refl _).drew
      have hyd : Ext x4 (World.drew x4) := (Ext.refl _).drew
      replace hx := hx.trans hyd
      replace Kp := kE Kp hyd
      replace Ka := kE Ka hyd
      replace Vd := Lib.hid (Vd.out.ext hyd)
      replace Va := Lib.hid (Va.out.ext hyd)
      clear hyd
      replace s0 : World.cell? (World.drew x4) ⟨pa, 0, none⟩ = some (.bool na) := s0
      replace s1 : World.cell? (World.drew x4) ⟨pa, 1, none⟩ = some (.slice aa qa ca) := s1
      refine wp_region_held_drew (S := (fun w' => World.cell? w' ⟨pa, 0, none⟩ = some (.bool na) ∧ World.cell? w' ⟨pa, 1, none⟩ = some (.slice aa qa ca))) (by kernel_rfl) ?_ (fun hHeld => ?_)
      · exact ⟨s0, s1⟩
      (try simp only [← List.toArray_replicate, List.size_toArray, List.length_cons, List.length_nil, Nat.reduceAdd, List.replicate_succ, List.replicate_zero])
      generalize World.drew x4 = x5 at *
      refine wpAnyH_take (i := 0) (oi := _) (v := ?_) rfl (by kernel_rfl) (by kernel_rfl) (by kernel_rfl) (fun _ _ _ h => h) (Or.inl ⟨by rfl, ?_⟩) (by assumption) ?_
      rotate_left
      · (intro w hSw; (try dsimp only at hSw); (try go_simp); (try with_reducible rfl))
      (try simp only [Act.put, List.getElem_toArray, List.getElem_cons_succ, List.getElem_cons_zero, List.setIfInBounds_toArray, List.set_cons_zero, List.set_cons_succ])
      refine wpAnyH_take (i := 1) (oi := _) (v := ?_) rfl (by kernel_rfl) (by kernel_rfl) (by kernel_rfl) (fun _ _ _ h => h) (Or.inl ⟨by rfl, ?_⟩) (by assumption) ?_
      rotate_left
      · (intro w hSw; (try dsimp only at hSw); (try go_simp); (try with_reducible rfl))
      (try simp only [Act.put, List.getElem_toArray, List.getElem_cons_succ, List.getElem_cons_zero, List.setIfInBounds_toArray, List.set_cons_zero, List.set_cons_succ])
      refine wpAnyH_take (i := 2) (oi := _) (v := ?_) rfl (by kernel_rfl) (by kernel_rfl) (by kernel_rfl) (fun _ _ _ h => h) (Or.inl ⟨by rfl, ?_⟩) (by assumption) ?_
      rotate_left
      · (intro w hSw; (try dsimp only at hSw); (try go_simp); (try with_reducible rfl))
      (try simp only [Act.put, List.getElem_toArray, List.getElem_cons_succ, List.getElem_cons_zero, List.setIfInBounds_toArray, List.set_cons_zero, List.set_cons_succ])
      refine wpAnyH_take (i := 5) (oi := _) (v := ?_) rfl (by kernel_rfl) (by kernel_rfl) (by kernel_rfl) (fun _ _ _ h => h) (Or.inl ⟨by rfl, ?_⟩) (by assumption) ?_
      rotate_left
      · (intro w hSw; (try dsimp only at hSw); (try go_simp); (try with_reducible rfl))
      (try simp only [Act.put, List.getElem_toArray, List.getElem_cons_succ, List.getElem_cons_zero, List.setIfInBounds_toArray, List.set_cons_zero, List.set_cons_succ])
      refine wpAnyH_ready (rs := [3]) (by kernel_rfl) (by simp) ?_
      refine AllReadyH.cons (o := _) rfl (fun K hK => ?_) ?_
      · go_simp
        (with_reducible refine (HSE.out _ Vd.out).mono ?_); rintro e x6 ⟨rfl, hy⟩; have hzx := hx.size; replace hE := hE.trans hy; replace hx := hx.trans hy; replace s0 := cell_exQ hy s0; replace s1 := cell_exQ hy s1; replace Kp := kE Kp hy; replace Ka := kE Ka hy; replace Vd := Lib.hid (Vd.out.ext hy); replace Va := Lib.hid (Va.out.ext hy); clear hy
        refine hK.out _ _ ?_ (fun hHeld2 => ?_)
        · exact ⟨s0, s1⟩
        clear hK K hHeld
        have hHeld := hHeld2
        clear hHeld2
        (try simp only [Act.put, List.getElem_toArray, List.getElem_cons_succ, List.getElem_cons_zero, List.setIfInBounds_toArray, List.set_cons_zero, List.set_cons_succ])
        refine wpAnyH_ready (rs := [4]) (by kernel_rfl) (by simp) ?_
        refine AllReadyH.cons (o := _) rfl (fun K hK => ?_) ?_
        · go_simp
          (with_reducible refine (ref_Make (Z : Int) _ (by omega)).mono ?_); rintro e x7 ⟨v, rfl, hv, hy⟩; have hzx := hx.size; replace hE := hE.trans hy; replace hx := hx.trans hy; replace s0 := cell_exQ hy s0; replace s1 := cell_exQ hy s1; replace Kp := kE Kp hy; replace Ka := kE Ka hy; replace Vd := Lib.hid (Vd.out.ext hy); replace Va := Lib.hid (Va.out.ext hy); clear hy; obtain ⟨ni, ai, qi, ci, rfl, hv, -⟩ := hv.two; have Vi := Lib.hid hv; clear hv
          refine hK.out _ _ ?_ (fun hHeld2 => ?_)
          · exact ⟨s0, s1⟩
          clear hK K hHeld
          have hHeld := hHeld2
          clear hHeld2
          (try simp only [Act.put, List.getElem_toArray, List.getElem_cons_succ, List.getElem_cons_zero, List.setIfInBounds_toArray, List.set_cons_zero, List.set_cons_succ])
          refine wpAnyH_ready (rs := [6]) (by kernel_rfl) (by simp) ?_
          refine AllReadyH.cons (o := _) rfl (fun K hK => ?_) ?_
          · go_simp
            (with_reducible refine (rof_val Vi.out Va.out (len_lt (n := 3) (by omega) (by omega)) (len_lt (n := 3) (by omega) (by omega)) (by omega)).mono ?_); rintro e x8 ⟨v, rfl, hv, hy⟩; have hzx := hx.size; replace hE := hE.trans hy; replace hx := hx.trans hy; replace s0 := cell_exQ hy s0; replace s1 := cell_exQ hy s1; replace Kp := kE Kp hy; replace Ka := kE Ka hy; replace Vd := Lib.hid (Vd.out.ext hy); replace Va := Lib.hid (Va.out.ext hy); replace Vi := Lib.hid (Vi.out.ext hy); clear hy; obtain ⟨nr, ar, qr, cr, br, kr, dr, rfl, hv', hf', hg'⟩ := hv; have Vr := Lib.hid hv'; have Fr := Lib.hid (fun A hA => Nat.le_trans hzx (hf' A hA)); have Gr := Lib.hid (fun A hA => Nat.le_trans hzx (hg' A hA)); clear hv' hf' hg'
            refine hK.out _ _ ?_ (fun hHeld2 => ?_)
            · exact ⟨s0, s1⟩
            clear hK K hHeld
            have hHeld := hHeld2
            clear hHeld2
            (try simp only [Act.put, List.getElem_toArray, List.getElem_cons_succ, List.getElem_cons_zero, List.setIfInBounds_toArray, List.set_cons_zero, List.set_cons_succ])
            refine wpAnyH_take (i := 7) (oi := _) (v := ?_) rfl (by kernel_rfl) (by kernel_rfl) (by kernel_rfl) (fun _ _ _ h => h) (Or.inl ⟨by rfl, ?_⟩) (by assumption) ?_
            rotate_left
            · (intro w hSw; (try dsimp only at hSw); (try go_simp); (try with_reducible rfl))
            (try simp only [Act.put, List.getElem_toArray, List.getElem_cons_succ, List.getElem_cons_zero, List.setIfInBounds_toArray, List.set_cons_zero, List.set_cons_succ])
            refine wpAnyH_take (i := 8) (oi := _) (v := ?_) rfl (by kernel_rfl) (by kernel_rfl) (by kernel_rfl) (fun _ _ _ h => h) (Or.inl ⟨by rfl, ?_⟩) (by assumption) ?_
            rotate_left
            · (intro w hSw; (try dsimp only at hSw); (try go_simp); (try with_reducible rfl))
            (try simp only [Act.put, List.getElem_toArray, List.getElem_cons_succ, List.getElem_cons_zero, List.setIfInBounds_toArray, List.set_cons_zero, List.set_cons_succ])
            refine wpAnyH_ready (rs := [9]) (by kernel_rfl) (by simp) ?_
            refine AllReadyH.cons (o := _) rfl (fun K hK => ?_) ?_
            · obtain ⟨g0, z0, g1, z1, g2, z2, g3, z3⟩ := bp4 Kp (.bool nr) (.slice ar qr cr) (.bool false) (.slice br kr dr); go_simp; clear g0 z0 g1 z1 g2 z2 g3 z3; replace Va := (by first | exact rv4 Va Kp (.bool nr) (.slice ar qr cr) (.bool false) (.slice br kr dr) rfl rfl rfl rfl | exact bv4 Va Kp (.bool nr) (.slice ar qr cr) (.bool false) (.slice br kr dr) rfl rfl rfl rfl); replace Vi := (by first | exact rv4 Vi Kp (.bool nr) (.slice ar qr cr) (.bool false) (.slice br kr dr) rfl rfl rfl rfl | exact bv4 Vi Kp (.bool nr) (.slice ar qr cr) (.bool false) (.slice br kr dr) rfl rfl rfl rfl); replace Vr := (by first | exact rv4 Vr Kp (.bool nr) (.slice ar qr cr) (.bool false) (.slice br kr dr) rfl rfl rfl rfl | exact bv4 Vr Kp (.bool nr) (.slice ar qr cr) (.bool false) (.slice br kr dr) rfl rfl rfl rfl); replace hx := bx4 hx (w.heap.size) (.bool nr) (.slice ar qr cr) (.bool false) (.slice br kr dr) (by omega); replace s0 := bf4 s0 (w.heap.size) (.bool nr) (.slice ar qr cr) (.bool false) (.slice br kr dr) (by omega); replace s1 := bf4 s1 (w.heap.size) (.bool nr) (.slice ar qr cr) (.bool false) (.slice br kr dr) (by omega); replace Kp := bs4 Kp (.bool nr) (.slice ar qr cr) (.bool false) (.slice br kr dr); replace Ka := bo4 Ka (w.heap.size) (.bool nr) (.slice ar qr cr) (.bool false) (.slice br kr dr) (by omega); clear hE; generalize (World.setCell (World.setCell (World.setCell (World.setCell x8 ⟨w.heap.size, 0, none⟩ (.bool nr)) ⟨w.heap.size, 1, none⟩ (.slice ar qr cr)) ⟨w.heap.size, 2, none⟩ (.bool false)) ⟨w.heap.size, 3, none⟩ (.slice br kr dr)) = x9 at *; have hE := Ext.refl x9
              refine hK.out _ _ ?_ (fun hHeld2 => ?_)
              · exact ⟨s0, s1⟩
              clear hK K hHeld
              have hHeld := hHeld2
              clear hHeld2
              (try simp only [Act.put, List.getElem_toArray, List.getElem_cons_succ, List.getElem_cons_zero, List.setIfInBounds_toArray, List.set_cons_zero, List.set_cons_succ])
              refine wpAnyH_take (i := 10) (oi := _) (v := ?_) rfl (by kernel_rfl) (by kernel_rfl) (by kernel_rfl) (fun _ _ _ h => h) (Or.inl ⟨by rfl, ?_⟩) (by assumption) ?_
              rotate_left
              · (intro w hSw; (try dsimp only at hSw); (try go_simp); (try with_reducible rfl))
              (try simp only [Act.put, List.getElem_toArray, List.getElem_cons_succ, List.getElem_cons_zero, List.setIfInBounds_toArray, List.set_cons_zero, List.set_cons_succ])
              refine wpAnyH_done (by kernel_rfl) ?_ _
              go_wp2_with fail
              obtain ⟨cp0, cp1, cp2, cp3⟩ := bk4 Kp
              refine bodyPost_ret (v := .tuple #[.agg #[.bool nr, .slice ar qr cr, .bool false, .slice br kr dr], .int .i64 0]) (by simp [results, Tryz.results12, go_sem, cp0, cp1, cp2, cp3]) rfl ?_
              exact .inr ⟨HAN.out, _, rfl, ⟨_, _, _, _, _, _, _, rfl, Vr.out, Fr.out, Gr.out⟩, hx⟩
            exact AllReadyH.nil
          exact AllReadyH.nil
        exact AllReadyH.nil
      exact AllReadyH.nil
end Go.Proofs.YtmcbbhlglccmgaaGreat

namespace Go.Proofs.YtmcbbhlglccmgaaGreat
open Go.RowKit Go BigFrame Go.Shelf
set_option maxRecDepth 100000
set_option linter.unusedSimpArgs false
set_option linter.unusedVariables false

/-! law42.FindingsSpec. -/
theorem minL_two (a b : Int) : minL [a, b] < 0 ↔ a < 0 ∨ b < 0 := by simp only [minL, List.foldl_cons, List.foldl_nil]; omega
theorem maxL_two (a b n : Int) : n ≤ maxL [a, b] ↔ n ≤ a ∨ n ≤ b := by simp only [maxL, List.foldl_cons, List.foldl_nil]; omega
theorem askW_two_a {m : List (List Int)} {a b : Int} (h : askW m [a] ≠ 0) : askW m [a, b] = askW m [a] := by
  unfold askW at *
  simp only [minL_one, maxL_one, minL_two, maxL_two] at *
  generalize errW m = E at *
  generalize ((m.headD []).length : Int) = n at *
  by_cases he : E = 0 <;> by_cases h1 : a < 0 <;> by_cases h2 : n ≤ a <;> by_cases h3 : b < 0 <;> by_cases h4 : n ≤ b <;> simp_all
theorem askW_two_b {m : List (List Int)} {a b : Int} (h0 : askW m [a] = 0) (h : askW m [b] ≠ 0) : askW m [a, b] = askW m [b] := by
  unfold askW at *
  simp only [minL_one, maxL_one, minL_two, maxL_two] at *
  generalize errW m = E at *
  generalize ((m.headD []).length : Int) = n at *
  by_cases he : E = 0 <;> by_cases h1 : a < 0 <;> by_cases h2 : n ≤ a <;> by_cases h3 : b < 0 <;> by_cases h4 : n ≤ b <;> simp_all
theorem askW_two_c {m : List (List Int)} {a b : Int} (h0 : askW m [a] = 0) (h : askW m [b] = 0) : askW m [a, b] = 0 := by
  have e0 : errW m = 0 := Classical.byContradiction fun he => by
    unfold askW at h0
    rw [if_pos he] at h0
    exact he h0
  obtain ⟨_, a1, a2⟩ := askW_ok h0
  obtain ⟨_, b1, b2⟩ := askW_ok h
  rw [minL_one] at a1 b1
  rw [maxL_one] at a2 b2
  unfold askW
  rw [if_neg (by rw [e0]; simp), if_neg (by rw [minL_two]; omega), if_neg (by rw [maxL_two]; omega)]
/-- A ratio, or none with an error. -/
def RV (E : Int) (q : Rat) (w : World) (v : Value) : Prop := (E ≠ 0 ∧ v = zeroRat) ∨ (E = 0 ∧ RatV w v q)
theorem RV.ext {E : Int} {q : Rat} {w w' : World} {v : Value} (h : RV E q w v) (k : Ext w w') : RV E q w' v := h.imp id fun ⟨a, b⟩ => ⟨a, b.ext k⟩
theorem RV.form {E : Int} {q : Rat} {w : World} {v : Value} (h : RV E q w v) : ∃ n1 a q c n2 b k d, v = .agg #[.bool n1, .slice a q c, .bool n2, .slice b k d] := by
  rcases h with ⟨_, rfl⟩ | ⟨_, h⟩
  · exact ⟨_, _, _, _, _, _, _, _, rfl⟩
  · obtain ⟨n1, a, q, c, b, k, d, rfl⟩ := h.form
    exact ⟨_, _, _, _, _, _, _, _, rfl⟩
theorem same_rv {E : Int} {q : Rat} {w : World} {v u : Value} (h : RV E q w v) (k : RV E q w u) : Calls Tryz.prog 17 #[v, u] w fun e w' => e = .returned (.bool true) ∧ Ext w w' := by
  rcases h with ⟨h0, rfl⟩ | ⟨h0, h⟩
  · rcases k with ⟨_, rfl⟩ | ⟨k0, _⟩
    · exact same_zero w
    · exact absurd k0 h0
  · rcases k with ⟨k0, _⟩ | ⟨_, k⟩
    · exact absurd h0 k0
    · have := same_rat h k
      simpa using this
def RvP (E : Int) (q : Rat) (w : World) (e : Ending) (w' : World) : Prop := ∃ v, e = .returned (.tuple #[v, .int .i64 E]) ∧ RV E q w' v ∧ Ext w w'
theorem RvP.err {E : Int} {q : Rat} {w w' : World} {e : Ending} (h0 : E ≠ 0) (h : RatE E w e w') : RvP E q w e w' := ⟨_, h.1, .inl ⟨h0, rfl⟩, h.2⟩
theorem RvP.ok {q : Rat} {w w' : World} {e : Ending} (h : RatP q w e w') : RvP 0 q w e w' := by
  obtain ⟨v, he, hv, hx⟩ := h
  exact ⟨v, he, .inr ⟨rfl, hv.val⟩, hx⟩
def agaL (m : List (List Int)) (j : Int) : List Int := if askW m [j] = 0 then aboveL m j.toNat else []
def AgvP (m : List (List Int)) (j : Int) (w : World) (e : Ending) (w' : World) : Prop := ∃ a c, e = .returned (.tuple #[.slice a (agaL m j).length c, .int .i64 (askW m [j])]) ∧ Ints w' a c (agaL m j) ∧ Ext w w'
section
variable {a a2 : Option Addr} {cap cap2 : Nat} {m : List (List Int)} {mates : List (List Bool)} {j ja jb : Int} {w : World}
theorem prog_Agv (h : Rows w a cap m) (hj : -9223372036854775808 ≤ j ∧ j ≤ 9223372036854775807) : Calls Tryz.prog 9 #[.slice a m.length cap, .int .i64 j] w (AgvP m j w) := by
  refine (findings_Against a cap m j w h hj).mono fun e w' hh => ?_
  obtain ⟨h1, h2, hx⟩ := hh
  unfold AgvP agaL
  by_cases hE : askW m [j] = 0
  · obtain ⟨v, he, hv⟩ := h2 hE
    obtain ⟨hr, hj1, hj2⟩ := askW_ok hE
    have hj1' : 0 ≤ j := hj1
    have hj2' : j < ((m.headD []).length : Int) := hj2
    obtain ⟨k, rfl⟩ : ∃ k : Nat, j = (k : Int) := ⟨j.toNat, by omega⟩
    obtain ⟨av, cv, e1, hI, _⟩ := owsW_ints hv (fun x hx => by have := above_bd hr (j := (k : Int).toNat) (by omega) x hx; omega)
    rw [if_pos hE, hE]
    exact ⟨av, cv, by rw [he, e1], hI, hx⟩
  · rw [if_neg hE]
    exact ⟨none, 0, h1 hE, ⟨by simp, by omega, fun _ => rfl, fun A hA => by cases hA⟩, hx⟩
theorem ref_Agv (h : Rows w a cap m) : Calls Tryz.prog 10 #[.slice a m.length cap, .int .i64 j] w (AgvP m j w) := by
  unfold AgvP agaL
  by_cases hE : askW m [j] = 0
  · obtain ⟨hr, hj1, hj2⟩ := askW_ok hE
    have hj1' : 0 ≤ j := hj1
    have hj2' : j < ((m.headD []).length : Int) := hj2
    obtain ⟨k, rfl⟩ : ∃ k : Nat, j = (k : Int) := ⟨j.toNat, by omega⟩
    refine (ref42_Against_ok a cap m k w h hE).mono fun e w' hh => ?_
    obtain ⟨v, he, hv, hx⟩ := hh
    obtain ⟨gv, cv, e1, hI, _⟩ := hv.look (fun x hx => by have := above_bd hr (j := k) (by omega) x hx; omega)
    rw [if_pos hE, hE]
    exact ⟨_, cv, by rw [he, e1]; rfl, hI, hx⟩
  · refine (ref42_Against_err a cap m j w h hE).mono fun e w' hh => ?_
    rw [if_neg hE]
    exact ⟨none, 0, hh.1, ⟨by simp, by omega, fun _ => rfl, fun A hA => by cases hA⟩, hh.2⟩
theorem err_small {m : List (List Int)} {js : List Int} (h : askW m js = 0) : m.length ≤ 64 := (askW_ok h).1.le
theorem few20 {m : List (List Int)} (hf : fewN m.length) (h : askW m [j] = 0) : m.length ≤ 20 := by
  have := err_small h
  unfold fewN at hf
  omega
theorem prog_Fav (h : Rows w a cap m) (h2 : BRows w a2 cap2 mates) (hj : -9223372036854775808 ≤ j ∧ j ≤ 9223372036854775807) (hf : fewN m.length) : Calls Tryz.prog 11 #[.slice a m.length cap, .slice a2 mates.length cap2, .int .i64 j] w (RvP (favE m mates j) (favQ m mates j.toNat) w) := by
  unfold favE
  by_cases hE : askW m [j] = 0
  · rw [if_neg (by simpa using hE)]
    by_cases hl : mates.length = m.length
    · rw [if_neg (by simpa using hl)]
      cases hm : mates.any (mateB (m.headD []).length)
      · exact (findings_Favour_ok a a2 cap cap2 m mates j w h h2 hj hE hl hm (.inl (few20 hf hE))).mono fun _ _ k => .ok k
      · exact (findings_Favour_row a a2 cap cap2 m mates j w h h2 hj hE hl hm).mono fun _ _ k => .err (by decide) k
    · rw [if_pos hl]
      exact (findings_Favour_len a a2 cap cap2 m mates j w h h2 hj hE hl).mono fun _ _ k => .err (by decide) k
  · rw [if_pos hE]
    exact (findings_Favour_ask a a2 cap cap2 m mates j w h h2 hj hE).mono fun _ _ k => .err hE k
theorem ref_Fav (h : Rows w a cap m) (h2 : BRows w a2 cap2 mates) (hf : fewN m.length) : Calls Tryz.prog 12 #[.slice a m.length cap, .slice a2 mates.length cap2, .int .i64 j] w (RvP (favE m mates j) (favQ m mates j.toNat) w) := by
  unfold favE
  by_cases hE : askW m [j] = 0
  · rw [if_neg (by simpa using hE)]
    by_cases hl : mates.length = m.length
    · rw [if_neg (by simpa using hl)]
      refine (ref42_Favour_in a a2 cap cap2 m mates j w h h2 hE hl (few20 hf hE)).mono fun _ _ k => ?_
      rcases k with ⟨k1, k2⟩ | ⟨k1, k2⟩
      · rw [if_pos k1]; exact .err (by decide) k2
      · rw [k1]; exact .ok k2
    · rw [if_pos hl]
      exact (ref42_Favour_len a a2 cap cap2 m mates j w h h2 hE hl).mono fun _ _ k => .err (by decide) k
  · rw [if_pos hE]
    exact (ref42_Favour_ask a a2 cap cap2 m mates j w h h2 hE).mono fun _ _ k => .err hE k
theorem prog_Agr (h : Rows w a cap m) (hja : -9223372036854775808 ≤ ja ∧ ja ≤ 9223372036854775807) (hjb : -9223372036854775808 ≤ jb ∧ jb ≤ 9223372036854775807) : Calls Tryz.prog 13 #[.slice a m.length cap, .int .i64 ja, .int .i64 jb] w (RvP (agrE m ja jb) (agrQ m ja.toNat jb.toNat) w) := by
  unfold agrE
  by_cases hE : askW m [ja, jb] = 0
  · rw [if_neg (by simpa using hE)]
    by_cases hab : ja = jb
    · rw [if_pos hab]
      exact (findings_Agree_same a cap m ja jb w h hja hjb hE hab).mono fun _ _ k => .err (by decide) k
    · rw [if_neg hab]
      by_cases h8 : 8 < m.length
      · rw [if_pos h8]
        exact (findings_Agree_lim a cap m ja jb w h hja hjb hE hab h8).mono fun _ _ k => .err (by decide) k
      · rw [if_neg h8]
        exact (findings_Agree_ok a cap m ja jb w h hja hjb hE hab h8).mono fun _ _ k => .ok k
  · rw [if_pos hE]
    exact (findings_Agree_ask a cap m ja jb w h hja hjb hE).mono fun _ _ k => .err hE k
theorem ref_Agr (h : Rows w a cap m) : Calls Tryz.prog 14 #[.slice a m.length cap, .int .i64 ja, .int .i64 jb] w (RvP (agrE m ja jb) (agrQ m ja.toNat jb.toNat) w) := by
  unfold agrE
  by_cases hA : askW m [ja] = 0
  · by_cases hB : askW m [jb] = 0
    · rw [if_neg (by rw [askW_two_c hA hB]; simp)]
      by_cases hab : ja = jb
      · rw [if_pos hab]
        exact (ref42_Agree_same a cap m ja jb w h hA hB hab).mono fun _ _ k => .err (by decide) k
      · rw [if_neg hab]
        by_cases h8 : 8 < m.length
        · rw [if_pos h8]
          exact (ref42_Agree_lim a cap m ja jb w h hA hB hab h8).mono fun _ _ k => .err (by decide) k
        · rw [if_neg h8]
          exact (ref42_Agree_ok a cap m ja jb w h hA hB hab h8).mono fun _ _ k => .ok k
    · rw [askW_two_b hA hB, if_pos hB]
      exact (ref42_Agree_b a cap m ja jb w h hA hB).mono fun _ _ k => .err hB k
  · rw [askW_two_a hA, if_pos hA]
    exact (ref42_Agree_a a cap m ja jb w h hA).mono fun _ _ k => .err hA k
theorem prog_Dri (h : Rows w a cap m) (hj : -9223372036854775808 ≤ j ∧ j ≤ 9223372036854775807) : Calls Tryz.prog 15 #[.slice a m.length cap, .int .i64 j] w (RvP (driE m j) (driQ m j.toNat) w) := by
  unfold driE
  by_cases hE : askW m [j] = 0
  · rw [if_neg (by simpa using hE)]
    by_cases h8 : 8 < m.length
    · rw [if_pos h8]
      exact (findings_Drift_lim a cap m j w h hj hE h8).mono fun _ _ k => .err (by decide) k
    · rw [if_neg h8]
      exact (findings_Drift_ok a cap m j w h hj hE h8).mono fun _ _ k => .ok k
  · rw [if_pos hE]
    exact (findings_Drift_ask a cap m j w h hj hE).mono fun _ _ k => .err hE k
theorem ref_Dri (h : Rows w a cap m) : Calls Tryz.prog 16 #[.slice a m.length cap, .int .i64 j] w (RvP (driE m j) (driQ m j.toNat) w) := by
  unfold driE
  by_cases hE : askW m [j] = 0
  · rw [if_neg (by simpa using hE)]
    by_cases h8 : 8 < m.length
    · rw [if_pos h8]
      exact (ref42_Drift_lim a cap m j w h hE h8).mono fun _ _ k => .err (by decide) k
    · rw [if_neg h8]
      exact (ref42_Drift_ok a cap m j w h hE h8).mono fun _ _ k => .ok k
  · rw [if_pos hE]
    exact (ref42_Drift_ask a cap m j w h hE).mono fun _ _ k => .err hE k
end
set_option maxHeartbeats 16000000 in
theorem law_FSpec (a : Option Addr) (cap : Nat) (m : List (List Int)) (a2 : Option Addr) (cap2 : Nat) (mates : List (List Bool)) (ja jb : Int) (w : World) (h : Rows w a cap m) (h2 : BRows w a2 cap2 mates) (hja : -9223372036854775808 ≤ ja ∧ ja ≤ 9223372036854775807) (hjb : -9223372036854775808 ≤ jb ∧ jb ≤ 9223372036854775807) :
    Calls Tryz.prog 3 #[.slice a m.length cap, .slice a2 mates.length cap2, .int .i64 ja, .int .i64 jb] w fun e w' => e = .returned (.bool true) ∧ Ext w w' := by
  have hle := h.le
  have hmx := h.mx
  have hle2 := h2.le
  have hmx2 := h2.mx
  have HF1 := Lib.hid (fun W (hW : Ext w W) => ref42_Few a cap m W (h.ext hW))
  have HF2 := Lib.hid (fun W (hW : Ext w W) => ref42_FewMates a2 cap2 mates W (h2.ext hW))
  have HV1 := Lib.hid (fun W (hW : Ext w W) => prog_Agv (h.ext hW) hja)
  have HV2 := Lib.hid (fun W (hW : Ext w W) => ref_Agv (j := ja) (h.ext hW))
  have HP := Lib.hid (fun W (hW : Ext w W) (hf : fewN m.length) => prog_Fav (h.ext hW) (h2.ext hW) hja hf)
  have HQ := Lib.hid (fun W (hW : Ext w W) (hf : fewN m.length) => ref_Fav (j := ja) (h.ext hW) (h2.ext hW) hf)
  have HR := Lib.hid (fun W (hW : Ext w W) => prog_Agr (h.ext hW) hja hjb)
  have HS := Lib.hid (fun W (hW : Ext w W) => ref_Agr (ja := ja) (jb := jb) (h.ext hW))
  have HT := Lib.hid (fun W (hW : Ext w W) => prog_Dri (h.ext hW) hja)
  have HU := Lib.hid (fun W (hW : Ext w W) => ref_Dri (j := ja) (h.ext hW))
  unfold AgvP at HV1 HV2
  unfold RvP at HP HQ HR HS HT HU
  generalize agaL m ja = L at *
  generalize askW m [ja] = E1 at *
  generalize favE m mates ja = E2 at *
  generalize agrE m ja jb = E3 at *
  generalize driE m ja = E4 at *
  generalize favQ m mates ja.toNat = Q2 at *
  generalize agrQ m ja.toNat jb.toNat = Q3 at *
  generalize driQ m ja.toNat = Q4 at *
  generalize mates.length = ml at *
  clear h h2 hja hjb
  have hx : Ext w w := Ext.refl w
  go_enter Tryz.func3, Tryz.ntmps3
  go_upto_region 1 with fail
  have hs0 := hx.size
  go_wp2_with fail
  with_reducible refine (law42_sane _).mono ?_
  rintro e x1 ⟨rfl, hy⟩
  replace hx := hx.trans hy
  clear hy
  go_wp2_with fail
  with_reducible refine (HF1.out _ hx).mono ?_
  rintro e xa ⟨⟨b, rfl, hb⟩, rfl⟩
  cases b
  · go_wp2_with fail
    go_ret
    exact ⟨rfl, hx⟩
  have hf := hb rfl
  clear hb
  go_wp2_with fail
  with_reducible refine (HF2.out _ hx).mono ?_
  rintro e xb ⟨⟨b, rfl⟩, rfl⟩
  cases b
  · go_wp2_with fail
    go_ret
    exact ⟨rfl, hx⟩
  go_wp2_with fail
  with_reducible refine (HV1.out _ hx).mono ?_
  rintro e x2 ⟨ac, cc, rfl, hI, hy⟩
  replace hx := hx.trans hy
  clear hy
  have V1 := Lib.hid hI
  clear hI
  go_wp2_with fail
  with_reducible refine (HV2.out _ hx).mono ?_
  rintro e x3 ⟨ad, cd, rfl, hI, hy⟩
  replace hx := hx.trans hy
  replace V1 := Lib.hid (V1.out.ext hy)
  clear hy
  have V2 := Lib.hid hI
  have vle := V1.out.le
  have vmx := V1.out.mx
  have ule := hI.le
  have umx := hI.mx
  clear hI HV1 HV2
  have t1 : (E1 != E1) = false := by simp
  have t2 : ((L.length : Int) != (L.length : Int)) = false := by simp
  go_wp2_with fail
  clear t1 t2
  have HX := Lib.hid hx
  clear hx
  go_loopw [60] (fun i wr => ∃ k : Nat, k ≤ L.length ∧ i = .int .i64 k ∧ Ext x3 wr) (fun i _ => L.length - (intOf i).toNat)
  case atStart => exact ⟨0, Nat.zero_le _, rfl, Ext.refl _⟩
  case round =>
    obtain ⟨k, hk, rfl, hxr⟩ := hrel
    generalize wr = wA at *
    have g1 : (0 : Int) ≤ (k : Int) := by omega
    by_cases hkn : k < L.length
    · obtain ⟨b1, o1, rfl⟩ := V1.out.head hkn
      obtain ⟨b2, o2, rfl⟩ := V2.out.head hkn
      obtain ⟨x, hx1, hc1, -, -⟩ := Ints.get (V1.out.ext hxr) hkn
      obtain ⟨y, hy1, hc2, -, -⟩ := Ints.get (V2.out.ext hxr) hkn
      obtain rfl : x = y := by rw [hx1] at hy1; cases hy1; rfl
      have g2 : (k : Int) < (L.length : Int) := by omega
      have t3 : (x != x) = false := by simp
      have HXR := Lib.hid hxr
      clear hx1 hy1 hxr
      go_upto_region 12 with fail
      go_quiet (fail)
      go_wp2_with fail
      go_roundw
      case rel => exact ⟨k + 1, by omega, by go_num, HXR.out.drewN nq⟩
      case measure => simp [intOf]; omega
    · obtain rfl : k = L.length := by omega
      have g2 : ¬ (L.length : Int) < (L.length : Int) := by omega
      have hx := HX.out.trans hxr
      have hs0 := hx.size
      clear V1 V2 hxr
      go_wp2_with fail
      with_reducible refine (HP.out _ hx hf).mono ?_
      rintro e x4 ⟨v, rfl, hv, hy⟩
      replace hx := hx.trans hy
      clear hy
      clear HP
      obtain ⟨np, ap, qp, cp, mp, bp, kp, dp, rfl⟩ := hv.form
      have Rp := Lib.hid hv
      clear hv
      go_upto_region 16 with fail
      have hl := Ext.alloc x4 (.cells #[.bool np, .slice ap qp cp, .bool mp, .slice bp kp dp] 34)
      have hpp : w.heap.size ≤ x4.heap.size := hx.size
      replace hx := hx.trans hl
      replace Rp := Lib.hid (Rp.out.ext hl)
      have Kp := Lib.hid (Blk.new0 x4 #[.bool np, .slice ap qp cp, .bool mp, .slice bp kp dp] 34)
      clear hl
      generalize x4.alloc (.cells #[.bool np, .slice ap qp cp, .bool mp, .slice bp kp dp] 34) = x5 at *
      generalize x4.heap.size = pp at *
      obtain ⟨cp0, cp1, cp2, cp3⟩ := bk4 Kp
      go_wp2_with fail
      with_reducible refine (HQ.out _ hx hf).mono ?_
      clear cp0 cp1 cp2 cp3
      rintro e x6 ⟨v, rfl, hv, hy⟩
      replace hx := hx.trans hy
      replace Kp := kE Kp hy
      replace Rp := Lib.hid (Rp.out.ext hy)
      clear hy
      clear HQ
      obtain ⟨nq, aq, qq, cq, mq, bq, kq, dq, rfl⟩ := hv.form
      have Rq := Lib.hid hv
      clear hv
      obtain ⟨cp0, cp1, cp2, cp3⟩ := bk4 Kp
      go_upto_region 17 with fail
      have hl := Ext.alloc x6 (.cells #[.bool nq, .slice aq qq cq, .bool mq, .slice bq kq dq] 34)
      have lpq : pp < x6.heap.size := Kp.out.lt
      have hpq : w.heap.size ≤ x6.heap.size := hx.size
      clear cp0 cp1 cp2 cp3
      replace hx := hx.trans hl
      replace Kp := kE Kp hl
      replace Rp := Lib.hid (Rp.out.ext hl)
      replace Rq := Lib.hid (Rq.out.ext hl)
      have Kq := Lib.hid (Blk.new0 x6 #[.bool nq, .slice aq qq cq, .bool mq, .slice bq kq dq] 34)
      clear hl
      generalize x6.alloc (.cells #[.bool nq, .slice aq qq cq, .bool mq, .slice bq kq dq] 34) = x7 at *
      generalize x6.heap.size = pq at *
      obtain ⟨cp0, cp1, cp2, cp3⟩ := bk4 Kp
      obtain ⟨cq0, cq1, cq2, cq3⟩ := bk4 Kq
      go_wp2_with fail
      with_reducible refine (HR.out _ hx).mono ?_
      clear cp0 cp1 cp2 cp3 cq0 cq1 cq2 cq3
      rintro e x8 ⟨v, rfl, hv, hy⟩
      replace hx := hx.trans hy
      replace Kp := kE Kp hy
      replace Kq := kE Kq hy
      replace Rp := Lib.hid (Rp.out.ext hy)
      replace Rq := Lib.hid (Rq.out.ext hy)
      clear hy
      clear HR
      obtain ⟨nr, ar, qr, cr, mr, br, kr, dr, rfl⟩ := hv.form
      have Rr := Lib.hid hv
      clear hv
      obtain ⟨cp0, cp1, cp2, cp3⟩ := bk4 Kp
      obtain ⟨cq0, cq1, cq2, cq3⟩ := bk4 Kq
      go_upto_region 18 with fail
      have hl := Ext.alloc x8 (.cells #[.bool nr, .slice ar qr cr, .bool mr, .slice br kr dr] 34)
      have lpr : pp < x8.heap.size := Kp.out.lt
      have lqr : pq < x8.heap.size := Kq.out.lt
      have hpr : w.heap.size ≤ x8.heap.size := hx.size
      clear cp0 cp1 cp2 cp3 cq0 cq1 cq2 cq3
      replace hx := hx.trans hl
      replace Kp := kE Kp hl
      replace Kq := kE Kq hl
      replace Rp := Lib.hid (Rp.out.ext hl)
      replace Rq := Lib.hid (Rq.out.ext hl)
      replace Rr := Lib.hid (Rr.out.ext hl)
      have Kr := Lib.hid (Blk.new0 x8 #[.bool nr, .slice ar qr cr, .bool mr, .slice br kr dr] 34)
      clear hl
      generalize x8.alloc (.cells #[.bool nr, .slice ar qr cr, .bool mr, .slice br kr dr] 34) = x9 at *
      generalize x8.heap.size = pr at *
      obtain ⟨cp0, cp1, cp2, cp3⟩ := bk4 Kp
      obtain ⟨cq0, cq1, cq2, cq3⟩ := bk4 Kq
      obtain ⟨cr0, cr1, cr2, cr3⟩ := bk4 Kr
      go_wp2_with fail
      with_reducible refine (HS.out _ hx).mono ?_
      clear cp0 cp1 cp2 cp3 cq0 cq1 cq2 cq3 cr0 cr1 cr2 cr3
      rintro e x10 ⟨v, rfl, hv, hy⟩
      replace hx := hx.trans hy
      replace Kp := kE Kp hy
      replace Kq := kE Kq hy
      replace Kr := kE Kr hy
      replace Rp := Lib.hid (Rp.out.ext hy)
      replace Rq := Lib.hid (Rq.out.ext hy)
      replace Rr := Lib.hid (Rr.out.ext hy)
      clear hy
      clear HS
      obtain ⟨nx, ax, qx, cx, mx, bx, kx, dx, rfl⟩ := hv.form
      have Rx := Lib.hid hv
      clear hv
      obtain ⟨cp0, cp1, cp2, cp3⟩ := bk4 Kp
      obtain ⟨cq0, cq1, cq2, cq3⟩ := bk4 Kq
      obtain ⟨cr0, cr1, cr2, cr3⟩ := bk4 Kr
      go_upto_region 19 with fail
      have hl := Ext.alloc x10 (.cells #[.bool nx, .slice ax qx cx, .bool mx, .slice bx kx dx] 34)
      have lpx : pp < x10.heap.size := Kp.out.lt
      have lqx : pq < x10.heap.size := Kq.out.lt
      have lrx : pr < x10.heap.size := Kr.out.lt
      have hpx : w.heap.size ≤ x10.heap.size := hx.size
      clear cp0 cp1 cp2 cp3 cq0 cq1 cq2 cq3 cr0 cr1 cr2 cr3
      replace hx := hx.trans hl
      replace Kp := kE Kp hl
      replace Kq := kE Kq hl
      replace Kr := kE Kr hl
      replace Rp := Lib.hid (Rp.out.ext hl)
      replace Rq := Lib.hid (Rq.out.ext hl)
      replace Rr := Lib.hid (Rr.out.ext hl)
      replace Rx := Lib.hid (Rx.out.ext hl)
      have Kx := Lib.hid (Blk.new0 x10 #[.bool nx, .slice ax qx cx, .bool mx, .slice bx kx dx] 34)
      clear hl
      generalize x10.alloc (.cells #[.bool nx, .slice ax qx cx, .bool mx, .slice bx kx dx] 34) = x11 at *
      generalize x10.heap.size = px at *
      obtain ⟨cp0, cp1, cp2, cp3⟩ := bk4 Kp
      obtain ⟨cq0, cq1, cq2, cq3⟩ := bk4 Kq
      obtain ⟨cr0, cr1, cr2, cr3⟩ := bk4 Kr
      obtain ⟨cx0, cx1, cx2, cx3⟩ := bk4 Kx
      go_wp2_with fail
      with_reducible refine (HT.out _ hx).mono ?_
      clear cp0 cp1 cp2 cp3 cq0 cq1 cq2 cq3 cr0 cr1 cr2 cr3 cx0 cx1 cx2 cx3
      rintro e x12 ⟨v, rfl, hv, hy⟩
      replace hx := hx.trans hy
      replace Kp := kE Kp hy
      replace Kq := kE Kq hy
      replace Kr := kE Kr hy
      replace Kx := kE Kx hy
      replace Rp := Lib.hid (Rp.out.ext hy)
      replace Rq := Lib.hid (Rq.out.ext hy)
      replace Rr := Lib.hid (Rr.out.ext hy)
      replace Rx := Lib.hid (Rx.out.ext hy)
      clear hy
      clear HT
      obtain ⟨nf, af, qf, cf, mf, bf, kf, df, rfl⟩ := hv.form
      have Rf := Lib.hid hv
      clear hv
      obtain ⟨cp0, cp1, cp2, cp3⟩ := bk4 Kp
      obtain ⟨cq0, cq1, cq2, cq3⟩ := bk4 Kq
      obtain ⟨cr0, cr1, cr2, cr3⟩ := bk4 Kr
      obtain ⟨cx0, cx1, cx2, cx3⟩ := bk4 Kx
      go_upto_region 20 with fail
      have hl := Ext.alloc x12 (.cells #[.bool nf, .slice af qf cf, .bool mf, .slice bf kf df] 34)
      have lpf : pp < x12.heap.size := Kp.out.lt
      have lqf : pq < x12.heap.size := Kq.out.lt
      have lrf : pr < x12.heap.size := Kr.out.lt
      have lxf : px < x12.heap.size := Kx.out.lt
      have hpf : w.heap.size ≤ x12.heap.size := hx.size
      clear cp0 cp1 cp2 cp3 cq0 cq1 cq2 cq3 cr0 cr1 cr2 cr3 cx0 cx1 cx2 cx3
      replace hx := hx.trans hl
      replace Kp := kE Kp hl
      replace Kq := kE Kq hl
      replace Kr := kE Kr hl
      replace Kx := kE Kx hl
      replace Rp := Lib.hid (Rp.out.ext hl)
      replace Rq := Lib.hid (Rq.out.ext hl)
      replace Rr := Lib.hid (Rr.out.ext hl)
      replace Rx := Lib.hid (Rx.out.ext hl)
      replace Rf := Lib.hid (Rf.out.ext hl)
      have Kf := Lib.hid (Blk.new0 x12 #[.bool nf, .slice af qf cf, .bool mf, .slice bf kf df] 34)
      clear hl
      generalize x12.alloc (.cells #[.bool nf, .slice af qf cf, .bool mf, .slice bf kf df] 34) = x13 at *
      generalize x12.heap.size = pf at *
      obtain ⟨cp0, cp1, cp2, cp3⟩ := bk4 Kp
      obtain ⟨cq0, cq1, cq2, cq3⟩ := bk4 Kq
      obtain ⟨cr0, cr1, cr2, cr3⟩ := bk4 Kr
      obtain ⟨cx0, cx1, cx2, cx3⟩ := bk4 Kx
      obtain ⟨cf0, cf1, cf2, cf3⟩ := bk4 Kf
      go_wp2_with fail
      with_reducible refine (HU.out _ hx).mono ?_
      clear cp0 cp1 cp2 cp3 cq0 cq1 cq2 cq3 cr0 cr1 cr2 cr3 cx0 cx1 cx2 cx3 cf0 cf1 cf2 cf3
      rintro e x14 ⟨v, rfl, hv, hy⟩
      replace hx := hx.trans hy
      replace Kp := kE Kp hy
      replace Kq := kE Kq hy
      replace Kr := kE Kr hy
      replace Kx := kE Kx hy
      replace Kf := kE Kf hy
      replace Rp := Lib.hid (Rp.out.ext hy)
      replace Rq := Lib.hid (Rq.out.ext hy)
      replace Rr := Lib.hid (Rr.out.ext hy)
      replace Rx := Lib.hid (Rx.out.ext hy)
      replace Rf := Lib.hid (Rf.out.ext hy)
      clear hy
      clear HU
      obtain ⟨nz, az, qz, cz, mz, bz, kz, dz, rfl⟩ := hv.form
      have Rz := Lib.hid hv
      clear hv
      obtain ⟨cp0, cp1, cp2, cp3⟩ := bk4 Kp
      obtain ⟨cq0, cq1, cq2, cq3⟩ := bk4 Kq
      obtain ⟨cr0, cr1, cr2, cr3⟩ := bk4 Kr
      obtain ⟨cx0, cx1, cx2, cx3⟩ := bk4 Kx
      obtain ⟨cf0, cf1, cf2, cf3⟩ := bk4 Kf
      go_upto_region 21 with fail
      have hl := Ext.alloc x14 (.cells #[.bool nz, .slice az qz cz, .bool mz, .slice bz kz dz] 34)
      have lpz : pp < x14.heap.size := Kp.out.lt
      have lqz : pq < x14.heap.size := Kq.out.lt
      have lrz : pr < x14.heap.size := Kr.out.lt
      have lxz : px < x14.heap.size := Kx.out.lt
      have lfz : pf < x14.heap.size := Kf.out.lt
      have hpz : w.heap.size ≤ x14.heap.size := hx.size
      clear cp0 cp1 cp2 cp3 cq0 cq1 cq2 cq3 cr0 cr1 cr2 cr3 cx0 cx1 cx2 cx3 cf0 cf1 cf2 cf3
      replace hx := hx.trans hl
      replace Kp := kE Kp hl
      replace Kq := kE Kq hl
      replace Kr := kE Kr hl
      replace Kx := kE Kx hl
      replace Kf := kE Kf hl
      replace Rp := Lib.hid (Rp.out.ext hl)
      replace Rq := Lib.hid (Rq.out.ext hl)
      replace Rr := Lib.hid (Rr.out.ext hl)
      replace Rx := Lib.hid (Rx.out.ext hl)
      replace Rf := Lib.hid (Rf.out.ext hl)
      replace Rz := Lib.hid (Rz.out.ext hl)
      have Kz := Lib.hid (Blk.new0 x14 #[.bool nz, .slice az qz cz, .bool mz, .slice bz kz dz] 34)
      clear hl
      generalize x14.alloc (.cells #[.bool nz, .slice az qz cz, .bool mz, .slice bz kz dz] 34) = x15 at *
      generalize x14.heap.size = pz at *
      have t1 : (E2 == E2) = true := by simp
      have t2 : (E3 == E3) = true := by simp
      have t3 : (E4 == E4) = true := by simp
      obtain ⟨cp0, cp1, cp2, cp3⟩ := bk4 Kp
      obtain ⟨cq0, cq1, cq2, cq3⟩ := bk4 Kq
      obtain ⟨cr0, cr1, cr2, cr3⟩ := bk4 Kr
      obtain ⟨cx0, cx1, cx2, cx3⟩ := bk4 Kx
      obtain ⟨cf0, cf1, cf2, cf3⟩ := bk4 Kf
      obtain ⟨cz0, cz1, cz2, cz3⟩ := bk4 Kz
      go_wp2_with fail
      with_reducible refine (same_rv Rp.out Rq.out).mono ?_
      clear cp0 cp1 cp2 cp3 cq0 cq1 cq2 cq3 cr0 cr1 cr2 cr3 cx0 cx1 cx2 cx3 cf0 cf1 cf2 cf3 cz0 cz1 cz2 cz3
      rintro e x16 ⟨rfl, hy⟩
      replace hx := hx.trans hy
      replace Kp := kE Kp hy
      replace Kq := kE Kq hy
      replace Kr := kE Kr hy
      replace Kx := kE Kx hy
      replace Kf := kE Kf hy
      replace Kz := kE Kz hy
      replace Rp := Lib.hid (Rp.out.ext hy)
      replace Rq := Lib.hid (Rq.out.ext hy)
      replace Rr := Lib.hid (Rr.out.ext hy)
      replace Rx := Lib.hid (Rx.out.ext hy)
      replace Rf := Lib.hid (Rf.out.ext hy)
      replace Rz := Lib.hid (Rz.out.ext hy)
      clear hy
      obtain ⟨cp0, cp1, cp2, cp3⟩ := bk4 Kp
      obtain ⟨cq0, cq1, cq2, cq3⟩ := bk4 Kq
      obtain ⟨cr0, cr1, cr2, cr3⟩ := bk4 Kr
      obtain ⟨cx0, cx1, cx2, cx3⟩ := bk4 Kx
      obtain ⟨cf0, cf1, cf2, cf3⟩ := bk4 Kf
      obtain ⟨cz0, cz1, cz2, cz3⟩ := bk4 Kz
      go_wp2_with fail
      with_reducible refine (same_rv Rr.out Rx.out).mono ?_
      clear cp0 cp1 cp2 cp3 cq0 cq1 cq2 cq3 cr0 cr1 cr2 cr3 cx0 cx1 cx2 cx3 cf0 cf1 cf2 cf3 cz0 cz1 cz2 cz3
      rintro e x17 ⟨rfl, hy⟩
      replace hx := hx.trans hy
      replace Kp := kE Kp hy
      replace Kq := kE Kq hy
      replace Kr := kE Kr hy
      replace Kx := kE Kx hy
      replace Kf := kE Kf hy
      replace Kz := kE Kz hy
      replace Rp := Lib.hid (Rp.out.ext hy)
      replace Rq := Lib.hid (Rq.out.ext hy)
      replace Rr := Lib.hid (Rr.out.ext hy)
      replace Rx := Lib.hid (Rx.out.ext hy)
      replace Rf := Lib.hid (Rf.out.ext hy)
      replace Rz := Lib.hid (Rz.out.ext hy)
      clear hy
      obtain ⟨cp0, cp1, cp2, cp3⟩ := bk4 Kp
      obtain ⟨cq0, cq1, cq2, cq3⟩ := bk4 Kq
      obtain ⟨cr0, cr1, cr2, cr3⟩ := bk4 Kr
      obtain ⟨cx0, cx1, cx2, cx3⟩ := bk4 Kx
      obtain ⟨cf0, cf1, cf2, cf3⟩ := bk4 Kf
      obtain ⟨cz0, cz1, cz2, cz3⟩ := bk4 Kz
      go_wp2_with fail
      with_reducible refine (same_rv Rf.out Rz.out).mono ?_
      clear cp0 cp1 cp2 cp3 cq0 cq1 cq2 cq3 cr0 cr1 cr2 cr3 cx0 cx1 cx2 cx3 cf0 cf1 cf2 cf3 cz0 cz1 cz2 cz3
      rintro e x18 ⟨rfl, hy⟩
      replace hx := hx.trans hy
      replace Kp := kE Kp hy
      replace Kq := kE Kq hy
      replace Kr := kE Kr hy
      replace Kx := kE Kx hy
      replace Kf := kE Kf hy
      replace Kz := kE Kz hy
      replace Rp := Lib.hid (Rp.out.ext hy)
      replace Rq := Lib.hid (Rq.out.ext hy)
      replace Rr := Lib.hid (Rr.out.ext hy)
      replace Rx := Lib.hid (Rx.out.ext hy)
      replace Rf := Lib.hid (Rf.out.ext hy)
      replace Rz := Lib.hid (Rz.out.ext hy)
      clear hy
      go_wp2_with fail
      go_ret
      exact ⟨rfl, hx⟩
end Go.Proofs.YtmcbbhlglccmgaaGreat

