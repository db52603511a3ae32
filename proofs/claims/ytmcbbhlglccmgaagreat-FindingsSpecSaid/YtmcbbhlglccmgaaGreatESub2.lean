import Derived.Test.YtmcbbhlglccmgaaGreatESub1
import Derived.Test.YtmcbbhlglccmgaaGreatNMake2
import Derived.Test.YtmcbbhlglccmgaaGreatEOrders
namespace Go.Proofs.YtmcbbhlglccmgaaGreat
open Go.RowKit Go Go.Maps Go.Shelf
set_option maxRecDepth 100000
set_option linter.unusedSimpArgs false

/-- Two results: the integer z, and no error. -/
def SubP (z : Int) (w : World) (e : Ending) (w' : World) : Prop := ∃ v, e = .returned (.tuple #[v, .int .i64 0]) ∧ BigN w' v z w.heap.size ∧ Ext w w'
/-- The range over a map under way. -/
structure InMap (w wr : World) (b r n : Nat) (D : DataW Unit) (f : Nat × Int → Nat) (done : List (Nat × Int)) (left : Lit → Bool) (cnt : Nat) : Prop where
  rg : wr.ranges Tryz.prog 88 (plainElem Tryz.prog 3) b r n D left cnt
  nd : done.Nodup
  pos : ∀ p ∈ done, 0 < f p
  lf : ∀ p, Wf p → left (klOf p) = (Maps.has D (klOf p) && !decide (p ∈ done))
  lh : ∀ kl, left kl = true → Maps.has D kl = true

theorem wpList_insert_run {P : Program} {w w' : World} {ops : Array Oper} {rest : List Oper} {o : Oper} {a : Act} {Q : Exit → Act → World → Prop} (hg : o.guard = none) {t : TypeId} {m x v : Operand} (hop : o.op = Op.insert t m x v)
    {M X V : Value} (hm : a.eval m = M) (hx : a.eval x = X) (hv : a.eval v = V) (hrun : (Instr.mapUpdate t M X V).run P w = .ok () w') (hK : wpList P ops Q rest (a.put o.dst undef) w') : wpList P ops Q (o :: rest) a w := by
  refine wpList_plain hg fun K' hK' => ?_
  unfold Oper.wp
  simp [execOp, hop, hm, hx, hv, hrun, Result.andThen]
  exact hK' _ _ hK
theorem Blk.other' {w w' : World} {b : Nat} {cs : Array Value} {t : TypeId} {m : Nat} (h : Blk w b cs t) (hg : w.grownBy w' (some m)) (hm : b ≠ m) : Blk w' b cs t := (hg.block b h.lt (fun e => by simp only [Option.some.injEq] at e; exact hm e)).trans h

theorem InMap.alloc {w wr : World} {b r n : Nat} {D : DataW Unit} {f : Nat × Int → Nat} {done : List (Nat × Int)} {left : Lit → Bool} {cnt : Nat} (h : InMap w wr b r n D f done left cnt) (o : Obj) : InMap w (wr.alloc o) b r n D f done left cnt :=
  ⟨h.rg.alloc o, h.nd, h.pos, h.lf, h.lh⟩
theorem InMap.drew {w wr : World} {b r n : Nat} {D : DataW Unit} {f : Nat × Int → Nat} {done : List (Nat × Int)} {left : Lit → Bool} {cnt : Nat} (h : InMap w wr b r n D f done left cnt) : InMap w wr.drew b r n D f done left cnt :=
  ⟨by have := h.rg; unfold World.ranges at *; exact this, h.nd, h.pos, h.lf, h.lh⟩
theorem InMap.other {w wr wr' : World} {b r n m : Nat} {D : DataW Unit} {f : Nat × Int → Nat} {done : List (Nat × Int)} {left : Lit → Bool} {cnt : Nat} (h : InMap w wr b r n D f done left cnt) (hg : wr.grownBy wr' (some m)) (h1 : b ≠ m) (h2 : r ≠ m) : InMap w wr' b r n D f done left cnt :=
  ⟨h.rg.kept hg (fun e => h1 (by simpa using e)) (fun e => h2 (by simpa using e)), h.nd, h.pos, h.lf, h.lh⟩

set_option maxHeartbeats 4000000 in
theorem exact_Subsets_ok (a : Option Addr) (cap k : Nat) (l : List Int) (sum : Int) (w : World) (h : Ints w a cap l) (hn : l.length ≤ 20) (ho : l.any outB = false) (hk : k ≤ l.length) :
    Calls Tryz.prog 28 #[.slice a l.length cap, .int .i64 k, .int .i64 sum] w (SubP (cs sum k l 0) w) := by
  have hle := h.le
  have hmx := h.mx
  have d0 : (0 : Int) ≤ (k : Int) := by omega
  have d1 : decide ((l.length : Int) ≤ 64) = true := by simp; omega
  have d2 : decide ((k : Int) ≤ (l.length : Int)) = true := by simp; omega
  have d3 : decide (k ≤ l.length) = true := by simp; omega
  have hx : Ext w ((w.alloc (.cells #[.bool false, .slice none 0 0] 32)).alloc (.cells #[.int .i64 0] 28)) := (by repeat (first | with_reducible exact Ext.refl _ | with_reducible assumption | with_reducible refine Ext.drewN ?_ _ | with_reducible refine Ext.drew ?_ | with_reducible refine Ext.alloc' ?_ _ | with_reducible refine Ext.set ?_ (by dsimp only; omega) _))
  have hC := exact_contains a cap l _ (h.ext hx)
  rw [ho] at hC
  have k0 := Lib.hid ((Blk.new0 w #[.bool false, .slice none 0 0] 32).alloc (.cells #[.int .i64 0] 28))
  have k1 := Lib.hid (Blk.new1 w (.cells #[.bool false, .slice none 0 0] 32) #[.int .i64 0] 28)
  have HC := Lib.hid hC
  have HI := Lib.hid h
  have HO := Lib.hid ho
  clear hC h ho
  go_enter_defers Tryz.func28, Tryz.ntmps28
  go_wp2_with fail
  with_reducible refine (exact_need_ok _ _).mono ?_
  rintro e w1 ⟨rfl, rfl⟩
  go_wp2_with fail
  with_reducible refine HC.out.mono ?_
  rintro e w1 ⟨rfl, rfl⟩
  go_wp2_with fail
  with_reducible refine (exact_need_ok _ _).mono ?_
  rintro e w1 ⟨rfl, rfl⟩
  go_upto_region 4 with fail
  generalize (w.alloc (.cells #[.bool false, .slice none 0 0] 32)).alloc (.cells #[.int .i64 0] 28) = w1 at *
  have hmm := @run_makeMap Tryz.prog
  have hz1 : (plainElem (H := Unit) Tryz.prog 3) (.int .i64 1) = some (litN (0 + 1), []) := plainElem_int Tryz.underlying3 (by decide)
  obtain ⟨w3, hup, hown, hgr⟩ := World.ownsMap.update (World.ownsMap_made w1 Tryz.prog 88 (plainElem (H := Unit) Tryz.prog 3)) sub_law Tryz.underlying89 (by unfold maxLen; omega) (keyOf_wf (p := (0, 0)) (by unfold Wf; omega)) hz1
  have hup : (Instr.mapUpdate 89 (.map (some w1.heap.size)) (.agg #[.int .i64 0, .int .i64 0]) (.int .i64 1)).run Tryz.prog (w1.alloc (.map #[] 0)) = .ok () w3 := hup
  have hmc := (MapC.empty.put (p := (0, 0)) (by unfold Wf; omega) 1 (by omega))
  rw [← fI_zero k l hk] at hmc
  have hlt1 := k1.out.lt
  have g1 := World.grownBy_alloc w1 (.map #[] 0) none
  have k0 := Lib.hid ((k0.out.alloc (.map #[] 0)).other' hgr (by omega))
  have k1 := Lib.hid ((k1.out.alloc (.map #[] 0)).other' hgr (by omega))
  have hx : Ext w w3 := Below.grown (hx.alloc' (.map #[] 0)) hgr (by simp; omega) (fun j e => by cases e; omega)
  clear g1 hgr hz1
  have HM := Lib.hid hmc
  clear hmc
  go_wp2_with (refine wpList_insert_run rfl (t := 89) (m := .tmp 35) (x := .tmp 36) (v := .const (.int .i64 1)) rfl rfl rfl rfl hup ?_)
  clear hup hmm
  generalize w1.heap.size = mb at *
  go_loopw [8, 40] (fun c i wr => ∃ (j b n : Nat) (D : DataW Unit), j ≤ l.length ∧ i = .int .i64 j ∧ c = .map (some b) ∧ OM wr b n D ∧ n ≤ 2 * 2 ^ j ∧ MapC D (fI k l j) ∧ Blk wr w.heap.size #[.bool false, .slice none 0 0] 32 ∧ Blk wr (w.heap.size + 1) #[.int .i64 0] 28 ∧ Ext w wr ∧ w.heap.size + 2 ≤ b)
    (fun _ i _ => l.length - (intOf i).toNat)
  case atStart => exact ⟨0, mb, 1, _, Nat.zero_le _, rfl, rfl, hown, by omega, HM.out, k0.out, k1.out, hx, by omega⟩
  case round =>
    clear hown hx
    obtain ⟨j, b, n, D, hj, rfl, rfl, hown, hnb, hmc, hb0, hb1, hxr, hbb⟩ := hrel
    have hpj : (2 : Nat) ^ j ≤ 2 ^ 20 := Nat.pow_le_pow_right (by omega) (by omega)
    have h20 : (2 : Nat) ^ 20 = 1048576 := by decide
    have K0 := Lib.hid hb0
    have K1 := Lib.hid hb1
    have HMC := Lib.hid hmc
    clear k0 k1 hb0 hb1 hmc HM
    by_cases hjn : j < l.length
    · obtain ⟨ba, bo, rfl⟩ := HI.out.head hjn
      have hca := (HI.out.ext hxr).cell hjn
      obtain ⟨x, hx⟩ : ∃ x, l.getD j 0 = x := ⟨_, rfl⟩
      have hxj : l[j] = x := by rw [← hx]; simp [List.getD, hjn]
      rw [hxj] at hca
      have hxb := out_bd HO.out j
      rw [hx] at hxb
      obtain ⟨ca, x1, x2⟩ := hca
      obtain ⟨x3, x4⟩ := hxb
      have HX := Lib.hid hx
      have g1 : (0 : Int) ≤ (j : Int) := by omega
      have g2 : (j : Int) < (l.length : Int) := by omega
      clear hx hxj
      have hmm := @run_makeMap Tryz.prog
      have hbl := hown.lt
      go_wp2_with (first | (at_range; refine wpList_range_own _ rfl _ 89 rfl 88 3 sub_law Tryz.underlying89 _ b n _ rfl (hown.alloc _) ?_; intro w0 hrg0 hg0 hs0))
      have e1 : (wr.alloc (.map #[] 0)).heap.size = wr.heap.size + 1 := by simp
      rw [e1] at hrg0 hs0
      have hown2 : OM w0 wr.heap.size 0 (.map []) := (World.ownsMap_made wr Tryz.prog 88 (plainElem (H := Unit) Tryz.prog 3)).kept hg0 (by simp)
      have K0 := Lib.hid ((K0.out.alloc (.map #[] 0)).grown hg0)
      have K1 := Lib.hid ((K1.out.alloc (.map #[] 0)).grown hg0)
      have hx0 : Ext w w0 := (hxr.alloc' (.map #[] 0)).grown hg0
      have hnbl : w.heap.size + 2 ≤ wr.heap.size := by omega
      have hbne : b ≠ wr.heap.size := by omega
      have hbne2 : b < wr.heap.size := hbl
      have hstart := gD_nil (fI k l j) k (l.length - j) x
      have HST := Lib.hid hstart
      clear hstart hmm e1 hg0 hs0 hown hxr ca
      generalize wr.heap.size = nb at *
      go_loopw [13] (fun _ wq => ∃ (left : Lit → Bool) (cnt : Nat) (done : List (Nat × Int)) (D2 : DataW Unit) (n2 : Nat), InMap w wq b (nb + 1) n D (fI k l j) done left cnt ∧ OM wq nb n2 D2 ∧ n2 ≤ 2 * done.length ∧ MapC D2 (gD (fI k l j) k (l.length - j) x done) ∧
          Blk wq w.heap.size #[.bool false, .slice none 0 0] 32 ∧ Blk wq (w.heap.size + 1) #[.int .i64 0] 28 ∧ Ext w wq)
        (fun _ wq => wq.rangeLeft b (nb + 1))
      case atStart => exact ⟨_, _, [], .map [], 0, ⟨hrg0, List.nodup_nil, by simp, fun p _ => by simp, fun kl h => h⟩, hown2, by simp, by rw [HST.out]; exact MapC.empty, K0.out, K1.out, hx0⟩
      case round =>
        clear hrg0 hown2 K0 K1 hx0 HST
        obtain ⟨left, cnt, done, D2, n2, hIM, hom, hn2, hmc2, hb0, hb1, hxq⟩ := hrel
        have K0 := Lib.hid hb0
        have K1 := Lib.hid hb1
        have HM2 := Lib.hid hmc2
        have hdl := done_le hIM.nd hIM.pos
        clear hb0 hb1 hmc2
        have hrg := hIM.rg
        have HLE0 := Lib.hid hrg.left_eq
        have HIM := Lib.hid hIM
        clear hIM
        go_wp2_with (first | (at_next; refine wpList_next_ranges _ rfl _ rfl 88 sub_law (plainElem Tryz.prog 3) (fun p : Int × Int => .agg #[.int .i64 p.1, .int .i64 p.2]) (Value.int .i64) (fun key kl hkey => by obtain ⟨m, s, rfl, _⟩ := keyOf_inv hkey; exact ⟨(m, s), rfl⟩) (fun v y hv => by obtain ⟨c, rfl, _⟩ := plainElem_int_inv Tryz.underlying3 hv; exact ⟨c, rfl⟩) b (nb + 1) n _ _ _ rfl hrg ?_ ?_))
        · intro hc0 hl0
          have hall : ∀ p, 0 < fI k l j p → p ∈ done := fun p hp => by
            have hwf := fI_wf (out_mem HO.out) (by omega) hp
            have h1 := HIM.out.lf p (by unfold Wf; omega)
            rw [hl0, HMC.out.hask p (by unfold Wf; omega), decide_eq_true hp] at h1
            simpa using h1
          have hfin := gD_all hjn hall
          rw [HX.out] at hfin
          have HM3 := Lib.hid (show MapC D2 (fI k l (j + 1)) by rw [← hfin]; exact HM2.out)
          clear hall hfin hrg
          go_wp2_with fail
          go_roundw
          case rel => exact ⟨j + 1, nb, n2, D2, by omega, by go_num, rfl, hom, by rw [Nat.pow_succ]; omega, HM3.out, K0.out, K1.out, hxq, hnbl⟩
          case measure => simp [intOf]; omega
        · intro x1 x2 c kl y1 y2 w1 cnt1 hkl hlk hR hat hrg1 hlt hg1 hs1 hen
          obtain ⟨q, hqw, rfl⟩ := HMC.out.only kl (HIM.out.lh kl hlk)
          have hqpos : 0 < fI k l j q := by
            have := HMC.out.hask q hqw
            rw [HIM.out.lh _ hlk] at this
            simpa using this.symm
          have hqd : q ∉ done := by
            have := HIM.out.lf q hqw
            rw [hlk] at this
            simp at this
            exact this.2
          obtain ⟨m0, s0⟩ := q
          have hkk := sub_law.inj hkl (keyOf_wf hqw)
          simp only [kvOf, keyV, Value.agg.injEq, Array.mk.injEq, List.cons.injEq, Value.int.injEq, true_and, and_true] at hkk
          obtain ⟨rfl, rfl⟩ := hkk
          obtain ⟨F, hF⟩ : ∃ F, fI k l j (m0, x2) = F := ⟨_, rfl⟩
          have hcF : c = (F : Int) := by
            obtain ⟨c', e, hy, _⟩ := plainElem_int_inv Tryz.underlying3 hR
            simp only [Value.int.injEq, true_and] at e
            subst e
            have h1 := hat (litN 0)
            simp only [Prod.mk.injEq] at hy
            rw [HMC.out.atk _ hqw, hy.1, hF] at h1
            simpa [litN] using h1.symm
          subst hcF
          have hF20 := fI_le k l j (m0, x2)
          rw [hF] at hqpos hF20
          have hwf := fI_wf (k := k) (l := l) (i := j) (p := (m0, x2)) (out_mem HO.out) (by omega) (by rw [hF]; exact hqpos)
          obtain ⟨hm64, hs1', hs2'⟩ := hwf
          dsimp only at hm64 hs1' hs2'
          have hIM1 : InMap w w1 b (nb + 1) n D (fI k l j) ((m0, x2) :: done) (fun z => left z && !z.sameKey (klOf (m0, x2))) cnt1 := by
            refine ⟨hrg1, List.nodup_cons.2 ⟨hqd, HIM.out.nd⟩, fun p hp => ?_, fun p hp => ?_, fun kl h => HIM.out.lh kl ((Bool.and_eq_true _ _ ▸ h).1)⟩
            · rcases List.mem_cons.1 hp with rfl | hp
              · rw [hF]; exact hqpos
              · exact HIM.out.pos p hp
            · rw [HIM.out.lf p hp]
              by_cases e : p = (m0, x2)
              · subst e
                rw [WideAt.sameKey_self (klOf_key hp)]
                simp
              · rw [sameKey_ne (fun e2 => e (klOf_inj hp hqw e2))]
                simp [e]
          have HIM1 := Lib.hid hIM1
          have HQ := Lib.hid hqd
          have HFF := Lib.hid hF
          have K0 := Lib.hid (K0.out.other' hg1 (by omega))
          have K1 := Lib.hid (K1.out.other' hg1 (by omega))
          have hom := hom.kept hg1 (by simp)
          have hxq : Ext w w1 := Below.grown hxq hg1 hxq.size (fun j e => by cases e; omega)
          have hcD := gD_cons (fI k l j) k (l.length - j) x done (m0, x2) hqd
          rw [hF] at hcD
          have HCD := Lib.hid hcD
          clear hkl hlk hR hat hrg1 hrg hIM1 hqd hF hcD HIM hs1
          have hkb : nb + 1 < w1.heap.size := HIM1.out.rg.lt
          have hlw1 : w.heap.size + 1 < w1.heap.size := K1.out.lt
          have hom := hom.alloc (.cells #[.int .i64 (m0 : Int), .int .i64 x2] 88)
          have K0 := Lib.hid (K0.out.alloc (.cells #[.int .i64 (m0 : Int), .int .i64 x2] 88))
          have K1 := Lib.hid (K1.out.alloc (.cells #[.int .i64 (m0 : Int), .int .i64 x2] 88))
          have KB := Lib.hid (Blk.new0 w1 #[.int .i64 (m0 : Int), .int .i64 x2] 88)
          have hxq := hxq.alloc' (.cells #[.int .i64 (m0 : Int), .int .i64 x2] 88)
          have HIM1 := Lib.hid (HIM1.out.alloc (.cells #[.int .i64 (m0 : Int), .int .i64 x2] 88))
          obtain ⟨G, hG⟩ : ∃ G, gD (fI k l j) k (l.length - j) x done (m0, x2) = G := ⟨_, rfl⟩
          have hGb : G ≤ 2097152 := by
            rw [← hG]
            unfold gD
            have h1 := fI_le k l j (m0, x2)
            have h2 := fI_le k l j (m0 - 1, x2 - x)
            dsimp only
            split <;> split <;> omega
          go_upto_region 12 with fail
          generalize w1.alloc (.cells #[.int .i64 (m0 : Int), .int .i64 x2] 88) = wk at *
          have c0 := KB.out.cell (i := 0) (v := .int .i64 (m0 : Int)) rfl
          have c1 := KB.out.cell (i := 1) (v := .int .i64 x2) rfl
          by_cases hkeep : k < m0 + (l.length - j)
          · have d4 : decide ((k : Int) < (m0 : Int) + (l.length : Int) - (j : Int)) = true := by simp; omega
            obtain ⟨v0, st, wA, wB, D3, l0, l1, l2, l3, gA, zA, o3, m3, gB⟩ := OM.addK (World.ownsMap.drew hom) (by unfold maxLen; omega) HM2.out m0 (m0 : Int) x2 rfl hqw G F hG hqpos (by omega)
            have hS0 : wk.drew.cell? ⟨w1.heap.size, 0, none⟩ = some (.int .i64 (m0 : Int)) ∧ wk.drew.cell? ⟨w1.heap.size, 1, none⟩ = some (.int .i64 x2) := ⟨c0, c1⟩
            have hlk := KB.out.lt
            have hS1 : wA.cell? ⟨w1.heap.size, 0, none⟩ = some (.int .i64 (m0 : Int)) ∧ wA.cell? ⟨w1.heap.size, 1, none⟩ = some (.int .i64 x2) := ⟨(gA.cell_far _ hlk (by simp; omega)).trans c0, (gA.cell_far _ hlk (by simp; omega)).trans c1⟩
            have hS2 : wB.cell? ⟨w1.heap.size, 0, none⟩ = some (.int .i64 (m0 : Int)) ∧ wB.cell? ⟨w1.heap.size, 1, none⟩ = some (.int .i64 x2) := ⟨(gB.cell_far _ hlk (by simp; omega)).trans c0, (gB.cell_far _ hlk (by simp; omega)).trans c1⟩
            have hwa : IntKind.i64.wrap ((G : Int) + (F : Int)) = (G : Int) + (F : Int) := IntWalk.i64_in _ (by omega)
            go_upto_region 13 with fail
            refine wp_region_noPanic ?_
            refine of_imp (A := ?A1) ?region1 ?cont1
            case region1 =>
              intro hFin
              refine wp_region_held_drew (S := (fun w' => w'.cell? ⟨w1.heap.size, 0, none⟩ = some (.int .i64 (m0 : Int)) ∧ w'.cell? ⟨w1.heap.size, 1, none⟩ = some (.int .i64 x2))) (by kernel_rfl) ?_ (fun hHeld => ?_)
              · (first | exact hS0 | exact hS1 | exact hS2)
              (try simp only [← List.toArray_replicate, List.size_toArray, List.length_cons, List.length_nil, Nat.reduceAdd, List.replicate_succ, List.replicate_zero])
              refine wpAnyH_take (i := 0) (oi := _) (v := ?_) rfl (by kernel_rfl) (by kernel_rfl) (by kernel_rfl) (fun _ _ _ h => h) (Or.inl ⟨by rfl, ?_⟩) (by assumption) ?_
              rotate_left
              · (intro w hSw; (try dsimp only at hSw); (try go_simp); (try with_reducible rfl))
              (try simp only [Act.put, List.getElem_toArray, List.getElem_cons_succ, List.getElem_cons_zero, List.setIfInBounds_toArray, List.set_cons_zero, List.set_cons_succ])
              refine wpAnyH_take (i := 1) (oi := _) (v := ?_) rfl (by kernel_rfl) (by kernel_rfl) (by kernel_rfl) (fun _ _ _ h => h) (Or.inl ⟨by rfl, ?_⟩) (by assumption) ?_
              rotate_left
              · (intro w hSw; (try dsimp only at hSw); (try go_simp); (try with_reducible rfl))
              (try simp only [Act.put, List.getElem_toArray, List.getElem_cons_succ, List.getElem_cons_zero, List.setIfInBounds_toArray, List.set_cons_zero, List.set_cons_succ])
              refine wpAnyH_take (i := 3) (oi := _) (v := ?_) rfl (by kernel_rfl) (by kernel_rfl) (by kernel_rfl) (fun _ _ _ h => h) (Or.inl ⟨by rfl, ?_⟩) (by assumption) ?_
              rotate_left
              · (intro w hSw; (try dsimp only at hSw); (try go_simp); (try with_reducible rfl))
              (try simp only [Act.put, List.getElem_toArray, List.getElem_cons_succ, List.getElem_cons_zero, List.setIfInBounds_toArray, List.set_cons_zero, List.set_cons_succ])
              refine wpAnyH_ready (rs := [2, 5]) (by kernel_rfl) (by simp) ?_
              refine AllReadyH.cons (o := _) rfl (fun K hK => ?_) ?_
              · go_simp
                refine hK.out _ _ ?_ (fun hHeld2 => ?_)
                · (first | exact hS0 | exact hS1 | exact hS2)
                clear hK K hHeld
                have hHeld := hHeld2
                clear hHeld2
                (try simp only [Act.put, List.getElem_toArray, List.getElem_cons_succ, List.getElem_cons_zero, List.setIfInBounds_toArray, List.set_cons_zero, List.set_cons_succ])
                refine wpAnyH_take (i := 4) (oi := _) (v := ?_) rfl (by kernel_rfl) (by kernel_rfl) (by kernel_rfl) (fun _ _ _ h => h) (Or.inl ⟨by rfl, ?_⟩) (by assumption) ?_
                rotate_left
                · (intro w hSw; (try dsimp only at hSw); (try go_simp); (try with_reducible rfl))
                (try simp only [Act.put, List.getElem_toArray, List.getElem_cons_succ, List.getElem_cons_zero, List.setIfInBounds_toArray, List.set_cons_zero, List.set_cons_succ])
                refine wpAnyH_ready (rs := [5]) (by kernel_rfl) (by simp) ?_
                refine AllReadyH.cons (o := _) rfl (fun K hK => ?_) ?_
                · go_simp
                  refine hK.out _ _ ?_ (fun hHeld2 => ?_)
                  · (first | exact hS0 | exact hS1 | exact hS2)
                  clear hK K hHeld
                  have hHeld := hHeld2
                  clear hHeld2
                  (try simp only [Act.put, List.getElem_toArray, List.getElem_cons_succ, List.getElem_cons_zero, List.setIfInBounds_toArray, List.set_cons_zero, List.set_cons_succ])
                  refine wpAnyH_take (i := 6) (oi := _) (v := ?_) rfl (by kernel_rfl) (by kernel_rfl) (by kernel_rfl) (fun _ _ _ h => h) (Or.inl ⟨by rfl, ?_⟩) (by assumption) ?_
                  rotate_left
                  · (intro w hSw; (try dsimp only at hSw); (try go_simp); (try with_reducible rfl))
                  (try simp only [Act.put, List.getElem_toArray, List.getElem_cons_succ, List.getElem_cons_zero, List.setIfInBounds_toArray, List.set_cons_zero, List.set_cons_succ])
                  refine wpAnyH_ready (rs := [7]) (by kernel_rfl) (by simp) ?_
                  refine AllReadyH.cons (o := _) rfl (fun K hK => ?_) ?_
                  · go_simp
                    refine hK.out _ _ ?_ (fun hHeld2 => ?_)
                    · (first | exact hS0 | exact hS1 | exact hS2)
                    clear hK K hHeld
                    have hHeld := hHeld2
                    clear hHeld2
                    (try simp only [Act.put, List.getElem_toArray, List.getElem_cons_succ, List.getElem_cons_zero, List.setIfInBounds_toArray, List.set_cons_zero, List.set_cons_succ])
                    refine wpAnyH_done (by kernel_rfl) ?_ _
                    exact hFin
                  exact AllReadyH.nil
                exact AllReadyH.nil
              refine AllReadyH.cons (o := _) rfl (fun K hK => ?_) ?_
              · go_simp
                refine hK.out _ _ ?_ (fun hHeld2 => ?_)
                · (first | exact hS0 | exact hS1 | exact hS2)
                clear hK K hHeld
                have hHeld := hHeld2
                clear hHeld2
                (try simp only [Act.put, List.getElem_toArray, List.getElem_cons_succ, List.getElem_cons_zero, List.setIfInBounds_toArray, List.set_cons_zero, List.set_cons_succ])
                refine wpAnyH_take (i := 6) (oi := _) (v := ?_) rfl (by kernel_rfl) (by kernel_rfl) (by kernel_rfl) (fun _ _ _ h => h) (Or.inl ⟨by rfl, ?_⟩) (by assumption) ?_
                rotate_left
                · (intro w hSw; (try dsimp only at hSw); (try go_simp); (try with_reducible rfl))
                (try simp only [Act.put, List.getElem_toArray, List.getElem_cons_succ, List.getElem_cons_zero, List.setIfInBounds_toArray, List.set_cons_zero, List.set_cons_succ])
                refine wpAnyH_ready (rs := [2]) (by kernel_rfl) (by simp) ?_
                refine AllReadyH.cons (o := _) rfl (fun K hK => ?_) ?_
                · go_simp
                  refine hK.out _ _ ?_ (fun hHeld2 => ?_)
                  · (first | exact hS0 | exact hS1 | exact hS2)
                  clear hK K hHeld
                  have hHeld := hHeld2
                  clear hHeld2
                  (try simp only [Act.put, List.getElem_toArray, List.getElem_cons_succ, List.getElem_cons_zero, List.setIfInBounds_toArray, List.set_cons_zero, List.set_cons_succ])
                  refine wpAnyH_take (i := 4) (oi := _) (v := ?_) rfl (by kernel_rfl) (by kernel_rfl) (by kernel_rfl) (fun _ _ _ h => h) (Or.inl ⟨by rfl, ?_⟩) (by assumption) ?_
                  rotate_left
                  · (intro w hSw; (try dsimp only at hSw); (try go_simp); (try with_reducible rfl))
                  (try simp only [Act.put, List.getElem_toArray, List.getElem_cons_succ, List.getElem_cons_zero, List.setIfInBounds_toArray, List.set_cons_zero, List.set_cons_succ])
                  refine wpAnyH_ready (rs := [7]) (by kernel_rfl) (by simp) ?_
                  refine AllReadyH.cons (o := _) rfl (fun K hK => ?_) ?_
                  · go_simp
                    refine hK.out _ _ ?_ (fun hHeld2 => ?_)
                    · (first | exact hS0 | exact hS1 | exact hS2)
                    clear hK K hHeld
                    have hHeld := hHeld2
                    clear hHeld2
                    (try simp only [Act.put, List.getElem_toArray, List.getElem_cons_succ, List.getElem_cons_zero, List.setIfInBounds_toArray, List.set_cons_zero, List.set_cons_succ])
                    refine wpAnyH_done (by kernel_rfl) ?_ _
                    exact hFin
                  exact AllReadyH.nil
                exact AllReadyH.nil
              exact AllReadyH.nil
            refine NoPanic.normal ?_
            have hom := o3
            have K0 := Lib.hid (Blk.other' (Blk.drew K0.out) gB (by omega))
            have K1 := Lib.hid (Blk.other' (Blk.drew K1.out) gB (by omega))
            have KB := Lib.hid (Blk.other' (Blk.drew KB.out) gB (by omega))
            have hxq : Ext w wB := Below.grown hxq.drew gB hxq.size (fun j e => by cases e; omega)
            have HIM1 := Lib.hid (InMap.other HIM1.out.drew gB hbne (by omega))
            have hg1 : MapC D3 (fun p => gD (fI k l j) k (l.length - j) x done p + if p = (m0, x2) ∧ k < m0 + (l.length - j) then F else 0) := by
              have : (fun p => gD (fI k l j) k (l.length - j) x done p + if p = (m0, x2) ∧ k < m0 + (l.length - j) then F else 0) = (fun q => if q = (m0, x2) then G + F else gD (fI k l j) k (l.length - j) x done q) := by
                funext p
                by_cases e : p = (m0, x2)
                · rw [if_pos ⟨e, hkeep⟩, if_pos e, e, hG]
                · rw [if_neg (fun h => e h.1), if_neg e, Nat.add_zero]
              rw [this]; exact m3
            have HM3 := Lib.hid hg1
            have hn3 : n2 + 1 ≤ 2 * done.length + 1 := by omega
            generalize n2 + 1 = n3 at *
            clear c0 c1 d4 l0 l1 l2 l3 gA zA o3 m3 gB hS0 hS1 hS2 hwa hlk hg1 hn2 hG HM2
            obtain ⟨w4, rfl⟩ : ∃ w4, w4 = wB := ⟨_, rfl⟩
            go_upto_region 14 with fail
            have c0 := KB.out.cell (i := 0) (v := .int .i64 (m0 : Int)) rfl
            have c1 := KB.out.cell (i := 1) (v := .int .i64 x2) rfl
            clear hkeep
            by_cases htake : m0 < k
            · have d5 : decide (m0 < k) = true := by simp; omega
              have hqw2 : Wf (m0 + 1, x2 + x) := by unfold Wf; dsimp only; omega
              obtain ⟨G2, hG2⟩ : ∃ G2, gD (fI k l j) k (l.length - j) x done (m0 + 1, x2 + x) = G2 := ⟨_, rfl⟩
              have hG3 : (fun p => gD (fI k l j) k (l.length - j) x done p + if p = (m0, x2) ∧ k < m0 + (l.length - j) then F else 0) (m0 + 1, x2 + x) = G2 := by
                dsimp only
                rw [hG2, if_neg (fun h => by have := h.1; simp only [Prod.mk.injEq] at this; omega), Nat.add_zero]
              have hGb2 : G2 ≤ 2097152 := by
                rw [← hG2]
                unfold gD
                have h1 := fI_le k l j (m0 + 1, x2 + x)
                have h2 := fI_le k l j (m0 + 1 - 1, x2 + x - x)
                dsimp only
                split <;> split <;> omega
              obtain ⟨v0, st, wA, wB, D4, l0, l1, l2, l3, gA, zA, o3, m3, gB⟩ := OM.addK (World.ownsMap.drew hom) (by unfold maxLen; omega) HM3.out (m0 + 1) ((m0 : Int) + 1) (x2 + x) (by simp) hqw2 G2 F hG3 hqpos (by omega)
              have hS0 : w4.drew.cell? ⟨w1.heap.size, 0, none⟩ = some (.int .i64 (m0 : Int)) ∧ w4.drew.cell? ⟨w1.heap.size, 1, none⟩ = some (.int .i64 x2) := ⟨c0, c1⟩
              have hlk := KB.out.lt
              have hS1 : wA.cell? ⟨w1.heap.size, 0, none⟩ = some (.int .i64 (m0 : Int)) ∧ wA.cell? ⟨w1.heap.size, 1, none⟩ = some (.int .i64 x2) := ⟨(gA.cell_far _ hlk (by simp; omega)).trans c0, (gA.cell_far _ hlk (by simp; omega)).trans c1⟩
              have hS2 : wB.cell? ⟨w1.heap.size, 0, none⟩ = some (.int .i64 (m0 : Int)) ∧ wB.cell? ⟨w1.heap.size, 1, none⟩ = some (.int .i64 x2) := ⟨(gB.cell_far _ hlk (by simp; omega)).trans c0, (gB.cell_far _ hlk (by simp; omega)).trans c1⟩
              have hwa : IntKind.i64.wrap ((G2 : Int) + (F : Int)) = (G2 : Int) + (F : Int) := IntWalk.i64_in _ (by omega)
              have hwb : IntKind.i64.wrap ((m0 : Int) + 1) = (m0 : Int) + 1 := IntWalk.i64_in _ (by omega)
              have hwc : IntKind.i64.wrap (x2 + x) = x2 + x := IntWalk.i64_in _ (by omega)
              go_upto_region 15 with fail
              refine wp_region_noPanic ?_
              refine of_imp (A := ?A2) ?region2 ?cont2
              case region2 =>
                intro hFin
                refine wp_region_held_drew (S := (fun w' => w'.cell? ⟨w1.heap.size, 0, none⟩ = some (.int .i64 (m0 : Int)) ∧ w'.cell? ⟨w1.heap.size, 1, none⟩ = some (.int .i64 x2))) (by kernel_rfl) ?_ (fun hHeld => ?_)
                · (first | exact hS0 | exact hS1 | exact hS2)
                (try simp only [← List.toArray_replicate, List.size_toArray, List.length_cons, List.length_nil, Nat.reduceAdd, List.replicate_succ, List.replicate_zero])
                refine wpAnyH_take (i := 0) (oi := _) (v := ?_) rfl (by kernel_rfl) (by kernel_rfl) (by kernel_rfl) (fun _ _ _ h => h) (Or.inl ⟨by rfl, ?_⟩) (by assumption) ?_
                rotate_left
                · (intro w hSw; (try dsimp only at hSw); (try go_simp); (try with_reducible rfl))
                (try simp only [Act.put, List.getElem_toArray, List.getElem_cons_succ, List.getElem_cons_zero, List.setIfInBounds_toArray, List.set_cons_zero, List.set_cons_succ])
                refine wpAnyH_take (i := 1) (oi := _) (v := ?_) rfl (by kernel_rfl) (by kernel_rfl) (by kernel_rfl) (fun _ _ _ h => h) (Or.inl ⟨by rfl, ?_⟩) (by assumption) ?_
                rotate_left
                · (intro w hSw; (try dsimp only at hSw); (try go_simp); (try with_reducible rfl))
                (try simp only [Act.put, List.getElem_toArray, List.getElem_cons_succ, List.getElem_cons_zero, List.setIfInBounds_toArray, List.set_cons_zero, List.set_cons_succ])
                refine wpAnyH_take (i := 2) (oi := _) (v := ?_) rfl (by kernel_rfl) (by kernel_rfl) (by kernel_rfl) (fun _ _ _ h => h) (Or.inl ⟨by rfl, ?_⟩) (by assumption) ?_
                rotate_left
                · (intro w hSw; (try dsimp only at hSw); (try go_simp); (try with_reducible rfl))
                (try simp only [Act.put, List.getElem_toArray, List.getElem_cons_succ, List.getElem_cons_zero, List.setIfInBounds_toArray, List.set_cons_zero, List.set_cons_succ])
                refine wpAnyH_take (i := 3) (oi := _) (v := ?_) rfl (by kernel_rfl) (by kernel_rfl) (by kernel_rfl) (fun _ _ _ h => h) (Or.inl ⟨by rfl, ?_⟩) (by assumption) ?_
                rotate_left
                · (intro w hSw; (try dsimp only at hSw); (try go_simp); (try with_reducible rfl))
                (try simp only [Act.put, List.getElem_toArray, List.getElem_cons_succ, List.getElem_cons_zero, List.setIfInBounds_toArray, List.set_cons_zero, List.set_cons_succ])
                refine wpAnyH_take (i := 4) (oi := _) (v := ?_) rfl (by kernel_rfl) (by kernel_rfl) (by kernel_rfl) (fun _ _ _ h => h) (Or.inl ⟨by rfl, ?_⟩) (by assumption) ?_
                rotate_left
                · (intro w hSw; (try dsimp only at hSw); (try go_simp); (try with_reducible rfl))
                (try simp only [Act.put, List.getElem_toArray, List.getElem_cons_succ, List.getElem_cons_zero, List.setIfInBounds_toArray, List.set_cons_zero, List.set_cons_succ])
                refine wpAnyH_take (i := 5) (oi := _) (v := ?_) rfl (by kernel_rfl) (by kernel_rfl) (by kernel_rfl) (fun _ _ _ h => h) (Or.inl ⟨by rfl, ?_⟩) (by assumption) ?_
                rotate_left
                · (intro w hSw; (try dsimp only at hSw); (try go_simp); (try with_reducible rfl))
                (try simp only [Act.put, List.getElem_toArray, List.getElem_cons_succ, List.getElem_cons_zero, List.setIfInBounds_toArray, List.set_cons_zero, List.set_cons_succ])
                refine wpAnyH_take (i := 6) (oi := _) (v := ?_) rfl (by kernel_rfl) (by kernel_rfl) (by kernel_rfl) (fun _ _ _ h => h) (Or.inl ⟨by rfl, ?_⟩) (by assumption) ?_
                rotate_left
                · (intro w hSw; (try dsimp only at hSw); (try go_simp); (try with_reducible rfl))
                (try simp only [Act.put, List.getElem_toArray, List.getElem_cons_succ, List.getElem_cons_zero, List.setIfInBounds_toArray, List.set_cons_zero, List.set_cons_succ])
                refine wpAnyH_take (i := 7) (oi := _) (v := ?_) rfl (by kernel_rfl) (by kernel_rfl) (by kernel_rfl) (fun _ _ _ h => h) (Or.inl ⟨by rfl, ?_⟩) (by assumption) ?_
                rotate_left
                · (intro w hSw; (try dsimp only at hSw); (try go_simp); (try with_reducible rfl))
                (try simp only [Act.put, List.getElem_toArray, List.getElem_cons_succ, List.getElem_cons_zero, List.setIfInBounds_toArray, List.set_cons_zero, List.set_cons_succ])
                refine wpAnyH_take (i := 8) (oi := _) (v := ?_) rfl (by kernel_rfl) (by kernel_rfl) (by kernel_rfl) (fun _ _ _ h => h) (Or.inl ⟨by rfl, ?_⟩) (by assumption) ?_
                rotate_left
                · (intro w hSw; (try dsimp only at hSw); (try go_simp); (try with_reducible rfl))
                (try simp only [Act.put, List.getElem_toArray, List.getElem_cons_succ, List.getElem_cons_zero, List.setIfInBounds_toArray, List.set_cons_zero, List.set_cons_succ])
                refine wpAnyH_take (i := 10) (oi := _) (v := ?_) rfl (by kernel_rfl) (by kernel_rfl) (by kernel_rfl) (fun _ _ _ h => h) (Or.inl ⟨by rfl, ?_⟩) (by assumption) ?_
                rotate_left
                · (intro w hSw; (try dsimp only at hSw); (try go_simp); (try with_reducible rfl))
                (try simp only [Act.put, List.getElem_toArray, List.getElem_cons_succ, List.getElem_cons_zero, List.setIfInBounds_toArray, List.set_cons_zero, List.set_cons_succ])
                refine wpAnyH_ready (rs := [9, 12]) (by kernel_rfl) (by simp) ?_
                refine AllReadyH.cons (o := _) rfl (fun K hK => ?_) ?_
                · go_simp
                  refine hK.out _ _ ?_ (fun hHeld2 => ?_)
                  · (first | exact hS0 | exact hS1 | exact hS2)
                  clear hK K hHeld
                  have hHeld := hHeld2
                  clear hHeld2
                  (try simp only [Act.put, List.getElem_toArray, List.getElem_cons_succ, List.getElem_cons_zero, List.setIfInBounds_toArray, List.set_cons_zero, List.set_cons_succ])
                  refine wpAnyH_take (i := 11) (oi := _) (v := ?_) rfl (by kernel_rfl) (by kernel_rfl) (by kernel_rfl) (fun _ _ _ h => h) (Or.inl ⟨by rfl, ?_⟩) (by assumption) ?_
                  rotate_left
                  · (intro w hSw; (try dsimp only at hSw); (try go_simp); (try with_reducible rfl))
                  (try simp only [Act.put, List.getElem_toArray, List.getElem_cons_succ, List.getElem_cons_zero, List.setIfInBounds_toArray, List.set_cons_zero, List.set_cons_succ])
                  refine wpAnyH_ready (rs := [12]) (by kernel_rfl) (by simp) ?_
                  refine AllReadyH.cons (o := _) rfl (fun K hK => ?_) ?_
                  · go_simp
                    refine hK.out _ _ ?_ (fun hHeld2 => ?_)
                    · (first | exact hS0 | exact hS1 | exact hS2)
                    clear hK K hHeld
                    have hHeld := hHeld2
                    clear hHeld2
                    (try simp only [Act.put, List.getElem_toArray, List.getElem_cons_succ, List.getElem_cons_zero, List.setIfInBounds_toArray, List.set_cons_zero, List.set_cons_succ])
                    refine wpAnyH_take (i := 13) (oi := _) (v := ?_) rfl (by kernel_rfl) (by kernel_rfl) (by kernel_rfl) (fun _ _ _ h => h) (Or.inl ⟨by rfl, ?_⟩) (by assumption) ?_
                    rotate_left
                    · (intro w hSw; (try dsimp only at hSw); (try go_simp); (try with_reducible rfl))
                    (try simp only [Act.put, List.getElem_toArray, List.getElem_cons_succ, List.getElem_cons_zero, List.setIfInBounds_toArray, List.set_cons_zero, List.set_cons_succ])
                    refine wpAnyH_ready (rs := [14]) (by kernel_rfl) (by simp) ?_
                    refine AllReadyH.cons (o := _) rfl (fun K hK => ?_) ?_
                    · go_simp
                      refine hK.out _ _ ?_ (fun hHeld2 => ?_)
                      · (first | exact hS0 | exact hS1 | exact hS2)
                      clear hK K hHeld
                      have hHeld := hHeld2
                      clear hHeld2
                      (try simp only [Act.put, List.getElem_toArray, List.getElem_cons_succ, List.getElem_cons_zero, List.setIfInBounds_toArray, List.set_cons_zero, List.set_cons_succ])
                      refine wpAnyH_done (by kernel_rfl) ?_ _
                      exact hFin
                    exact AllReadyH.nil
                  exact AllReadyH.nil
                refine AllReadyH.cons (o := _) rfl (fun K hK => ?_) ?_
                · go_simp
                  refine hK.out _ _ ?_ (fun hHeld2 => ?_)
                  · (first | exact hS0 | exact hS1 | exact hS2)
                  clear hK K hHeld
                  have hHeld := hHeld2
                  clear hHeld2
                  (try simp only [Act.put, List.getElem_toArray, List.getElem_cons_succ, List.getElem_cons_zero, List.setIfInBounds_toArray, List.set_cons_zero, List.set_cons_succ])
                  refine wpAnyH_take (i := 13) (oi := _) (v := ?_) rfl (by kernel_rfl) (by kernel_rfl) (by kernel_rfl) (fun _ _ _ h => h) (Or.inl ⟨by rfl, ?_⟩) (by assumption) ?_
                  rotate_left
                  · (intro w hSw; (try dsimp only at hSw); (try go_simp); (try with_reducible rfl))
                  (try simp only [Act.put, List.getElem_toArray, List.getElem_cons_succ, List.getElem_cons_zero, List.setIfInBounds_toArray, List.set_cons_zero, List.set_cons_succ])
                  refine wpAnyH_ready (rs := [9]) (by kernel_rfl) (by simp) ?_
                  refine AllReadyH.cons (o := _) rfl (fun K hK => ?_) ?_
                  · go_simp
                    refine hK.out _ _ ?_ (fun hHeld2 => ?_)
                    · (first | exact hS0 | exact hS1 | exact hS2)
                    clear hK K hHeld
                    have hHeld := hHeld2
                    clear hHeld2
                    (try simp only [Act.put, List.getElem_toArray, List.getElem_cons_succ, List.getElem_cons_zero, List.setIfInBounds_toArray, List.set_cons_zero, List.set_cons_succ])
                    refine wpAnyH_take (i := 11) (oi := _) (v := ?_) rfl (by kernel_rfl) (by kernel_rfl) (by kernel_rfl) (fun _ _ _ h => h) (Or.inl ⟨by rfl, ?_⟩) (by assumption) ?_
                    rotate_left
                    · (intro w hSw; (try dsimp only at hSw); (try go_simp); (try with_reducible rfl))
                    (try simp only [Act.put, List.getElem_toArray, List.getElem_cons_succ, List.getElem_cons_zero, List.setIfInBounds_toArray, List.set_cons_zero, List.set_cons_succ])
                    refine wpAnyH_ready (rs := [14]) (by kernel_rfl) (by simp) ?_
                    refine AllReadyH.cons (o := _) rfl (fun K hK => ?_) ?_
                    · go_simp
                      refine hK.out _ _ ?_ (fun hHeld2 => ?_)
                      · (first | exact hS0 | exact hS1 | exact hS2)
                      clear hK K hHeld
                      have hHeld := hHeld2
                      clear hHeld2
                      (try simp only [Act.put, List.getElem_toArray, List.getElem_cons_succ, List.getElem_cons_zero, List.setIfInBounds_toArray, List.set_cons_zero, List.set_cons_succ])
                      refine wpAnyH_done (by kernel_rfl) ?_ _
                      exact hFin
                    exact AllReadyH.nil
                  exact AllReadyH.nil
                exact AllReadyH.nil
              refine NoPanic.normal ?_
              have hom := o3
              have K0 := Lib.hid (Blk.other' (Blk.drew K0.out) gB (by omega))
              have K1 := Lib.hid (Blk.other' (Blk.drew K1.out) gB (by omega))
              have hxq : Ext w wB := Below.grown hxq.drew gB hxq.size (fun j e => by cases e; omega)
              have HIM1 := Lib.hid (InMap.other HIM1.out.drew gB hbne (by omega))
              have hg2 : MapC D4 (gD (fI k l j) k (l.length - j) x ((m0, x2) :: done)) := by
                have : gD (fI k l j) k (l.length - j) x ((m0, x2) :: done) = (fun q => if q = (m0 + 1, x2 + x) then G2 + F else gD (fI k l j) k (l.length - j) x done q + if q = (m0, x2) ∧ k < m0 + (l.length - j) then F else 0) := by
                  funext p
                  rw [HCD.out]
                  by_cases e : p = (m0 + 1, x2 + x)
                  · rw [if_pos (c := p = (m0 + 1, x2 + x) ∧ _) ⟨e, htake⟩, if_pos e, e, hG2, if_neg (fun h => by have := h.1; simp only [Prod.mk.injEq] at this; omega), Nat.add_zero]
                  · rw [if_neg (c := p = (m0 + 1, x2 + x) ∧ _) (fun h => e h.1), if_neg e, Nat.add_zero]
                rw [this]; exact m3
              have HM4 := Lib.hid hg2
              clear c0 c1 d5 l0 l1 l2 l3 gA zA o3 m3 gB hS0 hS1 hS2 hwa hwb hwc hlk hg2
              go_wp2_with fail
              go_roundw
              case rel => exact ⟨_, cnt1, (m0, x2) :: done, D4, n3 + 1, HIM1.out, hom, by simp only [List.length_cons]; omega, HM4.out, K0.out, K1.out, hxq⟩
              case measure => rw [HIM1.out.rg.left_eq, HLE0.out]; exact hlt
            · have d5 : decide (m0 < k) = false := by simp; omega
              have hg2 : MapC D3 (gD (fI k l j) k (l.length - j) x ((m0, x2) :: done)) := by
                have : gD (fI k l j) k (l.length - j) x ((m0, x2) :: done) = (fun q => gD (fI k l j) k (l.length - j) x done q + if q = (m0, x2) ∧ k < m0 + (l.length - j) then F else 0) := by
                  funext p
                  rw [HCD.out, if_neg (c := p = (m0 + 1, x2 + x) ∧ _) (fun h => htake h.2), Nat.add_zero]
                rw [this]; exact HM3.out
              have HM4 := Lib.hid hg2
              clear hg2
              go_wp2_with fail
              go_roundw
              case rel => exact ⟨_, cnt1, (m0, x2) :: done, D3, n3, HIM1.out, hom, by simp only [List.length_cons]; omega, HM4.out, K0.out, K1.out, hxq⟩
              case measure => rw [HIM1.out.rg.left_eq, HLE0.out]; exact hlt
          · have d4 : decide ((k : Int) < (m0 : Int) + (l.length : Int) - (j : Int)) = false := by simp; omega
            have hg1 : MapC D2 (fun p => gD (fI k l j) k (l.length - j) x done p + if p = (m0, x2) ∧ k < m0 + (l.length - j) then F else 0) := by
              have : (fun p => gD (fI k l j) k (l.length - j) x done p + if p = (m0, x2) ∧ k < m0 + (l.length - j) then F else 0) = gD (fI k l j) k (l.length - j) x done := by
                funext p
                rw [if_neg (fun h => hkeep h.2), Nat.add_zero]
              rw [this]; exact HM2.out
            have HM3 := Lib.hid hg1
            have hn3 : n2 ≤ 2 * done.length + 1 := by omega
            obtain ⟨n3, rfl⟩ : ∃ n3, n3 = n2 := ⟨_, rfl⟩
            obtain ⟨D3, rfl⟩ : ∃ D3, D3 = D2 := ⟨_, rfl⟩
            go_upto_region 14 with fail
            clear c0 c1 d4 hg1 hn2 hG HM2
            obtain ⟨w4, rfl⟩ : ∃ w4, w4 = wk := ⟨_, rfl⟩
            have c0 := KB.out.cell (i := 0) (v := .int .i64 (m0 : Int)) rfl
            have c1 := KB.out.cell (i := 1) (v := .int .i64 x2) rfl
            clear hkeep
            by_cases htake : m0 < k
            · have d5 : decide (m0 < k) = true := by simp; omega
              have hqw2 : Wf (m0 + 1, x2 + x) := by unfold Wf; dsimp only; omega
              obtain ⟨G2, hG2⟩ : ∃ G2, gD (fI k l j) k (l.length - j) x done (m0 + 1, x2 + x) = G2 := ⟨_, rfl⟩
              have hG3 : (fun p => gD (fI k l j) k (l.length - j) x done p + if p = (m0, x2) ∧ k < m0 + (l.length - j) then F else 0) (m0 + 1, x2 + x) = G2 := by
                dsimp only
                rw [hG2, if_neg (fun h => by have := h.1; simp only [Prod.mk.injEq] at this; omega), Nat.add_zero]
              have hGb2 : G2 ≤ 2097152 := by
                rw [← hG2]
                unfold gD
                have h1 := fI_le k l j (m0 + 1, x2 + x)
                have h2 := fI_le k l j (m0 + 1 - 1, x2 + x - x)
                dsimp only
                split <;> split <;> omega
              obtain ⟨v0, st, wA, wB, D4, l0, l1, l2, l3, gA, zA, o3, m3, gB⟩ := OM.addK (World.ownsMap.drew hom) (by unfold maxLen; omega) HM3.out (m0 + 1) ((m0 : Int) + 1) (x2 + x) (by simp) hqw2 G2 F hG3 hqpos (by omega)
              have hS0 : w4.drew.cell? ⟨w1.heap.size, 0, none⟩ = some (.int .i64 (m0 : Int)) ∧ w4.drew.cell? ⟨w1.heap.size, 1, none⟩ = some (.int .i64 x2) := ⟨c0, c1⟩
              have hlk := KB.out.lt
              have hS1 : wA.cell? ⟨w1.heap.size, 0, none⟩ = some (.int .i64 (m0 : Int)) ∧ wA.cell? ⟨w1.heap.size, 1, none⟩ = some (.int .i64 x2) := ⟨(gA.cell_far _ hlk (by simp; omega)).trans c0, (gA.cell_far _ hlk (by simp; omega)).trans c1⟩
              have hS2 : wB.cell? ⟨w1.heap.size, 0, none⟩ = some (.int .i64 (m0 : Int)) ∧ wB.cell? ⟨w1.heap.size, 1, none⟩ = some (.int .i64 x2) := ⟨(gB.cell_far _ hlk (by simp; omega)).trans c0, (gB.cell_far _ hlk (by simp; omega)).trans c1⟩
              have hwa : IntKind.i64.wrap ((G2 : Int) + (F : Int)) = (G2 : Int) + (F : Int) := IntWalk.i64_in _ (by omega)
              have hwb : IntKind.i64.wrap ((m0 : Int) + 1) = (m0 : Int) + 1 := IntWalk.i64_in _ (by omega)
              have hwc : IntKind.i64.wrap (x2 + x) = x2 + x := IntWalk.i64_in _ (by omega)
              go_upto_region 15 with fail
              refine wp_region_noPanic ?_
              refine of_imp (A := ?A3) ?region3 ?cont3
              case region3 =>
                intro hFin
                refine wp_region_held_drew (S := (fun w' => w'.cell? ⟨w1.heap.size, 0, none⟩ = some (.int .i64 (m0 : Int)) ∧ w'.cell? ⟨w1.heap.size, 1, none⟩ = some (.int .i64 x2))) (by kernel_rfl) ?_ (fun hHeld => ?_)
                · (first | exact hS0 | exact hS1 | exact hS2)
                (try simp only [← List.toArray_replicate, List.size_toArray, List.length_cons, List.length_nil, Nat.reduceAdd, List.replicate_succ, List.replicate_zero])
                refine wpAnyH_take (i := 0) (oi := _) (v := ?_) rfl (by kernel_rfl) (by kernel_rfl) (by kernel_rfl) (fun _ _ _ h => h) (Or.inl ⟨by rfl, ?_⟩) (by assumption) ?_
                rotate_left
                · (intro w hSw; (try dsimp only at hSw); (try go_simp); (try with_reducible rfl))
                (try simp only [Act.put, List.getElem_toArray, List.getElem_cons_succ, List.getElem_cons_zero, List.setIfInBounds_toArray, List.set_cons_zero, List.set_cons_succ])
                refine wpAnyH_take (i := 1) (oi := _) (v := ?_) rfl (by kernel_rfl) (by kernel_rfl) (by kernel_rfl) (fun _ _ _ h => h) (Or.inl ⟨by rfl, ?_⟩) (by assumption) ?_
                rotate_left
                · (intro w hSw; (try dsimp only at hSw); (try go_simp); (try with_reducible rfl))
                (try simp only [Act.put, List.getElem_toArray, List.getElem_cons_succ, List.getElem_cons_zero, List.setIfInBounds_toArray, List.set_cons_zero, List.set_cons_succ])
                refine wpAnyH_take (i := 2) (oi := _) (v := ?_) rfl (by kernel_rfl) (by kernel_rfl) (by kernel_rfl) (fun _ _ _ h => h) (Or.inl ⟨by rfl, ?_⟩) (by assumption) ?_
                rotate_left
                · (intro w hSw; (try dsimp only at hSw); (try go_simp); (try with_reducible rfl))
                (try simp only [Act.put, List.getElem_toArray, List.getElem_cons_succ, List.getElem_cons_zero, List.setIfInBounds_toArray, List.set_cons_zero, List.set_cons_succ])
                refine wpAnyH_take (i := 3) (oi := _) (v := ?_) rfl (by kernel_rfl) (by kernel_rfl) (by kernel_rfl) (fun _ _ _ h => h) (Or.inl ⟨by rfl, ?_⟩) (by assumption) ?_
                rotate_left
                · (intro w hSw; (try dsimp only at hSw); (try go_simp); (try with_reducible rfl))
                (try simp only [Act.put, List.getElem_toArray, List.getElem_cons_succ, List.getElem_cons_zero, List.setIfInBounds_toArray, List.set_cons_zero, List.set_cons_succ])
                refine wpAnyH_take (i := 4) (oi := _) (v := ?_) rfl (by kernel_rfl) (by kernel_rfl) (by kernel_rfl) (fun _ _ _ h => h) (Or.inl ⟨by rfl, ?_⟩) (by assumption) ?_
                rotate_left
                · (intro w hSw; (try dsimp only at hSw); (try go_simp); (try with_reducible rfl))
                (try simp only [Act.put, List.getElem_toArray, List.getElem_cons_succ, List.getElem_cons_zero, List.setIfInBounds_toArray, List.set_cons_zero, List.set_cons_succ])
                refine wpAnyH_take (i := 5) (oi := _) (v := ?_) rfl (by kernel_rfl) (by kernel_rfl) (by kernel_rfl) (fun _ _ _ h => h) (Or.inl ⟨by rfl, ?_⟩) (by assumption) ?_
                rotate_left
                · (intro w hSw; (try dsimp only at hSw); (try go_simp); (try with_reducible rfl))
                (try simp only [Act.put, List.getElem_toArray, List.getElem_cons_succ, List.getElem_cons_zero, List.setIfInBounds_toArray, List.set_cons_zero, List.set_cons_succ])
                refine wpAnyH_take (i := 6) (oi := _) (v := ?_) rfl (by kernel_rfl) (by kernel_rfl) (by kernel_rfl) (fun _ _ _ h => h) (Or.inl ⟨by rfl, ?_⟩) (by assumption) ?_
                rotate_left
                · (intro w hSw; (try dsimp only at hSw); (try go_simp); (try with_reducible rfl))
                (try simp only [Act.put, List.getElem_toArray, List.getElem_cons_succ, List.getElem_cons_zero, List.setIfInBounds_toArray, List.set_cons_zero, List.set_cons_succ])
                refine wpAnyH_take (i := 7) (oi := _) (v := ?_) rfl (by kernel_rfl) (by kernel_rfl) (by kernel_rfl) (fun _ _ _ h => h) (Or.inl ⟨by rfl, ?_⟩) (by assumption) ?_
                rotate_left
                · (intro w hSw; (try dsimp only at hSw); (try go_simp); (try with_reducible rfl))
                (try simp only [Act.put, List.getElem_toArray, List.getElem_cons_succ, List.getElem_cons_zero, List.setIfInBounds_toArray, List.set_cons_zero, List.set_cons_succ])
                refine wpAnyH_take (i := 8) (oi := _) (v := ?_) rfl (by kernel_rfl) (by kernel_rfl) (by kernel_rfl) (fun _ _ _ h => h) (Or.inl ⟨by rfl, ?_⟩) (by assumption) ?_
                rotate_left
                · (intro w hSw; (try dsimp only at hSw); (try go_simp); (try with_reducible rfl))
                (try simp only [Act.put, List.getElem_toArray, List.getElem_cons_succ, List.getElem_cons_zero, List.setIfInBounds_toArray, List.set_cons_zero, List.set_cons_succ])
                refine wpAnyH_take (i := 10) (oi := _) (v := ?_) rfl (by kernel_rfl) (by kernel_rfl) (by kernel_rfl) (fun _ _ _ h => h) (Or.inl ⟨by rfl, ?_⟩) (by assumption) ?_
                rotate_left
                · (intro w hSw; (try dsimp only at hSw); (try go_simp); (try with_reducible rfl))
                (try simp only [Act.put, List.getElem_toArray, List.getElem_cons_succ, List.getElem_cons_zero, List.setIfInBounds_toArray, List.set_cons_zero, List.set_cons_succ])
                refine wpAnyH_ready (rs := [9, 12]) (by kernel_rfl) (by simp) ?_
                refine AllReadyH.cons (o := _) rfl (fun K hK => ?_) ?_
                · go_simp
                  refine hK.out _ _ ?_ (fun hHeld2 => ?_)
                  · (first | exact hS0 | exact hS1 | exact hS2)
                  clear hK K hHeld
                  have hHeld := hHeld2
                  clear hHeld2
                  (try simp only [Act.put, List.getElem_toArray, List.getElem_cons_succ, List.getElem_cons_zero, List.setIfInBounds_toArray, List.set_cons_zero, List.set_cons_succ])
                  refine wpAnyH_take (i := 11) (oi := _) (v := ?_) rfl (by kernel_rfl) (by kernel_rfl) (by kernel_rfl) (fun _ _ _ h => h) (Or.inl ⟨by rfl, ?_⟩) (by assumption) ?_
                  rotate_left
                  · (intro w hSw; (try dsimp only at hSw); (try go_simp); (try with_reducible rfl))
                  (try simp only [Act.put, List.getElem_toArray, List.getElem_cons_succ, List.getElem_cons_zero, List.setIfInBounds_toArray, List.set_cons_zero, List.set_cons_succ])
                  refine wpAnyH_ready (rs := [12]) (by kernel_rfl) (by simp) ?_
                  refine AllReadyH.cons (o := _) rfl (fun K hK => ?_) ?_
                  · go_simp
                    refine hK.out _ _ ?_ (fun hHeld2 => ?_)
                    · (first | exact hS0 | exact hS1 | exact hS2)
                    clear hK K hHeld
                    have hHeld := hHeld2
                    clear hHeld2
                    (try simp only [Act.put, List.getElem_toArray, List.getElem_cons_succ, List.getElem_cons_zero, List.setIfInBounds_toArray, List.set_cons_zero, List.set_cons_succ])
                    refine wpAnyH_take (i := 13) (oi := _) (v := ?_) rfl (by kernel_rfl) (by kernel_rfl) (by kernel_rfl) (fun _ _ _ h => h) (Or.inl ⟨by rfl, ?_⟩) (by assumption) ?_
                    rotate_left
                    · (intro w hSw; (try dsimp only at hSw); (try go_simp); (try with_reducible rfl))
                    (try simp only [Act.put, List.getElem_toArray, List.getElem_cons_succ, List.getElem_cons_zero, List.setIfInBounds_toArray, List.set_cons_zero, List.set_cons_succ])
                    refine wpAnyH_ready (rs := [14]) (by kernel_rfl) (by simp) ?_
                    refine AllReadyH.cons (o := _) rfl (fun K hK => ?_) ?_
                    · go_simp
                      refine hK.out _ _ ?_ (fun hHeld2 => ?_)
                      · (first | exact hS0 | exact hS1 | exact hS2)
                      clear hK K hHeld
                      have hHeld := hHeld2
                      clear hHeld2
                      (try simp only [Act.put, List.getElem_toArray, List.getElem_cons_succ, List.getElem_cons_zero, List.setIfInBounds_toArray, List.set_cons_zero, List.set_cons_succ])
                      refine wpAnyH_done (by kernel_rfl) ?_ _
                      exact hFin
                    exact AllReadyH.nil
                  exact AllReadyH.nil
                refine AllReadyH.cons (o := _) rfl (fun K hK => ?_) ?_
                · go_simp
                  refine hK.out _ _ ?_ (fun hHeld2 => ?_)
                  · (first | exact hS0 | exact hS1 | exact hS2)
                  clear hK K hHeld
                  have hHeld := hHeld2
                  clear hHeld2
                  (try simp only [Act.put, List.getElem_toArray, List.getElem_cons_succ, List.getElem_cons_zero, List.setIfInBounds_toArray, List.set_cons_zero, List.set_cons_succ])
                  refine wpAnyH_take (i := 13) (oi := _) (v := ?_) rfl (by kernel_rfl) (by kernel_rfl) (by kernel_rfl) (fun _ _ _ h => h) (Or.inl ⟨by rfl, ?_⟩) (by assumption) ?_
                  rotate_left
                  · (intro w hSw; (try dsimp only at hSw); (try go_simp); (try with_reducible rfl))
                  (try simp only [Act.put, List.getElem_toArray, List.getElem_cons_succ, List.getElem_cons_zero, List.setIfInBounds_toArray, List.set_cons_zero, List.set_cons_succ])
                  refine wpAnyH_ready (rs := [9]) (by kernel_rfl) (by simp) ?_
                  refine AllReadyH.cons (o := _) rfl (fun K hK => ?_) ?_
                  · go_simp
                    refine hK.out _ _ ?_ (fun hHeld2 => ?_)
                    · (first | exact hS0 | exact hS1 | exact hS2)
                    clear hK K hHeld
                    have hHeld := hHeld2
                    clear hHeld2
                    (try simp only [Act.put, List.getElem_toArray, List.getElem_cons_succ, List.getElem_cons_zero, List.setIfInBounds_toArray, List.set_cons_zero, List.set_cons_succ])
                    refine wpAnyH_take (i := 11) (oi := _) (v := ?_) rfl (by kernel_rfl) (by kernel_rfl) (by kernel_rfl) (fun _ _ _ h => h) (Or.inl ⟨by rfl, ?_⟩) (by assumption) ?_
                    rotate_left
                    · (intro w hSw; (try dsimp only at hSw); (try go_simp); (try with_reducible rfl))
                    (try simp only [Act.put, List.getElem_toArray, List.getElem_cons_succ, List.getElem_cons_zero, List.setIfInBounds_toArray, List.set_cons_zero, List.set_cons_succ])
                    refine wpAnyH_ready (rs := [14]) (by kernel_rfl) (by simp) ?_
                    refine AllReadyH.cons (o := _) rfl (fun K hK => ?_) ?_
                    · go_simp
                      refine hK.out _ _ ?_ (fun hHeld2 => ?_)
                      · (first | exact hS0 | exact hS1 | exact hS2)
                      clear hK K hHeld
                      have hHeld := hHeld2
                      clear hHeld2
                      (try simp only [Act.put, List.getElem_toArray, List.getElem_cons_succ, List.getElem_cons_zero, List.setIfInBounds_toArray, List.set_cons_zero, List.set_cons_succ])
                      refine wpAnyH_done (by kernel_rfl) ?_ _
                      exact hFin
                    exact AllReadyH.nil
                  exact AllReadyH.nil
                exact AllReadyH.nil
              refine NoPanic.normal ?_
              have hom := o3
              have K0 := Lib.hid (Blk.other' (Blk.drew K0.out) gB (by omega))
              have K1 := Lib.hid (Blk.other' (Blk.drew K1.out) gB (by omega))
              have hxq : Ext w wB := Below.grown hxq.drew gB hxq.size (fun j e => by cases e; omega)
              have HIM1 := Lib.hid (InMap.other HIM1.out.drew gB hbne (by omega))
              have hg2 : MapC D4 (gD (fI k l j) k (l.length - j) x ((m0, x2) :: done)) := by
                have : gD (fI k l j) k (l.length - j) x ((m0, x2) :: done) = (fun q => if q = (m0 + 1, x2 + x) then G2 + F else gD (fI k l j) k (l.length - j) x done q + if q = (m0, x2) ∧ k < m0 + (l.length - j) then F else 0) := by
                  funext p
                  rw [HCD.out]
                  by_cases e : p = (m0 + 1, x2 + x)
                  · rw [if_pos (c := p = (m0 + 1, x2 + x) ∧ _) ⟨e, htake⟩, if_pos e, e, hG2, if_neg (fun h => by have := h.1; simp only [Prod.mk.injEq] at this; omega), Nat.add_zero]
                  · rw [if_neg (c := p = (m0 + 1, x2 + x) ∧ _) (fun h => e h.1), if_neg e, Nat.add_zero]
                rw [this]; exact m3
              have HM4 := Lib.hid hg2
              clear c0 c1 d5 l0 l1 l2 l3 gA zA o3 m3 gB hS0 hS1 hS2 hwa hwb hwc hlk hg2
              go_wp2_with fail
              go_roundw
              case rel => exact ⟨_, cnt1, (m0, x2) :: done, D4, n3 + 1, HIM1.out, hom, by simp only [List.length_cons]; omega, HM4.out, K0.out, K1.out, hxq⟩
              case measure => rw [HIM1.out.rg.left_eq, HLE0.out]; exact hlt
            · have d5 : decide (m0 < k) = false := by simp; omega
              have hg2 : MapC D3 (gD (fI k l j) k (l.length - j) x ((m0, x2) :: done)) := by
                have : gD (fI k l j) k (l.length - j) x ((m0, x2) :: done) = (fun q => gD (fI k l j) k (l.length - j) x done q + if q = (m0, x2) ∧ k < m0 + (l.length - j) then F else 0) := by
                  funext p
                  rw [HCD.out, if_neg (c := p = (m0 + 1, x2 + x) ∧ _) (fun h => htake h.2), Nat.add_zero]
                rw [this]; exact HM3.out
              have HM4 := Lib.hid hg2
              clear hg2
              go_wp2_with fail
              go_roundw
              case rel => exact ⟨_, cnt1, (m0, x2) :: done, D3, n3, HIM1.out, hom, by simp only [List.length_cons]; omega, HM4.out, K0.out, K1.out, hxq⟩
              case measure => rw [HIM1.out.rg.left_eq, HLE0.out]; exact hlt
    · obtain rfl : j = l.length := by omega
      have hbl := hown.lt
      have hlw : w.heap.size + 1 < wr.heap.size := K1.out.lt
      go_wp2_with (first | (at_range; refine wpList_range_own _ rfl _ 89 rfl 88 3 sub_law Tryz.underlying89 _ b n _ rfl hown ?_; intro w0 hrg0 hg0 hs0))
      have K0 := Lib.hid (K0.out.grown hg0)
      have K1 := Lib.hid (K1.out.grown hg0)
      have hx0 : Ext w w0 := hxr.grown hg0
      clear hg0 hs0 hown hxr
      generalize wr.heap.size = r at *
      go_loopw [14] (fun al wq => ∃ (left : Lit → Bool) (cnt : Nat) (done : List (Nat × Int)), al = .int .i64 (tot (fI k l l.length) (qS k sum) done : Nat) ∧ InMap w wq b r n D (fI k l l.length) done left cnt ∧
          Blk wq w.heap.size #[.bool false, .slice none 0 0] 32 ∧ Blk wq (w.heap.size + 1) #[.int .i64 0] 28 ∧ Ext w wq)
        (fun _ wq => wq.rangeLeft b r)
      case atStart => exact ⟨_, _, [], rfl, ⟨hrg0, List.nodup_nil, by simp, fun p _ => by simp, fun kl h => h⟩, K0.out, K1.out, hx0⟩
      case round =>
        clear hrg0 K0 K1 hx0
        obtain ⟨left, cnt, done, rfl, hIM, hb0, hb1, hxq⟩ := hrel
        have K0 := Lib.hid hb0
        have K1 := Lib.hid hb1
        have htl := tot_le (k := k) (sum := sum) (l := l) hIM.nd
        have hrg := hIM.rg
        have HLE0 := Lib.hid hrg.left_eq
        have HIM := Lib.hid hIM
        clear hIM hb0 hb1
        obtain ⟨T, hT⟩ : ∃ T, tot (fI k l l.length) (qS k sum) done = T := ⟨_, rfl⟩
        have HT := Lib.hid hT
        rw [hT] at htl ⊢
        have hT2 : T ≤ 1048576 := by omega
        clear hT htl
        go_wp2_with (first | (at_next; refine wpList_next_ranges _ rfl _ rfl 88 sub_law (plainElem Tryz.prog 3) (fun p : Int × Int => .agg #[.int .i64 p.1, .int .i64 p.2]) (Value.int .i64) (fun key kl hkey => by obtain ⟨m, s, rfl, _⟩ := keyOf_inv hkey; exact ⟨(m, s), rfl⟩) (fun v y hv => by obtain ⟨c, rfl, _⟩ := plainElem_int_inv Tryz.underlying3 hv; exact ⟨c, rfl⟩) b r n _ _ _ rfl hrg ?_ ?_))
        · intro hc0 hl0
          have hall : ∀ p, 0 < fI k l l.length p → p ∈ done := fun p hp => by
            have hwf := fI_wf (out_mem HO.out) (by omega) hp
            have h1 := HIM.out.lf p (by unfold Wf; omega)
            rw [hl0, HMC.out.hask p (by unfold Wf; omega), decide_eq_true hp] at h1
            simpa using h1
          have hfin := tot_all (k := k) (sum := sum) (l := l) HIM.out.nd hall
          rw [HT.out] at hfin
          have HF := Lib.hid hfin
          have HMK := Lib.hid (nat_Make (T : Int) wr (by omega))
          clear hall hfin hrg
          go_wp2_with fail
          refine HMK.out.mono ?_
          rintro e w5 ⟨v, rfl, ⟨neg, a5, cap5, L, rfl, hi5, hbig5, hfr5⟩, hx5⟩
          have HFR := Lib.hid hfr5
          have hlw2 : w.heap.size + 1 < wr.heap.size := K1.out.lt
          have K0 := Lib.hid (K0.out.ext hx5)
          have K1 := Lib.hid (K1.out.ext hx5)
          have HI5 := Lib.hid hi5
          have HB5 := Lib.hid hbig5
          have hxq := hxq.trans hx5
          clear hi5 hbig5 hx5 hfr5
          have hLm := HI5.out.le
          have hcm := HI5.out.mx
          obtain ⟨q5, hq5⟩ : ∃ q, L.length = q := ⟨_, rfl⟩
          rw [hq5] at hLm ⊢
          have HQ5 := Lib.hid hq5
          clear hq5
          have c0 := K0.out.cell (i := 0) (v := .bool false) rfl
          have c1 := K0.out.cell (i := 1) (v := .slice none 0 0) rfl
          have f0 := K0.out.free 0
          have f1 := K0.out.free 1
          have c2 := K1.out.cell (i := 0) (v := .int .i64 0) rfl
          have f2 := K1.out.free 0
          go_wp2_with fail
          have k2 := Lib.hid (((K0.out.set 0 (.bool neg)).set 1 (.slice a5 q5 cap5)).other (p := ⟨w.heap.size + 1, 0, none⟩) (by dsimp only; omega) (.int .i64 0))
          have k3 := Lib.hid (((K1.out.other (p := ⟨w.heap.size, 0, none⟩) (by dsimp only; omega) (.bool neg)).other (p := ⟨w.heap.size, 1, none⟩) (by dsimp only; omega) (.slice a5 q5 cap5)).set 0 (.int .i64 0))
          clear c0 c1 f0 f1 c2 f2
          have e0 := k2.out.cell (i := 0) (v := .bool neg) rfl
          have e1 := k2.out.cell (i := 1) (v := .slice a5 q5 cap5) rfl
          have e2 := k3.out.cell (i := 0) (v := .int .i64 0) rfl
          have hxf : Ext w (((w5.setCell ⟨w.heap.size, 0, none⟩ (.bool neg)).setCell ⟨w.heap.size, 1, none⟩ (.slice a5 q5 cap5)).setCell ⟨w.heap.size + 1, 0, none⟩ (.int .i64 0)) := (by repeat (first | with_reducible exact Ext.refl _ | with_reducible assumption | with_reducible refine Ext.drewN ?_ _ | with_reducible refine Ext.drew ?_ | with_reducible refine Ext.alloc' ?_ _ | with_reducible refine Ext.set ?_ (by dsimp only; omega) _))
          have hif : Ints (((w5.setCell ⟨w.heap.size, 0, none⟩ (.bool neg)).setCell ⟨w.heap.size, 1, none⟩ (.slice a5 q5 cap5)).setCell ⟨w.heap.size + 1, 0, none⟩ (.int .i64 0)) a5 cap5 L := by
            have hi := HI5.out
            cases a5 with
            | none => exact ⟨hi.le, hi.mx, hi.nil, fun A hA => by cases hA⟩
            | some A =>
              obtain ⟨bA, oA, sA⟩ := A
              have hA := HFR.out _ rfl
              dsimp only at hA
              refine ⟨hi.le, hi.mx, hi.nil, fun A hA' i hii => ?_⟩
              cases hA'
              obtain ⟨h1, u, hu, hr⟩ := hi.cells _ rfl i hii
              refine ⟨h1, u, ?_, hr⟩
              rw [← hu]
              simp only [World.cell?, Below.heap_setCell _ _ _ _ (show bA ≠ (⟨w.heap.size, 0, none⟩ : Addr).block by dsimp only; omega), Below.heap_setCell _ _ _ _ (show bA ≠ (⟨w.heap.size, 1, none⟩ : Addr).block by dsimp only; omega), Below.heap_setCell _ _ _ _ (show bA ≠ (⟨w.heap.size + 1, 0, none⟩ : Addr).block by dsimp only; omega)]
          generalize ((w5.setCell ⟨w.heap.size, 0, none⟩ (.bool neg)).setCell ⟨w.heap.size, 1, none⟩ (.slice a5 q5 cap5)).setCell ⟨w.heap.size + 1, 0, none⟩ (.int .i64 0) = w9 at *
          refine leaves_cons (f := 65) (args := #[.pointer (some ⟨w.heap.size + 1, 0, none⟩)]) (by simp) (by simp [go_sem]) ?_
          refine (exact_caught_idle ⟨w.heap.size + 1, 0, none⟩ _).mono ?_
          rintro e u' w'' ⟨rfl, rfl, rfl⟩
          simp [Leaves, settle, results, Tryz.results28, go_sem, e0, e1, e2]
          refine ⟨_, rfl, ⟨neg, a5, cap5, L, by rw [HQ5.out], hif, by rw [← HF.out]; exact HB5.out, fun A hA => by have := HFR.out A hA; omega⟩, hxf⟩
        · intro x1 x2 c kl y1 y2 w1 cnt1 hkl hlk hR hat hrg1 hlt hg1 hs1 hen
          obtain ⟨q, hqw, rfl⟩ := HMC.out.only kl (HIM.out.lh kl hlk)
          have hqpos : 0 < fI k l l.length q := by
            have := HMC.out.hask q hqw
            rw [HIM.out.lh _ hlk] at this
            simpa using this.symm
          have hqd : q ∉ done := by
            have := HIM.out.lf q hqw
            rw [hlk] at this
            simp at this
            exact this.2
          obtain ⟨m0, s0⟩ := q
          have hkk := sub_law.inj hkl (keyOf_wf hqw)
          simp only [kvOf, keyV, Value.agg.injEq, Array.mk.injEq, List.cons.injEq, Value.int.injEq, true_and, and_true] at hkk
          obtain ⟨rfl, rfl⟩ := hkk
          obtain ⟨F, hF⟩ : ∃ F, fI k l l.length (m0, x2) = F := ⟨_, rfl⟩
          have hcF : c = (F : Int) := by
            obtain ⟨c', e, hy, _⟩ := plainElem_int_inv Tryz.underlying3 hR
            simp only [Value.int.injEq, true_and] at e
            subst e
            have h1 := hat (litN 0)
            simp only [Prod.mk.injEq] at hy
            rw [HMC.out.atk _ hqw, hy.1, hF] at h1
            simpa [litN] using h1.symm
          subst hcF
          have hF20 := fI_le k l l.length (m0, x2)
          rw [hF] at hqpos hF20
          have hwf := fI_wf (k := k) (l := l) (i := l.length) (p := (m0, x2)) (out_mem HO.out) (by omega) (by rw [hF]; exact hqpos)
          obtain ⟨hm64, hs1', hs2'⟩ := hwf
          dsimp only at hm64 hs1' hs2'
          have hIM1 : InMap w w1 b r n D (fI k l l.length) ((m0, x2) :: done) (fun z => left z && !z.sameKey (klOf (m0, x2))) cnt1 := by
            refine ⟨hrg1, List.nodup_cons.2 ⟨hqd, HIM.out.nd⟩, fun p hp => ?_, fun p hp => ?_, fun kl h => HIM.out.lh kl ((Bool.and_eq_true _ _ ▸ h).1)⟩
            · rcases List.mem_cons.1 hp with rfl | hp
              · rw [hF]; exact hqpos
              · exact HIM.out.pos p hp
            · rw [HIM.out.lf p hp]
              by_cases e : p = (m0, x2)
              · subst e
                rw [WideAt.sameKey_self (klOf_key hp)]
                simp
              · rw [sameKey_ne (fun e2 => e (klOf_inj hp hqw e2))]
                simp [e]
          have hrb : b < r := hbl
          have K0 := Lib.hid (K0.out.other' hg1 (by omega))
          have K1 := Lib.hid (K1.out.other' hg1 (by omega))
          have hxq : Ext w w1 := Below.grown hxq hg1 hxq.size (fun j e => by cases e; omega)
          have hkb : r < w1.heap.size := hIM1.rg.lt
          have hlw1 : w.heap.size + 1 < w1.heap.size := K1.out.lt
          have K0 := Lib.hid (K0.out.alloc (.cells #[.int .i64 (m0 : Int), .int .i64 x2] 88))
          have K1 := Lib.hid (K1.out.alloc (.cells #[.int .i64 (m0 : Int), .int .i64 x2] 88))
          have KB := Lib.hid (Blk.new0 w1 #[.int .i64 (m0 : Int), .int .i64 x2] 88)
          have hxq := hxq.alloc' (.cells #[.int .i64 (m0 : Int), .int .i64 x2] 88)
          have HIM1 := Lib.hid (hIM1.alloc (.cells #[.int .i64 (m0 : Int), .int .i64 x2] 88))
          have htl2 := tot_le (k := k) (sum := sum) (l := l) hIM1.nd
          have hts : tot (fI k l l.length) (qS k sum) ((m0, x2) :: done) = (if qS k sum (m0, x2) then F else 0) + T := by simp only [tot]; rw [hF, HT.out]
          have HTS := Lib.hid hts
          have hT3 : (if qS k sum (m0, x2) then F else 0) + T ≤ 1048576 := by rw [← hts]; omega
          have hqe : qS k sum (m0, x2) = (m0 == k && decide (sum ≤ x2)) := rfl
          clear hkl hlk hR hat hrg1 hrg hIM1 hqd hF HIM hs1 htl2 hts
          go_upto_region 22 with fail
          generalize w1.alloc (.cells #[.int .i64 (m0 : Int), .int .i64 x2] 88) = wk at *
          have c0 := KB.out.cell (i := 0) (v := .int .i64 (m0 : Int)) rfl
          have c1 := KB.out.cell (i := 1) (v := .int .i64 x2) rfl
          by_cases hmk : m0 = k
          · have d1' : ((m0 : Int) == (k : Int)) = true := by simp; omega
            have d1'' : (m0 == k) = true := by simpa using hmk
            by_cases hsx : sum ≤ x2
            · have d5 : decide (sum ≤ x2) = true := by simpa using hsx
              rw [hqe, d1'', d5] at hT3
              rw [hqe, d1'', d5] at HTS
              simp only [Bool.and_self, if_true] at hT3
              have HTS := HTS.out
              simp only [Bool.and_self, if_true] at HTS
              have HTS2 := Lib.hid HTS
              clear hqe hmk hsx HTS
              go_wp2_with fail
              go_roundw
              case rel => exact ⟨_, cnt1, (m0, x2) :: done, by rw [HTS2.out]; congr 1; omega, HIM1.out, K0.out, K1.out, hxq⟩
              case measure => rw [HIM1.out.rg.left_eq, HLE0.out]; exact hlt
            · have d5 : decide (sum ≤ x2) = false := by simpa using hsx
              rw [hqe, d5] at HTS
              have HTS := HTS.out
              simp only [Bool.and_false, Bool.false_eq_true, if_false, Nat.zero_add] at HTS
              have HTS2 := Lib.hid HTS
              clear hqe hmk hsx HTS hT3
              go_wp2_with fail
              go_roundw
              case rel => exact ⟨_, cnt1, (m0, x2) :: done, by rw [HTS2.out], HIM1.out, K0.out, K1.out, hxq⟩
              case measure => rw [HIM1.out.rg.left_eq, HLE0.out]; exact hlt
          · have d1' : ((m0 : Int) == (k : Int)) = false := by simp; omega
            have d1'' : (m0 == k) = false := by simpa using hmk
            rw [hqe, d1''] at HTS
            have HTS := HTS.out
            simp only [Bool.false_and, Bool.false_eq_true, if_false, Nat.zero_add] at HTS
            have HTS2 := Lib.hid HTS
            clear hqe hmk HTS hT3
            go_wp2_with fail
            go_roundw
            case rel => exact ⟨_, cnt1, (m0, x2) :: done, by rw [HTS2.out], HIM1.out, K0.out, K1.out, hxq⟩
            case measure => rw [HIM1.out.rg.left_eq, HLE0.out]; exact hlt
end Go.Proofs.YtmcbbhlglccmgaaGreat
