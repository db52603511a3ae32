import Derived.Test.YtmcbbhlglccmgaaGreatWS
import Derived.Test.YtmcbbhlglccmgaaGreatWP3
import Derived.Deep.DrawnRows
import Derived.Test.YtmcbbhlglccmgaaGreatWSroot
import Derived.Test.YtmcbbhlglccmgaaGreatW9
import Derived.OwnWalk
import Derived.Deep.QuietTactic
namespace Go.Proofs.YtmcbbhlglccmgaaGreat
open Go.RowKit Go BigFrame
set_option maxRecDepth 100000
set_option linter.unusedSimpArgs false
set_option linter.unusedVariables false
attribute [local go_sem ↓] Go.wp_at_zero Go.wp_at_succ

/-! law42.orders: all orders of n numbers. -/
theorem run_append_any {a0 w : World} (hx0 : Ext a0 w) {v : Value} {L : List Int} (hown : OwnI w a0.heap.size v L) {ad : Option Addr} {n c : Nat} {l : List Int} (hn : l.length = n) (hI : Ints w ad c l) (hlen : L.length + l.length ≤ 1000000) (ty : TypeId) :
    ∃ v' w', (Builtin.append_ #[27, 27] ty #[v, .slice ad n c]).run Tryz.prog w = .ok v' w' ∧ OwnI w' a0.heap.size v' (L ++ l) ∧ Ext a0 w' ∧ (∀ p cs t, Blk w p cs t → v.ownBlock ≠ some p → Blk w' p cs t ∧ v'.ownBlock ≠ some p) := by
  obtain ⟨i0, hi0, hz0, hz1, hz2⟩ := info_parts infoI
  subst hn
  cases ad with
  | none =>
    have hc := hI.nil rfl
    have hl : l = [] := List.length_eq_zero_iff.1 (by have := hI.le; omega)
    subst hl hc
    exact ⟨v, w, run_append_owned_none (P := Tryz.prog) (w := w) a0.heap.size 27 ty 3 i0 1 Tryz.underlying27 hi0 v L.length (L.map (Value.int .i64)) hown.own, by rw [List.append_nil]; exact hown, hx0, fun p cs t hp hne => ⟨hp, hne⟩⟩
  | some A =>
    have key : ∃ v' w', (Builtin.append_ #[27, 27] ty #[v, .slice (some A) l.length c]).run Tryz.prog w = .ok v' w' ∧ w'.ownsRow a0.heap.size 3 1 v' (L.length + l.length) (L.map (Value.int .i64) ++ l.map (Value.int .i64)) ∧ w.grownBy w' v.ownBlock ∧
        (v' = .slice none 0 0 ↔ v = .slice none 0 0 ∧ l.length = 0) ∧ (v'.ownBlock = v.ownBlock ∨ v'.ownBlock = some w.heap.size) := by
      refine run_append_own_at w a0.heap.size 27 ty 3 i0 (.int .i64 0) 1 8 Tryz.underlying27 hi0 hz0 hz1 hz2 rfl (by decide) v L.length (L.map (Value.int .i64)) hown.own A l.length c (l.map (Value.int .i64)) (by simp) ?_ (fun u hu => by obtain ⟨z, _, rfl⟩ := List.mem_map.1 hu; rfl) (by unfold maxLen; omega) (by omega) hx0.size
      by_cases hl : l = []
      · subst hl; intro j u hu; simp at hu
      · obtain ⟨b, o', e⟩ := hI.head (i := 0) (List.length_pos_iff.2 hl)
        cases e
        exact hI.news0
    obtain ⟨v', w', h0, h1, h2, h3, h4⟩ := key
    obtain ⟨g, cap, rfl, hb, hg, _⟩ := hown.form
    refine ⟨v', w', h0, ⟨fun e => absurd (h3.1 e).1 hown.nn, by simpa using h1⟩, Below.grown hx0 h2 hx0.size (fun k e => by
      simp only [Value.ownBlock, Option.some.injEq] at e
      omega), fun p cs t hp hne => ⟨(h2.block p hp.lt (Ne.symm hne)).trans hp, ?_⟩⟩
    rcases h4 with h4 | h4
    · rw [h4]; exact hne
    · rw [h4]; intro e; have := hp.lt; cases e; omega
theorem step_append_any {ops : Array Oper} {o : Oper} {a : Act} {K : Act → World → Prop} {Q : Exit → Act → World → Prop} {E : Prop} (hgd : o.guard = none) (s x : Operand)
    (ho : o.op = .call { callee := .builtin .append, args := #[s, x], argTypes := #[27, 27] }) {a0 w : World} (hx0 : Ext a0 w) {v : Value} (hs : a.eval s = v) {L : List Int} (hown : OwnI w a0.heap.size v L) {ad : Option Addr} {n c : Nat} {l : List Int}
    (hx : a.eval x = .slice ad n c) (hn : l.length = n) (hI : Ints w ad c l) (hlen : L.length + l.length ≤ 1000000)
    (h : ∀ v' w', OwnI w' a0.heap.size v' (L ++ l) → Ext a0 w' → (∀ p cs t, Blk w p cs t → v.ownBlock ≠ some p → Blk w' p cs t ∧ v'.ownBlock ≠ some p) → K (a.put o.dst v') w') :
    if Region.wanted o (yielded ops a.tmps) = true then Oper.wp Tryz.prog o a w K Q else E := by
  have hw : Region.wanted o (yielded ops a.tmps) = true := by simp [Region.wanted, hgd]
  rw [if_pos hw]
  obtain ⟨v', w', hr, h1, h2, h3⟩ := run_append_any hx0 hown hn hI hlen o.type
  unfold Oper.wp execOp
  simp only [ho, resolve, invoke, builtin, Sem.run_bind, Sem.run_pure, Result.andThen_ok, List.map_toArray, List.map_cons, List.map_nil, hs, hx, hr]
  exact h v' w' h1 h2 h3
theorem run_append_ownL {α : Type} {R : World → Value → α → Prop} (hR : RdOk R) {a0 w : World} (t et : TypeId) (ht : Tryz.prog.underlying t = some (.slice et)) {z : Value} (hz : z.cells.size = 1) (hi : (Tryz.prog.info? et).map (fun i => (i.zero, i.size, i.bytes)) = some (some z, 1, 24))
    (hx0 : Ext a0 w) {v : Value} {xs : List α} (hown : OwnL R w a0.heap.size et v xs) {g : Nat} {u : Value} {bt : TypeId} (hb : Blk w g #[u] bt) {y : α} (hu : R w u y) (hoff : OffV u v.ownBlock) (hlen : xs.length ≤ 1000000) (ty : TypeId) :
    ∃ va vc w', (Builtin.append_ #[t, t] ty #[v, .slice (some ⟨g, 0, none⟩) 1 1]).run Tryz.prog w = .ok (.slice va (xs.length + 1) vc) w' ∧ OwnL R w' a0.heap.size et (.slice va (xs.length + 1) vc) (xs ++ [y]) ∧ Ext a0 w' ∧ w.grownBy w' v.ownBlock := by
  obtain ⟨i0, hi0, hz0, hz1, hz2⟩ := info_parts hi
  obtain ⟨vs, hvs, hel⟩ := hown.ex
  obtain ⟨v', w', h0, h1, h2, h3, h4⟩ := run_append_own_at w a0.heap.size t ty et i0 z 1 24 ht hi0 hz0 hz1 hz2 hz (by decide) v xs.length vs hvs ⟨g, 0, none⟩ 1 1 [u] rfl (fun j q hq => by
    have e : ((⟨g, 0, none⟩ : Addr).add j) = ⟨g, j, none⟩ := by unfold Addr.add; split <;> simp_all
    rw [e]
    exact hb.cell (by simpa using hq)) (fun q hq => by rw [List.mem_singleton.1 hq]; exact hR.one _ _ _ hu) (by unfold maxLen; omega) (by omega) hx0.size
  have hm := hown.more hR hvs hel hu hoff h1 h2 h4
  obtain ⟨va, vc, e, _⟩ := hm.form
  rw [List.length_append, List.length_singleton] at e
  subst e
  exact ⟨va, vc, w', h0, hm, Below.grown hx0 h2 hx0.size (fun k e => (hown.lt k e).1), h2⟩
theorem step_append_ownL {α : Type} {R : World → Value → α → Prop} (hR : RdOk R) {ops : Array Oper} {o : Oper} {a : Act} {K : Act → World → Prop} {Q : Exit → Act → World → Prop} {E : Prop} (hgd : o.guard = none) (s x : Operand) (t et : TypeId)
    (ho : o.op = .call { callee := .builtin .append, args := #[s, x], argTypes := #[t, t] }) (ht : Tryz.prog.underlying t = some (.slice et)) {z : Value} (hz : z.cells.size = 1) (hi : (Tryz.prog.info? et).map (fun i => (i.zero, i.size, i.bytes)) = some (some z, 1, 24)) {a0 w : World}
    (hx0 : Ext a0 w) {v : Value} {xs : List α} (hs : a.eval s = v) (hown : OwnL R w a0.heap.size et v xs) {g : Nat} (hx : a.eval x = .slice (some ⟨g, 0, none⟩) 1 1) {u : Value} {bt : TypeId} (hb : Blk w g #[u] bt) {y : α} (hu : R w u y) (hoff : OffV u v.ownBlock) (hlen : xs.length ≤ 1000000)
    (h : ∀ va vc w', OwnL R w' a0.heap.size et (.slice va (xs.length + 1) vc) (xs ++ [y]) → Ext a0 w' → K (a.put o.dst (.slice va (xs.length + 1) vc)) w') :
    if Region.wanted o (yielded ops a.tmps) = true then Oper.wp Tryz.prog o a w K Q else E := by
  have hw : Region.wanted o (yielded ops a.tmps) = true := by simp [Region.wanted, hgd]
  rw [if_pos hw]
  obtain ⟨va, vc, w', hr, h1, h2, _⟩ := run_append_ownL hR t et ht hz hi hx0 hown hb hu hoff hlen o.type
  unfold Oper.wp execOp
  simp only [ho, resolve, invoke, builtin, Sem.run_bind, Sem.run_pure, Result.andThen_ok, List.map_toArray, List.map_cons, List.map_nil, hs, hx, hr]
  exact h va vc w' h1 h2
theorem own_newW {a0 y : World} (hE : Ext a0 y) : OwnI (y.alloc (.cells #[] 3)) a0.heap.size (.slice (some ⟨y.heap.size, 0, none⟩) 0 0) [] ∧ Ext a0 (y.alloc (.cells #[] 3)) := by
  refine ⟨?_, hE.alloc' _⟩
  have h := OwnI.new y
  refine ⟨h.nn, h.own.1, ?_⟩
  rcases h.own.2 with h2 | ⟨g, cap, cur, e, hb, r⟩
  · exact .inl h2
  · exact .inr ⟨g, cap, cur, e, Nat.le_trans hE.size hb, r⟩
theorem own_neW {w : World} {B : Nat} {v : Value} {L : List Int} (h : OwnI w B v L) : v.ownBlock ≠ some w.heap.size := by
  obtain ⟨g, cap, rfl, _, hg, _⟩ := h.form
  intro e
  simp only [Value.ownBlock, Option.some.injEq] at e
  omega
theorem OwnI.isInts {w : World} {B : Nat} {v : Value} {L : List Int} (h : OwnI w B v L) (hd : ∀ x ∈ L, -9223372036854775808 ≤ x ∧ x ≤ 9223372036854775807) : IsInts w v L := by
  obtain ⟨g, cap, e, hI, _⟩ := h.look hd
  exact ⟨_, _, e, hI⟩
theorem OwnI.off {w : World} {B : Nat} {v : Value} {L : List Int} (h : OwnI w B v L) {o : Option Nat} (ho : ∀ g, o = some g → g < B) : OffV v o := by
  obtain ⟨g, cap, rfl, hb, _⟩ := h.form
  intro A n c e hn e2
  simp only [Value.slice.injEq, Option.some.injEq] at e
  obtain ⟨rfl, _⟩ := e
  have := ho _ e2
  dsimp only at this
  omega
theorem Ints.preW {w : World} {a : Option Addr} {cap : Nat} {l : List Int} (h : Ints w a cap l) {k : Nat} (hk : k ≤ l.length) : Ints w a cap (l.take k) :=
  ⟨by have := h.le; simp; omega, h.mx, h.nil, fun B hB i hi => by
    have hi2 : i < l.length := by simp at hi; omega
    obtain ⟨e, v, hv, r⟩ := h.cells B hB i hi2
    exact ⟨e, v, hv, by simpa using r⟩⟩
theorem Ints.dropNil {w : World} : Ints w none 0 ([] : List Int) := ⟨by simp, by omega, fun _ => rfl, fun A hA => by cases hA⟩
theorem Ints.dropEnd {w : World} {A : Addr} {cap n : Nat} {l : List Int} (h : Ints w (some A) cap l) (hn : l.length = n) : Ints w (some A) 0 (l.drop n) := by
  rw [List.drop_eq_nil_of_le (by omega)]
  exact ⟨by simp, by omega, by simp, fun B hB i hi => by simp at hi⟩
theorem Ints.postW {w : World} {b o cap : Nat} {l : List Int} (h : Ints w (some ⟨b, o, none⟩) cap l) {k : Nat} (hk : k ≤ l.length) : Ints w (some ⟨b, o + k, none⟩) (cap - k) (l.drop k) := by
  have hm := h.mx
  have hl := h.le
  refine ⟨by simp; omega, by omega, by simp, fun A hA i hi' => ?_⟩
  cases hA
  have hi2 : k + i < l.length := by simp at hi'; omega
  obtain ⟨e1, e2, e3⟩ := h.cell hi2
  refine ⟨rfl, _, by rw [show o + k + i = o + (k + i) by omega]; exact e1, ?_⟩
  have : (l.drop k)[i] = l[k + i] := by simp
  exact ⟨by rw [this], by rw [this]; exact e2, by rw [this]; exact e3⟩
theorem flat_ord (n k : Nat) : ∀ l : List (List Int), (l.flatMap fun p => ordP n p k).length = l.length * k := by
  intro l
  induction l with
  | nil => simp
  | cons p l ih =>
    rw [List.flatMap_cons, List.length_append, ih, List.length_cons, Nat.succ_mul]
    simp [ordP]
    omega
theorem ordP_succ (n k : Nat) (p : List Int) : ordP n p (k + 1) = ordP n p k ++ [p.take k ++ (n : Int) :: p.drop k] := by simp [ordP, List.range_succ]
theorem fact8 {n : Nat} (h : n < 8) : fact n * (n + 1) ≤ 40320 := by
  have : n = 0 ∨ n = 1 ∨ n = 2 ∨ n = 3 ∨ n = 4 ∨ n = 5 ∨ n = 6 ∨ n = 7 := by omega
  rcases this with rfl | rfl | rfl | rfl | rfl | rfl | rfl | rfl <;> decide
def OrdLP (n : Nat) (w : World) (e : Ending) (w' : World) : Prop := ∃ v, e = .returned v ∧ OwnL IsInts w' w.heap.size 27 v (ordersL n) ∧ Ext w w'
set_option maxHeartbeats 2000000 in
theorem law42_orders_zero (w : World) : Calls Tryz.prog 21 #[.int .i64 0] w (OrdLP 0 w) := by
  go_enter Tryz.func21, Tryz.ntmps21
  go_wp2_with fail
  go_ret
  refine ⟨_, rfl, ⟨[.slice none 0 0], ⟨by simp [ordersL], .inr ⟨w.heap.size, 1, #[.slice none 0 0], rfl, Nat.le_refl _, heap_alloc_new w _, Nat.le_refl _, by unfold maxLen; omega, rfl, rfl⟩⟩, fun i hi => ?_⟩, Ext.alloc _ _⟩
  have hi' : i = 0 := by simp [ordersL] at hi; omega
  subst hi'
  refine ⟨_, rfl, ⟨none, 0, rfl, ⟨by simp [ordersL], by omega, fun _ => rfl, fun A hA => by cases hA⟩⟩, fun A n c e hn => by cases e⟩
set_option maxHeartbeats 16000000 in
theorem law42_orders_step (n : Nat) (N : Int) (hN : N - 1 = (n : Int)) (h8 : n < 8) (w : World) (ih : ∀ w, Calls Tryz.prog 21 #[.int .i64 (n : Int)] w (OrdLP n w)) : Calls Tryz.prog 21 #[.int .i64 N] w (OrdLP (n + 1) w) := by
  have HIH := Lib.hid (fun W => (by rw [hN]; exact ih W : Calls Tryz.prog 21 #[.int .i64 (N - 1)] W (OrdLP n W)))
  have n1 : 1 ≤ N := by omega
  have n2 : N ≤ 8 := by omega
  have t0 : (N == 0) = false := beq_false_of_ne (by omega)
  have t0n : ¬ N = 0 := by omega
  have HN := Lib.hid hN
  clear ih hN
  go_enter Tryz.func21, Tryz.ntmps21
  go_wp2_with fail
  with_reducible refine (HIH.out _).mono ?_
  rintro e x1 ⟨v, rfl, hv, hy⟩
  obtain ⟨a0, c0, rfl, hI0⟩ := hv.sl
  have HX1 := Lib.hid hy
  have v0le := hI0.le
  have v0mx := hI0.mx
  have hKl := ordersL_length n
  have HK8 := Lib.hid (fact8 h8)
  rw [← hKl] at HK8
  have HOF := Lib.hid (fun p (hp : p ∈ ordersL n) => ordersL_of hp)
  clear hv HIH hKl
  generalize hLL : ordersL n = LL at *
  have HLL := Lib.hid hLL
  have HV := Lib.hid hI0
  clear hI0 hy hLL
  go_wp2_with fail
  clear t0 t0n
  go_loopw [2, 13] (fun v i wr => ∃ k : Nat, k ≤ LL.length ∧ i = .int .i64 k ∧ OwnL IsInts wr (Array.size (World.heap x1)) 27 v ((LL.take k).flatMap fun p => ordP n p (n + 1)) ∧ Ext x1 wr) (fun _ i _ => LL.length - (intOf i).toNat)
  case atStart => exact ⟨0, Nat.zero_le _, rfl, by rw [List.take_zero]; exact OwnL.nil _ _ _, Ext.refl _⟩
  case round =>
    obtain ⟨k, hk, rfl, how, hxr⟩ := hrel
    generalize wr = wA at *
    have HOW := Lib.hid how
    have HXR := Lib.hid hxr
    have g1 : (0 : Int) ≤ (k : Int) := by omega
    clear how hxr
    by_cases hkn : k < LL.length
    · obtain ⟨b, o, rfl⟩ := HV.out.head hkn
      obtain ⟨p, a2, c2, hp, hcp0, hIp⟩ := Rows.get HV.out hkn
      have hcp := cell_exQ HXR.out hcp0
      clear hcp0
      have g2 : (k : Int) < (LL.length : Int) := by omega
      obtain ⟨-, hpl, hpb⟩ := HOF.out p (List.mem_of_getElem? hp)
      have HPB := Lib.hid hpb
      have HTK := Lib.hid (take_get hp)
      have HPL := Lib.hid hpl
      have ple := hIp.le
      have pmx := hIp.mx
      rw [hpl] at ple hcp
      have HIp := Lib.hid hIp
      have hLen : ((LL.take k).flatMap fun p => ordP n p (n + 1)).length ≤ 40320 - (n + 1) := by
        rw [flat_ord, List.length_take, Nat.min_eq_left (by omega)]
        have h1 := HK8.out
        have h2 : (k + 1) * (n + 1) ≤ LL.length * (n + 1) := Nat.mul_le_mul_right _ (by omega)
        rw [Nat.succ_mul] at h2
        omega
      have HLen := Lib.hid hLen
      obtain ⟨PP, hPP⟩ : ∃ PP, PP = (LL.take k).flatMap fun p => ordP n p (n + 1) := ⟨_, rfl⟩
      have HPP := Lib.hid hPP
      rw [← hPP] at HOW HLen
      clear hp hpl hpb hIp hLen hPP
      go_wp2_with fail
      clear hcp
      go_loopw [2, 18] (fun v i wr => ∃ q : Nat, q ≤ n + 1 ∧ i = .int .i64 q ∧ OwnL IsInts wr (Array.size (World.heap x1)) 27 v (PP ++ ordP n p q) ∧ Ext x1 wr) (fun _ i _ => n + 1 - (intOf i).toNat)
      case atStart => exact ⟨0, Nat.zero_le _, rfl, by rw [show ordP n p 0 = [] from rfl, List.append_nil]; exact HOW.out, HXR.out⟩
      case round =>
        obtain ⟨q, hq, rfl, how, hxr⟩ := hrel
        have HOW2 := Lib.hid how
        have HXR2 := Lib.hid hxr
        have HLT := Lib.hid how.lt
        have hql : (ordP n p q).length = q := by simp [ordP]
        have HLQ : Hid ((PP ++ ordP n p q).length ≤ 1000000) := Lib.hid (by rw [List.length_append, hql]; have := HLen.out; omega)
        have g3 : (0 : Int) ≤ (q : Int) := by omega
        clear how hxr hql
        by_cases hqn : q ≤ n
        · have g4 : (q : Int) < N := by have := HN.out; omega
          go_upto_region 9 with fail
          have HWR : Hid (IntKind.i64.wrap (N - 1) = N - 1) := Lib.hid (by rw [IntKind.wrap_i64]; omega)
          have hE : Ext wr (World.drew wr) := (Ext.refl wr).drew
          have HBB : Hid (∀ x ∈ [] ++ p.take q ++ [N - 1] ++ p.drop q, -9223372036854775808 ≤ x ∧ x ≤ 9223372036854775807) := Lib.hid (fun x hx => by
            simp only [List.nil_append, List.append_assoc, List.mem_append, List.mem_singleton] at hx
            rcases hx with hx | hx | hx
            · have := HPB.out x (List.mem_of_mem_take hx); omega
            · omega
            · have := HPB.out x (List.mem_of_mem_drop hx); omega)
          have HSP : Hid ([] ++ p.take q ++ [N - 1] ++ p.drop q = p.take q ++ (N - 1) :: p.drop q) := Lib.hid (by simp)
          have HIQ := Lib.hid (HIp.out.ext HXR2.out)
          cases a2 with
          | none =>
            have hc0 := HIQ.out.nil rfl
            subst hc0
            obtain rfl : n = 0 := by omega
            obtain rfl : q = 0 := by omega
            refine wp_region_held_drew (S := (fun _ => True)) (by kernel_rfl) ?_ (fun hHeld => ?_)
            · trivial
            (try simp only [← List.toArray_replicate, List.size_toArray, List.length_cons, List.length_nil, Nat.reduceAdd, List.replicate_succ, List.replicate_zero])
            generalize World.drew wr = y0 at *
            refine wpAnyH_take (i := 0) (oi := _) (v := ?_) rfl (by kernel_rfl) (by kernel_rfl) (by kernel_rfl) (fun _ _ _ h => h) (Or.inl ⟨by rfl, ?_⟩) (by assumption) ?_
            rotate_left
            · (intro w hSw; (try dsimp only at hSw); (try go_simp); (try with_reducible rfl))
            (try simp only [Act.put, List.getElem_toArray, List.getElem_cons_succ, List.getElem_cons_zero, List.setIfInBounds_toArray, List.set_cons_zero, List.set_cons_succ])
            refine wpAnyH_take (i := 2) (oi := _) (v := ?_) rfl (by kernel_rfl) (by kernel_rfl) (by kernel_rfl) (fun _ _ _ h => h) (Or.inl ⟨by rfl, ?_⟩) (by assumption) ?_
            rotate_left
            · (intro w hSw; (try dsimp only at hSw); (try go_simp); (try with_reducible rfl))
            (try simp only [Act.put, List.getElem_toArray, List.getElem_cons_succ, List.getElem_cons_zero, List.setIfInBounds_toArray, List.set_cons_zero, List.set_cons_succ])
            refine wpAnyH_take (i := 3) (oi := _) (v := ?_) rfl (by kernel_rfl) (by kernel_rfl) (by kernel_rfl) (fun _ _ _ h => h) (Or.inl ⟨by rfl, ?_⟩) (by assumption) ?_
            rotate_left
            · (intro w hSw; (try dsimp only at hSw); (try go_simp); (try with_reducible rfl))
            (try simp only [Act.put, List.getElem_toArray, List.getElem_cons_succ, List.getElem_cons_zero, List.setIfInBounds_toArray, List.set_cons_zero, List.set_cons_succ])
            refine wpAnyH_take (i := 4) (oi := _) (v := ?_) rfl (by kernel_rfl) (by kernel_rfl) (by kernel_rfl) (fun _ _ _ h => h) (Or.inl ⟨by rfl, ?_⟩) (by assumption) ?_
            rotate_left
            · (intro w hSw; (try dsimp only at hSw); (try go_simp); (try with_reducible rfl))
            (try simp only [Act.put, List.getElem_toArray, List.getElem_cons_succ, List.getElem_cons_zero, List.setIfInBounds_toArray, List.set_cons_zero, List.set_cons_succ])
            refine wpAnyH_take (i := 6) (oi := _) (v := ?_) rfl (by kernel_rfl) (by kernel_rfl) (by kernel_rfl) (fun _ _ _ h => h) (Or.inl ⟨by rfl, ?_⟩) (by assumption) ?_
            rotate_left
            · (intro w hSw; (try dsimp only at hSw); (try go_simp); (try with_reducible rfl))
            (try simp only [Act.put, List.getElem_toArray, List.getElem_cons_succ, List.getElem_cons_zero, List.setIfInBounds_toArray, List.set_cons_zero, List.set_cons_succ])
            refine wpAnyH_take (i := 7) (oi := _) (v := ?_) rfl (by kernel_rfl) (by kernel_rfl) (by kernel_rfl) (fun _ _ _ h => h) (Or.inl ⟨by rfl, ?_⟩) (by assumption) ?_
            rotate_left
            · (intro w hSw; (try dsimp only at hSw); (try go_simp); (try with_reducible rfl))
            (try simp only [Act.put, List.getElem_toArray, List.getElem_cons_succ, List.getElem_cons_zero, List.setIfInBounds_toArray, List.set_cons_zero, List.set_cons_succ])
            refine wpAnyH_take (i := 10) (oi := _) (v := ?_) rfl (by kernel_rfl) (by kernel_rfl) (by kernel_rfl) (fun _ _ _ h => h) (Or.inl ⟨by rfl, ?_⟩) (by assumption) ?_
            rotate_left
            · (intro w hSw; (try dsimp only at hSw); (try go_simp); (try with_reducible rfl))
            (try simp only [Act.put, List.getElem_toArray, List.getElem_cons_succ, List.getElem_cons_zero, List.setIfInBounds_toArray, List.set_cons_zero, List.set_cons_succ])
            refine wpAnyH_take (i := 11) (oi := _) (v := ?_) rfl (by kernel_rfl) (by kernel_rfl) (by kernel_rfl) (fun _ _ _ h => h) (Or.inl ⟨by rfl, ?_⟩) (by assumption) ?_
            rotate_left
            · (intro w hSw; (try dsimp only at hSw); (try go_simp); (try with_reducible rfl))
            (try simp only [Act.put, List.getElem_toArray, List.getElem_cons_succ, List.getElem_cons_zero, List.setIfInBounds_toArray, List.set_cons_zero, List.set_cons_succ])
            refine wpAnyH_take (i := 12) (oi := _) (v := ?_) rfl (by kernel_rfl) (by kernel_rfl) (by kernel_rfl) (fun _ _ _ h => h) (Or.inl ⟨by rfl, ?_⟩) (by assumption) ?_
            rotate_left
            · (intro w hSw; (try dsimp only at hSw); (try go_simp); (try with_reducible rfl))
            (try simp only [Act.put, List.getElem_toArray, List.getElem_cons_succ, List.getElem_cons_zero, List.setIfInBounds_toArray, List.set_cons_zero, List.set_cons_succ])
            refine wpAnyH_ready (rs := [1, 8]) (by kernel_rfl) (by simp) ?_
            refine AllReadyH.cons (o := _) rfl (fun K hK => ?_) ?_
            · go_simp
              obtain ⟨hO, hE2⟩ := own_newW hE; have hgl : Array.size (World.heap y0) < Array.size (World.heap (World.alloc y0 (.cells #[] 3))) := (by simp); replace hE := hE2; clear hE2; generalize World.alloc y0 (.cells #[] 3) = y1 at *; generalize Array.size (World.heap y0) = g0 at *; generalize Value.slice (some ⟨g0, 0, none⟩) 0 0 = v0 at *
              refine hK.out _ _ ?_ (fun hHeld2 => ?_)
              · trivial
              clear hK K hHeld
              have hHeld := hHeld2
              clear hHeld2
              (try simp only [Act.put, List.getElem_toArray, List.getElem_cons_succ, List.getElem_cons_zero, List.setIfInBounds_toArray, List.set_cons_zero, List.set_cons_succ])
              refine wpAnyH_ready (rs := [5, 8]) (by kernel_rfl) (by simp) ?_
              refine AllReadyH.cons (o := _) rfl (fun K hK => ?_) ?_
              · refine step_append_any (by rfl) (.tmp 22) (.tmp 25) (by rfl) hE (by rfl) hO (ad := none) (c := 0) (n := 0) (l := p.take 0) (by rfl) (by rw [List.length_take, HPL.out]; omega) ((HIQ.out.ext hE).preW (by have := HPL.out; omega)) (by have hq := HPL.out; simp only [List.length_append, List.length_take, List.length_drop, List.length_nil, List.length_singleton, List.length_cons]; omega) ?_; intro v1 y4 hO1 hE1 hF; have hE := hE1; have hO := hO1
                refine hK.out _ _ ?_ (fun hHeld2 => ?_)
                · trivial
                clear hK K hHeld
                have hHeld := hHeld2
                clear hHeld2
                (try simp only [Act.put, List.getElem_toArray, List.getElem_cons_succ, List.getElem_cons_zero, List.setIfInBounds_toArray, List.set_cons_zero, List.set_cons_succ])
                refine wpAnyH_ready (rs := [8]) (by kernel_rfl) (by simp) ?_
                refine AllReadyH.cons (o := _) rfl (fun K hK => ?_) ?_
                · go_simp
                  have hB := Blk.new0 y4 #[.int .i64 (IntKind.i64.wrap (N - 1))] 3; have hE2 := hE.alloc' (.cells #[.int .i64 (IntKind.i64.wrap (N - 1))] 3); have hne : v1.ownBlock ≠ some (Array.size (World.heap y4)) := own_neW hO; replace hO := hO.ext (Ext.alloc y4 (.cells #[.int .i64 (IntKind.i64.wrap (N - 1))] 3)); replace hE := hE2; clear hE2; generalize World.alloc y4 (.cells #[.int .i64 (IntKind.i64.wrap (N - 1))] 3) = y3 at *; generalize Array.size (World.heap y4) = pn at *; rw [HWR.out] at hB
                  refine hK.out _ _ ?_ (fun hHeld2 => ?_)
                  · trivial
                  clear hK K hHeld
                  have hHeld := hHeld2
                  clear hHeld2
                  (try simp only [Act.put, List.getElem_toArray, List.getElem_cons_succ, List.getElem_cons_zero, List.setIfInBounds_toArray, List.set_cons_zero, List.set_cons_succ])
                  refine wpAnyH_ready (rs := [9]) (by kernel_rfl) (by simp) ?_
                  refine AllReadyH.cons (o := _) rfl (fun K hK => ?_) ?_
                  · refine step_append_any (by rfl) (.tmp 26) (.tmp 29) (by rfl) hE (by rfl) hO (ad := some ⟨pn, 0, none⟩) (c := 1) (l := [N - 1]) (n := 1) (by rfl) rfl (ints_one hB (by omega)) (by have hq := HPL.out; simp only [List.length_append, List.length_take, List.length_drop, List.length_nil, List.length_singleton, List.length_cons]; omega) ?_; intro v2 y7 hO2 hE2 hF2; have hE := hE2; have hO := hO2
                    refine hK.out _ _ ?_ (fun hHeld2 => ?_)
                    · trivial
                    clear hK K hHeld
                    have hHeld := hHeld2
                    clear hHeld2
                    (try simp only [Act.put, List.getElem_toArray, List.getElem_cons_succ, List.getElem_cons_zero, List.setIfInBounds_toArray, List.set_cons_zero, List.set_cons_succ])
                    refine wpAnyH_ready (rs := [13]) (by kernel_rfl) (by simp) ?_
                    refine AllReadyH.cons (o := _) rfl (fun K hK => ?_) ?_
                    · refine step_append_any (by rfl) (.tmp 30) (.tmp 33) (by rfl) hE (by rfl) hO (ad := none) (c := 0) (n := 0) (l := p.drop 0) (by rfl) (by have hq := HPL.out; simp only [List.length_drop]; omega) (by rw [List.drop_eq_nil_of_le (by have := HPL.out; omega)]; exact Ints.dropNil) (by have hq := HPL.out; simp only [List.length_append, List.length_take, List.length_drop, List.length_nil, List.length_singleton, List.length_cons]; omega) ?_; intro v3 y11 hO3 hE3 hF3; obtain ⟨a3, n3, cp3, e3⟩ : ∃ a n c, v3 = .slice a n c := (by obtain ⟨g, c, e, _⟩ := hO3.form; exact ⟨_, _, _, e⟩); subst e3; have hE := hE3; have hO := hO3
                      refine hK.out _ _ ?_ (fun hHeld2 => ?_)
                      · trivial
                      clear hK K hHeld
                      have hHeld := hHeld2
                      clear hHeld2
                      (try simp only [Act.put, List.getElem_toArray, List.getElem_cons_succ, List.getElem_cons_zero, List.setIfInBounds_toArray, List.set_cons_zero, List.set_cons_succ])
                      refine wpAnyH_ready (rs := [14]) (by kernel_rfl) (by simp) ?_
                      refine AllReadyH.cons (o := _) rfl (fun K hK => ?_) ?_
                      · go_simp
                        have hB4 := Blk.new0 y11 #[.slice a3 n3 cp3] 27; have hO4 := hO.ext (Ext.alloc y11 (.cells #[.slice a3 n3 cp3] 27)); have hE4 := hE.alloc' (.cells #[.slice a3 n3 cp3] 27); clear hO hE; generalize World.alloc y11 (.cells #[.slice a3 n3 cp3] 27) = y14 at *; generalize Array.size (World.heap y11) = pr at *
                        refine hK.out _ _ ?_ (fun hHeld2 => ?_)
                        · trivial
                        clear hK K hHeld
                        have hHeld := hHeld2
                        clear hHeld2
                        (try simp only [Act.put, List.getElem_toArray, List.getElem_cons_succ, List.getElem_cons_zero, List.setIfInBounds_toArray, List.set_cons_zero, List.set_cons_succ])
                        refine wpAnyH_ready (rs := [15]) (by kernel_rfl) (by simp) ?_
                        refine AllReadyH.cons (o := _) rfl (fun K hK => ?_) ?_
                        · refine step_append_ownL rdInts (by rfl) (.tmp 21) (.tmp 35) 22 27 (by rfl) Tryz.underlying22 (z := .slice none 0 0) rfl infoIntsW (HXR2.out.trans hE4) (by rfl) (HOW2.out.ext rdInts hE4) (by rfl) hB4 (hO4.isInts (fun x hx => HBB.out x hx)) (hO4.off (fun g e => (HLT.out g e).2)) HLQ.out ?_; intro va vc y15 hL15 hE15; have HL15 := Lib.hid hL15; have HE15 := Lib.hid hE15
                          refine hK.out _ _ ?_ (fun hHeld2 => ?_)
                          · trivial
                          clear hK K hHeld
                          have hHeld := hHeld2
                          clear hHeld2
                          (try simp only [Act.put, List.getElem_toArray, List.getElem_cons_succ, List.getElem_cons_zero, List.setIfInBounds_toArray, List.set_cons_zero, List.set_cons_succ])
                          refine wpAnyH_take (i := 16) (oi := _) (v := ?_) rfl (by kernel_rfl) (by kernel_rfl) (by kernel_rfl) (fun _ _ _ h => h) (Or.inl ⟨by rfl, ?_⟩) (by assumption) ?_
                          rotate_left
                          · (intro w hSw; (try dsimp only at hSw); (try go_simp); (try with_reducible rfl))
                          (try simp only [Act.put, List.getElem_toArray, List.getElem_cons_succ, List.getElem_cons_zero, List.setIfInBounds_toArray, List.set_cons_zero, List.set_cons_succ])
                          refine wpAnyH_done (by kernel_rfl) ?_ _
                          go_wp2_with fail
                          go_roundw
                          case rel => exact ⟨0 + 1, by omega, by go_num, by have h := HL15.out; rw [List.length_append] at h; rw [ordP_succ, ← List.append_assoc, ← HN.out, ← HSP.out]; exact h, HE15.out⟩
                          case measure => first | (simp [intOf]; omega) | simp [intOf]
                        exact AllReadyH.nil
                      exact AllReadyH.nil
                    exact AllReadyH.nil
                  exact AllReadyH.nil
                exact AllReadyH.nil
              refine AllReadyH.cons (o := _) rfl (fun K hK => ?_) ?_
              · go_simp
                have hB := Blk.new0 y1 #[.int .i64 (IntKind.i64.wrap (N - 1))] 3; have hE2 := hE.alloc' (.cells #[.int .i64 (IntKind.i64.wrap (N - 1))] 3); have hne : v0.ownBlock ≠ some (Array.size (World.heap y1)) := own_neW hO; replace hO := hO.ext (Ext.alloc y1 (.cells #[.int .i64 (IntKind.i64.wrap (N - 1))] 3)); replace hE := hE2; clear hE2; generalize World.alloc y1 (.cells #[.int .i64 (IntKind.i64.wrap (N - 1))] 3) = y2 at *; generalize Array.size (World.heap y1) = pn at *; rw [HWR.out] at hB
                refine hK.out _ _ ?_ (fun hHeld2 => ?_)
                · trivial
                clear hK K hHeld
                have hHeld := hHeld2
                clear hHeld2
                (try simp only [Act.put, List.getElem_toArray, List.getElem_cons_succ, List.getElem_cons_zero, List.setIfInBounds_toArray, List.set_cons_zero, List.set_cons_succ])
                refine wpAnyH_ready (rs := [5]) (by kernel_rfl) (by simp) ?_
                refine AllReadyH.cons (o := _) rfl (fun K hK => ?_) ?_
                · refine step_append_any (by rfl) (.tmp 22) (.tmp 25) (by rfl) hE (by rfl) hO (ad := none) (c := 0) (n := 0) (l := p.take 0) (by rfl) (by rw [List.length_take, HPL.out]; omega) ((HIQ.out.ext hE).preW (by have := HPL.out; omega)) (by have hq := HPL.out; simp only [List.length_append, List.length_take, List.length_drop, List.length_nil, List.length_singleton, List.length_cons]; omega) ?_; intro v1 y4 hO1 hE1 hF; have hE := hE1; have hO := hO1; obtain ⟨hB, hne⟩ := hF _ _ _ hB hne
                  refine hK.out _ _ ?_ (fun hHeld2 => ?_)
                  · trivial
                  clear hK K hHeld
                  have hHeld := hHeld2
                  clear hHeld2
                  (try simp only [Act.put, List.getElem_toArray, List.getElem_cons_succ, List.getElem_cons_zero, List.setIfInBounds_toArray, List.set_cons_zero, List.set_cons_succ])
                  refine wpAnyH_ready (rs := [9]) (by kernel_rfl) (by simp) ?_
                  refine AllReadyH.cons (o := _) rfl (fun K hK => ?_) ?_
                  · refine step_append_any (by rfl) (.tmp 26) (.tmp 29) (by rfl) hE (by rfl) hO (ad := some ⟨pn, 0, none⟩) (c := 1) (l := [N - 1]) (n := 1) (by rfl) rfl (ints_one hB (by omega)) (by have hq := HPL.out; simp only [List.length_append, List.length_take, List.length_drop, List.length_nil, List.length_singleton, List.length_cons]; omega) ?_; intro v2 y7 hO2 hE2 hF2; have hE := hE2; have hO := hO2
                    refine hK.out _ _ ?_ (fun hHeld2 => ?_)
                    · trivial
                    clear hK K hHeld
                    have hHeld := hHeld2
                    clear hHeld2
                    (try simp only [Act.put, List.getElem_toArray, List.getElem_cons_succ, List.getElem_cons_zero, List.setIfInBounds_toArray, List.set_cons_zero, List.set_cons_succ])
                    refine wpAnyH_ready (rs := [13]) (by kernel_rfl) (by simp) ?_
                    refine AllReadyH.cons (o := _) rfl (fun K hK => ?_) ?_
                    · refine step_append_any (by rfl) (.tmp 30) (.tmp 33) (by rfl) hE (by rfl) hO (ad := none) (c := 0) (n := 0) (l := p.drop 0) (by rfl) (by have hq := HPL.out; simp only [List.length_drop]; omega) (by rw [List.drop_eq_nil_of_le (by have := HPL.out; omega)]; exact Ints.dropNil) (by have hq := HPL.out; simp only [List.length_append, List.length_take, List.length_drop, List.length_nil, List.length_singleton, List.length_cons]; omega) ?_; intro v3 y11 hO3 hE3 hF3; obtain ⟨a3, n3, cp3, e3⟩ : ∃ a n c, v3 = .slice a n c := (by obtain ⟨g, c, e, _⟩ := hO3.form; exact ⟨_, _, _, e⟩); subst e3; have hE := hE3; have hO := hO3
                      refine hK.out _ _ ?_ (fun hHeld2 => ?_)
                      · trivial
                      clear hK K hHeld
                      have hHeld := hHeld2
                      clear hHeld2
                      (try simp only [Act.put, List.getElem_toArray, List.getElem_cons_succ, List.getElem_cons_zero, List.setIfInBounds_toArray, List.set_cons_zero, List.set_cons_succ])
                      refine wpAnyH_ready (rs := [14]) (by kernel_rfl) (by simp) ?_
                      refine AllReadyH.cons (o := _) rfl (fun K hK => ?_) ?_
                      · go_simp
                        have hB4 := Blk.new0 y11 #[.slice a3 n3 cp3] 27; have hO4 := hO.ext (Ext.alloc y11 (.cells #[.slice a3 n3 cp3] 27)); have hE4 := hE.alloc' (.cells #[.slice a3 n3 cp3] 27); clear hO hE; generalize World.alloc y11 (.cells #[.slice a3 n3 cp3] 27) = y14 at *; generalize Array.size (World.heap y11) = pr at *
                        refine hK.out _ _ ?_ (fun hHeld2 => ?_)
                        · trivial
                        clear hK K hHeld
                        have hHeld := hHeld2
                        clear hHeld2
                        (try simp only [Act.put, List.getElem_toArray, List.getElem_cons_succ, List.getElem_cons_zero, List.setIfInBounds_toArray, List.set_cons_zero, List.set_cons_succ])
                        refine wpAnyH_ready (rs := [15]) (by kernel_rfl) (by simp) ?_
                        refine AllReadyH.cons (o := _) rfl (fun K hK => ?_) ?_
                        · refine step_append_ownL rdInts (by rfl) (.tmp 21) (.tmp 35) 22 27 (by rfl) Tryz.underlying22 (z := .slice none 0 0) rfl infoIntsW (HXR2.out.trans hE4) (by rfl) (HOW2.out.ext rdInts hE4) (by rfl) hB4 (hO4.isInts (fun x hx => HBB.out x hx)) (hO4.off (fun g e => (HLT.out g e).2)) HLQ.out ?_; intro va vc y15 hL15 hE15; have HL15 := Lib.hid hL15; have HE15 := Lib.hid hE15
                          refine hK.out _ _ ?_ (fun hHeld2 => ?_)
                          · trivial
                          clear hK K hHeld
                          have hHeld := hHeld2
                          clear hHeld2
                          (try simp only [Act.put, List.getElem_toArray, List.getElem_cons_succ, List.getElem_cons_zero, List.setIfInBounds_toArray, List.set_cons_zero, List.set_cons_succ])
                          refine wpAnyH_take (i := 16) (oi := _) (v := ?_) rfl (by kernel_rfl) (by kernel_rfl) (by kernel_rfl) (fun _ _ _ h => h) (Or.inl ⟨by rfl, ?_⟩) (by assumption) ?_
                          rotate_left
                          · (intro w hSw; (try dsimp only at hSw); (try go_simp); (try with_reducible rfl))
                          (try simp only [Act.put, List.getElem_toArray, List.getElem_cons_succ, List.getElem_cons_zero, List.setIfInBounds_toArray, List.set_cons_zero, List.set_cons_succ])
                          refine wpAnyH_done (by kernel_rfl) ?_ _
                          go_wp2_with fail
                          go_roundw
                          case rel => exact ⟨0 + 1, by omega, by go_num, by have h := HL15.out; rw [List.length_append] at h; rw [ordP_succ, ← List.append_assoc, ← HN.out, ← HSP.out]; exact h, HE15.out⟩
                          case measure => first | (simp [intOf]; omega) | simp [intOf]
                        exact AllReadyH.nil
                      exact AllReadyH.nil
                    exact AllReadyH.nil
                  exact AllReadyH.nil
                exact AllReadyH.nil
              exact AllReadyH.nil
            refine AllReadyH.cons (o := _) rfl (fun K hK => ?_) ?_
            · go_simp
              have hB := Blk.new0 y0 #[.int .i64 (IntKind.i64.wrap (N - 1))] 3; have hE2 := hE.alloc' (.cells #[.int .i64 (IntKind.i64.wrap (N - 1))] 3); replace hE := hE2; clear hE2; generalize World.alloc y0 (.cells #[.int .i64 (IntKind.i64.wrap (N - 1))] 3) = y4 at *; generalize Array.size (World.heap y0) = pn at *; rw [HWR.out] at hB
              refine hK.out _ _ ?_ (fun hHeld2 => ?_)
              · trivial
              clear hK K hHeld
              have hHeld := hHeld2
              clear hHeld2
              (try simp only [Act.put, List.getElem_toArray, List.getElem_cons_succ, List.getElem_cons_zero, List.setIfInBounds_toArray, List.set_cons_zero, List.set_cons_succ])
              refine wpAnyH_ready (rs := [1]) (by kernel_rfl) (by simp) ?_
              refine AllReadyH.cons (o := _) rfl (fun K hK => ?_) ?_
              · go_simp
                obtain ⟨hO, hE2⟩ := own_newW hE; have hgl : Array.size (World.heap y4) < Array.size (World.heap (World.alloc y4 (.cells #[] 3))) := (by simp); have hne : Value.ownBlock (.slice (some ⟨Array.size (World.heap y4), 0, none⟩) 0 0) ≠ some pn := (by have h1 := hB.lt; simp only [Value.ownBlock, ne_eq, Option.some.injEq]; omega); replace hB := hB.alloc (.cells #[] 3); replace hE := hE2; clear hE2; generalize World.alloc y4 (.cells #[] 3) = y5 at *; generalize Array.size (World.heap y4) = g0 at *; generalize Value.slice (some ⟨g0, 0, none⟩) 0 0 = v0 at *
                refine hK.out _ _ ?_ (fun hHeld2 => ?_)
                · trivial
                clear hK K hHeld
                have hHeld := hHeld2
                clear hHeld2
                (try simp only [Act.put, List.getElem_toArray, List.getElem_cons_succ, List.getElem_cons_zero, List.setIfInBounds_toArray, List.set_cons_zero, List.set_cons_succ])
                refine wpAnyH_ready (rs := [5]) (by kernel_rfl) (by simp) ?_
                refine AllReadyH.cons (o := _) rfl (fun K hK => ?_) ?_
                · refine step_append_any (by rfl) (.tmp 22) (.tmp 25) (by rfl) hE (by rfl) hO (ad := none) (c := 0) (n := 0) (l := p.take 0) (by rfl) (by rw [List.length_take, HPL.out]; omega) ((HIQ.out.ext hE).preW (by have := HPL.out; omega)) (by have hq := HPL.out; simp only [List.length_append, List.length_take, List.length_drop, List.length_nil, List.length_singleton, List.length_cons]; omega) ?_; intro v1 y4 hO1 hE1 hF; have hE := hE1; have hO := hO1; obtain ⟨hB, hne⟩ := hF _ _ _ hB hne
                  refine hK.out _ _ ?_ (fun hHeld2 => ?_)
                  · trivial
                  clear hK K hHeld
                  have hHeld := hHeld2
                  clear hHeld2
                  (try simp only [Act.put, List.getElem_toArray, List.getElem_cons_succ, List.getElem_cons_zero, List.setIfInBounds_toArray, List.set_cons_zero, List.set_cons_succ])
                  refine wpAnyH_ready (rs := [9]) (by kernel_rfl) (by simp) ?_
                  refine AllReadyH.cons (o := _) rfl (fun K hK => ?_) ?_
                  · refine step_append_any (by rfl) (.tmp 26) (.tmp 29) (by rfl) hE (by rfl) hO (ad := some ⟨pn, 0, none⟩) (c := 1) (l := [N - 1]) (n := 1) (by rfl) rfl (ints_one hB (by omega)) (by have hq := HPL.out; simp only [List.length_append, List.length_take, List.length_drop, List.length_nil, List.length_singleton, List.length_cons]; omega) ?_; intro v2 y7 hO2 hE2 hF2; have hE := hE2; have hO := hO2
                    refine hK.out _ _ ?_ (fun hHeld2 => ?_)
                    · trivial
                    clear hK K hHeld
                    have hHeld := hHeld2
                    clear hHeld2
                    (try simp only [Act.put, List.getElem_toArray, List.getElem_cons_succ, List.getElem_cons_zero, List.setIfInBounds_toArray, List.set_cons_zero, List.set_cons_succ])
                    refine wpAnyH_ready (rs := [13]) (by kernel_rfl) (by simp) ?_
                    refine AllReadyH.cons (o := _) rfl (fun K hK => ?_) ?_
                    · refine step_append_any (by rfl) (.tmp 30) (.tmp 33) (by rfl) hE (by rfl) hO (ad := none) (c := 0) (n := 0) (l := p.drop 0) (by rfl) (by have hq := HPL.out; simp only [List.length_drop]; omega) (by rw [List.drop_eq_nil_of_le (by have := HPL.out; omega)]; exact Ints.dropNil) (by have hq := HPL.out; simp only [List.length_append, List.length_take, List.length_drop, List.length_nil, List.length_singleton, List.length_cons]; omega) ?_; intro v3 y11 hO3 hE3 hF3; obtain ⟨a3, n3, cp3, e3⟩ : ∃ a n c, v3 = .slice a n c := (by obtain ⟨g, c, e, _⟩ := hO3.form; exact ⟨_, _, _, e⟩); subst e3; have hE := hE3; have hO := hO3
                      refine hK.out _ _ ?_ (fun hHeld2 => ?_)
                      · trivial
                      clear hK K hHeld
                      have hHeld := hHeld2
                      clear hHeld2
                      (try simp only [Act.put, List.getElem_toArray, List.getElem_cons_succ, List.getElem_cons_zero, List.setIfInBounds_toArray, List.set_cons_zero, List.set_cons_succ])
                      refine wpAnyH_ready (rs := [14]) (by kernel_rfl) (by simp) ?_
                      refine AllReadyH.cons (o := _) rfl (fun K hK => ?_) ?_
                      · go_simp
                        have hB4 := Blk.new0 y11 #[.slice a3 n3 cp3] 27; have hO4 := hO.ext (Ext.alloc y11 (.cells #[.slice a3 n3 cp3] 27)); have hE4 := hE.alloc' (.cells #[.slice a3 n3 cp3] 27); clear hO hE; generalize World.alloc y11 (.cells #[.slice a3 n3 cp3] 27) = y14 at *; generalize Array.size (World.heap y11) = pr at *
                        refine hK.out _ _ ?_ (fun hHeld2 => ?_)
                        · trivial
                        clear hK K hHeld
                        have hHeld := hHeld2
                        clear hHeld2
                        (try simp only [Act.put, List.getElem_toArray, List.getElem_cons_succ, List.getElem_cons_zero, List.setIfInBounds_toArray, List.set_cons_zero, List.set_cons_succ])
                        refine wpAnyH_ready (rs := [15]) (by kernel_rfl) (by simp) ?_
                        refine AllReadyH.cons (o := _) rfl (fun K hK => ?_) ?_
                        · refine step_append_ownL rdInts (by rfl) (.tmp 21) (.tmp 35) 22 27 (by rfl) Tryz.underlying22 (z := .slice none 0 0) rfl infoIntsW (HXR2.out.trans hE4) (by rfl) (HOW2.out.ext rdInts hE4) (by rfl) hB4 (hO4.isInts (fun x hx => HBB.out x hx)) (hO4.off (fun g e => (HLT.out g e).2)) HLQ.out ?_; intro va vc y15 hL15 hE15; have HL15 := Lib.hid hL15; have HE15 := Lib.hid hE15
                          refine hK.out _ _ ?_ (fun hHeld2 => ?_)
                          · trivial
                          clear hK K hHeld
                          have hHeld := hHeld2
                          clear hHeld2
                          (try simp only [Act.put, List.getElem_toArray, List.getElem_cons_succ, List.getElem_cons_zero, List.setIfInBounds_toArray, List.set_cons_zero, List.set_cons_succ])
                          refine wpAnyH_take (i := 16) (oi := _) (v := ?_) rfl (by kernel_rfl) (by kernel_rfl) (by kernel_rfl) (fun _ _ _ h => h) (Or.inl ⟨by rfl, ?_⟩) (by assumption) ?_
                          rotate_left
                          · (intro w hSw; (try dsimp only at hSw); (try go_simp); (try with_reducible rfl))
                          (try simp only [Act.put, List.getElem_toArray, List.getElem_cons_succ, List.getElem_cons_zero, List.setIfInBounds_toArray, List.set_cons_zero, List.set_cons_succ])
                          refine wpAnyH_done (by kernel_rfl) ?_ _
                          go_wp2_with fail
                          go_roundw
                          case rel => exact ⟨0 + 1, by omega, by go_num, by have h := HL15.out; rw [List.length_append] at h; rw [ordP_succ, ← List.append_assoc, ← HN.out, ← HSP.out]; exact h, HE15.out⟩
                          case measure => first | (simp [intOf]; omega) | simp [intOf]
                        exact AllReadyH.nil
                      exact AllReadyH.nil
                    exact AllReadyH.nil
                  exact AllReadyH.nil
                exact AllReadyH.nil
              exact AllReadyH.nil
            exact AllReadyH.nil
          | some A2 =>
            have hsp : A2.spot = none ∨ n = 0 := by
              rcases Nat.eq_zero_or_pos n with h | h
              · exact .inr h
              · obtain ⟨b9, o9, e9⟩ := HIQ.out.head (i := 0) (by rw [HPL.out]; exact h)
                cases e9
                exact .inl rfl
            have g5 : (q : Int) ≤ (n : Int) := by omega
            have g6 : (n : Int) ≤ (c2 : Int) := by omega
            have g7 : (q : Int) ≤ (c2 : Int) := by omega
            by_cases hkc : q = c2
            · subst hkc
              have hn2 : n = q := by omega
              have hn3 : n - q = 0 := by omega
              subst hn2
              refine wp_region_held_drew (S := (fun _ => True)) (by kernel_rfl) ?_ (fun hHeld => ?_)
              · trivial
              (try simp only [← List.toArray_replicate, List.size_toArray, List.length_cons, List.length_nil, Nat.reduceAdd, List.replicate_succ, List.replicate_zero])
              generalize World.drew wr = y0 at *
              refine wpAnyH_take (i := 0) (oi := _) (v := ?_) rfl (by kernel_rfl) (by kernel_rfl) (by kernel_rfl) (fun _ _ _ h => h) (Or.inl ⟨by rfl, ?_⟩) (by assumption) ?_
              rotate_left
              · (intro w hSw; (try dsimp only at hSw); (try go_simp); (try with_reducible rfl))
              (try simp only [Act.put, List.getElem_toArray, List.getElem_cons_succ, List.getElem_cons_zero, List.setIfInBounds_toArray, List.set_cons_zero, List.set_cons_succ])
              refine wpAnyH_take (i := 2) (oi := _) (v := ?_) rfl (by kernel_rfl) (by kernel_rfl) (by kernel_rfl) (fun _ _ _ h => h) (Or.inl ⟨by rfl, ?_⟩) (by assumption) ?_
              rotate_left
              · (intro w hSw; (try dsimp only at hSw); (try go_simp); (try with_reducible rfl))
              (try simp only [Act.put, List.getElem_toArray, List.getElem_cons_succ, List.getElem_cons_zero, List.setIfInBounds_toArray, List.set_cons_zero, List.set_cons_succ])
              refine wpAnyH_take (i := 3) (oi := _) (v := ?_) rfl (by kernel_rfl) (by kernel_rfl) (by kernel_rfl) (fun _ _ _ h => h) (Or.inl ⟨by rfl, ?_⟩) (by assumption) ?_
              rotate_left
              · (intro w hSw; (try dsimp only at hSw); (try go_simp); (try with_reducible rfl))
              (try simp only [Act.put, List.getElem_toArray, List.getElem_cons_succ, List.getElem_cons_zero, List.setIfInBounds_toArray, List.set_cons_zero, List.set_cons_succ])
              refine wpAnyH_take (i := 4) (oi := _) (v := ?_) rfl (by kernel_rfl) (by kernel_rfl) (by kernel_rfl) (fun _ _ _ h => h) (Or.inl ⟨by rfl, ?_⟩) (by assumption) ?_
              rotate_left
              · (intro w hSw; (try dsimp only at hSw); (try go_simp); (try with_reducible rfl))
              (try simp only [Act.put, List.getElem_toArray, List.getElem_cons_succ, List.getElem_cons_zero, List.setIfInBounds_toArray, List.set_cons_zero, List.set_cons_succ])
              refine wpAnyH_take (i := 6) (oi := _) (v := ?_) rfl (by kernel_rfl) (by kernel_rfl) (by kernel_rfl) (fun _ _ _ h => h) (Or.inl ⟨by rfl, ?_⟩) (by assumption) ?_
              rotate_left
              · (intro w hSw; (try dsimp only at hSw); (try go_simp); (try with_reducible rfl))
              (try simp only [Act.put, List.getElem_toArray, List.getElem_cons_succ, List.getElem_cons_zero, List.setIfInBounds_toArray, List.set_cons_zero, List.set_cons_succ])
              refine wpAnyH_take (i := 7) (oi := _) (v := ?_) rfl (by kernel_rfl) (by kernel_rfl) (by kernel_rfl) (fun _ _ _ h => h) (Or.inl ⟨by rfl, ?_⟩) (by assumption) ?_
              rotate_left
              · (intro w hSw; (try dsimp only at hSw); (try go_simp); (try with_reducible rfl))
              (try simp only [Act.put, List.getElem_toArray, List.getElem_cons_succ, List.getElem_cons_zero, List.setIfInBounds_toArray, List.set_cons_zero, List.set_cons_succ])
              refine wpAnyH_take (i := 10) (oi := _) (v := ?_) rfl (by kernel_rfl) (by kernel_rfl) (by kernel_rfl) (fun _ _ _ h => h) (Or.inl ⟨by rfl, ?_⟩) (by assumption) ?_
              rotate_left
              · (intro w hSw; (try dsimp only at hSw); (try go_simp); (try with_reducible rfl))
              (try simp only [Act.put, List.getElem_toArray, List.getElem_cons_succ, List.getElem_cons_zero, List.setIfInBounds_toArray, List.set_cons_zero, List.set_cons_succ])
              refine wpAnyH_take (i := 11) (oi := _) (v := ?_) rfl (by kernel_rfl) (by kernel_rfl) (by kernel_rfl) (fun _ _ _ h => h) (Or.inl ⟨by rfl, ?_⟩) (by assumption) ?_
              rotate_left
              · (intro w hSw; (try dsimp only at hSw); (try go_simp); (try with_reducible rfl))
              (try simp only [Act.put, List.getElem_toArray, List.getElem_cons_succ, List.getElem_cons_zero, List.setIfInBounds_toArray, List.set_cons_zero, List.set_cons_succ])
              refine wpAnyH_take (i := 12) (oi := _) (v := ?_) rfl (by kernel_rfl) (by kernel_rfl) (by kernel_rfl) (fun _ _ _ h => h) (Or.inl ⟨by rfl, ?_⟩) (by assumption) ?_
              rotate_left
              · (intro w hSw; (try dsimp only at hSw); (try go_simp); (try with_reducible rfl))
              (try simp only [Act.put, List.getElem_toArray, List.getElem_cons_succ, List.getElem_cons_zero, List.setIfInBounds_toArray, List.set_cons_zero, List.set_cons_succ])
              refine wpAnyH_ready (rs := [1, 8]) (by kernel_rfl) (by simp) ?_
              refine AllReadyH.cons (o := _) rfl (fun K hK => ?_) ?_
              · go_simp
                obtain ⟨hO, hE2⟩ := own_newW hE; have hgl : Array.size (World.heap y0) < Array.size (World.heap (World.alloc y0 (.cells #[] 3))) := (by simp); replace hE := hE2; clear hE2; generalize World.alloc y0 (.cells #[] 3) = y6 at *; generalize Array.size (World.heap y0) = g0 at *; generalize Value.slice (some ⟨g0, 0, none⟩) 0 0 = v0 at *
                refine hK.out _ _ ?_ (fun hHeld2 => ?_)
                · trivial
                clear hK K hHeld
                have hHeld := hHeld2
                clear hHeld2
                (try simp only [Act.put, List.getElem_toArray, List.getElem_cons_succ, List.getElem_cons_zero, List.setIfInBounds_toArray, List.set_cons_zero, List.set_cons_succ])
                refine wpAnyH_ready (rs := [5, 8]) (by kernel_rfl) (by simp) ?_
                refine AllReadyH.cons (o := _) rfl (fun K hK => ?_) ?_
                · refine step_append_any (by rfl) (.tmp 22) (.tmp 25) (by rfl) hE (by rfl) hO (ad := some A2) (c := n) (n := n) (l := p.take n) (by rfl) (by rw [List.length_take, HPL.out]; omega) ((HIQ.out.ext hE).preW (by have := HPL.out; omega)) (by have hq := HPL.out; simp only [List.length_append, List.length_take, List.length_drop, List.length_nil, List.length_singleton, List.length_cons]; omega) ?_; intro v1 y4 hO1 hE1 hF; have hE := hE1; have hO := hO1
                  refine hK.out _ _ ?_ (fun hHeld2 => ?_)
                  · trivial
                  clear hK K hHeld
                  have hHeld := hHeld2
                  clear hHeld2
                  (try simp only [Act.put, List.getElem_toArray, List.getElem_cons_succ, List.getElem_cons_zero, List.setIfInBounds_toArray, List.set_cons_zero, List.set_cons_succ])
                  refine wpAnyH_ready (rs := [8]) (by kernel_rfl) (by simp) ?_
                  refine AllReadyH.cons (o := _) rfl (fun K hK => ?_) ?_
                  · go_simp
                    have hB := Blk.new0 y4 #[.int .i64 (IntKind.i64.wrap (N - 1))] 3; have hE2 := hE.alloc' (.cells #[.int .i64 (IntKind.i64.wrap (N - 1))] 3); have hne : v1.ownBlock ≠ some (Array.size (World.heap y4)) := own_neW hO; replace hO := hO.ext (Ext.alloc y4 (.cells #[.int .i64 (IntKind.i64.wrap (N - 1))] 3)); replace hE := hE2; clear hE2; generalize World.alloc y4 (.cells #[.int .i64 (IntKind.i64.wrap (N - 1))] 3) = y8 at *; generalize Array.size (World.heap y4) = pn at *; rw [HWR.out] at hB
                    refine hK.out _ _ ?_ (fun hHeld2 => ?_)
                    · trivial
                    clear hK K hHeld
                    have hHeld := hHeld2
                    clear hHeld2
                    (try simp only [Act.put, List.getElem_toArray, List.getElem_cons_succ, List.getElem_cons_zero, List.setIfInBounds_toArray, List.set_cons_zero, List.set_cons_succ])
                    refine wpAnyH_ready (rs := [9]) (by kernel_rfl) (by simp) ?_
                    refine AllReadyH.cons (o := _) rfl (fun K hK => ?_) ?_
                    · refine step_append_any (by rfl) (.tmp 26) (.tmp 29) (by rfl) hE (by rfl) hO (ad := some ⟨pn, 0, none⟩) (c := 1) (l := [N - 1]) (n := 1) (by rfl) rfl (ints_one hB (by omega)) (by have hq := HPL.out; simp only [List.length_append, List.length_take, List.length_drop, List.length_nil, List.length_singleton, List.length_cons]; omega) ?_; intro v2 y7 hO2 hE2 hF2; have hE := hE2; have hO := hO2
                      refine hK.out _ _ ?_ (fun hHeld2 => ?_)
                      · trivial
                      clear hK K hHeld
                      have hHeld := hHeld2
                      clear hHeld2
                      (try simp only [Act.put, List.getElem_toArray, List.getElem_cons_succ, List.getElem_cons_zero, List.setIfInBounds_toArray, List.set_cons_zero, List.set_cons_succ])
                      refine wpAnyH_ready (rs := [13]) (by kernel_rfl) (by simp) ?_
                      refine AllReadyH.cons (o := _) rfl (fun K hK => ?_) ?_
                      · refine step_append_any (by rfl) (.tmp 30) (.tmp 33) (by rfl) hE (by rfl) hO (ad := some A2) (c := 0) (n := 0) (l := p.drop n) (by rfl) (by have hq := HPL.out; simp only [List.length_drop]; omega) ((HIQ.out.ext hE).dropEnd HPL.out) (by have hq := HPL.out; simp only [List.length_append, List.length_take, List.length_drop, List.length_nil, List.length_singleton, List.length_cons]; omega) ?_; intro v3 y11 hO3 hE3 hF3; obtain ⟨a3, n3, cp3, e3⟩ : ∃ a n c, v3 = .slice a n c := (by obtain ⟨g, c, e, _⟩ := hO3.form; exact ⟨_, _, _, e⟩); subst e3; have hE := hE3; have hO := hO3
                        refine hK.out _ _ ?_ (fun hHeld2 => ?_)
                        · trivial
                        clear hK K hHeld
                        have hHeld := hHeld2
                        clear hHeld2
                        (try simp only [Act.put, List.getElem_toArray, List.getElem_cons_succ, List.getElem_cons_zero, List.setIfInBounds_toArray, List.set_cons_zero, List.set_cons_succ])
                        refine wpAnyH_ready (rs := [14]) (by kernel_rfl) (by simp) ?_
                        refine AllReadyH.cons (o := _) rfl (fun K hK => ?_) ?_
                        · go_simp
                          have hB4 := Blk.new0 y11 #[.slice a3 n3 cp3] 27; have hO4 := hO.ext (Ext.alloc y11 (.cells #[.slice a3 n3 cp3] 27)); have hE4 := hE.alloc' (.cells #[.slice a3 n3 cp3] 27); clear hO hE; generalize World.alloc y11 (.cells #[.slice a3 n3 cp3] 27) = y14 at *; generalize Array.size (World.heap y11) = pr at *
                          refine hK.out _ _ ?_ (fun hHeld2 => ?_)
                          · trivial
                          clear hK K hHeld
                          have hHeld := hHeld2
                          clear hHeld2
                          (try simp only [Act.put, List.getElem_toArray, List.getElem_cons_succ, List.getElem_cons_zero, List.setIfInBounds_toArray, List.set_cons_zero, List.set_cons_succ])
                          refine wpAnyH_ready (rs := [15]) (by kernel_rfl) (by simp) ?_
                          refine AllReadyH.cons (o := _) rfl (fun K hK => ?_) ?_
                          · refine step_append_ownL rdInts (by rfl) (.tmp 21) (.tmp 35) 22 27 (by rfl) Tryz.underlying22 (z := .slice none 0 0) rfl infoIntsW (HXR2.out.trans hE4) (by rfl) (HOW2.out.ext rdInts hE4) (by rfl) hB4 (hO4.isInts (fun x hx => HBB.out x hx)) (hO4.off (fun g e => (HLT.out g e).2)) HLQ.out ?_; intro va vc y15 hL15 hE15; have HL15 := Lib.hid hL15; have HE15 := Lib.hid hE15
                            refine hK.out _ _ ?_ (fun hHeld2 => ?_)
                            · trivial
                            clear hK K hHeld
                            have hHeld := hHeld2
                            clear hHeld2
                            (try simp only [Act.put, List.getElem_toArray, List.getElem_cons_succ, List.getElem_cons_zero, List.setIfInBounds_toArray, List.set_cons_zero, List.set_cons_succ])
                            refine wpAnyH_take (i := 16) (oi := _) (v := ?_) rfl (by kernel_rfl) (by kernel_rfl) (by kernel_rfl) (fun _ _ _ h => h) (Or.inl ⟨by rfl, ?_⟩) (by assumption) ?_
                            rotate_left
                            · (intro w hSw; (try dsimp only at hSw); (try go_simp); (try with_reducible rfl))
                            (try simp only [Act.put, List.getElem_toArray, List.getElem_cons_succ, List.getElem_cons_zero, List.setIfInBounds_toArray, List.set_cons_zero, List.set_cons_succ])
                            refine wpAnyH_done (by kernel_rfl) ?_ _
                            go_wp2_with fail
                            go_roundw
                            case rel => exact ⟨n + 1, by omega, by go_num, by have h := HL15.out; rw [List.length_append] at h; rw [ordP_succ, ← List.append_assoc, ← HN.out, ← HSP.out]; exact h, HE15.out⟩
                            case measure => first | (simp [intOf]; omega) | simp [intOf]
                          exact AllReadyH.nil
                        exact AllReadyH.nil
                      exact AllReadyH.nil
                    exact AllReadyH.nil
                  exact AllReadyH.nil
                refine AllReadyH.cons (o := _) rfl (fun K hK => ?_) ?_
                · go_simp
                  have hB := Blk.new0 y6 #[.int .i64 (IntKind.i64.wrap (N - 1))] 3; have hE2 := hE.alloc' (.cells #[.int .i64 (IntKind.i64.wrap (N - 1))] 3); have hne : v0.ownBlock ≠ some (Array.size (World.heap y6)) := own_neW hO; replace hO := hO.ext (Ext.alloc y6 (.cells #[.int .i64 (IntKind.i64.wrap (N - 1))] 3)); replace hE := hE2; clear hE2; generalize World.alloc y6 (.cells #[.int .i64 (IntKind.i64.wrap (N - 1))] 3) = y7 at *; generalize Array.size (World.heap y6) = pn at *; rw [HWR.out] at hB
                  refine hK.out _ _ ?_ (fun hHeld2 => ?_)
                  · trivial
                  clear hK K hHeld
                  have hHeld := hHeld2
                  clear hHeld2
                  (try simp only [Act.put, List.getElem_toArray, List.getElem_cons_succ, List.getElem_cons_zero, List.setIfInBounds_toArray, List.set_cons_zero, List.set_cons_succ])
                  refine wpAnyH_ready (rs := [5]) (by kernel_rfl) (by simp) ?_
                  refine AllReadyH.cons (o := _) rfl (fun K hK => ?_) ?_
                  · refine step_append_any (by rfl) (.tmp 22) (.tmp 25) (by rfl) hE (by rfl) hO (ad := some A2) (c := n) (n := n) (l := p.take n) (by rfl) (by rw [List.length_take, HPL.out]; omega) ((HIQ.out.ext hE).preW (by have := HPL.out; omega)) (by have hq := HPL.out; simp only [List.length_append, List.length_take, List.length_drop, List.length_nil, List.length_singleton, List.length_cons]; omega) ?_; intro v1 y4 hO1 hE1 hF; have hE := hE1; have hO := hO1; obtain ⟨hB, hne⟩ := hF _ _ _ hB hne
                    refine hK.out _ _ ?_ (fun hHeld2 => ?_)
                    · trivial
                    clear hK K hHeld
                    have hHeld := hHeld2
                    clear hHeld2
                    (try simp only [Act.put, List.getElem_toArray, List.getElem_cons_succ, List.getElem_cons_zero, List.setIfInBounds_toArray, List.set_cons_zero, List.set_cons_succ])
                    refine wpAnyH_ready (rs := [9]) (by kernel_rfl) (by simp) ?_
                    refine AllReadyH.cons (o := _) rfl (fun K hK => ?_) ?_
                    · refine step_append_any (by rfl) (.tmp 26) (.tmp 29) (by rfl) hE (by rfl) hO (ad := some ⟨pn, 0, none⟩) (c := 1) (l := [N - 1]) (n := 1) (by rfl) rfl (ints_one hB (by omega)) (by have hq := HPL.out; simp only [List.length_append, List.length_take, List.length_drop, List.length_nil, List.length_singleton, List.length_cons]; omega) ?_; intro v2 y7 hO2 hE2 hF2; have hE := hE2; have hO := hO2
                      refine hK.out _ _ ?_ (fun hHeld2 => ?_)
                      · trivial
                      clear hK K hHeld
                      have hHeld := hHeld2
                      clear hHeld2
                      (try simp only [Act.put, List.getElem_toArray, List.getElem_cons_succ, List.getElem_cons_zero, List.setIfInBounds_toArray, List.set_cons_zero, List.set_cons_succ])
                      refine wpAnyH_ready (rs := [13]) (by kernel_rfl) (by simp) ?_
                      refine AllReadyH.cons (o := _) rfl (fun K hK => ?_) ?_
                      · refine step_append_any (by rfl) (.tmp 30) (.tmp 33) (by rfl) hE (by rfl) hO (ad := some A2) (c := 0) (n := 0) (l := p.drop n) (by rfl) (by have hq := HPL.out; simp only [List.length_drop]; omega) ((HIQ.out.ext hE).dropEnd HPL.out) (by have hq := HPL.out; simp only [List.length_append, List.length_take, List.length_drop, List.length_nil, List.length_singleton, List.length_cons]; omega) ?_; intro v3 y11 hO3 hE3 hF3; obtain ⟨a3, n3, cp3, e3⟩ : ∃ a n c, v3 = .slice a n c := (by obtain ⟨g, c, e, _⟩ := hO3.form; exact ⟨_, _, _, e⟩); subst e3; have hE := hE3; have hO := hO3
                        refine hK.out _ _ ?_ (fun hHeld2 => ?_)
                        · trivial
                        clear hK K hHeld
                        have hHeld := hHeld2
                        clear hHeld2
                        (try simp only [Act.put, List.getElem_toArray, List.getElem_cons_succ, List.getElem_cons_zero, List.setIfInBounds_toArray, List.set_cons_zero, List.set_cons_succ])
                        refine wpAnyH_ready (rs := [14]) (by kernel_rfl) (by simp) ?_
                        refine AllReadyH.cons (o := _) rfl (fun K hK => ?_) ?_
                        · go_simp
                          have hB4 := Blk.new0 y11 #[.slice a3 n3 cp3] 27; have hO4 := hO.ext (Ext.alloc y11 (.cells #[.slice a3 n3 cp3] 27)); have hE4 := hE.alloc' (.cells #[.slice a3 n3 cp3] 27); clear hO hE; generalize World.alloc y11 (.cells #[.slice a3 n3 cp3] 27) = y14 at *; generalize Array.size (World.heap y11) = pr at *
                          refine hK.out _ _ ?_ (fun hHeld2 => ?_)
                          · trivial
                          clear hK K hHeld
                          have hHeld := hHeld2
                          clear hHeld2
                          (try simp only [Act.put, List.getElem_toArray, List.getElem_cons_succ, List.getElem_cons_zero, List.setIfInBounds_toArray, List.set_cons_zero, List.set_cons_succ])
                          refine wpAnyH_ready (rs := [15]) (by kernel_rfl) (by simp) ?_
                          refine AllReadyH.cons (o := _) rfl (fun K hK => ?_) ?_
                          · refine step_append_ownL rdInts (by rfl) (.tmp 21) (.tmp 35) 22 27 (by rfl) Tryz.underlying22 (z := .slice none 0 0) rfl infoIntsW (HXR2.out.trans hE4) (by rfl) (HOW2.out.ext rdInts hE4) (by rfl) hB4 (hO4.isInts (fun x hx => HBB.out x hx)) (hO4.off (fun g e => (HLT.out g e).2)) HLQ.out ?_; intro va vc y15 hL15 hE15; have HL15 := Lib.hid hL15; have HE15 := Lib.hid hE15
                            refine hK.out _ _ ?_ (fun hHeld2 => ?_)
                            · trivial
                            clear hK K hHeld
                            have hHeld := hHeld2
                            clear hHeld2
                            (try simp only [Act.put, List.getElem_toArray, List.getElem_cons_succ, List.getElem_cons_zero, List.setIfInBounds_toArray, List.set_cons_zero, List.set_cons_succ])
                            refine wpAnyH_take (i := 16) (oi := _) (v := ?_) rfl (by kernel_rfl) (by kernel_rfl) (by kernel_rfl) (fun _ _ _ h => h) (Or.inl ⟨by rfl, ?_⟩) (by assumption) ?_
                            rotate_left
                            · (intro w hSw; (try dsimp only at hSw); (try go_simp); (try with_reducible rfl))
                            (try simp only [Act.put, List.getElem_toArray, List.getElem_cons_succ, List.getElem_cons_zero, List.setIfInBounds_toArray, List.set_cons_zero, List.set_cons_succ])
                            refine wpAnyH_done (by kernel_rfl) ?_ _
                            go_wp2_with fail
                            go_roundw
                            case rel => exact ⟨n + 1, by omega, by go_num, by have h := HL15.out; rw [List.length_append] at h; rw [ordP_succ, ← List.append_assoc, ← HN.out, ← HSP.out]; exact h, HE15.out⟩
                            case measure => first | (simp [intOf]; omega) | simp [intOf]
                          exact AllReadyH.nil
                        exact AllReadyH.nil
                      exact AllReadyH.nil
                    exact AllReadyH.nil
                  exact AllReadyH.nil
                exact AllReadyH.nil
              refine AllReadyH.cons (o := _) rfl (fun K hK => ?_) ?_
              · go_simp
                have hB := Blk.new0 y0 #[.int .i64 (IntKind.i64.wrap (N - 1))] 3; have hE2 := hE.alloc' (.cells #[.int .i64 (IntKind.i64.wrap (N - 1))] 3); replace hE := hE2; clear hE2; generalize World.alloc y0 (.cells #[.int .i64 (IntKind.i64.wrap (N - 1))] 3) = y9 at *; generalize Array.size (World.heap y0) = pn at *; rw [HWR.out] at hB
                refine hK.out _ _ ?_ (fun hHeld2 => ?_)
                · trivial
                clear hK K hHeld
                have hHeld := hHeld2
                clear hHeld2
                (try simp only [Act.put, List.getElem_toArray, List.getElem_cons_succ, List.getElem_cons_zero, List.setIfInBounds_toArray, List.set_cons_zero, List.set_cons_succ])
                refine wpAnyH_ready (rs := [1]) (by kernel_rfl) (by simp) ?_
                refine AllReadyH.cons (o := _) rfl (fun K hK => ?_) ?_
                · go_simp
                  obtain ⟨hO, hE2⟩ := own_newW hE; have hgl : Array.size (World.heap y9) < Array.size (World.heap (World.alloc y9 (.cells #[] 3))) := (by simp); have hne : Value.ownBlock (.slice (some ⟨Array.size (World.heap y9), 0, none⟩) 0 0) ≠ some pn := (by have h1 := hB.lt; simp only [Value.ownBlock, ne_eq, Option.some.injEq]; omega); replace hB := hB.alloc (.cells #[] 3); replace hE := hE2; clear hE2; generalize World.alloc y9 (.cells #[] 3) = y10 at *; generalize Array.size (World.heap y9) = g0 at *; generalize Value.slice (some ⟨g0, 0, none⟩) 0 0 = v0 at *
                  refine hK.out _ _ ?_ (fun hHeld2 => ?_)
                  · trivial
                  clear hK K hHeld
                  have hHeld := hHeld2
                  clear hHeld2
                  (try simp only [Act.put, List.getElem_toArray, List.getElem_cons_succ, List.getElem_cons_zero, List.setIfInBounds_toArray, List.set_cons_zero, List.set_cons_succ])
                  refine wpAnyH_ready (rs := [5]) (by kernel_rfl) (by simp) ?_
                  refine AllReadyH.cons (o := _) rfl (fun K hK => ?_) ?_
                  · refine step_append_any (by rfl) (.tmp 22) (.tmp 25) (by rfl) hE (by rfl) hO (ad := some A2) (c := n) (n := n) (l := p.take n) (by rfl) (by rw [List.length_take, HPL.out]; omega) ((HIQ.out.ext hE).preW (by have := HPL.out; omega)) (by have hq := HPL.out; simp only [List.length_append, List.length_take, List.length_drop, List.length_nil, List.length_singleton, List.length_cons]; omega) ?_; intro v1 y4 hO1 hE1 hF; have hE := hE1; have hO := hO1; obtain ⟨hB, hne⟩ := hF _ _ _ hB hne
                    refine hK.out _ _ ?_ (fun hHeld2 => ?_)
                    · trivial
                    clear hK K hHeld
                    have hHeld := hHeld2
                    clear hHeld2
                    (try simp only [Act.put, List.getElem_toArray, List.getElem_cons_succ, List.getElem_cons_zero, List.setIfInBounds_toArray, List.set_cons_zero, List.set_cons_succ])
                    refine wpAnyH_ready (rs := [9]) (by kernel_rfl) (by simp) ?_
                    refine AllReadyH.cons (o := _) rfl (fun K hK => ?_) ?_
                    · refine step_append_any (by rfl) (.tmp 26) (.tmp 29) (by rfl) hE (by rfl) hO (ad := some ⟨pn, 0, none⟩) (c := 1) (l := [N - 1]) (n := 1) (by rfl) rfl (ints_one hB (by omega)) (by have hq := HPL.out; simp only [List.length_append, List.length_take, List.length_drop, List.length_nil, List.length_singleton, List.length_cons]; omega) ?_; intro v2 y7 hO2 hE2 hF2; have hE := hE2; have hO := hO2
                      refine hK.out _ _ ?_ (fun hHeld2 => ?_)
                      · trivial
                      clear hK K hHeld
                      have hHeld := hHeld2
                      clear hHeld2
                      (try simp only [Act.put, List.getElem_toArray, List.getElem_cons_succ, List.getElem_cons_zero, List.setIfInBounds_toArray, List.set_cons_zero, List.set_cons_succ])
                      refine wpAnyH_ready (rs := [13]) (by kernel_rfl) (by simp) ?_
                      refine AllReadyH.cons (o := _) rfl (fun K hK => ?_) ?_
                      · refine step_append_any (by rfl) (.tmp 30) (.tmp 33) (by rfl) hE (by rfl) hO (ad := some A2) (c := 0) (n := 0) (l := p.drop n) (by rfl) (by have hq := HPL.out; simp only [List.length_drop]; omega) ((HIQ.out.ext hE).dropEnd HPL.out) (by have hq := HPL.out; simp only [List.length_append, List.length_take, List.length_drop, List.length_nil, List.length_singleton, List.length_cons]; omega) ?_; intro v3 y11 hO3 hE3 hF3; obtain ⟨a3, n3, cp3, e3⟩ : ∃ a n c, v3 = .slice a n c := (by obtain ⟨g, c, e, _⟩ := hO3.form; exact ⟨_, _, _, e⟩); subst e3; have hE := hE3; have hO := hO3
                        refine hK.out _ _ ?_ (fun hHeld2 => ?_)
                        · trivial
                        clear hK K hHeld
                        have hHeld := hHeld2
                        clear hHeld2
                        (try simp only [Act.put, List.getElem_toArray, List.getElem_cons_succ, List.getElem_cons_zero, List.setIfInBounds_toArray, List.set_cons_zero, List.set_cons_succ])
                        refine wpAnyH_ready (rs := [14]) (by kernel_rfl) (by simp) ?_
                        refine AllReadyH.cons (o := _) rfl (fun K hK => ?_) ?_
                        · go_simp
                          have hB4 := Blk.new0 y11 #[.slice a3 n3 cp3] 27; have hO4 := hO.ext (Ext.alloc y11 (.cells #[.slice a3 n3 cp3] 27)); have hE4 := hE.alloc' (.cells #[.slice a3 n3 cp3] 27); clear hO hE; generalize World.alloc y11 (.cells #[.slice a3 n3 cp3] 27) = y14 at *; generalize Array.size (World.heap y11) = pr at *
                          refine hK.out _ _ ?_ (fun hHeld2 => ?_)
                          · trivial
                          clear hK K hHeld
                          have hHeld := hHeld2
                          clear hHeld2
                          (try simp only [Act.put, List.getElem_toArray, List.getElem_cons_succ, List.getElem_cons_zero, List.setIfInBounds_toArray, List.set_cons_zero, List.set_cons_succ])
                          refine wpAnyH_ready (rs := [15]) (by kernel_rfl) (by simp) ?_
                          refine AllReadyH.cons (o := _) rfl (fun K hK => ?_) ?_
                          · refine step_append_ownL rdInts (by rfl) (.tmp 21) (.tmp 35) 22 27 (by rfl) Tryz.underlying22 (z := .slice none 0 0) rfl infoIntsW (HXR2.out.trans hE4) (by rfl) (HOW2.out.ext rdInts hE4) (by rfl) hB4 (hO4.isInts (fun x hx => HBB.out x hx)) (hO4.off (fun g e => (HLT.out g e).2)) HLQ.out ?_; intro va vc y15 hL15 hE15; have HL15 := Lib.hid hL15; have HE15 := Lib.hid hE15
                            refine hK.out _ _ ?_ (fun hHeld2 => ?_)
                            · trivial
                            clear hK K hHeld
                            have hHeld := hHeld2
                            clear hHeld2
                            (try simp only [Act.put, List.getElem_toArray, List.getElem_cons_succ, List.getElem_cons_zero, List.setIfInBounds_toArray, List.set_cons_zero, List.set_cons_succ])
                            refine wpAnyH_take (i := 16) (oi := _) (v := ?_) rfl (by kernel_rfl) (by kernel_rfl) (by kernel_rfl) (fun _ _ _ h => h) (Or.inl ⟨by rfl, ?_⟩) (by assumption) ?_
                            rotate_left
                            · (intro w hSw; (try dsimp only at hSw); (try go_simp); (try with_reducible rfl))
                            (try simp only [Act.put, List.getElem_toArray, List.getElem_cons_succ, List.getElem_cons_zero, List.setIfInBounds_toArray, List.set_cons_zero, List.set_cons_succ])
                            refine wpAnyH_done (by kernel_rfl) ?_ _
                            go_wp2_with fail
                            go_roundw
                            case rel => exact ⟨n + 1, by omega, by go_num, by have h := HL15.out; rw [List.length_append] at h; rw [ordP_succ, ← List.append_assoc, ← HN.out, ← HSP.out]; exact h, HE15.out⟩
                            case measure => first | (simp [intOf]; omega) | simp [intOf]
                          exact AllReadyH.nil
                        exact AllReadyH.nil
                      exact AllReadyH.nil
                    exact AllReadyH.nil
                  exact AllReadyH.nil
                exact AllReadyH.nil
              exact AllReadyH.nil
            · have hkc3 : ¬ c2 = q := fun e => hkc e.symm
              refine wp_region_held_drew (S := (fun _ => True)) (by kernel_rfl) ?_ (fun hHeld => ?_)
              · trivial
              (try simp only [← List.toArray_replicate, List.size_toArray, List.length_cons, List.length_nil, Nat.reduceAdd, List.replicate_succ, List.replicate_zero])
              generalize World.drew wr = y0 at *
              refine wpAnyH_take (i := 0) (oi := _) (v := ?_) rfl (by kernel_rfl) (by kernel_rfl) (by kernel_rfl) (fun _ _ _ h => h) (Or.inl ⟨by rfl, ?_⟩) (by assumption) ?_
              rotate_left
              · (intro w hSw; (try dsimp only at hSw); (try go_simp); (try with_reducible rfl))
              (try simp only [Act.put, List.getElem_toArray, List.getElem_cons_succ, List.getElem_cons_zero, List.setIfInBounds_toArray, List.set_cons_zero, List.set_cons_succ])
              refine wpAnyH_take (i := 2) (oi := _) (v := ?_) rfl (by kernel_rfl) (by kernel_rfl) (by kernel_rfl) (fun _ _ _ h => h) (Or.inl ⟨by rfl, ?_⟩) (by assumption) ?_
              rotate_left
              · (intro w hSw; (try dsimp only at hSw); (try go_simp); (try with_reducible rfl))
              (try simp only [Act.put, List.getElem_toArray, List.getElem_cons_succ, List.getElem_cons_zero, List.setIfInBounds_toArray, List.set_cons_zero, List.set_cons_succ])
              refine wpAnyH_take (i := 3) (oi := _) (v := ?_) rfl (by kernel_rfl) (by kernel_rfl) (by kernel_rfl) (fun _ _ _ h => h) (Or.inl ⟨by rfl, ?_⟩) (by assumption) ?_
              rotate_left
              · (intro w hSw; (try dsimp only at hSw); (try go_simp); (try with_reducible rfl))
              (try simp only [Act.put, List.getElem_toArray, List.getElem_cons_succ, List.getElem_cons_zero, List.setIfInBounds_toArray, List.set_cons_zero, List.set_cons_succ])
              refine wpAnyH_take (i := 4) (oi := _) (v := ?_) rfl (by kernel_rfl) (by kernel_rfl) (by kernel_rfl) (fun _ _ _ h => h) (Or.inl ⟨by rfl, ?_⟩) (by assumption) ?_
              rotate_left
              · (intro w hSw; (try dsimp only at hSw); (try go_simp); (try with_reducible rfl))
              (try simp only [Act.put, List.getElem_toArray, List.getElem_cons_succ, List.getElem_cons_zero, List.setIfInBounds_toArray, List.set_cons_zero, List.set_cons_succ])
              refine wpAnyH_take (i := 6) (oi := _) (v := ?_) rfl (by kernel_rfl) (by kernel_rfl) (by kernel_rfl) (fun _ _ _ h => h) (Or.inl ⟨by rfl, ?_⟩) (by assumption) ?_
              rotate_left
              · (intro w hSw; (try dsimp only at hSw); (try go_simp); (try with_reducible rfl))
              (try simp only [Act.put, List.getElem_toArray, List.getElem_cons_succ, List.getElem_cons_zero, List.setIfInBounds_toArray, List.set_cons_zero, List.set_cons_succ])
              refine wpAnyH_take (i := 7) (oi := _) (v := ?_) rfl (by kernel_rfl) (by kernel_rfl) (by kernel_rfl) (fun _ _ _ h => h) (Or.inl ⟨by rfl, ?_⟩) (by assumption) ?_
              rotate_left
              · (intro w hSw; (try dsimp only at hSw); (try go_simp); (try with_reducible rfl))
              (try simp only [Act.put, List.getElem_toArray, List.getElem_cons_succ, List.getElem_cons_zero, List.setIfInBounds_toArray, List.set_cons_zero, List.set_cons_succ])
              refine wpAnyH_take (i := 10) (oi := _) (v := ?_) rfl (by kernel_rfl) (by kernel_rfl) (by kernel_rfl) (fun _ _ _ h => h) (Or.inl ⟨by rfl, ?_⟩) (by assumption) ?_
              rotate_left
              · (intro w hSw; (try dsimp only at hSw); (try go_simp); (try with_reducible rfl))
              (try simp only [Act.put, List.getElem_toArray, List.getElem_cons_succ, List.getElem_cons_zero, List.setIfInBounds_toArray, List.set_cons_zero, List.set_cons_succ])
              refine wpAnyH_take (i := 11) (oi := _) (v := ?_) rfl (by kernel_rfl) (by kernel_rfl) (by kernel_rfl) (fun _ _ _ h => h) (Or.inl ⟨by rfl, ?_⟩) (by assumption) ?_
              rotate_left
              · (intro w hSw; (try dsimp only at hSw); (try go_simp); (try with_reducible rfl))
              (try simp only [Act.put, List.getElem_toArray, List.getElem_cons_succ, List.getElem_cons_zero, List.setIfInBounds_toArray, List.set_cons_zero, List.set_cons_succ])
              refine wpAnyH_take (i := 12) (oi := _) (v := ?_) rfl (by kernel_rfl) (by kernel_rfl) (by kernel_rfl) (fun _ _ _ h => h) (Or.inl ⟨by rfl, ?_⟩) (by assumption) ?_
              rotate_left
              · (intro w hSw; (try dsimp only at hSw); (try go_simp); (try with_reducible rfl))
              (try simp only [Act.put, List.getElem_toArray, List.getElem_cons_succ, List.getElem_cons_zero, List.setIfInBounds_toArray, List.set_cons_zero, List.set_cons_succ])
              refine wpAnyH_ready (rs := [1, 8]) (by kernel_rfl) (by simp) ?_
              refine AllReadyH.cons (o := _) rfl (fun K hK => ?_) ?_
              · go_simp
                obtain ⟨hO, hE2⟩ := own_newW hE; have hgl : Array.size (World.heap y0) < Array.size (World.heap (World.alloc y0 (.cells #[] 3))) := (by simp); replace hE := hE2; clear hE2; generalize World.alloc y0 (.cells #[] 3) = y11 at *; generalize Array.size (World.heap y0) = g0 at *; generalize Value.slice (some ⟨g0, 0, none⟩) 0 0 = v0 at *
                refine hK.out _ _ ?_ (fun hHeld2 => ?_)
                · trivial
                clear hK K hHeld
                have hHeld := hHeld2
                clear hHeld2
                (try simp only [Act.put, List.getElem_toArray, List.getElem_cons_succ, List.getElem_cons_zero, List.setIfInBounds_toArray, List.set_cons_zero, List.set_cons_succ])
                refine wpAnyH_ready (rs := [5, 8]) (by kernel_rfl) (by simp) ?_
                refine AllReadyH.cons (o := _) rfl (fun K hK => ?_) ?_
                · refine step_append_any (by rfl) (.tmp 22) (.tmp 25) (by rfl) hE (by rfl) hO (ad := some A2) (c := c2) (n := q) (l := p.take q) (by rfl) (by rw [List.length_take, HPL.out]; omega) ((HIQ.out.ext hE).preW (by have := HPL.out; omega)) (by have hq := HPL.out; simp only [List.length_append, List.length_take, List.length_drop, List.length_nil, List.length_singleton, List.length_cons]; omega) ?_; intro v1 y4 hO1 hE1 hF; have hE := hE1; have hO := hO1
                  refine hK.out _ _ ?_ (fun hHeld2 => ?_)
                  · trivial
                  clear hK K hHeld
                  have hHeld := hHeld2
                  clear hHeld2
                  (try simp only [Act.put, List.getElem_toArray, List.getElem_cons_succ, List.getElem_cons_zero, List.setIfInBounds_toArray, List.set_cons_zero, List.set_cons_succ])
                  refine wpAnyH_ready (rs := [8]) (by kernel_rfl) (by simp) ?_
                  refine AllReadyH.cons (o := _) rfl (fun K hK => ?_) ?_
                  · go_simp
                    have hB := Blk.new0 y4 #[.int .i64 (IntKind.i64.wrap (N - 1))] 3; have hE2 := hE.alloc' (.cells #[.int .i64 (IntKind.i64.wrap (N - 1))] 3); have hne : v1.ownBlock ≠ some (Array.size (World.heap y4)) := own_neW hO; replace hO := hO.ext (Ext.alloc y4 (.cells #[.int .i64 (IntKind.i64.wrap (N - 1))] 3)); replace hE := hE2; clear hE2; generalize World.alloc y4 (.cells #[.int .i64 (IntKind.i64.wrap (N - 1))] 3) = y13 at *; generalize Array.size (World.heap y4) = pn at *; rw [HWR.out] at hB
                    refine hK.out _ _ ?_ (fun hHeld2 => ?_)
                    · trivial
                    clear hK K hHeld
                    have hHeld := hHeld2
                    clear hHeld2
                    (try simp only [Act.put, List.getElem_toArray, List.getElem_cons_succ, List.getElem_cons_zero, List.setIfInBounds_toArray, List.set_cons_zero, List.set_cons_succ])
                    refine wpAnyH_ready (rs := [9]) (by kernel_rfl) (by simp) ?_
                    refine AllReadyH.cons (o := _) rfl (fun K hK => ?_) ?_
                    · refine step_append_any (by rfl) (.tmp 26) (.tmp 29) (by rfl) hE (by rfl) hO (ad := some ⟨pn, 0, none⟩) (c := 1) (l := [N - 1]) (n := 1) (by rfl) rfl (ints_one hB (by omega)) (by have hq := HPL.out; simp only [List.length_append, List.length_take, List.length_drop, List.length_nil, List.length_singleton, List.length_cons]; omega) ?_; intro v2 y7 hO2 hE2 hF2; have hE := hE2; have hO := hO2
                      refine hK.out _ _ ?_ (fun hHeld2 => ?_)
                      · trivial
                      clear hK K hHeld
                      have hHeld := hHeld2
                      clear hHeld2
                      (try simp only [Act.put, List.getElem_toArray, List.getElem_cons_succ, List.getElem_cons_zero, List.setIfInBounds_toArray, List.set_cons_zero, List.set_cons_succ])
                      refine wpAnyH_ready (rs := [13]) (by kernel_rfl) (by simp) ?_
                      refine AllReadyH.cons (o := _) rfl (fun K hK => ?_) ?_
                      · refine step_append_any (by rfl) (.tmp 30) (.tmp 33) (by rfl) hE (by rfl) hO (ad := some (A2.add q)) (c := c2 - q) (n := n - q) (l := p.drop q) (by rfl) (by have hq := HPL.out; simp only [List.length_drop]; omega) (by have h5 := (HIQ.out.ext hE).sliced (k := q) (by rw [HPL.out]; omega); rw [if_neg hkc3, Nat.mul_one] at h5; exact h5) (by have hq := HPL.out; simp only [List.length_append, List.length_take, List.length_drop, List.length_nil, List.length_singleton, List.length_cons]; omega) ?_; intro v3 y11 hO3 hE3 hF3; obtain ⟨a3, n3, cp3, e3⟩ : ∃ a n c, v3 = .slice a n c := (by obtain ⟨g, c, e, _⟩ := hO3.form; exact ⟨_, _, _, e⟩); subst e3; have hE := hE3; have hO := hO3
                        refine hK.out _ _ ?_ (fun hHeld2 => ?_)
                        · trivial
                        clear hK K hHeld
                        have hHeld := hHeld2
                        clear hHeld2
                        (try simp only [Act.put, List.getElem_toArray, List.getElem_cons_succ, List.getElem_cons_zero, List.setIfInBounds_toArray, List.set_cons_zero, List.set_cons_succ])
                        refine wpAnyH_ready (rs := [14]) (by kernel_rfl) (by simp) ?_
                        refine AllReadyH.cons (o := _) rfl (fun K hK => ?_) ?_
                        · go_simp
                          have hB4 := Blk.new0 y11 #[.slice a3 n3 cp3] 27; have hO4 := hO.ext (Ext.alloc y11 (.cells #[.slice a3 n3 cp3] 27)); have hE4 := hE.alloc' (.cells #[.slice a3 n3 cp3] 27); clear hO hE; generalize World.alloc y11 (.cells #[.slice a3 n3 cp3] 27) = y14 at *; generalize Array.size (World.heap y11) = pr at *
                          refine hK.out _ _ ?_ (fun hHeld2 => ?_)
                          · trivial
                          clear hK K hHeld
                          have hHeld := hHeld2
                          clear hHeld2
                          (try simp only [Act.put, List.getElem_toArray, List.getElem_cons_succ, List.getElem_cons_zero, List.setIfInBounds_toArray, List.set_cons_zero, List.set_cons_succ])
                          refine wpAnyH_ready (rs := [15]) (by kernel_rfl) (by simp) ?_
                          refine AllReadyH.cons (o := _) rfl (fun K hK => ?_) ?_
                          · refine step_append_ownL rdInts (by rfl) (.tmp 21) (.tmp 35) 22 27 (by rfl) Tryz.underlying22 (z := .slice none 0 0) rfl infoIntsW (HXR2.out.trans hE4) (by rfl) (HOW2.out.ext rdInts hE4) (by rfl) hB4 (hO4.isInts (fun x hx => HBB.out x hx)) (hO4.off (fun g e => (HLT.out g e).2)) HLQ.out ?_; intro va vc y15 hL15 hE15; have HL15 := Lib.hid hL15; have HE15 := Lib.hid hE15
                            refine hK.out _ _ ?_ (fun hHeld2 => ?_)
                            · trivial
                            clear hK K hHeld
                            have hHeld := hHeld2
                            clear hHeld2
                            (try simp only [Act.put, List.getElem_toArray, List.getElem_cons_succ, List.getElem_cons_zero, List.setIfInBounds_toArray, List.set_cons_zero, List.set_cons_succ])
                            refine wpAnyH_take (i := 16) (oi := _) (v := ?_) rfl (by kernel_rfl) (by kernel_rfl) (by kernel_rfl) (fun _ _ _ h => h) (Or.inl ⟨by rfl, ?_⟩) (by assumption) ?_
                            rotate_left
                            · (intro w hSw; (try dsimp only at hSw); (try go_simp); (try with_reducible rfl))
                            (try simp only [Act.put, List.getElem_toArray, List.getElem_cons_succ, List.getElem_cons_zero, List.setIfInBounds_toArray, List.set_cons_zero, List.set_cons_succ])
                            refine wpAnyH_done (by kernel_rfl) ?_ _
                            go_wp2_with fail
                            go_roundw
                            case rel => exact ⟨q + 1, by omega, by go_num, by have h := HL15.out; rw [List.length_append] at h; rw [ordP_succ, ← List.append_assoc, ← HN.out, ← HSP.out]; exact h, HE15.out⟩
                            case measure => first | (simp [intOf]; omega) | simp [intOf]
                          exact AllReadyH.nil
                        exact AllReadyH.nil
                      exact AllReadyH.nil
                    exact AllReadyH.nil
                  exact AllReadyH.nil
                refine AllReadyH.cons (o := _) rfl (fun K hK => ?_) ?_
                · go_simp
                  have hB := Blk.new0 y11 #[.int .i64 (IntKind.i64.wrap (N - 1))] 3; have hE2 := hE.alloc' (.cells #[.int .i64 (IntKind.i64.wrap (N - 1))] 3); have hne : v0.ownBlock ≠ some (Array.size (World.heap y11)) := own_neW hO; replace hO := hO.ext (Ext.alloc y11 (.cells #[.int .i64 (IntKind.i64.wrap (N - 1))] 3)); replace hE := hE2; clear hE2; generalize World.alloc y11 (.cells #[.int .i64 (IntKind.i64.wrap (N - 1))] 3) = y12 at *; generalize Array.size (World.heap y11) = pn at *; rw [HWR.out] at hB
                  refine hK.out _ _ ?_ (fun hHeld2 => ?_)
                  · trivial
                  clear hK K hHeld
                  have hHeld := hHeld2
                  clear hHeld2
                  (try simp only [Act.put, List.getElem_toArray, List.getElem_cons_succ, List.getElem_cons_zero, List.setIfInBounds_toArray, List.set_cons_zero, List.set_cons_succ])
                  refine wpAnyH_ready (rs := [5]) (by kernel_rfl) (by simp) ?_
                  refine AllReadyH.cons (o := _) rfl (fun K hK => ?_) ?_
                  · refine step_append_any (by rfl) (.tmp 22) (.tmp 25) (by rfl) hE (by rfl) hO (ad := some A2) (c := c2) (n := q) (l := p.take q) (by rfl) (by rw [List.length_take, HPL.out]; omega) ((HIQ.out.ext hE).preW (by have := HPL.out; omega)) (by have hq := HPL.out; simp only [List.length_append, List.length_take, List.length_drop, List.length_nil, List.length_singleton, List.length_cons]; omega) ?_; intro v1 y4 hO1 hE1 hF; have hE := hE1; have hO := hO1; obtain ⟨hB, hne⟩ := hF _ _ _ hB hne
                    refine hK.out _ _ ?_ (fun hHeld2 => ?_)
                    · trivial
                    clear hK K hHeld
                    have hHeld := hHeld2
                    clear hHeld2
                    (try simp only [Act.put, List.getElem_toArray, List.getElem_cons_succ, List.getElem_cons_zero, List.setIfInBounds_toArray, List.set_cons_zero, List.set_cons_succ])
                    refine wpAnyH_ready (rs := [9]) (by kernel_rfl) (by simp) ?_
                    refine AllReadyH.cons (o := _) rfl (fun K hK => ?_) ?_
                    · refine step_append_any (by rfl) (.tmp 26) (.tmp 29) (by rfl) hE (by rfl) hO (ad := some ⟨pn, 0, none⟩) (c := 1) (l := [N - 1]) (n := 1) (by rfl) rfl (ints_one hB (by omega)) (by have hq := HPL.out; simp only [List.length_append, List.length_take, List.length_drop, List.length_nil, List.length_singleton, List.length_cons]; omega) ?_; intro v2 y7 hO2 hE2 hF2; have hE := hE2; have hO := hO2
                      refine hK.out _ _ ?_ (fun hHeld2 => ?_)
                      · trivial
                      clear hK K hHeld
                      have hHeld := hHeld2
                      clear hHeld2
                      (try simp only [Act.put, List.getElem_toArray, List.getElem_cons_succ, List.getElem_cons_zero, List.setIfInBounds_toArray, List.set_cons_zero, List.set_cons_succ])
                      refine wpAnyH_ready (rs := [13]) (by kernel_rfl) (by simp) ?_
                      refine AllReadyH.cons (o := _) rfl (fun K hK => ?_) ?_
                      · refine step_append_any (by rfl) (.tmp 30) (.tmp 33) (by rfl) hE (by rfl) hO (ad := some (A2.add q)) (c := c2 - q) (n := n - q) (l := p.drop q) (by rfl) (by have hq := HPL.out; simp only [List.length_drop]; omega) (by have h5 := (HIQ.out.ext hE).sliced (k := q) (by rw [HPL.out]; omega); rw [if_neg hkc3, Nat.mul_one] at h5; exact h5) (by have hq := HPL.out; simp only [List.length_append, List.length_take, List.length_drop, List.length_nil, List.length_singleton, List.length_cons]; omega) ?_; intro v3 y11 hO3 hE3 hF3; obtain ⟨a3, n3, cp3, e3⟩ : ∃ a n c, v3 = .slice a n c := (by obtain ⟨g, c, e, _⟩ := hO3.form; exact ⟨_, _, _, e⟩); subst e3; have hE := hE3; have hO := hO3
                        refine hK.out _ _ ?_ (fun hHeld2 => ?_)
                        · trivial
                        clear hK K hHeld
                        have hHeld := hHeld2
                        clear hHeld2
                        (try simp only [Act.put, List.getElem_toArray, List.getElem_cons_succ, List.getElem_cons_zero, List.setIfInBounds_toArray, List.set_cons_zero, List.set_cons_succ])
                        refine wpAnyH_ready (rs := [14]) (by kernel_rfl) (by simp) ?_
                        refine AllReadyH.cons (o := _) rfl (fun K hK => ?_) ?_
                        · go_simp
                          have hB4 := Blk.new0 y11 #[.slice a3 n3 cp3] 27; have hO4 := hO.ext (Ext.alloc y11 (.cells #[.slice a3 n3 cp3] 27)); have hE4 := hE.alloc' (.cells #[.slice a3 n3 cp3] 27); clear hO hE; generalize World.alloc y11 (.cells #[.slice a3 n3 cp3] 27) = y14 at *; generalize Array.size (World.heap y11) = pr at *
                          refine hK.out _ _ ?_ (fun hHeld2 => ?_)
                          · trivial
                          clear hK K hHeld
                          have hHeld := hHeld2
                          clear hHeld2
                          (try simp only [Act.put, List.getElem_toArray, List.getElem_cons_succ, List.getElem_cons_zero, List.setIfInBounds_toArray, List.set_cons_zero, List.set_cons_succ])
                          refine wpAnyH_ready (rs := [15]) (by kernel_rfl) (by simp) ?_
                          refine AllReadyH.cons (o := _) rfl (fun K hK => ?_) ?_
                          · refine step_append_ownL rdInts (by rfl) (.tmp 21) (.tmp 35) 22 27 (by rfl) Tryz.underlying22 (z := .slice none 0 0) rfl infoIntsW (HXR2.out.trans hE4) (by rfl) (HOW2.out.ext rdInts hE4) (by rfl) hB4 (hO4.isInts (fun x hx => HBB.out x hx)) (hO4.off (fun g e => (HLT.out g e).2)) HLQ.out ?_; intro va vc y15 hL15 hE15; have HL15 := Lib.hid hL15; have HE15 := Lib.hid hE15
                            refine hK.out _ _ ?_ (fun hHeld2 => ?_)
                            · trivial
                            clear hK K hHeld
                            have hHeld := hHeld2
                            clear hHeld2
                            (try simp only [Act.put, List.getElem_toArray, List.getElem_cons_succ, List.getElem_cons_zero, List.setIfInBounds_toArray, List.set_cons_zero, List.set_cons_succ])
                            refine wpAnyH_take (i := 16) (oi := _) (v := ?_) rfl (by kernel_rfl) (by kernel_rfl) (by kernel_rfl) (fun _ _ _ h => h) (Or.inl ⟨by rfl, ?_⟩) (by assumption) ?_
                            rotate_left
                            · (intro w hSw; (try dsimp only at hSw); (try go_simp); (try with_reducible rfl))
                            (try simp only [Act.put, List.getElem_toArray, List.getElem_cons_succ, List.getElem_cons_zero, List.setIfInBounds_toArray, List.set_cons_zero, List.set_cons_succ])
                            refine wpAnyH_done (by kernel_rfl) ?_ _
                            go_wp2_with fail
                            go_roundw
                            case rel => exact ⟨q + 1, by omega, by go_num, by have h := HL15.out; rw [List.length_append] at h; rw [ordP_succ, ← List.append_assoc, ← HN.out, ← HSP.out]; exact h, HE15.out⟩
                            case measure => first | (simp [intOf]; omega) | simp [intOf]
                          exact AllReadyH.nil
                        exact AllReadyH.nil
                      exact AllReadyH.nil
                    exact AllReadyH.nil
                  exact AllReadyH.nil
                exact AllReadyH.nil
              refine AllReadyH.cons (o := _) rfl (fun K hK => ?_) ?_
              · go_simp
                have hB := Blk.new0 y0 #[.int .i64 (IntKind.i64.wrap (N - 1))] 3; have hE2 := hE.alloc' (.cells #[.int .i64 (IntKind.i64.wrap (N - 1))] 3); replace hE := hE2; clear hE2; generalize World.alloc y0 (.cells #[.int .i64 (IntKind.i64.wrap (N - 1))] 3) = y14 at *; generalize Array.size (World.heap y0) = pn at *; rw [HWR.out] at hB
                refine hK.out _ _ ?_ (fun hHeld2 => ?_)
                · trivial
                clear hK K hHeld
                have hHeld := hHeld2
                clear hHeld2
                (try simp only [Act.put, List.getElem_toArray, List.getElem_cons_succ, List.getElem_cons_zero, List.setIfInBounds_toArray, List.set_cons_zero, List.set_cons_succ])
                refine wpAnyH_ready (rs := [1]) (by kernel_rfl) (by simp) ?_
                refine AllReadyH.cons (o := _) rfl (fun K hK => ?_) ?_
                · go_simp
                  obtain ⟨hO, hE2⟩ := own_newW hE; have hgl : Array.size (World.heap y14) < Array.size (World.heap (World.alloc y14 (.cells #[] 3))) := (by simp); have hne : Value.ownBlock (.slice (some ⟨Array.size (World.heap y14), 0, none⟩) 0 0) ≠ some pn := (by have h1 := hB.lt; simp only [Value.ownBlock, ne_eq, Option.some.injEq]; omega); replace hB := hB.alloc (.cells #[] 3); replace hE := hE2; clear hE2; generalize World.alloc y14 (.cells #[] 3) = y15 at *; generalize Array.size (World.heap y14) = g0 at *; generalize Value.slice (some ⟨g0, 0, none⟩) 0 0 = v0 at *
                  refine hK.out _ _ ?_ (fun hHeld2 => ?_)
                  · trivial
                  clear hK K hHeld
                  have hHeld := hHeld2
                  clear hHeld2
                  (try simp only [Act.put, List.getElem_toArray, List.getElem_cons_succ, List.getElem_cons_zero, List.setIfInBounds_toArray, List.set_cons_zero, List.set_cons_succ])
                  refine wpAnyH_ready (rs := [5]) (by kernel_rfl) (by simp) ?_
                  refine AllReadyH.cons (o := _) rfl (fun K hK => ?_) ?_
                  · refine step_append_any (by rfl) (.tmp 22) (.tmp 25) (by rfl) hE (by rfl) hO (ad := some A2) (c := c2) (n := q) (l := p.take q) (by rfl) (by rw [List.length_take, HPL.out]; omega) ((HIQ.out.ext hE).preW (by have := HPL.out; omega)) (by have hq := HPL.out; simp only [List.length_append, List.length_take, List.length_drop, List.length_nil, List.length_singleton, List.length_cons]; omega) ?_; intro v1 y4 hO1 hE1 hF; have hE := hE1; have hO := hO1; obtain ⟨hB, hne⟩ := hF _ _ _ hB hne
                    refine hK.out _ _ ?_ (fun hHeld2 => ?_)
                    · trivial
                    clear hK K hHeld
                    have hHeld := hHeld2
                    clear hHeld2
                    (try simp only [Act.put, List.getElem_toArray, List.getElem_cons_succ, List.getElem_cons_zero, List.setIfInBounds_toArray, List.set_cons_zero, List.set_cons_succ])
                    refine wpAnyH_ready (rs := [9]) (by kernel_rfl) (by simp) ?_
                    refine AllReadyH.cons (o := _) rfl (fun K hK => ?_) ?_
                    · refine step_append_any (by rfl) (.tmp 26) (.tmp 29) (by rfl) hE (by rfl) hO (ad := some ⟨pn, 0, none⟩) (c := 1) (l := [N - 1]) (n := 1) (by rfl) rfl (ints_one hB (by omega)) (by have hq := HPL.out; simp only [List.length_append, List.length_take, List.length_drop, List.length_nil, List.length_singleton, List.length_cons]; omega) ?_; intro v2 y7 hO2 hE2 hF2; have hE := hE2; have hO := hO2
                      refine hK.out _ _ ?_ (fun hHeld2 => ?_)
                      · trivial
                      clear hK K hHeld
                      have hHeld := hHeld2
                      clear hHeld2
                      (try simp only [Act.put, List.getElem_toArray, List.getElem_cons_succ, List.getElem_cons_zero, List.setIfInBounds_toArray, List.set_cons_zero, List.set_cons_succ])
                      refine wpAnyH_ready (rs := [13]) (by kernel_rfl) (by simp) ?_
                      refine AllReadyH.cons (o := _) rfl (fun K hK => ?_) ?_
                      · refine step_append_any (by rfl) (.tmp 30) (.tmp 33) (by rfl) hE (by rfl) hO (ad := some (A2.add q)) (c := c2 - q) (n := n - q) (l := p.drop q) (by rfl) (by have hq := HPL.out; simp only [List.length_drop]; omega) (by have h5 := (HIQ.out.ext hE).sliced (k := q) (by rw [HPL.out]; omega); rw [if_neg hkc3, Nat.mul_one] at h5; exact h5) (by have hq := HPL.out; simp only [List.length_append, List.length_take, List.length_drop, List.length_nil, List.length_singleton, List.length_cons]; omega) ?_; intro v3 y11 hO3 hE3 hF3; obtain ⟨a3, n3, cp3, e3⟩ : ∃ a n c, v3 = .slice a n c := (by obtain ⟨g, c, e, _⟩ := hO3.form; exact ⟨_, _, _, e⟩); subst e3; have hE := hE3; have hO := hO3
                        refine hK.out _ _ ?_ (fun hHeld2 => ?_)
                        · trivial
                        clear hK K hHeld
                        have hHeld := hHeld2
                        clear hHeld2
                        (try simp only [Act.put, List.getElem_toArray, List.getElem_cons_succ, List.getElem_cons_zero, List.setIfInBounds_toArray, List.set_cons_zero, List.set_cons_succ])
                        refine wpAnyH_ready (rs := [14]) (by kernel_rfl) (by simp) ?_
                        refine AllReadyH.cons (o := _) rfl (fun K hK => ?_) ?_
                        · go_simp
                          have hB4 := Blk.new0 y11 #[.slice a3 n3 cp3] 27; have hO4 := hO.ext (Ext.alloc y11 (.cells #[.slice a3 n3 cp3] 27)); have hE4 := hE.alloc' (.cells #[.slice a3 n3 cp3] 27); clear hO hE; generalize World.alloc y11 (.cells #[.slice a3 n3 cp3] 27) = y14 at *; generalize Array.size (World.heap y11) = pr at *
                          refine hK.out _ _ ?_ (fun hHeld2 => ?_)
                          · trivial
                          clear hK K hHeld
                          have hHeld := hHeld2
                          clear hHeld2
                          (try simp only [Act.put, List.getElem_toArray, List.getElem_cons_succ, List.getElem_cons_zero, List.setIfInBounds_toArray, List.set_cons_zero, List.set_cons_succ])
                          refine wpAnyH_ready (rs := [15]) (by kernel_rfl) (by simp) ?_
                          refine AllReadyH.cons (o := _) rfl (fun K hK => ?_) ?_
                          · refine step_append_ownL rdInts (by rfl) (.tmp 21) (.tmp 35) 22 27 (by rfl) Tryz.underlying22 (z := .slice none 0 0) rfl infoIntsW (HXR2.out.trans hE4) (by rfl) (HOW2.out.ext rdInts hE4) (by rfl) hB4 (hO4.isInts (fun x hx => HBB.out x hx)) (hO4.off (fun g e => (HLT.out g e).2)) HLQ.out ?_; intro va vc y15 hL15 hE15; have HL15 := Lib.hid hL15; have HE15 := Lib.hid hE15
                            refine hK.out _ _ ?_ (fun hHeld2 => ?_)
                            · trivial
                            clear hK K hHeld
                            have hHeld := hHeld2
                            clear hHeld2
                            (try simp only [Act.put, List.getElem_toArray, List.getElem_cons_succ, List.getElem_cons_zero, List.setIfInBounds_toArray, List.set_cons_zero, List.set_cons_succ])
                            refine wpAnyH_take (i := 16) (oi := _) (v := ?_) rfl (by kernel_rfl) (by kernel_rfl) (by kernel_rfl) (fun _ _ _ h => h) (Or.inl ⟨by rfl, ?_⟩) (by assumption) ?_
                            rotate_left
                            · (intro w hSw; (try dsimp only at hSw); (try go_simp); (try with_reducible rfl))
                            (try simp only [Act.put, List.getElem_toArray, List.getElem_cons_succ, List.getElem_cons_zero, List.setIfInBounds_toArray, List.set_cons_zero, List.set_cons_succ])
                            refine wpAnyH_done (by kernel_rfl) ?_ _
                            go_wp2_with fail
                            go_roundw
                            case rel => exact ⟨q + 1, by omega, by go_num, by have h := HL15.out; rw [List.length_append] at h; rw [ordP_succ, ← List.append_assoc, ← HN.out, ← HSP.out]; exact h, HE15.out⟩
                            case measure => first | (simp [intOf]; omega) | simp [intOf]
                          exact AllReadyH.nil
                        exact AllReadyH.nil
                      exact AllReadyH.nil
                    exact AllReadyH.nil
                  exact AllReadyH.nil
                exact AllReadyH.nil
              exact AllReadyH.nil
        · have g4 : ¬ (q : Int) < N := by have := HN.out; omega
          obtain rfl : q = n + 1 := by omega
          have HPP2 : Hid ((LL.take (k + 1)).flatMap (fun p => ordP n p (n + 1)) = PP ++ ordP n p (n + 1)) := Lib.hid (by rw [HTK.out, List.flatMap_append, ← HPP.out]; simp)
          go_wp2_with fail
          go_roundw
          case rel => exact ⟨k + 1, by omega, by go_num, by rw [HPP2.out]; exact HOW2.out, HXR2.out⟩
          case measure => simp [intOf]; omega
    · have g4 : ¬ (k : Int) < (LL.length : Int) := by omega
      have hall : (LL.take k).flatMap (fun p => ordP n p (n + 1)) = ordersL (n + 1) := by rw [List.take_of_length_le (by omega), ← HLL.out]; rfl
      have HOW3 := Lib.hid (by rw [hall] at HOW; exact HOW.out.low HX1.out.size : OwnL IsInts wA (Array.size (World.heap w)) 27 _ (ordersL (n + 1)))
      clear HOW hall
      go_wp2_with fail
      go_ret
      exact ⟨_, rfl, HOW3.out, HX1.out.trans HXR.out⟩
theorem law42_orders : ∀ (n : Nat) (w : World), n ≤ 8 → Calls Tryz.prog 21 #[.int .i64 (n : Int)] w (OrdLP n w) := by
  intro n
  induction n with
  | zero => intro w _; exact law42_orders_zero w
  | succ n ih => intro w h; exact law42_orders_step n ((n + 1 : Nat) : Int) (by omega) (by omega) w (fun W => ih W (by omega))
end Go.Proofs.YtmcbbhlglccmgaaGreat

namespace Go.Proofs.YtmcbbhlglccmgaaGreat
open Go.RowKit Go BigFrame Go.Shelf
set_option maxRecDepth 100000
set_option linter.unusedSimpArgs false
set_option linter.unusedVariables false

/-! Layer 42: ref10.Int; least and valid of the law. -/
def RatQ (r : Rat) (w : World) (e : Ending) (w' : World) : Prop := ∃ v, e = .returned v ∧ RatN w' v r w.heap.size ∧ Ext w w'
theorem ratN_of {w : World} {n1 n2 : Bool} {a b : Option Addr} {q c k d B : Nat} {r : Rat} (h1 : BigV w (.agg #[.bool n1, .slice a q c]) r.num) (h2 : BigV w (.agg #[.bool n2, .slice b k d]) (r.den : Int)) (h3 : ∀ A, a = some A → B ≤ A.block) (h4 : ∀ A, b = some A → B ≤ A.block) :
    RatN w (.agg #[.bool n1, .slice a q c, .bool n2, .slice b k d]) r B := by
  have hv := RatV.mk h1 h2
  obtain ⟨n1', a', q', c', b', k', d', e⟩ := hv.form
  have e' := e
  simp only [Value.agg.injEq, Array.mk.injEq, List.cons.injEq, Value.bool.injEq, Value.slice.injEq, and_true] at e'
  obtain ⟨rfl, ⟨rfl, rfl, rfl⟩, rfl, ⟨rfl, rfl, rfl⟩⟩ := e'
  exact ⟨_, _, _, _, _, _, _, rfl, hv, h3, h4⟩
set_option maxHeartbeats 4000000 in
theorem ref10_Int (n : Int) (w : World) (hn : -9223372036854775808 ≤ n ∧ n ≤ 9223372036854775807) : Calls Tryz.prog 55 #[.int .i64 n] w (RatQ (n : Rat) w) := by
  have HN := Lib.hid hn
  clear hn
  obtain ⟨x1, hw, hx, Kr⟩ := boxQ1 w #[.bool false, .slice none 0 0, .bool false, .slice none 0 0] 34
  replace hw := Lib.hid hw
  go_enter Tryz.func55, Tryz.ntmps55
  go_upto_region 1 with fail
  try simp only [Nat.add_assoc, Nat.reduceAdd, Nat.add_zero]
  rw [hw.out]
  clear hw
  have hs0 := hx.size
  obtain ⟨cr0, cr1, cr2, cr3⟩ := bk4 Kr
  have hsz := hx.size
  go_wp2_with fail
  clear cr0 cr1 cr2 cr3
  refine (ref_Make n _ HN.out).mono ?_
  rintro e x2 ⟨v, rfl, hv, hy⟩
  replace hx := hx.trans hy
  replace Kr := kE Kr hy
  clear hy
  obtain ⟨nu, au, qu, cu, rfl, hv', hf'⟩ := hv.two
  have Vu := Lib.hid hv'
  have Fu := Lib.hid (fun A hA => Nat.le_trans hsz (hf' A hA))
  clear hv' hf' hsz
  obtain ⟨cr0, cr1, cr2, cr3⟩ := bk4 Kr
  have hsz := hx.size
  go_wp2_with fail
  clear cr0 cr1 cr2 cr3
  refine (ref_Make 1 _ (by omega)).mono ?_
  rintro e x3 ⟨v, rfl, hv, hy⟩
  replace hx := hx.trans hy
  replace Kr := kE Kr hy
  replace Vu := Lib.hid (Vu.out.ext hy)
  clear hy
  obtain ⟨nv, av, qv, cv, rfl, hv', hf'⟩ := hv.two
  have Vv := Lib.hid hv'
  have Fv := Lib.hid (fun A hA => Nat.le_trans hsz (hf' A hA))
  clear hv' hf' hsz
  obtain ⟨cr0, cr1, cr2, cr3⟩ := bk4 Kr
  obtain ⟨g0, z0, g1, z1, g2, z2, g3, z3⟩ := bp4 Kr (.bool nu) (.slice au qu cu) (.bool nv) (.slice av qv cv)
  go_wp2_with fail
  clear g0 z0 g1 z1 g2 z2 g3 z3
  clear cr0 cr1 cr2 cr3
  replace Vu := (by first | exact rv4 Vu Kr (.bool nu) (.slice au qu cu) (.bool nv) (.slice av qv cv) rfl rfl rfl rfl | exact bv4 Vu Kr (.bool nu) (.slice au qu cu) (.bool nv) (.slice av qv cv) rfl rfl rfl rfl)
  replace Vv := (by first | exact rv4 Vv Kr (.bool nu) (.slice au qu cu) (.bool nv) (.slice av qv cv) rfl rfl rfl rfl | exact bv4 Vv Kr (.bool nu) (.slice au qu cu) (.bool nv) (.slice av qv cv) rfl rfl rfl rfl)
  replace hx := bx4 hx (w.heap.size) (.bool nu) (.slice au qu cu) (.bool nv) (.slice av qv cv) (by omega)
  replace Kr := bs4 Kr (.bool nu) (.slice au qu cu) (.bool nv) (.slice av qv cv)
  generalize ((((x3).setCell ⟨w.heap.size, 0, none⟩ (.bool nu)).setCell ⟨w.heap.size, 1, none⟩ (.slice au qu cu)).setCell ⟨w.heap.size, 2, none⟩ (.bool nv)).setCell ⟨w.heap.size, 3, none⟩ (.slice av qv cv) = x4 at *
  obtain ⟨cr0, cr1, cr2, cr3⟩ := bk4 Kr
  refine bodyPost_ret (v := .agg #[.bool nu, .slice au qu cu, .bool nv, .slice av qv cv]) (by simp [results, Tryz.results55, go_sem, cr0, cr1, cr2, cr3]) rfl ?_
  exact ⟨_, rfl, ratN_of (by simpa using Vu.out) (by simpa using Vv.out) Fu.out Fv.out, hx⟩
set_option maxHeartbeats 4000000 in
theorem law42_least {pv : Value} {r : Rat} (n d : Nat) (w : World) (hp : RatV w pv r) (hs : Sz r 2) (hn : n ≤ 1000000) (hd : d ≤ 1000000) (h0 : d ≠ 0) :
    Calls Tryz.prog 54 #[pv, .int .i64 n, .int .i64 d] w fun e w' => e = .returned (.bool (decide (cmpR (Rat.divInt n d) r ≤ 0))) ∧ Ext w w' := by
  obtain ⟨n1, a1, q1, c1, b1, k1, d1, rfl⟩ := hp.form
  have V0 := Lib.hid hp
  have HM := Lib.hid (fun W => rMakeR (n : Int) (d : Int) W (by omega) (by omega) (by omega))
  have HSZ : Hid (Sz (Rat.divInt n d) 1) := Lib.hid (divInt_sz (by simp; omega) (by simp; omega) (by omega))
  have HS2 := Lib.hid hs
  obtain ⟨bb, hbb⟩ : ∃ bb, decide (cmpR (Rat.divInt n d) r ≤ 0) = bb := ⟨_, rfl⟩
  rw [hbb]
  have HB := Lib.hid hbb
  clear hp hn hd h0 hs hbb
  obtain ⟨x1, hw, hx, Kp⟩ := boxQ1 w #[.bool n1, .slice a1 q1 c1, .bool false, .slice b1 k1 d1] 34
  replace hw := Lib.hid hw
  replace V0 := Lib.hid (V0.out.ext hx)
  go_enter Tryz.func54, Tryz.ntmps54
  go_upto_region 1 with fail
  rw [hw.out]
  clear hw
  have hs0 := hx.size
  obtain ⟨cp0, cp1, cp2, cp3⟩ := bk4 Kp
  have hsz := hx.size
  go_wp2_with fail
  clear cp0 cp1 cp2 cp3
  refine (HM.out _).mono ?_
  rintro e x2 ⟨v, rfl, hv, hy⟩
  replace hx := hx.trans hy
  replace Kp := kE Kp hy
  replace V0 := Lib.hid (V0.out.ext hy)
  clear hy HM
  obtain ⟨nx, ax, qx, cx, bx, kx, dx, rfl, hv', hf', hg'⟩ := hv
  have Vx := Lib.hid hv'
  have Fx := Lib.hid (fun A hA => Nat.le_trans hsz (hf' A hA))
  have Gx := Lib.hid (fun A hA => Nat.le_trans hsz (hg' A hA))
  clear hv' hf' hg' hsz
  clear Fx Gx
  go_upto_region 2 with fail
  have hl := Ext.alloc x2 (.cells #[.bool nx, .slice ax qx cx, .bool false, .slice bx kx dx] 34)
  have lpx : w.heap.size < x2.heap.size := Kp.out.lt
  have hpx : w.heap.size ≤ x2.heap.size := hx.size
  replace hx := hx.trans hl
  replace Kp := kE Kp hl
  replace V0 := Lib.hid (V0.out.ext hl)
  replace Vx := Lib.hid (Vx.out.ext hl)
  have Kx := Lib.hid (Blk.new0 x2 #[.bool nx, .slice ax qx cx, .bool false, .slice bx kx dx] 34)
  clear hl
  generalize x2.alloc (.cells #[.bool nx, .slice ax qx cx, .bool false, .slice bx kx dx] 34) = x3 at *
  generalize x2.heap.size = px at *
  obtain ⟨cp0, cp1, cp2, cp3⟩ := bk4 Kp
  obtain ⟨cx0, cx1, cx2, cx3⟩ := bk4 Kx
  go_wp2_with fail
  with_reducible refine ((rCmp_valR Vx.out V0.out HSZ.out HS2.out (by omega))).mono ?_
  clear cp0 cp1 cp2 cp3 cx0 cx1 cx2 cx3
  rintro e x4 ⟨rfl, hy⟩
  replace hx := hx.trans hy
  replace Kp := kE Kp hy
  replace Kx := kE Kx hy
  replace V0 := Lib.hid (V0.out.ext hy)
  replace Vx := Lib.hid (Vx.out.ext hy)
  clear hy
  generalize cmpR (Rat.divInt n d) r = z at *
  have HB2 := HB.out
  by_cases hz : z ≤ 0
  · rw [decide_eq_true hz] at HB2
    subst HB2
    have v1 : decide (z ≤ 0) = true := decide_eq_true hz
    clear HB
    go_wp2_with fail
    go_ret
    exact ⟨rfl, hx⟩
  · rw [decide_eq_false hz] at HB2
    subst HB2
    have v1 : decide (z ≤ 0) = false := decide_eq_false hz
    clear HB
    go_wp2_with fail
    go_ret
    exact ⟨rfl, hx⟩
/-- How many of the first k are not greater than r. -/
def cntQ (rs : List Rat) (r : Rat) (k : Nat) : Nat := (rs.take k).countP fun q => decide (cmpR q r ≤ 0)
theorem cntQ_succ (rs : List Rat) (r : Rat) {k : Nat} (hk : k < rs.length) : cntQ rs r (k + 1) = cntQ rs r k + if cmpR (rs.getD k 0) r ≤ 0 then 1 else 0 := by
  unfold cntQ
  rw [List.take_add_one, List.countP_append, List.getD_eq_getElem?_getD, List.getElem?_eq_getElem hk]
  by_cases h : cmpR rs[k] r ≤ 0 <;> simp [h]
theorem cntQ_le (rs : List Rat) (r : Rat) (k : Nat) : cntQ rs r k ≤ k := Nat.le_trans List.countP_le_length (by rw [List.length_take]; omega)
/-- What valid asks for. -/
def FairL (rs : List Rat) : Prop := ∀ r ∈ rs, cmpR (Rat.divInt (cntQ rs r rs.length : Nat) (rs.length : Nat)) r ≤ 0 ∧ cmpR r 1 ≤ 0 ∧ Sz r 2
set_option maxHeartbeats 8000000 in
theorem law42_valid (g cap B : Nat) (L : List RatC) (rs : List Rat) (w : World) (h : OwnRats w B (.slice (some ⟨g, 0, none⟩) L.length cap) L rs) (hl : 0 < L.length) (hm : L.length ≤ 100000) (hf : FairL rs) :
    Calls Tryz.prog 20 #[.slice (some ⟨g, 0, none⟩) L.length cap] w fun e w' => e = .returned (.bool true) ∧ Ext w w' := by
  obtain ⟨ag, cg, e0, hle, hmx⟩ := h.form
  simp only [Value.slice.injEq] at e0
  obtain ⟨-, -, rfl⟩ := e0
  have HO := Lib.hid h
  have HF := Lib.hid hf
  have hlr := h.len
  have HLR := Lib.hid hlr
  obtain ⟨N, hN⟩ : ∃ N, N = L.length := ⟨_, rfl⟩
  have HN := Lib.hid hN
  rw [← hN] at hle hl hm ⊢
  clear h hf hlr hN
  go_enter Tryz.func20, Tryz.ntmps20
  go_wp2_with fail
  go_loopw [14] (fun i wr => ∃ k : Nat, k ≤ N ∧ i = .int .i64 k ∧ Ext w wr) (fun i _ => N - (intOf i).toNat)
  case atStart => exact ⟨0, Nat.zero_le _, rfl, Ext.refl _⟩
  case round =>
    obtain ⟨k, hk, rfl, hxr⟩ := hrel
    generalize wr = wR at *
    have g1 : (0 : Int) ≤ (k : Int) := by omega
    by_cases hkn : k < N
    · have g2 : (k : Int) < (N : Int) := by omega
      have hO := HO.out.ext hxr
      have hip : k < L.length := by rw [← HN.out]; assumption
      obtain ⟨c0, c1, c2, c3⟩ := hO.cells hip
      have hvp := hO.val k hip
      have HRp : Hid (rs.getD k 0 ∈ rs) := Lib.hid (by rw [List.getD_eq_getElem?_getD, List.getElem?_eq_getElem (by rw [← HLR.out]; exact hip)]; exact List.getElem_mem _)
      generalize hgp : L[k] = ep at *
      obtain ⟨np, ap, qp, cp, mp, bp, kp, dp⟩ := ep
      dsimp only at c0 c1 c2 c3
      clear hgp hO hip
      have Vp := Lib.hid (show RatV wR (.agg #[.bool np, .slice ap qp cp, .bool mp, .slice bp kp dp]) (rs.getD k 0) from hvp)
      clear hvp
      have hsk := Lib.hid (HF.out _ HRp.out)
      generalize rs.getD k 0 = rp at *
      have hx := hxr
      have hs0 := hx.size
      go_upto_region 4 with fail
      have hl := Ext.alloc wR (.cells #[.bool np, .slice ap qp cp, .bool mp, .slice bp kp dp] 34)
      have hpp : w.heap.size ≤ wR.heap.size := hx.size
      replace hx := hx.trans hl
      replace Vp := Lib.hid (Vp.out.ext hl)
      have Kp := Lib.hid (Blk.new0 wR #[.bool np, .slice ap qp cp, .bool mp, .slice bp kp dp] 34)
      clear hl
      generalize wR.alloc (.cells #[.bool np, .slice ap qp cp, .bool mp, .slice bp kp dp] 34) = x1 at *
      generalize wR.heap.size = pp at *
      clear c0 c1 c2 c3
      have HXP := Lib.hid hx
      have HKp := Kp
      have HVp := Vp
      clear hxr
      go_wp2_with fail
      clear hx Kp Vp
      go_loopw [5, 20] (fun s5 i wr => ∃ q : Nat, q ≤ N ∧ i = .int .i64 q ∧ s5 = .int .i64 (cntQ rs rp q : Nat) ∧ Ext x1 wr) (fun _ i _ => N - (intOf i).toNat)
      case atStart => exact ⟨0, Nat.zero_le _, rfl, rfl, Ext.refl _⟩
      case round =>
        obtain ⟨q, hq, rfl, rfl, hxr⟩ := hrel
        have g3 : (0 : Int) ≤ (q : Int) := by omega
        have b1 := cntQ_le rs rp q
        have hx := HXP.out.trans hxr
        have Kp := kE HKp hxr
        have Vp := Lib.hid (HVp.out.ext hxr)
        by_cases hqn : q < N
        · have g4 : (q : Int) < (N : Int) := by omega
          have hs1 := cntQ_succ rs rp (k := q) (by rw [← HLR.out, ← HN.out]; exact hqn)
          have hO := HO.out.ext hx
          have hiu : q < L.length := by rw [← HN.out]; assumption
          obtain ⟨c0, c1, c2, c3⟩ := hO.cells hiu
          have hvu := hO.val q hiu
          have HRu : Hid (rs.getD q 0 ∈ rs) := Lib.hid (by rw [List.getD_eq_getElem?_getD, List.getElem?_eq_getElem (by rw [← HLR.out]; exact hiu)]; exact List.getElem_mem _)
          generalize hgu : L[q] = eu at *
          obtain ⟨nu, au, qu, cu, mu, bu, ku, du⟩ := eu
          dsimp only at c0 c1 c2 c3
          clear hgu hO hiu
          have Vu := Lib.hid (show RatV wr (.agg #[.bool nu, .slice au qu cu, .bool mu, .slice bu ku du]) (rs.getD q 0) from hvu)
          clear hvu
          have hsq := Lib.hid (HF.out _ HRu.out)
          generalize rs.getD q 0 = ru at *
          have HS1 := Lib.hid hs1
          generalize cntQ rs rp q = C at *
          clear hs1
          have hxr0 := Lib.hid hxr
          have hs0 := hx.size
          have HXR := Lib.hid (hxr.alloc' (.cells #[.bool nu, .slice au qu cu, .bool mu, .slice bu ku du] 34))
          go_upto_region 8 with fail
          have hl := Ext.alloc wr (.cells #[.bool nu, .slice au qu cu, .bool mu, .slice bu ku du] 34)
          have lpu : pp < wr.heap.size := Kp.out.lt
          have hpu : w.heap.size ≤ wr.heap.size := hx.size
          replace hx := hx.trans hl
          replace Kp := kE Kp hl
          replace Vp := Lib.hid (Vp.out.ext hl)
          replace Vu := Lib.hid (Vu.out.ext hl)
          have Ku := Lib.hid (Blk.new0 wr #[.bool nu, .slice au qu cu, .bool mu, .slice bu ku du] 34)
          clear hl
          generalize wr.alloc (.cells #[.bool nu, .slice au qu cu, .bool mu, .slice bu ku du] 34) = x2 at *
          generalize wr.heap.size = pu at *
          clear c0 c1 c2 c3
          obtain ⟨cp0, cp1, cp2, cp3⟩ := bk4 Kp
          obtain ⟨cu0, cu1, cu2, cu3⟩ := bk4 Ku
          go_wp2_with fail
          clear cp0 cp1 cp2 cp3 cu0 cu1 cu2 cu3
          with_reducible refine (rCmp_valR Vu.out Vp.out hsq.out.2.2 hsk.out.2.2 (by omega)).mono ?_
          rintro e x3 ⟨rfl, hy⟩
          have HXR2 := Lib.hid (HXR.out.trans hy)
          clear hy HXR
          by_cases hz : cmpR ru rp ≤ 0
          · have v1 : decide (cmpR ru rp ≤ 0) = true := decide_eq_true hz
            have hs2 := HS1.out
            rw [if_pos hz] at hs2
            have HS2 := Lib.hid hs2
            clear hs2
            generalize cmpR ru rp = z at *
            go_wp2_with fail
            go_roundw
            case rel => exact ⟨q + 1, by omega, by go_num, by rw [HS2.out]; simp, HXR2.out⟩
            case measure => simp [intOf]; omega
          · have v1 : decide (cmpR ru rp ≤ 0) = false := decide_eq_false hz
            have hs2 := HS1.out
            rw [if_neg hz] at hs2
            have HS2 := Lib.hid hs2
            clear hs2
            generalize cmpR ru rp = z at *
            go_wp2_with fail
            go_roundw
            case rel => exact ⟨q + 1, by omega, by go_num, by rw [HS2.out]; simp, HXR2.out⟩
            case measure => simp [intOf]; omega
        · have g4 : ¬ (q : Int) < (N : Int) := by omega
          obtain rfl : q = N := by omega
          obtain ⟨f1, f2, f3⟩ := hsk.out
          rw [← HLR.out, ← HN.out] at f1
          have HLe := Lib.hid (fun W pv (hp : RatV W pv rp) => (by have := law42_least (cntQ rs rp q) q W hp f3 (by omega) (by omega) (by omega); rw [decide_eq_true f1] at this; exact this : Calls Tryz.prog 54 #[pv, .int .i64 (cntQ rs rp q : Nat), .int .i64 q] W fun e w' => e = .returned (.bool true) ∧ Ext W w'))
          generalize cntQ rs rp q = C at *
          have HF3 := Lib.hid f3
          clear f1 f3
          have hs0 := hx.size
          obtain ⟨cp0, cp1, cp2, cp3⟩ := bk4 Kp
          go_wp2_with fail
          with_reducible refine (HLe.out _ _ Vp.out).mono ?_
          clear cp0 cp1 cp2 cp3
          rintro e x2 ⟨rfl, hy⟩
          replace hx := hx.trans hy
          replace Kp := kE Kp hy
          replace Vp := Lib.hid (Vp.out.ext hy)
          clear hy
          obtain ⟨cp0, cp1, cp2, cp3⟩ := bk4 Kp
          go_upto_region 14 with fail
          clear cp0 cp1 cp2 cp3
          have v1 : decide (0 < cmpR rp 1) = false := decide_eq_false (by omega)
          have HS1 : Hid (Sz (1 : Rat) 1) := Lib.hid ⟨by decide, by decide⟩
          have hsz : True := trivial
          have s0 : World.cell? x2 ⟨pp, 0, none⟩ = some (.bool np) := Kp.out.cell (i := 0) (v := .bool np) rfl
          have s1 : World.cell? x2 ⟨pp, 1, none⟩ = some (.slice ap qp cp) := Kp.out.cell (i := 1) (v := .slice ap qp cp) rfl
          have s2 : World.cell? x2 ⟨pp, 2, none⟩ = some (.bool mp) := Kp.out.cell (i := 2) (v := .bool mp) rfl
          have s3 : World.cell? x2 ⟨pp, 3, none⟩ = some (.slice bp kp dp) := Kp.out.cell (i := 3) (v := .slice bp kp dp) rfl
          have hE : Ext x2 (World.drew x2) := (Ext.refl _).drew
          have hyd : Ext x2 (World.drew x2) := (Ext.refl _).drew
          replace hx := hx.trans hyd
          replace Kp := kE Kp hyd
          replace Vp := Lib.hid (Vp.out.ext hyd)
          clear hyd
          replace s0 : World.cell? (World.drew x2) ⟨pp, 0, none⟩ = some (.bool np) := s0
          replace s1 : World.cell? (World.drew x2) ⟨pp, 1, none⟩ = some (.slice ap qp cp) := s1
          replace s2 : World.cell? (World.drew x2) ⟨pp, 2, none⟩ = some (.bool mp) := s2
          replace s3 : World.cell? (World.drew x2) ⟨pp, 3, none⟩ = some (.slice bp kp dp) := s3
          refine wp_region_held_drew (S := (fun w' => World.cell? w' ⟨pp, 0, none⟩ = some (.bool np) ∧ World.cell? w' ⟨pp, 1, none⟩ = some (.slice ap qp cp) ∧ World.cell? w' ⟨pp, 2, none⟩ = some (.bool mp) ∧ World.cell? w' ⟨pp, 3, none⟩ = some (.slice bp kp dp))) (by kernel_rfl) ?_ (fun hHeld => ?_)
          · exact ⟨s0, s1, s2, s3⟩
          (try simp only [← List.toArray_replicate, List.size_toArray, List.length_cons, List.length_nil, Nat.reduceAdd, List.replicate_succ, List.replicate_zero])
          generalize World.drew x2 = x3 at *
          refine wpAnyH_take (i := 0) (oi := _) (v := ?_) rfl (by kernel_rfl) (by kernel_rfl) (by kernel_rfl) (fun _ _ _ h => h) (Or.inl ⟨by rfl, ?_⟩) (by assumption) ?_
          rotate_left
          · (intro w hSw; (try dsimp only at hSw); (try go_simp); (try with_reducible rfl))
          (try simp only [Act.put, List.getElem_toArray, List.getElem_cons_succ, List.getElem_cons_zero, List.setIfInBounds_toArray, List.set_cons_zero, List.set_cons_succ])
          refine wpAnyH_ready (rs := [1]) (by kernel_rfl) (by simp) ?_
          refine AllReadyH.cons (o := _) rfl (fun K hK => ?_) ?_
          · go_simp
            (with_reducible refine (ref10_Int 1 _ (by omega)).mono ?_); rintro e x4 ⟨v, rfl, hv, hy⟩; replace hE := hE.trans hy; replace hx := hx.trans hy; replace s0 := cell_exQ hy s0; replace s1 := cell_exQ hy s1; replace s2 := cell_exQ hy s2; replace s3 := cell_exQ hy s3; replace Kp := kE Kp hy; replace Vp := Lib.hid (Vp.out.ext hy); clear hy; obtain ⟨ni, ai, qi, ci, bi, ki, di, rfl, hv, -, -⟩ := hv; have Vi := Lib.hid (show RatV _ _ (1 : Rat) from hv); clear hv
            refine hK.out _ _ ?_ (fun hHeld2 => ?_)
            · exact ⟨s0, s1, s2, s3⟩
            clear hK K hHeld
            have hHeld := hHeld2
            clear hHeld2
            (try simp only [Act.put, List.getElem_toArray, List.getElem_cons_succ, List.getElem_cons_zero, List.setIfInBounds_toArray, List.set_cons_zero, List.set_cons_succ])
            refine wpAnyH_ready (rs := [2]) (by kernel_rfl) (by simp) ?_
            refine AllReadyH.cons (o := _) rfl (fun K hK => ?_) ?_
            · go_simp
              (with_reducible refine (rCmp_valR Vp.out Vi.out HF3.out HS1.out (by omega)).mono ?_); rintro e x5 ⟨rfl, hy⟩; replace hE := hE.trans hy; replace hx := hx.trans hy; replace s0 := cell_exQ hy s0; replace s1 := cell_exQ hy s1; replace s2 := cell_exQ hy s2; replace s3 := cell_exQ hy s3; replace Kp := kE Kp hy; replace Vp := Lib.hid (Vp.out.ext hy); replace Vi := Lib.hid (Vi.out.ext hy); clear hy
              refine hK.out _ _ ?_ (fun hHeld2 => ?_)
              · exact ⟨s0, s1, s2, s3⟩
              clear hK K hHeld
              have hHeld := hHeld2
              clear hHeld2
              (try simp only [Act.put, List.getElem_toArray, List.getElem_cons_succ, List.getElem_cons_zero, List.setIfInBounds_toArray, List.set_cons_zero, List.set_cons_succ])
              refine wpAnyH_take (i := 3) (oi := _) (v := ?_) rfl (by kernel_rfl) (by kernel_rfl) (by kernel_rfl) (fun _ _ _ h => h) (Or.inl ⟨by rfl, ?_⟩) (by assumption) ?_
              rotate_left
              · (intro w hSw; (try dsimp only at hSw); (try go_simp); (try with_reducible rfl))
              (try simp only [Act.put, List.getElem_toArray, List.getElem_cons_succ, List.getElem_cons_zero, List.setIfInBounds_toArray, List.set_cons_zero, List.set_cons_succ])
              refine wpAnyH_take (i := 4) (oi := _) (v := ?_) rfl (by kernel_rfl) (by kernel_rfl) (by kernel_rfl) (fun _ _ _ h => h) (Or.inl ⟨by rfl, ?_⟩) (by assumption) ?_
              rotate_left
              · (intro w hSw; (try dsimp only at hSw); (try go_simp); (try with_reducible rfl))
              (try simp only [Act.put, List.getElem_toArray, List.getElem_cons_succ, List.getElem_cons_zero, List.setIfInBounds_toArray, List.set_cons_zero, List.set_cons_succ])
              refine wpAnyH_take (i := 5) (oi := _) (v := ?_) rfl (by kernel_rfl) (by kernel_rfl) (by kernel_rfl) (fun _ _ _ h => h) (Or.inl ⟨by rfl, ?_⟩) (by assumption) ?_
              rotate_left
              · (intro w hSw; (try dsimp only at hSw); (try go_simp); (try with_reducible rfl))
              (try simp only [Act.put, List.getElem_toArray, List.getElem_cons_succ, List.getElem_cons_zero, List.setIfInBounds_toArray, List.set_cons_zero, List.set_cons_succ])
              refine wpAnyH_take (i := 6) (oi := _) (v := ?_) rfl (by kernel_rfl) (by kernel_rfl) (by kernel_rfl) (fun _ _ _ h => h) (Or.inl ⟨by rfl, ?_⟩) (by assumption) ?_
              rotate_left
              · (intro w hSw; (try dsimp only at hSw); (try go_simp); (try with_reducible rfl))
              (try simp only [Act.put, List.getElem_toArray, List.getElem_cons_succ, List.getElem_cons_zero, List.setIfInBounds_toArray, List.set_cons_zero, List.set_cons_succ])
              refine wpAnyH_take (i := 7) (oi := _) (v := ?_) rfl (by kernel_rfl) (by kernel_rfl) (by kernel_rfl) (fun _ _ _ h => h) (Or.inl ⟨by rfl, ?_⟩) (by assumption) ?_
              rotate_left
              · (intro w hSw; (try dsimp only at hSw); (try go_simp); (try with_reducible rfl))
              (try simp only [Act.put, List.getElem_toArray, List.getElem_cons_succ, List.getElem_cons_zero, List.setIfInBounds_toArray, List.set_cons_zero, List.set_cons_succ])
              refine wpAnyH_done (by kernel_rfl) ?_ _
              go_wp2_with fail
              go_roundw
              case rel => exact ⟨k + 1, by omega, by go_num, hx⟩
              case measure => simp [intOf]; omega
            exact AllReadyH.nil
          exact AllReadyH.nil
    · have g2 : ¬ (k : Int) < (N : Int) := by omega
      go_wp2_with fail
      go_ret
      exact ⟨rfl, hxr⟩
end Go.Proofs.YtmcbbhlglccmgaaGreat

namespace Go.Proofs.YtmcbbhlglccmgaaGreat
open Go.RowKit Go BigFrame Go.Shelf
set_option maxRecDepth 100000
set_option linter.unusedSimpArgs false
set_option linter.unusedVariables false

/-! Layer 42, plain: fair tests. -/
theorem cross_ltW {n m p q : Int} (hm : 0 < m) (hq : 0 < q) : Rat.divInt n m < Rat.divInt p q ↔ n * q < p * m := by
  have hm' : (0 : Rat) < (m : Rat) := by exact_mod_cast hm
  have hq' : (0 : Rat) < (q : Rat) := by exact_mod_cast hq
  rw [Rat.divInt_eq_div, Rat.divInt_eq_div, Rat.div_lt_iff hm', show (p : Rat) / q * m = ((p * m : Int) : Rat) / q by rw [Rat.intCast_mul]; grind, Rat.lt_div_iff hq', ← Rat.intCast_mul, Rat.intCast_lt_intCast]
theorem cmp_div {a b N : Nat} (hN : 0 < N) : cmpR (Rat.divInt a N) (Rat.divInt b N) ≤ 0 ↔ a ≤ b := by
  have h1 := cross_ltW (n := (a : Int)) (m := (N : Int)) (p := (b : Int)) (q := (N : Int)) (by omega) (by omega)
  have h2 := cross_ltW (n := (b : Int)) (m := (N : Int)) (p := (a : Int)) (q := (N : Int)) (by omega) (by omega)
  have e1 : (a : Int) * N < b * N ↔ a < b := by
    rw [← Int.natCast_mul, ← Int.natCast_mul, Int.ofNat_lt]
    exact ⟨fun h => Nat.lt_of_mul_lt_mul_right h, fun h => Nat.mul_lt_mul_of_pos_right h hN⟩
  have e2 : (b : Int) * N < a * N ↔ b < a := by
    rw [← Int.natCast_mul, ← Int.natCast_mul, Int.ofNat_lt]
    exact ⟨fun h => Nat.lt_of_mul_lt_mul_right h, fun h => Nat.mul_lt_mul_of_pos_right h hN⟩
  rw [e1] at h1
  rw [e2] at h2
  unfold cmpR
  by_cases hab : a < b
  · rw [if_pos (h1.2 hab)]; omega
  · rw [if_neg fun h => hab (h1.1 h)]
    by_cases hba : b < a
    · rw [if_pos (h2.2 hba)]; omega
    · rw [if_neg fun h => hba (h2.1 h)]; omega
theorem one_div {N : Nat} (hN : 0 < N) : (1 : Rat) = Rat.divInt N N := by
  rw [Rat.divInt_eq_div]
  have hN' : (0 : Rat) < ((N : Int) : Rat) := by exact_mod_cast (show (0 : Int) < (N : Int) by omega)
  grind
/-- The P's of a list of cases: how many cases are at least as extreme, of all. -/
def psOf (xs : List Int) : List Rat := xs.map fun x => Rat.divInt (xs.countP (fun z => decide (x ≤ z)) : Nat) (xs.length : Nat)
theorem fair_of (xs : List Int) (h0 : 0 < xs.length) (hb : xs.length ≤ 1000000) : FairL (psOf xs) := by
  intro r hr
  obtain ⟨x, hx, rfl⟩ := List.mem_map.1 hr
  have hlen : (psOf xs).length = xs.length := List.length_map ..
  have hc : xs.countP (fun z => decide (x ≤ z)) ≤ xs.length := List.countP_le_length
  refine ⟨?_, ?_, ?_⟩
  · rw [hlen, cmp_div h0]
    unfold cntQ
    rw [List.take_of_length_le (by omega)]
    unfold psOf
    rw [List.countP_map]
    refine Nat.le_trans (Nat.le_of_eq ?_) (valid_law xs hx)
    refine List.countP_congr fun y hy => ?_
    simp only [Function.comp_apply, decide_eq_true_eq]
    exact cmp_div h0
  · rw [one_div h0, cmp_div h0]; exact hc
  · exact divInt_sz (by simp; omega) (by simp; omega) (by omega)
/-- An order of the elements, taken before another one. -/
def aft (o p : List Int) : List Int := p.map fun v => o.getD v.toNat 0
theorem aft_get {n : Nat} {o p : List Int} (hp : Ord n p) {k : Nat} (hk : k < n) : (aft o p).getD k 0 = o.getD (p.getD k 0).toNat 0 := by
  have this : k < p.length := by rw [hp.len]; exact hk
  have e : p.getD k 0 = p[k] := by rw [List.getD_eq_getElem?_getD, List.getElem?_eq_getElem this]; rfl
  rw [e]
  unfold aft
  rw [List.getD_eq_getElem?_getD, List.getElem?_map, List.getElem?_eq_getElem this]
  rfl
theorem aft_ord {n : Nat} {o p : List Int} (ho : Ord n o) (hp : Ord n p) : Ord n (aft o p) := by
  refine ⟨by unfold aft; rw [List.length_map]; exact hp.len, fun x hx => ?_, ?_⟩
  · obtain ⟨v, hv, rfl⟩ := List.mem_map.1 hx
    have := hp.rng v hv
    exact ho.at (j := v.toNat) (by omega)
  · refine nodup_map hp.nd fun a ha b hb e => ?_
    have h1 := hp.rng a ha
    have h2 := hp.rng b hb
    have e1 := idx_at (p := o) (j := a.toNat) ho.nd (by rw [ho.len]; omega)
    have e2 := idx_at (p := o) (j := b.toNat) ho.nd (by rw [ho.len]; omega)
    rw [e, e2] at e1
    omega
theorem aft_inj {n : Nat} {o p q : List Int} (ho : Ord n o) (hp : Ord n p) (hq : Ord n q) (h : aft o p = aft o q) : p = q := by
  refine list_eq (by rw [hp.len, hq.len]) fun j hj => ?_
  rw [hp.len] at hj
  have e : (aft o p).getD j 0 = (aft o q).getD j 0 := by rw [h]
  rw [aft_get hp hj, aft_get hq hj] at e
  have h1 := hp.at hj
  have h2 := hq.at hj
  have e1 := idx_at (p := o) (j := (p.getD j 0).toNat) ho.nd (by rw [ho.len]; omega)
  have e2 := idx_at (p := o) (j := (q.getD j 0).toNat) ho.nd (by rw [ho.len]; omega)
  rw [e, e2] at e1
  omega
theorem aft_all {n : Nat} {o : List Int} (ho : Ord n o) : ((G n).map (aft o)).Perm (G n) := by
  refine perm_of_subset _ _ ?_ (fun a ha => ?_) (by rw [List.length_map]; exact Nat.le_refl _)
  · exact nodup_map (G_nodup n) fun a ha b hb e => aft_inj ho (G_mem.1 ha) (G_mem.1 hb) e
  · obtain ⟨p, hp, rfl⟩ := List.mem_map.1 ha
    exact G_mem.2 (aft_ord ho (G_mem.1 hp))
/-- The elements of the second list in another order: the count is the same. -/
def moveL (o m : List Int) : List Int := o.map fun v => m.getD v.toNat 0
theorem moveL_len (o m : List Int) : (moveL o m).length = o.length := List.length_map ..
theorem moveL_get {n : Nat} {o m : List Int} (ho : o.length = n) {k : Nat} (hk : k < n) : (moveL o m).getD k 0 = m.getD (o.getD k 0).toNat 0 := by
  have this : k < o.length := by omega
  have e : o.getD k 0 = o[k] := by rw [List.getD_eq_getElem?_getD, List.getElem?_eq_getElem this]; rfl
  rw [e]
  unfold moveL
  rw [List.getD_eq_getElem?_getD, List.getElem?_map, List.getElem?_eq_getElem this]
  rfl
theorem cnt_move (pt : Int → Int → Int) (l m : List Int) (s : Int) {n : Nat} {o : List Int} (hl : l.length = n) (ho : Ord n o) : cntG pt l (moveL o m) s = cntG pt l m s := by
  unfold cntG cntL
  rw [hl]
  show (G n).countP _ = (G n).countP _
  have e := (aft_all ho).countP_eq (fun p => decide (s ≤ psum pt l m p n))
  rw [List.countP_map] at e
  rw [← e]
  refine List.countP_congr fun p hp => ?_
  have hP := G_mem.1 hp
  simp only [Function.comp_apply, decide_eq_true_eq]
  have : psum pt l (moveL o m) p n = psum pt l m (aft o p) n := by
    unfold psum
    refine sm_congr fun i hi => ?_
    have h1 := hP.at hi
    rw [aft_get hP hi, moveL_get ho.len (by omega)]
  rw [this]
theorem ord_of_mem {n : Nat} {p : List Int} (h : p ∈ ordersL n) : Ord n p := G_mem.1 ((ordersL_perm n).mem_iff.2 h)
end Go.Proofs.YtmcbbhlglccmgaaGreat

namespace Go.Proofs.YtmcbbhlglccmgaaGreat
open Go.RowKit Go BigFrame Go.Shelf
set_option maxRecDepth 100000
set_option linter.unusedSimpArgs false
set_option linter.unusedVariables false

/-! Two slices of ratios of one's own, side by side. -/
theorem OwnRats.kept {w w' : World} {B : Nat} {v : Value} {L : List RatC} {rs : List Rat} {row : Option Nat} (h : OwnRats w B v L rs) (hg : w.grownBy w' row) (hne : v.ownBlock = none ∨ v.ownBlock ≠ row) (ho : ∀ x ∈ L, x.Off row) : OwnRats w' B v L rs :=
  ⟨h.len, World.ownsRow.kept h.own hg hne, fun i hi => (h.val i hi).grown hg (ho _ (List.getElem_mem hi)), h.apart⟩
structure Two (w : World) (B : Nat) (v1 : Value) (L1 : List RatC) (r1 : List Rat) (v2 : Value) (L2 : List RatC) (r2 : List Rat) : Prop where
  a : OwnRats w B v1 L1 r1
  b : OwnRats w B v2 L2 r2
  ne : ∀ g, v1.ownBlock = some g → v2.ownBlock ≠ some g
  ab : ∀ x ∈ L1, x.Off v2.ownBlock
  ba : ∀ x ∈ L2, x.Off v1.ownBlock
theorem Two.swap {w : World} {B : Nat} {v1 v2 : Value} {L1 L2 : List RatC} {r1 r2 : List Rat} (h : Two w B v1 L1 r1 v2 L2 r2) : Two w B v2 L2 r2 v1 L1 r1 :=
  ⟨h.b, h.a, fun g e1 e2 => h.ne g e2 e1, h.ba, h.ab⟩
theorem Two.ext {w w' : World} {B : Nat} {v1 v2 : Value} {L1 L2 : List RatC} {r1 r2 : List Rat} (h : Two w B v1 L1 r1 v2 L2 r2) (k : Ext w w') : Two w' B v1 L1 r1 v2 L2 r2 :=
  ⟨h.a.ext k, h.b.ext k, h.ne, h.ab, h.ba⟩
theorem Two.nil (w : World) (B : Nat) : Two w B (.slice none 0 0) [] [] (.slice none 0 0) [] [] :=
  ⟨OwnRats.nil _ _, OwnRats.nil _ _, fun g e => by (cases e), fun x hx => by (cases hx), fun x hx => by (cases hx)⟩
/-- append to the first of the two. -/
theorem run_two {a0 w : World} (hx0 : Ext a0 w) {v1 v2 : Value} {L1 L2 : List RatC} {r1 r2 : List Rat} (hT : Two w a0.heap.size v1 L1 r1 v2 L2 r2) {g : Nat} {t : TypeId} {x : RatC} {r : Rat} (hb : Blk w g #[.bool x.n, .slice x.a x.q x.c, .bool x.m, .slice x.b x.k x.d] t) (hx : RatV w x.val r) (h1 : x.Off v1.ownBlock) (h2 : x.Off v2.ownBlock) (hlen : L1.length ≤ 1000000) (ty : TypeId) :
    ∃ va vc w', (Builtin.append_ #[43, 43] ty #[v1, .slice (some ⟨g, 0, none⟩) 1 1]).run Tryz.prog w = .ok (.slice va (L1.length + 1) vc) w' ∧ Two w' a0.heap.size (.slice va (L1.length + 1) vc) (L1 ++ [x]) (r1 ++ [r]) v2 L2 r2 ∧ Ext a0 w' ∧ w.grownBy w' v1.ownBlock ∧ (∀ p, p < w.heap.size → v1.ownBlock ≠ some p → Value.ownBlock (.slice va (L1.length + 1) vc) ≠ some p) := by
  obtain ⟨v', w', hr, hO, hE, hg, hat⟩ := run_append_rat hx0 hT.a hb hx h1 hlen ty
  obtain ⟨va, vc, e, _⟩ := hO.form
  rw [List.length_append, List.length_singleton] at e
  subst e
  refine ⟨va, vc, w', hr, ⟨hO, hT.b.kept hg ?_ hT.ba, ?_, ?_, ?_⟩, hE, hg, ?_⟩
  · cases h3 : v2.ownBlock with
    | none => exact .inl rfl
    | some q => exact .inr fun e => hT.ne q e.symm h3
  · intro q e1 e2
    rcases hat with h3 | h3
    · exact hT.ne q (h3 ▸ e1) e2
    · rw [h3] at e1
      have := (hT.b.lt q e2).2
      simp only [Option.some.injEq] at e1
      omega
  · intro y hy
    rcases List.mem_append.1 hy with hy | hy
    · exact hT.ab y hy
    · obtain rfl := List.mem_singleton.1 hy
      exact h2
  · intro y hy
    rcases hat with h3 | h3
    · rw [h3]; exact hT.ba y hy
    · rw [h3]
      obtain ⟨i, hi, e3⟩ := List.getElem_of_mem hy
      have := hT.b.val i hi
      rw [e3] at this
      exact this.offNew
  · intro p hp hne e
    rcases hat with h3 | h3
    · exact hne (h3 ▸ e)
    · rw [h3] at e
      simp only [Option.some.injEq] at e
      omega
theorem step_two {ops : Array Oper} {o : Oper} {a : Act} {K : Act → World → Prop} {Q : Exit → Act → World → Prop} {E : Prop} (hgd : o.guard = none) (s y : Operand)
    (ho : o.op = .call { callee := .builtin .append, args := #[s, y], argTypes := #[43, 43] }) {a0 w : World} (hx0 : Ext a0 w) {v1 v2 : Value} (hs : a.eval s = v1) {L1 L2 : List RatC} {r1 r2 : List Rat} (hT : Two w a0.heap.size v1 L1 r1 v2 L2 r2)
    {g : Nat} (hy : a.eval y = .slice (some ⟨g, 0, none⟩) 1 1) {t : TypeId} {x : RatC} {r : Rat} (hb : Blk w g #[.bool x.n, .slice x.a x.q x.c, .bool x.m, .slice x.b x.k x.d] t) (hx : RatV w x.val r) (h1 : x.Off v1.ownBlock) (h2 : x.Off v2.ownBlock) (hlen : L1.length ≤ 1000000)
    (h : ∀ va vc w', Two w' a0.heap.size (.slice va (L1.length + 1) vc) (L1 ++ [x]) (r1 ++ [r]) v2 L2 r2 → Ext a0 w' → w.grownBy w' v1.ownBlock → (∀ p, p < w.heap.size → v1.ownBlock ≠ some p → Value.ownBlock (.slice va (L1.length + 1) vc) ≠ some p) → K (a.put o.dst (.slice va (L1.length + 1) vc)) w') :
    if Region.wanted o (yielded ops a.tmps) = true then Oper.wp Tryz.prog o a w K Q else E := by
  have hw : Region.wanted o (yielded ops a.tmps) = true := by simp [Region.wanted, hgd]
  rw [if_pos hw]
  obtain ⟨va, vc, w', hr, e1, e2, e3, e4⟩ := run_two hx0 hT hb hx h1 h2 hlen o.type
  unfold Oper.wp execOp
  simp only [ho, resolve, invoke, builtin, Sem.run_bind, Sem.run_pure, Result.andThen_ok, List.map_toArray, List.map_cons, List.map_nil, hs, hy, hr]
  exact h va vc w' e1 e2 e3 e4
end Go.Proofs.YtmcbbhlglccmgaaGreat

namespace Go.Proofs.YtmcbbhlglccmgaaGreat
open Go.RowKit Go BigFrame
set_option maxRecDepth 100000
set_option linter.unusedSimpArgs false
set_option linter.unusedVariables false

/-! Two slices of one's own, of one-cell elements, side by side. -/
structure TwoL {α : Type} (R : World → Value → α → Prop) (w : World) (B : Nat) (t : TypeId) (v1 : Value) (xs1 : List α) (v2 : Value) (xs2 : List α) : Prop where
  a : ∃ vs : List Value, w.ownsRow B t 1 v1 xs1.length vs ∧ ∀ i (h : i < xs1.length), ∃ x, vs[i]? = some x ∧ R w x xs1[i] ∧ OffV x v1.ownBlock ∧ OffV x v2.ownBlock
  b : ∃ vs : List Value, w.ownsRow B t 1 v2 xs2.length vs ∧ ∀ i (h : i < xs2.length), ∃ x, vs[i]? = some x ∧ R w x xs2[i] ∧ OffV x v2.ownBlock ∧ OffV x v1.ownBlock
  ne : ∀ g, v1.ownBlock = some g → v2.ownBlock ≠ some g
section
variable {α : Type} {R : World → Value → α → Prop} {w w' : World} {B : Nat} {t : TypeId} {v1 v2 : Value} {xs1 xs2 : List α}
theorem TwoL.swap (h : TwoL R w B t v1 xs1 v2 xs2) : TwoL R w B t v2 xs2 v1 xs1 := ⟨h.b, h.a, fun g e1 e2 => h.ne g e2 e1⟩
theorem TwoL.nil (w : World) (B : Nat) (t : TypeId) : TwoL R w B t (.slice none 0 0) [] (.slice none 0 0) [] :=
  ⟨⟨[], World.ownsRow_nil _ _ _ _, fun i h => absurd h (by simp)⟩, ⟨[], World.ownsRow_nil _ _ _ _, fun i h => absurd h (by simp)⟩, fun g e => by cases e⟩
theorem TwoL.ext (hR : RdOk R) (h : TwoL R w B t v1 xs1 v2 xs2) (k : Ext w w') : TwoL R w' B t v1 xs1 v2 xs2 := by
  obtain ⟨⟨vs, o1, e1⟩, ⟨us, o2, e2⟩, hn⟩ := h
  refine ⟨⟨vs, ownsRow_ext o1 k, fun i hi => ?_⟩, ⟨us, ownsRow_ext o2 k, fun i hi => ?_⟩, hn⟩
  · obtain ⟨x, f1, f2, f3⟩ := e1 i hi
    exact ⟨x, f1, hR.ext _ _ _ _ k f2, f3⟩
  · obtain ⟨x, f1, f2, f3⟩ := e2 i hi
    exact ⟨x, f1, hR.ext _ _ _ _ k f2, f3⟩
theorem TwoL.one (h : TwoL R w B t v1 xs1 v2 xs2) : OwnL R w B t v1 xs1 := by
  obtain ⟨⟨vs, o1, e1⟩, _, _⟩ := h
  refine ⟨vs, o1, fun i hi => ?_⟩
  obtain ⟨x, f1, f2, f3, _⟩ := e1 i hi
  exact ⟨x, f1, f2, f3⟩
end
/-- append to the first of the two. -/
theorem wpl_append_twoL {α : Type} {R : World → Value → α → Prop} (hR : RdOk R) {a0 w : World} {ops : Array Oper} {rest : List Oper} {o : Oper} {a : Act} {Q : Exit → Act → World → Prop} (hgd : o.guard = none) (s x : Operand) (t et : TypeId)
    (ho : o.op = .call { callee := .builtin .append, args := #[s, x], argTypes := #[t, t] }) (ht : Tryz.prog.underlying t = some (.slice et)) {z : Value} (hz : z.cells.size = 1) (hi : (Tryz.prog.info? et).map (fun i => (i.zero, i.size, i.bytes)) = some (some z, 1, 24))
    (hx0 : Ext a0 w) {v1 v2 : Value} {xs1 xs2 : List α} (hs : a.eval s = v1) (hT : TwoL R w a0.heap.size et v1 xs1 v2 xs2) {g : Nat} (hx : a.eval x = .slice (some ⟨g, 0, none⟩) 1 1) {u : Value} {bt : TypeId} (hb : Blk w g #[u] bt) {y : α} (hu : R w u y) (h1 : OffV u v1.ownBlock) (h2 : OffV u v2.ownBlock)
    (hlen : xs1.length ≤ 1000000)
    (h : ∀ va vc w', TwoL R w' a0.heap.size et (.slice va (xs1.length + 1) vc) (xs1 ++ [y]) v2 xs2 → Ext a0 w' → w.grownBy w' v1.ownBlock → wpList Tryz.prog ops Q rest (a.put o.dst (.slice va (xs1.length + 1) vc)) w') : wpList Tryz.prog ops Q (o :: rest) a w := by
  obtain ⟨i0, hi0, hz0, hz1, hz2⟩ := info_parts hi
  obtain ⟨⟨vs, hvs, hel⟩, ⟨us, hus, hel2⟩, hne⟩ := hT
  refine wpList_append_own_at w hgd s x t ho a0.heap.size et i0 z 1 24 ht hi0 hz0 hz1 hz2 hz (by decide) v1 xs1.length vs hs hvs ⟨g, 0, none⟩ 1 1 [u] hx rfl (fun j q hq => by
    have e : ((⟨g, 0, none⟩ : Addr).add j) = ⟨g, j, none⟩ := by unfold Addr.add; split <;> simp_all
    rw [e]
    exact hb.cell (by simpa using hq)) (fun q hq => by rw [List.mem_singleton.1 hq]; exact hR.one _ _ _ hu) (by unfold maxLen; omega) (by omega) hx0.size ?_
  intro v' w' k1 k2 k3 k4
  have hvl : vs.length = xs1.length := by have := hvs.1; omega
  have hoff : ∀ q z, R w q z → OffV q v1.ownBlock → OffV q v'.ownBlock := fun q z hq ho => by
    rcases k4 with e | e
    · rw [e]; exact ho
    · rw [e]; exact hR.new _ _ _ hq
  have hm : TwoL R w' a0.heap.size et v' (xs1 ++ [y]) v2 xs2 := by
    refine ⟨⟨vs ++ [u], by rw [List.length_append]; exact k1, fun i hi => ?_⟩, ⟨us, World.ownsRow.kept hus k2 ?_, fun i hi => ?_⟩, ?_⟩
    · rw [List.length_append, List.length_singleton] at hi
      by_cases hk : i < xs1.length
      · obtain ⟨q, e, f1, f2, f3⟩ := hel i hk
        refine ⟨q, by rw [List.getElem?_append_left (by omega)]; exact e, ?_, hoff _ _ f1 f2, f3⟩
        rw [List.getElem_append_left hk]
        exact hR.grown _ _ _ _ _ f1 k2 f2
      · have hi' : i = xs1.length := by omega
        subst hi'
        refine ⟨u, by rw [← hvl]; simp, ?_, hoff _ _ hu h1, h2⟩
        rw [List.getElem_append_right (Nat.le_refl _)]
        simp only [Nat.sub_self, List.getElem_singleton]
        exact hR.grown _ _ _ _ _ hu k2 h1
    · cases h3 : v2.ownBlock with
      | none => exact .inl rfl
      | some q => exact .inr fun e => hne q e.symm h3
    · obtain ⟨q, e, f1, f2, f3⟩ := hel2 i hi
      exact ⟨q, e, hR.grown _ _ _ _ _ f1 k2 f3, f2, hoff _ _ f1 f3⟩
    · intro q e1 e2
      rcases k4 with h3 | h3
      · exact hne q (h3 ▸ e1) e2
      · rw [h3] at e1
        have := (World.ownsRow.lt hus q e2).2
        simp only [Option.some.injEq] at e1
        omega
  obtain ⟨va, vc, e, _⟩ := hm.one.form
  rw [List.length_append, List.length_singleton] at e
  subst e
  exact h va vc w' hm (Below.grown hx0 k2 hx0.size (fun k e => (World.ownsRow.lt hvs k e).1)) k2
end Go.Proofs.YtmcbbhlglccmgaaGreat

namespace Go.Proofs.YtmcbbhlglccmgaaGreat
open Go.RowKit Go BigFrame Go.Shelf
set_option maxRecDepth 100000
set_option linter.unusedSimpArgs false
set_option linter.unusedVariables false

/-! Layer 42, plain: what FindingsOrders says. -/
def movL (m : List (List Int)) (o : List Int) : List (List Int) := o.map fun v => m.getD v.toNat []
def chgR (m : List (List Int)) (o : List Int) (B i : Nat) : List Int := (m.getD i []).set B ((m.getD (o.getD i 0).toNat []).getD B 0)
def chgL (m : List (List Int)) (o : List Int) (B : Nat) : List (List Int) := (List.range o.length).map (chgR m o B)
theorem movL_len (m : List (List Int)) (o : List Int) : (movL m o).length = o.length := List.length_map ..
theorem chgL_len (m : List (List Int)) (o : List Int) (B : Nat) : (chgL m o B).length = o.length := by simp [chgL]
theorem getD_row {m : List (List Int)} {i : Nat} (h : i < m.length) : m.getD i [] = m[i] := by rw [List.getD_eq_getElem?_getD, List.getElem?_eq_getElem h]; rfl
theorem right_mov {m : List (List Int)} {n : Nat} {o : List Int} (h : RightW m n) (ho : Ord m.length o) : RightW (movL m o) n := by
  refine ⟨by rw [movL_len, ho.len]; exact h.p, by rw [movL_len, ho.len]; exact h.le, h.two, fun x hx => ?_⟩
  obtain ⟨v, hv, rfl⟩ := List.mem_map.1 hx
  have := ho.rng v hv
  rw [getD_row (show v.toNat < m.length by omega)]
  exact h.row _ (List.getElem_mem _)
theorem right_chg {m : List (List Int)} {n B : Nat} {o : List Int} (h : RightW m n) (hB : B < n) (ho : Ord m.length o) : RightW (chgL m o B) n := by
  refine ⟨by rw [chgL_len, ho.len]; exact h.p, by rw [chgL_len, ho.len]; exact h.le, h.two, fun x hx => ?_⟩
  obtain ⟨i, hi, rfl⟩ := List.mem_map.1 hx
  have hi' : i < m.length := by rw [List.mem_range, ho.len] at hi; exact hi
  have h1 := ho.at (j := i) hi'
  unfold chgR
  rw [getD_row hi', getD_row (show (o.getD i 0).toNat < m.length by omega)]
  obtain ⟨e1, e2, e3⟩ := h.row m[i] (List.getElem_mem _)
  obtain ⟨f1, f2, f3⟩ := h.row (m[(o.getD i 0).toNat]'(by omega)) (List.getElem_mem _)
  refine ⟨by rw [List.length_set]; exact e1, by rw [List.length_set]; exact e2, fun y hy => ?_⟩
  rcases List.mem_or_eq_of_mem_set hy with h2 | h2
  · exact e3 y h2
  · rw [h2, List.getD_eq_getElem?_getD, List.getElem?_eq_getElem (by omega)]
    exact f3 _ (List.getElem_mem _)
theorem above_mov {m : List (List Int)} {o : List Int} (ho : Ord m.length o) (A : Nat) : aboveL (movL m o) A = moveL o (aboveL m A) := by
  unfold aboveL movL moveL
  rw [List.map_map]
  refine List.map_congr_left fun v hv => ?_
  have := ho.rng v hv
  have hl : v.toNat < m.length := by omega
  simp only [Function.comp_apply]
  rw [getD_row hl, List.getD_eq_getElem?_getD, List.getElem?_map, List.getElem?_eq_getElem hl]
  rfl
theorem dsum_mov {d : List Int} {n : Nat} {o : List Int} (ho : Ord n o) : ∀ k, k ≤ n → dsum (moveL o d) k = psum mulP (iota n) d o k := by
  intro k
  induction k with
  | zero => intro _; simp [dsum, psum, sm]
  | succ k ih =>
    intro hk
    have h1 := moveL_get (m := d) ho.len (k := k) (by omega)
    have e : (iota n).getD k 0 = (k : Int) := by
      simp only [List.getD_eq_getElem?_getD, iota, List.getElem?_map]
      rw [List.getElem?_range (by omega)]; rfl
    rw [psum_succ, ← ih (by omega), e, show dsum (moveL o d) (k + 1) = dsum (moveL o d) k + (k : Int) * (moveL o d).getD k 0 from rfl, h1]
    rfl
theorem cntE_mov {X Y : List Int} {n : Nat} {o : List Int} (ho : Ord n o) : ∀ k, k ≤ n → ((cntE X (moveL o Y) k : Nat) : Int) = psum eqP X Y o k := by
  intro k
  induction k with
  | zero => intro _; simp [cntE, psum, sm]
  | succ k ih =>
    intro hk
    have h1 := moveL_get (m := Y) ho.len (k := k) (by omega)
    rw [psum_succ, ← ih (by omega), show cntE X (moveL o Y) (k + 1) = cntE X (moveL o Y) k + if X.getD k 0 = (moveL o Y).getD k 0 then 1 else 0 from rfl, h1]
    unfold eqP
    split <;> simp
theorem col_chgA {m : List (List Int)} {n A B : Nat} {o : List Int} (hr : ∀ r ∈ m, r.length = n) (hB : B < n) (hAB : A ≠ B) (ho : Ord m.length o) : colW (chgL m o B) A = colW m A := by
  unfold colW chgL
  rw [List.map_map]
  refine List.ext_getElem (by simp [ho.len]) fun i h1 h2 => ?_
  simp only [List.length_map, List.length_range] at h1 h2
  simp only [List.getElem_map, List.getElem_range, Function.comp_apply]
  unfold chgR
  rw [getD_row h2]
  simp only [List.getD_eq_getElem?_getD]
  rw [List.getElem?_set_ne (fun e => hAB e.symm)]
theorem col_chgB {m : List (List Int)} {n B : Nat} {o : List Int} (hr : ∀ r ∈ m, r.length = n) (hB : B < n) (ho : Ord m.length o) : colW (chgL m o B) B = moveL o (colW m B) := by
  unfold colW chgL moveL
  rw [List.map_map]
  refine List.ext_getElem (by simp) fun i h1 h2 => ?_
  simp only [List.length_map, List.length_range] at h1 h2
  simp only [List.getElem_map, List.getElem_range, Function.comp_apply]
  have hi : i < m.length := by rw [← ho.len]; exact h2
  have h3 := ho.rng o[i] (List.getElem_mem _)
  have hl : o[i].toNat < m.length := by omega
  have eo : o.getD i 0 = o[i] := by rw [List.getD_eq_getElem?_getD, List.getElem?_eq_getElem h2]; rfl
  unfold chgR
  rw [getD_row hi, eo, getD_row hl]
  have hlen := hr m[i] (List.getElem_mem _)
  rw [List.getD_eq_getElem?_getD (l := (m[i]).set B _), List.getElem?_set_self (by omega), List.getD_eq_getElem?_getD (l := List.map (fun r => r.getD B 0) m), List.getElem?_map, List.getElem?_eq_getElem hl]
  rfl
theorem factW_factO {n : Nat} (h : n ≤ 8) : factW n = (fact n : Nat) := by
  have : n = 0 ∨ n = 1 ∨ n = 2 ∨ n = 3 ∨ n = 4 ∨ n = 5 ∨ n = 6 ∨ n = 7 ∨ n = 8 := by omega
  rcases this with rfl | rfl | rfl | rfl | rfl | rfl | rfl | rfl | rfl <;> decide
def xsO (pt : Int → Int → Int) (l m : List Int) (n : Nat) : List Int := (ordersL n).map fun p => psum pt l m p n
theorem xsO_cnt (pt : Int → Int → Int) {l m : List Int} {n : Nat} (hl : l.length = n) (x : Int) : (xsO pt l m n).countP (fun z => decide (x ≤ z)) = cntG pt l m x := by
  unfold xsO
  rw [List.countP_map]
  subst hl
  exact cnt_orders pt l m x
theorem xsO_len (pt : Int → Int → Int) (l m : List Int) (n : Nat) : (xsO pt l m n).length = fact n := by
  unfold xsO
  rw [List.length_map, ordersL_length]
theorem driQ_mov {m : List (List Int)} {o : List Int} (h8 : m.length ≤ 8) (ho : Ord m.length o) (A : Nat) : driQ (movL m o) A = Rat.divInt ((xsO mulP (iota m.length) (aboveL m A) m.length).countP (fun z => decide (psum mulP (iota m.length) (aboveL m A) o m.length ≤ z)) : Nat) ((xsO mulP (iota m.length) (aboveL m A) m.length).length : Nat) := by
  unfold driQ
  rw [above_mov ho, movL_len, ho.len, dsum_mov ho _ (Nat.le_refl _), cnt_move mulP (iota m.length) _ _ (iota_len _) ho, xsO_cnt mulP (iota_len _), xsO_len, factW_factO h8]
theorem agrQ_chg {m : List (List Int)} {n A B : Nat} {o : List Int} (h8 : m.length ≤ 8) (hr : ∀ r ∈ m, r.length = n) (hB : B < n) (hAB : A ≠ B) (ho : Ord m.length o) : agrQ (chgL m o B) A B = Rat.divInt ((xsO eqP (colW m A) (colW m B) m.length).countP (fun z => decide (psum eqP (colW m A) (colW m B) o m.length ≤ z)) : Nat) ((xsO eqP (colW m A) (colW m B) m.length).length : Nat) := by
  have hX : (colW m A).length = m.length := List.length_map ..
  unfold agrQ
  rw [col_chgA hr hB hAB ho, col_chgB hr hB ho, chgL_len, ho.len, cntE_mov ho _ (Nat.le_refl _), cnt_move eqP (colW m A) _ _ hX ho, xsO_cnt eqP hX, xsO_len, factW_factO h8]
theorem fair_dri {m : List (List Int)} (h8 : m.length ≤ 8) (A : Nat) : FairL ((ordersL m.length).map fun o => driQ (movL m o) A) := by
  have e : ((ordersL m.length).map fun o => driQ (movL m o) A) = psOf (xsO mulP (iota m.length) (aboveL m A) m.length) := by
    conv => rhs; unfold psOf; arg 2; unfold xsO
    rw [List.map_map]
    exact List.map_congr_left fun o ho => driQ_mov h8 (ord_of_mem ho) A
  rw [e]
  have h1 := fact_le (n := m.length) h8
  have h2 : 0 < fact m.length := by rw [← ordersL_length]; exact List.length_pos_of_mem (ordersL_mem m.length (iota m.length) (List.Perm.refl _))
  exact fair_of _ (by rw [xsO_len]; exact h2) (by rw [xsO_len]; omega)
theorem fair_agr {m : List (List Int)} {n A B : Nat} (h8 : m.length ≤ 8) (hr : ∀ r ∈ m, r.length = n) (hB : B < n) (hAB : A ≠ B) : FairL ((ordersL m.length).map fun o => agrQ (chgL m o B) A B) := by
  have e : ((ordersL m.length).map fun o => agrQ (chgL m o B) A B) = psOf (xsO eqP (colW m A) (colW m B) m.length) := by
    conv => rhs; unfold psOf; arg 2; unfold xsO
    rw [List.map_map]
    exact List.map_congr_left fun o ho => agrQ_chg h8 hr hB hAB (ord_of_mem ho)
  rw [e]
  have h1 := fact_le (n := m.length) h8
  have h2 : 0 < fact m.length := by rw [← ordersL_length]; exact List.length_pos_of_mem (ordersL_mem m.length (iota m.length) (List.Perm.refl _))
  exact fair_of _ (by rw [xsO_len]; exact h2) (by rw [xsO_len]; omega)
end Go.Proofs.YtmcbbhlglccmgaaGreat

namespace Go.Proofs.YtmcbbhlglccmgaaGreat
open Go.RowKit Go BigFrame Go.Shelf
set_option maxRecDepth 100000
set_option linter.unusedSimpArgs false
set_option linter.unusedVariables false

/-! law42.FindingsOrders. -/
theorem errW_zero {m : List (List Int)} {n : Nat} (h : RightW m n) : errW m = 0 := by
  have h1 : ¬ 64 < m.length := by have := h.le; omega
  have h2 : m.any longB = false := by
    rw [List.any_eq_false]
    intro x hx
    have := (h.row x hx).2.1
    simp [longB]; omega
  obtain ⟨r0, hr0⟩ : ∃ r0, m[0]? = some r0 := ⟨_, List.getElem?_eq_getElem h.p⟩
  have hl0 := (h.row r0 (List.mem_of_getElem? hr0)).1
  have h2n := h.two
  rw [errW_parts h1 h2 hr0, if_neg (by omega), if_neg]
  intro ha
  obtain ⟨x, hx, hw⟩ := List.any_eq_true.1 ha
  obtain ⟨e1, e2, e3⟩ := h.row x hx
  simp only [wrongB, Bool.or_eq_true, decide_eq_true_eq] at hw
  rcases hw with hw | hw
  · omega
  · obtain ⟨y, hy, ho⟩ := List.any_eq_true.1 hw
    have := e3 y hy
    simp only [offB, Bool.or_eq_true, decide_eq_true_eq] at ho
    omega
theorem askW_oneE {m : List (List Int)} {k : Nat} (h : errW m = 0) (hk : k < (m.headD []).length) : askW m [(k : Int)] = 0 := by
  unfold askW
  rw [if_neg (by omega), if_neg (by simp only [minL, List.foldl_nil]; omega), if_neg (by simp only [maxL, List.foldl_nil]; omega)]
theorem askW_twoE {m : List (List Int)} {a b : Nat} (h : errW m = 0) (ha : a < (m.headD []).length) (hb : b < (m.headD []).length) : askW m [(a : Int), (b : Int)] = 0 := by
  unfold askW
  rw [if_neg (by omega), if_neg (by simp only [minL, List.foldl_cons, List.foldl_nil]; omega), if_neg (by simp only [maxL, List.foldl_cons, List.foldl_nil]; omega)]
structure OwRowsO (w : World) (a : Option Addr) (c : Nat) (m : List (List Int)) : Prop where
  h : Rows w a c m
theorem OwRowsO.ext {w w' : World} {a : Option Addr} {c : Nat} {m : List (List Int)} (h : OwRowsO w a c m) (k : Ext w w') : OwRowsO w' a c m := ⟨h.h.ext k⟩
theorem TwoL.two {α : Type} {R : World → Value → α → Prop} {w : World} {B : Nat} {t : TypeId} {v1 v2 : Value} {xs1 xs2 : List α} (h : TwoL R w B t v1 xs1 v2 xs2) : OwnL R w B t v2 xs2 := h.swap.one
theorem right_hd {m : List (List Int)} {n : Nat} (h : RightW m n) : (m.headD []).length = n := by
  obtain ⟨r1, hr1⟩ : ∃ r1, m[0]? = some r1 := ⟨_, List.getElem?_eq_getElem h.p⟩
  have := (h.row r1 (List.mem_of_getElem? hr1)).1
  rw [List.headD_eq_head?_getD, List.head?_eq_getElem?, hr1]
  exact this
set_option maxHeartbeats 8000000 in
theorem law_FOrd_no (a : Option Addr) (cap : Nat) (m : List (List Int)) (j o : Int) (w : World) (h : Rows w a cap m) (hj : 0 ≤ j ∧ j ≤ 255) (ho : 0 ≤ o ∧ o ≤ 255) (hr : rightW m 4 = false) : Calls Tryz.prog 5 #[.slice a m.length cap, .int .u8 j, .int .u8 o] w fun e w' => e = .returned (.bool true) ∧ Ext w w' := by
  have hle := h.le
  have hmx := h.mx
  have HH := Lib.hid h
  have HRt := Lib.hid (fun W (hW : Ext w W) => law42_right_no a cap m j 4 W (h.ext hW) hr)
  simp only [show ((4 : Nat) : Int) = 4 from rfl] at HRt
  clear h hr
  have hx : Ext w w := Ext.refl w
  go_enter Tryz.func5, Tryz.ntmps5
  go_upto_region 1 with fail
  have hs0 := hx.size
  go_wp2_with fail
  with_reducible refine (law42_sane _).mono ?_
  rintro e x1 ⟨rfl, hy⟩
  replace hx := hx.trans hy
  clear hy
  go_wp2_with fail
  with_reducible refine (HRt.out _ hx).mono ?_
  rintro e x2 ⟨rfl, hy⟩
  replace hx := hx.trans hy
  clear hy
  go_wp2_with fail
  go_ret
  exact ⟨rfl, hx⟩
set_option maxHeartbeats 8000000 in
theorem law_FOrd_yes (a : Option Addr) (cap : Nat) (m : List (List Int)) (j o : Int) (w : World) (h : Rows w a cap m) (hj : 0 ≤ j ∧ j ≤ 255) (ho : 0 ≤ o ∧ o ≤ 255) (hr : rightW m 4 = true) : Calls Tryz.prog 5 #[.slice a m.length cap, .int .u8 j, .int .u8 o] w fun e w' => e = .returned (.bool true) ∧ Ext w w' := by
  have hle := h.le
  have hmx := h.mx
  have HH := Lib.hid h
  have hr' := hr
  simp only [rightW, Bool.and_eq_true, decide_eq_true_eq] at hr'
  obtain ⟨h7, he0⟩ := hr'
  have hR := errW_ok he0
  obtain ⟨r0, hr0⟩ : ∃ r0, m[0]? = some r0 := ⟨_, List.getElem?_eq_getElem hR.p⟩
  have hrd : m.headD [] = r0 := by
    rw [List.headD_eq_head?_getD, List.head?_eq_getElem?, hr0]; rfl
  have hn2 := hR.two
  rw [hrd] at hR hn2
  obtain ⟨j1, j2⟩ := hj
  obtain ⟨o1, o2⟩ := ho
  have hn16 := (hR.row r0 (List.mem_of_getElem? hr0)).2.1
  obtain ⟨n, hn⟩ : ∃ n, n = r0.length := ⟨_, rfl⟩
  rw [← hn] at hR hn2 hn16
  obtain ⟨A, hA⟩ : ∃ A : Nat, j % (n : Int) = (A : Int) := ⟨(j % (n : Int)).toNat, by have := Int.emod_nonneg j (show (n : Int) ≠ 0 by omega); omega⟩
  have hAn : A < n := by have := Int.emod_lt_of_pos j (show (0 : Int) < (n : Int) by omega); omega
  obtain ⟨P, hP⟩ : ∃ P : Nat, o % ((n : Int) - 1) = (P : Int) := ⟨(o % ((n : Int) - 1)).toNat, by have := Int.emod_nonneg o (show (n : Int) - 1 ≠ 0 by omega); omega⟩
  have hPn : P + 1 < n := by have := Int.emod_lt_of_pos o (show (0 : Int) < (n : Int) - 1 by omega); omega
  obtain ⟨B, hB⟩ : ∃ B : Nat, ((A : Int) + 1 + (P : Int)) % (n : Int) = (B : Int) := ⟨(((A : Int) + 1 + (P : Int)) % (n : Int)).toNat, by have := Int.emod_nonneg ((A : Int) + 1 + (P : Int)) (show (n : Int) ≠ 0 by omega); omega⟩
  have hBn : B < n := by have := Int.emod_lt_of_pos ((A : Int) + 1 + (P : Int)) (show (0 : Int) < (n : Int) by omega); omega
  have hAB : A ≠ B := by
    intro e
    subst e
    have h1 := Int.mul_ediv_add_emod ((A : Int) + 1 + (P : Int)) (n : Int)
    rw [hB] at h1
    have h2 : (n : Int) * (((A : Int) + 1 + (P : Int)) / (n : Int)) = (P : Int) + 1 := by omega
    generalize ((A : Int) + 1 + (P : Int)) / (n : Int) = q at h2
    rcases Int.lt_or_le 0 q with hq | hq
    · have : (n : Int) * 1 ≤ (n : Int) * q := Int.mul_le_mul_of_nonneg_left hq (by omega)
      omega
    · have : (n : Int) * q ≤ (n : Int) * 0 := Int.mul_le_mul_of_nonneg_left hq (by omega)
      omega
  have HRt := Lib.hid (fun W (hW : Ext w W) => law42_right_yes a cap m j 4 W (h.ext hW) hr ⟨j1, j2⟩ A (by rw [hrd, ← hn]; exact hA))
  simp only [show ((4 : Nat) : Int) = 4 from rfl] at HRt
  have hhm : (m.headD []).length = n := by rw [hrd, ← hn]
  have hmp := hR.p
  have hrl : ∀ r ∈ m, r.length = n := fun r hr => (hR.row r hr).1
  have HDr := Lib.hid (fun W a3 c3 p (hp : Ord m.length p) (hX : Rows W a3 c3 (movL m p)) => (by
    have hRm := right_mov hR hp
    have := findings_Drift_ok a3 c3 (movL m p) (A : Int) W hX (by omega) (askW_oneE (errW_zero hRm) (by rw [right_hd hRm]; exact hAn)) (by rw [movL_len, hp.len]; omega)
    rw [movL_len, hp.len, show (A : Int).toNat = A from rfl] at this
    exact this : Calls Tryz.prog 15 #[.slice a3 m.length c3, .int .i64 (A : Int)] W (RatP (driQ (movL m p) A) W)))
  have HAg := Lib.hid (fun W a3 c3 p (hp : Ord m.length p) (hX : Rows W a3 c3 (chgL m p B)) => (by
    have hRm := right_chg hR hBn hp
    have := findings_Agree_ok a3 c3 (chgL m p B) (A : Int) (B : Int) W hX (by omega) (by omega) (askW_twoE (errW_zero hRm) (by rw [right_hd hRm]; exact hAn) (by rw [right_hd hRm]; exact hBn)) (by omega) (by rw [chgL_len, hp.len]; omega)
    rw [chgL_len, hp.len, show (A : Int).toNat = A from rfl, show (B : Int).toNat = B from rfl] at this
    exact this : Calls Tryz.prog 13 #[.slice a3 m.length c3, .int .i64 (A : Int), .int .i64 (B : Int)] W (RatP (agrQ (chgL m p B) A B) W)))
  have hfd := fair_dri (m := m) (by omega) A
  have hfa := fair_agr (m := m) (by omega) hrl hBn hAB
  have HSzD := Lib.hid (fun p (hp : p ∈ ordersL m.length) => (hfd _ (List.mem_map.2 ⟨p, hp, rfl⟩)).2.2)
  have HSzA := Lib.hid (fun p (hp : p ∈ ordersL m.length) => (hfa _ (List.mem_map.2 ⟨p, hp, rfl⟩)).2.2)
  have HFD := Lib.hid hfd
  have HFA := Lib.hid hfa
  have HRR := Lib.hid hR
  obtain ⟨bm, om, rfl⟩ := h.head hmp
  obtain ⟨r1, a1, c1, hr1, hc1, hI1⟩ := Rows.get h hmp
  rw [hr0] at hr1
  cases hr1
  simp only [Nat.add_zero] at hc1
  rw [← hn] at hc1
  have r0le := hI1.le
  have r0mx := hI1.mx
  rw [← hn] at r0le
  have HC1 := Lib.hid hc1
  have g0 : (0 : Int) < (m.length : Int) := by omega
  have gA : (A : Int) < (n : Int) := by omega
  have gA0 : (0 : Int) ≤ (A : Int) := by omega
  have gB : (B : Int) < (n : Int) := by omega
  have gB0 : (0 : Int) ≤ (B : Int) := by omega
  have u1 : o.tmod ((n : Int) - 1) = (P : Int) := by rw [Int.tmod_eq_emod_of_nonneg o1, hP]
  have u2 : ((A : Int) + 1 + (P : Int)).tmod (n : Int) = (B : Int) := by rw [Int.tmod_eq_emod_of_nonneg (by omega), hB]
  have HU := Lib.hid (And.intro u1 u2)
  clear h hr hR hr0 hrd hn hA hP hB hc1 hI1 u1 u2 he0 hhm hrl hfd hfa
  have hx : Ext w w := Ext.refl w
  go_enter Tryz.func5, Tryz.ntmps5
  go_upto_region 1 with fail
  have hs0 := hx.size
  go_wp2_with fail
  with_reducible refine (law42_sane _).mono ?_
  rintro e x1 ⟨rfl, hy⟩
  replace hx := hx.trans hy
  clear hy
  go_wp2_with fail
  with_reducible refine (HRt.out _ hx).mono ?_
  rintro e x2 ⟨rfl, hy⟩
  replace hx := hx.trans hy
  clear hy
  clear HRt
  have hc1 := cell_exQ hx HC1.out
  obtain ⟨u1, u2⟩ := HU.out
  have v1 : ((n : Int) - 1 == 0) = false := beq_false_of_ne (by omega)
  have v2 : ¬ (n : Int) - 1 = 0 := by omega
  have v3 : ((n : Int) == 0) = false := beq_false_of_ne (by omega)
  have v4 : ¬ (n : Int) = 0 := by omega
  go_upto_region 6 with fail
  go_quiet (fail)
  go_upto_region 7 with fail
  replace hx := hx.drewN nq
  generalize World.drewN x2 nq = wD at *
  clear hc1 u1 u2 v1 v2 v3 v4 HU
  go_wp2_with fail
  with_reducible refine (law42_orders m.length _ (by omega)).mono ?_
  rintro e xO ⟨v, rfl, hv, hy⟩
  obtain ⟨al, cl, rfl, hIL⟩ := hv.sl
  have hOl := ordersL_length m.length
  have hf8 := fact_le (n := m.length) (by omega)
  obtain ⟨F, hF⟩ : ∃ F, F = fact m.length := ⟨_, rfl⟩
  rw [← hF] at hOl hf8
  rw [hOl]
  have ole := hIL.le
  have omx := hIL.mx
  rw [hOl] at ole
  have hF24 : F ≤ 24 := by
    have : m.length = 1 ∨ m.length = 2 ∨ m.length = 3 ∨ m.length = 4 := by omega
    rcases this with e | e | e | e <;> rw [hF, e] <;> decide
  have hF1 : 0 < F := by rw [← hOl]; exact List.length_pos_of_mem (ordersL_mem m.length (iota m.length) (List.Perm.refl _))
  have HOL := Lib.hid hOl
  have HIL := Lib.hid hIL
  have HX0 := Lib.hid (hx.trans hy)
  clear hv hIL hOl hy hx hs0 hF
  go_wp2_with fail
  go_loopw [10, 11, 53] (fun v1 v2 x wr => ∃ (k : Nat) (L1 L2 : List RatC), k ≤ F ∧ x = .int .i64 k ∧ Two wr (Array.size (World.heap xO)) v1 L1 (((ordersL m.length).take k).map fun p => driQ (movL m p) A) v2 L2 (((ordersL m.length).take k).map fun p => agrQ (chgL m p B) A B) ∧ L1.length = k ∧ L2.length = k ∧ Ext xO wr) (fun _ _ x _ => F - (intOf x).toNat)
  case atStart => exact ⟨0, [], [], Nat.zero_le _, rfl, Two.nil _ _, rfl, rfl, Ext.refl _⟩
  case round =>
    obtain ⟨k, L1, L2, hk, rfl, how, hL1, hL2, hxr⟩ := hrel
    generalize wr = wK at *
    have HOW := Lib.hid how
    have HXK := Lib.hid hxr
    have HXW := Lib.hid (HX0.out.trans hxr)
    have p1 : (0 : Int) ≤ (k : Int) := by omega
    clear how hxr
    by_cases hkF : k < F
    · have hkl : k < (ordersL m.length).length := by rw [HOL.out]; exact hkF
      obtain ⟨bo, oo, rfl⟩ := HIL.out.head hkl
      obtain ⟨ord, ao, co, hor, hco, hIo⟩ := Rows.get (Rows.ext HXK.out HIL.out) hkl
      have hmo := List.mem_of_getElem? hor
      obtain ⟨-, hol, hob⟩ := ordersL_of hmo
      have hOrd := ord_of_mem hmo
      have HOrd := Lib.hid hOrd
      have HMO := Lib.hid hmo
      have HOB := Lib.hid hob
      have HOLn := Lib.hid hol
      have HTK := Lib.hid (take_get hor)
      have oole := hIo.le
      have oomx := hIo.mx
      rw [hol] at hco oole
      have HIo := Lib.hid hIo
      have p4 : (k : Int) < (F : Int) := by omega
      clear hkl hor hol hob hIo hmo hOrd
      go_wp2_with fail
      clear hco
      go_loopw [14, 15, 59] (fun v1 v2 x wr => ∃ i : Nat, i ≤ m.length ∧ x = .int .i64 i ∧ TwoL IsInts wr (Array.size (World.heap wK)) 27 v1 ((movL m ord).take i) v2 ((chgL m ord B).take i) ∧ Ext wK wr) (fun _ _ x _ => m.length - (intOf x).toNat)
      case atStart => exact ⟨0, Nat.zero_le _, rfl, TwoL.nil _ _ _, Ext.refl _⟩
      case round =>
        obtain ⟨i, hi, rfl, how, hxr⟩ := hrel
        have HOWi := Lib.hid how
        have HXI := Lib.hid hxr
        have HLT1 := Lib.hid (fun g e => how.one.lt g e)
        have HLT2 := Lib.hid (fun g e => how.two.lt g e)
        have q1 : (0 : Int) ≤ (i : Int) := by omega
        clear how hxr
        by_cases hin : i < m.length
        · obtain ⟨b9, o9, rfl⟩ := HIo.out.head (i := i) (by rw [HOLn.out]; exact hin)
          obtain ⟨t, ht, hct, -, -⟩ := Ints.get (HIo.out.ext HXI.out) (i := i) (by rw [HOLn.out]; exact hin)
          obtain ⟨t1, t2⟩ := HOB.out t (List.mem_of_getElem? ht)
          obtain ⟨u, rfl⟩ : ∃ u : Nat, t = (u : Int) := ⟨t.toNat, by omega⟩
          have hu : u < m.length := by omega
          have hod : ord.getD i 0 = (u : Int) := by rw [List.getD_eq_getElem?_getD, ht]; rfl
          obtain ⟨r1, a3, c3, hrow, hcr, hIr⟩ := Rows.get HH.out hin
          obtain ⟨hrl, hr16, hrb⟩ := HRR.out.row r1 (List.mem_of_getElem? hrow)
          obtain ⟨r2, a4, c4, hrow2, hcr2, hIr2⟩ := Rows.get HH.out hu
          obtain ⟨hrl2, hr162, hrb2⟩ := HRR.out.row r2 (List.mem_of_getElem? hrow2)
          obtain ⟨b5', o5, rfl⟩ := hIr2.head (i := B) (by omega)
          obtain ⟨xb, hxb, hcb, -, -⟩ := Ints.get hIr2 (i := B) (by omega)
          have hb5 : b5' < Array.size (World.heap w) := lt_of_cell hcb
          obtain ⟨xb1, xb2⟩ := hrb2 xb (List.mem_of_getElem? hxb)
          have HXB := Lib.hid hxb
          have HRB := Lib.hid hrb
          have rle := hIr.le
          have rmx := hIr.mx
          have rle2 := hIr2.le
          have rmx2 := hIr2.mx
          rw [hrl] at hcr rle
          rw [hrl2] at hcr2 rle2
          have e1 : m.getD i [] = r1 := by rw [List.getD_eq_getElem?_getD, hrow]; rfl
          have e2 : m.getD u [] = r2 := by rw [List.getD_eq_getElem?_getD, hrow2]; rfl
          have HM1 : Hid ((movL m ord).take (i + 1) = (movL m ord).take i ++ [r2]) := Lib.hid (take_get (by unfold movL; rw [List.getElem?_map, ht]; exact congrArg some (by show m.getD (u : Int).toNat [] = r2; rw [Int.toNat_natCast]; exact e2)))
          have HM2 : Hid ((chgL m ord B).take (i + 1) = (chgL m ord B).take i ++ [r1.set B xb]) := Lib.hid (take_get (by unfold chgL; rw [List.getElem?_map, List.getElem?_range (by rw [HOLn.out]; exact hin)]; exact congrArg some (by unfold chgR; rw [e1, hod, Int.toNat_natCast, e2, List.getD_eq_getElem?_getD (l := r2), hxb]; rfl)))
          have HL1 : Hid (((movL m ord).take i).length ≤ 1000000) := Lib.hid (by rw [List.length_take]; omega)
          have HL2 : Hid (((chgL m ord B).take i).length ≤ 1000000) := Lib.hid (by rw [List.length_take]; omega)
          have HRL := Lib.hid hrl
          have HRL2 := Lib.hid hrl2
          have HIr := Lib.hid hIr
          have HIr2 := Lib.hid hIr2
          have HCR := Lib.hid hcr
          have HCR2 := Lib.hid hcr2
          have HCB := Lib.hid hcb
          have hx := HXW.out.trans HXI.out
          have hcr2w := cell_exQ hx hcr2
          have l1 : (i : Int) < (m.length : Int) := by omega
          have l4 : (u : Int) < (m.length : Int) := by omega
          have l5 : (0 : Int) ≤ (u : Int) := by omega
          have hwsz : Array.size (World.heap w) ≤ Array.size (World.heap wK) := HXW.out.size
          have hksz : Array.size (World.heap wK) ≤ Array.size (World.heap wr) := HXI.out.size
          clear ht hod hrow hrl hrb hrow2 hrl2 hrb2 hxb e1 e2 hIr hIr2 t1 t2 hcr hcr2 hcb
          have HOW1 := Lib.hid (HOWi.out.ext rdInts (Ext.alloc wr (.cells #[.slice (some ⟨b5', o5, none⟩) n c4] 27)))
          have HX1 := Lib.hid (HXI.out.alloc' (.cells #[.slice (some ⟨b5', o5, none⟩) n c4] 27))
          have HU1 : Hid (IsInts (wr.alloc (.cells #[.slice (some ⟨b5', o5, none⟩) n c4] 27)) (.slice (some ⟨b5', o5, none⟩) n c4) r2) := Lib.hid ⟨_, _, by rw [HRL2.out], (HIr2.out.ext hx).ext (Ext.alloc _ _)⟩
          have hof : ∀ q, (∀ g, q = some g → Array.size (World.heap wK) ≤ g) → OffV (.slice (some ⟨b5', o5, none⟩) n c4) q := fun q hq A n c e hn e2 => by
            simp only [Value.slice.injEq, Option.some.injEq] at e
            obtain ⟨rfl, _⟩ := e
            have := hq _ e2
            dsimp only at this
            omega
          have HOF := Lib.hid hof
          clear hof
          go_upto_region 16 with (at_builtin; refine wpl_append_twoL rdInts rfl (.tmp 64) (.tmp 69) 22 27 rfl Tryz.underlying22 (z := .slice none 0 0) rfl infoIntsW HX1.out rfl HOW1.out rfl (Blk.new0 wr _ _) HU1.out (HOF.out _ fun g e => (HLT1.out g e).1) (HOF.out _ fun g e => (HLT2.out g e).1) HL1.out ?_; intro va vc w2 hT2 hx2 hg2)
          have HT2 := Lib.hid hT2
          have HX2 := Lib.hid hx2
          have HLA := Lib.hid (fun g e => hT2.one.lt g e)
          have HLB := Lib.hid (fun g e => hT2.two.lt g e)
          have hxw2 := HXW.out.trans hx2
          have hcr' := cell_exQ (hxw2.alloc' (.cells #[] 3)) HCR.out
          have HXW2 := Lib.hid hxw2
          obtain ⟨xo, hxo⟩ : ∃ x, r1[B]? = some x := ⟨_, List.getElem?_eq_getElem (by rw [HRL.out]; exact hBn)⟩
          have HXO := Lib.hid hxo
          clear hT2 hx2 hg2 HLT1 HLT2 HOW1 HX1 HU1 HOF hcr2w hxw2 HOWi hxo
          go_upto_region 17 with (at_builtin; refine wpl_append_ext rfl (.tmp 71) (.tmp 75) 27 rfl Tryz.underlying27 (Ext.alloc w2 (.cells #[] 3)) _ [] rfl (OwnI.new w2) _ _ _ r1 rfl HRL.out ((HIr.out.ext HXW2.out).ext (Ext.alloc _ _)) (by have := HRL.out; simp; omega) ?_; intro v' w3 hown3 hx3; rw [List.nil_append] at hown3; obtain ⟨gr, cr, rfl, hI3, hgr⟩ := hown3.look (fun x hx => by have := HRB.out x hx; omega))
          have hxw3 := HXW2.out.trans hx3
          have hd1 := cell_exQ hxw3 HCR2.out
          have hd2 := cell_exQ hxw3 HCB.out
          have hc3 := hI3.atW HXO.out
          have hf3 := hown3.freeW B
          have rle3 := hI3.le
          have rmx3 := hI3.mx
          rw [HRL.out] at rle3
          try rw [HRL.out]
          have HI3 := Lib.hid hI3
          have HX3 := Lib.hid hx3
          clear hI3 hown3 hcr' hx3 hxw3
          go_upto_region 18 with fail
          have hI4 := HI3.out.putW (i := B) (u := xb) (by omega)
          have hx4 := HX3.out.set (p := ⟨gr, B, none⟩) hgr (.int .i64 xb)
          clear hc3 hf3 HI3 HX3 hd1 hd2
          generalize w3.setCell ⟨gr, B, none⟩ (.int .i64 xb) = w4 at *
          have hrl4 : (r1.set B xb).length = n := by rw [List.length_set]; exact HRL.out
          have HOW4 := Lib.hid ((HT2.out.ext rdInts hx4).swap.ext rdInts (Ext.alloc w4 (.cells #[.slice (some ⟨gr, 0, none⟩) n cr] 27)))
          have HX5 := Lib.hid ((HX2.out.trans hx4).alloc' (.cells #[.slice (some ⟨gr, 0, none⟩) n cr] 27))
          have HU5 : Hid (IsInts (w4.alloc (.cells #[.slice (some ⟨gr, 0, none⟩) n cr] 27)) (.slice (some ⟨gr, 0, none⟩) n cr) (r1.set B xb)) := Lib.hid ⟨_, _, by rw [hrl4], hI4.ext (Ext.alloc _ _)⟩
          have hof : ∀ q, (∀ g, q = some g → g < Array.size (World.heap w2)) → OffV (.slice (some ⟨gr, 0, none⟩) n cr) q := fun q hq A n c e hn e2 => by
            simp only [Value.slice.injEq, Option.some.injEq] at e
            obtain ⟨rfl, _⟩ := e
            have := hq _ e2
            dsimp only at this
            omega
          have HOF := Lib.hid hof
          clear hof hI4 hx4 hrl4 HT2 HX2
          go_upto_region 19 with (at_builtin; refine wpl_append_twoL rdInts rfl (.tmp 87) (.tmp 89) 22 27 rfl Tryz.underlying22 (z := .slice none 0 0) rfl infoIntsW HX5.out rfl HOW4.out rfl (Blk.new0 w4 _ _) HU5.out (HOF.out _ fun g e => (HLB.out g e).2) (HOF.out _ fun g e => (HLA.out g e).2) HL2.out ?_; intro vb vd w5 hT5 hx5 hg5)
          have HF5 : Hid (∃ k1 k2, k1 = ((movL m ord).take i).length + 1 ∧ k2 = ((chgL m ord B).take i).length + 1 ∧ TwoL IsInts w5 (Array.size (World.heap wK)) 27 (.slice va k1 vc) ((movL m ord).take i ++ [r2]) (.slice vb k2 vd) ((chgL m ord B).take i ++ [r1.set B xb])) := Lib.hid ⟨_, _, rfl, rfl, hT5.swap⟩
          have HX6 := Lib.hid hx5
          clear hT5 hx5 hg5 HOW4 HX5 HU5 HOF HLA HLB
          go_wp2_with fail
          go_roundw
          case rel =>
            obtain ⟨k1, k2, e1, e2, ht⟩ := HF5.out
            refine ⟨i + 1, by omega, by go_num, ?_, HX6.out⟩
            rw [HM1.out, HM2.out]
            subst e1 e2
            first | exact ht | (simp only [List.length_take] at ht; exact ht)
          case measure => simp [intOf]; omega
        · have l1 : ¬ (i : Int) < (m.length : Int) := by omega
          have hT := HOWi.out
          have hol := HOLn.out
          rw [List.take_of_length_le (by rw [movL_len, hol]; omega), List.take_of_length_le (by rw [chgL_len, hol]; omega)] at hT
          obtain ⟨ax, cx, e1, hIX⟩ := hT.one.sl
          obtain ⟨ay, cy, e2, hIY⟩ := hT.two.sl
          subst e1 e2
          rw [movL_len, hol, chgL_len, hol]
          have xle := hIX.le
          have xmx := hIX.mx
          have yle := hIY.le
          have ymx := hIY.mx
          rw [movL_len, hol] at xle
          rw [chgL_len, hol] at yle
          have HRX : Hid (OwRowsO wr ax cx (movL m ord)) := Lib.hid ⟨hIX⟩
          have HRY : Hid (OwRowsO wr ay cy (chgL m ord B)) := Lib.hid ⟨hIY⟩
          have HTw := Lib.hid (HOW.out.ext HXI.out)
          have HXQ := Lib.hid (HXK.out.trans HXI.out)
          have hx := HXW.out.trans HXI.out
          have hs0 := hx.size
          have HS1 := Lib.hid (HSzD.out ord HMO.out)
          have HS2 := Lib.hid (HSzA.out ord HMO.out)
          have HD1 := Lib.hid (fun W hX => HDr.out W ax cx ord HOrd.out hX)
          have HA1 := Lib.hid (fun W hX => HAg.out W ay cy ord HOrd.out hX)
          generalize hRD : driQ (movL m ord) A = RD at *
          generalize hRA : agrQ (chgL m ord B) A B = RA at *
          have HRD := Lib.hid hRD
          have HRA := Lib.hid hRA
          clear hT hIX hIY HOWi hol HLT1 HLT2 hRD hRA
          have HLA := Lib.hid (fun g e => Nat.lt_of_lt_of_le (HOW.out.a.lt g e).2 HXI.out.size)
          have HLB := Lib.hid (fun g e => Nat.lt_of_lt_of_le (HOW.out.b.lt g e).2 HXI.out.size)
          have HXQ2 := Lib.hid (Ext.refl wr)
          have hsr : Array.size (World.heap wr) ≤ Array.size (World.heap wr) := Nat.le_refl _
          go_wp2_with fail
          with_reducible refine (HD1.out _ HRX.out.h).mono ?_
          rintro e x3 ⟨v, rfl, hv, hy⟩
          obtain ⟨nu, au, qu, cu, bu, ku, du, rfl, hvv, hfa, hfb⟩ := hv
          have HOffu := Lib.hid (fun (o : Option Nat) (ho : ∀ g, o = some g → g < Array.size (World.heap wr)) => (⟨fun _ A hA e => by have h1 := ho _ e; have h2 := hfa A hA; omega, fun _ A hA e => by have h1 := ho _ e; have h2 := hfb A hA; omega⟩ : RatC.Off ⟨nu, au, qu, cu, false, bu, ku, du⟩ o))
          replace hx := hx.trans hy
          replace HRX := Lib.hid (HRX.out.ext hy)
          replace HRY := Lib.hid (HRY.out.ext hy)
          replace HTw := Lib.hid (HTw.out.ext hy)
          have Vu := Lib.hid hvv
          replace HXQ := Lib.hid (HXQ.out.trans hy)
          replace HXQ2 := Lib.hid (HXQ2.out.trans hy)
          clear hy hvv hfa hfb hsr
          have HXb := Lib.hid (HXQ.out.alloc' (.cells #[.bool nu, .slice au qu cu, .bool false, .slice bu ku du] 34))
          have HXc := Lib.hid (HXQ2.out.alloc' (.cells #[.bool nu, .slice au qu cu, .bool false, .slice bu ku du] 34))
          have hsu : Array.size (World.heap wr) ≤ Array.size (World.heap x3) := HXQ2.out.size
          go_upto_region 21 with fail
          have hl := Ext.alloc x3 (.cells #[.bool nu, .slice au qu cu, .bool false, .slice bu ku du] 34)
          have hpu : w.heap.size ≤ x3.heap.size := hx.size
          replace hx := hx.trans hl
          replace HRX := Lib.hid (HRX.out.ext hl)
          replace HRY := Lib.hid (HRY.out.ext hl)
          replace HTw := Lib.hid (HTw.out.ext hl)
          replace Vu := Lib.hid (Vu.out.ext hl)
          have Ku := Lib.hid (Blk.new0 x3 #[.bool nu, .slice au qu cu, .bool false, .slice bu ku du] 34)
          clear hl
          generalize x3.alloc (.cells #[.bool nu, .slice au qu cu, .bool false, .slice bu ku du] 34) = x4 at *
          generalize x3.heap.size = pu at *
          replace HXQ := HXb
          replace HXQ2 := HXc
          clear HXb HXc
          obtain ⟨cu0, cu1, cu2, cu3⟩ := bk4 Ku
          have hsr : Array.size (World.heap wr) ≤ Array.size (World.heap x4) := HXQ2.out.size
          go_wp2_with fail
          clear cu0 cu1 cu2 cu3
          with_reducible refine (HA1.out _ HRY.out.h).mono ?_
          rintro e x5 ⟨v, rfl, hv, hy⟩
          obtain ⟨nv, av, qv, cv, bv, kv, dv, rfl, hvv, hfa, hfb⟩ := hv
          have HOffv := Lib.hid (fun (o : Option Nat) (ho : ∀ g, o = some g → g < Array.size (World.heap wr)) => (⟨fun _ A hA e => by have h1 := ho _ e; have h2 := hfa A hA; omega, fun _ A hA e => by have h1 := ho _ e; have h2 := hfb A hA; omega⟩ : RatC.Off ⟨nv, av, qv, cv, false, bv, kv, dv⟩ o))
          replace hx := hx.trans hy
          replace Ku := kE Ku hy
          replace HRX := Lib.hid (HRX.out.ext hy)
          replace HRY := Lib.hid (HRY.out.ext hy)
          replace HTw := Lib.hid (HTw.out.ext hy)
          replace Vu := Lib.hid (Vu.out.ext hy)
          have Vv := Lib.hid hvv
          replace HXQ := Lib.hid (HXQ.out.trans hy)
          replace HXQ2 := Lib.hid (HXQ2.out.trans hy)
          clear hy hvv hfa hfb hsr
          obtain ⟨cu0, cu1, cu2, cu3⟩ := bk4 Ku
          have HXb := Lib.hid (HXQ.out.alloc' (.cells #[.bool nv, .slice av qv cv, .bool false, .slice bv kv dv] 34))
          have HXc := Lib.hid (HXQ2.out.alloc' (.cells #[.bool nv, .slice av qv cv, .bool false, .slice bv kv dv] 34))
          have hsv : Array.size (World.heap wr) ≤ Array.size (World.heap x5) := HXQ2.out.size
          go_upto_region 22 with fail
          have hl := Ext.alloc x5 (.cells #[.bool nv, .slice av qv cv, .bool false, .slice bv kv dv] 34)
          have luv : pu < x5.heap.size := Ku.out.lt
          have hpv : w.heap.size ≤ x5.heap.size := hx.size
          clear cu0 cu1 cu2 cu3
          replace hx := hx.trans hl
          replace Ku := kE Ku hl
          replace HRX := Lib.hid (HRX.out.ext hl)
          replace HRY := Lib.hid (HRY.out.ext hl)
          replace HTw := Lib.hid (HTw.out.ext hl)
          replace Vu := Lib.hid (Vu.out.ext hl)
          replace Vv := Lib.hid (Vv.out.ext hl)
          have Kv := Lib.hid (Blk.new0 x5 #[.bool nv, .slice av qv cv, .bool false, .slice bv kv dv] 34)
          clear hl
          generalize x5.alloc (.cells #[.bool nv, .slice av qv cv, .bool false, .slice bv kv dv] 34) = x6 at *
          generalize x5.heap.size = pv at *
          replace HXQ := HXb
          replace HXQ2 := HXc
          clear HXb HXc
          obtain ⟨cu0, cu1, cu2, cu3⟩ := bk4 Ku
          obtain ⟨cv0, cv1, cv2, cv3⟩ := bk4 Kv
          go_wp2_with fail
          clear cu0 cu1 cu2 cu3 cv0 cv1 cv2 cv3
          refine (rcheckR_val Vu.out (HS1.out.lenN (by omega)) (HS1.out.lenD (by omega))).mono ?_
          rintro e x7 ⟨rfl, hy⟩
          replace hx := hx.trans hy
          replace Ku := kE Ku hy
          replace Kv := kE Kv hy
          replace HRX := Lib.hid (HRX.out.ext hy)
          replace HRY := Lib.hid (HRY.out.ext hy)
          replace HTw := Lib.hid (HTw.out.ext hy)
          replace Vu := Lib.hid (Vu.out.ext hy)
          replace Vv := Lib.hid (Vv.out.ext hy)
          replace HXQ := Lib.hid (HXQ.out.trans hy)
          replace HXQ2 := Lib.hid (HXQ2.out.trans hy)
          clear hy
          obtain ⟨cu0, cu1, cu2, cu3⟩ := bk4 Ku
          obtain ⟨cv0, cv1, cv2, cv3⟩ := bk4 Kv
          go_wp2_with fail
          clear cu0 cu1 cu2 cu3 cv0 cv1 cv2 cv3
          refine (rcheckR_val Vv.out (HS2.out.lenN (by omega)) (HS2.out.lenD (by omega))).mono ?_
          rintro e x8 ⟨rfl, hy⟩
          replace hx := hx.trans hy
          replace Ku := kE Ku hy
          replace Kv := kE Kv hy
          replace HRX := Lib.hid (HRX.out.ext hy)
          replace HRY := Lib.hid (HRY.out.ext hy)
          replace HTw := Lib.hid (HTw.out.ext hy)
          replace Vu := Lib.hid (Vu.out.ext hy)
          replace Vv := Lib.hid (Vv.out.ext hy)
          replace HXQ := Lib.hid (HXQ.out.trans hy)
          replace HXQ2 := Lib.hid (HXQ2.out.trans hy)
          clear hy
          obtain ⟨cu0, cu1, cu2, cu3⟩ := bk4 Ku
          obtain ⟨cv0, cv1, cv2, cv3⟩ := bk4 Kv
          go_upto_region 24 with fail
          clear cu0 cu1 cu2 cu3 cv0 cv1 cv2 cv3
          have s0 : World.cell? x8 ⟨pu, 0, none⟩ = some (.bool nu) := Ku.out.cell (i := 0) (v := .bool nu) rfl
          have s1 : World.cell? x8 ⟨pu, 1, none⟩ = some (.slice au qu cu) := Ku.out.cell (i := 1) (v := .slice au qu cu) rfl
          have s2 : World.cell? x8 ⟨pu, 2, none⟩ = some (.bool false) := Ku.out.cell (i := 2) (v := .bool false) rfl
          have s3 : World.cell? x8 ⟨pu, 3, none⟩ = some (.slice bu ku du) := Ku.out.cell (i := 3) (v := .slice bu ku du) rfl
          have s4 : World.cell? x8 ⟨pv, 0, none⟩ = some (.bool nv) := Kv.out.cell (i := 0) (v := .bool nv) rfl
          have s5 : World.cell? x8 ⟨pv, 1, none⟩ = some (.slice av qv cv) := Kv.out.cell (i := 1) (v := .slice av qv cv) rfl
          have s6 : World.cell? x8 ⟨pv, 2, none⟩ = some (.bool false) := Kv.out.cell (i := 2) (v := .bool false) rfl
          have s7 : World.cell? x8 ⟨pv, 3, none⟩ = some (.slice bv kv dv) := Kv.out.cell (i := 3) (v := .slice bv kv dv) rfl
          have HOu1 := Lib.hid (HOffu.out _ HLA.out)
          have HOu2 := Lib.hid (HOffu.out _ HLB.out)
          have HOv1 := Lib.hid (HOffv.out _ HLA.out)
          have HOv2 := Lib.hid (HOffv.out _ HLB.out)
          have hl1 := Lib.hid (show L1.length ≤ 1000000 by omega)
          have hl2 := Lib.hid (show L2.length ≤ 1000000 by omega)
          have HQ1 := Lib.hid (fun p (hp : Array.size (World.heap wr) ≤ p) e => Nat.lt_irrefl p (Nat.lt_of_lt_of_le (HLA.out p e) hp))
          have HQ2 := Lib.hid (fun p (hp : Array.size (World.heap wr) ≤ p) e => Nat.lt_irrefl p (Nat.lt_of_lt_of_le (HLB.out p e) hp))
          have hyd : Ext x8 (World.drew x8) := (Ext.refl _).drew
          replace hx := hx.trans hyd
          replace Ku := kE Ku hyd
          replace Kv := kE Kv hyd
          replace HTw := Lib.hid (HTw.out.ext hyd)
          replace Vu := Lib.hid (Vu.out.ext hyd)
          replace Vv := Lib.hid (Vv.out.ext hyd)
          replace HXQ := Lib.hid (HXQ.out.trans hyd)
          replace HXQ2 := Lib.hid (HXQ2.out.trans hyd)
          clear hyd
          replace s0 : World.cell? (World.drew x8) ⟨pu, 0, none⟩ = some (.bool nu) := s0
          replace s1 : World.cell? (World.drew x8) ⟨pu, 1, none⟩ = some (.slice au qu cu) := s1
          replace s2 : World.cell? (World.drew x8) ⟨pu, 2, none⟩ = some (.bool false) := s2
          replace s3 : World.cell? (World.drew x8) ⟨pu, 3, none⟩ = some (.slice bu ku du) := s3
          replace s4 : World.cell? (World.drew x8) ⟨pv, 0, none⟩ = some (.bool nv) := s4
          replace s5 : World.cell? (World.drew x8) ⟨pv, 1, none⟩ = some (.slice av qv cv) := s5
          replace s6 : World.cell? (World.drew x8) ⟨pv, 2, none⟩ = some (.bool false) := s6
          replace s7 : World.cell? (World.drew x8) ⟨pv, 3, none⟩ = some (.slice bv kv dv) := s7
          have HSW := Lib.hid HXQ2.out.size
          clear HXQ2 hx
          refine wp_region_held_drew (S := (fun w' => World.cell? w' ⟨pu, 0, none⟩ = some (.bool nu) ∧ World.cell? w' ⟨pu, 1, none⟩ = some (.slice au qu cu) ∧ World.cell? w' ⟨pu, 2, none⟩ = some (.bool false) ∧ World.cell? w' ⟨pu, 3, none⟩ = some (.slice bu ku du) ∧ World.cell? w' ⟨pv, 0, none⟩ = some (.bool nv) ∧ World.cell? w' ⟨pv, 1, none⟩ = some (.slice av qv cv) ∧ World.cell? w' ⟨pv, 2, none⟩ = some (.bool false) ∧ World.cell? w' ⟨pv, 3, none⟩ = some (.slice bv kv dv))) (by kernel_rfl) ?_ (fun hHeld => ?_)
          · exact ⟨s0, s1, s2, s3, s4, s5, s6, s7⟩
          (try simp only [← List.toArray_replicate, List.size_toArray, List.length_cons, List.length_nil, Nat.reduceAdd, List.replicate_succ, List.replicate_zero])
          generalize World.drew x8 = y0 at *
          refine wpAnyH_take (i := 0) (oi := _) (v := ?_) rfl (by kernel_rfl) (by kernel_rfl) (by kernel_rfl) (fun _ _ _ h => h) (Or.inl ⟨by rfl, ?_⟩) (by assumption) ?_
          rotate_left
          · (intro w hSw; (try dsimp only at hSw); (try go_simp); (try with_reducible rfl))
          (try simp only [Act.put, List.getElem_toArray, List.getElem_cons_succ, List.getElem_cons_zero, List.setIfInBounds_toArray, List.set_cons_zero, List.set_cons_succ])
          refine wpAnyH_take (i := 1) (oi := _) (v := ?_) rfl (by kernel_rfl) (by kernel_rfl) (by kernel_rfl) (fun _ _ _ h => h) (Or.inl ⟨by rfl, ?_⟩) (by assumption) ?_
          rotate_left
          · (intro w hSw; (try dsimp only at hSw); (try go_simp); (try with_reducible rfl))
          (try simp only [Act.put, List.getElem_toArray, List.getElem_cons_succ, List.getElem_cons_zero, List.setIfInBounds_toArray, List.set_cons_zero, List.set_cons_succ])
          refine wpAnyH_take (i := 4) (oi := _) (v := ?_) rfl (by kernel_rfl) (by kernel_rfl) (by kernel_rfl) (fun _ _ _ h => h) (Or.inl ⟨by rfl, ?_⟩) (by assumption) ?_
          rotate_left
          · (intro w hSw; (try dsimp only at hSw); (try go_simp); (try with_reducible rfl))
          (try simp only [Act.put, List.getElem_toArray, List.getElem_cons_succ, List.getElem_cons_zero, List.setIfInBounds_toArray, List.set_cons_zero, List.set_cons_succ])
          refine wpAnyH_take (i := 5) (oi := _) (v := ?_) rfl (by kernel_rfl) (by kernel_rfl) (by kernel_rfl) (fun _ _ _ h => h) (Or.inl ⟨by rfl, ?_⟩) (by assumption) ?_
          rotate_left
          · (intro w hSw; (try dsimp only at hSw); (try go_simp); (try with_reducible rfl))
          (try simp only [Act.put, List.getElem_toArray, List.getElem_cons_succ, List.getElem_cons_zero, List.setIfInBounds_toArray, List.set_cons_zero, List.set_cons_succ])
          refine wpAnyH_ready (rs := [2, 6]) (by kernel_rfl) (by simp) ?_
          refine AllReadyH.cons (o := _) rfl (fun K hK => ?_) ?_
          · go_simp
            have hy := Ext.alloc y0 (.cells #[.bool nu, .slice au qu cu, .bool false, .slice bu ku du] 34); have hsy2 := HSW.out; have hB2 := Blk.new0 y0 #[.bool nu, .slice au qu cu, .bool false, .slice bu ku du] 34; replace HXQ := Lib.hid (HXQ.out.trans hy); replace HSW := Lib.hid (Nat.le_trans HSW.out hy.size); replace HTw := Lib.hid (HTw.out.ext hy); replace Ku := kE Ku hy; replace Kv := kE Kv hy; replace Vu := Lib.hid (Vu.out.ext hy); replace Vv := Lib.hid (Vv.out.ext hy); clear hy; generalize World.alloc y0 (.cells #[.bool nu, .slice au qu cu, .bool false, .slice bu ku du] 34) = y1 at *; generalize Array.size (World.heap y0) = pg2 at *; replace s0 := Ku.out.cell (i := 0) (v := .bool nu) rfl; replace s1 := Ku.out.cell (i := 1) (v := .slice au qu cu) rfl; replace s2 := Ku.out.cell (i := 2) (v := .bool false) rfl; replace s3 := Ku.out.cell (i := 3) (v := .slice bu ku du) rfl; replace s4 := Kv.out.cell (i := 0) (v := .bool nv) rfl; replace s5 := Kv.out.cell (i := 1) (v := .slice av qv cv) rfl; replace s6 := Kv.out.cell (i := 2) (v := .bool false) rfl; replace s7 := Kv.out.cell (i := 3) (v := .slice bv kv dv) rfl
            refine hK.out _ _ ?_ (fun hHeld2 => ?_)
            · exact ⟨s0, s1, s2, s3, s4, s5, s6, s7⟩
            clear hK K hHeld
            have hHeld := hHeld2
            clear hHeld2
            (try simp only [Act.put, List.getElem_toArray, List.getElem_cons_succ, List.getElem_cons_zero, List.setIfInBounds_toArray, List.set_cons_zero, List.set_cons_succ])
            refine wpAnyH_ready (rs := [3, 6]) (by kernel_rfl) (by simp) ?_
            refine AllReadyH.cons (o := _) rfl (fun K hK => ?_) ?_
            · refine step_two (by rfl) (.tmp 121) (.tmp 123) (by rfl) HXQ.out (by rfl) HTw.out (by rfl) (x := ⟨nu, au, qu, cu, false, bu, ku, du⟩) hB2 Vu.out HOu1.out HOu2.out hl1.out ?_; intro va1 vc1 z5 hT hE hg hob; replace HSW := Lib.hid (Nat.le_trans HSW.out hg.size); replace Ku := Lib.hid (Ku.out.own2 hg (HQ1.out pu hsu)); replace Kv := Lib.hid (Kv.out.own2 hg (HQ1.out pv hsv)); have hO2 : RatC.Off ⟨nv, av, qv, cv, false, bv, kv, dv⟩ (Value.ownBlock (.slice va1 (L1.length + 1) vc1)) := ⟨fun hq A hA => hob _ (Vv.out.num.lt hq A hA) (HOv1.out.a hq A hA), fun hq A hA => hob _ (Vv.out.den.lt hq A hA) (HOv1.out.b hq A hA)⟩; replace Vv := Lib.hid (RatV.grown (x := ⟨nv, av, qv, cv, false, bv, kv, dv⟩) Vv.out hg HOv1.out); replace HOv1 := Lib.hid hO2; clear hO2; replace HTw := Lib.hid hT; replace HXQ := Lib.hid hE; clear hT hE hob hg hB2 Vu HOu1 HOu2; replace s0 := Ku.out.cell (i := 0) (v := .bool nu) rfl; replace s1 := Ku.out.cell (i := 1) (v := .slice au qu cu) rfl; replace s2 := Ku.out.cell (i := 2) (v := .bool false) rfl; replace s3 := Ku.out.cell (i := 3) (v := .slice bu ku du) rfl; replace s4 := Kv.out.cell (i := 0) (v := .bool nv) rfl; replace s5 := Kv.out.cell (i := 1) (v := .slice av qv cv) rfl; replace s6 := Kv.out.cell (i := 2) (v := .bool false) rfl; replace s7 := Kv.out.cell (i := 3) (v := .slice bv kv dv) rfl
              refine hK.out _ _ ?_ (fun hHeld2 => ?_)
              · exact ⟨s0, s1, s2, s3, s4, s5, s6, s7⟩
              clear hK K hHeld
              have hHeld := hHeld2
              clear hHeld2
              (try simp only [Act.put, List.getElem_toArray, List.getElem_cons_succ, List.getElem_cons_zero, List.setIfInBounds_toArray, List.set_cons_zero, List.set_cons_succ])
              refine wpAnyH_ready (rs := [6]) (by kernel_rfl) (by simp) ?_
              refine AllReadyH.cons (o := _) rfl (fun K hK => ?_) ?_
              · go_simp
                have hy := Ext.alloc z5 (.cells #[.bool nv, .slice av qv cv, .bool false, .slice bv kv dv] 34); have hsy6 := HSW.out; have hB6 := Blk.new0 z5 #[.bool nv, .slice av qv cv, .bool false, .slice bv kv dv] 34; replace HXQ := Lib.hid (HXQ.out.trans hy); replace HSW := Lib.hid (Nat.le_trans HSW.out hy.size); replace HTw := Lib.hid (HTw.out.ext hy); replace Ku := kE Ku hy; replace Kv := kE Kv hy; replace Vv := Lib.hid (Vv.out.ext hy); clear hy; generalize World.alloc z5 (.cells #[.bool nv, .slice av qv cv, .bool false, .slice bv kv dv] 34) = y6 at *; generalize Array.size (World.heap z5) = pg6 at *; replace s0 := Ku.out.cell (i := 0) (v := .bool nu) rfl; replace s1 := Ku.out.cell (i := 1) (v := .slice au qu cu) rfl; replace s2 := Ku.out.cell (i := 2) (v := .bool false) rfl; replace s3 := Ku.out.cell (i := 3) (v := .slice bu ku du) rfl; replace s4 := Kv.out.cell (i := 0) (v := .bool nv) rfl; replace s5 := Kv.out.cell (i := 1) (v := .slice av qv cv) rfl; replace s6 := Kv.out.cell (i := 2) (v := .bool false) rfl; replace s7 := Kv.out.cell (i := 3) (v := .slice bv kv dv) rfl
                refine hK.out _ _ ?_ (fun hHeld2 => ?_)
                · exact ⟨s0, s1, s2, s3, s4, s5, s6, s7⟩
                clear hK K hHeld
                have hHeld := hHeld2
                clear hHeld2
                (try simp only [Act.put, List.getElem_toArray, List.getElem_cons_succ, List.getElem_cons_zero, List.setIfInBounds_toArray, List.set_cons_zero, List.set_cons_succ])
                refine wpAnyH_ready (rs := [7]) (by kernel_rfl) (by simp) ?_
                refine AllReadyH.cons (o := _) rfl (fun K hK => ?_) ?_
                · refine step_two (by rfl) (.tmp 125) (.tmp 127) (by rfl) HXQ.out (by rfl) HTw.out.swap (by rfl) (x := ⟨nv, av, qv, cv, false, bv, kv, dv⟩) hB6 Vv.out HOv2.out HOv1.out hl2.out ?_; intro va2 vc2 z7 hT hE hg hob; replace HSW := Lib.hid (Nat.le_trans HSW.out hg.size); replace Ku := Lib.hid (Ku.out.own2 hg (HQ2.out pu hsu)); replace Kv := Lib.hid (Kv.out.own2 hg (HQ2.out pv hsv)); replace HTw := Lib.hid hT.swap; replace HXQ := Lib.hid hE; clear hT hE hob hg hB6 Vv HOv1 HOv2; replace s0 := Ku.out.cell (i := 0) (v := .bool nu) rfl; replace s1 := Ku.out.cell (i := 1) (v := .slice au qu cu) rfl; replace s2 := Ku.out.cell (i := 2) (v := .bool false) rfl; replace s3 := Ku.out.cell (i := 3) (v := .slice bu ku du) rfl; replace s4 := Kv.out.cell (i := 0) (v := .bool nv) rfl; replace s5 := Kv.out.cell (i := 1) (v := .slice av qv cv) rfl; replace s6 := Kv.out.cell (i := 2) (v := .bool false) rfl; replace s7 := Kv.out.cell (i := 3) (v := .slice bv kv dv) rfl
                  refine hK.out _ _ ?_ (fun hHeld2 => ?_)
                  · exact ⟨s0, s1, s2, s3, s4, s5, s6, s7⟩
                  clear hK K hHeld
                  have hHeld := hHeld2
                  clear hHeld2
                  (try simp only [Act.put, List.getElem_toArray, List.getElem_cons_succ, List.getElem_cons_zero, List.setIfInBounds_toArray, List.set_cons_zero, List.set_cons_succ])
                  refine wpAnyH_take (i := 8) (oi := _) (v := ?_) rfl (by kernel_rfl) (by kernel_rfl) (by kernel_rfl) (fun _ _ _ h => h) (Or.inl ⟨by rfl, ?_⟩) (by assumption) ?_
                  rotate_left
                  · (intro w hSw; (try dsimp only at hSw); (try go_simp); (try with_reducible rfl))
                  (try simp only [Act.put, List.getElem_toArray, List.getElem_cons_succ, List.getElem_cons_zero, List.setIfInBounds_toArray, List.set_cons_zero, List.set_cons_succ])
                  refine wpAnyH_take (i := 9) (oi := _) (v := ?_) rfl (by kernel_rfl) (by kernel_rfl) (by kernel_rfl) (fun _ _ _ h => h) (Or.inl ⟨by rfl, ?_⟩) (by assumption) ?_
                  rotate_left
                  · (intro w hSw; (try dsimp only at hSw); (try go_simp); (try with_reducible rfl))
                  (try simp only [Act.put, List.getElem_toArray, List.getElem_cons_succ, List.getElem_cons_zero, List.setIfInBounds_toArray, List.set_cons_zero, List.set_cons_succ])
                  refine wpAnyH_done (by kernel_rfl) ?_ _
                  go_wp2_with fail
                  go_roundw
                  case rel => exact ⟨k + 1, _, _, by omega, by go_num, by rw [HTK.out, List.map_append, List.map_append]; simp only [List.map_cons, List.map_nil, HRD.out, HRA.out]; have h := HTw.out; rw [hL1, hL2] at h; exact h, by simp; omega, by simp; omega, HXQ.out⟩
                  case measure => simp [intOf]; omega
                exact AllReadyH.nil
              exact AllReadyH.nil
            refine AllReadyH.cons (o := _) rfl (fun K hK => ?_) ?_
            · go_simp
              have hy := Ext.alloc y1 (.cells #[.bool nv, .slice av qv cv, .bool false, .slice bv kv dv] 34); have hsy6 := HSW.out; have hB6 := Blk.new0 y1 #[.bool nv, .slice av qv cv, .bool false, .slice bv kv dv] 34; replace HXQ := Lib.hid (HXQ.out.trans hy); replace HSW := Lib.hid (Nat.le_trans HSW.out hy.size); replace HTw := Lib.hid (HTw.out.ext hy); replace Ku := kE Ku hy; replace Kv := kE Kv hy; replace Vu := Lib.hid (Vu.out.ext hy); replace Vv := Lib.hid (Vv.out.ext hy); replace hB2 := hB2.ext hy; clear hy; generalize World.alloc y1 (.cells #[.bool nv, .slice av qv cv, .bool false, .slice bv kv dv] 34) = y2 at *; generalize Array.size (World.heap y1) = pg6 at *; replace s0 := Ku.out.cell (i := 0) (v := .bool nu) rfl; replace s1 := Ku.out.cell (i := 1) (v := .slice au qu cu) rfl; replace s2 := Ku.out.cell (i := 2) (v := .bool false) rfl; replace s3 := Ku.out.cell (i := 3) (v := .slice bu ku du) rfl; replace s4 := Kv.out.cell (i := 0) (v := .bool nv) rfl; replace s5 := Kv.out.cell (i := 1) (v := .slice av qv cv) rfl; replace s6 := Kv.out.cell (i := 2) (v := .bool false) rfl; replace s7 := Kv.out.cell (i := 3) (v := .slice bv kv dv) rfl
              refine hK.out _ _ ?_ (fun hHeld2 => ?_)
              · exact ⟨s0, s1, s2, s3, s4, s5, s6, s7⟩
              clear hK K hHeld
              have hHeld := hHeld2
              clear hHeld2
              (try simp only [Act.put, List.getElem_toArray, List.getElem_cons_succ, List.getElem_cons_zero, List.setIfInBounds_toArray, List.set_cons_zero, List.set_cons_succ])
              refine wpAnyH_ready (rs := [3]) (by kernel_rfl) (by simp) ?_
              refine AllReadyH.cons (o := _) rfl (fun K hK => ?_) ?_
              · refine step_two (by rfl) (.tmp 121) (.tmp 123) (by rfl) HXQ.out (by rfl) HTw.out (by rfl) (x := ⟨nu, au, qu, cu, false, bu, ku, du⟩) hB2 Vu.out HOu1.out HOu2.out hl1.out ?_; intro va1 vc1 z3 hT hE hg hob; replace HSW := Lib.hid (Nat.le_trans HSW.out hg.size); replace Ku := Lib.hid (Ku.out.own2 hg (HQ1.out pu hsu)); replace Kv := Lib.hid (Kv.out.own2 hg (HQ1.out pv hsv)); replace hB6 := hB6.own2 hg (HQ1.out pg6 hsy6); have hO2 : RatC.Off ⟨nv, av, qv, cv, false, bv, kv, dv⟩ (Value.ownBlock (.slice va1 (L1.length + 1) vc1)) := ⟨fun hq A hA => hob _ (Vv.out.num.lt hq A hA) (HOv1.out.a hq A hA), fun hq A hA => hob _ (Vv.out.den.lt hq A hA) (HOv1.out.b hq A hA)⟩; replace Vv := Lib.hid (RatV.grown (x := ⟨nv, av, qv, cv, false, bv, kv, dv⟩) Vv.out hg HOv1.out); replace HOv1 := Lib.hid hO2; clear hO2; replace HTw := Lib.hid hT; replace HXQ := Lib.hid hE; clear hT hE hob hg hB2 Vu HOu1 HOu2; replace s0 := Ku.out.cell (i := 0) (v := .bool nu) rfl; replace s1 := Ku.out.cell (i := 1) (v := .slice au qu cu) rfl; replace s2 := Ku.out.cell (i := 2) (v := .bool false) rfl; replace s3 := Ku.out.cell (i := 3) (v := .slice bu ku du) rfl; replace s4 := Kv.out.cell (i := 0) (v := .bool nv) rfl; replace s5 := Kv.out.cell (i := 1) (v := .slice av qv cv) rfl; replace s6 := Kv.out.cell (i := 2) (v := .bool false) rfl; replace s7 := Kv.out.cell (i := 3) (v := .slice bv kv dv) rfl
                refine hK.out _ _ ?_ (fun hHeld2 => ?_)
                · exact ⟨s0, s1, s2, s3, s4, s5, s6, s7⟩
                clear hK K hHeld
                have hHeld := hHeld2
                clear hHeld2
                (try simp only [Act.put, List.getElem_toArray, List.getElem_cons_succ, List.getElem_cons_zero, List.setIfInBounds_toArray, List.set_cons_zero, List.set_cons_succ])
                refine wpAnyH_ready (rs := [7]) (by kernel_rfl) (by simp) ?_
                refine AllReadyH.cons (o := _) rfl (fun K hK => ?_) ?_
                · refine step_two (by rfl) (.tmp 125) (.tmp 127) (by rfl) HXQ.out (by rfl) HTw.out.swap (by rfl) (x := ⟨nv, av, qv, cv, false, bv, kv, dv⟩) hB6 Vv.out HOv2.out HOv1.out hl2.out ?_; intro va2 vc2 z4 hT hE hg hob; replace HSW := Lib.hid (Nat.le_trans HSW.out hg.size); replace Ku := Lib.hid (Ku.out.own2 hg (HQ2.out pu hsu)); replace Kv := Lib.hid (Kv.out.own2 hg (HQ2.out pv hsv)); replace HTw := Lib.hid hT.swap; replace HXQ := Lib.hid hE; clear hT hE hob hg hB6 Vv HOv1 HOv2; replace s0 := Ku.out.cell (i := 0) (v := .bool nu) rfl; replace s1 := Ku.out.cell (i := 1) (v := .slice au qu cu) rfl; replace s2 := Ku.out.cell (i := 2) (v := .bool false) rfl; replace s3 := Ku.out.cell (i := 3) (v := .slice bu ku du) rfl; replace s4 := Kv.out.cell (i := 0) (v := .bool nv) rfl; replace s5 := Kv.out.cell (i := 1) (v := .slice av qv cv) rfl; replace s6 := Kv.out.cell (i := 2) (v := .bool false) rfl; replace s7 := Kv.out.cell (i := 3) (v := .slice bv kv dv) rfl
                  refine hK.out _ _ ?_ (fun hHeld2 => ?_)
                  · exact ⟨s0, s1, s2, s3, s4, s5, s6, s7⟩
                  clear hK K hHeld
                  have hHeld := hHeld2
                  clear hHeld2
                  (try simp only [Act.put, List.getElem_toArray, List.getElem_cons_succ, List.getElem_cons_zero, List.setIfInBounds_toArray, List.set_cons_zero, List.set_cons_succ])
                  refine wpAnyH_take (i := 8) (oi := _) (v := ?_) rfl (by kernel_rfl) (by kernel_rfl) (by kernel_rfl) (fun _ _ _ h => h) (Or.inl ⟨by rfl, ?_⟩) (by assumption) ?_
                  rotate_left
                  · (intro w hSw; (try dsimp only at hSw); (try go_simp); (try with_reducible rfl))
                  (try simp only [Act.put, List.getElem_toArray, List.getElem_cons_succ, List.getElem_cons_zero, List.setIfInBounds_toArray, List.set_cons_zero, List.set_cons_succ])
                  refine wpAnyH_take (i := 9) (oi := _) (v := ?_) rfl (by kernel_rfl) (by kernel_rfl) (by kernel_rfl) (fun _ _ _ h => h) (Or.inl ⟨by rfl, ?_⟩) (by assumption) ?_
                  rotate_left
                  · (intro w hSw; (try dsimp only at hSw); (try go_simp); (try with_reducible rfl))
                  (try simp only [Act.put, List.getElem_toArray, List.getElem_cons_succ, List.getElem_cons_zero, List.setIfInBounds_toArray, List.set_cons_zero, List.set_cons_succ])
                  refine wpAnyH_done (by kernel_rfl) ?_ _
                  go_wp2_with fail
                  go_roundw
                  case rel => exact ⟨k + 1, _, _, by omega, by go_num, by rw [HTK.out, List.map_append, List.map_append]; simp only [List.map_cons, List.map_nil, HRD.out, HRA.out]; have h := HTw.out; rw [hL1, hL2] at h; exact h, by simp; omega, by simp; omega, HXQ.out⟩
                  case measure => simp [intOf]; omega
                exact AllReadyH.nil
              exact AllReadyH.nil
            exact AllReadyH.nil
          refine AllReadyH.cons (o := _) rfl (fun K hK => ?_) ?_
          · go_simp
            have hy := Ext.alloc y0 (.cells #[.bool nv, .slice av qv cv, .bool false, .slice bv kv dv] 34); have hsy6 := HSW.out; have hB6 := Blk.new0 y0 #[.bool nv, .slice av qv cv, .bool false, .slice bv kv dv] 34; replace HXQ := Lib.hid (HXQ.out.trans hy); replace HSW := Lib.hid (Nat.le_trans HSW.out hy.size); replace HTw := Lib.hid (HTw.out.ext hy); replace Ku := kE Ku hy; replace Kv := kE Kv hy; replace Vu := Lib.hid (Vu.out.ext hy); replace Vv := Lib.hid (Vv.out.ext hy); clear hy; generalize World.alloc y0 (.cells #[.bool nv, .slice av qv cv, .bool false, .slice bv kv dv] 34) = y8 at *; generalize Array.size (World.heap y0) = pg6 at *; replace s0 := Ku.out.cell (i := 0) (v := .bool nu) rfl; replace s1 := Ku.out.cell (i := 1) (v := .slice au qu cu) rfl; replace s2 := Ku.out.cell (i := 2) (v := .bool false) rfl; replace s3 := Ku.out.cell (i := 3) (v := .slice bu ku du) rfl; replace s4 := Kv.out.cell (i := 0) (v := .bool nv) rfl; replace s5 := Kv.out.cell (i := 1) (v := .slice av qv cv) rfl; replace s6 := Kv.out.cell (i := 2) (v := .bool false) rfl; replace s7 := Kv.out.cell (i := 3) (v := .slice bv kv dv) rfl
            refine hK.out _ _ ?_ (fun hHeld2 => ?_)
            · exact ⟨s0, s1, s2, s3, s4, s5, s6, s7⟩
            clear hK K hHeld
            have hHeld := hHeld2
            clear hHeld2
            (try simp only [Act.put, List.getElem_toArray, List.getElem_cons_succ, List.getElem_cons_zero, List.setIfInBounds_toArray, List.set_cons_zero, List.set_cons_succ])
            refine wpAnyH_ready (rs := [2]) (by kernel_rfl) (by simp) ?_
            refine AllReadyH.cons (o := _) rfl (fun K hK => ?_) ?_
            · go_simp
              have hy := Ext.alloc y8 (.cells #[.bool nu, .slice au qu cu, .bool false, .slice bu ku du] 34); have hsy2 := HSW.out; have hB2 := Blk.new0 y8 #[.bool nu, .slice au qu cu, .bool false, .slice bu ku du] 34; replace HXQ := Lib.hid (HXQ.out.trans hy); replace HSW := Lib.hid (Nat.le_trans HSW.out hy.size); replace HTw := Lib.hid (HTw.out.ext hy); replace Ku := kE Ku hy; replace Kv := kE Kv hy; replace Vu := Lib.hid (Vu.out.ext hy); replace Vv := Lib.hid (Vv.out.ext hy); replace hB6 := hB6.ext hy; clear hy; generalize World.alloc y8 (.cells #[.bool nu, .slice au qu cu, .bool false, .slice bu ku du] 34) = y9 at *; generalize Array.size (World.heap y8) = pg2 at *; replace s0 := Ku.out.cell (i := 0) (v := .bool nu) rfl; replace s1 := Ku.out.cell (i := 1) (v := .slice au qu cu) rfl; replace s2 := Ku.out.cell (i := 2) (v := .bool false) rfl; replace s3 := Ku.out.cell (i := 3) (v := .slice bu ku du) rfl; replace s4 := Kv.out.cell (i := 0) (v := .bool nv) rfl; replace s5 := Kv.out.cell (i := 1) (v := .slice av qv cv) rfl; replace s6 := Kv.out.cell (i := 2) (v := .bool false) rfl; replace s7 := Kv.out.cell (i := 3) (v := .slice bv kv dv) rfl
              refine hK.out _ _ ?_ (fun hHeld2 => ?_)
              · exact ⟨s0, s1, s2, s3, s4, s5, s6, s7⟩
              clear hK K hHeld
              have hHeld := hHeld2
              clear hHeld2
              (try simp only [Act.put, List.getElem_toArray, List.getElem_cons_succ, List.getElem_cons_zero, List.setIfInBounds_toArray, List.set_cons_zero, List.set_cons_succ])
              refine wpAnyH_ready (rs := [3]) (by kernel_rfl) (by simp) ?_
              refine AllReadyH.cons (o := _) rfl (fun K hK => ?_) ?_
              · refine step_two (by rfl) (.tmp 121) (.tmp 123) (by rfl) HXQ.out (by rfl) HTw.out (by rfl) (x := ⟨nu, au, qu, cu, false, bu, ku, du⟩) hB2 Vu.out HOu1.out HOu2.out hl1.out ?_; intro va1 vc1 z10 hT hE hg hob; replace HSW := Lib.hid (Nat.le_trans HSW.out hg.size); replace Ku := Lib.hid (Ku.out.own2 hg (HQ1.out pu hsu)); replace Kv := Lib.hid (Kv.out.own2 hg (HQ1.out pv hsv)); replace hB6 := hB6.own2 hg (HQ1.out pg6 hsy6); have hO2 : RatC.Off ⟨nv, av, qv, cv, false, bv, kv, dv⟩ (Value.ownBlock (.slice va1 (L1.length + 1) vc1)) := ⟨fun hq A hA => hob _ (Vv.out.num.lt hq A hA) (HOv1.out.a hq A hA), fun hq A hA => hob _ (Vv.out.den.lt hq A hA) (HOv1.out.b hq A hA)⟩; replace Vv := Lib.hid (RatV.grown (x := ⟨nv, av, qv, cv, false, bv, kv, dv⟩) Vv.out hg HOv1.out); replace HOv1 := Lib.hid hO2; clear hO2; replace HTw := Lib.hid hT; replace HXQ := Lib.hid hE; clear hT hE hob hg hB2 Vu HOu1 HOu2; replace s0 := Ku.out.cell (i := 0) (v := .bool nu) rfl; replace s1 := Ku.out.cell (i := 1) (v := .slice au qu cu) rfl; replace s2 := Ku.out.cell (i := 2) (v := .bool false) rfl; replace s3 := Ku.out.cell (i := 3) (v := .slice bu ku du) rfl; replace s4 := Kv.out.cell (i := 0) (v := .bool nv) rfl; replace s5 := Kv.out.cell (i := 1) (v := .slice av qv cv) rfl; replace s6 := Kv.out.cell (i := 2) (v := .bool false) rfl; replace s7 := Kv.out.cell (i := 3) (v := .slice bv kv dv) rfl
                refine hK.out _ _ ?_ (fun hHeld2 => ?_)
                · exact ⟨s0, s1, s2, s3, s4, s5, s6, s7⟩
                clear hK K hHeld
                have hHeld := hHeld2
                clear hHeld2
                (try simp only [Act.put, List.getElem_toArray, List.getElem_cons_succ, List.getElem_cons_zero, List.setIfInBounds_toArray, List.set_cons_zero, List.set_cons_succ])
                refine wpAnyH_ready (rs := [7]) (by kernel_rfl) (by simp) ?_
                refine AllReadyH.cons (o := _) rfl (fun K hK => ?_) ?_
                · refine step_two (by rfl) (.tmp 125) (.tmp 127) (by rfl) HXQ.out (by rfl) HTw.out.swap (by rfl) (x := ⟨nv, av, qv, cv, false, bv, kv, dv⟩) hB6 Vv.out HOv2.out HOv1.out hl2.out ?_; intro va2 vc2 z11 hT hE hg hob; replace HSW := Lib.hid (Nat.le_trans HSW.out hg.size); replace Ku := Lib.hid (Ku.out.own2 hg (HQ2.out pu hsu)); replace Kv := Lib.hid (Kv.out.own2 hg (HQ2.out pv hsv)); replace HTw := Lib.hid hT.swap; replace HXQ := Lib.hid hE; clear hT hE hob hg hB6 Vv HOv1 HOv2; replace s0 := Ku.out.cell (i := 0) (v := .bool nu) rfl; replace s1 := Ku.out.cell (i := 1) (v := .slice au qu cu) rfl; replace s2 := Ku.out.cell (i := 2) (v := .bool false) rfl; replace s3 := Ku.out.cell (i := 3) (v := .slice bu ku du) rfl; replace s4 := Kv.out.cell (i := 0) (v := .bool nv) rfl; replace s5 := Kv.out.cell (i := 1) (v := .slice av qv cv) rfl; replace s6 := Kv.out.cell (i := 2) (v := .bool false) rfl; replace s7 := Kv.out.cell (i := 3) (v := .slice bv kv dv) rfl
                  refine hK.out _ _ ?_ (fun hHeld2 => ?_)
                  · exact ⟨s0, s1, s2, s3, s4, s5, s6, s7⟩
                  clear hK K hHeld
                  have hHeld := hHeld2
                  clear hHeld2
                  (try simp only [Act.put, List.getElem_toArray, List.getElem_cons_succ, List.getElem_cons_zero, List.setIfInBounds_toArray, List.set_cons_zero, List.set_cons_succ])
                  refine wpAnyH_take (i := 8) (oi := _) (v := ?_) rfl (by kernel_rfl) (by kernel_rfl) (by kernel_rfl) (fun _ _ _ h => h) (Or.inl ⟨by rfl, ?_⟩) (by assumption) ?_
                  rotate_left
                  · (intro w hSw; (try dsimp only at hSw); (try go_simp); (try with_reducible rfl))
                  (try simp only [Act.put, List.getElem_toArray, List.getElem_cons_succ, List.getElem_cons_zero, List.setIfInBounds_toArray, List.set_cons_zero, List.set_cons_succ])
                  refine wpAnyH_take (i := 9) (oi := _) (v := ?_) rfl (by kernel_rfl) (by kernel_rfl) (by kernel_rfl) (fun _ _ _ h => h) (Or.inl ⟨by rfl, ?_⟩) (by assumption) ?_
                  rotate_left
                  · (intro w hSw; (try dsimp only at hSw); (try go_simp); (try with_reducible rfl))
                  (try simp only [Act.put, List.getElem_toArray, List.getElem_cons_succ, List.getElem_cons_zero, List.setIfInBounds_toArray, List.set_cons_zero, List.set_cons_succ])
                  refine wpAnyH_done (by kernel_rfl) ?_ _
                  go_wp2_with fail
                  go_roundw
                  case rel => exact ⟨k + 1, _, _, by omega, by go_num, by rw [HTK.out, List.map_append, List.map_append]; simp only [List.map_cons, List.map_nil, HRD.out, HRA.out]; have h := HTw.out; rw [hL1, hL2] at h; exact h, by simp; omega, by simp; omega, HXQ.out⟩
                  case measure => simp [intOf]; omega
                exact AllReadyH.nil
              exact AllReadyH.nil
            exact AllReadyH.nil
          exact AllReadyH.nil
    · have k4 : ¬ (k : Int) < (F : Int) := by omega
      have hT := HOW.out
      rw [List.take_of_length_le (by rw [HOL.out]; omega)] at hT
      have hlen1 : 0 < L1.length := by omega
      have hlen2 : 0 < L2.length := by omega
      obtain ⟨g1, d1, e1, -, -, z1, z2⟩ := hT.a.head hlen1
      obtain ⟨g2, d2, e2, -, -, z3, z4⟩ := hT.b.head hlen2
      subst e1 e2
      have HV1 := Lib.hid (show Calls Tryz.prog 20 #[.slice (some ⟨g1, 0, none⟩) k d1] wK (fun e w' => e = .returned (.bool true) ∧ Ext wK w') from by
        have h := law42_valid g1 d1 _ L1 _ wK hT.a hlen1 (by omega) HFD.out
        rw [hL1] at h
        exact h)
      have HV2 := Lib.hid (fun W (hW : Ext wK W) => show Calls Tryz.prog 20 #[.slice (some ⟨g2, 0, none⟩) k d2] W (fun e w' => e = .returned (.bool true) ∧ Ext W w') from by
        have h := law42_valid g2 d2 _ L2 _ W (hT.b.ext hW) hlen2 (by omega) HFA.out
        rw [hL2] at h
        exact h)
      have hx := HXW.out
      clear HOW hT
      go_wp2_with fail
      with_reducible refine (HV1.out).mono ?_
      rintro e xv ⟨rfl, hy⟩
      have HXV := Lib.hid (hx.trans hy)
      have HV3 := Lib.hid (HV2.out xv hy)
      clear hy hx HV1 HV2
      go_wp2_with fail
      with_reducible refine (HV3.out).mono ?_
      rintro e xz ⟨rfl, hz⟩
      have HXZ := Lib.hid (HXV.out.trans hz)
      clear hz
      go_wp2_with fail
      go_ret
      exact ⟨rfl, HXZ.out⟩
theorem law_FOrd (a : Option Addr) (cap : Nat) (m : List (List Int)) (j o : Int) (w : World) (h : Rows w a cap m) (hj : 0 ≤ j ∧ j ≤ 255) (ho : 0 ≤ o ∧ o ≤ 255) : Calls Tryz.prog 5 #[.slice a m.length cap, .int .u8 j, .int .u8 o] w fun e w' => e = .returned (.bool true) ∧ Ext w w' := by
  cases hr : rightW m 4
  · exact law_FOrd_no a cap m j o w h hj ho hr
  · exact law_FOrd_yes a cap m j o w h hj ho hr
end Go.Proofs.YtmcbbhlglccmgaaGreat

