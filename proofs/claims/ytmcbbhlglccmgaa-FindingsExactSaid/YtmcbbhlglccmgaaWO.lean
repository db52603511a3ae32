import Derived.Test.YtmcbbhlglccmgaaWS
import Derived.Test.YtmcbbhlglccmgaaWP3
import Derived.Deep.DrawnRows
namespace Go.Proofs.Ytmcbbhlglccmgaa
open Go.RowKit Go BigFrame
set_option maxRecDepth 100000
set_option linter.unusedSimpArgs false
set_option linter.unusedVariables false
attribute [local go_sem ↓] Go.wp_at_zero Go.wp_at_succ

/-! law42.orders: all orders of n numbers. -/
theorem run_append_any {a0 w : World} (hx0 : Ext a0 w) {v : Value} {L : List Int} (hown : OwnI w a0.heap.size v L) {ad : Option Addr} {n c : Nat} {l : List Int} (hn : l.length = n) (hI : Ints w ad c l) (hlen : L.length + l.length ≤ 1000000) (ty : TypeId) :
    ∃ v' w', (Builtin.append_ #[27, 27] ty #[v, .slice ad n c]).run Try.prog w = .ok v' w' ∧ OwnI w' a0.heap.size v' (L ++ l) ∧ Ext a0 w' ∧ (∀ p cs t, Blk w p cs t → v.ownBlock ≠ some p → Blk w' p cs t ∧ v'.ownBlock ≠ some p) := by
  obtain ⟨i0, hi0, hz0, hz1, hz2⟩ := info_parts infoI
  subst hn
  cases ad with
  | none =>
    have hc := hI.nil rfl
    have hl : l = [] := List.length_eq_zero_iff.1 (by have := hI.le; omega)
    subst hl hc
    exact ⟨v, w, run_append_owned_none (P := Try.prog) (w := w) a0.heap.size 27 ty 3 i0 1 Try.underlying27 hi0 v L.length (L.map (Value.int .i64)) hown.own, by rw [List.append_nil]; exact hown, hx0, fun p cs t hp hne => ⟨hp, hne⟩⟩
  | some A =>
    have key : ∃ v' w', (Builtin.append_ #[27, 27] ty #[v, .slice (some A) l.length c]).run Try.prog w = .ok v' w' ∧ w'.ownsRow a0.heap.size 3 1 v' (L.length + l.length) (L.map (Value.int .i64) ++ l.map (Value.int .i64)) ∧ w.grownBy w' v.ownBlock ∧
        (v' = .slice none 0 0 ↔ v = .slice none 0 0 ∧ l.length = 0) ∧ (v'.ownBlock = v.ownBlock ∨ v'.ownBlock = some w.heap.size) := by
      refine run_append_own_at w a0.heap.size 27 ty 3 i0 (.int .i64 0) 1 8 Try.underlying27 hi0 hz0 hz1 hz2 rfl (by decide) v L.length (L.map (Value.int .i64)) hown.own A l.length c (l.map (Value.int .i64)) (by simp) ?_ (fun u hu => by obtain ⟨z, _, rfl⟩ := List.mem_map.1 hu; rfl) (by unfold maxLen; omega) (by omega) hx0.size
      by_cases hl : l = []
      · subst hl; intro j u hu; simp at hu
      · obtain ⟨b, o', e⟩ := hI.head (i := 0) (List.length_pos_iff.2 hl)
        cases e
        exact hI.news0
    obtain ⟨v', w', h0, h1, h2, h3, h4⟩ := key
    obtain ⟨g, cap, rfl, hb, hg, _⟩ := hown.form
    refine ⟨v', w', h0, ⟨fun e => absurd (h3.1 e).1 hown.nn, by simpa using h1⟩, Below.grown hx0 h2 hx0.size (fun k e => by
      simp only [Value.ownBlock, Option.some.injEq] at e
      omega), fun p cs t hp hne => ⟨(h2.block p hp.lt (Ne.symm hne)).trans hp, ?_⟩⟩
    rcases h4 with h4 | h4
    · rw [h4]; exact hne
    · rw [h4]; intro e; have := hp.lt; cases e; omega
theorem step_append_any {ops : Array Oper} {o : Oper} {a : Act} {K : Act → World → Prop} {Q : Exit → Act → World → Prop} {E : Prop} (hgd : o.guard = none) (s x : Operand)
    (ho : o.op = .call { callee := .builtin .append, args := #[s, x], argTypes := #[27, 27] }) {a0 w : World} (hx0 : Ext a0 w) {v : Value} (hs : a.eval s = v) {L : List Int} (hown : OwnI w a0.heap.size v L) {ad : Option Addr} {n c : Nat} {l : List Int}
    (hx : a.eval x = .slice ad n c) (hn : l.length = n) (hI : Ints w ad c l) (hlen : L.length + l.length ≤ 1000000)
    (h : ∀ v' w', OwnI w' a0.heap.size v' (L ++ l) → Ext a0 w' → (∀ p cs t, Blk w p cs t → v.ownBlock ≠ some p → Blk w' p cs t ∧ v'.ownBlock ≠ some p) → K (a.put o.dst v') w') :
    if Region.wanted o (yielded ops a.tmps) = true then Oper.wp Try.prog o a w K Q else E := by
  have hw : Region.wanted o (yielded ops a.tmps) = true := by simp [Region.wanted, hgd]
  rw [if_pos hw]
  obtain ⟨v', w', hr, h1, h2, h3⟩ := run_append_any hx0 hown hn hI hlen o.type
  unfold Oper.wp execOp
  simp only [ho, resolve, invoke, builtin, Sem.run_bind, Sem.run_pure, Result.andThen_ok, List.map_toArray, List.map_cons, List.map_nil, hs, hx, hr]
  exact h v' w' h1 h2 h3
theorem run_append_ownL {α : Type} {R : World → Value → α → Prop} (hR : RdOk R) {a0 w : World} (t et : TypeId) (ht : Try.prog.underlying t = some (.slice et)) {z : Value} (hz : z.cells.size = 1) (hi : (Try.prog.info? et).map (fun i => (i.zero, i.size, i.bytes)) = some (some z, 1, 24))
    (hx0 : Ext a0 w) {v : Value} {xs : List α} (hown : OwnL R w a0.heap.size et v xs) {g : Nat} {u : Value} {bt : TypeId} (hb : Blk w g #[u] bt) {y : α} (hu : R w u y) (hoff : OffV u v.ownBlock) (hlen : xs.length ≤ 1000000) (ty : TypeId) :
    ∃ va vc w', (Builtin.append_ #[t, t] ty #[v, .slice (some ⟨g, 0, none⟩) 1 1]).run Try.prog w = .ok (.slice va (xs.length + 1) vc) w' ∧ OwnL R w' a0.heap.size et (.slice va (xs.length + 1) vc) (xs ++ [y]) ∧ Ext a0 w' ∧ w.grownBy w' v.ownBlock := by
  obtain ⟨i0, hi0, hz0, hz1, hz2⟩ := info_parts hi
  obtain ⟨vs, hvs, hel⟩ := hown.ex
  obtain ⟨v', w', h0, h1, h2, h3, h4⟩ := run_append_own_at w a0.heap.size t ty et i0 z 1 24 ht hi0 hz0 hz1 hz2 hz (by decide) v xs.length vs hvs ⟨g, 0, none⟩ 1 1 [u] rfl (fun j q hq => by
    have e : ((⟨g, 0, none⟩ : Addr).add j) = ⟨g, j, none⟩ := by unfold Addr.add; split <;> simp_all
    rw [e]
    exact hb.cell (by simpa using hq)) (fun q hq => by rw [List.mem_singleton.1 hq]; exact hR.one _ _ _ hu) (by unfold maxLen; omega) (by omega) hx0.size
  have hm := hown.more hR hvs hel hu hoff h1 h2 h4
  obtain ⟨va, vc, e, _⟩ := hm.form
  rw [List.length_append, List.length_singleton] at e
  subst e
  exact ⟨va, vc, w', h0, hm, Below.grown hx0 h2 hx0.size (fun k e => (hown.lt k e).1), h2⟩
theorem step_append_ownL {α : Type} {R : World → Value → α → Prop} (hR : RdOk R) {ops : Array Oper} {o : Oper} {a : Act} {K : Act → World → Prop} {Q : Exit → Act → World → Prop} {E : Prop} (hgd : o.guard = none) (s x : Operand) (t et : TypeId)
    (ho : o.op = .call { callee := .builtin .append, args := #[s, x], argTypes := #[t, t] }) (ht : Try.prog.underlying t = some (.slice et)) {z : Value} (hz : z.cells.size = 1) (hi : (Try.prog.info? et).map (fun i => (i.zero, i.size, i.bytes)) = some (some z, 1, 24)) {a0 w : World}
    (hx0 : Ext a0 w) {v : Value} {xs : List α} (hs : a.eval s = v) (hown : OwnL R w a0.heap.size et v xs) {g : Nat} (hx : a.eval x = .slice (some ⟨g, 0, none⟩) 1 1) {u : Value} {bt : TypeId} (hb : Blk w g #[u] bt) {y : α} (hu : R w u y) (hoff : OffV u v.ownBlock) (hlen : xs.length ≤ 1000000)
    (h : ∀ va vc w', OwnL R w' a0.heap.size et (.slice va (xs.length + 1) vc) (xs ++ [y]) → Ext a0 w' → K (a.put o.dst (.slice va (xs.length + 1) vc)) w') :
    if Region.wanted o (yielded ops a.tmps) = true then Oper.wp Try.prog o a w K Q else E := by
  have hw : Region.wanted o (yielded ops a.tmps) = true := by simp [Region.wanted, hgd]
  rw [if_pos hw]
  obtain ⟨va, vc, w', hr, h1, h2, _⟩ := run_append_ownL hR t et ht hz hi hx0 hown hb hu hoff hlen o.type
  unfold Oper.wp execOp
  simp only [ho, resolve, invoke, builtin, Sem.run_bind, Sem.run_pure, Result.andThen_ok, List.map_toArray, List.map_cons, List.map_nil, hs, hx, hr]
  exact h va vc w' h1 h2
theorem own_newW {a0 y : World} (hE : Ext a0 y) : OwnI (y.alloc (.cells #[] 3)) a0.heap.size (.slice (some ⟨y.heap.size, 0, none⟩) 0 0) [] ∧ Ext a0 (y.alloc (.cells #[] 3)) := by
  refine ⟨?_, hE.alloc' _⟩
  have h := OwnI.new y
  refine ⟨h.nn, h.own.1, ?_⟩
  rcases h.own.2 with h2 | ⟨g, cap, cur, e, hb, r⟩
  · exact .inl h2
  · exact .inr ⟨g, cap, cur, e, Nat.le_trans hE.size hb, r⟩
theorem own_neW {w : World} {B : Nat} {v : Value} {L : List Int} (h : OwnI w B v L) : v.ownBlock ≠ some w.heap.size := by
  obtain ⟨g, cap, rfl, _, hg, _⟩ := h.form
  intro e
  simp only [Value.ownBlock, Option.some.injEq] at e
  omega
theorem OwnI.isInts {w : World} {B : Nat} {v : Value} {L : List Int} (h : OwnI w B v L) (hd : ∀ x ∈ L, -9223372036854775808 ≤ x ∧ x ≤ 9223372036854775807) : IsInts w v L := by
  obtain ⟨g, cap, e, hI, _⟩ := h.look hd
  exact ⟨_, _, e, hI⟩
theorem OwnI.off {w : World} {B : Nat} {v : Value} {L : List Int} (h : OwnI w B v L) {o : Option Nat} (ho : ∀ g, o = some g → g < B) : OffV v o := by
  obtain ⟨g, cap, rfl, hb, _⟩ := h.form
  intro A n c e hn e2
  simp only [Value.slice.injEq, Option.some.injEq] at e
  obtain ⟨rfl, _⟩ := e
  have := ho _ e2
  dsimp only at this
  omega
theorem Ints.preW {w : World} {a : Option Addr} {cap : Nat} {l : List Int} (h : Ints w a cap l) {k : Nat} (hk : k ≤ l.length) : Ints w a cap (l.take k) :=
  ⟨by have := h.le; simp; omega, h.mx, h.nil, fun B hB i hi => by
    have hi2 : i < l.length := by simp at hi; omega
    obtain ⟨e, v, hv, r⟩ := h.cells B hB i hi2
    exact ⟨e, v, hv, by simpa using r⟩⟩
theorem Ints.dropNil {w : World} : Ints w none 0 ([] : List Int) := ⟨by simp, by omega, fun _ => rfl, fun A hA => by cases hA⟩
theorem Ints.dropEnd {w : World} {A : Addr} {cap n : Nat} {l : List Int} (h : Ints w (some A) cap l) (hn : l.length = n) : Ints w (some A) 0 (l.drop n) := by
  rw [List.drop_eq_nil_of_le (by omega)]
  exact ⟨by simp, by omega, by simp, fun B hB i hi => by simp at hi⟩
theorem Ints.postW {w : World} {b o cap : Nat} {l : List Int} (h : Ints w (some ⟨b, o, none⟩) cap l) {k : Nat} (hk : k ≤ l.length) : Ints w (some ⟨b, o + k, none⟩) (cap - k) (l.drop k) := by
  have hm := h.mx
  have hl := h.le
  refine ⟨by simp; omega, by omega, by simp, fun A hA i hi' => ?_⟩
  cases hA
  have hi2 : k + i < l.length := by simp at hi'; omega
  obtain ⟨e1, e2, e3⟩ := h.cell hi2
  refine ⟨rfl, _, by rw [show o + k + i = o + (k + i) by omega]; exact e1, ?_⟩
  have : (l.drop k)[i] = l[k + i] := by simp
  exact ⟨by rw [this], by rw [this]; exact e2, by rw [this]; exact e3⟩
theorem flat_ord (n k : Nat) : ∀ l : List (List Int), (l.flatMap fun p => ordP n p k).length = l.length * k := by
  intro l
  induction l with
  | nil => simp
  | cons p l ih =>
    rw [List.flatMap_cons, List.length_append, ih, List.length_cons, Nat.succ_mul]
    simp [ordP]
    omega
theorem ordP_succ (n k : Nat) (p : List Int) : ordP n p (k + 1) = ordP n p k ++ [p.take k ++ (n : Int) :: p.drop k] := by simp [ordP, List.range_succ]
theorem fact8 {n : Nat} (h : n < 8) : fact n * (n + 1) ≤ 40320 := by
  have : n = 0 ∨ n = 1 ∨ n = 2 ∨ n = 3 ∨ n = 4 ∨ n = 5 ∨ n = 6 ∨ n = 7 := by omega
  rcases this with rfl | rfl | rfl | rfl | rfl | rfl | rfl | rfl <;> decide
def OrdLP (n : Nat) (w : World) (e : Ending) (w' : World) : Prop := ∃ v, e = .returned v ∧ OwnL IsInts w' w.heap.size 27 v (ordersL n) ∧ Ext w w'
set_option maxHeartbeats 2000000 in
theorem law42_orders_zero (w : World) : Calls Try.prog 15 #[.int .i64 0] w (OrdLP 0 w) := by
  go_enter Try.func15, Try.ntmps15
  go_wp2_with fail
  go_ret
  refine ⟨_, rfl, ⟨[.slice none 0 0], ⟨by simp [ordersL], .inr ⟨w.heap.size, 1, #[.slice none 0 0], rfl, Nat.le_refl _, heap_alloc_new w _, Nat.le_refl _, by unfold maxLen; omega, rfl, rfl⟩⟩, fun i hi => ?_⟩, Ext.alloc _ _⟩
  have hi' : i = 0 := by simp [ordersL] at hi; omega
  subst hi'
  refine ⟨_, rfl, ⟨none, 0, rfl, ⟨by simp [ordersL], by omega, fun _ => rfl, fun A hA => by cases hA⟩⟩, fun A n c e hn => by cases e⟩
set_option maxHeartbeats 16000000 in
theorem law42_orders_step (n : Nat) (N : Int) (hN : N - 1 = (n : Int)) (h8 : n < 8) (w : World) (ih : ∀ w, Calls Try.prog 15 #[.int .i64 (n : Int)] w (OrdLP n w)) : Calls Try.prog 15 #[.int .i64 N] w (OrdLP (n + 1) w) := by
  have HIH := Lib.hid (fun W => (by rw [hN]; exact ih W : Calls Try.prog 15 #[.int .i64 (N - 1)] W (OrdLP n W)))
  have n1 : 1 ≤ N := by omega
  have n2 : N ≤ 8 := by omega
  have t0 : (N == 0) = false := beq_false_of_ne (by omega)
  have t0n : ¬ N = 0 := by omega
  have HN := Lib.hid hN
  clear ih hN
  go_enter Try.func15, Try.ntmps15
  go_wp2_with fail
  with_reducible refine (HIH.out _).mono ?_
  rintro e x1 ⟨v, rfl, hv, hy⟩
  obtain ⟨a0, c0, rfl, hI0⟩ := hv.sl
  have HX1 := Lib.hid hy
  have v0le := hI0.le
  have v0mx := hI0.mx
  have hKl := ordersL_length n
  have HK8 := Lib.hid (fact8 h8)
  rw [← hKl] at HK8
  have HOF := Lib.hid (fun p (hp : p ∈ ordersL n) => ordersL_of hp)
  clear hv HIH hKl
  generalize hLL : ordersL n = LL at *
  have HLL := Lib.hid hLL
  have HV := Lib.hid hI0
  clear hI0 hy hLL
  go_wp2_with fail
  clear t0 t0n
  go_loopw [2, 13] (fun v i wr => ∃ k : Nat, k ≤ LL.length ∧ i = .int .i64 k ∧ OwnL IsInts wr (Array.size (World.heap x1)) 27 v ((LL.take k).flatMap fun p => ordP n p (n + 1)) ∧ Ext x1 wr) (fun _ i _ => LL.length - (intOf i).toNat)
  case atStart => exact ⟨0, Nat.zero_le _, rfl, by rw [List.take_zero]; exact OwnL.nil _ _ _, Ext.refl _⟩
  case round =>
    obtain ⟨k, hk, rfl, how, hxr⟩ := hrel
    generalize wr = wA at *
    have HOW := Lib.hid how
    have HXR := Lib.hid hxr
    have g1 : (0 : Int) ≤ (k : Int) := by omega
    clear how hxr
    by_cases hkn : k < LL.length
    · obtain ⟨b, o, rfl⟩ := HV.out.head hkn
      obtain ⟨p, a2, c2, hp, hcp0, hIp⟩ := Rows.get HV.out hkn
      have hcp := cell_exQ HXR.out hcp0
      clear hcp0
      have g2 : (k : Int) < (LL.length : Int) := by omega
      obtain ⟨-, hpl, hpb⟩ := HOF.out p (List.mem_of_getElem? hp)
      have HPB := Lib.hid hpb
      have HTK := Lib.hid (take_get hp)
      have HPL := Lib.hid hpl
      have ple := hIp.le
      have pmx := hIp.mx
      rw [hpl] at ple hcp
      have HIp := Lib.hid hIp
      have hLen : ((LL.take k).flatMap fun p => ordP n p (n + 1)).length ≤ 40320 - (n + 1) := by
        rw [flat_ord, List.length_take, Nat.min_eq_left (by omega)]
        have h1 := HK8.out
        have h2 : (k + 1) * (n + 1) ≤ LL.length * (n + 1) := Nat.mul_le_mul_right _ (by omega)
        rw [Nat.succ_mul] at h2
        omega
      have HLen := Lib.hid hLen
      obtain ⟨PP, hPP⟩ : ∃ PP, PP = (LL.take k).flatMap fun p => ordP n p (n + 1) := ⟨_, rfl⟩
      have HPP := Lib.hid hPP
      rw [← hPP] at HOW HLen
      clear hp hpl hpb hIp hLen hPP
      go_wp2_with fail
      clear hcp
      go_loopw [2, 18] (fun v i wr => ∃ q : Nat, q ≤ n + 1 ∧ i = .int .i64 q ∧ OwnL IsInts wr (Array.size (World.heap x1)) 27 v (PP ++ ordP n p q) ∧ Ext x1 wr) (fun _ i _ => n + 1 - (intOf i).toNat)
      case atStart => exact ⟨0, Nat.zero_le _, rfl, by rw [show ordP n p 0 = [] from rfl, List.append_nil]; exact HOW.out, HXR.out⟩
      case round =>
        obtain ⟨q, hq, rfl, how, hxr⟩ := hrel
        have HOW2 := Lib.hid how
        have HXR2 := Lib.hid hxr
        have HLT := Lib.hid how.lt
        have hql : (ordP n p q).length = q := by simp [ordP]
        have HLQ : Hid ((PP ++ ordP n p q).length ≤ 1000000) := Lib.hid (by rw [List.length_append, hql]; have := HLen.out; omega)
        have g3 : (0 : Int) ≤ (q : Int) := by omega
        clear how hxr hql
        by_cases hqn : q ≤ n
        · have g4 : (q : Int) < N := by have := HN.out; omega
          go_upto_region 9 with fail
          have HWR : Hid (IntKind.i64.wrap (N - 1) = N - 1) := Lib.hid (by rw [IntKind.wrap_i64]; omega)
          have hE : Ext wr (World.drew wr) := (Ext.refl wr).drew
          have HBB : Hid (∀ x ∈ [] ++ p.take q ++ [N - 1] ++ p.drop q, -9223372036854775808 ≤ x ∧ x ≤ 9223372036854775807) := Lib.hid (fun x hx => by
            simp only [List.nil_append, List.append_assoc, List.mem_append, List.mem_singleton] at hx
            rcases hx with hx | hx | hx
            · have := HPB.out x (List.mem_of_mem_take hx); omega
            · omega
            · have := HPB.out x (List.mem_of_mem_drop hx); omega)
          have HSP : Hid ([] ++ p.take q ++ [N - 1] ++ p.drop q = p.take q ++ (N - 1) :: p.drop q) := Lib.hid (by simp)
          have HIQ := Lib.hid (HIp.out.ext HXR2.out)
          cases a2 with
          | none =>
            have hc0 := HIQ.out.nil rfl
            subst hc0
            obtain rfl : n = 0 := by omega
            obtain rfl : q = 0 := by omega
            refine wp_region_held_drew (S := (fun _ => True)) (by kernel_rfl) ?_ (fun hHeld => ?_)
            · trivial
            (try simp only [← List.toArray_replicate, List.size_toArray, List.length_cons, List.length_nil, Nat.reduceAdd, List.replicate_succ, List.replicate_zero])
            generalize World.drew wr = y0 at *
            refine wpAnyH_take (i := 0) (oi := _) (v := ?_) rfl (by kernel_rfl) (by kernel_rfl) (by kernel_rfl) (fun _ _ _ h => h) (Or.inl ⟨by rfl, ?_⟩) (by assumption) ?_
            rotate_left
            · (intro w hSw; (try dsimp only at hSw); (try go_simp); (try with_reducible rfl))
            (try simp only [Act.put, List.getElem_toArray, List.getElem_cons_succ, List.getElem_cons_zero, List.setIfInBounds_toArray, List.set_cons_zero, List.set_cons_succ])
            refine wpAnyH_take (i := 2) (oi := _) (v := ?_) rfl (by kernel_rfl) (by kernel_rfl) (by kernel_rfl) (fun _ _ _ h => h) (Or.inl ⟨by rfl, ?_⟩) (by assumption) ?_
            rotate_left
            · (intro w hSw; (try dsimp only at hSw); (try go_simp); (try with_reducible rfl))
            (try simp only [Act.put, List.getElem_toArray, List.getElem_cons_succ, List.getElem_cons_zero, List.setIfInBounds_toArray, List.set_cons_zero, List.set_cons_succ])
            refine wpAnyH_take (i := 3) (oi := _) (v := ?_) rfl (by kernel_rfl) (by kernel_rfl) (by kernel_rfl) (fun _ _ _ h => h) (Or.inl ⟨by rfl, ?_⟩) (by assumption) ?_
            rotate_left
            · (intro w hSw; (try dsimp only at hSw); (try go_simp); (try with_reducible rfl))
            (try simp only [Act.put, List.getElem_toArray, List.getElem_cons_succ, List.getElem_cons_zero, List.setIfInBounds_toArray, List.set_cons_zero, List.set_cons_succ])
            refine wpAnyH_take (i := 4) (oi := _) (v := ?_) rfl (by kernel_rfl) (by kernel_rfl) (by kernel_rfl) (fun _ _ _ h => h) (Or.inl ⟨by rfl, ?_⟩) (by assumption) ?_
            rotate_left
            · (intro w hSw; (try dsimp only at hSw); (try go_simp); (try with_reducible rfl))
            (try simp only [Act.put, List.getElem_toArray, List.getElem_cons_succ, List.getElem_cons_zero, List.setIfInBounds_toArray, List.set_cons_zero, List.set_cons_succ])
            refine wpAnyH_take (i := 6) (oi := _) (v := ?_) rfl (by kernel_rfl) (by kernel_rfl) (by kernel_rfl) (fun _ _ _ h => h) (Or.inl ⟨by rfl, ?_⟩) (by assumption) ?_
            rotate_left
            · (intro w hSw; (try dsimp only at hSw); (try go_simp); (try with_reducible rfl))
            (try simp only [Act.put, List.getElem_toArray, List.getElem_cons_succ, List.getElem_cons_zero, List.setIfInBounds_toArray, List.set_cons_zero, List.set_cons_succ])
            refine wpAnyH_take (i := 7) (oi := _) (v := ?_) rfl (by kernel_rfl) (by kernel_rfl) (by kernel_rfl) (fun _ _ _ h => h) (Or.inl ⟨by rfl, ?_⟩) (by assumption) ?_
            rotate_left
            · (intro w hSw; (try dsimp only at hSw); (try go_simp); (try with_reducible rfl))
            (try simp only [Act.put, List.getElem_toArray, List.getElem_cons_succ, List.getElem_cons_zero, List.setIfInBounds_toArray, List.set_cons_zero, List.set_cons_succ])
            refine wpAnyH_take (i := 10) (oi := _) (v := ?_) rfl (by kernel_rfl) (by kernel_rfl) (by kernel_rfl) (fun _ _ _ h => h) (Or.inl ⟨by rfl, ?_⟩) (by assumption) ?_
            rotate_left
            · (intro w hSw; (try dsimp only at hSw); (try go_simp); (try with_reducible rfl))
            (try simp only [Act.put, List.getElem_toArray, List.getElem_cons_succ, List.getElem_cons_zero, List.setIfInBounds_toArray, List.set_cons_zero, List.set_cons_succ])
            refine wpAnyH_take (i := 11) (oi := _) (v := ?_) rfl (by kernel_rfl) (by kernel_rfl) (by kernel_rfl) (fun _ _ _ h => h) (Or.inl ⟨by rfl, ?_⟩) (by assumption) ?_
            rotate_left
            · (intro w hSw; (try dsimp only at hSw); (try go_simp); (try with_reducible rfl))
            (try simp only [Act.put, List.getElem_toArray, List.getElem_cons_succ, List.getElem_cons_zero, List.setIfInBounds_toArray, List.set_cons_zero, List.set_cons_succ])
            refine wpAnyH_take (i := 12) (oi := _) (v := ?_) rfl (by kernel_rfl) (by kernel_rfl) (by kernel_rfl) (fun _ _ _ h => h) (Or.inl ⟨by rfl, ?_⟩) (by assumption) ?_
            rotate_left
            · (intro w hSw; (try dsimp only at hSw); (try go_simp); (try with_reducible rfl))
            (try simp only [Act.put, List.getElem_toArray, List.getElem_cons_succ, List.getElem_cons_zero, List.setIfInBounds_toArray, List.set_cons_zero, List.set_cons_succ])
            refine wpAnyH_ready (rs := [1, 8]) (by kernel_rfl) (by simp) ?_
            refine AllReadyH.cons (o := _) rfl (fun K hK => ?_) ?_
            · go_simp
              obtain ⟨hO, hE2⟩ := own_newW hE; have hgl : Array.size (World.heap y0) < Array.size (World.heap (World.alloc y0 (.cells #[] 3))) := (by simp); replace hE := hE2; clear hE2; generalize World.alloc y0 (.cells #[] 3) = y1 at *; generalize Array.size (World.heap y0) = g0 at *; generalize Value.slice (some ⟨g0, 0, none⟩) 0 0 = v0 at *
              refine hK.out _ _ ?_ (fun hHeld2 => ?_)
              · trivial
              clear hK K hHeld
              have hHeld := hHeld2
              clear hHeld2
              (try simp only [Act.put, List.getElem_toArray, List.getElem_cons_succ, List.getElem_cons_zero, List.setIfInBounds_toArray, List.set_cons_zero, List.set_cons_succ])
              refine wpAnyH_ready (rs := [5, 8]) (by kernel_rfl) (by simp) ?_
              refine AllReadyH.cons (o := _) rfl (fun K hK => ?_) ?_
              · refine step_append_any (by rfl) (.tmp 22) (.tmp 25) (by rfl) hE (by rfl) hO (ad := none) (c := 0) (n := 0) (l := p.take 0) (by rfl) (by rw [List.length_take, HPL.out]; omega) ((HIQ.out.ext hE).preW (by have := HPL.out; omega)) (by have hq := HPL.out; simp only [List.length_append, List.length_take, List.length_drop, List.length_nil, List.length_singleton, List.length_cons]; omega) ?_; intro v1 y4 hO1 hE1 hF; have hE := hE1; have hO := hO1
                refine hK.out _ _ ?_ (fun hHeld2 => ?_)
                · trivial
                clear hK K hHeld
                have hHeld := hHeld2
                clear hHeld2
                (try simp only [Act.put, List.getElem_toArray, List.getElem_cons_succ, List.getElem_cons_zero, List.setIfInBounds_toArray, List.set_cons_zero, List.set_cons_succ])
                refine wpAnyH_ready (rs := [8]) (by kernel_rfl) (by simp) ?_
                refine AllReadyH.cons (o := _) rfl (fun K hK => ?_) ?_
                · go_simp
                  have hB := Blk.new0 y4 #[.int .i64 (IntKind.i64.wrap (N - 1))] 3; have hE2 := hE.alloc' (.cells #[.int .i64 (IntKind.i64.wrap (N - 1))] 3); have hne : v1.ownBlock ≠ some (Array.size (World.heap y4)) := own_neW hO; replace hO := hO.ext (Ext.alloc y4 (.cells #[.int .i64 (IntKind.i64.wrap (N - 1))] 3)); replace hE := hE2; clear hE2; generalize World.alloc y4 (.cells #[.int .i64 (IntKind.i64.wrap (N - 1))] 3) = y3 at *; generalize Array.size (World.heap y4) = pn at *; rw [HWR.out] at hB
                  refine hK.out _ _ ?_ (fun hHeld2 => ?_)
                  · trivial
                  clear hK K hHeld
                  have hHeld := hHeld2
                  clear hHeld2
                  (try simp only [Act.put, List.getElem_toArray, List.getElem_cons_succ, List.getElem_cons_zero, List.setIfInBounds_toArray, List.set_cons_zero, List.set_cons_succ])
                  refine wpAnyH_ready (rs := [9]) (by kernel_rfl) (by simp) ?_
                  refine AllReadyH.cons (o := _) rfl (fun K hK => ?_) ?_
                  · refine step_append_any (by rfl) (.tmp 26) (.tmp 29) (by rfl) hE (by rfl) hO (ad := some ⟨pn, 0, none⟩) (c := 1) (l := [N - 1]) (n := 1) (by rfl) rfl (ints_one hB (by omega)) (by have hq := HPL.out; simp only [List.length_append, List.length_take, List.length_drop, List.length_nil, List.length_singleton, List.length_cons]; omega) ?_; intro v2 y7 hO2 hE2 hF2; have hE := hE2; have hO := hO2
                    refine hK.out _ _ ?_ (fun hHeld2 => ?_)
                    · trivial
                    clear hK K hHeld
                    have hHeld := hHeld2
                    clear hHeld2
                    (try simp only [Act.put, List.getElem_toArray, List.getElem_cons_succ, List.getElem_cons_zero, List.setIfInBounds_toArray, List.set_cons_zero, List.set_cons_succ])
                    refine wpAnyH_ready (rs := [13]) (by kernel_rfl) (by simp) ?_
                    refine AllReadyH.cons (o := _) rfl (fun K hK => ?_) ?_
                    · refine step_append_any (by rfl) (.tmp 30) (.tmp 33) (by rfl) hE (by rfl) hO (ad := none) (c := 0) (n := 0) (l := p.drop 0) (by rfl) (by have hq := HPL.out; simp only [List.length_drop]; omega) (by rw [List.drop_eq_nil_of_le (by have := HPL.out; omega)]; exact Ints.dropNil) (by have hq := HPL.out; simp only [List.length_append, List.length_take, List.length_drop, List.length_nil, List.length_singleton, List.length_cons]; omega) ?_; intro v3 y11 hO3 hE3 hF3; obtain ⟨a3, n3, cp3, e3⟩ : ∃ a n c, v3 = .slice a n c := (by obtain ⟨g, c, e, _⟩ := hO3.form; exact ⟨_, _, _, e⟩); subst e3; have hE := hE3; have hO := hO3
                      refine hK.out _ _ ?_ (fun hHeld2 => ?_)
                      · trivial
                      clear hK K hHeld
                      have hHeld := hHeld2
                      clear hHeld2
                      (try simp only [Act.put, List.getElem_toArray, List.getElem_cons_succ, List.getElem_cons_zero, List.setIfInBounds_toArray, List.set_cons_zero, List.set_cons_succ])
                      refine wpAnyH_ready (rs := [14]) (by kernel_rfl) (by simp) ?_
                      refine AllReadyH.cons (o := _) rfl (fun K hK => ?_) ?_
                      · go_simp
                        have hB4 := Blk.new0 y11 #[.slice a3 n3 cp3] 27; have hO4 := hO.ext (Ext.alloc y11 (.cells #[.slice a3 n3 cp3] 27)); have hE4 := hE.alloc' (.cells #[.slice a3 n3 cp3] 27); clear hO hE; generalize World.alloc y11 (.cells #[.slice a3 n3 cp3] 27) = y14 at *; generalize Array.size (World.heap y11) = pr at *
                        refine hK.out _ _ ?_ (fun hHeld2 => ?_)
                        · trivial
                        clear hK K hHeld
                        have hHeld := hHeld2
                        clear hHeld2
                        (try simp only [Act.put, List.getElem_toArray, List.getElem_cons_succ, List.getElem_cons_zero, List.setIfInBounds_toArray, List.set_cons_zero, List.set_cons_succ])
                        refine wpAnyH_ready (rs := [15]) (by kernel_rfl) (by simp) ?_
                        refine AllReadyH.cons (o := _) rfl (fun K hK => ?_) ?_
                        · refine step_append_ownL rdInts (by rfl) (.tmp 21) (.tmp 35) 22 27 (by rfl) Try.underlying22 (z := .slice none 0 0) rfl infoIntsW (HXR2.out.trans hE4) (by rfl) (HOW2.out.ext rdInts hE4) (by rfl) hB4 (hO4.isInts (fun x hx => HBB.out x hx)) (hO4.off (fun g e => (HLT.out g e).2)) HLQ.out ?_; intro va vc y15 hL15 hE15; have HL15 := Lib.hid hL15; have HE15 := Lib.hid hE15
                          refine hK.out _ _ ?_ (fun hHeld2 => ?_)
                          · trivial
                          clear hK K hHeld
                          have hHeld := hHeld2
                          clear hHeld2
                          (try simp only [Act.put, List.getElem_toArray, List.getElem_cons_succ, List.getElem_cons_zero, List.setIfInBounds_toArray, List.set_cons_zero, List.set_cons_succ])
                          refine wpAnyH_take (i := 16) (oi := _) (v := ?_) rfl (by kernel_rfl) (by kernel_rfl) (by kernel_rfl) (fun _ _ _ h => h) (Or.inl ⟨by rfl, ?_⟩) (by assumption) ?_
                          rotate_left
                          · (intro w hSw; (try dsimp only at hSw); (try go_simp); (try with_reducible rfl))
                          (try simp only [Act.put, List.getElem_toArray, List.getElem_cons_succ, List.getElem_cons_zero, List.setIfInBounds_toArray, List.set_cons_zero, List.set_cons_succ])
                          refine wpAnyH_done (by kernel_rfl) ?_ _
                          go_wp2_with fail
                          go_roundw
                          case rel => exact ⟨0 + 1, by omega, by go_num, by have h := HL15.out; rw [List.length_append] at h; rw [ordP_succ, ← List.append_assoc, ← HN.out, ← HSP.out]; exact h, HE15.out⟩
                          case measure => first | (simp [intOf]; omega) | simp [intOf]
                        exact AllReadyH.nil
                      exact AllReadyH.nil
                    exact AllReadyH.nil
                  exact AllReadyH.nil
                exact AllReadyH.nil
              refine AllReadyH.cons (o := _) rfl (fun K hK => ?_) ?_
              · go_simp
                have hB := Blk.new0 y1 #[.int .i64 (IntKind.i64.wrap (N - 1))] 3; have hE2 := hE.alloc' (.cells #[.int .i64 (IntKind.i64.wrap (N - 1))] 3); have hne : v0.ownBlock ≠ some (Array.size (World.heap y1)) := own_neW hO; replace hO := hO.ext (Ext.alloc y1 (.cells #[.int .i64 (IntKind.i64.wrap (N - 1))] 3)); replace hE := hE2; clear hE2; generalize World.alloc y1 (.cells #[.int .i64 (IntKind.i64.wrap (N - 1))] 3) = y2 at *; generalize Array.size (World.heap y1) = pn at *; rw [HWR.out] at hB
                refine hK.out _ _ ?_ (fun hHeld2 => ?_)
                · trivial
                clear hK K hHeld
                have hHeld := hHeld2
                clear hHeld2
                (try simp only [Act.put, List.getElem_toArray, List.getElem_cons_succ, List.getElem_cons_zero, List.setIfInBounds_toArray, List.set_cons_zero, List.set_cons_succ])
                refine wpAnyH_ready (rs := [5]) (by kernel_rfl) (by simp) ?_
                refine AllReadyH.cons (o := _) rfl (fun K hK => ?_) ?_
                · refine step_append_any (by rfl) (.tmp 22) (.tmp 25) (by rfl) hE (by rfl) hO (ad := none) (c := 0) (n := 0) (l := p.take 0) (by rfl) (by rw [List.length_take, HPL.out]; omega) ((HIQ.out.ext hE).preW (by have := HPL.out; omega)) (by have hq := HPL.out; simp only [List.length_append, List.length_take, List.length_drop, List.length_nil, List.length_singleton, List.length_cons]; omega) ?_; intro v1 y4 hO1 hE1 hF; have hE := hE1; have hO := hO1; obtain ⟨hB, hne⟩ := hF _ _ _ hB hne
                  refine hK.out _ _ ?_ (fun hHeld2 => ?_)
                  · trivial
                  clear hK K hHeld
                  have hHeld := hHeld2
                  clear hHeld2
                  (try simp only [Act.put, List.getElem_toArray, List.getElem_cons_succ, List.getElem_cons_zero, List.setIfInBounds_toArray, List.set_cons_zero, List.set_cons_succ])
                  refine wpAnyH_ready (rs := [9]) (by kernel_rfl) (by simp) ?_
                  refine AllReadyH.cons (o := _) rfl (fun K hK => ?_) ?_
                  · refine step_append_any (by rfl) (.tmp 26) (.tmp 29) (by rfl) hE (by rfl) hO (ad := some ⟨pn, 0, none⟩) (c := 1) (l := [N - 1]) (n := 1) (by rfl) rfl (ints_one hB (by omega)) (by have hq := HPL.out; simp only [List.length_append, List.length_take, List.length_drop, List.length_nil, List.length_singleton, List.length_cons]; omega) ?_; intro v2 y7 hO2 hE2 hF2; have hE := hE2; have hO := hO2
                    refine hK.out _ _ ?_ (fun hHeld2 => ?_)
                    · trivial
                    clear hK K hHeld
                    have hHeld := hHeld2
                    clear hHeld2
                    (try simp only [Act.put, List.getElem_toArray, List.getElem_cons_succ, List.getElem_cons_zero, List.setIfInBounds_toArray, List.set_cons_zero, List.set_cons_succ])
                    refine wpAnyH_ready (rs := [13]) (by kernel_rfl) (by simp) ?_
                    refine AllReadyH.cons (o := _) rfl (fun K hK => ?_) ?_
                    · refine step_append_any (by rfl) (.tmp 30) (.tmp 33) (by rfl) hE (by rfl) hO (ad := none) (c := 0) (n := 0) (l := p.drop 0) (by rfl) (by have hq := HPL.out; simp only [List.length_drop]; omega) (by rw [List.drop_eq_nil_of_le (by have := HPL.out; omega)]; exact Ints.dropNil) (by have hq := HPL.out; simp only [List.length_append, List.length_take, List.length_drop, List.length_nil, List.length_singleton, List.length_cons]; omega) ?_; intro v3 y11 hO3 hE3 hF3; obtain ⟨a3, n3, cp3, e3⟩ : ∃ a n c, v3 = .slice a n c := (by obtain ⟨g, c, e, _⟩ := hO3.form; exact ⟨_, _, _, e⟩); subst e3; have hE := hE3; have hO := hO3
                      refine hK.out _ _ ?_ (fun hHeld2 => ?_)
                      · trivial
                      clear hK K hHeld
                      have hHeld := hHeld2
                      clear hHeld2
                      (try simp only [Act.put, List.getElem_toArray, List.getElem_cons_succ, List.getElem_cons_zero, List.setIfInBounds_toArray, List.set_cons_zero, List.set_cons_succ])
                      refine wpAnyH_ready (rs := [14]) (by kernel_rfl) (by simp) ?_
                      refine AllReadyH.cons (o := _) rfl (fun K hK => ?_) ?_
                      · go_simp
                        have hB4 := Blk.new0 y11 #[.slice a3 n3 cp3] 27; have hO4 := hO.ext (Ext.alloc y11 (.cells #[.slice a3 n3 cp3] 27)); have hE4 := hE.alloc' (.cells #[.slice a3 n3 cp3] 27); clear hO hE; generalize World.alloc y11 (.cells #[.slice a3 n3 cp3] 27) = y14 at *; generalize Array.size (World.heap y11) = pr at *
                        refine hK.out _ _ ?_ (fun hHeld2 => ?_)
                        · trivial
                        clear hK K hHeld
                        have hHeld := hHeld2
                        clear hHeld2
                        (try simp only [Act.put, List.getElem_toArray, List.getElem_cons_succ, List.getElem_cons_zero, List.setIfInBounds_toArray, List.set_cons_zero, List.set_cons_succ])
                        refine wpAnyH_ready (rs := [15]) (by kernel_rfl) (by simp) ?_
                        refine AllReadyH.cons (o := _) rfl (fun K hK => ?_) ?_
                        · refine step_append_ownL rdInts (by rfl) (.tmp 21) (.tmp 35) 22 27 (by rfl) Try.underlying22 (z := .slice none 0 0) rfl infoIntsW (HXR2.out.trans hE4) (by rfl) (HOW2.out.ext rdInts hE4) (by rfl) hB4 (hO4.isInts (fun x hx => HBB.out x hx)) (hO4.off (fun g e => (HLT.out g e).2)) HLQ.out ?_; intro va vc y15 hL15 hE15; have HL15 := Lib.hid hL15; have HE15 := Lib.hid hE15
                          refine hK.out _ _ ?_ (fun hHeld2 => ?_)
                          · trivial
                          clear hK K hHeld
                          have hHeld := hHeld2
                          clear hHeld2
                          (try simp only [Act.put, List.getElem_toArray, List.getElem_cons_succ, List.getElem_cons_zero, List.setIfInBounds_toArray, List.set_cons_zero, List.set_cons_succ])
                          refine wpAnyH_take (i := 16) (oi := _) (v := ?_) rfl (by kernel_rfl) (by kernel_rfl) (by kernel_rfl) (fun _ _ _ h => h) (Or.inl ⟨by rfl, ?_⟩) (by assumption) ?_
                          rotate_left
                          · (intro w hSw; (try dsimp only at hSw); (try go_simp); (try with_reducible rfl))
                          (try simp only [Act.put, List.getElem_toArray, List.getElem_cons_succ, List.getElem_cons_zero, List.setIfInBounds_toArray, List.set_cons_zero, List.set_cons_succ])
                          refine wpAnyH_done (by kernel_rfl) ?_ _
                          go_wp2_with fail
                          go_roundw
                          case rel => exact ⟨0 + 1, by omega, by go_num, by have h := HL15.out; rw [List.length_append] at h; rw [ordP_succ, ← List.append_assoc, ← HN.out, ← HSP.out]; exact h, HE15.out⟩
                          case measure => first | (simp [intOf]; omega) | simp [intOf]
                        exact AllReadyH.nil
                      exact AllReadyH.nil
                    exact AllReadyH.nil
                  exact AllReadyH.nil
                exact AllReadyH.nil
              exact AllReadyH.nil
            refine AllReadyH.cons (o := _) rfl (fun K hK => ?_) ?_
            · go_simp
              have hB := Blk.new0 y0 #[.int .i64 (IntKind.i64.wrap (N - 1))] 3; have hE2 := hE.alloc' (.cells #[.int .i64 (IntKind.i64.wrap (N - 1))] 3); replace hE := hE2; clear hE2; generalize World.alloc y0 (.cells #[.int .i64 (IntKind.i64.wrap (N - 1))] 3) = y4 at *; generalize Array.size (World.heap y0) = pn at *; rw [HWR.out] at hB
              refine hK.out _ _ ?_ (fun hHeld2 => ?_)
              · trivial
              clear hK K hHeld
              have hHeld := hHeld2
              clear hHeld2
              (try simp only [Act.put, List.getElem_toArray, List.getElem_cons_succ, List.getElem_cons_zero, List.setIfInBounds_toArray, List.set_cons_zero, List.set_cons_succ])
              refine wpAnyH_ready (rs := [1]) (by kernel_rfl) (by simp) ?_
              refine AllReadyH.cons (o := _) rfl (fun K hK => ?_) ?_
              · go_simp
                obtain ⟨hO, hE2⟩ := own_newW hE; have hgl : Array.size (World.heap y4) < Array.size (World.heap (World.alloc y4 (.cells #[] 3))) := (by simp); have hne : Value.ownBlock (.slice (some ⟨Array.size (World.heap y4), 0, none⟩) 0 0) ≠ some pn := (by have h1 := hB.lt; simp only [Value.ownBlock, ne_eq, Option.some.injEq]; omega); replace hB := hB.alloc (.cells #[] 3); replace hE := hE2; clear hE2; generalize World.alloc y4 (.cells #[] 3) = y5 at *; generalize Array.size (World.heap y4) = g0 at *; generalize Value.slice (some ⟨g0, 0, none⟩) 0 0 = v0 at *
                refine hK.out _ _ ?_ (fun hHeld2 => ?_)
                · trivial
                clear hK K hHeld
                have hHeld := hHeld2
                clear hHeld2
                (try simp only [Act.put, List.getElem_toArray, List.getElem_cons_succ, List.getElem_cons_zero, List.setIfInBounds_toArray, List.set_cons_zero, List.set_cons_succ])
                refine wpAnyH_ready (rs := [5]) (by kernel_rfl) (by simp) ?_
                refine AllReadyH.cons (o := _) rfl (fun K hK => ?_) ?_
                · refine step_append_any (by rfl) (.tmp 22) (.tmp 25) (by rfl) hE (by rfl) hO (ad := none) (c := 0) (n := 0) (l := p.take 0) (by rfl) (by rw [List.length_take, HPL.out]; omega) ((HIQ.out.ext hE).preW (by have := HPL.out; omega)) (by have hq := HPL.out; simp only [List.length_append, List.length_take, List.length_drop, List.length_nil, List.length_singleton, List.length_cons]; omega) ?_; intro v1 y4 hO1 hE1 hF; have hE := hE1; have hO := hO1; obtain ⟨hB, hne⟩ := hF _ _ _ hB hne
                  refine hK.out _ _ ?_ (fun hHeld2 => ?_)
                  · trivial
                  clear hK K hHeld
                  have hHeld := hHeld2
                  clear hHeld2
                  (try simp only [Act.put, List.getElem_toArray, List.getElem_cons_succ, List.getElem_cons_zero, List.setIfInBounds_toArray, List.set_cons_zero, List.set_cons_succ])
                  refine wpAnyH_ready (rs := [9]) (by kernel_rfl) (by simp) ?_
                  refine AllReadyH.cons (o := _) rfl (fun K hK => ?_) ?_
                  · refine step_append_any (by rfl) (.tmp 26) (.tmp 29) (by rfl) hE (by rfl) hO (ad := some ⟨pn, 0, none⟩) (c := 1) (l := [N - 1]) (n := 1) (by rfl) rfl (ints_one hB (by omega)) (by have hq := HPL.out; simp only [List.length_append, List.length_take, List.length_drop, List.length_nil, List.length_singleton, List.length_cons]; omega) ?_; intro v2 y7 hO2 hE2 hF2; have hE := hE2; have hO := hO2
                    refine hK.out _ _ ?_ (fun hHeld2 => ?_)
                    · trivial
                    clear hK K hHeld
                    have hHeld := hHeld2
                    clear hHeld2
                    (try simp only [Act.put, List.getElem_toArray, List.getElem_cons_succ, List.getElem_cons_zero, List.setIfInBounds_toArray, List.set_cons_zero, List.set_cons_succ])
                    refine wpAnyH_ready (rs := [13]) (by kernel_rfl) (by simp) ?_
                    refine AllReadyH.cons (o := _) rfl (fun K hK => ?_) ?_
                    · refine step_append_any (by rfl) (.tmp 30) (.tmp 33) (by rfl) hE (by rfl) hO (ad := none) (c := 0) (n := 0) (l := p.drop 0) (by rfl) (by have hq := HPL.out; simp only [List.length_drop]; omega) (by rw [List.drop_eq_nil_of_le (by have := HPL.out; omega)]; exact Ints.dropNil) (by have hq := HPL.out; simp only [List.length_append, List.length_take, List.length_drop, List.length_nil, List.length_singleton, List.length_cons]; omega) ?_; intro v3 y11 hO3 hE3 hF3; obtain ⟨a3, n3, cp3, e3⟩ : ∃ a n c, v3 = .slice a n c := (by obtain ⟨g, c, e, _⟩ := hO3.form; exact ⟨_, _, _, e⟩); subst e3; have hE := hE3; have hO := hO3
                      refine hK.out _ _ ?_ (fun hHeld2 => ?_)
                      · trivial
                      clear hK K hHeld
                      have hHeld := hHeld2
                      clear hHeld2
                      (try simp only [Act.put, List.getElem_toArray, List.getElem_cons_succ, List.getElem_cons_zero, List.setIfInBounds_toArray, List.set_cons_zero, List.set_cons_succ])
                      refine wpAnyH_ready (rs := [14]) (by kernel_rfl) (by simp) ?_
                      refine AllReadyH.cons (o := _) rfl (fun K hK => ?_) ?_
                      · go_simp
                        have hB4 := Blk.new0 y11 #[.slice a3 n3 cp3] 27; have hO4 := hO.ext (Ext.alloc y11 (.cells #[.slice a3 n3 cp3] 27)); have hE4 := hE.alloc' (.cells #[.slice a3 n3 cp3] 27); clear hO hE; generalize World.alloc y11 (.cells #[.slice a3 n3 cp3] 27) = y14 at *; generalize Array.size (World.heap y11) = pr at *
                        refine hK.out _ _ ?_ (fun hHeld2 => ?_)
                        · trivial
                        clear hK K hHeld
                        have hHeld := hHeld2
                        clear hHeld2
                        (try simp only [Act.put, List.getElem_toArray, List.getElem_cons_succ, List.getElem_cons_zero, List.setIfInBounds_toArray, List.set_cons_zero, List.set_cons_succ])
                        refine wpAnyH_ready (rs := [15]) (by kernel_rfl) (by simp) ?_
                        refine AllReadyH.cons (o := _) rfl (fun K hK => ?_) ?_
                        · refine step_append_ownL rdInts (by rfl) (.tmp 21) (.tmp 35) 22 27 (by rfl) Try.underlying22 (z := .slice none 0 0) rfl infoIntsW (HXR2.out.trans hE4) (by rfl) (HOW2.out.ext rdInts hE4) (by rfl) hB4 (hO4.isInts (fun x hx => HBB.out x hx)) (hO4.off (fun g e => (HLT.out g e).2)) HLQ.out ?_; intro va vc y15 hL15 hE15; have HL15 := Lib.hid hL15; have HE15 := Lib.hid hE15
                          refine hK.out _ _ ?_ (fun hHeld2 => ?_)
                          · trivial
                          clear hK K hHeld
                          have hHeld := hHeld2
                          clear hHeld2
                          (try simp only [Act.put, List.getElem_toArray, List.getElem_cons_succ, List.getElem_cons_zero, List.setIfInBounds_toArray, List.set_cons_zero, List.set_cons_succ])
                          refine wpAnyH_take (i := 16) (oi := _) (v := ?_) rfl (by kernel_rfl) (by kernel_rfl) (by kernel_rfl) (fun _ _ _ h => h) (Or.inl ⟨by rfl, ?_⟩) (by assumption) ?_
                          rotate_left
                          · (intro w hSw; (try dsimp only at hSw); (try go_simp); (try with_reducible rfl))
                          (try simp only [Act.put, List.getElem_toArray, List.getElem_cons_succ, List.getElem_cons_zero, List.setIfInBounds_toArray, List.set_cons_zero, List.set_cons_succ])
                          refine wpAnyH_done (by kernel_rfl) ?_ _
                          go_wp2_with fail
                          go_roundw
                          case rel => exact ⟨0 + 1, by omega, by go_num, by have h := HL15.out; rw [List.length_append] at h; rw [ordP_succ, ← List.append_assoc, ← HN.out, ← HSP.out]; exact h, HE15.out⟩
                          case measure => first | (simp [intOf]; omega) | simp [intOf]
                        exact AllReadyH.nil
                      exact AllReadyH.nil
                    exact AllReadyH.nil
                  exact AllReadyH.nil
                exact AllReadyH.nil
              exact AllReadyH.nil
            exact AllReadyH.nil
          | some A2 =>
            have hsp : A2.spot = none ∨ n = 0 := by
              rcases Nat.eq_zero_or_pos n with h | h
              · exact .inr h
              · obtain ⟨b9, o9, e9⟩ := HIQ.out.head (i := 0) (by rw [HPL.out]; exact h)
                cases e9
                exact .inl rfl
            have g5 : (q : Int) ≤ (n : Int) := by omega
            have g6 : (n : Int) ≤ (c2 : Int) := by omega
            have g7 : (q : Int) ≤ (c2 : Int) := by omega
            by_cases hkc : q = c2
            · subst hkc
              have hn2 : n = q := by omega
              have hn3 : n - q = 0 := by omega
              subst hn2
              refine wp_region_held_drew (S := (fun _ => True)) (by kernel_rfl) ?_ (fun hHeld => ?_)
              · trivial
              (try simp only [← List.toArray_replicate, List.size_toArray, List.length_cons, List.length_nil, Nat.reduceAdd, List.replicate_succ, List.replicate_zero])
              generalize World.drew wr = y0 at *
              refine wpAnyH_take (i := 0) (oi := _) (v := ?_) rfl (by kernel_rfl) (by kernel_rfl) (by kernel_rfl) (fun _ _ _ h => h) (Or.inl ⟨by rfl, ?_⟩) (by assumption) ?_
              rotate_left
              · (intro w hSw; (try dsimp only at hSw); (try go_simp); (try with_reducible rfl))
              (try simp only [Act.put, List.getElem_toArray, List.getElem_cons_succ, List.getElem_cons_zero, List.setIfInBounds_toArray, List.set_cons_zero, List.set_cons_succ])
              refine wpAnyH_take (i := 2) (oi := _) (v := ?_) rfl (by kernel_rfl) (by kernel_rfl) (by kernel_rfl) (fun _ _ _ h => h) (Or.inl ⟨by rfl, ?_⟩) (by assumption) ?_
              rotate_left
              · (intro w hSw; (try dsimp only at hSw); (try go_simp); (try with_reducible rfl))
              (try simp only [Act.put, List.getElem_toArray, List.getElem_cons_succ, List.getElem_cons_zero, List.setIfInBounds_toArray, List.set_cons_zero, List.set_cons_succ])
              refine wpAnyH_take (i := 3) (oi := _) (v := ?_) rfl (by kernel_rfl) (by kernel_rfl) (by kernel_rfl) (fun _ _ _ h => h) (Or.inl ⟨by rfl, ?_⟩) (by assumption) ?_
              rotate_left
              · (intro w hSw; (try dsimp only at hSw); (try go_simp); (try with_reducible rfl))
              (try simp only [Act.put, List.getElem_toArray, List.getElem_cons_succ, List.getElem_cons_zero, List.setIfInBounds_toArray, List.set_cons_zero, List.set_cons_succ])
              refine wpAnyH_take (i := 4) (oi := _) (v := ?_) rfl (by kernel_rfl) (by kernel_rfl) (by kernel_rfl) (fun _ _ _ h => h) (Or.inl ⟨by rfl, ?_⟩) (by assumption) ?_
              rotate_left
              · (intro w hSw; (try dsimp only at hSw); (try go_simp); (try with_reducible rfl))
              (try simp only [Act.put, List.getElem_toArray, List.getElem_cons_succ, List.getElem_cons_zero, List.setIfInBounds_toArray, List.set_cons_zero, List.set_cons_succ])
              refine wpAnyH_take (i := 6) (oi := _) (v := ?_) rfl (by kernel_rfl) (by kernel_rfl) (by kernel_rfl) (fun _ _ _ h => h) (Or.inl ⟨by rfl, ?_⟩) (by assumption) ?_
              rotate_left
              · (intro w hSw; (try dsimp only at hSw); (try go_simp); (try with_reducible rfl))
              (try simp only [Act.put, List.getElem_toArray, List.getElem_cons_succ, List.getElem_cons_zero, List.setIfInBounds_toArray, List.set_cons_zero, List.set_cons_succ])
              refine wpAnyH_take (i := 7) (oi := _) (v := ?_) rfl (by kernel_rfl) (by kernel_rfl) (by kernel_rfl) (fun _ _ _ h => h) (Or.inl ⟨by rfl, ?_⟩) (by assumption) ?_
              rotate_left
              · (intro w hSw; (try dsimp only at hSw); (try go_simp); (try with_reducible rfl))
              (try simp only [Act.put, List.getElem_toArray, List.getElem_cons_succ, List.getElem_cons_zero, List.setIfInBounds_toArray, List.set_cons_zero, List.set_cons_succ])
              refine wpAnyH_take (i := 10) (oi := _) (v := ?_) rfl (by kernel_rfl) (by kernel_rfl) (by kernel_rfl) (fun _ _ _ h => h) (Or.inl ⟨by rfl, ?_⟩) (by assumption) ?_
              rotate_left
              · (intro w hSw; (try dsimp only at hSw); (try go_simp); (try with_reducible rfl))
              (try simp only [Act.put, List.getElem_toArray, List.getElem_cons_succ, List.getElem_cons_zero, List.setIfInBounds_toArray, List.set_cons_zero, List.set_cons_succ])
              refine wpAnyH_take (i := 11) (oi := _) (v := ?_) rfl (by kernel_rfl) (by kernel_rfl) (by kernel_rfl) (fun _ _ _ h => h) (Or.inl ⟨by rfl, ?_⟩) (by assumption) ?_
              rotate_left
              · (intro w hSw; (try dsimp only at hSw); (try go_simp); (try with_reducible rfl))
              (try simp only [Act.put, List.getElem_toArray, List.getElem_cons_succ, List.getElem_cons_zero, List.setIfInBounds_toArray, List.set_cons_zero, List.set_cons_succ])
              refine wpAnyH_take (i := 12) (oi := _) (v := ?_) rfl (by kernel_rfl) (by kernel_rfl) (by kernel_rfl) (fun _ _ _ h => h) (Or.inl ⟨by rfl, ?_⟩) (by assumption) ?_
              rotate_left
              · (intro w hSw; (try dsimp only at hSw); (try go_simp); (try with_reducible rfl))
              (try simp only [Act.put, List.getElem_toArray, List.getElem_cons_succ, List.getElem_cons_zero, List.setIfInBounds_toArray, List.set_cons_zero, List.set_cons_succ])
              refine wpAnyH_ready (rs := [1, 8]) (by kernel_rfl) (by simp) ?_
              refine AllReadyH.cons (o := _) rfl (fun K hK => ?_) ?_
              · go_simp
                obtain ⟨hO, hE2⟩ := own_newW hE; have hgl : Array.size (World.heap y0) < Array.size (World.heap (World.alloc y0 (.cells #[] 3))) := (by simp); replace hE := hE2; clear hE2; generalize World.alloc y0 (.cells #[] 3) = y6 at *; generalize Array.size (World.heap y0) = g0 at *; generalize Value.slice (some ⟨g0, 0, none⟩) 0 0 = v0 at *
                refine hK.out _ _ ?_ (fun hHeld2 => ?_)
                · trivial
                clear hK K hHeld
                have hHeld := hHeld2
                clear hHeld2
                (try simp only [Act.put, List.getElem_toArray, List.getElem_cons_succ, List.getElem_cons_zero, List.setIfInBounds_toArray, List.set_cons_zero, List.set_cons_succ])
                refine wpAnyH_ready (rs := [5, 8]) (by kernel_rfl) (by simp) ?_
                refine AllReadyH.cons (o := _) rfl (fun K hK => ?_) ?_
                · refine step_append_any (by rfl) (.tmp 22) (.tmp 25) (by rfl) hE (by rfl) hO (ad := some A2) (c := n) (n := n) (l := p.take n) (by rfl) (by rw [List.length_take, HPL.out]; omega) ((HIQ.out.ext hE).preW (by have := HPL.out; omega)) (by have hq := HPL.out; simp only [List.length_append, List.length_take, List.length_drop, List.length_nil, List.length_singleton, List.length_cons]; omega) ?_; intro v1 y4 hO1 hE1 hF; have hE := hE1; have hO := hO1
                  refine hK.out _ _ ?_ (fun hHeld2 => ?_)
                  · trivial
                  clear hK K hHeld
                  have hHeld := hHeld2
                  clear hHeld2
                  (try simp only [Act.put, List.getElem_toArray, List.getElem_cons_succ, List.getElem_cons_zero, List.setIfInBounds_toArray, List.set_cons_zero, List.set_cons_succ])
                  refine wpAnyH_ready (rs := [8]) (by kernel_rfl) (by simp) ?_
                  refine AllReadyH.cons (o := _) rfl (fun K hK => ?_) ?_
                  · go_simp
                    have hB := Blk.new0 y4 #[.int .i64 (IntKind.i64.wrap (N - 1))] 3; have hE2 := hE.alloc' (.cells #[.int .i64 (IntKind.i64.wrap (N - 1))] 3); have hne : v1.ownBlock ≠ some (Array.size (World.heap y4)) := own_neW hO; replace hO := hO.ext (Ext.alloc y4 (.cells #[.int .i64 (IntKind.i64.wrap (N - 1))] 3)); replace hE := hE2; clear hE2; generalize World.alloc y4 (.cells #[.int .i64 (IntKind.i64.wrap (N - 1))] 3) = y8 at *; generalize Array.size (World.heap y4) = pn at *; rw [HWR.out] at hB
                    refine hK.out _ _ ?_ (fun hHeld2 => ?_)
                    · trivial
                    clear hK K hHeld
                    have hHeld := hHeld2
                    clear hHeld2
                    (try simp only [Act.put, List.getElem_toArray, List.getElem_cons_succ, List.getElem_cons_zero, List.setIfInBounds_toArray, List.set_cons_zero, List.set_cons_succ])
                    refine wpAnyH_ready (rs := [9]) (by kernel_rfl) (by simp) ?_
                    refine AllReadyH.cons (o := _) rfl (fun K hK => ?_) ?_
                    · refine step_append_any (by rfl) (.tmp 26) (.tmp 29) (by rfl) hE (by rfl) hO (ad := some ⟨pn, 0, none⟩) (c := 1) (l := [N - 1]) (n := 1) (by rfl) rfl (ints_one hB (by omega)) (by have hq := HPL.out; simp only [List.length_append, List.length_take, List.length_drop, List.length_nil, List.length_singleton, List.length_cons]; omega) ?_; intro v2 y7 hO2 hE2 hF2; have hE := hE2; have hO := hO2
                      refine hK.out _ _ ?_ (fun hHeld2 => ?_)
                      · trivial
                      clear hK K hHeld
                      have hHeld := hHeld2
                      clear hHeld2
                      (try simp only [Act.put, List.getElem_toArray, List.getElem_cons_succ, List.getElem_cons_zero, List.setIfInBounds_toArray, List.set_cons_zero, List.set_cons_succ])
                      refine wpAnyH_ready (rs := [13]) (by kernel_rfl) (by simp) ?_
                      refine AllReadyH.cons (o := _) rfl (fun K hK => ?_) ?_
                      · refine step_append_any (by rfl) (.tmp 30) (.tmp 33) (by rfl) hE (by rfl) hO (ad := some A2) (c := 0) (n := 0) (l := p.drop n) (by rfl) (by have hq := HPL.out; simp only [List.length_drop]; omega) ((HIQ.out.ext hE).dropEnd HPL.out) (by have hq := HPL.out; simp only [List.length_append, List.length_take, List.length_drop, List.length_nil, List.length_singleton, List.length_cons]; omega) ?_; intro v3 y11 hO3 hE3 hF3; obtain ⟨a3, n3, cp3, e3⟩ : ∃ a n c, v3 = .slice a n c := (by obtain ⟨g, c, e, _⟩ := hO3.form; exact ⟨_, _, _, e⟩); subst e3; have hE := hE3; have hO := hO3
                        refine hK.out _ _ ?_ (fun hHeld2 => ?_)
                        · trivial
                        clear hK K hHeld
                        have hHeld := hHeld2
                        clear hHeld2
                        (try simp only [Act.put, List.getElem_toArray, List.getElem_cons_succ, List.getElem_cons_zero, List.setIfInBounds_toArray, List.set_cons_zero, List.set_cons_succ])
                        refine wpAnyH_ready (rs := [14]) (by kernel_rfl) (by simp) ?_
                        refine AllReadyH.cons (o := _) rfl (fun K hK => ?_) ?_
                        · go_simp
                          have hB4 := Blk.new0 y11 #[.slice a3 n3 cp3] 27; have hO4 := hO.ext (Ext.alloc y11 (.cells #[.slice a3 n3 cp3] 27)); have hE4 := hE.alloc' (.cells #[.slice a3 n3 cp3] 27); clear hO hE; generalize World.alloc y11 (.cells #[.slice a3 n3 cp3] 27) = y14 at *; generalize Array.size (World.heap y11) = pr at *
                          refine hK.out _ _ ?_ (fun hHeld2 => ?_)
                          · trivial
                          clear hK K hHeld
                          have hHeld := hHeld2
                          clear hHeld2
                          (try simp only [Act.put, List.getElem_toArray, List.getElem_cons_succ, List.getElem_cons_zero, List.setIfInBounds_toArray, List.set_cons_zero, List.set_cons_succ])
                          refine wpAnyH_ready (rs := [15]) (by kernel_rfl) (by simp) ?_
                          refine AllReadyH.cons (o := _) rfl (fun K hK => ?_) ?_
                          · refine step_append_ownL rdInts (by rfl) (.tmp 21) (.tmp 35) 22 27 (by rfl) Try.underlying22 (z := .slice none 0 0) rfl infoIntsW (HXR2.out.trans hE4) (by rfl) (HOW2.out.ext rdInts hE4) (by rfl) hB4 (hO4.isInts (fun x hx => HBB.out x hx)) (hO4.off (fun g e => (HLT.out g e).2)) HLQ.out ?_; intro va vc y15 hL15 hE15; have HL15 := Lib.hid hL15; have HE15 := Lib.hid hE15
                            refine hK.out _ _ ?_ (fun hHeld2 => ?_)
                            · trivial
                            clear hK K hHeld
                            have hHeld := hHeld2
                            clear hHeld2
                            (try simp only [Act.put, List.getElem_toArray, List.getElem_cons_succ, List.getElem_cons_zero, List.setIfInBounds_toArray, List.set_cons_zero, List.set_cons_succ])
                            refine wpAnyH_take (i := 16) (oi := _) (v := ?_) rfl (by kernel_rfl) (by kernel_rfl) (by kernel_rfl) (fun _ _ _ h => h) (Or.inl ⟨by rfl, ?_⟩) (by assumption) ?_
                            rotate_left
                            · (intro w hSw; (try dsimp only at hSw); (try go_simp); (try with_reducible rfl))
                            (try simp only [Act.put, List.getElem_toArray, List.getElem_cons_succ, List.getElem_cons_zero, List.setIfInBounds_toArray, List.set_cons_zero, List.set_cons_succ])
                            refine wpAnyH_done (by kernel_rfl) ?_ _
                            go_wp2_with fail
                            go_roundw
                            case rel => exact ⟨n + 1, by omega, by go_num, by have h := HL15.out; rw [List.length_append] at h; rw [ordP_succ, ← List.append_assoc, ← HN.out, ← HSP.out]; exact h, HE15.out⟩
                            case measure => first | (simp [intOf]; omega) | simp [intOf]
                          exact AllReadyH.nil
                        exact AllReadyH.nil
                      exact AllReadyH.nil
                    exact AllReadyH.nil
                  exact AllReadyH.nil
                refine AllReadyH.cons (o := _) rfl (fun K hK => ?_) ?_
                · go_simp
                  have hB := Blk.new0 y6 #[.int .i64 (IntKind.i64.wrap (N - 1))] 3; have hE2 := hE.alloc' (.cells #[.int .i64 (IntKind.i64.wrap (N - 1))] 3); have hne : v0.ownBlock ≠ some (Array.size (World.heap y6)) := own_neW hO; replace hO := hO.ext (Ext.alloc y6 (.cells #[.int .i64 (IntKind.i64.wrap (N - 1))] 3)); replace hE := hE2; clear hE2; generalize World.alloc y6 (.cells #[.int .i64 (IntKind.i64.wrap (N - 1))] 3) = y7 at *; generalize Array.size (World.heap y6) = pn at *; rw [HWR.out] at hB
                  refine hK.out _ _ ?_ (fun hHeld2 => ?_)
                  · trivial
                  clear hK K hHeld
                  have hHeld := hHeld2
                  clear hHeld2
                  (try simp only [Act.put, List.getElem_toArray, List.getElem_cons_succ, List.getElem_cons_zero, List.setIfInBounds_toArray, List.set_cons_zero, List.set_cons_succ])
                  refine wpAnyH_ready (rs := [5]) (by kernel_rfl) (by simp) ?_
                  refine AllReadyH.cons (o := _) rfl (fun K hK => ?_) ?_
                  · refine step_append_any (by rfl) (.tmp 22) (.tmp 25) (by rfl) hE (by rfl) hO (ad := some A2) (c := n) (n := n) (l := p.take n) (by rfl) (by rw [List.length_take, HPL.out]; omega) ((HIQ.out.ext hE).preW (by have := HPL.out; omega)) (by have hq := HPL.out; simp only [List.length_append, List.length_take, List.length_drop, List.length_nil, List.length_singleton, List.length_cons]; omega) ?_; intro v1 y4 hO1 hE1 hF; have hE := hE1; have hO := hO1; obtain ⟨hB, hne⟩ := hF _ _ _ hB hne
                    refine hK.out _ _ ?_ (fun hHeld2 => ?_)
                    · trivial
                    clear hK K hHeld
                    have hHeld := hHeld2
                    clear hHeld2
                    (try simp only [Act.put, List.getElem_toArray, List.getElem_cons_succ, List.getElem_cons_zero, List.setIfInBounds_toArray, List.set_cons_zero, List.set_cons_succ])
                    refine wpAnyH_ready (rs := [9]) (by kernel_rfl) (by simp) ?_
                    refine AllReadyH.cons (o := _) rfl (fun K hK => ?_) ?_
                    · refine step_append_any (by rfl) (.tmp 26) (.tmp 29) (by rfl) hE (by rfl) hO (ad := some ⟨pn, 0, none⟩) (c := 1) (l := [N - 1]) (n := 1) (by rfl) rfl (ints_one hB (by omega)) (by have hq := HPL.out; simp only [List.length_append, List.length_take, List.length_drop, List.length_nil, List.length_singleton, List.length_cons]; omega) ?_; intro v2 y7 hO2 hE2 hF2; have hE := hE2; have hO := hO2
                      refine hK.out _ _ ?_ (fun hHeld2 => ?_)
                      · trivial
                      clear hK K hHeld
                      have hHeld := hHeld2
                      clear hHeld2
                      (try simp only [Act.put, List.getElem_toArray, List.getElem_cons_succ, List.getElem_cons_zero, List.setIfInBounds_toArray, List.set_cons_zero, List.set_cons_succ])
                      refine wpAnyH_ready (rs := [13]) (by kernel_rfl) (by simp) ?_
                      refine AllReadyH.cons (o := _) rfl (fun K hK => ?_) ?_
                      · refine step_append_any (by rfl) (.tmp 30) (.tmp 33) (by rfl) hE (by rfl) hO (ad := some A2) (c := 0) (n := 0) (l := p.drop n) (by rfl) (by have hq := HPL.out; simp only [List.length_drop]; omega) ((HIQ.out.ext hE).dropEnd HPL.out) (by have hq := HPL.out; simp only [List.length_append, List.length_take, List.length_drop, List.length_nil, List.length_singleton, List.length_cons]; omega) ?_; intro v3 y11 hO3 hE3 hF3; obtain ⟨a3, n3, cp3, e3⟩ : ∃ a n c, v3 = .slice a n c := (by obtain ⟨g, c, e, _⟩ := hO3.form; exact ⟨_, _, _, e⟩); subst e3; have hE := hE3; have hO := hO3
                        refine hK.out _ _ ?_ (fun hHeld2 => ?_)
                        · trivial
                        clear hK K hHeld
                        have hHeld := hHeld2
                        clear hHeld2
                        (try simp only [Act.put, List.getElem_toArray, List.getElem_cons_succ, List.getElem_cons_zero, List.setIfInBounds_toArray, List.set_cons_zero, List.set_cons_succ])
                        refine wpAnyH_ready (rs := [14]) (by kernel_rfl) (by simp) ?_
                        refine AllReadyH.cons (o := _) rfl (fun K hK => ?_) ?_
                        · go_simp
                          have hB4 := Blk.new0 y11 #[.slice a3 n3 cp3] 27; have hO4 := hO.ext (Ext.alloc y11 (.cells #[.slice a3 n3 cp3] 27)); have hE4 := hE.alloc' (.cells #[.slice a3 n3 cp3] 27); clear hO hE; generalize World.alloc y11 (.cells #[.slice a3 n3 cp3] 27) = y14 at *; generalize Array.size (World.heap y11) = pr at *
                          refine hK.out _ _ ?_ (fun hHeld2 => ?_)
                          · trivial
                          clear hK K hHeld
                          have hHeld := hHeld2
                          clear hHeld2
                          (try simp only [Act.put, List.getElem_toArray, List.getElem_cons_succ, List.getElem_cons_zero, List.setIfInBounds_toArray, List.set_cons_zero, List.set_cons_succ])
                          refine wpAnyH_ready (rs := [15]) (by kernel_rfl) (by simp) ?_
                          refine AllReadyH.cons (o := _) rfl (fun K hK => ?_) ?_
                          · refine step_append_ownL rdInts (by rfl) (.tmp 21) (.tmp 35) 22 27 (by rfl) Try.underlying22 (z := .slice none 0 0) rfl infoIntsW (HXR2.out.trans hE4) (by rfl) (HOW2.out.ext rdInts hE4) (by rfl) hB4 (hO4.isInts (fun x hx => HBB.out x hx)) (hO4.off (fun g e => (HLT.out g e).2)) HLQ.out ?_; intro va vc y15 hL15 hE15; have HL15 := Lib.hid hL15; have HE15 := Lib.hid hE15
                            refine hK.out _ _ ?_ (fun hHeld2 => ?_)
                            · trivial
                            clear hK K hHeld
                            have hHeld := hHeld2
                            clear hHeld2
                            (try simp only [Act.put, List.getElem_toArray, List.getElem_cons_succ, List.getElem_cons_zero, List.setIfInBounds_toArray, List.set_cons_zero, List.set_cons_succ])
                            refine wpAnyH_take (i := 16) (oi := _) (v := ?_) rfl (by kernel_rfl) (by kernel_rfl) (by kernel_rfl) (fun _ _ _ h => h) (Or.inl ⟨by rfl, ?_⟩) (by assumption) ?_
                            rotate_left
                            · (intro w hSw; (try dsimp only at hSw); (try go_simp); (try with_reducible rfl))
                            (try simp only [Act.put, List.getElem_toArray, List.getElem_cons_succ, List.getElem_cons_zero, List.setIfInBounds_toArray, List.set_cons_zero, List.set_cons_succ])
                            refine wpAnyH_done (by kernel_rfl) ?_ _
                            go_wp2_with fail
                            go_roundw
                            case rel => exact ⟨n + 1, by omega, by go_num, by have h := HL15.out; rw [List.length_append] at h; rw [ordP_succ, ← List.append_assoc, ← HN.out, ← HSP.out]; exact h, HE15.out⟩
                            case measure => first | (simp [intOf]; omega) | simp [intOf]
                          exact AllReadyH.nil
                        exact AllReadyH.nil
                      exact AllReadyH.nil
                    exact AllReadyH.nil
                  exact AllReadyH.nil
                exact AllReadyH.nil
              refine AllReadyH.cons (o := _) rfl (fun K hK => ?_) ?_
              · go_simp
                have hB := Blk.new0 y0 #[.int .i64 (IntKind.i64.wrap (N - 1))] 3; have hE2 := hE.alloc' (.cells #[.int .i64 (IntKind.i64.wrap (N - 1))] 3); replace hE := hE2; clear hE2; generalize World.alloc y0 (.cells #[.int .i64 (IntKind.i64.wrap (N - 1))] 3) = y9 at *; generalize Array.size (World.heap y0) = pn at *; rw [HWR.out] at hB
                refine hK.out _ _ ?_ (fun hHeld2 => ?_)
                · trivial
                clear hK K hHeld
                have hHeld := hHeld2
                clear hHeld2
                (try simp only [Act.put, List.getElem_toArray, List.getElem_cons_succ, List.getElem_cons_zero, List.setIfInBounds_toArray, List.set_cons_zero, List.set_cons_succ])
                refine wpAnyH_ready (rs := [1]) (by kernel_rfl) (by simp) ?_
                refine AllReadyH.cons (o := _) rfl (fun K hK => ?_) ?_
                · go_simp
                  obtain ⟨hO, hE2⟩ := own_newW hE; have hgl : Array.size (World.heap y9) < Array.size (World.heap (World.alloc y9 (.cells #[] 3))) := (by simp); have hne : Value.ownBlock (.slice (some ⟨Array.size (World.heap y9), 0, none⟩) 0 0) ≠ some pn := (by have h1 := hB.lt; simp only [Value.ownBlock, ne_eq, Option.some.injEq]; omega); replace hB := hB.alloc (.cells #[] 3); replace hE := hE2; clear hE2; generalize World.alloc y9 (.cells #[] 3) = y10 at *; generalize Array.size (World.heap y9) = g0 at *; generalize Value.slice (some ⟨g0, 0, none⟩) 0 0 = v0 at *
                  refine hK.out _ _ ?_ (fun hHeld2 => ?_)
                  · trivial
                  clear hK K hHeld
                  have hHeld := hHeld2
                  clear hHeld2
                  (try simp only [Act.put, List.getElem_toArray, List.getElem_cons_succ, List.getElem_cons_zero, List.setIfInBounds_toArray, List.set_cons_zero, List.set_cons_succ])
                  refine wpAnyH_ready (rs := [5]) (by kernel_rfl) (by simp) ?_
                  refine AllReadyH.cons (o := _) rfl (fun K hK => ?_) ?_
                  · refine step_append_any (by rfl) (.tmp 22) (.tmp 25) (by rfl) hE (by rfl) hO (ad := some A2) (c := n) (n := n) (l := p.take n) (by rfl) (by rw [List.length_take, HPL.out]; omega) ((HIQ.out.ext hE).preW (by have := HPL.out; omega)) (by have hq := HPL.out; simp only [List.length_append, List.length_take, List.length_drop, List.length_nil, List.length_singleton, List.length_cons]; omega) ?_; intro v1 y4 hO1 hE1 hF; have hE := hE1; have hO := hO1; obtain ⟨hB, hne⟩ := hF _ _ _ hB hne
                    refine hK.out _ _ ?_ (fun hHeld2 => ?_)
                    · trivial
                    clear hK K hHeld
                    have hHeld := hHeld2
                    clear hHeld2
                    (try simp only [Act.put, List.getElem_toArray, List.getElem_cons_succ, List.getElem_cons_zero, List.setIfInBounds_toArray, List.set_cons_zero, List.set_cons_succ])
                    refine wpAnyH_ready (rs := [9]) (by kernel_rfl) (by simp) ?_
                    refine AllReadyH.cons (o := _) rfl (fun K hK => ?_) ?_
                    · refine step_append_any (by rfl) (.tmp 26) (.tmp 29) (by rfl) hE (by rfl) hO (ad := some ⟨pn, 0, none⟩) (c := 1) (l := [N - 1]) (n := 1) (by rfl) rfl (ints_one hB (by omega)) (by have hq := HPL.out; simp only [List.length_append, List.length_take, List.length_drop, List.length_nil, List.length_singleton, List.length_cons]; omega) ?_; intro v2 y7 hO2 hE2 hF2; have hE := hE2; have hO := hO2
                      refine hK.out _ _ ?_ (fun hHeld2 => ?_)
                      · trivial
                      clear hK K hHeld
                      have hHeld := hHeld2
                      clear hHeld2
                      (try simp only [Act.put, List.getElem_toArray, List.getElem_cons_succ, List.getElem_cons_zero, List.setIfInBounds_toArray, List.set_cons_zero, List.set_cons_succ])
                      refine wpAnyH_ready (rs := [13]) (by kernel_rfl) (by simp) ?_
                      refine AllReadyH.cons (o := _) rfl (fun K hK => ?_) ?_
                      · refine step_append_any (by rfl) (.tmp 30) (.tmp 33) (by rfl) hE (by rfl) hO (ad := some A2) (c := 0) (n := 0) (l := p.drop n) (by rfl) (by have hq := HPL.out; simp only [List.length_drop]; omega) ((HIQ.out.ext hE).dropEnd HPL.out) (by have hq := HPL.out; simp only [List.length_append, List.length_take, List.length_drop, List.length_nil, List.length_singleton, List.length_cons]; omega) ?_; intro v3 y11 hO3 hE3 hF3; obtain ⟨a3, n3, cp3, e3⟩ : ∃ a n c, v3 = .slice a n c := (by obtain ⟨g, c, e, _⟩ := hO3.form; exact ⟨_, _, _, e⟩); subst e3; have hE := hE3; have hO := hO3
                        refine hK.out _ _ ?_ (fun hHeld2 => ?_)
                        · trivial
                        clear hK K hHeld
                        have hHeld := hHeld2
                        clear hHeld2
                        (try simp only [Act.put, List.getElem_toArray, List.getElem_cons_succ, List.getElem_cons_zero, List.setIfInBounds_toArray, List.set_cons_zero, List.set_cons_succ])
                        refine wpAnyH_ready (rs := [14]) (by kernel_rfl) (by simp) ?_
                        refine AllReadyH.cons (o := _) rfl (fun K hK => ?_) ?_
                        · go_simp
                          have hB4 := Blk.new0 y11 #[.slice a3 n3 cp3] 27; have hO4 := hO.ext (Ext.alloc y11 (.cells #[.slice a3 n3 cp3] 27)); have hE4 := hE.alloc' (.cells #[.slice a3 n3 cp3] 27); clear hO hE; generalize World.alloc y11 (.cells #[.slice a3 n3 cp3] 27) = y14 at *; generalize Array.size (World.heap y11) = pr at *
                          refine hK.out _ _ ?_ (fun hHeld2 => ?_)
                          · trivial
                          clear hK K hHeld
                          have hHeld := hHeld2
                          clear hHeld2
                          (try simp only [Act.put, List.getElem_toArray, List.getElem_cons_succ, List.getElem_cons_zero, List.setIfInBounds_toArray, List.set_cons_zero, List.set_cons_succ])
                          refine wpAnyH_ready (rs := [15]) (by kernel_rfl) (by simp) ?_
                          refine AllReadyH.cons (o := _) rfl (fun K hK => ?_) ?_
                          · refine step_append_ownL rdInts (by rfl) (.tmp 21) (.tmp 35) 22 27 (by rfl) Try.underlying22 (z := .slice none 0 0) rfl infoIntsW (HXR2.out.trans hE4) (by rfl) (HOW2.out.ext rdInts hE4) (by rfl) hB4 (hO4.isInts (fun x hx => HBB.out x hx)) (hO4.off (fun g e => (HLT.out g e).2)) HLQ.out ?_; intro va vc y15 hL15 hE15; have HL15 := Lib.hid hL15; have HE15 := Lib.hid hE15
                            refine hK.out _ _ ?_ (fun hHeld2 => ?_)
                            · trivial
                            clear hK K hHeld
                            have hHeld := hHeld2
                            clear hHeld2
                            (try simp only [Act.put, List.getElem_toArray, List.getElem_cons_succ, List.getElem_cons_zero, List.setIfInBounds_toArray, List.set_cons_zero, List.set_cons_succ])
                            refine wpAnyH_take (i := 16) (oi := _) (v := ?_) rfl (by kernel_rfl) (by kernel_rfl) (by kernel_rfl) (fun _ _ _ h => h) (Or.inl ⟨by rfl, ?_⟩) (by assumption) ?_
                            rotate_left
                            · (intro w hSw; (try dsimp only at hSw); (try go_simp); (try with_reducible rfl))
                            (try simp only [Act.put, List.getElem_toArray, List.getElem_cons_succ, List.getElem_cons_zero, List.setIfInBounds_toArray, List.set_cons_zero, List.set_cons_succ])
                            refine wpAnyH_done (by kernel_rfl) ?_ _
                            go_wp2_with fail
                            go_roundw
                            case rel => exact ⟨n + 1, by omega, by go_num, by have h := HL15.out; rw [List.length_append] at h; rw [ordP_succ, ← List.append_assoc, ← HN.out, ← HSP.out]; exact h, HE15.out⟩
                            case measure => first | (simp [intOf]; omega) | simp [intOf]
                          exact AllReadyH.nil
                        exact AllReadyH.nil
                      exact AllReadyH.nil
                    exact AllReadyH.nil
                  exact AllReadyH.nil
                exact AllReadyH.nil
              exact AllReadyH.nil
            · have hkc3 : ¬ c2 = q := fun e => hkc e.symm
              refine wp_region_held_drew (S := (fun _ => True)) (by kernel_rfl) ?_ (fun hHeld => ?_)
              · trivial
              (try simp only [← List.toArray_replicate, List.size_toArray, List.length_cons, List.length_nil, Nat.reduceAdd, List.replicate_succ, List.replicate_zero])
              generalize World.drew wr = y0 at *
              refine wpAnyH_take (i := 0) (oi := _) (v := ?_) rfl (by kernel_rfl) (by kernel_rfl) (by kernel_rfl) (fun _ _ _ h => h) (Or.inl ⟨by rfl, ?_⟩) (by assumption) ?_
              rotate_left
              · (intro w hSw; (try dsimp only at hSw); (try go_simp); (try with_reducible rfl))
              (try simp only [Act.put, List.getElem_toArray, List.getElem_cons_succ, List.getElem_cons_zero, List.setIfInBounds_toArray, List.set_cons_zero, List.set_cons_succ])
              refine wpAnyH_take (i := 2) (oi := _) (v := ?_) rfl (by kernel_rfl) (by kernel_rfl) (by kernel_rfl) (fun _ _ _ h => h) (Or.inl ⟨by rfl, ?_⟩) (by assumption) ?_
              rotate_left
              · (intro w hSw; (try dsimp only at hSw); (try go_simp); (try with_reducible rfl))
              (try simp only [Act.put, List.getElem_toArray, List.getElem_cons_succ, List.getElem_cons_zero, List.setIfInBounds_toArray, List.set_cons_zero, List.set_cons_succ])
              refine wpAnyH_take (i := 3) (oi := _) (v := ?_) rfl (by kernel_rfl) (by kernel_rfl) (by kernel_rfl) (fun _ _ _ h => h) (Or.inl ⟨by rfl, ?_⟩) (by assumption) ?_
              rotate_left
              · (intro w hSw; (try dsimp only at hSw); (try go_simp); (try with_reducible rfl))
              (try simp only [Act.put, List.getElem_toArray, List.getElem_cons_succ, List.getElem_cons_zero, List.setIfInBounds_toArray, List.set_cons_zero, List.set_cons_succ])
              refine wpAnyH_take (i := 4) (oi := _) (v := ?_) rfl (by kernel_rfl) (by kernel_rfl) (by kernel_rfl) (fun _ _ _ h => h) (Or.inl ⟨by rfl, ?_⟩) (by assumption) ?_
              rotate_left
              · (intro w hSw; (try dsimp only at hSw); (try go_simp); (try with_reducible rfl))
              (try simp only [Act.put, List.getElem_toArray, List.getElem_cons_succ, List.getElem_cons_zero, List.setIfInBounds_toArray, List.set_cons_zero, List.set_cons_succ])
              refine wpAnyH_take (i := 6) (oi := _) (v := ?_) rfl (by kernel_rfl) (by kernel_rfl) (by kernel_rfl) (fun _ _ _ h => h) (Or.inl ⟨by rfl, ?_⟩) (by assumption) ?_
              rotate_left
              · (intro w hSw; (try dsimp only at hSw); (try go_simp); (try with_reducible rfl))
              (try simp only [Act.put, List.getElem_toArray, List.getElem_cons_succ, List.getElem_cons_zero, List.setIfInBounds_toArray, List.set_cons_zero, List.set_cons_succ])
              refine wpAnyH_take (i := 7) (oi := _) (v := ?_) rfl (by kernel_rfl) (by kernel_rfl) (by kernel_rfl) (fun _ _ _ h => h) (Or.inl ⟨by rfl, ?_⟩) (by assumption) ?_
              rotate_left
              · (intro w hSw; (try dsimp only at hSw); (try go_simp); (try with_reducible rfl))
              (try simp only [Act.put, List.getElem_toArray, List.getElem_cons_succ, List.getElem_cons_zero, List.setIfInBounds_toArray, List.set_cons_zero, List.set_cons_succ])
              refine wpAnyH_take (i := 10) (oi := _) (v := ?_) rfl (by kernel_rfl) (by kernel_rfl) (by kernel_rfl) (fun _ _ _ h => h) (Or.inl ⟨by rfl, ?_⟩) (by assumption) ?_
              rotate_left
              · (intro w hSw; (try dsimp only at hSw); (try go_simp); (try with_reducible rfl))
              (try simp only [Act.put, List.getElem_toArray, List.getElem_cons_succ, List.getElem_cons_zero, List.setIfInBounds_toArray, List.set_cons_zero, List.set_cons_succ])
              refine wpAnyH_take (i := 11) (oi := _) (v := ?_) rfl (by kernel_rfl) (by kernel_rfl) (by kernel_rfl) (fun _ _ _ h => h) (Or.inl ⟨by rfl, ?_⟩) (by assumption) ?_
              rotate_left
              · (intro w hSw; (try dsimp only at hSw); (try go_simp); (try with_reducible rfl))
              (try simp only [Act.put, List.getElem_toArray, List.getElem_cons_succ, List.getElem_cons_zero, List.setIfInBounds_toArray, List.set_cons_zero, List.set_cons_succ])
              refine wpAnyH_take (i := 12) (oi := _) (v := ?_) rfl (by kernel_rfl) (by kernel_rfl) (by kernel_rfl) (fun _ _ _ h => h) (Or.inl ⟨by rfl, ?_⟩) (by assumption) ?_
              rotate_left
              · (intro w hSw; (try dsimp only at hSw); (try go_simp); (try with_reducible rfl))
              (try simp only [Act.put, List.getElem_toArray, List.getElem_cons_succ, List.getElem_cons_zero, List.setIfInBounds_toArray, List.set_cons_zero, List.set_cons_succ])
              refine wpAnyH_ready (rs := [1, 8]) (by kernel_rfl) (by simp) ?_
              refine AllReadyH.cons (o := _) rfl (fun K hK => ?_) ?_
              · go_simp
                obtain ⟨hO, hE2⟩ := own_newW hE; have hgl : Array.size (World.heap y0) < Array.size (World.heap (World.alloc y0 (.cells #[] 3))) := (by simp); replace hE := hE2; clear hE2; generalize World.alloc y0 (.cells #[] 3) = y11 at *; generalize Array.size (World.heap y0) = g0 at *; generalize Value.slice (some ⟨g0, 0, none⟩) 0 0 = v0 at *
                refine hK.out _ _ ?_ (fun hHeld2 => ?_)
                · trivial
                clear hK K hHeld
                have hHeld := hHeld2
                clear hHeld2
                (try simp only [Act.put, List.getElem_toArray, List.getElem_cons_succ, List.getElem_cons_zero, List.setIfInBounds_toArray, List.set_cons_zero, List.set_cons_succ])
                refine wpAnyH_ready (rs := [5, 8]) (by kernel_rfl) (by simp) ?_
                refine AllReadyH.cons (o := _) rfl (fun K hK => ?_) ?_
                · refine step_append_any (by rfl) (.tmp 22) (.tmp 25) (by rfl) hE (by rfl) hO (ad := some A2) (c := c2) (n := q) (l := p.take q) (by rfl) (by rw [List.length_take, HPL.out]; omega) ((HIQ.out.ext hE).preW (by have := HPL.out; omega)) (by have hq := HPL.out; simp only [List.length_append, List.length_take, List.length_drop, List.length_nil, List.length_singleton, List.length_cons]; omega) ?_; intro v1 y4 hO1 hE1 hF; have hE := hE1; have hO := hO1
                  refine hK.out _ _ ?_ (fun hHeld2 => ?_)
                  · trivial
                  clear hK K hHeld
                  have hHeld := hHeld2
                  clear hHeld2
                  (try simp only [Act.put, List.getElem_toArray, List.getElem_cons_succ, List.getElem_cons_zero, List.setIfInBounds_toArray, List.set_cons_zero, List.set_cons_succ])
                  refine wpAnyH_ready (rs := [8]) (by kernel_rfl) (by simp) ?_
                  refine AllReadyH.cons (o := _) rfl (fun K hK => ?_) ?_
                  · go_simp
                    have hB := Blk.new0 y4 #[.int .i64 (IntKind.i64.wrap (N - 1))] 3; have hE2 := hE.alloc' (.cells #[.int .i64 (IntKind.i64.wrap (N - 1))] 3); have hne : v1.ownBlock ≠ some (Array.size (World.heap y4)) := own_neW hO; replace hO := hO.ext (Ext.alloc y4 (.cells #[.int .i64 (IntKind.i64.wrap (N - 1))] 3)); replace hE := hE2; clear hE2; generalize World.alloc y4 (.cells #[.int .i64 (IntKind.i64.wrap (N - 1))] 3) = y13 at *; generalize Array.size (World.heap y4) = pn at *; rw [HWR.out] at hB
                    refine hK.out _ _ ?_ (fun hHeld2 => ?_)
                    · trivial
                    clear hK K hHeld
                    have hHeld := hHeld2
                    clear hHeld2
                    (try simp only [Act.put, List.getElem_toArray, List.getElem_cons_succ, List.getElem_cons_zero, List.setIfInBounds_toArray, List.set_cons_zero, List.set_cons_succ])
                    refine wpAnyH_ready (rs := [9]) (by kernel_rfl) (by simp) ?_
                    refine AllReadyH.cons (o := _) rfl (fun K hK => ?_) ?_
                    · refine step_append_any (by rfl) (.tmp 26) (.tmp 29) (by rfl) hE (by rfl) hO (ad := some ⟨pn, 0, none⟩) (c := 1) (l := [N - 1]) (n := 1) (by rfl) rfl (ints_one hB (by omega)) (by have hq := HPL.out; simp only [List.length_append, List.length_take, List.length_drop, List.length_nil, List.length_singleton, List.length_cons]; omega) ?_; intro v2 y7 hO2 hE2 hF2; have hE := hE2; have hO := hO2
                      refine hK.out _ _ ?_ (fun hHeld2 => ?_)
                      · trivial
                      clear hK K hHeld
                      have hHeld := hHeld2
                      clear hHeld2
                      (try simp only [Act.put, List.getElem_toArray, List.getElem_cons_succ, List.getElem_cons_zero, List.setIfInBounds_toArray, List.set_cons_zero, List.set_cons_succ])
                      refine wpAnyH_ready (rs := [13]) (by kernel_rfl) (by simp) ?_
                      refine AllReadyH.cons (o := _) rfl (fun K hK => ?_) ?_
                      · refine step_append_any (by rfl) (.tmp 30) (.tmp 33) (by rfl) hE (by rfl) hO (ad := some (A2.add q)) (c := c2 - q) (n := n - q) (l := p.drop q) (by rfl) (by have hq := HPL.out; simp only [List.length_drop]; omega) (by have h5 := (HIQ.out.ext hE).sliced (k := q) (by rw [HPL.out]; omega); rw [if_neg hkc3, Nat.mul_one] at h5; exact h5) (by have hq := HPL.out; simp only [List.length_append, List.length_take, List.length_drop, List.length_nil, List.length_singleton, List.length_cons]; omega) ?_; intro v3 y11 hO3 hE3 hF3; obtain ⟨a3, n3, cp3, e3⟩ : ∃ a n c, v3 = .slice a n c := (by obtain ⟨g, c, e, _⟩ := hO3.form; exact ⟨_, _, _, e⟩); subst e3; have hE := hE3; have hO := hO3
                        refine hK.out _ _ ?_ (fun hHeld2 => ?_)
                        · trivial
                        clear hK K hHeld
                        have hHeld := hHeld2
                        clear hHeld2
                        (try simp only [Act.put, List.getElem_toArray, List.getElem_cons_succ, List.getElem_cons_zero, List.setIfInBounds_toArray, List.set_cons_zero, List.set_cons_succ])
                        refine wpAnyH_ready (rs := [14]) (by kernel_rfl) (by simp) ?_
                        refine AllReadyH.cons (o := _) rfl (fun K hK => ?_) ?_
                        · go_simp
                          have hB4 := Blk.new0 y11 #[.slice a3 n3 cp3] 27; have hO4 := hO.ext (Ext.alloc y11 (.cells #[.slice a3 n3 cp3] 27)); have hE4 := hE.alloc' (.cells #[.slice a3 n3 cp3] 27); clear hO hE; generalize World.alloc y11 (.cells #[.slice a3 n3 cp3] 27) = y14 at *; generalize Array.size (World.heap y11) = pr at *
                          refine hK.out _ _ ?_ (fun hHeld2 => ?_)
                          · trivial
                          clear hK K hHeld
                          have hHeld := hHeld2
                          clear hHeld2
                          (try simp only [Act.put, List.getElem_toArray, List.getElem_cons_succ, List.getElem_cons_zero, List.setIfInBounds_toArray, List.set_cons_zero, List.set_cons_succ])
                          refine wpAnyH_ready (rs := [15]) (by kernel_rfl) (by simp) ?_
                          refine AllReadyH.cons (o := _) rfl (fun K hK => ?_) ?_
                          · refine step_append_ownL rdInts (by rfl) (.tmp 21) (.tmp 35) 22 27 (by rfl) Try.underlying22 (z := .slice none 0 0) rfl infoIntsW (HXR2.out.trans hE4) (by rfl) (HOW2.out.ext rdInts hE4) (by rfl) hB4 (hO4.isInts (fun x hx => HBB.out x hx)) (hO4.off (fun g e => (HLT.out g e).2)) HLQ.out ?_; intro va vc y15 hL15 hE15; have HL15 := Lib.hid hL15; have HE15 := Lib.hid hE15
                            refine hK.out _ _ ?_ (fun hHeld2 => ?_)
                            · trivial
                            clear hK K hHeld
                            have hHeld := hHeld2
                            clear hHeld2
                            (try simp only [Act.put, List.getElem_toArray, List.getElem_cons_succ, List.getElem_cons_zero, List.setIfInBounds_toArray, List.set_cons_zero, List.set_cons_succ])
                            refine wpAnyH_take (i := 16) (oi := _) (v := ?_) rfl (by kernel_rfl) (by kernel_rfl) (by kernel_rfl) (fun _ _ _ h => h) (Or.inl ⟨by rfl, ?_⟩) (by assumption) ?_
                            rotate_left
                            · (intro w hSw; (try dsimp only at hSw); (try go_simp); (try with_reducible rfl))
                            (try simp only [Act.put, List.getElem_toArray, List.getElem_cons_succ, List.getElem_cons_zero, List.setIfInBounds_toArray, List.set_cons_zero, List.set_cons_succ])
                            refine wpAnyH_done (by kernel_rfl) ?_ _
                            go_wp2_with fail
                            go_roundw
                            case rel => exact ⟨q + 1, by omega, by go_num, by have h := HL15.out; rw [List.length_append] at h; rw [ordP_succ, ← List.append_assoc, ← HN.out, ← HSP.out]; exact h, HE15.out⟩
                            case measure => first | (simp [intOf]; omega) | simp [intOf]
                          exact AllReadyH.nil
                        exact AllReadyH.nil
                      exact AllReadyH.nil
                    exact AllReadyH.nil
                  exact AllReadyH.nil
                refine AllReadyH.cons (o := _) rfl (fun K hK => ?_) ?_
                · go_simp
                  have hB := Blk.new0 y11 #[.int .i64 (IntKind.i64.wrap (N - 1))] 3; have hE2 := hE.alloc' (.cells #[.int .i64 (IntKind.i64.wrap (N - 1))] 3); have hne : v0.ownBlock ≠ some (Array.size (World.heap y11)) := own_neW hO; replace hO := hO.ext (Ext.alloc y11 (.cells #[.int .i64 (IntKind.i64.wrap (N - 1))] 3)); replace hE := hE2; clear hE2; generalize World.alloc y11 (.cells #[.int .i64 (IntKind.i64.wrap (N - 1))] 3) = y12 at *; generalize Array.size (World.heap y11) = pn at *; rw [HWR.out] at hB
                  refine hK.out _ _ ?_ (fun hHeld2 => ?_)
                  · trivial
                  clear hK K hHeld
                  have hHeld := hHeld2
                  clear hHeld2
                  (try simp only [Act.put, List.getElem_toArray, List.getElem_cons_succ, List.getElem_cons_zero, List.setIfInBounds_toArray, List.set_cons_zero, List.set_cons_succ])
                  refine wpAnyH_ready (rs := [5]) (by kernel_rfl) (by simp) ?_
                  refine AllReadyH.cons (o := _) rfl (fun K hK => ?_) ?_
                  · refine step_append_any (by rfl) (.tmp 22) (.tmp 25) (by rfl) hE (by rfl) hO (ad := some A2) (c := c2) (n := q) (l := p.take q) (by rfl) (by rw [List.length_take, HPL.out]; omega) ((HIQ.out.ext hE).preW (by have := HPL.out; omega)) (by have hq := HPL.out; simp only [List.length_append, List.length_take, List.length_drop, List.length_nil, List.length_singleton, List.length_cons]; omega) ?_; intro v1 y4 hO1 hE1 hF; have hE := hE1; have hO := hO1; obtain ⟨hB, hne⟩ := hF _ _ _ hB hne
                    refine hK.out _ _ ?_ (fun hHeld2 => ?_)
                    · trivial
                    clear hK K hHeld
                    have hHeld := hHeld2
                    clear hHeld2
                    (try simp only [Act.put, List.getElem_toArray, List.getElem_cons_succ, List.getElem_cons_zero, List.setIfInBounds_toArray, List.set_cons_zero, List.set_cons_succ])
                    refine wpAnyH_ready (rs := [9]) (by kernel_rfl) (by simp) ?_
                    refine AllReadyH.cons (o := _) rfl (fun K hK => ?_) ?_
                    · refine step_append_any (by rfl) (.tmp 26) (.tmp 29) (by rfl) hE (by rfl) hO (ad := some ⟨pn, 0, none⟩) (c := 1) (l := [N - 1]) (n := 1) (by rfl) rfl (ints_one hB (by omega)) (by have hq := HPL.out; simp only [List.length_append, List.length_take, List.length_drop, List.length_nil, List.length_singleton, List.length_cons]; omega) ?_; intro v2 y7 hO2 hE2 hF2; have hE := hE2; have hO := hO2
                      refine hK.out _ _ ?_ (fun hHeld2 => ?_)
                      · trivial
                      clear hK K hHeld
                      have hHeld := hHeld2
                      clear hHeld2
                      (try simp only [Act.put, List.getElem_toArray, List.getElem_cons_succ, List.getElem_cons_zero, List.setIfInBounds_toArray, List.set_cons_zero, List.set_cons_succ])
                      refine wpAnyH_ready (rs := [13]) (by kernel_rfl) (by simp) ?_
                      refine AllReadyH.cons (o := _) rfl (fun K hK => ?_) ?_
                      · refine step_append_any (by rfl) (.tmp 30) (.tmp 33) (by rfl) hE (by rfl) hO (ad := some (A2.add q)) (c := c2 - q) (n := n - q) (l := p.drop q) (by rfl) (by have hq := HPL.out; simp only [List.length_drop]; omega) (by have h5 := (HIQ.out.ext hE).sliced (k := q) (by rw [HPL.out]; omega); rw [if_neg hkc3, Nat.mul_one] at h5; exact h5) (by have hq := HPL.out; simp only [List.length_append, List.length_take, List.length_drop, List.length_nil, List.length_singleton, List.length_cons]; omega) ?_; intro v3 y11 hO3 hE3 hF3; obtain ⟨a3, n3, cp3, e3⟩ : ∃ a n c, v3 = .slice a n c := (by obtain ⟨g, c, e, _⟩ := hO3.form; exact ⟨_, _, _, e⟩); subst e3; have hE := hE3; have hO := hO3
                        refine hK.out _ _ ?_ (fun hHeld2 => ?_)
                        · trivial
                        clear hK K hHeld
                        have hHeld := hHeld2
                        clear hHeld2
                        (try simp only [Act.put, List.getElem_toArray, List.getElem_cons_succ, List.getElem_cons_zero, List.setIfInBounds_toArray, List.set_cons_zero, List.set_cons_succ])
                        refine wpAnyH_ready (rs := [14]) (by kernel_rfl) (by simp) ?_
                        refine AllReadyH.cons (o := _) rfl (fun K hK => ?_) ?_
                        · go_simp
                          have hB4 := Blk.new0 y11 #[.slice a3 n3 cp3] 27; have hO4 := hO.ext (Ext.alloc y11 (.cells #[.slice a3 n3 cp3] 27)); have hE4 := hE.alloc' (.cells #[.slice a3 n3 cp3] 27); clear hO hE; generalize World.alloc y11 (.cells #[.slice a3 n3 cp3] 27) = y14 at *; generalize Array.size (World.heap y11) = pr at *
                          refine hK.out _ _ ?_ (fun hHeld2 => ?_)
                          · trivial
                          clear hK K hHeld
                          have hHeld := hHeld2
                          clear hHeld2
                          (try simp only [Act.put, List.getElem_toArray, List.getElem_cons_succ, List.getElem_cons_zero, List.setIfInBounds_toArray, List.set_cons_zero, List.set_cons_succ])
                          refine wpAnyH_ready (rs := [15]) (by kernel_rfl) (by simp) ?_
                          refine AllReadyH.cons (o := _) rfl (fun K hK => ?_) ?_
                          · refine step_append_ownL rdInts (by rfl) (.tmp 21) (.tmp 35) 22 27 (by rfl) Try.underlying22 (z := .slice none 0 0) rfl infoIntsW (HXR2.out.trans hE4) (by rfl) (HOW2.out.ext rdInts hE4) (by rfl) hB4 (hO4.isInts (fun x hx => HBB.out x hx)) (hO4.off (fun g e => (HLT.out g e).2)) HLQ.out ?_; intro va vc y15 hL15 hE15; have HL15 := Lib.hid hL15; have HE15 := Lib.hid hE15
                            refine hK.out _ _ ?_ (fun hHeld2 => ?_)
                            · trivial
                            clear hK K hHeld
                            have hHeld := hHeld2
                            clear hHeld2
                            (try simp only [Act.put, List.getElem_toArray, List.getElem_cons_succ, List.getElem_cons_zero, List.setIfInBounds_toArray, List.set_cons_zero, List.set_cons_succ])
                            refine wpAnyH_take (i := 16) (oi := _) (v := ?_) rfl (by kernel_rfl) (by kernel_rfl) (by kernel_rfl) (fun _ _ _ h => h) (Or.inl ⟨by rfl, ?_⟩) (by assumption) ?_
                            rotate_left
                            · (intro w hSw; (try dsimp only at hSw); (try go_simp); (try with_reducible rfl))
                            (try simp only [Act.put, List.getElem_toArray, List.getElem_cons_succ, List.getElem_cons_zero, List.setIfInBounds_toArray, List.set_cons_zero, List.set_cons_succ])
                            refine wpAnyH_done (by kernel_rfl) ?_ _
                            go_wp2_with fail
                            go_roundw
                            case rel => exact ⟨q + 1, by omega, by go_num, by have h := HL15.out; rw [List.length_append] at h; rw [ordP_succ, ← List.append_assoc, ← HN.out, ← HSP.out]; exact h, HE15.out⟩
                            case measure => first | (simp [intOf]; omega) | simp [intOf]
                          exact AllReadyH.nil
                        exact AllReadyH.nil
                      exact AllReadyH.nil
                    exact AllReadyH.nil
                  exact AllReadyH.nil
                exact AllReadyH.nil
              refine AllReadyH.cons (o := _) rfl (fun K hK => ?_) ?_
              · go_simp
                have hB := Blk.new0 y0 #[.int .i64 (IntKind.i64.wrap (N - 1))] 3; have hE2 := hE.alloc' (.cells #[.int .i64 (IntKind.i64.wrap (N - 1))] 3); replace hE := hE2; clear hE2; generalize World.alloc y0 (.cells #[.int .i64 (IntKind.i64.wrap (N - 1))] 3) = y14 at *; generalize Array.size (World.heap y0) = pn at *; rw [HWR.out] at hB
                refine hK.out _ _ ?_ (fun hHeld2 => ?_)
                · trivial
                clear hK K hHeld
                have hHeld := hHeld2
                clear hHeld2
                (try simp only [Act.put, List.getElem_toArray, List.getElem_cons_succ, List.getElem_cons_zero, List.setIfInBounds_toArray, List.set_cons_zero, List.set_cons_succ])
                refine wpAnyH_ready (rs := [1]) (by kernel_rfl) (by simp) ?_
                refine AllReadyH.cons (o := _) rfl (fun K hK => ?_) ?_
                · go_simp
                  obtain ⟨hO, hE2⟩ := own_newW hE; have hgl : Array.size (World.heap y14) < Array.size (World.heap (World.alloc y14 (.cells #[] 3))) := (by simp); have hne : Value.ownBlock (.slice (some ⟨Array.size (World.heap y14), 0, none⟩) 0 0) ≠ some pn := (by have h1 := hB.lt; simp only [Value.ownBlock, ne_eq, Option.some.injEq]; omega); replace hB := hB.alloc (.cells #[] 3); replace hE := hE2; clear hE2; generalize World.alloc y14 (.cells #[] 3) = y15 at *; generalize Array.size (World.heap y14) = g0 at *; generalize Value.slice (some ⟨g0, 0, none⟩) 0 0 = v0 at *
                  refine hK.out _ _ ?_ (fun hHeld2 => ?_)
                  · trivial
                  clear hK K hHeld
                  have hHeld := hHeld2
                  clear hHeld2
                  (try simp only [Act.put, List.getElem_toArray, List.getElem_cons_succ, List.getElem_cons_zero, List.setIfInBounds_toArray, List.set_cons_zero, List.set_cons_succ])
                  refine wpAnyH_ready (rs := [5]) (by kernel_rfl) (by simp) ?_
                  refine AllReadyH.cons (o := _) rfl (fun K hK => ?_) ?_
                  · refine step_append_any (by rfl) (.tmp 22) (.tmp 25) (by rfl) hE (by rfl) hO (ad := some A2) (c := c2) (n := q) (l := p.take q) (by rfl) (by rw [List.length_take, HPL.out]; omega) ((HIQ.out.ext hE).preW (by have := HPL.out; omega)) (by have hq := HPL.out; simp only [List.length_append, List.length_take, List.length_drop, List.length_nil, List.length_singleton, List.length_cons]; omega) ?_; intro v1 y4 hO1 hE1 hF; have hE := hE1; have hO := hO1; obtain ⟨hB, hne⟩ := hF _ _ _ hB hne
                    refine hK.out _ _ ?_ (fun hHeld2 => ?_)
                    · trivial
                    clear hK K hHeld
                    have hHeld := hHeld2
                    clear hHeld2
                    (try simp only [Act.put, List.getElem_toArray, List.getElem_cons_succ, List.getElem_cons_zero, List.setIfInBounds_toArray, List.set_cons_zero, List.set_cons_succ])
                    refine wpAnyH_ready (rs := [9]) (by kernel_rfl) (by simp) ?_
                    refine AllReadyH.cons (o := _) rfl (fun K hK => ?_) ?_
                    · refine step_append_any (by rfl) (.tmp 26) (.tmp 29) (by rfl) hE (by rfl) hO (ad := some ⟨pn, 0, none⟩) (c := 1) (l := [N - 1]) (n := 1) (by rfl) rfl (ints_one hB (by omega)) (by have hq := HPL.out; simp only [List.length_append, List.length_take, List.length_drop, List.length_nil, List.length_singleton, List.length_cons]; omega) ?_; intro v2 y7 hO2 hE2 hF2; have hE := hE2; have hO := hO2
                      refine hK.out _ _ ?_ (fun hHeld2 => ?_)
                      · trivial
                      clear hK K hHeld
                      have hHeld := hHeld2
                      clear hHeld2
                      (try simp only [Act.put, List.getElem_toArray, List.getElem_cons_succ, List.getElem_cons_zero, List.setIfInBounds_toArray, List.set_cons_zero, List.set_cons_succ])
                      refine wpAnyH_ready (rs := [13]) (by kernel_rfl) (by simp) ?_
                      refine AllReadyH.cons (o := _) rfl (fun K hK => ?_) ?_
                      · refine step_append_any (by rfl) (.tmp 30) (.tmp 33) (by rfl) hE (by rfl) hO (ad := some (A2.add q)) (c := c2 - q) (n := n - q) (l := p.drop q) (by rfl) (by have hq := HPL.out; simp only [List.length_drop]; omega) (by have h5 := (HIQ.out.ext hE).sliced (k := q) (by rw [HPL.out]; omega); rw [if_neg hkc3, Nat.mul_one] at h5; exact h5) (by have hq := HPL.out; simp only [List.length_append, List.length_take, List.length_drop, List.length_nil, List.length_singleton, List.length_cons]; omega) ?_; intro v3 y11 hO3 hE3 hF3; obtain ⟨a3, n3, cp3, e3⟩ : ∃ a n c, v3 = .slice a n c := (by obtain ⟨g, c, e, _⟩ := hO3.form; exact ⟨_, _, _, e⟩); subst e3; have hE := hE3; have hO := hO3
                        refine hK.out _ _ ?_ (fun hHeld2 => ?_)
                        · trivial
                        clear hK K hHeld
                        have hHeld := hHeld2
                        clear hHeld2
                        (try simp only [Act.put, List.getElem_toArray, List.getElem_cons_succ, List.getElem_cons_zero, List.setIfInBounds_toArray, List.set_cons_zero, List.set_cons_succ])
                        refine wpAnyH_ready (rs := [14]) (by kernel_rfl) (by simp) ?_
                        refine AllReadyH.cons (o := _) rfl (fun K hK => ?_) ?_
                        · go_simp
                          have hB4 := Blk.new0 y11 #[.slice a3 n3 cp3] 27; have hO4 := hO.ext (Ext.alloc y11 (.cells #[.slice a3 n3 cp3] 27)); have hE4 := hE.alloc' (.cells #[.slice a3 n3 cp3] 27); clear hO hE; generalize World.alloc y11 (.cells #[.slice a3 n3 cp3] 27) = y14 at *; generalize Array.size (World.heap y11) = pr at *
                          refine hK.out _ _ ?_ (fun hHeld2 => ?_)
                          · trivial
                          clear hK K hHeld
                          have hHeld := hHeld2
                          clear hHeld2
                          (try simp only [Act.put, List.getElem_toArray, List.getElem_cons_succ, List.getElem_cons_zero, List.setIfInBounds_toArray, List.set_cons_zero, List.set_cons_succ])
                          refine wpAnyH_ready (rs := [15]) (by kernel_rfl) (by simp) ?_
                          refine AllReadyH.cons (o := _) rfl (fun K hK => ?_) ?_
                          · refine step_append_ownL rdInts (by rfl) (.tmp 21) (.tmp 35) 22 27 (by rfl) Try.underlying22 (z := .slice none 0 0) rfl infoIntsW (HXR2.out.trans hE4) (by rfl) (HOW2.out.ext rdInts hE4) (by rfl) hB4 (hO4.isInts (fun x hx => HBB.out x hx)) (hO4.off (fun g e => (HLT.out g e).2)) HLQ.out ?_; intro va vc y15 hL15 hE15; have HL15 := Lib.hid hL15; have HE15 := Lib.hid hE15
                            refine hK.out _ _ ?_ (fun hHeld2 => ?_)
                            · trivial
                            clear hK K hHeld
                            have hHeld := hHeld2
                            clear hHeld2
                            (try simp only [Act.put, List.getElem_toArray, List.getElem_cons_succ, List.getElem_cons_zero, List.setIfInBounds_toArray, List.set_cons_zero, List.set_cons_succ])
                            refine wpAnyH_take (i := 16) (oi := _) (v := ?_) rfl (by kernel_rfl) (by kernel_rfl) (by kernel_rfl) (fun _ _ _ h => h) (Or.inl ⟨by rfl, ?_⟩) (by assumption) ?_
                            rotate_left
                            · (intro w hSw; (try dsimp only at hSw); (try go_simp); (try with_reducible rfl))
                            (try simp only [Act.put, List.getElem_toArray, List.getElem_cons_succ, List.getElem_cons_zero, List.setIfInBounds_toArray, List.set_cons_zero, List.set_cons_succ])
                            refine wpAnyH_done (by kernel_rfl) ?_ _
                            go_wp2_with fail
                            go_roundw
                            case rel => exact ⟨q + 1, by omega, by go_num, by have h := HL15.out; rw [List.length_append] at h; rw [ordP_succ, ← List.append_assoc, ← HN.out, ← HSP.out]; exact h, HE15.out⟩
                            case measure => first | (simp [intOf]; omega) | simp [intOf]
                          exact AllReadyH.nil
                        exact AllReadyH.nil
                      exact AllReadyH.nil
                    exact AllReadyH.nil
                  exact AllReadyH.nil
                exact AllReadyH.nil
              exact AllReadyH.nil
        · have g4 : ¬ (q : Int) < N := by have := HN.out; omega
          obtain rfl : q = n + 1 := by omega
          have HPP2 : Hid ((LL.take (k + 1)).flatMap (fun p => ordP n p (n + 1)) = PP ++ ordP n p (n + 1)) := Lib.hid (by rw [HTK.out, List.flatMap_append, ← HPP.out]; simp)
          go_wp2_with fail
          go_roundw
          case rel => exact ⟨k + 1, by omega, by go_num, by rw [HPP2.out]; exact HOW2.out, HXR2.out⟩
          case measure => simp [intOf]; omega
    · have g4 : ¬ (k : Int) < (LL.length : Int) := by omega
      have hall : (LL.take k).flatMap (fun p => ordP n p (n + 1)) = ordersL (n + 1) := by rw [List.take_of_length_le (by omega), ← HLL.out]; rfl
      have HOW3 := Lib.hid (by rw [hall] at HOW; exact HOW.out.low HX1.out.size : OwnL IsInts wA (Array.size (World.heap w)) 27 _ (ordersL (n + 1)))
      clear HOW hall
      go_wp2_with fail
      go_ret
      exact ⟨_, rfl, HOW3.out, HX1.out.trans HXR.out⟩
theorem law42_orders : ∀ (n : Nat) (w : World), n ≤ 8 → Calls Try.prog 15 #[.int .i64 (n : Int)] w (OrdLP n w) := by
  intro n
  induction n with
  | zero => intro w _; exact law42_orders_zero w
  | succ n ih => intro w h; exact law42_orders_step n ((n + 1 : Nat) : Int) (by omega) (by omega) w (fun W => ih W (by omega))
end Go.Proofs.Ytmcbbhlglccmgaa
