import Derived.Test.YtmcbbhlglccmgaaGreatWS
import Derived.Test.YtmcbbhlglccmgaaGreatWP3
import Derived.Deep.DrawnRows
import Derived.Deep.QuietTactic
namespace Go.Proofs.YtmcbbhlglccmgaaGreat
open Go.RowKit Go BigFrame
set_option maxRecDepth 100000
set_option linter.unusedSimpArgs false
set_option linter.unusedVariables false
attribute [local go_sem ↓] Go.wp_at_zero Go.wp_at_succ

/-! law42.orders: all orders of n numbers. -/
theorem run_append_any {a0 w : World} (hx0 : Ext a0 w) {v : Value} {L : List Int} (hown : OwnI w a0.heap.size v L) {ad : Option Addr} {n c : Nat} {l : List Int} (hn : l.length = n) (hI : Ints w ad c l) (hlen : L.length + l.length ≤ 1000000) (ty : TypeId) :
    ∃ v' w', (Builtin.append_ #[27, 27] ty #[v, .slice ad n c]).run Tryz.prog w = .ok v' w' ∧ OwnI w' a0.heap.size v' (L ++ l) ∧ Ext a0 w' ∧ (∀ p cs t, Blk w p cs t → v.ownBlock ≠ some p → Blk w' p cs t ∧ v'.ownBlock ≠ some p) := by
  obtain ⟨i0, hi0, hz0, hz1, hz2⟩ := info_parts infoI
  subst hn
  cases ad with
  | none =>
    have hc := hI.nil rfl
    have hl : l = [] := List.length_eq_zero_iff.1 (by have := hI.le; omega)
    subst hl hc
    exact ⟨v, w, run_append_owned_none (P := Tryz.prog) (w := w) a0.heap.size 27 ty 3 i0 1 Tryz.underlying27 hi0 v L.length (L.map (Value.int .i64)) hown.own, by rw [List.append_nil]; exact hown, hx0, fun p cs t hp hne => ⟨hp, hne⟩⟩
  | some A =>
    have key : ∃ v' w', (Builtin.append_ #[27, 27] ty #[v, .slice (some A) l.length c]).run Tryz.prog w = .ok v' w' ∧ w'.ownsRow a0.heap.size 3 1 v' (L.length + l.length) (L.map (Value.int .i64) ++ l.map (Value.int .i64)) ∧ w.grownBy w' v.ownBlock ∧
        (v' = .slice none 0 0 ↔ v = .slice none 0 0 ∧ l.length = 0) ∧ (v'.ownBlock = v.ownBlock ∨ v'.ownBlock = some w.heap.size) := by
      refine run_append_own_at w a0.heap.size 27 ty 3 i0 (.int .i64 0) 1 8 Tryz.underlying27 hi0 hz0 hz1 hz2 rfl (by decide) v L.length (L.map (Value.int .i64)) hown.own A l.length c (l.map (Value.int .i64)) (by simp) ?_ (fun u hu => by obtain ⟨z, _, rfl⟩ := List.mem_map.1 hu; rfl) (by unfold maxLen; omega) (by omega) hx0.size
      by_cases hl : l = []
      · subst hl; intro j u hu; simp at hu
      · obtain ⟨b, o', e⟩ := hI.head (i := 0) (List.length_pos_iff.2 hl)
        cases e
        exact hI.news0
    obtain ⟨v', w', h0, h1, h2, h3, h4⟩ := key
    obtain ⟨g, cap, rfl, hb, hg, _⟩ := hown.form
    refine ⟨v', w', h0, ⟨fun e => absurd (h3.1 e).1 hown.nn, by simpa using h1⟩, Below.grown hx0 h2 hx0.size (fun k e => by
      simp only [Value.ownBlock, Option.some.injEq] at e
      omega), fun p cs t hp hne => ⟨(h2.block p hp.lt (Ne.symm hne)).trans hp, ?_⟩⟩
    rcases h4 with h4 | h4
    · rw [h4]; exact hne
    · rw [h4]; intro e; have := hp.lt; cases e; omega
theorem step_append_any {ops : Array Oper} {o : Oper} {a : Act} {K : Act → World → Prop} {Q : Exit → Act → World → Prop} {E : Prop} (hgd : o.guard = none) (s x : Operand)
    (ho : o.op = .call { callee := .builtin .append, args := #[s, x], argTypes := #[27, 27] }) {a0 w : World} (hx0 : Ext a0 w) {v : Value} (hs : a.eval s = v) {L : List Int} (hown : OwnI w a0.heap.size v L) {ad : Option Addr} {n c : Nat} {l : List Int}
    (hx : a.eval x = .slice ad n c) (hn : l.length = n) (hI : Ints w ad c l) (hlen : L.length + l.length ≤ 1000000)
    (h : ∀ v' w', OwnI w' a0.heap.size v' (L ++ l) → Ext a0 w' → (∀ p cs t, Blk w p cs t → v.ownBlock ≠ some p → Blk w' p cs t ∧ v'.ownBlock ≠ some p) → K (a.put o.dst v') w') :
    if Region.wanted o (yielded ops a.tmps) = true then Oper.wp Tryz.prog o a w K Q else E := by
  have hw : Region.wanted o (yielded ops a.tmps) = true := by simp [Region.wanted, hgd]
  rw [if_pos hw]
  obtain ⟨v', w', hr, h1, h2, h3⟩ := run_append_any hx0 hown hn hI hlen o.type
  unfold Oper.wp execOp
  simp only [ho, resolve, invoke, builtin, Sem.run_bind, Sem.run_pure, Result.andThen_ok, List.map_toArray, List.map_cons, List.map_nil, hs, hx, hr]
  exact h v' w' h1 h2 h3
theorem own_newW {a0 y : World} (hE : Ext a0 y) : OwnI (y.alloc (.cells #[] 3)) a0.heap.size (.slice (some ⟨y.heap.size, 0, none⟩) 0 0) [] ∧ Ext a0 (y.alloc (.cells #[] 3)) := by
  refine ⟨?_, hE.alloc' _⟩
  have h := OwnI.new y
  refine ⟨h.nn, h.own.1, ?_⟩
  rcases h.own.2 with h2 | ⟨g, cap, cur, e, hb, r⟩
  · exact .inl h2
  · exact .inr ⟨g, cap, cur, e, Nat.le_trans hE.size hb, r⟩
theorem OwnI.off {w : World} {B : Nat} {v : Value} {L : List Int} (h : OwnI w B v L) {o : Option Nat} (ho : ∀ g, o = some g → g < B) : OffV v o := by
  obtain ⟨g, cap, rfl, hb, _⟩ := h.form
  intro A n c e hn e2
  simp only [Value.slice.injEq, Option.some.injEq] at e
  obtain ⟨rfl, _⟩ := e
  have := ho _ e2
  dsimp only at this
  omega
theorem Ints.preW {w : World} {a : Option Addr} {cap : Nat} {l : List Int} (h : Ints w a cap l) {k : Nat} (hk : k ≤ l.length) : Ints w a cap (l.take k) :=
  ⟨by have := h.le; simp; omega, h.mx, h.nil, fun B hB i hi => by
    have hi2 : i < l.length := by simp at hi; omega
    obtain ⟨e, v, hv, r⟩ := h.cells B hB i hi2
    exact ⟨e, v, hv, by simpa using r⟩⟩
def OrdLP (n : Nat) (w : World) (e : Ending) (w' : World) : Prop := ∃ v, e = .returned v ∧ OwnL IsInts w' w.heap.size 27 v (ordersL n) ∧ Ext w w'
end Go.Proofs.YtmcbbhlglccmgaaGreat

namespace Go.Proofs.YtmcbbhlglccmgaaGreat
open Go.RowKit Go BigFrame Go.Shelf
set_option maxRecDepth 100000
set_option linter.unusedSimpArgs false
set_option linter.unusedVariables false

/-! Layer 42, plain: counting by taking elements out, as the reference does. -/
def pickS (g : Int → List Int → Nat) (b : List Int) : Nat → Nat
  | 0 => 0
  | k + 1 => pickS g b k + g (b.getD k 0) (b.eraseIdx k)
theorem pickS_congr {g g' : Int → List Int → Nat} {b : List Int} (h : ∀ v c, g v c = g' v c) : ∀ k, pickS g b k = pickS g' b k
  | 0 => rfl
  | k + 1 => by show pickS g b k + _ = pickS g' b k + _; rw [pickS_congr h k, h]
theorem pickS_cons (g : Int → List Int → Nat) (x : Int) (b : List Int) : ∀ k, pickS g (x :: b) (k + 1) = g x b + pickS (fun v c => g v (x :: c)) b k
  | 0 => by simp [pickS]
  | k + 1 => by
    show pickS g (x :: b) (k + 1) + g ((x :: b).getD (k + 1) 0) ((x :: b).eraseIdx (k + 1)) = _
    rw [pickS_cons g x b k]
    simp [pickS, Nat.add_assoc]
theorem pickS_perm {b b' : List Int} (h : b.Perm b') : ∀ (g : Int → List Int → Nat), (∀ v c c', c.Perm c' → g v c = g v c') → pickS g b b.length = pickS g b' b'.length := by
  induction h with
  | nil => intro g hg; rfl
  | cons x h ih =>
    intro g hg
    rw [List.length_cons, List.length_cons, pickS_cons, pickS_cons, hg x _ _ h, ih _ fun v c c' k => hg v _ _ (k.cons x)]
  | swap x y l =>
    intro g hg
    simp only [List.length_cons]
    rw [pickS_cons, pickS_cons, pickS_cons, pickS_cons, pickS_congr (g := fun v c => g v (y :: x :: c)) (g' := fun v c => g v (x :: y :: c)) fun v c => hg v _ _ (List.Perm.swap ..)]
    omega
  | trans _ _ ih1 ih2 => intro g hg; rw [ih1 g hg, ih2 g hg]
/-- How many ways there are to pair the elements of the first list with those of the second one with a sum of at least s. -/
def W (pt : Int → Int → Int) : List Int → List Int → Int → Nat
  | [], _, s => if s ≤ 0 then 1 else 0
  | x :: a, b, s => pickS (fun v c => W pt a c (s - pt x v)) b b.length
theorem W_perm (pt : Int → Int → Int) : ∀ (a : List Int) {b b' : List Int} (s : Int), b.Perm b' → W pt a b s = W pt a b' s
  | [], _, _, _, _ => rfl
  | x :: a, b, b', s, h => pickS_perm h _ fun v c c' k => W_perm pt a _ k
theorem W_le (pt : Int → Int → Int) : ∀ (a b : List Int) (s : Int), a.length = b.length → W pt a b s ≤ fact a.length
  | [], b, s, _ => by unfold W; split <;> simp [fact]
  | x :: a, b, s, h => by
    have : ∀ k, k ≤ b.length → pickS (fun v c => W pt a c (s - pt x v)) b k ≤ k * fact a.length := by
      intro k
      induction k with
      | zero => intro _; simp [pickS]
      | succ k ih =>
        intro hk
        have h1 := ih (by omega)
        have h2 := W_le pt a (b.eraseIdx k) (s - pt x (b.getD k 0)) (by rw [List.length_eraseIdx_of_lt (by omega)]; rw [List.length_cons] at h; omega)
        rw [Nat.succ_mul]
        show pickS _ b k + W pt a (b.eraseIdx k) (s - pt x (b.getD k 0)) ≤ _
        omega
    have h1 := this b.length (Nat.le_refl _)
    rw [← h] at h1
    show pickS _ b b.length ≤ _
    rw [← h]
    exact h1
/-- The sum over the pairs from i on. -/
def psF (pt : Int → Int → Int) (l m p : List Int) (i : Nat) : Nat → Int
  | 0 => 0
  | f + 1 => pt (l.getD i 0) (m.getD (p.getD i 0).toNat 0) + psF pt l m p (i + 1) f
theorem sm_front (h : Nat → Int) : ∀ n, sm (n + 1) h = h 0 + sm n (fun i => h (i + 1))
  | 0 => by simp [sm]
  | n + 1 => by
    show sm (n + 1) h + h (n + 1) = _
    rw [sm_front h n]
    show _ = h 0 + (sm n (fun i => h (i + 1)) + h (n + 1))
    omega
theorem psF_sm (pt : Int → Int → Int) (l m p : List Int) : ∀ (f i : Nat), psF pt l m p i f = sm f (fun j => pt (l.getD (i + j) 0) (m.getD (p.getD (i + j) 0).toNat 0))
  | 0, i => by simp [psF, sm]
  | f + 1, i => by
    rw [sm_front]
    show _ + psF pt l m p (i + 1) f = _
    rw [psF_sm pt l m p f (i + 1)]
    simp only [Nat.add_zero, Nat.add_assoc, Nat.add_comm 1]
theorem psF_zero (pt : Int → Int → Int) (l m p : List Int) (n : Nat) : psF pt l m p 0 n = psum pt l m p n := by
  rw [psF_sm]
  unfold psum
  simp only [Nat.zero_add]
def at2W (m x : List Int) : List Int := x.map fun v => m.getD v.toNat 0
theorem drop_getDW (x : List Int) {i : Nat} (hi : i < x.length) : x.drop i = x.getD i 0 :: x.drop (i + 1) := by
  rw [List.drop_eq_getElem_cons hi, List.getD_eq_getElem?_getD, List.getElem?_eq_getElem hi]; rfl
theorem swp_dropW {x : List Int} {i d : Nat} (hd : i + d < x.length) : (x.getD (i + d) 0 :: (swp x i (i + d)).drop (i + 1)).Perm (x.drop i) := by
  have h1 := swp_mem (x := x) (i := i) (k := i + d) (by omega) hd
  have h2 : (swp x i (i + d)).take i = x.take i := by
    refine List.ext_getElem? fun j => ?_
    unfold swp
    rw [List.getElem?_take, List.getElem?_take]
    split
    · rw [List.getElem?_set_ne (by omega), List.getElem?_set_ne (by omega)]
    · rfl
  have h3 : (swp x i (i + d)).drop i = x.getD (i + d) 0 :: (swp x i (i + d)).drop (i + 1) := by
    rw [drop_getDW _ (by rw [swp_length]; omega), swp_getD x (by omega) hd]
    congr 1
    by_cases h0 : i = i + d
    · rw [if_pos h0, ← h0]
    · rw [if_neg h0, if_pos rfl]
  rw [← h3]
  have h4 : (x.take i ++ (swp x i (i + d)).drop i).Perm (x.take i ++ x.drop i) := by
    have : x.take i ++ (swp x i (i + d)).drop i = swp x i (i + d) := by rw [← h2, List.take_append_drop]
    rw [this, List.take_append_drop]
    exact h1
  exact (List.perm_append_left_iff _).1 h4
theorem countP_flatMapW {α β : Type} (q : β → Bool) (f : α → List β) : ∀ l : List α, (l.flatMap f).countP q = (l.map fun a => (f a).countP q).sum
  | [] => rfl
  | a :: l => by rw [List.flatMap_cons, List.countP_append, countP_flatMapW q f l]; simp
theorem pickS_sum (g : Int → List Int → Nat) (b : List Int) : ∀ k, pickS g b k = ((List.range k).map fun d => g (b.getD d 0) (b.eraseIdx d)).sum
  | 0 => rfl
  | k + 1 => by rw [List.range_succ, List.map_append, List.sum_append, ← pickS_sum g b k]; simp [pickS]
theorem eraseIdx_permW : ∀ (b : List Int) (d : Nat) (hd : d < b.length), (b[d] :: b.eraseIdx d).Perm b
  | x :: b, 0, _ => List.Perm.refl _
  | x :: b, d + 1, h => by
    have ih := eraseIdx_permW b d (by simpa using h)
    exact (List.Perm.swap ..).trans (ih.cons x)
theorem eraseIdx_perm {b : List Int} {d : Nat} (hd : d < b.length) : (b.getD d 0 :: b.eraseIdx d).Perm b := by
  have e : b.getD d 0 = b[d] := by rw [List.getD_eq_getElem?_getD, List.getElem?_eq_getElem hd]; rfl
  rw [e]
  exact eraseIdx_permW b d hd
theorem gen_W (pt : Int → Int → Int) (l m : List Int) : ∀ (f i : Nat) (x : List Int), i + f = x.length → l.length = x.length → ∀ least : Int,
    (gen f i x).countP (fun p => decide (least ≤ psF pt l m p i f)) = W pt (l.drop i) (at2W m (x.drop i)) least := by
  intro f
  induction f with
  | zero =>
    intro i x hx hl least
    rw [show l.drop i = [] from List.drop_eq_nil_of_le (by omega)]
    by_cases h : least ≤ 0 <;> simp [gen, psF, W, h]
  | succ f ih =>
    intro i x hx hl least
    rw [drop_getDW l (i := i) (by omega)]
    have hbl : (at2W m (x.drop i)).length = f + 1 := by unfold at2W; rw [List.length_map, List.length_drop]; omega
    show _ = pickS (fun v c => W pt (l.drop (i + 1)) c (least - pt (l.getD i 0) v)) (at2W m (x.drop i)) (at2W m (x.drop i)).length
    rw [hbl, pickS_sum, show gen (f + 1) i x = (List.range (f + 1)).flatMap fun d => gen f (i + 1) (swp x i (i + d)) from rfl, countP_flatMapW]
    congr 1
    refine List.map_congr_left fun d hd => ?_
    have hd : d < f + 1 := List.mem_range.1 hd
    have hsl : (swp x i (i + d)).length = x.length := swp_length _ _ _
    have hbd : (at2W m (x.drop i)).getD d 0 = m.getD (x.getD (i + d) 0).toNat 0 := by
      unfold at2W
      simp only [List.getD_eq_getElem?_getD]
      rw [List.getElem?_map, List.getElem?_drop, List.getElem?_eq_getElem (show i + d < x.length by omega)]
      rfl
    have e1 : (gen f (i + 1) (swp x i (i + d))).countP (fun p => decide (least ≤ psF pt l m p i (f + 1))) = (gen f (i + 1) (swp x i (i + d))).countP (fun p => decide (least - pt (l.getD i 0) (m.getD (x.getD (i + d) 0).toNat 0) ≤ psF pt l m p (i + 1) f)) := by
      refine List.countP_congr fun p hp => ?_
      simp only [decide_eq_true_eq]
      rw [show psF pt l m p i (f + 1) = pt (l.getD i 0) (m.getD (p.getD i 0).toNat 0) + psF pt l m p (i + 1) f from rfl, gen_at f i x (by omega) d hd p hp]
      omega
    rw [e1, ih (i + 1) _ (by omega) (by omega), hbd]
    refine W_perm pt _ _ ?_
    have p1 := (swp_dropW (x := x) (i := i) (d := d) (by omega)).map fun v => m.getD v.toNat 0
    rw [List.map_cons] at p1
    have p2 := eraseIdx_perm (b := at2W m (x.drop i)) (d := d) (by omega)
    rw [hbd] at p2
    exact (List.perm_cons _).1 (p1.trans p2.symm)
theorem at2W_iota (m : List Int) : at2W m (iota m.length) = m := by
  refine List.ext_getElem (by simp [at2W, iota]) fun i h1 h2 => ?_
  simp only [at2W, iota, List.getElem_map, List.getElem_range, Int.toNat_natCast]
  rw [List.getD_eq_getElem?_getD, List.getElem?_eq_getElem h2]
  rfl
/-- The program's count and the reference's are the same. -/
theorem cntG_W (pt : Int → Int → Int) (l m : List Int) (least : Int) (h : l.length = m.length) : cntG pt l m least = W pt l m least := by
  unfold cntG cntL
  have := gen_W pt l m l.length 0 (iota l.length) (by rw [iota_len]; omega) (by rw [iota_len]) least
  rw [List.drop_zero, List.drop_zero, show at2W m (iota l.length) = m by rw [h]; exact at2W_iota m] at this
  rw [← this]
  refine List.countP_congr fun p _ => ?_
  rw [psF_zero]
/-- How many sets of so many numbers have at least some sum: as the reference counts. -/
def setsW : List Int → Nat → Int → Nat
  | _, 0, s => if s ≤ 0 then 1 else 0
  | [], _ + 1, _ => 0
  | x :: l, k + 1, s => setsW l k (s - x) + setsW l (k + 1) s
theorem setsW_cs (least : Int) : ∀ (l : List Int) (k : Nat) (a : Int), cs least k l a = setsW l k (least - a)
  | _, 0, a => by
    unfold cs setsW
    by_cases h : least ≤ a
    · rw [if_pos h, if_pos (by omega)]
    · rw [if_neg h, if_neg (by omega)]
  | [], k + 1, a => rfl
  | x :: l, k + 1, a => by
    show cs least k l (a + x) + cs least (k + 1) l a = setsW l k (least - a - x) + setsW l (k + 1) (least - a)
    rw [setsW_cs least l k, setsW_cs least l (k + 1), show least - (a + x) = least - a - x by omega]
theorem setsW_few : ∀ (l : List Int) (k : Nat) (s : Int), l.length < k → setsW l k s = 0
  | [], 0, s, h => by simp at h
  | [], k + 1, s, h => rfl
  | x :: l, 0, s, h => by simp at h
  | x :: l, k + 1, s, h => by
    rw [List.length_cons] at h
    show setsW l k (s - x) + setsW l (k + 1) s = 0
    rw [setsW_few l k _ (by omega), setsW_few l (k + 1) _ (by omega)]
theorem setsW_bin : ∀ (l : List Int) (k : Nat) (s : Int), setsW l k s ≤ bin l.length k
  | [], 0, s => by unfold setsW; rw [bin_zero]; split <;> omega
  | _ :: _, 0, s => by unfold setsW; rw [bin_zero]; split <;> omega
  | [], k + 1, s => Nat.zero_le _
  | x :: l, k + 1, s => by
    have h1 := setsW_bin l k (s - x)
    have h2 := setsW_bin l (k + 1) s
    show setsW l k (s - x) + setsW l (k + 1) s ≤ bin l.length k + bin l.length (k + 1)
    omega
end Go.Proofs.YtmcbbhlglccmgaaGreat

namespace Go.Proofs.YtmcbbhlglccmgaaGreat
open Go.RowKit Go BigFrame Go.Shelf
set_option maxRecDepth 100000
set_option linter.unusedSimpArgs false
set_option linter.unusedVariables false
attribute [local go_sem ↓] Go.wp_at_zero Go.wp_at_succ

/-! Layer 42: the reference (Few, ask, Against, sets, without, orders, matches, factorial). -/
def fewN (n : Nat) : Prop := n ≤ 7 ∨ (8 < n ∧ n ≤ 12) ∨ 64 < n
def FewBW (n : Nat) (w : World) (e : Ending) (w' : World) : Prop := (∃ b, e = .returned (.bool b) ∧ (b = true → fewN n)) ∧ w = w'
set_option maxHeartbeats 4000000 in
theorem ref42_Few (a : Option Addr) (cap : Nat) (m : List (List Int)) (w : World) (h : Rows w a cap m) : Calls Tryz.prog 7 #[.slice a m.length cap] w (FewBW m.length w) := by
  have hle := h.le
  have hmx := h.mx
  have HH := Lib.hid h
  by_cases h7 : 7 < m.length
  case pos =>
    have t1 : decide ((7 : Int) < (m.length : Int)) = true := decide_eq_true (by omega)
    by_cases h64 : m.length ≤ 64
    · have t2 : decide ((m.length : Int) ≤ 64) = true := decide_eq_true (by omega)
      by_cases h12 : 12 < m.length
      · have t3 : decide ((12 : Int) < (m.length : Int)) = true := decide_eq_true (by omega)
        clear h HH
        go_enter Tryz.func7, Tryz.ntmps7
        go_wp2_with fail
        go_ret
        exact ⟨⟨_, rfl, fun e => by cases e⟩, rfl⟩
      · have t3 : decide ((12 : Int) < (m.length : Int)) = false := decide_eq_false (by omega)
        by_cases h8 : m.length ≤ 8
        · have t4 : decide ((m.length : Int) ≤ 8) = true := decide_eq_true (by omega)
          clear h HH
          go_enter Tryz.func7, Tryz.ntmps7
          go_wp2_with fail
          go_ret
          exact ⟨⟨_, rfl, fun e => by cases e⟩, rfl⟩
        · have t4 : decide ((m.length : Int) ≤ 8) = false := decide_eq_false (by omega)
          have t5 : decide ((80 : Int) < (m.length : Int)) = false := decide_eq_false (by omega)
          have HF : Hid (fewN m.length) := Lib.hid (.inr (.inl (by omega)))
          clear h
          go_enter Tryz.func7, Tryz.ntmps7
          go_wp2_with fail
          go_loop [3] (fun i => ∃ k : Nat, k ≤ m.length ∧ i = .int .i64 k) (fun i => m.length - (intOf i).toNat)
          case atStart => exact ⟨0, Nat.zero_le _, rfl⟩
          case round =>
            obtain ⟨k, hk, rfl⟩ := hrel
            have g1 : (0 : Int) ≤ (k : Int) := by omega
            by_cases hkn : k < m.length
            · obtain ⟨b, o, rfl⟩ := HH.out.head hkn
              obtain ⟨x, a2, c2, hx, hc, hI⟩ := Rows.get HH.out hkn
              have xle := hI.le
              have xmx := hI.mx
              have g2 : (k : Int) < (m.length : Int) := by omega
              clear hx hI
              by_cases hl : 30 < x.length
              · have u2 : decide ((30 : Int) < (x.length : Int)) = true := decide_eq_true (by omega)
                go_wp2_with fail
                go_ret
                exact ⟨⟨_, rfl, fun e => by cases e⟩, rfl⟩
              · have u2 : decide ((30 : Int) < (x.length : Int)) = false := decide_eq_false (by omega)
                go_wp2_with fail
                go_round
                case rel => exact ⟨k + 1, by omega, by go_num⟩
                case measure => simp [intOf]; omega
            · have g3 : ¬ (k : Int) < (m.length : Int) := by omega
              go_wp2_with fail
              go_ret
              exact ⟨⟨_, rfl, fun _ => HF.out⟩, rfl⟩
    · have t2 : decide ((m.length : Int) ≤ 64) = false := decide_eq_false (by omega)
      have HF : Hid (fewN m.length) := Lib.hid (.inr (.inr (by omega)))
      by_cases h80 : 80 < m.length
      · have t5 : decide ((80 : Int) < (m.length : Int)) = true := decide_eq_true (by omega)
        clear h HH
        go_enter Tryz.func7, Tryz.ntmps7
        go_wp2_with fail
        go_ret
        exact ⟨⟨_, rfl, fun e => by cases e⟩, rfl⟩
      · have t5 : decide ((80 : Int) < (m.length : Int)) = false := decide_eq_false (by omega)
        clear h
        go_enter Tryz.func7, Tryz.ntmps7
        go_wp2_with fail
        go_loop [3] (fun i => ∃ k : Nat, k ≤ m.length ∧ i = .int .i64 k) (fun i => m.length - (intOf i).toNat)
        case atStart => exact ⟨0, Nat.zero_le _, rfl⟩
        case round =>
          obtain ⟨k, hk, rfl⟩ := hrel
          have g1 : (0 : Int) ≤ (k : Int) := by omega
          by_cases hkn : k < m.length
          · obtain ⟨b, o, rfl⟩ := HH.out.head hkn
            obtain ⟨x, a2, c2, hx, hc, hI⟩ := Rows.get HH.out hkn
            have xle := hI.le
            have xmx := hI.mx
            have g2 : (k : Int) < (m.length : Int) := by omega
            clear hx hI
            by_cases hl : 30 < x.length
            · have u2 : decide ((30 : Int) < (x.length : Int)) = true := decide_eq_true (by omega)
              go_wp2_with fail
              go_ret
              exact ⟨⟨_, rfl, fun e => by cases e⟩, rfl⟩
            · have u2 : decide ((30 : Int) < (x.length : Int)) = false := decide_eq_false (by omega)
              go_wp2_with fail
              go_round
              case rel => exact ⟨k + 1, by omega, by go_num⟩
              case measure => simp [intOf]; omega
          · have g3 : ¬ (k : Int) < (m.length : Int) := by omega
            go_wp2_with fail
            go_ret
            exact ⟨⟨_, rfl, fun _ => HF.out⟩, rfl⟩
  case neg =>
    have t1 : decide ((7 : Int) < (m.length : Int)) = false := decide_eq_false (by omega)
    have t5 : decide ((80 : Int) < (m.length : Int)) = false := decide_eq_false (by omega)
    have HF : Hid (fewN m.length) := Lib.hid (.inl (by omega))
    clear h
    go_enter Tryz.func7, Tryz.ntmps7
    go_wp2_with fail
    go_loop [3] (fun i => ∃ k : Nat, k ≤ m.length ∧ i = .int .i64 k) (fun i => m.length - (intOf i).toNat)
    case atStart => exact ⟨0, Nat.zero_le _, rfl⟩
    case round =>
      obtain ⟨k, hk, rfl⟩ := hrel
      have g1 : (0 : Int) ≤ (k : Int) := by omega
      by_cases hkn : k < m.length
      · obtain ⟨b, o, rfl⟩ := HH.out.head hkn
        obtain ⟨x, a2, c2, hx, hc, hI⟩ := Rows.get HH.out hkn
        have xle := hI.le
        have xmx := hI.mx
        have g2 : (k : Int) < (m.length : Int) := by omega
        clear hx hI
        by_cases hl : 30 < x.length
        · have u2 : decide ((30 : Int) < (x.length : Int)) = true := decide_eq_true (by omega)
          go_wp2_with fail
          go_ret
          exact ⟨⟨_, rfl, fun e => by cases e⟩, rfl⟩
        · have u2 : decide ((30 : Int) < (x.length : Int)) = false := decide_eq_false (by omega)
          go_wp2_with fail
          go_round
          case rel => exact ⟨k + 1, by omega, by go_num⟩
          case measure => simp [intOf]; omega
      · have g3 : ¬ (k : Int) < (m.length : Int) := by omega
        go_wp2_with fail
        go_ret
        exact ⟨⟨_, rfl, fun _ => HF.out⟩, rfl⟩
theorem minL_one (j : Int) : minL [j] = j := rfl
theorem maxL_one (j : Int) : maxL [j] = j := rfl
set_option maxHeartbeats 4000000 in
theorem ref42_ask (a : Option Addr) (cap : Nat) (m : List (List Int)) (j : Int) (w : World) (h : Rows w a cap m) : Calls Tryz.prog 25 #[.slice a m.length cap, .int .i64 j] w fun e w' => e = .returned (.int .i64 (askW m [j])) ∧ Ext w w' := by
  have hle := h.le
  have hmx := h.mx
  have HC := Lib.hid (ref42_Error a cap m w h)
  by_cases hE : errW m = 0
  · have hr := errW_ok hE
    have hp := hr.p
    obtain ⟨b, o, rfl⟩ := h.head hp
    obtain ⟨r0, a2, c2, hr0, hc0, hI⟩ := Rows.get h hp
    have hA : askW m [j] = if j < 0 then 1 else if (r0.length : Int) ≤ j then 1 else 0 := by
      unfold askW
      rw [if_neg (by rw [hE]; simp), minL_one, maxL_one, List.headD_eq_head?_getD, List.head?_eq_getElem?, hr0]
      rfl
    have rle := hI.le
    have rmx := hI.mx
    simp only [Nat.add_zero] at hc0
    have HC0 := Lib.hid hc0
    rw [hE] at HC
    have HAQ := Lib.hid hA
    have g1 : (0 : Int) < (m.length : Int) := by omega
    clear h hr hc0 hI hr0 hA hE
    go_enter Tryz.func25, Tryz.ntmps25
    go_wp2_with fail
    with_reducible refine (HC.out).mono ?_
    rintro e x1 ⟨rfl, hy⟩
    have hc0 := cell_exQ hy HC0.out
    clear HC
    by_cases hj0 : j < 0
    · have t1 : decide (j < 0) = true := decide_eq_true hj0
      have HJ : Hid (askW m [j] = 1) := Lib.hid (by rw [HAQ.out, if_pos hj0])
      go_wp2_with fail
      go_ret
      exact ⟨ret_iW HJ.out.symm, hy⟩
    · have t1 : decide (j < 0) = false := decide_eq_false hj0
      by_cases hjn : (r0.length : Int) ≤ j
      · have t2 : decide ((r0.length : Int) ≤ j) = true := decide_eq_true hjn
        have HJ : Hid (askW m [j] = 1) := Lib.hid (by rw [HAQ.out, if_neg hj0, if_pos hjn])
        go_wp2_with fail
        go_ret
        exact ⟨ret_iW HJ.out.symm, hy⟩
      · have t2 : decide ((r0.length : Int) ≤ j) = false := decide_eq_false hjn
        have HJ : Hid (askW m [j] = 0) := Lib.hid (by rw [HAQ.out, if_neg hj0, if_neg hjn])
        go_wp2_with fail
        go_ret
        exact ⟨ret_iW HJ.out.symm, hy⟩
  · have hA : askW m [j] = errW m := by unfold askW; rw [if_pos hE]
    rw [hA]
    obtain ⟨E, hEE⟩ : ∃ E, errW m = E := ⟨_, rfl⟩
    rw [hEE] at HC hE ⊢
    have t1 : (E == 0) = false := beq_false_of_ne hE
    clear h hA hEE
    go_enter Tryz.func25, Tryz.ntmps25
    go_wp2_with fail
    with_reducible refine (HC.out).mono ?_
    rintro e x1 ⟨rfl, hy⟩
    clear HC
    go_wp2_with fail
    go_ret
    exact ⟨rfl, hy⟩
theorem dif_bd {k n : Nat} {y S : Int} (hk : k ≤ n) (hn : n ≤ 16) (hy : 0 ≤ y ∧ y ≤ 1000) (hS : 0 ≤ S ∧ S ≤ 1000 * (k : Int)) : -16000 ≤ (k : Int) * y - S ∧ (k : Int) * y - S ≤ 16000 := by
  have h1 : 0 ≤ (k : Int) * y := Int.mul_nonneg (by omega) hy.1
  have h2 : (k : Int) * y ≤ 16 * 1000 := Int.mul_le_mul (by omega) hy.2 hy.1 (by omega)
  omega
set_option maxHeartbeats 8000000 in
theorem ref42_Against_ok (a : Option Addr) (cap : Nat) (m : List (List Int)) (j : Nat) (w : World) (h : Rows w a cap m) (hE : askW m [(j : Int)] = 0) :
    Calls Tryz.prog 10 #[.slice a m.length cap, .int .i64 (j : Int)] w fun e w' => ∃ v, e = .returned (.tuple #[v, .int .i64 0]) ∧ OwnI w' (Array.size (World.heap w)) v (aboveL m j) ∧ Ext w w' := by
  have hle := h.le
  have hmx := h.mx
  have HA := Lib.hid (ref42_ask a cap m (j : Int) w h)
  rw [hE] at HA
  obtain ⟨hr, hj1, hj2⟩ := askW_ok hE
  have hj3 : (j : Int) < ((m.headD []).length : Int) := hj2
  obtain ⟨n, hn⟩ : ∃ n, n = (m.headD []).length := ⟨_, rfl⟩
  rw [← hn] at hr hj3
  have hjn : j < n := by omega
  have h64 := hr.le
  have HH := Lib.hid h
  have HR := Lib.hid hr
  have HAL := above_bd hr hjn
  have HAL := Lib.hid HAL
  clear h hE hr hj1 hj2 hn
  go_enter Tryz.func10, Tryz.ntmps10
  go_wp2_with fail
  with_reducible refine (HA.out).mono ?_
  rintro e x1 ⟨rfl, hy⟩
  obtain ⟨hO0, hE0⟩ := own_newW hy
  have HO0 := Lib.hid hO0
  have HE0 := Lib.hid hE0
  clear HA hy hO0 hE0
  go_wp2_with fail
  go_loopw [7, 8] (fun v i wr => ∃ k : Nat, k ≤ m.length ∧ i = .int .i64 k ∧ OwnI wr (Array.size (World.heap w)) v ((aboveL m j).take k) ∧ Ext w wr) (fun _ i _ => m.length - (intOf i).toNat)
  case atStart => exact ⟨0, Nat.zero_le _, rfl, HO0.out, HE0.out⟩
  case round =>
    obtain ⟨k, hk, rfl, how, hxr⟩ := hrel
    generalize wr = wA at *
    have HOW := Lib.hid how
    have HXA := Lib.hid hxr
    have g1 : (0 : Int) ≤ (k : Int) := by omega
    clear how hxr HO0 HE0
    by_cases hkn : k < m.length
    · obtain ⟨b, o, rfl⟩ := HH.out.head hkn
      obtain ⟨r, a2, c2, hrw, hc0, hI⟩ := Rows.get HH.out hkn
      obtain ⟨hrl, hr16, hrb⟩ := HR.out.row r (List.mem_of_getElem? hrw)
      obtain ⟨b2, o2, rfl⟩ := hI.head (i := j) (by omega)
      obtain ⟨y, hy, hcy0, _⟩ := Ints.get hI (i := j) (by omega)
      obtain ⟨y1, y2⟩ := hrb y (List.mem_of_getElem? hy)
      have HY : Hid (r.getD j 0 = y) := Lib.hid (by rw [List.getD_eq_getElem?_getD, hy]; rfl)
      have HRB := Lib.hid hrb
      have rle := hI.le
      have rmx := hI.mx
      rw [hrl] at hc0 rle
      have HRL := Lib.hid hrl
      have HI := Lib.hid hI
      have HC0 := Lib.hid hc0
      have HCY := Lib.hid hcy0
      have HYG := Lib.hid hy
      have HTK : Hid ((aboveL m j).take (k + 1) = (aboveL m j).take k ++ [aboveR j r]) := Lib.hid (take_get (by unfold aboveL; rw [List.getElem?_map, hrw]; rfl))
      have g2 : (k : Int) < (m.length : Int) := by omega
      have g3 : (j : Int) < (n : Int) := by omega
      have g4 : (0 : Int) ≤ (j : Int) := by omega
      have hn16 : n ≤ 16 := by omega
      clear hrw hrb hrl hI hc0 hcy0 hy
      go_wp2_with fail
      go_loopw [9, 10] (fun s i wr => ∃ q : Nat, q ≤ n ∧ i = .int .i64 q ∧ s = .int .i64 ((q : Int) * y - (r.take q).sum) ∧ Ext wA wr) (fun _ i _ => n - (intOf i).toNat)
      case atStart => exact ⟨0, Nat.zero_le _, rfl, by simp, Ext.refl _⟩
      case round =>
        obtain ⟨q, hq, rfl, rfl, hxr⟩ := hrel
        generalize wr = wB at *
        have HXB := Lib.hid hxr
        have q1 : (0 : Int) ≤ (q : Int) := by omega
        have hS := sum_bdW (l := r.take q) (fun x hx => HRB.out x (List.mem_of_mem_take hx))
        have hD := dif_bd (k := q) (n := n) (y := y) (S := (r.take q).sum) hq hn16 ⟨y1, y2⟩ ⟨hS.1, by have := hS.2; rw [List.length_take, Nat.min_eq_left (by rw [HRL.out]; exact hq)] at this; exact this⟩
        obtain ⟨d1, d2⟩ := hD
        obtain ⟨D, hDD⟩ : ∃ D, (q : Int) * y - (r.take q).sum = D := ⟨_, rfl⟩
        have HD := Lib.hid hDD
        rw [hDD] at d1 d2 ⊢
        have hc0 := cell_exQ (HXA.out.trans hxr) HC0.out
        clear hS hDD hxr
        by_cases hqn : q < n
        · obtain ⟨x, hx, hcx0, _⟩ := Ints.get HI.out (i := q) (by rw [HRL.out]; exact hqn)
          obtain ⟨x1b, x2b⟩ := HRB.out x (List.mem_of_getElem? hx)
          have HX : Hid (((q + 1 : Nat) : Int) * y - (r.take (q + 1)).sum = D + y - x) := Lib.hid (by rw [sum_takeW hx, ← HD.out, Int.natCast_succ, Int.add_mul]; omega)
          have q2 : (q : Int) < (n : Int) := by omega
          by_cases hqj : q = j
          · have HXY : Hid (x = y) := Lib.hid (by have := HYG.out; rw [← hqj, hx] at this; cases this; rfl)
            have t1 : ((q : Int) != (j : Int)) = false := by simp [hqj]
            clear hx hcx0
            go_wp2_with fail
            go_roundw
            case rel => exact ⟨q + 1, by omega, by go_num, by rw [HX.out, HXY.out]; simp, HXB.out⟩
            case measure => simp [intOf]; omega
          · have t1 : ((q : Int) != (j : Int)) = true := by simp; omega
            have hcx := cell_exQ (HXA.out.trans HXB.out) hcx0
            have hcy := cell_exQ (HXA.out.trans HXB.out) HCY.out
            clear hx hcx0
            go_upto_region 13 with fail
            go_quiet (fail)
            go_wp2_with fail
            go_roundw
            case rel => exact ⟨q + 1, by omega, by go_num, by rw [HX.out], HXB.out.drewN nq⟩
            case measure => simp [intOf]; omega
        · obtain rfl : q = n := by omega
          have q2 : ¬ (q : Int) < (q : Int) := by omega
          have HDA : Hid (aboveR j r = D) := Lib.hid (by unfold aboveR; rw [HY.out, ← HD.out, ← HRL.out, List.take_length])
          have HX2 := Lib.hid (HXA.out.trans HXB.out)
          have HLT : Hid (((aboveL m j).take k).length ≤ 1000) := Lib.hid (by rw [List.length_take]; omega)
          go_wp2_with (at_builtin; refine wpl_append_ext rfl (.tmp 53) (.tmp 55) 27 rfl Tryz.underlying27 (HX2.out.alloc' (.cells #[.int .i64 D] 3)) _ _ rfl ((HOW.out.ext HXB.out).ext (Ext.alloc wB (.cells #[.int .i64 D] 3))) _ _ _ [D] rfl rfl (ints_one (Blk.new0 wB #[.int .i64 D] 3) (by omega)) (by have := HLT.out; simp only [List.length_singleton]; omega) ?_; intro v3 w3 hown3 hx3)
          go_roundw
          case rel => exact ⟨k + 1, by omega, by go_num, by rw [HTK.out, HDA.out]; exact hown3, hx3⟩
          case measure => simp [intOf]; omega
    · have g2 : ¬ (k : Int) < (m.length : Int) := by omega
      have HOK : Hid (OwnI wA (Array.size (World.heap w)) _ (aboveL m j)) := Lib.hid (by have := HOW.out; rwa [List.take_of_length_le (by unfold aboveL; rw [List.length_map]; omega)] at this)
      clear HOW
      go_wp2_with fail
      refine bodyPost_ret (v := .tuple #[_, .int .i64 0]) (by simp [results, Tryz.results10, go_sem]; rfl) rfl ?_
      exact ⟨_, rfl, HOK.out, HXA.out⟩
set_option maxHeartbeats 4000000 in
theorem ref42_Against_err (a : Option Addr) (cap : Nat) (m : List (List Int)) (j : Int) (w : World) (h : Rows w a cap m) (hE : askW m [j] ≠ 0) :
    Calls Tryz.prog 10 #[.slice a m.length cap, .int .i64 j] w fun e w' => e = .returned (.tuple #[.slice none 0 0, .int .i64 (askW m [j])]) ∧ Ext w w' := by
  have hle := h.le
  have hmx := h.mx
  have HA := Lib.hid (ref42_ask a cap m j w h)
  obtain ⟨E, hEE⟩ : ∃ E, askW m [j] = E := ⟨_, rfl⟩
  rw [hEE] at HA hE ⊢
  have t1 : (E != 0) = true := by simpa using hE
  clear h hEE
  go_enter Tryz.func10, Tryz.ntmps10
  go_wp2_with fail
  with_reducible refine (HA.out).mono ?_
  rintro e x1 ⟨rfl, hy⟩
  clear HA
  go_wp2_with fail
  refine bodyPost_ret (v := .tuple #[.slice none 0 0, .int .i64 E]) (by simp [results, Tryz.results10, go_sem]) rfl ?_
  exact ⟨rfl, hy⟩
theorem sl_from {a : Option Addr} {cap n k : Nat} {l : List Int} {w : World} {z : Int} (h : Ints w a cap l) (hz : z = (k : Int)) (hn : l.length = n) (hk : k ≤ n) :
    ∃ ad c2, (∀ W : World, (Instr.slice 27 (.slice a n cap) (some (.int .i64 z)) none none).run Tryz.prog W = .ok (.slice ad (n - k) c2) W) ∧ Ints w ad c2 (l.drop k) ∧ n - k ≤ c2 ∧ c2 ≤ 9223372036854775807 := by
  subst hz hn
  have hle := h.le
  have hmx := h.mx
  refine ⟨if cap = k then a else a.map (·.add (k * 1)), cap - k, fun W => ?_, h.sliced hk, by omega, by omega⟩
  have hu22 : Tryz.prog.underlying 27 = some (.slice (Tryz.prog.elem 27)) := by kernel_rfl
  have h2 : (0 : Int) ≤ (k : Int) := by omega
  have h3 : (k : Int) ≤ (l.length : Int) := by omega
  rw [run_slice_l (ht := hu22) (h0 := h2) (h1 := h3)]
  simp [go_sem]
theorem sl_to {a : Option Addr} {cap n k : Nat} {l : List Int} {w : World} {z : Int} (h : Ints w a cap l) (hz : z = (k : Int)) (hn : l.length = n) (hk : k ≤ n) :
    ∃ ad c2, (∀ W : World, (Instr.slice 27 (.slice a n cap) none (some (.int .i64 z)) none).run Tryz.prog W = .ok (.slice ad k c2) W) ∧ Ints w ad c2 (l.take k) ∧ k ≤ c2 ∧ c2 ≤ 9223372036854775807 := by
  subst hz hn
  have hle := h.le
  have hmx := h.mx
  refine ⟨if cap = 0 then a else a.map (·.add (0 * 1)), cap, fun W => ?_, ?_, by omega, hmx⟩
  · have hu22 : Tryz.prog.underlying 27 = some (.slice (Tryz.prog.elem 27)) := by kernel_rfl
    have h2 : (0 : Int) ≤ (k : Int) := by omega
    have h3 : (k : Int) ≤ (cap : Int) := by omega
    rw [run_slice_h (ht := hu22) (h0 := h2) (h2 := h3)]
    simp [go_sem]
  · have hs := h.sliced (k := 0) (by omega)
    rw [Nat.sub_zero, List.drop_zero] at hs
    exact hs.preW hk
def SetsP (z : Nat) (w : World) (e : Ending) (w' : World) : Prop := e = .returned (.int .i64 (z : Int)) ∧ Ext w w'
set_option maxHeartbeats 4000000 in
theorem ref42_sets : ∀ (N : Nat) (a : Option Addr) (cap : Nat) (l : List Int) (k : Nat) (s : Int) (w : World), Ints w a cap l → l.length = N → N ≤ 20 → k ≤ 20 → (∀ x ∈ l, -16000 ≤ x ∧ x ≤ 16000) → (-1000000 - 16000 * (20 - (N : Int)) ≤ s ∧ s ≤ 1000000 + 16000 * (20 - (N : Int))) →
    Calls Tryz.prog 34 #[.slice a N cap, .int .i64 (k : Int), .int .i64 s] w (SetsP (setsW l k s) w) := by
  intro N
  induction N with
  | zero =>
    intro a cap l k s w h hl _ hk20 _ _
    have hle := h.le
    have hmx := h.mx
    obtain rfl : l = [] := List.length_eq_zero_iff.1 hl
    clear h hl
    cases k with
    | zero =>
      by_cases hs : s ≤ 0
      · have t1 : decide (s ≤ 0) = true := decide_eq_true hs
        go_enter Tryz.func34, Tryz.ntmps34
        go_wp2_with fail
        go_ret
        exact ⟨ret_iW (by unfold setsW; rw [if_pos hs]; rfl), Ext.refl _⟩
      · have t1 : decide (s ≤ 0) = false := decide_eq_false hs
        go_enter Tryz.func34, Tryz.ntmps34
        go_wp2_with fail
        go_ret
        exact ⟨ret_iW (by unfold setsW; rw [if_neg (by omega)]; rfl), Ext.refl _⟩
    | succ k =>
      have t1 : (((k + 1 : Nat) : Int) == 0) = false := beq_false_of_ne (by omega)
      have t2 : decide ((0 : Int) < ((k + 1 : Nat) : Int)) = true := decide_eq_true (by omega)
      obtain ⟨K, hK⟩ : ∃ K : Int, ((k + 1 : Nat) : Int) = K := ⟨_, rfl⟩
      have hK0 : 0 < K := by omega
      rw [hK] at t1 t2 ⊢
      clear hK
      go_enter Tryz.func34, Tryz.ntmps34
      go_wp2_with fail
      go_ret
      exact ⟨rfl, Ext.refl _⟩
  | succ N ih =>
    intro a cap l k s w h hl hN hk20 hb hsb
    have hle := h.le
    have hmx := h.mx
    obtain ⟨x, l, rfl⟩ : ∃ x l', l = x :: l' := by cases l with | nil => simp at hl | cons x l => exact ⟨x, l, rfl⟩
    rw [hl] at hle
    have hll : l.length = N := by simpa using hl
    cases k with
    | zero =>
      clear ih h
      by_cases hs : s ≤ 0
      · have t1 : decide (s ≤ 0) = true := decide_eq_true hs
        go_enter Tryz.func34, Tryz.ntmps34
        go_wp2_with fail
        go_ret
        exact ⟨ret_iW (by unfold setsW; rw [if_pos hs]; rfl), Ext.refl _⟩
      · have t1 : decide (s ≤ 0) = false := decide_eq_false hs
        go_enter Tryz.func34, Tryz.ntmps34
        go_wp2_with fail
        go_ret
        exact ⟨ret_iW (by unfold setsW; rw [if_neg (by omega)]; rfl), Ext.refl _⟩
    | succ k =>
      obtain ⟨K, hK⟩ : ∃ K : Int, ((k + 1 : Nat) : Int) = K := ⟨_, rfl⟩
      obtain ⟨M, hM⟩ : ∃ M : Nat, N + 1 = M := ⟨_, rfl⟩
      have t1 : (K == 0) = false := beq_false_of_ne (by omega)
      by_cases hlk : N + 1 < k + 1
      · have t2 : decide ((M : Int) < K) = true := decide_eq_true (by omega)
        have hz : setsW (x :: l) (k + 1) s = 0 := setsW_few _ _ _ (by rw [hl]; exact hlk)
        rw [hz, hK, hM]
        rw [hM] at hle
        have hK0 : 0 < K := by omega
        clear ih h hb hz hK hM hl hll
        go_enter Tryz.func34, Tryz.ntmps34
        go_wp2_with fail
        go_ret
        exact ⟨rfl, Ext.refl _⟩
      · have t2 : decide ((M : Int) < K) = false := decide_eq_false (by omega)
        obtain ⟨b, o, rfl⟩ := h.head (i := 0) (by rw [hl]; omega)
        obtain ⟨y, hy, hcy, _⟩ := Ints.get h (i := 0) (by rw [hl]; omega)
        cases hy
        simp only [Nat.add_zero] at hcy
        obtain ⟨x1, x2⟩ := hb x (by simp)
        obtain ⟨ad, c2, hsl, hI2, hc2, hc3⟩ := sl_from (z := 1) (k := 1) h rfl hl (by omega)
        rw [Nat.add_sub_cancel, hM] at hsl
        rw [show (x :: l).drop 1 = l from rfl] at hI2
        rw [Nat.add_sub_cancel] at hc2
        rw [hM] at hle
        have b1 := setsW_bin l k (s - x)
        have b2 := setsW_bin l (k + 1) s
        have b3 := bin_le20 (n := l.length) (by omega) (k := k)
        have b4 := bin_le20 (n := l.length) (by omega) (k := k + 1)
        have c1 := Lib.hid (fun W : Later w => later_call (W := W) (ih ad c2 l k (s - x) W.1 (hI2.ext W.2) hll (by omega) (by omega) (fun z hz => hb z (by simp [hz])) (by omega)))
        have c2' := Lib.hid (fun W : Later w => later_call (W := W) (ih ad c2 l (k + 1) s W.1 (hI2.ext W.2) hll (by omega) (by omega) (fun z hz => hb z (by simp [hz])) (by omega)))
        have hw1 : K - 1 = (k : Int) := by omega
        rw [← hw1] at c1
        rw [hK] at c2'
        have L1 := later_cell hcy
        have HZ : Hid (setsW (x :: l) (k + 1) s = setsW l k (s - x) + setsW l (k + 1) s) := Lib.hid rfl
        rw [HZ.out, hK, hM]
        generalize setsW l k (s - x) = A at *
        generalize setsW l (k + 1) s = B at *
        have HKM := Lib.hid (And.intro hK hM)
        have a1 : A ≤ 1048576 := Nat.le_trans b1 b3
        have a2 : B ≤ 1048576 := Nat.le_trans b2 b4
        clear b3 b4
        have k1 : 1 ≤ K := by omega
        have k2 : K ≤ 20 := by omega
        have m1 : (1 : Int) ≤ (M : Int) := by omega
        have m0 : (0 : Int) < (M : Int) := by omega
        have s1 : s ≤ 2000000 := by omega
        have s2 : -2000000 ≤ s := by omega
        clear ih h hb hK hM hl hll hI2 hcy b1 b2 hlk hsb HZ hw1
        go_enter Tryz.func34, Tryz.ntmps34
        go_upto_region 7 with fail
        refine wp_region_later (by kernel_rfl) (by kernel_rfl) ?_; repeat (go_big_quiet_step ((go_at_call 34; first | with_reducible exact c1.out _ | with_reducible exact c2'.out _)))
        refine wpQuiet_nil ?_; rintro _ ⟨⟨W1, HW1⟩, rfl⟩; (try dsimp only)
        go_wp2_with fail
        go_ret
        exact ⟨ret_iW (by omega), HW1⟩
end Go.Proofs.YtmcbbhlglccmgaaGreat

namespace Go.Proofs.YtmcbbhlglccmgaaGreat
open Go.RowKit Go BigFrame Go.Shelf
set_option maxRecDepth 100000
set_option linter.unusedSimpArgs false
set_option linter.unusedVariables false
attribute [local go_sem ↓] Go.wp_at_zero Go.wp_at_succ

/-! Layer 42: the reference (without, orders, matches, factorial). -/
theorem eraseIdx_eqW (l : List Int) (k : Nat) : l.eraseIdx k = l.take k ++ l.drop (k + 1) := List.eraseIdx_eq_take_drop_succ ..
theorem pickS_le {g : Int → List Int → Nat} {b : List Int} {F : Nat} (h : ∀ d, d < b.length → g (b.getD d 0) (b.eraseIdx d) ≤ F) : ∀ k, k ≤ b.length → pickS g b k ≤ k * F
  | 0, _ => by simp [pickS]
  | k + 1, hk => by
    have h1 := pickS_le h k (by omega)
    have h2 := h k (by omega)
    rw [Nat.succ_mul]
    show pickS g b k + _ ≤ _
    omega
def up (i : Int) : Nat → List Int
  | 0 => []
  | n + 1 => i :: up (i + 1) n
theorem up_len : ∀ (n : Nat) (i : Int), (up i n).length = n
  | 0, _ => rfl
  | n + 1, i => by simp [up, up_len n]
theorem up_iota (n : Nat) : up 0 n = iota n := by
  have : ∀ (n : Nat) (i : Nat), up (i : Int) n = (List.range n).map fun q : Nat => ((i + q : Nat) : Int) := by
    intro n
    induction n with
    | zero => intro i; rfl
    | succ n ih =>
      intro i
      rw [List.range_succ_eq_map, List.map_cons, List.map_map]
      show (i : Int) :: up ((i : Int) + 1) n = _
      rw [show (i : Int) + 1 = ((i + 1 : Nat) : Int) by omega, ih (i + 1)]
      simp only [Nat.add_zero]
      congr 1
      refine List.map_congr_left fun q _ => ?_
      simp only [Function.comp_apply]
      omega
  have h := this n 0
  simp only [Nat.zero_add] at h
  exact h
def WithoutP (l : List Int) (k : Nat) (w : World) (e : Ending) (w' : World) : Prop := ∃ v, e = .returned v ∧ OwnI w' (Array.size (World.heap w)) v (l.eraseIdx k) ∧ Ext w w'
set_option maxHeartbeats 8000000 in
theorem ref42_without (a : Option Addr) (cap : Nat) (l : List Int) (n k : Nat) (w : World) (h : Ints w a cap l) (hl : l.length = n) (hk : k < n) (hn : n ≤ 1000) :
    Calls Tryz.prog 86 #[.slice a n cap, .int .i64 (k : Int)] w (WithoutP l k w) := by
  have hle := h.le
  have hmx := h.mx
  rw [hl] at hle
  obtain ⟨a1, c1, hs1, hI1, p1, p2⟩ := sl_to (z := (k : Int)) h rfl hl (by omega)
  obtain ⟨a2, c2, hs2, hI2, p3, p4⟩ := sl_from (z := (k : Int) + 1) (k := k + 1) h (by omega) hl (by omega)
  obtain ⟨N2, hN2⟩ : ∃ N2, N2 = n - (k + 1) := ⟨_, rfl⟩
  rw [← hN2] at hs2 p3
  have H1 := Lib.hid hI1
  have H2 := Lib.hid hI2
  have hl1 : (l.take k).length = k := by rw [List.length_take]; omega
  have hl2 : (l.drop (k + 1)).length = N2 := by rw [List.length_drop]; omega
  have HL1 := Lib.hid hl1
  have HL2 := Lib.hid hl2
  have hk0 : (0 : Int) ≤ (k : Int) := by omega
  have hkn : (k : Int) < (n : Int) := by omega
  have hk1 : IntKind.i64.wrap ((k : Int) + 1) = (k : Int) + 1 := IntWalk.i64_in _ (by omega)
  have hE : Ext w (World.drew w) := (Ext.refl w).drew
  have hnN : N2 ≤ 1000 := by omega
  clear h hl hI1 hI2 hl1 hl2 hN2
  go_enter Tryz.func86, Tryz.ntmps86
  go_upto_region 1 with fail
  refine wp_region_held_drew (S := (fun _ => True)) (by kernel_rfl) ?_ (fun hHeld => ?_)
  · trivial
  (try simp only [← List.toArray_replicate, List.size_toArray, List.length_cons, List.length_nil, Nat.reduceAdd, List.replicate_succ, List.replicate_zero])
  generalize World.drew w = y0 at *
  refine wpAnyH_take (i := 1) (oi := _) (v := ?_) rfl (by kernel_rfl) (by kernel_rfl) (by kernel_rfl) (fun _ _ _ h => h) (Or.inl ⟨by rfl, ?_⟩) (by assumption) ?_
  rotate_left
  · (intro w hSw; (try dsimp only at hSw); (try go_simp); (try with_reducible rfl))
  (try simp only [Act.put, List.getElem_toArray, List.getElem_cons_succ, List.getElem_cons_zero, List.setIfInBounds_toArray, List.set_cons_zero, List.set_cons_succ])
  refine wpAnyH_take (i := 2) (oi := _) (v := ?_) rfl (by kernel_rfl) (by kernel_rfl) (by kernel_rfl) (fun _ _ _ h => h) (Or.inl ⟨by rfl, ?_⟩) (by assumption) ?_
  rotate_left
  · (intro w hSw; (try dsimp only at hSw); (try go_simp); (try with_reducible rfl))
  (try simp only [Act.put, List.getElem_toArray, List.getElem_cons_succ, List.getElem_cons_zero, List.setIfInBounds_toArray, List.set_cons_zero, List.set_cons_succ])
  refine wpAnyH_take (i := 3) (oi := _) (v := ?_) rfl (by kernel_rfl) (by kernel_rfl) (by kernel_rfl) (fun _ _ _ h => h) (Or.inl ⟨by rfl, ?_⟩) (by assumption) ?_
  rotate_left
  · (intro w hSw; (try dsimp only at hSw); (try go_simp); (try with_reducible rfl))
  (try simp only [Act.put, List.getElem_toArray, List.getElem_cons_succ, List.getElem_cons_zero, List.setIfInBounds_toArray, List.set_cons_zero, List.set_cons_succ])
  refine wpAnyH_take (i := 5) (oi := _) (v := ?_) rfl (by kernel_rfl) (by kernel_rfl) (by kernel_rfl) (fun _ _ _ h => h) (Or.inl ⟨by rfl, ?_⟩) (by assumption) ?_
  rotate_left
  · (intro w hSw; (try dsimp only at hSw); (try go_simp); (try with_reducible rfl))
  (try simp only [Act.put, List.getElem_toArray, List.getElem_cons_succ, List.getElem_cons_zero, List.setIfInBounds_toArray, List.set_cons_zero, List.set_cons_succ])
  refine wpAnyH_take (i := 6) (oi := _) (v := ?_) rfl (by kernel_rfl) (by kernel_rfl) (by kernel_rfl) (fun _ _ _ h => h) (Or.inl ⟨by rfl, ?_⟩) (by assumption) ?_
  rotate_left
  · (intro w hSw; (try dsimp only at hSw); (try go_simp); (try with_reducible rfl))
  (try simp only [Act.put, List.getElem_toArray, List.getElem_cons_succ, List.getElem_cons_zero, List.setIfInBounds_toArray, List.set_cons_zero, List.set_cons_succ])
  refine wpAnyH_take (i := 7) (oi := _) (v := ?_) rfl (by kernel_rfl) (by kernel_rfl) (by kernel_rfl) (fun _ _ _ h => h) (Or.inl ⟨by rfl, ?_⟩) (by assumption) ?_
  rotate_left
  · (intro w hSw; (try dsimp only at hSw); (try go_simp); (try with_reducible rfl))
  (try simp only [Act.put, List.getElem_toArray, List.getElem_cons_succ, List.getElem_cons_zero, List.setIfInBounds_toArray, List.set_cons_zero, List.set_cons_succ])
  refine wpAnyH_take (i := 8) (oi := _) (v := ?_) rfl (by kernel_rfl) (by kernel_rfl) (by kernel_rfl) (fun _ _ _ h => h) (Or.inl ⟨by rfl, ?_⟩) (by assumption) ?_
  rotate_left
  · (intro w hSw; (try dsimp only at hSw); (try go_simp); (try with_reducible rfl))
  (try simp only [Act.put, List.getElem_toArray, List.getElem_cons_succ, List.getElem_cons_zero, List.setIfInBounds_toArray, List.set_cons_zero, List.set_cons_succ])
  refine wpAnyH_ready (rs := [0]) (by kernel_rfl) (by simp) ?_
  refine AllReadyH.cons (o := _) rfl (fun K hK => ?_) ?_
  · go_simp
    obtain ⟨hO, hE2⟩ := own_newW hE; replace hE := hE2; clear hE2; generalize World.alloc y0 (.cells #[] 3) = y1 at *; generalize Array.size (World.heap y0) = g0 at *; generalize Value.slice (some ⟨g0, 0, none⟩) 0 0 = v0 at *
    refine hK.out _ _ ?_ (fun hHeld2 => ?_)
    · trivial
    clear hK K hHeld
    have hHeld := hHeld2
    clear hHeld2
    (try simp only [Act.put, List.getElem_toArray, List.getElem_cons_succ, List.getElem_cons_zero, List.setIfInBounds_toArray, List.set_cons_zero, List.set_cons_succ])
    refine wpAnyH_ready (rs := [4]) (by kernel_rfl) (by simp) ?_
    refine AllReadyH.cons (o := _) rfl (fun K hK => ?_) ?_
    · refine step_append_any (by rfl) (.tmp 5) (.tmp 8) (by rfl) hE (by rfl) hO (ad := a1) (c := c1) (n := k) (l := l.take k) (by rfl) HL1.out (H1.out.ext hE) (by have h1 := HL1.out; simp only [List.length_nil]; omega) ?_; intro v1 y4 hO1 hE1 hF; have hE := hE1; have hO := hO1
      refine hK.out _ _ ?_ (fun hHeld2 => ?_)
      · trivial
      clear hK K hHeld
      have hHeld := hHeld2
      clear hHeld2
      (try simp only [Act.put, List.getElem_toArray, List.getElem_cons_succ, List.getElem_cons_zero, List.setIfInBounds_toArray, List.set_cons_zero, List.set_cons_succ])
      refine wpAnyH_ready (rs := [9]) (by kernel_rfl) (by simp) ?_
      refine AllReadyH.cons (o := _) rfl (fun K hK => ?_) ?_
      · refine step_append_any (by rfl) (.tmp 9) (.tmp 13) (by rfl) hE (by rfl) hO (ad := a2) (c := c2) (n := N2) (l := l.drop (k + 1)) (by rfl) HL2.out (H2.out.ext hE) (by have h1 := HL1.out; have h2 := HL2.out; simp only [List.length_append, List.length_nil]; omega) ?_; intro v3 y9 hO3 hE3 hF3; obtain ⟨a3, n3, cp3, e3⟩ : ∃ a n c, v3 = .slice a n c := (by obtain ⟨g, c, e, _⟩ := hO3.form; exact ⟨_, _, _, e⟩); subst e3; have HO3 := Lib.hid hO3; have HE3 := Lib.hid hE3
        refine hK.out _ _ ?_ (fun hHeld2 => ?_)
        · trivial
        clear hK K hHeld
        have hHeld := hHeld2
        clear hHeld2
        (try simp only [Act.put, List.getElem_toArray, List.getElem_cons_succ, List.getElem_cons_zero, List.setIfInBounds_toArray, List.set_cons_zero, List.set_cons_succ])
        refine wpAnyH_take (i := 10) (oi := _) (v := ?_) rfl (by kernel_rfl) (by kernel_rfl) (by kernel_rfl) (fun _ _ _ h => h) (Or.inl ⟨by rfl, ?_⟩) (by assumption) ?_
        rotate_left
        · (intro w hSw; (try dsimp only at hSw); (try go_simp); (try with_reducible rfl))
        (try simp only [Act.put, List.getElem_toArray, List.getElem_cons_succ, List.getElem_cons_zero, List.setIfInBounds_toArray, List.set_cons_zero, List.set_cons_succ])
        refine wpAnyH_done (by kernel_rfl) ?_ _
        go_wp2_with fail
        go_ret
        exact ⟨_, rfl, by have h := HO3.out; rw [List.nil_append] at h; rw [eraseIdx_eqW]; exact h, HE3.out⟩
      exact AllReadyH.nil
    exact AllReadyH.nil
  exact AllReadyH.nil
def CntP (z : Nat) (w : World) (e : Ending) (w' : World) : Prop := e = .returned (.int .i64 (z : Int)) ∧ Ext w w'
set_option maxHeartbeats 8000000 in
theorem ref42_orders : ∀ (N : Nat) (a : Option Addr) (cap : Nat) (l : List Int) (i : Nat) (s : Int) (w : World), Ints w a cap l → l.length = N → N + i ≤ 8 → (∀ x ∈ l, -16000 ≤ x ∧ x ≤ 16000) → (-10000000 - 200000 * (8 - (N : Int)) ≤ s ∧ s ≤ 10000000 + 200000 * (8 - (N : Int))) →
    Calls Tryz.prog 46 #[.slice a N cap, .int .i64 (i : Int), .int .i64 s] w (CntP (W mulP (up i N) l s) w) := by
  intro N
  induction N with
  | zero =>
    intro a cap l i s w h hl _ _ _
    have hle := h.le
    have hmx := h.mx
    obtain rfl : l = [] := List.length_eq_zero_iff.1 hl
    clear h hl
    by_cases hs : s ≤ 0
    · have t1 : decide (s ≤ 0) = true := decide_eq_true hs
      go_enter Tryz.func46, Tryz.ntmps46
      go_wp2_with fail
      go_ret
      exact ⟨ret_iW (by unfold up W; rw [if_pos hs]; rfl), Ext.refl _⟩
    · have t1 : decide (s ≤ 0) = false := decide_eq_false hs
      go_enter Tryz.func46, Tryz.ntmps46
      go_wp2_with fail
      go_ret
      exact ⟨ret_iW (by unfold up W; rw [if_neg (by omega)]; rfl), Ext.refl _⟩
  | succ N ih =>
    intro a cap l i s w h hl hN hb hsb
    have hle := h.le
    have hmx := h.mx
    rw [hl] at hle
    obtain ⟨b, o, rfl⟩ := h.head (i := 0) (by omega)
    have HB := Lib.hid hb
    have HL := Lib.hid hl
    have HI := Lib.hid h
    have HIH := Lib.hid ih
    have HSB := Lib.hid hsb
    have HNI := Lib.hid hN
    obtain ⟨g, hg⟩ : ∃ g : Int → List Int → Nat, g = fun v c => W mulP (up ((i + 1 : Nat) : Int) N) c (s - (i : Int) * v) := ⟨_, rfl⟩
    have HG := Lib.hid hg
    have hgF : ∀ d, d < l.length → g (l.getD d 0) (l.eraseIdx d) ≤ fact N := fun d hd => by
      rw [hg]
      have := W_le mulP (up ((i + 1 : Nat) : Int) N) (l.eraseIdx d) (s - (i : Int) * l.getD d 0) (by rw [up_len, List.length_eraseIdx_of_lt hd]; omega)
      rwa [up_len] at this
    have HGF := Lib.hid (fun k (hk : k ≤ N + 1) => (by
      have h1 := pickS_le hgF k (by omega)
      have h2 := fact_le (n := N) (by omega)
      have h3 : k * fact N ≤ 9 * 40320 := Nat.mul_le_mul (by omega) h2
      omega : pickS g l k ≤ 362880))
    have HZ : Hid (W mulP (up (i : Int) (N + 1)) l s = pickS g l (N + 1)) := Lib.hid (by
      rw [hg]
      show pickS _ l l.length = _
      rw [hl]
      rfl)
    rw [HZ.out]
    obtain ⟨M, hM⟩ : ∃ M : Nat, N + 1 = M := ⟨_, rfl⟩
    have HM := Lib.hid hM
    have hM0 : ((M : Int) == 0) = false := beq_false_of_ne (by omega)
    have hM1 : ¬ (M : Int) = 0 := by omega
    rw [hM] at hle ⊢
    have i0 : (0 : Int) ≤ (i : Int) := by omega
    have i8 : (i : Int) ≤ 8 := by omega
    have hs1 : -20000000 ≤ s := by omega
    have hs2 : s ≤ 20000000 := by omega
    clear h hl hN hb hsb ih hg hgF HZ hM
    go_enter Tryz.func46, Tryz.ntmps46
    go_wp2_with fail
    go_loopw [7, 8] (fun z k wr => ∃ q : Nat, q ≤ M ∧ k = .int .i64 q ∧ z = .int .i64 (pickS g l q : Nat) ∧ Ext w wr) (fun _ k _ => M - (intOf k).toNat)
    case atStart => exact ⟨0, Nat.zero_le _, rfl, rfl, Ext.refl _⟩
    case round =>
      obtain ⟨q, hq, rfl, rfl, hxr⟩ := hrel
      have HXR := Lib.hid hxr
      have q1 : (0 : Int) ≤ (q : Int) := by omega
      have hps := HGF.out q (by have := HM.out; omega)
      obtain ⟨P, hP⟩ : ∃ P, pickS g l q = P := ⟨_, rfl⟩
      have HP := Lib.hid hP
      rw [hP] at hps ⊢
      clear hP
      by_cases hqn : q < M
      · obtain ⟨x, hx, hcx0, _⟩ := Ints.get HI.out (i := q) (by rw [HL.out]; have := HM.out; omega)
        obtain ⟨x1, x2⟩ := HB.out x (List.mem_of_getElem? hx)
        have hxd : l.getD q 0 = x := by rw [List.getD_eq_getElem?_getD, hx]; rfl
        have s0 := cell_exQ hxr hcx0
        have hE : Ext wr (World.drew wr) := (Ext.refl wr).drew
        have q2 : (q : Int) < (M : Int) := by omega
        have m1 : 0 ≤ (i : Int) * 16000 ∧ (i : Int) * 16000 ≤ 128000 := by omega
        have m2 : (i : Int) * x ≤ (i : Int) * 16000 := Int.mul_le_mul_of_nonneg_left x2 i0
        have m3 : (i : Int) * (-16000) ≤ (i : Int) * x := Int.mul_le_mul_of_nonneg_left x1 i0
        have m4 : -128000 ≤ (i : Int) * x := by omega
        have m5 : (i : Int) * x ≤ 128000 := by omega
        have HWO := Lib.hid (fun W (hW : Ext wr W) => ref42_without (some ⟨b, o, none⟩) cap l M q W ((HI.out.ext HXR.out).ext hW) (by rw [HL.out]; exact HM.out) hqn (by have := HM.out; have := HNI.out; omega))
        have hp1 : pickS g l (q + 1) = P + g x (l.eraseIdx q) := by rw [← HP.out, ← hxd]; rfl
        have hel : (l.eraseIdx q).length = N := by rw [List.length_eraseIdx_of_lt (by rw [HL.out]; have := HM.out; omega), HL.out]; rfl
        have heb : ∀ x ∈ l.eraseIdx q, -16000 ≤ x ∧ x ≤ 16000 := fun y hy => HB.out y (List.mem_of_mem_eraseIdx hy)
        obtain ⟨Z, hZ⟩ : ∃ Z, g x (l.eraseIdx q) = Z := ⟨_, rfl⟩
        have hcall : ∀ (a2 : Option Addr) (c2 : Nat) (W : World), Ints W a2 c2 (l.eraseIdx q) → Calls Tryz.prog 46 #[.slice a2 N c2, .int .i64 ((i : Int) + 1), .int .i64 (s - (i : Int) * x)] W (CntP Z W) := fun a2 c2 W hW => by
          have hh := HIH.out a2 c2 (l.eraseIdx q) (i + 1) (s - (i : Int) * x) W hW hel (by have := HNI.out; omega) heb (by have := HSB.out; have := HNI.out; omega)
          rw [← hZ, HG.out]
          exact hh
        have HCALL := Lib.hid hcall
        have HP1 : Hid (pickS g l (q + 1) = P + Z) := Lib.hid (by rw [hp1, hZ])
        have hzb := HGF.out (q + 1) (by have := HM.out; omega)
        rw [HP1.out] at hzb
        have HEL := Lib.hid hel
        have HEB := Lib.hid heb
        have w1 : IntKind.i64.wrap ((i : Int) + 1) = (i : Int) + 1 := IntWalk.i64_in _ (by omega)
        have w2 : IntKind.i64.wrap ((i : Int) * x) = (i : Int) * x := IntWalk.i64_in _ (by omega)
        have w3 : IntKind.i64.wrap (s - (i : Int) * x) = s - (i : Int) * x := IntWalk.i64_in _ (by omega)
        clear hx hcx0 hxd hxr hp1 hel heb hcall hZ m1 m2 m3
        go_upto_region 9 with fail
        replace s0 : World.cell? (World.drew wr) ⟨b, o + q, none⟩ = some (.int .i64 x) := s0
        refine wp_region_held_drew (S := (fun w' => World.cell? w' ⟨b, o + q, none⟩ = some (.int .i64 x))) (by kernel_rfl) ?_ (fun hHeld => ?_)
        · exact s0
        (try simp only [← List.toArray_replicate, List.size_toArray, List.length_cons, List.length_nil, Nat.reduceAdd, List.replicate_succ, List.replicate_zero])
        generalize World.drew wr = y0 at *
        refine wpAnyH_take (i := 0) (oi := _) (v := ?_) rfl (by kernel_rfl) (by kernel_rfl) (by kernel_rfl) (fun _ _ _ h => h) (Or.inl ⟨by rfl, ?_⟩) (by assumption) ?_
        rotate_left
        · (intro w hSw; (try dsimp only at hSw); (try go_simp); (try with_reducible rfl))
        (try simp only [Act.put, List.getElem_toArray, List.getElem_cons_succ, List.getElem_cons_zero, List.setIfInBounds_toArray, List.set_cons_zero, List.set_cons_succ])
        refine wpAnyH_take (i := 1) (oi := _) (v := ?_) rfl (by kernel_rfl) (by kernel_rfl) (by kernel_rfl) (fun _ _ _ h => h) (Or.inl ⟨by rfl, ?_⟩) (by assumption) ?_
        rotate_left
        · (intro w hSw; (try dsimp only at hSw); (try go_simp); (try with_reducible rfl))
        (try simp only [Act.put, List.getElem_toArray, List.getElem_cons_succ, List.getElem_cons_zero, List.setIfInBounds_toArray, List.set_cons_zero, List.set_cons_succ])
        refine wpAnyH_take (i := 2) (oi := _) (v := ?_) rfl (by kernel_rfl) (by kernel_rfl) (by kernel_rfl) (fun _ _ _ h => h) (Or.inl ⟨by rfl, ?_⟩) (by assumption) ?_
        rotate_left
        · (intro w hSw; (try dsimp only at hSw); (try go_simp); (try with_reducible rfl))
        (try simp only [Act.put, List.getElem_toArray, List.getElem_cons_succ, List.getElem_cons_zero, List.setIfInBounds_toArray, List.set_cons_zero, List.set_cons_succ])
        refine wpAnyH_take (i := 4) (oi := _) (v := ?_) rfl (by kernel_rfl) (by kernel_rfl) (by kernel_rfl) (fun _ _ _ h => h) (Or.inl ⟨by rfl, ?_⟩) (by assumption) ?_
        rotate_left
        · (intro w hSw; (try dsimp only at hSw); (try go_simp); (try with_reducible rfl))
        (try simp only [Act.put, List.getElem_toArray, List.getElem_cons_succ, List.getElem_cons_zero, List.setIfInBounds_toArray, List.set_cons_zero, List.set_cons_succ])
        refine wpAnyH_take (i := 5) (oi := _) (v := ?_) rfl (by kernel_rfl) (by kernel_rfl) (by kernel_rfl) (fun _ _ _ h => h) (Or.inl ⟨by rfl, ?_⟩) (by assumption) ?_
        rotate_left
        · (intro w hSw; (try dsimp only at hSw); (try go_simp); (try with_reducible rfl))
        (try simp only [Act.put, List.getElem_toArray, List.getElem_cons_succ, List.getElem_cons_zero, List.setIfInBounds_toArray, List.set_cons_zero, List.set_cons_succ])
        refine wpAnyH_take (i := 6) (oi := _) (v := ?_) rfl (by kernel_rfl) (by kernel_rfl) (by kernel_rfl) (fun _ _ _ h => h) (Or.inl ⟨by rfl, ?_⟩) (by assumption) ?_
        rotate_left
        · (intro w hSw; (try dsimp only at hSw); (try go_simp); (try with_reducible rfl))
        (try simp only [Act.put, List.getElem_toArray, List.getElem_cons_succ, List.getElem_cons_zero, List.setIfInBounds_toArray, List.set_cons_zero, List.set_cons_succ])
        refine wpAnyH_take (i := 7) (oi := _) (v := ?_) rfl (by kernel_rfl) (by kernel_rfl) (by kernel_rfl) (fun _ _ _ h => h) (Or.inl ⟨by rfl, ?_⟩) (by assumption) ?_
        rotate_left
        · (intro w hSw; (try dsimp only at hSw); (try go_simp); (try with_reducible rfl))
        (try simp only [Act.put, List.getElem_toArray, List.getElem_cons_succ, List.getElem_cons_zero, List.setIfInBounds_toArray, List.set_cons_zero, List.set_cons_succ])
        refine wpAnyH_take (i := 8) (oi := _) (v := ?_) rfl (by kernel_rfl) (by kernel_rfl) (by kernel_rfl) (fun _ _ _ h => h) (Or.inl ⟨by rfl, ?_⟩) (by assumption) ?_
        rotate_left
        · (intro w hSw; (try dsimp only at hSw); (try go_simp); (try with_reducible rfl))
        (try simp only [Act.put, List.getElem_toArray, List.getElem_cons_succ, List.getElem_cons_zero, List.setIfInBounds_toArray, List.set_cons_zero, List.set_cons_succ])
        refine wpAnyH_take (i := 9) (oi := _) (v := ?_) rfl (by kernel_rfl) (by kernel_rfl) (by kernel_rfl) (fun _ _ _ h => h) (Or.inl ⟨by rfl, ?_⟩) (by assumption) ?_
        rotate_left
        · (intro w hSw; (try dsimp only at hSw); (try go_simp); (try with_reducible rfl))
        (try simp only [Act.put, List.getElem_toArray, List.getElem_cons_succ, List.getElem_cons_zero, List.setIfInBounds_toArray, List.set_cons_zero, List.set_cons_succ])
        refine wpAnyH_take (i := 10) (oi := _) (v := ?_) rfl (by kernel_rfl) (by kernel_rfl) (by kernel_rfl) (fun _ _ _ h => h) (Or.inl ⟨by rfl, ?_⟩) (by assumption) ?_
        rotate_left
        · (intro w hSw; (try dsimp only at hSw); (try go_simp); (try with_reducible rfl))
        (try simp only [Act.put, List.getElem_toArray, List.getElem_cons_succ, List.getElem_cons_zero, List.setIfInBounds_toArray, List.set_cons_zero, List.set_cons_succ])
        refine wpAnyH_take (i := 11) (oi := _) (v := ?_) rfl (by kernel_rfl) (by kernel_rfl) (by kernel_rfl) (fun _ _ _ h => h) (Or.inl ⟨by rfl, ?_⟩) (by assumption) ?_
        rotate_left
        · (intro w hSw; (try dsimp only at hSw); (try go_simp); (try with_reducible rfl))
        (try simp only [Act.put, List.getElem_toArray, List.getElem_cons_succ, List.getElem_cons_zero, List.setIfInBounds_toArray, List.set_cons_zero, List.set_cons_succ])
        refine wpAnyH_take (i := 12) (oi := _) (v := ?_) rfl (by kernel_rfl) (by kernel_rfl) (by kernel_rfl) (fun _ _ _ h => h) (Or.inl ⟨by rfl, ?_⟩) (by assumption) ?_
        rotate_left
        · (intro w hSw; (try dsimp only at hSw); (try go_simp); (try with_reducible rfl))
        (try simp only [Act.put, List.getElem_toArray, List.getElem_cons_succ, List.getElem_cons_zero, List.setIfInBounds_toArray, List.set_cons_zero, List.set_cons_succ])
        refine wpAnyH_take (i := 13) (oi := _) (v := ?_) rfl (by kernel_rfl) (by kernel_rfl) (by kernel_rfl) (fun _ _ _ h => h) (Or.inl ⟨by rfl, ?_⟩) (by assumption) ?_
        rotate_left
        · (intro w hSw; (try dsimp only at hSw); (try go_simp); (try with_reducible rfl))
        (try simp only [Act.put, List.getElem_toArray, List.getElem_cons_succ, List.getElem_cons_zero, List.setIfInBounds_toArray, List.set_cons_zero, List.set_cons_succ])
        refine wpAnyH_ready (rs := [3]) (by kernel_rfl) (by simp) ?_
        refine AllReadyH.cons (o := _) rfl (fun K hK => ?_) ?_
        · go_simp
          (with_reducible refine (HWO.out _ hE).mono ?_); rintro e y1 ⟨v, rfl, hv, hy⟩; obtain ⟨av, cv, rfl, hIv, -⟩ := hv.look (fun x hx => by have := HEB.out x hx; omega); rw [HEL.out]; have vle := hIv.le; have vmx := hIv.mx; rw [HEL.out] at vle; replace s0 := cell_exQ hy s0; replace hE := hE.trans hy; clear hv hy
          refine hK.out _ _ ?_ (fun hHeld2 => ?_)
          · exact s0
          clear hK K hHeld
          have hHeld := hHeld2
          clear hHeld2
          (try simp only [Act.put, List.getElem_toArray, List.getElem_cons_succ, List.getElem_cons_zero, List.setIfInBounds_toArray, List.set_cons_zero, List.set_cons_succ])
          refine wpAnyH_ready (rs := [14]) (by kernel_rfl) (by simp) ?_
          refine AllReadyH.cons (o := _) rfl (fun K hK => ?_) ?_
          · go_simp
            (try simp only [w1, w2, w3]); (with_reducible refine (HCALL.out _ _ _ hIv).mono ?_); rintro e y2 ⟨rfl, hy⟩; replace s0 := cell_exQ hy s0; replace hE := hE.trans hy; clear hy; clear hIv
            refine hK.out _ _ ?_ (fun hHeld2 => ?_)
            · exact s0
            clear hK K hHeld
            have hHeld := hHeld2
            clear hHeld2
            (try simp only [Act.put, List.getElem_toArray, List.getElem_cons_succ, List.getElem_cons_zero, List.setIfInBounds_toArray, List.set_cons_zero, List.set_cons_succ])
            refine wpAnyH_take (i := 15) (oi := _) (v := ?_) rfl (by kernel_rfl) (by kernel_rfl) (by kernel_rfl) (fun _ _ _ h => h) (Or.inl ⟨by rfl, ?_⟩) (by assumption) ?_
            rotate_left
            · (intro w hSw; (try dsimp only at hSw); (try go_simp); (try with_reducible rfl))
            (try simp only [Act.put, List.getElem_toArray, List.getElem_cons_succ, List.getElem_cons_zero, List.setIfInBounds_toArray, List.set_cons_zero, List.set_cons_succ])
            refine wpAnyH_take (i := 16) (oi := _) (v := ?_) rfl (by kernel_rfl) (by kernel_rfl) (by kernel_rfl) (fun _ _ _ h => h) (Or.inl ⟨by rfl, ?_⟩) (by assumption) ?_
            rotate_left
            · (intro w hSw; (try dsimp only at hSw); (try go_simp); (try with_reducible rfl))
            (try simp only [Act.put, List.getElem_toArray, List.getElem_cons_succ, List.getElem_cons_zero, List.setIfInBounds_toArray, List.set_cons_zero, List.set_cons_succ])
            refine wpAnyH_done (by kernel_rfl) ?_ _
            have HE3 := Lib.hid (HXR.out.trans hE)
            clear hE s0
            go_wp2_with fail
            go_roundw
            case rel => exact ⟨q + 1, by omega, by go_num, by rw [HP1.out, IntWalk.i64_in _ (by omega)]; rfl, HE3.out⟩
            case measure => simp [intOf]; omega
          exact AllReadyH.nil
        exact AllReadyH.nil
      · obtain rfl : q = M := by omega
        have q2 : ¬ (q : Int) < (q : Int) := by omega
        go_wp2_with fail
        go_ret
        exact ⟨by rw [HP.out]; rfl, HXR.out⟩
set_option maxHeartbeats 8000000 in
theorem ref42_matches : ∀ (N : Nat) (a a2 : Option Addr) (cap cap2 : Nat) (x0 l : List Int) (s : Int) (w : World), Ints w a cap x0 → Ints w a2 cap2 l → x0.length = N → l.length = N → N ≤ 8 → (-10 - (8 - (N : Int)) ≤ s ∧ s ≤ 10 + (8 - (N : Int))) →
    Calls Tryz.prog 42 #[.slice a N cap, .slice a2 N cap2, .int .i64 s] w (CntP (W eqP x0 l s) w) := by
  intro N
  induction N with
  | zero =>
    intro a a2 cap cap2 x0 l s w h h2 hl hl2 _ _
    have hle := h.le
    have hmx := h.mx
    have hle2 := h2.le
    have hmx2 := h2.mx
    obtain rfl : l = [] := List.length_eq_zero_iff.1 hl2
    obtain rfl : x0 = [] := List.length_eq_zero_iff.1 hl
    clear h hl h2 hl2
    by_cases hs : s ≤ 0
    · have t1 : decide (s ≤ 0) = true := decide_eq_true hs
      go_enter Tryz.func42, Tryz.ntmps42
      go_wp2_with fail
      go_ret
      exact ⟨ret_iW (by unfold W; rw [if_pos hs]; rfl), Ext.refl _⟩
    · have t1 : decide (s ≤ 0) = false := decide_eq_false hs
      go_enter Tryz.func42, Tryz.ntmps42
      go_wp2_with fail
      go_ret
      exact ⟨ret_iW (by unfold W; rw [if_neg (by omega)]; rfl), Ext.refl _⟩
  | succ N ih =>
    intro a a2 cap cap2 x0 l s w h h2 hl hl2 hN hsb
    have hle := h.le
    have hmx := h.mx
    have hle2 := h2.le
    have hmx2 := h2.mx
    rw [hl] at hle
    rw [hl2] at hle2
    obtain ⟨b0, o0, rfl⟩ := h.head (i := 0) (by omega)
    obtain ⟨b, o, rfl⟩ := h2.head (i := 0) (by omega)
    obtain ⟨y, x1, rfl⟩ : ∃ y x1, x0 = y :: x1 := by cases x0 with | nil => simp at hl | cons x l => exact ⟨x, l, rfl⟩
    obtain ⟨y', hy', hcy, _⟩ := Ints.get h (i := 0) (by omega)
    cases hy'
    obtain ⟨a3, c3, hs3, hI3, p3, p4⟩ := sl_from (z := 1) (k := 1) h rfl hl (by omega)
    rw [show (y :: x1).drop 1 = x1 from rfl] at hI3
    have hx1 : x1.length = N := by simpa using hl
    rw [Nat.add_sub_cancel] at hs3 p3
    have HCY := Lib.hid hcy
    have HI3 := Lib.hid hI3
    have HX1 := Lib.hid hx1
    have HL := Lib.hid hl2
    have HI := Lib.hid h2
    have HIH := Lib.hid ih
    have HSB := Lib.hid hsb
    have HNI := Lib.hid hN
    obtain ⟨g, hg⟩ : ∃ g : Int → List Int → Nat, g = fun v c => W eqP x1 c (s - eqP y v) := ⟨_, rfl⟩
    have HG := Lib.hid hg
    have hgF : ∀ d, d < l.length → g (l.getD d 0) (l.eraseIdx d) ≤ fact N := fun d hd => by
      rw [hg]
      have := W_le eqP x1 (l.eraseIdx d) (s - eqP y (l.getD d 0)) (by rw [hx1, List.length_eraseIdx_of_lt hd]; omega)
      rwa [hx1] at this
    have HGF := Lib.hid (fun k (hk : k ≤ N + 1) => (by
      have h1 := pickS_le hgF k (by omega)
      have h2 := fact_le (n := N) (by omega)
      have h3 : k * fact N ≤ 9 * 40320 := Nat.mul_le_mul (by omega) h2
      omega : pickS g l k ≤ 362880))
    have HZ : Hid (W eqP (y :: x1) l s = pickS g l (N + 1)) := Lib.hid (by
      rw [hg]
      show pickS _ l l.length = _
      rw [hl2])
    rw [HZ.out]
    obtain ⟨M, hM⟩ : ∃ M : Nat, N + 1 = M := ⟨_, rfl⟩
    have HM := Lib.hid hM
    have hM0 : ((M : Int) == 0) = false := beq_false_of_ne (by omega)
    have hM1 : ¬ (M : Int) = 0 := by omega
    have hM2 : (0 : Int) < (M : Int) := by omega
    have hM3 : (1 : Int) ≤ (M : Int) := by omega
    rw [hM] at hle hle2 hs3 ⊢
    have hs1 : -20 ≤ s := by omega
    have hs2 : s ≤ 20 := by omega
    clear h hl hN hsb ih hg hgF HZ hM hcy hI3 hx1 hl2 h2
    go_enter Tryz.func42, Tryz.ntmps42
    go_wp2_with fail
    go_loopw [7, 8] (fun z k wr => ∃ q : Nat, q ≤ M ∧ k = .int .i64 q ∧ z = .int .i64 (pickS g l q : Nat) ∧ Ext w wr) (fun _ k _ => M - (intOf k).toNat)
    case atStart => exact ⟨0, Nat.zero_le _, rfl, rfl, Ext.refl _⟩
    case round =>
      obtain ⟨q, hq, rfl, rfl, hxr⟩ := hrel
      generalize wr = wA at *
      have HXR := Lib.hid hxr
      have q1 : (0 : Int) ≤ (q : Int) := by omega
      have hps := HGF.out q (by have := HM.out; omega)
      obtain ⟨P, hP⟩ : ∃ P, pickS g l q = P := ⟨_, rfl⟩
      have HP := Lib.hid hP
      rw [hP] at hps ⊢
      clear hP
      by_cases hqn : q < M
      · obtain ⟨x, hx, hcx0, _⟩ := Ints.get HI.out (i := q) (by rw [HL.out]; have := HM.out; omega)
        have hxd : l.getD q 0 = x := by rw [List.getD_eq_getElem?_getD, hx]; rfl
        have hcx := cell_exQ hxr hcx0
        have hcy := cell_exQ hxr HCY.out
        simp only [Nat.add_zero] at hcy
        have q2 : (q : Int) < (M : Int) := by omega
        have hp1 : pickS g l (q + 1) = P + g x (l.eraseIdx q) := by rw [← HP.out, ← hxd]; rfl
        have hel : (l.eraseIdx q).length = N := by rw [List.length_eraseIdx_of_lt (by rw [HL.out]; have := HM.out; omega), HL.out]; rfl
        obtain ⟨Z, hZ⟩ : ∃ Z, g x (l.eraseIdx q) = Z := ⟨_, rfl⟩
        have hcall : ∀ (a2 : Option Addr) (c2 : Nat) (W : World), Ext w W → Ints W a2 c2 (l.eraseIdx q) → Calls Tryz.prog 42 #[.slice a3 N c3, .slice a2 N c2, .int .i64 (s - eqP y x)] W (CntP Z W) := fun a2 c2 W hwW hW => by
          have hq01 : 0 ≤ eqP y x ∧ eqP y x ≤ 1 := by unfold eqP; split <;> omega
          have hh := HIH.out a3 a2 c3 c2 x1 (l.eraseIdx q) (s - eqP y x) W (HI3.out.ext hwW) hW HX1.out hel (by have := HNI.out; omega) (by have := HSB.out; have := HNI.out; omega)
          rw [← hZ, HG.out]
          exact hh
        have hzb := HGF.out (q + 1) (by have := HM.out; omega)
        rw [hp1, hZ] at hzb
        have HP1 : Hid (pickS g l (q + 1) = P + Z) := Lib.hid (by rw [hp1, hZ])
        have HEL := Lib.hid hel
        have HEB := Lib.hid (fun y (hy : y ∈ l.eraseIdx q) => (by
          obtain ⟨i, hi, rfl⟩ := List.getElem_of_mem (List.mem_of_mem_eraseIdx hy)
          obtain ⟨_, e2, e3⟩ := HI.out.cell hi
          exact ⟨e2, e3⟩ : -9223372036854775808 ≤ y ∧ y ≤ 9223372036854775807))
        have HWO := Lib.hid (fun W (hW : Ext w W) => ref42_without (some ⟨b, o, none⟩) cap2 l M q W (HI.out.ext hW) (by rw [HL.out]; exact HM.out) hqn (by have := HM.out; have := HNI.out; omega))
        clear hx hcx0 hxd hxr hp1 hel hZ
        by_cases hyx : y = x
        · have t5 : (y == x) = true := by simp [hyx]
          have he : s - eqP y x = s - 1 := by unfold eqP; rw [if_pos hyx]
          have HCALL := Lib.hid hcall
          rw [he] at HCALL
          clear hcall he hyx
          go_upto_region 10 with fail
          go_quiet (fail)
          go_upto_region 12 with fail
          have hx := HXR.out.drewN nq
          generalize World.drewN wA nq = wr at *
          have hE := hx.trans (Ext.refl wr).drew
          clear hcx hcy hx t5
          refine wp_region_held_drew (S := (fun _ => True)) (by kernel_rfl) ?_ (fun hHeld => ?_)
          · trivial
          (try simp only [← List.toArray_replicate, List.size_toArray, List.length_cons, List.length_nil, Nat.reduceAdd, List.replicate_succ, List.replicate_zero])
          generalize World.drew wr = y0 at *
          refine wpAnyH_take (i := 0) (oi := _) (v := ?_) rfl (by kernel_rfl) (by kernel_rfl) (by kernel_rfl) (fun _ _ _ h => h) (Or.inl ⟨by rfl, ?_⟩) (by assumption) ?_
          rotate_left
          · (intro w hSw; (try dsimp only at hSw); (try go_simp); (try with_reducible rfl))
          (try simp only [Act.put, List.getElem_toArray, List.getElem_cons_succ, List.getElem_cons_zero, List.setIfInBounds_toArray, List.set_cons_zero, List.set_cons_succ])
          refine wpAnyH_take (i := 1) (oi := _) (v := ?_) rfl (by kernel_rfl) (by kernel_rfl) (by kernel_rfl) (fun _ _ _ h => h) (Or.inl ⟨by rfl, ?_⟩) (by assumption) ?_
          rotate_left
          · (intro w hSw; (try dsimp only at hSw); (try go_simp); (try with_reducible rfl))
          (try simp only [Act.put, List.getElem_toArray, List.getElem_cons_succ, List.getElem_cons_zero, List.setIfInBounds_toArray, List.set_cons_zero, List.set_cons_succ])
          refine wpAnyH_take (i := 2) (oi := _) (v := ?_) rfl (by kernel_rfl) (by kernel_rfl) (by kernel_rfl) (fun _ _ _ h => h) (Or.inl ⟨by rfl, ?_⟩) (by assumption) ?_
          rotate_left
          · (intro w hSw; (try dsimp only at hSw); (try go_simp); (try with_reducible rfl))
          (try simp only [Act.put, List.getElem_toArray, List.getElem_cons_succ, List.getElem_cons_zero, List.setIfInBounds_toArray, List.set_cons_zero, List.set_cons_succ])
          refine wpAnyH_take (i := 3) (oi := _) (v := ?_) rfl (by kernel_rfl) (by kernel_rfl) (by kernel_rfl) (fun _ _ _ h => h) (Or.inl ⟨by rfl, ?_⟩) (by assumption) ?_
          rotate_left
          · (intro w hSw; (try dsimp only at hSw); (try go_simp); (try with_reducible rfl))
          (try simp only [Act.put, List.getElem_toArray, List.getElem_cons_succ, List.getElem_cons_zero, List.setIfInBounds_toArray, List.set_cons_zero, List.set_cons_succ])
          refine wpAnyH_take (i := 4) (oi := _) (v := ?_) rfl (by kernel_rfl) (by kernel_rfl) (by kernel_rfl) (fun _ _ _ h => h) (Or.inl ⟨by rfl, ?_⟩) (by assumption) ?_
          rotate_left
          · (intro w hSw; (try dsimp only at hSw); (try go_simp); (try with_reducible rfl))
          (try simp only [Act.put, List.getElem_toArray, List.getElem_cons_succ, List.getElem_cons_zero, List.setIfInBounds_toArray, List.set_cons_zero, List.set_cons_succ])
          refine wpAnyH_take (i := 6) (oi := _) (v := ?_) rfl (by kernel_rfl) (by kernel_rfl) (by kernel_rfl) (fun _ _ _ h => h) (Or.inl ⟨by rfl, ?_⟩) (by assumption) ?_
          rotate_left
          · (intro w hSw; (try dsimp only at hSw); (try go_simp); (try with_reducible rfl))
          (try simp only [Act.put, List.getElem_toArray, List.getElem_cons_succ, List.getElem_cons_zero, List.setIfInBounds_toArray, List.set_cons_zero, List.set_cons_succ])
          refine wpAnyH_ready (rs := [5]) (by kernel_rfl) (by simp) ?_
          refine AllReadyH.cons (o := _) rfl (fun K hK => ?_) ?_
          · go_simp
            (with_reducible refine (HWO.out _ hE).mono ?_); rintro e y1 ⟨v, rfl, hv, hy⟩; obtain ⟨av, cv, rfl, hIv, -⟩ := hv.look (fun x hx => HEB.out x hx); rw [HEL.out]; have vle := hIv.le; have vmx := hIv.mx; rw [HEL.out] at vle; replace hE := hE.trans hy; clear hv hy
            refine hK.out _ _ ?_ (fun hHeld2 => ?_)
            · trivial
            clear hK K hHeld
            have hHeld := hHeld2
            clear hHeld2
            (try simp only [Act.put, List.getElem_toArray, List.getElem_cons_succ, List.getElem_cons_zero, List.setIfInBounds_toArray, List.set_cons_zero, List.set_cons_succ])
            refine wpAnyH_ready (rs := [7]) (by kernel_rfl) (by simp) ?_
            refine AllReadyH.cons (o := _) rfl (fun K hK => ?_) ?_
            · go_simp
              (with_reducible refine (HCALL.out _ _ _ hE hIv).mono ?_); rintro e y2 ⟨rfl, hy⟩; replace hE := hE.trans hy; clear hy; clear hIv
              refine hK.out _ _ ?_ (fun hHeld2 => ?_)
              · trivial
              clear hK K hHeld
              have hHeld := hHeld2
              clear hHeld2
              (try simp only [Act.put, List.getElem_toArray, List.getElem_cons_succ, List.getElem_cons_zero, List.setIfInBounds_toArray, List.set_cons_zero, List.set_cons_succ])
              refine wpAnyH_take (i := 8) (oi := _) (v := ?_) rfl (by kernel_rfl) (by kernel_rfl) (by kernel_rfl) (fun _ _ _ h => h) (Or.inl ⟨by rfl, ?_⟩) (by assumption) ?_
              rotate_left
              · (intro w hSw; (try dsimp only at hSw); (try go_simp); (try with_reducible rfl))
              (try simp only [Act.put, List.getElem_toArray, List.getElem_cons_succ, List.getElem_cons_zero, List.setIfInBounds_toArray, List.set_cons_zero, List.set_cons_succ])
              refine wpAnyH_take (i := 9) (oi := _) (v := ?_) rfl (by kernel_rfl) (by kernel_rfl) (by kernel_rfl) (fun _ _ _ h => h) (Or.inl ⟨by rfl, ?_⟩) (by assumption) ?_
              rotate_left
              · (intro w hSw; (try dsimp only at hSw); (try go_simp); (try with_reducible rfl))
              (try simp only [Act.put, List.getElem_toArray, List.getElem_cons_succ, List.getElem_cons_zero, List.setIfInBounds_toArray, List.set_cons_zero, List.set_cons_succ])
              refine wpAnyH_done (by kernel_rfl) ?_ _
              have HE3 := Lib.hid hE
              clear hE
              go_wp2_with fail
              go_roundw
              case rel => exact ⟨q + 1, by omega, by go_num, by rw [HP1.out, IntWalk.i64_in _ (by omega)]; rfl, HE3.out⟩
              case measure => simp [intOf]; omega
            exact AllReadyH.nil
          exact AllReadyH.nil
        · have t5 : (y == x) = false := by simp [hyx]
          have he : s - eqP y x = s := by unfold eqP; rw [if_neg hyx]; omega
          have HCALL := Lib.hid hcall
          rw [he] at HCALL
          clear hcall he hyx
          go_upto_region 10 with fail
          go_quiet (fail)
          go_upto_region 12 with fail
          have hx := HXR.out.drewN nq
          generalize World.drewN wA nq = wr at *
          have hE := hx.trans (Ext.refl wr).drew
          clear hcx hcy hx t5
          refine wp_region_held_drew (S := (fun _ => True)) (by kernel_rfl) ?_ (fun hHeld => ?_)
          · trivial
          (try simp only [← List.toArray_replicate, List.size_toArray, List.length_cons, List.length_nil, Nat.reduceAdd, List.replicate_succ, List.replicate_zero])
          generalize World.drew wr = y0 at *
          refine wpAnyH_take (i := 0) (oi := _) (v := ?_) rfl (by kernel_rfl) (by kernel_rfl) (by kernel_rfl) (fun _ _ _ h => h) (Or.inl ⟨by rfl, ?_⟩) (by assumption) ?_
          rotate_left
          · (intro w hSw; (try dsimp only at hSw); (try go_simp); (try with_reducible rfl))
          (try simp only [Act.put, List.getElem_toArray, List.getElem_cons_succ, List.getElem_cons_zero, List.setIfInBounds_toArray, List.set_cons_zero, List.set_cons_succ])
          refine wpAnyH_take (i := 1) (oi := _) (v := ?_) rfl (by kernel_rfl) (by kernel_rfl) (by kernel_rfl) (fun _ _ _ h => h) (Or.inl ⟨by rfl, ?_⟩) (by assumption) ?_
          rotate_left
          · (intro w hSw; (try dsimp only at hSw); (try go_simp); (try with_reducible rfl))
          (try simp only [Act.put, List.getElem_toArray, List.getElem_cons_succ, List.getElem_cons_zero, List.setIfInBounds_toArray, List.set_cons_zero, List.set_cons_succ])
          refine wpAnyH_take (i := 2) (oi := _) (v := ?_) rfl (by kernel_rfl) (by kernel_rfl) (by kernel_rfl) (fun _ _ _ h => h) (Or.inl ⟨by rfl, ?_⟩) (by assumption) ?_
          rotate_left
          · (intro w hSw; (try dsimp only at hSw); (try go_simp); (try with_reducible rfl))
          (try simp only [Act.put, List.getElem_toArray, List.getElem_cons_succ, List.getElem_cons_zero, List.setIfInBounds_toArray, List.set_cons_zero, List.set_cons_succ])
          refine wpAnyH_take (i := 3) (oi := _) (v := ?_) rfl (by kernel_rfl) (by kernel_rfl) (by kernel_rfl) (fun _ _ _ h => h) (Or.inl ⟨by rfl, ?_⟩) (by assumption) ?_
          rotate_left
          · (intro w hSw; (try dsimp only at hSw); (try go_simp); (try with_reducible rfl))
          (try simp only [Act.put, List.getElem_toArray, List.getElem_cons_succ, List.getElem_cons_zero, List.setIfInBounds_toArray, List.set_cons_zero, List.set_cons_succ])
          refine wpAnyH_take (i := 4) (oi := _) (v := ?_) rfl (by kernel_rfl) (by kernel_rfl) (by kernel_rfl) (fun _ _ _ h => h) (Or.inl ⟨by rfl, ?_⟩) (by assumption) ?_
          rotate_left
          · (intro w hSw; (try dsimp only at hSw); (try go_simp); (try with_reducible rfl))
          (try simp only [Act.put, List.getElem_toArray, List.getElem_cons_succ, List.getElem_cons_zero, List.setIfInBounds_toArray, List.set_cons_zero, List.set_cons_succ])
          refine wpAnyH_take (i := 6) (oi := _) (v := ?_) rfl (by kernel_rfl) (by kernel_rfl) (by kernel_rfl) (fun _ _ _ h => h) (Or.inl ⟨by rfl, ?_⟩) (by assumption) ?_
          rotate_left
          · (intro w hSw; (try dsimp only at hSw); (try go_simp); (try with_reducible rfl))
          (try simp only [Act.put, List.getElem_toArray, List.getElem_cons_succ, List.getElem_cons_zero, List.setIfInBounds_toArray, List.set_cons_zero, List.set_cons_succ])
          refine wpAnyH_ready (rs := [5]) (by kernel_rfl) (by simp) ?_
          refine AllReadyH.cons (o := _) rfl (fun K hK => ?_) ?_
          · go_simp
            (with_reducible refine (HWO.out _ hE).mono ?_); rintro e y1 ⟨v, rfl, hv, hy⟩; obtain ⟨av, cv, rfl, hIv, -⟩ := hv.look (fun x hx => HEB.out x hx); rw [HEL.out]; have vle := hIv.le; have vmx := hIv.mx; rw [HEL.out] at vle; replace hE := hE.trans hy; clear hv hy
            refine hK.out _ _ ?_ (fun hHeld2 => ?_)
            · trivial
            clear hK K hHeld
            have hHeld := hHeld2
            clear hHeld2
            (try simp only [Act.put, List.getElem_toArray, List.getElem_cons_succ, List.getElem_cons_zero, List.setIfInBounds_toArray, List.set_cons_zero, List.set_cons_succ])
            refine wpAnyH_ready (rs := [7]) (by kernel_rfl) (by simp) ?_
            refine AllReadyH.cons (o := _) rfl (fun K hK => ?_) ?_
            · go_simp
              (with_reducible refine (HCALL.out _ _ _ hE hIv).mono ?_); rintro e y2 ⟨rfl, hy⟩; replace hE := hE.trans hy; clear hy; clear hIv
              refine hK.out _ _ ?_ (fun hHeld2 => ?_)
              · trivial
              clear hK K hHeld
              have hHeld := hHeld2
              clear hHeld2
              (try simp only [Act.put, List.getElem_toArray, List.getElem_cons_succ, List.getElem_cons_zero, List.setIfInBounds_toArray, List.set_cons_zero, List.set_cons_succ])
              refine wpAnyH_take (i := 8) (oi := _) (v := ?_) rfl (by kernel_rfl) (by kernel_rfl) (by kernel_rfl) (fun _ _ _ h => h) (Or.inl ⟨by rfl, ?_⟩) (by assumption) ?_
              rotate_left
              · (intro w hSw; (try dsimp only at hSw); (try go_simp); (try with_reducible rfl))
              (try simp only [Act.put, List.getElem_toArray, List.getElem_cons_succ, List.getElem_cons_zero, List.setIfInBounds_toArray, List.set_cons_zero, List.set_cons_succ])
              refine wpAnyH_take (i := 9) (oi := _) (v := ?_) rfl (by kernel_rfl) (by kernel_rfl) (by kernel_rfl) (fun _ _ _ h => h) (Or.inl ⟨by rfl, ?_⟩) (by assumption) ?_
              rotate_left
              · (intro w hSw; (try dsimp only at hSw); (try go_simp); (try with_reducible rfl))
              (try simp only [Act.put, List.getElem_toArray, List.getElem_cons_succ, List.getElem_cons_zero, List.setIfInBounds_toArray, List.set_cons_zero, List.set_cons_succ])
              refine wpAnyH_done (by kernel_rfl) ?_ _
              have HE3 := Lib.hid hE
              clear hE
              go_wp2_with fail
              go_roundw
              case rel => exact ⟨q + 1, by omega, by go_num, by rw [HP1.out, IntWalk.i64_in _ (by omega)]; rfl, HE3.out⟩
              case measure => simp [intOf]; omega
            exact AllReadyH.nil
          exact AllReadyH.nil
      · obtain rfl : q = M := by omega
        have q2 : ¬ (q : Int) < (q : Int) := by omega
        go_wp2_with fail
        go_ret
        exact ⟨by rw [HP.out]; rfl, HXR.out⟩
set_option maxHeartbeats 4000000 in
theorem ref42_factorial (n : Nat) (w : World) (hn : n ≤ 8) : Calls Tryz.prog 43 #[.int .i64 (n : Int)] w fun e w' => e = .returned (.int .i64 (fact n : Nat)) ∧ w = w' := by
  go_enter Tryz.func43, Tryz.ntmps43
  go_wp2_with fail
  go_loop [3, 4] (fun z k => ∃ q F : Nat, 2 ≤ q ∧ (q ≤ n + 1 ∨ q = 2) ∧ k = .int .i64 q ∧ z = .int .i64 F ∧ F = fact (q - 1)) (fun _ k => n + 2 - (intOf k).toNat)
  case atStart => exact ⟨2, 1, by omega, .inr rfl, rfl, rfl, rfl⟩
  case round =>
    obtain ⟨q, F, hq, hqn, rfl, rfl, hF⟩ := hrel
    have HF := Lib.hid hF
    have q1 : (0 : Int) ≤ (q : Int) := by omega
    have f1 : (0 : Int) ≤ (F : Int) := by omega
    by_cases hqn2 : q ≤ n
    · have q2 : (q : Int) ≤ (n : Int) := by omega
      have hF8 : F ≤ 40320 := by rw [hF]; exact fact_le (by omega)
      have hm : F * q ≤ 40320 * 8 := Nat.mul_le_mul hF8 (by omega)
      have hm2 : (F : Int) * (q : Int) ≤ 322560 := by rw [← Int.natCast_mul]; omega
      have hm3 : 0 ≤ (F : Int) * (q : Int) := Int.mul_nonneg f1 q1
      clear hF hm
      go_wp2_with fail
      go_round
      case rel => exact ⟨q + 1, F * q, by omega, .inl (by omega), by go_num, by simp, by
        obtain ⟨p, rfl⟩ : ∃ p, q = p + 1 := ⟨q - 1, by omega⟩
        have := HF.out
        rw [Nat.add_sub_cancel] at this ⊢
        rw [this]
        show fact p * (p + 1) = (p + 1) * fact p
        exact Nat.mul_comm _ _⟩
      case measure => simp [intOf]; omega
    · have q2 : ¬ (q : Int) ≤ (n : Int) := by omega
      clear hF
      go_wp2_with fail
      go_ret
      refine ⟨ret_iW ?_, rfl⟩
      rw [HF.out]
      rcases hqn with h | h
      · rw [show q - 1 = n by omega]
      · subst h
        have : n = 0 ∨ n = 1 := by omega
        rcases this with rfl | rfl <;> rfl
end Go.Proofs.YtmcbbhlglccmgaaGreat

