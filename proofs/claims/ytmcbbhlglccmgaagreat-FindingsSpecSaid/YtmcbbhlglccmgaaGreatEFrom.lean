import Derived.Test.YtmcbbhlglccmgaaGreatKeep
import Derived.RangeFuncFrom
import Derived.RangeFuncNested
import Derived.Deep.Cut
import Derived.Deep.RegionHeld3
namespace Go.Proofs.YtmcbbhlglccmgaaGreat
open Go.RowKit Go Go.Shelf
set_option maxRecDepth 100000

/-! A range over an iterator that writes between two rounds: the contract names its own steps (St) and what holds of memory where a round begins (Rd). No round leaves. -/
def SeqX {α : Type} (n : Nat) (P : Program) (g : Nat) (lb : Array Value) (encs : α → Array Value) (Rd : α → World → Prop) (Kp St : World → World → Prop) (S : List α → Prop) (N : Nat) (w : World) : Prop :=
  ∀ (l : Nat) (J : List α → World → Prop) (W : World), Below w.heap.size w W → (∀ s A B, J s A → St A B → J s B) →
    (∀ pre x W1, J pre W1 → Rd x W1 → pre.length < N → YieldAt Fence.wide (n - 1) P l (encs x) W1 fun e W' => e = .returned (.bool true) ∧ J (pre ++ [x]) W' ∧ Kp W1 W') →
    J [] W → CallsIn Fence.wide n P g (#[.func (.yield l) #[] #[]] ++ lb) W fun e W' => (∃ v, e = .returned v) ∧ ∃ xs, S xs ∧ J xs W'

section
variable {P : Program} {n : Nat}
theorem wpIn_rangeFunc_ownX {α : Type} {g : Operand} {ps : Array Tmp} {assign body : Code} {Q : Exit → Act → World → Prop} {a : Act} {w : World}
    (h1 : 1 ≤ n) {gf : Nat} {lb : Array Value} (hg : a.eval g = .func (.func gf) #[] lb) (eg : ∀ args w, (callFunc gf args).run P w = .ok (.enter gf args) w)
    {encs : α → Array Value} {Rd : α → World → Prop} {Kp St : World → World → Prop} {S : List α → Prop} {N : Nat} (hseq : SeqX (n - 1) P gf lb encs Rd Kp St S N w)
    (hKt : ∀ {A B C : World}, Kp A B → Kp B C → Kp A C) (hKb : ∀ (W : World) (l : Nat) (o o' : Obj), w.heap.size ≤ l → W.heap[l]? = some o → o.isCells = false → o.isWalk = false → Kp W (W.putObj l o')) (hps : ∀ x, (encs x).size = ps.size)
    (hSt : ∀ A B, St A B → KeepsFrom w.heap.size A B) (hRd : OwnFrom w.heap.size Rd)
    (I : List α → World → Prop) (hI : OwnFrom w.heap.size I) (hIS : ∀ s A B, I s A → St A B → I s B) (h0 : I [] w) (a₁ : α → Act)
    (hassign : ∀ (l : Nat) (x : α) (W : World) (K : Act → World → Prop), K (a₁ x) W →
      assign.wpIn (Fence.wide.inRound l) (n - 1 - 1) P (Exit.then K (fun _ _ _ => False)) { tmps := (ps.zip (encs x)).foldl (fun t (p, v) => t.setIfInBounds p v) a.tmps, defers := [] } W)
    (hbody : ∀ (l : Nat) (pre : List α) (x : α) (W : World), I pre W → Rd x W → pre.length < N → body.wpIn (Fence.wide.inRound l) (n - 1 - 1) P (ownPostK Kp I (fun _ _ _ => False) (pre ++ [x]) W) (a₁ x) W)
    (hdone : ∀ (D : Nat) (xs : List α) (W : World), w.heap.size ≤ D → S xs → I xs W → W.heap[D]? = some (.deferred (some [])) → Q .normal { a with defers := { target := .collected D, args := #[] } :: a.defers } W) :
    (Code.rangeFunc g ps assign body).wpIn Fence.wide n P Q a w := by
  refine wpIn_rangeFunc ?_
  intro fn hfn
  rw [show Fence.wide.round = none from rfl]
  obtain ⟨rec, hrec⟩ : ∃ rec : LoopState → Option Code → Loop, rec = fun st pe => { state := st, pending := pe, fn, tmps := a.tmps, params := ps, assign, body, defers := w.heap.size } := ⟨_, rfl⟩
  obtain ⟨W1, hW1⟩ : ∃ W1, (w.alloc (.deferred (some []))).alloc (.loop (rec .ready none)) = W1 := ⟨_, rfl⟩
  have hL1 : W1.heap[w.heap.size + 1]? = some (.loop (rec .ready none)) := by
    rw [← hW1]; have := World.alloc_heap_new (w.alloc (.deferred (some []))) (.loop (rec .ready none)); rwa [World.size_alloc] at this
  have hK1 : W1.heap[w.heap.size]? = some (.deferred (some [])) := by
    rw [← hW1]; exact (Below.heap_alloc _ _ _ (by simp)).trans (World.alloc_heap_new w _)
  have hI1 : I [] W1 := by rw [← hW1]; exact hI.alloc _ (hI.alloc _ h0)
  have hb1 : Below w.heap.size w W1 := by
    rw [← hW1]; exact ((Below.refl _ w).alloc (Nat.le_refl _) _).alloc (by simp) _
  refine ⟨w.heap.size + 1, [{ target := .collected w.heap.size, args := #[] }], W1, { target := .fn (.func gf) lb, args := #[.func (.yield (w.heap.size + 1)) #[] #[]] }, W1, gf,
    #[.func (.yield (w.heap.size + 1)) #[] #[]] ++ lb, W1, ?_, ?_, ?_, ?_, fun _ => h1, ?_⟩
  · rw [← hW1, hrec]; exact run_enterLoop_outer _ _ _ _ _
  · simp only [resolve, hg]
    simp [go_sem]
  · intro f' hf'; trivial
  · simp [invoke, go_sem, eg]
  · refine (hseq (w.heap.size + 1)
      (fun pre W => I pre W ∧ W.heap[w.heap.size + 1]? = some (.loop (rec .ready none)) ∧ W.heap[w.heap.size]? = some (.deferred (some [])))
      W1 hb1
      (fun s A B hs hst => ⟨hIS s A B hs.1 hst, (hSt A B hst).same _ _ (by omega) hs.2.1 rfl, (hSt A B hst).same _ _ (by omega) hs.2.2 rfl⟩)
      ?_ ⟨hI1, hL1, hK1⟩).mono ?_
    · rintro pre x W ⟨hi, hl, hk⟩ hrd hlen
      have hlt : w.heap.size + 1 < W.heap.size := (Array.getElem?_eq_some_iff.1 hl).1
      have hy := run_yield (P := P) (args := encs x) hl (by rw [hrec]; exact hps x)
      rw [hrec] at hy
      refine ⟨fn, _, assign, body, hy, roundIn_of_wpIn hfn (hassign _ x W _ ⟨_, run_beginRound hl (by rw [hrec]), ?_⟩)⟩
      have hl2 : (W.putObj (w.heap.size + 1) (.loop { rec .ready none with state := .busy })).heap[w.heap.size + 1]? = some (.loop { rec .ready none with state := .busy }) := World.putObj_heap_same hlt
      have hk2 : (W.putObj (w.heap.size + 1) (.loop { rec .ready none with state := .busy })).heap[w.heap.size]? = some (.deferred (some [])) := (World.putObj_heap_other (by omega)).trans hk
      have hw2 : Kp W (W.putObj (w.heap.size + 1) (.loop { rec .ready none with state := .busy })) := hKb _ _ _ _ (by omega) hl rfl rfl
      refine wpIn_mono (hbody _ pre x _ (hI.putObj _ hi (by omega) hl rfl) (hRd.putObj _ hrd (by omega) hl rfl) hlen) ?_
      have fin : ∀ (W3 : World), KeepsOthers (W.putObj (w.heap.size + 1) (.loop { rec .ready none with state := .busy })) W3 →
          (Instr.endRound (w.heap.size + 1) none).run P W3 = .ok (.bool true) (W3.putObj (w.heap.size + 1) (.loop (rec .ready none))) ∧
          W3.heap[w.heap.size + 1]? = some (.loop { rec .ready none with state := .busy }) ∧
          (W3.putObj (w.heap.size + 1) (.loop (rec .ready none))).heap[w.heap.size + 1]? = some (.loop (rec .ready none)) ∧
          (W3.putObj (w.heap.size + 1) (.loop (rec .ready none))).heap[w.heap.size]? = some (.deferred (some [])) := fun W3 hk3 => by
        have hl3 := hk3.same _ _ hl2 rfl
        have := run_endRound (P := P) none hl3
        rw [hrec] at this ⊢
        exact ⟨this, by rw [hrec] at hl3; exact hl3, World.putObj_heap_same (Array.getElem?_eq_some_iff.1 hl3).1, (World.putObj_heap_other (by omega)).trans (hk3.same _ _ hk2 rfl)⟩
      rintro e a3 W3 hp
      cases e with
      | normal =>
        obtain ⟨hk3, hkp3, hi3⟩ := hp
        obtain ⟨hr, hl3, hl4, hk4⟩ := fin W3 hk3
        exact ⟨_, _, hr, rfl, ⟨hI.putObj _ hi3 (by omega) hl3 rfl, hl4, hk4⟩, hKt (hKt hw2 hkp3) (hKb _ _ _ _ (by omega) hl3 rfl rfl)⟩
      | ret => exact hp.2.elim
      | exit id => exact hp.2.elim
      | goto t => exact hp.2.elim
      | panic ch => exact hp.elim
      | outgrown => exact hp.elim
    · rintro e W2 ⟨⟨v, rfl⟩, xs, hS, hi, hl, hk⟩
      exact ⟨none, _, by have := run_endLoop (P := P) hl (by rw [hrec]; simp); rw [hrec] at this; exact this, hdone _ xs _ (Nat.le_refl _) hS (hI.putObj _ hi (by omega) hl rfl) ((World.putObj_heap_other (by omega)).trans hk)⟩
end
theorem roundIn_any {m m' : Nat} {P : Program} {l : Nat} {f : FuncId} {tmps : Array Value} {assign body : Code} {w : World} {R : Ending → World → Prop}
    (h : RoundIn Fence.wide m P l f tmps assign body w R) : RoundIn Fence.wide m' P l f tmps assign body w R := ⟨h.1, fun c cs _ => h.2 c cs (room_wide _)⟩
theorem yieldAt_any {m : Nat} (m' : Nat) {P : Program} {l : Nat} {args : Array Value} {W : World} {R : Ending → World → Prop} (h : YieldAt Fence.wide m P l args W R) : YieldAt Fence.wide m' P l args W R := by
  obtain ⟨fn, tmps, assign, body, hy, hR⟩ := h
  exact ⟨fn, tmps, assign, body, hy, roundIn_any hR⟩
end Go.Proofs.YtmcbbhlglccmgaaGreat

namespace Go.Proofs.YtmcbbhlglccmgaaGreat
open Go.RowKit Go Go.Shelf
set_option maxRecDepth 100000
set_option linter.unusedSimpArgs false

attribute [local go_sem] Oper.semAt_some

theorem of_imp {A B : Prop} (h : A → B) (a : A) : B := h a

/-- x with the places i and k exchanged. -/
def swp (x : List Int) (i k : Nat) : List Int := (x.set i (x.getD k 0)).set k (x.getD i 0)
theorem swp_length (x : List Int) (i k : Nat) : (swp x i k).length = x.length := by simp [swp]
theorem swp_getD (x : List Int) {i k : Nat} (hi : i < x.length) (hk : k < x.length) (j : Nat) : (swp x i k).getD j 0 = if j = k then x.getD i 0 else if j = i then x.getD k 0 else x.getD j 0 := by
  unfold swp
  simp only [List.getD_eq_getElem?_getD, List.getElem?_set, List.length_set]
  by_cases h1 : k = j
  · subst h1; simp [hk]
  · have h1' : ¬ j = k := fun e => h1 e.symm
    by_cases h2 : i = j
    · subst h2; simp [h1, h1', hi]
    · have h2' : ¬ j = i := fun e => h2 e.symm
      simp [h1, h1', h2, h2']
theorem swp_swp (x : List Int) {i k : Nat} (hi : i < x.length) (hk : k < x.length) : swp (swp x i k) i k = x := by
  refine List.ext_getElem (by simp [swp_length]) fun j h1 h2 => ?_
  have e : ∀ (l : List Int) (h : j < l.length), l[j] = l.getD j 0 := fun l h => by simp [List.getD, h]
  rw [e _ h1, e _ h2, swp_getD _ (by rw [swp_length]; exact hi) (by rw [swp_length]; exact hk), swp_getD x hi hk, swp_getD x hi hk, swp_getD x hi hk]
  by_cases a : j = k <;> by_cases b : j = i <;> by_cases c : i = k <;> simp_all

/-- The orders that come when the places from i on are still to be filled. -/
def gen : Nat → Nat → List Int → List (List Int)
  | 0, _, x => [x]
  | f + 1, i, x => (List.range (f + 1)).flatMap fun d => gen f (i + 1) (swp x i (i + d))
def genTo (f i d : Nat) (x : List Int) : List (List Int) := (List.range d).flatMap fun d => gen f (i + 1) (swp x i (i + d))
theorem genTo_succ (f i d : Nat) (x : List Int) : genTo f i (d + 1) x = genTo f i d x ++ gen f (i + 1) (swp x i (i + d)) := by simp [genTo, List.range_succ]
theorem genTo_le (f i : Nat) (x : List Int) : ∀ d e, d ≤ e → (genTo f i d x).length ≤ (genTo f i e x).length := by
  intro d e h
  induction e with
  | zero => obtain rfl : d = 0 := by omega
            exact Nat.le_refl _
  | succ e ih =>
    rcases Nat.lt_or_ge d (e + 1) with h1 | h1
    · rw [genTo_succ, List.length_append]; have := ih (by omega); omega
    · obtain rfl : d = e + 1 := by omega
      exact Nat.le_refl _

/-- The numbers of an order: n of them, each an index. -/
def Okp (n : Nat) (x : List Int) : Prop := x.length = n ∧ ∀ j, j < n → 0 ≤ x.getD j 0 ∧ x.getD j 0 < n
theorem Okp.swp {n : Nat} {x : List Int} (h : Okp n x) {i k : Nat} (hi : i < n) (hk : k < n) : Okp n (swp x i k) := by
  obtain ⟨h1, h2⟩ := h
  refine ⟨by rw [swp_length]; exact h1, fun j hj => ?_⟩
  rw [swp_getD x (by omega) (by omega)]
  split
  · exact h2 i hi
  · split
    · exact h2 k hk
    · exact h2 j hj

/-- Block lb holds the numbers x. -/
abbrev LB (W : World) (lb : Nat) (x : List Int) : Prop := Blk W lb (x.map (Value.int .i64)).toArray 3

/-- What a round keeps: the variables of the iterator. -/
structure KpO (nB liB fB lb : Nat) (A B : World) : Prop where
  k1 : ∀ cs t, Blk A nB cs t → Blk B nB cs t
  k2 : ∀ cs t, Blk A liB cs t → Blk B liB cs t
  k3 : ∀ cs t, Blk A fB cs t → Blk B fB cs t
  k4 : ∀ cs t, Blk A lb cs t → Blk B lb cs t
theorem KpO.refl (nB liB fB lb : Nat) (A : World) : KpO nB liB fB lb A A := ⟨fun _ _ h => h, fun _ _ h => h, fun _ _ h => h, fun _ _ h => h⟩
theorem KpO.trans {nB liB fB lb : Nat} {A B C : World} (h : KpO nB liB fB lb A B) (k : KpO nB liB fB lb B C) : KpO nB liB fB lb A C :=
  ⟨fun _ _ x => k.k1 _ _ (h.k1 _ _ x), fun _ _ x => k.k2 _ _ (h.k2 _ _ x), fun _ _ x => k.k3 _ _ (h.k3 _ _ x), fun _ _ x => k.k4 _ _ (h.k4 _ _ x)⟩

/-- The iterator's variables. -/
structure Vars (W : World) (nn nB liB fB lb : Nat) : Prop where
  n : Blk W nB #[.int .i64 nn] 3
  l : Blk W liB #[.slice (some ⟨lb, 0, none⟩) nn nn] 27
  f : ∃ t, Blk W fB #[.func (.func 112) #[] #[.pointer (some ⟨nB, 0, none⟩), .pointer (some ⟨liB, 0, none⟩), .pointer (some ⟨fB, 0, none⟩)]] t
theorem Vars.kp {A B : World} {nn nB liB fB lb : Nat} (h : Vars A nn nB liB fB lb) (k : KpO nB liB fB lb A B) : Vars B nn nB liB fB lb :=
  ⟨k.k1 _ _ h.n, k.k2 _ _ h.l, by obtain ⟨t, ht⟩ := h.f; exact ⟨t, k.k3 _ _ ht⟩⟩

set_option maxHeartbeats 1000000 in
/-- from(n, yield): the list is handed to yield. -/
theorem from_end (l nB liB fB lb nn : Nat) (J : List (List Int) → World → Prop)
    (N : Nat) (hY : ∀ m pre x W, J pre W → LB W lb x → Okp nn x → pre.length < N → YieldAt Fence.wide m Tryz.prog l #[.slice (some ⟨lb, 0, none⟩) nn nn] W fun e W' => e = .returned (.bool true) ∧ J (pre ++ [x]) W' ∧ KpO nB liB fB lb W W')
    (n : Nat) (pre : List (List Int)) (x : List Int) (W : World) (hV : Vars W nn nB liB fB lb) (hx : LB W lb x) (hO : Okp nn x) (hJ : J pre W) (hN : pre.length < N) :
    CallsIn Fence.wide n Tryz.prog 112 #[.int .i64 nn, .func (.yield l) #[] #[], .pointer (some ⟨nB, 0, none⟩), .pointer (some ⟨liB, 0, none⟩), .pointer (some ⟨fB, 0, none⟩)] W fun e W' =>
      e = .returned (.bool true) ∧ J (pre ++ [x]) W' ∧ KpO nB liB fB lb W W' := by
  refine callsIn_of_wp Tryz.func112 rfl trivial ?_ rfl
  simp only [Tryz.ntmps112, List.size_toArray, List.length_cons, List.length_nil, Nat.reduceAdd, Nat.reduceSub, Array.replicate_succ, Array.replicate_zero, List.push_toArray, List.append_toArray, List.nil_append, List.cons_append]
  have c1 := hV.n.cell (i := 0) (v := .int .i64 nn) rfl
  have c2 := hV.l.cell (i := 0) (v := .slice (some ⟨lb, 0, none⟩) nn nn) rfl
  obtain ⟨fn, tmps, assign, body, hy, hR⟩ := hY (n - 1) pre x W hJ hx hO hN
  gi_wp2
  refine ⟨fun h => (by cases h), ?_⟩
  refine hR.mono ?_
  rintro e W' ⟨rfl, hJ', hk⟩
  gi_wp2
  go_ret
  exact ⟨rfl, hJ', hk⟩

theorem grown_lb {A B : World} (h : Ext A B) (lb i k : Nat) (u v : Value) : A.grownBy ((B.setCell ⟨lb, i, none⟩ u).setCell ⟨lb, k, none⟩ v) (some lb) :=
  ⟨h.os, h.tape, h.output, by simpa [World.setCell] using h.size, fun j hj hne => by
    have hne' : j ≠ lb := fun e => hne (by rw [e])
    rw [Below.heap_setCell _ _ _ _ hne', Below.heap_setCell _ _ _ _ hne']
    exact h.block j hj⟩
theorem grown_drew {A B : World} {row : Option Nat} (h : A.grownBy B row) : A.grownBy B.drew row := ⟨h.os, h.tape, h.output, h.size, h.block⟩
theorem LB.swap {W : World} {lb : Nat} {x : List Int} (h : LB W lb x) (i k : Nat) :
    LB ((W.setCell ⟨lb, i, none⟩ (.int .i64 (x.getD k 0))).setCell ⟨lb, k, none⟩ (.int .i64 (x.getD i 0))) lb (swp x i k) := by
  have := (Blk.set h i (.int .i64 (x.getD k 0))).set k (.int .i64 (x.getD i 0))
  unfold LB swp
  rw [List.map_set, List.map_set]
  simpa using this
theorem LB.cellAt {W : World} {lb : Nat} {x : List Int} (h : LB W lb x) {i : Nat} (hi : i < x.length) : W.cell? ⟨lb, i, none⟩ = some (.int .i64 (x.getD i 0)) :=
  Blk.cell h (by simp [List.getD, hi])
theorem Blk.uniq {W : World} {b : Nat} {cs cs' : Array Value} {t t' : TypeId} (h : Blk W b cs t) (h' : Blk W b cs' t') : cs = cs' ∧ t = t' := by
  have := h.symm.trans h'
  simp only [Option.some.injEq, Obj.cells.injEq] at this
  exact ⟨this.1, this.2.1⟩
theorem KpO.of {nB liB fB lb : Nat} {A B : World} {x : List Int} (h1 : ∀ cs t, Blk A nB cs t → Blk B nB cs t) (h2 : ∀ cs t, Blk A liB cs t → Blk B liB cs t) (h3 : ∀ cs t, Blk A fB cs t → Blk B fB cs t)
    (hx : LB A lb x) (hx' : LB B lb x) : KpO nB liB fB lb A B :=
  ⟨h1, h2, h3, fun cs t h => by obtain ⟨e1, e2⟩ := Blk.uniq h hx; rw [e1, e2]; exact hx'⟩

/-- Behind the exchange: whatever else was, is. -/
theorem Blk.swapped {A B : World} {lb b i k : Nat} {u v : Value} (h : Ext A B) (hb : b ≠ lb) : ∀ cs t, Blk A b cs t → Blk ((B.setCell ⟨lb, i, none⟩ u).setCell ⟨lb, k, none⟩ v) b cs t :=
  fun _ _ hB => ((hB.ext h).other (p := ⟨lb, i, none⟩) hb u).other (p := ⟨lb, k, none⟩) hb v

set_option maxHeartbeats 4000000 in
theorem from_in (l nB liB fB lb nn N : Nat) (h1 : nB ≠ lb) (h2 : liB ≠ lb) (h3 : fB ≠ lb) (hnn : nn ≤ 100) (J : List (List Int) → World → Prop) (hJ : ∀ s A B, J s A → A.grownBy B (some lb) → J s B)
    (hY : ∀ m pre x W, J pre W → LB W lb x → Okp nn x → pre.length < N → YieldAt Fence.wide m Tryz.prog l #[.slice (some ⟨lb, 0, none⟩) nn nn] W fun e W' => e = .returned (.bool true) ∧ J (pre ++ [x]) W' ∧ KpO nB liB fB lb W W') :
    ∀ (f i : Nat), f + i = nn → ∀ (pre : List (List Int)) (x : List Int) (W : World), Okp nn x → Vars W nn nB liB fB lb → LB W lb x → J pre W → pre.length + (gen f i x).length ≤ N →
    Calls Tryz.prog 112 #[.int .i64 i, .func (.yield l) #[] #[], .pointer (some ⟨nB, 0, none⟩), .pointer (some ⟨liB, 0, none⟩), .pointer (some ⟨fB, 0, none⟩)] W fun e W' =>
      e = .returned (.bool true) ∧ J (pre ++ gen f i x) W' ∧ KpO nB liB fB lb W W' := by
  intro f
  induction f with
  | zero =>
    intro i hi pre x W hO hV hx hj hN
    obtain rfl : i = nn := by omega
    exact (callsIn_wide (n := 5)).1 (from_end l nB liB fB lb i J N hY 5 pre x W hV hx hO hj (by simp only [gen, List.length_singleton] at hN; omega))
  | succ f ih =>
    intro i hi pre x W hO hV hx hj hN
    have hl := hO.1
    have c1 := hV.n.cell (i := 0) (v := .int .i64 nn) rfl
    have hne : ((i : Int) == (nn : Int)) = false := by simp; omega
    go_enter Tryz.func112, Tryz.ntmps112
    go_wp2_with fail
    go_loopw [8] (fun k wr => ∃ d : Nat, d ≤ f + 1 ∧ k = .int .i64 ((i + d : Nat) : Int) ∧ Vars wr nn nB liB fB lb ∧ LB wr lb x ∧ KpO nB liB fB lb W wr ∧ J (pre ++ genTo f i d x) wr) (fun k _ => nn - (intOf k).toNat)
    case atStart => exact ⟨0, Nat.zero_le _, rfl, hV, hx, KpO.refl _ _ _ _ _, by simpa [genTo] using hj⟩
    case round =>
      obtain ⟨d, hd, rfl, hVr, hxr, hkr, hjr⟩ := hrel
      have c1 := hVr.n.cell (i := 0) (v := .int .i64 nn) rfl
      by_cases hdn : d < f + 1
      · have c2 := hVr.l.cell (i := 0) (v := .slice (some ⟨lb, 0, none⟩) nn nn) rfl
        obtain ⟨tf, hfB⟩ := hVr.f
        have hs := genTo_succ f i d x
        have hle := genTo_le f i x (d + 1) (f + 1) (by omega)
        have hge : (gen (f + 1) i x).length = (genTo f i (f + 1) x).length := rfl
        rw [hs, List.length_append] at hle
        have hih : ∀ W', Vars W' nn nB liB fB lb → LB W' lb (swp x i (i + d)) → J (pre ++ genTo f i d x) W' → (pre ++ genTo f i d x).length + (gen f (i + 1) (swp x i (i + d))).length ≤ N →
            Calls Tryz.prog 112 #[.int .i64 ((i : Int) + 1), .func (.yield l) #[] #[], .pointer (some ⟨nB, 0, none⟩), .pointer (some ⟨liB, 0, none⟩), .pointer (some ⟨fB, 0, none⟩)] W' fun e W2 =>
              e = .returned (.bool true) ∧ J (pre ++ genTo f i d x ++ gen f (i + 1) (swp x i (i + d))) W2 ∧ KpO nB liB fB lb W' W2 := fun W' => ih (i + 1) (by omega) (pre ++ genTo f i d x) (swp x i (i + d)) W' (hO.swp (by omega) (by omega))
        have hss := swp_swp x (i := i) (k := i + d) (by omega) (by omega)
        have hN2 : (pre ++ genTo f i d x).length + (gen f (i + 1) (swp x i (i + d))).length ≤ N := by rw [List.length_append]; omega
        have hki : i + d < nn := by omega
        have e1 := hxr.cellAt (i := i) (by omega)
        have e2 := hxr.cellAt (i := i + d) (by omega)
        have hswL := swp_length x i (i + d)
        have g1 := swp_getD x (i := i) (k := i + d) (by omega) (by omega) i
        have g2 := swp_getD x (i := i) (k := i + d) (by omega) (by omega) (i + d)
        have hk' : i + (d + 1) = i + d + 1 := by omega
        generalize i + d = k at *
        have HL := Lib.hid hl
        have HIH := Lib.hid hih
        have HSS := Lib.hid hss
        have HS := Lib.hid hs
        have HN2 := Lib.hid hN2
        have HFB := Lib.hid hfB
        have HV := Lib.hid hVr
        have HX := Lib.hid hxr
        have HK := Lib.hid hkr
        have HJ := Lib.hid hjr
        have HSL := Lib.hid hswL
        have Hk := Lib.hid hk'
        clear hih hss hs hN2 hfB hVr hxr hkr hjr hswL hk' hge hle hN hl
        obtain ⟨xi, hxi⟩ : ∃ v, x.getD i 0 = v := ⟨_, rfl⟩
        obtain ⟨xk, hxk⟩ : ∃ v, x.getD k 0 = v := ⟨_, rfl⟩
        rw [hxi] at e1
        rw [hxk] at e2
        have HG1 := Lib.hid (show (swp x i k).getD i 0 = xk by
          rw [g1]
          by_cases e : i = k
          · rw [if_pos e, e, hxk]
          · rw [if_neg e, if_pos rfl, hxk])
        have HG2 := Lib.hid (show (swp x i k).getD k 0 = xi by rw [g2, if_pos rfl, hxi])
        have HXi := Lib.hid hxi
        have HXk := Lib.hid hxk
        clear hxi hxk g1 g2
        have e3 : (wr.setCell ⟨lb, i, none⟩ (.int .i64 xk)).cell? ⟨lb, k, none⟩ = some (.int .i64 xk) := by
          by_cases hik : i = k
          · subst hik; exact World.cell?_setCell_same' _ _ _ (by rw [e1]; rfl)
          · rw [World.cell?_setCell_other _ _ _ _ (fun e => hik (by injection e))]; exact e2
        have f1 := HX.out.free i
        have f2 := HX.out.free k
        have h2' : lb ≠ liB := fun e => h2 e.symm
        have b1 : (0 : Int) ≤ (i : Int) := by omega
        have b2 : (i : Int) < (nn : Int) := by omega
        have b3 : (0 : Int) ≤ (k : Int) := by omega
        have b4 : (k : Int) < (nn : Int) := by omega
        go_upto_region 6 with fail
        refine of_imp (A := ?A1) ?region1 ?cont1
        case region1 =>
          intro hFin
          refine wp_region_held_drew (S := (fun w' => w'.cell? ⟨liB, 0, none⟩ = some (.slice (some ⟨lb, 0, none⟩) nn nn))) (by kernel_rfl) ?_ (fun hHeld => ?_)
          · (first | exact c2 | exact (World.cell?_setCell_far _ _ _ _ h2').trans c2 | exact (World.cell?_setCell_far _ _ _ _ h2').trans ((World.cell?_setCell_far _ _ _ _ h2').trans c2))
          refine wpAnyH_take (i := 0) (oi := _) (v := ?_) rfl (by kernel_rfl) (by kernel_rfl) (by kernel_rfl) (fun _ _ _ h => h) (Or.inl ⟨by rfl, ?_⟩) (by assumption) ?_
          rotate_left
          · (intro w hSw; (try dsimp only at hSw); (try go_simp); (try with_reducible rfl))
          (try simp only [Act.put, List.setIfInBounds_toArray, List.set_cons_zero, List.set_cons_succ])
          refine wpAnyH_take (i := 1) (oi := _) (v := ?_) rfl (by kernel_rfl) (by kernel_rfl) (by kernel_rfl) (fun _ _ _ h => h) (Or.inl ⟨by rfl, ?_⟩) (by assumption) ?_
          rotate_left
          · (intro w hSw; (try dsimp only at hSw); (try go_simp); (try with_reducible rfl))
          (try simp only [Act.put, List.setIfInBounds_toArray, List.set_cons_zero, List.set_cons_succ])
          refine wpAnyH_take (i := 2) (oi := _) (v := ?_) rfl (by kernel_rfl) (by kernel_rfl) (by kernel_rfl) (fun _ _ _ h => h) (Or.inl ⟨by rfl, ?_⟩) (by assumption) ?_
          rotate_left
          · (intro w hSw; (try dsimp only at hSw); (try go_simp); (try with_reducible rfl))
          (try simp only [Act.put, List.setIfInBounds_toArray, List.set_cons_zero, List.set_cons_succ])
          refine wpAnyH_take (i := 3) (oi := _) (v := ?_) rfl (by kernel_rfl) (by kernel_rfl) (by kernel_rfl) (fun _ _ _ h => h) (Or.inl ⟨by rfl, ?_⟩) (by assumption) ?_
          rotate_left
          · (intro w hSw; (try dsimp only at hSw); (try go_simp); (try with_reducible rfl))
          (try simp only [Act.put, List.setIfInBounds_toArray, List.set_cons_zero, List.set_cons_succ])
          refine wpAnyH_take (i := 4) (oi := _) (v := ?_) rfl (by kernel_rfl) (by kernel_rfl) (by kernel_rfl) (fun _ _ _ h => h) (Or.inl ⟨by rfl, ?_⟩) (by assumption) ?_
          rotate_left
          · (intro w hSw; (try dsimp only at hSw); (try go_simp); (try with_reducible rfl))
          (try simp only [Act.put, List.setIfInBounds_toArray, List.set_cons_zero, List.set_cons_succ])
          refine wpAnyH_take (i := 5) (oi := _) (v := ?_) rfl (by kernel_rfl) (by kernel_rfl) (by kernel_rfl) (fun _ _ _ h => h) (Or.inl ⟨by rfl, ?_⟩) (by assumption) ?_
          rotate_left
          · (intro w hSw; (try dsimp only at hSw); (try go_simp); (try with_reducible rfl))
          (try simp only [Act.put, List.setIfInBounds_toArray, List.set_cons_zero, List.set_cons_succ])
          refine wpAnyH_take (i := 6) (oi := _) (v := ?_) rfl (by kernel_rfl) (by kernel_rfl) (by kernel_rfl) (fun _ _ _ h => h) (Or.inl ⟨by rfl, ?_⟩) (by assumption) ?_
          rotate_left
          · (intro w hSw; (try dsimp only at hSw); (try go_simp); (try with_reducible rfl))
          (try simp only [Act.put, List.setIfInBounds_toArray, List.set_cons_zero, List.set_cons_succ])
          refine wpAnyH_take (i := 8) (oi := _) (v := ?_) rfl (by kernel_rfl) (by kernel_rfl) (by kernel_rfl) (fun _ _ _ h => h) (Or.inl ⟨by rfl, ?_⟩) (by assumption) ?_
          rotate_left
          · (intro w hSw; (try dsimp only at hSw); (try go_simp); (try with_reducible rfl))
          (try simp only [Act.put, List.setIfInBounds_toArray, List.set_cons_zero, List.set_cons_succ])
          refine wpAnyH_take (i := 9) (oi := _) (v := ?_) rfl (by kernel_rfl) (by kernel_rfl) (by kernel_rfl) (fun _ _ _ h => h) (Or.inl ⟨by rfl, ?_⟩) (by assumption) ?_
          rotate_left
          · (intro w hSw; (try dsimp only at hSw); (try go_simp); (try with_reducible rfl))
          (try simp only [Act.put, List.setIfInBounds_toArray, List.set_cons_zero, List.set_cons_succ])
          refine wpAnyH_take (i := 10) (oi := _) (v := ?_) rfl (by kernel_rfl) (by kernel_rfl) (by kernel_rfl) (fun _ _ _ h => h) (Or.inl ⟨by rfl, ?_⟩) (by assumption) ?_
          rotate_left
          · (intro w hSw; (try dsimp only at hSw); (try go_simp); (try with_reducible rfl))
          (try simp only [Act.put, List.setIfInBounds_toArray, List.set_cons_zero, List.set_cons_succ])
          refine wpAnyH_ready (rs := [7, 11]) (by kernel_rfl) (by simp) ?_
          refine AllReadyH.cons (o := _) rfl (fun K hK => ?_) ?_
          · go_simp
            refine hK.out _ _ ?_ (fun hHeld2 => ?_)
            · (first | exact c2 | exact (World.cell?_setCell_far _ _ _ _ h2').trans c2 | exact (World.cell?_setCell_far _ _ _ _ h2').trans ((World.cell?_setCell_far _ _ _ _ h2').trans c2))
            clear hK K hHeld
            have hHeld := hHeld2
            clear hHeld2
            (try simp only [Act.put, List.setIfInBounds_toArray, List.set_cons_zero, List.set_cons_succ])
            refine wpAnyH_ready (rs := [11]) (by kernel_rfl) (by simp) ?_
            refine AllReadyH.cons (o := _) rfl (fun K hK => ?_) ?_
            · go_simp
              refine hK.out _ _ ?_ (fun hHeld2 => ?_)
              · (first | exact c2 | exact (World.cell?_setCell_far _ _ _ _ h2').trans c2 | exact (World.cell?_setCell_far _ _ _ _ h2').trans ((World.cell?_setCell_far _ _ _ _ h2').trans c2))
              clear hK K hHeld
              have hHeld := hHeld2
              clear hHeld2
              (try simp only [Act.put, List.setIfInBounds_toArray, List.set_cons_zero, List.set_cons_succ])
              refine wpAnyH_take (i := 12) (oi := _) (v := ?_) rfl (by kernel_rfl) (by kernel_rfl) (by kernel_rfl) (fun _ _ _ h => h) (Or.inl ⟨by rfl, ?_⟩) (by assumption) ?_
              rotate_left
              · (intro w hSw; (try dsimp only at hSw); (try go_simp); (try with_reducible rfl))
              (try simp only [Act.put, List.setIfInBounds_toArray, List.set_cons_zero, List.set_cons_succ])
              refine wpAnyH_ready (rs := [13]) (by kernel_rfl) (by simp) ?_
              refine AllReadyH.cons (o := _) rfl (fun K hK => ?_) ?_
              · go_simp
                refine hK.out _ _ ?_ (fun hHeld2 => ?_)
                · (first | exact c2 | exact (World.cell?_setCell_far _ _ _ _ h2').trans c2 | exact (World.cell?_setCell_far _ _ _ _ h2').trans ((World.cell?_setCell_far _ _ _ _ h2').trans c2))
                clear hK K hHeld
                have hHeld := hHeld2
                clear hHeld2
                (try simp only [Act.put, List.setIfInBounds_toArray, List.set_cons_zero, List.set_cons_succ])
                refine wpAnyH_take (i := 14) (oi := _) (v := ?_) rfl (by kernel_rfl) (by kernel_rfl) (by kernel_rfl) (fun _ _ _ h => h) (Or.inl ⟨by rfl, ?_⟩) (by assumption) ?_
                rotate_left
                · (intro w hSw; (try dsimp only at hSw); (try go_simp); (try with_reducible rfl))
                (try simp only [Act.put, List.setIfInBounds_toArray, List.set_cons_zero, List.set_cons_succ])
                refine wpAnyH_ready (rs := [15]) (by kernel_rfl) (by simp) ?_
                refine AllReadyH.cons (o := _) rfl (fun K hK => ?_) ?_
                · go_simp
                  refine hK.out _ _ ?_ (fun hHeld2 => ?_)
                  · (first | exact c2 | exact (World.cell?_setCell_far _ _ _ _ h2').trans c2 | exact (World.cell?_setCell_far _ _ _ _ h2').trans ((World.cell?_setCell_far _ _ _ _ h2').trans c2))
                  clear hK K hHeld
                  have hHeld := hHeld2
                  clear hHeld2
                  (try simp only [Act.put, List.setIfInBounds_toArray, List.set_cons_zero, List.set_cons_succ])
                  refine wpAnyH_done (by kernel_rfl) ?_ _
                  exact hFin
                exact AllReadyH.nil
              exact AllReadyH.nil
            exact AllReadyH.nil
          refine AllReadyH.cons (o := _) rfl (fun K hK => ?_) ?_
          · go_simp
            refine hK.out _ _ ?_ (fun hHeld2 => ?_)
            · (first | exact c2 | exact (World.cell?_setCell_far _ _ _ _ h2').trans c2 | exact (World.cell?_setCell_far _ _ _ _ h2').trans ((World.cell?_setCell_far _ _ _ _ h2').trans c2))
            clear hK K hHeld
            have hHeld := hHeld2
            clear hHeld2
            (try simp only [Act.put, List.setIfInBounds_toArray, List.set_cons_zero, List.set_cons_succ])
            refine wpAnyH_ready (rs := [7]) (by kernel_rfl) (by simp) ?_
            refine AllReadyH.cons (o := _) rfl (fun K hK => ?_) ?_
            · go_simp
              refine hK.out _ _ ?_ (fun hHeld2 => ?_)
              · (first | exact c2 | exact (World.cell?_setCell_far _ _ _ _ h2').trans c2 | exact (World.cell?_setCell_far _ _ _ _ h2').trans ((World.cell?_setCell_far _ _ _ _ h2').trans c2))
              clear hK K hHeld
              have hHeld := hHeld2
              clear hHeld2
              (try simp only [Act.put, List.setIfInBounds_toArray, List.set_cons_zero, List.set_cons_succ])
              refine wpAnyH_take (i := 12) (oi := _) (v := ?_) rfl (by kernel_rfl) (by kernel_rfl) (by kernel_rfl) (fun _ _ _ h => h) (Or.inl ⟨by rfl, ?_⟩) (by assumption) ?_
              rotate_left
              · (intro w hSw; (try dsimp only at hSw); (try go_simp); (try with_reducible rfl))
              (try simp only [Act.put, List.setIfInBounds_toArray, List.set_cons_zero, List.set_cons_succ])
              refine wpAnyH_ready (rs := [13]) (by kernel_rfl) (by simp) ?_
              refine AllReadyH.cons (o := _) rfl (fun K hK => ?_) ?_
              · go_simp
                refine hK.out _ _ ?_ (fun hHeld2 => ?_)
                · (first | exact c2 | exact (World.cell?_setCell_far _ _ _ _ h2').trans c2 | exact (World.cell?_setCell_far _ _ _ _ h2').trans ((World.cell?_setCell_far _ _ _ _ h2').trans c2))
                clear hK K hHeld
                have hHeld := hHeld2
                clear hHeld2
                (try simp only [Act.put, List.setIfInBounds_toArray, List.set_cons_zero, List.set_cons_succ])
                refine wpAnyH_take (i := 14) (oi := _) (v := ?_) rfl (by kernel_rfl) (by kernel_rfl) (by kernel_rfl) (fun _ _ _ h => h) (Or.inl ⟨by rfl, ?_⟩) (by assumption) ?_
                rotate_left
                · (intro w hSw; (try dsimp only at hSw); (try go_simp); (try with_reducible rfl))
                (try simp only [Act.put, List.setIfInBounds_toArray, List.set_cons_zero, List.set_cons_succ])
                refine wpAnyH_ready (rs := [15]) (by kernel_rfl) (by simp) ?_
                refine AllReadyH.cons (o := _) rfl (fun K hK => ?_) ?_
                · go_simp
                  refine hK.out _ _ ?_ (fun hHeld2 => ?_)
                  · (first | exact c2 | exact (World.cell?_setCell_far _ _ _ _ h2').trans c2 | exact (World.cell?_setCell_far _ _ _ _ h2').trans ((World.cell?_setCell_far _ _ _ _ h2').trans c2))
                  clear hK K hHeld
                  have hHeld := hHeld2
                  clear hHeld2
                  (try simp only [Act.put, List.setIfInBounds_toArray, List.set_cons_zero, List.set_cons_succ])
                  refine wpAnyH_done (by kernel_rfl) ?_ _
                  exact hFin
                exact AllReadyH.nil
              exact AllReadyH.nil
            exact AllReadyH.nil
          exact AllReadyH.nil
        have hX6 : LB ((wr.setCell ⟨lb, i, none⟩ (.int .i64 xk)).setCell ⟨lb, k, none⟩ (.int .i64 xi)).drew lb (swp x i k) := by
          have := LB.swap HX.out i k
          rw [HXi.out, HXk.out] at this
          exact this
        have K1 := Blk.swapped (i := i) (k := k) (u := .int .i64 xk) (v := .int .i64 xi) (Ext.refl wr) h1
        have K2 := Blk.swapped (i := i) (k := k) (u := .int .i64 xk) (v := .int .i64 xi) (Ext.refl wr) h2
        have K3 := Blk.swapped (i := i) (k := k) (u := .int .i64 xk) (v := .int .i64 xi) (Ext.refl wr) h3
        have hV6 : Vars ((wr.setCell ⟨lb, i, none⟩ (.int .i64 xk)).setCell ⟨lb, k, none⟩ (.int .i64 xi)).drew nn nB liB fB lb := ⟨K1 _ _ HV.out.n, K2 _ _ HV.out.l, ⟨tf, K3 _ _ HFB.out⟩⟩
        have hJ6 := hJ _ _ _ HJ.out (grown_drew (grown_lb (Ext.refl wr) lb i k (.int .i64 xk) (.int .i64 xi)))
        have P1 := Lib.hid (fun cs t (h : Blk W nB cs t) => K1 cs t (HK.out.k1 cs t h))
        have P2 := Lib.hid (fun cs t (h : Blk W liB cs t) => K2 cs t (HK.out.k2 cs t h))
        have P3 := Lib.hid (fun cs t (h : Blk W fB cs t) => K3 cs t (HK.out.k3 cs t h))
        have P1 := Lib.hid (show ∀ cs t, Blk W nB cs t → Blk ((wr.setCell ⟨lb, i, none⟩ (.int .i64 xk)).setCell ⟨lb, k, none⟩ (.int .i64 xi)).drew nB cs t from P1.out)
        have P2 := Lib.hid (show ∀ cs t, Blk W liB cs t → Blk ((wr.setCell ⟨lb, i, none⟩ (.int .i64 xk)).setCell ⟨lb, k, none⟩ (.int .i64 xi)).drew liB cs t from P2.out)
        have P3 := Lib.hid (show ∀ cs t, Blk W fB cs t → Blk ((wr.setCell ⟨lb, i, none⟩ (.int .i64 xk)).setCell ⟨lb, k, none⟩ (.int .i64 xi)).drew fB cs t from P3.out)
        clear K1 K2 K3 e1 e2 e3 f1 f2 c1 c2 HJ
        generalize ((wr.setCell ⟨lb, i, none⟩ (.int .i64 xk)).setCell ⟨lb, k, none⟩ (.int .i64 xi)).drew = w6 at *
        have HJ6 := Lib.hid hJ6
        obtain ⟨tf2, hf2⟩ := hV6.f
        have c3 := hf2.cell (i := 0) rfl
        clear hJ6 hf2
        go_wp2_with (go_at_call 112; refine (HIH.out _ hV6 hX6 HJ6.out HN2.out).mono ?_; rintro e w7 ⟨rfl, hJ7, hK7⟩)
        have hV7 := hV6.kp hK7
        have hX7 := hK7.k4 _ _ hX6
        have HV := Lib.hid hV7
        have HX : Hid (LB w7 lb (swp x i k)) := Lib.hid hX7
        have HJ := Lib.hid hJ7
        have P1 := Lib.hid (fun cs t (h : Blk W nB cs t) => hK7.k1 cs t (P1.out cs t h))
        have P2 := Lib.hid (fun cs t (h : Blk W liB cs t) => hK7.k2 cs t (P2.out cs t h))
        have P3 := Lib.hid (fun cs t (h : Blk W fB cs t) => hK7.k3 cs t (P3.out cs t h))
        obtain ⟨tf3, hf3⟩ := hV7.f
        have HFB := Lib.hid hf3
        have c2 := hV7.l.cell (i := 0) (v := .slice (some ⟨lb, 0, none⟩) nn nn) rfl
        have gx := HG1.out
        have gk := HG2.out
        have e1 := HX.out.cellAt (i := i) (by rw [HSL.out, HL.out]; omega)
        have e2 := HX.out.cellAt (i := k) (by rw [HSL.out, HL.out]; omega)
        rw [gx] at e1
        rw [gk] at e2
        have e3 : (w7.setCell ⟨lb, i, none⟩ (.int .i64 xi)).cell? ⟨lb, k, none⟩ = some (.int .i64 xi) := by
          by_cases hik : i = k
          · subst hik; exact World.cell?_setCell_same' _ _ _ (by rw [e1]; rfl)
          · rw [World.cell?_setCell_other _ _ _ _ (fun e => hik (by injection e))]; exact e2
        have f1 := HX.out.free i
        have f2 := HX.out.free k
        clear hV6 hX6 hV7 hX7 hK7 hJ7 hf3 c3 gx gk HJ6
        go_upto_region 8 with fail
        refine of_imp (A := ?A2) ?region2 ?cont2
        case region2 =>
          intro hFin
          refine wp_region_held_drew (S := (fun w' => w'.cell? ⟨liB, 0, none⟩ = some (.slice (some ⟨lb, 0, none⟩) nn nn))) (by kernel_rfl) ?_ (fun hHeld => ?_)
          · (first | exact c2 | exact (World.cell?_setCell_far _ _ _ _ h2').trans c2 | exact (World.cell?_setCell_far _ _ _ _ h2').trans ((World.cell?_setCell_far _ _ _ _ h2').trans c2))
          refine wpAnyH_take (i := 0) (oi := _) (v := ?_) rfl (by kernel_rfl) (by kernel_rfl) (by kernel_rfl) (fun _ _ _ h => h) (Or.inl ⟨by rfl, ?_⟩) (by assumption) ?_
          rotate_left
          · (intro w hSw; (try dsimp only at hSw); (try go_simp); (try with_reducible rfl))
          (try simp only [Act.put, List.setIfInBounds_toArray, List.set_cons_zero, List.set_cons_succ])
          refine wpAnyH_take (i := 1) (oi := _) (v := ?_) rfl (by kernel_rfl) (by kernel_rfl) (by kernel_rfl) (fun _ _ _ h => h) (Or.inl ⟨by rfl, ?_⟩) (by assumption) ?_
          rotate_left
          · (intro w hSw; (try dsimp only at hSw); (try go_simp); (try with_reducible rfl))
          (try simp only [Act.put, List.setIfInBounds_toArray, List.set_cons_zero, List.set_cons_succ])
          refine wpAnyH_take (i := 2) (oi := _) (v := ?_) rfl (by kernel_rfl) (by kernel_rfl) (by kernel_rfl) (fun _ _ _ h => h) (Or.inl ⟨by rfl, ?_⟩) (by assumption) ?_
          rotate_left
          · (intro w hSw; (try dsimp only at hSw); (try go_simp); (try with_reducible rfl))
          (try simp only [Act.put, List.setIfInBounds_toArray, List.set_cons_zero, List.set_cons_succ])
          refine wpAnyH_take (i := 3) (oi := _) (v := ?_) rfl (by kernel_rfl) (by kernel_rfl) (by kernel_rfl) (fun _ _ _ h => h) (Or.inl ⟨by rfl, ?_⟩) (by assumption) ?_
          rotate_left
          · (intro w hSw; (try dsimp only at hSw); (try go_simp); (try with_reducible rfl))
          (try simp only [Act.put, List.setIfInBounds_toArray, List.set_cons_zero, List.set_cons_succ])
          refine wpAnyH_take (i := 4) (oi := _) (v := ?_) rfl (by kernel_rfl) (by kernel_rfl) (by kernel_rfl) (fun _ _ _ h => h) (Or.inl ⟨by rfl, ?_⟩) (by assumption) ?_
          rotate_left
          · (intro w hSw; (try dsimp only at hSw); (try go_simp); (try with_reducible rfl))
          (try simp only [Act.put, List.setIfInBounds_toArray, List.set_cons_zero, List.set_cons_succ])
          refine wpAnyH_take (i := 5) (oi := _) (v := ?_) rfl (by kernel_rfl) (by kernel_rfl) (by kernel_rfl) (fun _ _ _ h => h) (Or.inl ⟨by rfl, ?_⟩) (by assumption) ?_
          rotate_left
          · (intro w hSw; (try dsimp only at hSw); (try go_simp); (try with_reducible rfl))
          (try simp only [Act.put, List.setIfInBounds_toArray, List.set_cons_zero, List.set_cons_succ])
          refine wpAnyH_take (i := 6) (oi := _) (v := ?_) rfl (by kernel_rfl) (by kernel_rfl) (by kernel_rfl) (fun _ _ _ h => h) (Or.inl ⟨by rfl, ?_⟩) (by assumption) ?_
          rotate_left
          · (intro w hSw; (try dsimp only at hSw); (try go_simp); (try with_reducible rfl))
          (try simp only [Act.put, List.setIfInBounds_toArray, List.set_cons_zero, List.set_cons_succ])
          refine wpAnyH_take (i := 8) (oi := _) (v := ?_) rfl (by kernel_rfl) (by kernel_rfl) (by kernel_rfl) (fun _ _ _ h => h) (Or.inl ⟨by rfl, ?_⟩) (by assumption) ?_
          rotate_left
          · (intro w hSw; (try dsimp only at hSw); (try go_simp); (try with_reducible rfl))
          (try simp only [Act.put, List.setIfInBounds_toArray, List.set_cons_zero, List.set_cons_succ])
          refine wpAnyH_take (i := 9) (oi := _) (v := ?_) rfl (by kernel_rfl) (by kernel_rfl) (by kernel_rfl) (fun _ _ _ h => h) (Or.inl ⟨by rfl, ?_⟩) (by assumption) ?_
          rotate_left
          · (intro w hSw; (try dsimp only at hSw); (try go_simp); (try with_reducible rfl))
          (try simp only [Act.put, List.setIfInBounds_toArray, List.set_cons_zero, List.set_cons_succ])
          refine wpAnyH_take (i := 10) (oi := _) (v := ?_) rfl (by kernel_rfl) (by kernel_rfl) (by kernel_rfl) (fun _ _ _ h => h) (Or.inl ⟨by rfl, ?_⟩) (by assumption) ?_
          rotate_left
          · (intro w hSw; (try dsimp only at hSw); (try go_simp); (try with_reducible rfl))
          (try simp only [Act.put, List.setIfInBounds_toArray, List.set_cons_zero, List.set_cons_succ])
          refine wpAnyH_ready (rs := [7, 11]) (by kernel_rfl) (by simp) ?_
          refine AllReadyH.cons (o := _) rfl (fun K hK => ?_) ?_
          · go_simp
            refine hK.out _ _ ?_ (fun hHeld2 => ?_)
            · (first | exact c2 | exact (World.cell?_setCell_far _ _ _ _ h2').trans c2 | exact (World.cell?_setCell_far _ _ _ _ h2').trans ((World.cell?_setCell_far _ _ _ _ h2').trans c2))
            clear hK K hHeld
            have hHeld := hHeld2
            clear hHeld2
            (try simp only [Act.put, List.setIfInBounds_toArray, List.set_cons_zero, List.set_cons_succ])
            refine wpAnyH_ready (rs := [11]) (by kernel_rfl) (by simp) ?_
            refine AllReadyH.cons (o := _) rfl (fun K hK => ?_) ?_
            · go_simp
              refine hK.out _ _ ?_ (fun hHeld2 => ?_)
              · (first | exact c2 | exact (World.cell?_setCell_far _ _ _ _ h2').trans c2 | exact (World.cell?_setCell_far _ _ _ _ h2').trans ((World.cell?_setCell_far _ _ _ _ h2').trans c2))
              clear hK K hHeld
              have hHeld := hHeld2
              clear hHeld2
              (try simp only [Act.put, List.setIfInBounds_toArray, List.set_cons_zero, List.set_cons_succ])
              refine wpAnyH_take (i := 12) (oi := _) (v := ?_) rfl (by kernel_rfl) (by kernel_rfl) (by kernel_rfl) (fun _ _ _ h => h) (Or.inl ⟨by rfl, ?_⟩) (by assumption) ?_
              rotate_left
              · (intro w hSw; (try dsimp only at hSw); (try go_simp); (try with_reducible rfl))
              (try simp only [Act.put, List.setIfInBounds_toArray, List.set_cons_zero, List.set_cons_succ])
              refine wpAnyH_ready (rs := [13]) (by kernel_rfl) (by simp) ?_
              refine AllReadyH.cons (o := _) rfl (fun K hK => ?_) ?_
              · go_simp
                refine hK.out _ _ ?_ (fun hHeld2 => ?_)
                · (first | exact c2 | exact (World.cell?_setCell_far _ _ _ _ h2').trans c2 | exact (World.cell?_setCell_far _ _ _ _ h2').trans ((World.cell?_setCell_far _ _ _ _ h2').trans c2))
                clear hK K hHeld
                have hHeld := hHeld2
                clear hHeld2
                (try simp only [Act.put, List.setIfInBounds_toArray, List.set_cons_zero, List.set_cons_succ])
                refine wpAnyH_take (i := 14) (oi := _) (v := ?_) rfl (by kernel_rfl) (by kernel_rfl) (by kernel_rfl) (fun _ _ _ h => h) (Or.inl ⟨by rfl, ?_⟩) (by assumption) ?_
                rotate_left
                · (intro w hSw; (try dsimp only at hSw); (try go_simp); (try with_reducible rfl))
                (try simp only [Act.put, List.setIfInBounds_toArray, List.set_cons_zero, List.set_cons_succ])
                refine wpAnyH_ready (rs := [15]) (by kernel_rfl) (by simp) ?_
                refine AllReadyH.cons (o := _) rfl (fun K hK => ?_) ?_
                · go_simp
                  refine hK.out _ _ ?_ (fun hHeld2 => ?_)
                  · (first | exact c2 | exact (World.cell?_setCell_far _ _ _ _ h2').trans c2 | exact (World.cell?_setCell_far _ _ _ _ h2').trans ((World.cell?_setCell_far _ _ _ _ h2').trans c2))
                  clear hK K hHeld
                  have hHeld := hHeld2
                  clear hHeld2
                  (try simp only [Act.put, List.setIfInBounds_toArray, List.set_cons_zero, List.set_cons_succ])
                  refine wpAnyH_done (by kernel_rfl) ?_ _
                  exact hFin
                exact AllReadyH.nil
              exact AllReadyH.nil
            exact AllReadyH.nil
          refine AllReadyH.cons (o := _) rfl (fun K hK => ?_) ?_
          · go_simp
            refine hK.out _ _ ?_ (fun hHeld2 => ?_)
            · (first | exact c2 | exact (World.cell?_setCell_far _ _ _ _ h2').trans c2 | exact (World.cell?_setCell_far _ _ _ _ h2').trans ((World.cell?_setCell_far _ _ _ _ h2').trans c2))
            clear hK K hHeld
            have hHeld := hHeld2
            clear hHeld2
            (try simp only [Act.put, List.setIfInBounds_toArray, List.set_cons_zero, List.set_cons_succ])
            refine wpAnyH_ready (rs := [7]) (by kernel_rfl) (by simp) ?_
            refine AllReadyH.cons (o := _) rfl (fun K hK => ?_) ?_
            · go_simp
              refine hK.out _ _ ?_ (fun hHeld2 => ?_)
              · (first | exact c2 | exact (World.cell?_setCell_far _ _ _ _ h2').trans c2 | exact (World.cell?_setCell_far _ _ _ _ h2').trans ((World.cell?_setCell_far _ _ _ _ h2').trans c2))
              clear hK K hHeld
              have hHeld := hHeld2
              clear hHeld2
              (try simp only [Act.put, List.setIfInBounds_toArray, List.set_cons_zero, List.set_cons_succ])
              refine wpAnyH_take (i := 12) (oi := _) (v := ?_) rfl (by kernel_rfl) (by kernel_rfl) (by kernel_rfl) (fun _ _ _ h => h) (Or.inl ⟨by rfl, ?_⟩) (by assumption) ?_
              rotate_left
              · (intro w hSw; (try dsimp only at hSw); (try go_simp); (try with_reducible rfl))
              (try simp only [Act.put, List.setIfInBounds_toArray, List.set_cons_zero, List.set_cons_succ])
              refine wpAnyH_ready (rs := [13]) (by kernel_rfl) (by simp) ?_
              refine AllReadyH.cons (o := _) rfl (fun K hK => ?_) ?_
              · go_simp
                refine hK.out _ _ ?_ (fun hHeld2 => ?_)
                · (first | exact c2 | exact (World.cell?_setCell_far _ _ _ _ h2').trans c2 | exact (World.cell?_setCell_far _ _ _ _ h2').trans ((World.cell?_setCell_far _ _ _ _ h2').trans c2))
                clear hK K hHeld
                have hHeld := hHeld2
                clear hHeld2
                (try simp only [Act.put, List.setIfInBounds_toArray, List.set_cons_zero, List.set_cons_succ])
                refine wpAnyH_take (i := 14) (oi := _) (v := ?_) rfl (by kernel_rfl) (by kernel_rfl) (by kernel_rfl) (fun _ _ _ h => h) (Or.inl ⟨by rfl, ?_⟩) (by assumption) ?_
                rotate_left
                · (intro w hSw; (try dsimp only at hSw); (try go_simp); (try with_reducible rfl))
                (try simp only [Act.put, List.setIfInBounds_toArray, List.set_cons_zero, List.set_cons_succ])
                refine wpAnyH_ready (rs := [15]) (by kernel_rfl) (by simp) ?_
                refine AllReadyH.cons (o := _) rfl (fun K hK => ?_) ?_
                · go_simp
                  refine hK.out _ _ ?_ (fun hHeld2 => ?_)
                  · (first | exact c2 | exact (World.cell?_setCell_far _ _ _ _ h2').trans c2 | exact (World.cell?_setCell_far _ _ _ _ h2').trans ((World.cell?_setCell_far _ _ _ _ h2').trans c2))
                  clear hK K hHeld
                  have hHeld := hHeld2
                  clear hHeld2
                  (try simp only [Act.put, List.setIfInBounds_toArray, List.set_cons_zero, List.set_cons_succ])
                  refine wpAnyH_done (by kernel_rfl) ?_ _
                  exact hFin
                exact AllReadyH.nil
              exact AllReadyH.nil
            exact AllReadyH.nil
          exact AllReadyH.nil
        have hX8 : LB ((w7.setCell ⟨lb, i, none⟩ (.int .i64 xi)).setCell ⟨lb, k, none⟩ (.int .i64 xk)).drew lb x := by
          have := LB.swap HX.out i k
          rw [HG1.out, HG2.out, HSS.out] at this
          exact this
        have K1 := Blk.swapped (i := i) (k := k) (u := .int .i64 xi) (v := .int .i64 xk) (Ext.refl w7) h1
        have K2 := Blk.swapped (i := i) (k := k) (u := .int .i64 xi) (v := .int .i64 xk) (Ext.refl w7) h2
        have K3 := Blk.swapped (i := i) (k := k) (u := .int .i64 xi) (v := .int .i64 xk) (Ext.refl w7) h3
        have hV8 : Vars ((w7.setCell ⟨lb, i, none⟩ (.int .i64 xi)).setCell ⟨lb, k, none⟩ (.int .i64 xk)).drew nn nB liB fB lb := ⟨K1 _ _ HV.out.n, K2 _ _ HV.out.l, ⟨tf3, K3 _ _ HFB.out⟩⟩
        have hJ8 := hJ _ _ _ HJ.out (grown_drew (grown_lb (Ext.refl w7) lb i k (.int .i64 xi) (.int .i64 xk)))
        have hK8 : KpO nB liB fB lb W ((w7.setCell ⟨lb, i, none⟩ (.int .i64 xi)).setCell ⟨lb, k, none⟩ (.int .i64 xk)).drew := KpO.of (fun cs t h => K1 cs t (P1.out cs t h)) (fun cs t h => K2 cs t (P2.out cs t h)) (fun cs t h => K3 cs t (P3.out cs t h)) hx hX8
        clear e1 e2 e3 f1 f2 c2 K1 K2 K3
        generalize ((w7.setCell ⟨lb, i, none⟩ (.int .i64 xi)).setCell ⟨lb, k, none⟩ (.int .i64 xk)).drew = w8 at *
        go_wp2_with fail
        go_roundw
        case rel => exact ⟨d + 1, by omega, by rw [Hk.out]; go_num, hV8, hX8, hK8, by rw [HS.out, ← List.append_assoc]; exact hJ8⟩
        case measure => simp [intOf]; omega
      · obtain rfl : d = f + 1 := by omega
        go_wp2_with fail
        go_ret
        exact ⟨rfl, hjr, hkr⟩
end Go.Proofs.YtmcbbhlglccmgaaGreat
