import Derived.Test.YtmcbbhlglccmgaaGreatWSroot
namespace Go.Proofs.YtmcbbhlglccmgaaGreat
set_option linter.unusedSimpArgs false
set_option linter.unusedVariables false

theorem cs_both (least : Int) : ∀ (k : Nat) (l : List Int) (s : Int), cs least k l s + cs (1 - least) k (l.map fun x => -x) (-s) = bin l.length k
  | 0, l, s => by
    simp only [cs, bin_zero]
    by_cases h : least ≤ s
    · rw [if_pos h, if_neg (by omega)]
    · rw [if_neg h, if_pos (by omega)]
  | k + 1, [], s => rfl
  | k + 1, x :: l, s => by
    have h1 := cs_both least k l (s + x)
    have h2 := cs_both least (k + 1) l s
    simp only [cs, List.map_cons, List.length_cons, bin_succ]
    rw [show -s + -x = -(s + x) by omega]
    omega
theorem cs_bin (least : Int) (k : Nat) (l : List Int) : cs least k l 0 + cs (1 - least) k (l.map fun x => -x) 0 = bin l.length k := cs_both least k l 0
theorem cs_le_bin (least : Int) (k : Nat) (l : List Int) (s : Int) : cs least k l s ≤ bin l.length k := by have := cs_both least k l s; omega
/-! Layer 42, plain: the sets of entries by their bits. -/
theorem range_two_pow (n : Nat) : List.range (2 ^ (n + 1)) = List.range (2 ^ n) ++ (List.range (2 ^ n)).map (2 ^ n + ·) := by
  rw [Nat.pow_succ, Nat.mul_two, List.range_add]
/-- Bit i of a set. -/
def bitN (s i : Nat) : Nat := s / 2 ^ i % 2
def szW (s : Nat) : Nat → Nat
  | 0 => 0
  | n + 1 => szW s n + bitN s n
def smW (d : List Int) (s : Nat) : Nat → Int
  | 0 => 0
  | n + 1 => smW d s n + if bitN s n = 1 then d.getD n 0 else 0
theorem bitN_lt {s n : Nat} (h : s < 2 ^ n) : bitN s n = 0 := by
  unfold bitN
  rw [Nat.div_eq_of_lt h]
theorem bitN_hi {s n : Nat} (h : s < 2 ^ n) : bitN (2 ^ n + s) n = 1 := by
  unfold bitN
  rw [Nat.add_div_left _ (Nat.two_pow_pos n), Nat.div_eq_of_lt h]
theorem bitN_lo {s n i : Nat} (h : i < n) : bitN (2 ^ n + s) i = bitN s i := by
  unfold bitN
  obtain ⟨k, rfl⟩ : ∃ k, n = i + (k + 1) := ⟨n - i - 1, by omega⟩
  rw [Nat.pow_add, Nat.mul_add_div (Nat.two_pow_pos i), Nat.pow_succ, Nat.add_mod, Nat.mul_mod_left]
  simp
theorem szW_lo {s n : Nat} : ∀ i, i ≤ n → szW (2 ^ n + s) i = szW s i := by
  intro i
  induction i with
  | zero => intro _; rfl
  | succ i ih => intro h; unfold szW; rw [ih (by omega), bitN_lo (by omega)]
theorem smW_lo {d : List Int} {s n : Nat} : ∀ i, i ≤ n → smW d (2 ^ n + s) i = smW d s i := by
  intro i
  induction i with
  | zero => intro _; rfl
  | succ i ih => intro h; unfold smW; rw [ih (by omega), bitN_lo (by omega)]
theorem smW_app (d e : List Int) (s : Nat) : ∀ i, i ≤ d.length → smW (d ++ e) s i = smW d s i := by
  intro i
  induction i with
  | zero => intro _; rfl
  | succ i ih => intro h; unfold smW; rw [ih (by omega)]; simp only [List.getD_eq_getElem?_getD]; rw [List.getElem?_append_left (by omega)]
theorem smW_neg (d : List Int) (s : Nat) : ∀ i, smW (d.map fun x => -x) s i = - smW d s i := by
  intro i
  induction i with
  | zero => rfl
  | succ i ih =>
    unfold smW
    rw [ih]
    simp only [List.getD_eq_getElem?_getD, List.getElem?_map]
    split
    · cases d[i]? <;> simp <;> omega
    · simp
theorem subs_bits (d : List Int) : subs d = (List.range (2 ^ d.length)).map fun s => (szW s d.length, smW d s d.length) := by
  obtain ⟨e, he⟩ : ∃ e, e = d.reverse := ⟨_, rfl⟩
  have : d = e.reverse := by rw [he, List.reverse_reverse]
  subst this
  clear he
  induction e with
  | nil => rfl
  | cons x e ih =>
    rw [List.reverse_cons, subs_snoc, ih]
    generalize e.reverse = d
    rw [List.length_append, List.length_singleton, range_two_pow, List.map_append]
    unfold growS
    congr 1
    · refine List.map_congr_left fun s hs => ?_
      have hs := List.mem_range.1 hs
      refine Prod.ext ?_ ?_
      · show szW s d.length = szW s d.length + bitN s d.length
        rw [bitN_lt hs]; rfl
      · show smW d s d.length = smW (d ++ [x]) s d.length + if bitN s d.length = 1 then _ else 0
        rw [bitN_lt hs, smW_app _ _ _ _ (Nat.le_refl _)]; simp
    · rw [List.map_map, List.map_map]
      refine List.map_congr_left fun s hs => ?_
      have hs := List.mem_range.1 hs
      refine Prod.ext ?_ ?_
      · show szW s d.length + 1 = szW (2 ^ d.length + s) d.length + bitN (2 ^ d.length + s) d.length
        rw [bitN_hi hs, szW_lo _ (Nat.le_refl _)]
      · show smW d s d.length + x = smW (d ++ [x]) (2 ^ d.length + s) d.length + if bitN (2 ^ d.length + s) d.length = 1 then (d ++ [x]).getD d.length 0 else 0
        rw [bitN_hi hs, smW_lo _ (Nat.le_refl _), smW_app _ _ _ _ (Nat.le_refl _)]
        simp
theorem hits_bits (d : List Int) (k : Nat) (least : Int) : (List.range (2 ^ d.length)).countP (fun s => szW s d.length == k && decide (least ≤ smW d s d.length)) = cs least k d 0 := by
  rw [← cnt_subs, subs_bits, List.countP_map]
  rfl
theorem cases_bits (d : List Int) (k : Nat) : (List.range (2 ^ d.length)).countP (fun s => szW s d.length == k) = bin d.length k := by
  have h1 := hits_bits d k 0
  have h2 : (List.range (2 ^ d.length)).countP (fun s => szW s d.length == k && decide (1 ≤ - smW d s d.length)) = cs 1 k (d.map fun x => -x) 0 := by
    have := hits_bits (d.map fun x => -x) k 1
    rw [List.length_map] at this
    rw [← this]
    congr 1
    funext s
    congr 2
    rw [smW_neg]
  rw [← cs_bin 0 k d, ← h1, show (1 : Int) - 0 = 1 by rfl, ← h2]
  induction List.range (2 ^ d.length) with
  | nil => rfl
  | cons s l ih =>
    simp only [List.countP_cons]
    rw [ih]
    cases szW s d.length == k
    · simp
    · by_cases h : (0 : Int) ≤ smW d s d.length
      · have : ¬ (1 : Int) ≤ - smW d s d.length := by omega
        simp [h, this]; omega
      · have : (1 : Int) ≤ - smW d s d.length := by omega
        simp [h, this]; omega
end Go.Proofs.YtmcbbhlglccmgaaGreat

namespace Go.Proofs.YtmcbbhlglccmgaaGreat
open Go.RowKit Go BigFrame Go.Shelf
set_option maxRecDepth 100000
set_option linter.unusedSimpArgs false
set_option linter.unusedVariables false

/-! Layer 42, plain: all orders of n numbers, as the law lists them. -/
theorem swp_mem {x : List Int} {i k : Nat} (hi : i < x.length) (hk : k < x.length) : (swp x i k).Perm x := by
  by_cases e : i = k
  · subst e
    have : swp x i i = x := by
      refine List.ext_getElem (by simp [swp_length]) fun j h1 h2 => ?_
      have g : ∀ (l : List Int) (h : j < l.length), l[j] = l.getD j 0 := fun l h => by simp [List.getD, h]
      rw [g _ h1, g _ h2, swp_getD x hi hk]
      by_cases a : j = i <;> simp_all
    rw [this]
  · refine List.perm_iff_count.2 fun a => ?_
    unfold swp
    rw [List.count_set (by simpa using hk), List.count_set hi, List.getElem_set_ne e]
    have h1 : x.getD k 0 = x[k] := by simp [List.getD, hk]
    have h2 : x.getD i 0 = x[i] := by simp [List.getD, hi]
    simp only [h1, h2]
    have c1 : (if x[i] = a then 1 else 0) ≤ x.count a := by
      split
      · rename_i h; exact List.count_pos_iff.2 (h ▸ List.getElem_mem hi)
      · omega
    have c2 : (if x[k] = a then 1 else 0) ≤ x.count a := by
      split
      · rename_i h; exact List.count_pos_iff.2 (h ▸ List.getElem_mem hk)
      · omega
    simp only [beq_iff_eq]
    split <;> split <;> simp_all <;> omega

/-- Every order that the program makes is one of the numbers at hand. -/
theorem gen_perm : ∀ (f i : Nat) (x : List Int), i + f = x.length → ∀ p ∈ gen f i x, p.Perm x ∧ ∀ j, j < i → p.getD j 0 = x.getD j 0 := by
  intro f
  induction f with
  | zero => intro i x _ p hp; simp only [gen, List.mem_singleton] at hp; subst hp; exact ⟨.refl _, fun _ _ => rfl⟩
  | succ f ih =>
    intro i x hx p hp
    simp only [gen, List.mem_flatMap, List.mem_range] at hp
    obtain ⟨d, hd, hp⟩ := hp
    obtain ⟨h1, h2⟩ := ih (i + 1) (swp x i (i + d)) (by rw [swp_length]; omega) p hp
    refine ⟨h1.trans (swp_mem (by omega) (by omega)), fun j hj => ?_⟩
    rw [h2 j (by omega), swp_getD x (by omega) (by omega), if_neg (by omega), if_neg (by omega)]

theorem gen_at : ∀ (f i : Nat) (x : List Int), i + (f + 1) = x.length → ∀ d, d < f + 1 → ∀ p ∈ gen f (i + 1) (swp x i (i + d)), p.getD i 0 = x.getD (i + d) 0 := by
  intro f i x hx d hd p hp
  rw [(gen_perm f (i + 1) _ (by rw [swp_length]; omega) p hp).2 i (by omega), swp_getD x (by omega) (by omega)]
  by_cases h : d = 0
  · subst h; simp
  · rw [if_neg (by omega), if_pos rfl]

/-- No order comes twice. -/
theorem gen_nodup : ∀ (f i : Nat) (x : List Int), i + f = x.length → x.Nodup → (gen f i x).Nodup := by
  intro f
  induction f with
  | zero => intro i x _ _; simp [gen]
  | succ f ih =>
    intro i x hx hn
    have hT : ∀ d, d ≤ f + 1 → (genTo f i d x).Nodup := by
      intro d
      induction d with
      | zero => intro _; simp [genTo]
      | succ d ihd =>
        intro hd
        rw [genTo_succ]
        refine List.nodup_append.2 ⟨ihd (by omega), ih _ _ (by rw [swp_length]; omega) ((swp_mem (by omega) (by omega)).nodup_iff.2 hn), fun p hp q hq e => ?_⟩
        subst e
        simp only [genTo, List.mem_flatMap, List.mem_range] at hp
        obtain ⟨d', hd', hp⟩ := hp
        have e1 := gen_at f i x hx d' (by omega) p hp
        have e2 := gen_at f i x hx d (by omega) p hq
        rw [e1] at e2
        have l1 : i + d' < x.length := by omega
        have l2 : i + d < x.length := by omega
        simp only [List.getD, List.getElem?_eq_getElem l1, List.getElem?_eq_getElem l2, Option.getD_some] at e2
        exact absurd e2 (List.pairwise_iff_getElem.1 hn (i + d') (i + d) l1 l2 (by omega))
    exact hT (f + 1) (Nat.le_refl _)
theorem iota_nodup (n : Nat) : (iota n).Nodup := by
  unfold iota
  rw [List.nodup_iff_pairwise_ne, List.pairwise_map]
  exact List.Pairwise.imp (fun h e => h (by omega)) List.nodup_range
theorem iota_mem (n : Nat) (x : Int) : x ∈ iota n ↔ 0 ≤ x ∧ x < n := by
  simp only [iota, List.mem_map, List.mem_range]
  constructor
  · rintro ⟨i, hi, rfl⟩; omega
  · intro h; exact ⟨x.toNat, by omega, by omega⟩

def ordP (n : Nat) (p : List Int) (k : Nat) : List (List Int) := (List.range k).map fun at_ => p.take at_ ++ (n : Int) :: p.drop at_
def ordersL : Nat → List (List Int)
  | 0 => [[]]
  | n + 1 => (ordersL n).flatMap fun p => ordP n p (n + 1)
theorem iota_succ (n : Nat) : iota (n + 1) = iota n ++ [(n : Int)] := by simp [iota, List.range_succ]
theorem iota_len (n : Nat) : (iota n).length = n := by simp [iota]
theorem ordersL_mem : ∀ (n : Nat) (p : List Int), p.Perm (iota n) → p ∈ ordersL n := by
  intro n
  induction n with
  | zero =>
    intro p h
    have : p = [] := List.Perm.eq_nil h
    subst this
    exact List.mem_singleton.2 rfl
  | succ n ih =>
    intro p h
    have hm : (n : Int) ∈ p := h.mem_iff.2 (by rw [iota_succ]; simp)
    obtain ⟨a, b, rfl⟩ := List.append_of_mem hm
    have h2 : ((n : Int) :: (a ++ b)).Perm ((n : Int) :: iota n) := (List.perm_middle.symm.trans h).trans (by rw [iota_succ]; exact List.perm_append_singleton _ _)
    have h3 := h2.cons_inv
    have hl : (a ++ b).length = n := by rw [h3.length_eq, iota_len]
    refine List.mem_flatMap.2 ⟨a ++ b, ih _ h3, List.mem_map.2 ⟨a.length, List.mem_range.2 (by rw [List.length_append] at hl; omega), ?_⟩⟩
    rw [List.take_left, List.drop_left]
theorem ordersL_length : ∀ n : Nat, (ordersL n).length = fact n := by
  intro n
  induction n with
  | zero => rfl
  | succ n ih =>
    show ((ordersL n).flatMap fun p => ordP n p (n + 1)).length = fact (n + 1)
    have : ∀ l : List (List Int), (l.flatMap fun p => ordP n p (n + 1)).length = (n + 1) * l.length := by
      intro l
      induction l with
      | nil => rfl
      | cons p l ih2 =>
        rw [List.flatMap_cons, List.length_append, ih2, List.length_cons, Nat.mul_add]
        simp [ordP]
        omega
    rw [this, ih]
    rfl
theorem ordersL_perm (n : Nat) : (gen n 0 (iota n)).Perm (ordersL n) :=
  perm_of_subset _ _ (gen_nodup n 0 (iota n) (by simp [iota_len]) (iota_nodup n)) (fun p hp => ordersL_mem n p (gen_perm n 0 (iota n) (by simp [iota_len]) p hp).1)
    (by rw [ordersL_length, gen_length]; exact Nat.le_refl _)
theorem ordersL_of {n : Nat} {p : List Int} (h : p ∈ ordersL n) : p.Perm (iota n) ∧ p.length = n ∧ ∀ x ∈ p, 0 ≤ x ∧ x < n := by
  have h1 := (gen_perm n 0 (iota n) (by simp [iota_len]) p ((ordersL_perm n).mem_iff.2 h)).1
  exact ⟨h1, by rw [h1.length_eq, iota_len], fun x hx => (iota_mem n x).1 (h1.mem_iff.1 hx)⟩
theorem cnt_orders (pt : Int → Int → Int) (l m : List Int) (least : Int) : (ordersL l.length).countP (fun p => decide (least ≤ psum pt l m p l.length)) = cntG pt l m least :=
  ((ordersL_perm l.length).countP_eq _).symm
/-- Of all cases, at most as many lead to a count that is not greater, as this count says. -/
theorem valid_law (xs : List Int) {x : Int} (hx : x ∈ xs) : xs.countP (fun y => decide (xs.countP (fun z => decide (y ≤ z)) ≤ xs.countP (fun z => decide (x ≤ z)))) ≤ xs.countP (fun z => decide (x ≤ z)) := by
  refine List.countP_mono_left fun y hy h => ?_
  have h1 := of_decide_eq_true h
  refine decide_eq_true ?_
  rcases Int.lt_or_le y x with hlt | hle
  · exfalso
    have : xs.countP (fun z => decide (x ≤ z)) + 1 ≤ xs.countP (fun z => decide (y ≤ z)) := by
      clear h h1 hx
      induction xs with
      | nil => cases hy
      | cons a l ih =>
        simp only [List.countP_cons]
        rcases List.mem_cons.1 hy with rfl | hy
        · have e1 : List.countP (fun z => decide (x ≤ z)) l ≤ List.countP (fun z => decide (y ≤ z)) l := List.countP_mono_left fun z _ hz => by
            have := of_decide_eq_true hz
            exact decide_eq_true (by omega)
          have e2 : ¬ x ≤ y := by omega
          simp [e2]
          omega
        · have := ih hy
          by_cases e : x ≤ a
          · have e2 : y ≤ a := by omega
            simp [e, e2]; omega
          · simp [e]; split <;> omega
    omega
  · exact hle
end Go.Proofs.YtmcbbhlglccmgaaGreat

namespace Go.Proofs.YtmcbbhlglccmgaaGreat
open Go.RowKit Go BigFrame Go.Shelf
set_option maxRecDepth 100000

theorem gen_all : ∀ (f i : Nat) (x p : List Int), i + f = x.length → x.Nodup → p.Perm x → (∀ j, j < i → p.getD j 0 = x.getD j 0) → p ∈ gen f i x := by
  intro f
  induction f with
  | zero =>
    intro i x p hx hn hp hj
    simp only [gen, List.mem_singleton]
    have hl := hp.length_eq
    refine List.ext_getElem hl fun j h1 h2 => ?_
    have := hj j (by omega)
    simpa [List.getD, h1, h2] using this
  | succ f ih =>
    intro i x p hx hn hp hj
    have hl := hp.length_eq
    have hip : i < p.length := by omega
    have hpn : p.Nodup := hp.nodup_iff.2 hn
    have hm : p[i] ∈ x := hp.mem_iff.1 (List.getElem_mem hip)
    obtain ⟨j, hjx, hjp⟩ := List.getElem_of_mem hm
    have hij : i ≤ j := by
      rcases Nat.lt_or_ge j i with h | h
      · have e := hj j h
        have hjp' : j < p.length := by omega
        simp only [List.getD, List.getElem?_eq_getElem hjx, List.getElem?_eq_getElem hjp', Option.getD_some] at e
        exact absurd (e.trans hjp) (List.pairwise_iff_getElem.1 hpn j i hjp' hip h)
      · exact h
    obtain ⟨d, rfl⟩ : ∃ d, j = i + d := ⟨j - i, by omega⟩
    simp only [gen, List.mem_flatMap, List.mem_range]
    refine ⟨d, by omega, ih (i + 1) _ p (by rw [swp_length]; omega) ((swp_mem (by omega) (by omega)).nodup_iff.2 hn) (hp.trans (swp_mem (by omega) (by omega)).symm) fun k hk => ?_⟩
    rw [swp_getD x (by omega) (by omega)]
    by_cases e : k = i
    · subst e
      have g1 : p.getD k 0 = x.getD (k + d) 0 := by simp [List.getD, hip, hjx, hjp]
      by_cases hd : d = 0
      · subst hd; simpa using g1
      · rw [if_neg (by omega), if_pos rfl, g1]
    · rw [if_neg (by omega), if_neg e]
      exact hj k (by omega)
/-- All the orders of n. -/
def G (n : Nat) : List (List Int) := gen n 0 (iota n)
theorem G_nodup (n : Nat) : (G n).Nodup := gen_nodup n 0 _ (by rw [iota_len]; omega) (iota_nodup n)
structure Ord (n : Nat) (p : List Int) : Prop where
  len : p.length = n
  rng : ∀ x ∈ p, 0 ≤ x ∧ x < (n : Int)
  nd : p.Nodup
theorem G_mem {n : Nat} {p : List Int} : p ∈ G n ↔ Ord n p := by
  constructor
  · intro h
    have h := (gen_perm n 0 _ (by rw [iota_len]; omega) p h).1
    exact ⟨h.length_eq.trans (iota_len n), fun x hx => (iota_mem n x).1 (h.mem_iff.1 hx), h.nodup_iff.2 (iota_nodup n)⟩
  · intro h
    exact gen_all n 0 _ _ (by rw [iota_len]; omega) (iota_nodup n) (perm_of_subset _ _ h.nd (fun a ha => (iota_mem n a).2 (h.rng a ha)) (by rw [iota_len, h.len]; exact Nat.le_refl _)) (fun j hj => by omega)
theorem Ord.perm {n : Nat} {p : List Int} (h : Ord n p) : p.Perm (iota n) := perm_of_subset _ _ h.nd (fun a ha => (iota_mem n a).2 (h.rng a ha)) (by rw [iota_len, h.len]; exact Nat.le_refl _)
theorem Ord.at {n : Nat} {p : List Int} (h : Ord n p) {j : Nat} (hj : j < n) : 0 ≤ p.getD j 0 ∧ p.getD j 0 < (n : Int) := by
  refine h.rng _ ?_
  simp only [List.getD, List.getElem?_eq_getElem (show j < p.length by rw [h.len]; exact hj), Option.getD_some]
  exact List.getElem_mem _
theorem nodup_map {α β : Type} {f : α → β} : ∀ {l : List α}, l.Nodup → (∀ a ∈ l, ∀ b ∈ l, f a = f b → a = b) → (l.map f).Nodup
  | [], _, _ => by simp
  | a :: l, h, hf => by
    obtain ⟨h1, h2⟩ := List.nodup_cons.1 h
    rw [List.map_cons, List.nodup_cons]
    refine ⟨fun hm => ?_, nodup_map h2 (fun x hx y hy => hf x (by simp [hx]) y (by simp [hy]))⟩
    obtain ⟨b, hb, e⟩ := List.mem_map.1 hm
    exact h1 (hf b (by simp [hb]) a (by simp) e ▸ hb)
/-- An exchange of orders with themselves does not change a count. -/
theorem count_inv {n : Nat} (σ : List Int → List Int) (h1 : ∀ p, Ord n p → Ord n (σ p)) (h2 : ∀ p, Ord n p → σ (σ p) = p) (q : List Int → Bool) : (G n).countP q = (G n).countP (fun p => q (σ p)) := by
  have hn : ((G n).map σ).Nodup := nodup_map (G_nodup n) (fun a ha b hb e => by rw [← h2 a (G_mem.1 ha), e, h2 b (G_mem.1 hb)])
  have hp : ((G n).map σ).Perm (G n) := perm_of_subset _ _ hn (fun x hx => by
    obtain ⟨p, hp, rfl⟩ := List.mem_map.1 hx
    exact G_mem.2 (h1 p (G_mem.1 hp))) (by simp)
  rw [← hp.countP_eq q, List.countP_map]
  rfl

/-- Where a number stands. -/
def idx : List Int → Int → Nat
  | [], _ => 0
  | x :: p, v => if x = v then 0 else idx p v + 1
theorem idx_mem : ∀ {p : List Int} {v : Int}, v ∈ p → idx p v < p.length ∧ p.getD (idx p v) 0 = v
  | [], _, h => by simp at h
  | x :: p, v, h => by
    unfold idx
    by_cases e : x = v
    · rw [if_pos e]; subst e; simp
    · rw [if_neg e]
      have := idx_mem (p := p) (v := v) (by rcases List.mem_cons.1 h with h | h; exact absurd h.symm e; exact h)
      refine ⟨by simp; omega, ?_⟩
      rw [List.getD_cons_succ]; exact this.2
theorem idx_at : ∀ {p : List Int} {j : Nat}, p.Nodup → j < p.length → idx p (p.getD j 0) = j
  | [], _, _, h => by simp at h
  | x :: p, 0, _, _ => by simp [idx]
  | x :: p, j + 1, hn, h => by
    obtain ⟨h1, h2⟩ := List.nodup_cons.1 hn
    have hj : j < p.length := by simpa using h
    rw [List.getD_cons_succ]
    unfold idx
    have : x ≠ p.getD j 0 := fun e => h1 (by rw [e]; simp only [List.getD, List.getElem?_eq_getElem hj, Option.getD_some]; exact List.getElem_mem _)
    rw [if_neg this, idx_at h2 hj]
def inv (n : Nat) (p : List Int) : List Int := (List.range n).map fun (v : Nat) => ((idx p (v : Int) : Nat) : Int)
theorem inv_at {n : Nat} {p : List Int} {v : Nat} (hv : v < n) : (inv n p).getD v 0 = ((idx p (v : Int) : Nat) : Int) := by simp [inv, List.getD, hv]
theorem Ord.has {n : Nat} {p : List Int} (h : Ord n p) {v : Nat} (hv : v < n) : (v : Int) ∈ p := h.perm.mem_iff.2 ((iota_mem n v).2 ⟨by omega, by omega⟩)
theorem inv_ord {n : Nat} {p : List Int} (h : Ord n p) : Ord n (inv n p) := by
  refine ⟨by simp [inv], fun x hx => ?_, ?_⟩
  · simp only [inv, List.mem_map, List.mem_range] at hx
    obtain ⟨v, hv, rfl⟩ := hx
    have := (idx_mem (h.has hv)).1
    rw [h.len] at this
    omega
  · unfold inv
    refine nodup_map List.nodup_range (fun a ha b hb e => ?_)
    simp only [List.mem_range] at ha hb
    have e1 := (idx_mem (h.has ha)).2
    have e2 := (idx_mem (h.has hb)).2
    have e3 : idx p (a : Int) = idx p (b : Int) := by omega
    rw [e3, e2] at e1
    omega
theorem list_eq {l m : List Int} (h : l.length = m.length) (e : ∀ j, j < l.length → l.getD j 0 = m.getD j 0) : l = m :=
  List.ext_getElem h fun j h1 h2 => by have := e j h1; simpa [List.getD, h1, h2] using this
theorem inv_inv {n : Nat} {p : List Int} (h : Ord n p) : inv n (inv n p) = p := by
  refine list_eq (by rw [(inv_ord (inv_ord h)).len, h.len]) fun v hv => ?_
  rw [(inv_ord (inv_ord h)).len] at hv
  rw [inv_at hv]
  obtain ⟨a, b⟩ := h.at hv
  obtain ⟨j, hj⟩ : ∃ j : Nat, p.getD v 0 = (j : Int) := ⟨(p.getD v 0).toNat, by omega⟩
  have e1 : (inv n p).getD j 0 = (v : Int) := by
    rw [inv_at (by omega), ← hj, idx_at h.nd (by rw [h.len]; exact hv)]
  rw [hj]
  have := idx_at (j := j) (inv_ord h).nd (by rw [(inv_ord h).len]; omega)
  rw [e1] at this
  rw [this]
theorem sum_perm {α : Type} (f : α → Int) {l m : List α} (h : l.Perm m) : (l.map f).sum = (m.map f).sum := by
  induction h with
  | nil => rfl
  | cons x _ ih => simp [ih]
  | swap x y l => simp only [List.map_cons, List.sum_cons]; omega
  | trans _ _ h1 h2 => exact h1.trans h2
theorem sm_list (f : Int → Int) (p : List Int) : ∀ k, k ≤ p.length → sm k (fun i => f (p.getD i 0)) = ((p.take k).map f).sum := by
  intro k
  induction k with
  | zero => intro _; simp [sm]
  | succ k ih =>
    intro hk
    simp only [sm]
    rw [ih (by omega), List.take_add_one, List.getElem?_eq_getElem (by omega), List.map_append, List.sum_append]
    simp only [List.getD, List.getElem?_eq_getElem (show k < p.length by omega), Option.getD_some, Option.toList_some, List.map_cons, List.map_nil, List.sum_cons, List.sum_nil]
    omega
theorem sm_order (f : Int → Int) {n : Nat} {p : List Int} (h : Ord n p) : sm n (fun i => f (p.getD i 0)) = sm n (fun i => f (i : Int)) := by
  have h1 := sm_list f p n (by rw [h.len]; exact Nat.le_refl _)
  have h2 := sm_list f (iota n) n (by rw [iota_len]; exact Nat.le_refl _)
  rw [List.take_of_length_le (by rw [h.len]; exact Nat.le_refl _)] at h1
  rw [List.take_of_length_le (by rw [iota_len]; exact Nat.le_refl _)] at h2
  rw [h1, sum_perm f h.perm, ← h2]
  exact sm_congr fun i hi => by simp [iota, List.getD, hi]
theorem psum_inv (pt : Int → Int → Int) (l m : List Int) {n : Nat} {p : List Int} (h : Ord n p) : psum (fun x y => pt y x) m l (inv n p) n = psum pt l m p n := by
  have h1 := sm_order (fun v => pt (l.getD (idx p v) 0) (m.getD v.toNat 0)) h
  unfold psum
  rw [show sm n (fun i => (fun x y => pt y x) (m.getD i 0) (l.getD ((inv n p).getD i 0).toNat 0)) = sm n (fun i => pt (l.getD (idx p (i : Int)) 0) (m.getD ((i : Nat) : Int).toNat 0)) from sm_congr fun i hi => by
    rw [inv_at hi]; simp]
  rw [← h1]
  exact sm_congr fun i hi => by rw [idx_at h.nd (by rw [h.len]; exact hi)]
/-- The lists may be exchanged. -/
theorem cntG_flip (pt : Int → Int → Int) (l m : List Int) (s : Int) (hl : l.length = m.length) : cntG (fun x y => pt y x) m l s = cntG pt l m s := by
  unfold cntG cntL
  rw [hl]
  have h := count_inv (n := m.length) (inv m.length) (fun p h => inv_ord h) (fun p h => inv_inv h) (fun p => decide (s ≤ psum (fun x y => pt y x) m l p m.length))
  have e : gen m.length 0 (iota m.length) = G m.length := rfl
  rw [e, h]
  refine List.countP_congr fun p hp => ?_
  rw [psum_inv pt l m (G_mem.1 hp)]
def tau (i j v : Int) : Int := if v = i then j else if v = j then i else v
theorem tau_tau (i j v : Int) : tau i j (tau i j v) = v := by
  unfold tau
  by_cases h1 : v = i
  · rw [if_pos h1]; by_cases h2 : j = i
    · rw [if_pos h2, h2, h1]
    · rw [if_neg h2, if_pos rfl, h1]
  · rw [if_neg h1]
    by_cases h2 : v = j
    · rw [if_pos h2, if_pos rfl, h2]
    · rw [if_neg h2, if_neg h1, if_neg h2]
theorem tau_ord {n i j : Nat} (hi : i < n) (hj : j < n) {p : List Int} (h : Ord n p) : Ord n (p.map (tau i j)) := by
  refine ⟨by simp [h.len], fun x hx => ?_, nodup_map h.nd (fun a _ b _ e => by rw [← tau_tau (i : Int) (j : Int) a, e, tau_tau])⟩
  obtain ⟨y, hy, rfl⟩ := List.mem_map.1 hx
  have := h.rng y hy
  unfold tau
  split
  · omega
  · split <;> omega
/-- The elements of the second list may be exchanged. -/
theorem cntG_swp (pt : Int → Int → Int) (l m : List Int) (s : Int) {i j : Nat} (hl : l.length = m.length) (hi : i < m.length) (hj : j < m.length) : cntG pt l (swp m i j) s = cntG pt l m s := by
  unfold cntG cntL
  have h2 : ∀ p : List Int, (p.map (tau i j)).map (tau i j) = p := fun p => by
    rw [List.map_map]
    have : (tau (i : Int) (j : Int) ∘ tau (i : Int) (j : Int)) = id := funext fun x => tau_tau _ _ _
    rw [this, List.map_id]
  have h := count_inv (n := l.length) (fun p => p.map (tau i j)) (fun p h => tau_ord (by omega) (by omega) h) (fun p _ => h2 p) (fun p => decide (s ≤ psum pt l m p l.length))
  have e : gen l.length 0 (iota l.length) = G l.length := rfl
  rw [e, h]
  refine List.countP_congr fun p hp => ?_
  have ho := G_mem.1 hp
  have : psum pt l (swp m i j) p l.length = psum pt l m (p.map (tau i j)) l.length := by
    unfold psum
    refine sm_congr fun k hk => ?_
    have hpk : (p.map (tau i j)).getD k 0 = tau i j (p.getD k 0) := by simp [List.getD, show k < p.length by rw [ho.len]; exact hk]
    obtain ⟨a, b⟩ := ho.at hk
    rw [hpk, swp_getD m hi hj]
    congr 1
    unfold tau
    by_cases h1 : p.getD k 0 = (i : Int)
    · rw [if_pos h1]
      by_cases h2 : (p.getD k 0).toNat = j
      · rw [if_pos h2, show ((j : Nat) : Int).toNat = i by omega]
      · rw [if_neg h2, if_pos (by omega), show ((j : Nat) : Int).toNat = j by omega]
    · rw [if_neg h1]
      by_cases h2 : p.getD k 0 = (j : Int)
      · rw [if_pos h2, if_pos (by omega), show ((i : Nat) : Int).toNat = i by omega]
      · rw [if_neg h2, if_neg (by omega), if_neg (by omega)]
  rw [this]
theorem cntG_mono (pt : Int → Int → Int) (l m : List Int) {s t : Int} (h : s ≤ t) : cntG pt l m t ≤ cntG pt l m s := by
  unfold cntG cntL
  refine List.countP_mono_left fun p _ hp => ?_
  simp only [decide_eq_true_eq] at hp ⊢
  omega
theorem psum_neg (l m p : List Int) (k : Nat) : psum mulP (l.map fun x => -x) m p k = - psum mulP l m p k := by
  induction k with
  | zero => rfl
  | succ k ih =>
    rw [psum_succ, psum_succ, ih]
    have : (l.map fun x => -x).getD k 0 = - l.getD k 0 := by
      by_cases h : k < l.length
      · simp [List.getD, h]
      · simp [List.getD, Nat.le_of_not_lt h]
    rw [this]
    unfold mulP
    rw [Int.neg_mul]; omega
theorem cntG_neg (l m : List Int) (s : Int) : cntG mulP l m s + cntG mulP (l.map fun x => -x) m (1 - s) = fact l.length := by
  have h : ∀ L : List (List Int), cntL mulP l m s L + cntL mulP (l.map fun x => -x) m (1 - s) L = L.length := by
    intro L
    unfold cntL
    rw [List.length_map]
    induction L with
    | nil => rfl
    | cons p L ih =>
      rw [List.countP_cons, List.countP_cons, List.length_cons, psum_neg]
      by_cases h : s ≤ psum mulP l m p l.length
      · rw [decide_eq_true h, decide_eq_false (by omega)]; simp; omega
      · rw [decide_eq_false h, decide_eq_true (by omega)]; simp; omega
  unfold cntG
  rw [List.length_map, h, gen_length]
theorem cntG_le (pt : Int → Int → Int) (l m : List Int) (s : Int) : cntG pt l m s ≤ fact l.length := by
  unfold cntG
  have := cntL_le pt l m s (gen l.length 0 (iota l.length))
  rwa [gen_length] at this
end Go.Proofs.YtmcbbhlglccmgaaGreat

