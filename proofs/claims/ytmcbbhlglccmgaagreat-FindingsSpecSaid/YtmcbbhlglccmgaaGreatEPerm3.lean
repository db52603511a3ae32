import Derived.Test.YtmcbbhlglccmgaaGreatERef2
import Derived.Test.YtmcbbhlglccmgaaGreatEOrd
namespace Go.Proofs.YtmcbbhlglccmgaaGreat
open Go.RowKit Go BigFrame Go.Shelf
set_option maxRecDepth 100000
set_option linter.unusedSimpArgs false

theorem perm_of_subset {α : Type} [DecidableEq α] : ∀ (p l : List α), p.Nodup → (∀ a ∈ p, a ∈ l) → l.length ≤ p.length → p.Perm l
  | [], l, _, _, h => by
    have : l = [] := List.length_eq_zero_iff.1 (by simpa using h)
    subst this
    exact .refl _
  | a :: p, l, hn, hs, h => by
    have ha : a ∈ l := hs a (by simp)
    have hc := List.nodup_cons.1 hn
    have hl := List.length_erase_of_mem ha
    have h0 := List.length_pos_of_mem ha
    refine ((perm_of_subset p (l.erase a) hc.2 (fun x hx => (List.mem_erase_of_ne (show x ≠ a from fun e => hc.1 (e ▸ hx))).2 (hs x (by simp [hx]))) (by simp only [List.length_cons] at h; omega)).cons a).trans (List.perm_cons_erase ha).symm

end Go.Proofs.YtmcbbhlglccmgaaGreat
