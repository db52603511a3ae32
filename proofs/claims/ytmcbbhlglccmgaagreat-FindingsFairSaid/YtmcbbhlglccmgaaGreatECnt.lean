import Derived.Test.YtmcbbhlglccmgaaGreatEOrd
import Derived.Test.YtmcbbhlglccmgaaGreatSum
namespace Go.Proofs.YtmcbbhlglccmgaaGreat
open Go.RowKit Go Go.Shelf
set_option maxRecDepth 100000
set_option linter.unusedSimpArgs false

attribute [local go_sem] Oper.semAt_some

theorem Vars.ext {A B : World} {nn nB liB fB lb : Nat} (h : Vars A nn nB liB fB lb) (k : Ext A B) : Vars B nn nB liB fB lb := ⟨h.n.ext k, h.l.ext k, by obtain ⟨t, ht⟩ := h.f; exact ⟨t, ht.ext k⟩⟩
theorem iota_ok (n : Nat) : Okp n (iota n) := ⟨by simp [iota], fun j hj => by simp [iota, List.getD, hj]⟩

set_option maxHeartbeats 1000000 in
/-- orders(n) hands back a range over all orders. -/
theorem orders_seq (n nn nB liB fB lb : Nat) (w : World) (hnn : nn ≤ 100) (hV : Vars w nn nB liB fB lb) (hx : LB w lb (iota nn)) (h1 : nB ≠ lb) (h2 : liB ≠ lb) (h3 : fB ≠ lb) :
    SeqX n Tryz.prog 113 #[.pointer (some ⟨fB, 0, none⟩)] (fun _ : List Int => #[.slice (some ⟨lb, 0, none⟩) nn nn]) (fun x W => LB W lb x ∧ Okp nn x) (KpO nB liB fB lb) (fun A B => A.grownBy B (some lb))
      (fun xs => xs = gen nn 0 (iota nn)) (gen nn 0 (iota nn)).length w := fun l J W hW hJ hY h0 => by
  have hV' := hV.ext hW
  have hx' := Blk.ext hx hW
  have hF := Lib.hid (from_in l nB liB fB lb nn (gen nn 0 (iota nn)).length h1 h2 h3 hnn J hJ (fun m pre x W1 hj hl ho hlen => yieldAt_any m (hY pre x W1 hj ⟨hl, ho⟩ hlen)) nn 0 rfl [] (iota nn) W (iota_ok nn) hV' hx' h0 (by simp))
  obtain ⟨tf, hf⟩ := hV'.f
  have c1 := hf.cell (i := 0) rfl
  refine callsIn_wide.2 ?_
  clear hV' hx' hf hV hx
  go_enter Tryz.func113, Tryz.ntmps113
  go_wp2_with (go_at_call 112; refine hF.out.mono ?_; rintro e w7 ⟨rfl, hJ7, hK7⟩)
  go_end0
  exact ⟨⟨_, rfl⟩, _, rfl, by simpa using hJ7⟩

/-- The sum over the pairs of an order. -/
def psum (pt : Int → Int → Int) (l m p : List Int) (k : Nat) : Int := sm k (fun i => pt (l.getD i 0) (m.getD (p.getD i 0).toNat 0))
def cntL (pt : Int → Int → Int) (l m : List Int) (least : Int) (ps : List (List Int)) : Nat := ps.countP fun p => decide (least ≤ psum pt l m p l.length)
def cntG (pt : Int → Int → Int) (l m : List Int) (least : Int) : Nat := cntL pt l m least (gen l.length 0 (iota l.length))
theorem cntL_snoc (pt : Int → Int → Int) (l m : List Int) (least : Int) (ps : List (List Int)) (p : List Int) : cntL pt l m least (ps ++ [p]) = cntL pt l m least ps + if least ≤ psum pt l m p l.length then 1 else 0 := by
  unfold cntL; rw [List.countP_append]; by_cases h : least ≤ psum pt l m p l.length <;> simp [h]
theorem cntL_le (pt : Int → Int → Int) (l m : List Int) (least : Int) (ps : List (List Int)) : cntL pt l m least ps ≤ ps.length := List.countP_le_length
end Go.Proofs.YtmcbbhlglccmgaaGreat
