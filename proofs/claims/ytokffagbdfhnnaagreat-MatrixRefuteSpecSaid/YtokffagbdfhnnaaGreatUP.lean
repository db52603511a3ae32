import Derived.Test.YtokffagbdfhnnaaGreatUJ
namespace Go.Proofs.YtokffagbdfhnnaaGreat
open Go.RowKit Go BigFrame Go.Shelf
set_option maxRecDepth 100000
set_option linter.unusedSimpArgs false
set_option linter.unusedVariables false
theorem lenF_4 {n:Nat} (h:lenF n=true) (h17:n≤17):n≤4:=by
 unfold lenF at h
 simp only [Bool.or_eq_true,Bool.and_eq_true,decide_eq_true_eq] at h
 omega
theorem few_dim {A:List (List RatA)} (hf:fewA A=true) (hc:chkE A=0):A.length≤4∧widA A≤4:=by
 unfold fewA at hf
 simp only [Bool.and_eq_true] at hf
 obtain⟨h1,h2,_⟩:=chkE_0 hc
 refine⟨lenF_4 hf.1 h1,?_⟩
 by_cases h0:A.length=0
 ·rw [List.eq_nil_of_length_eq_zero h0];decide
 ·have hm:=mem_of_lt (show 0<A.length by omega)
  have h3:=List.all_eq_true.1 hf.2 _ hm
  unfold fewL at h3
  simp only [Bool.and_eq_true] at h3
  exact lenF_4 h3.1 (h2 _ hm)
theorem few_le {a b c x y z:Nat} (h1:a≤4) (h2:b≤x) (h3:c≤y) (h:16* (30* (x*y)+62)≤z):2 ^ a* (30* (b*c)+62)≤z:=by
 have e1:2 ^ a≤16:=Nat.pow_le_pow_right (by omega) h1
 have e2:b*c≤x*y:=Nat.mul_le_mul h2 h3
 exact Nat.le_trans (Nat.mul_le_mul e1 (by omega)) h
theorem few_X {A:List (List RatA)} (h1:A.length≤4) (h2:widA A≤4):FewX A:=few_le h2 h1 h2 (by decide)
theorem few_S {A:List (List RatA)} (h1:A.length≤4) (h2:widA A≤4):FewS A:=few_le h2 h1 (show widA A+1≤5 by omega) (by decide)
theorem few_T {A:List (List RatA)} (h1:A.length≤4) (h2:widA A≤4):FewT A:=few_le h1 (show widA A+1≤5 by omega) (show A.length+1≤5 by omega) (by decide)
section
variable {A:List (List RatA)} {L:List RatA}
end
end Go.Proofs.YtokffagbdfhnnaaGreat
