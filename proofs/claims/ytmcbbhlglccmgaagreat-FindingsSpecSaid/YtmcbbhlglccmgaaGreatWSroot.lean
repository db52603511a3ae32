import Derived.Test.YtmcbbhlglccmgaaGreatQL0
import Derived.Test.YtmcbbhlglccmgaaGreatELaw1
import Derived.Test.YtmcbbhlglccmgaaGreatNCh
import Derived.Test.YtmcbbhlglccmgaaGreatPNews
import Derived.Test.YtmcbbhlglccmgaaGreatR0
import Derived.Test.YtmcbbhlglccmgaaGreatPRefCh
namespace Go.Proofs.YtmcbbhlglccmgaaGreat
/-! Roots: what layer 42 takes, in the seat of FindingsSpec, FindingsFair, FindingsOrders (for prune.py; no claim needs this text for itself). -/
theorem useWS1 : True := by
  have := @ratio_Make; have := @ratio_Of_ok; have := @nat_Choose; have := @exact_Subsets_any; have := @exact_Orders_any; have := @exact_Matches_any; have := @rMakeR; have := @same_rat; have := @same_zero; have := @same_val
  have := @wpl_append_ints; have := @wpl_append_ext; have := @OwnI.one; have := @OwnI.look; have := @OwnI.new; have := @OwnI.form; have := @OwnI.ext; have := @OwnI.ints; have := @Ints.news0; have := @Ints.sliced
  have := @bk1; have := @bk2; have := @bk4; have := @bp1; have := @bp2; have := @bp4; have := @bs1; have := @bs2; have := @bs4; have := @bo1; have := @bo2; have := @bo4; have := @bx1; have := @bx2; have := @bx4; have := @bf1; have := @bf2; have := @bf4; have := @bv1; have := @bv2; have := @bv4; have := @rv1; have := @rv2; have := @rv4
  have := @boxQ1; have := @boxQ2; have := @boxQ3; have := @boxQ4; have := @boxQ5; have := @later_call; have := @later_cell; have := @later_same; have := @wp_region_later; have := @of_imp; have := @of_impl; have := @cell_exQ; have := @kE
  have := @RatV.num; have := @RatV.den; have := @BigV.len0; have := @divInt_sz; have := @len_lt; have := @abs_lt; have := @len_small; have := @Big.of; have := @BigN.two; have := @RatN.base; have := @Rows.get; have := @BRows.get; have := @Bools.get; have := @Ints.get; have := @Ints.ext; have := @Rows.ext; have := @BRows.ext; have := @Bools.ext
  have := @rChoose_any; have := @rCmp_valR; have := @rcheckR_val; have := @rof_val; have := @ref_Make; have := @run_append_rat; have := @OwnRats.nil; have := @OwnRats.ext; have := @OwnRats.form; have := @OwnRats.low; have := @OwnRats.cells; have := @OwnRats.head; have := @OwnRats.lt; have := @RatV.mk; have := @RatV.offNew; have := @Sz.mono
  trivial
end Go.Proofs.YtmcbbhlglccmgaaGreat
