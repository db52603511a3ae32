import Derived.Test.YtokffagbdfhnnaaQ5
import Derived.Test.YtokffagbdfhnnaaQM1
import Derived.Test.YtokffagbdfhnnaaQR1
import Derived.Test.YtokffagbdfhnnaaQM2
import Derived.Test.YtokffagbdfhnnaaPNews
import Derived.Test.YtokffagbdfhnnaaR0
namespace Go.Proofs.Ytokffagbdfhnnaa
/-! Roots: what layer 11 takes on the program's side (for prune.py; no claim needs this text for itself). -/
theorem useUA : True := by
  have := @ratio_Make; have := @ratio_Add; have := @ratio_Sub; have := @ratio_Quo; have := @ratio_Check; have := @refR_Check; have := @rcheckR_val; have := @ref_Make; have := @okR_rat; have := @ok_val
  have := @wpl_append_ints; have := @wpl_append_ext; have := @OwnI.one; have := @OwnI.look; have := @OwnI.new; have := @OwnI.form; have := @OwnI.ext; have := @OwnI.ints; have := @Ints.news0; have := @Ints.sliced
  have := @bk1; have := @bk2; have := @bk4; have := @bp1; have := @bp2; have := @bp4; have := @bs1; have := @bs2; have := @bs4; have := @bo1; have := @bo2; have := @bo4; have := @bx1; have := @bx2; have := @bx4; have := @bf1; have := @bf2; have := @bf4; have := @bv1; have := @bv2; have := @bv4; have := @rv1; have := @rv2; have := @rv4
  have := @boxQ1; have := @boxQ2; have := @boxQ3; have := @boxQ4; have := @boxQ5; have := @later_call; have := @later_cell; have := @later_same; have := @wp_region_later; have := @of_impl; have := @cell_exQ; have := @kE
  have := @RatV.num; have := @RatV.den; have := @BigV.len0; have := @divInt_sz; have := @len_lt; have := @abs_lt; have := @len_small; have := @Big.of; have := @BigN.two; have := @RatN.base; have := @Rows.get; have := @Ints.get; have := @Ints.ext; have := @Rows.ext; have := @BRows.ext; have := @Bools.ext
  have := @run_append_rat; have := @OwnRats.nil; have := @OwnRats.ext; have := @OwnRats.form; have := @OwnRats.low; have := @OwnRats.cells; have := @OwnRats.head; have := @OwnRats.lt; have := @RatV.mk; have := @RatV.offNew; have := @Sz.mono; have := @Sz.add; have := @Sz.sub; have := @Sz.quo; have := @wpl_append_rat; have := @step_append_rat
  have := @ratio_Mul; have := @ratio_Cmp; have := @ratio_Mul_bad; have := @ratio_Add_bad; have := @cmp_val; have := @nat_Make; have := @rcmp_val; have := @Sz.mul; have := @len_lt; have := @Digs.bd; have := @dval; have := @lt_of_cell; have := @Addr.add_off
  have := @wpIn_region_held_drew; have := @wpIn_region_later_tail
  trivial
end Go.Proofs.Ytokffagbdfhnnaa
