import Derived.Test.YtokffagbdfhnnaaGreatUK
import Derived.OwnWalk
import Derived.Deep.QuietTactic
import Derived.Deep.Cut
import Derived.Deep.DeepCutAuto
namespace Go.Proofs.YtokffagbdfhnnaaGreat
open Go.RowKit Go BigFrame Go.Shelf
set_option maxRecDepth 100000
set_option linter.unusedSimpArgs false
set_option linter.unusedVariables false
attribute [local go_sem] Oper.semAt_some
theorem IsRats.ext2 {w w':World} {a:Option Addr} {c:Nat} {A:List (List RatA)} (h:RRows w a c A) (k:Ext w w'):RRows w' a c A:=RRows.ext k h
theorem numLen {n d:Int} (h:(Rat.divInt n d).num.natAbs<1073741824 ^ 3∧(Rat.divInt n d).den<1073741824 ^ 3):Len (Rat.divInt n d).num∧Len ((Rat.divInt n d).den:Int):=⟨len_lt h.1 (by omega),len_lt (by rw [Int.natAbs_natCast];exact h.2) (by omega)⟩
theorem lit_noA (w:World):∃x,w.alloc (.cells #[.bool false,.slice none 0 0,.bool false,.slice none 0 0] 44)=x∧Ext w x∧RatsI x (some ⟨w.heap.size,0,none⟩) 1 [noA]∧x.heap.size=w.heap.size+1:=lit_rats1 w (y:=noA) ⟨noRat_bad,noRat_bad⟩
set_option maxHeartbeats 16000000 in
theorem law11_sane (w:World):Calls Tryz.prog 6 #[] w fun e w'=>e=.returned (.bool true)∧Ext w w':=by
 have hx:Ext w w:=Ext.refl w
 have hmk:=Lib.hid (fun w:World=>show(Instr.makeSlice 22 (.int .i64 18) (.int .i64 18)).run Tryz.prog w=.ok (.slice (some ⟨w.heap.size,0,none⟩) 18 18) (w.alloc (.cells (Array.replicate 18 (.slice none 0 0)) 23)) by kernel_rfl)
 go_enter Tryz.func6,Tryz.ntmps6
 go_wp2_with fail
 have hnl:=numLen (n:=1) (d:=1) (by decide +kernel)
 refine(law11_numA 1 1 _ (by omega) (by omega) (by omega) hnl.1 hnl.2).mono ?_
 clear hnl
 rintro e x1 ⟨y1,rfl,hi,hk,hy⟩
 have P1:=Lib.hid hk
 clear hk
 replace hx:=hx.trans hy
 clear hy
 have I1:=Lib.hid hi
 clear hi
 go_wp2_with fail
 have hnl:=numLen (n:=2) (d:=1) (by decide +kernel)
 refine(law11_numA 2 1 _ (by omega) (by omega) (by omega) hnl.1 hnl.2).mono ?_
 clear hnl
 rintro e x2 ⟨y2,rfl,hi,hk,hy⟩
 have P2:=Lib.hid hk
 clear hk
 replace hx:=hx.trans hy
 replace I1:=Lib.hid (I1.out.ext hy)
 clear hy
 have I2:=Lib.hid hi
 clear hi
 obtain⟨x3,hw,hy,hR,hz⟩:=lit_rats2 x2 I1.out I2.out
 replace hw:=Lib.hid hw
 replace hz:=Lib.hid hz
 clear I1
 clear I2
 replace hx:=hx.trans hy
 clear hy
 have Ra:=Lib.hid hR
 clear hR
 go_wp2_with fail
 rw [hw.out]
 clear hw hz
 have hnl:=numLen (n:=2) (d:=1) (by decide +kernel)
 refine(law11_numA 2 1 _ (by omega) (by omega) (by omega) hnl.1 hnl.2).mono ?_
 clear hnl
 rintro e x4 ⟨y3,rfl,hi,hk,hy⟩
 have P3:=Lib.hid hk
 clear hk
 replace hx:=hx.trans hy
 replace Ra:=Lib.hid (Ra.out.ext hy)
 clear hy
 have I3:=Lib.hid hi
 clear hi
 go_wp2_with fail
 have hnl:=numLen (n:=4) (d:=1) (by decide +kernel)
 refine(law11_numA 4 1 _ (by omega) (by omega) (by omega) hnl.1 hnl.2).mono ?_
 clear hnl
 rintro e x5 ⟨y4,rfl,hi,hk,hy⟩
 have P4:=Lib.hid hk
 clear hk
 replace hx:=hx.trans hy
 replace Ra:=Lib.hid (Ra.out.ext hy)
 replace I3:=Lib.hid (I3.out.ext hy)
 clear hy
 have I4:=Lib.hid hi
 clear hi
 obtain⟨x6,hw,hy,hR,hz⟩:=lit_rats2 x5 I3.out I4.out
 replace hw:=Lib.hid hw
 replace hz:=Lib.hid hz
 clear I3
 clear I4
 replace hx:=hx.trans hy
 replace Ra:=Lib.hid (Ra.out.ext hy)
 clear hy
 have Rb:=Lib.hid hR
 clear hR
 obtain⟨x7,hw2,hy,hR,hz2⟩:=lit_mat2 x6 (n:=2) (n2:=2) rfl rfl Ra.out Rb.out
 replace hw2:=Lib.hid hw2
 clear hz2
 replace hx:=hx.trans hy
 replace Ra:=Lib.hid (Ra.out.ext hy)
 replace Rb:=Lib.hid (Rb.out.ext hy)
 clear hy
 have MA:=Lib.hid hR
 clear hR
 clear Ra
 clear Rb
 have HFX:Hid (FewX [[y1,y2],[y3,y4]]):=Lib.hid (by show 2 ^ 2* (30* (2*2)+62)≤40920;decide)
 have HFS:Hid (FewS [[y1,y2],[y3,y4]]):=Lib.hid (by show 2 ^ 2* (30* (2* (2+1))+62)≤40920;decide)
 have HFT:Hid (FewT [[y1,y2],[y3,y4]]):=Lib.hid (by show 2 ^ 2* (30* ((2+1)* (2+1))+62)≤40920;decide)
 go_wp2_with fail
 rw [hw.out,hw2.out]
 (try rw [←hz.out])
 clear hw hw2 hz
 generalize Array.size (World.heap x5)=gA1 at *
 generalize Array.size (World.heap x6)=gB1 at *
 refine(matrix_Rank _ _ [[y1,y2],[y3,y4]] _ MA.out (fun _=>HFX.out)).mono ?_
 rintro e x8 ⟨rfl,hy⟩
 replace hx:=hx.trans hy
 replace MA:=Lib.hid (IsRats.ext2 MA.out hy)
 clear hy
 rw [ex_rank P1.out P2.out P3.out P4.out,ex_chk P1.out P2.out P3.out P4.out]
 go_wp2_with fail
 have hnl:=numLen (n:=3) (d:=1) (by decide +kernel)
 refine(law11_numA 3 1 _ (by omega) (by omega) (by omega) hnl.1 hnl.2).mono ?_
 clear hnl
 rintro e x9 ⟨y5,rfl,hi,hk,hy⟩
 have P5:=Lib.hid hk
 clear hk
 replace hx:=hx.trans hy
 replace MA:=Lib.hid (IsRats.ext2 MA.out hy)
 clear hy
 have I5:=Lib.hid hi
 clear hi
 go_wp2_with fail
 have hnl:=numLen (n:=1) (d:=2) (by decide +kernel)
 refine(law11_numA 1 2 _ (by omega) (by omega) (by omega) hnl.1 hnl.2).mono ?_
 clear hnl
 rintro e x10 ⟨y6,rfl,hi,hk,hy⟩
 have P6:=Lib.hid hk
 clear hk
 replace hx:=hx.trans hy
 replace MA:=Lib.hid (IsRats.ext2 MA.out hy)
 replace I5:=Lib.hid (I5.out.ext hy)
 clear hy
 have I6:=Lib.hid hi
 clear hi
 obtain⟨x11,hw,hy,hR,hz⟩:=lit_rats2 x10 I5.out I6.out
 replace hw:=Lib.hid hw
 replace hz:=Lib.hid hz
 clear I5
 clear I6
 replace hx:=hx.trans hy
 replace MA:=Lib.hid (IsRats.ext2 MA.out hy)
 clear hy
 have Rv:=Lib.hid hR
 clear hR
 go_wp2_with fail
 rw [hw.out]
 clear hw hz
 generalize Array.size (World.heap x10)=gA2 at *
 refine(matrix_Apply _ _ [[y1,y2],[y3,y4]] _ _ [y5,y6] _ MA.out Rv.out (by simp)).mono ?_
 rintro e x12 ⟨b1,cb1,V1,rfl,hr,hy⟩
 replace hx:=hx.trans hy
 replace MA:=Lib.hid (IsRats.ext2 MA.out hy)
 replace Rv:=Lib.hid (Rv.out.ext hy)
 clear hy
 have ev:=ex_vec P1.out P2.out P3.out P4.out P5.out P6.out (by decide +kernel) (by decide +kernel) (by decide +kernel) (by decide +kernel)
 have en:appN [[y1,y2],[y3,y4]] [y5,y6]=2:=by unfold appN;rw [show(widA [[y1,y2],[y3,y4]]:Int)=2 from rfl,ev];rfl
 have Q1:Hid (RowR x12 b1 cb1 2 V1 (appF [[y1,y2],[y3,y4]] [y5,y6])):=Lib.hid (by rw [←en];exact hr)
 rw [en,show(widA [[y1,y2],[y3,y4]]:Int)=2 from rfl,ev]
 clear hr ev en
 clear Rv
 go_wp2_with fail
 have hnl:=numLen (n:=1) (d:=1) (by decide +kernel)
 refine(law11_numA 1 1 _ (by omega) (by omega) (by omega) hnl.1 hnl.2).mono ?_
 clear hnl
 rintro e x13 ⟨y7,rfl,hi,hk,hy⟩
 have P7:=Lib.hid hk
 clear hk
 replace hx:=hx.trans hy
 replace MA:=Lib.hid (IsRats.ext2 MA.out hy)
 replace Q1:=Lib.hid (Q1.out.ext hy)
 clear hy
 have I7:=Lib.hid hi
 clear hi
 go_wp2_with fail
 have hnl:=numLen (n:=2) (d:=1) (by decide +kernel)
 refine(law11_numA 2 1 _ (by omega) (by omega) (by omega) hnl.1 hnl.2).mono ?_
 clear hnl
 rintro e x14 ⟨y8,rfl,hi,hk,hy⟩
 have P8:=Lib.hid hk
 clear hk
 replace hx:=hx.trans hy
 replace MA:=Lib.hid (IsRats.ext2 MA.out hy)
 replace Q1:=Lib.hid (Q1.out.ext hy)
 replace I7:=Lib.hid (I7.out.ext hy)
 clear hy
 have I8:=Lib.hid hi
 clear hi
 obtain⟨x15,hw,hy,hR,hz⟩:=lit_rats2 x14 I7.out I8.out
 replace hw:=Lib.hid hw
 replace hz:=Lib.hid hz
 clear I7
 clear I8
 replace hx:=hx.trans hy
 replace MA:=Lib.hid (IsRats.ext2 MA.out hy)
 replace Q1:=Lib.hid (Q1.out.ext hy)
 clear hy
 have Rv:=Lib.hid hR
 clear hR
 go_wp2_with fail
 rw [hw.out]
 clear hw hz
 generalize Array.size (World.heap x14)=gA3 at *
 refine(matrix_Solve _ _ [[y1,y2],[y3,y4]] _ _ [y7,y8] _ MA.out Rv.out (by simp) (fun _=>HFS.out)).mono ?_
 rintro e x16 ⟨b2,cb2,V2,rfl,hr,hy⟩
 replace hx:=hx.trans hy
 replace MA:=Lib.hid (IsRats.ext2 MA.out hy)
 replace Q1:=Lib.hid (Q1.out.ext hy)
 replace Rv:=Lib.hid (Rv.out.ext hy)
 clear hy
 have ev:vecE [[y1,y2],[y3,y4]] [y7,y8] (([[y1,y2],[y3,y4]]:List (List RatA)).length:Int)=0:=ex_vec P1.out P2.out P3.out P4.out P7.out P8.out (by decide +kernel) (by decide +kernel) (by decide +kernel) (by decide +kernel)
 have eo:solOk [[y1,y2],[y3,y4]] [y7,y8]=true:=(ex_sol1 P1.out P2.out P3.out P4.out P7.out P8.out).1
 have en:solN [[y1,y2],[y3,y4]] [y7,y8]=2:=by unfold solN;rw [eo];rfl
 have Q2:Hid (RowR x16 b2 cb2 2 V2 (solF [[y1,y2],[y3,y4]] [y7,y8])):=Lib.hid (by rw [←en];exact hr)
 rw [en,eo,ev]
 clear hr ev eo en
 clear Rv
 go_wp2_with fail
 have hnl:=numLen (n:=1) (d:=1) (by decide +kernel)
 refine(law11_numA 1 1 _ (by omega) (by omega) (by omega) hnl.1 hnl.2).mono ?_
 clear hnl
 rintro e x17 ⟨y9,rfl,hi,hk,hy⟩
 have P9:=Lib.hid hk
 clear hk
 replace hx:=hx.trans hy
 replace MA:=Lib.hid (IsRats.ext2 MA.out hy)
 replace Q1:=Lib.hid (Q1.out.ext hy)
 replace Q2:=Lib.hid (Q2.out.ext hy)
 clear hy
 have I9:=Lib.hid hi
 clear hi
 go_wp2_with fail
 have hnl:=numLen (n:=3) (d:=1) (by decide +kernel)
 refine(law11_numA 3 1 _ (by omega) (by omega) (by omega) hnl.1 hnl.2).mono ?_
 clear hnl
 rintro e x18 ⟨y10,rfl,hi,hk,hy⟩
 have P10:=Lib.hid hk
 clear hk
 replace hx:=hx.trans hy
 replace MA:=Lib.hid (IsRats.ext2 MA.out hy)
 replace Q1:=Lib.hid (Q1.out.ext hy)
 replace Q2:=Lib.hid (Q2.out.ext hy)
 replace I9:=Lib.hid (I9.out.ext hy)
 clear hy
 have I10:=Lib.hid hi
 clear hi
 obtain⟨x19,hw,hy,hR,hz⟩:=lit_rats2 x18 I9.out I10.out
 replace hw:=Lib.hid hw
 replace hz:=Lib.hid hz
 clear I9
 clear I10
 replace hx:=hx.trans hy
 replace MA:=Lib.hid (IsRats.ext2 MA.out hy)
 replace Q1:=Lib.hid (Q1.out.ext hy)
 replace Q2:=Lib.hid (Q2.out.ext hy)
 clear hy
 have Rv:=Lib.hid hR
 clear hR
 go_wp2_with fail
 rw [hw.out]
 clear hw hz
 generalize Array.size (World.heap x18)=gA4 at *
 refine(matrix_Solve _ _ [[y1,y2],[y3,y4]] _ _ [y9,y10] _ MA.out Rv.out (by simp) (fun _=>HFS.out)).mono ?_
 rintro e x20 ⟨b3,cb3,V3,rfl,hr,hy⟩
 replace hx:=hx.trans hy
 replace MA:=Lib.hid (IsRats.ext2 MA.out hy)
 replace Q1:=Lib.hid (Q1.out.ext hy)
 replace Q2:=Lib.hid (Q2.out.ext hy)
 replace Rv:=Lib.hid (Rv.out.ext hy)
 clear hy
 have ev:vecE [[y1,y2],[y3,y4]] [y9,y10] (([[y1,y2],[y3,y4]]:List (List RatA)).length:Int)=0:=ex_vec P1.out P2.out P3.out P4.out P9.out P10.out (by decide +kernel) (by decide +kernel) (by decide +kernel) (by decide +kernel)
 have eo:solOk [[y1,y2],[y3,y4]] [y9,y10]=false:=(ex_sol2 P1.out P2.out P3.out P4.out P9.out P10.out)
 have en:solN [[y1,y2],[y3,y4]] [y9,y10]=0:=by unfold solN;rw [eo];rfl
 rw [en,eo,ev]
 clear hr ev eo en
 clear Rv
 go_wp2_with fail
 have hnl:=numLen (n:=1) (d:=1) (by decide +kernel)
 refine(law11_numA 1 1 _ (by omega) (by omega) (by omega) hnl.1 hnl.2).mono ?_
 clear hnl
 rintro e x21 ⟨y11,rfl,hi,hk,hy⟩
 have P11:=Lib.hid hk
 clear hk
 replace hx:=hx.trans hy
 replace MA:=Lib.hid (IsRats.ext2 MA.out hy)
 replace Q1:=Lib.hid (Q1.out.ext hy)
 replace Q2:=Lib.hid (Q2.out.ext hy)
 clear hy
 have I11:=Lib.hid hi
 clear hi
 go_wp2_with fail
 have hnl:=numLen (n:=3) (d:=1) (by decide +kernel)
 refine(law11_numA 3 1 _ (by omega) (by omega) (by omega) hnl.1 hnl.2).mono ?_
 clear hnl
 rintro e x22 ⟨y12,rfl,hi,hk,hy⟩
 have P12:=Lib.hid hk
 clear hk
 replace hx:=hx.trans hy
 replace MA:=Lib.hid (IsRats.ext2 MA.out hy)
 replace Q1:=Lib.hid (Q1.out.ext hy)
 replace Q2:=Lib.hid (Q2.out.ext hy)
 replace I11:=Lib.hid (I11.out.ext hy)
 clear hy
 have I12:=Lib.hid hi
 clear hi
 obtain⟨x23,hw,hy,hR,hz⟩:=lit_rats2 x22 I11.out I12.out
 replace hw:=Lib.hid hw
 replace hz:=Lib.hid hz
 clear I11
 clear I12
 replace hx:=hx.trans hy
 replace MA:=Lib.hid (IsRats.ext2 MA.out hy)
 replace Q1:=Lib.hid (Q1.out.ext hy)
 replace Q2:=Lib.hid (Q2.out.ext hy)
 clear hy
 have Rv:=Lib.hid hR
 clear hR
 go_wp2_with fail
 rw [hw.out]
 clear hw hz
 generalize Array.size (World.heap x22)=gA5 at *
 refine(matrix_Refute _ _ [[y1,y2],[y3,y4]] _ _ [y11,y12] _ MA.out Rv.out (by simp) (fun _=>HFT.out)).mono ?_
 rintro e x24 ⟨b4,cb4,V4,rfl,hr,hy⟩
 replace hx:=hx.trans hy
 replace MA:=Lib.hid (IsRats.ext2 MA.out hy)
 replace Q1:=Lib.hid (Q1.out.ext hy)
 replace Q2:=Lib.hid (Q2.out.ext hy)
 replace Rv:=Lib.hid (Rv.out.ext hy)
 clear hy
 have ev:vecE [[y1,y2],[y3,y4]] [y11,y12] (([[y1,y2],[y3,y4]]:List (List RatA)).length:Int)=0:=ex_vec P1.out P2.out P3.out P4.out P11.out P12.out (by decide +kernel) (by decide +kernel) (by decide +kernel) (by decide +kernel)
 have eo:refOk [[y1,y2],[y3,y4]] [y11,y12]=true:=(ex_ref1 P1.out P2.out P3.out P4.out P11.out P12.out).1
 have en:refN [[y1,y2],[y3,y4]] [y11,y12]=2:=by unfold refN;rw [eo];rfl
 have Q4:Hid (RowR x24 b4 cb4 2 V4 (refF [[y1,y2],[y3,y4]] [y11,y12])):=Lib.hid (by rw [←en];exact hr)
 rw [en,eo,ev]
 clear hr ev eo en
 clear Rv
 go_wp2_with fail
 have hnl:=numLen (n:=1) (d:=1) (by decide +kernel)
 refine(law11_numA 1 1 _ (by omega) (by omega) (by omega) hnl.1 hnl.2).mono ?_
 clear hnl
 rintro e x25 ⟨y13,rfl,hi,hk,hy⟩
 have P13:=Lib.hid hk
 clear hk
 replace hx:=hx.trans hy
 replace MA:=Lib.hid (IsRats.ext2 MA.out hy)
 replace Q1:=Lib.hid (Q1.out.ext hy)
 replace Q2:=Lib.hid (Q2.out.ext hy)
 replace Q4:=Lib.hid (Q4.out.ext hy)
 clear hy
 have I13:=Lib.hid hi
 clear hi
 go_wp2_with fail
 have hnl:=numLen (n:=2) (d:=1) (by decide +kernel)
 refine(law11_numA 2 1 _ (by omega) (by omega) (by omega) hnl.1 hnl.2).mono ?_
 clear hnl
 rintro e x26 ⟨y14,rfl,hi,hk,hy⟩
 have P14:=Lib.hid hk
 clear hk
 replace hx:=hx.trans hy
 replace MA:=Lib.hid (IsRats.ext2 MA.out hy)
 replace Q1:=Lib.hid (Q1.out.ext hy)
 replace Q2:=Lib.hid (Q2.out.ext hy)
 replace Q4:=Lib.hid (Q4.out.ext hy)
 replace I13:=Lib.hid (I13.out.ext hy)
 clear hy
 have I14:=Lib.hid hi
 clear hi
 obtain⟨x27,hw,hy,hR,hz⟩:=lit_rats2 x26 I13.out I14.out
 replace hw:=Lib.hid hw
 replace hz:=Lib.hid hz
 clear I13
 clear I14
 replace hx:=hx.trans hy
 replace MA:=Lib.hid (IsRats.ext2 MA.out hy)
 replace Q1:=Lib.hid (Q1.out.ext hy)
 replace Q2:=Lib.hid (Q2.out.ext hy)
 replace Q4:=Lib.hid (Q4.out.ext hy)
 clear hy
 have Rv:=Lib.hid hR
 clear hR
 go_wp2_with fail
 rw [hw.out]
 clear hw hz
 generalize Array.size (World.heap x26)=gA6 at *
 refine(matrix_Refute _ _ [[y1,y2],[y3,y4]] _ _ [y13,y14] _ MA.out Rv.out (by simp) (fun _=>HFT.out)).mono ?_
 rintro e x28 ⟨b5,cb5,V5,rfl,hr,hy⟩
 replace hx:=hx.trans hy
 replace MA:=Lib.hid (IsRats.ext2 MA.out hy)
 replace Q1:=Lib.hid (Q1.out.ext hy)
 replace Q2:=Lib.hid (Q2.out.ext hy)
 replace Q4:=Lib.hid (Q4.out.ext hy)
 replace Rv:=Lib.hid (Rv.out.ext hy)
 clear hy
 have ev:vecE [[y1,y2],[y3,y4]] [y13,y14] (([[y1,y2],[y3,y4]]:List (List RatA)).length:Int)=0:=ex_vec P1.out P2.out P3.out P4.out P13.out P14.out (by decide +kernel) (by decide +kernel) (by decide +kernel) (by decide +kernel)
 have eo:refOk [[y1,y2],[y3,y4]] [y13,y14]=false:=(ex_ref2 P1.out P2.out P3.out P4.out P13.out P14.out)
 have en:refN [[y1,y2],[y3,y4]] [y13,y14]=0:=by unfold refN;rw [eo];rfl
 rw [en,eo,ev]
 clear hr ev eo en
 clear Rv
 go_wp2_with fail
 refine(matrix_Solve none 0 [] none 0 [] _ (mat_nil _) (rats_nil _) (by simp) (fun _=>(by unfold FewS;decide))).mono ?_
 rintro e x29 ⟨b6,cb6,V6,rfl,-,hy⟩
 replace hx:=hx.trans hy
 replace MA:=Lib.hid (IsRats.ext2 MA.out hy)
 replace Q1:=Lib.hid (Q1.out.ext hy)
 replace Q2:=Lib.hid (Q2.out.ext hy)
 replace Q4:=Lib.hid (Q4.out.ext hy)
 clear hy
 rw [show vecE [] [] (([]:List (List RatA)).length:Int)=0 from ex_nil.1,show solOk [] []=true from ex_nil.2,show solN [] []=0 from by unfold solN;rw [ex_nil.2];rfl]
 obtain⟨x30,hw,hy,hR,hz⟩:=lit_mat1 x29 (n:=0) rfl (rats_nil x29)
 replace hw:=Lib.hid hw
 replace hz:=Lib.hid hz
 replace hx:=hx.trans hy
 replace MA:=Lib.hid (IsRats.ext2 MA.out hy)
 replace Q1:=Lib.hid (Q1.out.ext hy)
 replace Q2:=Lib.hid (Q2.out.ext hy)
 replace Q4:=Lib.hid (Q4.out.ext hy)
 clear hy
 have MB:=Lib.hid hR
 clear hR
 go_wp2_with fail
 rw [hw.out]
 clear hw hz
 generalize Array.size (World.heap x29)=gA7 at *
 have hnl:=numLen (n:=1) (d:=1) (by decide +kernel)
 refine(law11_numA 1 1 _ (by omega) (by omega) (by omega) hnl.1 hnl.2).mono ?_
 clear hnl
 rintro e x31 ⟨y20,rfl,hi,hk,hy⟩
 have P20:=Lib.hid hk
 clear hk
 replace hx:=hx.trans hy
 replace MA:=Lib.hid (IsRats.ext2 MA.out hy)
 replace Q1:=Lib.hid (Q1.out.ext hy)
 replace Q2:=Lib.hid (Q2.out.ext hy)
 replace Q4:=Lib.hid (Q4.out.ext hy)
 replace MB:=Lib.hid (IsRats.ext2 MB.out hy)
 clear hy
 have I20:=Lib.hid hi
 clear hi
 obtain⟨x32,hw,hy,hR,hz⟩:=lit_rats1 x31 I20.out
 replace hw:=Lib.hid hw
 replace hz:=Lib.hid hz
 clear I20
 replace hx:=hx.trans hy
 replace MA:=Lib.hid (IsRats.ext2 MA.out hy)
 replace Q1:=Lib.hid (Q1.out.ext hy)
 replace Q2:=Lib.hid (Q2.out.ext hy)
 replace Q4:=Lib.hid (Q4.out.ext hy)
 replace MB:=Lib.hid (IsRats.ext2 MB.out hy)
 clear hy
 have Rv:=Lib.hid hR
 clear hR
 go_wp2_with fail
 rw [hw.out]
 clear hw hz
 generalize Array.size (World.heap x31)=gA8 at *
 refine(matrix_Refute _ _ [[]] _ _ [y20] _ MB.out Rv.out (by simp) (fun _=>(by unfold FewT;decide))).mono ?_
 rintro e x33 ⟨b7,cb7,V7,rfl,hr,hy⟩
 replace hx:=hx.trans hy
 replace MA:=Lib.hid (IsRats.ext2 MA.out hy)
 replace Q1:=Lib.hid (Q1.out.ext hy)
 replace Q2:=Lib.hid (Q2.out.ext hy)
 replace Q4:=Lib.hid (Q4.out.ext hy)
 replace MB:=Lib.hid (IsRats.ext2 MB.out hy)
 replace Rv:=Lib.hid (Rv.out.ext hy)
 clear hy
 have ev:=ex_one P20.out
 have en:refN [[]] [y20]=1:=by unfold refN;rw [ev.2.1];rfl
 have Q7:Hid (RowR x33 b7 cb7 1 V7 (refF [[]] [y20])):=Lib.hid (by rw [←en];exact hr)
 rw [en,ev.2.1,show vecE [[]] [y20] (([[]]:List (List RatA)).length:Int)=0 from ev.1]
 clear hr ev en
 clear Rv
 clear MB
 go_wp2_with fail
 refine(matrix_Solve _ _ [[y1,y2],[y3,y4]] none 0 [] _ MA.out (rats_nil _) (by simp) (fun _=>HFS.out)).mono ?_
 rintro e x34 ⟨b8,cb8,V8,rfl,-,hy⟩
 replace hx:=hx.trans hy
 replace MA:=Lib.hid (IsRats.ext2 MA.out hy)
 replace Q1:=Lib.hid (Q1.out.ext hy)
 replace Q2:=Lib.hid (Q2.out.ext hy)
 replace Q4:=Lib.hid (Q4.out.ext hy)
 replace Q7:=Lib.hid (Q7.out.ext hy)
 clear hy
 have ev:vecE [[y1,y2],[y3,y4]] [] (([[y1,y2],[y3,y4]]:List (List RatA)).length:Int)=110:=ex_vec0 P1.out P2.out P3.out P4.out
 have eo:solOk [[y1,y2],[y3,y4]] []=false:=by unfold solOk;rw [ev];rfl
 rw [ev,eo,show solN [[y1,y2],[y3,y4]] []=0 from by unfold solN;rw [eo];rfl]
 clear ev eo
 go_wp2_with fail
 have hnl:=numLen (n:=1) (d:=1) (by decide +kernel)
 refine(law11_numA 1 1 _ (by omega) (by omega) (by omega) hnl.1 hnl.2).mono ?_
 clear hnl
 rintro e x35 ⟨y21,rfl,hi,hk,hy⟩
 have P21:=Lib.hid hk
 clear hk
 replace hx:=hx.trans hy
 replace MA:=Lib.hid (IsRats.ext2 MA.out hy)
 replace Q1:=Lib.hid (Q1.out.ext hy)
 replace Q2:=Lib.hid (Q2.out.ext hy)
 replace Q4:=Lib.hid (Q4.out.ext hy)
 replace Q7:=Lib.hid (Q7.out.ext hy)
 clear hy
 have I21:=Lib.hid hi
 clear hi
 obtain⟨x36,hw,hy,hR,hz⟩:=lit_rats1 x35 I21.out
 replace hw:=Lib.hid hw
 replace hz:=Lib.hid hz
 clear I21
 replace hx:=hx.trans hy
 replace MA:=Lib.hid (IsRats.ext2 MA.out hy)
 replace Q1:=Lib.hid (Q1.out.ext hy)
 replace Q2:=Lib.hid (Q2.out.ext hy)
 replace Q4:=Lib.hid (Q4.out.ext hy)
 replace Q7:=Lib.hid (Q7.out.ext hy)
 clear hy
 have Rv:=Lib.hid hR
 clear hR
 obtain⟨x37,hw2,hy,hR,hz2⟩:=lit_mat2 x36 (n:=0) (n2:=1) rfl rfl (rats_nil _) Rv.out
 replace hw2:=Lib.hid hw2
 clear hz2
 replace hx:=hx.trans hy
 replace MA:=Lib.hid (IsRats.ext2 MA.out hy)
 replace Q1:=Lib.hid (Q1.out.ext hy)
 replace Q2:=Lib.hid (Q2.out.ext hy)
 replace Q4:=Lib.hid (Q4.out.ext hy)
 replace Q7:=Lib.hid (Q7.out.ext hy)
 replace Rv:=Lib.hid (Rv.out.ext hy)
 clear hy
 have MC:=Lib.hid hR
 clear hR
 go_wp2_with fail
 rw [hw.out,hw2.out]
 (try rw [←hz.out])
 clear hw hw2 hz
 generalize Array.size (World.heap x35)=gA9 at *
 generalize Array.size (World.heap x36)=gB9 at *
 refine(matrix_Check _ _ [[],[y21]] _ MC.out).mono ?_
 rintro e x38 ⟨rfl,hy⟩
 replace hx:=hx.trans hy
 replace MA:=Lib.hid (IsRats.ext2 MA.out hy)
 replace Q1:=Lib.hid (Q1.out.ext hy)
 replace Q2:=Lib.hid (Q2.out.ext hy)
 replace Q4:=Lib.hid (Q4.out.ext hy)
 replace Q7:=Lib.hid (Q7.out.ext hy)
 replace Rv:=Lib.hid (Rv.out.ext hy)
 replace MC:=Lib.hid (IsRats.ext2 MC.out hy)
 clear hy
 rw [ex_c1]
 clear Rv
 clear MC
 obtain⟨x39,hw,hy,hR,hz⟩:=lit_noA x38
 replace hw:=Lib.hid hw
 replace hz:=Lib.hid hz
 replace hx:=hx.trans hy
 replace MA:=Lib.hid (IsRats.ext2 MA.out hy)
 replace Q1:=Lib.hid (Q1.out.ext hy)
 replace Q2:=Lib.hid (Q2.out.ext hy)
 replace Q4:=Lib.hid (Q4.out.ext hy)
 replace Q7:=Lib.hid (Q7.out.ext hy)
 clear hy
 have Rv:=Lib.hid hR
 clear hR
 obtain⟨x40,hw2,hy,hR,hz2⟩:=lit_mat1 x39 (n:=1) rfl Rv.out
 replace hw2:=Lib.hid hw2
 clear hz2
 replace hx:=hx.trans hy
 replace MA:=Lib.hid (IsRats.ext2 MA.out hy)
 replace Q1:=Lib.hid (Q1.out.ext hy)
 replace Q2:=Lib.hid (Q2.out.ext hy)
 replace Q4:=Lib.hid (Q4.out.ext hy)
 replace Q7:=Lib.hid (Q7.out.ext hy)
 replace Rv:=Lib.hid (Rv.out.ext hy)
 clear hy
 have MC:=Lib.hid hR
 clear hR
 go_wp2_with fail
 rw [hw.out,hw2.out]
 (try rw [←hz.out])
 clear hw hw2 hz
 generalize Array.size (World.heap x38)=gA10 at *
 generalize Array.size (World.heap x39)=gB10 at *
 refine(matrix_Check _ _ [[noA]] _ MC.out).mono ?_
 rintro e x41 ⟨rfl,hy⟩
 replace hx:=hx.trans hy
 replace MA:=Lib.hid (IsRats.ext2 MA.out hy)
 replace Q1:=Lib.hid (Q1.out.ext hy)
 replace Q2:=Lib.hid (Q2.out.ext hy)
 replace Q4:=Lib.hid (Q4.out.ext hy)
 replace Q7:=Lib.hid (Q7.out.ext hy)
 replace Rv:=Lib.hid (Rv.out.ext hy)
 replace MC:=Lib.hid (IsRats.ext2 MC.out hy)
 clear hy
 rw [ex_c2]
 clear Rv
 clear MC
 go_wp2_with fail
 have hnl:=numLen (n:=1) (d:=1073741824) (by decide +kernel)
 refine(law11_numA 1 1073741824 _ (by omega) (by omega) (by omega) hnl.1 hnl.2).mono ?_
 clear hnl
 rintro e x42 ⟨y22,rfl,hi,hk,hy⟩
 have P22:=Lib.hid hk
 clear hk
 replace hx:=hx.trans hy
 replace MA:=Lib.hid (IsRats.ext2 MA.out hy)
 replace Q1:=Lib.hid (Q1.out.ext hy)
 replace Q2:=Lib.hid (Q2.out.ext hy)
 replace Q4:=Lib.hid (Q4.out.ext hy)
 replace Q7:=Lib.hid (Q7.out.ext hy)
 clear hy
 have I22:=Lib.hid hi
 clear hi
 obtain⟨x43,hw,hy,hR,hz⟩:=lit_rats1 x42 I22.out
 replace hw:=Lib.hid hw
 replace hz:=Lib.hid hz
 clear I22
 replace hx:=hx.trans hy
 replace MA:=Lib.hid (IsRats.ext2 MA.out hy)
 replace Q1:=Lib.hid (Q1.out.ext hy)
 replace Q2:=Lib.hid (Q2.out.ext hy)
 replace Q4:=Lib.hid (Q4.out.ext hy)
 replace Q7:=Lib.hid (Q7.out.ext hy)
 clear hy
 have Rv:=Lib.hid hR
 clear hR
 obtain⟨x44,hw2,hy,hR,hz2⟩:=lit_mat1 x43 (n:=1) rfl Rv.out
 replace hw2:=Lib.hid hw2
 clear hz2
 replace hx:=hx.trans hy
 replace MA:=Lib.hid (IsRats.ext2 MA.out hy)
 replace Q1:=Lib.hid (Q1.out.ext hy)
 replace Q2:=Lib.hid (Q2.out.ext hy)
 replace Q4:=Lib.hid (Q4.out.ext hy)
 replace Q7:=Lib.hid (Q7.out.ext hy)
 replace Rv:=Lib.hid (Rv.out.ext hy)
 clear hy
 have MC:=Lib.hid hR
 clear hR
 go_wp2_with fail
 rw [hw.out,hw2.out]
 (try rw [←hz.out])
 clear hw hw2 hz
 generalize Array.size (World.heap x42)=gA11 at *
 generalize Array.size (World.heap x43)=gB11 at *
 refine(matrix_Check _ _ [[y22]] _ MC.out).mono ?_
 rintro e x45 ⟨rfl,hy⟩
 replace hx:=hx.trans hy
 replace MA:=Lib.hid (IsRats.ext2 MA.out hy)
 replace Q1:=Lib.hid (Q1.out.ext hy)
 replace Q2:=Lib.hid (Q2.out.ext hy)
 replace Q4:=Lib.hid (Q4.out.ext hy)
 replace Q7:=Lib.hid (Q7.out.ext hy)
 replace Rv:=Lib.hid (Rv.out.ext hy)
 replace MC:=Lib.hid (IsRats.ext2 MC.out hy)
 clear hy
 rw [ex_c3 P22.out]
 clear Rv
 clear MC
 have hmk2:=hmk.out x45
 obtain⟨x46,hw,hy,hR⟩:∃x,x45.alloc (.cells (Array.replicate 18 (.slice none 0 0)) 23)=x∧Ext x45 x∧RRows x (some ⟨x45.heap.size,0,none⟩) 18 (List.replicate 18 []):=⟨_,rfl,Ext.alloc _ _,mat_nils _ _ 18 (by omega) _ (Blk.new0 x45 _ _)⟩
 replace hw:=Lib.hid hw
 replace hx:=hx.trans hy
 replace MA:=Lib.hid (IsRats.ext2 MA.out hy)
 replace Q1:=Lib.hid (Q1.out.ext hy)
 replace Q2:=Lib.hid (Q2.out.ext hy)
 replace Q4:=Lib.hid (Q4.out.ext hy)
 replace Q7:=Lib.hid (Q7.out.ext hy)
 clear hy
 have MC:=Lib.hid hR
 clear hR
 go_wp2_with fail
 rw [hw.out]
 clear hw hmk2
 generalize Array.size (World.heap x45)=gZ at *
 refine(matrix_Check _ _ (List.replicate 18 []) _ MC.out).mono ?_
 rintro e x47 ⟨rfl,hy⟩
 replace hx:=hx.trans hy
 replace MA:=Lib.hid (IsRats.ext2 MA.out hy)
 replace Q1:=Lib.hid (Q1.out.ext hy)
 replace Q2:=Lib.hid (Q2.out.ext hy)
 replace Q4:=Lib.hid (Q4.out.ext hy)
 replace Q7:=Lib.hid (Q7.out.ext hy)
 replace MC:=Lib.hid (IsRats.ext2 MC.out hy)
 clear hy
 rw [ex_c4]
 clear MC
 go_wp2_with fail
 have hnl:=numLen (n:=4) (d:=1) (by decide +kernel)
 refine(law11_numA 4 1 _ (by omega) (by omega) (by omega) hnl.1 hnl.2).mono ?_
 clear hnl
 rintro e x48 ⟨y1v0,rfl,hi,hk,hy⟩
 have P1v0:=Lib.hid hk
 clear hk
 replace hx:=hx.trans hy
 replace MA:=Lib.hid (IsRats.ext2 MA.out hy)
 replace Q1:=Lib.hid (Q1.out.ext hy)
 replace Q2:=Lib.hid (Q2.out.ext hy)
 replace Q4:=Lib.hid (Q4.out.ext hy)
 replace Q7:=Lib.hid (Q7.out.ext hy)
 clear hy
 have I1v0:=Lib.hid hi
 clear hi
 go_wp2_with fail
 have hnl:=numLen (n:=8) (d:=1) (by decide +kernel)
 refine(law11_numA 8 1 _ (by omega) (by omega) (by omega) hnl.1 hnl.2).mono ?_
 clear hnl
 rintro e x49 ⟨y1v1,rfl,hi,hk,hy⟩
 have P1v1:=Lib.hid hk
 clear hk
 replace hx:=hx.trans hy
 replace MA:=Lib.hid (IsRats.ext2 MA.out hy)
 replace Q1:=Lib.hid (Q1.out.ext hy)
 replace Q2:=Lib.hid (Q2.out.ext hy)
 replace Q4:=Lib.hid (Q4.out.ext hy)
 replace Q7:=Lib.hid (Q7.out.ext hy)
 replace I1v0:=Lib.hid (I1v0.out.ext hy)
 clear hy
 have I1v1:=Lib.hid hi
 clear hi
 obtain⟨x50,hw,hy,hR,hz⟩:=lit_rats2 x49 I1v0.out I1v1.out
 replace hw:=Lib.hid hw
 replace hz:=Lib.hid hz
 clear I1v0
 clear I1v1
 replace hx:=hx.trans hy
 replace MA:=Lib.hid (IsRats.ext2 MA.out hy)
 replace Q1:=Lib.hid (Q1.out.ext hy)
 replace Q2:=Lib.hid (Q2.out.ext hy)
 replace Q4:=Lib.hid (Q4.out.ext hy)
 replace Q7:=Lib.hid (Q7.out.ext hy)
 clear hy
 have Rv:=Lib.hid hR
 clear hR
 have el:elsE [y1v0,y1v1]=0:=by simp [elsE,P1v0.out.err (by decide +kernel) (by decide +kernel),P1v1.out.err (by decide +kernel) (by decide +kernel)]
 have RV:Hid (RowR x50 _ _ 2 (vecV [y1v0,y1v1]) (vecF [y1v0,y1v1])):=Lib.hid (els_read el Rv.out)
 clear el
 have es:sameF 2 2 (appF [[y1,y2],[y3,y4]] [y5,y6]) (vecF [y1v0,y1v1])=true:=sameF_iff.2 ⟨rfl,fun c hc=>by
  have k:=ex_app P1.out P2.out P3.out P4.out P5.out P6.out
  rcases two_cases hc with rfl | rfl
  ·rw [k.1];unfold vecF;simp only [List.getD_cons_zero,List.getD_cons_succ,P1v0.out.val];decide +kernel
  ·rw [k.2];unfold vecF;simp only [List.getD_cons_zero,List.getD_cons_succ,P1v1.out.val];decide +kernel⟩
 go_wp2_with fail
 rw [hw.out]
 clear hw hz
 generalize Array.size (World.heap x49)=gA12 at *
 refine(ref_Same11 _ _ 2 _ _ _ _ 2 _ _ _ Q1.out RV.out).mono ?_
 rintro e x51 ⟨rfl,hy⟩
 replace hx:=hx.trans hy
 replace MA:=Lib.hid (IsRats.ext2 MA.out hy)
 replace Q1:=Lib.hid (Q1.out.ext hy)
 replace Q2:=Lib.hid (Q2.out.ext hy)
 replace Q4:=Lib.hid (Q4.out.ext hy)
 replace Q7:=Lib.hid (Q7.out.ext hy)
 replace Rv:=Lib.hid (Rv.out.ext hy)
 replace RV:=Lib.hid (RV.out.ext hy)
 clear hy
 rw [es]
 clear es
 clear Rv
 clear RV
 clear Q1
 go_wp2_with fail
 have hnl:=numLen (n:=1) (d:=1) (by decide +kernel)
 refine(law11_numA 1 1 _ (by omega) (by omega) (by omega) hnl.1 hnl.2).mono ?_
 clear hnl
 rintro e x52 ⟨y2v0,rfl,hi,hk,hy⟩
 have P2v0:=Lib.hid hk
 clear hk
 replace hx:=hx.trans hy
 replace MA:=Lib.hid (IsRats.ext2 MA.out hy)
 replace Q2:=Lib.hid (Q2.out.ext hy)
 replace Q4:=Lib.hid (Q4.out.ext hy)
 replace Q7:=Lib.hid (Q7.out.ext hy)
 clear hy
 have I2v0:=Lib.hid hi
 clear hi
 go_wp2_with fail
 have hnl:=numLen (n:=0) (d:=1) (by decide +kernel)
 refine(law11_numA 0 1 _ (by omega) (by omega) (by omega) hnl.1 hnl.2).mono ?_
 clear hnl
 rintro e x53 ⟨y2v1,rfl,hi,hk,hy⟩
 have P2v1:=Lib.hid hk
 clear hk
 replace hx:=hx.trans hy
 replace MA:=Lib.hid (IsRats.ext2 MA.out hy)
 replace Q2:=Lib.hid (Q2.out.ext hy)
 replace Q4:=Lib.hid (Q4.out.ext hy)
 replace Q7:=Lib.hid (Q7.out.ext hy)
 replace I2v0:=Lib.hid (I2v0.out.ext hy)
 clear hy
 have I2v1:=Lib.hid hi
 clear hi
 obtain⟨x54,hw,hy,hR,hz⟩:=lit_rats2 x53 I2v0.out I2v1.out
 replace hw:=Lib.hid hw
 replace hz:=Lib.hid hz
 clear I2v0
 clear I2v1
 replace hx:=hx.trans hy
 replace MA:=Lib.hid (IsRats.ext2 MA.out hy)
 replace Q2:=Lib.hid (Q2.out.ext hy)
 replace Q4:=Lib.hid (Q4.out.ext hy)
 replace Q7:=Lib.hid (Q7.out.ext hy)
 clear hy
 have Rv:=Lib.hid hR
 clear hR
 have el:elsE [y2v0,y2v1]=0:=by simp [elsE,P2v0.out.err (by decide +kernel) (by decide +kernel),P2v1.out.err (by decide +kernel) (by decide +kernel)]
 have RV:Hid (RowR x54 _ _ 2 (vecV [y2v0,y2v1]) (vecF [y2v0,y2v1])):=Lib.hid (els_read el Rv.out)
 clear el
 have es:sameF 2 2 (solF [[y1,y2],[y3,y4]] [y7,y8]) (vecF [y2v0,y2v1])=true:=sameF_iff.2 ⟨rfl,fun c hc=>by
  have k:=ex_sol1 P1.out P2.out P3.out P4.out P7.out P8.out
  rcases two_cases hc with rfl | rfl
  ·rw [k.2.1];unfold vecF;simp only [List.getD_cons_zero,List.getD_cons_succ,P2v0.out.val];decide +kernel
  ·rw [k.2.2];unfold vecF;simp only [List.getD_cons_zero,List.getD_cons_succ,P2v1.out.val];decide +kernel⟩
 go_wp2_with fail
 rw [hw.out]
 clear hw hz
 generalize Array.size (World.heap x53)=gA13 at *
 refine(ref_Same11 _ _ 2 _ _ _ _ 2 _ _ _ Q2.out RV.out).mono ?_
 rintro e x55 ⟨rfl,hy⟩
 replace hx:=hx.trans hy
 replace MA:=Lib.hid (IsRats.ext2 MA.out hy)
 replace Q2:=Lib.hid (Q2.out.ext hy)
 replace Q4:=Lib.hid (Q4.out.ext hy)
 replace Q7:=Lib.hid (Q7.out.ext hy)
 replace Rv:=Lib.hid (Rv.out.ext hy)
 replace RV:=Lib.hid (RV.out.ext hy)
 clear hy
 rw [es]
 clear es
 clear Rv
 clear RV
 clear Q2
 go_wp2_with fail
 have hnl:=numLen (n:=(-2)) (d:=1) (by decide +kernel)
 refine(law11_numA (-2) 1 _ (by omega) (by omega) (by omega) hnl.1 hnl.2).mono ?_
 clear hnl
 rintro e x56 ⟨y4v0,rfl,hi,hk,hy⟩
 have P4v0:=Lib.hid hk
 clear hk
 replace hx:=hx.trans hy
 replace MA:=Lib.hid (IsRats.ext2 MA.out hy)
 replace Q4:=Lib.hid (Q4.out.ext hy)
 replace Q7:=Lib.hid (Q7.out.ext hy)
 clear hy
 have I4v0:=Lib.hid hi
 clear hi
 go_wp2_with fail
 have hnl:=numLen (n:=1) (d:=1) (by decide +kernel)
 refine(law11_numA 1 1 _ (by omega) (by omega) (by omega) hnl.1 hnl.2).mono ?_
 clear hnl
 rintro e x57 ⟨y4v1,rfl,hi,hk,hy⟩
 have P4v1:=Lib.hid hk
 clear hk
 replace hx:=hx.trans hy
 replace MA:=Lib.hid (IsRats.ext2 MA.out hy)
 replace Q4:=Lib.hid (Q4.out.ext hy)
 replace Q7:=Lib.hid (Q7.out.ext hy)
 replace I4v0:=Lib.hid (I4v0.out.ext hy)
 clear hy
 have I4v1:=Lib.hid hi
 clear hi
 obtain⟨x58,hw,hy,hR,hz⟩:=lit_rats2 x57 I4v0.out I4v1.out
 replace hw:=Lib.hid hw
 replace hz:=Lib.hid hz
 clear I4v0
 clear I4v1
 replace hx:=hx.trans hy
 replace MA:=Lib.hid (IsRats.ext2 MA.out hy)
 replace Q4:=Lib.hid (Q4.out.ext hy)
 replace Q7:=Lib.hid (Q7.out.ext hy)
 clear hy
 have Rv:=Lib.hid hR
 clear hR
 have el:elsE [y4v0,y4v1]=0:=by simp [elsE,P4v0.out.err (by decide +kernel) (by decide +kernel),P4v1.out.err (by decide +kernel) (by decide +kernel)]
 have RV:Hid (RowR x58 _ _ 2 (vecV [y4v0,y4v1]) (vecF [y4v0,y4v1])):=Lib.hid (els_read el Rv.out)
 clear el
 have es:sameF 2 2 (refF [[y1,y2],[y3,y4]] [y11,y12]) (vecF [y4v0,y4v1])=true:=sameF_iff.2 ⟨rfl,fun c hc=>by
  have k:=ex_ref1 P1.out P2.out P3.out P4.out P11.out P12.out
  rcases two_cases hc with rfl | rfl
  ·rw [k.2.1];unfold vecF;simp only [List.getD_cons_zero,List.getD_cons_succ,P4v0.out.val];decide +kernel
  ·rw [k.2.2];unfold vecF;simp only [List.getD_cons_zero,List.getD_cons_succ,P4v1.out.val];decide +kernel⟩
 go_wp2_with fail
 rw [hw.out]
 clear hw hz
 generalize Array.size (World.heap x57)=gA14 at *
 refine(ref_Same11 _ _ 2 _ _ _ _ 2 _ _ _ Q4.out RV.out).mono ?_
 rintro e x59 ⟨rfl,hy⟩
 replace hx:=hx.trans hy
 replace MA:=Lib.hid (IsRats.ext2 MA.out hy)
 replace Q4:=Lib.hid (Q4.out.ext hy)
 replace Q7:=Lib.hid (Q7.out.ext hy)
 replace Rv:=Lib.hid (Rv.out.ext hy)
 replace RV:=Lib.hid (RV.out.ext hy)
 clear hy
 rw [es]
 clear es
 clear Rv
 clear RV
 clear Q4
 go_wp2_with fail
 have hnl:=numLen (n:=1) (d:=1) (by decide +kernel)
 refine(law11_numA 1 1 _ (by omega) (by omega) (by omega) hnl.1 hnl.2).mono ?_
 clear hnl
 rintro e x60 ⟨y7v0,rfl,hi,hk,hy⟩
 have P7v0:=Lib.hid hk
 clear hk
 replace hx:=hx.trans hy
 replace MA:=Lib.hid (IsRats.ext2 MA.out hy)
 replace Q7:=Lib.hid (Q7.out.ext hy)
 clear hy
 have I7v0:=Lib.hid hi
 clear hi
 obtain⟨x61,hw,hy,hR,hz⟩:=lit_rats1 x60 I7v0.out
 replace hw:=Lib.hid hw
 replace hz:=Lib.hid hz
 clear I7v0
 replace hx:=hx.trans hy
 replace MA:=Lib.hid (IsRats.ext2 MA.out hy)
 replace Q7:=Lib.hid (Q7.out.ext hy)
 clear hy
 have Rv:=Lib.hid hR
 clear hR
 have el:elsE [y7v0]=0:=by simp [elsE,P7v0.out.err (by decide +kernel) (by decide +kernel)]
 have RV:Hid (RowR x61 _ _ 1 (vecV [y7v0]) (vecF [y7v0])):=Lib.hid (els_read el Rv.out)
 clear el
 have es:sameF 1 1 (refF [[]] [y20]) (vecF [y7v0])=true:=sameF_iff.2 ⟨rfl,fun c hc=>by
  have k:=ex_one P20.out
  obtain rfl:c=0:=by omega
  rw [k.2.2];unfold vecF;simp only [List.getD_cons_zero,P7v0.out.val];decide +kernel⟩
 go_wp2_with fail
 rw [hw.out]
 clear hw hz
 generalize Array.size (World.heap x60)=gA15 at *
 refine(ref_Same11 _ _ 1 _ _ _ _ 1 _ _ _ Q7.out RV.out).mono ?_
 rintro e x62 ⟨rfl,hy⟩
 replace hx:=hx.trans hy
 replace MA:=Lib.hid (IsRats.ext2 MA.out hy)
 replace Q7:=Lib.hid (Q7.out.ext hy)
 replace Rv:=Lib.hid (Rv.out.ext hy)
 replace RV:=Lib.hid (RV.out.ext hy)
 clear hy
 rw [es]
 clear es
 clear Rv
 clear RV
 clear Q7
 go_wp2_with fail
 go_ret
 exact⟨rfl,hx⟩
end Go.Proofs.YtokffagbdfhnnaaGreat
