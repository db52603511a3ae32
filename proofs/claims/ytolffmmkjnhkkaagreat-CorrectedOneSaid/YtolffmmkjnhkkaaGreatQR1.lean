import Derived.Test.YtolffmmkjnhkkaaGreatQ3
import Derived.Test.YtolffmmkjnhkkaaGreatPRefD
import Derived.Test.YtolffmmkjnhkkaaGreatPRefB
import Derived.Test.YtolffmmkjnhkkaaGreatPGcd
import Derived.Test.YtolffmmkjnhkkaaGreatPRefV
import Derived.Test.YtolffmmkjnhkkaaGreatNMake2
import Derived.Test.YtolffmmkjnhkkaaGreatHeldIn
namespace Go.Proofs.YtolffmmkjnhkkaaGreat
open Go.RowKit Go BigFrame Go.Shelf
set_option maxRecDepth 100000
set_option linter.unusedSimpArgs false
set_option linter.unusedVariables false
set_option maxHeartbeats 1000000 in
theorem ref_Cmp_ff (a b:Option Addr) (ca cb:Nat) (l m:List Int) (w:World) (h:Ints w a ca l) (k:Ints w b cb m) (h1:chkB false l=true) (h2:chkB false m=true):
 Calls Tryz.prog 48 #[.agg #[.bool false,.slice a l.length ca],.agg #[.bool false,.slice b m.length cb]] w fun e w'=>e=.returned (.tuple #[.int .i64 (cmpI (sgn false (dval l)) (sgn false (dval m))),.int .i64 0])∧Ext w w':=by
 have hs:=cmp_sgn (n1:=false) (n2:=false) (dval_nonneg (of_chk h1).1.1.digs) (dval_nonneg (of_chk h2).1.1.digs) (fun e=>dval_pos (of_chk h1).1.1 ((of_chk h1).1.2.1 e)) (fun e=>dval_pos (of_chk h2).1.1 ((of_chk h2).1.2.1 e))
 obtain⟨w3,hw3⟩:∃w3,((w.alloc (.cells #[.bool false,.slice a l.length ca] 36)).alloc (.cells #[.bool false,.slice b m.length cb] 36))=w3:=⟨_,rfl⟩
 have B1:=(Blk.new0 w #[.bool false,.slice a l.length ca] 36).alloc (.cells #[.bool false,.slice b m.length cb] 36)
 have B2:=Blk.new1 w (.cells #[.bool false,.slice a l.length ca] 36) #[.bool false,.slice b m.length cb] 36
 have hx:Ext w w3:=by rw [←hw3];exact(by repeat (first | with_reducible exact Ext.refl _ | with_reducible assumption | with_reducible refine Ext.drewN ?_ _ | with_reducible refine Ext.drew ?_ | with_reducible refine Ext.alloc' ?_ _ | with_reducible refine Ext.set ?_ (by dsimp only;omega) _))
 rw [hw3] at B1 B2
 have c0:=B1.cell (i:=0) (v:=.bool false) rfl
 have c1:=B1.cell (i:=1) (v:=.slice a l.length ca) rfl
 have c2:=B2.cell (i:=0) (v:=.bool false) rfl
 have c3:=B2.cell (i:=1) (v:=.slice b m.length cb) rfl
 have H1:=Lib.hid B1
 have H2:=Lib.hid B2
 have HW:=Lib.hid hw3
 have HT:=ref_two false false a b ca cb l m w3 (h.ext hx) (k.ext hx)
 rw [h1,h2] at HT
 have HT:=Lib.hid (show Calls Tryz.prog 69 _ w3 fun e w'=>e=.returned (.int .i64 0)∧Ext w3 w' from HT)
 have HC:=Lib.hid (fun W (hy:Ext w W)=>ref_cmp a b ca cb l m W (h.ext hy) (k.ext hy) (of_chk h1).1.1 (of_chk h2).1.1)
 have HS:=Lib.hid (hs.2.2.2 rfl rfl)
 clear hs h1 h2 h k B1 B2 hw3
 go_enter Tryz.func48,Tryz.ntmps48
 go_upto_region 1 with fail
 rw [HW.out]
 go_wp2_with fail
 refine HT.out.mono ?_
 rintro e w5 ⟨rfl,hy⟩
 clear c0 c1 c2 c3 HT
 have c0:=(H1.out.ext hy).cell (i:=0) (v:=.bool false) rfl
 have c1:=(H1.out.ext hy).cell (i:=1) (v:=.slice a l.length ca) rfl
 have c2:=(H2.out.ext hy).cell (i:=0) (v:=.bool false) rfl
 have c3:=(H2.out.ext hy).cell (i:=1) (v:=.slice b m.length cb) rfl
 have HC5:=Lib.hid (HC.out w5 (hx.trans hy))
 go_wp2_with fail
 refine HC5.out.mono ?_
 rintro e w6 ⟨rfl,hy6⟩
 rw [HS.out]
 go_wp2_with fail
 refine bodyPost_ret (v:=.tuple #[.int .i64 _,.int .i64 0]) (by simp [results,Tryz.results48,go_sem];rfl) rfl ?_
 exact⟨rfl,(hx.trans hy).trans hy6⟩
set_option maxHeartbeats 1000000 in
theorem ref_Cmp_ft (a b:Option Addr) (ca cb:Nat) (l m:List Int) (w:World) (h:Ints w a ca l) (k:Ints w b cb m) (h1:chkB false l=true) (h2:chkB true m=true):
 Calls Tryz.prog 48 #[.agg #[.bool false,.slice a l.length ca],.agg #[.bool true,.slice b m.length cb]] w fun e w'=>e=.returned (.tuple #[.int .i64 (cmpI (sgn false (dval l)) (sgn true (dval m))),.int .i64 0])∧Ext w w':=by
 have hs:=cmp_sgn (n1:=false) (n2:=true) (dval_nonneg (of_chk h1).1.1.digs) (dval_nonneg (of_chk h2).1.1.digs) (fun e=>dval_pos (of_chk h1).1.1 ((of_chk h1).1.2.1 e)) (fun e=>dval_pos (of_chk h2).1.1 ((of_chk h2).1.2.1 e))
 obtain⟨w3,hw3⟩:∃w3,((w.alloc (.cells #[.bool false,.slice a l.length ca] 36)).alloc (.cells #[.bool true,.slice b m.length cb] 36))=w3:=⟨_,rfl⟩
 have B1:=(Blk.new0 w #[.bool false,.slice a l.length ca] 36).alloc (.cells #[.bool true,.slice b m.length cb] 36)
 have B2:=Blk.new1 w (.cells #[.bool false,.slice a l.length ca] 36) #[.bool true,.slice b m.length cb] 36
 have hx:Ext w w3:=by rw [←hw3];exact(by repeat (first | with_reducible exact Ext.refl _ | with_reducible assumption | with_reducible refine Ext.drewN ?_ _ | with_reducible refine Ext.drew ?_ | with_reducible refine Ext.alloc' ?_ _ | with_reducible refine Ext.set ?_ (by dsimp only;omega) _))
 rw [hw3] at B1 B2
 have c0:=B1.cell (i:=0) (v:=.bool false) rfl
 have c1:=B1.cell (i:=1) (v:=.slice a l.length ca) rfl
 have c2:=B2.cell (i:=0) (v:=.bool true) rfl
 have c3:=B2.cell (i:=1) (v:=.slice b m.length cb) rfl
 have H1:=Lib.hid B1
 have H2:=Lib.hid B2
 have HW:=Lib.hid hw3
 have HT:=ref_two false true a b ca cb l m w3 (h.ext hx) (k.ext hx)
 rw [h1,h2] at HT
 have HT:=Lib.hid (show Calls Tryz.prog 69 _ w3 fun e w'=>e=.returned (.int .i64 0)∧Ext w3 w' from HT)
 have HS:=Lib.hid (hs.2.2.1 rfl rfl)
 clear hs h1 h2 h k B1 B2 hw3
 go_enter Tryz.func48,Tryz.ntmps48
 go_upto_region 1 with fail
 rw [HW.out]
 go_wp2_with fail
 refine HT.out.mono ?_
 rintro e w5 ⟨rfl,hy⟩
 clear c0 c1 c2 c3 HT
 have c0:=(H1.out.ext hy).cell (i:=0) (v:=.bool false) rfl
 have c1:=(H1.out.ext hy).cell (i:=1) (v:=.slice a l.length ca) rfl
 have c2:=(H2.out.ext hy).cell (i:=0) (v:=.bool true) rfl
 have c3:=(H2.out.ext hy).cell (i:=1) (v:=.slice b m.length cb) rfl
 go_wp2_with fail
 refine bodyPost_ret (v:=.tuple #[.int .i64 (1),.int .i64 0]) (by simp [results,Tryz.results48,go_sem]) rfl ?_
 exact⟨by rw [HS.out],hx.trans hy⟩
set_option maxHeartbeats 1000000 in
theorem ref_Cmp_tf (a b:Option Addr) (ca cb:Nat) (l m:List Int) (w:World) (h:Ints w a ca l) (k:Ints w b cb m) (h1:chkB true l=true) (h2:chkB false m=true):
 Calls Tryz.prog 48 #[.agg #[.bool true,.slice a l.length ca],.agg #[.bool false,.slice b m.length cb]] w fun e w'=>e=.returned (.tuple #[.int .i64 (cmpI (sgn true (dval l)) (sgn false (dval m))),.int .i64 0])∧Ext w w':=by
 have hs:=cmp_sgn (n1:=true) (n2:=false) (dval_nonneg (of_chk h1).1.1.digs) (dval_nonneg (of_chk h2).1.1.digs) (fun e=>dval_pos (of_chk h1).1.1 ((of_chk h1).1.2.1 e)) (fun e=>dval_pos (of_chk h2).1.1 ((of_chk h2).1.2.1 e))
 obtain⟨w3,hw3⟩:∃w3,((w.alloc (.cells #[.bool true,.slice a l.length ca] 36)).alloc (.cells #[.bool false,.slice b m.length cb] 36))=w3:=⟨_,rfl⟩
 have B1:=(Blk.new0 w #[.bool true,.slice a l.length ca] 36).alloc (.cells #[.bool false,.slice b m.length cb] 36)
 have B2:=Blk.new1 w (.cells #[.bool true,.slice a l.length ca] 36) #[.bool false,.slice b m.length cb] 36
 have hx:Ext w w3:=by rw [←hw3];exact(by repeat (first | with_reducible exact Ext.refl _ | with_reducible assumption | with_reducible refine Ext.drewN ?_ _ | with_reducible refine Ext.drew ?_ | with_reducible refine Ext.alloc' ?_ _ | with_reducible refine Ext.set ?_ (by dsimp only;omega) _))
 rw [hw3] at B1 B2
 have c0:=B1.cell (i:=0) (v:=.bool true) rfl
 have c1:=B1.cell (i:=1) (v:=.slice a l.length ca) rfl
 have c2:=B2.cell (i:=0) (v:=.bool false) rfl
 have c3:=B2.cell (i:=1) (v:=.slice b m.length cb) rfl
 have H1:=Lib.hid B1
 have H2:=Lib.hid B2
 have HW:=Lib.hid hw3
 have HT:=ref_two true false a b ca cb l m w3 (h.ext hx) (k.ext hx)
 rw [h1,h2] at HT
 have HT:=Lib.hid (show Calls Tryz.prog 69 _ w3 fun e w'=>e=.returned (.int .i64 0)∧Ext w3 w' from HT)
 have HS:=Lib.hid (hs.2.1 rfl rfl)
 clear hs h1 h2 h k B1 B2 hw3
 go_enter Tryz.func48,Tryz.ntmps48
 go_upto_region 1 with fail
 rw [HW.out]
 go_wp2_with fail
 refine HT.out.mono ?_
 rintro e w5 ⟨rfl,hy⟩
 clear c0 c1 c2 c3 HT
 have c0:=(H1.out.ext hy).cell (i:=0) (v:=.bool true) rfl
 have c1:=(H1.out.ext hy).cell (i:=1) (v:=.slice a l.length ca) rfl
 have c2:=(H2.out.ext hy).cell (i:=0) (v:=.bool false) rfl
 have c3:=(H2.out.ext hy).cell (i:=1) (v:=.slice b m.length cb) rfl
 go_wp2_with fail
 refine bodyPost_ret (v:=.tuple #[.int .i64 (-1),.int .i64 0]) (by simp [results,Tryz.results48,go_sem]) rfl ?_
 exact⟨by rw [HS.out],hx.trans hy⟩
set_option maxHeartbeats 1000000 in
theorem ref_Cmp_tt (a b:Option Addr) (ca cb:Nat) (l m:List Int) (w:World) (h:Ints w a ca l) (k:Ints w b cb m) (h1:chkB true l=true) (h2:chkB true m=true):
 Calls Tryz.prog 48 #[.agg #[.bool true,.slice a l.length ca],.agg #[.bool true,.slice b m.length cb]] w fun e w'=>e=.returned (.tuple #[.int .i64 (cmpI (sgn true (dval l)) (sgn true (dval m))),.int .i64 0])∧Ext w w':=by
 have hs:=cmp_sgn (n1:=true) (n2:=true) (dval_nonneg (of_chk h1).1.1.digs) (dval_nonneg (of_chk h2).1.1.digs) (fun e=>dval_pos (of_chk h1).1.1 ((of_chk h1).1.2.1 e)) (fun e=>dval_pos (of_chk h2).1.1 ((of_chk h2).1.2.1 e))
 obtain⟨w3,hw3⟩:∃w3,((w.alloc (.cells #[.bool true,.slice a l.length ca] 36)).alloc (.cells #[.bool true,.slice b m.length cb] 36))=w3:=⟨_,rfl⟩
 have B1:=(Blk.new0 w #[.bool true,.slice a l.length ca] 36).alloc (.cells #[.bool true,.slice b m.length cb] 36)
 have B2:=Blk.new1 w (.cells #[.bool true,.slice a l.length ca] 36) #[.bool true,.slice b m.length cb] 36
 have hx:Ext w w3:=by rw [←hw3];exact(by repeat (first | with_reducible exact Ext.refl _ | with_reducible assumption | with_reducible refine Ext.drewN ?_ _ | with_reducible refine Ext.drew ?_ | with_reducible refine Ext.alloc' ?_ _ | with_reducible refine Ext.set ?_ (by dsimp only;omega) _))
 rw [hw3] at B1 B2
 have c0:=B1.cell (i:=0) (v:=.bool true) rfl
 have c1:=B1.cell (i:=1) (v:=.slice a l.length ca) rfl
 have c2:=B2.cell (i:=0) (v:=.bool true) rfl
 have c3:=B2.cell (i:=1) (v:=.slice b m.length cb) rfl
 have H1:=Lib.hid B1
 have H2:=Lib.hid B2
 have HW:=Lib.hid hw3
 have HT:=ref_two true true a b ca cb l m w3 (h.ext hx) (k.ext hx)
 rw [h1,h2] at HT
 have HT:=Lib.hid (show Calls Tryz.prog 69 _ w3 fun e w'=>e=.returned (.int .i64 0)∧Ext w3 w' from HT)
 have HC:=Lib.hid (fun W (hy:Ext w W)=>ref_cmp b a cb ca m l W (k.ext hy) (h.ext hy) (of_chk h2).1.1 (of_chk h1).1.1)
 have HS:=Lib.hid (hs.1 rfl rfl)
 clear hs h1 h2 h k B1 B2 hw3
 go_enter Tryz.func48,Tryz.ntmps48
 go_upto_region 1 with fail
 rw [HW.out]
 go_wp2_with fail
 refine HT.out.mono ?_
 rintro e w5 ⟨rfl,hy⟩
 clear c0 c1 c2 c3 HT
 have c0:=(H1.out.ext hy).cell (i:=0) (v:=.bool true) rfl
 have c1:=(H1.out.ext hy).cell (i:=1) (v:=.slice a l.length ca) rfl
 have c2:=(H2.out.ext hy).cell (i:=0) (v:=.bool true) rfl
 have c3:=(H2.out.ext hy).cell (i:=1) (v:=.slice b m.length cb) rfl
 have HC5:=Lib.hid (HC.out w5 (hx.trans hy))
 go_wp2_with fail
 refine HC5.out.mono ?_
 rintro e w6 ⟨rfl,hy6⟩
 rw [HS.out]
 go_wp2_with fail
 refine bodyPost_ret (v:=.tuple #[.int .i64 _,.int .i64 0]) (by simp [results,Tryz.results48,go_sem];rfl) rfl ?_
 exact⟨rfl,(hx.trans hy).trans hy6⟩
theorem ref_Cmp_ok (n1 n2:Bool) (a b:Option Addr) (ca cb:Nat) (l m:List Int) (w:World) (h:Ints w a ca l) (k:Ints w b cb m) (h1:chkB n1 l=true) (h2:chkB n2 m=true):
 Calls Tryz.prog 48 #[.agg #[.bool n1,.slice a l.length ca],.agg #[.bool n2,.slice b m.length cb]] w fun e w'=>e=.returned (.tuple #[.int .i64 (cmpI (sgn n1 (dval l)) (sgn n2 (dval m))),.int .i64 0])∧Ext w w':=by
 cases n1 <;> cases n2
 ·exact ref_Cmp_ff a b ca cb l m w h k h1 h2
 ·exact ref_Cmp_ft a b ca cb l m w h k h1 h2
 ·exact ref_Cmp_tf a b ca cb l m w h k h1 h2
 ·exact ref_Cmp_tt a b ca cb l m w h k h1 h2
end Go.Proofs.YtolffmmkjnhkkaaGreat
namespace Go.Proofs.YtolffmmkjnhkkaaGreat
open Go.RowKit Go BigFrame Go.Shelf
set_option maxRecDepth 100000
set_option linter.unusedSimpArgs false
set_option maxHeartbeats 2000000 in
theorem ref_Gcd_ok (n1 n2:Bool) (a b:Option Addr) (ca cb:Nat) (l m:List Int) (w:World) (h:Ints w a ca l) (k:Ints w b cb m) (h1:chkB n1 l=true) (h2:chkB n2 m=true):
 Calls Tryz.prog 47 #[.agg #[.bool n1,.slice a l.length ca],.agg #[.bool n2,.slice b m.length cb]] w (GcdP (Nat.gcd (dval l).toNat (dval m).toNat:Nat) w):=by
 obtain⟨w3,hw3⟩:∃w3,(((w.alloc (.cells #[.bool n1,.slice a l.length ca] 36)).alloc (.cells #[.bool n2,.slice b m.length cb] 36)).alloc (.cells #[.bool false,.slice none 0 0] 36))=w3:=⟨_,rfl⟩
 have B1:=((Blk.new0 w #[.bool n1,.slice a l.length ca] 36).alloc (.cells #[.bool n2,.slice b m.length cb] 36)).alloc (.cells #[.bool false,.slice none 0 0] 36)
 have B2:=(Blk.new1 w (.cells #[.bool n1,.slice a l.length ca] 36) #[.bool n2,.slice b m.length cb] 36).alloc (.cells #[.bool false,.slice none 0 0] 36)
 have B3:=Blk.new2 w (.cells #[.bool n1,.slice a l.length ca] 36) (.cells #[.bool n2,.slice b m.length cb] 36) #[.bool false,.slice none 0 0] 36
 have hx:Ext w w3:=by rw [←hw3];exact(by repeat (first | with_reducible exact Ext.refl _ | with_reducible assumption | with_reducible refine Ext.drewN ?_ _ | with_reducible refine Ext.drew ?_ | with_reducible refine Ext.alloc' ?_ _ | with_reducible refine Ext.set ?_ (by dsimp only;omega) _))
 rw [hw3] at B1 B2 B3
 have c0:=B1.cell (i:=0) (v:=.bool n1) rfl
 have c1:=B1.cell (i:=1) (v:=.slice a l.length ca) rfl
 have c2:=B2.cell (i:=0) (v:=.bool n2) rfl
 have c3:=B2.cell (i:=1) (v:=.slice b m.length cb) rfl
 have H1:=Lib.hid B1
 have H2:=Lib.hid B2
 have H3:=Lib.hid B3
 have HW:=Lib.hid hw3
 have HT:=ref_two n1 n2 a b ca cb l m w3 (h.ext hx) (k.ext hx)
 rw [h1,h2] at HT
 have HT:=Lib.hid (show Calls Tryz.prog 69 _ w3 fun e w'=>e=.returned (.int .i64 0)∧Ext w3 w' from HT)
 obtain⟨z1,y1⟩:=of_chk h1
 obtain⟨z2,y2⟩:=of_chk h2
 have HZ1:=Lib.hid z1.1
 have HZ2:=Lib.hid z2.1
 have HI:=Lib.hid (h.ext hx)
 have HJ:=Lib.hid (k.ext hx)
 have HA:Hid (∀ (L:List Int) (c:Option Addr) (cc:Nat),Ints w c cc L→0<L.length→∀A,c=some A→A.block<w.heap.size):=Lib.hid (fun L c cc hI hp A hA=>by
  obtain⟨b0,o0,e0⟩:=hI.head hp
  rw [e0] at hA hI
  cases hA
  exact lt_of_cell (hI.cell (i:=0) hp).1)
 have HI0:=Lib.hid h
 have HJ0:=Lib.hid k
 have HLL:=Lib.hid (And.intro y1 y2)
 clear z1 z2 y1 y2 h1 h2 h k B1 B2 B3 hw3
 go_enter Tryz.func47,Tryz.ntmps47
 go_upto_region 1 with fail
 rw [HW.out]
 simp only [Nat.add_assoc,Nat.reduceAdd]
 go_wp2_with fail
 refine HT.out.mono ?_
 rintro e w5 ⟨rfl,hy⟩
 have H5:=Lib.hid (H3.out.ext hy)
 have hx5:=hx.trans hy
 clear c0 c1 c2 c3
 have c1:=(H1.out.ext hy).cell (i:=1) (v:=.slice a l.length ca) rfl
 have c3:=(H2.out.ext hy).cell (i:=1) (v:=.slice b m.length cb) rfl
 have hs6:w.heap.size+3≤w5.heap.size:=H5.out.lt
 have HY:=Lib.hid hy
 obtain⟨X0,hX0⟩:∃X0,(dval l).toNat=X0:=⟨_,rfl⟩
 obtain⟨Y0,hY0⟩:∃Y0,(dval m).toNat=Y0:=⟨_,rfl⟩
 have HL1:=Lib.hid (show digs X0=l by rw [←hX0];exact digs_of HZ1.out)
 have HL2:=Lib.hid (show digs Y0=m by rw [←hY0];exact digs_of HZ2.out)
 obtain⟨G,hG⟩:∃G,Nat.gcd X0 Y0=G:=⟨_,rfl⟩
 have HG:=Lib.hid hG
 have HGG:=Lib.hid (show Nat.gcd (dval l).toNat (dval m).toNat=G by rw [hX0,hY0];exact hG)
 clear hG hX0 hY0 H1 H2 H3 HT HW hy
 go_wp2_with fail
 clear c1 c3
 go_loopg [7,8] Y0 (fun k vm vn wr=>∃ (X:Nat) (am an:Option Addr) (cm cn L1 L2:Nat),vm=.slice am L1 cm∧vn=.slice an L2 cn∧L1= (digs X).length∧L2= (digs k).length∧Ints wr am cm (digs X)∧Ints wr an cn (digs k)∧
  L1≤2048∧L2≤2048∧Nat.gcd X k=G∧(0<L1→∀A,am=some A→A.block≠w.heap.size+2)∧(0<L2→∀A,an=some A→A.block≠w.heap.size+2)∧Ext w5 wr)
 case atStart=>
  refine⟨X0,a,b,ca,cb,l.length,m.length,rfl,rfl,by rw [HL1.out],by rw [HL2.out],?_,?_,HLL.out.1,HLL.out.2,HG.out,?_,?_,Ext.refl _⟩
  ·rw [HL1.out];exact HI.out.ext HY.out
  ·rw [HL2.out];exact HJ.out.ext HY.out
  ·exact fun hp A hA=>by have:=HA.out l a ca HI0.out hp A hA;omega
  ·exact fun hp A hA=>by have:=HA.out m b cb HJ0.out hp A hA;omega
 case round=>
  clear HL1 HL2 HI HJ HA HLL HG HZ1 HZ2 HI0 HJ0
  obtain⟨X,am,an,cm,cn,L1,L2,rfl,rfl,hL1,hL2,hi,hj,k1,k2,hg,ha,hb,hxr⟩:=hrel
  by_cases hk:gk=0
  ·subst hk
   rw [digs_zero] at hL2
   obtain rfl:L2=0:=by simpa using hL2
   have hG2:X=G:=by rw [←hg];exact(Nat.gcd_zero_right X).symm
   have hB:=ref_of_ok false am cm (digs X) wr hi (by rw [trim_id (digs_norm _),←hL1];omega)
   rw [trim_id (digs_norm _),←hL1,Bool.false_and] at hB
   have HB:=Lib.hid hB
   have K5:=Lib.hid (H5.out.ext hxr)
   have HIX:=Lib.hid hi
   have HH:=Lib.hid (And.intro hL1 (And.intro hG2 ha))
   have hx7:=Lib.hid (hx5.trans hxr)
   clear hB hi hj hL1 hL2 hg ha hb hG2 H5
   go_wp2_with fail
   refine HB.out.mono ?_
   rintro e w8 ⟨rfl,hy8⟩
   have F5:=K5.out.ext hy8
   have d0:=F5.cell (i:=0) (v:=.bool false) rfl
   have d1:=(F5.set 0 (.bool false)).cell (i:=1) (v:=.slice none 0 0) rfl
   have f0:=F5.free 0
   have f1:=(F5.set 0 (.bool false)).free 1
   have M5:=Lib.hid ((F5.set 0 (.bool false)).set 1 (.slice am L1 cm))
   have HX8:=Lib.hid (((hx7.out.trans hy8).set (p:=⟨w.heap.size+2,0,none⟩) (by dsimp only;omega) (.bool false)).set (p:=⟨w.heap.size+2,1,none⟩) (by dsimp only;omega) (.slice am L1 cm))
   have HY8:=Lib.hid hy8
   clear F5 hy8 HB
   go_wp2_with fail
   have e0:=M5.out.cell (i:=0) (v:=.bool false) rfl
   have e1:=M5.out.cell (i:=1) (v:=.slice am L1 cm) rfl
   obtain⟨hL1,hG2,ha⟩:=HH.out
   have I1:=((HIX.out.ext HY8.out).putS (p:=⟨w.heap.size+2,0,none⟩) (fun hp A hA=>ha (by omega) A hA) (.bool false)).putS (p:=⟨w.heap.size+2,1,none⟩) (fun hp A hA=>ha (by omega) A hA) (.slice am L1 cm)
   have hbo:=big_of false X
   rw [Bool.false_and] at hbo
   have hfin:GcdP ((Nat.gcd (dval l).toNat (dval m).toNat:Nat):Int) w (.returned (.tuple #[.agg #[.bool false,.slice am L1 cm],.int .i64 0])) ((w8.setCell ⟨w.heap.size+2,0,none⟩ (.bool false)).setCell ⟨w.heap.size+2,1,none⟩ (.slice am L1 cm)):=by
    rw [HGG.out]
    refine⟨_,rfl,⟨false,digs X,⟨am,cm,by rw [hL1],I1⟩,?_⟩,HX8.out⟩
    rw [←hG2];exact hbo
   exact bodyPost_ret (v:=.tuple #[.agg #[.bool false,.slice am L1 cm],.int .i64 0]) (by simp [results,Tryz.results47,go_sem,e0,e1]) rfl hfin
  ·have hp:0<L2:=by rw [hL2,digs_pos (by omega)];simp
   have hD:=ref_divide am an cm cn L1 L2 (L1+1 - L2) (digs X) (digs gk) wr hi hj (digs_norm _).digs (digs_norm _) hp hL2.symm hL1.symm rfl (by omega) (by omega)
   have HD:=Lib.hid hD
   have hr:(dval (digs X) % dval (digs gk)).toNat=X % gk:=by rw [digs_val,digs_val,←Int.natCast_emod,Int.toNat_natCast]
   have HR:=Lib.hid hr
   have HIX:=Lib.hid hi
   have HJX:=Lib.hid hj
   have HH:=Lib.hid (And.intro hL1 (And.intro hL2 (And.intro k1 (And.intro k2 (And.intro hg (And.intro ha hb))))))
   have d1:decide (0<L2)=true:=by simpa using hp
   have d2:decide ((0:Int)< (L2:Int))=true:=by simp only [decide_eq_true_eq];omega
   have HP:=Lib.hid (And.intro hp hk)
   have hsr:=hxr.size
   clear hD hr hi hj hL1 hL2 hg ha hb hk
   go_wp2_with fail
   refine HD.out.mono ?_
   rintro e w8 ⟨aq,cq,ar,cr,rfl,hiq,hir,hbq,hbr,hy8⟩
   rw [HR.out] at hir ⊢
   have HIR:=Lib.hid hir
   have HBR:=Lib.hid hbr
   have HY8:=Lib.hid hy8
   clear hiq hir hbq hbr hy8 HD
   go_wp2_with fail
   go_roundg (X % gk)
   case measure=>exact Nat.mod_lt _ (by have:=HP.out.2;omega)
   case rel=>
    obtain⟨hL1,hL2,k1,k2,hg,ha,hb⟩:=HH.out
    have hmod:X % gk<gk:=Nat.mod_lt _ (by have:=HP.out.2;omega)
    refine⟨gk,an,ar,cn,cr,L2,(digs (X % gk)).length,rfl,rfl,hL2,rfl,HJX.out.ext HY8.out,HIR.out,k2,?_,?_,hb,?_,hxr.trans HY8.out⟩
    ·have:=digs_mono (u:=X % gk) (v:=gk) (by omega);omega
    ·rw [←hg,Nat.gcd_comm X gk,Nat.gcd_rec gk X,Nat.gcd_comm]
    ·intro hp2 A hA
     have:=HBR.out A hA
     omega
theorem rGcd_val {v u:Value} {z y:Int} {w:World} (hv:BigV w v z) (hu:BigV w u y) (hz:Len z) (hy:Len y):Calls Tryz.prog 47 #[v,u] w (GcdP (Int.gcd z y:Nat) w):=by
 obtain⟨n1,l,⟨a,ca,rfl,hi⟩,hb⟩:=hv
 obtain⟨n2,m,⟨b,cb,rfl,hj⟩,hc⟩:=hu
 have:=ref_Gcd_ok n1 n2 a b ca cb l m w hi hj (hb.chk hz) (hc.chk hy)
 have e1:(dval l).toNat=z.natAbs:=by
  have:=dval_nonneg hb.1.digs
  rw [hb.sgn];unfold sgn;split <;> omega
 have e2:(dval m).toNat=y.natAbs:=by
  have:=dval_nonneg hc.1.digs
  rw [hc.sgn];unfold sgn;split <;> omega
 rw [e1,e2] at this
 exact this
end Go.Proofs.YtolffmmkjnhkkaaGreat
namespace Go.Proofs.YtolffmmkjnhkkaaGreat
open Go.RowKit Go BigFrame
set_option maxRecDepth 100000
set_option linter.unusedSimpArgs false
set_option linter.unusedVariables false
theorem rcmp_val {v u:Value} {z y:Int} {w:World} (hv:BigV w v z) (hu:BigV w u y) (hz:Len z) (hy:Len y):Calls Tryz.prog 48 #[v,u] w (CmpP z y w):=by
 obtain⟨n1,l,⟨a,ca,rfl,hi⟩,hb⟩:=hv
 obtain⟨n2,m,⟨b,cb,rfl,hj⟩,hc⟩:=hu
 have:=ref_Cmp_ok n1 n2 a b ca cb l m w hi hj (hb.chk hz) (hc.chk hy)
 rw [←hb.sgn,←hc.sgn] at this
 exact this
theorem refR_zero_yes (n:Bool) (a:Option Addr) (q c:Nat) (w:World) (hq:q=0):Calls Tryz.prog 46 #[.agg #[.bool n,.slice a q c]] w fun e w'=>e=.returned (.bool true)∧Ext w w':=by
 subst hq
 obtain⟨x1,hw,hx,Kx⟩:=boxQ1 w #[.bool n,.slice a 0 c] 36
 replace hw:=Lib.hid hw
 go_enter Tryz.func46,Tryz.ntmps46
 go_upto_region 1 with fail
 try simp only [Nat.add_assoc,Nat.reduceAdd,Nat.add_zero]
 rw [hw.out]
 clear hw
 have hs0:=hx.size
 obtain⟨cx0,cx1⟩:=bk2 Kx
 go_wp2_with fail
 go_ret
 exact⟨rfl,hx⟩
theorem refR_zero_no (n:Bool) (a:Option Addr) (q c:Nat) (w:World) (hq:0<q∧q≤9223372036854775807):Calls Tryz.prog 46 #[.agg #[.bool n,.slice a q c]] w fun e w'=>e=.returned (.bool false)∧Ext w w':=by
 obtain⟨hq,hm⟩:=hq
 have t1:((q:Int) == 0)=false:=by simp only [beq_eq_false_iff_ne];omega
 have t2:(q == 0)=false:=by simp only [beq_eq_false_iff_ne];omega
 have t3:decide (q=0)=false:=decide_eq_false (by omega)
 obtain⟨x1,hw,hx,Kx⟩:=boxQ1 w #[.bool n,.slice a q c] 36
 replace hw:=Lib.hid hw
 go_enter Tryz.func46,Tryz.ntmps46
 go_upto_region 1 with fail
 try simp only [Nat.add_assoc,Nat.reduceAdd,Nat.add_zero]
 rw [hw.out]
 clear hw
 have hs0:=hx.size
 obtain⟨cx0,cx1⟩:=bk2 Kx
 go_wp2_with fail
 go_ret
 exact⟨rfl,hx⟩
set_option maxHeartbeats 1000000 in
theorem refR_Check_b1 (n1 n2:Bool) (a b:Option Addr) (ca cb:Nat) (l m:List Int) (w:World) (h:Ints w a ca l) (k:Ints w b cb m) (h1:chkB n1 l=false):Calls Tryz.prog 22 #[.agg #[.bool n1,.slice a l.length ca,.bool n2,.slice b m.length cb]] w fun e w'=>e=.returned (.int .i64 100)∧Ext w w':=by
 have H1:=Lib.hid (fun W (hy:Ext w W)=>ref_Check n1 a ca l W (h.ext hy))
 have H2:=Lib.hid (fun W (hy:Ext w W)=>ref_Check n2 b cb m W (k.ext hy))
 have HM:=Lib.hid (Nat.le_trans k.le k.mx)
 rw [h1] at H1
 clear h k h1
 obtain⟨x1,hw,hx,Kx⟩:=boxQ1 w #[.bool n1,.slice a l.length ca,.bool n2,.slice b m.length cb] 38
 replace hw:=Lib.hid hw
 go_enter Tryz.func22,Tryz.ntmps22
 go_upto_region 1 with fail
 try simp only [Nat.add_assoc,Nat.reduceAdd,Nat.add_zero]
 rw [hw.out]
 clear hw
 have hs0:=hx.size
 obtain⟨cx0,cx1,cx2,cx3⟩:=bk4 Kx
 go_wp2_with fail
 with_reducible refine(show Calls Tryz.prog 45 _ _ (fun e w'=>e=.returned (.int .i64 90)∧Ext x1 w') from H1.out _ hx).mono ?_
 clear cx0 cx1 cx2 cx3
 rintro e x2 ⟨rfl,hy⟩
 replace hx:=hx.trans hy
 replace Kx:=kE Kx hy
 clear hy
 go_wp2_with fail
 go_ret
 exact⟨rfl,hx⟩
set_option maxHeartbeats 1000000 in
theorem refR_Check_b2 (n1 n2:Bool) (a b:Option Addr) (ca cb:Nat) (l m:List Int) (w:World) (h:Ints w a ca l) (k:Ints w b cb m) (h1:chkB n1 l=true) (h2:chkB n2 m=false):Calls Tryz.prog 22 #[.agg #[.bool n1,.slice a l.length ca,.bool n2,.slice b m.length cb]] w fun e w'=>e=.returned (.int .i64 100)∧Ext w w':=by
 have H1:=Lib.hid (fun W (hy:Ext w W)=>ref_Check n1 a ca l W (h.ext hy))
 have H2:=Lib.hid (fun W (hy:Ext w W)=>ref_Check n2 b cb m W (k.ext hy))
 have HM:=Lib.hid (Nat.le_trans k.le k.mx)
 rw [h1] at H1
 rw [h2] at H2
 clear h k h1 h2
 obtain⟨x1,hw,hx,Kx⟩:=boxQ1 w #[.bool n1,.slice a l.length ca,.bool n2,.slice b m.length cb] 38
 replace hw:=Lib.hid hw
 go_enter Tryz.func22,Tryz.ntmps22
 go_upto_region 1 with fail
 try simp only [Nat.add_assoc,Nat.reduceAdd,Nat.add_zero]
 rw [hw.out]
 clear hw
 have hs0:=hx.size
 obtain⟨cx0,cx1,cx2,cx3⟩:=bk4 Kx
 go_wp2_with fail
 with_reducible refine(show Calls Tryz.prog 45 _ _ (fun e w'=>e=.returned (.int .i64 0)∧Ext x1 w') from H1.out _ hx).mono ?_
 clear cx0 cx1 cx2 cx3
 rintro e x2 ⟨rfl,hy⟩
 replace hx:=hx.trans hy
 replace Kx:=kE Kx hy
 clear hy
 obtain⟨cx0,cx1,cx2,cx3⟩:=bk4 Kx
 go_wp2_with fail
 with_reducible refine(show Calls Tryz.prog 45 _ _ (fun e w'=>e=.returned (.int .i64 90)∧Ext x2 w') from H2.out _ hx).mono ?_
 clear cx0 cx1 cx2 cx3
 rintro e x3 ⟨rfl,hy⟩
 replace hx:=hx.trans hy
 replace Kx:=kE Kx hy
 clear hy
 go_wp2_with fail
 go_ret
 exact⟨rfl,hx⟩
set_option maxHeartbeats 1000000 in
theorem refR_Check_b3 (n1 n2:Bool) (a b:Option Addr) (ca cb:Nat) (l m:List Int) (w:World) (h:Ints w a ca l) (k:Ints w b cb m) (h1:chkB n1 l=true) (h2:chkB n2 m=true) (h3:m.length=0):Calls Tryz.prog 22 #[.agg #[.bool n1,.slice a l.length ca,.bool n2,.slice b m.length cb]] w fun e w'=>e=.returned (.int .i64 100)∧Ext w w':=by
 have H1:=Lib.hid (fun W (hy:Ext w W)=>ref_Check n1 a ca l W (h.ext hy))
 have H2:=Lib.hid (fun W (hy:Ext w W)=>ref_Check n2 b cb m W (k.ext hy))
 have HM:=Lib.hid (Nat.le_trans k.le k.mx)
 rw [h1] at H1
 rw [h2] at H2
 have H3:=Lib.hid h3
 clear h k h1 h2 h3
 obtain⟨x1,hw,hx,Kx⟩:=boxQ1 w #[.bool n1,.slice a l.length ca,.bool n2,.slice b m.length cb] 38
 replace hw:=Lib.hid hw
 go_enter Tryz.func22,Tryz.ntmps22
 go_upto_region 1 with fail
 try simp only [Nat.add_assoc,Nat.reduceAdd,Nat.add_zero]
 rw [hw.out]
 clear hw
 have hs0:=hx.size
 obtain⟨cx0,cx1,cx2,cx3⟩:=bk4 Kx
 go_wp2_with fail
 with_reducible refine(show Calls Tryz.prog 45 _ _ (fun e w'=>e=.returned (.int .i64 0)∧Ext x1 w') from H1.out _ hx).mono ?_
 clear cx0 cx1 cx2 cx3
 rintro e x2 ⟨rfl,hy⟩
 replace hx:=hx.trans hy
 replace Kx:=kE Kx hy
 clear hy
 obtain⟨cx0,cx1,cx2,cx3⟩:=bk4 Kx
 go_wp2_with fail
 with_reducible refine(show Calls Tryz.prog 45 _ _ (fun e w'=>e=.returned (.int .i64 0)∧Ext x2 w') from H2.out _ hx).mono ?_
 clear cx0 cx1 cx2 cx3
 rintro e x3 ⟨rfl,hy⟩
 replace hx:=hx.trans hy
 replace Kx:=kE Kx hy
 clear hy
 obtain⟨cx0,cx1,cx2,cx3⟩:=bk4 Kx
 go_wp2_with fail
 with_reducible refine(refR_zero_yes _ _ _ _ _ H3.out).mono ?_
 clear cx0 cx1 cx2 cx3
 rintro e x4 ⟨rfl,hy⟩
 replace hx:=hx.trans hy
 replace Kx:=kE Kx hy
 clear hy
 go_wp2_with fail
 go_ret
 exact⟨rfl,hx⟩
set_option maxHeartbeats 1000000 in
theorem refR_Check_b4 (n1 n2:Bool) (a b:Option Addr) (ca cb:Nat) (l m:List Int) (w:World) (h:Ints w a ca l) (k:Ints w b cb m) (h1:chkB n1 l=true) (h2:chkB n2 m=true) (h3:0<m.length) (h4:n2=true):Calls Tryz.prog 22 #[.agg #[.bool n1,.slice a l.length ca,.bool n2,.slice b m.length cb]] w fun e w'=>e=.returned (.int .i64 100)∧Ext w w':=by
 have H1:=Lib.hid (fun W (hy:Ext w W)=>ref_Check n1 a ca l W (h.ext hy))
 have H2:=Lib.hid (fun W (hy:Ext w W)=>ref_Check n2 b cb m W (k.ext hy))
 have HM:=Lib.hid (Nat.le_trans k.le k.mx)
 rw [h1] at H1
 rw [h2] at H2
 have H3:=Lib.hid h3
 subst h4
 clear h k h1 h2 h3
 obtain⟨x1,hw,hx,Kx⟩:=boxQ1 w #[.bool n1,.slice a l.length ca,.bool true,.slice b m.length cb] 38
 replace hw:=Lib.hid hw
 go_enter Tryz.func22,Tryz.ntmps22
 go_upto_region 1 with fail
 try simp only [Nat.add_assoc,Nat.reduceAdd,Nat.add_zero]
 rw [hw.out]
 clear hw
 have hs0:=hx.size
 obtain⟨cx0,cx1,cx2,cx3⟩:=bk4 Kx
 go_wp2_with fail
 with_reducible refine(show Calls Tryz.prog 45 _ _ (fun e w'=>e=.returned (.int .i64 0)∧Ext x1 w') from H1.out _ hx).mono ?_
 clear cx0 cx1 cx2 cx3
 rintro e x2 ⟨rfl,hy⟩
 replace hx:=hx.trans hy
 replace Kx:=kE Kx hy
 clear hy
 obtain⟨cx0,cx1,cx2,cx3⟩:=bk4 Kx
 go_wp2_with fail
 with_reducible refine(show Calls Tryz.prog 45 _ _ (fun e w'=>e=.returned (.int .i64 0)∧Ext x2 w') from H2.out _ hx).mono ?_
 clear cx0 cx1 cx2 cx3
 rintro e x3 ⟨rfl,hy⟩
 replace hx:=hx.trans hy
 replace Kx:=kE Kx hy
 clear hy
 obtain⟨cx0,cx1,cx2,cx3⟩:=bk4 Kx
 go_wp2_with fail
 with_reducible refine(refR_zero_no _ _ _ _ _ ⟨H3.out,HM.out⟩).mono ?_
 clear cx0 cx1 cx2 cx3
 rintro e x4 ⟨rfl,hy⟩
 replace hx:=hx.trans hy
 replace Kx:=kE Kx hy
 clear hy
 obtain⟨cx0,cx1,cx2,cx3⟩:=bk4 Kx
 go_wp2_with fail
 go_ret
 exact⟨rfl,hx⟩
set_option maxHeartbeats 1000000 in
theorem refR_Check_gone (n1 n2:Bool) (a b:Option Addr) (ca cb:Nat) (l m:List Int) (w:World) (h:Ints w a ca l) (k:Ints w b cb m) (h1:chkB n1 l=true) (h2:chkB n2 m=true) (h3:0<m.length) (h4:n2=false) (hg:Int.gcd (sgn n1 (dval l)) (sgn n2 (dval m))=1):Calls Tryz.prog 22 #[.agg #[.bool n1,.slice a l.length ca,.bool n2,.slice b m.length cb]] w fun e w'=>e=.returned (.int .i64 0)∧Ext w w':=by
 have H1:=Lib.hid (fun W (hy:Ext w W)=>ref_Check n1 a ca l W (h.ext hy))
 have H2:=Lib.hid (fun W (hy:Ext w W)=>ref_Check n2 b cb m W (k.ext hy))
 have HM:=Lib.hid (Nat.le_trans k.le k.mx)
 have hG:=fun W (hy:Ext w W)=>rGcd_val (w:=W) (v:=.agg #[.bool n1,.slice a l.length ca]) (u:=.agg #[.bool n2,.slice b m.length cb]) ⟨n1,l,⟨a,ca,rfl,h.ext hy⟩,(of_chk h1).1⟩ ⟨n2,m,⟨b,cb,rfl,k.ext hy⟩,(of_chk h2).1⟩ (by have:=(of_chk h1).2;rw [(of_chk h1).1.digs] at this;exact this) (by have:=(of_chk h2).2;rw [(of_chk h2).1.digs] at this;exact this)
 have hL:Len ((Int.gcd (sgn n1 (dval l)) (sgn n2 (dval m)):Nat):Int):=len_gcd (by have:=(of_chk h1).2;rw [(of_chk h1).1.digs] at this;exact this) (by have:=(of_chk h2).2;rw [(of_chk h2).1.digs] at this;exact this)
 have hp:0<Int.gcd (sgn n1 (dval l)) (sgn n2 (dval m)):=Int.gcd_pos_of_ne_zero_right _ (by
  have h0:=dval_pos (of_chk h2).1.1 (List.ne_nil_of_length_pos h3)
  unfold sgn;split <;> omega)
 have hC:cmpI ((Int.gcd (sgn n1 (dval l)) (sgn n2 (dval m)):Nat):Int) 1=0:=by unfold cmpI;split <;> (try split) <;> omega
 generalize Int.gcd (sgn n1 (dval l)) (sgn n2 (dval m))=gg at *
 have HG:=Lib.hid hG
 have HL:=Lib.hid hL
 have HC:=Lib.hid hC
 clear hG hL hp hC hg
 rw [h1] at H1
 rw [h2] at H2
 have H3:=Lib.hid h3
 subst h4
 clear h k h1 h2 h3
 obtain⟨x1,hw,hx,Kx⟩:=boxQ1 w #[.bool n1,.slice a l.length ca,.bool false,.slice b m.length cb] 38
 replace hw:=Lib.hid hw
 go_enter Tryz.func22,Tryz.ntmps22
 go_upto_region 1 with fail
 try simp only [Nat.add_assoc,Nat.reduceAdd,Nat.add_zero]
 rw [hw.out]
 clear hw
 have hs0:=hx.size
 obtain⟨cx0,cx1,cx2,cx3⟩:=bk4 Kx
 go_wp2_with fail
 with_reducible refine(show Calls Tryz.prog 45 _ _ (fun e w'=>e=.returned (.int .i64 0)∧Ext x1 w') from H1.out _ hx).mono ?_
 clear cx0 cx1 cx2 cx3
 rintro e x2 ⟨rfl,hy⟩
 replace hx:=hx.trans hy
 replace Kx:=kE Kx hy
 clear hy
 obtain⟨cx0,cx1,cx2,cx3⟩:=bk4 Kx
 go_wp2_with fail
 with_reducible refine(show Calls Tryz.prog 45 _ _ (fun e w'=>e=.returned (.int .i64 0)∧Ext x2 w') from H2.out _ hx).mono ?_
 clear cx0 cx1 cx2 cx3
 rintro e x3 ⟨rfl,hy⟩
 replace hx:=hx.trans hy
 replace Kx:=kE Kx hy
 clear hy
 obtain⟨cx0,cx1,cx2,cx3⟩:=bk4 Kx
 go_wp2_with fail
 with_reducible refine(refR_zero_no _ _ _ _ _ ⟨H3.out,HM.out⟩).mono ?_
 clear cx0 cx1 cx2 cx3
 rintro e x4 ⟨rfl,hy⟩
 replace hx:=hx.trans hy
 replace Kx:=kE Kx hy
 clear hy
 obtain⟨cx0,cx1,cx2,cx3⟩:=bk4 Kx
 go_wp2_with fail
 with_reducible refine(HG.out _ hx).mono ?_
 clear cx0 cx1 cx2 cx3
 rintro e x5 ⟨v,rfl,hv,hy⟩
 replace hx:=hx.trans hy
 replace Kx:=kE Kx hy
 clear hy
 obtain⟨ng,ag,qg,cg,rfl⟩:=hv.form
 have Vg:=Lib.hid hv
 clear hv
 go_upto_region 4 with fail
 have hl:=Ext.alloc x5 (.cells #[.bool ng,.slice ag qg cg] 36)
 have lxg:w.heap.size<x5.heap.size:=Kx.out.lt
 have hpg:w.heap.size≤x5.heap.size:=hx.size
 replace hx:=hx.trans hl
 replace Kx:=kE Kx hl
 replace Vg:=Lib.hid (Vg.out.ext hl)
 have Kg:=Lib.hid (Blk.new0 x5 #[.bool ng,.slice ag qg cg] 36)
 clear hl
 generalize x5.alloc (.cells #[.bool ng,.slice ag qg cg] 36)=x6 at *
 generalize x5.heap.size=pg at *
 clear Kx
 have s0:World.cell? x6 ⟨pg,0,none⟩=some (.bool ng):=Kg.out.cell (i:=0) rfl
 have s1:World.cell? x6 ⟨pg,1,none⟩=some (.slice ag qg cg):=Kg.out.cell (i:=1) rfl
 have hE:Ext x6 (World.drew x6):=(Ext.refl _).drew
 have hyd:Ext x6 (World.drew x6):=(Ext.refl _).drew
 replace hx:=hx.trans hyd
 replace Kg:=kE Kg hyd
 replace Vg:=Lib.hid (Vg.out.ext hyd)
 clear hyd
 replace s0:World.cell? (World.drew x6) ⟨pg,0,none⟩=some (.bool ng):=s0
 replace s1:World.cell? (World.drew x6) ⟨pg,1,none⟩=some (.slice ag qg cg):=s1
 refine wp_region_held_drew (S:=(fun w'=>World.cell? w' ⟨pg,0,none⟩=some (.bool ng)∧World.cell? w' ⟨pg,1,none⟩=some (.slice ag qg cg))) (by kernel_rfl) ?_ (fun hHeld=>?_)
 ·exact⟨s0,s1⟩
 (try simp only [pur,Nat.reduceAdd])
 generalize World.drew x6=x7 at *
 refine tk (v:=?_) 0 rfl (by kernel_rfl) (fun _ _ _ h=>h) (by rfl) ?_ (by assumption) ?_
 rotate_left
 ·(intro w hSw;(try dsimp only at hSw);(try go_simp);(try with_reducible rfl))
 (try simp only [Act.put,pus])
 refine wpAnyH_ready (rs:=[1]) (by kernel_rfl) (by simp) ?_
 refine AllReadyH.cons (o:=_) rfl (fun K hK=>?_) ?_
 ·go_simp
  (with_reducible refine(ref_Make 1 _ (by omega)).mono ?_);rintro e x8 ⟨v,rfl,hv,hy⟩;replace hE:=hE.trans hy;replace hx:=hx.trans hy;replace s0:=cell_exQ hy s0;replace s1:=cell_exQ hy s1;replace Kg:=kE Kg hy;replace Vg:=Lib.hid (Vg.out.ext hy);clear hy;obtain⟨ni,ai,qi,ci,rfl,hv,-⟩:=hv.two;have Vi:=Lib.hid hv;clear hv
  refine hK.out _ _ ?_ (fun hHeld2=>?_)
  ·exact⟨s0,s1⟩
  clear hK K hHeld
  have hHeld:=hHeld2
  clear hHeld2
  (try simp only [Act.put,pus])
  refine wpAnyH_ready (rs:=[2]) (by kernel_rfl) (by simp) ?_
  refine AllReadyH.cons (o:=_) rfl (fun K hK=>?_) ?_
  ·go_simp
   (with_reducible refine(rcmp_val Vg.out Vi.out HL.out (len_small (by decide))).mono ?_);rintro e x9 ⟨rfl,hy⟩;replace hE:=hE.trans hy;replace hx:=hx.trans hy;replace s0:=cell_exQ hy s0;replace s1:=cell_exQ hy s1;replace Kg:=kE Kg hy;replace Vg:=Lib.hid (Vg.out.ext hy);replace Vi:=Lib.hid (Vi.out.ext hy);clear hy;rw [HC.out]
   refine hK.out _ _ ?_ (fun hHeld2=>?_)
   ·exact⟨s0,s1⟩
   clear hK K hHeld
   have hHeld:=hHeld2
   clear hHeld2
   (try simp only [Act.put,pus])
   refine tk (v:=?_) 3 rfl (by kernel_rfl) (fun _ _ _ h=>h) (by rfl) ?_ (by assumption) ?_
   rotate_left
   ·(intro w hSw;(try dsimp only at hSw);(try go_simp);(try with_reducible rfl))
   (try simp only [Act.put,pus])
   refine tk (v:=?_) 4 rfl (by kernel_rfl) (fun _ _ _ h=>h) (by rfl) ?_ (by assumption) ?_
   rotate_left
   ·(intro w hSw;(try dsimp only at hSw);(try go_simp);(try with_reducible rfl))
   (try simp only [Act.put,pus])
   refine tk (v:=?_) 5 rfl (by kernel_rfl) (fun _ _ _ h=>h) (by rfl) ?_ (by assumption) ?_
   rotate_left
   ·(intro w hSw;(try dsimp only at hSw);(try go_simp);(try with_reducible rfl))
   (try simp only [Act.put,pus])
   refine tk (v:=?_) 6 rfl (by kernel_rfl) (fun _ _ _ h=>h) (by rfl) ?_ (by assumption) ?_
   rotate_left
   ·(intro w hSw;(try dsimp only at hSw);(try go_simp);(try with_reducible rfl))
   (try simp only [Act.put,pus])
   refine tk (v:=?_) 7 rfl (by kernel_rfl) (fun _ _ _ h=>h) (by rfl) ?_ (by assumption) ?_
   rotate_left
   ·(intro w hSw;(try dsimp only at hSw);(try go_simp);(try with_reducible rfl))
   (try simp only [Act.put,pus])
   refine wpAnyH_done (by kernel_rfl) ?_ _
   go_wp2_with fail
   go_ret
   exact⟨rfl,hx⟩
  exact AllReadyH.nil
 exact AllReadyH.nil
set_option maxHeartbeats 1000000 in
theorem refR_Check_gno (n1 n2:Bool) (a b:Option Addr) (ca cb:Nat) (l m:List Int) (w:World) (h:Ints w a ca l) (k:Ints w b cb m) (h1:chkB n1 l=true) (h2:chkB n2 m=true) (h3:0<m.length) (h4:n2=false) (hg:Int.gcd (sgn n1 (dval l)) (sgn n2 (dval m))≠1):Calls Tryz.prog 22 #[.agg #[.bool n1,.slice a l.length ca,.bool n2,.slice b m.length cb]] w fun e w'=>e=.returned (.int .i64 100)∧Ext w w':=by
 have H1:=Lib.hid (fun W (hy:Ext w W)=>ref_Check n1 a ca l W (h.ext hy))
 have H2:=Lib.hid (fun W (hy:Ext w W)=>ref_Check n2 b cb m W (k.ext hy))
 have HM:=Lib.hid (Nat.le_trans k.le k.mx)
 have hG:=fun W (hy:Ext w W)=>rGcd_val (w:=W) (v:=.agg #[.bool n1,.slice a l.length ca]) (u:=.agg #[.bool n2,.slice b m.length cb]) ⟨n1,l,⟨a,ca,rfl,h.ext hy⟩,(of_chk h1).1⟩ ⟨n2,m,⟨b,cb,rfl,k.ext hy⟩,(of_chk h2).1⟩ (by have:=(of_chk h1).2;rw [(of_chk h1).1.digs] at this;exact this) (by have:=(of_chk h2).2;rw [(of_chk h2).1.digs] at this;exact this)
 have hL:Len ((Int.gcd (sgn n1 (dval l)) (sgn n2 (dval m)):Nat):Int):=len_gcd (by have:=(of_chk h1).2;rw [(of_chk h1).1.digs] at this;exact this) (by have:=(of_chk h2).2;rw [(of_chk h2).1.digs] at this;exact this)
 have hp:0<Int.gcd (sgn n1 (dval l)) (sgn n2 (dval m)):=Int.gcd_pos_of_ne_zero_right _ (by
  have h0:=dval_pos (of_chk h2).1.1 (List.ne_nil_of_length_pos h3)
  unfold sgn;split <;> omega)
 have hC:cmpI ((Int.gcd (sgn n1 (dval l)) (sgn n2 (dval m)):Nat):Int) 1=1:=by unfold cmpI;split <;> (try split) <;> omega
 generalize Int.gcd (sgn n1 (dval l)) (sgn n2 (dval m))=gg at *
 have HG:=Lib.hid hG
 have HL:=Lib.hid hL
 have HC:=Lib.hid hC
 clear hG hL hp hC hg
 rw [h1] at H1
 rw [h2] at H2
 have H3:=Lib.hid h3
 subst h4
 clear h k h1 h2 h3
 obtain⟨x1,hw,hx,Kx⟩:=boxQ1 w #[.bool n1,.slice a l.length ca,.bool false,.slice b m.length cb] 38
 replace hw:=Lib.hid hw
 go_enter Tryz.func22,Tryz.ntmps22
 go_upto_region 1 with fail
 try simp only [Nat.add_assoc,Nat.reduceAdd,Nat.add_zero]
 rw [hw.out]
 clear hw
 have hs0:=hx.size
 obtain⟨cx0,cx1,cx2,cx3⟩:=bk4 Kx
 go_wp2_with fail
 with_reducible refine(show Calls Tryz.prog 45 _ _ (fun e w'=>e=.returned (.int .i64 0)∧Ext x1 w') from H1.out _ hx).mono ?_
 clear cx0 cx1 cx2 cx3
 rintro e x2 ⟨rfl,hy⟩
 replace hx:=hx.trans hy
 replace Kx:=kE Kx hy
 clear hy
 obtain⟨cx0,cx1,cx2,cx3⟩:=bk4 Kx
 go_wp2_with fail
 with_reducible refine(show Calls Tryz.prog 45 _ _ (fun e w'=>e=.returned (.int .i64 0)∧Ext x2 w') from H2.out _ hx).mono ?_
 clear cx0 cx1 cx2 cx3
 rintro e x3 ⟨rfl,hy⟩
 replace hx:=hx.trans hy
 replace Kx:=kE Kx hy
 clear hy
 obtain⟨cx0,cx1,cx2,cx3⟩:=bk4 Kx
 go_wp2_with fail
 with_reducible refine(refR_zero_no _ _ _ _ _ ⟨H3.out,HM.out⟩).mono ?_
 clear cx0 cx1 cx2 cx3
 rintro e x4 ⟨rfl,hy⟩
 replace hx:=hx.trans hy
 replace Kx:=kE Kx hy
 clear hy
 obtain⟨cx0,cx1,cx2,cx3⟩:=bk4 Kx
 go_wp2_with fail
 with_reducible refine(HG.out _ hx).mono ?_
 clear cx0 cx1 cx2 cx3
 rintro e x5 ⟨v,rfl,hv,hy⟩
 replace hx:=hx.trans hy
 replace Kx:=kE Kx hy
 clear hy
 obtain⟨ng,ag,qg,cg,rfl⟩:=hv.form
 have Vg:=Lib.hid hv
 clear hv
 go_upto_region 4 with fail
 have hl:=Ext.alloc x5 (.cells #[.bool ng,.slice ag qg cg] 36)
 have lxg:w.heap.size<x5.heap.size:=Kx.out.lt
 have hpg:w.heap.size≤x5.heap.size:=hx.size
 replace hx:=hx.trans hl
 replace Kx:=kE Kx hl
 replace Vg:=Lib.hid (Vg.out.ext hl)
 have Kg:=Lib.hid (Blk.new0 x5 #[.bool ng,.slice ag qg cg] 36)
 clear hl
 generalize x5.alloc (.cells #[.bool ng,.slice ag qg cg] 36)=x6 at *
 generalize x5.heap.size=pg at *
 clear Kx
 have s0:World.cell? x6 ⟨pg,0,none⟩=some (.bool ng):=Kg.out.cell (i:=0) rfl
 have s1:World.cell? x6 ⟨pg,1,none⟩=some (.slice ag qg cg):=Kg.out.cell (i:=1) rfl
 have hE:Ext x6 (World.drew x6):=(Ext.refl _).drew
 have hyd:Ext x6 (World.drew x6):=(Ext.refl _).drew
 replace hx:=hx.trans hyd
 replace Kg:=kE Kg hyd
 replace Vg:=Lib.hid (Vg.out.ext hyd)
 clear hyd
 replace s0:World.cell? (World.drew x6) ⟨pg,0,none⟩=some (.bool ng):=s0
 replace s1:World.cell? (World.drew x6) ⟨pg,1,none⟩=some (.slice ag qg cg):=s1
 refine wp_region_held_drew (S:=(fun w'=>World.cell? w' ⟨pg,0,none⟩=some (.bool ng)∧World.cell? w' ⟨pg,1,none⟩=some (.slice ag qg cg))) (by kernel_rfl) ?_ (fun hHeld=>?_)
 ·exact⟨s0,s1⟩
 (try simp only [pur,Nat.reduceAdd])
 generalize World.drew x6=x7 at *
 refine tk (v:=?_) 0 rfl (by kernel_rfl) (fun _ _ _ h=>h) (by rfl) ?_ (by assumption) ?_
 rotate_left
 ·(intro w hSw;(try dsimp only at hSw);(try go_simp);(try with_reducible rfl))
 (try simp only [Act.put,pus])
 refine wpAnyH_ready (rs:=[1]) (by kernel_rfl) (by simp) ?_
 refine AllReadyH.cons (o:=_) rfl (fun K hK=>?_) ?_
 ·go_simp
  (with_reducible refine(ref_Make 1 _ (by omega)).mono ?_);rintro e x8 ⟨v,rfl,hv,hy⟩;replace hE:=hE.trans hy;replace hx:=hx.trans hy;replace s0:=cell_exQ hy s0;replace s1:=cell_exQ hy s1;replace Kg:=kE Kg hy;replace Vg:=Lib.hid (Vg.out.ext hy);clear hy;obtain⟨ni,ai,qi,ci,rfl,hv,-⟩:=hv.two;have Vi:=Lib.hid hv;clear hv
  refine hK.out _ _ ?_ (fun hHeld2=>?_)
  ·exact⟨s0,s1⟩
  clear hK K hHeld
  have hHeld:=hHeld2
  clear hHeld2
  (try simp only [Act.put,pus])
  refine wpAnyH_ready (rs:=[2]) (by kernel_rfl) (by simp) ?_
  refine AllReadyH.cons (o:=_) rfl (fun K hK=>?_) ?_
  ·go_simp
   (with_reducible refine(rcmp_val Vg.out Vi.out HL.out (len_small (by decide))).mono ?_);rintro e x9 ⟨rfl,hy⟩;replace hE:=hE.trans hy;replace hx:=hx.trans hy;replace s0:=cell_exQ hy s0;replace s1:=cell_exQ hy s1;replace Kg:=kE Kg hy;replace Vg:=Lib.hid (Vg.out.ext hy);replace Vi:=Lib.hid (Vi.out.ext hy);clear hy;rw [HC.out]
   refine hK.out _ _ ?_ (fun hHeld2=>?_)
   ·exact⟨s0,s1⟩
   clear hK K hHeld
   have hHeld:=hHeld2
   clear hHeld2
   (try simp only [Act.put,pus])
   refine tk (v:=?_) 3 rfl (by kernel_rfl) (fun _ _ _ h=>h) (by rfl) ?_ (by assumption) ?_
   rotate_left
   ·(intro w hSw;(try dsimp only at hSw);(try go_simp);(try with_reducible rfl))
   (try simp only [Act.put,pus])
   refine tk (v:=?_) 4 rfl (by kernel_rfl) (fun _ _ _ h=>h) (by rfl) ?_ (by assumption) ?_
   rotate_left
   ·(intro w hSw;(try dsimp only at hSw);(try go_simp);(try with_reducible rfl))
   (try simp only [Act.put,pus])
   refine tk (v:=?_) 5 rfl (by kernel_rfl) (fun _ _ _ h=>h) (by rfl) ?_ (by assumption) ?_
   rotate_left
   ·(intro w hSw;(try dsimp only at hSw);(try go_simp);(try with_reducible rfl))
   (try simp only [Act.put,pus])
   refine tk (v:=?_) 6 rfl (by kernel_rfl) (fun _ _ _ h=>h) (by rfl) ?_ (by assumption) ?_
   rotate_left
   ·(intro w hSw;(try dsimp only at hSw);(try go_simp);(try with_reducible rfl))
   (try simp only [Act.put,pus])
   refine tk (v:=?_) 7 rfl (by kernel_rfl) (fun _ _ _ h=>h) (by rfl) ?_ (by assumption) ?_
   rotate_left
   ·(intro w hSw;(try dsimp only at hSw);(try go_simp);(try with_reducible rfl))
   (try simp only [Act.put,pus])
   refine wpAnyH_done (by kernel_rfl) ?_ _
   go_wp2_with fail
   go_ret
   exact⟨rfl,hx⟩
  exact AllReadyH.nil
 exact AllReadyH.nil
theorem refR_Check (n1 n2:Bool) (a b:Option Addr) (ca cb:Nat) (l m:List Int) (w:World) (h:Ints w a ca l) (k:Ints w b cb m):Calls Tryz.prog 22 #[.agg #[.bool n1,.slice a l.length ca,.bool n2,.slice b m.length cb]] w fun e w'=>e=.returned (.int .i64 (errR (okR n1 l n2 m)))∧Ext w w':=by
 unfold okR
 cases h1:chkB n1 l
 ·exact refR_Check_b1 n1 n2 a b ca cb l m w h k h1
 ·cases h2:chkB n2 m
  ·exact refR_Check_b2 n1 n2 a b ca cb l m w h k h1 h2
  ·by_cases h3:m.length=0
   ·rw [decide_eq_false (show ¬0<m.length by omega),Bool.and_false]
    exact refR_Check_b3 n1 n2 a b ca cb l m w h k h1 h2 h3
   ·have h3':0<m.length:=by omega
    cases h4:n2
    ·rw [decide_eq_true h3']
     subst h4
     by_cases hg:Int.gcd (sgn n1 (dval l)) (sgn false (dval m))=1
     ·rw [decide_eq_true hg];exact refR_Check_gone n1 false a b ca cb l m w h k h1 h2 h3' rfl hg
     ·rw [decide_eq_false hg];exact refR_Check_gno n1 false a b ca cb l m w h k h1 h2 h3' rfl hg
    ·subst h4
     exact refR_Check_b4 n1 true a b ca cb l m w h k h1 h2 h3' rfl
theorem refR_valid_ok {v u:Value} {r s:Rat} {w:World} (hv:RatV w v r) (hu:RatV w u s) (l1:Len r.num) (l2:Len (r.den:Int)) (l3:Len s.num) (l4:Len (s.den:Int)):Calls Tryz.prog 73 #[v,u] w fun e w'=>e=.returned (.bool true)∧Ext w w':=by
 obtain⟨nx,ax,qx,cx,bx,kx,dx,rfl⟩:=hv.form
 obtain⟨ny,ay,qy,cy,by_,ky,dy,rfl⟩:=hu.form
 obtain⟨l,rfl,hi,hb⟩:=hv.num.parts
 obtain⟨m,rfl,hj,hc⟩:=hv.den.parts
 obtain⟨l',rfl,hi',hb'⟩:=hu.num.parts
 obtain⟨m',rfl,hj',hc'⟩:=hu.den.parts
 have H1:=Lib.hid (fun W (hy:Ext w W)=>show Calls Tryz.prog 22 _ W (fun e w'=>e=.returned (.int .i64 0)∧Ext W w') from(by have:=refR_Check nx false ax bx cx dx l m W (hi.ext hy) (hj.ext hy);rw [big_okR hb hc l1 l2] at this;exact this))
 have H2:=Lib.hid (fun W (hy:Ext w W)=>show Calls Tryz.prog 22 _ W (fun e w'=>e=.returned (.int .i64 0)∧Ext W w') from(by have:=refR_Check ny false ay by_ cy dy l' m' W (hi'.ext hy) (hj'.ext hy);rw [big_okR hb' hc' l3 l4] at this;exact this))
 clear hi hb hj hc hi' hb' hj' hc' hv hu l1 l2 l3 l4
 obtain⟨x1,hw,hx,Kx,Ky⟩:=boxQ2 w #[.bool nx,.slice ax l.length cx,.bool false,.slice bx m.length dx] 38 #[.bool ny,.slice ay l'.length cy,.bool false,.slice by_ m'.length dy] 38
 replace hw:=Lib.hid hw
 go_enter Tryz.func73,Tryz.ntmps73
 go_upto_region 1 with fail
 try simp only [Nat.add_assoc,Nat.reduceAdd,Nat.add_zero]
 rw [hw.out]
 clear hw
 have hs0:=hx.size
 obtain⟨cx0,cx1,cx2,cx3⟩:=bk4 Kx
 obtain⟨cy0,cy1,cy2,cy3⟩:=bk4 Ky
 go_wp2_with fail
 with_reducible refine(H1.out _ hx).mono ?_
 clear cx0 cx1 cx2 cx3 cy0 cy1 cy2 cy3
 rintro e x2 ⟨rfl,hy⟩
 replace hx:=hx.trans hy
 replace Kx:=kE Kx hy
 replace Ky:=kE Ky hy
 clear hy
 obtain⟨cx0,cx1,cx2,cx3⟩:=bk4 Kx
 obtain⟨cy0,cy1,cy2,cy3⟩:=bk4 Ky
 go_wp2_with fail
 with_reducible refine(H2.out _ hx).mono ?_
 clear cx0 cx1 cx2 cx3 cy0 cy1 cy2 cy3
 rintro e x3 ⟨rfl,hy⟩
 replace hx:=hx.trans hy
 replace Kx:=kE Kx hy
 replace Ky:=kE Ky hy
 clear hy
 go_wp2_with fail
 go_ret
 exact⟨rfl,hx⟩
set_option maxHeartbeats 2000000 in
theorem refR_Of_pos (n1 n2:Bool) (a b:Option Addr) (ca cb:Nat) (l m:List Int) (w:World) (h:Ints w a ca l) (k:Ints w b cb m) (h1:chkB n1 l=true) (h2:chkB n2 m=true) (h3:0<m.length) (h0:0<sgn n2 (dval m)):Calls Tryz.prog 93 #[.agg #[.bool n1,.slice a l.length ca],.agg #[.bool n2,.slice b m.length cb]] w (RatP (Rat.divInt (sgn n1 (dval l)) (sgn n2 (dval m))) w):=by
 have H1:=Lib.hid (fun W (hy:Ext w W)=>ref_Check n1 a ca l W (h.ext hy))
 have H2:=Lib.hid (fun W (hy:Ext w W)=>ref_Check n2 b cb m W (k.ext hy))
 have HM:=Lib.hid (Nat.le_trans k.le k.mx)
 rw [h1] at H1
 rw [h2] at H2
 have b1:=of_chk h1
 have b2:=of_chk h2
 have Vz:BigV w (.agg #[.bool n1,.slice a l.length ca]) (sgn n1 (dval l)):=⟨n1,l,⟨a,ca,rfl,h⟩,b1.1⟩
 have Vy:BigV w (.agg #[.bool n2,.slice b m.length cb]) (sgn n2 (dval m)):=⟨n2,m,⟨b,cb,rfl,k⟩,b2.1⟩
 have lz:Len (sgn n1 (dval l)):=by have:=b1.2;rw [b1.1.digs] at this;exact this
 have ly:Len (sgn n2 (dval m)):=by have:=b2.2;rw [b2.1.digs] at this;exact this
 generalize sgn n1 (dval l)=z at *
 generalize sgn n2 (dval m)=y at *
 have Lz:=Lib.hid lz
 have Ly:=Lib.hid ly
 have H0:=Lib.hid h0
 have Lg:=Lib.hid (len_gcd lz ly)
 have Gn:=Lib.hid (gcd_ne (x:=z) (y:=y) (by omega))
 have Vz:=Lib.hid Vz
 have Vy:=Lib.hid Vy
 have H3:=Lib.hid h3
 clear b1 b2 h k h1 h2 h3 lz ly h0
 obtain⟨x1,hw,hx,Kn,Kd,Kr⟩:=boxQ3 w #[.bool n1,.slice a l.length ca] 36 #[.bool n2,.slice b m.length cb] 36 #[.bool false,.slice none 0 0,.bool false,.slice none 0 0] 38
 replace hw:=Lib.hid hw
 have Vz:=Lib.hid (Vz.out.ext hx)
 have Vy:=Lib.hid (Vy.out.ext hx)
 go_enter Tryz.func93,Tryz.ntmps93
 go_upto_region 1 with fail
 try simp only [Nat.add_assoc,Nat.reduceAdd,Nat.add_zero]
 rw [hw.out]
 clear hw
 have hs0:=hx.size
 obtain⟨cn0,cn1⟩:=bk2 Kn
 obtain⟨cd0,cd1⟩:=bk2 Kd
 obtain⟨cr0,cr1,cr2,cr3⟩:=bk4 Kr
 go_wp2_with fail
 with_reducible refine(show Calls Tryz.prog 45 _ _ (fun e w'=>e=.returned (.int .i64 0)∧Ext x1 w') from H1.out _ hx).mono ?_
 clear cn0 cn1 cd0 cd1 cr0 cr1 cr2 cr3
 rintro e x2 ⟨rfl,hy⟩
 replace hx:=hx.trans hy
 replace Kn:=kE Kn hy
 replace Kd:=kE Kd hy
 replace Kr:=kE Kr hy
 replace Vz:=Lib.hid (Vz.out.ext hy)
 replace Vy:=Lib.hid (Vy.out.ext hy)
 clear hy
 obtain⟨cn0,cn1⟩:=bk2 Kn
 obtain⟨cd0,cd1⟩:=bk2 Kd
 obtain⟨cr0,cr1,cr2,cr3⟩:=bk4 Kr
 go_wp2_with fail
 with_reducible refine(show Calls Tryz.prog 45 _ _ (fun e w'=>e=.returned (.int .i64 0)∧Ext x2 w') from H2.out _ hx).mono ?_
 clear cn0 cn1 cd0 cd1 cr0 cr1 cr2 cr3
 rintro e x3 ⟨rfl,hy⟩
 replace hx:=hx.trans hy
 replace Kn:=kE Kn hy
 replace Kd:=kE Kd hy
 replace Kr:=kE Kr hy
 replace Vz:=Lib.hid (Vz.out.ext hy)
 replace Vy:=Lib.hid (Vy.out.ext hy)
 clear hy
 obtain⟨cn0,cn1⟩:=bk2 Kn
 obtain⟨cd0,cd1⟩:=bk2 Kd
 obtain⟨cr0,cr1,cr2,cr3⟩:=bk4 Kr
 go_wp2_with fail
 with_reducible refine(refR_zero_no _ _ _ _ _ ⟨H3.out,HM.out⟩).mono ?_
 clear cn0 cn1 cd0 cd1 cr0 cr1 cr2 cr3
 rintro e x4 ⟨rfl,hy⟩
 replace hx:=hx.trans hy
 replace Kn:=kE Kn hy
 replace Kd:=kE Kd hy
 replace Kr:=kE Kr hy
 replace Vz:=Lib.hid (Vz.out.ext hy)
 replace Vy:=Lib.hid (Vy.out.ext hy)
 clear hy
 obtain⟨cn0,cn1⟩:=bk2 Kn
 obtain⟨cd0,cd1⟩:=bk2 Kd
 obtain⟨cr0,cr1,cr2,cr3⟩:=bk4 Kr
 go_wp2_with fail
 with_reducible refine(rGcd_val Vz.out Vy.out Lz.out Ly.out).mono ?_
 clear cn0 cn1 cd0 cd1 cr0 cr1 cr2 cr3
 rintro e x5 ⟨v,rfl,hv,hy⟩
 replace hx:=hx.trans hy
 replace Kn:=kE Kn hy
 replace Kd:=kE Kd hy
 replace Kr:=kE Kr hy
 replace Vz:=Lib.hid (Vz.out.ext hy)
 replace Vy:=Lib.hid (Vy.out.ext hy)
 clear hy
 obtain⟨ng,ag,qg,cg,rfl⟩:=hv.form
 have Vg:=Lib.hid hv
 clear hv
 go_upto_region 6 with fail
 have hl:=Ext.alloc x5 (.cells #[.bool ng,.slice ag qg cg] 36)
 have lng:w.heap.size<x5.heap.size:=Kn.out.lt
 have ldg:w.heap.size+1<x5.heap.size:=Kd.out.lt
 have lrg:w.heap.size+2<x5.heap.size:=Kr.out.lt
 have hpg:w.heap.size≤x5.heap.size:=hx.size
 replace hx:=hx.trans hl
 replace Kn:=kE Kn hl
 replace Kd:=kE Kd hl
 replace Kr:=kE Kr hl
 replace Vz:=Lib.hid (Vz.out.ext hl)
 replace Vy:=Lib.hid (Vy.out.ext hl)
 replace Vg:=Lib.hid (Vg.out.ext hl)
 have Kg:=Lib.hid (Blk.new0 x5 #[.bool ng,.slice ag qg cg] 36)
 clear hl
 generalize x5.alloc (.cells #[.bool ng,.slice ag qg cg] 36)=x6 at *
 generalize x5.heap.size=pg at *
 obtain⟨cn0,cn1⟩:=bk2 Kn
 obtain⟨cd0,cd1⟩:=bk2 Kd
 obtain⟨cr0,cr1,cr2,cr3⟩:=bk4 Kr
 obtain⟨cg0,cg1⟩:=bk2 Kg
 have hsz:=hx.size
 go_wp2_with fail
 with_reducible refine(rDiv_val Vz.out Vg.out Lz.out Lg.out Gn.out).mono ?_
 clear cn0 cn1 cd0 cd1 cr0 cr1 cr2 cr3 cg0 cg1
 rintro e x7 ⟨v,u,rfl,hv,hu,hy⟩
 replace hx:=hx.trans hy
 replace Kn:=kE Kn hy
 replace Kd:=kE Kd hy
 replace Kr:=kE Kr hy
 replace Kg:=kE Kg hy
 replace Vz:=Lib.hid (Vz.out.ext hy)
 replace Vy:=Lib.hid (Vy.out.ext hy)
 replace Vg:=Lib.hid (Vg.out.ext hy)
 clear hy
 obtain⟨na,aa,qa,ca_,rfl,hv',hf'⟩:=hv.two
 have Va:=Lib.hid hv'
 have Fa:=Lib.hid (fun A hA=>Nat.le_trans hsz (hf' A hA))
 clear hv' hf' hsz
 obtain⟨ne,ae,qe,ce,rfl⟩:=hu.form
 have Ve:=Lib.hid hu
 clear hu
 go_upto_region 7 with fail
 have hl:Ext x7 ((x7.alloc (.cells #[.bool na,.slice aa qa ca_] 36)).alloc (.cells #[.bool ne,.slice ae qe ce] 36)):=(Ext.alloc _ _).alloc' _
 have lna:w.heap.size<x7.heap.size:=Kn.out.lt
 have lda:w.heap.size+1<x7.heap.size:=Kd.out.lt
 have lra:w.heap.size+2<x7.heap.size:=Kr.out.lt
 have lga:pg<x7.heap.size:=Kg.out.lt
 have hpa:w.heap.size≤x7.heap.size:=hx.size
 replace hx:=hx.trans hl
 replace Kn:=kE Kn hl
 replace Kd:=kE Kd hl
 replace Kr:=kE Kr hl
 replace Kg:=kE Kg hl
 replace Vz:=Lib.hid (Vz.out.ext hl)
 replace Vy:=Lib.hid (Vy.out.ext hl)
 replace Vg:=Lib.hid (Vg.out.ext hl)
 replace Va:=Lib.hid (Va.out.ext hl)
 replace Ve:=Lib.hid (Ve.out.ext hl)
 have Ka:=Lib.hid ((Blk.new0 x7 #[.bool na,.slice aa qa ca_] 36).alloc (.cells #[.bool ne,.slice ae qe ce] 36))
 have Ke:=Lib.hid (Blk.new1 x7 (.cells #[.bool na,.slice aa qa ca_] 36) #[.bool ne,.slice ae qe ce] 36)
 clear hl
 generalize (x7.alloc (.cells #[.bool na,.slice aa qa ca_] 36)).alloc (.cells #[.bool ne,.slice ae qe ce] 36)=x8 at *
 generalize x7.heap.size=pa at *
 obtain⟨cn0,cn1⟩:=bk2 Kn
 obtain⟨cd0,cd1⟩:=bk2 Kd
 obtain⟨cr0,cr1,cr2,cr3⟩:=bk4 Kr
 obtain⟨cg0,cg1⟩:=bk2 Kg
 obtain⟨ca0,ca1⟩:=bk2 Ka
 obtain⟨ce0,ce1⟩:=bk2 Ke
 have hsz:=hx.size
 go_wp2_with fail
 with_reducible refine(rDiv_val Vy.out Vg.out Ly.out Lg.out Gn.out).mono ?_
 clear cn0 cn1 cd0 cd1 cr0 cr1 cr2 cr3 cg0 cg1 ca0 ca1 ce0 ce1
 rintro e x9 ⟨v,u,rfl,hv,hu,hy⟩
 replace hx:=hx.trans hy
 replace Kn:=kE Kn hy
 replace Kd:=kE Kd hy
 replace Kr:=kE Kr hy
 replace Kg:=kE Kg hy
 replace Ka:=kE Ka hy
 replace Ke:=kE Ke hy
 replace Vz:=Lib.hid (Vz.out.ext hy)
 replace Vy:=Lib.hid (Vy.out.ext hy)
 replace Vg:=Lib.hid (Vg.out.ext hy)
 replace Va:=Lib.hid (Va.out.ext hy)
 replace Ve:=Lib.hid (Ve.out.ext hy)
 clear hy
 obtain⟨nb,ab,qb,cb_,rfl,hv',hf'⟩:=hv.two
 have Vb:=Lib.hid hv'
 have Fb:=Lib.hid (fun A hA=>Nat.le_trans hsz (hf' A hA))
 clear hv' hf' hsz
 obtain⟨nf,af,qf,cf,rfl⟩:=hu.form
 have Vf:=Lib.hid hu
 clear hu
 go_upto_region 8 with fail
 have hl:Ext x9 ((x9.alloc (.cells #[.bool nb,.slice ab qb cb_] 36)).alloc (.cells #[.bool nf,.slice af qf cf] 36)):=(Ext.alloc _ _).alloc' _
 have lnb:w.heap.size<x9.heap.size:=Kn.out.lt
 have ldb:w.heap.size+1<x9.heap.size:=Kd.out.lt
 have lrb:w.heap.size+2<x9.heap.size:=Kr.out.lt
 have lgb:pg<x9.heap.size:=Kg.out.lt
 have lab:pa<x9.heap.size:=Ka.out.lt
 have leb:pa+1<x9.heap.size:=Ke.out.lt
 have hpb:w.heap.size≤x9.heap.size:=hx.size
 replace hx:=hx.trans hl
 replace Kn:=kE Kn hl
 replace Kd:=kE Kd hl
 replace Kr:=kE Kr hl
 replace Kg:=kE Kg hl
 replace Ka:=kE Ka hl
 replace Ke:=kE Ke hl
 replace Vz:=Lib.hid (Vz.out.ext hl)
 replace Vy:=Lib.hid (Vy.out.ext hl)
 replace Vg:=Lib.hid (Vg.out.ext hl)
 replace Va:=Lib.hid (Va.out.ext hl)
 replace Ve:=Lib.hid (Ve.out.ext hl)
 replace Vb:=Lib.hid (Vb.out.ext hl)
 replace Vf:=Lib.hid (Vf.out.ext hl)
 have Kb:=Lib.hid ((Blk.new0 x9 #[.bool nb,.slice ab qb cb_] 36).alloc (.cells #[.bool nf,.slice af qf cf] 36))
 have Kf:=Lib.hid (Blk.new1 x9 (.cells #[.bool nb,.slice ab qb cb_] 36) #[.bool nf,.slice af qf cf] 36)
 clear hl
 generalize (x9.alloc (.cells #[.bool nb,.slice ab qb cb_] 36)).alloc (.cells #[.bool nf,.slice af qf cf] 36)=x10 at *
 generalize x9.heap.size=pb at *
 clear Vz Vy Vg Ve Vf
 clear Kn Kd Kg Ke Kf
 obtain rfl:nb=false:=Vb.out.pos (ediv_gcd_nonneg H0.out)
 obtain⟨cr0,cr1,cr2,cr3⟩:=bk4 Kr
 obtain⟨ca0,ca1⟩:=bk2 Ka
 obtain⟨cb0,cb1⟩:=bk2 Kb
 go_upto_region 11 with fail
 have HR:=Lib.hid (show RatV x10 (.agg #[.bool na,.slice aa qa ca_,.bool false,.slice ab qb cb_]) (Rat.divInt z y) from RatV.mk (by rw [(low_pos H0.out).1];exact Va.out) (by rw [(low_pos H0.out).2];exact Vb.out))
 clear Va Vb
 clear cr0 cr1 cr2 cr3 ca0 ca1 cb0 cb1
 obtain⟨cr0,cr1,cr2,cr3⟩:=bk4 Kr
 obtain⟨ca0,ca1⟩:=bk2 Ka
 obtain⟨cb0,cb1⟩:=bk2 Kb
 obtain⟨g0,z0,g1,z1,g2,z2,g3,z3⟩:=bp4 Kr (.bool na) (.slice aa qa ca_) (.bool false) (.slice ab qb cb_)
 go_wp2_with fail
 clear g0 z0 g1 z1 g2 z2 g3 z3
 clear cr0 cr1 cr2 cr3 ca0 ca1 cb0 cb1
 replace HR:=(by first | exact rv4 HR Kr (.bool na) (.slice aa qa ca_) (.bool false) (.slice ab qb cb_) rfl rfl rfl rfl | exact bv4 HR Kr (.bool na) (.slice aa qa ca_) (.bool false) (.slice ab qb cb_) rfl rfl rfl rfl)
 replace hx:=bx4 hx (w.heap.size+2) (.bool na) (.slice aa qa ca_) (.bool false) (.slice ab qb cb_) (by omega)
 replace Kr:=bs4 Kr (.bool na) (.slice aa qa ca_) (.bool false) (.slice ab qb cb_)
 replace Ka:=bo4 Ka (w.heap.size+2) (.bool na) (.slice aa qa ca_) (.bool false) (.slice ab qb cb_) (by omega)
 replace Kb:=bo4 Kb (w.heap.size+2) (.bool na) (.slice aa qa ca_) (.bool false) (.slice ab qb cb_) (by omega)
 generalize ((((x10).setCell ⟨w.heap.size+2,0,none⟩ (.bool na)).setCell ⟨w.heap.size+2,1,none⟩ (.slice aa qa ca_)).setCell ⟨w.heap.size+2,2,none⟩ (.bool false)).setCell ⟨w.heap.size+2,3,none⟩ (.slice ab qb cb_)=x11 at *
 obtain⟨cr0,cr1,cr2,cr3⟩:=bk4 Kr
 refine bodyPost_ret (v:=.tuple #[.agg #[.bool na,.slice aa qa ca_,.bool false,.slice ab qb cb_],.int .i64 0]) (by simp [results,Tryz.results93,go_sem,cr0,cr1,cr2,cr3]) rfl ?_
 exact⟨_,rfl,⟨_,_,_,_,_,_,_,rfl,HR.out,Fa.out,Fb.out⟩,hx⟩
set_option maxHeartbeats 2000000 in
theorem refR_Of_neg (n1 n2:Bool) (a b:Option Addr) (ca cb:Nat) (l m:List Int) (w:World) (h:Ints w a ca l) (k:Ints w b cb m) (h1:chkB n1 l=true) (h2:chkB n2 m=true) (h3:0<m.length) (h0:sgn n2 (dval m)<0):Calls Tryz.prog 93 #[.agg #[.bool n1,.slice a l.length ca],.agg #[.bool n2,.slice b m.length cb]] w (RatP (Rat.divInt (sgn n1 (dval l)) (sgn n2 (dval m))) w):=by
 have H1:=Lib.hid (fun W (hy:Ext w W)=>ref_Check n1 a ca l W (h.ext hy))
 have H2:=Lib.hid (fun W (hy:Ext w W)=>ref_Check n2 b cb m W (k.ext hy))
 have HM:=Lib.hid (Nat.le_trans k.le k.mx)
 rw [h1] at H1
 rw [h2] at H2
 have b1:=of_chk h1
 have b2:=of_chk h2
 have Vz:BigV w (.agg #[.bool n1,.slice a l.length ca]) (sgn n1 (dval l)):=⟨n1,l,⟨a,ca,rfl,h⟩,b1.1⟩
 have Vy:BigV w (.agg #[.bool n2,.slice b m.length cb]) (sgn n2 (dval m)):=⟨n2,m,⟨b,cb,rfl,k⟩,b2.1⟩
 have lz:Len (sgn n1 (dval l)):=by have:=b1.2;rw [b1.1.digs] at this;exact this
 have ly:Len (sgn n2 (dval m)):=by have:=b2.2;rw [b2.1.digs] at this;exact this
 generalize sgn n1 (dval l)=z at *
 generalize sgn n2 (dval m)=y at *
 have Lz:=Lib.hid lz
 have Ly:=Lib.hid ly
 have H0:=Lib.hid h0
 have Lg:=Lib.hid (len_gcd lz ly)
 have Gn:=Lib.hid (gcd_ne (x:=z) (y:=y) (by omega))
 have Vz:=Lib.hid Vz
 have Vy:=Lib.hid Vy
 have H3:=Lib.hid h3
 clear b1 b2 h k h1 h2 h3 lz ly h0
 obtain⟨x1,hw,hx,Kn,Kd,Kr⟩:=boxQ3 w #[.bool n1,.slice a l.length ca] 36 #[.bool n2,.slice b m.length cb] 36 #[.bool false,.slice none 0 0,.bool false,.slice none 0 0] 38
 replace hw:=Lib.hid hw
 have Vz:=Lib.hid (Vz.out.ext hx)
 have Vy:=Lib.hid (Vy.out.ext hx)
 go_enter Tryz.func93,Tryz.ntmps93
 go_upto_region 1 with fail
 try simp only [Nat.add_assoc,Nat.reduceAdd,Nat.add_zero]
 rw [hw.out]
 clear hw
 have hs0:=hx.size
 obtain⟨cn0,cn1⟩:=bk2 Kn
 obtain⟨cd0,cd1⟩:=bk2 Kd
 obtain⟨cr0,cr1,cr2,cr3⟩:=bk4 Kr
 go_wp2_with fail
 with_reducible refine(show Calls Tryz.prog 45 _ _ (fun e w'=>e=.returned (.int .i64 0)∧Ext x1 w') from H1.out _ hx).mono ?_
 clear cn0 cn1 cd0 cd1 cr0 cr1 cr2 cr3
 rintro e x2 ⟨rfl,hy⟩
 replace hx:=hx.trans hy
 replace Kn:=kE Kn hy
 replace Kd:=kE Kd hy
 replace Kr:=kE Kr hy
 replace Vz:=Lib.hid (Vz.out.ext hy)
 replace Vy:=Lib.hid (Vy.out.ext hy)
 clear hy
 obtain⟨cn0,cn1⟩:=bk2 Kn
 obtain⟨cd0,cd1⟩:=bk2 Kd
 obtain⟨cr0,cr1,cr2,cr3⟩:=bk4 Kr
 go_wp2_with fail
 with_reducible refine(show Calls Tryz.prog 45 _ _ (fun e w'=>e=.returned (.int .i64 0)∧Ext x2 w') from H2.out _ hx).mono ?_
 clear cn0 cn1 cd0 cd1 cr0 cr1 cr2 cr3
 rintro e x3 ⟨rfl,hy⟩
 replace hx:=hx.trans hy
 replace Kn:=kE Kn hy
 replace Kd:=kE Kd hy
 replace Kr:=kE Kr hy
 replace Vz:=Lib.hid (Vz.out.ext hy)
 replace Vy:=Lib.hid (Vy.out.ext hy)
 clear hy
 obtain⟨cn0,cn1⟩:=bk2 Kn
 obtain⟨cd0,cd1⟩:=bk2 Kd
 obtain⟨cr0,cr1,cr2,cr3⟩:=bk4 Kr
 go_wp2_with fail
 with_reducible refine(refR_zero_no _ _ _ _ _ ⟨H3.out,HM.out⟩).mono ?_
 clear cn0 cn1 cd0 cd1 cr0 cr1 cr2 cr3
 rintro e x4 ⟨rfl,hy⟩
 replace hx:=hx.trans hy
 replace Kn:=kE Kn hy
 replace Kd:=kE Kd hy
 replace Kr:=kE Kr hy
 replace Vz:=Lib.hid (Vz.out.ext hy)
 replace Vy:=Lib.hid (Vy.out.ext hy)
 clear hy
 obtain⟨cn0,cn1⟩:=bk2 Kn
 obtain⟨cd0,cd1⟩:=bk2 Kd
 obtain⟨cr0,cr1,cr2,cr3⟩:=bk4 Kr
 go_wp2_with fail
 with_reducible refine(rGcd_val Vz.out Vy.out Lz.out Ly.out).mono ?_
 clear cn0 cn1 cd0 cd1 cr0 cr1 cr2 cr3
 rintro e x5 ⟨v,rfl,hv,hy⟩
 replace hx:=hx.trans hy
 replace Kn:=kE Kn hy
 replace Kd:=kE Kd hy
 replace Kr:=kE Kr hy
 replace Vz:=Lib.hid (Vz.out.ext hy)
 replace Vy:=Lib.hid (Vy.out.ext hy)
 clear hy
 obtain⟨ng,ag,qg,cg,rfl⟩:=hv.form
 have Vg:=Lib.hid hv
 clear hv
 go_upto_region 6 with fail
 have hl:=Ext.alloc x5 (.cells #[.bool ng,.slice ag qg cg] 36)
 have lng:w.heap.size<x5.heap.size:=Kn.out.lt
 have ldg:w.heap.size+1<x5.heap.size:=Kd.out.lt
 have lrg:w.heap.size+2<x5.heap.size:=Kr.out.lt
 have hpg:w.heap.size≤x5.heap.size:=hx.size
 replace hx:=hx.trans hl
 replace Kn:=kE Kn hl
 replace Kd:=kE Kd hl
 replace Kr:=kE Kr hl
 replace Vz:=Lib.hid (Vz.out.ext hl)
 replace Vy:=Lib.hid (Vy.out.ext hl)
 replace Vg:=Lib.hid (Vg.out.ext hl)
 have Kg:=Lib.hid (Blk.new0 x5 #[.bool ng,.slice ag qg cg] 36)
 clear hl
 generalize x5.alloc (.cells #[.bool ng,.slice ag qg cg] 36)=x6 at *
 generalize x5.heap.size=pg at *
 obtain⟨cn0,cn1⟩:=bk2 Kn
 obtain⟨cd0,cd1⟩:=bk2 Kd
 obtain⟨cr0,cr1,cr2,cr3⟩:=bk4 Kr
 obtain⟨cg0,cg1⟩:=bk2 Kg
 have hsz:=hx.size
 go_wp2_with fail
 with_reducible refine(rDiv_val Vz.out Vg.out Lz.out Lg.out Gn.out).mono ?_
 clear cn0 cn1 cd0 cd1 cr0 cr1 cr2 cr3 cg0 cg1
 rintro e x7 ⟨v,u,rfl,hv,hu,hy⟩
 replace hx:=hx.trans hy
 replace Kn:=kE Kn hy
 replace Kd:=kE Kd hy
 replace Kr:=kE Kr hy
 replace Kg:=kE Kg hy
 replace Vz:=Lib.hid (Vz.out.ext hy)
 replace Vy:=Lib.hid (Vy.out.ext hy)
 replace Vg:=Lib.hid (Vg.out.ext hy)
 clear hy
 obtain⟨na,aa,qa,ca_,rfl,hv',hf'⟩:=hv.two
 have Va:=Lib.hid hv'
 have Fa:=Lib.hid (fun A hA=>Nat.le_trans hsz (hf' A hA))
 clear hv' hf' hsz
 obtain⟨ne,ae,qe,ce,rfl⟩:=hu.form
 have Ve:=Lib.hid hu
 clear hu
 go_upto_region 7 with fail
 have hl:Ext x7 ((x7.alloc (.cells #[.bool na,.slice aa qa ca_] 36)).alloc (.cells #[.bool ne,.slice ae qe ce] 36)):=(Ext.alloc _ _).alloc' _
 have lna:w.heap.size<x7.heap.size:=Kn.out.lt
 have lda:w.heap.size+1<x7.heap.size:=Kd.out.lt
 have lra:w.heap.size+2<x7.heap.size:=Kr.out.lt
 have lga:pg<x7.heap.size:=Kg.out.lt
 have hpa:w.heap.size≤x7.heap.size:=hx.size
 replace hx:=hx.trans hl
 replace Kn:=kE Kn hl
 replace Kd:=kE Kd hl
 replace Kr:=kE Kr hl
 replace Kg:=kE Kg hl
 replace Vz:=Lib.hid (Vz.out.ext hl)
 replace Vy:=Lib.hid (Vy.out.ext hl)
 replace Vg:=Lib.hid (Vg.out.ext hl)
 replace Va:=Lib.hid (Va.out.ext hl)
 replace Ve:=Lib.hid (Ve.out.ext hl)
 have Ka:=Lib.hid ((Blk.new0 x7 #[.bool na,.slice aa qa ca_] 36).alloc (.cells #[.bool ne,.slice ae qe ce] 36))
 have Ke:=Lib.hid (Blk.new1 x7 (.cells #[.bool na,.slice aa qa ca_] 36) #[.bool ne,.slice ae qe ce] 36)
 clear hl
 generalize (x7.alloc (.cells #[.bool na,.slice aa qa ca_] 36)).alloc (.cells #[.bool ne,.slice ae qe ce] 36)=x8 at *
 generalize x7.heap.size=pa at *
 obtain⟨cn0,cn1⟩:=bk2 Kn
 obtain⟨cd0,cd1⟩:=bk2 Kd
 obtain⟨cr0,cr1,cr2,cr3⟩:=bk4 Kr
 obtain⟨cg0,cg1⟩:=bk2 Kg
 obtain⟨ca0,ca1⟩:=bk2 Ka
 obtain⟨ce0,ce1⟩:=bk2 Ke
 have hsz:=hx.size
 go_wp2_with fail
 with_reducible refine(rDiv_val Vy.out Vg.out Ly.out Lg.out Gn.out).mono ?_
 clear cn0 cn1 cd0 cd1 cr0 cr1 cr2 cr3 cg0 cg1 ca0 ca1 ce0 ce1
 rintro e x9 ⟨v,u,rfl,hv,hu,hy⟩
 replace hx:=hx.trans hy
 replace Kn:=kE Kn hy
 replace Kd:=kE Kd hy
 replace Kr:=kE Kr hy
 replace Kg:=kE Kg hy
 replace Ka:=kE Ka hy
 replace Ke:=kE Ke hy
 replace Vz:=Lib.hid (Vz.out.ext hy)
 replace Vy:=Lib.hid (Vy.out.ext hy)
 replace Vg:=Lib.hid (Vg.out.ext hy)
 replace Va:=Lib.hid (Va.out.ext hy)
 replace Ve:=Lib.hid (Ve.out.ext hy)
 clear hy
 obtain⟨nb,ab,qb,cb_,rfl,hv',hf'⟩:=hv.two
 have Vb:=Lib.hid hv'
 have Fb:=Lib.hid (fun A hA=>Nat.le_trans hsz (hf' A hA))
 clear hv' hf' hsz
 obtain⟨nf,af,qf,cf,rfl⟩:=hu.form
 have Vf:=Lib.hid hu
 clear hu
 go_upto_region 8 with fail
 have hl:Ext x9 ((x9.alloc (.cells #[.bool nb,.slice ab qb cb_] 36)).alloc (.cells #[.bool nf,.slice af qf cf] 36)):=(Ext.alloc _ _).alloc' _
 have lnb:w.heap.size<x9.heap.size:=Kn.out.lt
 have ldb:w.heap.size+1<x9.heap.size:=Kd.out.lt
 have lrb:w.heap.size+2<x9.heap.size:=Kr.out.lt
 have lgb:pg<x9.heap.size:=Kg.out.lt
 have lab:pa<x9.heap.size:=Ka.out.lt
 have leb:pa+1<x9.heap.size:=Ke.out.lt
 have hpb:w.heap.size≤x9.heap.size:=hx.size
 replace hx:=hx.trans hl
 replace Kn:=kE Kn hl
 replace Kd:=kE Kd hl
 replace Kr:=kE Kr hl
 replace Kg:=kE Kg hl
 replace Ka:=kE Ka hl
 replace Ke:=kE Ke hl
 replace Vz:=Lib.hid (Vz.out.ext hl)
 replace Vy:=Lib.hid (Vy.out.ext hl)
 replace Vg:=Lib.hid (Vg.out.ext hl)
 replace Va:=Lib.hid (Va.out.ext hl)
 replace Ve:=Lib.hid (Ve.out.ext hl)
 replace Vb:=Lib.hid (Vb.out.ext hl)
 replace Vf:=Lib.hid (Vf.out.ext hl)
 have Kb:=Lib.hid ((Blk.new0 x9 #[.bool nb,.slice ab qb cb_] 36).alloc (.cells #[.bool nf,.slice af qf cf] 36))
 have Kf:=Lib.hid (Blk.new1 x9 (.cells #[.bool nb,.slice ab qb cb_] 36) #[.bool nf,.slice af qf cf] 36)
 clear hl
 generalize (x9.alloc (.cells #[.bool nb,.slice ab qb cb_] 36)).alloc (.cells #[.bool nf,.slice af qf cf] 36)=x10 at *
 generalize x9.heap.size=pb at *
 clear Vz Vy Vg Ve Vf
 clear Kn Kd Kg Ke Kf
 obtain rfl:nb=true:=Vb.out.neg1 (ediv_gcd_neg H0.out)
 have HR:=Lib.hid (show RatV x10 (.agg #[.bool (!na && decide (0<qa)),.slice aa qa ca_,.bool false,.slice ab qb cb_]) (Rat.divInt z y) from RatV.mk (by rw [(low_neg H0.out).1];exact Va.out.minus) (by have h:=Vb.out.minus;rw [(low_neg H0.out).2];simpa using h))
 have HQ:=Lib.hid Va.out.le
 clear Va Vb
 obtain⟨cr0,cr1,cr2,cr3⟩:=bk4 Kr
 obtain⟨ca0,ca1⟩:=bk2 Ka
 obtain⟨cb0,cb1⟩:=bk2 Kb
 go_upto_region 9 with fail
 have g0:=(Kb.out).cell (i:=0) (v:=.bool true) rfl
 have z0:=(Kb.out).free 0
 go_upto_region 10 with fail
 clear g0 z0
 clear cr0 cr1 cr2 cr3 ca0 ca1 cb0 cb1
 replace HR:=Lib.hid (HR.out.put Kb.out (noInt_of rfl) 0 (.bool false))
 replace hx:=hx.set (p:=⟨pb,0,none⟩) (by dsimp only;omega) (.bool false)
 replace Kr:=Lib.hid (Kr.out.other (p:=⟨pb,0,none⟩) (by dsimp only;omega) (.bool false))
 replace Ka:=Lib.hid (Ka.out.other (p:=⟨pb,0,none⟩) (by dsimp only;omega) (.bool false))
 replace Kb:=Lib.hid (Kb.out.set 0 (.bool false))
 replace Kb:=Lib.hid (show Blk _ _ #[.bool false,.slice ab qb cb_] 36 from Kb.out)
 generalize (x10).setCell ⟨pb,0,none⟩ (.bool false)=x11 at *
 cases na
 ·rcases Nat.eq_zero_or_pos qa with hn | hn
  ·subst hn
   replace HR:=Lib.hid (show RatV _ (.agg #[.bool false,.slice aa 0 ca_,.bool false,.slice ab qb cb_]) _ from HR.out)
   obtain⟨cr0,cr1,cr2,cr3⟩:=bk4 Kr
   obtain⟨ca0,ca1⟩:=bk2 Ka
   obtain⟨cb0,cb1⟩:=bk2 Kb
   go_wp2_with fail
   with_reducible refine(refR_zero_yes _ _ _ _ _ rfl).mono ?_
   clear cr0 cr1 cr2 cr3 ca0 ca1 cb0 cb1
   rintro e x12 ⟨rfl,hy⟩
   replace hx:=hx.trans hy
   replace Kr:=kE Kr hy
   replace Ka:=kE Ka hy
   replace Kb:=kE Kb hy
   replace HR:=Lib.hid (HR.out.ext hy)
   clear hy
   obtain⟨cr0,cr1,cr2,cr3⟩:=bk4 Kr
   obtain⟨ca0,ca1⟩:=bk2 Ka
   obtain⟨cb0,cb1⟩:=bk2 Kb
   have g0:=(Ka.out).cell (i:=0) (v:=.bool false) rfl
   have z0:=(Ka.out).free 0
   go_upto_region 11 with fail
   clear g0 z0
   clear cr0 cr1 cr2 cr3 ca0 ca1 cb0 cb1
   replace HR:=Lib.hid (HR.out.put Ka.out (noInt_of rfl) 0 (.bool false))
   replace hx:=hx.set (p:=⟨pa,0,none⟩) (by dsimp only;omega) (.bool false)
   replace Kr:=Lib.hid (Kr.out.other (p:=⟨pa,0,none⟩) (by dsimp only;omega) (.bool false))
   replace Ka:=Lib.hid (Ka.out.set 0 (.bool false))
   replace Kb:=Lib.hid (Kb.out.other (p:=⟨pa,0,none⟩) (by dsimp only;omega) (.bool false))
   replace Ka:=Lib.hid (show Blk _ _ #[.bool false,.slice aa 0 ca_] 36 from Ka.out)
   generalize (x12).setCell ⟨pa,0,none⟩ (.bool false)=x13 at *
   obtain⟨cr0,cr1,cr2,cr3⟩:=bk4 Kr
   obtain⟨ca0,ca1⟩:=bk2 Ka
   obtain⟨cb0,cb1⟩:=bk2 Kb
   obtain⟨g0,z0,g1,z1,g2,z2,g3,z3⟩:=bp4 Kr (.bool false) (.slice aa 0 ca_) (.bool false) (.slice ab qb cb_)
   go_wp2_with fail
   clear g0 z0 g1 z1 g2 z2 g3 z3
   clear cr0 cr1 cr2 cr3 ca0 ca1 cb0 cb1
   replace HR:=(by first | exact rv4 HR Kr (.bool false) (.slice aa 0 ca_) (.bool false) (.slice ab qb cb_) rfl rfl rfl rfl | exact bv4 HR Kr (.bool false) (.slice aa 0 ca_) (.bool false) (.slice ab qb cb_) rfl rfl rfl rfl)
   replace hx:=bx4 hx (w.heap.size+2) (.bool false) (.slice aa 0 ca_) (.bool false) (.slice ab qb cb_) (by omega)
   replace Kr:=bs4 Kr (.bool false) (.slice aa 0 ca_) (.bool false) (.slice ab qb cb_)
   replace Ka:=bo4 Ka (w.heap.size+2) (.bool false) (.slice aa 0 ca_) (.bool false) (.slice ab qb cb_) (by omega)
   replace Kb:=bo4 Kb (w.heap.size+2) (.bool false) (.slice aa 0 ca_) (.bool false) (.slice ab qb cb_) (by omega)
   generalize ((((x13).setCell ⟨w.heap.size+2,0,none⟩ (.bool false)).setCell ⟨w.heap.size+2,1,none⟩ (.slice aa 0 ca_)).setCell ⟨w.heap.size+2,2,none⟩ (.bool false)).setCell ⟨w.heap.size+2,3,none⟩ (.slice ab qb cb_)=x14 at *
   obtain⟨cr0,cr1,cr2,cr3⟩:=bk4 Kr
   refine bodyPost_ret (v:=.tuple #[.agg #[.bool false,.slice aa 0 ca_,.bool false,.slice ab qb cb_],.int .i64 0]) (by simp [results,Tryz.results93,go_sem,cr0,cr1,cr2,cr3]) rfl ?_
   exact⟨_,rfl,⟨_,_,_,_,_,_,_,rfl,HR.out,Fa.out,Fb.out⟩,hx⟩
  ·rw [decide_eq_true hn] at HR
   replace HR:=Lib.hid (show RatV _ (.agg #[.bool true,.slice aa qa ca_,.bool false,.slice ab qb cb_]) _ from HR.out)
   obtain⟨cr0,cr1,cr2,cr3⟩:=bk4 Kr
   obtain⟨ca0,ca1⟩:=bk2 Ka
   obtain⟨cb0,cb1⟩:=bk2 Kb
   go_wp2_with fail
   with_reducible refine(refR_zero_no _ _ _ _ _ ⟨hn,HQ.out⟩).mono ?_
   clear cr0 cr1 cr2 cr3 ca0 ca1 cb0 cb1
   rintro e x12 ⟨rfl,hy⟩
   replace hx:=hx.trans hy
   replace Kr:=kE Kr hy
   replace Ka:=kE Ka hy
   replace Kb:=kE Kb hy
   replace HR:=Lib.hid (HR.out.ext hy)
   clear hy
   obtain⟨cr0,cr1,cr2,cr3⟩:=bk4 Kr
   obtain⟨ca0,ca1⟩:=bk2 Ka
   obtain⟨cb0,cb1⟩:=bk2 Kb
   have g0:=(Ka.out).cell (i:=0) (v:=.bool false) rfl
   have z0:=(Ka.out).free 0
   go_upto_region 11 with fail
   clear g0 z0
   clear cr0 cr1 cr2 cr3 ca0 ca1 cb0 cb1
   replace HR:=Lib.hid (HR.out.put Ka.out (noInt_of rfl) 0 (.bool true))
   replace hx:=hx.set (p:=⟨pa,0,none⟩) (by dsimp only;omega) (.bool true)
   replace Kr:=Lib.hid (Kr.out.other (p:=⟨pa,0,none⟩) (by dsimp only;omega) (.bool true))
   replace Ka:=Lib.hid (Ka.out.set 0 (.bool true))
   replace Kb:=Lib.hid (Kb.out.other (p:=⟨pa,0,none⟩) (by dsimp only;omega) (.bool true))
   replace Ka:=Lib.hid (show Blk _ _ #[.bool true,.slice aa qa ca_] 36 from Ka.out)
   generalize (x12).setCell ⟨pa,0,none⟩ (.bool true)=x13 at *
   obtain⟨cr0,cr1,cr2,cr3⟩:=bk4 Kr
   obtain⟨ca0,ca1⟩:=bk2 Ka
   obtain⟨cb0,cb1⟩:=bk2 Kb
   obtain⟨g0,z0,g1,z1,g2,z2,g3,z3⟩:=bp4 Kr (.bool true) (.slice aa qa ca_) (.bool false) (.slice ab qb cb_)
   go_wp2_with fail
   clear g0 z0 g1 z1 g2 z2 g3 z3
   clear cr0 cr1 cr2 cr3 ca0 ca1 cb0 cb1
   replace HR:=(by first | exact rv4 HR Kr (.bool true) (.slice aa qa ca_) (.bool false) (.slice ab qb cb_) rfl rfl rfl rfl | exact bv4 HR Kr (.bool true) (.slice aa qa ca_) (.bool false) (.slice ab qb cb_) rfl rfl rfl rfl)
   replace hx:=bx4 hx (w.heap.size+2) (.bool true) (.slice aa qa ca_) (.bool false) (.slice ab qb cb_) (by omega)
   replace Kr:=bs4 Kr (.bool true) (.slice aa qa ca_) (.bool false) (.slice ab qb cb_)
   replace Ka:=bo4 Ka (w.heap.size+2) (.bool true) (.slice aa qa ca_) (.bool false) (.slice ab qb cb_) (by omega)
   replace Kb:=bo4 Kb (w.heap.size+2) (.bool true) (.slice aa qa ca_) (.bool false) (.slice ab qb cb_) (by omega)
   generalize ((((x13).setCell ⟨w.heap.size+2,0,none⟩ (.bool true)).setCell ⟨w.heap.size+2,1,none⟩ (.slice aa qa ca_)).setCell ⟨w.heap.size+2,2,none⟩ (.bool false)).setCell ⟨w.heap.size+2,3,none⟩ (.slice ab qb cb_)=x14 at *
   obtain⟨cr0,cr1,cr2,cr3⟩:=bk4 Kr
   refine bodyPost_ret (v:=.tuple #[.agg #[.bool true,.slice aa qa ca_,.bool false,.slice ab qb cb_],.int .i64 0]) (by simp [results,Tryz.results93,go_sem,cr0,cr1,cr2,cr3]) rfl ?_
   exact⟨_,rfl,⟨_,_,_,_,_,_,_,rfl,HR.out,Fa.out,Fb.out⟩,hx⟩
 ·replace HR:=Lib.hid (show RatV _ (.agg #[.bool false,.slice aa qa ca_,.bool false,.slice ab qb cb_]) _ from HR.out)
  obtain⟨cr0,cr1,cr2,cr3⟩:=bk4 Kr
  obtain⟨ca0,ca1⟩:=bk2 Ka
  obtain⟨cb0,cb1⟩:=bk2 Kb
  have g0:=(Ka.out).cell (i:=0) (v:=.bool true) rfl
  have z0:=(Ka.out).free 0
  go_upto_region 11 with fail
  clear g0 z0
  clear cr0 cr1 cr2 cr3 ca0 ca1 cb0 cb1
  replace HR:=Lib.hid (HR.out.put Ka.out (noInt_of rfl) 0 (.bool false))
  replace hx:=hx.set (p:=⟨pa,0,none⟩) (by dsimp only;omega) (.bool false)
  replace Kr:=Lib.hid (Kr.out.other (p:=⟨pa,0,none⟩) (by dsimp only;omega) (.bool false))
  replace Ka:=Lib.hid (Ka.out.set 0 (.bool false))
  replace Kb:=Lib.hid (Kb.out.other (p:=⟨pa,0,none⟩) (by dsimp only;omega) (.bool false))
  replace Ka:=Lib.hid (show Blk _ _ #[.bool false,.slice aa qa ca_] 36 from Ka.out)
  generalize (x11).setCell ⟨pa,0,none⟩ (.bool false)=x12 at *
  obtain⟨cr0,cr1,cr2,cr3⟩:=bk4 Kr
  obtain⟨ca0,ca1⟩:=bk2 Ka
  obtain⟨cb0,cb1⟩:=bk2 Kb
  obtain⟨g0,z0,g1,z1,g2,z2,g3,z3⟩:=bp4 Kr (.bool false) (.slice aa qa ca_) (.bool false) (.slice ab qb cb_)
  go_wp2_with fail
  clear g0 z0 g1 z1 g2 z2 g3 z3
  clear cr0 cr1 cr2 cr3 ca0 ca1 cb0 cb1
  replace HR:=(by first | exact rv4 HR Kr (.bool false) (.slice aa qa ca_) (.bool false) (.slice ab qb cb_) rfl rfl rfl rfl | exact bv4 HR Kr (.bool false) (.slice aa qa ca_) (.bool false) (.slice ab qb cb_) rfl rfl rfl rfl)
  replace hx:=bx4 hx (w.heap.size+2) (.bool false) (.slice aa qa ca_) (.bool false) (.slice ab qb cb_) (by omega)
  replace Kr:=bs4 Kr (.bool false) (.slice aa qa ca_) (.bool false) (.slice ab qb cb_)
  replace Ka:=bo4 Ka (w.heap.size+2) (.bool false) (.slice aa qa ca_) (.bool false) (.slice ab qb cb_) (by omega)
  replace Kb:=bo4 Kb (w.heap.size+2) (.bool false) (.slice aa qa ca_) (.bool false) (.slice ab qb cb_) (by omega)
  generalize ((((x12).setCell ⟨w.heap.size+2,0,none⟩ (.bool false)).setCell ⟨w.heap.size+2,1,none⟩ (.slice aa qa ca_)).setCell ⟨w.heap.size+2,2,none⟩ (.bool false)).setCell ⟨w.heap.size+2,3,none⟩ (.slice ab qb cb_)=x13 at *
  obtain⟨cr0,cr1,cr2,cr3⟩:=bk4 Kr
  refine bodyPost_ret (v:=.tuple #[.agg #[.bool false,.slice aa qa ca_,.bool false,.slice ab qb cb_],.int .i64 0]) (by simp [results,Tryz.results93,go_sem,cr0,cr1,cr2,cr3]) rfl ?_
  exact⟨_,rfl,⟨_,_,_,_,_,_,_,rfl,HR.out,Fa.out,Fb.out⟩,hx⟩
theorem rof_val {v u:Value} {z y:Int} {w:World} (hv:BigV w v z) (hu:BigV w u y) (hz:Len z) (hy:Len y) (h0:y≠0):Calls Tryz.prog 93 #[v,u] w (RatP (Rat.divInt z y) w):=by
 obtain⟨n1,l,⟨a,ca,rfl,hi⟩,hb⟩:=hv
 obtain⟨n2,m,⟨b,cb,rfl,hj⟩,hc⟩:=hu
 have e1:sgn n1 (dval l)=z:=hb.2.2.symm
 have e2:sgn n2 (dval m)=y:=hc.2.2.symm
 have hm:0<m.length:=List.length_pos_iff.2 (fun e=>h0 (by rw [←e2,e];cases n2 <;> rfl))
 rw [←e1,←e2]
 rcases Int.lt_or_gt_of_ne h0 with h | h
 ·exact refR_Of_neg n1 n2 a b ca cb l m w hi hj (hb.chk hz) (hc.chk hy) hm (by rw [e2];exact h)
 ·exact refR_Of_pos n1 n2 a b ca cb l m w hi hj (hb.chk hz) (hc.chk hy) hm (by rw [e2];exact h)
end Go.Proofs.YtolffmmkjnhkkaaGreat
