import Derived.Test.YtolffmmkjnhkkaaGreatQ0
import Derived.Recover
import Derived.Test.YtolffmmkjnhkkaaGreatPLong
import Derived.Test.YtolffmmkjnhkkaaGreatPGcd
import Derived.Deep.Cut
namespace Go.Proofs.YtolffmmkjnhkkaaGreat
open Go.RowKit Go BigFrame Go.Shelf
set_option maxRecDepth 100000
set_option linter.unusedSimpArgs false
set_option maxHeartbeats 1000000 in
theorem nat_div_long (a b:Option Addr) (ca cb j0:Nat) (l m:List Int) (w:World) (h:Ints w a ca l) (k:Ints w b cb m) (hl:Norm l) (hm:Norm m) (hmk:m.length=j0+2) (h1:l.length≤99990) (hge:dval m≤dval l):
 Calls Tryz.prog 87 #[.slice a l.length ca,.slice b (j0+2:Nat) cb] w (DivP l m a w):=by
 have HC:=Lib.hid (nat_compare a b ca cb l m w h k hl hm)
 rw [hmk] at HC
 have hc:decide (cmpI (dval l) (dval m)<0)=false:=by rw [decide_eq_false_iff_not];unfold cmpI;split <;> (try split) <;> omega
 have HL:=Lib.hid (fun W (hy:Ext w W)=>nat_long a b ca cb j0 l.length l m W (h.ext hy) (k.ext hy) hl hm hmk rfl h1 hge)
 have hcb:=k.le
 have hcm:=k.mx
 rw [hmk] at hcb
 have hla:=h.le
 have hlm:=h.mx
 have t1:(((j0:Int)+2) == 1)=false:=by simp;omega
 generalize cmpI (dval l) (dval m)=cm at *
 have HF:Hid (∀aq cq ar cr w2 w',Ext w w2→DivP l m a w2 (.returned (.tuple #[.slice aq (digs (dval l / dval m).toNat).length cq,.slice ar (digs (dval l % dval m).toNat).length cr])) w'→DivP l m a w (.returned (.tuple #[.slice aq (digs (dval l / dval m).toNat).length cq,.slice ar (digs (dval l % dval m).toNat).length cr])) w'):=
  Lib.hid (fun aq cq ar cr w2 w' hx ⟨aq',cq',ar',cr',he,h1,h2,h3,h4,h5⟩=>⟨aq',cq',ar',cr',he,h1,h2,fun A hA=>Nat.le_trans hx.size (h3 A hA),fun A hA=>(h4 A hA).imp (fun h=>Nat.le_trans hx.size h) id,hx.trans h5⟩)
 clear h k hl hm hmk hge
 go_enter Tryz.func87,Tryz.ntmps87
 go_wp2_with fail
 refine HC.out.mono ?_
 rintro e w2 ⟨rfl,hy⟩
 have HL2:=Lib.hid (HL.out w2 hy)
 go_wp2_with fail
 refine HL2.out.mono ?_
 rintro e w3 ⟨aq,cq,ar,cr,rfl,hr⟩
 have HR:=Lib.hid (HF.out aq cq ar cr w2 w3 hy ⟨aq,cq,ar,cr,rfl,hr⟩)
 clear hr
 go_wp2_with fail
 go_ret2
 exact HR.out
theorem div_ok:DivOk 2048:=fun a b ca cb l m w h k hl hm hne h1 h2=>by
 by_cases hlt:dval l<dval m
 ·exact nat_div_lt a b ca cb l m w h k hl hm hlt
 ·have hpos:=List.length_pos_iff.2 hne
  by_cases h3:m.length=1
  ·obtain⟨d,rfl⟩:=List.length_eq_one_iff.1 h3
   have hdv:dval [d]=d:=by simp only [dval];omega
   exact nat_div_one a b ca cb l d w h k hl hm (by omega) (by rw [hdv] at hlt;omega)
  ·obtain⟨j0,hj⟩:∃j0,m.length=j0+2:=⟨m.length - 2,by omega⟩
   have:=nat_div_long a b ca cb j0 l m w h k hl hm hj (by omega) (by omega)
   rw [←hj] at this
   exact this
theorem gcd_any {v u:Value} {z y:Int} {w:World} (hv:BigV w v z) (hu:BigV w u y) (hz:Len z) (hy:Len y):Calls Tryz.prog 67 #[v,u] w (GcdP (Int.gcd z y:Nat) w):=gcd_val (Nat.le_refl _) div_ok hv hu hz hy
theorem div_any {v u:Value} {z y:Int} {w:World} (hv:BigV w v z) (hu:BigV w u y) (hz:Len z) (hy:Len y) (hne:y≠0):Calls Tryz.prog 68 #[v,u] w (DivO z y w):=div_val (Nat.le_refl _) div_ok hv hu hz hy hne
end Go.Proofs.YtolffmmkjnhkkaaGreat
namespace Go.Proofs.YtolffmmkjnhkkaaGreat
open Go.RowKit Go BigFrame
set_option maxRecDepth 100000
set_option linter.unusedSimpArgs false
set_option linter.unusedVariables false
theorem ratio_need_yes (E:Int) (w:World):Calls Tryz.prog 58 #[.bool true,.int .i64 E] w fun e w'=>e=.returned (.tuple #[])∧Ext w w':=by
 have hx:=Ext.refl w
 go_enter Tryz.func58,Tryz.ntmps58
 go_wp2_with fail
 go_end0
 exact⟨rfl,hx⟩
theorem ratio_caught_idle (p:Addr) (w:World):
 CallsD Tryz.prog 37 #[.pointer (some p)] .returning w fun e u' w'=>e=.returned (.tuple #[])∧u'=.returning∧w'=w:=by
 refine callsD_of_wpS Tryz.func37 rfl fun c₀ cs hu=>?_
 apply wpS_seq
 apply wpS_region
 simp [wpOpsS,go_sem,recoverD,hu,Tryz.ntmps37,Exit.thenS]
 refine wpS_of_wp ?_
 refine wp_block ?_
 refine wp_seq ?_
 refine wp_region ?_
 simp [wpOps,wpList,go_sem,Exit.then]
 repeat refine Or.inl ?_
 refine wp_cond_true (c:=.tmp 7) ?_ ?_
 ·simp [Act.eval,Array.replicate]
 refine wp_region ?_
 simp [wpOps,wpList,go_sem,Exit.then,Exit.inBlock]
 repeat refine Or.inl ?_
 cases c₀
 simp_all [bodyPostS,results,Tryz.results37]
end Go.Proofs.YtolffmmkjnhkkaaGreat
namespace Go.Proofs.YtolffmmkjnhkkaaGreat
open Go.RowKit Go BigFrame
set_option maxRecDepth 100000
set_option linter.unusedSimpArgs false
set_option linter.unusedVariables false
theorem ratio_positive_true2 (b:Option Addr) (q cb:Nat) (w:World) (hm:q≤9223372036854775807):Calls Tryz.prog 81 #[.agg #[.bool true,.slice b q cb]] w fun e w'=>e=.returned (.bool false)∧Ext w w':=by
 obtain⟨x1,hw,hx,Kx⟩:=boxQ1 w #[.bool true,.slice b q cb] 36
 replace hw:=Lib.hid hw
 go_enter Tryz.func81,Tryz.ntmps81
 go_upto_region 1 with fail
 try simp only [Nat.add_assoc,Nat.reduceAdd,Nat.add_zero]
 rw [hw.out]
 clear hw
 have hs0:=hx.size
 obtain⟨cx0,cx1⟩:=bk2 Kx
 go_wp2_with fail
 go_ret
 exact⟨rfl,hx⟩
theorem ratio_positive_false0 (b:Option Addr) (q cb:Nat) (w:World) (hq:q=0):Calls Tryz.prog 81 #[.agg #[.bool false,.slice b q cb]] w fun e w'=>e=.returned (.bool false)∧Ext w w':=by
 subst hq
 obtain⟨x1,hw,hx,Kx⟩:=boxQ1 w #[.bool false,.slice b 0 cb] 36
 replace hw:=Lib.hid hw
 go_enter Tryz.func81,Tryz.ntmps81
 go_upto_region 1 with fail
 try simp only [Nat.add_assoc,Nat.reduceAdd,Nat.add_zero]
 rw [hw.out]
 clear hw
 have hs0:=hx.size
 obtain⟨cx0,cx1⟩:=bk2 Kx
 go_wp2_with fail
 go_ret
 exact⟨rfl,hx⟩
theorem ratio_positive_false1 (b:Option Addr) (q cb:Nat) (w:World) (hq:0<q) (hm:q≤9223372036854775807):Calls Tryz.prog 81 #[.agg #[.bool false,.slice b q cb]] w fun e w'=>e=.returned (.bool true)∧Ext w w':=by
 have t1:decide ((0:Int)< (q:Int))=true:=by simp;omega
 obtain⟨x1,hw,hx,Kx⟩:=boxQ1 w #[.bool false,.slice b q cb] 36
 replace hw:=Lib.hid hw
 go_enter Tryz.func81,Tryz.ntmps81
 go_upto_region 1 with fail
 try simp only [Nat.add_assoc,Nat.reduceAdd,Nat.add_zero]
 rw [hw.out]
 clear hw
 have hs0:=hx.size
 obtain⟨cx0,cx1⟩:=bk2 Kx
 go_wp2_with fail
 go_ret
 exact⟨rfl,hx⟩
theorem ratio_positive (n2:Bool) (b:Option Addr) (q cb:Nat) (w:World) (hm:q≤9223372036854775807):Calls Tryz.prog 81 #[.agg #[.bool n2,.slice b q cb]] w fun e w'=>e=.returned (.bool (!n2 && decide (0<q)))∧Ext w w':=by
 cases n2
 ·by_cases hq:q=0
  ·have:=ratio_positive_false0 b q cb w hq
   rw [decide_eq_false (by omega)];exact this
  ·have:=ratio_positive_false1 b q cb w (by omega) hm
   rw [decide_eq_true (by omega)];exact this
 ·exact ratio_positive_true2 b q cb w hm
theorem ratio_didB (n1:Bool) (a:Option Addr) (q ca:Nat) (w:World):Calls Tryz.prog 40 #[.agg #[.bool n1,.slice a q ca],.int .i64 0] w fun e w'=>e=.returned (.agg #[.bool n1,.slice a q ca])∧Ext w w':=by
 obtain⟨x1,hw,hx,Kx,Kr⟩:=boxQ2 w #[.bool n1,.slice a q ca] 36 #[.bool false,.slice none 0 0] 36
 replace hw:=Lib.hid hw
 go_enter Tryz.func40,Tryz.ntmps40
 go_upto_region 1 with fail
 try simp only [Nat.add_assoc,Nat.reduceAdd,Nat.add_zero]
 rw [hw.out]
 clear hw
 have hs0:=hx.size
 obtain⟨cx0,cx1⟩:=bk2 Kx
 obtain⟨cr0,cr1⟩:=bk2 Kr
 go_wp2_with fail
 with_reducible refine(ratio_need_yes 0 _).mono ?_
 clear cx0 cx1 cr0 cr1
 rintro e x2 ⟨rfl,hy⟩
 replace hx:=hx.trans hy
 replace Kx:=kE Kx hy
 replace Kr:=kE Kr hy
 clear hy
 obtain⟨cx0,cx1⟩:=bk2 Kx
 obtain⟨g0,z0,g1,z1⟩:=bp2 Kr (.bool n1) (.slice a q ca)
 go_wp2_with fail
 clear g0 z0 g1 z1
 clear cx0 cx1
 replace hx:=bx2 hx (w.heap.size+1) (.bool n1) (.slice a q ca) (by omega)
 replace Kx:=bo2 Kx (w.heap.size+1) (.bool n1) (.slice a q ca) (by omega)
 replace Kr:=bs2 Kr (.bool n1) (.slice a q ca)
 generalize ((x2).setCell ⟨w.heap.size+1,0,none⟩ (.bool n1)).setCell ⟨w.heap.size+1,1,none⟩ (.slice a q ca)=x3 at *
 obtain⟨cr0,cr1⟩:=bk2 Kr
 refine bodyPost_ret (v:=.agg #[.bool n1,.slice a q ca]) (by simp [results,Tryz.results40,go_sem,cr0,cr1]) rfl ?_
 exact⟨rfl,hx⟩
set_option maxHeartbeats 1000000 in
theorem ratio_Check_b1 (n1 n2:Bool) (a b:Option Addr) (ca cb:Nat) (l m:List Int) (w:World) (h:Ints w a ca l) (k:Ints w b cb m) (h1:chkB n1 l=false):Calls Tryz.prog 62 #[.agg #[.bool n1,.slice a l.length ca,.bool n2,.slice b m.length cb]] w fun e w'=>e=.returned (.int .i64 100)∧Ext w w':=by
 have H1:=Lib.hid (fun W (hy:Ext w W)=>nat_Check n1 a ca l W (h.ext hy))
 have H2:=Lib.hid (fun W (hy:Ext w W)=>nat_Check n2 b cb m W (k.ext hy))
 have HM:=Lib.hid (Nat.le_trans k.le k.mx)
 have HE:Hid (errN true=0∧errN false=90):=Lib.hid ⟨rfl,rfl⟩
 rw [h1] at H1
 clear h1
 clear h k
 obtain⟨x1,hw,hx,Kx⟩:=boxQ1 w #[.bool n1,.slice a l.length ca,.bool n2,.slice b m.length cb] 38
 replace hw:=Lib.hid hw
 go_enter Tryz.func62,Tryz.ntmps62
 go_upto_region 1 with fail
 try simp only [Nat.add_assoc,Nat.reduceAdd,Nat.add_zero]
 rw [hw.out]
 clear hw
 have hs0:=hx.size
 obtain⟨cx0,cx1,cx2,cx3⟩:=bk4 Kx
 go_wp2_with fail
 with_reducible refine(show Calls Tryz.prog 61 _ _ (fun e w'=>e=.returned (.int .i64 90)∧Ext x1 w') from H1.out _ hx).mono ?_
 clear cx0 cx1 cx2 cx3
 rintro e x2 ⟨rfl,hy⟩
 replace hx:=hx.trans hy
 replace Kx:=kE Kx hy
 clear hy
 go_wp2_with fail
 go_ret
 exact⟨rfl,hx⟩
set_option maxHeartbeats 1000000 in
theorem ratio_Check_b2 (n1 n2:Bool) (a b:Option Addr) (ca cb:Nat) (l m:List Int) (w:World) (h:Ints w a ca l) (k:Ints w b cb m) (h1:chkB n1 l=true) (h2:chkB n2 m=false):Calls Tryz.prog 62 #[.agg #[.bool n1,.slice a l.length ca,.bool n2,.slice b m.length cb]] w fun e w'=>e=.returned (.int .i64 100)∧Ext w w':=by
 have H1:=Lib.hid (fun W (hy:Ext w W)=>nat_Check n1 a ca l W (h.ext hy))
 have H2:=Lib.hid (fun W (hy:Ext w W)=>nat_Check n2 b cb m W (k.ext hy))
 have HM:=Lib.hid (Nat.le_trans k.le k.mx)
 have HE:Hid (errN true=0∧errN false=90):=Lib.hid ⟨rfl,rfl⟩
 rw [h1] at H1
 rw [h2] at H2
 clear h1 h2
 clear h k
 obtain⟨x1,hw,hx,Kx⟩:=boxQ1 w #[.bool n1,.slice a l.length ca,.bool n2,.slice b m.length cb] 38
 replace hw:=Lib.hid hw
 go_enter Tryz.func62,Tryz.ntmps62
 go_upto_region 1 with fail
 try simp only [Nat.add_assoc,Nat.reduceAdd,Nat.add_zero]
 rw [hw.out]
 clear hw
 have hs0:=hx.size
 obtain⟨cx0,cx1,cx2,cx3⟩:=bk4 Kx
 go_wp2_with fail
 with_reducible refine(show Calls Tryz.prog 61 _ _ (fun e w'=>e=.returned (.int .i64 0)∧Ext x1 w') from H1.out _ hx).mono ?_
 clear cx0 cx1 cx2 cx3
 rintro e x2 ⟨rfl,hy⟩
 replace hx:=hx.trans hy
 replace Kx:=kE Kx hy
 clear hy
 obtain⟨cx0,cx1,cx2,cx3⟩:=bk4 Kx
 go_wp2_with fail
 with_reducible refine(show Calls Tryz.prog 61 _ _ (fun e w'=>e=.returned (.int .i64 90)∧Ext x2 w') from H2.out _ hx).mono ?_
 clear cx0 cx1 cx2 cx3
 rintro e x3 ⟨rfl,hy⟩
 replace hx:=hx.trans hy
 replace Kx:=kE Kx hy
 clear hy
 go_wp2_with fail
 go_ret
 exact⟨rfl,hx⟩
set_option maxHeartbeats 1000000 in
theorem ratio_Check_b3 (n1 n2:Bool) (a b:Option Addr) (ca cb:Nat) (l m:List Int) (w:World) (h:Ints w a ca l) (k:Ints w b cb m) (h1:chkB n1 l=true) (h2:chkB n2 m=true) (h3:(!n2 && decide (0<m.length))=false):Calls Tryz.prog 62 #[.agg #[.bool n1,.slice a l.length ca,.bool n2,.slice b m.length cb]] w fun e w'=>e=.returned (.int .i64 100)∧Ext w w':=by
 have H1:=Lib.hid (fun W (hy:Ext w W)=>nat_Check n1 a ca l W (h.ext hy))
 have H2:=Lib.hid (fun W (hy:Ext w W)=>nat_Check n2 b cb m W (k.ext hy))
 have HM:=Lib.hid (Nat.le_trans k.le k.mx)
 have HE:Hid (errN true=0∧errN false=90):=Lib.hid ⟨rfl,rfl⟩
 rw [h1] at H1
 rw [h2] at H2
 have H3:=Lib.hid h3
 clear h1 h2 h3
 clear h k
 obtain⟨x1,hw,hx,Kx⟩:=boxQ1 w #[.bool n1,.slice a l.length ca,.bool n2,.slice b m.length cb] 38
 replace hw:=Lib.hid hw
 go_enter Tryz.func62,Tryz.ntmps62
 go_upto_region 1 with fail
 try simp only [Nat.add_assoc,Nat.reduceAdd,Nat.add_zero]
 rw [hw.out]
 clear hw
 have hs0:=hx.size
 obtain⟨cx0,cx1,cx2,cx3⟩:=bk4 Kx
 go_wp2_with fail
 with_reducible refine(show Calls Tryz.prog 61 _ _ (fun e w'=>e=.returned (.int .i64 0)∧Ext x1 w') from H1.out _ hx).mono ?_
 clear cx0 cx1 cx2 cx3
 rintro e x2 ⟨rfl,hy⟩
 replace hx:=hx.trans hy
 replace Kx:=kE Kx hy
 clear hy
 obtain⟨cx0,cx1,cx2,cx3⟩:=bk4 Kx
 go_wp2_with fail
 with_reducible refine(show Calls Tryz.prog 61 _ _ (fun e w'=>e=.returned (.int .i64 0)∧Ext x2 w') from H2.out _ hx).mono ?_
 clear cx0 cx1 cx2 cx3
 rintro e x3 ⟨rfl,hy⟩
 replace hx:=hx.trans hy
 replace Kx:=kE Kx hy
 clear hy
 obtain⟨cx0,cx1,cx2,cx3⟩:=bk4 Kx
 go_wp2_with fail
 with_reducible refine(show Calls Tryz.prog 81 _ _ (fun e w'=>e=.returned (.bool false)∧Ext x3 w') from(by have:=ratio_positive n2 b m.length cb x3 HM.out;rw [H3.out] at this;exact this)).mono ?_
 clear cx0 cx1 cx2 cx3
 rintro e x4 ⟨rfl,hy⟩
 replace hx:=hx.trans hy
 replace Kx:=kE Kx hy
 clear hy
 go_wp2_with fail
 go_ret
 exact⟨rfl,hx⟩
set_option maxHeartbeats 1000000 in
theorem ratio_Check_gone (n1 n2:Bool) (a b:Option Addr) (ca cb:Nat) (l m:List Int) (w:World) (h:Ints w a ca l) (k:Ints w b cb m) (h1:chkB n1 l=true) (h2:chkB n2 m=true) (h3:(!n2 && decide (0<m.length))=true) (hg:Int.gcd (sgn n1 (dval l)) (sgn n2 (dval m))=1):Calls Tryz.prog 62 #[.agg #[.bool n1,.slice a l.length ca,.bool n2,.slice b m.length cb]] w fun e w'=>e=.returned (.int .i64 0)∧Ext w w':=by
 have hG:=fun W (hy:Ext w W)=>gcd_any (w:=W) (v:=.agg #[.bool n1,.slice a l.length ca]) (u:=.agg #[.bool n2,.slice b m.length cb]) ⟨n1,l,⟨a,ca,rfl,h.ext hy⟩,(of_chk h1).1⟩ ⟨n2,m,⟨b,cb,rfl,k.ext hy⟩,(of_chk h2).1⟩ (by have:=(of_chk h1).2;rw [(of_chk h1).1.digs] at this;exact this) (by have:=(of_chk h2).2;rw [(of_chk h2).1.digs] at this;exact this)
 have HG:=Lib.hid hG
 clear hG
 rw [hg] at HG
 have HN:=Lib.hid hg
 generalize Int.gcd (sgn n1 (dval l)) (sgn n2 (dval m))=gg at *
 clear hg
 have H1:=Lib.hid (fun W (hy:Ext w W)=>nat_Check n1 a ca l W (h.ext hy))
 have H2:=Lib.hid (fun W (hy:Ext w W)=>nat_Check n2 b cb m W (k.ext hy))
 have HM:=Lib.hid (Nat.le_trans k.le k.mx)
 have HE:Hid (errN true=0∧errN false=90):=Lib.hid ⟨rfl,rfl⟩
 rw [h1] at H1
 rw [h2] at H2
 have H3:=Lib.hid h3
 clear h1 h2 h3
 obtain⟨x1,hw,hx,Kx⟩:=boxQ1 w #[.bool n1,.slice a l.length ca,.bool n2,.slice b m.length cb] 38
 replace hw:=Lib.hid hw
 go_enter Tryz.func62,Tryz.ntmps62
 go_upto_region 1 with fail
 try simp only [Nat.add_assoc,Nat.reduceAdd,Nat.add_zero]
 rw [hw.out]
 clear hw
 have hs0:=hx.size
 obtain⟨cx0,cx1,cx2,cx3⟩:=bk4 Kx
 go_wp2_with fail
 with_reducible refine(show Calls Tryz.prog 61 _ _ (fun e w'=>e=.returned (.int .i64 0)∧Ext x1 w') from H1.out _ hx).mono ?_
 clear cx0 cx1 cx2 cx3
 rintro e x2 ⟨rfl,hy⟩
 replace hx:=hx.trans hy
 replace Kx:=kE Kx hy
 clear hy
 obtain⟨cx0,cx1,cx2,cx3⟩:=bk4 Kx
 go_wp2_with fail
 with_reducible refine(show Calls Tryz.prog 61 _ _ (fun e w'=>e=.returned (.int .i64 0)∧Ext x2 w') from H2.out _ hx).mono ?_
 clear cx0 cx1 cx2 cx3
 rintro e x3 ⟨rfl,hy⟩
 replace hx:=hx.trans hy
 replace Kx:=kE Kx hy
 clear hy
 obtain⟨cx0,cx1,cx2,cx3⟩:=bk4 Kx
 go_wp2_with fail
 with_reducible refine(show Calls Tryz.prog 81 _ _ (fun e w'=>e=.returned (.bool true)∧Ext x3 w') from(by have:=ratio_positive n2 b m.length cb x3 HM.out;rw [H3.out] at this;exact this)).mono ?_
 clear cx0 cx1 cx2 cx3
 rintro e x4 ⟨rfl,hy⟩
 replace hx:=hx.trans hy
 replace Kx:=kE Kx hy
 clear hy
 obtain⟨cx0,cx1,cx2,cx3⟩:=bk4 Kx
 go_wp2_with fail
 with_reducible refine(HG.out _ hx).mono ?_
 clear cx0 cx1 cx2 cx3
 rintro e x5 ⟨v,rfl,hv,hy⟩
 replace hx:=hx.trans hy
 replace Kx:=kE Kx hy
 clear hy
 obtain⟨ng,lg,⟨ag,cg,rfl,hi⟩,hb⟩:=hv
 obtain⟨rfl,rfl⟩:=hb.inj (show Big false [1] ((1:Nat):Int) from⟨⟨by omega,by omega,fun _=>by omega,trivial⟩,by simp,by simp [dval]⟩)
 obtain⟨bb,bo,rfl⟩:=hi.head (i:=0) (by simp)
 have HI:=Lib.hid hi
 clear hi hb
 go_upto_region 4 with fail
 have hl:=Ext.alloc x5 (.cells #[.bool false,.slice (some ⟨bb,bo,none⟩) 1 cg] 36)
 have lxg:w.heap.size<x5.heap.size:=Kx.out.lt
 have hpg:w.heap.size≤x5.heap.size:=hx.size
 replace hx:=hx.trans hl
 replace Kx:=kE Kx hl
 replace HI:=Lib.hid (HI.out.ext hl)
 have Kg:=Lib.hid (Blk.new0 x5 #[.bool false,.slice (some ⟨bb,bo,none⟩) 1 cg] 36)
 clear hl
 generalize x5.alloc (.cells #[.bool false,.slice (some ⟨bb,bo,none⟩) 1 cg] 36)=x6 at *
 generalize x5.heap.size=pg at *
 have hi0:=(HI.out.cell (i:=0) (by simp)).1
 simp only [Nat.add_zero,List.getElem_cons_zero] at hi0
 have hcg:1≤cg:=HI.out.le
 obtain⟨cx0,cx1,cx2,cx3⟩:=bk4 Kx
 obtain⟨cg0,cg1⟩:=bk2 Kg
 go_wp2_with fail
 go_ret
 exact⟨rfl,hx⟩
set_option maxHeartbeats 1000000 in
theorem ratio_Check_gno (n1 n2:Bool) (a b:Option Addr) (ca cb:Nat) (l m:List Int) (w:World) (h:Ints w a ca l) (k:Ints w b cb m) (h1:chkB n1 l=true) (h2:chkB n2 m=true) (h3:(!n2 && decide (0<m.length))=true) (hg:Int.gcd (sgn n1 (dval l)) (sgn n2 (dval m))≠1):Calls Tryz.prog 62 #[.agg #[.bool n1,.slice a l.length ca,.bool n2,.slice b m.length cb]] w fun e w'=>e=.returned (.int .i64 100)∧Ext w w':=by
 have hG:=fun W (hy:Ext w W)=>gcd_any (w:=W) (v:=.agg #[.bool n1,.slice a l.length ca]) (u:=.agg #[.bool n2,.slice b m.length cb]) ⟨n1,l,⟨a,ca,rfl,h.ext hy⟩,(of_chk h1).1⟩ ⟨n2,m,⟨b,cb,rfl,k.ext hy⟩,(of_chk h2).1⟩ (by have:=(of_chk h1).2;rw [(of_chk h1).1.digs] at this;exact this) (by have:=(of_chk h2).2;rw [(of_chk h2).1.digs] at this;exact this)
 have HG:=Lib.hid hG
 clear hG
 have HN:=Lib.hid hg
 generalize Int.gcd (sgn n1 (dval l)) (sgn n2 (dval m))=gg at *
 clear hg
 have H1:=Lib.hid (fun W (hy:Ext w W)=>nat_Check n1 a ca l W (h.ext hy))
 have H2:=Lib.hid (fun W (hy:Ext w W)=>nat_Check n2 b cb m W (k.ext hy))
 have HM:=Lib.hid (Nat.le_trans k.le k.mx)
 have HE:Hid (errN true=0∧errN false=90):=Lib.hid ⟨rfl,rfl⟩
 rw [h1] at H1
 rw [h2] at H2
 have H3:=Lib.hid h3
 clear h1 h2 h3
 obtain⟨x1,hw,hx,Kx⟩:=boxQ1 w #[.bool n1,.slice a l.length ca,.bool n2,.slice b m.length cb] 38
 replace hw:=Lib.hid hw
 go_enter Tryz.func62,Tryz.ntmps62
 go_upto_region 1 with fail
 try simp only [Nat.add_assoc,Nat.reduceAdd,Nat.add_zero]
 rw [hw.out]
 clear hw
 have hs0:=hx.size
 obtain⟨cx0,cx1,cx2,cx3⟩:=bk4 Kx
 go_wp2_with fail
 with_reducible refine(show Calls Tryz.prog 61 _ _ (fun e w'=>e=.returned (.int .i64 0)∧Ext x1 w') from H1.out _ hx).mono ?_
 clear cx0 cx1 cx2 cx3
 rintro e x2 ⟨rfl,hy⟩
 replace hx:=hx.trans hy
 replace Kx:=kE Kx hy
 clear hy
 obtain⟨cx0,cx1,cx2,cx3⟩:=bk4 Kx
 go_wp2_with fail
 with_reducible refine(show Calls Tryz.prog 61 _ _ (fun e w'=>e=.returned (.int .i64 0)∧Ext x2 w') from H2.out _ hx).mono ?_
 clear cx0 cx1 cx2 cx3
 rintro e x3 ⟨rfl,hy⟩
 replace hx:=hx.trans hy
 replace Kx:=kE Kx hy
 clear hy
 obtain⟨cx0,cx1,cx2,cx3⟩:=bk4 Kx
 go_wp2_with fail
 with_reducible refine(show Calls Tryz.prog 81 _ _ (fun e w'=>e=.returned (.bool true)∧Ext x3 w') from(by have:=ratio_positive n2 b m.length cb x3 HM.out;rw [H3.out] at this;exact this)).mono ?_
 clear cx0 cx1 cx2 cx3
 rintro e x4 ⟨rfl,hy⟩
 replace hx:=hx.trans hy
 replace Kx:=kE Kx hy
 clear hy
 obtain⟨cx0,cx1,cx2,cx3⟩:=bk4 Kx
 go_wp2_with fail
 with_reducible refine(HG.out _ hx).mono ?_
 clear cx0 cx1 cx2 cx3
 rintro e x5 ⟨v,rfl,hv,hy⟩
 replace hx:=hx.trans hy
 replace Kx:=kE Kx hy
 clear hy
 obtain⟨ng,lg,⟨ag,cg,rfl,hi⟩,hb⟩:=hv
 have HI:=Lib.hid hi
 have HB:=Lib.hid hb
 clear hi hb
 by_cases hq:lg.length=1
 ·obtain⟨d,rfl⟩:=List.length_eq_one_iff.1 hq
  have hd:(d == 1)=false:=by
   rw [beq_eq_false_iff_ne]
   intro e
   apply HN.out
   have:=HB.out.2.2
   subst e
   simp [dval] at this
   cases ng <;> simp at this <;> omega
  obtain⟨bb,bo,rfl⟩:=HI.out.head (i:=0) (by simp)
  clear hq HB
  go_upto_region 4 with fail
  have hl:=Ext.alloc x5 (.cells #[.bool ng,.slice (some ⟨bb,bo,none⟩) 1 cg] 36)
  have lxg:w.heap.size<x5.heap.size:=Kx.out.lt
  have hpg:w.heap.size≤x5.heap.size:=hx.size
  replace hx:=hx.trans hl
  replace Kx:=kE Kx hl
  replace HI:=Lib.hid (HI.out.ext hl)
  have Kg:=Lib.hid (Blk.new0 x5 #[.bool ng,.slice (some ⟨bb,bo,none⟩) 1 cg] 36)
  clear hl
  generalize x5.alloc (.cells #[.bool ng,.slice (some ⟨bb,bo,none⟩) 1 cg] 36)=x6 at *
  generalize x5.heap.size=pg at *
  have hi0:=(HI.out.cell (i:=0) (by simp)).1
  simp only [Nat.add_zero,List.getElem_cons_zero] at hi0
  have hcg:1≤cg:=HI.out.le
  obtain⟨cx0,cx1,cx2,cx3⟩:=bk4 Kx
  obtain⟨cg0,cg1⟩:=bk2 Kg
  go_wp2_with fail
  go_ret
  exact⟨rfl,hx⟩
 ·have hd:((lg.length:Int) == 1)=false:=by simp only [beq_eq_false_iff_ne];omega
  have hd3:(!(lg.length == 1))=true:=by simpa using hq
  have hd5:¬ ((lg.length:Int)=1):=by omega
  have hd4:(!((lg.length:Int) == 1))=true:=by simpa using hd5
  have hd2:(lg.length == 1)=false:=by simp only [beq_eq_false_iff_ne];omega
  have hlg:lg.length≤9223372036854775807:=Nat.le_trans HI.out.le HI.out.mx
  go_upto_region 4 with fail
  have hl:=Ext.alloc x5 (.cells #[.bool ng,.slice ag lg.length cg] 36)
  have lxg:w.heap.size<x5.heap.size:=Kx.out.lt
  have hpg:w.heap.size≤x5.heap.size:=hx.size
  replace hx:=hx.trans hl
  replace Kx:=kE Kx hl
  replace HI:=Lib.hid (HI.out.ext hl)
  have Kg:=Lib.hid (Blk.new0 x5 #[.bool ng,.slice ag lg.length cg] 36)
  clear hl
  generalize x5.alloc (.cells #[.bool ng,.slice ag lg.length cg] 36)=x6 at *
  generalize x5.heap.size=pg at *
  obtain⟨cx0,cx1,cx2,cx3⟩:=bk4 Kx
  obtain⟨cg0,cg1⟩:=bk2 Kg
  go_wp2_with fail
  go_ret
  exact⟨rfl,hx⟩
def errR (b:Bool):Int:=if b then 0 else 100
theorem ratio_Check (n1 n2:Bool) (a b:Option Addr) (ca cb:Nat) (l m:List Int) (w:World) (h:Ints w a ca l) (k:Ints w b cb m):Calls Tryz.prog 62 #[.agg #[.bool n1,.slice a l.length ca,.bool n2,.slice b m.length cb]] w fun e w'=>e=.returned (.int .i64 (errR (okR n1 l n2 m)))∧Ext w w':=by
 unfold okR
 cases h1:chkB n1 l
 ·exact ratio_Check_b1 n1 n2 a b ca cb l m w h k h1
 ·cases h2:chkB n2 m
  ·exact ratio_Check_b2 n1 n2 a b ca cb l m w h k h1 h2
  ·cases h3:(!n2 && decide (0<m.length))
   ·have:=ratio_Check_b3 n1 n2 a b ca cb l m w h k h1 h2 h3
    rw [Bool.true_and,Bool.true_and,h3];exact this
   ·rw [Bool.true_and,Bool.true_and,h3,Bool.true_and]
    by_cases hg:Int.gcd (sgn n1 (dval l)) (sgn n2 (dval m))=1
    ·rw [decide_eq_true hg];exact ratio_Check_gone n1 n2 a b ca cb l m w h k h1 h2 h3 hg
    ·rw [decide_eq_false hg];exact ratio_Check_gno n1 n2 a b ca cb l m w h k h1 h2 h3 hg
end Go.Proofs.YtolffmmkjnhkkaaGreat
