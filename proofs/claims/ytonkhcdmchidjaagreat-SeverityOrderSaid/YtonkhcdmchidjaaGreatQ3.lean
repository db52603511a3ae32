import Derived.Test.YtonkhcdmchidjaaGreatQ0
import Derived.Test.YtonkhcdmchidjaaGreatPLong
import Derived.Test.YtonkhcdmchidjaaGreatPGcd
set_option maxHeartbeats 2000000
namespace Go.Proofs.YtonkhcdmchidjaaGreat
open Go.RowKit Go BigFrame Go.Shelf
set_option maxRecDepth 100000
set_option linter.all false
theorem zGK (a b:Option Addr) (ca cb j0:Nat) (l m:List Int) (w:World) (h:Ints w a ca l) (k:Ints w b cb m) (hl:Norm l) (hm:Norm m) (hmk:m.length=j0+2) (h1:l.length≤99990) (hge:zA1 m≤zA1 l):
 Calls Tryz.prog 208 #[.slice a l.length ca,.slice b (j0+2:Nat) cb] w (zJw l m a w):=by
 have HC:=dH (zAY a b ca cb l m w h k hl hm);rw [hmk] at HC;have hc:decide (zBS (zA1 l) (zA1 m)<0)=false:=by rw [decide_eq_false_iff_not];unfold zBS;split <;> (try split) <;> omega
 have HL:=dH (fun W (hy:Ext w W)=>zLb a b ca cb j0 l.length l m W (h.ext hy) (k.ext hy) hl hm hmk rfl h1 hge);have hcb:=k.le;have hcm:=k.mx;rw [hmk] at hcb;have hla:=h.le;have hlm:=h.mx;have t1:(((j0:Int)+2) == 1)=false:=by simp;omega
 generalize zBS (zA1 l) (zA1 m)=cm at *
 have HF:Hid (∀aq cq ar cr w2 w',Ext w w2→zJw l m a w2 (.returned (.tuple #[.slice aq (digs (zA1 l / zA1 m).toNat).length cq,.slice ar (digs (zA1 l % zA1 m).toNat).length cr])) w'→zJw l m a w (.returned (.tuple #[.slice aq (digs (zA1 l / zA1 m).toNat).length cq,.slice ar (digs (zA1 l % zA1 m).toNat).length cr])) w'):=
  dH (fun aq cq ar cr w2 w' hx ⟨aq',cq',ar',cr',he,h1,h2,h3,h4,h5⟩=>⟨aq',cq',ar',cr',he,h1,h2,fun A hA=>Nat.le_trans hx.size (h3 A hA),fun A hA=>(h4 A hA).imp (fun h=>Nat.le_trans hx.size h) id,hx.trans h5⟩)
 clear h k hl hm hmk hge;go_enter Tryz.func208,Tryz.ntmps208;go_wp2_with fail;refine HC.out.mono ?_;rintro e w2 ⟨rfl,hy⟩;have HL2:=dH (HL.out w2 hy);go_wp2_with fail;refine HL2.out.mono ?_;rintro e w3 ⟨aq,cq,ar,cr,rfl,hr⟩;have HR:=dH (HF.out aq cq ar cr w2 w3 hy ⟨aq,cq,ar,cr,rfl,hr⟩);clear hr;go_wp2_with fail
 go_ret2
 exact HR.out
theorem zM8:zL5 2048:=fun a b ca cb l m w h k hl hm hne h1 h2=>by
 by_cases hlt:zA1 l<zA1 m
 ·exact zIT a b ca cb l m w h k hl hm hlt
 ·have hpos:=List.length_pos_iff.2 hne;by_cases h3:m.length=1
  ·obtain⟨d,rfl⟩:=List.length_eq_one_iff.1 h3;have hdv:zA1 [d]=d:=by simp only [zA1];omega
   exact zHE a b ca cb l d w h k hl hm (by omega) (by rw [hdv] at hlt;omega)
  ·obtain⟨j0,hj⟩:∃j0,m.length=j0+2:=⟨m.length - 2,by omega⟩
   have:=zGK a b ca cb j0 l m w h k hl hm hj (by omega) (by omega);rw [←hj] at this;exact this
theorem zG2 {v u:Value} {z y:Int} {w:World} (hv:BigV w v z) (hu:BigV w u y) (hz:Len z) (hy:Len y):Calls Tryz.prog 182 #[v,u] w (GcdP (Int.gcd z y:Nat) w):=zMH (Nat.le_refl _) zM8 hv hu hz hy
theorem zG3 {v u:Value} {z y:Int} {w:World} (hv:BigV w v z) (hu:BigV w u y) (hz:Len z) (hy:Len y) (hne:y≠0):Calls Tryz.prog 183 #[v,u] w (zM3 z y w):=zMI (Nat.le_refl _) zM8 hv hu hz hy hne
end Go.Proofs.YtonkhcdmchidjaaGreat
namespace Go.Proofs.YtonkhcdmchidjaaGreat
open Go.RowKit Go BigFrame
set_option maxRecDepth 100000
set_option linter.all false
theorem zAV (E:Int) (w:World):Calls Tryz.prog 126 #[.bool true,.int .i64 E] w fun e w'=>e=.returned (.tuple #[])∧Ext w w':=by
 have hx:=Ext.refl w;go_enter Tryz.func126,Tryz.ntmps126;go_wp2_with fail
 go_end0
 exact⟨rfl,hx⟩
theorem zAo (p:Addr) (w:World):
 CallsD Tryz.prog 91 #[.pointer (some p)] .returning w fun e u' w'=>e=.returned (.tuple #[])∧u'=.returning∧w'=w:=by
 refine callsD_of_wpS Tryz.func91 rfl fun c₀ cs hu=>?_;apply wpS_seq;apply wpS_region;simp [wpOpsS,go_sem,recoverD,hu,Tryz.ntmps91,Exit.thenS];refine wpS_of_wp ?_;refine wp_block ?_;refine wp_seq ?_;refine wp_region ?_;simp [wpOps,wpList,go_sem,Exit.then]
 repeat refine Or.inl ?_
 refine wp_cond_true (c:=.tmp 7) ?_ ?_
 ·simp [Act.eval,Array.replicate]
 refine wp_region ?_;simp [wpOps,wpList,go_sem,Exit.then,Exit.inBlock]
 repeat refine Or.inl ?_
 cases c₀
 simp_all [bodyPostS,results,Tryz.results91]
theorem zCN (b:Option Addr) (q cb:Nat) (w:World) (hm:q≤9223372036854775807):Calls Tryz.prog 192 #[.agg #[.bool true,.slice b q cb]] w fun e w'=>e=.returned (.bool false)∧Ext w w':=by
 obtain⟨x1,hw,hx,Kx⟩:=zCh w #[.bool true,.slice b q cb] 36;replace hw:=dH hw;go_enter Tryz.func192,Tryz.ntmps192;go_upto_region 1 with fail
 try simp only [Nat.add_assoc,Nat.reduceAdd,Nat.add_zero]
 rw [hw.out];clear hw;have hs0:=hx.size;obtain⟨cx0,cx1⟩:=bk2 Kx;go_wp2_with fail;go_ret;exact⟨rfl,hx⟩
theorem zCn (b:Option Addr) (q cb:Nat) (w:World) (hq:q=0):Calls Tryz.prog 192 #[.agg #[.bool false,.slice b q cb]] w fun e w'=>e=.returned (.bool false)∧Ext w w':=by
 subst hq;obtain⟨x1,hw,hx,Kx⟩:=zCh w #[.bool false,.slice b 0 cb] 36;replace hw:=dH hw;go_enter Tryz.func192,Tryz.ntmps192;go_upto_region 1 with fail
 try simp only [Nat.add_assoc,Nat.reduceAdd,Nat.add_zero]
 rw [hw.out];clear hw;have hs0:=hx.size;obtain⟨cx0,cx1⟩:=bk2 Kx;go_wp2_with fail;go_ret;exact⟨rfl,hx⟩
theorem zCo (b:Option Addr) (q cb:Nat) (w:World) (hq:0<q) (hm:q≤9223372036854775807):Calls Tryz.prog 192 #[.agg #[.bool false,.slice b q cb]] w fun e w'=>e=.returned (.bool true)∧Ext w w':=by
 have t1:decide ((0:Int)< (q:Int))=true:=by simp;omega
 obtain⟨x1,hw,hx,Kx⟩:=zCh w #[.bool false,.slice b q cb] 36;replace hw:=dH hw;go_enter Tryz.func192,Tryz.ntmps192;go_upto_region 1 with fail
 try simp only [Nat.add_assoc,Nat.reduceAdd,Nat.add_zero]
 rw [hw.out];clear hw;have hs0:=hx.size;obtain⟨cx0,cx1⟩:=bk2 Kx;go_wp2_with fail;go_ret;exact⟨rfl,hx⟩
theorem zBT (n2:Bool) (b:Option Addr) (q cb:Nat) (w:World) (hm:q≤9223372036854775807):Calls Tryz.prog 192 #[.agg #[.bool n2,.slice b q cb]] w fun e w'=>e=.returned (.bool (!n2 && decide (0<q)))∧Ext w w':=by
 cases n2
 ·by_cases hq:q=0
  ·have:=zCn b q cb w hq;rw [decide_eq_false (by omega)];exact this
  ·have:=zCo b q cb w (by omega) hm;rw [decide_eq_true (by omega)];exact this
 ·exact zCN b q cb w hm
theorem zCE (n1:Bool) (a:Option Addr) (q ca:Nat) (w:World):Calls Tryz.prog 144 #[.agg #[.bool n1,.slice a q ca],.int .i64 0] w fun e w'=>e=.returned (.agg #[.bool n1,.slice a q ca])∧Ext w w':=by
 obtain⟨x1,hw,hx,Kx,Kr⟩:=zGI w #[.bool n1,.slice a q ca] 36 #[.bool false,.slice none 0 0] 36;replace hw:=dH hw;go_enter Tryz.func144,Tryz.ntmps144;go_upto_region 1 with fail
 try simp only [Nat.add_assoc,Nat.reduceAdd,Nat.add_zero]
 rw [hw.out];clear hw;have hs0:=hx.size;obtain⟨cx0,cx1⟩:=bk2 Kx;obtain⟨cr0,cr1⟩:=bk2 Kr;go_wp2_with fail
 with_reducible refine(zAV 0 _).mono ?_
 clear cx0 cx1 cr0 cr1;rintro e x2 ⟨rfl,hy⟩;replace hx:=hx.trans hy;replace Kx:=kE Kx hy;replace Kr:=kE Kr hy;clear hy;obtain⟨cx0,cx1⟩:=bk2 Kx;obtain⟨g0,z0,g1,z1⟩:=bp2 Kr (.bool n1) (.slice a q ca);go_wp2_with fail;clear g0 z0 g1 z1;clear cx0 cx1;replace hx:=bx2 hx (w.heap.size+1) (.bool n1) (.slice a q ca) (by omega);replace Kx:=bo2 Kx (w.heap.size+1) (.bool n1) (.slice a q ca) (by omega);replace Kr:=bs2 Kr (.bool n1) (.slice a q ca);generalize ((x2).setCell ⟨w.heap.size+1,0,none⟩ (.bool n1)).setCell ⟨w.heap.size+1,1,none⟩ (.slice a q ca)=x3 at *;obtain⟨cr0,cr1⟩:=bk2 Kr;refine bodyPost_ret (v:=.agg #[.bool n1,.slice a q ca]) (by simp [results,Tryz.results144,go_sem,cr0,cr1]) rfl ?_;exact⟨rfl,hx⟩
theorem zFf (n1 n2:Bool) (a b:Option Addr) (ca cb:Nat) (l m:List Int) (w:World) (h:Ints w a ca l) (k:Ints w b cb m) (h1:zBI n1 l=false):Calls Tryz.prog 134 #[.agg #[.bool n1,.slice a l.length ca,.bool n2,.slice b m.length cb]] w fun e w'=>e=.returned (.int .i64 100)∧Ext w w':=by
 have H1:=dH (fun W (hy:Ext w W)=>zAw n1 a ca l W (h.ext hy));have H2:=dH (fun W (hy:Ext w W)=>zAw n2 b cb m W (k.ext hy));have HM:=dH (Nat.le_trans k.le k.mx);have HE:Hid (zFR true=0∧zFR false=90):=dH ⟨rfl,rfl⟩;rw [h1] at H1;clear h1;clear h k;obtain⟨x1,hw,hx,Kx⟩:=zCh w #[.bool n1,.slice a l.length ca,.bool n2,.slice b m.length cb] 38;replace hw:=dH hw;go_enter Tryz.func134,Tryz.ntmps134;go_upto_region 1 with fail
 try simp only [Nat.add_assoc,Nat.reduceAdd,Nat.add_zero]
 rw [hw.out];clear hw;have hs0:=hx.size;obtain⟨cx0,cx1,cx2,cx3⟩:=bk4 Kx;go_wp2_with fail
 with_reducible refine(show Calls Tryz.prog 191 _ _ (fun e w'=>e=.returned (.int .i64 90)∧Ext x1 w') from H1.out _ hx).mono ?_
 clear cx0 cx1 cx2 cx3;rintro e x2 ⟨rfl,hy⟩;replace hx:=hx.trans hy;replace Kx:=kE Kx hy;clear hy;go_wp2_with fail;go_ret;exact⟨rfl,hx⟩
theorem zFg (n1 n2:Bool) (a b:Option Addr) (ca cb:Nat) (l m:List Int) (w:World) (h:Ints w a ca l) (k:Ints w b cb m) (h1:zBI n1 l=true) (h2:zBI n2 m=false):Calls Tryz.prog 134 #[.agg #[.bool n1,.slice a l.length ca,.bool n2,.slice b m.length cb]] w fun e w'=>e=.returned (.int .i64 100)∧Ext w w':=by
 have H1:=dH (fun W (hy:Ext w W)=>zAw n1 a ca l W (h.ext hy));have H2:=dH (fun W (hy:Ext w W)=>zAw n2 b cb m W (k.ext hy));have HM:=dH (Nat.le_trans k.le k.mx);have HE:Hid (zFR true=0∧zFR false=90):=dH ⟨rfl,rfl⟩;rw [h1] at H1;rw [h2] at H2;clear h1 h2;clear h k;obtain⟨x1,hw,hx,Kx⟩:=zCh w #[.bool n1,.slice a l.length ca,.bool n2,.slice b m.length cb] 38;replace hw:=dH hw;go_enter Tryz.func134,Tryz.ntmps134;go_upto_region 1 with fail
 try simp only [Nat.add_assoc,Nat.reduceAdd,Nat.add_zero]
 rw [hw.out];clear hw;have hs0:=hx.size;obtain⟨cx0,cx1,cx2,cx3⟩:=bk4 Kx;go_wp2_with fail
 with_reducible refine(show Calls Tryz.prog 191 _ _ (fun e w'=>e=.returned (.int .i64 0)∧Ext x1 w') from H1.out _ hx).mono ?_
 clear cx0 cx1 cx2 cx3;rintro e x2 ⟨rfl,hy⟩;replace hx:=hx.trans hy;replace Kx:=kE Kx hy;clear hy;obtain⟨cx0,cx1,cx2,cx3⟩:=bk4 Kx;go_wp2_with fail
 with_reducible refine(show Calls Tryz.prog 191 _ _ (fun e w'=>e=.returned (.int .i64 90)∧Ext x2 w') from H2.out _ hx).mono ?_
 clear cx0 cx1 cx2 cx3;rintro e x3 ⟨rfl,hy⟩;replace hx:=hx.trans hy;replace Kx:=kE Kx hy;clear hy;go_wp2_with fail;go_ret;exact⟨rfl,hx⟩
theorem zFh (n1 n2:Bool) (a b:Option Addr) (ca cb:Nat) (l m:List Int) (w:World) (h:Ints w a ca l) (k:Ints w b cb m) (h1:zBI n1 l=true) (h2:zBI n2 m=true) (h3:(!n2 && decide (0<m.length))=false):Calls Tryz.prog 134 #[.agg #[.bool n1,.slice a l.length ca,.bool n2,.slice b m.length cb]] w fun e w'=>e=.returned (.int .i64 100)∧Ext w w':=by
 have H1:=dH (fun W (hy:Ext w W)=>zAw n1 a ca l W (h.ext hy));have H2:=dH (fun W (hy:Ext w W)=>zAw n2 b cb m W (k.ext hy));have HM:=dH (Nat.le_trans k.le k.mx);have HE:Hid (zFR true=0∧zFR false=90):=dH ⟨rfl,rfl⟩;rw [h1] at H1;rw [h2] at H2;have H3:=dH h3;clear h1 h2 h3;clear h k;obtain⟨x1,hw,hx,Kx⟩:=zCh w #[.bool n1,.slice a l.length ca,.bool n2,.slice b m.length cb] 38;replace hw:=dH hw;go_enter Tryz.func134,Tryz.ntmps134;go_upto_region 1 with fail
 try simp only [Nat.add_assoc,Nat.reduceAdd,Nat.add_zero]
 rw [hw.out];clear hw;have hs0:=hx.size;obtain⟨cx0,cx1,cx2,cx3⟩:=bk4 Kx;go_wp2_with fail
 with_reducible refine(show Calls Tryz.prog 191 _ _ (fun e w'=>e=.returned (.int .i64 0)∧Ext x1 w') from H1.out _ hx).mono ?_
 clear cx0 cx1 cx2 cx3;rintro e x2 ⟨rfl,hy⟩;replace hx:=hx.trans hy;replace Kx:=kE Kx hy;clear hy;obtain⟨cx0,cx1,cx2,cx3⟩:=bk4 Kx;go_wp2_with fail
 with_reducible refine(show Calls Tryz.prog 191 _ _ (fun e w'=>e=.returned (.int .i64 0)∧Ext x2 w') from H2.out _ hx).mono ?_
 clear cx0 cx1 cx2 cx3;rintro e x3 ⟨rfl,hy⟩;replace hx:=hx.trans hy;replace Kx:=kE Kx hy;clear hy;obtain⟨cx0,cx1,cx2,cx3⟩:=bk4 Kx;go_wp2_with fail
 with_reducible refine(show Calls Tryz.prog 192 _ _ (fun e w'=>e=.returned (.bool false)∧Ext x3 w') from(by have:=zBT n2 b m.length cb x3 HM.out;rw [H3.out] at this;exact this)).mono ?_
 clear cx0 cx1 cx2 cx3;rintro e x4 ⟨rfl,hy⟩;replace hx:=hx.trans hy;replace Kx:=kE Kx hy;clear hy;go_wp2_with fail;go_ret;exact⟨rfl,hx⟩
theorem zEc (n1 n2:Bool) (a b:Option Addr) (ca cb:Nat) (l m:List Int) (w:World) (h:Ints w a ca l) (k:Ints w b cb m) (h1:zBI n1 l=true) (h2:zBI n2 m=true) (h3:(!n2 && decide (0<m.length))=true) (hg:Int.gcd (sgn n1 (zA1 l)) (sgn n2 (zA1 m))=1):Calls Tryz.prog 134 #[.agg #[.bool n1,.slice a l.length ca,.bool n2,.slice b m.length cb]] w fun e w'=>e=.returned (.int .i64 0)∧Ext w w':=by
 have hG:=fun W (hy:Ext w W)=>zG2 (w:=W) (v:=.agg #[.bool n1,.slice a l.length ca]) (u:=.agg #[.bool n2,.slice b m.length cb]) ⟨n1,l,⟨a,ca,rfl,h.ext hy⟩,(zAu h1).1⟩ ⟨n2,m,⟨b,cb,rfl,k.ext hy⟩,(zAu h2).1⟩ (by have:=(zAu h1).2;rw [(zAu h1).1.digs] at this;exact this) (by have:=(zAu h2).2;rw [(zAu h2).1.digs] at this;exact this);have HG:=dH hG;clear hG;rw [hg] at HG;have HN:=dH hg;generalize Int.gcd (sgn n1 (zA1 l)) (sgn n2 (zA1 m))=gg at *;clear hg;have H1:=dH (fun W (hy:Ext w W)=>zAw n1 a ca l W (h.ext hy));have H2:=dH (fun W (hy:Ext w W)=>zAw n2 b cb m W (k.ext hy));have HM:=dH (Nat.le_trans k.le k.mx);have HE:Hid (zFR true=0∧zFR false=90):=dH ⟨rfl,rfl⟩;rw [h1] at H1;rw [h2] at H2;have H3:=dH h3;clear h1 h2 h3;obtain⟨x1,hw,hx,Kx⟩:=zCh w #[.bool n1,.slice a l.length ca,.bool n2,.slice b m.length cb] 38;replace hw:=dH hw;go_enter Tryz.func134,Tryz.ntmps134;go_upto_region 1 with fail
 try simp only [Nat.add_assoc,Nat.reduceAdd,Nat.add_zero]
 rw [hw.out];clear hw;have hs0:=hx.size;obtain⟨cx0,cx1,cx2,cx3⟩:=bk4 Kx;go_wp2_with fail
 with_reducible refine(show Calls Tryz.prog 191 _ _ (fun e w'=>e=.returned (.int .i64 0)∧Ext x1 w') from H1.out _ hx).mono ?_
 clear cx0 cx1 cx2 cx3;rintro e x2 ⟨rfl,hy⟩;replace hx:=hx.trans hy;replace Kx:=kE Kx hy;clear hy;obtain⟨cx0,cx1,cx2,cx3⟩:=bk4 Kx;go_wp2_with fail
 with_reducible refine(show Calls Tryz.prog 191 _ _ (fun e w'=>e=.returned (.int .i64 0)∧Ext x2 w') from H2.out _ hx).mono ?_
 clear cx0 cx1 cx2 cx3;rintro e x3 ⟨rfl,hy⟩;replace hx:=hx.trans hy;replace Kx:=kE Kx hy;clear hy;obtain⟨cx0,cx1,cx2,cx3⟩:=bk4 Kx;go_wp2_with fail
 with_reducible refine(show Calls Tryz.prog 192 _ _ (fun e w'=>e=.returned (.bool true)∧Ext x3 w') from(by have:=zBT n2 b m.length cb x3 HM.out;rw [H3.out] at this;exact this)).mono ?_
 clear cx0 cx1 cx2 cx3;rintro e x4 ⟨rfl,hy⟩;replace hx:=hx.trans hy;replace Kx:=kE Kx hy;clear hy;obtain⟨cx0,cx1,cx2,cx3⟩:=bk4 Kx;go_wp2_with fail
 with_reducible refine(HG.out _ hx).mono ?_
 clear cx0 cx1 cx2 cx3;rintro e x5 ⟨v,rfl,hv,hy⟩;replace hx:=hx.trans hy;replace Kx:=kE Kx hy;clear hy;obtain⟨ng,lg,⟨ag,cg,rfl,hi⟩,hb⟩:=hv;obtain⟨rfl,rfl⟩:=hb.inj (show Big false [1] ((1:Nat):Int) from⟨⟨by omega,by omega,fun _=>by omega,trivial⟩,by simp,by simp [zA1]⟩);obtain⟨bb,bo,rfl⟩:=hi.head (i:=0) (by simp);have HI:=dH hi;clear hi hb;go_upto_region 4 with fail;have hl:=Ext.alloc x5 (.cells #[.bool false,.slice (some ⟨bb,bo,none⟩) 1 cg] 36);have lxg:w.heap.size<x5.heap.size:=Kx.out.lt;have hpg:w.heap.size≤x5.heap.size:=hx.size;replace hx:=hx.trans hl;replace Kx:=kE Kx hl;replace HI:=dH (HI.out.ext hl);have Kg:=dH (Blk.new0 x5 #[.bool false,.slice (some ⟨bb,bo,none⟩) 1 cg] 36);clear hl;generalize x5.alloc (.cells #[.bool false,.slice (some ⟨bb,bo,none⟩) 1 cg] 36)=x6 at *;generalize x5.heap.size=pg at *;have hi0:=(HI.out.cell (i:=0) (by simp)).1;simp only [Nat.add_zero,List.getElem_cons_zero] at hi0;have hcg:1≤cg:=HI.out.le;obtain⟨cx0,cx1,cx2,cx3⟩:=bk4 Kx;obtain⟨cg0,cg1⟩:=bk2 Kg;go_wp2_with fail;go_ret;exact⟨rfl,hx⟩
theorem zEA (n1 n2:Bool) (a b:Option Addr) (ca cb:Nat) (l m:List Int) (w:World) (h:Ints w a ca l) (k:Ints w b cb m) (h1:zBI n1 l=true) (h2:zBI n2 m=true) (h3:(!n2 && decide (0<m.length))=true) (hg:Int.gcd (sgn n1 (zA1 l)) (sgn n2 (zA1 m))≠1):Calls Tryz.prog 134 #[.agg #[.bool n1,.slice a l.length ca,.bool n2,.slice b m.length cb]] w fun e w'=>e=.returned (.int .i64 100)∧Ext w w':=by
 have hG:=fun W (hy:Ext w W)=>zG2 (w:=W) (v:=.agg #[.bool n1,.slice a l.length ca]) (u:=.agg #[.bool n2,.slice b m.length cb]) ⟨n1,l,⟨a,ca,rfl,h.ext hy⟩,(zAu h1).1⟩ ⟨n2,m,⟨b,cb,rfl,k.ext hy⟩,(zAu h2).1⟩ (by have:=(zAu h1).2;rw [(zAu h1).1.digs] at this;exact this) (by have:=(zAu h2).2;rw [(zAu h2).1.digs] at this;exact this);have HG:=dH hG;clear hG;have HN:=dH hg;generalize Int.gcd (sgn n1 (zA1 l)) (sgn n2 (zA1 m))=gg at *;clear hg;have H1:=dH (fun W (hy:Ext w W)=>zAw n1 a ca l W (h.ext hy));have H2:=dH (fun W (hy:Ext w W)=>zAw n2 b cb m W (k.ext hy));have HM:=dH (Nat.le_trans k.le k.mx);have HE:Hid (zFR true=0∧zFR false=90):=dH ⟨rfl,rfl⟩;rw [h1] at H1;rw [h2] at H2;have H3:=dH h3;clear h1 h2 h3;obtain⟨x1,hw,hx,Kx⟩:=zCh w #[.bool n1,.slice a l.length ca,.bool n2,.slice b m.length cb] 38;replace hw:=dH hw;go_enter Tryz.func134,Tryz.ntmps134;go_upto_region 1 with fail
 try simp only [Nat.add_assoc,Nat.reduceAdd,Nat.add_zero]
 rw [hw.out];clear hw;have hs0:=hx.size;obtain⟨cx0,cx1,cx2,cx3⟩:=bk4 Kx;go_wp2_with fail
 with_reducible refine(show Calls Tryz.prog 191 _ _ (fun e w'=>e=.returned (.int .i64 0)∧Ext x1 w') from H1.out _ hx).mono ?_
 clear cx0 cx1 cx2 cx3;rintro e x2 ⟨rfl,hy⟩;replace hx:=hx.trans hy;replace Kx:=kE Kx hy;clear hy;obtain⟨cx0,cx1,cx2,cx3⟩:=bk4 Kx;go_wp2_with fail
 with_reducible refine(show Calls Tryz.prog 191 _ _ (fun e w'=>e=.returned (.int .i64 0)∧Ext x2 w') from H2.out _ hx).mono ?_
 clear cx0 cx1 cx2 cx3;rintro e x3 ⟨rfl,hy⟩;replace hx:=hx.trans hy;replace Kx:=kE Kx hy;clear hy;obtain⟨cx0,cx1,cx2,cx3⟩:=bk4 Kx;go_wp2_with fail
 with_reducible refine(show Calls Tryz.prog 192 _ _ (fun e w'=>e=.returned (.bool true)∧Ext x3 w') from(by have:=zBT n2 b m.length cb x3 HM.out;rw [H3.out] at this;exact this)).mono ?_
 clear cx0 cx1 cx2 cx3;rintro e x4 ⟨rfl,hy⟩;replace hx:=hx.trans hy;replace Kx:=kE Kx hy;clear hy;obtain⟨cx0,cx1,cx2,cx3⟩:=bk4 Kx;go_wp2_with fail
 with_reducible refine(HG.out _ hx).mono ?_
 clear cx0 cx1 cx2 cx3;rintro e x5 ⟨v,rfl,hv,hy⟩;replace hx:=hx.trans hy;replace Kx:=kE Kx hy;clear hy;obtain⟨ng,lg,⟨ag,cg,rfl,hi⟩,hb⟩:=hv;have HI:=dH hi;have HB:=dH hb;clear hi hb;by_cases hq:lg.length=1
 ·obtain⟨d,rfl⟩:=List.length_eq_one_iff.1 hq;have hd:(d == 1)=false:=by
   rw [beq_eq_false_iff_ne];intro e;apply HN.out;have:=HB.out.2.2;subst e;simp [zA1] at this;cases ng <;> simp at this <;> omega
  obtain⟨bb,bo,rfl⟩:=HI.out.head (i:=0) (by simp);clear hq HB;go_upto_region 4 with fail;have hl:=Ext.alloc x5 (.cells #[.bool ng,.slice (some ⟨bb,bo,none⟩) 1 cg] 36);have lxg:w.heap.size<x5.heap.size:=Kx.out.lt;have hpg:w.heap.size≤x5.heap.size:=hx.size;replace hx:=hx.trans hl;replace Kx:=kE Kx hl;replace HI:=dH (HI.out.ext hl);have Kg:=dH (Blk.new0 x5 #[.bool ng,.slice (some ⟨bb,bo,none⟩) 1 cg] 36);clear hl;generalize x5.alloc (.cells #[.bool ng,.slice (some ⟨bb,bo,none⟩) 1 cg] 36)=x6 at *;generalize x5.heap.size=pg at *;have hi0:=(HI.out.cell (i:=0) (by simp)).1;simp only [Nat.add_zero,List.getElem_cons_zero] at hi0;have hcg:1≤cg:=HI.out.le;obtain⟨cx0,cx1,cx2,cx3⟩:=bk4 Kx;obtain⟨cg0,cg1⟩:=bk2 Kg;go_wp2_with fail;go_ret;exact⟨rfl,hx⟩
 ·have hd:((lg.length:Int) == 1)=false:=by simp only [beq_eq_false_iff_ne];omega
  have hd3:(!(lg.length == 1))=true:=by simpa using hq
  have hd5:¬ ((lg.length:Int)=1):=by omega
  have hd4:(!((lg.length:Int) == 1))=true:=by simpa using hd5
  have hd2:(lg.length == 1)=false:=by simp only [beq_eq_false_iff_ne];omega
  have hlg:lg.length≤9223372036854775807:=Nat.le_trans HI.out.le HI.out.mx;go_upto_region 4 with fail;have hl:=Ext.alloc x5 (.cells #[.bool ng,.slice ag lg.length cg] 36);have lxg:w.heap.size<x5.heap.size:=Kx.out.lt;have hpg:w.heap.size≤x5.heap.size:=hx.size;replace hx:=hx.trans hl;replace Kx:=kE Kx hl;replace HI:=dH (HI.out.ext hl);have Kg:=dH (Blk.new0 x5 #[.bool ng,.slice ag lg.length cg] 36);clear hl;generalize x5.alloc (.cells #[.bool ng,.slice ag lg.length cg] 36)=x6 at *;generalize x5.heap.size=pg at *;obtain⟨cx0,cx1,cx2,cx3⟩:=bk4 Kx;obtain⟨cg0,cg1⟩:=bk2 Kg;go_wp2_with fail;go_ret;exact⟨rfl,hx⟩
def zMS (b:Bool):Int:=if b then 0 else 100
theorem zCa (n1 n2:Bool) (a b:Option Addr) (ca cb:Nat) (l m:List Int) (w:World) (h:Ints w a ca l) (k:Ints w b cb m):Calls Tryz.prog 134 #[.agg #[.bool n1,.slice a l.length ca,.bool n2,.slice b m.length cb]] w fun e w'=>e=.returned (.int .i64 (zMS (okR n1 l n2 m)))∧Ext w w':=by
 unfold okR;cases h1:zBI n1 l
 ·exact zFf n1 n2 a b ca cb l m w h k h1
 ·cases h2:zBI n2 m
  ·exact zFg n1 n2 a b ca cb l m w h k h1 h2
  ·cases h3:(!n2 && decide (0<m.length))
   ·have:=zFh n1 n2 a b ca cb l m w h k h1 h2 h3;rw [Bool.true_and,Bool.true_and,h3];exact this
   ·rw [Bool.true_and,Bool.true_and,h3,Bool.true_and];by_cases hg:Int.gcd (sgn n1 (zA1 l)) (sgn n2 (zA1 m))=1
    ·rw [decide_eq_true hg];exact zEc n1 n2 a b ca cb l m w h k h1 h2 h3 hg
    ·rw [decide_eq_false hg];exact zEA n1 n2 a b ca cb l m w h k h1 h2 h3 hg
structure RatA where
 n:Bool
 a:Option Addr
 c:Nat
 l:List Int
 n2:Bool
 b:Option Addr
 d:Nat
 m:List Int
def RatA.ok (x:RatA):Bool:=okR x.n x.l x.n2 x.m
def RatA.val (x:RatA):Value:=.agg #[.bool x.n,.slice x.a x.l.length x.c,.bool x.n2,.slice x.b x.m.length x.d]
structure zM9 (w:World) (g:Nat) (L:List RatA):Prop where
 c0:∀i (h:i<L.length),w.cell? ⟨g,i*4,none⟩=some (.bool L[i].n)
 c1:∀i (h:i<L.length),w.cell? ⟨g,i*4+1,none⟩=some (.slice L[i].a L[i].l.length L[i].c)
 c2:∀i (h:i<L.length),w.cell? ⟨g,i*4+2,none⟩=some (.bool L[i].n2)
 c3:∀i (h:i<L.length),w.cell? ⟨g,i*4+3,none⟩=some (.slice L[i].b L[i].m.length L[i].d)
 i:∀i (h:i<L.length),Ints w L[i].a L[i].c L[i].l
 j:∀i (h:i<L.length),Ints w L[i].b L[i].d L[i].m
theorem zGL {α:Type} {l:List α} {k:Nat} {x:α} (h:l[k]? =some x):l.take (k+1)=l.take k ++ [x]:=by
 rw [List.take_add_one,h];rfl
theorem zEB (g:Nat) (L:List RatA) (w:World) (h:zM9 w g L) (hl:L.length≤100) (hok:∀x∈L,x.ok=true):
 Calls Tryz.prog 92 #[.slice (some ⟨g,0,none⟩) L.length L.length] w fun e w'=>e=.returned (.tuple #[])∧Ext w w':=by
 have HH:=dH h;have HOK:=dH hok;clear h hok;go_enter Tryz.func92,Tryz.ntmps92;go_wp2_with fail
 go_loopw [6] (fun i wr=>∃k:Nat,k≤L.length∧i=.int .i64 k∧Ext w wr) (fun i _=>L.length - (intOf i).toNat)
 case atStart=>exact⟨0,Nat.zero_le _,rfl,Ext.refl _⟩
 case round=>
  obtain⟨k,hk,rfl,hxr⟩:=hrel;by_cases hkn:k<L.length
  ·have e0:=HH.out.c0 k hkn;have e1:=HH.out.c1 k hkn;have e2:=HH.out.c2 k hkn;have e3:=HH.out.c3 k hkn;have hi:=HH.out.i k hkn;have hj:=HH.out.j k hkn;have hok:=HOK.out L[k] (List.getElem_mem hkn);have htk:=dH (zGL (List.getElem?_eq_getElem hkn));generalize L[k]=X at *;obtain⟨n,a,c,l,n2,b,d,m⟩:=X;dsimp only at e0 e1 e2 e3 hi hj;have c0:=(hxr.cell (p:=⟨g,k*4,none⟩) (zAd e0)).trans e0;have c1:=(hxr.cell (p:=⟨g,k*4+1,none⟩) (zAd e1)).trans e1;have c2:=(hxr.cell (p:=⟨g,k*4+2,none⟩) (zAd e2)).trans e2;have c3:=(hxr.cell (p:=⟨g,k*4+3,none⟩) (zAd e3)).trans e3;have hxx:=hxr.alloc' (.cells #[.bool n,.slice a l.length c,.bool n2,.slice b m.length d] 38);have HC:=zCa n n2 a b c d l m _ (hi.ext hxx) (hj.ext hxx);have g1:(0:Int)≤(k:Int):=by omega
   have g2:(k:Int)< (L.length:Int):=by omega
   clear e0 e1 e2 e3 hi hj;have hok:okR n l n2 m=true:=hok;rw [hok] at HC;have HC:=dH (show Calls Tryz.prog 134 _ _ fun e w'=>e=.returned (.int .i64 0)∧Ext _ w' from HC);clear hok;go_wp2_with fail;refine HC.out.mono ?_;rintro e w3 ⟨rfl,hy⟩;go_wp2_with fail;refine(zAV 100 _).mono ?_;rintro e w4 ⟨rfl,hy4⟩;go_wp2_with fail;go_roundw
   case rel=>exact⟨k+1,by omega,by go_num,(hxx.trans hy).trans hy4⟩
   case measure=>simp [intOf];omega
  ·obtain rfl:k=L.length:=by omega
   go_wp2_with fail
   go_end0
   exact⟨rfl,hxr⟩
theorem zJI {x y:Int} (hx:Len x) (hy:Len y):Len ((Int.gcd x y:Nat):Int):=by
 have key:∀n,(digs x.natAbs).length≤n→(digs y.natAbs).length≤n→n≤2048→Len ((Int.gcd x y:Nat):Int):=fun n h1 h2 h3=>zBz (zNI (zIk h1) (zIk h2)) h3;exact key 2048 hx hy (Nat.le_refl _)
theorem zMa {x y:Int} (hy:y≠0):((Int.gcd x y:Nat):Int)≠0:=by
 have:=Int.gcd_pos_of_ne_zero_right x hy;omega
theorem BigV.neg1 {n:Bool} {a:Option Addr} {q c:Nat} {z:Int} {w:World} (h:BigV w (.agg #[.bool n,.slice a q c]) z) (hz:z<0):n=true:=by
 obtain⟨n',l,⟨a',c',e,hi⟩,hb⟩:=h;simp only [Value.agg.injEq,Array.mk.injEq,List.cons.injEq,Value.bool.injEq,Value.slice.injEq,and_true] at e;obtain⟨rfl,_⟩:=e;have h2:=zA2 hb.1.digs;have h3:=hb.2.2;cases n
 ·simp at h3;omega
 ·rfl
theorem BigV.minus {n:Bool} {a:Option Addr} {q c:Nat} {z:Int} {w:World} (h:BigV w (.agg #[.bool n,.slice a q c]) z):BigV w (.agg #[.bool (!n && decide (0<q)),.slice a q c]) (-z):=by
 obtain⟨n',l,⟨a',c',e,hi⟩,hb⟩:=h;simp only [Value.agg.injEq,Array.mk.injEq,List.cons.injEq,Value.bool.injEq,Value.slice.injEq,and_true] at e;obtain⟨rfl,rfl,rfl,rfl⟩:=e;refine⟨_,l,⟨a,c,rfl,hi⟩,?_,fun h=>?_,?_⟩
 ·exact hb.1
 ·rw [Bool.and_eq_true,decide_eq_true_eq] at h;exact List.ne_nil_of_length_pos h.2
 ·have h3:=hb.2.2;by_cases hl:l=[]
  ·subst hl;simp [zA1] at h3 ⊢;omega
  ·have hp:=List.length_pos_iff.2 hl;rw [decide_eq_true hp];cases n <;> simp at h3 ⊢ <;> omega
theorem zEC {z y:Int} (hy:0<y):0≤y / ((Int.gcd z y:Nat):Int):=Int.ediv_nonneg (by omega) (by omega)
theorem zGM {z y:Int} (hy:y<0):y / ((Int.gcd z y:Nat):Int)<0:=by
 have h:=(zG1 (z:=z) hy).2;have:=zBA (Rat.divInt z y);omega
theorem zEd {n1 n2:Bool} {a b:Option Addr} {q c k d:Nat} {z y:Int} {w:World} (hz:BigV w (.agg #[.bool n1,.slice a q c]) z) (hy:BigV w (.agg #[.bool n2,.slice b k d]) y) (lz:Len z) (ly:Len y) (h0:0<y):Calls Tryz.prog 127 #[.agg #[.bool n1,.slice a q c,.bool n2,.slice b k d]] w fun e w'=>∃v,e=.returned v∧RatN w' v (Rat.divInt z y) w.heap.size∧Ext w w':=by
 have Lz:=dH lz;have Ly:=dH ly;have H0:=dH h0;have Lg:=dH (zJI lz ly);have Gn:=dH (zMa (x:=z) (y:=y) (by omega));have Vz:=dH hz;have Vy:=dH hy;clear lz ly h0 hz hy;obtain⟨x1,hw,hx,Kp,Kr⟩:=zGI w #[.bool n1,.slice a q c,.bool n2,.slice b k d] 165 #[.bool false,.slice none 0 0,.bool false,.slice none 0 0] 38;replace hw:=dH hw;have Vz:=dH (Vz.out.ext hx);have Vy:=dH (Vy.out.ext hx);go_enter Tryz.func127,Tryz.ntmps127;go_upto_region 1 with fail
 try simp only [Nat.add_assoc,Nat.reduceAdd,Nat.add_zero]
 rw [hw.out];clear hw;have hs0:=hx.size;obtain⟨cp0,cp1,cp2,cp3⟩:=bk4 Kp;obtain⟨cr0,cr1,cr2,cr3⟩:=bk4 Kr;go_wp2_with fail
 with_reducible refine(zG2 Vz.out Vy.out Lz.out Ly.out).mono ?_
 clear cp0 cp1 cp2 cp3 cr0 cr1 cr2 cr3;rintro e x2 ⟨v,rfl,hv,hy⟩;replace hx:=hx.trans hy;replace Kp:=kE Kp hy;replace Kr:=kE Kr hy;replace Vz:=dH (Vz.out.ext hy);replace Vy:=dH (Vy.out.ext hy);clear hy;obtain⟨ng,ag,qg,cg,rfl⟩:=hv.form;have Vg:=dH hv;clear hv;go_wp2_with fail
 with_reducible refine(zCE _ _ _ _ _).mono ?_
 rintro e x3 ⟨rfl,hy⟩;replace hx:=hx.trans hy;replace Kp:=kE Kp hy;replace Kr:=kE Kr hy;replace Vz:=dH (Vz.out.ext hy);replace Vy:=dH (Vy.out.ext hy);replace Vg:=dH (Vg.out.ext hy);clear hy;go_upto_region 2 with fail;have hl:=Ext.alloc x3 (.cells #[.bool ng,.slice ag qg cg] 36);have lpg:w.heap.size<x3.heap.size:=Kp.out.lt;have lrg:w.heap.size+1<x3.heap.size:=Kr.out.lt;have hpg:w.heap.size≤x3.heap.size:=hx.size;replace hx:=hx.trans hl;replace Kp:=kE Kp hl;replace Kr:=kE Kr hl;replace Vz:=dH (Vz.out.ext hl);replace Vy:=dH (Vy.out.ext hl);replace Vg:=dH (Vg.out.ext hl);have Kg:=dH (Blk.new0 x3 #[.bool ng,.slice ag qg cg] 36);clear hl;generalize x3.alloc (.cells #[.bool ng,.slice ag qg cg] 36)=x4 at *;generalize x3.heap.size=pg at *;obtain⟨cp0,cp1,cp2,cp3⟩:=bk4 Kp;obtain⟨cr0,cr1,cr2,cr3⟩:=bk4 Kr;obtain⟨cg0,cg1⟩:=bk2 Kg;have hsz:=hx.size;go_wp2_with fail
 with_reducible refine(zG3 Vz.out Vg.out Lz.out Lg.out Gn.out).mono ?_
 clear cp0 cp1 cp2 cp3 cr0 cr1 cr2 cr3 cg0 cg1;rintro e x5 ⟨v,u,rfl,hv,hu,hy⟩;replace hx:=hx.trans hy;replace Kp:=kE Kp hy;replace Kr:=kE Kr hy;replace Kg:=kE Kg hy;replace Vz:=dH (Vz.out.ext hy);replace Vy:=dH (Vy.out.ext hy);replace Vg:=dH (Vg.out.ext hy);clear hy;obtain⟨nn,an,qn,cn,rfl,hv',hf'⟩:=hv.two;have Vn:=dH hv';have Fn:=dH (fun A hA=>Nat.le_trans hsz (hf' A hA));clear hv' hf' hsz;obtain⟨ne,ae,qe,ce,rfl⟩:=hu.form;have Ve:=dH hu;clear hu;go_upto_region 3 with fail;have hl:Ext x5 ((x5.alloc (.cells #[.bool nn,.slice an qn cn] 36)).alloc (.cells #[.bool ne,.slice ae qe ce] 36)):=(Ext.alloc _ _).alloc' _;have lpn:w.heap.size<x5.heap.size:=Kp.out.lt;have lrn:w.heap.size+1<x5.heap.size:=Kr.out.lt;have lgn:pg<x5.heap.size:=Kg.out.lt;have hpn:w.heap.size≤x5.heap.size:=hx.size;replace hx:=hx.trans hl;replace Kp:=kE Kp hl;replace Kr:=kE Kr hl;replace Kg:=kE Kg hl;replace Vz:=dH (Vz.out.ext hl);replace Vy:=dH (Vy.out.ext hl);replace Vg:=dH (Vg.out.ext hl);replace Vn:=dH (Vn.out.ext hl);replace Ve:=dH (Ve.out.ext hl);have Kn:=dH ((Blk.new0 x5 #[.bool nn,.slice an qn cn] 36).alloc (.cells #[.bool ne,.slice ae qe ce] 36));have Ke:=dH (Blk.new1 x5 (.cells #[.bool nn,.slice an qn cn] 36) #[.bool ne,.slice ae qe ce] 36);clear hl;generalize (x5.alloc (.cells #[.bool nn,.slice an qn cn] 36)).alloc (.cells #[.bool ne,.slice ae qe ce] 36)=x6 at *;generalize x5.heap.size=pn at *;obtain⟨cp0,cp1,cp2,cp3⟩:=bk4 Kp;obtain⟨cr0,cr1,cr2,cr3⟩:=bk4 Kr;obtain⟨cg0,cg1⟩:=bk2 Kg;obtain⟨cn0,cn1⟩:=bk2 Kn;obtain⟨ce0,ce1⟩:=bk2 Ke;have hsz:=hx.size;go_wp2_with fail
 with_reducible refine(zG3 Vy.out Vg.out Ly.out Lg.out Gn.out).mono ?_
 clear cp0 cp1 cp2 cp3 cr0 cr1 cr2 cr3 cg0 cg1 cn0 cn1 ce0 ce1;rintro e x7 ⟨v,u,rfl,hv,hu,hy⟩;replace hx:=hx.trans hy;replace Kp:=kE Kp hy;replace Kr:=kE Kr hy;replace Kg:=kE Kg hy;replace Kn:=kE Kn hy;replace Ke:=kE Ke hy;replace Vz:=dH (Vz.out.ext hy);replace Vy:=dH (Vy.out.ext hy);replace Vg:=dH (Vg.out.ext hy);replace Vn:=dH (Vn.out.ext hy);replace Ve:=dH (Ve.out.ext hy);clear hy;obtain⟨nd,ad,qd,cd,rfl,hv',hf'⟩:=hv.two;have Vd:=dH hv';have Fd:=dH (fun A hA=>Nat.le_trans hsz (hf' A hA));clear hv' hf' hsz;obtain⟨nf,af,qf,cf,rfl⟩:=hu.form;have Vf:=dH hu;clear hu;go_upto_region 4 with fail;have hl:Ext x7 ((x7.alloc (.cells #[.bool nd,.slice ad qd cd] 36)).alloc (.cells #[.bool nf,.slice af qf cf] 36)):=(Ext.alloc _ _).alloc' _;have lpd:w.heap.size<x7.heap.size:=Kp.out.lt;have lrd:w.heap.size+1<x7.heap.size:=Kr.out.lt;have lgd:pg<x7.heap.size:=Kg.out.lt;have lnd:pn<x7.heap.size:=Kn.out.lt;have led:pn+1<x7.heap.size:=Ke.out.lt;have hpd:w.heap.size≤x7.heap.size:=hx.size;replace hx:=hx.trans hl;replace Kp:=kE Kp hl;replace Kr:=kE Kr hl;replace Kg:=kE Kg hl;replace Kn:=kE Kn hl;replace Ke:=kE Ke hl;replace Vz:=dH (Vz.out.ext hl);replace Vy:=dH (Vy.out.ext hl);replace Vg:=dH (Vg.out.ext hl);replace Vn:=dH (Vn.out.ext hl);replace Ve:=dH (Ve.out.ext hl);replace Vd:=dH (Vd.out.ext hl);replace Vf:=dH (Vf.out.ext hl);have Kd:=dH ((Blk.new0 x7 #[.bool nd,.slice ad qd cd] 36).alloc (.cells #[.bool nf,.slice af qf cf] 36));have Kf:=dH (Blk.new1 x7 (.cells #[.bool nd,.slice ad qd cd] 36) #[.bool nf,.slice af qf cf] 36);clear hl;generalize (x7.alloc (.cells #[.bool nd,.slice ad qd cd] 36)).alloc (.cells #[.bool nf,.slice af qf cf] 36)=x8 at *;generalize x7.heap.size=pd at *;clear Vz Vy Vg Ve Vf;clear Kp Kg Ke Kf;obtain rfl:nd=false:=Vd.out.pos (zEC H0.out);obtain⟨cr0,cr1,cr2,cr3⟩:=bk4 Kr;obtain⟨cn0,cn1⟩:=bk2 Kn;obtain⟨cd0,cd1⟩:=bk2 Kd;go_upto_region 7 with fail;have HR:=dH (show RatV x8 (.agg #[.bool nn,.slice an qn cn,.bool false,.slice ad qd cd]) (Rat.divInt z y) from RatV.mk (by rw [(zEy H0.out).1];exact Vn.out) (by rw [(zEy H0.out).2];exact Vd.out));clear Vn Vd;clear cr0 cr1 cr2 cr3 cn0 cn1 cd0 cd1;obtain⟨cr0,cr1,cr2,cr3⟩:=bk4 Kr;obtain⟨cn0,cn1⟩:=bk2 Kn;obtain⟨cd0,cd1⟩:=bk2 Kd;obtain⟨g0,z0,g1,z1,g2,z2,g3,z3⟩:=bp4 Kr (.bool nn) (.slice an qn cn) (.bool false) (.slice ad qd cd);go_wp2_with fail;clear g0 z0 g1 z1 g2 z2 g3 z3;clear cr0 cr1 cr2 cr3 cn0 cn1 cd0 cd1;replace HR:=(by first | exact rv4 HR Kr (.bool nn) (.slice an qn cn) (.bool false) (.slice ad qd cd) rfl rfl rfl rfl | exact bv4 HR Kr (.bool nn) (.slice an qn cn) (.bool false) (.slice ad qd cd) rfl rfl rfl rfl)
 replace hx:=bx4 hx (w.heap.size+1) (.bool nn) (.slice an qn cn) (.bool false) (.slice ad qd cd) (by omega);replace Kr:=bs4 Kr (.bool nn) (.slice an qn cn) (.bool false) (.slice ad qd cd);replace Kn:=bo4 Kn (w.heap.size+1) (.bool nn) (.slice an qn cn) (.bool false) (.slice ad qd cd) (by omega);replace Kd:=bo4 Kd (w.heap.size+1) (.bool nn) (.slice an qn cn) (.bool false) (.slice ad qd cd) (by omega);generalize ((((x8).setCell ⟨w.heap.size+1,0,none⟩ (.bool nn)).setCell ⟨w.heap.size+1,1,none⟩ (.slice an qn cn)).setCell ⟨w.heap.size+1,2,none⟩ (.bool false)).setCell ⟨w.heap.size+1,3,none⟩ (.slice ad qd cd)=x9 at *;obtain⟨cr0,cr1,cr2,cr3⟩:=bk4 Kr;refine bodyPost_ret (v:=.agg #[.bool nn,.slice an qn cn,.bool false,.slice ad qd cd]) (by simp [results,Tryz.results127,go_sem,cr0,cr1,cr2,cr3]) rfl ?_;exact⟨_,rfl,⟨_,_,_,_,_,_,_,rfl,HR.out,Fn.out,Fd.out⟩,hx⟩
theorem zEe {n1 n2:Bool} {a b:Option Addr} {q c k d:Nat} {z y:Int} {w:World} (hz:BigV w (.agg #[.bool n1,.slice a q c]) z) (hy:BigV w (.agg #[.bool n2,.slice b k d]) y) (lz:Len z) (ly:Len y) (h0:y<0):Calls Tryz.prog 127 #[.agg #[.bool n1,.slice a q c,.bool n2,.slice b k d]] w fun e w'=>∃v,e=.returned v∧RatN w' v (Rat.divInt z y) w.heap.size∧Ext w w':=by
 have Lz:=dH lz;have Ly:=dH ly;have H0:=dH h0;have Lg:=dH (zJI lz ly);have Gn:=dH (zMa (x:=z) (y:=y) (by omega));have Vz:=dH hz;have Vy:=dH hy;clear lz ly h0 hz hy;obtain⟨x1,hw,hx,Kp,Kr⟩:=zGI w #[.bool n1,.slice a q c,.bool n2,.slice b k d] 165 #[.bool false,.slice none 0 0,.bool false,.slice none 0 0] 38;replace hw:=dH hw;have Vz:=dH (Vz.out.ext hx);have Vy:=dH (Vy.out.ext hx);go_enter Tryz.func127,Tryz.ntmps127;go_upto_region 1 with fail
 try simp only [Nat.add_assoc,Nat.reduceAdd,Nat.add_zero]
 rw [hw.out];clear hw;have hs0:=hx.size;obtain⟨cp0,cp1,cp2,cp3⟩:=bk4 Kp;obtain⟨cr0,cr1,cr2,cr3⟩:=bk4 Kr;go_wp2_with fail
 with_reducible refine(zG2 Vz.out Vy.out Lz.out Ly.out).mono ?_
 clear cp0 cp1 cp2 cp3 cr0 cr1 cr2 cr3;rintro e x2 ⟨v,rfl,hv,hy⟩;replace hx:=hx.trans hy;replace Kp:=kE Kp hy;replace Kr:=kE Kr hy;replace Vz:=dH (Vz.out.ext hy);replace Vy:=dH (Vy.out.ext hy);clear hy;obtain⟨ng,ag,qg,cg,rfl⟩:=hv.form;have Vg:=dH hv;clear hv;go_wp2_with fail
 with_reducible refine(zCE _ _ _ _ _).mono ?_
 rintro e x3 ⟨rfl,hy⟩;replace hx:=hx.trans hy;replace Kp:=kE Kp hy;replace Kr:=kE Kr hy;replace Vz:=dH (Vz.out.ext hy);replace Vy:=dH (Vy.out.ext hy);replace Vg:=dH (Vg.out.ext hy);clear hy;go_upto_region 2 with fail;have hl:=Ext.alloc x3 (.cells #[.bool ng,.slice ag qg cg] 36);have lpg:w.heap.size<x3.heap.size:=Kp.out.lt;have lrg:w.heap.size+1<x3.heap.size:=Kr.out.lt;have hpg:w.heap.size≤x3.heap.size:=hx.size;replace hx:=hx.trans hl;replace Kp:=kE Kp hl;replace Kr:=kE Kr hl;replace Vz:=dH (Vz.out.ext hl);replace Vy:=dH (Vy.out.ext hl);replace Vg:=dH (Vg.out.ext hl);have Kg:=dH (Blk.new0 x3 #[.bool ng,.slice ag qg cg] 36);clear hl;generalize x3.alloc (.cells #[.bool ng,.slice ag qg cg] 36)=x4 at *;generalize x3.heap.size=pg at *;obtain⟨cp0,cp1,cp2,cp3⟩:=bk4 Kp;obtain⟨cr0,cr1,cr2,cr3⟩:=bk4 Kr;obtain⟨cg0,cg1⟩:=bk2 Kg;have hsz:=hx.size;go_wp2_with fail
 with_reducible refine(zG3 Vz.out Vg.out Lz.out Lg.out Gn.out).mono ?_
 clear cp0 cp1 cp2 cp3 cr0 cr1 cr2 cr3 cg0 cg1;rintro e x5 ⟨v,u,rfl,hv,hu,hy⟩;replace hx:=hx.trans hy;replace Kp:=kE Kp hy;replace Kr:=kE Kr hy;replace Kg:=kE Kg hy;replace Vz:=dH (Vz.out.ext hy);replace Vy:=dH (Vy.out.ext hy);replace Vg:=dH (Vg.out.ext hy);clear hy;obtain⟨nn,an,qn,cn,rfl,hv',hf'⟩:=hv.two;have Vn:=dH hv';have Fn:=dH (fun A hA=>Nat.le_trans hsz (hf' A hA));clear hv' hf' hsz;obtain⟨ne,ae,qe,ce,rfl⟩:=hu.form;have Ve:=dH hu;clear hu;go_upto_region 3 with fail;have hl:Ext x5 ((x5.alloc (.cells #[.bool nn,.slice an qn cn] 36)).alloc (.cells #[.bool ne,.slice ae qe ce] 36)):=(Ext.alloc _ _).alloc' _;have lpn:w.heap.size<x5.heap.size:=Kp.out.lt;have lrn:w.heap.size+1<x5.heap.size:=Kr.out.lt;have lgn:pg<x5.heap.size:=Kg.out.lt;have hpn:w.heap.size≤x5.heap.size:=hx.size;replace hx:=hx.trans hl;replace Kp:=kE Kp hl;replace Kr:=kE Kr hl;replace Kg:=kE Kg hl;replace Vz:=dH (Vz.out.ext hl);replace Vy:=dH (Vy.out.ext hl);replace Vg:=dH (Vg.out.ext hl);replace Vn:=dH (Vn.out.ext hl);replace Ve:=dH (Ve.out.ext hl);have Kn:=dH ((Blk.new0 x5 #[.bool nn,.slice an qn cn] 36).alloc (.cells #[.bool ne,.slice ae qe ce] 36));have Ke:=dH (Blk.new1 x5 (.cells #[.bool nn,.slice an qn cn] 36) #[.bool ne,.slice ae qe ce] 36);clear hl;generalize (x5.alloc (.cells #[.bool nn,.slice an qn cn] 36)).alloc (.cells #[.bool ne,.slice ae qe ce] 36)=x6 at *;generalize x5.heap.size=pn at *;obtain⟨cp0,cp1,cp2,cp3⟩:=bk4 Kp;obtain⟨cr0,cr1,cr2,cr3⟩:=bk4 Kr;obtain⟨cg0,cg1⟩:=bk2 Kg;obtain⟨cn0,cn1⟩:=bk2 Kn;obtain⟨ce0,ce1⟩:=bk2 Ke;have hsz:=hx.size;go_wp2_with fail
 with_reducible refine(zG3 Vy.out Vg.out Ly.out Lg.out Gn.out).mono ?_
 clear cp0 cp1 cp2 cp3 cr0 cr1 cr2 cr3 cg0 cg1 cn0 cn1 ce0 ce1;rintro e x7 ⟨v,u,rfl,hv,hu,hy⟩;replace hx:=hx.trans hy;replace Kp:=kE Kp hy;replace Kr:=kE Kr hy;replace Kg:=kE Kg hy;replace Kn:=kE Kn hy;replace Ke:=kE Ke hy;replace Vz:=dH (Vz.out.ext hy);replace Vy:=dH (Vy.out.ext hy);replace Vg:=dH (Vg.out.ext hy);replace Vn:=dH (Vn.out.ext hy);replace Ve:=dH (Ve.out.ext hy);clear hy;obtain⟨nd,ad,qd,cd,rfl,hv',hf'⟩:=hv.two;have Vd:=dH hv';have Fd:=dH (fun A hA=>Nat.le_trans hsz (hf' A hA));clear hv' hf' hsz;obtain⟨nf,af,qf,cf,rfl⟩:=hu.form;have Vf:=dH hu;clear hu;go_upto_region 4 with fail;have hl:Ext x7 ((x7.alloc (.cells #[.bool nd,.slice ad qd cd] 36)).alloc (.cells #[.bool nf,.slice af qf cf] 36)):=(Ext.alloc _ _).alloc' _;have lpd:w.heap.size<x7.heap.size:=Kp.out.lt;have lrd:w.heap.size+1<x7.heap.size:=Kr.out.lt;have lgd:pg<x7.heap.size:=Kg.out.lt;have lnd:pn<x7.heap.size:=Kn.out.lt;have led:pn+1<x7.heap.size:=Ke.out.lt;have hpd:w.heap.size≤x7.heap.size:=hx.size;replace hx:=hx.trans hl;replace Kp:=kE Kp hl;replace Kr:=kE Kr hl;replace Kg:=kE Kg hl;replace Kn:=kE Kn hl;replace Ke:=kE Ke hl;replace Vz:=dH (Vz.out.ext hl);replace Vy:=dH (Vy.out.ext hl);replace Vg:=dH (Vg.out.ext hl);replace Vn:=dH (Vn.out.ext hl);replace Ve:=dH (Ve.out.ext hl);replace Vd:=dH (Vd.out.ext hl);replace Vf:=dH (Vf.out.ext hl);have Kd:=dH ((Blk.new0 x7 #[.bool nd,.slice ad qd cd] 36).alloc (.cells #[.bool nf,.slice af qf cf] 36));have Kf:=dH (Blk.new1 x7 (.cells #[.bool nd,.slice ad qd cd] 36) #[.bool nf,.slice af qf cf] 36);clear hl;generalize (x7.alloc (.cells #[.bool nd,.slice ad qd cd] 36)).alloc (.cells #[.bool nf,.slice af qf cf] 36)=x8 at *;generalize x7.heap.size=pd at *;clear Vz Vy Vg Ve Vf;clear Kp Kg Ke Kf;obtain rfl:nd=true:=Vd.out.neg1 (zGM H0.out);have HR:=dH (show RatV x8 (.agg #[.bool (!nn && decide (0<qn)),.slice an qn cn,.bool false,.slice ad qd cd]) (Rat.divInt z y) from RatV.mk (by rw [(zG1 H0.out).1];exact Vn.out.minus) (by have h:=Vd.out.minus;rw [(zG1 H0.out).2];simpa using h));have HQ:=dH Vn.out.le;clear Vn Vd;obtain⟨cr0,cr1,cr2,cr3⟩:=bk4 Kr;obtain⟨cn0,cn1⟩:=bk2 Kn;obtain⟨cd0,cd1⟩:=bk2 Kd;go_upto_region 5 with fail;have g0:=(Kd.out).cell (i:=0) (v:=.bool true) rfl;have z0:=(Kd.out).free 0;go_upto_region 6 with fail;clear g0 z0;clear cr0 cr1 cr2 cr3 cn0 cn1 cd0 cd1;replace HR:=dH (HR.out.put Kd.out (zAc rfl) 0 (.bool false));replace hx:=hx.set (p:=⟨pd,0,none⟩) (by dsimp only;omega) (.bool false);replace Kr:=dH (Kr.out.other (p:=⟨pd,0,none⟩) (by dsimp only;omega) (.bool false));replace Kn:=dH (Kn.out.other (p:=⟨pd,0,none⟩) (by dsimp only;omega) (.bool false));replace Kd:=dH (Kd.out.set 0 (.bool false));replace Kd:=dH (show Blk _ _ #[.bool false,.slice ad qd cd] 36 from Kd.out);generalize (x8).setCell ⟨pd,0,none⟩ (.bool false)=x9 at *;by_cases hn:(!nn && decide (0<qn))=true
 ·rw [hn] at HR;rw [Bool.and_eq_true,Bool.not_eq_true',decide_eq_true_eq] at hn;obtain⟨rfl,hn⟩:=hn;have t1:decide ((0:Int)< (qn:Int))=true:=by simp;omega
  have hqn:=HQ.out;obtain⟨cr0,cr1,cr2,cr3⟩:=bk4 Kr;obtain⟨cn0,cn1⟩:=bk2 Kn;obtain⟨cd0,cd1⟩:=bk2 Kd;have g0:=(Kn.out).cell (i:=0) (v:=.bool false) rfl;have z0:=(Kn.out).free 0;go_upto_region 7 with fail;clear g0 z0;clear cr0 cr1 cr2 cr3 cn0 cn1 cd0 cd1;replace HR:=dH (HR.out.put Kn.out (zAc rfl) 0 (.bool true));replace hx:=hx.set (p:=⟨pn,0,none⟩) (by dsimp only;omega) (.bool true);replace Kr:=dH (Kr.out.other (p:=⟨pn,0,none⟩) (by dsimp only;omega) (.bool true));replace Kn:=dH (Kn.out.set 0 (.bool true));replace Kd:=dH (Kd.out.other (p:=⟨pn,0,none⟩) (by dsimp only;omega) (.bool true));replace Kn:=dH (show Blk _ _ #[.bool true,.slice an qn cn] 36 from Kn.out);generalize (x9).setCell ⟨pn,0,none⟩ (.bool true)=x10 at *;obtain⟨cr0,cr1,cr2,cr3⟩:=bk4 Kr;obtain⟨cn0,cn1⟩:=bk2 Kn;obtain⟨cd0,cd1⟩:=bk2 Kd;obtain⟨g0,z0,g1,z1,g2,z2,g3,z3⟩:=bp4 Kr (.bool true) (.slice an qn cn) (.bool false) (.slice ad qd cd);go_wp2_with fail;clear g0 z0 g1 z1 g2 z2 g3 z3;clear cr0 cr1 cr2 cr3 cn0 cn1 cd0 cd1;replace HR:=(by first | exact rv4 HR Kr (.bool true) (.slice an qn cn) (.bool false) (.slice ad qd cd) rfl rfl rfl rfl | exact bv4 HR Kr (.bool true) (.slice an qn cn) (.bool false) (.slice ad qd cd) rfl rfl rfl rfl)
  replace hx:=bx4 hx (w.heap.size+1) (.bool true) (.slice an qn cn) (.bool false) (.slice ad qd cd) (by omega);replace Kr:=bs4 Kr (.bool true) (.slice an qn cn) (.bool false) (.slice ad qd cd);replace Kn:=bo4 Kn (w.heap.size+1) (.bool true) (.slice an qn cn) (.bool false) (.slice ad qd cd) (by omega);replace Kd:=bo4 Kd (w.heap.size+1) (.bool true) (.slice an qn cn) (.bool false) (.slice ad qd cd) (by omega);generalize ((((x10).setCell ⟨w.heap.size+1,0,none⟩ (.bool true)).setCell ⟨w.heap.size+1,1,none⟩ (.slice an qn cn)).setCell ⟨w.heap.size+1,2,none⟩ (.bool false)).setCell ⟨w.heap.size+1,3,none⟩ (.slice ad qd cd)=x11 at *;obtain⟨cr0,cr1,cr2,cr3⟩:=bk4 Kr;refine bodyPost_ret (v:=.agg #[.bool true,.slice an qn cn,.bool false,.slice ad qd cd]) (by simp [results,Tryz.results127,go_sem,cr0,cr1,cr2,cr3]) rfl ?_;exact⟨_,rfl,⟨_,_,_,_,_,_,_,rfl,HR.out,Fn.out,Fd.out⟩,hx⟩
 rw [Bool.not_eq_true] at hn;rw [hn] at HR;cases nn
 ·obtain rfl:qn=0:=by simpa using hn
  obtain⟨cr0,cr1,cr2,cr3⟩:=bk4 Kr;obtain⟨cn0,cn1⟩:=bk2 Kn;obtain⟨cd0,cd1⟩:=bk2 Kd;have g0:=(Kn.out).cell (i:=0) (v:=.bool false) rfl;have z0:=(Kn.out).free 0;go_upto_region 7 with fail;clear g0 z0;clear cr0 cr1 cr2 cr3 cn0 cn1 cd0 cd1;replace HR:=dH (HR.out.put Kn.out (zAc rfl) 0 (.bool false));replace hx:=hx.set (p:=⟨pn,0,none⟩) (by dsimp only;omega) (.bool false);replace Kr:=dH (Kr.out.other (p:=⟨pn,0,none⟩) (by dsimp only;omega) (.bool false));replace Kn:=dH (Kn.out.set 0 (.bool false));replace Kd:=dH (Kd.out.other (p:=⟨pn,0,none⟩) (by dsimp only;omega) (.bool false));replace Kn:=dH (show Blk _ _ #[.bool false,.slice an 0 cn] 36 from Kn.out);generalize (x9).setCell ⟨pn,0,none⟩ (.bool false)=x10 at *;obtain⟨cr0,cr1,cr2,cr3⟩:=bk4 Kr;obtain⟨cn0,cn1⟩:=bk2 Kn;obtain⟨cd0,cd1⟩:=bk2 Kd;obtain⟨g0,z0,g1,z1,g2,z2,g3,z3⟩:=bp4 Kr (.bool false) (.slice an 0 cn) (.bool false) (.slice ad qd cd);go_wp2_with fail;clear g0 z0 g1 z1 g2 z2 g3 z3;clear cr0 cr1 cr2 cr3 cn0 cn1 cd0 cd1;replace HR:=(by first | exact rv4 HR Kr (.bool false) (.slice an 0 cn) (.bool false) (.slice ad qd cd) rfl rfl rfl rfl | exact bv4 HR Kr (.bool false) (.slice an 0 cn) (.bool false) (.slice ad qd cd) rfl rfl rfl rfl)
  replace hx:=bx4 hx (w.heap.size+1) (.bool false) (.slice an 0 cn) (.bool false) (.slice ad qd cd) (by omega);replace Kr:=bs4 Kr (.bool false) (.slice an 0 cn) (.bool false) (.slice ad qd cd);replace Kn:=bo4 Kn (w.heap.size+1) (.bool false) (.slice an 0 cn) (.bool false) (.slice ad qd cd) (by omega);replace Kd:=bo4 Kd (w.heap.size+1) (.bool false) (.slice an 0 cn) (.bool false) (.slice ad qd cd) (by omega);generalize ((((x10).setCell ⟨w.heap.size+1,0,none⟩ (.bool false)).setCell ⟨w.heap.size+1,1,none⟩ (.slice an 0 cn)).setCell ⟨w.heap.size+1,2,none⟩ (.bool false)).setCell ⟨w.heap.size+1,3,none⟩ (.slice ad qd cd)=x11 at *;obtain⟨cr0,cr1,cr2,cr3⟩:=bk4 Kr;refine bodyPost_ret (v:=.agg #[.bool false,.slice an 0 cn,.bool false,.slice ad qd cd]) (by simp [results,Tryz.results127,go_sem,cr0,cr1,cr2,cr3]) rfl ?_;exact⟨_,rfl,⟨_,_,_,_,_,_,_,rfl,HR.out,Fn.out,Fd.out⟩,hx⟩
 ·have hqn:=HQ.out;obtain⟨cr0,cr1,cr2,cr3⟩:=bk4 Kr;obtain⟨cn0,cn1⟩:=bk2 Kn;obtain⟨cd0,cd1⟩:=bk2 Kd;have g0:=(Kn.out).cell (i:=0) (v:=.bool true) rfl;have z0:=(Kn.out).free 0;go_upto_region 7 with fail;clear g0 z0;clear cr0 cr1 cr2 cr3 cn0 cn1 cd0 cd1;replace HR:=dH (HR.out.put Kn.out (zAc rfl) 0 (.bool false));replace hx:=hx.set (p:=⟨pn,0,none⟩) (by dsimp only;omega) (.bool false);replace Kr:=dH (Kr.out.other (p:=⟨pn,0,none⟩) (by dsimp only;omega) (.bool false));replace Kn:=dH (Kn.out.set 0 (.bool false));replace Kd:=dH (Kd.out.other (p:=⟨pn,0,none⟩) (by dsimp only;omega) (.bool false));replace Kn:=dH (show Blk _ _ #[.bool false,.slice an qn cn] 36 from Kn.out);generalize (x9).setCell ⟨pn,0,none⟩ (.bool false)=x10 at *;obtain⟨cr0,cr1,cr2,cr3⟩:=bk4 Kr;obtain⟨cn0,cn1⟩:=bk2 Kn;obtain⟨cd0,cd1⟩:=bk2 Kd;obtain⟨g0,z0,g1,z1,g2,z2,g3,z3⟩:=bp4 Kr (.bool false) (.slice an qn cn) (.bool false) (.slice ad qd cd);go_wp2_with fail;clear g0 z0 g1 z1 g2 z2 g3 z3;clear cr0 cr1 cr2 cr3 cn0 cn1 cd0 cd1;replace HR:=(by first | exact rv4 HR Kr (.bool false) (.slice an qn cn) (.bool false) (.slice ad qd cd) rfl rfl rfl rfl | exact bv4 HR Kr (.bool false) (.slice an qn cn) (.bool false) (.slice ad qd cd) rfl rfl rfl rfl)
  replace hx:=bx4 hx (w.heap.size+1) (.bool false) (.slice an qn cn) (.bool false) (.slice ad qd cd) (by omega);replace Kr:=bs4 Kr (.bool false) (.slice an qn cn) (.bool false) (.slice ad qd cd);replace Kn:=bo4 Kn (w.heap.size+1) (.bool false) (.slice an qn cn) (.bool false) (.slice ad qd cd) (by omega);replace Kd:=bo4 Kd (w.heap.size+1) (.bool false) (.slice an qn cn) (.bool false) (.slice ad qd cd) (by omega);generalize ((((x10).setCell ⟨w.heap.size+1,0,none⟩ (.bool false)).setCell ⟨w.heap.size+1,1,none⟩ (.slice an qn cn)).setCell ⟨w.heap.size+1,2,none⟩ (.bool false)).setCell ⟨w.heap.size+1,3,none⟩ (.slice ad qd cd)=x11 at *;obtain⟨cr0,cr1,cr2,cr3⟩:=bk4 Kr;refine bodyPost_ret (v:=.agg #[.bool false,.slice an qn cn,.bool false,.slice ad qd cd]) (by simp [results,Tryz.results127,go_sem,cr0,cr1,cr2,cr3]) rfl ?_;exact⟨_,rfl,⟨_,_,_,_,_,_,_,rfl,HR.out,Fn.out,Fd.out⟩,hx⟩
theorem zBP {n1 n2:Bool} {a b:Option Addr} {q c k d:Nat} {z y:Int} {w:World} (hz:BigV w (.agg #[.bool n1,.slice a q c]) z) (hy:BigV w (.agg #[.bool n2,.slice b k d]) y) (lz:Len z) (ly:Len y) (h0:y≠0):Calls Tryz.prog 127 #[.agg #[.bool n1,.slice a q c,.bool n2,.slice b k d]] w fun e w'=>∃v,e=.returned v∧RatN w' v (Rat.divInt z y) w.heap.size∧Ext w w':=by
 rcases Int.lt_or_gt_of_ne h0 with h | h
 ·exact zEe hz hy lz ly h
 ·exact zEd hz hy lz ly h
def zHJ (r:Rat) (w:World) (e:Ending) (w':World):Prop:=∃v,e=.returned (.tuple #[v,.int .i64 0])∧RatN w' v r w.heap.size∧Ext w w'
abbrev zJJ:Value:=.agg #[.bool false,.slice none 0 0,.bool false,.slice none 0 0]
def RatE (E:Int) (w:World) (e:Ending) (w':World):Prop:=e=.returned (.tuple #[zJJ,.int .i64 E])∧Ext w w'
theorem zHK (n1 n2:Bool) (a b:Option Addr) (ca cb:Nat) (l m:List Int) (w:World) (h:Ints w a ca l) (k:Ints w b cb m) (h1:zBI n1 l=true) (h2:zBI n2 m=true) (h3:0<m.length):Calls Tryz.prog 155 #[.agg #[.bool n1,.slice a l.length ca],.agg #[.bool n2,.slice b m.length cb]] w (zHJ (Rat.divInt (sgn n1 (zA1 l)) (sgn n2 (zA1 m))) w):=by
 have H1:=dH (fun W (hy:Ext w W)=>zAw n1 a ca l W (h.ext hy));have H2:=dH (fun W (hy:Ext w W)=>zAw n2 b cb m W (k.ext hy));rw [h1] at H1;rw [h2] at H2;have b1:=zAu h1;have b2:=zAu h2;have Vz:BigV w (.agg #[.bool n1,.slice a l.length ca]) (sgn n1 (zA1 l)):=⟨n1,l,⟨a,ca,rfl,h⟩,b1.1⟩
 have Vy:BigV w (.agg #[.bool n2,.slice b m.length cb]) (sgn n2 (zA1 m)):=⟨n2,m,⟨b,cb,rfl,k⟩,b2.1⟩
 have Lz:Len (sgn n1 (zA1 l)):=by have:=b1.2;rw [b1.1.digs] at this;exact this
 have Ly:Len (sgn n2 (zA1 m)):=by have:=b2.2;rw [b2.1.digs] at this;exact this
 have hne:sgn n2 (zA1 m)≠0:=by
  have:=zAL b2.1.1 (List.ne_nil_of_length_pos h3);unfold sgn;split <;> omega
 have HL:=dH (fun W (hy:Ext w W)=>zBP (Vz.ext hy) (Vy.ext hy) Lz Ly hne);have t1:decide ((0:Int)< (m.length:Int))=true:=by simp;omega
 have HK:=dH (Nat.le_trans k.le k.mx);generalize Rat.divInt (sgn n1 (zA1 l)) (sgn n2 (zA1 m))=r at *;clear Vz Vy Lz Ly hne b1 b2 h k h1 h2;obtain⟨x1,hw,hx,Kn,Kd,Kr,Ke⟩:=zHI w #[.bool n1,.slice a l.length ca] 36 #[.bool n2,.slice b m.length cb] 36 #[.bool false,.slice none 0 0,.bool false,.slice none 0 0] 38 #[.int .i64 0] 29;replace hw:=dH hw
 go_enter_defers Tryz.func155,Tryz.ntmps155
 go_upto_region 1 with fail
 try simp only [Nat.add_assoc,Nat.reduceAdd,Nat.add_zero]
 rw [hw.out];clear hw;have hs0:=hx.size;obtain⟨cn0,cn1⟩:=bk2 Kn;obtain⟨cd0,cd1⟩:=bk2 Kd;obtain⟨cr0,cr1,cr2,cr3⟩:=bk4 Kr;have ce0:=bk1 Ke;go_wp2_with fail
 with_reducible refine(show Calls Tryz.prog 191 _ _ (fun e w'=>e=.returned (.int .i64 0)∧Ext x1 w') from H1.out _ hx).mono ?_
 clear cn0 cn1 cd0 cd1 cr0 cr1 cr2 cr3 ce0;rintro e x2 ⟨rfl,hy⟩;replace hx:=hx.trans hy;replace Kn:=kE Kn hy;replace Kd:=kE Kd hy;replace Kr:=kE Kr hy;replace Ke:=kE Ke hy;clear hy;obtain⟨cn0,cn1⟩:=bk2 Kn;obtain⟨cd0,cd1⟩:=bk2 Kd;obtain⟨cr0,cr1,cr2,cr3⟩:=bk4 Kr;have ce0:=bk1 Ke;go_wp2_with fail
 with_reducible refine(show Calls Tryz.prog 191 _ _ (fun e w'=>e=.returned (.int .i64 0)∧Ext x2 w') from H2.out _ hx).mono ?_
 clear cn0 cn1 cd0 cd1 cr0 cr1 cr2 cr3 ce0;rintro e x3 ⟨rfl,hy⟩;replace hx:=hx.trans hy;replace Kn:=kE Kn hy;replace Kd:=kE Kd hy;replace Kr:=kE Kr hy;replace Ke:=kE Ke hy;clear hy;obtain⟨cn0,cn1⟩:=bk2 Kn;obtain⟨cd0,cd1⟩:=bk2 Kd;obtain⟨cr0,cr1,cr2,cr3⟩:=bk4 Kr;have ce0:=bk1 Ke;go_wp2_with fail
 with_reducible refine(zAV 90 _).mono ?_
 clear cn0 cn1 cd0 cd1 cr0 cr1 cr2 cr3 ce0;rintro e x4 ⟨rfl,hy⟩;replace hx:=hx.trans hy;replace Kn:=kE Kn hy;replace Kd:=kE Kd hy;replace Kr:=kE Kr hy;replace Ke:=kE Ke hy;clear hy;have hK:=HK.out;obtain⟨cn0,cn1⟩:=bk2 Kn;obtain⟨cd0,cd1⟩:=bk2 Kd;obtain⟨cr0,cr1,cr2,cr3⟩:=bk4 Kr;have ce0:=bk1 Ke;go_wp2_with fail
 with_reducible refine(zAV 1 _).mono ?_
 clear cn0 cn1 cd0 cd1 cr0 cr1 cr2 cr3 ce0;rintro e x5 ⟨rfl,hy⟩;replace hx:=hx.trans hy;replace Kn:=kE Kn hy;replace Kd:=kE Kd hy;replace Kr:=kE Kr hy;replace Ke:=kE Ke hy;clear hy;have hsz:=hx.size;obtain⟨cn0,cn1⟩:=bk2 Kn;obtain⟨cd0,cd1⟩:=bk2 Kd;obtain⟨cr0,cr1,cr2,cr3⟩:=bk4 Kr;have ce0:=bk1 Ke;go_wp2_with fail
 with_reducible refine(HL.out _ hx).mono ?_
 clear cn0 cn1 cd0 cd1 cr0 cr1 cr2 cr3 ce0;rintro e x6 ⟨v,rfl,hv,hy⟩;replace hx:=hx.trans hy;replace Kn:=kE Kn hy;replace Kd:=kE Kd hy;replace Kr:=kE Kr hy;replace Ke:=kE Ke hy;clear hy;obtain⟨nv,av,qv,cv,bv,kv,dv,rfl,hv',hf',hg'⟩:=hv;have Vv:=dH hv';have Fv:=dH (fun A hA=>Nat.le_trans hsz (hf' A hA));have Gv:=dH (fun A hA=>Nat.le_trans hsz (hg' A hA));clear hv' hf' hg' hsz;obtain⟨cn0,cn1⟩:=bk2 Kn;obtain⟨cd0,cd1⟩:=bk2 Kd;obtain⟨cr0,cr1,cr2,cr3⟩:=bk4 Kr;have ce0:=bk1 Ke;obtain⟨g0,z0,g1,z1,g2,z2,g3,z3⟩:=bp4 Kr (.bool nv) (.slice av qv cv) (.bool false) (.slice bv kv dv);obtain⟨g4,z4⟩:=bp1 (bo4 Ke (w.heap.size+2) (.bool nv) (.slice av qv cv) (.bool false) (.slice bv kv dv) (by omega)) (.int .i64 0);go_wp2_with fail;clear g0 z0 g1 z1 g2 z2 g3 z3 g4 z4;clear cn0 cn1 cd0 cd1 cr0 cr1 cr2 cr3 ce0;replace Vv:=(by first | exact rv4 Vv Kr (.bool nv) (.slice av qv cv) (.bool false) (.slice bv kv dv) rfl rfl rfl rfl | exact bv4 Vv Kr (.bool nv) (.slice av qv cv) (.bool false) (.slice bv kv dv) rfl rfl rfl rfl)
 replace hx:=bx4 hx (w.heap.size+2) (.bool nv) (.slice av qv cv) (.bool false) (.slice bv kv dv) (by omega);replace Kn:=bo4 Kn (w.heap.size+2) (.bool nv) (.slice av qv cv) (.bool false) (.slice bv kv dv) (by omega);replace Kd:=bo4 Kd (w.heap.size+2) (.bool nv) (.slice av qv cv) (.bool false) (.slice bv kv dv) (by omega);replace Kr:=bs4 Kr (.bool nv) (.slice av qv cv) (.bool false) (.slice bv kv dv);replace Ke:=bo4 Ke (w.heap.size+2) (.bool nv) (.slice av qv cv) (.bool false) (.slice bv kv dv) (by omega);replace Vv:=(by first | exact rv1 Vv Ke (.int .i64 0) rfl | exact bv1 Vv Ke (.int .i64 0) rfl)
 replace hx:=bx1 hx (w.heap.size+3) (.int .i64 0) (by omega);replace Kn:=bo1 Kn (w.heap.size+3) (.int .i64 0) (by omega);replace Kd:=bo1 Kd (w.heap.size+3) (.int .i64 0) (by omega);replace Kr:=bo1 Kr (w.heap.size+3) (.int .i64 0) (by omega);replace Ke:=bs1 Ke (.int .i64 0);generalize (((((x6).setCell ⟨w.heap.size+2,0,none⟩ (.bool nv)).setCell ⟨w.heap.size+2,1,none⟩ (.slice av qv cv)).setCell ⟨w.heap.size+2,2,none⟩ (.bool false)).setCell ⟨w.heap.size+2,3,none⟩ (.slice bv kv dv)).setCell ⟨w.heap.size+3,0,none⟩ (.int .i64 0)=x7 at *;obtain⟨cr0,cr1,cr2,cr3⟩:=bk4 Kr;have ce0:=bk1 Ke;refine leaves_cons (f:=91) (args:=#[.pointer (some ⟨w.heap.size+3,0,none⟩)]) (by simp) (by simp [go_sem]) ?_;refine(zAo ⟨w.heap.size+3,0,none⟩ _).mono ?_;rintro e u' w'' ⟨rfl,rfl,rfl⟩;simp [Leaves,settle,results,Tryz.results155,go_sem,cr0,cr1,cr2,cr3,ce0];exact⟨_,rfl,⟨_,_,_,_,_,_,_,rfl,Vv.out,Fv.out,Gv.out⟩,hx⟩
end Go.Proofs.YtonkhcdmchidjaaGreat
