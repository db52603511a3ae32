import Derived.Test.YtonkhcdmchidjaaGreatNC
set_option maxHeartbeats 2000000
namespace Go.Proofs.YtonkhcdmchidjaaGreat
open Go.RowKit Go BigFrame Go.Shelf
set_option maxRecDepth 100000
set_option linter.all false
theorem zNE {neg:Bool} {l:List Int} {z:Int} (h:Big neg l z) (hl:l.length≤2048):zBI neg l=true:=zHB.2 ⟨hl,h.2.1,h.1⟩
theorem zAu {neg:Bool} {l:List Int} (h:zBI neg l=true):Big neg l (sgn neg (zA1 l))∧l.length≤2048:=by
 obtain⟨h1,h2,h3⟩:=zHB.1 h;exact⟨⟨h3,h2,rfl⟩,h1⟩
theorem zMB {n1 n2:Bool} {x y:Int} (hx:0≤x) (hy:0≤y) (h1:n1=true→0<x) (h2:n2=true→0<y):
 (n1=true→n2=true→zBS y x=zBS (sgn n1 x) (sgn n2 y))∧(n1=true→n2=false→zBS (sgn n1 x) (sgn n2 y)= -1)∧(n1=false→n2=true→zBS (sgn n1 x) (sgn n2 y)=1)∧(n1=false→n2=false→zBS x y=zBS (sgn n1 x) (sgn n2 y)):=by
 refine⟨fun a b=>?_,fun a b=>?_,fun a b=>?_,fun a b=>?_⟩ <;> subst a <;> subst b <;> simp only [sgn,if_true,Bool.false_eq_true,if_false]
 ·unfold zBS;split <;> split <;> (try split) <;> (try split) <;> omega
 ·exact zDK (by have:=h1 rfl;omega)
 ·exact zHz (by have:=h2 rfl;omega)
theorem zIQ (n1 n2:Bool) (a b:Option Addr) (ca cb:Nat) (l m:List Int) (w:World) (h:Ints w a ca l) (k:Ints w b cb m) (h1:zBI n1 l=true) (h2:zBI n2 m=true):
 Calls Tryz.prog 95 #[.agg #[.bool n1,.slice a l.length ca],.agg #[.bool n2,.slice b m.length cb]] w fun e w'=>e=.returned (.tuple #[.int .i64 (zBS (sgn n1 (zA1 l)) (sgn n2 (zA1 m))),.int .i64 0])∧Ext w w':=by
 obtain⟨w3,hw3⟩:∃w3,(((w.alloc (.cells #[.bool n1,.slice a l.length ca] 36)).alloc (.cells #[.bool n2,.slice b m.length cb] 36)).alloc (.cells #[.int .i64 0] 29))=w3:=⟨_,rfl⟩
 have B1:=((Blk.new0 w #[.bool n1,.slice a l.length ca] 36).alloc (.cells #[.bool n2,.slice b m.length cb] 36)).alloc (.cells #[.int .i64 0] 29);have B2:=(Blk.new1 w (.cells #[.bool n1,.slice a l.length ca] 36) #[.bool n2,.slice b m.length cb] 36).alloc (.cells #[.int .i64 0] 29);have B3:=Blk.new2 w (.cells #[.bool n1,.slice a l.length ca] 36) (.cells #[.bool n2,.slice b m.length cb] 36) #[.int .i64 0] 29;have hx:Ext w w3:=by rw [←hw3];exact(by repeat (first | with_reducible exact Ext.refl _ | with_reducible assumption | with_reducible refine Ext.drewN ?_ _ | with_reducible refine Ext.drew ?_ | with_reducible refine Ext.alloc' ?_ _ | with_reducible refine Ext.set ?_ (by dsimp only;omega) _))
 have hs3:w3.heap.size=w.heap.size+3:=by rw [←hw3];simp
 rw [hw3] at B1 B2 B3;have hx4:=hx.alloc' (.cells #[.bool n1,.slice a l.length ca,.bool n2,.slice b m.length cb] 36);have HC:=dH (zAN w3.heap.size n1 n2 a b ca cb l m _ (h.ext hx4) (k.ext hx4) (Blk.new0 w3 _ _) h1 h2);have c0:=B1.cell (i:=0) (v:=.bool n1) rfl;have c1:=B1.cell (i:=1) (v:=.slice a l.length ca) rfl;have c2:=B2.cell (i:=0) (v:=.bool n2) rfl;have c3:=B2.cell (i:=1) (v:=.slice b m.length cb) rfl;have H3:=dH (B3.alloc (.cells #[.bool n1,.slice a l.length ca,.bool n2,.slice b m.length cb] 36));have HW:=dH hw3;obtain⟨z1,y1⟩:=zAu h1;obtain⟨z2,y2⟩:=zAu h2;have hcs:=zMB (n1:=n1) (n2:=n2) (zA2 z1.1.digs) (zA2 z2.1.digs) (fun e=>zAL z1.1 (z1.2.1 e)) (fun e=>zAL z2.1 (z2.2.1 e));have HCM:=dH (fun W (hy:Ext w W)=>zAY a b ca cb l m W (h.ext hy) (k.ext hy) z1.1 z2.1);have HCM2:=dH (fun W (hy:Ext w W)=>zAY b a cb ca m l W (k.ext hy) (h.ext hy) z2.1 z1.1);have H1:=dH (B1.alloc (.cells #[.bool n1,.slice a l.length ca,.bool n2,.slice b m.length cb] 36));have H2:=dH (B2.alloc (.cells #[.bool n1,.slice a l.length ca,.bool n2,.slice b m.length cb] 36));obtain⟨q1,q2,q3,q4⟩:=hcs;generalize zBS (sgn n1 (zA1 l)) (sgn n2 (zA1 m))=R at *;clear z1 z2 y1 y2 h1 h2 h k B1 B2 B3 hw3
 go_enter_defers Tryz.func95,Tryz.ntmps95
 go_upto_region 1 with fail;rw [HW.out];simp only [Nat.add_assoc,Nat.reduceAdd];go_wp2_with fail;rw [hs3] at HC;refine HC.out.mono ?_;rintro e w5 ⟨rfl,hy⟩;have H5:=dH (H3.out.ext hy);have hx5:=hx4.trans hy;have c0:=(H1.out.ext hy).cell (i:=0) (v:=.bool n1) rfl;have c1:=(H1.out.ext hy).cell (i:=1) (v:=.slice a l.length ca) rfl;have c2:=(H2.out.ext hy).cell (i:=0) (v:=.bool n2) rfl;have c3:=(H2.out.ext hy).cell (i:=1) (v:=.slice b m.length cb) rfl;have c4:=H5.out.cell (i:=0) (v:=.int .i64 0) rfl;have f4:=H5.out.free 0;have HM1:=dH (HCM.out w5 hx5);have HM2:=dH (HCM2.out w5 hx5);clear H1 H2 H3 HC HCM HCM2 HW hx4 hx
 cases n1 with
 | true=>
  cases n2 with
  | true=>
   have q1:=q1 rfl rfl;rw [q1] at HM2;clear q1 q2 q3 q4 HM1;go_wp2_with fail;refine HM2.out.mono ?_;rintro e w6 ⟨rfl,hy6⟩;have H6:=dH (H5.out.ext hy6);have hx6:=hx5.trans hy6;have c6:=H6.out.cell (i:=0) (v:=.int .i64 0) rfl;have f6:=H6.out.free 0;clear c0 c1 c2 c3 c4 f4;go_wp2_with fail;refine leaves_cons (f:=146) (args:=#[.pointer (some ⟨w.heap.size+2,0,none⟩)]) (by simp) (by simp [go_sem]) ?_;refine(zAj ⟨w.heap.size+2,0,none⟩ _).mono ?_;rintro e u' w'' ⟨rfl,rfl,rfl⟩;have c0:=(H6.out.set 0 (.int .i64 0)).cell (i:=0) (v:=.int .i64 0) rfl;simp [Leaves,settle,results,Tryz.results95,go_sem,c0];exact hx6.set (p:=⟨w.heap.size+2,0,none⟩) (by dsimp only;omega) _
  | false=>
   have q2:=q2 rfl rfl;subst q2;clear q1 q3 q4 HM1 HM2;have H6:=H5;have hx6:=hx5;have c6:=H6.out.cell (i:=0) (v:=.int .i64 0) rfl;have f6:=H6.out.free 0;go_wp2_with fail;refine leaves_cons (f:=146) (args:=#[.pointer (some ⟨w.heap.size+2,0,none⟩)]) (by simp) (by simp [go_sem]) ?_;refine(zAj ⟨w.heap.size+2,0,none⟩ _).mono ?_;rintro e u' w'' ⟨rfl,rfl,rfl⟩;have c0:=(H6.out.set 0 (.int .i64 0)).cell (i:=0) (v:=.int .i64 0) rfl;simp [Leaves,settle,results,Tryz.results95,go_sem,c0];exact hx6.set (p:=⟨w.heap.size+2,0,none⟩) (by dsimp only;omega) _
 | false=>
  cases n2 with
  | true=>
   have q3:=q3 rfl rfl;subst q3;clear q1 q2 q4 HM1 HM2;have H6:=H5;have hx6:=hx5;have c6:=H6.out.cell (i:=0) (v:=.int .i64 0) rfl;have f6:=H6.out.free 0;go_wp2_with fail;refine leaves_cons (f:=146) (args:=#[.pointer (some ⟨w.heap.size+2,0,none⟩)]) (by simp) (by simp [go_sem]) ?_;refine(zAj ⟨w.heap.size+2,0,none⟩ _).mono ?_;rintro e u' w'' ⟨rfl,rfl,rfl⟩;have c0:=(H6.out.set 0 (.int .i64 0)).cell (i:=0) (v:=.int .i64 0) rfl;simp [Leaves,settle,results,Tryz.results95,go_sem,c0];exact hx6.set (p:=⟨w.heap.size+2,0,none⟩) (by dsimp only;omega) _
  | false=>
   have q4:=q4 rfl rfl;rw [q4] at HM1;clear q1 q2 q3 q4 HM2;go_wp2_with fail;refine HM1.out.mono ?_;rintro e w6 ⟨rfl,hy6⟩;have H6:=dH (H5.out.ext hy6);have hx6:=hx5.trans hy6;have c6:=H6.out.cell (i:=0) (v:=.int .i64 0) rfl;have f6:=H6.out.free 0;clear c0 c1 c2 c3 c4 f4;go_wp2_with fail;refine leaves_cons (f:=146) (args:=#[.pointer (some ⟨w.heap.size+2,0,none⟩)]) (by simp) (by simp [go_sem]) ?_;refine(zAj ⟨w.heap.size+2,0,none⟩ _).mono ?_;rintro e u' w'' ⟨rfl,rfl,rfl⟩;have c0:=(H6.out.set 0 (.int .i64 0)).cell (i:=0) (v:=.int .i64 0) rfl;simp [Leaves,settle,results,Tryz.results95,go_sem,c0];exact hx6.set (p:=⟨w.heap.size+2,0,none⟩) (by dsimp only;omega) _
abbrev zJv:Value:=.agg #[.bool false,.slice none 0 0]
def OpP (z:Int) (w:World) (e:Ending) (w':World):Prop:=
 ((digs z.natAbs).length≤2048∧∃v,e=.returned (.tuple #[v,.int .i64 0])∧BigN w' v z w.heap.size∧Ext w w')∨
 (2048< (digs z.natAbs).length∧e=.returned (.tuple #[zJv,.int .i64 2])∧Ext w w')
theorem BigN.form {w:World} {v:Value} {z:Int} {B:Nat} (h:BigN w v z B):∃neg a cap len,v=.agg #[.bool neg,.slice a len cap]:=by
 obtain⟨neg,a,cap,l,e,_⟩:=h;exact⟨_,_,_,_,e⟩
theorem BigN.put {w:World} {v:Value} {z:Int} {B:Nat} (h:BigN w v z B) {p:Addr} (hp:p.block<B) (u:Value):BigN (w.setCell p u) v z B:=by
 obtain⟨neg,a,cap,l,e,hi,hb,hB⟩:=h;exact⟨neg,a,cap,l,e,hi.putO (fun A hA=>by have:=hB A hA;omega) u,hb,hB⟩
theorem BigN.base {w:World} {v:Value} {z:Int} {B B':Nat} (h:BigN w v z B) (hb:B'≤B):BigN w v z B':=by
 obtain⟨neg,a,cap,l,e,hi,hg,hB⟩:=h;exact⟨neg,a,cap,l,e,hi,hg,fun A hA=>by have:=hB A hA;omega⟩
theorem zIR (n1 n2:Bool) (a b:Option Addr) (ca cb:Nat) (l m:List Int) (w:World) (h:Ints w a ca l) (k:Ints w b cb m) (h1:zBI n1 l=true) (h2:zBI n2 m=true):
 Calls Tryz.prog 158 #[.agg #[.bool n1,.slice a l.length ca],.agg #[.bool n2,.slice b m.length cb]] w (OpP (sgn n1 (zA1 l)+sgn n2 (zA1 m)) w):=by
 obtain⟨w3,hw3⟩:∃w3,((((w.alloc (.cells #[.bool n1,.slice a l.length ca] 36)).alloc (.cells #[.bool n2,.slice b m.length cb] 36)).alloc (.cells #[.bool false,.slice none 0 0] 36)).alloc (.cells #[.int .i64 0] 29))=w3:=⟨_,rfl⟩
 have B1:=(((Blk.new0 w #[.bool n1,.slice a l.length ca] 36).alloc (.cells #[.bool n2,.slice b m.length cb] 36)).alloc (.cells #[.bool false,.slice none 0 0] 36)).alloc (.cells #[.int .i64 0] 29);have B2:=((Blk.new1 w (.cells #[.bool n1,.slice a l.length ca] 36) #[.bool n2,.slice b m.length cb] 36).alloc (.cells #[.bool false,.slice none 0 0] 36)).alloc (.cells #[.int .i64 0] 29);have B3:=(Blk.new2 w (.cells #[.bool n1,.slice a l.length ca] 36) (.cells #[.bool n2,.slice b m.length cb] 36) #[.bool false,.slice none 0 0] 36).alloc (.cells #[.int .i64 0] 29);have B4:=Blk.new2 (w.alloc (.cells #[.bool n1,.slice a l.length ca] 36)) (.cells #[.bool n2,.slice b m.length cb] 36) (.cells #[.bool false,.slice none 0 0] 36) #[.int .i64 0] 29;simp only [World.size_alloc,Nat.add_assoc,Nat.reduceAdd] at B4;have hx:Ext w w3:=by rw [←hw3];exact(by repeat (first | with_reducible exact Ext.refl _ | with_reducible assumption | with_reducible refine Ext.drewN ?_ _ | with_reducible refine Ext.drew ?_ | with_reducible refine Ext.alloc' ?_ _ | with_reducible refine Ext.set ?_ (by dsimp only;omega) _))
 have hs3:w3.heap.size=w.heap.size+4:=by rw [←hw3];simp
 rw [hw3] at B1 B2 B3 B4;have hx4:=hx.alloc' (.cells #[.bool n1,.slice a l.length ca,.bool n2,.slice b m.length cb] 36);have c0:=B1.cell (i:=0) (v:=.bool n1) rfl;have c1:=B1.cell (i:=1) (v:=.slice a l.length ca) rfl;have c2:=B2.cell (i:=0) (v:=.bool n2) rfl;have c3:=B2.cell (i:=1) (v:=.slice b m.length cb) rfl;have H3:=dH (B3.alloc (.cells #[.bool n1,.slice a l.length ca,.bool n2,.slice b m.length cb] 36));have H4:=dH (B4.alloc (.cells #[.bool n1,.slice a l.length ca,.bool n2,.slice b m.length cb] 36));have HW:=dH hw3;have HC:=dH (zAN w3.heap.size n1 n2 a b ca cb l m _ (h.ext hx4) (k.ext hx4) (Blk.new0 w3 _ _) h1 h2);obtain⟨z1,y1⟩:=zAu h1;obtain⟨z2,y2⟩:=zAu h2;have HS:=dH (fun W (hy:Ext w W)=>zIP n1 n2 a b ca cb l m W (h.ext hy) (k.ext hy) z1.1 z2.1 y1 y2);generalize sgn n1 (zA1 l)+sgn n2 (zA1 m)=z at *;have H1:=dH (B1.alloc (.cells #[.bool n1,.slice a l.length ca,.bool n2,.slice b m.length cb] 36));have H2:=dH (B2.alloc (.cells #[.bool n1,.slice a l.length ca,.bool n2,.slice b m.length cb] 36));clear z1 z2 y1 y2 h1 h2 h k B1 B2 B3 B4 hw3
 go_enter_defers Tryz.func158,Tryz.ntmps158
 go_upto_region 1 with fail;rw [HW.out];simp only [Nat.add_assoc,Nat.reduceAdd];go_wp2_with fail;rw [hs3] at HC;refine HC.out.mono ?_;rintro e w5 ⟨rfl,hy⟩;have H5:=dH (H3.out.ext hy);have H6:=dH (H4.out.ext hy);have hx5:=hx4.trans hy;clear c0 c1 c2 c3 HC H3 H4;have c0:=(H1.out.ext hy).cell (i:=0) (v:=.bool n1) rfl;have c1:=(H1.out.ext hy).cell (i:=1) (v:=.slice a l.length ca) rfl;have c2:=(H2.out.ext hy).cell (i:=0) (v:=.bool n2) rfl;have c3:=(H2.out.ext hy).cell (i:=1) (v:=.slice b m.length cb) rfl;have HS5:=dH (HS.out w5 hx5);clear H1 H2 HS;go_wp2_with fail;refine HS5.out.mono ?_;rintro e w6 (⟨hlen,v,rfl,hv,hy6⟩ | ⟨hlen,rfl,hy6⟩)
 ·obtain⟨neg,av,cv,lv,rfl⟩:=hv.form;have K5:=H5.out.ext hy6;have K6:=H6.out.ext hy6;have d0:=K5.cell (i:=0) (v:=.bool false) rfl;have d1:=K5.cell (i:=1) (v:=.slice none 0 0) rfl;have d2:=K6.cell (i:=0) (v:=.int .i64 0) rfl;have f0:=K5.free 0;have f1:=K5.free 1;have f2:=K6.free 0;have J5:=dH K5;have J6:=dH K6;have HV:=dH hv;have hx6:=hx5.trans hy6;clear K5 K6 hv c0 c1 c2 c3 HS5;go_wp2_with fail;refine leaves_cons (f:=146) (args:=#[.pointer (some ⟨w.heap.size+3,0,none⟩)]) (by simp) (by simp [go_sem]) ?_;refine(zAj ⟨w.heap.size+3,0,none⟩ _).mono ?_;rintro e u' w'' ⟨rfl,rfl,rfl⟩;have L5:=((J5.out.set 0 (.bool neg)).set 1 (.slice av lv cv)).other (p:=⟨w.heap.size+3,0,none⟩) (by dsimp only;omega) (.int .i64 0);have L6:=((J6.out.other (p:=⟨w.heap.size+2,0,none⟩) (by dsimp only;omega) (.bool neg)).other (p:=⟨w.heap.size+2,1,none⟩) (by dsimp only;omega) (.slice av lv cv)).set 0 (.int .i64 0);have e0:=L5.cell (i:=0) (v:=.bool neg) rfl;have e1:=L5.cell (i:=1) (v:=.slice av lv cv) rfl;have e2:=L6.cell (i:=0) (v:=.int .i64 0) rfl;have hs5:=hx5.size;have hlt:=H6.out.lt
  have hfin:OpP z w (.returned (.tuple #[.agg #[.bool neg,.slice av lv cv],.int .i64 0])) (((w6.setCell ⟨w.heap.size+2,0,none⟩ (.bool neg)).setCell ⟨w.heap.size+2,1,none⟩ (.slice av lv cv)).setCell ⟨w.heap.size+3,0,none⟩ (.int .i64 0)):=
   .inl ⟨hlen,_,rfl,(((HV.out.put (p:=⟨w.heap.size+2,0,none⟩) (by dsimp only;omega) _).put (p:=⟨w.heap.size+2,1,none⟩) (by dsimp only;omega) _).put (p:=⟨w.heap.size+3,0,none⟩) (by dsimp only;omega) _).base (by omega),
    ((hx6.set (p:=⟨w.heap.size+2,0,none⟩) (by dsimp only;omega) _).set (p:=⟨w.heap.size+2,1,none⟩) (by dsimp only;omega) _).set (p:=⟨w.heap.size+3,0,none⟩) (by dsimp only;omega) _⟩
  simp [Leaves,settle,results,Tryz.results158,go_sem,e0,e1,e2];exact hfin
 ·have K5:=dH (H5.out.ext hy6);have K6:=dH (H6.out.ext hy6);have hx6:=hx5.trans hy6;go_wp2_with fail;refine leaves_cons (f:=146) (args:=#[.pointer (some ⟨w.heap.size+3,0,none⟩)]) (by simp) (by simp [go_sem]) ?_;refine(zCM ⟨w.heap.size+3,0,none⟩ 0 2 [] _ (K6.out.cell (i:=0) rfl) (K6.out.free 0)).mono ?_;rintro e u' w'' ⟨rfl,rfl,rfl⟩;have c0:=(K6.out.set 0 (.int .i64 2)).cell (i:=0) (v:=.int .i64 2) rfl;have c1:=(K5.out.other (p:=⟨w.heap.size+3,0,none⟩) (by dsimp only;omega) (.int .i64 2)).cell (i:=0) (v:=.bool false) rfl;have c2:=(K5.out.other (p:=⟨w.heap.size+3,0,none⟩) (by dsimp only;omega) (.int .i64 2)).cell (i:=1) (v:=.slice none 0 0) rfl
  have hfin:OpP z w (.returned (.tuple #[zJv,.int .i64 2])) (w6.setCell ⟨w.heap.size+3,0,none⟩ (.int .i64 2)):=
   .inr ⟨hlen,rfl,hx6.set (p:=⟨w.heap.size+3,0,none⟩) (by dsimp only;omega) _⟩
  simp [Leaves,settle,results,Tryz.results158,go_sem,c0,c1,c2];exact hfin
end Go.Proofs.YtonkhcdmchidjaaGreat
namespace Go.Proofs.YtonkhcdmchidjaaGreat
open Go.RowKit Go BigFrame
set_option maxRecDepth 100000
def zNF (z:Int) (w:World) (e:Ending) (w':World):Prop:=∃v,e=.returned (.tuple #[v,.int .i64 0])∧BigN w' v z w.heap.size∧Ext w w'
def Len (z:Int):Prop:=(digs z.natAbs).length≤2048
theorem Big.digs {neg:Bool} {l:List Int} {z:Int} (h:Big neg l z):l=digs z.natAbs:=(h.inj (Big.of z)).2
theorem Big.chk {neg:Bool} {l:List Int} {z:Int} (h:Big neg l z) (hl:Len z):zBI neg l=true:=zNE h (by rw [h.digs];exact hl)
def CmpP (z y:Int) (w:World) (e:Ending) (w':World):Prop:=e=.returned (.tuple #[.int .i64 (zBS z y),.int .i64 0])∧Ext w w'
theorem zMC {v u:Value} {z y:Int} {w:World} (hv:BigV w v z) (hu:BigV w u y) (hz:Len z) (hy:Len y):Calls Tryz.prog 95 #[v,u] w (CmpP z y w):=by
 obtain⟨n1,l,⟨a,ca,rfl,hi⟩,hb⟩:=hv;obtain⟨n2,m,⟨b,cb,rfl,hj⟩,hc⟩:=hu;have:=zIQ n1 n2 a b ca cb l m w hi hj (hb.chk hz) (hc.chk hy);rw [←hb.sgn,←hc.sgn] at this;exact this
theorem zMD {v u:Value} {z y:Int} {w:World} (hv:BigV w v z) (hu:BigV w u y) (hz:Len z) (hy:Len y):Calls Tryz.prog 158 #[v,u] w (OpP (z+y) w):=by
 obtain⟨n1,l,⟨a,ca,rfl,hi⟩,hb⟩:=hv;obtain⟨n2,m,⟨b,cb,rfl,hj⟩,hc⟩:=hu;have:=zIR n1 n2 a b ca cb l m w hi hj (hb.chk hz) (hc.chk hy);rw [←hb.sgn,←hc.sgn] at this;exact this
theorem zME {v u:Value} {z y:Int} {w:World} (hv:BigV w v z) (hu:BigV w u y) (hz:Len z) (hy:Len y) (hs:Len (z+y)):Calls Tryz.prog 158 #[v,u] w (zNF (z+y) w):=
 (zMD hv hu hz hy).mono fun e w' h=>by
   rcases h with⟨_,h⟩ | ⟨h,_⟩
   ·exact h
   ·unfold Len at hs;omega
end Go.Proofs.YtonkhcdmchidjaaGreat
