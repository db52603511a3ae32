import Derived.Test.YtonkhcdmchidjaaGreatPDiv
set_option maxHeartbeats 2000000
namespace Go.Proofs.YtonkhcdmchidjaaGreat
open Go.RowKit Go BigFrame Go.Shelf
set_option maxRecDepth 100000
set_option linter.all false
theorem zCl (pe px py:Nat) (w:World) (h:Blk w pe #[.int .i64 0] 29):
 CallsD Tryz.prog 209 #[.pointer (some ⟨pe,0,none⟩),.pointer (some ⟨px,0,none⟩),.pointer (some ⟨py,0,none⟩)] .returning w fun e u' w'=>u'=.returning∧e=.returned (.tuple #[])∧w=w':=by
 have c0:=h.cell (i:=0) (v:=.int .i64 0) rfl
 go_enter_d Tryz.func209,Tryz.ntmps209
 go_wp2_with fail
 go_end0
 exact⟨rfl,rfl⟩
theorem zJx (w:World) (o1 o2 o3 o4 o5:Array Value) (t1 t2 t3 t4 t5:TypeId):∃w5,((((w.alloc (.cells o1 t1)).alloc (.cells o2 t2)).alloc (.cells o3 t3)).alloc (.cells o4 t4)).alloc (.cells o5 t5)=w5∧
 Blk w5 w.heap.size o1 t1∧Blk w5 (w.heap.size+1) o2 t2∧Blk w5 (w.heap.size+2) o3 t3∧Blk w5 (w.heap.size+3) o4 t4∧Blk w5 (w.heap.size+4) o5 t5∧Ext w w5∧w5.heap.size=w.heap.size+5:=by
 refine⟨_,rfl,?_,?_,?_,?_,?_,(by repeat (first | with_reducible exact Ext.refl _ | with_reducible assumption | with_reducible refine Ext.drewN ?_ _ | with_reducible refine Ext.drew ?_ | with_reducible refine Ext.alloc' ?_ _ | with_reducible refine Ext.set ?_ (by dsimp only;omega) _)),by simp⟩
 ·exact((((Blk.new0 w o1 t1).alloc _).alloc _).alloc _).alloc _
 ·exact(((Blk.new1 w _ o2 t2).alloc _).alloc _).alloc _
 ·exact((Blk.new2 w _ _ o3 t3).alloc _).alloc _
 ·have:=(Blk.new2 (w.alloc (.cells o1 t1)) (.cells o2 t2) (.cells o3 t3) o4 t4).alloc (.cells o5 t5)
  simpa [Nat.add_assoc] using this
 ·have:=Blk.new2 ((w.alloc (.cells o1 t1)).alloc (.cells o2 t2)) (.cells o3 t3) (.cells o4 t4) o5 t5
  simpa [Nat.add_assoc] using this
def zM3 (z y:Int) (w:World) (e:Ending) (w':World):Prop:=∃v u,e=.returned (.tuple #[v,u,.int .i64 0])∧BigN w' v (z / y) w.heap.size∧BigV w' u (z % y)∧Ext w w'
theorem Ints.putS {w:World} {a:Option Addr} {cap:Nat} {l:List Int} (h:Ints w a cap l) {p:Addr} (hp:0<l.length→∀A,a=some A→A.block≠p.block) (v:Value):Ints (w.setCell p v) a cap l:=by
 by_cases hl:0<l.length
 ·exact h.putO (hp hl) v
 ·exact⟨h.le,h.mx,h.nil,fun A hA i hi=>by omega⟩
structure DivF (n1 n2:Bool) (l m:List Int):Prop where
 posM:0<zA1 m
 small:(digs (zA1 l / zA1 m).toNat).length≤2048∧(digs (zA1 l % zA1 m).toNat).length≤2048
 plain:(n1=false∨(zA1 l % zA1 m).toNat=0)→sgn n1 (zA1 l) / sgn n2 (zA1 m)=sgn (!(n1 == n2)) ((zA1 l / zA1 m).toNat:Nat)∧sgn n1 (zA1 l) % sgn n2 (zA1 m)= ((zA1 l % zA1 m).toNat:Nat)
 up:n1=true→0< (zA1 l % zA1 m).toNat→sgn n1 (zA1 l) / sgn n2 (zA1 m)=sgn (!(n1 == n2)) ((zA1 l / zA1 m).toNat+1:Nat)∧sgn n1 (zA1 l) % sgn n2 (zA1 m)= ((zA1 m - (zA1 l % zA1 m).toNat).toNat:Nat)∧
  (digs ((zA1 l / zA1 m).toNat+1)).length≤2048∧(digs (zA1 m - (zA1 l % zA1 m).toNat).toNat).length≤2048∧((zA1 l % zA1 m).toNat:Int)≤zA1 m
theorem zFr (n:Nat):((1073741824 ^ n:Nat):Int)= (1073741824:Int) ^ n:=by rw [Int.natCast_pow];rfl
theorem zId {l:List Int} (h:Digs l) (hl:l.length≤2048) {v:Nat} (hv:(v:Int)≤zA1 l):(digs v).length≤2048:=by
 apply zC8;have h1:=zAy h;have h2:(1073741824:Int) ^ l.length≤1073741824 ^ 2048:=zC6 hl;have h3:=zFr 2048;generalize (1073741824:Int) ^ 2048=P at *;generalize (1073741824:Nat) ^ 2048=Q at *;omega
theorem zEx {n1 n2:Bool} {l m:List Int} (hl:Norm l) (hm:Norm m) (h1:l.length≤2048) (h2:m.length≤2048) (hne:m≠[]):DivF n1 n2 l m:=by
 have p0:=zA2 hl.digs;have p1:=zAL hm hne;obtain⟨Q,hQ⟩:∃Q,zA1 l / zA1 m=Q:=⟨_,rfl⟩
 obtain⟨R,hR⟩:∃R,zA1 l % zA1 m=R:=⟨_,rfl⟩
 have hq0:0≤Q:=by rw [←hQ];exact Int.ediv_nonneg p0 (by omega)
 have hr0:0≤R:=by rw [←hR];exact Int.emod_nonneg _ (by omega)
 have hr1:R<zA1 m:=by rw [←hR];exact Int.emod_lt_of_pos _ p1
 have hs:R+zA1 m*Q=zA1 l:=by rw [←hQ,←hR];exact Int.emod_add_mul_ediv _ _
 have hQM:Q≤zA1 m*Q:=by
  have:=Int.mul_le_mul_of_nonneg_right (show 1≤zA1 m by omega) hq0;omega
 have hpl:∀X Y x y:Int,Y+zA1 m*X=x→0≤Y→Y<zA1 m→y=zA1 m→x / y=X∧x % y=Y:=fun X Y x y e1 e2 e3 e4=>by
  subst e4;exact(Int.ediv_emod_unique p1).2 ⟨e1,e2,e3⟩
 have hneg:∀X Y x:Int,Y+zA1 m*X=x→0≤Y→Y<zA1 m→x / -zA1 m= -X∧x % -zA1 m=Y:=fun X Y x e1 e2 e3=>by
  rw [Int.ediv_neg,Int.emod_neg];obtain⟨a1,a2⟩:=hpl X Y x _ e1 e2 e3 rfl;exact⟨by rw [a1],a2⟩
 constructor
 ·exact p1
 ·rw [hQ,hR];exact⟨zId hl.digs h1 (by omega),zId hm.digs h2 (by omega)⟩
 ·rw [hQ,hR];intro hc;have e1:((Q.toNat:Nat):Int)=Q:=by omega
  have e2:((R.toNat:Nat):Int)=R:=by omega
  rw [e1,e2];cases n1
  ·cases n2
   ·exact hpl Q R _ _ hs hr0 hr1 rfl
   ·exact hneg Q R _ hs hr0 hr1
  ·have hR0:R=0:=by
    rcases hc with h | h
    ·cases h
    ·omega
   subst hR0;have hs2:0+zA1 m* (-Q)= - zA1 l:=by rw [Int.mul_neg];omega
   cases n2
   ·exact hpl (-Q) 0 _ _ hs2 (by omega) p1 rfl
   ·have:=hneg (-Q) 0 _ hs2 (by omega) p1;simp only [Int.neg_neg] at this;exact this
 ·rw [hQ,hR];intro hn hr;have e1:((Q.toNat+1:Nat):Int)=Q+1:=by omega
  have e2:((R.toNat:Nat):Int)=R:=by omega
  rw [e2,e1];have e3:(((zA1 m - R).toNat:Nat):Int)=zA1 m - R:=by omega
  rw [e3];subst hn;have hs2:(zA1 m - R)+zA1 m* (-(Q+1))= - zA1 l:=by rw [Int.mul_neg,Int.mul_add];omega
  have hQ1:Q+1≤zA1 l:=by
   by_cases hq:Q=0
   ·omega
   ·have:=Int.mul_le_mul_of_nonneg_right (show 2≤zA1 m by omega) hq0;omega
  have hl1:(digs (Q.toNat+1)).length≤2048:=zId hl.digs h1 (by omega);have hl2:(digs (zA1 m - R).toNat).length≤2048:=zId hm.digs h2 (by omega);cases n2
  ·obtain⟨a1,a2⟩:=hpl (-(Q+1)) (zA1 m - R) _ _ hs2 (by omega) (by omega) rfl;exact⟨a1,a2,hl1,hl2,by omega⟩
  ·obtain⟨a1,a2⟩:=hneg (-(Q+1)) (zA1 m - R) _ hs2 (by omega) (by omega);simp only [Int.neg_neg] at a1;exact⟨a1,a2,hl1,hl2,by omega⟩
theorem zIU (n2:Bool) (a b:Option Addr) (ca cb:Nat) (l m:List Int) (w:World) (h:Ints w a ca l) (k:Ints w b cb m) (h1:zBI false l=true) (h2:zBI n2 m=true) (hm:m≠[])
 (hdiv:∀W,Ext w W→Calls Tryz.prog 208 #[.slice a l.length ca,.slice b m.length cb] W (zJw l m a W)):
 Calls Tryz.prog 183 #[.agg #[.bool false,.slice a l.length ca],.agg #[.bool n2,.slice b m.length cb]] w (zM3 (sgn false (zA1 l)) (sgn n2 (zA1 m)) w):=by
 obtain⟨w3,hw3,B1,B2,B3,B4,B5,hx,hs3⟩:=zJx w #[.bool false,.slice a l.length ca] #[.bool n2,.slice b m.length cb] #[.bool false,.slice none 0 0] #[.bool false,.slice none 0 0] #[.int .i64 0] 36 36 36 36 29;have hx4:=hx.alloc' (.cells #[.bool false,.slice a l.length ca,.bool n2,.slice b m.length cb] 36);have c0:=B1.cell (i:=0) (v:=.bool false) rfl;have c1:=B1.cell (i:=1) (v:=.slice a l.length ca) rfl;have c2:=B2.cell (i:=0) (v:=.bool n2) rfl;have c3:=B2.cell (i:=1) (v:=.slice b m.length cb) rfl;have H1:=dH (B1.alloc (.cells #[.bool false,.slice a l.length ca,.bool n2,.slice b m.length cb] 36));have H2:=dH (B2.alloc (.cells #[.bool false,.slice a l.length ca,.bool n2,.slice b m.length cb] 36));have H3:=dH (B3.alloc (.cells #[.bool false,.slice a l.length ca,.bool n2,.slice b m.length cb] 36));have H4:=dH (B4.alloc (.cells #[.bool false,.slice a l.length ca,.bool n2,.slice b m.length cb] 36));have H5:=dH (B5.alloc (.cells #[.bool false,.slice a l.length ca,.bool n2,.slice b m.length cb] 36));have HW:=dH hw3;have HC:=dH (zAN w3.heap.size false n2 a b ca cb l m _ (h.ext hx4) (k.ext hx4) (Blk.new0 w3 _ _) h1 h2);obtain⟨z1,y1⟩:=zAu h1;obtain⟨z2,y2⟩:=zAu h2;have HZ:=dH (zEx (n1:=false) (n2:=n2) z1.1 z2.1 y1 y2 hm);have HI:=dH h;have HJ:=dH k;have HN2:=dH z2.1;have HDV:=dH hdiv
 have HA:Hid (0<l.length→∀A,a=some A→A.block<w.heap.size):=dH (fun hn A hA=>by
  obtain⟨b0,o0,e0⟩:=h.head hn;have hI0:=h;rw [e0] at hA hI0;cases hA
  exact zAd (hI0.cell (i:=0) hn).1)
 have hml:0<m.length:=List.length_pos_iff.2 hm;have t1:(m.length == 0)=false:=by simp only [beq_eq_false_iff_ne];omega
 have t2:((m.length:Int) == 0)=false:=by simp only [beq_eq_false_iff_ne];omega
 have t3:decide (m.length=0)=false:=by simp only [decide_eq_false_iff_not];omega
 obtain⟨N,hN⟩:∃N,(zA1 l / zA1 m).toNat=N:=⟨_,rfl⟩
 obtain⟨R,hR⟩:∃R,(zA1 l % zA1 m).toNat=R:=⟨_,rfl⟩
 have HNN:=dH hN;have HRR:=dH hR;have HML:=dH hml;clear hm hml h1 h2 h k B1 B2 B3 B4 B5 hw3 hdiv z1 z2 y1 y2 hN hR
 go_enter_defers Tryz.func183,Tryz.ntmps183
 go_upto_region 1 with fail;rw [HW.out];simp only [Nat.add_assoc,Nat.reduceAdd];go_wp2_with fail;rw [hs3] at HC;refine HC.out.mono ?_;rintro e w5 ⟨rfl,hy⟩;have J3:=dH (H3.out.ext hy);have J4:=dH (H4.out.ext hy);have J5:=dH (H5.out.ext hy);have hx5:=hx4.trans hy;clear c0 c1 c2 c3 HC H3 H4 H5;have c1:=(H1.out.ext hy).cell (i:=1) (v:=.slice a l.length ca) rfl;have c3:=(H2.out.ext hy).cell (i:=1) (v:=.slice b m.length cb) rfl;have HD:=dH (HDV.out w5 hx5);clear HDV;go_wp2_with fail;refine HD.out.mono ?_;rintro e w6 ⟨aq,cq,ar,cr,rfl,hiq,hir,hbq,hbr,hy6⟩;rw [HNN.out] at hiq ⊢;rw [HRR.out] at hir ⊢;have G1:=dH ((H1.out.ext hy).ext hy6);have G2:=dH ((H2.out.ext hy).ext hy6);have G3:=dH (J3.out.ext hy6);have G4:=dH (J4.out.ext hy6);have G5:=dH (J5.out.ext hy6);have hx6:=hx5.trans hy6;have hs5:=J5.out.lt;have hs6:=hy6.size;have HIQ:=dH hiq;have HIR:=dH hir;have HBQ:=dH hbq;have HBR:=dH hbr;clear c1 c3 HD hy hy6 H1 H2 J3 J4 J5 hiq hir hbq hbr;have c0:=G1.out.cell (i:=0) (v:=.bool false) rfl;have c1:=G1.out.cell (i:=1) (v:=.slice a l.length ca) rfl;have c2:=G2.out.cell (i:=0) (v:=.bool n2) rfl;have c3:=G2.out.cell (i:=1) (v:=.slice b m.length cb) rfl;obtain⟨QL,hQL⟩:∃QL,digs N=QL:=⟨_,rfl⟩
 obtain⟨RL,hRL⟩:∃RL,digs R=RL:=⟨_,rfl⟩
 have hB1:=zAZ n2 aq cq (digs N) w6 HIQ.out (by rw [zAE (zA4 _)];rw [←HNN.out];exact HZ.out.small.1);rw [zAE (zA4 _),hQL] at hB1;have hB2:=fun W' (hy:Ext w6 W')=>zAZ false ar cr (digs R) W' ((HIR.out).ext hy) (by rw [zAE (zA4 _)];rw [←HRR.out];exact HZ.out.small.2);rw [zAE (zA4 _),hRL,Bool.false_and] at hB2;have HB1:=dH hB1;have HB2:=dH hB2;have HQL:=dH hQL;have HRL:=dH hRL;rw [hQL,hRL]
 try rw [hRL] at t6
 clear hB1 hB2 hQL hRL;go_wp2_with fail;refine HB1.out.mono ?_;rintro e w8 ⟨rfl,hy8⟩;obtain⟨sb,hsb⟩:∃sb,(n2 && decide (0<QL.length))=sb:=⟨_,rfl⟩
 rw [hsb];have HSB:=dH hsb;clear hsb;have HB3:=dH (HB2.out w8 hy8);go_wp2_with fail;refine HB3.out.mono ?_;rintro e w9 ⟨rfl,hy9⟩;have hyy:=hy8.trans hy9;have F3:=G3.out.ext hyy;have F4:=G4.out.ext hyy;have F5:=G5.out.ext hyy;have K3a:=(F3.set 0 (.bool sb)).set 1 (.slice aq QL.length cq);have K4a:=(F4.other (p:=⟨w.heap.size+2,0,none⟩) (by dsimp only;omega) (.bool sb)).other (p:=⟨w.heap.size+2,1,none⟩) (by dsimp only;omega) (.slice aq QL.length cq);have K5a:=(F5.other (p:=⟨w.heap.size+2,0,none⟩) (by dsimp only;omega) (.bool sb)).other (p:=⟨w.heap.size+2,1,none⟩) (by dsimp only;omega) (.slice aq QL.length cq);have K3b:=(K3a.other (p:=⟨w.heap.size+3,0,none⟩) (by dsimp only;omega) (.bool false)).other (p:=⟨w.heap.size+3,1,none⟩) (by dsimp only;omega) (.slice ar RL.length cr);have K4b:=(K4a.set 0 (.bool false)).set 1 (.slice ar RL.length cr);have K5b:=(K5a.other (p:=⟨w.heap.size+3,0,none⟩) (by dsimp only;omega) (.bool false)).other (p:=⟨w.heap.size+3,1,none⟩) (by dsimp only;omega) (.slice ar RL.length cr);have g0:=F3.cell (i:=0) (v:=.bool false) rfl;have g1:=(F3.set 0 (.bool sb)).cell (i:=1) (v:=.slice none 0 0) rfl;have g2:=K4a.cell (i:=0) (v:=.bool false) rfl;have g3:=(K4a.set 0 (.bool false)).cell (i:=1) (v:=.slice none 0 0) rfl;have g4:=K5b.cell (i:=0) (v:=.int .i64 0) rfl;have h0:=F3.free 0;have h1:=(F3.set 0 (.bool sb)).free 1;have h2:=K4a.free 0;have h3:=(K4a.set 0 (.bool false)).free 1;have h4:=K5b.free 0;have KK3:=dH (K3b.other (p:=⟨w.heap.size+4,0,none⟩) (by dsimp only;omega) (.int .i64 0));have KK4:=dH (K4b.other (p:=⟨w.heap.size+4,0,none⟩) (by dsimp only;omega) (.int .i64 0));have KK5:=dH (K5b.set 0 (.int .i64 0));have HXF:=dH ((((((hx6.trans hyy).set (p:=⟨w.heap.size+2,0,none⟩) (by dsimp only;omega) (.bool sb)).set (p:=⟨w.heap.size+2,1,none⟩) (by dsimp only;omega) (.slice aq QL.length cq)).set (p:=⟨w.heap.size+3,0,none⟩) (by dsimp only;omega) (.bool false)).set (p:=⟨w.heap.size+3,1,none⟩) (by dsimp only;omega) (.slice ar RL.length cr)).set (p:=⟨w.heap.size+4,0,none⟩) (by dsimp only;omega) (.int .i64 0));have HYY:=dH hyy;have HX9:=hx6.trans hyy;clear K3a K4a K5a K3b K4b K5b F3 F4 F5 HB1 HB2 HB3 c0 c1 c2 c3 hy8 hy9 hyy;go_wp2_with fail;refine leaves_cons (f:=146) (args:=#[.pointer (some ⟨w.heap.size+4,0,none⟩)]) (by simp) (by simp [go_sem]) ?_;refine(zAj ⟨w.heap.size+4,0,none⟩ _).mono ?_;rintro e u' w'' ⟨rfl,rfl,rfl⟩;simp only [settle];refine leaves_cons (f:=209) (args:=#[.pointer (some ⟨w.heap.size+4,0,none⟩),.pointer (some ⟨w.heap.size+2,0,none⟩),.pointer (some ⟨w.heap.size+3,0,none⟩)]) (by simp) (by simp [go_sem]) ?_;refine(zCl (w.heap.size+4) (w.heap.size+2) (w.heap.size+3) _ KK5.out).mono ?_;rintro e u' w'' ⟨rfl,rfl,rfl⟩;have hbq0:∀A,aq=some A→A.block≠w.heap.size+2∧A.block≠w.heap.size+3∧A.block≠w.heap.size+4:=fun A hA=>by
  have:=HBQ.out A hA;omega
 have hbr0:0<RL.length→∀A,ar=some A→A.block≠w.heap.size+2∧A.block≠w.heap.size+3∧A.block≠w.heap.size+4:=fun hp A hA=>by
  rcases HBR.out A hA with h | ⟨A',hA',h⟩
  ·omega
  ·have hl:0<l.length:=by
    refine Nat.pos_of_ne_zero fun h0=>?_;have hl0:l=[]:=List.length_eq_zero_iff.1 h0;have:R=0:=by rw [←HRR.out,hl0];simp [zA1]
    rw [←HRL.out,this,zAO] at hp;simp at hp
   have:=HA.out hl A' hA';omega
 have I1:Ints w9 aq cq QL:=by rw [←HQL.out];exact(HIQ.out).ext HYY.out
 have I2:Ints w9 ar cr RL:=by rw [←HRL.out];exact(HIR.out).ext HYY.out
 have I1:=((((I1.putO (p:=⟨w.heap.size+2,0,none⟩) (fun A hA=>(hbq0 A hA).1) (.bool sb)).putO (p:=⟨w.heap.size+2,1,none⟩) (fun A hA=>(hbq0 A hA).1) (.slice aq QL.length cq)).putO (p:=⟨w.heap.size+3,0,none⟩) (fun A hA=>(hbq0 A hA).2.1) (.bool false)).putO (p:=⟨w.heap.size+3,1,none⟩) (fun A hA=>(hbq0 A hA).2.1) (.slice ar RL.length cr)).putO (p:=⟨w.heap.size+4,0,none⟩) (fun A hA=>(hbq0 A hA).2.2) (.int .i64 0);have I2:=((((I2.putS (p:=⟨w.heap.size+2,0,none⟩) (fun hp A hA=>(hbr0 hp A hA).1) (.bool sb)).putS (p:=⟨w.heap.size+2,1,none⟩) (fun hp A hA=>(hbr0 hp A hA).1) (.slice aq QL.length cq)).putS (p:=⟨w.heap.size+3,0,none⟩) (fun hp A hA=>(hbr0 hp A hA).2.1) (.bool false)).putS (p:=⟨w.heap.size+3,1,none⟩) (fun hp A hA=>(hbr0 hp A hA).2.1) (.slice ar RL.length cr)).putS (p:=⟨w.heap.size+4,0,none⟩) (fun hp A hA=>(hbr0 hp A hA).2.2) (.int .i64 0);have e0:=KK3.out.cell (i:=0) (v:=.bool sb) rfl;have e1:=KK3.out.cell (i:=1) (v:=.slice aq QL.length cq) rfl;have e2:=KK4.out.cell (i:=0) (v:=.bool false) rfl;have e3:=KK4.out.cell (i:=1) (v:=.slice ar RL.length cr) rfl;have e4:=KK5.out.cell (i:=0) (v:=.int .i64 0) rfl;have hz:sgn false (zA1 l) / sgn n2 (zA1 m)=sgn n2 (N:Nat)∧sgn false (zA1 l) % sgn n2 (zA1 m)= (R:Nat):=by
  rw [←HNN.out,←HRR.out];have:=HZ.out.plain (.inl rfl);cases n2 <;> exact this
 have hbo:=zDo n2 (N);rw [HQL.out,HSB.out,←hz.1] at hbo;have hro:=zDo false (R);rw [HRL.out,Bool.false_and,show sgn false ((R:Nat):Int)= ((R:Nat):Int) from rfl,←hz.2] at hro
 have hfin:∀W,W= (((((w9.setCell ⟨w.heap.size+2,0,none⟩ (.bool sb)).setCell ⟨w.heap.size+2,1,none⟩ (.slice aq QL.length cq)).setCell ⟨w.heap.size+3,0,none⟩ (.bool false)).setCell ⟨w.heap.size+3,1,none⟩ (.slice ar RL.length cr)).setCell ⟨w.heap.size+4,0,none⟩ (.int .i64 0))→
  zM3 (sgn false (zA1 l)) (sgn n2 (zA1 m)) w (.returned (.tuple #[.agg #[.bool sb,.slice aq QL.length cq],.agg #[.bool false,.slice ar RL.length cr],.int .i64 0])) W:=fun W hW=>by
  subst hW;exact⟨_,_,rfl,⟨sb,aq,cq,QL,rfl,I1,hbo,fun A hA=>by have:=HBQ.out A hA;omega⟩,⟨false,RL,⟨ar,cr,rfl,I2⟩,hro⟩,HXF.out⟩
 simp [Leaves,settle,results,Tryz.results183,go_sem,e0,e1,e2,e3,e4];exact hfin _ rfl
theorem zIV (n2:Bool) (a b:Option Addr) (ca cb:Nat) (l m:List Int) (w:World) (h:Ints w a ca l) (k:Ints w b cb m) (h1:zBI true l=true) (h2:zBI n2 m=true) (hm:m≠[])
 (hdiv:∀W,Ext w W→Calls Tryz.prog 208 #[.slice a l.length ca,.slice b m.length cb] W (zJw l m a W)) (hc:(zA1 l % zA1 m).toNat=0):
 Calls Tryz.prog 183 #[.agg #[.bool true,.slice a l.length ca],.agg #[.bool n2,.slice b m.length cb]] w (zM3 (sgn true (zA1 l)) (sgn n2 (zA1 m)) w):=by
 obtain⟨w3,hw3,B1,B2,B3,B4,B5,hx,hs3⟩:=zJx w #[.bool true,.slice a l.length ca] #[.bool n2,.slice b m.length cb] #[.bool false,.slice none 0 0] #[.bool false,.slice none 0 0] #[.int .i64 0] 36 36 36 36 29;have hx4:=hx.alloc' (.cells #[.bool true,.slice a l.length ca,.bool n2,.slice b m.length cb] 36);have c0:=B1.cell (i:=0) (v:=.bool true) rfl;have c1:=B1.cell (i:=1) (v:=.slice a l.length ca) rfl;have c2:=B2.cell (i:=0) (v:=.bool n2) rfl;have c3:=B2.cell (i:=1) (v:=.slice b m.length cb) rfl;have H1:=dH (B1.alloc (.cells #[.bool true,.slice a l.length ca,.bool n2,.slice b m.length cb] 36));have H2:=dH (B2.alloc (.cells #[.bool true,.slice a l.length ca,.bool n2,.slice b m.length cb] 36));have H3:=dH (B3.alloc (.cells #[.bool true,.slice a l.length ca,.bool n2,.slice b m.length cb] 36));have H4:=dH (B4.alloc (.cells #[.bool true,.slice a l.length ca,.bool n2,.slice b m.length cb] 36));have H5:=dH (B5.alloc (.cells #[.bool true,.slice a l.length ca,.bool n2,.slice b m.length cb] 36));have HW:=dH hw3;have HC:=dH (zAN w3.heap.size true n2 a b ca cb l m _ (h.ext hx4) (k.ext hx4) (Blk.new0 w3 _ _) h1 h2);obtain⟨z1,y1⟩:=zAu h1;obtain⟨z2,y2⟩:=zAu h2;have HZ:=dH (zEx (n1:=true) (n2:=n2) z1.1 z2.1 y1 y2 hm);have HI:=dH h;have HJ:=dH k;have HN2:=dH z2.1;have HDV:=dH hdiv
 have HA:Hid (0<l.length→∀A,a=some A→A.block<w.heap.size):=dH (fun hn A hA=>by
  obtain⟨b0,o0,e0⟩:=h.head hn;have hI0:=h;rw [e0] at hA hI0;cases hA
  exact zAd (hI0.cell (i:=0) hn).1)
 have hml:0<m.length:=List.length_pos_iff.2 hm;have t1:(m.length == 0)=false:=by simp only [beq_eq_false_iff_ne];omega
 have t2:((m.length:Int) == 0)=false:=by simp only [beq_eq_false_iff_ne];omega
 have t3:decide (m.length=0)=false:=by simp only [decide_eq_false_iff_not];omega
 obtain⟨N,hN⟩:∃N,(zA1 l / zA1 m).toNat=N:=⟨_,rfl⟩
 obtain⟨R,hR⟩:∃R,(zA1 l % zA1 m).toNat=R:=⟨_,rfl⟩
 have HNN:=dH hN;have HRR:=dH hR;have HML:=dH hml;have HC0:=dH hc;rw [hR] at hc;have t6:decide (0< (digs R).length)=false:=by rw [hc,zAO];rfl
 clear hc;clear hm hml h1 h2 h k B1 B2 B3 B4 B5 hw3 hdiv z1 z2 y1 y2 hN hR
 go_enter_defers Tryz.func183,Tryz.ntmps183
 go_upto_region 1 with fail;rw [HW.out];simp only [Nat.add_assoc,Nat.reduceAdd];go_wp2_with fail;rw [hs3] at HC;refine HC.out.mono ?_;rintro e w5 ⟨rfl,hy⟩;have J3:=dH (H3.out.ext hy);have J4:=dH (H4.out.ext hy);have J5:=dH (H5.out.ext hy);have hx5:=hx4.trans hy;clear c0 c1 c2 c3 HC H3 H4 H5;have c1:=(H1.out.ext hy).cell (i:=1) (v:=.slice a l.length ca) rfl;have c3:=(H2.out.ext hy).cell (i:=1) (v:=.slice b m.length cb) rfl;have HD:=dH (HDV.out w5 hx5);clear HDV;go_wp2_with fail;refine HD.out.mono ?_;rintro e w6 ⟨aq,cq,ar,cr,rfl,hiq,hir,hbq,hbr,hy6⟩;rw [HNN.out] at hiq ⊢;rw [HRR.out] at hir ⊢;have G1:=dH ((H1.out.ext hy).ext hy6);have G2:=dH ((H2.out.ext hy).ext hy6);have G3:=dH (J3.out.ext hy6);have G4:=dH (J4.out.ext hy6);have G5:=dH (J5.out.ext hy6);have hx6:=hx5.trans hy6;have hs5:=J5.out.lt;have hs6:=hy6.size;have HIQ:=dH hiq;have HIR:=dH hir;have HBQ:=dH hbq;have HBR:=dH hbr;clear c1 c3 HD hy hy6 H1 H2 J3 J4 J5 hiq hir hbq hbr;have c0:=G1.out.cell (i:=0) (v:=.bool true) rfl;have c1:=G1.out.cell (i:=1) (v:=.slice a l.length ca) rfl;have c2:=G2.out.cell (i:=0) (v:=.bool n2) rfl;have c3:=G2.out.cell (i:=1) (v:=.slice b m.length cb) rfl;obtain⟨QL,hQL⟩:∃QL,digs N=QL:=⟨_,rfl⟩
 obtain⟨RL,hRL⟩:∃RL,digs R=RL:=⟨_,rfl⟩
 have hB1:=zAZ (!n2) aq cq (digs N) w6 HIQ.out (by rw [zAE (zA4 _)];rw [←HNN.out];exact HZ.out.small.1);rw [zAE (zA4 _),hQL] at hB1;have hB2:=fun W' (hy:Ext w6 W')=>zAZ false ar cr (digs R) W' ((HIR.out).ext hy) (by rw [zAE (zA4 _)];rw [←HRR.out];exact HZ.out.small.2);rw [zAE (zA4 _),hRL,Bool.false_and] at hB2;have HB1:=dH hB1;have HB2:=dH hB2;have HQL:=dH hQL;have HRL:=dH hRL;rw [hQL,hRL]
 try rw [hRL] at t6
 clear hB1 hB2 hQL hRL;go_wp2_with fail;refine HB1.out.mono ?_;rintro e w8 ⟨rfl,hy8⟩;obtain⟨sb,hsb⟩:∃sb,((!n2) && decide (0<QL.length))=sb:=⟨_,rfl⟩
 rw [hsb];have HSB:=dH hsb;clear hsb;have HB3:=dH (HB2.out w8 hy8);go_wp2_with fail;refine HB3.out.mono ?_;rintro e w9 ⟨rfl,hy9⟩;have hyy:=hy8.trans hy9;have F3:=G3.out.ext hyy;have F4:=G4.out.ext hyy;have F5:=G5.out.ext hyy;have K3a:=(F3.set 0 (.bool sb)).set 1 (.slice aq QL.length cq);have K4a:=(F4.other (p:=⟨w.heap.size+2,0,none⟩) (by dsimp only;omega) (.bool sb)).other (p:=⟨w.heap.size+2,1,none⟩) (by dsimp only;omega) (.slice aq QL.length cq);have K5a:=(F5.other (p:=⟨w.heap.size+2,0,none⟩) (by dsimp only;omega) (.bool sb)).other (p:=⟨w.heap.size+2,1,none⟩) (by dsimp only;omega) (.slice aq QL.length cq);have K3b:=(K3a.other (p:=⟨w.heap.size+3,0,none⟩) (by dsimp only;omega) (.bool false)).other (p:=⟨w.heap.size+3,1,none⟩) (by dsimp only;omega) (.slice ar RL.length cr);have K4b:=(K4a.set 0 (.bool false)).set 1 (.slice ar RL.length cr);have K5b:=(K5a.other (p:=⟨w.heap.size+3,0,none⟩) (by dsimp only;omega) (.bool false)).other (p:=⟨w.heap.size+3,1,none⟩) (by dsimp only;omega) (.slice ar RL.length cr);have g0:=F3.cell (i:=0) (v:=.bool false) rfl;have g1:=(F3.set 0 (.bool sb)).cell (i:=1) (v:=.slice none 0 0) rfl;have g2:=K4a.cell (i:=0) (v:=.bool false) rfl;have g3:=(K4a.set 0 (.bool false)).cell (i:=1) (v:=.slice none 0 0) rfl;have g4:=K5b.cell (i:=0) (v:=.int .i64 0) rfl;have h0:=F3.free 0;have h1:=(F3.set 0 (.bool sb)).free 1;have h2:=K4a.free 0;have h3:=(K4a.set 0 (.bool false)).free 1;have h4:=K5b.free 0;have KK3:=dH (K3b.other (p:=⟨w.heap.size+4,0,none⟩) (by dsimp only;omega) (.int .i64 0));have KK4:=dH (K4b.other (p:=⟨w.heap.size+4,0,none⟩) (by dsimp only;omega) (.int .i64 0));have KK5:=dH (K5b.set 0 (.int .i64 0));have HXF:=dH ((((((hx6.trans hyy).set (p:=⟨w.heap.size+2,0,none⟩) (by dsimp only;omega) (.bool sb)).set (p:=⟨w.heap.size+2,1,none⟩) (by dsimp only;omega) (.slice aq QL.length cq)).set (p:=⟨w.heap.size+3,0,none⟩) (by dsimp only;omega) (.bool false)).set (p:=⟨w.heap.size+3,1,none⟩) (by dsimp only;omega) (.slice ar RL.length cr)).set (p:=⟨w.heap.size+4,0,none⟩) (by dsimp only;omega) (.int .i64 0));have HYY:=dH hyy;have HX9:=hx6.trans hyy;clear K3a K4a K5a K3b K4b K5b F3 F4 F5 HB1 HB2 HB3 c0 c1 c2 c3 hy8 hy9 hyy;go_wp2_with fail;refine leaves_cons (f:=146) (args:=#[.pointer (some ⟨w.heap.size+4,0,none⟩)]) (by simp) (by simp [go_sem]) ?_;refine(zAj ⟨w.heap.size+4,0,none⟩ _).mono ?_;rintro e u' w'' ⟨rfl,rfl,rfl⟩;simp only [settle];refine leaves_cons (f:=209) (args:=#[.pointer (some ⟨w.heap.size+4,0,none⟩),.pointer (some ⟨w.heap.size+2,0,none⟩),.pointer (some ⟨w.heap.size+3,0,none⟩)]) (by simp) (by simp [go_sem]) ?_;refine(zCl (w.heap.size+4) (w.heap.size+2) (w.heap.size+3) _ KK5.out).mono ?_;rintro e u' w'' ⟨rfl,rfl,rfl⟩;have hbq0:∀A,aq=some A→A.block≠w.heap.size+2∧A.block≠w.heap.size+3∧A.block≠w.heap.size+4:=fun A hA=>by
  have:=HBQ.out A hA;omega
 have hbr0:0<RL.length→∀A,ar=some A→A.block≠w.heap.size+2∧A.block≠w.heap.size+3∧A.block≠w.heap.size+4:=fun hp A hA=>by
  rcases HBR.out A hA with h | ⟨A',hA',h⟩
  ·omega
  ·have hl:0<l.length:=by
    refine Nat.pos_of_ne_zero fun h0=>?_;have hl0:l=[]:=List.length_eq_zero_iff.1 h0;have:R=0:=by rw [←HRR.out,hl0];simp [zA1]
    rw [←HRL.out,this,zAO] at hp;simp at hp
   have:=HA.out hl A' hA';omega
 have I1:Ints w9 aq cq QL:=by rw [←HQL.out];exact(HIQ.out).ext HYY.out
 have I2:Ints w9 ar cr RL:=by rw [←HRL.out];exact(HIR.out).ext HYY.out
 have I1:=((((I1.putO (p:=⟨w.heap.size+2,0,none⟩) (fun A hA=>(hbq0 A hA).1) (.bool sb)).putO (p:=⟨w.heap.size+2,1,none⟩) (fun A hA=>(hbq0 A hA).1) (.slice aq QL.length cq)).putO (p:=⟨w.heap.size+3,0,none⟩) (fun A hA=>(hbq0 A hA).2.1) (.bool false)).putO (p:=⟨w.heap.size+3,1,none⟩) (fun A hA=>(hbq0 A hA).2.1) (.slice ar RL.length cr)).putO (p:=⟨w.heap.size+4,0,none⟩) (fun A hA=>(hbq0 A hA).2.2) (.int .i64 0);have I2:=((((I2.putS (p:=⟨w.heap.size+2,0,none⟩) (fun hp A hA=>(hbr0 hp A hA).1) (.bool sb)).putS (p:=⟨w.heap.size+2,1,none⟩) (fun hp A hA=>(hbr0 hp A hA).1) (.slice aq QL.length cq)).putS (p:=⟨w.heap.size+3,0,none⟩) (fun hp A hA=>(hbr0 hp A hA).2.1) (.bool false)).putS (p:=⟨w.heap.size+3,1,none⟩) (fun hp A hA=>(hbr0 hp A hA).2.1) (.slice ar RL.length cr)).putS (p:=⟨w.heap.size+4,0,none⟩) (fun hp A hA=>(hbr0 hp A hA).2.2) (.int .i64 0);have e0:=KK3.out.cell (i:=0) (v:=.bool sb) rfl;have e1:=KK3.out.cell (i:=1) (v:=.slice aq QL.length cq) rfl;have e2:=KK4.out.cell (i:=0) (v:=.bool false) rfl;have e3:=KK4.out.cell (i:=1) (v:=.slice ar RL.length cr) rfl;have e4:=KK5.out.cell (i:=0) (v:=.int .i64 0) rfl;have hz:sgn true (zA1 l) / sgn n2 (zA1 m)=sgn (!n2) (N:Nat)∧sgn true (zA1 l) % sgn n2 (zA1 m)= (R:Nat):=by
  rw [←HNN.out,←HRR.out];have:=HZ.out.plain (.inr HC0.out);cases n2 <;> exact this
 have hbo:=zDo (!n2) (N);rw [HQL.out,HSB.out,←hz.1] at hbo;have hro:=zDo false (R);rw [HRL.out,Bool.false_and,show sgn false ((R:Nat):Int)= ((R:Nat):Int) from rfl,←hz.2] at hro
 have hfin:∀W,W= (((((w9.setCell ⟨w.heap.size+2,0,none⟩ (.bool sb)).setCell ⟨w.heap.size+2,1,none⟩ (.slice aq QL.length cq)).setCell ⟨w.heap.size+3,0,none⟩ (.bool false)).setCell ⟨w.heap.size+3,1,none⟩ (.slice ar RL.length cr)).setCell ⟨w.heap.size+4,0,none⟩ (.int .i64 0))→
  zM3 (sgn true (zA1 l)) (sgn n2 (zA1 m)) w (.returned (.tuple #[.agg #[.bool sb,.slice aq QL.length cq],.agg #[.bool false,.slice ar RL.length cr],.int .i64 0])) W:=fun W hW=>by
  subst hW;exact⟨_,_,rfl,⟨sb,aq,cq,QL,rfl,I1,hbo,fun A hA=>by have:=HBQ.out A hA;omega⟩,⟨false,RL,⟨ar,cr,rfl,I2⟩,hro⟩,HXF.out⟩
 simp [Leaves,settle,results,Tryz.results183,go_sem,e0,e1,e2,e3,e4];exact hfin _ rfl
theorem zJy (n2:Bool) (a b:Option Addr) (ca cb:Nat) (l m:List Int) (w:World) (h:Ints w a ca l) (k:Ints w b cb m) (h1:zBI true l=true) (h2:zBI n2 m=true) (hm:m≠[])
 (hdiv:∀W,Ext w W→Calls Tryz.prog 208 #[.slice a l.length ca,.slice b m.length cb] W (zJw l m a W)) (hc:0< (zA1 l % zA1 m).toNat):
 Calls Tryz.prog 183 #[.agg #[.bool true,.slice a l.length ca],.agg #[.bool n2,.slice b m.length cb]] w (zM3 (sgn true (zA1 l)) (sgn n2 (zA1 m)) w):=by
 obtain⟨w3,hw3,B1,B2,B3,B4,B5,hx,hs3⟩:=zJx w #[.bool true,.slice a l.length ca] #[.bool n2,.slice b m.length cb] #[.bool false,.slice none 0 0] #[.bool false,.slice none 0 0] #[.int .i64 0] 36 36 36 36 29;have hx4:=hx.alloc' (.cells #[.bool true,.slice a l.length ca,.bool n2,.slice b m.length cb] 36);have c0:=B1.cell (i:=0) (v:=.bool true) rfl;have c1:=B1.cell (i:=1) (v:=.slice a l.length ca) rfl;have c2:=B2.cell (i:=0) (v:=.bool n2) rfl;have c3:=B2.cell (i:=1) (v:=.slice b m.length cb) rfl;have H1:=dH (B1.alloc (.cells #[.bool true,.slice a l.length ca,.bool n2,.slice b m.length cb] 36));have H2:=dH (B2.alloc (.cells #[.bool true,.slice a l.length ca,.bool n2,.slice b m.length cb] 36));have H3:=dH (B3.alloc (.cells #[.bool true,.slice a l.length ca,.bool n2,.slice b m.length cb] 36));have H4:=dH (B4.alloc (.cells #[.bool true,.slice a l.length ca,.bool n2,.slice b m.length cb] 36));have H5:=dH (B5.alloc (.cells #[.bool true,.slice a l.length ca,.bool n2,.slice b m.length cb] 36));have HW:=dH hw3;have HC:=dH (zAN w3.heap.size true n2 a b ca cb l m _ (h.ext hx4) (k.ext hx4) (Blk.new0 w3 _ _) h1 h2);obtain⟨z1,y1⟩:=zAu h1;obtain⟨z2,y2⟩:=zAu h2;have HZ:=dH (zEx (n1:=true) (n2:=n2) z1.1 z2.1 y1 y2 hm);have HI:=dH h;have HJ:=dH k;have HN2:=dH z2.1;have HDV:=dH hdiv
 have HA:Hid (0<l.length→∀A,a=some A→A.block<w.heap.size):=dH (fun hn A hA=>by
  obtain⟨b0,o0,e0⟩:=h.head hn;have hI0:=h;rw [e0] at hA hI0;cases hA
  exact zAd (hI0.cell (i:=0) hn).1)
 have hml:0<m.length:=List.length_pos_iff.2 hm;have t1:(m.length == 0)=false:=by simp only [beq_eq_false_iff_ne];omega
 have t2:((m.length:Int) == 0)=false:=by simp only [beq_eq_false_iff_ne];omega
 have t3:decide (m.length=0)=false:=by simp only [decide_eq_false_iff_not];omega
 obtain⟨N,hN⟩:∃N,(zA1 l / zA1 m).toNat=N:=⟨_,rfl⟩
 obtain⟨R,hR⟩:∃R,(zA1 l % zA1 m).toNat=R:=⟨_,rfl⟩
 have HNN:=dH hN;have HRR:=dH hR;have HML:=dH hml;have HC1:=dH hc;rw [hR] at hc;have hrl:0< (digs R).length:=by rw [zBf hc];simp
 have t6:decide (0< (digs R).length)=true:=by simpa using hrl
 have HCM:=dH h2;clear hc;clear hm hml h1 h2 h k B1 B2 B3 B4 B5 hw3 hdiv z1 z2 y1 y2 hN hR
 go_enter_defers Tryz.func183,Tryz.ntmps183
 go_upto_region 1 with fail;rw [HW.out];simp only [Nat.add_assoc,Nat.reduceAdd];go_wp2_with fail;rw [hs3] at HC;refine HC.out.mono ?_;rintro e w5 ⟨rfl,hy⟩;have J3:=dH (H3.out.ext hy);have J4:=dH (H4.out.ext hy);have J5:=dH (H5.out.ext hy);have hx5:=hx4.trans hy;clear c0 c1 c2 c3 HC H3 H4 H5;have c1:=(H1.out.ext hy).cell (i:=1) (v:=.slice a l.length ca) rfl;have c3:=(H2.out.ext hy).cell (i:=1) (v:=.slice b m.length cb) rfl;have HD:=dH (HDV.out w5 hx5);clear HDV;go_wp2_with fail;refine HD.out.mono ?_;rintro e w6 ⟨aq,cq,ar,cr,rfl,hiq,hir,hbq,hbr,hy6⟩;rw [HNN.out] at hiq ⊢;rw [HRR.out] at hir ⊢;have G1:=dH ((H1.out.ext hy).ext hy6);have G2:=dH ((H2.out.ext hy).ext hy6);have G3:=dH (J3.out.ext hy6);have G4:=dH (J4.out.ext hy6);have G5:=dH (J5.out.ext hy6);have hx6:=hx5.trans hy6;have hs5:=J5.out.lt;have hs6:=hy6.size;have HIQ:=dH hiq;have HIR:=dH hir;have HBQ:=dH hbq;have HBR:=dH hbr;clear c1 c3 HD hy hy6 H1 H2 J3 J4 J5 hiq hir hbq hbr;have c0:=G1.out.cell (i:=0) (v:=.bool true) rfl;have c1:=G1.out.cell (i:=1) (v:=.slice a l.length ca) rfl;have c2:=G2.out.cell (i:=0) (v:=.bool n2) rfl;have c3:=G2.out.cell (i:=1) (v:=.slice b m.length cb) rfl;go_upto_region 8 with fail;have hI1:Ints (w6.alloc (.cells #[.int .i64 1] 3)) (some ⟨w6.heap.size,0,none⟩) 1 [1]:=IB.ints (g:=w6.heap.size) (L:=[1]) (Blk.new0 w6 #[.int .i64 1] 3) (fun x hx=>by obtain rfl:=List.mem_singleton.1 hx;omega) (by simp);have HADD:=zJr aq (some ⟨w6.heap.size,0,none⟩) cq 1 (digs N) [1] _ (HIQ.out.ext (Ext.alloc w6 (.cells #[.int .i64 1] 3)).drew) (show Ints (w6.alloc (.cells #[.int .i64 1] 3)).drew _ _ _ from hI1.ext (Ext.refl _).drew) (zA4 _).digs (zIO (d:=1) (by omega) (by omega)).1.digs (by have:=HZ.out.small.1;rw [HNN.out] at this;omega) (by simp);have hN1:(zA1 (digs N)+zA1 [1]).toNat=N+1:=by rw [zAF];simp only [zA1];omega
 rw [hN1] at HADD;have HSUB:=fun W (hy:Ext w6 W)=>zHy b ar cb cr m (digs R) W (HJ.out.ext (hx6.trans hy)) (HIR.out.ext hy) HN2.out.digs (zA4 _) (by have:=(zHB.1 HCM.out).1;omega) (by rw [zAF,←HRR.out];exact(HZ.out.up rfl HC1.out).2.2.2.2);have hR1:zA1 (digs R)= (R:Int):=zAF R;rw [hR1] at HSUB;obtain⟨V,hV⟩:∃V:Nat,(zA1 m - (R:Int)).toNat=V:=⟨_,rfl⟩
 rw [hV] at HSUB;have HV:=dH hV;have HADD:=dH HADD;have HSUB:=dH HSUB;have s0:(w6.drew).cell? ⟨w.heap.size+1,1,none⟩=some (.slice b m.length cb):=c3;have s1:((w6.alloc (.cells #[.int .i64 1] 3)).drew).cell? ⟨w.heap.size+1,1,none⟩=some (.slice b m.length cb):=(G2.out.alloc _).cell (i:=1) (v:=.slice b m.length cb) rfl;have hext:∀{A B:World},Ext A B→A.cell? ⟨w.heap.size+1,1,none⟩=some (.slice b m.length cb)→B.cell? ⟨w.heap.size+1,1,none⟩=some (.slice b m.length cb):=fun hAB h=>(hAB.cell (p:=⟨_,_,none⟩) (zAd h)).trans h;have HX10:=dH (Ext.alloc w6 (.cells #[.int .i64 1] 3)).drew;clear hN1 hR1 hI1 hV;refine wp_region_noPanic ?_;refine wp_region_held_drew (S:=(fun w'=>w'.cell? ⟨w.heap.size+1,1,none⟩=some (.slice b m.length cb))) (by kernel_rfl) ?_ (fun hHeld=>?_)
 ·(first | with_reducible exact s0 | with_reducible exact s1 | with_reducible exact hext hy7 hHeld | with_reducible exact hHeld | with_reducible exact hext hy8 hHeld)
 (try simp only [pur,Nat.reduceAdd])
 iterate 4
  refine tkR [0,3,4,5] (v:=?_) rfl rfl (by kernel_rfl) (fun _ _ _ h=>h) (by rfl) ?_ (by assumption) ?_;rotate_left
  ·(intro w hSw;(try dsimp only at hSw);(try go_simp);(try with_reducible rfl))
  (try simp only [Act.put,pus])
 repeat' first
  | (refine wpAnyH_done (by decide +kernel) ?_ _
     refine NoPanic.normal ?_;have hy10:=HX10.out.trans (hy7.trans hy8);have hx10:=hx6.trans hy10;have G8:=G3.out.ext hy10;have G9:=G4.out.ext hy10;have G10:=G5.out.ext hy10;have G11:=G1.out.ext hy10;have G12:=G2.out.ext hy10;have hs8:=hy10.size;clear c0 c1 c2 c3 s0 s1 hext hHeld;have c0:=G11.cell (i:=0) (v:=.bool true) rfl;have c2:=G12.cell (i:=0) (v:=.bool n2) rfl;clear G11 G12;obtain⟨QL,hQL⟩:∃QL,digs (N+1)=QL:=⟨_,rfl⟩
     obtain⟨RL,hRL⟩:∃RL,digs V=RL:=⟨_,rfl⟩
     have hB1:=zAZ (!n2) a7 c7 (digs (N+1)) w10 (hi7.ext hy8) (by rw [zAE (zA4 _)];rw [←HNN.out];exact(HZ.out.up rfl HC1.out).2.2.1);rw [zAE (zA4 _),hQL] at hB1;have hB2:=fun W' (hy:Ext w10 W')=>zAZ false a8 c8 (digs V) W' ((hi8).ext hy) (by rw [zAE (zA4 _)];rw [←HV.out,←HRR.out];exact(HZ.out.up rfl HC1.out).2.2.2.1);rw [zAE (zA4 _),hRL,Bool.false_and] at hB2;have HB1:=dH hB1;have HB2:=dH hB2;have HQL:=dH hQL;have HRL:=dH hRL;rw [hQL,hRL];clear hB1 hB2 hQL hRL;go_wp2_with fail;refine HB1.out.mono ?_;rintro e w8 ⟨rfl,hy8⟩;obtain⟨sb,hsb⟩:∃sb,((!n2) && decide (0<QL.length))=sb:=⟨_,rfl⟩
     rw [hsb];have HSB:=dH hsb;clear hsb;have HB3:=dH (HB2.out w8 hy8);go_wp2_with fail;refine HB3.out.mono ?_;rintro e w9 ⟨rfl,hy9⟩;have hyy:=hy8.trans hy9;have F3:=G8.ext hyy;have F4:=G9.ext hyy;have F5:=G10.ext hyy;have K3a:=(F3.set 0 (.bool sb)).set 1 (.slice a7 QL.length c7);have K4a:=(F4.other (p:=⟨w.heap.size+2,0,none⟩) (by dsimp only;omega) (.bool sb)).other (p:=⟨w.heap.size+2,1,none⟩) (by dsimp only;omega) (.slice a7 QL.length c7);have K5a:=(F5.other (p:=⟨w.heap.size+2,0,none⟩) (by dsimp only;omega) (.bool sb)).other (p:=⟨w.heap.size+2,1,none⟩) (by dsimp only;omega) (.slice a7 QL.length c7);have K3b:=(K3a.other (p:=⟨w.heap.size+3,0,none⟩) (by dsimp only;omega) (.bool false)).other (p:=⟨w.heap.size+3,1,none⟩) (by dsimp only;omega) (.slice a8 RL.length c8);have K4b:=(K4a.set 0 (.bool false)).set 1 (.slice a8 RL.length c8);have K5b:=(K5a.other (p:=⟨w.heap.size+3,0,none⟩) (by dsimp only;omega) (.bool false)).other (p:=⟨w.heap.size+3,1,none⟩) (by dsimp only;omega) (.slice a8 RL.length c8);have g0:=F3.cell (i:=0) (v:=.bool false) rfl;have g1:=(F3.set 0 (.bool sb)).cell (i:=1) (v:=.slice none 0 0) rfl;have g2:=K4a.cell (i:=0) (v:=.bool false) rfl;have g3:=(K4a.set 0 (.bool false)).cell (i:=1) (v:=.slice none 0 0) rfl;have g4:=K5b.cell (i:=0) (v:=.int .i64 0) rfl;have h0:=F3.free 0;have h1:=(F3.set 0 (.bool sb)).free 1;have h2:=K4a.free 0;have h3:=(K4a.set 0 (.bool false)).free 1;have h4:=K5b.free 0;have KK3:=dH (K3b.other (p:=⟨w.heap.size+4,0,none⟩) (by dsimp only;omega) (.int .i64 0));have KK4:=dH (K4b.other (p:=⟨w.heap.size+4,0,none⟩) (by dsimp only;omega) (.int .i64 0));have KK5:=dH (K5b.set 0 (.int .i64 0));have HXF:=dH ((((((hx10.trans hyy).set (p:=⟨w.heap.size+2,0,none⟩) (by dsimp only;omega) (.bool sb)).set (p:=⟨w.heap.size+2,1,none⟩) (by dsimp only;omega) (.slice a7 QL.length c7)).set (p:=⟨w.heap.size+3,0,none⟩) (by dsimp only;omega) (.bool false)).set (p:=⟨w.heap.size+3,1,none⟩) (by dsimp only;omega) (.slice a8 RL.length c8)).set (p:=⟨w.heap.size+4,0,none⟩) (by dsimp only;omega) (.int .i64 0));have HYY:=dH hyy;have HX9:=hx10.trans hyy;clear K3a K4a K5a K3b K4b K5b F3 F4 F5 HB1 HB2 HB3 c0 c2 hy8 hy9 hyy;go_wp2_with fail;refine leaves_cons (f:=146) (args:=#[.pointer (some ⟨w.heap.size+4,0,none⟩)]) (by simp) (by simp [go_sem]) ?_;refine(zAj ⟨w.heap.size+4,0,none⟩ _).mono ?_;rintro e u' w'' ⟨rfl,rfl,rfl⟩;simp only [settle];refine leaves_cons (f:=209) (args:=#[.pointer (some ⟨w.heap.size+4,0,none⟩),.pointer (some ⟨w.heap.size+2,0,none⟩),.pointer (some ⟨w.heap.size+3,0,none⟩)]) (by simp) (by simp [go_sem]) ?_;refine(zCl (w.heap.size+4) (w.heap.size+2) (w.heap.size+3) _ KK5.out).mono ?_;rintro e u' w'' ⟨rfl,rfl,rfl⟩;have hbq0:∀A,a7=some A→A.block≠w.heap.size+2∧A.block≠w.heap.size+3∧A.block≠w.heap.size+4:=fun A hA=>by
      have h9:=hb7 A hA;have h10:=HX10.out.size;omega
     have hbr0:0<RL.length→∀A,a8=some A→A.block≠w.heap.size+2∧A.block≠w.heap.size+3∧A.block≠w.heap.size+4:=fun hp A hA=>by
      have h9:=hb8 A hA;have h10:=HX10.out.size;have h11:=hy7.size;omega
     have I1:Ints w9 a7 c7 QL:=by rw [←HQL.out];exact((hi7.ext hy8)).ext HYY.out
     have I2:Ints w9 a8 c8 RL:=by rw [←HRL.out];exact(hi8).ext HYY.out
     have I1:=((((I1.putO (p:=⟨w.heap.size+2,0,none⟩) (fun A hA=>(hbq0 A hA).1) (.bool sb)).putO (p:=⟨w.heap.size+2,1,none⟩) (fun A hA=>(hbq0 A hA).1) (.slice a7 QL.length c7)).putO (p:=⟨w.heap.size+3,0,none⟩) (fun A hA=>(hbq0 A hA).2.1) (.bool false)).putO (p:=⟨w.heap.size+3,1,none⟩) (fun A hA=>(hbq0 A hA).2.1) (.slice a8 RL.length c8)).putO (p:=⟨w.heap.size+4,0,none⟩) (fun A hA=>(hbq0 A hA).2.2) (.int .i64 0);have I2:=((((I2.putS (p:=⟨w.heap.size+2,0,none⟩) (fun hp A hA=>(hbr0 hp A hA).1) (.bool sb)).putS (p:=⟨w.heap.size+2,1,none⟩) (fun hp A hA=>(hbr0 hp A hA).1) (.slice a7 QL.length c7)).putS (p:=⟨w.heap.size+3,0,none⟩) (fun hp A hA=>(hbr0 hp A hA).2.1) (.bool false)).putS (p:=⟨w.heap.size+3,1,none⟩) (fun hp A hA=>(hbr0 hp A hA).2.1) (.slice a8 RL.length c8)).putS (p:=⟨w.heap.size+4,0,none⟩) (fun hp A hA=>(hbr0 hp A hA).2.2) (.int .i64 0);have e0:=KK3.out.cell (i:=0) (v:=.bool sb) rfl;have e1:=KK3.out.cell (i:=1) (v:=.slice a7 QL.length c7) rfl;have e2:=KK4.out.cell (i:=0) (v:=.bool false) rfl;have e3:=KK4.out.cell (i:=1) (v:=.slice a8 RL.length c8) rfl;have e4:=KK5.out.cell (i:=0) (v:=.int .i64 0) rfl;have hz:sgn true (zA1 l) / sgn n2 (zA1 m)=sgn (!n2) ((N+1):Nat)∧sgn true (zA1 l) % sgn n2 (zA1 m)= (V:Nat):=by
      rw [←HV.out,←HNN.out,←HRR.out];have:=HZ.out.up rfl HC1.out;cases n2 <;> exact⟨this.1,this.2.1⟩
     have hbo:=zDo (!n2) ((N+1));rw [HQL.out,HSB.out,←hz.1] at hbo;have hro:=zDo false (V);rw [HRL.out,Bool.false_and,show sgn false ((V:Nat):Int)= ((V:Nat):Int) from rfl,←hz.2] at hro
     have hfin:∀W,W= (((((w9.setCell ⟨w.heap.size+2,0,none⟩ (.bool sb)).setCell ⟨w.heap.size+2,1,none⟩ (.slice a7 QL.length c7)).setCell ⟨w.heap.size+3,0,none⟩ (.bool false)).setCell ⟨w.heap.size+3,1,none⟩ (.slice a8 RL.length c8)).setCell ⟨w.heap.size+4,0,none⟩ (.int .i64 0))→
      zM3 (sgn true (zA1 l)) (sgn n2 (zA1 m)) w (.returned (.tuple #[.agg #[.bool sb,.slice a7 QL.length c7],.agg #[.bool false,.slice a8 RL.length c8],.int .i64 0])) W:=fun W hW=>by
      subst hW
      exact⟨_,_,rfl,⟨sb,a7,c7,QL,rfl,I1,hbo,fun A hA=>by
       have h9:=hb7 A hA;have h10:=HX10.out.size;omega⟩,⟨false,RL,⟨a8,c8,rfl,I2⟩,hro⟩,HXF.out⟩
     simp [Leaves,settle,results,Tryz.results183,go_sem,e0,e1,e2,e3,e4]
     exact hfin _ rfl)
  | (refine rdR [1,2,6,7,8] (by decide +kernel) (zAt ?_ (zAt ?_ (zAt ?_ (zAt ?_ (zAt ?_ zFw)))))
     first
     | exact noR (by decide +kernel)
     | (refine isR (o:=_) rfl (fun K hK=>?_)
        go_simp
        rotate_left)
     first
     | exact noR (by decide +kernel)
     | (refine isR (o:=_) rfl (fun K hK=>?_)
        go_simp;refine HADD.out.mono ?_;rintro e7 w7 ⟨v7,rfl,hO7,hy7⟩;obtain⟨a7,c7,rfl,hi7,hb7⟩:=hO7.form0 (zA4 _).digs
        rotate_left)
     first
     | exact noR (by decide +kernel)
     | (refine isR (o:=_) rfl (fun K hK=>?_)
        go_simp;refine(HSUB.out w7 (HX10.out.trans hy7)).mono ?_;rintro e8 w10 ⟨v8,rfl,hO8,hy8⟩;obtain⟨a8,c8,rfl,hi8,hb8⟩:=hO8.form0 (zA4 _).digs
        rotate_left)
     iterate 2
      first
      | exact noR (by decide +kernel)
      | (refine isR (o:=_) rfl (fun K hK=>?_)
         go_simp
         rotate_left)
     all_goals (
      refine hK.out _ _ ?_ ?_
      ·(first | with_reducible exact s0 | with_reducible exact s1 | with_reducible exact hext hy7 hHeld | with_reducible exact hHeld | with_reducible exact hext hy8 hHeld)
      clear hK K hHeld;intro hHeld
      (try simp only [Act.put,pus])))
end Go.Proofs.YtonkhcdmchidjaaGreat
