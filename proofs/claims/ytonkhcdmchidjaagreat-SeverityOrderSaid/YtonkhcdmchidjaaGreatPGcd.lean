import Derived.Test.YtonkhcdmchidjaaGreatPDivA
namespace Go.Proofs.YtonkhcdmchidjaaGreat
open Go.RowKit Go BigFrame Go.Shelf
set_option maxRecDepth 100000
set_option linter.all false
def zL5 (K:Nat):Prop:=∀ (a b:Option Addr) (ca cb:Nat) (l m:List Int) (w:World),Ints w a ca l→Ints w b cb m→Norm l→Norm m→m≠[]→l.length≤K→m.length≤K→
 Calls Tryz.prog 208 #[.slice a l.length ca,.slice b m.length cb] w (zJw l m a w)
theorem zJz {u v:Nat} (h:u≤v):(digs u).length≤(digs v).length:=by
 apply zC8;have h1:=zAy (zA4 v).digs;rw [zAF] at h1;have h2:=zFr (digs v).length;generalize (1073741824:Int) ^ (digs v).length=P at *;generalize (1073741824:Nat) ^ (digs v).length=Q at *;omega
def GcdP (z:Int) (w:World) (e:Ending) (w':World):Prop:=∃v,e=.returned (.tuple #[v,.int .i64 0])∧BigV w' v z∧Ext w w'
set_option maxHeartbeats 2000000 in
theorem zIW (n1 n2:Bool) (a b:Option Addr) (ca cb:Nat) (l m:List Int) (w:World) (h:Ints w a ca l) (k:Ints w b cb m) (h1:zBI n1 l=true) (h2:zBI n2 m=true) (K:Nat) (hK:K≤2048) (hdiv:zL5 K) (hl1:l.length≤K) (hl2:m.length≤K):
 Calls Tryz.prog 182 #[.agg #[.bool n1,.slice a l.length ca],.agg #[.bool n2,.slice b m.length cb]] w (GcdP (Nat.gcd (zA1 l).toNat (zA1 m).toNat:Nat) w):=by
 obtain⟨w3,hw3⟩:∃w3,((((w.alloc (.cells #[.bool n1,.slice a l.length ca] 36)).alloc (.cells #[.bool n2,.slice b m.length cb] 36)).alloc (.cells #[.bool false,.slice none 0 0] 36)).alloc (.cells #[.int .i64 0] 29))=w3:=⟨_,rfl⟩
 have B1:=(((Blk.new0 w #[.bool n1,.slice a l.length ca] 36).alloc (.cells #[.bool n2,.slice b m.length cb] 36)).alloc (.cells #[.bool false,.slice none 0 0] 36)).alloc (.cells #[.int .i64 0] 29);have B2:=((Blk.new1 w (.cells #[.bool n1,.slice a l.length ca] 36) #[.bool n2,.slice b m.length cb] 36).alloc (.cells #[.bool false,.slice none 0 0] 36)).alloc (.cells #[.int .i64 0] 29);have B3:=(Blk.new2 w (.cells #[.bool n1,.slice a l.length ca] 36) (.cells #[.bool n2,.slice b m.length cb] 36) #[.bool false,.slice none 0 0] 36).alloc (.cells #[.int .i64 0] 29);have B4:=Blk.new2 (w.alloc (.cells #[.bool n1,.slice a l.length ca] 36)) (.cells #[.bool n2,.slice b m.length cb] 36) (.cells #[.bool false,.slice none 0 0] 36) #[.int .i64 0] 29;simp only [World.size_alloc,Nat.add_assoc,Nat.reduceAdd] at B4;have hx:Ext w w3:=by rw [←hw3];exact(by repeat (first | with_reducible exact Ext.refl _ | with_reducible assumption | with_reducible refine Ext.drewN ?_ _ | with_reducible refine Ext.drew ?_ | with_reducible refine Ext.alloc' ?_ _ | with_reducible refine Ext.set ?_ (by dsimp only;omega) _))
 have hs3:w3.heap.size=w.heap.size+4:=by rw [←hw3];simp
 rw [hw3] at B1 B2 B3 B4;have hx4:=hx.alloc' (.cells #[.bool n1,.slice a l.length ca,.bool n2,.slice b m.length cb] 36);have c0:=B1.cell (i:=0) (v:=.bool n1) rfl;have c1:=B1.cell (i:=1) (v:=.slice a l.length ca) rfl;have c2:=B2.cell (i:=0) (v:=.bool n2) rfl;have c3:=B2.cell (i:=1) (v:=.slice b m.length cb) rfl;have H3:=dH (B3.alloc (.cells #[.bool n1,.slice a l.length ca,.bool n2,.slice b m.length cb] 36));have H4:=dH (B4.alloc (.cells #[.bool n1,.slice a l.length ca,.bool n2,.slice b m.length cb] 36));have HW:=dH hw3;have HC:=dH (zAN w3.heap.size n1 n2 a b ca cb l m _ (h.ext hx4) (k.ext hx4) (Blk.new0 w3 _ _) h1 h2);obtain⟨z1,y1⟩:=zAu h1;obtain⟨z2,y2⟩:=zAu h2;have H1:=dH (B1.alloc (.cells #[.bool n1,.slice a l.length ca,.bool n2,.slice b m.length cb] 36));have H2:=dH (B2.alloc (.cells #[.bool n1,.slice a l.length ca,.bool n2,.slice b m.length cb] 36))
 have HA:Hid (∀ (l':List Int) (a':Option Addr) (c':Nat),Ints w a' c' l'→0<l'.length→∀A,a'=some A→A.block<w.heap.size):=dH (fun l' a' c' hI hn A hA=>by
  obtain⟨b0,o0,e0⟩:=hI.head hn;rw [e0] at hA hI;cases hA
  exact zAd (hI.cell (i:=0) hn).1)
 have HI:=dH h;have HJ:=dH k;have HDV:=dH hdiv;have HZ1:=dH z1.1;have HZ2:=dH z2.1;have HLL:=dH (show l.length≤K∧m.length≤K from⟨hl1,hl2⟩);have HKK:=dH hK;clear z1 z2 y1 y2 h1 h2 h k B1 B2 B3 B4 hw3 hdiv hl1 hl2 hK
 go_enter_defers Tryz.func182,Tryz.ntmps182
 go_upto_region 1 with fail;rw [HW.out];simp only [Nat.add_assoc,Nat.reduceAdd];go_wp2_with fail;rw [hs3] at HC;refine HC.out.mono ?_;rintro e w5 ⟨rfl,hy⟩;have H5:=dH (H3.out.ext hy);have H6:=dH (H4.out.ext hy);have hx5:=hx4.trans hy;clear c0 c1 c2 c3 HC H3 H4;have c1:=(H1.out.ext hy).cell (i:=1) (v:=.slice a l.length ca) rfl;have c3:=(H2.out.ext hy).cell (i:=1) (v:=.slice b m.length cb) rfl;go_upto_region 3 with fail
 go_quiet (fail)
 have J5:=dH (H5.out.drewN nq);have J6:=dH (H6.out.drewN nq);have hx6:=hx5.drewN nq;generalize w5.drewN nq=w6 at *;clear c1 c3 H1 H2 H5 H6;have hs6:w.heap.size+4≤w6.heap.size:=J6.out.lt;obtain⟨X0,hX0⟩:∃X0,(zA1 l).toNat=X0:=⟨_,rfl⟩
 obtain⟨Y0,hY0⟩:∃Y0,(zA1 m).toNat=Y0:=⟨_,rfl⟩
 have HL1:=dH (show digs X0=l by rw [←hX0];exact zEv HZ1.out);have HL2:=dH (show digs Y0=m by rw [←hY0];exact zEv HZ2.out);obtain⟨G,hG⟩:∃G,Nat.gcd X0 Y0=G:=⟨_,rfl⟩
 have HG:=dH hG;have HGG:=dH (show Nat.gcd (zA1 l).toNat (zA1 m).toNat=G by rw [hX0,hY0];exact hG);clear hG hX0 hY0;go_wp2_with fail
 go_loopg [6,7] Y0 (fun k vm vn wr=>∃ (X:Nat) (am an:Option Addr) (cm cn L1 L2:Nat),vm=.slice am L1 cm∧vn=.slice an L2 cn∧L1= (digs X).length∧L2= (digs k).length∧Ints wr am cm (digs X)∧Ints wr an cn (digs k)∧
  L1≤K∧L2≤K∧Nat.gcd X k=G∧(0<L1→∀A,am=some A→A.block≠w.heap.size+2∧A.block≠w.heap.size+3)∧(0<L2→∀A,an=some A→A.block≠w.heap.size+2∧A.block≠w.heap.size+3)∧Ext w6 wr)
 case atStart=>
  refine⟨X0,a,b,ca,cb,l.length,m.length,rfl,rfl,by rw [HL1.out],by rw [HL2.out],?_,?_,HLL.out.1,HLL.out.2,HG.out,?_,?_,Ext.refl _⟩
  ·rw [HL1.out];exact HI.out.ext hx6
  ·rw [HL2.out];exact HJ.out.ext hx6
  ·exact fun hp A hA=>by have:=HA.out l a ca HI.out hp A hA;omega
  ·exact fun hp A hA=>by have:=HA.out m b cb HJ.out hp A hA;omega
 case round=>
  clear HL1 HL2 HI HJ HA HLL HG HZ1 HZ2;obtain⟨X,am,an,cm,cn,L1,L2,rfl,rfl,hL1,hL2,hi,hj,k1,k2,hg,ha,hb,hxr⟩:=hrel;by_cases hk:gk=0
  ·subst hk;rw [zAO] at hL2;obtain rfl:L2=0:=by simpa using hL2
   have hG2:X=G:=by rw [←hg];exact(Nat.gcd_zero_right X).symm
   have hB:=zAZ false am cm (digs X) wr hi (by rw [zAE (zA4 _),←hL1];have:=HKK.out;omega);rw [zAE (zA4 _),←hL1,Bool.false_and] at hB;have HB:=dH hB;have K5:=dH (J5.out.ext hxr);have K6:=dH (J6.out.ext hxr);have HIX:=dH hi;have HH:=dH (And.intro hL1 (And.intro hG2 ha));have hx7:=dH (hx6.trans hxr);clear hB hi hj hL1 hL2 hg ha hb hG2 J5 J6;go_wp2_with fail;refine HB.out.mono ?_;rintro e w8 ⟨rfl,hy8⟩;have F5:=K5.out.ext hy8;have F6:=K6.out.ext hy8;have d0:=F5.cell (i:=0) (v:=.bool false) rfl;have d1:=(F5.set 0 (.bool false)).cell (i:=1) (v:=.slice none 0 0) rfl;have d2:=((F6.other (p:=⟨w.heap.size+2,0,none⟩) (by dsimp only;omega) (.bool false)).other (p:=⟨w.heap.size+2,1,none⟩) (by dsimp only;omega) (.slice am L1 cm)).cell (i:=0) (v:=.int .i64 0) rfl;have f0:=F5.free 0;have f1:=(F5.set 0 (.bool false)).free 1;have f2:=((F6.other (p:=⟨w.heap.size+2,0,none⟩) (by dsimp only;omega) (.bool false)).other (p:=⟨w.heap.size+2,1,none⟩) (by dsimp only;omega) (.slice am L1 cm)).free 0;have M5:=dH (((F5.set 0 (.bool false)).set 1 (.slice am L1 cm)).other (p:=⟨w.heap.size+3,0,none⟩) (by dsimp only;omega) (.int .i64 0));have M6:=dH (((F6.other (p:=⟨w.heap.size+2,0,none⟩) (by dsimp only;omega) (.bool false)).other (p:=⟨w.heap.size+2,1,none⟩) (by dsimp only;omega) (.slice am L1 cm)).set 0 (.int .i64 0));have HX8:=dH (((((hx7.out.trans hy8).set (p:=⟨w.heap.size+2,0,none⟩) (by dsimp only;omega) (.bool false)).set (p:=⟨w.heap.size+2,1,none⟩) (by dsimp only;omega) (.slice am L1 cm)).set (p:=⟨w.heap.size+3,0,none⟩) (by dsimp only;omega) (.int .i64 0)));have HY8:=dH hy8;clear F5 F6 hy8 HB;go_wp2_with fail;refine leaves_cons (f:=146) (args:=#[.pointer (some ⟨w.heap.size+3,0,none⟩)]) (by simp) (by simp [go_sem]) ?_;refine(zAj ⟨w.heap.size+3,0,none⟩ _).mono ?_;rintro e u' w'' ⟨rfl,rfl,rfl⟩;have e0:=M5.out.cell (i:=0) (v:=.bool false) rfl;have e1:=M5.out.cell (i:=1) (v:=.slice am L1 cm) rfl;have e2:=M6.out.cell (i:=0) (v:=.int .i64 0) rfl;obtain⟨hL1,hG2,ha⟩:=HH.out;have I1:=(((HIX.out.ext HY8.out).putS (p:=⟨w.heap.size+2,0,none⟩) (fun hp A hA=>(ha (by omega) A hA).1) (.bool false)).putS (p:=⟨w.heap.size+2,1,none⟩) (fun hp A hA=>(ha (by omega) A hA).1) (.slice am L1 cm)).putS (p:=⟨w.heap.size+3,0,none⟩) (fun hp A hA=>(ha (by omega) A hA).2) (.int .i64 0);have hbo:=zDo false X;rw [Bool.false_and] at hbo;have hfin:GcdP ((Nat.gcd (zA1 l).toNat (zA1 m).toNat:Nat):Int) w (.returned (.tuple #[.agg #[.bool false,.slice am L1 cm],.int .i64 0])) (((w8.setCell ⟨w.heap.size+2,0,none⟩ (.bool false)).setCell ⟨w.heap.size+2,1,none⟩ (.slice am L1 cm)).setCell ⟨w.heap.size+3,0,none⟩ (.int .i64 0)):=by
    rw [HGG.out];refine⟨_,rfl,⟨false,digs X,⟨am,cm,by rw [hL1],I1⟩,?_⟩,HX8.out⟩;rw [←hG2];exact hbo
   simp [Leaves,settle,results,Tryz.results182,go_sem,e0,e1,e2];exact hfin
  ·have hp:0<L2:=by rw [hL2,zBf (by omega)];simp
   have hD:=HDV.out am an cm cn (digs X) (digs gk) wr hi hj (zA4 _) (zA4 _) (fun e=>by rw [hL2,e] at hp;simp at hp) (by omega) (by omega);rw [←hL1,←hL2] at hD;have HD:=dH hD;have hr:(zA1 (digs X) % zA1 (digs gk)).toNat=X % gk:=by rw [zAF,zAF,←Int.natCast_emod,Int.toNat_natCast]
   have HR:=dH hr;have HIX:=dH hi;have HJX:=dH hj;have HH:=dH (And.intro hL1 (And.intro hL2 (And.intro k1 (And.intro k2 (And.intro hg (And.intro ha hb))))));have d1:decide (0<L2)=true:=by simpa using hp
   have d2:decide ((0:Int)< (L2:Int))=true:=by simp only [decide_eq_true_eq];omega
   have HP:=dH (And.intro hp hk);have hsr:=hxr.size;clear hD hr hi hj hL1 hL2 hg ha hb hk;go_wp2_with fail;refine HD.out.mono ?_;rintro e w8 ⟨aq,cq,ar,cr,rfl,hiq,hir,hbq,hbr,hy8⟩;rw [HR.out] at hir ⊢;have HIR:=dH hir;have HBR:=dH hbr;have HY8:=dH hy8;clear hiq hir hbq hbr hy8 HD;go_wp2_with fail
   go_roundg (X % gk)
   case measure=>exact Nat.mod_lt _ (by have:=HP.out.2;omega)
   case rel=>
    obtain⟨hL1,hL2,k1,k2,hg,ha,hb⟩:=HH.out;have hmod:X % gk<gk:=Nat.mod_lt _ (by have:=HP.out.2;omega);refine⟨gk,an,ar,cn,cr,L2,(digs (X % gk)).length,rfl,rfl,hL2,rfl,HJX.out.ext HY8.out,HIR.out,k2,?_,?_,hb,?_,hxr.trans HY8.out⟩
    ·have:=zJz (u:=X % gk) (v:=gk) (by omega);omega
    ·rw [←hg,Nat.gcd_comm X gk,Nat.gcd_rec gk X,Nat.gcd_comm]
    ·intro hp2 A hA;rcases HBR.out A hA with h | ⟨A',hA',h⟩
     ·omega
     ·rw [h];refine ha ?_ A' hA';rw [hL1];refine Nat.pos_of_ne_zero fun h0=>?_;have hX0:X=0:=Nat.eq_zero_of_not_pos fun hX=>by rw [zBf hX] at h0;simp at h0
      rw [hX0,Nat.zero_mod,zAO] at hp2;simp at hp2
theorem zMH {v u:Value} {z y:Int} {w:World} {K:Nat} (hK:K≤2048) (hdiv:zL5 K) (hv:BigV w v z) (hu:BigV w u y) (hz:(digs z.natAbs).length≤K) (hy:(digs y.natAbs).length≤K):Calls Tryz.prog 182 #[v,u] w (GcdP (Int.gcd z y:Nat) w):=by
 obtain⟨n1,l,⟨a,ca,rfl,hi⟩,hb⟩:=hv;obtain⟨n2,m,⟨b,cb,rfl,hj⟩,hc⟩:=hu;have:=zIW n1 n2 a b ca cb l m w hi hj (hb.chk (Nat.le_trans hz hK)) (hc.chk (Nat.le_trans hy hK)) K hK hdiv (by rw [hb.digs];exact hz) (by rw [hc.digs];exact hy);have e1:(zA1 l).toNat=z.natAbs:=by
  have:=zA2 hb.1.digs;rw [hb.sgn];unfold sgn;split <;> omega
 have e2:(zA1 m).toNat=y.natAbs:=by
  have:=zA2 hc.1.digs;rw [hc.sgn];unfold sgn;split <;> omega
 rw [e1,e2] at this;exact this
theorem zMI {v u:Value} {z y:Int} {w:World} {K:Nat} (hK:K≤2048) (hdiv:zL5 K) (hv:BigV w v z) (hu:BigV w u y) (hz:(digs z.natAbs).length≤K) (hy:(digs y.natAbs).length≤K) (hne:y≠0):Calls Tryz.prog 183 #[v,u] w (zM3 z y w):=by
 obtain⟨n1,l,⟨a,ca,rfl,hi⟩,hb⟩:=hv;obtain⟨n2,m,⟨b,cb,rfl,hj⟩,hc⟩:=hu;have hm:m≠[]:=fun e=>by
  subst e;have:=hc.2.2;simp [zA1] at this;exact hne this
 have h1:=hb.chk (Nat.le_trans hz hK);have h2:=hc.chk (Nat.le_trans hy hK);have hd:=fun W (hx:Ext w W)=>hdiv a b ca cb l m W (hi.ext hx) (hj.ext hx) hb.1 hc.1 hm (by rw [hb.digs];exact hz) (by rw [hc.digs];exact hy);rw [hb.sgn,hc.sgn];cases n1
 ·exact zIU n2 a b ca cb l m w hi hj h1 h2 hm hd
 ·by_cases hr:(zA1 l % zA1 m).toNat=0
  ·exact zIV n2 a b ca cb l m w hi hj h1 h2 hm hd hr
  ·exact zJy n2 a b ca cb l m w hi hj h1 h2 hm hd (by omega)
end Go.Proofs.YtonkhcdmchidjaaGreat
