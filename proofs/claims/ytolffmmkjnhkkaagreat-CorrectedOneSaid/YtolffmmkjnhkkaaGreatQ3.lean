import Derived.Test.YtolffmmkjnhkkaaGreatQ2
import Derived.Test.YtolffmmkjnhkkaaGreatNMake2
import Derived.Deep.Cut
import Derived.Deep.LoopGhost
namespace Go.Proofs.YtolffmmkjnhkkaaGreat
open Go.RowKit Go BigFrame
set_option maxRecDepth 100000
set_option linter.unusedSimpArgs false
set_option linter.unusedVariables false
structure RatA where
 n:Bool
 a:Option Addr
 c:Nat
 l:List Int
 n2:Bool
 b:Option Addr
 d:Nat
 m:List Int
def RatA.ok (x:RatA):Bool:=okR x.n x.l x.n2 x.m
def RatA.val (x:RatA):Value:=.agg #[.bool x.n,.slice x.a x.l.length x.c,.bool x.n2,.slice x.b x.m.length x.d]
structure RatRow (w:World) (g:Nat) (L:List RatA):Prop where
 c0:∀i (h:i<L.length),w.cell? ⟨g,i*4,none⟩=some (.bool L[i].n)
 c1:∀i (h:i<L.length),w.cell? ⟨g,i*4+1,none⟩=some (.slice L[i].a L[i].l.length L[i].c)
 c2:∀i (h:i<L.length),w.cell? ⟨g,i*4+2,none⟩=some (.bool L[i].n2)
 c3:∀i (h:i<L.length),w.cell? ⟨g,i*4+3,none⟩=some (.slice L[i].b L[i].m.length L[i].d)
 i:∀i (h:i<L.length),Ints w L[i].a L[i].c L[i].l
 j:∀i (h:i<L.length),Ints w L[i].b L[i].d L[i].m
theorem take_getQ {α:Type} {l:List α} {k:Nat} {x:α} (h:l[k]? =some x):l.take (k+1)=l.take k ++ [x]:=by
 rw [List.take_add_one,h];rfl
set_option maxHeartbeats 2000000 in
theorem ratio_valid_yes (g:Nat) (L:List RatA) (w:World) (h:RatRow w g L) (hl:L.length≤100) (hok:∀x∈L,x.ok=true):
 Calls Tryz.prog 38 #[.slice (some ⟨g,0,none⟩) L.length L.length] w fun e w'=>e=.returned (.tuple #[])∧Ext w w':=by
 have HH:=Lib.hid h
 have HOK:=Lib.hid hok
 clear h hok
 go_enter Tryz.func38,Tryz.ntmps38
 go_wp2_with fail
 go_loopw [6] (fun i wr=>∃k:Nat,k≤L.length∧i=.int .i64 k∧Ext w wr) (fun i _=>L.length - (intOf i).toNat)
 case atStart=>exact⟨0,Nat.zero_le _,rfl,Ext.refl _⟩
 case round=>
  obtain⟨k,hk,rfl,hxr⟩:=hrel
  by_cases hkn:k<L.length
  ·have e0:=HH.out.c0 k hkn
   have e1:=HH.out.c1 k hkn
   have e2:=HH.out.c2 k hkn
   have e3:=HH.out.c3 k hkn
   have hi:=HH.out.i k hkn
   have hj:=HH.out.j k hkn
   have hok:=HOK.out L[k] (List.getElem_mem hkn)
   have htk:=Lib.hid (take_getQ (List.getElem?_eq_getElem hkn))
   generalize L[k]=X at *
   obtain⟨n,a,c,l,n2,b,d,m⟩:=X
   dsimp only at e0 e1 e2 e3 hi hj
   have c0:=(hxr.cell (p:=⟨g,k*4,none⟩) (lt_of_cell e0)).trans e0
   have c1:=(hxr.cell (p:=⟨g,k*4+1,none⟩) (lt_of_cell e1)).trans e1
   have c2:=(hxr.cell (p:=⟨g,k*4+2,none⟩) (lt_of_cell e2)).trans e2
   have c3:=(hxr.cell (p:=⟨g,k*4+3,none⟩) (lt_of_cell e3)).trans e3
   have hxx:=hxr.alloc' (.cells #[.bool n,.slice a l.length c,.bool n2,.slice b m.length d] 38)
   have HC:=ratio_Check n n2 a b c d l m _ (hi.ext hxx) (hj.ext hxx)
   have g1:(0:Int)≤(k:Int):=by omega
   have g2:(k:Int)< (L.length:Int):=by omega
   clear e0 e1 e2 e3 hi hj
   have hok:okR n l n2 m=true:=hok
   rw [hok] at HC
   have HC:=Lib.hid (show Calls Tryz.prog 62 _ _ fun e w'=>e=.returned (.int .i64 0)∧Ext _ w' from HC)
   clear hok
   go_wp2_with fail
   refine HC.out.mono ?_
   rintro e w3 ⟨rfl,hy⟩
   go_wp2_with fail
   refine(ratio_need_yes 100 _).mono ?_
   rintro e w4 ⟨rfl,hy4⟩
   go_wp2_with fail
   go_roundw
   case rel=>exact⟨k+1,by omega,by go_num,(hxx.trans hy).trans hy4⟩
   case measure=>simp [intOf];omega
  ·obtain rfl:k=L.length:=by omega
   go_wp2_with fail
   go_end0
   exact⟨rfl,hxr⟩
theorem len_gcd {x y:Int} (hx:Len x) (hy:Len y):Len ((Int.gcd x y:Nat):Int):=by
 have key:∀n,(digs x.natAbs).length≤n→(digs y.natAbs).length≤n→n≤2048→Len ((Int.gcd x y:Nat):Int):=fun n h1 h2 h3=>len_lt (gcd_lt (abs_lt h1) (abs_lt h2)) h3
 exact key 2048 hx hy (Nat.le_refl _)
theorem gcd_ne {x y:Int} (hy:y≠0):((Int.gcd x y:Nat):Int)≠0:=by
 have:=Int.gcd_pos_of_ne_zero_right x hy
 omega
theorem BigV.neg1 {n:Bool} {a:Option Addr} {q c:Nat} {z:Int} {w:World} (h:BigV w (.agg #[.bool n,.slice a q c]) z) (hz:z<0):n=true:=by
 obtain⟨n',l,⟨a',c',e,hi⟩,hb⟩:=h
 simp only [Value.agg.injEq,Array.mk.injEq,List.cons.injEq,Value.bool.injEq,Value.slice.injEq,and_true] at e
 obtain⟨rfl,_⟩:=e
 have h2:=dval_nonneg hb.1.digs
 have h3:=hb.2.2
 cases n
 ·simp at h3;omega
 ·rfl
theorem BigV.minus {n:Bool} {a:Option Addr} {q c:Nat} {z:Int} {w:World} (h:BigV w (.agg #[.bool n,.slice a q c]) z):BigV w (.agg #[.bool (!n && decide (0<q)),.slice a q c]) (-z):=by
 obtain⟨n',l,⟨a',c',e,hi⟩,hb⟩:=h
 simp only [Value.agg.injEq,Array.mk.injEq,List.cons.injEq,Value.bool.injEq,Value.slice.injEq,and_true] at e
 obtain⟨rfl,rfl,rfl,rfl⟩:=e
 refine⟨_,l,⟨a,c,rfl,hi⟩,?_,fun h=>?_,?_⟩
 ·exact hb.1
 ·rw [Bool.and_eq_true,decide_eq_true_eq] at h
  exact List.ne_nil_of_length_pos h.2
 ·have h3:=hb.2.2
  by_cases hl:l=[]
  ·subst hl;simp [dval] at h3 ⊢;omega
  ·have hp:=List.length_pos_iff.2 hl
   rw [decide_eq_true hp]
   cases n <;> simp at h3 ⊢ <;> omega
theorem ediv_gcd_nonneg {z y:Int} (hy:0<y):0≤y / ((Int.gcd z y:Nat):Int):=Int.ediv_nonneg (by omega) (by omega)
theorem ediv_gcd_neg {z y:Int} (hy:y<0):y / ((Int.gcd z y:Nat):Int)<0:=by
 have h:=(low_neg (z:=z) hy).2
 have:=rat_den_pos (Rat.divInt z y)
 omega
set_option maxHeartbeats 2000000 in
theorem ratio_lowest_pos {n1 n2:Bool} {a b:Option Addr} {q c k d:Nat} {z y:Int} {w:World} (hz:BigV w (.agg #[.bool n1,.slice a q c]) z) (hy:BigV w (.agg #[.bool n2,.slice b k d]) y) (lz:Len z) (ly:Len y) (h0:0<y):Calls Tryz.prog 42 #[.agg #[.bool n1,.slice a q c,.bool n2,.slice b k d]] w fun e w'=>∃v,e=.returned v∧RatN w' v (Rat.divInt z y) w.heap.size∧Ext w w':=by
 have Lz:=Lib.hid lz
 have Ly:=Lib.hid ly
 have H0:=Lib.hid h0
 have Lg:=Lib.hid (len_gcd lz ly)
 have Gn:=Lib.hid (gcd_ne (x:=z) (y:=y) (by omega))
 have Vz:=Lib.hid hz
 have Vy:=Lib.hid hy
 clear lz ly h0 hz hy
 obtain⟨x1,hw,hx,Kp,Kr⟩:=boxQ2 w #[.bool n1,.slice a q c,.bool n2,.slice b k d] 73 #[.bool false,.slice none 0 0,.bool false,.slice none 0 0] 38
 replace hw:=Lib.hid hw
 have Vz:=Lib.hid (Vz.out.ext hx)
 have Vy:=Lib.hid (Vy.out.ext hx)
 go_enter Tryz.func42,Tryz.ntmps42
 go_upto_region 1 with fail
 try simp only [Nat.add_assoc,Nat.reduceAdd,Nat.add_zero]
 rw [hw.out]
 clear hw
 have hs0:=hx.size
 obtain⟨cp0,cp1,cp2,cp3⟩:=bk4 Kp
 obtain⟨cr0,cr1,cr2,cr3⟩:=bk4 Kr
 go_wp2_with fail
 with_reducible refine(gcd_any Vz.out Vy.out Lz.out Ly.out).mono ?_
 clear cp0 cp1 cp2 cp3 cr0 cr1 cr2 cr3
 rintro e x2 ⟨v,rfl,hv,hy⟩
 replace hx:=hx.trans hy
 replace Kp:=kE Kp hy
 replace Kr:=kE Kr hy
 replace Vz:=Lib.hid (Vz.out.ext hy)
 replace Vy:=Lib.hid (Vy.out.ext hy)
 clear hy
 obtain⟨ng,ag,qg,cg,rfl⟩:=hv.form
 have Vg:=Lib.hid hv
 clear hv
 go_wp2_with fail
 with_reducible refine(ratio_didB _ _ _ _ _).mono ?_
 rintro e x3 ⟨rfl,hy⟩
 replace hx:=hx.trans hy
 replace Kp:=kE Kp hy
 replace Kr:=kE Kr hy
 replace Vz:=Lib.hid (Vz.out.ext hy)
 replace Vy:=Lib.hid (Vy.out.ext hy)
 replace Vg:=Lib.hid (Vg.out.ext hy)
 clear hy
 go_upto_region 2 with fail
 have hl:=Ext.alloc x3 (.cells #[.bool ng,.slice ag qg cg] 36)
 have lpg:w.heap.size<x3.heap.size:=Kp.out.lt
 have lrg:w.heap.size+1<x3.heap.size:=Kr.out.lt
 have hpg:w.heap.size≤x3.heap.size:=hx.size
 replace hx:=hx.trans hl
 replace Kp:=kE Kp hl
 replace Kr:=kE Kr hl
 replace Vz:=Lib.hid (Vz.out.ext hl)
 replace Vy:=Lib.hid (Vy.out.ext hl)
 replace Vg:=Lib.hid (Vg.out.ext hl)
 have Kg:=Lib.hid (Blk.new0 x3 #[.bool ng,.slice ag qg cg] 36)
 clear hl
 generalize x3.alloc (.cells #[.bool ng,.slice ag qg cg] 36)=x4 at *
 generalize x3.heap.size=pg at *
 obtain⟨cp0,cp1,cp2,cp3⟩:=bk4 Kp
 obtain⟨cr0,cr1,cr2,cr3⟩:=bk4 Kr
 obtain⟨cg0,cg1⟩:=bk2 Kg
 have hsz:=hx.size
 go_wp2_with fail
 with_reducible refine(div_any Vz.out Vg.out Lz.out Lg.out Gn.out).mono ?_
 clear cp0 cp1 cp2 cp3 cr0 cr1 cr2 cr3 cg0 cg1
 rintro e x5 ⟨v,u,rfl,hv,hu,hy⟩
 replace hx:=hx.trans hy
 replace Kp:=kE Kp hy
 replace Kr:=kE Kr hy
 replace Kg:=kE Kg hy
 replace Vz:=Lib.hid (Vz.out.ext hy)
 replace Vy:=Lib.hid (Vy.out.ext hy)
 replace Vg:=Lib.hid (Vg.out.ext hy)
 clear hy
 obtain⟨nn,an,qn,cn,rfl,hv',hf'⟩:=hv.two
 have Vn:=Lib.hid hv'
 have Fn:=Lib.hid (fun A hA=>Nat.le_trans hsz (hf' A hA))
 clear hv' hf' hsz
 obtain⟨ne,ae,qe,ce,rfl⟩:=hu.form
 have Ve:=Lib.hid hu
 clear hu
 go_upto_region 3 with fail
 have hl:Ext x5 ((x5.alloc (.cells #[.bool nn,.slice an qn cn] 36)).alloc (.cells #[.bool ne,.slice ae qe ce] 36)):=(Ext.alloc _ _).alloc' _
 have lpn:w.heap.size<x5.heap.size:=Kp.out.lt
 have lrn:w.heap.size+1<x5.heap.size:=Kr.out.lt
 have lgn:pg<x5.heap.size:=Kg.out.lt
 have hpn:w.heap.size≤x5.heap.size:=hx.size
 replace hx:=hx.trans hl
 replace Kp:=kE Kp hl
 replace Kr:=kE Kr hl
 replace Kg:=kE Kg hl
 replace Vz:=Lib.hid (Vz.out.ext hl)
 replace Vy:=Lib.hid (Vy.out.ext hl)
 replace Vg:=Lib.hid (Vg.out.ext hl)
 replace Vn:=Lib.hid (Vn.out.ext hl)
 replace Ve:=Lib.hid (Ve.out.ext hl)
 have Kn:=Lib.hid ((Blk.new0 x5 #[.bool nn,.slice an qn cn] 36).alloc (.cells #[.bool ne,.slice ae qe ce] 36))
 have Ke:=Lib.hid (Blk.new1 x5 (.cells #[.bool nn,.slice an qn cn] 36) #[.bool ne,.slice ae qe ce] 36)
 clear hl
 generalize (x5.alloc (.cells #[.bool nn,.slice an qn cn] 36)).alloc (.cells #[.bool ne,.slice ae qe ce] 36)=x6 at *
 generalize x5.heap.size=pn at *
 obtain⟨cp0,cp1,cp2,cp3⟩:=bk4 Kp
 obtain⟨cr0,cr1,cr2,cr3⟩:=bk4 Kr
 obtain⟨cg0,cg1⟩:=bk2 Kg
 obtain⟨cn0,cn1⟩:=bk2 Kn
 obtain⟨ce0,ce1⟩:=bk2 Ke
 have hsz:=hx.size
 go_wp2_with fail
 with_reducible refine(div_any Vy.out Vg.out Ly.out Lg.out Gn.out).mono ?_
 clear cp0 cp1 cp2 cp3 cr0 cr1 cr2 cr3 cg0 cg1 cn0 cn1 ce0 ce1
 rintro e x7 ⟨v,u,rfl,hv,hu,hy⟩
 replace hx:=hx.trans hy
 replace Kp:=kE Kp hy
 replace Kr:=kE Kr hy
 replace Kg:=kE Kg hy
 replace Kn:=kE Kn hy
 replace Ke:=kE Ke hy
 replace Vz:=Lib.hid (Vz.out.ext hy)
 replace Vy:=Lib.hid (Vy.out.ext hy)
 replace Vg:=Lib.hid (Vg.out.ext hy)
 replace Vn:=Lib.hid (Vn.out.ext hy)
 replace Ve:=Lib.hid (Ve.out.ext hy)
 clear hy
 obtain⟨nd,ad,qd,cd,rfl,hv',hf'⟩:=hv.two
 have Vd:=Lib.hid hv'
 have Fd:=Lib.hid (fun A hA=>Nat.le_trans hsz (hf' A hA))
 clear hv' hf' hsz
 obtain⟨nf,af,qf,cf,rfl⟩:=hu.form
 have Vf:=Lib.hid hu
 clear hu
 go_upto_region 4 with fail
 have hl:Ext x7 ((x7.alloc (.cells #[.bool nd,.slice ad qd cd] 36)).alloc (.cells #[.bool nf,.slice af qf cf] 36)):=(Ext.alloc _ _).alloc' _
 have lpd:w.heap.size<x7.heap.size:=Kp.out.lt
 have lrd:w.heap.size+1<x7.heap.size:=Kr.out.lt
 have lgd:pg<x7.heap.size:=Kg.out.lt
 have lnd:pn<x7.heap.size:=Kn.out.lt
 have led:pn+1<x7.heap.size:=Ke.out.lt
 have hpd:w.heap.size≤x7.heap.size:=hx.size
 replace hx:=hx.trans hl
 replace Kp:=kE Kp hl
 replace Kr:=kE Kr hl
 replace Kg:=kE Kg hl
 replace Kn:=kE Kn hl
 replace Ke:=kE Ke hl
 replace Vz:=Lib.hid (Vz.out.ext hl)
 replace Vy:=Lib.hid (Vy.out.ext hl)
 replace Vg:=Lib.hid (Vg.out.ext hl)
 replace Vn:=Lib.hid (Vn.out.ext hl)
 replace Ve:=Lib.hid (Ve.out.ext hl)
 replace Vd:=Lib.hid (Vd.out.ext hl)
 replace Vf:=Lib.hid (Vf.out.ext hl)
 have Kd:=Lib.hid ((Blk.new0 x7 #[.bool nd,.slice ad qd cd] 36).alloc (.cells #[.bool nf,.slice af qf cf] 36))
 have Kf:=Lib.hid (Blk.new1 x7 (.cells #[.bool nd,.slice ad qd cd] 36) #[.bool nf,.slice af qf cf] 36)
 clear hl
 generalize (x7.alloc (.cells #[.bool nd,.slice ad qd cd] 36)).alloc (.cells #[.bool nf,.slice af qf cf] 36)=x8 at *
 generalize x7.heap.size=pd at *
 clear Vz Vy Vg Ve Vf
 clear Kp Kg Ke Kf
 obtain rfl:nd=false:=Vd.out.pos (ediv_gcd_nonneg H0.out)
 obtain⟨cr0,cr1,cr2,cr3⟩:=bk4 Kr
 obtain⟨cn0,cn1⟩:=bk2 Kn
 obtain⟨cd0,cd1⟩:=bk2 Kd
 go_upto_region 7 with fail
 have HR:=Lib.hid (show RatV x8 (.agg #[.bool nn,.slice an qn cn,.bool false,.slice ad qd cd]) (Rat.divInt z y) from RatV.mk (by rw [(low_pos H0.out).1];exact Vn.out) (by rw [(low_pos H0.out).2];exact Vd.out))
 clear Vn Vd
 clear cr0 cr1 cr2 cr3 cn0 cn1 cd0 cd1
 obtain⟨cr0,cr1,cr2,cr3⟩:=bk4 Kr
 obtain⟨cn0,cn1⟩:=bk2 Kn
 obtain⟨cd0,cd1⟩:=bk2 Kd
 obtain⟨g0,z0,g1,z1,g2,z2,g3,z3⟩:=bp4 Kr (.bool nn) (.slice an qn cn) (.bool false) (.slice ad qd cd)
 go_wp2_with fail
 clear g0 z0 g1 z1 g2 z2 g3 z3
 clear cr0 cr1 cr2 cr3 cn0 cn1 cd0 cd1
 replace HR:=(by first | exact rv4 HR Kr (.bool nn) (.slice an qn cn) (.bool false) (.slice ad qd cd) rfl rfl rfl rfl | exact bv4 HR Kr (.bool nn) (.slice an qn cn) (.bool false) (.slice ad qd cd) rfl rfl rfl rfl)
 replace hx:=bx4 hx (w.heap.size+1) (.bool nn) (.slice an qn cn) (.bool false) (.slice ad qd cd) (by omega)
 replace Kr:=bs4 Kr (.bool nn) (.slice an qn cn) (.bool false) (.slice ad qd cd)
 replace Kn:=bo4 Kn (w.heap.size+1) (.bool nn) (.slice an qn cn) (.bool false) (.slice ad qd cd) (by omega)
 replace Kd:=bo4 Kd (w.heap.size+1) (.bool nn) (.slice an qn cn) (.bool false) (.slice ad qd cd) (by omega)
 generalize ((((x8).setCell ⟨w.heap.size+1,0,none⟩ (.bool nn)).setCell ⟨w.heap.size+1,1,none⟩ (.slice an qn cn)).setCell ⟨w.heap.size+1,2,none⟩ (.bool false)).setCell ⟨w.heap.size+1,3,none⟩ (.slice ad qd cd)=x9 at *
 obtain⟨cr0,cr1,cr2,cr3⟩:=bk4 Kr
 refine bodyPost_ret (v:=.agg #[.bool nn,.slice an qn cn,.bool false,.slice ad qd cd]) (by simp [results,Tryz.results42,go_sem,cr0,cr1,cr2,cr3]) rfl ?_
 exact⟨_,rfl,⟨_,_,_,_,_,_,_,rfl,HR.out,Fn.out,Fd.out⟩,hx⟩
set_option maxHeartbeats 2000000 in
theorem ratio_lowest_neg {n1 n2:Bool} {a b:Option Addr} {q c k d:Nat} {z y:Int} {w:World} (hz:BigV w (.agg #[.bool n1,.slice a q c]) z) (hy:BigV w (.agg #[.bool n2,.slice b k d]) y) (lz:Len z) (ly:Len y) (h0:y<0):Calls Tryz.prog 42 #[.agg #[.bool n1,.slice a q c,.bool n2,.slice b k d]] w fun e w'=>∃v,e=.returned v∧RatN w' v (Rat.divInt z y) w.heap.size∧Ext w w':=by
 have Lz:=Lib.hid lz
 have Ly:=Lib.hid ly
 have H0:=Lib.hid h0
 have Lg:=Lib.hid (len_gcd lz ly)
 have Gn:=Lib.hid (gcd_ne (x:=z) (y:=y) (by omega))
 have Vz:=Lib.hid hz
 have Vy:=Lib.hid hy
 clear lz ly h0 hz hy
 obtain⟨x1,hw,hx,Kp,Kr⟩:=boxQ2 w #[.bool n1,.slice a q c,.bool n2,.slice b k d] 73 #[.bool false,.slice none 0 0,.bool false,.slice none 0 0] 38
 replace hw:=Lib.hid hw
 have Vz:=Lib.hid (Vz.out.ext hx)
 have Vy:=Lib.hid (Vy.out.ext hx)
 go_enter Tryz.func42,Tryz.ntmps42
 go_upto_region 1 with fail
 try simp only [Nat.add_assoc,Nat.reduceAdd,Nat.add_zero]
 rw [hw.out]
 clear hw
 have hs0:=hx.size
 obtain⟨cp0,cp1,cp2,cp3⟩:=bk4 Kp
 obtain⟨cr0,cr1,cr2,cr3⟩:=bk4 Kr
 go_wp2_with fail
 with_reducible refine(gcd_any Vz.out Vy.out Lz.out Ly.out).mono ?_
 clear cp0 cp1 cp2 cp3 cr0 cr1 cr2 cr3
 rintro e x2 ⟨v,rfl,hv,hy⟩
 replace hx:=hx.trans hy
 replace Kp:=kE Kp hy
 replace Kr:=kE Kr hy
 replace Vz:=Lib.hid (Vz.out.ext hy)
 replace Vy:=Lib.hid (Vy.out.ext hy)
 clear hy
 obtain⟨ng,ag,qg,cg,rfl⟩:=hv.form
 have Vg:=Lib.hid hv
 clear hv
 go_wp2_with fail
 with_reducible refine(ratio_didB _ _ _ _ _).mono ?_
 rintro e x3 ⟨rfl,hy⟩
 replace hx:=hx.trans hy
 replace Kp:=kE Kp hy
 replace Kr:=kE Kr hy
 replace Vz:=Lib.hid (Vz.out.ext hy)
 replace Vy:=Lib.hid (Vy.out.ext hy)
 replace Vg:=Lib.hid (Vg.out.ext hy)
 clear hy
 go_upto_region 2 with fail
 have hl:=Ext.alloc x3 (.cells #[.bool ng,.slice ag qg cg] 36)
 have lpg:w.heap.size<x3.heap.size:=Kp.out.lt
 have lrg:w.heap.size+1<x3.heap.size:=Kr.out.lt
 have hpg:w.heap.size≤x3.heap.size:=hx.size
 replace hx:=hx.trans hl
 replace Kp:=kE Kp hl
 replace Kr:=kE Kr hl
 replace Vz:=Lib.hid (Vz.out.ext hl)
 replace Vy:=Lib.hid (Vy.out.ext hl)
 replace Vg:=Lib.hid (Vg.out.ext hl)
 have Kg:=Lib.hid (Blk.new0 x3 #[.bool ng,.slice ag qg cg] 36)
 clear hl
 generalize x3.alloc (.cells #[.bool ng,.slice ag qg cg] 36)=x4 at *
 generalize x3.heap.size=pg at *
 obtain⟨cp0,cp1,cp2,cp3⟩:=bk4 Kp
 obtain⟨cr0,cr1,cr2,cr3⟩:=bk4 Kr
 obtain⟨cg0,cg1⟩:=bk2 Kg
 have hsz:=hx.size
 go_wp2_with fail
 with_reducible refine(div_any Vz.out Vg.out Lz.out Lg.out Gn.out).mono ?_
 clear cp0 cp1 cp2 cp3 cr0 cr1 cr2 cr3 cg0 cg1
 rintro e x5 ⟨v,u,rfl,hv,hu,hy⟩
 replace hx:=hx.trans hy
 replace Kp:=kE Kp hy
 replace Kr:=kE Kr hy
 replace Kg:=kE Kg hy
 replace Vz:=Lib.hid (Vz.out.ext hy)
 replace Vy:=Lib.hid (Vy.out.ext hy)
 replace Vg:=Lib.hid (Vg.out.ext hy)
 clear hy
 obtain⟨nn,an,qn,cn,rfl,hv',hf'⟩:=hv.two
 have Vn:=Lib.hid hv'
 have Fn:=Lib.hid (fun A hA=>Nat.le_trans hsz (hf' A hA))
 clear hv' hf' hsz
 obtain⟨ne,ae,qe,ce,rfl⟩:=hu.form
 have Ve:=Lib.hid hu
 clear hu
 go_upto_region 3 with fail
 have hl:Ext x5 ((x5.alloc (.cells #[.bool nn,.slice an qn cn] 36)).alloc (.cells #[.bool ne,.slice ae qe ce] 36)):=(Ext.alloc _ _).alloc' _
 have lpn:w.heap.size<x5.heap.size:=Kp.out.lt
 have lrn:w.heap.size+1<x5.heap.size:=Kr.out.lt
 have lgn:pg<x5.heap.size:=Kg.out.lt
 have hpn:w.heap.size≤x5.heap.size:=hx.size
 replace hx:=hx.trans hl
 replace Kp:=kE Kp hl
 replace Kr:=kE Kr hl
 replace Kg:=kE Kg hl
 replace Vz:=Lib.hid (Vz.out.ext hl)
 replace Vy:=Lib.hid (Vy.out.ext hl)
 replace Vg:=Lib.hid (Vg.out.ext hl)
 replace Vn:=Lib.hid (Vn.out.ext hl)
 replace Ve:=Lib.hid (Ve.out.ext hl)
 have Kn:=Lib.hid ((Blk.new0 x5 #[.bool nn,.slice an qn cn] 36).alloc (.cells #[.bool ne,.slice ae qe ce] 36))
 have Ke:=Lib.hid (Blk.new1 x5 (.cells #[.bool nn,.slice an qn cn] 36) #[.bool ne,.slice ae qe ce] 36)
 clear hl
 generalize (x5.alloc (.cells #[.bool nn,.slice an qn cn] 36)).alloc (.cells #[.bool ne,.slice ae qe ce] 36)=x6 at *
 generalize x5.heap.size=pn at *
 obtain⟨cp0,cp1,cp2,cp3⟩:=bk4 Kp
 obtain⟨cr0,cr1,cr2,cr3⟩:=bk4 Kr
 obtain⟨cg0,cg1⟩:=bk2 Kg
 obtain⟨cn0,cn1⟩:=bk2 Kn
 obtain⟨ce0,ce1⟩:=bk2 Ke
 have hsz:=hx.size
 go_wp2_with fail
 with_reducible refine(div_any Vy.out Vg.out Ly.out Lg.out Gn.out).mono ?_
 clear cp0 cp1 cp2 cp3 cr0 cr1 cr2 cr3 cg0 cg1 cn0 cn1 ce0 ce1
 rintro e x7 ⟨v,u,rfl,hv,hu,hy⟩
 replace hx:=hx.trans hy
 replace Kp:=kE Kp hy
 replace Kr:=kE Kr hy
 replace Kg:=kE Kg hy
 replace Kn:=kE Kn hy
 replace Ke:=kE Ke hy
 replace Vz:=Lib.hid (Vz.out.ext hy)
 replace Vy:=Lib.hid (Vy.out.ext hy)
 replace Vg:=Lib.hid (Vg.out.ext hy)
 replace Vn:=Lib.hid (Vn.out.ext hy)
 replace Ve:=Lib.hid (Ve.out.ext hy)
 clear hy
 obtain⟨nd,ad,qd,cd,rfl,hv',hf'⟩:=hv.two
 have Vd:=Lib.hid hv'
 have Fd:=Lib.hid (fun A hA=>Nat.le_trans hsz (hf' A hA))
 clear hv' hf' hsz
 obtain⟨nf,af,qf,cf,rfl⟩:=hu.form
 have Vf:=Lib.hid hu
 clear hu
 go_upto_region 4 with fail
 have hl:Ext x7 ((x7.alloc (.cells #[.bool nd,.slice ad qd cd] 36)).alloc (.cells #[.bool nf,.slice af qf cf] 36)):=(Ext.alloc _ _).alloc' _
 have lpd:w.heap.size<x7.heap.size:=Kp.out.lt
 have lrd:w.heap.size+1<x7.heap.size:=Kr.out.lt
 have lgd:pg<x7.heap.size:=Kg.out.lt
 have lnd:pn<x7.heap.size:=Kn.out.lt
 have led:pn+1<x7.heap.size:=Ke.out.lt
 have hpd:w.heap.size≤x7.heap.size:=hx.size
 replace hx:=hx.trans hl
 replace Kp:=kE Kp hl
 replace Kr:=kE Kr hl
 replace Kg:=kE Kg hl
 replace Kn:=kE Kn hl
 replace Ke:=kE Ke hl
 replace Vz:=Lib.hid (Vz.out.ext hl)
 replace Vy:=Lib.hid (Vy.out.ext hl)
 replace Vg:=Lib.hid (Vg.out.ext hl)
 replace Vn:=Lib.hid (Vn.out.ext hl)
 replace Ve:=Lib.hid (Ve.out.ext hl)
 replace Vd:=Lib.hid (Vd.out.ext hl)
 replace Vf:=Lib.hid (Vf.out.ext hl)
 have Kd:=Lib.hid ((Blk.new0 x7 #[.bool nd,.slice ad qd cd] 36).alloc (.cells #[.bool nf,.slice af qf cf] 36))
 have Kf:=Lib.hid (Blk.new1 x7 (.cells #[.bool nd,.slice ad qd cd] 36) #[.bool nf,.slice af qf cf] 36)
 clear hl
 generalize (x7.alloc (.cells #[.bool nd,.slice ad qd cd] 36)).alloc (.cells #[.bool nf,.slice af qf cf] 36)=x8 at *
 generalize x7.heap.size=pd at *
 clear Vz Vy Vg Ve Vf
 clear Kp Kg Ke Kf
 obtain rfl:nd=true:=Vd.out.neg1 (ediv_gcd_neg H0.out)
 have HR:=Lib.hid (show RatV x8 (.agg #[.bool (!nn && decide (0<qn)),.slice an qn cn,.bool false,.slice ad qd cd]) (Rat.divInt z y) from RatV.mk (by rw [(low_neg H0.out).1];exact Vn.out.minus) (by have h:=Vd.out.minus;rw [(low_neg H0.out).2];simpa using h))
 have HQ:=Lib.hid Vn.out.le
 clear Vn Vd
 obtain⟨cr0,cr1,cr2,cr3⟩:=bk4 Kr
 obtain⟨cn0,cn1⟩:=bk2 Kn
 obtain⟨cd0,cd1⟩:=bk2 Kd
 go_upto_region 5 with fail
 have g0:=(Kd.out).cell (i:=0) (v:=.bool true) rfl
 have z0:=(Kd.out).free 0
 go_upto_region 6 with fail
 clear g0 z0
 clear cr0 cr1 cr2 cr3 cn0 cn1 cd0 cd1
 replace HR:=Lib.hid (HR.out.put Kd.out (noInt_of rfl) 0 (.bool false))
 replace hx:=hx.set (p:=⟨pd,0,none⟩) (by dsimp only;omega) (.bool false)
 replace Kr:=Lib.hid (Kr.out.other (p:=⟨pd,0,none⟩) (by dsimp only;omega) (.bool false))
 replace Kn:=Lib.hid (Kn.out.other (p:=⟨pd,0,none⟩) (by dsimp only;omega) (.bool false))
 replace Kd:=Lib.hid (Kd.out.set 0 (.bool false))
 replace Kd:=Lib.hid (show Blk _ _ #[.bool false,.slice ad qd cd] 36 from Kd.out)
 generalize (x8).setCell ⟨pd,0,none⟩ (.bool false)=x9 at *
 by_cases hn:(!nn && decide (0<qn))=true
 ·rw [hn] at HR
  rw [Bool.and_eq_true,Bool.not_eq_true',decide_eq_true_eq] at hn
  obtain⟨rfl,hn⟩:=hn
  have t1:decide ((0:Int)< (qn:Int))=true:=by simp;omega
  have hqn:=HQ.out
  obtain⟨cr0,cr1,cr2,cr3⟩:=bk4 Kr
  obtain⟨cn0,cn1⟩:=bk2 Kn
  obtain⟨cd0,cd1⟩:=bk2 Kd
  have g0:=(Kn.out).cell (i:=0) (v:=.bool false) rfl
  have z0:=(Kn.out).free 0
  go_upto_region 7 with fail
  clear g0 z0
  clear cr0 cr1 cr2 cr3 cn0 cn1 cd0 cd1
  replace HR:=Lib.hid (HR.out.put Kn.out (noInt_of rfl) 0 (.bool true))
  replace hx:=hx.set (p:=⟨pn,0,none⟩) (by dsimp only;omega) (.bool true)
  replace Kr:=Lib.hid (Kr.out.other (p:=⟨pn,0,none⟩) (by dsimp only;omega) (.bool true))
  replace Kn:=Lib.hid (Kn.out.set 0 (.bool true))
  replace Kd:=Lib.hid (Kd.out.other (p:=⟨pn,0,none⟩) (by dsimp only;omega) (.bool true))
  replace Kn:=Lib.hid (show Blk _ _ #[.bool true,.slice an qn cn] 36 from Kn.out)
  generalize (x9).setCell ⟨pn,0,none⟩ (.bool true)=x10 at *
  obtain⟨cr0,cr1,cr2,cr3⟩:=bk4 Kr
  obtain⟨cn0,cn1⟩:=bk2 Kn
  obtain⟨cd0,cd1⟩:=bk2 Kd
  obtain⟨g0,z0,g1,z1,g2,z2,g3,z3⟩:=bp4 Kr (.bool true) (.slice an qn cn) (.bool false) (.slice ad qd cd)
  go_wp2_with fail
  clear g0 z0 g1 z1 g2 z2 g3 z3
  clear cr0 cr1 cr2 cr3 cn0 cn1 cd0 cd1
  replace HR:=(by first | exact rv4 HR Kr (.bool true) (.slice an qn cn) (.bool false) (.slice ad qd cd) rfl rfl rfl rfl | exact bv4 HR Kr (.bool true) (.slice an qn cn) (.bool false) (.slice ad qd cd) rfl rfl rfl rfl)
  replace hx:=bx4 hx (w.heap.size+1) (.bool true) (.slice an qn cn) (.bool false) (.slice ad qd cd) (by omega)
  replace Kr:=bs4 Kr (.bool true) (.slice an qn cn) (.bool false) (.slice ad qd cd)
  replace Kn:=bo4 Kn (w.heap.size+1) (.bool true) (.slice an qn cn) (.bool false) (.slice ad qd cd) (by omega)
  replace Kd:=bo4 Kd (w.heap.size+1) (.bool true) (.slice an qn cn) (.bool false) (.slice ad qd cd) (by omega)
  generalize ((((x10).setCell ⟨w.heap.size+1,0,none⟩ (.bool true)).setCell ⟨w.heap.size+1,1,none⟩ (.slice an qn cn)).setCell ⟨w.heap.size+1,2,none⟩ (.bool false)).setCell ⟨w.heap.size+1,3,none⟩ (.slice ad qd cd)=x11 at *
  obtain⟨cr0,cr1,cr2,cr3⟩:=bk4 Kr
  refine bodyPost_ret (v:=.agg #[.bool true,.slice an qn cn,.bool false,.slice ad qd cd]) (by simp [results,Tryz.results42,go_sem,cr0,cr1,cr2,cr3]) rfl ?_
  exact⟨_,rfl,⟨_,_,_,_,_,_,_,rfl,HR.out,Fn.out,Fd.out⟩,hx⟩
 rw [Bool.not_eq_true] at hn
 rw [hn] at HR
 cases nn
 ·obtain rfl:qn=0:=by simpa using hn
  obtain⟨cr0,cr1,cr2,cr3⟩:=bk4 Kr
  obtain⟨cn0,cn1⟩:=bk2 Kn
  obtain⟨cd0,cd1⟩:=bk2 Kd
  have g0:=(Kn.out).cell (i:=0) (v:=.bool false) rfl
  have z0:=(Kn.out).free 0
  go_upto_region 7 with fail
  clear g0 z0
  clear cr0 cr1 cr2 cr3 cn0 cn1 cd0 cd1
  replace HR:=Lib.hid (HR.out.put Kn.out (noInt_of rfl) 0 (.bool false))
  replace hx:=hx.set (p:=⟨pn,0,none⟩) (by dsimp only;omega) (.bool false)
  replace Kr:=Lib.hid (Kr.out.other (p:=⟨pn,0,none⟩) (by dsimp only;omega) (.bool false))
  replace Kn:=Lib.hid (Kn.out.set 0 (.bool false))
  replace Kd:=Lib.hid (Kd.out.other (p:=⟨pn,0,none⟩) (by dsimp only;omega) (.bool false))
  replace Kn:=Lib.hid (show Blk _ _ #[.bool false,.slice an 0 cn] 36 from Kn.out)
  generalize (x9).setCell ⟨pn,0,none⟩ (.bool false)=x10 at *
  obtain⟨cr0,cr1,cr2,cr3⟩:=bk4 Kr
  obtain⟨cn0,cn1⟩:=bk2 Kn
  obtain⟨cd0,cd1⟩:=bk2 Kd
  obtain⟨g0,z0,g1,z1,g2,z2,g3,z3⟩:=bp4 Kr (.bool false) (.slice an 0 cn) (.bool false) (.slice ad qd cd)
  go_wp2_with fail
  clear g0 z0 g1 z1 g2 z2 g3 z3
  clear cr0 cr1 cr2 cr3 cn0 cn1 cd0 cd1
  replace HR:=(by first | exact rv4 HR Kr (.bool false) (.slice an 0 cn) (.bool false) (.slice ad qd cd) rfl rfl rfl rfl | exact bv4 HR Kr (.bool false) (.slice an 0 cn) (.bool false) (.slice ad qd cd) rfl rfl rfl rfl)
  replace hx:=bx4 hx (w.heap.size+1) (.bool false) (.slice an 0 cn) (.bool false) (.slice ad qd cd) (by omega)
  replace Kr:=bs4 Kr (.bool false) (.slice an 0 cn) (.bool false) (.slice ad qd cd)
  replace Kn:=bo4 Kn (w.heap.size+1) (.bool false) (.slice an 0 cn) (.bool false) (.slice ad qd cd) (by omega)
  replace Kd:=bo4 Kd (w.heap.size+1) (.bool false) (.slice an 0 cn) (.bool false) (.slice ad qd cd) (by omega)
  generalize ((((x10).setCell ⟨w.heap.size+1,0,none⟩ (.bool false)).setCell ⟨w.heap.size+1,1,none⟩ (.slice an 0 cn)).setCell ⟨w.heap.size+1,2,none⟩ (.bool false)).setCell ⟨w.heap.size+1,3,none⟩ (.slice ad qd cd)=x11 at *
  obtain⟨cr0,cr1,cr2,cr3⟩:=bk4 Kr
  refine bodyPost_ret (v:=.agg #[.bool false,.slice an 0 cn,.bool false,.slice ad qd cd]) (by simp [results,Tryz.results42,go_sem,cr0,cr1,cr2,cr3]) rfl ?_
  exact⟨_,rfl,⟨_,_,_,_,_,_,_,rfl,HR.out,Fn.out,Fd.out⟩,hx⟩
 ·have hqn:=HQ.out
  obtain⟨cr0,cr1,cr2,cr3⟩:=bk4 Kr
  obtain⟨cn0,cn1⟩:=bk2 Kn
  obtain⟨cd0,cd1⟩:=bk2 Kd
  have g0:=(Kn.out).cell (i:=0) (v:=.bool true) rfl
  have z0:=(Kn.out).free 0
  go_upto_region 7 with fail
  clear g0 z0
  clear cr0 cr1 cr2 cr3 cn0 cn1 cd0 cd1
  replace HR:=Lib.hid (HR.out.put Kn.out (noInt_of rfl) 0 (.bool false))
  replace hx:=hx.set (p:=⟨pn,0,none⟩) (by dsimp only;omega) (.bool false)
  replace Kr:=Lib.hid (Kr.out.other (p:=⟨pn,0,none⟩) (by dsimp only;omega) (.bool false))
  replace Kn:=Lib.hid (Kn.out.set 0 (.bool false))
  replace Kd:=Lib.hid (Kd.out.other (p:=⟨pn,0,none⟩) (by dsimp only;omega) (.bool false))
  replace Kn:=Lib.hid (show Blk _ _ #[.bool false,.slice an qn cn] 36 from Kn.out)
  generalize (x9).setCell ⟨pn,0,none⟩ (.bool false)=x10 at *
  obtain⟨cr0,cr1,cr2,cr3⟩:=bk4 Kr
  obtain⟨cn0,cn1⟩:=bk2 Kn
  obtain⟨cd0,cd1⟩:=bk2 Kd
  obtain⟨g0,z0,g1,z1,g2,z2,g3,z3⟩:=bp4 Kr (.bool false) (.slice an qn cn) (.bool false) (.slice ad qd cd)
  go_wp2_with fail
  clear g0 z0 g1 z1 g2 z2 g3 z3
  clear cr0 cr1 cr2 cr3 cn0 cn1 cd0 cd1
  replace HR:=(by first | exact rv4 HR Kr (.bool false) (.slice an qn cn) (.bool false) (.slice ad qd cd) rfl rfl rfl rfl | exact bv4 HR Kr (.bool false) (.slice an qn cn) (.bool false) (.slice ad qd cd) rfl rfl rfl rfl)
  replace hx:=bx4 hx (w.heap.size+1) (.bool false) (.slice an qn cn) (.bool false) (.slice ad qd cd) (by omega)
  replace Kr:=bs4 Kr (.bool false) (.slice an qn cn) (.bool false) (.slice ad qd cd)
  replace Kn:=bo4 Kn (w.heap.size+1) (.bool false) (.slice an qn cn) (.bool false) (.slice ad qd cd) (by omega)
  replace Kd:=bo4 Kd (w.heap.size+1) (.bool false) (.slice an qn cn) (.bool false) (.slice ad qd cd) (by omega)
  generalize ((((x10).setCell ⟨w.heap.size+1,0,none⟩ (.bool false)).setCell ⟨w.heap.size+1,1,none⟩ (.slice an qn cn)).setCell ⟨w.heap.size+1,2,none⟩ (.bool false)).setCell ⟨w.heap.size+1,3,none⟩ (.slice ad qd cd)=x11 at *
  obtain⟨cr0,cr1,cr2,cr3⟩:=bk4 Kr
  refine bodyPost_ret (v:=.agg #[.bool false,.slice an qn cn,.bool false,.slice ad qd cd]) (by simp [results,Tryz.results42,go_sem,cr0,cr1,cr2,cr3]) rfl ?_
  exact⟨_,rfl,⟨_,_,_,_,_,_,_,rfl,HR.out,Fn.out,Fd.out⟩,hx⟩
theorem ratio_lowest {n1 n2:Bool} {a b:Option Addr} {q c k d:Nat} {z y:Int} {w:World} (hz:BigV w (.agg #[.bool n1,.slice a q c]) z) (hy:BigV w (.agg #[.bool n2,.slice b k d]) y) (lz:Len z) (ly:Len y) (h0:y≠0):Calls Tryz.prog 42 #[.agg #[.bool n1,.slice a q c,.bool n2,.slice b k d]] w fun e w'=>∃v,e=.returned v∧RatN w' v (Rat.divInt z y) w.heap.size∧Ext w w':=by
 rcases Int.lt_or_gt_of_ne h0 with h | h
 ·exact ratio_lowest_neg hz hy lz ly h
 ·exact ratio_lowest_pos hz hy lz ly h
def RatP (r:Rat) (w:World) (e:Ending) (w':World):Prop:=∃v,e=.returned (.tuple #[v,.int .i64 0])∧RatN w' v r w.heap.size∧Ext w w'
abbrev zeroRat:Value:=.agg #[.bool false,.slice none 0 0,.bool false,.slice none 0 0]
def RatE (E:Int) (w:World) (e:Ending) (w':World):Prop:=e=.returned (.tuple #[zeroRat,.int .i64 E])∧Ext w w'
set_option maxHeartbeats 2000000 in
theorem ratio_Of_ok (n1 n2:Bool) (a b:Option Addr) (ca cb:Nat) (l m:List Int) (w:World) (h:Ints w a ca l) (k:Ints w b cb m) (h1:chkB n1 l=true) (h2:chkB n2 m=true) (h3:0<m.length):Calls Tryz.prog 35 #[.agg #[.bool n1,.slice a l.length ca],.agg #[.bool n2,.slice b m.length cb]] w (RatP (Rat.divInt (sgn n1 (dval l)) (sgn n2 (dval m))) w):=by
 have H1:=Lib.hid (fun W (hy:Ext w W)=>nat_Check n1 a ca l W (h.ext hy))
 have H2:=Lib.hid (fun W (hy:Ext w W)=>nat_Check n2 b cb m W (k.ext hy))
 rw [h1] at H1
 rw [h2] at H2
 have b1:=of_chk h1
 have b2:=of_chk h2
 have Vz:BigV w (.agg #[.bool n1,.slice a l.length ca]) (sgn n1 (dval l)):=⟨n1,l,⟨a,ca,rfl,h⟩,b1.1⟩
 have Vy:BigV w (.agg #[.bool n2,.slice b m.length cb]) (sgn n2 (dval m)):=⟨n2,m,⟨b,cb,rfl,k⟩,b2.1⟩
 have Lz:Len (sgn n1 (dval l)):=by have:=b1.2;rw [b1.1.digs] at this;exact this
 have Ly:Len (sgn n2 (dval m)):=by have:=b2.2;rw [b2.1.digs] at this;exact this
 have hne:sgn n2 (dval m)≠0:=by
  have:=dval_pos b2.1.1 (List.ne_nil_of_length_pos h3)
  unfold sgn;split <;> omega
 have HL:=Lib.hid (fun W (hy:Ext w W)=>ratio_lowest (Vz.ext hy) (Vy.ext hy) Lz Ly hne)
 have t1:decide ((0:Int)< (m.length:Int))=true:=by simp;omega
 have HK:=Lib.hid (Nat.le_trans k.le k.mx)
 generalize Rat.divInt (sgn n1 (dval l)) (sgn n2 (dval m))=r at *
 clear Vz Vy Lz Ly hne b1 b2 h k h1 h2
 obtain⟨x1,hw,hx,Kn,Kd,Kr,Ke⟩:=boxQ4 w #[.bool n1,.slice a l.length ca] 36 #[.bool n2,.slice b m.length cb] 36 #[.bool false,.slice none 0 0,.bool false,.slice none 0 0] 38 #[.int .i64 0] 27
 replace hw:=Lib.hid hw
 go_enter_defers Tryz.func35,Tryz.ntmps35
 go_upto_region 1 with fail
 try simp only [Nat.add_assoc,Nat.reduceAdd,Nat.add_zero]
 rw [hw.out]
 clear hw
 have hs0:=hx.size
 obtain⟨cn0,cn1⟩:=bk2 Kn
 obtain⟨cd0,cd1⟩:=bk2 Kd
 obtain⟨cr0,cr1,cr2,cr3⟩:=bk4 Kr
 have ce0:=bk1 Ke
 go_wp2_with fail
 with_reducible refine(show Calls Tryz.prog 61 _ _ (fun e w'=>e=.returned (.int .i64 0)∧Ext x1 w') from H1.out _ hx).mono ?_
 clear cn0 cn1 cd0 cd1 cr0 cr1 cr2 cr3 ce0
 rintro e x2 ⟨rfl,hy⟩
 replace hx:=hx.trans hy
 replace Kn:=kE Kn hy
 replace Kd:=kE Kd hy
 replace Kr:=kE Kr hy
 replace Ke:=kE Ke hy
 clear hy
 obtain⟨cn0,cn1⟩:=bk2 Kn
 obtain⟨cd0,cd1⟩:=bk2 Kd
 obtain⟨cr0,cr1,cr2,cr3⟩:=bk4 Kr
 have ce0:=bk1 Ke
 go_wp2_with fail
 with_reducible refine(show Calls Tryz.prog 61 _ _ (fun e w'=>e=.returned (.int .i64 0)∧Ext x2 w') from H2.out _ hx).mono ?_
 clear cn0 cn1 cd0 cd1 cr0 cr1 cr2 cr3 ce0
 rintro e x3 ⟨rfl,hy⟩
 replace hx:=hx.trans hy
 replace Kn:=kE Kn hy
 replace Kd:=kE Kd hy
 replace Kr:=kE Kr hy
 replace Ke:=kE Ke hy
 clear hy
 obtain⟨cn0,cn1⟩:=bk2 Kn
 obtain⟨cd0,cd1⟩:=bk2 Kd
 obtain⟨cr0,cr1,cr2,cr3⟩:=bk4 Kr
 have ce0:=bk1 Ke
 go_wp2_with fail
 with_reducible refine(ratio_need_yes 90 _).mono ?_
 clear cn0 cn1 cd0 cd1 cr0 cr1 cr2 cr3 ce0
 rintro e x4 ⟨rfl,hy⟩
 replace hx:=hx.trans hy
 replace Kn:=kE Kn hy
 replace Kd:=kE Kd hy
 replace Kr:=kE Kr hy
 replace Ke:=kE Ke hy
 clear hy
 have hK:=HK.out
 obtain⟨cn0,cn1⟩:=bk2 Kn
 obtain⟨cd0,cd1⟩:=bk2 Kd
 obtain⟨cr0,cr1,cr2,cr3⟩:=bk4 Kr
 have ce0:=bk1 Ke
 go_wp2_with fail
 with_reducible refine(ratio_need_yes 1 _).mono ?_
 clear cn0 cn1 cd0 cd1 cr0 cr1 cr2 cr3 ce0
 rintro e x5 ⟨rfl,hy⟩
 replace hx:=hx.trans hy
 replace Kn:=kE Kn hy
 replace Kd:=kE Kd hy
 replace Kr:=kE Kr hy
 replace Ke:=kE Ke hy
 clear hy
 have hsz:=hx.size
 obtain⟨cn0,cn1⟩:=bk2 Kn
 obtain⟨cd0,cd1⟩:=bk2 Kd
 obtain⟨cr0,cr1,cr2,cr3⟩:=bk4 Kr
 have ce0:=bk1 Ke
 go_wp2_with fail
 with_reducible refine(HL.out _ hx).mono ?_
 clear cn0 cn1 cd0 cd1 cr0 cr1 cr2 cr3 ce0
 rintro e x6 ⟨v,rfl,hv,hy⟩
 replace hx:=hx.trans hy
 replace Kn:=kE Kn hy
 replace Kd:=kE Kd hy
 replace Kr:=kE Kr hy
 replace Ke:=kE Ke hy
 clear hy
 obtain⟨nv,av,qv,cv,bv,kv,dv,rfl,hv',hf',hg'⟩:=hv
 have Vv:=Lib.hid hv'
 have Fv:=Lib.hid (fun A hA=>Nat.le_trans hsz (hf' A hA))
 have Gv:=Lib.hid (fun A hA=>Nat.le_trans hsz (hg' A hA))
 clear hv' hf' hg' hsz
 obtain⟨cn0,cn1⟩:=bk2 Kn
 obtain⟨cd0,cd1⟩:=bk2 Kd
 obtain⟨cr0,cr1,cr2,cr3⟩:=bk4 Kr
 have ce0:=bk1 Ke
 obtain⟨g0,z0,g1,z1,g2,z2,g3,z3⟩:=bp4 Kr (.bool nv) (.slice av qv cv) (.bool false) (.slice bv kv dv)
 obtain⟨g4,z4⟩:=bp1 (bo4 Ke (w.heap.size+2) (.bool nv) (.slice av qv cv) (.bool false) (.slice bv kv dv) (by omega)) (.int .i64 0)
 go_wp2_with fail
 clear g0 z0 g1 z1 g2 z2 g3 z3 g4 z4
 clear cn0 cn1 cd0 cd1 cr0 cr1 cr2 cr3 ce0
 replace Vv:=(by first | exact rv4 Vv Kr (.bool nv) (.slice av qv cv) (.bool false) (.slice bv kv dv) rfl rfl rfl rfl | exact bv4 Vv Kr (.bool nv) (.slice av qv cv) (.bool false) (.slice bv kv dv) rfl rfl rfl rfl)
 replace hx:=bx4 hx (w.heap.size+2) (.bool nv) (.slice av qv cv) (.bool false) (.slice bv kv dv) (by omega)
 replace Kn:=bo4 Kn (w.heap.size+2) (.bool nv) (.slice av qv cv) (.bool false) (.slice bv kv dv) (by omega)
 replace Kd:=bo4 Kd (w.heap.size+2) (.bool nv) (.slice av qv cv) (.bool false) (.slice bv kv dv) (by omega)
 replace Kr:=bs4 Kr (.bool nv) (.slice av qv cv) (.bool false) (.slice bv kv dv)
 replace Ke:=bo4 Ke (w.heap.size+2) (.bool nv) (.slice av qv cv) (.bool false) (.slice bv kv dv) (by omega)
 replace Vv:=(by first | exact rv1 Vv Ke (.int .i64 0) rfl | exact bv1 Vv Ke (.int .i64 0) rfl)
 replace hx:=bx1 hx (w.heap.size+3) (.int .i64 0) (by omega)
 replace Kn:=bo1 Kn (w.heap.size+3) (.int .i64 0) (by omega)
 replace Kd:=bo1 Kd (w.heap.size+3) (.int .i64 0) (by omega)
 replace Kr:=bo1 Kr (w.heap.size+3) (.int .i64 0) (by omega)
 replace Ke:=bs1 Ke (.int .i64 0)
 generalize (((((x6).setCell ⟨w.heap.size+2,0,none⟩ (.bool nv)).setCell ⟨w.heap.size+2,1,none⟩ (.slice av qv cv)).setCell ⟨w.heap.size+2,2,none⟩ (.bool false)).setCell ⟨w.heap.size+2,3,none⟩ (.slice bv kv dv)).setCell ⟨w.heap.size+3,0,none⟩ (.int .i64 0)=x7 at *
 obtain⟨cr0,cr1,cr2,cr3⟩:=bk4 Kr
 have ce0:=bk1 Ke
 refine leaves_cons (f:=37) (args:=#[.pointer (some ⟨w.heap.size+3,0,none⟩)]) (by simp) (by simp [go_sem]) ?_
 refine(ratio_caught_idle ⟨w.heap.size+3,0,none⟩ _).mono ?_
 rintro e u' w'' ⟨rfl,rfl,rfl⟩
 simp [Leaves,settle,results,Tryz.results35,go_sem,cr0,cr1,cr2,cr3,ce0]
 exact⟨_,rfl,⟨_,_,_,_,_,_,_,rfl,Vv.out,Fv.out,Gv.out⟩,hx⟩
end Go.Proofs.YtolffmmkjnhkkaaGreat
