import Derived.Test.YtolffmmkjnhkkaaGreatMA
import Derived.OwnWalk
import Derived.Deep.QuietTactic
namespace Go.Proofs.YtolffmmkjnhkkaaGreat
open Go.RowKit Go BigFrame Go.Shelf
set_option maxRecDepth 100000
set_option linter.unusedSimpArgs false
set_option linter.unusedVariables false
attribute [local go_sem] Oper.semAt_some
theorem ratA_of {w:World} {x:RatC} {r:Rat} {k:Nat} (h:RatV w x.val r) (hz:Sz r k) (hk:k≤2048):
 ∃y:RatA,y.n=x.n∧y.a=x.a∧y.l.length=x.q∧y.c=x.c∧y.n2=x.m∧y.b=x.b∧y.m.length=x.k∧y.d=x.d∧RatI w y∧y.ok=true∧∀W,RatI W y→RatV W y.val r:=by
 obtain⟨n,a,q,c,m,b,k1,d⟩:=x
 obtain⟨n1,a',q',c',n2,b',k',d',e,⟨n3,l,⟨a3,c3,e3,hi⟩,hb⟩,⟨n4,l2,⟨a4,c4,e4,hj⟩,hc⟩⟩:=h
 simp only [RatC.val,Value.agg.injEq,Array.mk.injEq,List.cons.injEq,Value.bool.injEq,Value.slice.injEq,and_true] at e e3 e4
 obtain⟨rfl,⟨rfl,rfl,rfl⟩,rfl,rfl,rfl,rfl⟩:=e
 obtain⟨rfl,rfl,rfl,rfl⟩:=e3
 obtain⟨rfl,rfl,rfl,rfl⟩:=e4
 have l1:Len r.num:=len_lt hz.1 hk
 have l2':Len (r.den:Int):=len_lt hz.den hk
 refine⟨⟨n,a,c,l,m,b,d,l2⟩,rfl,rfl,rfl,rfl,rfl,rfl,rfl,rfl,⟨hi,hj⟩,?_,fun W hW=>?_⟩
 ·refine okR_iff.2 ⟨hb.chk l1,hc.chk l2',?_,?_,?_⟩
  ·cases m with
   | false=>rfl
   | true=>
    have:=hc.sgn
    have h2:=r.den_pos
    have h3:sgn true (dval l2)≤0:=by unfold sgn;simp;exact dval_nonneg hc.1.digs
    omega
  ·refine Nat.pos_of_ne_zero fun h0=>?_
   have:=hc.sgn
   have h2:=r.den_pos
   have h3:l2=[]:=List.eq_nil_of_length_eq_zero h0
   subst h3
   have h4:sgn m (dval [])=0:=by unfold sgn dval;simp
   omega
  ·rw [←hb.sgn,←hc.sgn]
   have:=r.reduced
   simpa [Int.gcd,Nat.Coprime] using this
 ·exact⟨n,a,l.length,c,m,b,l2.length,d,rfl,⟨n,l,⟨a,c,rfl,hW.i⟩,hb⟩,⟨m,l2,⟨b,d,rfl,hW.j⟩,hc⟩⟩
theorem ratsI_list {w:World} {k:Nat} (hk:k≤2048):∀ (L:List RatC) (rs:List Rat),L.length=rs.length→(∀i (h:i<L.length) r,rs[i]? =some r→RatV w L[i].val r)→(∀r∈rs,Sz r k)→
 ∃LA:List RatA,LA.length=L.length∧(∀i (h:i<L.length) (h':i<LA.length),LA[i].n=L[i].n∧LA[i].a=L[i].a∧LA[i].l.length=L[i].q∧LA[i].c=L[i].c∧LA[i].n2=L[i].m∧LA[i].b=L[i].b∧LA[i].m.length=L[i].k∧LA[i].d=L[i].d∧RatI w LA[i])∧LA.any (fun x=>!x.ok)=false∧ValL LA rs k:=by
 intro L
 induction L with
 | nil=>
  intro rs hl _ _
  have:rs=[]:=List.eq_nil_of_length_eq_zero hl.symm
  subst this
  exact⟨[],rfl,fun i h=>absurd h (by simp),rfl,rfl,fun i x r h=>by simp at h⟩
 | cons x L ih=>
  intro rs hl hv hz
  cases rs with
  | nil=>simp at hl
  | cons r rs=>
   obtain⟨LA,h1,h2,h3,h4,h5⟩:=ih rs (by simpa using hl) (fun i h s hs=>hv (i+1) (by simp;omega) s (by simpa using hs)) (fun s hs=>hz s (by simp [hs]))
   obtain⟨y,y1,y2,y3,y4,y5,y6,y7,y8,y9,y10,y11⟩:=ratA_of (hv 0 (by simp) r rfl) (hz r (by simp)) hk
   refine⟨y :: LA,by simp [h1],fun i h h'=>?_,by simp [y10];simpa using h3,by simp [h4],fun i z s hz' hs=>?_⟩
   ·cases i with
    | zero=>exact⟨y1,y2,y3,y4,y5,y6,y7,y8,y9⟩
    | succ i=>exact h2 i (by simpa using h) (by simpa using h')
   ·cases i with
    | zero=>
     simp only [List.getElem?_cons_zero,Option.some.injEq] at hz' hs
     subst hz' hs
     exact⟨hz r (by simp),y11⟩
    | succ i=>
     simp only [List.getElem?_cons_succ] at hz' hs
     exact h5 i z s hz' hs
theorem OwnOs.rats {w:World} {B:Nat} {v:Value} {L:List RatC} {rs:List Rat} {k:Nat} (h:OwnOs w B v L (rs.map some)) (hz:∀r∈rs,Sz r k) (hk:k≤2048):
 ∃a cap LA,v=.slice a LA.length cap∧RatsI w a cap LA∧LA.any (fun x=>!x.ok)=false∧ValL LA rs k:=by
 obtain⟨LA,h1,h2,h3,h4⟩:=ratsI_list hk L rs (by have:=h.len;simpa using this) (fun i hi r hr=>by
  have:=h.val i hi
  rw [List.getD_eq_getElem?_getD,List.getElem?_map,hr] at this
  exact this) hz
 obtain⟨a,cap,hr,hv⟩:=h.row
 refine⟨a,cap,LA,by rw [hv,h1],⟨by rw [h1];exact hr.le,hr.mx,hr.nil,fun A hA i hi=>?_,fun i hi=>(h2 i (by omega) hi).2.2.2.2.2.2.2.2⟩,h3,h4⟩
 obtain⟨g0,g1,g2,g3,g4⟩:=hr.cells A hA i (by dsimp only;omega)
 obtain⟨y1,y2,y3,y4,y5,y6,y7,y8,y9⟩:=h2 i (by omega) hi
 dsimp only at g1 g2 g3 g4
 rw [y1,y2,y3,y4,y5,y6,y7,y8]
 exact⟨g0,g1,g2,g3,g4⟩
def halves (l:List Int):List Rat:=l.map fun n=>Rat.divInt n 2
def ListP (l:List Int) (w:World) (e:Ending) (w':World):Prop:=∃v xs,e=.returned v∧OwnOs w' w.heap.size v xs ((halves l).map some)∧Ext w w'
set_option maxHeartbeats 4000000 in
theorem law40_list (a:Option Addr) (cap:Nat) (l:List Int) (w:World) (h:Ints w a cap l) (hm:∀x∈l,-1000≤x∧x≤1000) (hl:l.length≤1000):
 Calls Tryz.prog 23 #[.slice a l.length cap] w (ListP l w):=by
 have hle:=h.le
 have hmx:=h.mx
 have HH:=Lib.hid h
 have HM:=Lib.hid hm
 clear h hm
 have hx:=Ext.refl w
 go_enter Tryz.func23,Tryz.ntmps23
 go_wp2_with fail
 go_loopw [2,9] (fun v i wr=>∃q:Nat,q≤l.length∧i=.int .i64 q∧∃xs,OwnOs wr w.heap.size v xs ((halves (l.take q)).map some)∧Ext w wr) (fun _ i _=>l.length - (intOf i).toNat)
 case atStart=>exact⟨0,Nat.zero_le _,rfl,[],OwnOs.nil _ _,hx⟩
 case round=>
  obtain⟨q,hq,rfl,xs,hO,hxr⟩:=hrel
  have q1:(0:Int)≤(q:Int):=by omega
  have HXL:=Lib.hid (show xs.length=q by have:=hO.len;unfold halves at this;rw [List.length_map,List.length_map,List.length_take] at this;omega)
  obtain⟨va,vc,rfl,hvl,hvc⟩:=hO.form
  have HO:=Lib.hid hO
  have HXR:=Lib.hid hxr
  clear hO hx
  by_cases hqn:q<l.length
  ·have q2:(q:Int)< (l.length:Int):=by omega
   have hw1:IntKind.i64.wrap ((q:Int)+1)= (q:Int)+1:=IntWalk.i64_in _ (by omega)
   obtain⟨b,o,rfl⟩:=HH.out.head hqn
   obtain⟨z,hz,hc,hz1,hz2⟩:=Ints.get (HH.out.ext hxr) hqn
   have HZ:=Lib.hid hz
   have HZM:=HM.out z (List.mem_of_getElem? hz)
   have hlt:=Lib.hid (fun g e=>(HO.out.lt g e).2)
   clear hz
   go_wp2_with fail
   refine(ratio_Make z 2 _ (by omega) (by omega) (by omega)).mono ?_
   rintro e x4 ⟨v4,rfl,hv4,hy⟩
   obtain⟨n1,a1,q1',c1,b1,k1,d1,rfl,hv',hf',hg'⟩:=hv4
   have hoff:RatC.Off ⟨n1,a1,q1',c1,false,b1,k1,d1⟩ (Value.slice va xs.length vc).ownBlock:=FreshC.off ⟨fun _=>hf',fun _=>hg'⟩ hlt.out
   have HOFF:=Lib.hid hoff
   have hyb:=Ext.alloc x4 (.cells #[.bool n1,.slice a1 q1' c1,.bool false,.slice b1 k1 d1] 38)
   have Kt:=Lib.hid (Blk.new0 x4 #[.bool n1,.slice a1 q1' c1,.bool false,.slice b1 k1 d1] 38)
   replace hxr:=(hxr.trans hy).trans hyb
   have HOa:=Lib.hid ((HO.out.ext hy).ext hyb)
   have HRD:=Lib.hid (RatV.ext hv' hyb)
   clear hoff hy hv' hf' hg' hc
   go_upto_region 5 with fail
   generalize x4.alloc (.cells #[.bool n1,.slice a1 q1' c1,.bool false,.slice b1 k1 d1] 38)=x5 at *
   generalize x4.heap.size=pt at *
   obtain⟨s0,s1,s2,s3⟩:=bk4 Kt
   go_upto_region 7 with fail
   have hyc:=Ext.alloc x5 (.cells #[.bool n1,.slice a1 q1' c1,.bool false,.slice b1 k1 d1] 38)
   have HBz:=Lib.hid (Blk.new0 x5 #[.bool n1,.slice a1 q1' c1,.bool false,.slice b1 k1 d1] 38)
   have HXa:=Lib.hid (hxr.trans hyc)
   replace HOa:=Lib.hid (HOa.out.ext hyc)
   replace HRD:=Lib.hid (RatV.ext HRD.out hyc)
   clear hyc hxr
   go_wp2_with (at_builtin;refine wpl_append_o rfl (.tmp 20) (.tmp 22) rfl HXa.out rfl HOa.out rfl (x:=⟨n1,a1,q1',c1,false,b1,k1,d1⟩) (r:=some (Rat.divInt z 2)) HBz.out HRD.out HOFF.out (by have:=HXL.out;omega) ?_;intro v' w5 hO5 hx5 hg5 hat5)
   obtain⟨ua,uc,rfl,hul,huc⟩:=hO5.form
   go_roundw
   case rel=>exact⟨q+1,by omega,by go_num,_,(by unfold halves at hO5 ⊢;rw [take_get HZ.out,List.map_append,List.map_append];exact hO5),hx5⟩
   case measure=>simp [intOf];omega
  ·have q2:¬ (q:Int)< (l.length:Int):=by omega
   have hqe:q=l.length:=by omega
   subst hqe
   have HO2:=Lib.hid (by have:=HO.out;rwa [List.take_length] at this)
   clear HO
   go_wp2_with fail
   go_ret
   exact⟨_,xs,rfl,HO2.out,HXR.out⟩
end Go.Proofs.YtolffmmkjnhkkaaGreat
namespace Go.Proofs.YtolffmmkjnhkkaaGreat
open Go.RowKit Go BigFrame Go.Shelf
set_option maxRecDepth 100000
set_option linter.unusedSimpArgs false
set_option linter.unusedVariables false
theorem same_RO {v u:Value} {o:Option Rat} {w:World} (hv:RO w v o) (hu:RO w u o):Calls Tryz.prog 19 #[v,u] w fun e w'=>e=.returned (.bool true)∧Ext w w':=by
 cases o with
 | none=>
  have e1:v=zeroRat:=hv
  have e2:u=zeroRat:=hu
  subst e1 e2
  exact same_zero w
 | some r=>exact(same_rat hv hu).mono fun e w' h=>⟨by rw [h.1];simp,h.2⟩
set_option maxHeartbeats 4000000 in
theorem ref10_SameList (x y:RowD) (v u:Value) (w:World) (hx0:x.Rd w v) (hy0:y.Rd w u) (he:x.R=y.R):Calls Tryz.prog 14 #[v,u] w fun e w'=>e=.returned (.bool true)∧Ext w w':=by
 obtain⟨xa,xc,xV,xR⟩:=x
 obtain⟨ya,yc,yV,yR⟩:=y
 have hxe:=hx0.eq
 have hye:=hy0.eq
 subst hxe hye
 dsimp only at *
 have xle:=hx0.le
 have xmx:=hx0.mx
 have yle:=hy0.le
 have ymx:=hy0.mx
 have hlen:xV.length=yV.length:=by have h1:=hx0.len;have h2:=hy0.len;dsimp only at h1 h2 he;rw [h1,h2,he]
 have t1:((xV.length:Int) != (yV.length:Int))=false:=by simp [hlen]
 have HX:=Lib.hid hx0
 have HY:=Lib.hid hy0
 have HR:=Lib.hid he
 have HLN:=Lib.hid hlen
 clear hx0 hy0 he hlen
 have hx:=Ext.refl w
 go_enter Tryz.func14,Tryz.ntmps14
 go_wp2_with fail
 go_loopw [5] (fun i wr=>∃k:Nat,k≤xV.length∧i=.int .i64 k∧Ext w wr) (fun i _=>xV.length - (intOf i).toNat)
 case atStart=>exact⟨0,Nat.zero_le _,rfl,hx⟩
 case round=>
  obtain⟨k,hk,rfl,hxr⟩:=hrel
  have q1:(0:Int)≤(k:Int):=by omega
  clear hx
  by_cases hkn:k<xV.length
  ·have hky:k<yV.length:=by have:=HLN.out;omega
   have q2:(k:Int)< (xV.length:Int):=by omega
   have q3:(k:Int)< (yV.length:Int):=by omega
   have hw1:IntKind.i64.wrap ((k:Int)+1)= (k:Int)+1:=IntWalk.i64_in _ (by omega)
   obtain⟨b,o,ea⟩:=HX.out.head hkn
   obtain⟨b2,o2,eb⟩:=HY.out.head hky
   dsimp only at ea eb
   subst ea eb
   obtain⟨_,g0,g1,g2,g3⟩:=(HX.out.ext hxr).cells _ rfl k hkn
   obtain⟨_,h0,h1,h2,h3⟩:=(HY.out.ext hxr).cells _ rfl k hky
   have V1:=(HX.out.ext hxr).val k hkn
   have V2:=(HY.out.ext hxr).val k hky
   rw [←HR.out] at V2
   dsimp only at g0 g1 g2 g3 h0 h1 h2 h3
   have HS:=fun W (hW:Ext wr W)=>same_RO (V1.ext hW) (V2.ext hW)
   clear V1 V2
   generalize xV[k]=p at *
   generalize yV[k]=q at *
   have HS:=Lib.hid HS
   obtain⟨n1,a1,q1',c1,m1,b1,k1,d1⟩:=p
   obtain⟨n2,a2,q2',c2,m2,b2',k2,d2⟩:=q
   dsimp only [RatC.val] at HS g0 g1 g2 g3 h0 h1 h2 h3
   go_upto_region 6 with fail
   have hx:=hxr
   clear hxr
   have s0:World.cell? wr ⟨b,o+k*4,none⟩=some (.bool n1):=g0
   have s1:World.cell? wr ⟨b,o+k*4+1,none⟩=some (.slice a1 q1' c1):=g1
   have s2:World.cell? wr ⟨b,o+k*4+2,none⟩=some (.bool m1):=g2
   have s3:World.cell? wr ⟨b,o+k*4+3,none⟩=some (.slice b1 k1 d1):=g3
   have s4:World.cell? wr ⟨b2,o2+k*4,none⟩=some (.bool n2):=h0
   have s5:World.cell? wr ⟨b2,o2+k*4+1,none⟩=some (.slice a2 q2' c2):=h1
   have s6:World.cell? wr ⟨b2,o2+k*4+2,none⟩=some (.bool m2):=h2
   have s7:World.cell? wr ⟨b2,o2+k*4+3,none⟩=some (.slice b2' k2 d2):=h3
   have hE:Ext wr (World.drew wr):=(Ext.refl _).drew
   have hyd:Ext wr (World.drew wr):=(Ext.refl _).drew
   replace hx:=hx.trans hyd
   clear hyd
   replace s0:World.cell? (World.drew wr) ⟨b,o+k*4,none⟩=some (.bool n1):=s0
   replace s1:World.cell? (World.drew wr) ⟨b,o+k*4+1,none⟩=some (.slice a1 q1' c1):=s1
   replace s2:World.cell? (World.drew wr) ⟨b,o+k*4+2,none⟩=some (.bool m1):=s2
   replace s3:World.cell? (World.drew wr) ⟨b,o+k*4+3,none⟩=some (.slice b1 k1 d1):=s3
   replace s4:World.cell? (World.drew wr) ⟨b2,o2+k*4,none⟩=some (.bool n2):=s4
   replace s5:World.cell? (World.drew wr) ⟨b2,o2+k*4+1,none⟩=some (.slice a2 q2' c2):=s5
   replace s6:World.cell? (World.drew wr) ⟨b2,o2+k*4+2,none⟩=some (.bool m2):=s6
   replace s7:World.cell? (World.drew wr) ⟨b2,o2+k*4+3,none⟩=some (.slice b2' k2 d2):=s7
   refine wp_region_held_drew (S:=(fun w'=>World.cell? w' ⟨b,o+k*4,none⟩=some (.bool n1)∧World.cell? w' ⟨b,o+k*4+1,none⟩=some (.slice a1 q1' c1)∧World.cell? w' ⟨b,o+k*4+2,none⟩=some (.bool m1)∧World.cell? w' ⟨b,o+k*4+3,none⟩=some (.slice b1 k1 d1)∧World.cell? w' ⟨b2,o2+k*4,none⟩=some (.bool n2)∧World.cell? w' ⟨b2,o2+k*4+1,none⟩=some (.slice a2 q2' c2)∧World.cell? w' ⟨b2,o2+k*4+2,none⟩=some (.bool m2)∧World.cell? w' ⟨b2,o2+k*4+3,none⟩=some (.slice b2' k2 d2))) (by kernel_rfl) ?_ (fun hHeld=>?_)
   ·exact⟨s0,s1,s2,s3,s4,s5,s6,s7⟩
   (try simp only [pur,Nat.reduceAdd])
   generalize World.drew wr=x21 at *
   refine tk (v:=?_) 0 rfl (by kernel_rfl) (fun _ _ _ h=>h) (by rfl) ?_ (by assumption) ?_
   rotate_left
   ·(intro w hSw;(try dsimp only at hSw);(try go_simp);(try with_reducible rfl))
   (try simp only [Act.put,pus])
   refine tk (v:=?_) 1 rfl (by kernel_rfl) (fun _ _ _ h=>h) (by rfl) ?_ (by assumption) ?_
   rotate_left
   ·(intro w hSw;(try dsimp only at hSw);(try go_simp);(try with_reducible rfl))
   (try simp only [Act.put,pus])
   refine tk (v:=?_) 2 rfl (by kernel_rfl) (fun _ _ _ h=>h) (by rfl) ?_ (by assumption) ?_
   rotate_left
   ·(intro w hSw;(try dsimp only at hSw);(try go_simp);(try with_reducible rfl))
   (try simp only [Act.put,pus])
   refine tk (v:=?_) 3 rfl (by kernel_rfl) (fun _ _ _ h=>h) (by rfl) ?_ (by assumption) ?_
   rotate_left
   ·(intro w hSw;(try dsimp only at hSw);(try go_simp);(try with_reducible rfl))
   (try simp only [Act.put,pus])
   refine tk (v:=?_) 4 rfl (by kernel_rfl) (fun _ _ _ h=>h) (by rfl) ?_ (by assumption) ?_
   rotate_left
   ·(intro w hSw;(try dsimp only at hSw);(try go_simp);(try with_reducible rfl))
   (try simp only [Act.put,pus])
   refine tk (v:=?_) 5 rfl (by kernel_rfl) (fun _ _ _ h=>h) (by rfl) ?_ (by assumption) ?_
   rotate_left
   ·(intro w hSw;(try dsimp only at hSw);(try go_simp);(try with_reducible rfl))
   (try simp only [Act.put,pus])
   refine tk (v:=?_) 6 rfl (by kernel_rfl) (fun _ _ _ h=>h) (by rfl) ?_ (by assumption) ?_
   rotate_left
   ·(intro w hSw;(try dsimp only at hSw);(try go_simp);(try with_reducible rfl))
   (try simp only [Act.put,pus])
   refine tk (v:=?_) 7 rfl (by kernel_rfl) (fun _ _ _ h=>h) (by rfl) ?_ (by assumption) ?_
   rotate_left
   ·(intro w hSw;(try dsimp only at hSw);(try go_simp);(try with_reducible rfl))
   (try simp only [Act.put,pus])
   refine wpAnyH_ready (rs:=[8]) (by kernel_rfl) (by simp) ?_
   refine AllReadyH.cons (o:=_) rfl (fun K hK=>?_) ?_
   ·go_simp
    (with_reducible refine(HS.out _ hE).mono ?_);rintro e x22 ⟨rfl,hy⟩;replace hE:=hE.trans hy;replace hx:=hx.trans hy;replace s0:=cell_exQ hy s0;replace s1:=cell_exQ hy s1;replace s2:=cell_exQ hy s2;replace s3:=cell_exQ hy s3;replace s4:=cell_exQ hy s4;replace s5:=cell_exQ hy s5;replace s6:=cell_exQ hy s6;replace s7:=cell_exQ hy s7;clear hy
    refine hK.out _ _ ?_ (fun hHeld2=>?_)
    ·exact⟨s0,s1,s2,s3,s4,s5,s6,s7⟩
    clear hK K hHeld
    have hHeld:=hHeld2
    clear hHeld2
    (try simp only [Act.put,pus])
    refine tk (v:=?_) 9 rfl (by kernel_rfl) (fun _ _ _ h=>h) (by rfl) ?_ (by assumption) ?_
    rotate_left
    ·(intro w hSw;(try dsimp only at hSw);(try go_simp);(try with_reducible rfl))
    (try simp only [Act.put,pus])
    refine wpAnyH_done (by kernel_rfl) ?_ _
    clear s0 s1 s2 s3 s4 s5 s6 s7
    go_wp2_with fail
    go_roundw
    case rel=>exact⟨k+1,by omega,by go_num,hx⟩
    case measure=>simp [intOf];omega
   exact AllReadyH.nil
  ·have q2:¬ (k:Int)< (xV.length:Int):=by omega
   go_wp2_with fail
   go_ret
   exact⟨rfl,hxr⟩
end Go.Proofs.YtolffmmkjnhkkaaGreat
namespace Go.Proofs.YtolffmmkjnhkkaaGreat
open Go.RowKit Go BigFrame Go.Shelf
set_option maxRecDepth 100000
set_option linter.unusedSimpArgs false
set_option linter.unusedVariables false
attribute [local go_sem] Oper.semAt_some
def Fits (l:List Int):Prop:=∀x∈l,-1000000≤x∧x≤1000000
theorem ints_lit {w:World} {b:Nat} {t:TypeId} {l:List Int} (h:Blk w b (l.map (Value.int .i64)).toArray t) (hr:Fits l) (hl:l.length≤1000000):Ints w (some ⟨b,0,none⟩) l.length l:=
 ⟨Nat.le_refl _,by omega,fun h=>by(cases h),fun A hA i hi=>by
  cases hA
  have h1:=hr _ (List.getElem_mem hi)
  refine⟨rfl,.int .i64 l[i],?_,?_⟩
  ·simp only [Nat.zero_add]
   exact h.cell (by simp [hi])
  ·exact⟨rfl,by omega,by omega⟩⟩
theorem rows_lit1 {w:World} {b:Nat} {t:TypeId} {a:Option Addr} {cap:Nat} {l:List Int} (h:Blk w b #[.slice a l.length cap] t) (hi:Ints w a cap l):Rows w (some ⟨b,0,none⟩) 1 [l]:=
 ⟨by simp,by simp,fun h=>by(cases h),fun A hA i hi'=>by
  cases hA
  have e:i=0:=by simp at hi';omega
  subst e
  exact⟨rfl,.slice a l.length cap,h.cell rfl,a,cap,rfl,hi⟩⟩
theorem rows_lit2 {w:World} {b:Nat} {t:TypeId} {a a2:Option Addr} {cap cap2:Nat} {l l2:List Int} (h:Blk w b #[.slice a l.length cap,.slice a2 l2.length cap2] t) (hi:Ints w a cap l) (hj:Ints w a2 cap2 l2):Rows w (some ⟨b,0,none⟩) 2 [l,l2]:=
 ⟨by simp,by simp,fun h=>by(cases h),fun A hA i hi'=>by
  cases hA
  have e:i=0∨i=1:=by simp at hi';omega
  rcases e with rfl | rfl
  ·exact⟨rfl,.slice a l.length cap,h.cell rfl,a,cap,rfl,hi⟩
  ·exact⟨rfl,.slice a2 l2.length cap2,h.cell (i:=1) rfl,a2,cap2,rfl,hj⟩⟩
theorem lit_rows1 (w:World) {a:Option Addr} {cap:Nat} {l:List Int} (h:Ints w a cap l):∃x,w.alloc (.cells #[.slice a l.length cap] 34)=x∧Ext w x∧Rows x (some ⟨w.heap.size,0,none⟩) 1 [l]:=
 ⟨_,rfl,Ext.alloc _ _,rows_lit1 (Blk.new0 w _ _) (h.ext (Ext.alloc _ _))⟩
theorem lit_ints (w:World) (l:List Int) (hr:Fits l) (hl:l.length≤1000000):∃x,w.alloc (.cells (l.map (Value.int .i64)).toArray 3)=x∧Ext w x∧Ints x (some ⟨w.heap.size,0,none⟩) l.length l:=
 ⟨_,rfl,Ext.alloc _ _,ints_lit (Blk.new0 w _ _) hr hl⟩
theorem errM_one {l:List Int} {n:Nat} (hn:l.length=n) (h:n≤256) (hm:∀x∈l,-1≤x∧x≤1000):errM [l] n false=0:=by
 unfold errM
 have hb:l.any badM=false:=by
  rw [List.any_eq_false]
  intro x hx
  have:=hm x hx
  unfold badM
  rw [decide_eq_false (by omega),decide_eq_false (by omega)]
  simp
 rw [if_neg (by simp;omega),if_neg (by simp [longM];omega),if_neg (by unfold wrongM;simp [hb]),if_neg (by simp [hn]),if_neg (by simp)]
set_option maxHeartbeats 4000000 in
theorem law40_means (a:Option Addr) (cap:Nat) (l:List Int) (s:Option Addr) (sc:Nat) (L:List RatA) (S:List Rat) (want:Int) (w:World) (h:Ints w a cap l) (k:RatsI w s sc L) (hV:ValL L S 7) (hok:L.any (fun x=>!x.ok)=false)
 (hl:l.length=L.length) (hL:L.length≤10) (hm:∀x∈l,-1≤x∧x≤1000) (hw:-1000≤want∧want≤1000) (hmean:meanO l S=some (Rat.divInt want 2)):
 Calls Tryz.prog 24 #[.slice a l.length cap,.slice s L.length sc,.int .i64 want] w fun e w'=>e=.returned (.bool true)∧Ext w w':=by
 have hle:=h.le
 have hmx:=h.mx
 have sle:=k.le
 have smx:=k.mx
 obtain⟨x1,hw1,hx,hR⟩:=lit_rows1 w h
 have HM:=corrected_Means (some ⟨w.heap.size,0,none⟩) 1 [l] s sc L S x1 hR (k.ext hx) (fun _=>⟨hV,by omega⟩)
 rw [hok,errM_one hl (by omega) hm] at HM
 have HM:=Lib.hid HM
 replace hw1:=Lib.hid hw1
 have HMN:=Lib.hid hmean
 have HX:=Lib.hid hx
 have HW:=Lib.hid hw
 clear h k hV hok hm hmean hR hx hl hL
 go_enter Tryz.func24,Tryz.ntmps24
 go_wp2_with fail
 rw [hw1.out]
 refine HM.out.mono ?_
 rintro e x2 (⟨-,v,xs,rfl,hO,hy⟩ | ⟨h0,-⟩)
 rotate_left
 ·exact absurd rfl h0
 have hxl:xs.length=1:=by have:=hO.len;simpa using this
 obtain⟨va,vc,rfl,hvl,hvc⟩:=hO.form
 rw [hxl] at *
 have HO:=Lib.hid hO
 have HXL:=Lib.hid hxl
 have HX2:=Lib.hid (HX.out.trans hy)
 clear hO hxl hy HM hw1
 obtain⟨x3,hw3,hx3,hI3⟩:=lit_ints x2 [want] (fun x hx=>by rw [List.mem_singleton.1 hx];have:=HW.out;omega) (by simp)
 simp only [List.map_cons,List.map_nil] at hw3
 replace hw3:=Lib.hid hw3
 have HLI:=Lib.hid (law40_list _ _ [want] x3 hI3 (fun x hx=>by rw [List.mem_singleton.1 hx];have:=HW.out;omega) (by simp))
 simp only [List.length_singleton] at HLI
 have HX3:=Lib.hid hx3
 clear hI3 hx3 hw
 go_wp2_with fail
 rw [hw3.out]
 refine HLI.out.mono ?_
 rintro e x4 ⟨v2,ys,rfl,hO2,hy⟩
 obtain⟨ua,uc,e2⟩:=hO2.row
 obtain⟨ra,rc,e1⟩:=(HO.out.ext (HX3.out.trans hy)).row
 have HS:=ref10_SameList _ _ _ _ x4 e1.1 e2.1 (by dsimp only;unfold halves;simp [HMN.out])
 have HX4:=Lib.hid ((HX2.out.trans HX3.out).trans hy)
 rw [e2.2] at HS ⊢
 have HS:=Lib.hid HS
 clear hO2 hy e1 e2
 go_wp2_with fail
 refine HS.out.mono ?_
 rintro e x5 ⟨rfl,hy⟩
 have HX5:=Lib.hid (HX4.out.trans hy)
 clear hy
 go_wp2_with fail
 go_ret
 exact⟨rfl,HX5.out⟩
end Go.Proofs.YtolffmmkjnhkkaaGreat
namespace Go.Proofs.YtolffmmkjnhkkaaGreat
open Go.RowKit Go BigFrame Go.Shelf
set_option maxRecDepth 100000
set_option linter.unusedSimpArgs false
set_option linter.unusedVariables false
attribute [local go_sem] Oper.semAt_some
abbrev zeroA:RatA:=⟨false,none,0,[],false,none,0,[]⟩
theorem zero_rats {w:World} {p:Nat} (h:OwnV w p (List.replicate 1 zeroC)):RatsI w (some ⟨p,0,none⟩) 1 [zeroA]:=
 ⟨by simp,by simp,fun h=>by(cases h),fun A hA i hi=>by
  cases hA
  have e:i=0:=by simp at hi;omega
  subst e
  have h0:=h.cells (i:=0) (by simp)
  simpa using h0,fun i hi=>by
  have e:i=0:=by simp at hi;omega
  subst e
  exact⟨⟨Nat.le_refl _,by simp,fun _=>rfl,fun A hA=>by cases hA⟩,⟨Nat.le_refl _,by simp,fun _=>rfl,fun A hA=>by cases hA⟩⟩⟩
theorem halves_sz {l:List Int} (h:∀x∈l,-1000≤x∧x≤1000):∀r∈halves l,Sz r 7:=fun r hr=>by
 obtain⟨x,hx,rfl⟩:=List.mem_map.1 hr
 have:=h x hx
 exact(divInt_sz (k:=1) (by rw [Nat.pow_one];omega) (by decide) (by decide)).mono (by omega)
theorem nil_rows (w:World):Rows w none 0 []:=⟨Nat.le_refl _,by simp,fun _=>rfl,fun A hA=>by cases hA⟩
theorem nil_rats (w:World):RatsI w none 0 []:=⟨Nat.le_refl _,by simp,fun _=>rfl,(fun A hA=>by cases hA),fun i h=>absurd h (by simp)⟩
theorem lit_rows2 (w:World) {a a2:Option Addr} {cap cap2:Nat} {l l2:List Int} (h:Ints w a cap l) (h2:Ints w a2 cap2 l2):∃x,w.alloc (.cells #[.slice a l.length cap,.slice a2 l2.length cap2] 34)=x∧Ext w x∧Rows x (some ⟨w.heap.size,0,none⟩) 2 [l,l2]:=
 ⟨_,rfl,Ext.alloc _ _,rows_lit2 (Blk.new0 w _ _) (h.ext (Ext.alloc _ _)) (h2.ext (Ext.alloc _ _))⟩
set_option maxHeartbeats 16000000 in
theorem law40_sane (w:World):Calls Tryz.prog 7 #[] w fun e w'=>e=.returned (.bool true)∧Ext w w':=by
 have H1:=Lib.hid (corrected_Means none 0 [] none 0 [] [] w (nil_rows w) (nil_rats w) (fun _=>⟨⟨rfl,fun i x r h=>by simp at h⟩,by simp⟩))
 have hx:=Ext.refl w
 go_enter Tryz.func7,Tryz.ntmps7
 go_wp2_with fail
 refine H1.out.mono ?_
 rintro e x1 (⟨-,v1,xs1,rfl,hO,hy⟩ | ⟨h0,-⟩)
 rotate_left
 ·exact absurd (by decide) h0
 replace hx:=hx.trans hy
 obtain⟨va,vc,rfl,hvl,hvc⟩:=hO.form
 have hxl:xs1.length=0:=by have:=hO.len;simpa using this
 rw [hxl] at *
 clear hO hy H1 hxl
 obtain⟨y2,ey2,hy2,Iy2⟩:=lit_ints x1 [3,5] (by unfold Fits;decide) (by decide)
 simp only [List.map_cons,List.map_nil] at ey2
 replace hx:=hx.trans hy2
 obtain⟨y3,ey3,hy3,Iy3⟩:=lit_rows1 y2 Iy2
 simp only [List.length_cons,List.length_nil,Nat.zero_add,Nat.reduceAdd] at ey3
 replace Iy2:=Iy2.ext hy3
 replace hx:=hx.trans hy3
 obtain⟨y4,ey4,hy4,Iy4⟩:=lit_ints y3 [0] (by unfold Fits;decide) (by decide)
 simp only [List.map_cons,List.map_nil] at ey4
 replace Iy2:=Iy2.ext hy4
 replace Iy3:=Iy3.ext hy4
 replace hx:=hx.trans hy4
 have HLI:=Lib.hid (law40_list _ _ [0] y4 Iy4 (by decide) (by decide))
 simp only [List.length_cons,List.length_nil,Nat.zero_add,Nat.reduceAdd] at HLI
 go_wp2_with fail
 refine HLI.out.mono ?_
 rintro e x5 ⟨v,ys,rfl,hO,hy⟩
 obtain⟨sa,pa,La,rfl,Ra,Ka,Va⟩:=hO.rats (k:=7) (halves_sz (by decide)) (by omega)
 have Na:La.length=1:=Va.1
 clear hO HLI
 replace Iy2:=Iy2.ext hy
 replace Iy3:=Iy3.ext hy
 replace Iy4:=Iy4.ext hy
 replace hx:=hx.trans hy
 clear hy
 have HC:=corrected_Means _ _ [[3,5]] sa pa La (halves []) x5 Iy3 Ra (fun h=>by rw [Ka,Na] at h;exact absurd h (by decide))
 rw [Ka,Na,show errM [[3,5]] 1 false=1 by decide] at HC
 simp only [List.length_cons,List.length_nil,Nat.zero_add,Nat.reduceAdd] at HC
 replace HC:=Lib.hid HC
 rw [Na]
 go_wp2_with fail
 refine HC.out.mono ?_
 rintro e x6 (⟨h0,-⟩ | ⟨-,rfl,hy⟩)
 ·exact absurd h0 (by decide)
 clear HC
 replace Iy2:=Iy2.ext hy
 replace Iy3:=Iy3.ext hy
 replace Iy4:=Iy4.ext hy
 replace hx:=hx.trans hy
 clear hy
 clear Ra Ka Va
 clear Iy2 ey2 hy2 Iy3 ey3 hy3 Iy4 ey4 hy4
 obtain⟨y7,ey7,hy7,Iy7⟩:=lit_ints x6 [3,-2] (by unfold Fits;decide) (by decide)
 simp only [List.map_cons,List.map_nil] at ey7
 replace hx:=hx.trans hy7
 obtain⟨y8,ey8,hy8,Iy8⟩:=lit_rows1 y7 Iy7
 simp only [List.length_cons,List.length_nil,Nat.zero_add,Nat.reduceAdd] at ey8
 replace Iy7:=Iy7.ext hy8
 replace hx:=hx.trans hy8
 obtain⟨y9,ey9,hy9,Iy9⟩:=lit_ints y8 [0,0] (by unfold Fits;decide) (by decide)
 simp only [List.map_cons,List.map_nil] at ey9
 replace Iy7:=Iy7.ext hy9
 replace Iy8:=Iy8.ext hy9
 replace hx:=hx.trans hy9
 have HLI:=Lib.hid (law40_list _ _ [0,0] y9 Iy9 (by decide) (by decide))
 simp only [List.length_cons,List.length_nil,Nat.zero_add,Nat.reduceAdd] at HLI
 go_wp2_with fail
 refine HLI.out.mono ?_
 rintro e x10 ⟨v,ys,rfl,hO,hy⟩
 obtain⟨sb,pb,Lb,rfl,Rb,Kb,Vb⟩:=hO.rats (k:=7) (halves_sz (by decide)) (by omega)
 have Nb:Lb.length=2:=Vb.1
 clear hO HLI
 replace Iy7:=Iy7.ext hy
 replace Iy8:=Iy8.ext hy
 replace Iy9:=Iy9.ext hy
 replace hx:=hx.trans hy
 clear hy
 have HC:=corrected_Means _ _ [[3,-2]] sb pb Lb (halves []) x10 Iy8 Rb (fun h=>by rw [Kb,Nb] at h;exact absurd h (by decide))
 rw [Kb,Nb,show errM [[3,-2]] 2 false=160 by decide] at HC
 simp only [List.length_cons,List.length_nil,Nat.zero_add,Nat.reduceAdd] at HC
 replace HC:=Lib.hid HC
 rw [Nb]
 go_wp2_with fail
 refine HC.out.mono ?_
 rintro e x11 (⟨h0,-⟩ | ⟨-,rfl,hy⟩)
 ·exact absurd h0 (by decide)
 clear HC
 replace Iy7:=Iy7.ext hy
 replace Iy8:=Iy8.ext hy
 replace Iy9:=Iy9.ext hy
 replace hx:=hx.trans hy
 clear hy
 clear Rb Kb Vb
 clear Iy7 ey7 hy7 Iy8 ey8 hy8 Iy9 ey9 hy9
 obtain⟨y12,ey12,hy12,Iy12⟩:=lit_ints x11 [3,5] (by unfold Fits;decide) (by decide)
 simp only [List.map_cons,List.map_nil] at ey12
 replace hx:=hx.trans hy12
 obtain⟨y13,ey13,hy13,Iy13⟩:=lit_ints y12 [4] (by unfold Fits;decide) (by decide)
 simp only [List.map_cons,List.map_nil] at ey13
 replace Iy12:=Iy12.ext hy13
 replace hx:=hx.trans hy13
 obtain⟨y14,ey14,hy14,Iy14⟩:=lit_rows2 y13 Iy12 Iy13
 simp only [List.length_cons,List.length_nil,Nat.zero_add,Nat.reduceAdd] at ey14
 replace Iy12:=Iy12.ext hy14
 replace Iy13:=Iy13.ext hy14
 replace hx:=hx.trans hy14
 obtain⟨y15,ey15,hy15,Iy15⟩:=lit_ints y14 [0,0] (by unfold Fits;decide) (by decide)
 simp only [List.map_cons,List.map_nil] at ey15
 replace Iy12:=Iy12.ext hy15
 replace Iy13:=Iy13.ext hy15
 replace Iy14:=Iy14.ext hy15
 replace hx:=hx.trans hy15
 have HLI:=Lib.hid (law40_list _ _ [0,0] y15 Iy15 (by decide) (by decide))
 simp only [List.length_cons,List.length_nil,Nat.zero_add,Nat.reduceAdd] at HLI
 go_wp2_with fail
 refine HLI.out.mono ?_
 rintro e x16 ⟨v,ys,rfl,hO,hy⟩
 obtain⟨sc,pc,Lc,rfl,Rc,Kc,Vc⟩:=hO.rats (k:=7) (halves_sz (by decide)) (by omega)
 have Nc:Lc.length=2:=Vc.1
 clear hO HLI
 replace Iy12:=Iy12.ext hy
 replace Iy13:=Iy13.ext hy
 replace Iy14:=Iy14.ext hy
 replace Iy15:=Iy15.ext hy
 replace hx:=hx.trans hy
 clear hy
 have HC:=corrected_Marks _ _ [[3,5],[4]] sc pc Lc (halves []) x16 Iy14 Rc (fun h=>by rw [Kc,Nc] at h;exact absurd h (by decide))
 rw [Kc,Nc,show errM [[3,5],[4]] 2 false=160 by decide] at HC
 simp only [List.length_cons,List.length_nil,Nat.zero_add,Nat.reduceAdd] at HC
 replace HC:=Lib.hid HC
 rw [Nc]
 go_wp2_with fail
 refine HC.out.mono ?_
 rintro e x17 (⟨h0,-⟩ | ⟨-,rfl,hy⟩)
 ·exact absurd h0 (by decide)
 clear HC
 replace Iy12:=Iy12.ext hy
 replace Iy13:=Iy13.ext hy
 replace Iy14:=Iy14.ext hy
 replace Iy15:=Iy15.ext hy
 replace hx:=hx.trans hy
 clear hy
 clear Rc Kc Vc
 clear Iy12 ey12 hy12 Iy13 ey13 hy13 Iy14 ey14 hy14 Iy15 ey15 hy15
 obtain⟨y18,ey18,hy18,Iy18⟩:=lit_ints x17 [3,-1] (by unfold Fits;decide) (by decide)
 simp only [List.map_cons,List.map_nil] at ey18
 replace hx:=hx.trans hy18
 obtain⟨y19,ey19,hy19,Iy19⟩:=lit_rows1 y18 Iy18
 simp only [List.length_cons,List.length_nil,Nat.zero_add,Nat.reduceAdd] at ey19
 replace Iy18:=Iy18.ext hy19
 replace hx:=hx.trans hy19
 obtain⟨y20,ey20,hy20,Iy20⟩:=lit_ints y19 [1,14] (by unfold Fits;decide) (by decide)
 simp only [List.map_cons,List.map_nil] at ey20
 replace Iy18:=Iy18.ext hy20
 replace Iy19:=Iy19.ext hy20
 replace hx:=hx.trans hy20
 have HLI:=Lib.hid (law40_list _ _ [1,14] y20 Iy20 (by decide) (by decide))
 simp only [List.length_cons,List.length_nil,Nat.zero_add,Nat.reduceAdd] at HLI
 go_wp2_with fail
 refine HLI.out.mono ?_
 rintro e x21 ⟨v,ys,rfl,hO,hy⟩
 obtain⟨sd,pd,Ld,rfl,Rd,Kd,Vd⟩:=hO.rats (k:=7) (halves_sz (by decide)) (by omega)
 have Nd:Ld.length=2:=Vd.1
 clear hO HLI
 replace Iy18:=Iy18.ext hy
 replace Iy19:=Iy19.ext hy
 replace Iy20:=Iy20.ext hy
 replace hx:=hx.trans hy
 clear hy
 have HC:=corrected_Marks _ _ [[3,-1]] sd pd Ld (halves [1,14]) x21 Iy19 Rd (fun _=>⟨Vd,by omega⟩)
 rw [Kd,Nd,show errM [[3,-1]] 2 false=0 by decide] at HC
 simp only [List.length_cons,List.length_nil,Nat.zero_add,Nat.reduceAdd] at HC
 replace HC:=Lib.hid HC
 rw [Nd]
 go_wp2_with fail
 refine HC.out.mono ?_
 rintro e x22 (⟨-,v9,xs9,rfl,h9,m9,hy⟩ | ⟨h0,-⟩)
 rotate_left
 ·exact absurd rfl h0
 clear HC
 replace Iy18:=Iy18.ext hy
 replace Iy19:=Iy19.ext hy
 replace Iy20:=Iy20.ext hy
 replace hx:=hx.trans hy
 clear hy
 clear Rd Kd Vd
 clear Iy18 ey18 hy18 Iy19 ey19 hy19 Iy20 ey20 hy20
 have l9:xs9.length=1:=by have:=congrArg List.length m9;simpa using this
 obtain⟨row,rfl⟩:=List.length_eq_one_iff.1 l9
 replace m9:row.R=rowO [3,-1] (halves [1,14]):=by simpa using m9
 rw [show rowO [3,-1] (halves [1,14])=[some (Rat.divInt 5 2),none] by decide +kernel] at m9
 obtain⟨la,lc,rfl,h10⟩:=h9.sl
 have H9:=Lib.hid h9
 clear h9 l9 h10
 simp only [List.length_singleton]
 obtain⟨y23,ey23,hy23,Iy23⟩:=lit_ints x22 [3] (by unfold Fits;decide) (by decide)
 simp only [List.map_cons,List.map_nil] at ey23
 replace H9:=(fun h=>Lib.hid (H9.out.ext rdRow h)) hy23
 replace hx:=hx.trans hy23
 obtain⟨y24,ey24,hy24,Iy24⟩:=lit_rows1 y23 Iy23
 simp only [List.length_cons,List.length_nil,Nat.zero_add,Nat.reduceAdd] at ey24
 replace Iy23:=Iy23.ext hy24
 replace H9:=(fun h=>Lib.hid (H9.out.ext rdRow h)) hy24
 replace hx:=hx.trans hy24
 obtain⟨i0,hi0,hz0,hz1,hz2⟩:=info_parts infoRatM
 go_wp2_with (at_make;refine wpList_make_full _ rfl _ _ 23 rfl y24.heap.size 38 i0 _ 4 Tryz.underlying23 hi0 hz0 hz1 _ _ _ _ 1 rfl rfl rfl rfl (by rw [hz2];omega) (by unfold maxLen;omega) (Nat.le_refl _) ?_;intro x25 hown hgrow)
 have RZ:=zero_rats (ownV_made hown)
 have hy:Ext y24 x25:=grownExt (Ext.refl y24) hgrow
 clear hown hgrow hi0 hz0 hz1 hz2
 replace Iy23:=Iy23.ext hy
 replace Iy24:=Iy24.ext hy
 replace H9:=(fun h=>Lib.hid (H9.out.ext rdRow h)) hy
 replace hx:=hx.trans hy
 clear hy
 have HC:=corrected_Marks _ _ [[3]] _ _ [zeroA] (halves []) x25 Iy24 RZ (fun h=>absurd h (by decide))
 rw [show errM [[3]] [zeroA].length ([zeroA].any fun x=>!x.ok)=100 by decide] at HC
 simp only [List.length_cons,List.length_nil,Nat.zero_add,Nat.reduceAdd] at HC
 replace HC:=Lib.hid HC
 go_wp2_with fail
 refine HC.out.mono ?_
 rintro e x26 (⟨h0,-⟩ | ⟨-,rfl,hy⟩)
 ·exact absurd h0 (by decide)
 clear HC RZ
 replace Iy23:=Iy23.ext hy
 replace Iy24:=Iy24.ext hy
 replace H9:=(fun h=>Lib.hid (H9.out.ext rdRow h)) hy
 replace hx:=hx.trans hy
 clear hy
 clear Iy23 ey23 hy23 Iy24 ey24 hy24
 obtain⟨-,hsl⟩:=H9.out.slice
 obtain⟨ob,oo,rfl⟩:=hsl.head (i:=0) (by simp)
 obtain⟨-,vr,r0,hrd⟩:=hsl.cells _ rfl 0 (by simp)
 simp only [List.getElem_cons_zero,Nat.add_zero] at r0 hrd
 obtain⟨ra,rc,V,R⟩:=row
 dsimp only at m9
 subst m9
 have evr:=hrd.eq
 have hVl:V.length=2:=hrd.len
 dsimp only at evr
 subst evr
 obtain⟨c0,c1,rfl⟩:∃c0 c1,V=[c0,c1]:=by
  match V,hVl with
  | [c0,c1],_=>exact⟨c0,c1,rfl⟩
 obtain⟨gb,go',e0⟩:=hrd.head (i:=0) (by simp)
 dsimp only at e0
 subst e0
 obtain⟨-,a0,a1,a2,a3⟩:=hrd.cells _ rfl 0 (by simp)
 obtain⟨-,b0,b1,b2,b3⟩:=hrd.cells _ rfl 1 (by simp)
 have V0:RatV _ c0.val (Rat.divInt 5 2):=hrd.val 0 (by simp)
 have V1:c1.val=zeroRat:=hrd.val 1 (by simp)
 obtain⟨n0,q0,t0,u0,m0,w0,k0,d0⟩:=c0
 obtain⟨n1,q1,t1,u1,m1,w1,k1,d1⟩:=c1
 simp only [RatC.val,zeroRat,Value.agg.injEq,Array.mk.injEq,List.cons.injEq,Value.bool.injEq,Value.slice.injEq,and_true] at V1
 obtain⟨rfl,⟨rfl,rfl,rfl⟩,rfl,rfl,rfl,rfl⟩:=V1
 have hpre:RowD.Rd x26 (.slice (some ⟨gb,go',none⟩) 1 rc) ⟨some ⟨gb,go',none⟩,rc,[⟨n0,q0,t0,u0,m0,w0,k0,d0⟩],[some (Rat.divInt 5 2)]⟩:=⟨rfl,by have:=hrd.le;simp at this ⊢;omega,hrd.mx,fun h=>by(cases h),rfl,fun A hA i hi=>by
  have e:i=0:=by simp at hi;omega
  subst e
  exact hrd.cells A hA 0 (by simp),fun i hi=>by
  have e:i=0:=by simp at hi;omega
  subst e
  exact hrd.val 0 (by simp)⟩
 have rle:=hrd.le
 have rmx:=hrd.mx
 simp only [Nat.zero_mul,Nat.add_zero,Nat.one_mul,List.getElem_cons_zero,List.getElem_cons_succ,RatC.val,List.length_cons,List.length_nil,Nat.zero_add,Nat.reduceAdd] at a0 a1 a2 a3 b0 b1 b2 b3 V0 r0 rle
 have rc1:(1:Int)≤(rc:Int):=by omega
 have HP:=Lib.hid hpre
 have HV0:=Lib.hid V0
 have SZ5:Sz (Rat.divInt 5 2) 1:=divInt_sz (by rw [Nat.pow_one];decide) (by rw [Nat.pow_one];decide) (by decide)
 have HL1:=Lib.hid (len_lt (n:=1) SZ5.1 (by omega))
 have HL2:=Lib.hid (len_lt (n:=1) SZ5.den (by omega))
 have HSZ:Hid (∀W,Calls Tryz.prog 19 #[.agg #[.bool false,.slice none 0 0,.bool false,.slice none 0 0],.agg #[.bool false,.slice none 0 0,.bool false,.slice none 0 0]] W fun e w'=>e=.returned (.bool true)∧Ext W w'):=Lib.hid (fun W=>same_zero W)
 have HLQ:Hid (∀ (p:Nat) (W:World),Blk W p #[.int .i64 5] 3→Calls Tryz.prog 23 #[.slice (some ⟨p,0,none⟩) 1 1] W (ListP [5] W)):=Lib.hid (fun p W hB=>law40_list _ _ [5] W (ints_lit (l:=[5]) hB (by unfold Fits;decide) (by decide)) (by decide) (by decide))
 clear hrd hpre V0 H9 SZ5 hsl hVl
 go_upto_region 8 with fail
 go_cut [127] (fun s wx=>s=.bool false∧Ext x26 wx)
 case first=>
  have s0:World.cell? x26 ⟨ob,oo,none⟩=some (.slice (some ⟨gb,go',none⟩) 2 rc):=r0
  have s1:World.cell? x26 ⟨gb,go',none⟩=some (.bool n0):=a0
  have s2:World.cell? x26 ⟨gb,go'+1,none⟩=some (.slice q0 t0 u0):=a1
  have s3:World.cell? x26 ⟨gb,go'+2,none⟩=some (.bool m0):=a2
  have s4:World.cell? x26 ⟨gb,go'+3,none⟩=some (.slice w0 k0 d0):=a3
  have s5:World.cell? x26 ⟨gb,go'+4,none⟩=some (.bool false):=b0
  have s6:World.cell? x26 ⟨gb,go'+4+1,none⟩=some (.slice none 0 0):=b1
  have s7:World.cell? x26 ⟨gb,go'+4+2,none⟩=some (.bool false):=b2
  have s8:World.cell? x26 ⟨gb,go'+4+3,none⟩=some (.slice none 0 0):=b3
  have hE:Ext x26 (World.drew x26):=(Ext.refl _).drew
  have hyd:Ext x26 (World.drew x26):=(Ext.refl _).drew
  replace hx:=hx.trans hyd
  replace HP:=Lib.hid (HP.out.ext hyd)
  replace HV0:=Lib.hid (HV0.out.ext hyd)
  clear hyd
  replace s0:World.cell? (World.drew x26) ⟨ob,oo,none⟩=some (.slice (some ⟨gb,go',none⟩) 2 rc):=s0
  replace s1:World.cell? (World.drew x26) ⟨gb,go',none⟩=some (.bool n0):=s1
  replace s2:World.cell? (World.drew x26) ⟨gb,go'+1,none⟩=some (.slice q0 t0 u0):=s2
  replace s3:World.cell? (World.drew x26) ⟨gb,go'+2,none⟩=some (.bool m0):=s3
  replace s4:World.cell? (World.drew x26) ⟨gb,go'+3,none⟩=some (.slice w0 k0 d0):=s4
  replace s5:World.cell? (World.drew x26) ⟨gb,go'+4,none⟩=some (.bool false):=s5
  replace s6:World.cell? (World.drew x26) ⟨gb,go'+4+1,none⟩=some (.slice none 0 0):=s6
  replace s7:World.cell? (World.drew x26) ⟨gb,go'+4+2,none⟩=some (.bool false):=s7
  replace s8:World.cell? (World.drew x26) ⟨gb,go'+4+3,none⟩=some (.slice none 0 0):=s8
  refine wp_region_held_drew (S:=(fun w'=>World.cell? w' ⟨ob,oo,none⟩=some (.slice (some ⟨gb,go',none⟩) 2 rc)∧World.cell? w' ⟨gb,go',none⟩=some (.bool n0)∧World.cell? w' ⟨gb,go'+1,none⟩=some (.slice q0 t0 u0)∧World.cell? w' ⟨gb,go'+2,none⟩=some (.bool m0)∧World.cell? w' ⟨gb,go'+3,none⟩=some (.slice w0 k0 d0)∧World.cell? w' ⟨gb,go'+4,none⟩=some (.bool false)∧World.cell? w' ⟨gb,go'+4+1,none⟩=some (.slice none 0 0)∧World.cell? w' ⟨gb,go'+4+2,none⟩=some (.bool false)∧World.cell? w' ⟨gb,go'+4+3,none⟩=some (.slice none 0 0))) (by kernel_rfl) ?_ (fun hHeld=>?_)
  ·exact⟨s0,s1,s2,s3,s4,s5,s6,s7,s8⟩
  (try simp only [pur,Nat.reduceAdd])
  generalize World.drew x26=x101 at *
  refine tk (v:=?_) 0 rfl (by kernel_rfl) (fun _ _ _ h=>h) (by rfl) ?_ (by assumption) ?_
  rotate_left
  ·(intro w hSw;(try dsimp only at hSw);(try go_simp);(try with_reducible rfl))
  (try simp only [Act.put,pus])
  refine tk (v:=?_) 1 rfl (by kernel_rfl) (fun _ _ _ h=>h) (by rfl) ?_ (by assumption) ?_
  rotate_left
  ·(intro w hSw;(try dsimp only at hSw);(try go_simp);(try with_reducible rfl))
  (try simp only [Act.put,pus])
  refine tk (v:=?_) 2 rfl (by kernel_rfl) (fun _ _ _ h=>h) (by rfl) ?_ (by assumption) ?_
  rotate_left
  ·(intro w hSw;(try dsimp only at hSw);(try go_simp);(try with_reducible rfl))
  (try simp only [Act.put,pus])
  refine tk (v:=?_) 3 rfl (by kernel_rfl) (fun _ _ _ h=>h) (by rfl) ?_ (by assumption) ?_
  rotate_left
  ·(intro w hSw;(try dsimp only at hSw);(try go_simp);(try with_reducible rfl))
  (try simp only [Act.put,pus])
  refine tk (v:=?_) 4 rfl (by kernel_rfl) (fun _ _ _ h=>h) (by rfl) ?_ (by assumption) ?_
  rotate_left
  ·(intro w hSw;(try dsimp only at hSw);(try go_simp);(try with_reducible rfl))
  (try simp only [Act.put,pus])
  refine tk (v:=?_) 5 rfl (by kernel_rfl) (fun _ _ _ h=>h) (by rfl) ?_ (by assumption) ?_
  rotate_left
  ·(intro w hSw;(try dsimp only at hSw);(try go_simp);(try with_reducible rfl))
  (try simp only [Act.put,pus])
  refine tk (v:=?_) 6 rfl (by kernel_rfl) (fun _ _ _ h=>h) (by rfl) ?_ (by assumption) ?_
  rotate_left
  ·(intro w hSw;(try dsimp only at hSw);(try go_simp);(try with_reducible rfl))
  (try simp only [Act.put,pus])
  refine tk (v:=?_) 7 rfl (by kernel_rfl) (fun _ _ _ h=>h) (by rfl) ?_ (by assumption) ?_
  rotate_left
  ·(intro w hSw;(try dsimp only at hSw);(try go_simp);(try with_reducible rfl))
  (try simp only [Act.put,pus])
  refine tk (v:=?_) 8 rfl (by kernel_rfl) (fun _ _ _ h=>h) (by rfl) ?_ (by assumption) ?_
  rotate_left
  ·(intro w hSw;(try dsimp only at hSw);(try go_simp);(try with_reducible rfl))
  (try simp only [Act.put,pus])
  refine tk (v:=?_) 9 rfl (by kernel_rfl) (fun _ _ _ h=>h) (by rfl) ?_ (by assumption) ?_
  rotate_left
  ·(intro w hSw;(try dsimp only at hSw);(try go_simp);(try with_reducible rfl))
  (try simp only [Act.put,pus])
  refine tk (v:=?_) 10 rfl (by kernel_rfl) (fun _ _ _ h=>h) (by rfl) ?_ (by assumption) ?_
  rotate_left
  ·(intro w hSw;(try dsimp only at hSw);(try go_simp);(try with_reducible rfl))
  (try simp only [Act.put,pus])
  refine tk (v:=?_) 11 rfl (by kernel_rfl) (fun _ _ _ h=>h) (by rfl) ?_ (by assumption) ?_
  rotate_left
  ·(intro w hSw;(try dsimp only at hSw);(try go_simp);(try with_reducible rfl))
  (try simp only [Act.put,pus])
  refine tk (v:=?_) 12 rfl (by kernel_rfl) (fun _ _ _ h=>h) (by rfl) ?_ (by assumption) ?_
  rotate_left
  ·(intro w hSw;(try dsimp only at hSw);(try go_simp);(try with_reducible rfl))
  (try simp only [Act.put,pus])
  refine tk (v:=?_) 13 rfl (by kernel_rfl) (fun _ _ _ h=>h) (by rfl) ?_ (by assumption) ?_
  rotate_left
  ·(intro w hSw;(try dsimp only at hSw);(try go_simp);(try with_reducible rfl))
  (try simp only [Act.put,pus])
  refine tk (v:=?_) 14 rfl (by kernel_rfl) (fun _ _ _ h=>h) (by rfl) ?_ (by assumption) ?_
  rotate_left
  ·(intro w hSw;(try dsimp only at hSw);(try go_simp);(try with_reducible rfl))
  (try simp only [Act.put,pus])
  refine tk (v:=?_) 15 rfl (by kernel_rfl) (fun _ _ _ h=>h) (by rfl) ?_ (by assumption) ?_
  rotate_left
  ·(intro w hSw;(try dsimp only at hSw);(try go_simp);(try with_reducible rfl))
  (try simp only [Act.put,pus])
  refine tk (v:=?_) 16 rfl (by kernel_rfl) (fun _ _ _ h=>h) (by rfl) ?_ (by assumption) ?_
  rotate_left
  ·(intro w hSw;(try dsimp only at hSw);(try go_simp);(try with_reducible rfl))
  (try simp only [Act.put,pus])
  refine tk (v:=?_) 17 rfl (by kernel_rfl) (fun _ _ _ h=>h) (by rfl) ?_ (by assumption) ?_
  rotate_left
  ·(intro w hSw;(try dsimp only at hSw);(try go_simp);(try with_reducible rfl))
  (try simp only [Act.put,pus])
  refine tk (v:=?_) 18 rfl (by kernel_rfl) (fun _ _ _ h=>h) (by rfl) ?_ (by assumption) ?_
  rotate_left
  ·(intro w hSw;(try dsimp only at hSw);(try go_simp);(try with_reducible rfl))
  (try simp only [Act.put,pus])
  refine tk (v:=?_) 19 rfl (by kernel_rfl) (fun _ _ _ h=>h) (by rfl) ?_ (by assumption) ?_
  rotate_left
  ·(intro w hSw;(try dsimp only at hSw);(try go_simp);(try with_reducible rfl))
  (try simp only [Act.put,pus])
  refine tk (v:=?_) 20 rfl (by kernel_rfl) (fun _ _ _ h=>h) (by rfl) ?_ (by assumption) ?_
  rotate_left
  ·(intro w hSw;(try dsimp only at hSw);(try go_simp);(try with_reducible rfl))
  (try simp only [Act.put,pus])
  refine wpAnyH_ready (rs:=[21]) (by kernel_rfl) (by simp) ?_
  refine AllReadyH.cons (o:=_) rfl (fun K hK=>?_) ?_
  ·go_simp
   (with_reducible refine(HSZ.out _).mono ?_);rintro e x102 ⟨rfl,hy⟩;replace hE:=hE.trans hy;replace hx:=hx.trans hy;replace s0:=cell_exQ hy s0;replace s1:=cell_exQ hy s1;replace s2:=cell_exQ hy s2;replace s3:=cell_exQ hy s3;replace s4:=cell_exQ hy s4;replace s5:=cell_exQ hy s5;replace s6:=cell_exQ hy s6;replace s7:=cell_exQ hy s7;replace s8:=cell_exQ hy s8;replace HP:=Lib.hid (HP.out.ext hy);replace HV0:=Lib.hid (HV0.out.ext hy);clear hy
   refine hK.out _ _ ?_ (fun hHeld2=>?_)
   ·exact⟨s0,s1,s2,s3,s4,s5,s6,s7,s8⟩
   clear hK K hHeld
   have hHeld:=hHeld2
   clear hHeld2
   (try simp only [Act.put,pus])
   refine tk (v:=?_) 22 rfl (by kernel_rfl) (fun _ _ _ h=>h) (by rfl) ?_ (by assumption) ?_
   rotate_left
   ·(intro w hSw;(try dsimp only at hSw);(try go_simp);(try with_reducible rfl))
   (try simp only [Act.put,pus])
   refine tk (v:=?_) 23 rfl (by kernel_rfl) (fun _ _ _ h=>h) (by rfl) ?_ (by assumption) ?_
   rotate_left
   ·(intro w hSw;(try dsimp only at hSw);(try go_simp);(try with_reducible rfl))
   (try simp only [Act.put,pus])
   refine tk (v:=?_) 24 rfl (by kernel_rfl) (fun _ _ _ h=>h) (by rfl) ?_ (by assumption) ?_
   rotate_left
   ·(intro w hSw;(try dsimp only at hSw);(try go_simp);(try with_reducible rfl))
   (try simp only [Act.put,pus])
   refine tk (v:=?_) 25 rfl (by kernel_rfl) (fun _ _ _ h=>h) (by rfl) ?_ (by assumption) ?_
   rotate_left
   ·(intro w hSw;(try dsimp only at hSw);(try go_simp);(try with_reducible rfl))
   (try simp only [Act.put,pus])
   refine tk (v:=?_) 26 rfl (by kernel_rfl) (fun _ _ _ h=>h) (by rfl) ?_ (by assumption) ?_
   rotate_left
   ·(intro w hSw;(try dsimp only at hSw);(try go_simp);(try with_reducible rfl))
   (try simp only [Act.put,pus])
   refine tk (v:=?_) 27 rfl (by kernel_rfl) (fun _ _ _ h=>h) (by rfl) ?_ (by assumption) ?_
   rotate_left
   ·(intro w hSw;(try dsimp only at hSw);(try go_simp);(try with_reducible rfl))
   (try simp only [Act.put,pus])
   refine tk (v:=?_) 28 rfl (by kernel_rfl) (fun _ _ _ h=>h) (by rfl) ?_ (by assumption) ?_
   rotate_left
   ·(intro w hSw;(try dsimp only at hSw);(try go_simp);(try with_reducible rfl))
   (try simp only [Act.put,pus])
   refine wpAnyH_ready (rs:=[29]) (by kernel_rfl) (by simp) ?_
   refine AllReadyH.cons (o:=_) rfl (fun K hK=>?_) ?_
   ·go_simp
    have hy:Ext x102 (World.alloc x102 (.cells #[.int .i64 5] 3)):=Ext.alloc _ _;have hpu:w.heap.size≤Array.size (World.heap x102):=hx.size;replace hE:=hE.trans hy;replace hx:=hx.trans hy;replace s0:=cell_exQ hy s0;replace s1:=cell_exQ hy s1;replace s2:=cell_exQ hy s2;replace s3:=cell_exQ hy s3;replace s4:=cell_exQ hy s4;replace s5:=cell_exQ hy s5;replace s6:=cell_exQ hy s6;replace s7:=cell_exQ hy s7;replace s8:=cell_exQ hy s8;replace HP:=Lib.hid (HP.out.ext hy);replace HV0:=Lib.hid (HV0.out.ext hy);have Ku:=Lib.hid (Blk.new0 x102 #[.int .i64 5] 3);clear hy;generalize World.alloc x102 (.cells #[.int .i64 5] 3)=x103 at *;generalize Array.size (World.heap x102)=pu at *
    refine hK.out _ _ ?_ (fun hHeld2=>?_)
    ·exact⟨s0,s1,s2,s3,s4,s5,s6,s7,s8⟩
    clear hK K hHeld
    have hHeld:=hHeld2
    clear hHeld2
    (try simp only [Act.put,pus])
    refine wpAnyH_ready (rs:=[30]) (by kernel_rfl) (by simp) ?_
    refine AllReadyH.cons (o:=_) rfl (fun K hK=>?_) ?_
    ·go_simp
     (with_reducible refine(HLQ.out _ _ Ku.out).mono ?_);rintro e x104 ⟨v5,ys,rfl,hO,hy⟩;replace hE:=hE.trans hy;replace hx:=hx.trans hy;replace s0:=cell_exQ hy s0;replace s1:=cell_exQ hy s1;replace s2:=cell_exQ hy s2;replace s3:=cell_exQ hy s3;replace s4:=cell_exQ hy s4;replace s5:=cell_exQ hy s5;replace s6:=cell_exQ hy s6;replace s7:=cell_exQ hy s7;replace s8:=cell_exQ hy s8;replace Ku:=kE Ku hy;replace HP:=Lib.hid (HP.out.ext hy);replace HV0:=Lib.hid (HV0.out.ext hy);clear hy;obtain⟨ua,uc,hu,e5⟩:=hO.row;subst e5;have HU:=Lib.hid hu;clear hO hu
     refine hK.out _ _ ?_ (fun hHeld2=>?_)
     ·exact⟨s0,s1,s2,s3,s4,s5,s6,s7,s8⟩
     clear hK K hHeld
     have hHeld:=hHeld2
     clear hHeld2
     (try simp only [Act.put,pus])
     refine wpAnyH_ready (rs:=[31]) (by kernel_rfl) (by simp) ?_
     refine AllReadyH.cons (o:=_) rfl (fun K hK=>?_) ?_
     ·go_simp
      (with_reducible refine(ref10_SameList _ _ _ _ _ HP.out HU.out rfl).mono ?_);rintro e x105 ⟨rfl,hy⟩;replace hE:=hE.trans hy;replace hx:=hx.trans hy;replace s0:=cell_exQ hy s0;replace s1:=cell_exQ hy s1;replace s2:=cell_exQ hy s2;replace s3:=cell_exQ hy s3;replace s4:=cell_exQ hy s4;replace s5:=cell_exQ hy s5;replace s6:=cell_exQ hy s6;replace s7:=cell_exQ hy s7;replace s8:=cell_exQ hy s8;replace Ku:=kE Ku hy;replace HP:=Lib.hid (HP.out.ext hy);replace HV0:=Lib.hid (HV0.out.ext hy);replace HU:=Lib.hid (HU.out.ext hy);clear hy
      refine hK.out _ _ ?_ (fun hHeld2=>?_)
      ·exact⟨s0,s1,s2,s3,s4,s5,s6,s7,s8⟩
      clear hK K hHeld
      have hHeld:=hHeld2
      clear hHeld2
      (try simp only [Act.put,pus])
      refine tk (v:=?_) 32 rfl (by kernel_rfl) (fun _ _ _ h=>h) (by rfl) ?_ (by assumption) ?_
      rotate_left
      ·(intro w hSw;(try dsimp only at hSw);(try go_simp);(try with_reducible rfl))
      (try simp only [Act.put,pus])
      refine tk (v:=?_) 33 rfl (by kernel_rfl) (fun _ _ _ h=>h) (by rfl) ?_ (by assumption) ?_
      rotate_left
      ·(intro w hSw;(try dsimp only at hSw);(try go_simp);(try with_reducible rfl))
      (try simp only [Act.put,pus])
      refine tk (v:=?_) 34 rfl (by kernel_rfl) (fun _ _ _ h=>h) (by rfl) ?_ (by assumption) ?_
      rotate_left
      ·(intro w hSw;(try dsimp only at hSw);(try go_simp);(try with_reducible rfl))
      (try simp only [Act.put,pus])
      refine tk (v:=?_) 35 rfl (by kernel_rfl) (fun _ _ _ h=>h) (by rfl) ?_ (by assumption) ?_
      rotate_left
      ·(intro w hSw;(try dsimp only at hSw);(try go_simp);(try with_reducible rfl))
      (try simp only [Act.put,pus])
      refine tk (v:=?_) 36 rfl (by kernel_rfl) (fun _ _ _ h=>h) (by rfl) ?_ (by assumption) ?_
      rotate_left
      ·(intro w hSw;(try dsimp only at hSw);(try go_simp);(try with_reducible rfl))
      (try simp only [Act.put,pus])
      refine tk (v:=?_) 37 rfl (by kernel_rfl) (fun _ _ _ h=>h) (by rfl) ?_ (by assumption) ?_
      rotate_left
      ·(intro w hSw;(try dsimp only at hSw);(try go_simp);(try with_reducible rfl))
      (try simp only [Act.put,pus])
      refine tk (v:=?_) 38 rfl (by kernel_rfl) (fun _ _ _ h=>h) (by rfl) ?_ (by assumption) ?_
      rotate_left
      ·(intro w hSw;(try dsimp only at hSw);(try go_simp);(try with_reducible rfl))
      (try simp only [Act.put,pus])
      refine tk (v:=?_) 39 rfl (by kernel_rfl) (fun _ _ _ h=>h) (by rfl) ?_ (by assumption) ?_
      rotate_left
      ·(intro w hSw;(try dsimp only at hSw);(try go_simp);(try with_reducible rfl))
      (try simp only [Act.put,pus])
      refine wpAnyH_ready (rs:=[40]) (by kernel_rfl) (by simp) ?_
      refine AllReadyH.cons (o:=_) rfl (fun K hK=>?_) ?_
      ·go_simp
       (with_reducible refine(rcheckR_val HV0.out HL1.out HL2.out).mono ?_);rintro e x106 ⟨rfl,hy⟩;replace hE:=hE.trans hy;replace hx:=hx.trans hy;replace s0:=cell_exQ hy s0;replace s1:=cell_exQ hy s1;replace s2:=cell_exQ hy s2;replace s3:=cell_exQ hy s3;replace s4:=cell_exQ hy s4;replace s5:=cell_exQ hy s5;replace s6:=cell_exQ hy s6;replace s7:=cell_exQ hy s7;replace s8:=cell_exQ hy s8;replace Ku:=kE Ku hy;replace HP:=Lib.hid (HP.out.ext hy);replace HV0:=Lib.hid (HV0.out.ext hy);replace HU:=Lib.hid (HU.out.ext hy);clear hy
       refine hK.out _ _ ?_ (fun hHeld2=>?_)
       ·exact⟨s0,s1,s2,s3,s4,s5,s6,s7,s8⟩
       clear hK K hHeld
       have hHeld:=hHeld2
       clear hHeld2
       (try simp only [Act.put,pus])
       refine tk (v:=?_) 41 rfl (by kernel_rfl) (fun _ _ _ h=>h) (by rfl) ?_ (by assumption) ?_
       rotate_left
       ·(intro w hSw;(try dsimp only at hSw);(try go_simp);(try with_reducible rfl))
       (try simp only [Act.put,pus])
       refine tk (v:=?_) 42 rfl (by kernel_rfl) (fun _ _ _ h=>h) (by rfl) ?_ (by assumption) ?_
       rotate_left
       ·(intro w hSw;(try dsimp only at hSw);(try go_simp);(try with_reducible rfl))
       (try simp only [Act.put,pus])
       refine wpAnyH_done (by kernel_rfl) ?_ _
       go_wp2_with fail;go_meet;exact⟨rfl,hE⟩
      exact AllReadyH.nil
     exact AllReadyH.nil
    exact AllReadyH.nil
   exact AllReadyH.nil
  exact AllReadyH.nil
 case rest=>
 obtain⟨rfl,hy⟩:=hcut
 replace hx:=hx.trans hy
 clear hy a0 a1 a2 a3 b0 b1 b2 b3 r0 HP HV0
 obtain⟨y27,ey27,hy27,Iy27⟩:=lit_ints wc [3,5] (by unfold Fits;decide) (by decide)
 simp only [List.map_cons,List.map_nil] at ey27
 replace hx:=hx.trans hy27
 obtain⟨y28,ey28,hy28,Iy28⟩:=lit_ints y27 [0,0] (by unfold Fits;decide) (by decide)
 simp only [List.map_cons,List.map_nil] at ey28
 replace Iy27:=Iy27.ext hy28
 replace hx:=hx.trans hy28
 have HLI:=Lib.hid (law40_list _ _ [0,0] y28 Iy28 (by decide) (by decide))
 simp only [List.length_cons,List.length_nil,Nat.zero_add,Nat.reduceAdd] at HLI
 go_wp2_with fail
 refine HLI.out.mono ?_
 rintro e x29 ⟨v,ys,rfl,hO,hy⟩
 obtain⟨sf,pf,Lf,rfl,Rf,Kf,Vf⟩:=hO.rats (k:=7) (halves_sz (by decide)) (by omega)
 have Nf:Lf.length=2:=Vf.1
 clear hO HLI
 replace Iy27:=Iy27.ext hy
 replace Iy28:=Iy28.ext hy
 replace hx:=hx.trans hy
 clear hy
 have HC:=law40_means _ _ [3,5] sf pf Lf (halves [0,0]) 8 x29 Iy27 Rf Vf Kf (by rw [Nf];rfl) (by omega) (by decide) (by decide) (by decide +kernel)
 simp only [List.length_cons,List.length_nil,Nat.zero_add,Nat.reduceAdd] at HC
 rw [Nf] at HC ⊢
 replace HC:=Lib.hid HC
 go_wp2_with fail
 refine HC.out.mono ?_
 rintro e x30 ⟨rfl,hy⟩
 clear HC
 replace Iy27:=Iy27.ext hy
 replace Iy28:=Iy28.ext hy
 replace hx:=hx.trans hy
 clear hy
 clear Rf Kf Vf
 clear Iy27 ey27 hy27 Iy28 ey28 hy28
 obtain⟨y31,ey31,hy31,Iy31⟩:=lit_ints x30 [3,5] (by unfold Fits;decide) (by decide)
 simp only [List.map_cons,List.map_nil] at ey31
 replace hx:=hx.trans hy31
 obtain⟨y32,ey32,hy32,Iy32⟩:=lit_ints y31 [1,-1] (by unfold Fits;decide) (by decide)
 simp only [List.map_cons,List.map_nil] at ey32
 replace Iy31:=Iy31.ext hy32
 replace hx:=hx.trans hy32
 have HLI:=Lib.hid (law40_list _ _ [1,-1] y32 Iy32 (by decide) (by decide))
 simp only [List.length_cons,List.length_nil,Nat.zero_add,Nat.reduceAdd] at HLI
 go_wp2_with fail
 refine HLI.out.mono ?_
 rintro e x33 ⟨v,ys,rfl,hO,hy⟩
 obtain⟨sg,pg,Lg,rfl,Rg,Kg,Vg⟩:=hO.rats (k:=7) (halves_sz (by decide)) (by omega)
 have Ng:Lg.length=2:=Vg.1
 clear hO HLI
 replace Iy31:=Iy31.ext hy
 replace Iy32:=Iy32.ext hy
 replace hx:=hx.trans hy
 clear hy
 have HC:=law40_means _ _ [3,5] sg pg Lg (halves [1,-1]) 8 x33 Iy31 Rg Vg Kg (by rw [Ng];rfl) (by omega) (by decide) (by decide) (by decide +kernel)
 simp only [List.length_cons,List.length_nil,Nat.zero_add,Nat.reduceAdd] at HC
 rw [Ng] at HC ⊢
 replace HC:=Lib.hid HC
 go_wp2_with fail
 refine HC.out.mono ?_
 rintro e x34 ⟨rfl,hy⟩
 clear HC
 replace Iy31:=Iy31.ext hy
 replace Iy32:=Iy32.ext hy
 replace hx:=hx.trans hy
 clear hy
 clear Rg Kg Vg
 clear Iy31 ey31 hy31 Iy32 ey32 hy32
 obtain⟨y35,ey35,hy35,Iy35⟩:=lit_ints x34 [3,-1] (by unfold Fits;decide) (by decide)
 simp only [List.map_cons,List.map_nil] at ey35
 replace hx:=hx.trans hy35
 obtain⟨y36,ey36,hy36,Iy36⟩:=lit_ints y35 [1,14] (by unfold Fits;decide) (by decide)
 simp only [List.map_cons,List.map_nil] at ey36
 replace Iy35:=Iy35.ext hy36
 replace hx:=hx.trans hy36
 have HLI:=Lib.hid (law40_list _ _ [1,14] y36 Iy36 (by decide) (by decide))
 simp only [List.length_cons,List.length_nil,Nat.zero_add,Nat.reduceAdd] at HLI
 go_wp2_with fail
 refine HLI.out.mono ?_
 rintro e x37 ⟨v,ys,rfl,hO,hy⟩
 obtain⟨sh,ph,Lh,rfl,Rh,Kh,Vh⟩:=hO.rats (k:=7) (halves_sz (by decide)) (by omega)
 have Nh:Lh.length=2:=Vh.1
 clear hO HLI
 replace Iy35:=Iy35.ext hy
 replace Iy36:=Iy36.ext hy
 replace hx:=hx.trans hy
 clear hy
 have HC:=law40_means _ _ [3,-1] sh ph Lh (halves [1,14]) 5 x37 Iy35 Rh Vh Kh (by rw [Nh];rfl) (by omega) (by decide) (by decide) (by decide +kernel)
 simp only [List.length_cons,List.length_nil,Nat.zero_add,Nat.reduceAdd] at HC
 rw [Nh] at HC ⊢
 replace HC:=Lib.hid HC
 go_wp2_with fail
 refine HC.out.mono ?_
 rintro e x38 ⟨rfl,hy⟩
 clear HC
 replace Iy35:=Iy35.ext hy
 replace Iy36:=Iy36.ext hy
 replace hx:=hx.trans hy
 clear hy
 clear Rh Kh Vh
 clear Iy35 ey35 hy35 Iy36 ey36 hy36
 have HX:=Lib.hid hx
 clear hx
 go_wp2_with fail
 go_ret
 exact⟨rfl,HX.out⟩
end Go.Proofs.YtolffmmkjnhkkaaGreat
