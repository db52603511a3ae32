import Derived.Test.YtolffmmkjnhkkaaGreatM4
import Derived.OwnWalk
import Derived.Deep.QuietTactic
namespace Go.Proofs.YtolffmmkjnhkkaaGreat
open Go.RowKit Go BigFrame Go.Shelf
set_option maxRecDepth 100000
set_option linter.unusedSimpArgs false
set_option linter.unusedVariables false
attribute [local go_sem] Oper.semAt_some
def diffR (l:List Int) (S:List Rat) (j:Nat):Rat:=(l.getD j 0:Rat) - S.getD j 0
def sumR (l:List Int) (S:List Rat) (xs:List Nat):Rat:=xs.foldl (fun r j=>r+diffR l S j) 0
theorem sumR_snoc (l:List Int) (S:List Rat) (xs:List Nat) (j:Nat):sumR l S (xs ++ [j])=sumR l S xs+diffR l S j:=by simp [sumR]
def meanO (l:List Int) (S:List Rat):Option Rat:=if knIx l l.length=[] then none else some (sumR l S (knIx l l.length) / ((knIx l l.length).length:Rat))
theorem zero_sz:Sz (0:Rat) 1:=⟨by decide,by decide⟩
theorem mark_sz {z:Int} (h:-1≤z∧z≤1000):Sz (z:Rat) 1:=by
 have h2:=divInt_sz (z:=z) (y:=1) (k:=1) (by rw [Nat.pow_one];omega) (by rw [Nat.pow_one];decide) (by decide)
 rwa [divInt_oneM] at h2
theorem diff_sz {l:List Int} {S:List Rat} {L:List RatA} (hV:ValL L S 7) (hls:l.length=S.length) (hm:∀x∈l,-1≤x∧x≤1000) {j:Nat} (hj:j<l.length):Sz (diffR l S j) 9:=by
 have h1:=hm (l.getD j 0) (by rw [List.getD_eq_getElem?_getD,List.getElem?_eq_getElem hj];exact List.getElem_mem hj)
 have hjS:j<S.length:=by omega
 have hjL:j<L.length:=by rw [hV.1];exact hjS
 have h3:=(hV.2 j _ _ (List.getElem?_eq_getElem hjL) (List.getElem?_eq_getElem hjS)).1
 have h4:S.getD j 0=S[j]:=by rw [List.getD_eq_getElem?_getD,List.getElem?_eq_getElem hjS];rfl
 have h5:=((mark_sz h1).sub h3).mono (j:=9) (by omega)
 rw [←h4] at h5
 exact h5
theorem sum_sz {l:List Int} {S:List Rat} {L:List RatA} (hV:ValL L S 7) (hls:l.length=S.length) (hm:∀x∈l,-1≤x∧x≤1000):∀ (xs:List Nat),(∀j∈xs,j<l.length)→Sz (sumR l S xs) (10*xs.length+1):=by
 have key:∀ (ys xs:List Nat),xs.reverse=ys→(∀j∈xs,j<l.length)→Sz (sumR l S xs) (10*xs.length+1):=by
  intro ys
  induction ys with
  | nil=>intro xs h _;rw [List.reverse_eq_nil_iff] at h;subst h;exact zero_sz
  | cons y ys ih=>
   intro xs h hx
   have e:xs=ys.reverse ++ [y]:=by rw [←List.reverse_reverse xs,h];simp
   subst e
   rw [sumR_snoc]
   have h1:=ih ys.reverse (by simp) (fun j hj=>hx j (by simp at hj ⊢;exact .inl hj))
   have h2:=diff_sz hV hls hm (hx y (by simp))
   exact(h1.add h2).mono (by simp;omega)
 exact fun xs h=>key _ xs rfl h
theorem knIx_lt {l:List Int} {k j:Nat} (h:j∈knIx l k):j<k:=by
 unfold knIx at h
 rw [List.mem_filter,List.mem_range] at h
 exact h.1
theorem knIx_len (l:List Int) (k:Nat):(knIx l k).length≤k:=by
 unfold knIx
 exact Nat.le_trans (List.length_filter_le _ _) (by simp)
structure MnI (w:World) (ps pn Br:Nat) (l:List Int) (S:List Rat) (xs:List (Nat × RatC)) (W:World):Prop where
 ex:∃c:RatC,c.m=false∧Blk W ps #[.bool c.n,.slice c.a c.q c.c,.bool c.m,.slice c.b c.k c.d] 38∧RatV W c.val (sumR l S (xs.map (·.1)))
 bn:Blk W pn #[.int .i64 (xs.length:Nat)] 3
 br:Blk W Br #[.bool false,.slice none 0 0,.bool false,.slice none 0 0] 38
 bl:Below w.heap.size w W
theorem MnI.own {w:World} {ps pn Br:Nat} {l:List Int} {S:List Rat} {B:Nat} (hB:w.heap.size≤B):OwnFrom B (MnI w ps pn Br l S):=fun xs W W' row h hg hrow=>by
 have k:=keep_grown hg (fun r e=>(hrow r e).2)
 obtain⟨c,h0,h1,h2⟩:=h.ex
 exact⟨⟨c,h0,k.blk (by simp) h1,RO.keep (o:=some _) h2 k⟩,k.blk (by simp) h.bn,k.blk (by simp) h.br,h.bl.grown hg h.bl.size (fun r e=>Nat.le_trans hB (hrow r e).1)⟩
theorem KeepC.setG {Gs:List Nat} {p:Addr} (hp:p.block∈Gs) (A:World) (u:Value):KeepC Gs A (A.setCell p u):=⟨by simp,fun k cs t f hk hh=>by
 have hne:k≠p.block:=fun e=>hk (by rw [e];exact hp)
 exact(Below.heap_setCell A p u k hne).trans hh⟩
def DefAt (W:World) (D:Nat):Prop:=W.heap[D]? =some (.deferred (some []))
theorem DefAt.ext {W W':World} {D:Nat} (h:DefAt W D) (k:Ext W W'):DefAt W' D:=k.others.same D _ h rfl
theorem dv4 {W:World} {D b:Nat} {t:TypeId} {u0 u1 u2 u3:Value} (h:Hid (DefAt W D)) (_:Hid (Blk W b #[u0,u1,u2,u3] t)) (v0 v1 v2 v3:Value) (_:noIntB #[u0,u1,u2,u3]=true) (_:noIntB #[v0,u1,u2,u3]=true) (_:noIntB #[v0,v1,u2,u3]=true) (_:noIntB #[v0,v1,v2,u3]=true):
 Hid (DefAt ((((W.setCell ⟨b,0,none⟩ v0).setCell ⟨b,1,none⟩ v1).setCell ⟨b,2,none⟩ v2).setCell ⟨b,3,none⟩ v3) D):=
 Lib.hid ((((KeepsOthers.setCell _ _ _).trans (KeepsOthers.setCell _ _ _)).trans (KeepsOthers.setCell _ _ _)).trans (KeepsOthers.setCell _ _ _) |>.same D _ h.out rfl)
theorem MnI.put {w:World} {ps Br:Nat} {l:List Int} {S:List Rat} {xs:List (Nat × RatC)} {W W2:World} (h:MnI w ps (ps+1) Br l S xs W) (hE:Ext W W2) (c2:RatC) (x:Nat × RatC) (hcm:c2.m=false)
 (hV:RatV W2 c2.val (sumR l S ((xs ++ [x]).map (·.1)))) (hps:w.heap.size<ps) (hBr:Br<ps) (hF:FreshC W.heap.size c2) (hpW:ps+1<W.heap.size):
 MnI w ps (ps+1) Br l S (xs ++ [x]) (((((W2.setCell ⟨ps,0,none⟩ (.bool c2.n)).setCell ⟨ps,1,none⟩ (.slice c2.a c2.q c2.c)).setCell ⟨ps,2,none⟩ (.bool c2.m)).setCell ⟨ps,3,none⟩ (.slice c2.b c2.k c2.d)).setCell ⟨ps+1,0,none⟩ (.int .i64 ((xs.length:Nat)+1:Int)))
  ∧KeepC [ps,ps+1] W (((((W2.setCell ⟨ps,0,none⟩ (.bool c2.n)).setCell ⟨ps,1,none⟩ (.slice c2.a c2.q c2.c)).setCell ⟨ps,2,none⟩ (.bool c2.m)).setCell ⟨ps,3,none⟩ (.slice c2.b c2.k c2.d)).setCell ⟨ps+1,0,none⟩ (.int .i64 ((xs.length:Nat)+1:Int))):=by
 obtain⟨⟨c0,h0,hb,_⟩,hn,hr,hl⟩:=h
 have a0:noInt #[.bool c0.n,.slice c0.a c0.q c0.c,.bool c0.m,.slice c0.b c0.k c0.d]:=by intro i n e;rcases i with _ | _ | _ | _ | i <;> simp at e
 have a1:noInt #[.bool c2.n,.slice c0.a c0.q c0.c,.bool c0.m,.slice c0.b c0.k c0.d]:=by intro i n e;rcases i with _ | _ | _ | _ | i <;> simp at e
 have a2:noInt #[.bool c2.n,.slice c2.a c2.q c2.c,.bool c0.m,.slice c0.b c0.k c0.d]:=by intro i n e;rcases i with _ | _ | _ | _ | i <;> simp at e
 have a3:noInt #[.bool c2.n,.slice c2.a c2.q c2.c,.bool c2.m,.slice c0.b c0.k c0.d]:=by intro i n e;rcases i with _ | _ | _ | _ | i <;> simp at e
 have b0:=hb.ext hE
 have n0:=hn.ext hE
 have r0:=hr.ext hE
 have b1:Blk _ ps #[.bool c2.n,.slice c0.a c0.q c0.c,.bool c0.m,.slice c0.b c0.k c0.d] 38:=b0.set 0 (.bool c2.n)
 have b2:Blk _ ps #[.bool c2.n,.slice c2.a c2.q c2.c,.bool c0.m,.slice c0.b c0.k c0.d] 38:=b1.set 1 (.slice c2.a c2.q c2.c)
 have b3:Blk _ ps #[.bool c2.n,.slice c2.a c2.q c2.c,.bool c2.m,.slice c0.b c0.k c0.d] 38:=b2.set 2 (.bool c2.m)
 have b4:Blk _ ps #[.bool c2.n,.slice c2.a c2.q c2.c,.bool c2.m,.slice c2.b c2.k c2.d] 38:=b3.set 3 (.slice c2.b c2.k c2.d)
 have n4:=(((n0.other (p:=⟨ps,0,none⟩) (by simp) (.bool c2.n)).other (p:=⟨ps,1,none⟩) (by simp) (.slice c2.a c2.q c2.c)).other (p:=⟨ps,2,none⟩) (by simp) (.bool c2.m)).other (p:=⟨ps,3,none⟩) (by simp) (.slice c2.b c2.k c2.d)
 have hB:Below w.heap.size w W2:=hl.trans (hE.mono hl.size)
 refine⟨⟨⟨c2,hcm,b4.other (by simp) _,?_⟩,?_,?_,?_⟩,?_⟩
 ·have q4:=(((hV.put b0 a0 0 (.bool c2.n)).put b1 a1 1 (.slice c2.a c2.q c2.c)).put b2 a2 2 (.bool c2.m)).put b3 a3 3 (.slice c2.b c2.k c2.d)
  exact RatV.grown (x:=c2) q4 (row:=some (ps+1)) ⟨rfl,rfl,rfl,by simp,fun k hk hne=>Below.heap_setCell _ ⟨ps+1,0,none⟩ _ _ (fun e=>hne (by rw [e]))⟩ (hF.off fun g e=>by cases e;exact hpW)
 ·have:=n4.set 0 (.int .i64 ((xs.length:Nat)+1:Int))
  rw [List.length_append]
  exact this
 ·exact((((r0.other (by simp;omega) _).other (by simp;omega) _).other (by simp;omega) _).other (by simp;omega) _).other (by simp;omega) _
 ·exact((((hB.setCell (by simp;omega) _).setCell (by simp;omega) _).setCell (by simp;omega) _).setCell (by simp;omega) _).setCell (by simp;omega) _
 ·exact(((((KeepC.of_ext hE).trans (.setG (by simp) _ _)).trans (.setG (by simp) _ _)).trans (.setG (by simp) _ _)).trans (.setG (by simp) _ _)).trans (.setG (by simp) _ _)
def Mn1P (l:List Int) (S:List Rat) (w:World) (e:Ending) (w':World):Prop:=∃c:RatC,e=.returned c.val∧RO w' c.val (meanO l S)∧FreshC w.heap.size c∧Ext w w'
set_option maxHeartbeats 8000000 in
theorem corrected_means1 (a:Option Addr) (cap:Nat) (l:List Int) (s:Option Addr) (sc:Nat) (L:List RatA) (S:List Rat) (Bv:Nat) (w:World) (h:Ints w a cap l) (k:RatsI w s sc L) (hb:Blk w Bv #[.slice s L.length sc] 23)
 (hV:ValL L S 7) (hls:l.length=S.length) (hm:∀x∈l,-1≤x∧x≤1000) (hl:l.length≤20):
 Calls Tryz.prog 31 #[.slice a l.length cap,.pointer (some ⟨Bv,0,none⟩)] w (Mn1P l S w):=by
 have hle:=h.le
 have hmx:=h.mx
 have sle:=k.le
 have smx:=k.mx
 have hoa:∀q,a=some q→0<l.length→q.block<w.heap.size:=fun q hq hp=>by
  obtain⟨b,o,e⟩:=h.head (i:=0) hp
  rw [e] at hq h
  cases hq
  obtain⟨_,_,hc,_⟩:=Ints.get h hp
  exact lt_of_cell hc
 have hos:∀q,s=some q→0<L.length→q.block<w.heap.size:=fun q hq hp=>by
  obtain⟨_,h1,_⟩:=k.cells q hq 0 hp
  exact lt_of_cell h1
 have hin:∀ (a:Option Addr) (c:Nat) (l:List Int),Ints w a c l→∀q,a=some q→0<l.length→q.block<w.heap.size:=fun a c l h q hq hp=>by
  obtain⟨b,o,e⟩:=h.head (i:=0) hp
  rw [e] at hq h
  cases hq
  obtain⟨_,_,hc,_⟩:=Ints.get h hp
  exact lt_of_cell hc
 have hol:∀i (hi:i<L.length),(∀q,L[i].a=some q→0<L[i].l.length→q.block<w.heap.size)∧(∀q,L[i].b=some q→0<L[i].m.length→q.block<w.heap.size):=fun i hi=>
  ⟨hin _ _ _ (k.ints i hi).i,hin _ _ _ (k.ints i hi).j⟩
 have hblt:=hb.lt
 have HH:=Lib.hid h
 have HK:=Lib.hid k
 have HB:=Lib.hid hb
 have HV:=Lib.hid hV
 have HM:=Lib.hid hm
 have HOA:=Lib.hid hoa
 have HOS:=Lib.hid hos
 have HOL:=Lib.hid hol
 have HLS:=Lib.hid hls
 obtain⟨n,hn⟩:∃n,n=l.length:=⟨_,rfl⟩
 have HN:=Lib.hid hn
 rw [←hn] at hle hl ⊢
 clear h k hb hV hm hoa hos hin hol hls hn
 obtain⟨x1,hw,hx,Kr⟩:=boxQ1 w #[.bool false,.slice none 0 0,.bool false,.slice none 0 0] 38
 replace hw:=Lib.hid hw
 refine(callsIn_wide (n:=5)).1 ?_
 refine callsIn_of_wp_marks Tryz.func31 rfl trivial ?_ rfl
 simp only [Tryz.ntmps31,List.size_toArray,List.length_cons,List.length_nil,Nat.reduceAdd,Nat.reduceSub,Array.replicate_succ,Array.replicate_zero,List.push_toArray,List.append_toArray,List.nil_append,List.cons_append]
 refine wpIn_wide.2 ?_
 go_upto_region 1 with fail
 try simp only [Nat.add_assoc,Nat.reduceAdd,Nat.add_zero]
 rw [hw.out]
 clear hw
 have hs0:=hx.size
 have hs1:=Kr.out.lt
 obtain⟨cr0,cr1,cr2,cr3⟩:=bk4 Kr
 have hsz:=hx.size
 go_wp2_with fail
 with_reducible refine(ratio_Make 0 1 _ (by omega) (by omega) (by omega)).mono ?_
 clear cr0 cr1 cr2 cr3
 rintro e x2 ⟨v,rfl,hv,hy⟩
 replace hx:=hx.trans hy
 replace Kr:=kE Kr hy
 clear hy
 obtain⟨nz,az,qz,cz,bz,kz,dz,rfl,hv',hf',hg'⟩:=hv
 have Vz:=Lib.hid hv'
 have Fz:=Lib.hid (fun A hA=>Nat.le_trans hsz (hf' A hA))
 have Gz:=Lib.hid (fun A hA=>Nat.le_trans hsz (hg' A hA))
 clear hv' hf' hg' hsz
 obtain⟨cr0,cr1,cr2,cr3⟩:=bk4 Kr
 go_wp2_with fail
 with_reducible refine(corrected_getR nz az qz cz false bz kz dz _).mono ?_
 clear cr0 cr1 cr2 cr3
 rintro e x3 ⟨rfl,hy⟩
 replace hx:=hx.trans hy
 replace Kr:=kE Kr hy
 replace Vz:=Lib.hid (Vz.out.ext hy)
 clear hy
 have e0:Rat.divInt 0 1=0:=by decide +kernel
 rw [e0] at Vz
 clear e0
 obtain⟨cr0,cr1,cr2,cr3⟩:=bk4 Kr
 go_upto_region 2 with fail
 have hl:Ext x3 ((x3.alloc (.cells #[.bool nz,.slice az qz cz,.bool false,.slice bz kz dz] 38)).alloc (.cells #[.int .i64 0] 3)):=(Ext.alloc _ _).alloc' _
 have lrs:w.heap.size<x3.heap.size:=Kr.out.lt
 have hps:w.heap.size≤x3.heap.size:=hx.size
 clear cr0 cr1 cr2 cr3
 replace hx:=hx.trans hl
 replace Kr:=kE Kr hl
 replace Vz:=Lib.hid (Vz.out.ext hl)
 have Ks:=Lib.hid ((Blk.new0 x3 #[.bool nz,.slice az qz cz,.bool false,.slice bz kz dz] 38).alloc (.cells #[.int .i64 0] 3))
 have Kn:=Lib.hid (Blk.new1 x3 (.cells #[.bool nz,.slice az qz cz,.bool false,.slice bz kz dz] 38) #[.int .i64 0] 3)
 clear hl
 generalize (x3.alloc (.cells #[.bool nz,.slice az qz cz,.bool false,.slice bz kz dz] 38)).alloc (.cells #[.int .i64 0] 3)=x4 at *
 generalize x3.heap.size=ps at *
 have hwr:w.heap.size<x4.heap.size:=Kr.out.lt
 have hps:ps+1<x4.heap.size:=Kn.out.lt
 have hrs:w.heap.size<ps:=by omega
 have cb:=(HB.out.ext hx).cell (i:=0) rfl
 have HX3:=Lib.hid hx
 go_wp2_with fail
 refine(corrected_known a n cap s L.length sc x4).mono ?_
 rintro e w4 ⟨rfl,rfl⟩
 clear cb
 have hb1:=(Blk.new0 x4 #[.slice a n cap] 34).alloc (.cells #[.slice s L.length sc] 23)
 have hb2:=Blk.new1 x4 (.cells #[.slice a n cap] 34) #[.slice s L.length sc] 23
 have hx5:Ext x4 ((x4.alloc (.cells #[.slice a n cap] 34)).alloc (.cells #[.slice s L.length sc] 23)):=((Ext.refl x4).alloc' _).alloc' _
 have HX5:=Lib.hid hx5
 generalize (x4.alloc (.cells #[.slice a n cap] 34)).alloc (.cells #[.slice s L.length sc] 23)=w5 at *
 rw [HN.out] at hb1
 have HKn:Hid (KnW w5 [ps,ps+1] x4.heap.size (x4.heap.size+1) a cap l s sc L):=Lib.hid
  ⟨hb1,hb2,(HH.out.ext hx).ext hx5,(HK.out.ext hx).ext hx5,by simp only [List.mem_cons,List.not_mem_nil,or_false];omega,by simp only [List.mem_cons,List.not_mem_nil,or_false];omega,
   fun q hq hp=>by have:=HOA.out q hq hp;simp only [List.mem_cons,List.not_mem_nil,or_false];omega,⟨fun q hq hp=>by have:=HOS.out q hq hp;simp only [List.mem_cons,List.not_mem_nil,or_false];omega,fun i hi=>⟨fun q hq hp=>by have:=(HOL.out i hi).1 q hq hp;simp only [List.mem_cons,List.not_mem_nil,or_false];omega,fun q hq hp=>by have:=(HOL.out i hi).2 q hq hp;simp only [List.mem_cons,List.not_mem_nil,or_false];omega⟩⟩⟩
 have hI0:Hid (MnI w ps (ps+1) w.heap.size l S [] w5):=Lib.hid ⟨⟨⟨nz,az,qz,cz,false,bz,kz,dz⟩,rfl,Ks.out.ext hx5,Vz.out.ext hx5⟩,Kn.out.ext hx5,Kr.out.ext hx5,hx.trans hx5⟩
 clear hb1 hb2 hx5 hx Kr Ks Kn Vz Fz Gz
 go_wp2_with fail
 have h5s:=HX5.out.size
 have hw5:w.heap.size≤w5.heap.size:=by omega
 refine(wpIn_wide (n:=5)).1 ?_
 refine wpIn_rangeFunc_boxY (by omega) (gf:=53) (lb:=#[.pointer (some ⟨x4.heap.size,0,none⟩),.pointer (some ⟨x4.heap.size+1,0,none⟩)]) rfl (enters_of Tryz.func53 (by kernel_rfl) rfl)
  (known_seq 4 [ps,ps+1] x4.heap.size (x4.heap.size+1) a cap l s sc L S w5 HKn.out HV.out HLS.out HM.out w.heap.size hw5) (fun h k=>KeepC.trans h k) (fun W l o o' _ h2 h3 _=>KeepC.putObj W l o o' h2 h3) (fun _=>rfl)
  (MnI w ps (ps+1) w.heap.size l S) (fun _ _ _=>False) (MnI.own hw5) (fun _ _ _ _ _ h _ _=>h.elim) KnOk.own hI0.out
  (fun W o=>KeepC.of_ext (Ext.alloc W o)) (fun x=>#[.bool x.2.n,.slice x.2.a x.2.q x.2.c,.bool x.2.m,.slice x.2.b x.2.k x.2.d]) 38 ?a1 ?assign ?body ?done ?stop
 case assign=>
  intro lp x W K hK
  gi_wp2
  generalize W.heap.size=bb at *
  exact hK
 case body=>
  rintro lp pre x W ⟨⟨c0,hcm,hbs,hV0⟩,hbn,hbr,hbl⟩ ⟨j,hj,hjn,hmap,c,hlast,hrat⟩ b hbx hbw
  rw [List.getLast?_concat] at hlast
  cases hlast
  dsimp only at *
  obtain⟨cn,ca,cq,cc,cm,cb,ck,cd⟩:=c0
  dsimp only at hcm
  subst hcm
  dsimp only [RatC.val] at hV0 hbs
  obtain⟨s0,s1,s2,s3⟩:=bk4 (Lib.hid hbs)
  have hB:Blk W b #[.bool c.n,.slice c.a c.q c.c,.bool c.m,.slice c.b c.k c.d] 38:=hbx
  obtain⟨t0,t1,t2,t3⟩:=bk4 (Lib.hid hB)
  obtain⟨n3,a3,q3,c3,b3,k3,d3,e,V3,F3,G3⟩:=hrat
  have V4:RatV W (.agg #[.bool n3,.slice a3 q3 c3,.bool false,.slice b3 k3 d3]) (diffR l S j):=V3
  have HV4:=Lib.hid V4
  have HS0:=Lib.hid hV0
  have hsub:∀i∈pre.map (·.1),i∈knIx l (j+1):=fun i hi=>by rw [←hmap,List.map_append];exact List.mem_append_left _ hi
  have hlt:∀i∈pre.map (·.1),i<l.length:=fun i hi=>by have:=knIx_lt (hsub i hi);omega
  have hplen:pre.length≤20:=by
   have h1:=knIx_len l (j+1)
   have h2:=HN.out
   have h3:(pre ++ [(j,c)]).length= (knIx l (j+1)).length:=by rw [←hmap,List.length_map]
   rw [List.length_append,List.length_singleton] at h3
   omega
  have HZ1:=Lib.hid (sum_sz HV.out HLS.out HM.out (pre.map (·.1)) hlt)
  have HZ2:=Lib.hid (diff_sz HV.out HLS.out HM.out hj)
  have HI:Hid (MnI w ps (ps+1) w.heap.size l S pre W):=Lib.hid ⟨⟨⟨cn,ca,cq,cc,false,cb,ck,cd⟩,rfl,hbs,hV0⟩,hbn,hbr,hbl⟩
  have HBS:=Lib.hid hbs
  have HBN:=Lib.hid hbn
  have HPW:=Lib.hid hbn.lt
  clear V3 V4 F3 G3 hV0 hbs hbr hbl hmap hlt hsub hB hbn
  gi_wp2
  refine⟨trivial,(callsIn_wide.2 (ratio_Add HS0.out HV4.out HZ1.out HZ2.out (by rw [List.length_map];omega))).mono ?_⟩
  rintro e' y1 ⟨v,rfl,hv,hy⟩
  obtain⟨n5,a5,q5,c5,b5,k5,d5,rfl,V5,F5,G5⟩:=hv
  have HV5:=Lib.hid V5
  clear s0 s1 s2 s3 t0 t1 t2 t3 V5 HV4 HS0
  have HFR:Hid (FreshC W.heap.size ⟨n5,a5,q5,c5,false,b5,k5,d5⟩):=Lib.hid ⟨fun _=>F5,fun _=>G5⟩
  clear F5 G5
  gi_wp2
  refine⟨trivial,(callsIn_wide.2 (corrected_getR n5 a5 q5 c5 false b5 k5 d5 _)).mono ?_⟩
  rintro e' y2 ⟨rfl,hy2⟩
  replace hy:=hy.trans hy2
  have HE:=Lib.hid hy
  have V6:=HV5.out.ext hy2
  have hM:=MnI.put HI.out hy ⟨n5,a5,q5,c5,false,b5,k5,d5⟩ (j,c) rfl (by rw [List.map_append];show RatV y2 _ (sumR l S (pre.map (·.1) ++ [j]));rw [sumR_snoc];exact V6) hrs hrs HFR.out HPW.out
  have HM2:=Lib.hid hM
  have b0:=HBS.out.ext hy
  obtain⟨g0,z0,g1,z1,g2,z2,g3,z3⟩:=bp4 (Lib.hid b0) (.bool n5) (.slice a5 q5 c5) (.bool false) (.slice b5 k5 d5)
  have n4:=bo4 (Lib.hid (HBN.out.ext hy)) ps (.bool n5) (.slice a5 q5 c5) (.bool false) (.slice b5 k5 d5) (by omega)
  obtain⟨g4,z4⟩:=bp1 n4 (.int .i64 0)
  clear hM n4 b0 V6 hy hy2 HV5
  gi_wp2
  exact⟨((((HE.out.others.trans (.setCell _ _ _)).trans (.setCell _ _ _)).trans (.setCell _ _ _)).trans (.setCell _ _ _)).trans (.setCell _ _ _),HM2.out.2,HM2.out.1⟩
 case done=>
  rintro D xs W hD hS ⟨⟨⟨cn,ca,cq,cc,cm,cb,ck,cd⟩,hcm,hbs,hV0⟩,hbn,hx,hbl⟩ hK
  dsimp only [RatC.val] at hcm hbs hV0
  subst hcm
  have hS1:xs.map (·.1)=knIx l l.length:=hS
  have hlen:xs.length= (knIx l l.length).length:=by rw [←hS1,List.length_map]
  have h20:xs.length≤20:=by have h1:=knIx_len l l.length;have h2:=HN.out;omega
  rw [hS1] at hV0
  have HZ:=Lib.hid (sum_sz HV.out HLS.out HM.out (knIx l l.length) (fun j hj=>knIx_lt hj))
  have HMO:=Lib.hid (rfl:meanO l S=meanO l S)
  unfold meanO at HMO
  have HK:Hid (DefAt W D):=Lib.hid hK
  have Kr:=Lib.hid hx
  replace hx:Ext w W:=hbl
  have Ks:=Lib.hid hbs
  have Kn:=Lib.hid hbn
  have Vs:=Lib.hid hV0
  have HL:=Lib.hid hlen
  have HDL:=Lib.hid hD
  have HBIG:=Lib.hid hw5
  clear hV0 hbs hbn hbl hS hS1 hlen hK hD
  have hsx:=hx.size
  generalize xs.length=m at *
  by_cases hm0:m=0
  ·subst hm0
   have hk0:knIx l l.length=[]:=List.eq_nil_of_length_eq_zero HL.out.symm
   have s0:=Kn.out.cell (i:=0) rfl
   obtain⟨t0,t1,t2,t3⟩:=bk4 Kr
   obtain⟨g0,z0,g1,z1,g2,z2,g3,z3⟩:=bp4 Kr (.bool false) (.slice none 0 0) (.bool false) (.slice none 0 0)
   have HK2:=dv4 HK Kr (.bool false) (.slice none 0 0) (.bool false) (.slice none 0 0) rfl rfl rfl rfl
   have Kr2:=bs4 Kr (.bool false) (.slice none 0 0) (.bool false) (.slice none 0 0)
   have HX2:=Lib.hid (bx4 hx w.heap.size (.bool false) (.slice none 0 0) (.bool false) (.slice none 0 0) (Nat.le_refl _))
   clear hx
   go_wp2_with fail
   refine⟨by simp,.inl ⟨_,_,rfl,run_takeDeferred HK2.out,?_⟩⟩
   have kk:=KeepC.putObj (Gs:=[]) _ D _ (.deferred none) HK2.out rfl
   have kr3:=kk.blk (by simp) Kr2.out
   obtain⟨r0,r1,r2,r3⟩:=bk4 (Lib.hid kr3)
   generalize hW3:(World.putObj _ D (.deferred none))=W3 at *
   refine⟨.agg #[.bool false,.slice none 0 0,.bool false,.slice none 0 0],by simp [results,Tryz.f31,go_sem,r0,r1,r2,r3],zeroC,rfl,?_,⟨fun h=>absurd h (by simp),fun h=>absurd h (by simp)⟩,?_⟩
   ·show RO W3 zeroC.val (meanO l S)
    unfold meanO
    rw [if_pos hk0]
    rfl
   ·rw [←hW3]
    exact HX2.out.grown (grownBy_putObj' _ D (.deferred none)) HX2.out.size (fun r e=>by cases e;exact Nat.le_trans HBIG.out HDL.out)
  ·have hmz:((m:Nat):Int)≠0:=by omega
   have hk0:knIx l l.length≠[]:=fun e=>by have:=HL.out;rw [e] at this;exact hm0 this
   have HK0:=Lib.hid hk0
   have HMZ:=Lib.hid hmz
   have c0:=Kn.out.cell (i:=0) rfl
   have HMQ:Hid ((((m:Nat):Int):Rat)≠0):=Lib.hid (fun e=>hmz (by exact_mod_cast e))
   clear hk0 HMO
   go_upto_region 8 with fail
   clear c0
   have s0:World.cell? W ⟨ps,0,none⟩=some (.bool cn):=Ks.out.cell rfl
   have s1:World.cell? W ⟨ps,1,none⟩=some (.slice ca cq cc):=Ks.out.cell rfl
   have s2:World.cell? W ⟨ps,2,none⟩=some (.bool false):=Ks.out.cell rfl
   have s3:World.cell? W ⟨ps,3,none⟩=some (.slice cb ck cd):=Ks.out.cell rfl
   have s4:World.cell? W ⟨ps+1,0,none⟩=some (.int .i64 ((m:Nat):Int)):=Kn.out.cell rfl
   have hE:Ext W (World.drew W):=(Ext.refl _).drew
   have hyd:Ext W (World.drew W):=(Ext.refl _).drew
   replace hx:=hx.trans hyd
   replace Ks:=kE Ks hyd
   replace Kn:=kE Kn hyd
   replace Kr:=kE Kr hyd
   replace Vs:=Lib.hid (Vs.out.ext hyd)
   replace HK:=Lib.hid (HK.out.ext hyd)
   clear hyd
   replace s0:World.cell? (World.drew W) ⟨ps,0,none⟩=some (.bool cn):=s0
   replace s1:World.cell? (World.drew W) ⟨ps,1,none⟩=some (.slice ca cq cc):=s1
   replace s2:World.cell? (World.drew W) ⟨ps,2,none⟩=some (.bool false):=s2
   replace s3:World.cell? (World.drew W) ⟨ps,3,none⟩=some (.slice cb ck cd):=s3
   replace s4:World.cell? (World.drew W) ⟨ps+1,0,none⟩=some (.int .i64 ((m:Nat):Int)):=s4
   refine wp_region_noPanic ?_
   refine wp_region_held_drew (S:=(fun w'=>World.cell? w' ⟨ps,0,none⟩=some (.bool cn)∧World.cell? w' ⟨ps,1,none⟩=some (.slice ca cq cc)∧World.cell? w' ⟨ps,2,none⟩=some (.bool false)∧World.cell? w' ⟨ps,3,none⟩=some (.slice cb ck cd)∧World.cell? w' ⟨ps+1,0,none⟩=some (.int .i64 ((m:Nat):Int)))) (by kernel_rfl) ?_ (fun hHeld=>?_)
   ·exact⟨s0,s1,s2,s3,s4⟩
   (try simp only [pur,Nat.reduceAdd])
   generalize World.drew W=x21 at *
   refine tk (v:=?_) 0 rfl (by kernel_rfl) (fun _ _ _ h=>h) (by rfl) ?_ (by assumption) ?_
   rotate_left
   ·(intro w hSw;(try dsimp only at hSw);(try go_simp);(try with_reducible rfl))
   (try simp only [Act.put,pus])
   refine tk (v:=?_) 1 rfl (by kernel_rfl) (fun _ _ _ h=>h) (by rfl) ?_ (by assumption) ?_
   rotate_left
   ·(intro w hSw;(try dsimp only at hSw);(try go_simp);(try with_reducible rfl))
   (try simp only [Act.put,pus])
   refine wpAnyH_ready (rs:=[2]) (by kernel_rfl) (by simp) ?_
   refine AllReadyH.cons (o:=_) rfl (fun K hK=>?_) ?_
   ·go_simp
    (with_reducible refine(ratio_Make ((m:Nat):Int) 1 _ (by omega) (by omega) (by omega)).mono ?_);rintro e x22 ⟨v,rfl,hv,hy⟩;have hzx:=hx.size;replace hE:=hE.trans hy;replace hx:=hx.trans hy;replace s0:=cell_exQ hy s0;replace s1:=cell_exQ hy s1;replace s2:=cell_exQ hy s2;replace s3:=cell_exQ hy s3;replace s4:=cell_exQ hy s4;replace Ks:=kE Ks hy;replace Kn:=kE Kn hy;replace Kr:=kE Kr hy;replace Vs:=Lib.hid (Vs.out.ext hy);replace HK:=Lib.hid (HK.out.ext hy);clear hy;obtain⟨np,ap,qp,cp,bp,kp,dp,rfl,hv',hf',hg'⟩:=hv;have Vp:=Lib.hid hv';have Fp:=Lib.hid (fun A hA=>Nat.le_trans hzx (hf' A hA));have Gp:=Lib.hid (fun A hA=>Nat.le_trans hzx (hg' A hA));clear hv' hf' hg' hzx;rw [divInt_oneM] at Vp
    refine hK.out _ _ ?_ (fun hHeld2=>?_)
    ·exact⟨s0,s1,s2,s3,s4⟩
    clear hK K hHeld
    have hHeld:=hHeld2
    clear hHeld2
    (try simp only [Act.put,pus])
    refine tk (v:=?_) 3 rfl (by kernel_rfl) (fun _ _ _ h=>h) (by rfl) ?_ (by assumption) ?_
    rotate_left
    ·(intro w hSw;(try dsimp only at hSw);(try go_simp);(try with_reducible rfl))
    (try simp only [Act.put,pus])
    refine tk (v:=?_) 4 rfl (by kernel_rfl) (fun _ _ _ h=>h) (by rfl) ?_ (by assumption) ?_
    rotate_left
    ·(intro w hSw;(try dsimp only at hSw);(try go_simp);(try with_reducible rfl))
    (try simp only [Act.put,pus])
    refine wpAnyH_ready (rs:=[5]) (by kernel_rfl) (by simp) ?_
    refine AllReadyH.cons (o:=_) rfl (fun K hK=>?_) ?_
    ·go_simp
     (with_reducible refine(corrected_getR np ap qp cp false bp kp dp _).mono ?_);rintro e x23 ⟨rfl,hy⟩;have hzx:=hx.size;replace hE:=hE.trans hy;replace hx:=hx.trans hy;replace s0:=cell_exQ hy s0;replace s1:=cell_exQ hy s1;replace s2:=cell_exQ hy s2;replace s3:=cell_exQ hy s3;replace s4:=cell_exQ hy s4;replace Ks:=kE Ks hy;replace Kn:=kE Kn hy;replace Kr:=kE Kr hy;replace Vs:=Lib.hid (Vs.out.ext hy);replace HK:=Lib.hid (HK.out.ext hy);replace Vp:=Lib.hid (Vp.out.ext hy);clear hy;clear hzx
     refine hK.out _ _ ?_ (fun hHeld2=>?_)
     ·exact⟨s0,s1,s2,s3,s4⟩
     clear hK K hHeld
     have hHeld:=hHeld2
     clear hHeld2
     (try simp only [Act.put,pus])
     refine wpAnyH_ready (rs:=[6]) (by kernel_rfl) (by simp) ?_
     refine AllReadyH.cons (o:=_) rfl (fun K hK=>?_) ?_
     ·go_simp
      (with_reducible refine(ratio_Quo (i:=10* (knIx l l.length).length+1) (j:=1) Vs.out Vp.out HZ.out (mark_sz (by omega)) (by have:=HL.out;omega) HMQ.out).mono ?_);rintro e x24 ⟨v,rfl,hv,hy⟩;have hzx:=hx.size;replace hE:=hE.trans hy;replace hx:=hx.trans hy;replace s0:=cell_exQ hy s0;replace s1:=cell_exQ hy s1;replace s2:=cell_exQ hy s2;replace s3:=cell_exQ hy s3;replace s4:=cell_exQ hy s4;replace Ks:=kE Ks hy;replace Kn:=kE Kn hy;replace Kr:=kE Kr hy;replace Vs:=Lib.hid (Vs.out.ext hy);replace HK:=Lib.hid (HK.out.ext hy);replace Vp:=Lib.hid (Vp.out.ext hy);clear hy;obtain⟨nq,aq,qq,cq,bq,kq,dq,rfl,hv',hf',hg'⟩:=hv;have Vq:=Lib.hid hv';have Fq:=Lib.hid (fun A hA=>Nat.le_trans hzx (hf' A hA));have Gq:=Lib.hid (fun A hA=>Nat.le_trans hzx (hg' A hA));clear hv' hf' hg' hzx
      refine hK.out _ _ ?_ (fun hHeld2=>?_)
      ·exact⟨s0,s1,s2,s3,s4⟩
      clear hK K hHeld
      have hHeld:=hHeld2
      clear hHeld2
      (try simp only [Act.put,pus])
      refine tk (v:=?_) 7 rfl (by kernel_rfl) (fun _ _ _ h=>h) (by rfl) ?_ (by assumption) ?_
      rotate_left
      ·(intro w hSw;(try dsimp only at hSw);(try go_simp);(try with_reducible rfl))
      (try simp only [Act.put,pus])
      refine tk (v:=?_) 8 rfl (by kernel_rfl) (fun _ _ _ h=>h) (by rfl) ?_ (by assumption) ?_
      rotate_left
      ·(intro w hSw;(try dsimp only at hSw);(try go_simp);(try with_reducible rfl))
      (try simp only [Act.put,pus])
      refine wpAnyH_ready (rs:=[9]) (by kernel_rfl) (by simp) ?_
      refine AllReadyH.cons (o:=_) rfl (fun K hK=>?_) ?_
      ·go_simp
       (with_reducible refine(corrected_getR nq aq qq cq false bq kq dq _).mono ?_);rintro e x25 ⟨rfl,hy⟩;have hzx:=hx.size;replace hE:=hE.trans hy;replace hx:=hx.trans hy;replace s0:=cell_exQ hy s0;replace s1:=cell_exQ hy s1;replace s2:=cell_exQ hy s2;replace s3:=cell_exQ hy s3;replace s4:=cell_exQ hy s4;replace Ks:=kE Ks hy;replace Kn:=kE Kn hy;replace Kr:=kE Kr hy;replace Vs:=Lib.hid (Vs.out.ext hy);replace HK:=Lib.hid (HK.out.ext hy);replace Vp:=Lib.hid (Vp.out.ext hy);replace Vq:=Lib.hid (Vq.out.ext hy);clear hy;clear hzx
       refine hK.out _ _ ?_ (fun hHeld2=>?_)
       ·exact⟨s0,s1,s2,s3,s4⟩
       clear hK K hHeld
       have hHeld:=hHeld2
       clear hHeld2
       (try simp only [Act.put,pus])
       refine wpAnyH_ready (rs:=[10]) (by kernel_rfl) (by simp) ?_
       refine AllReadyH.cons (o:=_) rfl (fun K hK=>?_) ?_
       ·obtain⟨g0,z0,g1,z1,g2,z2,g3,z3⟩:=bp4 Kr (.bool nq) (.slice aq qq cq) (.bool false) (.slice bq kq dq);go_simp;clear g0 z0 g1 z1 g2 z2 g3 z3;replace Vs:=(by first | exact rv4 Vs Kr (.bool nq) (.slice aq qq cq) (.bool false) (.slice bq kq dq) rfl rfl rfl rfl | exact bv4 Vs Kr (.bool nq) (.slice aq qq cq) (.bool false) (.slice bq kq dq) rfl rfl rfl rfl);replace HK:=(by first | exact rv4 HK Kr (.bool nq) (.slice aq qq cq) (.bool false) (.slice bq kq dq) rfl rfl rfl rfl | exact bv4 HK Kr (.bool nq) (.slice aq qq cq) (.bool false) (.slice bq kq dq) rfl rfl rfl rfl | exact dv4 HK Kr (.bool nq) (.slice aq qq cq) (.bool false) (.slice bq kq dq) rfl rfl rfl rfl);replace Vp:=(by first | exact rv4 Vp Kr (.bool nq) (.slice aq qq cq) (.bool false) (.slice bq kq dq) rfl rfl rfl rfl | exact bv4 Vp Kr (.bool nq) (.slice aq qq cq) (.bool false) (.slice bq kq dq) rfl rfl rfl rfl);replace Vq:=(by first | exact rv4 Vq Kr (.bool nq) (.slice aq qq cq) (.bool false) (.slice bq kq dq) rfl rfl rfl rfl | exact bv4 Vq Kr (.bool nq) (.slice aq qq cq) (.bool false) (.slice bq kq dq) rfl rfl rfl rfl);replace hx:=bx4 hx (w.heap.size) (.bool nq) (.slice aq qq cq) (.bool false) (.slice bq kq dq) (by omega);replace s0:=bf4 s0 (w.heap.size) (.bool nq) (.slice aq qq cq) (.bool false) (.slice bq kq dq) (by omega);replace s1:=bf4 s1 (w.heap.size) (.bool nq) (.slice aq qq cq) (.bool false) (.slice bq kq dq) (by omega);replace s2:=bf4 s2 (w.heap.size) (.bool nq) (.slice aq qq cq) (.bool false) (.slice bq kq dq) (by omega);replace s3:=bf4 s3 (w.heap.size) (.bool nq) (.slice aq qq cq) (.bool false) (.slice bq kq dq) (by omega);replace s4:=bf4 s4 (w.heap.size) (.bool nq) (.slice aq qq cq) (.bool false) (.slice bq kq dq) (by omega);replace Ks:=bo4 Ks (w.heap.size) (.bool nq) (.slice aq qq cq) (.bool false) (.slice bq kq dq) (by omega);replace Kn:=bo4 Kn (w.heap.size) (.bool nq) (.slice aq qq cq) (.bool false) (.slice bq kq dq) (by omega);replace Kr:=bs4 Kr (.bool nq) (.slice aq qq cq) (.bool false) (.slice bq kq dq);clear hE;generalize (World.setCell (World.setCell (World.setCell (World.setCell x25 ⟨w.heap.size,0,none⟩ (.bool nq)) ⟨w.heap.size,1,none⟩ (.slice aq qq cq)) ⟨w.heap.size,2,none⟩ (.bool false)) ⟨w.heap.size,3,none⟩ (.slice bq kq dq))=x26 at *;have hE:=Ext.refl x26
        refine hK.out _ _ ?_ (fun hHeld2=>?_)
        ·exact⟨s0,s1,s2,s3,s4⟩
        clear hK K hHeld
        have hHeld:=hHeld2
        clear hHeld2
        (try simp only [Act.put,pus])
        refine wpAnyH_done (by kernel_rfl) ?_ _
        refine NoPanic.normal ?_
        go_wp2_with fail
        refine⟨by simp,.inl ⟨_,_,rfl,run_takeDeferred HK.out,?_⟩⟩
        have kk:=KeepC.putObj (Gs:=[]) _ D _ (.deferred none) HK.out rfl
        have kr3:=kk.blk (by simp) Kr.out
        obtain⟨r0,r1,r2,r3⟩:=bk4 (Lib.hid kr3)
        have hV9:=RO.keep (o:=some _) Vq.out kk
        generalize hW3:(World.putObj _ D (.deferred none))=W3 at *
        refine⟨.agg #[.bool nq,.slice aq qq cq,.bool false,.slice bq kq dq],by simp [results,Tryz.f31,go_sem,r0,r1,r2,r3],⟨nq,aq,qq,cq,false,bq,kq,dq⟩,rfl,?_,⟨fun _=>Fq.out,fun _=>Gq.out⟩,?_⟩
        ·rw [show meanO l S=some (sumR l S (knIx l l.length) / (((m:Nat):Int):Rat)) from(if_neg HK0.out).trans (by rw [←HL.out];rfl)]
         exact hV9
        ·rw [←hW3]
         exact hx.grown (grownBy_putObj' _ D (.deferred none)) hx.size (fun r e=>by cases e;exact Nat.le_trans HBIG.out HDL.out)
       exact AllReadyH.nil
      exact AllReadyH.nil
     exact AllReadyH.nil
    exact AllReadyH.nil
   exact AllReadyH.nil
 case stop=>exact fun _ _ _ _ _ _ h=>h.elim
end Go.Proofs.YtolffmmkjnhkkaaGreat
