import Derived.Test.YtokffagbdfhnnaaGreatUA
import Derived.OwnWalk
import Derived.Deep.QuietTactic
namespace Go.Proofs.YtokffagbdfhnnaaGreat
open Go.RowKit Go BigFrame Go.Shelf
set_option maxRecDepth 100000
set_option linter.unusedSimpArgs false
set_option linter.unusedVariables false
attribute [local go_sem] Oper.semAt_some
def trnA (A:List (List RatA)) (L:List RatA):Mx:=fun r c=>if r<widA A then(if c<A.length then mxA A c r else 0) else if c<A.length then vecF L c else 1
def FewT (A:List (List RatA)):Prop:=2 ^ A.length* (30* ((widA A+1)* (A.length+1))+62)≤40920
def refOk (A:List (List RatA)) (L:List RatA):Bool:=decide (vecE A L A.length=0) && okB (widA A+1) A.length (elimX (widA A+1) (trnA A L) A.length)
def refN (A:List (List RatA)) (L:List RatA):Nat:=if refOk A L then A.length else 0
def refF (A:List (List RatA)) (L:List RatA):Nat→Rat:=solX A.length (elimX (widA A+1) (trnA A L) A.length)
def RefuteP (A:List (List RatA)) (L:List RatA) (w:World) (e:Ending) (w':World):Prop:=
 ∃ (a:Option Addr) (cap:Nat) (V:Nat→RatC),e=.returned (.tuple #[.slice a (refN A L) cap,.bool (refOk A L),.int .i64 (vecE A L A.length)])∧RowR w' a cap (refN A L) V (refF A L)∧Ext w w'
theorem trn_cd {A:List (List RatA)} {L:List RatA} (h:vecE A L A.length=0):CdX (widA A+1) (A.length+1) (30* ((widA A+1)* (A.length+1))+61) (trnA A L):=cd_of fun r hr c hc=>by
 obtain⟨h1,h2,h3⟩:=vecE_0 h
 have z0:((0:Rat).num.natAbs<2 ^ 60∧(0:Rat).den<2 ^ 30):=by decide
 have z1:((1:Rat).num.natAbs<2 ^ 60∧(1:Rat).den<2 ^ 30):=by decide
 unfold trnA
 by_cases e1:r<widA A
 ·rw [if_pos e1]
  by_cases e2:c<A.length
  ·rw [if_pos e2];exact err_valA (chk_mat h1 e2 e1).2
  ·rw [if_neg e2];exact z0
 ·rw [if_neg e1]
  by_cases e2:c<A.length
  ·rw [if_pos e2];exact err_valA (els_mem h3 (by omega))
  ·rw [if_neg e2];exact z1
theorem trn_row {A:List (List RatA)} (L:List RatA) {q c:Nat} (hq:q<widA A) (hc:c<A.length+1):(((List.range A.length).map fun c=>mxA A c q) ++ [0]).getD c 0=trnA A L q c:=by
 unfold trnA
 rw [if_pos hq]
 by_cases e:c<A.length
 ·rw [if_pos e,List.getD_eq_getElem?_getD,List.getElem?_append_left (by simpa using e),List.getElem?_map,List.getElem?_range e];rfl
 ·have hce:c=A.length:=by omega
  rw [if_neg e,List.getD_eq_getElem?_getD,List.getElem?_append_right (by simp;omega),hce];simp
theorem OwnRats.rowN {w:World} {B N:Nat} {v:Value} {L:List RatC} {rs:List Rat} (h:OwnRats w B v L rs) (hN:L.length=N) (h0:0<N) {o:Option Nat} (ho:∀x∈L,x.Off o):
 ∃g cap,v=.slice (some ⟨g,0,none⟩) N cap∧(N≤cap∧cap≤9223372036854775807)∧RowB w g N (fun c=>L.getD c ⟨false,none,0,0,false,none,0,0⟩)∧(∀c,c<N→RatV w (L.getD c ⟨false,none,0,0,false,none,0,0⟩).val (rs.getD c 0))∧∀c,c<N→(L.getD c ⟨false,none,0,0,false,none,0,0⟩).Off o:=by
 subst hN
 obtain⟨g,cap,rfl,_,h1,h2,h3⟩:=h.fill h0
 refine⟨g,cap,rfl,⟨h1,h2⟩,h3.row,h3.val,fun c hc=>ho _ ?_⟩
 rw [List.getD_eq_getElem?_getD,List.getElem?_eq_getElem hc]
 exact List.getElem_mem hc
set_option maxHeartbeats 16000000 in
theorem matrix_Refute (a:Option Addr) (cap:Nat) (A:List (List RatA)) (s:Option Addr) (sc:Nat) (L:List RatA) (w:World) (h:RRows w a cap A) (k:RatsI w s sc L) (hL:L.length≤1000) (hf:vecE A L A.length=0→FewT A):
 Calls Tryz.prog 18 #[.slice a A.length cap,.slice s L.length sc] w (RefuteP A L w):=by
 have hle:=h.le
 have hmx:=h.mx
 have sle:=k.le
 have smx:=k.mx
 have HH:=Lib.hid h
 have HK:=Lib.hid k
 clear h k
 have HV:=Lib.hid (matrix_vector a cap A s sc L A.length w HH.out HK.out hL)
 by_cases hz:vecE A L A.length=0
 ·have hfew:=hf hz
  obtain⟨z1,z2,z3⟩:=vecE_0 hz
  have hc:=chkE_0 z1
  have HCD:=Lib.hid (trn_cd hz)
  have HR:=Lib.hid (fun W (k:Ext w W)=>chk_read z1 (RRows.ext k HH.out))
  have HRL:=Lib.hid (fun W (k:Ext w W)=>els_read z3 (HK.out.ext k))
  have h17:A.length≤17:=hc.1
  have hw17:widA A≤17:=by
   by_cases h0:A.length=0
   ·rw [List.eq_nil_of_length_eq_zero h0];decide
   ·have:=hc.2.1 _ (mem_of_lt (show 0<A.length by omega));exact this
  have HF:Hid (2 ^ A.length* (30* ((widA A+1)* (A.length+1))+61+1)≤40920):=Lib.hid hfew
  have HLL:Hid (L.length=A.length):=Lib.hid (by omega)
  have HSO:Hid (refOk A L=okB (widA A+1) A.length (elimX (widA A+1) (trnA A L) A.length)):=Lib.hid (by unfold refOk;rw [decide_eq_true hz];rfl)
  have HVZ:=Lib.hid hz
  rw [hz] at HV
  clear hc hfew hf hz z1 z2 z3
  go_enter Tryz.func18,Tryz.ntmps18
  go_wp2_with fail
  refine HV.out.mono ?_
  rintro e x1 ⟨rfl,hy⟩
  have HX:=Lib.hid hy
  clear hy HV
  go_wp2_with fail
  refine(ratio_Make 1 1 _ (by omega) (by omega) (by omega)).mono ?_
  rintro e x2 ⟨v2,rfl,⟨n1,a1,q1',c1,b1',k1',d1,rfl,hv',hf',hg'⟩,hy⟩
  have e11:Rat.divInt 1 1=1:=by decide +kernel
  rw [e11] at hv'
  have hyb:=Ext.alloc x2 (.cells #[.bool n1,.slice a1 q1' c1,.bool false,.slice b1' k1' d1] 44)
  have Kb:=Lib.hid (Blk.new0 x2 #[.bool n1,.slice a1 q1' c1,.bool false,.slice b1' k1' d1] 44)
  replace HX:=Lib.hid ((HX.out.trans hy).trans hyb)
  have V1:=Lib.hid (RatV.ext hv' hyb)
  clear hy hyb hv' hf' hg' e11
  go_upto_region 5 with fail
  generalize x2.alloc (.cells #[.bool n1,.slice a1 q1' c1,.bool false,.slice b1' k1' d1] 44)=x3 at *
  generalize x2.heap.size=pb at *
  go_wp2_with fail
  refine(matrix_width a cap A.length (widA A) x3 (HR.out x3 HX.out).wid).mono ?_
  rintro e x4 ⟨rfl,rfl⟩
  rw [wid_if]
  go_wp2_with fail
  go_loopw [9,28] (fun s9 v wr=>∃q:Nat,q≤widA A∧v=.int .i64 q∧∃g cp V M,RowsO wr x3.heap.size q (A.length+1) s9 g cp V M∧(∀r,r<q→∀c,c<A.length+1→M r c=trnA A L r c)∧Ext x3 wr) (fun _ v _=>widA A - (intOf v).toNat)
  case atStart=>exact⟨0,Nat.zero_le _,rfl,fun _=>0,fun _=>0,fun _ _=>⟨false,none,0,0,false,none,0,0⟩,fun _ _=>0,RowsO.nil _ _ _ _ _ _ _,fun r hr=>by omega,Ext.refl _⟩
  case round=>
   obtain⟨q,hq,rfl,g,cp,V,M,hro,hmq,hxr⟩:=hrel
   have q0:(0:Int)≤(q:Int):=by omega
   obtain⟨av,cv,rfl⟩:=row_form hro.own
   by_cases hqm:q<widA A
   ·have q1:(q:Int)< (widA A:Int):=by omega
    have hw1:IntKind.i64.wrap ((q:Int)+1)= (q:Int)+1:=IntWalk.i64_in _ (by omega)
    have HRO:=Lib.hid hro
    have HE:=Lib.hid hxr
    have HMQ:=Lib.hid hmq
    have HXW:=Lib.hid (HX.out.trans hxr)
    clear hro hxr hmq
    go_wp2_with fail
    generalize hwr:wr=x5 at *
    clear hwr
    go_loopw [11,33] (fun s11 v wr=>∃i:Nat,i≤A.length∧v=.int .i64 i∧∃K,OwnRats wr x5.heap.size s11 K ((List.range i).map fun c=>mxA A c q)∧(∀x∈K,x.Off (Value.slice av q cv).ownBlock)∧Ext x5 wr) (fun _ v _=>A.length - (intOf v).toNat)
    case atStart=>exact⟨0,Nat.zero_le _,rfl,[],OwnRats.nil _ _,fun x hx=>(by cases hx),Ext.refl _⟩
    case round=>
     obtain⟨i,hi,rfl,K,hO,hoK,hxr⟩:=hrel
     have i0:(0:Int)≤(i:Int):=by omega
     obtain⟨va,vc,rfl,hvl,hvc⟩:=hO.form
     have hKl:K.length=i:=by have:=hO.len;rwa [List.length_map,List.length_range] at this
     have HO:=Lib.hid hO
     have HOK:=Lib.hid hoK
     have HXR:=Lib.hid hxr
     have HKL:=Lib.hid hKl
     clear hO hoK hxr hKl
     by_cases him:i<A.length
     ·have i1:(i:Int)< (A.length:Int):=by omega
      have hw2:IntKind.i64.wrap ((i:Int)+1)= (i:Int)+1:=IntWalk.i64_in _ (by omega)
      have hXX:=HXW.out.trans HXR.out
      obtain⟨b,o,rfl⟩:=(HR.out w (Ext.refl _)).head him
      obtain⟨_,ar,cr,h1,hrw⟩:=(HR.out wr hXX).cells _ rfl i him
      dsimp only at h1
      obtain⟨br,or_,rfl⟩:=hrw.head hqm
      obtain⟨_,c0,c1',c2,c3⟩:=hrw.cells _ rfl q hqm
      have hv0:=(HR.out w (Ext.refl _)).val him hqm
      have hv:=hrw.val q hqm
      have hrle:=hrw.le
      have hrmx:=hrw.mx
      generalize hxx:vxA A i q=x at *
      obtain⟨nx,ax,qx,cx,mx,bx,kx,dx⟩:=x
      dsimp only [RatC.val] at c0 c1' c2 c3 hv hv0
      have hlt:=HO.out.lt
      have hwx:w.heap.size≤x5.heap.size:=HXW.out.size
      have hoff:RatC.Off ⟨nx,ax,qx,cx,mx,bx,kx,dx⟩ (Value.slice va K.length vc).ownBlock:=old_off (x:=⟨nx,ax,qx,cx,mx,bx,kx,dx⟩) hv0 (fun g' e=>Nat.le_trans hwx (hlt _ e).1)
      have hw0:w.heap.size≤x3.heap.size:=HX.out.size
      have hoff2:RatC.Off ⟨nx,ax,qx,cx,mx,bx,kx,dx⟩ (Value.slice av q cv).ownBlock:=old_off (x:=⟨nx,ax,qx,cx,mx,bx,kx,dx⟩) hv0 (fun g' e=>Nat.le_trans hw0 (World.ownsRow.lt HRO.out.own _ e).1)
      have hya:=Ext.alloc wr (.cells #[.bool nx,.slice ax qx cx,.bool mx,.slice bx kx dx] 44)
      have HBz:=Lib.hid (Blk.new0 wr #[.bool nx,.slice ax qx cx,.bool mx,.slice bx kx dx] 44)
      have HXa:=Lib.hid (HXR.out.trans hya)
      have HOa:=Lib.hid (HO.out.ext hya)
      have HVa:=Lib.hid (RatV.ext hv hya)
      have HOFF:=Lib.hid hoff
      have HOFF2:=Lib.hid hoff2
      clear hoff hoff2 hya hv hv0 hlt hrw hXX hxx HO HXR hwx hw0
      go_wp2_with (at_builtin;refine wpl_append_rat rfl (.tmp 37) (.tmp 42) rfl HXa.out rfl HOa.out rfl (x:=⟨nx,ax,qx,cx,mx,bx,kx,dx⟩) (r:=mxA A i q) HBz.out HVa.out HOFF.out (by have:=HKL.out;omega) ?_;intro v' w3 hO' hE' hg' hat')
      obtain⟨ua,uc,rfl,hul,huc⟩:=hO'.form
      go_roundw
      case rel=>exact⟨i+1,by omega,by go_num,_,(by rw [List.range_succ,List.map_append];exact hO'),fun y hy=>(List.mem_append.1 hy).elim (HOK.out y) (fun h=>by rw [List.mem_singleton.1 h];exact HOFF2.out),hE'⟩
      case measure=>simp [intOf];omega
     ·have i1:¬ (i:Int)< (A.length:Int):=by omega
      have hie:i=A.length:=by omega
      go_wp2_with fail
      refine(matrix_zero _).mono ?_
      rintro e9 y1 ⟨v9,rfl,⟨nz,az,qz,cz,bz,kz,dz,rfl,hv',hf',hg'⟩,hy⟩
      have hlt:=HO.out.lt
      have hl2:=World.ownsRow.lt (HRO.out.ext HXR.out).own
      have hoff:RatC.Off ⟨nz,az,qz,cz,false,bz,kz,dz⟩ (Value.slice va K.length vc).ownBlock:=⟨fun _ A' hA e=>by have:=hf' A' hA;have:=(hlt _ e).2;omega,fun _ A' hA e=>by have:=hg' A' hA;have:=(hlt _ e).2;omega⟩
      have hoff2:RatC.Off ⟨nz,az,qz,cz,false,bz,kz,dz⟩ (Value.slice av q cv).ownBlock:=⟨fun _ A' hA e=>by have:=hf' A' hA;have:=(hl2 _ e).2;omega,fun _ A' hA e=>by have:=hg' A' hA;have:=(hl2 _ e).2;omega⟩
      have hya:=Ext.alloc y1 (.cells #[.bool nz,.slice az qz cz,.bool false,.slice bz kz dz] 44)
      have HBz:=Lib.hid (Blk.new0 y1 #[.bool nz,.slice az qz cz,.bool false,.slice bz kz dz] 44)
      have HXa:=Lib.hid ((HXR.out.trans hy).trans hya)
      have HOa:=Lib.hid ((HO.out.ext hy).ext hya)
      have HVa:=Lib.hid (RatV.ext hv' hya)
      have HOFF:=Lib.hid hoff
      have HOK2:=Lib.hid (fun(x:RatC) (hx:x∈K ++ [(⟨nz,az,qz,cz,false,bz,kz,dz⟩:RatC)])=>(List.mem_append.1 hx).elim (HOK.out x) (fun h=>by rw [List.mem_singleton.1 h];exact hoff2))
      have hKN:(K ++ [(⟨nz,az,qz,cz,false,bz,kz,dz⟩:RatC)]).length=A.length+1:=by rw [List.length_append,HKL.out,hie];rfl
      have HKN:=Lib.hid hKN
      subst hie
      clear hlt hl2 hoff hoff2 hya hy hv' hf' hg' hKN HO HXR
      go_wp2_with (at_builtin;first
       | (refine wpl_append_rat rfl (.tmp 46) (.tmp 48) rfl HXa.out rfl HOa.out rfl (x:=⟨nz,az,qz,cz,false,bz,kz,dz⟩) (r:=0) HBz.out HVa.out HOFF.out (by have:=HKL.out;omega) ?_;intro v' w3 hO' hE' hg' hat';obtain⟨gq,cq,rfl,hcq,hrb,hrv,hro⟩:=hO'.rowN HKN.out (by omega) HOK2.out;have HE3:=Lib.hid ((HE.out.trans hE').trans (Ext.alloc w3 (.cells #[.slice (some ⟨gq,0,none⟩) (A.length+1) cq] 23)));have HRO3:=Lib.hid ((HRO.out.ext hE').ext (Ext.alloc w3 (.cells #[.slice (some ⟨gq,0,none⟩) (A.length+1) cq] 23)));have HK3:=Lib.hid (Blk.new0 w3 #[.slice (some ⟨gq,0,none⟩) (A.length+1) cq] 23);have HRB:=Lib.hid (hrb.ext (Ext.alloc w3 (.cells #[.slice (some ⟨gq,0,none⟩) (A.length+1) cq] 23)));have HRV:=Lib.hid (fun c hc=>(hrv c hc).ext (Ext.alloc w3 (.cells #[.slice (some ⟨gq,0,none⟩) (A.length+1) cq] 23)));have HROF:=Lib.hid hro;have HCQ:=Lib.hid hcq;clear hO' hE' hg' hat' hcq hrb hrv hro)
       | (refine wpl_append_row rfl (.tmp 45) (.tmp 50) 22 23 rfl (z:=.slice none 0 0) (k:=1) (by_:=24) Tryz.underlying22 infoRowU rfl (by decide) (B:=x3.heap.size) HE3.out.size rfl HRO3.out.own rfl (fun e=>by cases e) (news:=[.slice (some ⟨gq,0,none⟩) (A.length+1) cq]) rfl (fun A' hA j u hu=>by cases hA;exact one_news HK3.out hu) (fun u hu=>by rw [List.mem_singleton.1 hu];rfl) (by omega) (by omega) ?_;intro v9 x9 ho hg hnl hat;obtain⟨a9,c9,rfl⟩:=row_form ho;have HR9:=Lib.hid (HRO3.out.push ho hg hat HRB.out HRV.out HROF.out HCQ.out);have HE9:Hid (Ext x3 x9):=Lib.hid (Below.grown HE3.out hg HE3.out.size (fun r e=>(World.ownsRow.lt HRO3.out.own r e).1));clear ho hg hnl hat))
      exact⟨⟨q+1,by omega,by go_num,_,_,_,_,HR9.out,fun r hr c hc=>(if e:r=q then(by rw [if_pos e,e];exact trn_row L hqm hc) else(by rw [if_neg e];exact HMQ.out r (by omega) c hc)),HE9.out⟩,by simp [intOf];omega⟩
   ·have q1:¬ (q:Int)< (widA A:Int):=by omega
    have hqe:q=widA A:=by omega
    subst hqe
    have hLA:=HLL.out
    have hav:∀c',c'<A.length+1→RatV x3 (snocU A.length (vecV L) ⟨n1,a1,q1',c1,false,b1',k1',d1⟩ c').val (trnA A L (widA A) c'):=fun c' hc'=>by
     unfold snocU trnA
     rw [if_neg (Nat.lt_irrefl _)]
     by_cases e:c'<A.length
     ·rw [if_pos e,if_pos e];exact(HRL.out x3 HX.out).val c' (by omega)
     ·rw [if_neg e,if_neg e];exact V1.out
    have HAV:=Lib.hid hav
    have HR0:Hid (RowR x3 s sc A.length (vecV L) (vecF L)):=Lib.hid (by have:=HRL.out x3 HX.out;rwa [hLA] at this)
    go_upto_region 17 with fail
    rw [hLA]
    have hyd:Ext wr (World.drew wr):=(Ext.refl _).drew
    have HRO:=Lib.hid (hro.ext hyd)
    have HE3:=Lib.hid (hxr.trans hyd)
    have HMQ:=Lib.hid hmq
    have HE:=Lib.hid (Ext.refl (World.drew wr))
    have s0c:=Lib.hid (fun(W:World) (k:Ext x3 W)=>And.intro (cell_exQ k (Kb.out.cell (i:=0) rfl)) (And.intro (cell_exQ k (Kb.out.cell (i:=1) rfl)) (And.intro (cell_exQ k (Kb.out.cell (i:=2) rfl)) (cell_exQ k (Kb.out.cell (i:=3) rfl)))))
    clear hyd hro hxr hmq hav
    refine wp_region_held_drew (S:=(fun w'=>World.cell? w' ⟨pb,0,none⟩=some (.bool n1)∧World.cell? w' ⟨pb,1,none⟩=some (.slice a1 q1' c1)∧World.cell? w' ⟨pb,2,none⟩=some (.bool false)∧World.cell? w' ⟨pb,3,none⟩=some (.slice b1' k1' d1))) (by kernel_rfl) ?_ (fun hHeld=>?_)
    ·first | exact s0c.out _ (HE3.out.trans HE.out) | exact s0c.out _ HEb.out
    (try simp only [pur,Nat.reduceAdd])
    generalize World.drew wr=y0 at *
    refine tk (v:=?_) 0 rfl (by kernel_rfl) (fun _ _ _ h=>h) (by rfl) ?_ (by assumption) ?_
    rotate_left
    ·(intro w hSw;(try dsimp only at hSw);(try go_simp);(try with_reducible rfl))
    (try simp only [Act.put,pus])
    refine tk (v:=?_) 2 rfl (by kernel_rfl) (fun _ _ _ h=>h) (by rfl) ?_ (by assumption) ?_
    rotate_left
    ·(intro w hSw;(try dsimp only at hSw);(try go_simp);(try with_reducible rfl))
    (try simp only [Act.put,pus])
    refine tk (v:=?_) 4 rfl (by kernel_rfl) (fun _ _ _ h=>h) (by rfl) ?_ (by assumption) ?_
    rotate_left
    ·(intro w hSw;(try dsimp only at hSw);(try go_simp);(try with_reducible rfl))
    (try simp only [Act.put,pus])
    refine wpAnyH_ready (rs:=[1,5]) (by kernel_rfl) (by simp) ?_
    refine AllReadyH.cons (o:=_) rfl (fun K hK=>?_) ?_
    ·go_simp
     have hs:=HE.out.size;have hy:=Ext.alloc y0 (.cells #[] 44);replace HE:=Lib.hid (Ext.trans HE.out hy);have K1:=Lib.hid (Blk.new0 y0 #[] 44);clear hy;generalize World.alloc y0 (.cells #[] 44)=z1 at *;generalize hb:Array.size (World.heap y0)=b1 at K1 ⊢;have HB1:Hid (y0.heap.size≤b1):=Lib.hid (Nat.le_of_eq hb);clear hb hs
     refine hK.out _ _ ?_ (fun hHeld2=>?_)
     ·first | exact s0c.out _ (HE3.out.trans HE.out) | exact s0c.out _ HEb.out
     clear hK K hHeld
     have hHeld:=hHeld2
     clear hHeld2
     (try simp only [Act.put,pus])
     refine wpAnyH_ready (rs:=[3,5]) (by kernel_rfl) (by simp) ?_
     refine AllReadyH.cons (o:=_) rfl (fun K hK=>?_) ?_
     ·refine step_append_row rfl (.tmp 54) (.tmp 55) 23 44 rfl (z:=.agg #[.bool false,.slice none 0 0,.bool false,.slice none 0 0]) (k:=4) (by_:=64) Tryz.underlying23 infoRatU rfl (by decide) (B:=y0.heap.size) HE.out.size rfl (ownEmpty K1.out HB1.out) rfl HR0.out.nil0 (newsU_len A.length (vecV L)) (fun A' hA=>by cases hA;exact(HR0.out.ext (HE3.out.trans HE.out)).news) (newsU_one A.length (vecV L)) (by omega) (by omega) ?_;intro v7 x7 ho hg hnl hat;obtain⟨gq,cq,rfl,hgq,hcq,hcm⟩:=own_row_form ho hnl;rw [Nat.zero_add] at ho;have HO:=Lib.hid ho;replace HE:=Lib.hid (Below.grown HE.out hg HE.out.size (fun r e=>by cases e;exact HB1.out));clear ho hg hnl hat hgq hcq hcm K1 HB1
      refine hK.out _ _ ?_ (fun hHeld2=>?_)
      ·first | exact s0c.out _ (HE3.out.trans HE.out) | exact s0c.out _ HEb.out
      clear hK K hHeld
      have hHeld:=hHeld2
      clear hHeld2
      (try simp only [Act.put,pus])
      refine wpAnyH_ready (rs:=[5]) (by kernel_rfl) (by simp) ?_
      refine AllReadyH.cons (o:=_) rfl (fun K hK=>?_) ?_
      ·go_simp
       have hs:=HE.out.size;have hy:=Ext.alloc x7 (.cells #[.bool n1,.slice a1 q1' c1,.bool false,.slice b1' k1' d1] 44);replace HE:=Lib.hid (Ext.trans HE.out hy);have K5:=Lib.hid (Blk.new0 x7 #[.bool n1,.slice a1 q1' c1,.bool false,.slice b1' k1' d1] 44);replace HO:=Lib.hid (ownsRow_ext HO.out hy);clear hy;generalize World.alloc x7 (.cells #[.bool n1,.slice a1 q1' c1,.bool false,.slice b1' k1' d1] 44)=x8 at *;generalize Array.size (World.heap x7)=b5 at hs K5 ⊢;clear hs
       refine hK.out _ _ ?_ (fun hHeld2=>?_)
       ·first | exact s0c.out _ (HE3.out.trans HE.out) | exact s0c.out _ HEb.out
       clear hK K hHeld
       have hHeld:=hHeld2
       clear hHeld2
       (try simp only [Act.put,pus])
       refine wpAnyH_ready (rs:=[6]) (by kernel_rfl) (by simp) ?_
       refine AllReadyH.cons (o:=_) rfl (fun K hK=>?_) ?_
       ·refine step_append_row rfl (.tmp 56) (.tmp 58) 23 44 rfl (z:=.agg #[.bool false,.slice none 0 0,.bool false,.slice none 0 0]) (k:=4) (by_:=64) Tryz.underlying23 infoRatU rfl (by decide) (B:=y0.heap.size) HE.out.size rfl HO.out rfl (fun e=>by cases e) (news:=[.bool n1,.slice a1 q1' c1,.bool false,.slice b1' k1' d1]) rfl (fun A' hA j u hu=>by cases hA;exact four_news K5.out j u hu) (four_one _ _ _ _ _ _ _ _) (by omega) (by omega) ?_;intro v9 x9 ho hg hnl hat;obtain⟨g9,c9,rfl,hgq,hcq,hcm⟩:=grow_form ho;rw [List.nil_append] at ho;have HR9:=Lib.hid (rowB_more (x:=⟨n1,a1,q1',c1,false,b1',k1',d1⟩) ho);replace HE:=Lib.hid (Below.grown HE.out hg HE.out.size (fun r e=>(World.ownsRow.lt HO.out r e).1));have HCQ:=Lib.hid (And.intro hcq hcm);clear ho hg hnl hat hgq hcq hcm K5 HO
        refine hK.out _ _ ?_ (fun hHeld2=>?_)
        ·first | exact s0c.out _ (HE3.out.trans HE.out) | exact s0c.out _ HEb.out
        clear hK K hHeld
        have hHeld:=hHeld2
        clear hHeld2
        (try simp only [Act.put,pus])
        refine wpAnyH_ready (rs:=[7]) (by kernel_rfl) (by simp) ?_
        refine AllReadyH.cons (o:=_) rfl (fun K hK=>?_) ?_
        ·go_simp
         have hs:=HE.out.size;have hy:=Ext.alloc x9 (.cells #[.slice (some ⟨g9,0,none⟩) (A.length+1) c9] 23);replace HE:=Lib.hid (Ext.trans HE.out hy);have K7:=Lib.hid (Blk.new0 x9 #[.slice (some ⟨g9,0,none⟩) (A.length+1) c9] 23);replace HR9:=Lib.hid (HR9.out.ext hy);clear hy;generalize World.alloc x9 (.cells #[.slice (some ⟨g9,0,none⟩) (A.length+1) c9] 23)=xa at *;generalize Array.size (World.heap x9)=b7 at hs K7 ⊢;clear hs
         refine hK.out _ _ ?_ (fun hHeld2=>?_)
         ·first | exact s0c.out _ (HE3.out.trans HE.out) | exact s0c.out _ HEb.out
         clear hK K hHeld
         have hHeld:=hHeld2
         clear hHeld2
         (try simp only [Act.put,pus])
         refine wpAnyH_ready (rs:=[8]) (by kernel_rfl) (by simp) ?_
         refine AllReadyH.cons (o:=_) rfl (fun K hK=>?_) ?_
         ·refine step_append_row rfl (.tmp 53) (.tmp 60) 22 23 rfl (z:=.slice none 0 0) (k:=1) (by_:=24) Tryz.underlying22 infoRowU rfl (by decide) (B:=x3.heap.size) (HE3.out.trans HE.out).size rfl (HRO.out.ext HE.out).own rfl (fun e=>by cases e) (news:=[.slice (some ⟨g9,0,none⟩) (A.length+1) c9]) rfl (fun A' hA j u hu=>by cases hA;exact one_news K7.out hu) (fun u hu=>by rw [List.mem_singleton.1 hu];rfl) (by omega) (by omega) ?_;intro vb xb ho hg hnl hat;obtain⟨ab,cb,rfl⟩:=row_form ho;have hy:Ext x3 xb:=Below.grown (HE3.out.trans HE.out) hg (HE3.out.trans HE.out).size (fun r e=>(World.ownsRow.lt (HRO.out.ext HE.out).own r e).1);have HRb:=Lib.hid ((HRO.out.ext HE.out).push ho hg hat HR9.out (fun c' hc'=>(HAV.out c' hc').ext (HE3.out.trans HE.out)) (fun c' hc'=>old_off (HAV.out c' hc') (fun g' e=>(World.ownsRow.lt HRO.out.own g' e).1)) HCQ.out);have HEb:=Lib.hid hy;clear ho hg hnl hat hy HR9 K7
          refine hK.out _ _ ?_ (fun hHeld2=>?_)
          ·first | exact s0c.out _ (HE3.out.trans HE.out) | exact s0c.out _ HEb.out
          clear hK K hHeld
          have hHeld:=hHeld2
          clear hHeld2
          (try simp only [Act.put,pus])
          refine tk (v:=?_) 9 rfl (by kernel_rfl) (fun _ _ _ h=>h) (by rfl) ?_ (by assumption) ?_
          rotate_left
          ·(intro w hSw;(try dsimp only at hSw);(try go_simp);(try with_reducible rfl))
          (try simp only [Act.put,pus])
          refine wpAnyH_done (by kernel_rfl) ?_ _
          clear hHeld
          obtain⟨ra,rc,e9,hmat⟩:=HRb.out.mat
          simp only [Value.slice.injEq,true_and] at e9
          obtain⟨rfl,rfl⟩:=e9
          have HM:=Lib.hid (hmat.congr (M':=trnA A L) (fun r hr c hc=>if e:r=widA A then(by rw [if_pos e,e]) else(by rw [if_neg e];exact HMQ.out r (by omega) c hc)))
          have hrle:=hmat.le
          have hrmx:=hmat.mx
          have HX2:=Lib.hid (HX.out.trans HEb.out)
          clear hmat HRb HRO HMQ HE HCQ
          go_wp2_with fail
          refine(matrix_solve ab cb (widA A+1) A.length _ (trnA A L) (30* ((widA A+1)* (A.length+1))+61) xb HM.out HCD.out (by omega) (by omega) HF.out).mono ?_
          rintro e xc ⟨ac,cc,Vc,rfl,hrc,hy⟩
          have HP:Hid (RefuteP A L w (.returned (.tuple #[.slice ac (if okB (widA A+1) A.length (elimX (widA A+1) (trnA A L) A.length) then A.length else 0) cc,.bool (okB (widA A+1) A.length (elimX (widA A+1) (trnA A L) A.length)),.int .i64 0])) xc):=Lib.hid ⟨ac,cc,Vc,by unfold refN;rw [HSO.out,HVZ.out],by unfold refN;rw [HSO.out];exact hrc,HX2.out.trans hy⟩
          clear hrc hy
          generalize okB (widA A+1) A.length (elimX (widA A+1) (trnA A L) A.length)=ok at *
          cases ok
          ·rw [if_neg (by decide)] at HP ⊢
           go_wp2_with fail
           go_ret3
           exact HP.out
          ·rw [if_pos rfl] at HP ⊢
           go_wp2_with fail
           go_ret3
           exact HP.out
         exact AllReadyH.nil
        exact AllReadyH.nil
       exact AllReadyH.nil
      exact AllReadyH.nil
     refine AllReadyH.cons (o:=_) rfl (fun K hK=>?_) ?_
     ·go_simp
      have hs:=HE.out.size;have hy:=Ext.alloc z1 (.cells #[.bool n1,.slice a1 q1' c1,.bool false,.slice b1' k1' d1] 44);replace HE:=Lib.hid (Ext.trans HE.out hy);have K5:=Lib.hid (Blk.new0 z1 #[.bool n1,.slice a1 q1' c1,.bool false,.slice b1' k1' d1] 44);have HNE:=Lib.hid (Nat.ne_of_lt K1.out.lt);replace K1:=Lib.hid (K1.out.ext hy);clear hy;generalize World.alloc z1 (.cells #[.bool n1,.slice a1 q1' c1,.bool false,.slice b1' k1' d1] 44)=zz at *;generalize Array.size (World.heap z1)=b5 at hs K5 HNE ⊢;clear hs
      refine hK.out _ _ ?_ (fun hHeld2=>?_)
      ·first | exact s0c.out _ (HE3.out.trans HE.out) | exact s0c.out _ HEb.out
      clear hK K hHeld
      have hHeld:=hHeld2
      clear hHeld2
      (try simp only [Act.put,pus])
      refine wpAnyH_ready (rs:=[3]) (by kernel_rfl) (by simp) ?_
      refine AllReadyH.cons (o:=_) rfl (fun K hK=>?_) ?_
      ·refine step_append_row rfl (.tmp 54) (.tmp 55) 23 44 rfl (z:=.agg #[.bool false,.slice none 0 0,.bool false,.slice none 0 0]) (k:=4) (by_:=64) Tryz.underlying23 infoRatU rfl (by decide) (B:=y0.heap.size) HE.out.size rfl (ownEmpty K1.out HB1.out) rfl HR0.out.nil0 (newsU_len A.length (vecV L)) (fun A' hA=>by cases hA;exact(HR0.out.ext (HE3.out.trans HE.out)).news) (newsU_one A.length (vecV L)) (by omega) (by omega) ?_;intro v7 x8 ho hg hnl hat;obtain⟨gq,cq,rfl,hgq,hcq,hcm⟩:=own_row_form ho hnl;rw [Nat.zero_add] at ho;have HO:=Lib.hid ho;replace K5:=Lib.hid (blkGrown K5.out hg (fun e=>by injection e with e;exact HNE.out e));replace HE:=Lib.hid (Below.grown HE.out hg HE.out.size (fun r e=>by cases e;exact HB1.out));clear ho hg hnl hat hgq hcq hcm K1 HB1
       refine hK.out _ _ ?_ (fun hHeld2=>?_)
       ·first | exact s0c.out _ (HE3.out.trans HE.out) | exact s0c.out _ HEb.out
       clear hK K hHeld
       have hHeld:=hHeld2
       clear hHeld2
       (try simp only [Act.put,pus])
       refine wpAnyH_ready (rs:=[6]) (by kernel_rfl) (by simp) ?_
       refine AllReadyH.cons (o:=_) rfl (fun K hK=>?_) ?_
       ·refine step_append_row rfl (.tmp 56) (.tmp 58) 23 44 rfl (z:=.agg #[.bool false,.slice none 0 0,.bool false,.slice none 0 0]) (k:=4) (by_:=64) Tryz.underlying23 infoRatU rfl (by decide) (B:=y0.heap.size) HE.out.size rfl HO.out rfl (fun e=>by cases e) (news:=[.bool n1,.slice a1 q1' c1,.bool false,.slice b1' k1' d1]) rfl (fun A' hA j u hu=>by cases hA;exact four_news K5.out j u hu) (four_one _ _ _ _ _ _ _ _) (by omega) (by omega) ?_;intro v9 x9 ho hg hnl hat;obtain⟨g9,c9,rfl,hgq,hcq,hcm⟩:=grow_form ho;rw [List.nil_append] at ho;have HR9:=Lib.hid (rowB_more (x:=⟨n1,a1,q1',c1,false,b1',k1',d1⟩) ho);replace HE:=Lib.hid (Below.grown HE.out hg HE.out.size (fun r e=>(World.ownsRow.lt HO.out r e).1));have HCQ:=Lib.hid (And.intro hcq hcm);clear ho hg hnl hat hgq hcq hcm K5 HO
        refine hK.out _ _ ?_ (fun hHeld2=>?_)
        ·first | exact s0c.out _ (HE3.out.trans HE.out) | exact s0c.out _ HEb.out
        clear hK K hHeld
        have hHeld:=hHeld2
        clear hHeld2
        (try simp only [Act.put,pus])
        refine wpAnyH_ready (rs:=[7]) (by kernel_rfl) (by simp) ?_
        refine AllReadyH.cons (o:=_) rfl (fun K hK=>?_) ?_
        ·go_simp
         have hs:=HE.out.size;have hy:=Ext.alloc x9 (.cells #[.slice (some ⟨g9,0,none⟩) (A.length+1) c9] 23);replace HE:=Lib.hid (Ext.trans HE.out hy);have K7:=Lib.hid (Blk.new0 x9 #[.slice (some ⟨g9,0,none⟩) (A.length+1) c9] 23);replace HR9:=Lib.hid (HR9.out.ext hy);clear hy;generalize World.alloc x9 (.cells #[.slice (some ⟨g9,0,none⟩) (A.length+1) c9] 23)=xa at *;generalize Array.size (World.heap x9)=b7 at hs K7 ⊢;clear hs
         refine hK.out _ _ ?_ (fun hHeld2=>?_)
         ·first | exact s0c.out _ (HE3.out.trans HE.out) | exact s0c.out _ HEb.out
         clear hK K hHeld
         have hHeld:=hHeld2
         clear hHeld2
         (try simp only [Act.put,pus])
         refine wpAnyH_ready (rs:=[8]) (by kernel_rfl) (by simp) ?_
         refine AllReadyH.cons (o:=_) rfl (fun K hK=>?_) ?_
         ·refine step_append_row rfl (.tmp 53) (.tmp 60) 22 23 rfl (z:=.slice none 0 0) (k:=1) (by_:=24) Tryz.underlying22 infoRowU rfl (by decide) (B:=x3.heap.size) (HE3.out.trans HE.out).size rfl (HRO.out.ext HE.out).own rfl (fun e=>by cases e) (news:=[.slice (some ⟨g9,0,none⟩) (A.length+1) c9]) rfl (fun A' hA j u hu=>by cases hA;exact one_news K7.out hu) (fun u hu=>by rw [List.mem_singleton.1 hu];rfl) (by omega) (by omega) ?_;intro vb xb ho hg hnl hat;obtain⟨ab,cb,rfl⟩:=row_form ho;have hy:Ext x3 xb:=Below.grown (HE3.out.trans HE.out) hg (HE3.out.trans HE.out).size (fun r e=>(World.ownsRow.lt (HRO.out.ext HE.out).own r e).1);have HRb:=Lib.hid ((HRO.out.ext HE.out).push ho hg hat HR9.out (fun c' hc'=>(HAV.out c' hc').ext (HE3.out.trans HE.out)) (fun c' hc'=>old_off (HAV.out c' hc') (fun g' e=>(World.ownsRow.lt HRO.out.own g' e).1)) HCQ.out);have HEb:=Lib.hid hy;clear ho hg hnl hat hy HR9 K7
          refine hK.out _ _ ?_ (fun hHeld2=>?_)
          ·first | exact s0c.out _ (HE3.out.trans HE.out) | exact s0c.out _ HEb.out
          clear hK K hHeld
          have hHeld:=hHeld2
          clear hHeld2
          (try simp only [Act.put,pus])
          refine tk (v:=?_) 9 rfl (by kernel_rfl) (fun _ _ _ h=>h) (by rfl) ?_ (by assumption) ?_
          rotate_left
          ·(intro w hSw;(try dsimp only at hSw);(try go_simp);(try with_reducible rfl))
          (try simp only [Act.put,pus])
          refine wpAnyH_done (by kernel_rfl) ?_ _
          clear hHeld
          obtain⟨ra,rc,e9,hmat⟩:=HRb.out.mat
          simp only [Value.slice.injEq,true_and] at e9
          obtain⟨rfl,rfl⟩:=e9
          have HM:=Lib.hid (hmat.congr (M':=trnA A L) (fun r hr c hc=>if e:r=widA A then(by rw [if_pos e,e]) else(by rw [if_neg e];exact HMQ.out r (by omega) c hc)))
          have hrle:=hmat.le
          have hrmx:=hmat.mx
          have HX2:=Lib.hid (HX.out.trans HEb.out)
          clear hmat HRb HRO HMQ HE HCQ
          go_wp2_with fail
          refine(matrix_solve ab cb (widA A+1) A.length _ (trnA A L) (30* ((widA A+1)* (A.length+1))+61) xb HM.out HCD.out (by omega) (by omega) HF.out).mono ?_
          rintro e xc ⟨ac,cc,Vc,rfl,hrc,hy⟩
          have HP:Hid (RefuteP A L w (.returned (.tuple #[.slice ac (if okB (widA A+1) A.length (elimX (widA A+1) (trnA A L) A.length) then A.length else 0) cc,.bool (okB (widA A+1) A.length (elimX (widA A+1) (trnA A L) A.length)),.int .i64 0])) xc):=Lib.hid ⟨ac,cc,Vc,by unfold refN;rw [HSO.out,HVZ.out],by unfold refN;rw [HSO.out];exact hrc,HX2.out.trans hy⟩
          clear hrc hy
          generalize okB (widA A+1) A.length (elimX (widA A+1) (trnA A L) A.length)=ok at *
          cases ok
          ·rw [if_neg (by decide)] at HP ⊢
           go_wp2_with fail
           go_ret3
           exact HP.out
          ·rw [if_pos rfl] at HP ⊢
           go_wp2_with fail
           go_ret3
           exact HP.out
         exact AllReadyH.nil
        exact AllReadyH.nil
       exact AllReadyH.nil
      exact AllReadyH.nil
     exact AllReadyH.nil
    refine AllReadyH.cons (o:=_) rfl (fun K hK=>?_) ?_
    ·go_simp
     have hs:=HE.out.size;have hy:=Ext.alloc y0 (.cells #[.bool n1,.slice a1 q1' c1,.bool false,.slice b1' k1' d1] 44);replace HE:=Lib.hid (Ext.trans HE.out hy);have K5:=Lib.hid (Blk.new0 y0 #[.bool n1,.slice a1 q1' c1,.bool false,.slice b1' k1' d1] 44);clear hy;generalize World.alloc y0 (.cells #[.bool n1,.slice a1 q1' c1,.bool false,.slice b1' k1' d1] 44)=z5 at *;generalize Array.size (World.heap y0)=b5 at hs K5 ⊢;clear hs
     refine hK.out _ _ ?_ (fun hHeld2=>?_)
     ·first | exact s0c.out _ (HE3.out.trans HE.out) | exact s0c.out _ HEb.out
     clear hK K hHeld
     have hHeld:=hHeld2
     clear hHeld2
     (try simp only [Act.put,pus])
     refine wpAnyH_ready (rs:=[1]) (by kernel_rfl) (by simp) ?_
     refine AllReadyH.cons (o:=_) rfl (fun K hK=>?_) ?_
     ·go_simp
      have hs:=HE.out.size;have hy:=Ext.alloc z5 (.cells #[] 44);replace HE:=Lib.hid (Ext.trans HE.out hy);have K1:=Lib.hid (Blk.new0 z5 #[] 44);have HNE:=Lib.hid (Nat.ne_of_gt K5.out.lt);replace K5:=Lib.hid (K5.out.ext hy);clear hy;generalize World.alloc z5 (.cells #[] 44)=zz at *;generalize Array.size (World.heap z5)=b1 at hs K1 HNE ⊢;have HB1:=Lib.hid hs;clear hs
      refine hK.out _ _ ?_ (fun hHeld2=>?_)
      ·first | exact s0c.out _ (HE3.out.trans HE.out) | exact s0c.out _ HEb.out
      clear hK K hHeld
      have hHeld:=hHeld2
      clear hHeld2
      (try simp only [Act.put,pus])
      refine wpAnyH_ready (rs:=[3]) (by kernel_rfl) (by simp) ?_
      refine AllReadyH.cons (o:=_) rfl (fun K hK=>?_) ?_
      ·refine step_append_row rfl (.tmp 54) (.tmp 55) 23 44 rfl (z:=.agg #[.bool false,.slice none 0 0,.bool false,.slice none 0 0]) (k:=4) (by_:=64) Tryz.underlying23 infoRatU rfl (by decide) (B:=y0.heap.size) HE.out.size rfl (ownEmpty K1.out HB1.out) rfl HR0.out.nil0 (newsU_len A.length (vecV L)) (fun A' hA=>by cases hA;exact(HR0.out.ext (HE3.out.trans HE.out)).news) (newsU_one A.length (vecV L)) (by omega) (by omega) ?_;intro v7 x8 ho hg hnl hat;obtain⟨gq,cq,rfl,hgq,hcq,hcm⟩:=own_row_form ho hnl;rw [Nat.zero_add] at ho;have HO:=Lib.hid ho;replace K5:=Lib.hid (blkGrown K5.out hg (fun e=>by injection e with e;exact HNE.out e));replace HE:=Lib.hid (Below.grown HE.out hg HE.out.size (fun r e=>by cases e;exact HB1.out));clear ho hg hnl hat hgq hcq hcm K1 HB1
       refine hK.out _ _ ?_ (fun hHeld2=>?_)
       ·first | exact s0c.out _ (HE3.out.trans HE.out) | exact s0c.out _ HEb.out
       clear hK K hHeld
       have hHeld:=hHeld2
       clear hHeld2
       (try simp only [Act.put,pus])
       refine wpAnyH_ready (rs:=[6]) (by kernel_rfl) (by simp) ?_
       refine AllReadyH.cons (o:=_) rfl (fun K hK=>?_) ?_
       ·refine step_append_row rfl (.tmp 56) (.tmp 58) 23 44 rfl (z:=.agg #[.bool false,.slice none 0 0,.bool false,.slice none 0 0]) (k:=4) (by_:=64) Tryz.underlying23 infoRatU rfl (by decide) (B:=y0.heap.size) HE.out.size rfl HO.out rfl (fun e=>by cases e) (news:=[.bool n1,.slice a1 q1' c1,.bool false,.slice b1' k1' d1]) rfl (fun A' hA j u hu=>by cases hA;exact four_news K5.out j u hu) (four_one _ _ _ _ _ _ _ _) (by omega) (by omega) ?_;intro v9 x9 ho hg hnl hat;obtain⟨g9,c9,rfl,hgq,hcq,hcm⟩:=grow_form ho;rw [List.nil_append] at ho;have HR9:=Lib.hid (rowB_more (x:=⟨n1,a1,q1',c1,false,b1',k1',d1⟩) ho);replace HE:=Lib.hid (Below.grown HE.out hg HE.out.size (fun r e=>(World.ownsRow.lt HO.out r e).1));have HCQ:=Lib.hid (And.intro hcq hcm);clear ho hg hnl hat hgq hcq hcm K5 HO
        refine hK.out _ _ ?_ (fun hHeld2=>?_)
        ·first | exact s0c.out _ (HE3.out.trans HE.out) | exact s0c.out _ HEb.out
        clear hK K hHeld
        have hHeld:=hHeld2
        clear hHeld2
        (try simp only [Act.put,pus])
        refine wpAnyH_ready (rs:=[7]) (by kernel_rfl) (by simp) ?_
        refine AllReadyH.cons (o:=_) rfl (fun K hK=>?_) ?_
        ·go_simp
         have hs:=HE.out.size;have hy:=Ext.alloc x9 (.cells #[.slice (some ⟨g9,0,none⟩) (A.length+1) c9] 23);replace HE:=Lib.hid (Ext.trans HE.out hy);have K7:=Lib.hid (Blk.new0 x9 #[.slice (some ⟨g9,0,none⟩) (A.length+1) c9] 23);replace HR9:=Lib.hid (HR9.out.ext hy);clear hy;generalize World.alloc x9 (.cells #[.slice (some ⟨g9,0,none⟩) (A.length+1) c9] 23)=xa at *;generalize Array.size (World.heap x9)=b7 at hs K7 ⊢;clear hs
         refine hK.out _ _ ?_ (fun hHeld2=>?_)
         ·first | exact s0c.out _ (HE3.out.trans HE.out) | exact s0c.out _ HEb.out
         clear hK K hHeld
         have hHeld:=hHeld2
         clear hHeld2
         (try simp only [Act.put,pus])
         refine wpAnyH_ready (rs:=[8]) (by kernel_rfl) (by simp) ?_
         refine AllReadyH.cons (o:=_) rfl (fun K hK=>?_) ?_
         ·refine step_append_row rfl (.tmp 53) (.tmp 60) 22 23 rfl (z:=.slice none 0 0) (k:=1) (by_:=24) Tryz.underlying22 infoRowU rfl (by decide) (B:=x3.heap.size) (HE3.out.trans HE.out).size rfl (HRO.out.ext HE.out).own rfl (fun e=>by cases e) (news:=[.slice (some ⟨g9,0,none⟩) (A.length+1) c9]) rfl (fun A' hA j u hu=>by cases hA;exact one_news K7.out hu) (fun u hu=>by rw [List.mem_singleton.1 hu];rfl) (by omega) (by omega) ?_;intro vb xb ho hg hnl hat;obtain⟨ab,cb,rfl⟩:=row_form ho;have hy:Ext x3 xb:=Below.grown (HE3.out.trans HE.out) hg (HE3.out.trans HE.out).size (fun r e=>(World.ownsRow.lt (HRO.out.ext HE.out).own r e).1);have HRb:=Lib.hid ((HRO.out.ext HE.out).push ho hg hat HR9.out (fun c' hc'=>(HAV.out c' hc').ext (HE3.out.trans HE.out)) (fun c' hc'=>old_off (HAV.out c' hc') (fun g' e=>(World.ownsRow.lt HRO.out.own g' e).1)) HCQ.out);have HEb:=Lib.hid hy;clear ho hg hnl hat hy HR9 K7
          refine hK.out _ _ ?_ (fun hHeld2=>?_)
          ·first | exact s0c.out _ (HE3.out.trans HE.out) | exact s0c.out _ HEb.out
          clear hK K hHeld
          have hHeld:=hHeld2
          clear hHeld2
          (try simp only [Act.put,pus])
          refine tk (v:=?_) 9 rfl (by kernel_rfl) (fun _ _ _ h=>h) (by rfl) ?_ (by assumption) ?_
          rotate_left
          ·(intro w hSw;(try dsimp only at hSw);(try go_simp);(try with_reducible rfl))
          (try simp only [Act.put,pus])
          refine wpAnyH_done (by kernel_rfl) ?_ _
          clear hHeld
          obtain⟨ra,rc,e9,hmat⟩:=HRb.out.mat
          simp only [Value.slice.injEq,true_and] at e9
          obtain⟨rfl,rfl⟩:=e9
          have HM:=Lib.hid (hmat.congr (M':=trnA A L) (fun r hr c hc=>if e:r=widA A then(by rw [if_pos e,e]) else(by rw [if_neg e];exact HMQ.out r (by omega) c hc)))
          have hrle:=hmat.le
          have hrmx:=hmat.mx
          have HX2:=Lib.hid (HX.out.trans HEb.out)
          clear hmat HRb HRO HMQ HE HCQ
          go_wp2_with fail
          refine(matrix_solve ab cb (widA A+1) A.length _ (trnA A L) (30* ((widA A+1)* (A.length+1))+61) xb HM.out HCD.out (by omega) (by omega) HF.out).mono ?_
          rintro e xc ⟨ac,cc,Vc,rfl,hrc,hy⟩
          have HP:Hid (RefuteP A L w (.returned (.tuple #[.slice ac (if okB (widA A+1) A.length (elimX (widA A+1) (trnA A L) A.length) then A.length else 0) cc,.bool (okB (widA A+1) A.length (elimX (widA A+1) (trnA A L) A.length)),.int .i64 0])) xc):=Lib.hid ⟨ac,cc,Vc,by unfold refN;rw [HSO.out,HVZ.out],by unfold refN;rw [HSO.out];exact hrc,HX2.out.trans hy⟩
          clear hrc hy
          generalize okB (widA A+1) A.length (elimX (widA A+1) (trnA A L) A.length)=ok at *
          cases ok
          ·rw [if_neg (by decide)] at HP ⊢
           go_wp2_with fail
           go_ret3
           exact HP.out
          ·rw [if_pos rfl] at HP ⊢
           go_wp2_with fail
           go_ret3
           exact HP.out
         exact AllReadyH.nil
        exact AllReadyH.nil
       exact AllReadyH.nil
      exact AllReadyH.nil
     exact AllReadyH.nil
    exact AllReadyH.nil
 ·have g1:(vecE A L A.length != 0)=true:=by simp [hz]
  have HSO:Hid (refOk A L=false):=Lib.hid (by unfold refOk;rw [decide_eq_false hz];rfl)
  go_enter Tryz.func18,Tryz.ntmps18
  go_wp2_with fail
  refine HV.out.mono ?_
  rintro e x1 ⟨rfl,hy⟩
  have HP:Hid (RefuteP A L w (.returned (.tuple #[.slice none 0 0,.bool false,.int .i64 (vecE A L A.length)])) x1):=Lib.hid ⟨none,0,fun _=>⟨false,none,0,0,false,none,0,0⟩,by unfold refN;rw [HSO.out];rfl,by unfold refN;rw [HSO.out];exact RowR.nil' _ _ _,hy⟩
  clear hy hz hf
  go_wp2_with fail
  go_ret3
  exact HP.out
end Go.Proofs.YtokffagbdfhnnaaGreat
