import Derived.Test.YtokffagbdfhnnaaGreatUX4
import Derived.Test.YtokffagbdfhnnaaGreatUB
import Derived.Test.YtokffagbdfhnnaaGreatUH
import Derived.OwnWalk
import Derived.Below
import Derived.Deep.QuietTactic
import Derived.Deep.Cut
namespace Go.Proofs.YtokffagbdfhnnaaGreat
open Go.RowKit Go BigFrame Go.Shelf
set_option maxRecDepth 100000
set_option linter.unusedSimpArgs false
set_option linter.unusedVariables false
attribute [local go_sem] Oper.semAt_some
set_option maxHeartbeats 8000000 in
theorem ref_Solve (a:Option Addr) (cap:Nat) (A:List (List RatA)) (s:Option Addr) (sc:Nat) (L:List RatA) (w:World) (h:RRows w a cap A) (k:RatsI w s sc L) (hL:L.length≤1000) (hf:vecE A L A.length=0→FewS A):
 Calls Tryz.prog 12 #[.slice a A.length cap,.slice s L.length sc] w (SolveP A L w):=by
 have hle:=h.le
 have hmx:=h.mx
 have sle:=k.le
 have smx:=k.mx
 have HH:=Lib.hid h
 have HK:=Lib.hid k
 clear h k
 have HV:=Lib.hid (ref_vector a cap A s sc L A.length w HH.out HK.out hL)
 by_cases hz:vecE A L A.length=0
 ·have hfew:=hf hz
  obtain⟨z1,z2,z3⟩:=vecE_0 hz
  have hc:=chkE_0 z1
  have HCD:Hid (CdX A.length (widA A+1) (30* (A.length* (widA A+1))+61) (augF (widA A) (mxA A) (vecF L))):=Lib.hid (aug_cd hz)
  have HR:=Lib.hid (fun W (k:Ext w W)=>chk_read z1 (RRows.ext k HH.out))
  have HX0:=Lib.hid (fun W (k:Ext w W)=>els_read z3 (HK.out.ext k))
  have h17:A.length≤17:=hc.1
  have hw17:widA A≤17:=by
   by_cases h0:A.length=0
   ·rw [List.eq_nil_of_length_eq_zero h0];decide
   ·have:=hc.2.1 _ (mem_of_lt (show 0<A.length by omega));exact this
  have HF:Hid (2 ^ widA A* (30* (A.length* (widA A+1))+61+1)≤40920):=Lib.hid hfew
  have hLL:L.length=A.length:=by omega
  have HLL:=Lib.hid hLL
  have HSO:Hid (solOk A L=okB A.length (widA A) (elimX A.length (augF (widA A) (mxA A) (vecF L)) (widA A))):=Lib.hid (by unfold solOk;rw [decide_eq_true hz];rfl)
  have HVZ:=Lib.hid hz
  rw [hz] at HV
  rw [hLL] at HV HX0 sle
  rw [hLL]
  clear hc hfew hf hz z1 z2 z3 hLL
  go_enter Tryz.func12,Tryz.ntmps12
  go_wp2_with fail
  refine HV.out.mono ?_
  rintro e x1 ⟨rfl,hy⟩
  have HX:=Lib.hid hy
  clear hy HV
  go_wp2_with fail
  refine(ref_Columns a cap A.length (widA A) x1 (HR.out x1 HX.out).wid).mono ?_
  rintro e x2 ⟨rfl,rfl⟩
  rw [wid_if]
  go_wp2_with fail
  refine(ref_solve a cap A.length (widA A) (vxA A) (mxA A) s sc (vecV L) (vecF L) (30* (A.length* (widA A+1))+61) _ (HR.out _ HX.out) (HX0.out _ HX.out) HCD.out (by omega) (by omega) HF.out).mono ?_
  rintro e x3 ⟨a3,c3,V3,rfl,hr3,hy⟩
  have HP:Hid (SolveP A L w (.returned (.tuple #[.slice a3 (if okB A.length (widA A) (elimX A.length (augF (widA A) (mxA A) (vecF L)) (widA A)) then widA A else 0) c3,.bool (okB A.length (widA A) (elimX A.length (augF (widA A) (mxA A) (vecF L)) (widA A))),.int .i64 0])) x3):=Lib.hid ⟨a3,c3,V3,by unfold solN;rw [HSO.out,HVZ.out],by unfold solN;rw [HSO.out];exact hr3,HX.out.trans hy⟩
  clear hr3 hy HSO HCD
  generalize okB A.length (widA A) (elimX A.length (augF (widA A) (mxA A) (vecF L)) (widA A))=ok at *
  cases ok
  ·rw [if_neg (by decide)] at HP ⊢
   go_wp2_with fail
   go_ret3
   exact HP.out
  ·rw [if_pos rfl] at HP ⊢
   go_wp2_with fail
   go_ret3
   exact HP.out
 ·have g1:(vecE A L A.length != 0)=true:=by simp [hz]
  have HSO:Hid (solOk A L=false):=Lib.hid (by unfold solOk;rw [decide_eq_false hz];rfl)
  go_enter Tryz.func12,Tryz.ntmps12
  go_wp2_with fail
  refine HV.out.mono ?_
  rintro e x1 ⟨rfl,hy⟩
  have HP:Hid (SolveP A L w (.returned (.tuple #[.slice none 0 0,.bool false,.int .i64 (vecE A L A.length)])) x1):=Lib.hid ⟨none,0,fun _=>noC,by unfold solN;rw [HSO.out];rfl,by unfold solN;rw [HSO.out];exact RowR.nil' _ _ _,hy⟩
  clear hy hz hf
  go_wp2_with fail
  go_ret3
  exact HP.out
set_option maxHeartbeats 8000000 in
theorem ref_Apply (a:Option Addr) (cap:Nat) (A:List (List RatA)) (s:Option Addr) (sc:Nat) (L:List RatA) (w:World) (h:RRows w a cap A) (k:RatsI w s sc L) (hL:L.length≤1000):
 Calls Tryz.prog 17 #[.slice a A.length cap,.slice s L.length sc] w (ApplyP A L w):=by
 have hle:=h.le
 have hmx:=h.mx
 have sle:=k.le
 have smx:=k.mx
 have HH:=Lib.hid h
 have HK:=Lib.hid k
 clear h k
 have HV:=Lib.hid (ref_vector a cap A s sc L (widA A) w HH.out HK.out hL)
 have HWD:Hid (0<A.length→∃b o a' c',a=some ⟨b,o,none⟩∧w.cell? ⟨b,o,none⟩=some (.slice a' (widA A) c')):=Lib.hid fun h0=>by
  obtain⟨b,o,rfl⟩:=HH.out.head h0
  obtain⟨L0,ar,cr,e1,e2,_⟩:=HH.out.get h0
  refine⟨b,o,ar,cr,rfl,?_⟩
  have:widA A=L0.length:=by unfold widA;rw [List.getD_eq_getElem?_getD,e1];rfl
  rw [this]
  simpa using e2
 by_cases hz:vecE A L (widA A)=0
 ·obtain⟨z1,z2,z3⟩:=vecE_0 hz
  have hc:=chkE_0 z1
  have HR:=Lib.hid (fun W (k:Ext w W)=>chk_read z1 (RRows.ext k HH.out))
  have HX0:=Lib.hid (fun W (k:Ext w W)=>els_read z3 (HK.out.ext k))
  have h17:A.length≤17:=hc.1
  have hLw:L.length=widA A:=by omega
  have hw17:widA A≤1000:=by omega
  have HNN:Hid (appN A L=A.length):=Lib.hid (if_pos hz)
  have HZZ:=Lib.hid hz
  have HSZ:Hid (∀r,r<A.length→∀c,c<widA A→Sz (mxA A r c) 2∧Sz (vecF L c) 2):=Lib.hid fun r hr c hc=>⟨err_sz (chk_mat z1 hr hc).2,err_sz (els_mem z3 (by omega))⟩
  have hw18:widA A≤17∨A.length=0:=by
   by_cases h0:A.length=0
   ·exact .inr h0
   ·exact .inl (hc.2.1 _ (mem_of_lt (show 0<A.length by omega)))
  have HLW:=Lib.hid hLw
  rw [hz] at HV
  clear hc hz z1 z2 z3 hLw
  go_enter Tryz.func17,Tryz.ntmps17
  go_wp2_with fail
  refine(ref_Columns a cap A.length (widA A) w HWD.out).mono ?_
  rintro e x0 ⟨rfl,rfl⟩
  rw [wid_if]
  go_wp2_with fail
  refine HV.out.mono ?_
  rintro e x1 ⟨rfl,hy⟩
  have HX:=Lib.hid hy
  clear hy HV HWD
  go_wp2_with fail
  go_loopw [7,8] (fun s4 v wr=>∃q:Nat,q≤A.length∧v=.int .i64 q∧∃K,OwnRats wr x1.heap.size s4 K ((List.range q).map (appF A L))∧Ext x1 wr) (fun _ v _=>A.length - (intOf v).toNat)
  case atStart=>exact⟨0,Nat.zero_le _,rfl,[],OwnRats.nil _ _,Ext.refl _⟩
  case round=>
   obtain⟨q,hq,rfl,K,hO,hxr⟩:=hrel
   have q0:(0:Int)≤(q:Int):=by omega
   obtain⟨va,vc,rfl,hvl,hvc⟩:=hO.form
   have hKl:K.length=q:=by have:=hO.len;rwa [List.length_map,List.length_range] at this
   have HO:=Lib.hid hO
   have HXR:=Lib.hid hxr
   have HKL:=Lib.hid hKl
   clear hO hxr hKl
   by_cases hqm:q<A.length
   ·have q1:(q:Int)< (A.length:Int):=by omega
    have hw1:IntKind.i64.wrap ((q:Int)+1)= (q:Int)+1:=IntWalk.i64_in _ (by omega)
    have hXX:=HX.out.trans HXR.out
    obtain⟨b,o,rfl⟩:=(HR.out w (Ext.refl _)).head hqm
    obtain⟨_,ar,cr,h1,hrw⟩:=(HR.out wr hXX).cells _ rfl q hqm
    dsimp only at h1
    have HRW:=Lib.hid hrw
    have HRX:=Lib.hid (HX0.out wr hXX)
    clear hrw hXX
    have hsum:=ref_Sum ar cr (widA A) (vxA A q) (mxA A q) s sc (vecV L) (vecF L) 2 2 wr HRW.out (by rw [←HLW.out];exact HRX.out) (fun c hc=>HSZ.out q hqm c hc) (by omega)
    have HFO:Hid (Calls Tryz.prog 42 #[.slice ar (widA A) cr,.slice s L.length sc] wr (RatU (dotX (widA A) (mxA A q) (vecF L)) wr)):=Lib.hid (by rw [HLW.out];exact hsum)
    have HXR2:=HXR
    have HO2:=HO
    have hlt:=HO.out.lt
    have HLT:=Lib.hid hlt
    clear hsum HRX HRW hlt HXR HO
    go_wp2_with fail
    refine HFO.out.mono ?_
    rintro e9 y2 ⟨v9,rfl,⟨nd,ad,qd,cd,bd,kd,dd,rfl,hv',hf',hg'⟩,hy⟩
    have hoff:RatC.Off ⟨nd,ad,qd,cd,false,bd,kd,dd⟩ (Value.slice va K.length vc).ownBlock:=⟨fun _ A' hA e=>by have:=hf' A' hA;have:=(HLT.out _ e).2;omega,fun _ A' hA e=>by have:=hg' A' hA;have:=(HLT.out _ e).2;omega⟩
    have hya:=Ext.alloc y2 (.cells #[.bool nd,.slice ad qd cd,.bool false,.slice bd kd dd] 44)
    have HBz:=Lib.hid (Blk.new0 y2 #[.bool nd,.slice ad qd cd,.bool false,.slice bd kd dd] 44)
    have HXa:=Lib.hid ((HXR2.out.trans hy).trans hya)
    have HOa:=Lib.hid ((HO2.out.ext hy).ext hya)
    have HVa:Hid (RatV (y2.alloc (.cells #[.bool nd,.slice ad qd cd,.bool false,.slice bd kd dd] 44)) (.agg #[.bool nd,.slice ad qd cd,.bool false,.slice bd kd dd]) (appF A L q)):=Lib.hid (RatV.ext hv' hya)
    have HOFF:=Lib.hid hoff
    clear hoff hya hy hv' hf' hg' HFO HXR2 HO2
    go_wp2_with (at_builtin;refine wpl_append_rat rfl (.tmp 23) (.tmp 30) rfl HXa.out rfl HOa.out rfl (x:=⟨nd,ad,qd,cd,false,bd,kd,dd⟩) (r:=appF A L q) HBz.out HVa.out HOFF.out (by have:=HKL.out;omega) ?_;intro v' w3 hO' hE' hg' hat')
    obtain⟨ua,uc,rfl,hul,huc⟩:=hO'.form
    go_roundw
    case rel=>exact⟨q+1,by omega,by go_num,_,(by rw [List.range_succ,List.map_append];exact hO'),hE'⟩
    case measure=>simp [intOf];omega
   ·have q1:¬ (q:Int)< (A.length:Int):=by omega
    have hqe:q=A.length:=by omega
    have HP:Hid (ApplyP A L w (.returned (.tuple #[.slice va K.length vc,.int .i64 0])) wr):=Lib.hid (by
     obtain⟨a9,c9,V9,e9,hr9⟩:=HO.out.reads (f:=appF A L) (N:=A.length) (by have:=HKL.out;omega) (fun c hc=>by
      rw [List.getD_eq_getElem?_getD,List.getElem?_map,List.getElem?_range (by omega)];rfl)
     rw [e9]
     exact⟨a9,c9,V9,by rw [HNN.out,HZZ.out],by rw [HNN.out];exact hr9,HX.out.trans HXR.out⟩)
    clear hqe
    go_wp2_with fail
    go_ret2
    exact HP.out
 ·have g1:(vecE A L (widA A) != 0)=true:=by simp [hz]
  have HP0:Hid (∀W,Ext w W→ApplyP A L w (.returned (.tuple #[.slice none 0 0,.int .i64 (vecE A L (widA A))])) W):=Lib.hid fun W hW=>⟨none,0,fun _=>⟨false,none,0,0,false,none,0,0⟩,by unfold appN;rw [if_neg hz],by unfold appN;rw [if_neg hz];exact RowR.nil' _ _ _,hW⟩
  go_enter Tryz.func17,Tryz.ntmps17
  go_wp2_with fail
  refine(ref_Columns a cap A.length (widA A) w HWD.out).mono ?_
  rintro e x0 ⟨rfl,rfl⟩
  rw [wid_if]
  go_wp2_with fail
  refine HV.out.mono ?_
  rintro e x1 ⟨rfl,hy⟩
  have HP:=Lib.hid (HP0.out x1 hy)
  clear hy hz HP0
  go_wp2_with fail
  go_ret2
  exact HP.out
def ColQ (m:Nat) (V:Nat→RatC) (f:Nat→Rat) (w:World) (e:Ending) (w':World):Prop:=∃ (v:Value) (K:List RatC),e=.returned v∧OwnRats w' w.heap.size v K ((List.range m).map f)∧(∀x∈K,∃c,c<m∧x=V c)∧Ext w w'
set_option maxHeartbeats 4000000 in
theorem ref_ColumnQ (a:Option Addr) (cap m N:Nat) (V:Nat→Nat→RatC) (M:Mx) (k:Nat) (w:World) (h:MatR w a cap m N V M) (hk:k<N) (hm:m≤1000) (hN:N≤1000):
 Calls Tryz.prog 44 #[.slice a m cap,.int .i64 k] w (ColQ m (fun r=>V r k) (fun r=>M r k) w):=by
 have hle:=h.le
 have hmx:=h.mx
 have HR:=Lib.hid h
 have k0:(0:Int)≤(k:Int):=by omega
 have k1:(k:Int)< (N:Int):=by omega
 clear h
 go_enter Tryz.func44,Tryz.ntmps44
 go_wp2_with fail
 go_loopw [5,6] (fun s5 v wr=>∃i:Nat,i≤m∧v=.int .i64 i∧∃K,OwnRats wr w.heap.size s5 K ((List.range i).map fun c=>M c k)∧(∀x∈K,∃c,c<i∧x=V c k)∧Ext w wr) (fun _ v _=>m - (intOf v).toNat)
 case atStart=>exact⟨0,Nat.zero_le _,rfl,[],OwnRats.nil _ _,fun x hx=>(by cases hx),Ext.refl _⟩
 case round=>
  obtain⟨i,hi,rfl,K,hO,hKV,hxr⟩:=hrel
  have i0:(0:Int)≤(i:Int):=by omega
  obtain⟨va,vc,rfl,hvl,hvc⟩:=hO.form
  have hKl:K.length=i:=by have:=hO.len;rwa [List.length_map,List.length_range] at this
  have HO:=Lib.hid hO
  have HXR:=Lib.hid hxr
  have HKL:=Lib.hid hKl
  have HKV:=Lib.hid hKV
  clear hO hxr hKl hKV
  by_cases him:i<m
  ·have i1:(i:Int)< (m:Int):=by omega
   have hw2:IntKind.i64.wrap ((i:Int)+1)= (i:Int)+1:=IntWalk.i64_in _ (by omega)
   obtain⟨b,o,rfl⟩:=HR.out.head him
   obtain⟨_,ar,cr,h1,hrw⟩:=(HR.out.ext HXR.out).cells _ rfl i him
   dsimp only at h1
   obtain⟨br,or_,rfl⟩:=hrw.head hk
   obtain⟨_,c0,c1',c2,c3⟩:=hrw.cells _ rfl k hk
   have hv0:=HR.out.val him hk
   have hv:=hrw.val k hk
   have hrle:=hrw.le
   have hrmx:=hrw.mx
   obtain⟨x,hxx⟩:∃x,V i k=x:=⟨_,rfl⟩
   rw [hxx] at c0 c1' c2 c3 hv hv0
   obtain⟨nx,ax,qx,cx,mx,bx,kx,dx⟩:=x
   have HXX:=Lib.hid hxx
   dsimp only [RatC.val] at c0 c1' c2 c3 hv hv0
   have hlt:=HO.out.lt
   have hoff:RatC.Off ⟨nx,ax,qx,cx,mx,bx,kx,dx⟩ (Value.slice va K.length vc).ownBlock:=old_off (x:=⟨nx,ax,qx,cx,mx,bx,kx,dx⟩) hv0 (fun g' e=>(hlt _ e).1)
   have hya:=Ext.alloc wr (.cells #[.bool nx,.slice ax qx cx,.bool mx,.slice bx kx dx] 44)
   have HBz:=Lib.hid (Blk.new0 wr #[.bool nx,.slice ax qx cx,.bool mx,.slice bx kx dx] 44)
   have HXa:=Lib.hid (HXR.out.trans hya)
   have HOa:=Lib.hid (HO.out.ext hya)
   have HVa:=Lib.hid (RatV.ext hv hya)
   have HOFF:=Lib.hid hoff
   clear hoff hya hv hv0 hlt hrw hxx HO HXR
   go_wp2_with (at_builtin;refine wpl_append_rat rfl (.tmp 13) (.tmp 21) rfl HXa.out rfl HOa.out rfl (x:=⟨nx,ax,qx,cx,mx,bx,kx,dx⟩) (r:=M i k) HBz.out HVa.out HOFF.out (by have:=HKL.out;omega) ?_;intro v' w3 hO' hE' hg' hat')
   obtain⟨ua,uc,rfl,hul,huc⟩:=hO'.form
   go_roundw
   case rel=>exact⟨i+1,by omega,by go_num,_,(by rw [List.range_succ,List.map_append];exact hO'),fun y hy=>(List.mem_append.1 hy).elim (fun h=>by obtain⟨c,hc,e⟩:=HKV.out y h;exact⟨c,by omega,e⟩) (fun h=>⟨i,by omega,by rw [HXX.out];exact List.mem_singleton.1 h⟩),hE'⟩
   case measure=>simp [intOf];omega
  ·have i1:¬ (i:Int)< (m:Int):=by omega
   have hie:i=m:=by omega
   subst hie
   have HP:Hid (ColQ i (fun r=>V r k) (fun r=>M r k) w (.returned (.slice va K.length vc)) wr):=Lib.hid ⟨_,K,rfl,HO.out,HKV.out,HXR.out⟩
   clear HO HXR HKL HR
   go_wp2_with fail
   go_ret
   exact HP.out
theorem own_rowG2 {w:World} {B:Nat} {P:Nat→Prop} {N:Nat} {v:Value} {K:List RatC} {rs:List Rat} {f:Nat→Rat} (h:OwnRats w B v K rs) (hN:K.length=N) (hf:∀c,c<N→rs.getD c 0=f c) (ho:∀x∈K,∀o,P o→x.Off (some o)) (hP:∀o,P o→o<B):
 ∃V,RowG w P N v V f:=by
 subst hN
 by_cases h0:0<K.length
 ·obtain⟨gr,cap,rfl,hb,h1,h2,h3⟩:=h.fill h0
  refine⟨_,_,cap,rfl,h3.read ⟨h1,h2⟩ hf,fun _ A hA hp=>by cases hA;have:=hP _ hp;dsimp only at this;omega,fun c hc o hp=>?_⟩
  rw [List.getD_eq_getElem?_getD,List.getElem?_eq_getElem hc]
  exact ho _ (List.getElem_mem hc) o hp
 ·obtain⟨a,cap,V,e,h1⟩:=h.reads rfl hf
  exact⟨V,a,cap,e,h1,fun h=>absurd h h0,fun c hc=>by omega⟩
theorem ownNe {w:World} {B1 B2:Nat} {t1 t2:TypeId} {k1 k2 n1 n2:Nat} {v1 v2:Value} {xs1 xs2:List Value} (h1:w.ownsRow B1 t1 k1 v1 n1 xs1) (h2:w.ownsRow B2 t2 k2 v2 n2 xs2) (ht:t1≠t2):v1.ownBlock=none∨v1.ownBlock≠v2.ownBlock:=by
 rcases h2.2 with⟨rfl,_⟩ | ⟨g,cap,cur,rfl,hb,hg,_⟩
 ·by_cases e:v1.ownBlock=none
  ·exact .inl e
  ·exact .inr e
 ·exact .inr (rowNe h1 hg ht)
theorem OwnRats.kept {w w':World} {B:Nat} {v:Value} {L:List RatC} {rs:List Rat} {row:Option Nat} (h:OwnRats w B v L rs) (hg:w.grownBy w' row) (hne:v.ownBlock=none∨v.ownBlock≠row) (ho:∀x∈L,x.Off row):OwnRats w' B v L rs:=
 ⟨h.len,World.ownsRow.kept h.own hg hne,fun i hi=>(h.val i hi).grown hg (ho _ (List.getElem_mem hi)),h.apart⟩
def Pt (vt vw:Value) (o:Nat):Prop:=vt.ownBlock=some o∨vw.ownBlock=some o
structure TurnS (w:World) (B q N:Nat) (vt:Value) (val:Nat→Value) (V:Nat→Nat→RatC) (M:Mx) (vw:Value) (K:List RatC) (rs:List Rat):Prop where
 own:w.ownsRow B 23 1 vt q ((List.range q).map val)
 row:∀r,r<q→RowG w (Pt vt vw) N (val r) (V r) (M r)
 want:OwnRats w B vw K rs
 off:∀x∈K,x.Off vt.ownBlock
section
variable {w w':World} {B q N:Nat} {vt vw:Value} {val:Nat→Value} {V:Nat→Nat→RatC} {M:Mx} {K:List RatC} {rs:List Rat}
theorem TurnS.nil (w:World) (B N:Nat) (val:Nat→Value) (V:Nat→Nat→RatC) (M:Mx):TurnS w B 0 N (.slice none 0 0) val V M (.slice none 0 0) [] []:=⟨World.ownsRow_nil _ _ _ _,fun r hr=>by omega,OwnRats.nil _ _,fun x hx=>by cases hx⟩
theorem TurnS.ext (h:TurnS w B q N vt val V M vw K rs) (k:Ext w w'):TurnS w' B q N vt val V M vw K rs:=⟨ownsRow_ext h.own k,fun r hr=>(h.row r hr).ext k,h.want.ext k,h.off⟩
theorem TurnS.lt (h:TurnS w B q N vt val V M vw K rs):∀o,Pt vt vw o→B≤o∧o<w.heap.size:=fun o ho=>by
 rcases ho with ho | ho
 ·exact World.ownsRow.lt h.own o ho
 ·exact h.want.lt o ho
theorem turnKey {P P':Nat→Prop} {o1:Option Nat} {u:Value} {U:Nat→RatC} {f:Nat→Rat} (hx:RowG w P N u U f) (hg:w.grownBy w' o1) (h1:∀o,o1=some o→P o) (h2:∀o,P' o→P o∨o=w.heap.size):RowG w' P' N u U f:=by
 have k1:=hx.fresh (P':=fun o=>P o∨P' o) (fun o hp=>hp.elim .inl (h2 o))
 have k2:RowG w' (fun o=>P o∨P' o) N u U f:=by
  cases o1 with
  | none=>exact k1.none hg
  | some o=>exact k1.grown (o:=o) (.inl (h1 o rfl)) hg
 exact k2.fresh (P':=P') fun o hp=>.inl (.inr hp)
theorem TurnS.pushT (h:TurnS w B q N vt val V M vw K rs) {vt' u:Value} {Vq:Nat→RatC} {f:Nat→Rat} (ho:w'.ownsRow B 23 1 vt' (q+1) (((List.range q).map val) ++ [u])) (hg:w.grownBy w' vt.ownBlock) (hat:vt'.ownBlock=vt.ownBlock∨vt'.ownBlock=some w.heap.size) (hu:RowG w (Pt vt vw) N u Vq f):
 TurnS w' B (q+1) N vt' (fun r=>if r=q then u else val r) (fun r=>if r=q then Vq else V r) (fun r=>if r=q then f else M r) vw K rs:=by
 have hP:∀o,Pt vt' vw o→Pt vt vw o∨o=w.heap.size:=fun o hp=>by
  rcases hp with hp | hp
  ·rcases hat with e | e
   ·exact .inl (.inl (e ▸ hp))
   ·rw [e] at hp;exact .inr (Option.some.inj hp).symm
  ·exact .inl (.inr hp)
 refine⟨?_,fun r hr=>?_,h.want.kept hg (ownNe h.want.own h.own (by decide)) h.off,fun x hx=>?_⟩
 ·rw [List.range_succ,List.map_append,List.map_singleton,if_pos rfl]
  rw [List.map_congr_left (g:=val) fun r hr=>by
   have:=List.mem_range.1 hr
   rw [if_neg (by omega)]]
  exact ho
 ·by_cases e:r=q
  ·simp only [e,if_true];exact turnKey hu hg (fun o e=>.inl e) hP
  ·simp only [e,if_false];exact turnKey (h.row r (by omega)) hg (fun o e=>.inl e) hP
 ·rcases hat with e | e
  ·rw [e];exact h.off x hx
  ·rw [e]
   obtain⟨i,hi,rfl⟩:=List.getElem_of_mem hx
   exact(h.want.val i hi).offNew
theorem TurnS.pushW (h:TurnS w B q N vt val V M vw K rs) {vw':Value} {x:RatC} {r:Rat} (ho:OwnRats w' B vw' (K ++ [x]) (rs ++ [r])) (hg:w.grownBy w' vw.ownBlock) (hat:vw'.ownBlock=vw.ownBlock∨vw'.ownBlock=some w.heap.size) (hx:x.Off vt.ownBlock):
 TurnS w' B q N vt val V M vw' (K ++ [x]) (rs ++ [r]):=by
 have hP:∀o,Pt vt vw' o→Pt vt vw o∨o=w.heap.size:=fun o hp=>by
  rcases hp with hp | hp
  ·exact .inl (.inl hp)
  ·rcases hat with e | e
   ·exact .inl (.inr (e ▸ hp))
   ·rw [e] at hp;exact .inr (Option.some.inj hp).symm
 refine⟨World.ownsRow.kept h.own hg (ownNe h.own h.want.own (by decide)),fun r hr=>turnKey (h.row r hr) hg (fun o e=>.inr e) hP,ho,fun y hy=>?_⟩
 rcases List.mem_append.1 hy with hy | hy
 ·exact h.off y hy
 ·rw [List.mem_singleton.1 hy];exact hx
theorem TurnS.mat (h:TurnS w B q N vt val V M vw K rs):∃a cap,vt=.slice a q cap∧MatR w a cap q N V M:=by
 rcases h.own.2 with⟨rfl,h0⟩ | ⟨R,rc,cur,rfl,hb,hg,h1,h2,h3,h4⟩
 ·exact⟨none,0,by rw [h0],by omega,by omega,fun _=>rfl,fun A hA=>(by cases hA)⟩
 ·refine⟨_,rc,rfl,h1,by unfold maxLen at h2;exact h2,fun e=>(by cases e),fun A hA r hr=>?_⟩
  cases hA
  obtain⟨a,c,e,hrow,_,_⟩:=h.row r hr
  refine⟨rfl,a,c,?_,hrow⟩
  have e1:((List.range q).map val)[r]? =some (.slice a N c):=by rw [List.getElem?_map,List.getElem?_range hr,←e];rfl
  have:=World.ownsRow.cellAt h.own r (by omega)
  rw [e1] at this
  simpa using this
end
theorem aug_trn (A:List (List RatA)) (L:List RatA):augF A.length (fun r c=>if r<widA A then mxA A c r else vecF L c) (fun r=>if r<widA A then 0 else 1)=trnA A L:=by
 funext r c
 unfold augF trnA
 by_cases h1:r<widA A
 ·simp only [h1,if_true]
 ·simp only [h1,if_false]
set_option maxHeartbeats 16000000 in
theorem ref_Refute (a:Option Addr) (cap:Nat) (A:List (List RatA)) (s:Option Addr) (sc:Nat) (L:List RatA) (w:World) (h:RRows w a cap A) (k:RatsI w s sc L) (hL:L.length≤1000) (hf:vecE A L A.length=0→FewT A):
 Calls Tryz.prog 19 #[.slice a A.length cap,.slice s L.length sc] w (RefuteP A L w):=by
 have hle:=h.le
 have hmx:=h.mx
 have sle:=k.le
 have smx:=k.mx
 have HH:=Lib.hid h
 have HK:=Lib.hid k
 clear h k
 have HV:=Lib.hid (ref_vector a cap A s sc L A.length w HH.out HK.out hL)
 by_cases hz:vecE A L A.length=0
 ·have hfew:=hf hz
  obtain⟨z1,z2,z3⟩:=vecE_0 hz
  have hc:=chkE_0 z1
  have HCD:Hid (CdX (widA A+1) (A.length+1) (30* ((widA A+1)* (A.length+1))+61) (augF A.length (fun r c=>if r<widA A then mxA A c r else vecF L c) (fun r=>if r<widA A then 0 else 1))):=Lib.hid (by rw [aug_trn];exact trn_cd hz)
  have HR:=Lib.hid (fun W (k:Ext w W)=>chk_read z1 (RRows.ext k HH.out))
  have HX0:=Lib.hid (fun W (k:Ext w W)=>els_read z3 (HK.out.ext k))
  have h17:A.length≤17:=hc.1
  have hw17:widA A≤17:=by
   by_cases h0:A.length=0
   ·rw [List.eq_nil_of_length_eq_zero h0];decide
   ·have:=hc.2.1 _ (mem_of_lt (show 0<A.length by omega));exact this
  have HF:Hid (2 ^ A.length* (30* ((widA A+1)* (A.length+1))+61+1)≤40920):=Lib.hid hfew
  have hLL:L.length=A.length:=by omega
  have HSO:Hid (refOk A L=okB (widA A+1) A.length (elimX (widA A+1) (trnA A L) A.length)):=Lib.hid (by unfold refOk;rw [decide_eq_true hz];rfl)
  have HVZ:=Lib.hid hz
  rw [hz] at HV
  rw [hLL] at HV HX0 sle
  rw [hLL]
  clear hc hfew hf hz z1 z2 z3 hLL
  go_enter Tryz.func19,Tryz.ntmps19
  go_wp2_with fail
  refine HV.out.mono ?_
  rintro e x1 ⟨rfl,hy⟩
  have HX:=Lib.hid hy
  clear hy HV
  go_wp2_with fail
  go_loopw [8,9,10] (fun s8 s9 v wr=>∃q:Nat,q≤widA A∧v=.int .i64 q∧∃val V M K,TurnS wr x1.heap.size q A.length s8 val V M s9 K (List.replicate q 0)∧(∀r,r<q→∀c,c<A.length→M r c=mxA A c r)∧Ext x1 wr) (fun _ _ v _=>widA A - (intOf v).toNat)
  case atStart=>exact⟨0,Nat.zero_le _,rfl,fun _=>.bool false,fun _ _=>noC,fun _ _=>0,[],TurnS.nil _ _ _ _ _ _,fun r hr=>by omega,Ext.refl _⟩
  case round=>
   obtain⟨q,hq,rfl,val,V,M,K,ht,hmq,hxr⟩:=hrel
   have q0:(0:Int)≤(q:Int):=by omega
   obtain⟨at1,ct,rfl⟩:=row_form ht.own
   obtain⟨aw,cw,rfl,hwl,hwc⟩:=ht.want.form
   have hKl:K.length=q:=by have:=ht.want.len;rwa [List.length_replicate] at this
   have HT:=Lib.hid ht
   have HMQ:=Lib.hid hmq
   have HXR:=Lib.hid hxr
   have HKL:=Lib.hid hKl
   clear ht hmq hxr hKl
   go_wp2_with fail
   refine(ref_Columns a cap A.length (widA A) wr (HR.out wr (HX.out.trans HXR.out)).wid).mono ?_
   rintro e x2 ⟨rfl,rfl⟩
   rw [wid_if]
   by_cases hqm:q<widA A
   ·have q1:(q:Int)< (widA A:Int):=by omega
    have hw1:IntKind.i64.wrap ((q:Int)+1)= (q:Int)+1:=IntWalk.i64_in _ (by omega)
    go_wp2_with fail
    refine(ref_ColumnQ a cap A.length (widA A) (vxA A) (mxA A) q _ (HR.out _ (HX.out.trans HXR.out)) hqm (by omega) (by omega)).mono ?_
    rintro e x3 ⟨v3,K3,rfl,hO,hKV,hy⟩
    have hK3:K3.length=A.length:=by have:=hO.len;rwa [List.length_map,List.length_range] at this
    obtain⟨Vq,hu⟩:=own_rowG2 (P:=Pt (.slice at1 q ct) (.slice aw K.length cw)) (f:=fun c=>mxA A c q) hO hK3 (fun c hc=>by rw [List.getD_eq_getElem?_getD,List.getElem?_map,List.getElem?_range hc];rfl) (fun x hx o hp=>by
     obtain⟨c,hc,rfl⟩:=hKV x hx
     exact old_off ((HR.out _ HX.out).val hc hqm) (fun g' e=>by cases e;exact(HT.out.lt _ hp).1)) (fun o hp=>(HT.out.lt o hp).2)
    obtain⟨a3,c3,rfl,h31,h32⟩:=hO.form
    rw [hK3] at hu h31 ⊢
    have hya:=Ext.alloc x3 (.cells #[.slice a3 A.length c3] 23)
    have HU:=Lib.hid (hu.ext hya)
    have HT3:=Lib.hid ((HT.out.ext hy).ext hya)
    have HE3:=Lib.hid ((HXR.out.trans hy).trans hya)
    have HB3:=Lib.hid (Blk.new0 x3 #[.slice a3 A.length c3] 23)
    clear hu hya hy hO hKV hK3 HT HXR
    go_wp2_with (at_builtin;refine wpl_append_row rfl (.tmp 27) (.tmp 31) 22 23 rfl (z:=.slice none 0 0) (k:=1) (by_:=24) Tryz.underlying22 infoRowU rfl (by decide) (B:=x1.heap.size) HE3.out.size rfl HT3.out.own rfl (fun e=>by cases e) (news:=[.slice a3 A.length c3]) rfl (fun A' hA j u hu=>by cases hA;exact one_news HB3.out hu) (fun u hu=>by rw [List.mem_singleton.1 hu];rfl) (by omega) (by omega) ?_;intro v9 x9 ho hg hnl hat)
    obtain⟨a9,c9,rfl⟩:=row_form ho
    have HT9:=Lib.hid (HT3.out.pushT ho hg hat HU.out)
    have HE9:Hid (Ext x1 x9):=Lib.hid (Below.grown HE3.out hg HE3.out.size (fun r e=>(World.ownsRow.lt HT3.out.own r e).1))
    clear ho hg hnl hat HT3 HE3 HB3 HU
    refine(ref_Zero _).mono ?_
    rintro e9 y1 ⟨v9,rfl,⟨nz,az,qz,cz,bz,kz,dz,rfl,hv',hf',hg'⟩,hy⟩
    have hlt:=HT9.out.lt
    have hoff:RatC.Off ⟨nz,az,qz,cz,false,bz,kz,dz⟩ (Value.slice aw K.length cw).ownBlock:=⟨fun _ A hA e=>by have:=hf' A hA;have:=(hlt _ (.inr e)).2;omega,fun _ A hA e=>by have:=hg' A hA;have:=(hlt _ (.inr e)).2;omega⟩
    have hoff2:RatC.Off ⟨nz,az,qz,cz,false,bz,kz,dz⟩ (Value.slice a9 (q+1) c9).ownBlock:=⟨fun _ A hA e=>by have:=hf' A hA;have:=(hlt _ (.inl e)).2;omega,fun _ A hA e=>by have:=hg' A hA;have:=(hlt _ (.inl e)).2;omega⟩
    have hya:=Ext.alloc y1 (.cells #[.bool nz,.slice az qz cz,.bool false,.slice bz kz dz] 44)
    have HBz:=Lib.hid (Blk.new0 y1 #[.bool nz,.slice az qz cz,.bool false,.slice bz kz dz] 44)
    have HXa:=Lib.hid ((HE9.out.trans hy).trans hya)
    have HTa:=Lib.hid ((HT9.out.ext hy).ext hya)
    have HVa:=Lib.hid (RatV.ext hv' hya)
    have HOFF:=Lib.hid hoff
    have HOF2:=Lib.hid hoff2
    clear hlt hoff hoff2 hya hy hv' hf' hg' HT9 HE9
    go_wp2_with (at_builtin;refine wpl_append_rat rfl (.tmp 33) (.tmp 35) rfl HXa.out rfl HTa.out.want rfl (x:=⟨nz,az,qz,cz,false,bz,kz,dz⟩) (r:=0) HBz.out HVa.out HOFF.out (by have:=HKL.out;omega) ?_;intro v' w3 hO' hE' hg' hat')
    obtain⟨ua,uc,rfl,hul,huc⟩:=hO'.form
    have HTz:=Lib.hid (HTa.out.pushW hO' hg' hat' HOF2.out)
    go_roundw
    case rel=>exact⟨q+1,by omega,by go_num,_,_,_,_,(by rw [List.replicate_succ'];exact HTz.out),fun r hr c hc=>(if e:r=q then(by rw [if_pos e,e]) else(by rw [if_neg e];exact HMQ.out r (by omega) c hc)),hE'⟩
    case measure=>simp [intOf];omega
   ·have q1:¬ (q:Int)< (widA A:Int):=by omega
    have hqe:q=widA A:=by omega
    subst hqe
    have hXX:=HX.out.trans HXR.out
    have hrow:=HX0.out wr hXX
    have hrow1:=HX0.out x1 HX.out
    have hu:RowG wr (Pt (.slice at1 (widA A) ct) (.slice aw K.length cw)) A.length (.slice s A.length sc) (vecV L) (vecF L):=⟨s,sc,rfl,hrow,fun h0 A' hA hp=>by
     obtain⟨_,hc,_⟩:=hrow1.cells A' hA 0 h0
     have h1:=World.block_lt_of_cell? x1 _ hc
     have h2:=(HT.out.lt _ hp).1
     dsimp only at h1
     omega,fun c hc o hp=>old_off (hrow1.val c hc) (fun g' e=>by cases e;exact(HT.out.lt _ hp).1)⟩
    have hya:=Ext.alloc wr (.cells #[.slice s A.length sc] 23)
    have HU:=Lib.hid (hu.ext hya)
    have HT3:=Lib.hid (HT.out.ext hya)
    have HE3:=Lib.hid (HXR.out.trans hya)
    have HB3:=Lib.hid (Blk.new0 wr #[.slice s A.length sc] 23)
    clear hu hya hrow hrow1 hXX HT HXR
    go_wp2_with (at_builtin;refine wpl_append_row rfl (.tmp 38) (.tmp 40) 22 23 rfl (z:=.slice none 0 0) (k:=1) (by_:=24) Tryz.underlying22 infoRowU rfl (by decide) (B:=x1.heap.size) HE3.out.size rfl HT3.out.own rfl (fun e=>by cases e) (news:=[.slice s A.length sc]) rfl (fun A' hA j u hu=>by cases hA;exact one_news HB3.out hu) (fun u hu=>by rw [List.mem_singleton.1 hu];rfl) (by omega) (by omega) ?_;intro v9 x9 ho hg hnl hat)
    obtain⟨a9,c9,rfl⟩:=row_form ho
    have HT9:=Lib.hid (HT3.out.pushT ho hg hat HU.out)
    have HE9:Hid (Ext x1 x9):=Lib.hid (Below.grown HE3.out hg HE3.out.size (fun r e=>(World.ownsRow.lt HT3.out.own r e).1))
    clear ho hg hnl hat HT3 HE3 HB3 HU
    refine(ref_One _).mono ?_
    rintro e9 y1 ⟨v9,rfl,⟨nz,az,qz,cz,bz,kz,dz,rfl,hv',hf',hg'⟩,hy⟩
    have hlt:=HT9.out.lt
    have hoff:RatC.Off ⟨nz,az,qz,cz,false,bz,kz,dz⟩ (Value.slice aw K.length cw).ownBlock:=⟨fun _ A hA e=>by have:=hf' A hA;have:=(hlt _ (.inr e)).2;omega,fun _ A hA e=>by have:=hg' A hA;have:=(hlt _ (.inr e)).2;omega⟩
    have hoff2:RatC.Off ⟨nz,az,qz,cz,false,bz,kz,dz⟩ (Value.slice a9 (widA A+1) c9).ownBlock:=⟨fun _ A hA e=>by have:=hf' A hA;have:=(hlt _ (.inl e)).2;omega,fun _ A hA e=>by have:=hg' A hA;have:=(hlt _ (.inl e)).2;omega⟩
    have hya:=Ext.alloc y1 (.cells #[.bool nz,.slice az qz cz,.bool false,.slice bz kz dz] 44)
    have HBz:=Lib.hid (Blk.new0 y1 #[.bool nz,.slice az qz cz,.bool false,.slice bz kz dz] 44)
    have HXa:=Lib.hid ((HE9.out.trans hy).trans hya)
    have HTa:=Lib.hid ((HT9.out.ext hy).ext hya)
    have HVa:=Lib.hid (RatV.ext hv' hya)
    have HOFF:=Lib.hid hoff
    have HOF2:=Lib.hid hoff2
    clear hlt hoff hoff2 hya hy hv' hf' hg' HT9 HE9
    go_wp2_with (at_builtin;refine wpl_append_rat rfl (.tmp 42) (.tmp 44) rfl HXa.out rfl HTa.out.want rfl (x:=⟨nz,az,qz,cz,false,bz,kz,dz⟩) (r:=1) HBz.out HVa.out HOFF.out (by have:=HKL.out;omega) ?_;intro v' w3 hO' hE' hg' hat')
    have hTz:=HTa.out.pushW hO' hg' hat' HOF2.out
    obtain⟨am,cm,em,hmat⟩:=hTz.mat
    obtain⟨an,cn,Vn,en,hwant⟩:=hO'.reads (N:=widA A+1) (f:=fun r=>if r<widA A then 0 else 1) (by rw [List.length_append,HKL.out];rfl) (fun c hc=>by
     rw [List.getD_eq_getElem?_getD]
     by_cases e:c<widA A
     ·rw [List.getElem?_append_left (by simpa using e),List.getElem?_replicate,if_pos e,if_pos e];rfl
     ·rw [List.getElem?_append_right (by simpa using e),List.length_replicate,if_neg e,show c - widA A=0 by omega];rfl)
    simp only [Value.slice.injEq,true_and] at em
    obtain⟨rfl,rfl⟩:=em
    subst en
    have HMAT:=Lib.hid (hmat.congr (M':=fun r c=>if r<widA A then mxA A c r else vecF L c) fun r hr c hc=>(if e:r=widA A then(by rw [if_pos e,e,if_neg (Nat.lt_irrefl _)]) else(by rw [if_neg e,if_pos (by omega)];exact HMQ.out r (by omega) c hc)))
    have HWN:=Lib.hid hwant
    have HX3:=Lib.hid (HX.out.trans hE')
    clear hTz hmat hwant hO' hE' hg' hat' HTa HBz HVa HOFF HOF2 HXa
    go_wp2_with fail
    refine(ref_solve a9 c9 (widA A+1) A.length _ _ an cn Vn _ (30* ((widA A+1)* (A.length+1))+61) w3 HMAT.out HWN.out HCD.out (by omega) (by omega) HF.out).mono ?_
    rw [aug_trn]
    rintro e x4 ⟨a4,c4,V4,rfl,hr4,hy⟩
    have HP:Hid (RefuteP A L w (.returned (.tuple #[.slice a4 (if okB (widA A+1) A.length (elimX (widA A+1) (trnA A L) A.length) then A.length else 0) c4,.bool (okB (widA A+1) A.length (elimX (widA A+1) (trnA A L) A.length)),.int .i64 0])) x4):=Lib.hid ⟨a4,c4,V4,by unfold refN;rw [HSO.out,HVZ.out],by unfold refN;rw [HSO.out];exact hr4,HX3.out.trans hy⟩
    clear hr4 hy HSO HCD HMAT HWN
    generalize okB (widA A+1) A.length (elimX (widA A+1) (trnA A L) A.length)=ok at *
    cases ok
    ·rw [if_neg (by decide)] at HP ⊢
     go_wp2_with fail
     go_ret3
     exact HP.out
    ·rw [if_pos rfl] at HP ⊢
     go_wp2_with fail
     go_ret3
     exact HP.out
 ·have g1:(vecE A L A.length != 0)=true:=by simp [hz]
  have HSO:Hid (refOk A L=false):=Lib.hid (by unfold refOk;rw [decide_eq_false hz];rfl)
  go_enter Tryz.func19,Tryz.ntmps19
  go_wp2_with fail
  refine HV.out.mono ?_
  rintro e x1 ⟨rfl,hy⟩
  have HP:Hid (RefuteP A L w (.returned (.tuple #[.slice none 0 0,.bool false,.int .i64 (vecE A L A.length)])) x1):=Lib.hid ⟨none,0,fun _=>noC,by unfold refN;rw [HSO.out];rfl,by unfold refN;rw [HSO.out];exact RowR.nil' _ _ _,hy⟩
  clear hy hz hf
  go_wp2_with fail
  go_ret3
  exact HP.out
end Go.Proofs.YtokffagbdfhnnaaGreat
