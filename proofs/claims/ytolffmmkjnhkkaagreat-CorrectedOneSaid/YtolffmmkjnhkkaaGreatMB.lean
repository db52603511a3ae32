import Derived.Test.YtolffmmkjnhkkaaGreatMA
import Derived.OwnWalk
import Derived.Deep.QuietTactic
namespace Go.Proofs.YtolffmmkjnhkkaaGreat
open Go.RowKit Go BigFrame Go.Shelf
set_option maxRecDepth 100000
set_option linter.unusedSimpArgs false
set_option linter.unusedVariables false
attribute [local go_sem] Oper.semAt_some
def RatQ (r:Rat) (w:World) (e:Ending) (w':World):Prop:=∃v,e=.returned v∧RatN w' v r w.heap.size∧Ext w w'
theorem ratN_of {w:World} {n1 n2:Bool} {a b:Option Addr} {q c k d B:Nat} {r:Rat} (h1:BigV w (.agg #[.bool n1,.slice a q c]) r.num) (h2:BigV w (.agg #[.bool n2,.slice b k d]) (r.den:Int)) (h3:∀A,a=some A→B≤A.block) (h4:∀A,b=some A→B≤A.block):
 RatN w (.agg #[.bool n1,.slice a q c,.bool n2,.slice b k d]) r B:=by
 have hv:=RatV.mk h1 h2
 obtain⟨n1',a',q',c',b',k',d',e⟩:=hv.form
 have e':=e
 simp only [Value.agg.injEq,Array.mk.injEq,List.cons.injEq,Value.bool.injEq,Value.slice.injEq,and_true] at e'
 obtain⟨rfl,⟨rfl,rfl,rfl⟩,rfl,⟨rfl,rfl,rfl⟩⟩:=e'
 exact⟨_,_,_,_,_,_,_,rfl,hv,h3,h4⟩
set_option maxHeartbeats 4000000 in
theorem ref10_Int (n:Int) (w:World) (hn:-9223372036854775808≤n∧n≤9223372036854775807):Calls Tryz.prog 55 #[.int .i64 n] w (RatQ (n:Rat) w):=by
 have HN:=Lib.hid hn
 clear hn
 obtain⟨x1,hw,hx,Kr⟩:=boxQ1 w #[.bool false,.slice none 0 0,.bool false,.slice none 0 0] 38
 replace hw:=Lib.hid hw
 go_enter Tryz.func55,Tryz.ntmps55
 go_upto_region 1 with fail
 try simp only [Nat.add_assoc,Nat.reduceAdd,Nat.add_zero]
 rw [hw.out]
 clear hw
 have hs0:=hx.size
 obtain⟨cr0,cr1,cr2,cr3⟩:=bk4 Kr
 have hsz:=hx.size
 go_wp2_with fail
 clear cr0 cr1 cr2 cr3
 refine(ref_Make n _ HN.out).mono ?_
 rintro e x2 ⟨v,rfl,hv,hy⟩
 replace hx:=hx.trans hy
 replace Kr:=kE Kr hy
 clear hy
 obtain⟨nu,au,qu,cu,rfl,hv',hf'⟩:=hv.two
 have Vu:=Lib.hid hv'
 have Fu:=Lib.hid (fun A hA=>Nat.le_trans hsz (hf' A hA))
 clear hv' hf' hsz
 obtain⟨cr0,cr1,cr2,cr3⟩:=bk4 Kr
 have hsz:=hx.size
 go_wp2_with fail
 clear cr0 cr1 cr2 cr3
 refine(ref_Make 1 _ (by omega)).mono ?_
 rintro e x3 ⟨v,rfl,hv,hy⟩
 replace hx:=hx.trans hy
 replace Kr:=kE Kr hy
 replace Vu:=Lib.hid (Vu.out.ext hy)
 clear hy
 obtain⟨nv,av,qv,cv,rfl,hv',hf'⟩:=hv.two
 have Vv:=Lib.hid hv'
 have Fv:=Lib.hid (fun A hA=>Nat.le_trans hsz (hf' A hA))
 clear hv' hf' hsz
 obtain⟨cr0,cr1,cr2,cr3⟩:=bk4 Kr
 obtain⟨g0,z0,g1,z1,g2,z2,g3,z3⟩:=bp4 Kr (.bool nu) (.slice au qu cu) (.bool nv) (.slice av qv cv)
 go_wp2_with fail
 clear g0 z0 g1 z1 g2 z2 g3 z3
 clear cr0 cr1 cr2 cr3
 replace Vu:=(by first | exact rv4 Vu Kr (.bool nu) (.slice au qu cu) (.bool nv) (.slice av qv cv) rfl rfl rfl rfl | exact bv4 Vu Kr (.bool nu) (.slice au qu cu) (.bool nv) (.slice av qv cv) rfl rfl rfl rfl)
 replace Vv:=(by first | exact rv4 Vv Kr (.bool nu) (.slice au qu cu) (.bool nv) (.slice av qv cv) rfl rfl rfl rfl | exact bv4 Vv Kr (.bool nu) (.slice au qu cu) (.bool nv) (.slice av qv cv) rfl rfl rfl rfl)
 replace hx:=bx4 hx (w.heap.size) (.bool nu) (.slice au qu cu) (.bool nv) (.slice av qv cv) (by omega)
 replace Kr:=bs4 Kr (.bool nu) (.slice au qu cu) (.bool nv) (.slice av qv cv)
 generalize ((((x3).setCell ⟨w.heap.size,0,none⟩ (.bool nu)).setCell ⟨w.heap.size,1,none⟩ (.slice au qu cu)).setCell ⟨w.heap.size,2,none⟩ (.bool nv)).setCell ⟨w.heap.size,3,none⟩ (.slice av qv cv)=x4 at *
 obtain⟨cr0,cr1,cr2,cr3⟩:=bk4 Kr
 refine bodyPost_ret (v:=.agg #[.bool nu,.slice au qu cu,.bool nv,.slice av qv cv]) (by simp [results,Tryz.results55,go_sem,cr0,cr1,cr2,cr3]) rfl ?_
 exact⟨_,rfl,ratN_of (by simpa using Vu.out) (by simpa using Vv.out) Fu.out Fv.out,hx⟩
set_option maxHeartbeats 4000000 in
theorem OwnOs.new (w:World):OwnOs (w.alloc (.cells #[] 38)) w.heap.size (.slice (some ⟨w.heap.size,0,none⟩) 0 0) [] []:=
 ⟨rfl,⟨by simp,.inr ⟨w.heap.size,0,#[],rfl,Nat.le_refl _,heap_alloc_new w _,Nat.le_refl _,by unfold maxLen;omega,rfl,rfl⟩⟩,fun i h=>by simp at h,fun x hx=>by cases hx⟩
theorem OwnG.new {α:Type} (R:World→Value→α→Prop) (Off:α→Option Nat→Prop) (t:TypeId) (w:World):OwnG R Off (w.alloc (.cells #[] t)) w.heap.size t (.slice (some ⟨w.heap.size,0,none⟩) 0 0) []:=
 ⟨[],⟨by simp,.inr ⟨w.heap.size,0,#[],rfl,Nat.le_refl _,heap_alloc_new w _,Nat.le_refl _,by unfold maxLen;omega,rfl,rfl⟩⟩,fun i h=>absurd h (by simp)⟩
theorem FreshC.base {B B':Nat} {x:RatC} (h:FreshC B x) (hB:B'≤B):FreshC B' x:=⟨fun hq A hA=>Nat.le_trans hB (h.1 hq A hA),fun hq A hA=>Nat.le_trans hB (h.2 hq A hA)⟩
theorem rowO_take (l:List Int) (S:List Rat) {q:Nat} (h:q<l.length):(rowO l S).take (q+1)= (rowO l S).take q ++ [if l.getD q 0= -1 then none else some ((l.getD q 0:Rat) - S.getD q 0)]:=by
 have hq:q< (rowO l S).length:=by rw [rowO_len];exact h
 have e:=rowO_get l S h
 rw [List.getD_eq_getElem?_getD,List.getElem?_eq_getElem hq] at e
 rw [List.take_add_one,List.getElem?_eq_getElem hq,←e]
 rfl
def RowQ (l:List Int) (S:List Rat) (w:World) (e:Ending) (w':World):Prop:=∃v xs,e=.returned (.tuple #[v,.int .i64 0])∧OwnOs w' w.heap.size v xs (rowO l S)∧(∀x∈xs,FreshC w.heap.size x)∧Ext w w'
set_option maxHeartbeats 8000000 in
theorem ref40_row (a:Option Addr) (cap:Nat) (l:List Int) (s:Option Addr) (sc:Nat) (L:List RatA) (S:List Rat) (w:World) (h:Ints w a cap l) (k:RatsI w s sc L)
 (hV:ValL L S 7) (hls:l.length=S.length) (hm:∀x∈l,-1≤x∧x≤1000) (hl:l.length≤1000):
 Calls Tryz.prog 29 #[.slice a l.length cap,.slice s L.length sc] w (RowQ l S w):=by
 have hle:=h.le
 have hmx:=h.mx
 have sle:=k.le
 have smx:=k.mx
 have hLS:l.length=L.length:=by rw [hls,hV.1]
 have HH:=Lib.hid h
 have HK:=Lib.hid k
 have HV:=Lib.hid hV
 have HM:=Lib.hid hm
 have HLS:=Lib.hid hls
 have HLL:=Lib.hid hLS
 clear h k hV hm hls hLS
 have hx:=Ext.refl w
 go_enter Tryz.func29,Tryz.ntmps29
 go_upto_region 2 with fail
 have hx2:=Ext.alloc w (.cells #[] 38)
 have hO0:=OwnOs.new w
 generalize w.alloc (.cells #[] 38)=w2 at *
 have HX2:=Lib.hid hx2
 have HO0:=Lib.hid hO0
 clear hx hx2 hO0
 go_wp2_with fail
 go_loopw [6,7] (fun v i wr=>∃q:Nat,q≤l.length∧i=.int .i64 q∧∃xs,OwnOs wr w.heap.size v xs ((rowO l S).take q)∧(∀x∈xs,FreshC w.heap.size x)∧Ext w wr) (fun _ i _=>l.length - (intOf i).toNat)
 case atStart=>exact⟨0,Nat.zero_le _,rfl,[],HO0.out,(fun x hx=>by cases hx),HX2.out⟩
 case round=>
  obtain⟨q,hq,rfl,xs,hO,hF,hxr⟩:=hrel
  have hxl:xs.length=q:=by have:=hO.len;rw [List.length_take,rowO_len] at this;omega
  obtain⟨va,vc,rfl,hvl,hvc⟩:=hO.form
  have HO:=Lib.hid hO
  have HF:=Lib.hid hF
  have HXR:=Lib.hid hxr
  have HXL:=Lib.hid hxl
  have q1:(0:Int)≤(q:Int):=by omega
  clear hO hF hxl HO0 HX2
  by_cases hqn:q<l.length
  ·have q2:(q:Int)< (l.length:Int):=by omega
   have q3:(q:Int)< (L.length:Int):=by have:=HLL.out;omega
   have hqS:q<S.length:=by have:=HLS.out;omega
   have hqL:q<L.length:=by have:=HLL.out;omega
   have hw1:IntKind.i64.wrap ((q:Int)+1)= (q:Int)+1:=IntWalk.i64_in _ (by omega)
   obtain⟨b,o,rfl⟩:=HH.out.head hqn
   obtain⟨z,hz,hc,hz1,hz2⟩:=Ints.get (HH.out.ext hxr) hqn
   have HZ:Hid (l.getD q 0=z):=Lib.hid (by rw [List.getD_eq_getElem?_getD,hz];rfl)
   have HZM:=Lib.hid (HM.out z (List.mem_of_getElem? hz))
   have hlt:=Lib.hid (fun g e=>(HO.out.lt g e).2)
   have HSZ:=Lib.hid hxr.size
   clear hz
   by_cases hzm:z= -1
   ·subst hzm
    go_upto_region 6 with fail
    have HBz:=Lib.hid (Blk.new0 wr #[.bool false,.slice none 0 0,.bool false,.slice none 0 0] 38)
    have HXa:=Lib.hid (hxr.alloc' (.cells #[.bool false,.slice none 0 0,.bool false,.slice none 0 0] 38))
    have HOa:=Lib.hid (HO.out.ext (Ext.alloc wr (.cells #[.bool false,.slice none 0 0,.bool false,.slice none 0 0] 38)))
    go_wp2_with (at_builtin;refine wpl_append_o rfl (.tmp 22) (.tmp 24) rfl HXa.out rfl HOa.out rfl (x:=zeroC) (r:=none) HBz.out rfl (zero_off rfl _) (by have:=HXL.out;omega) ?_;intro v' w3 hO' hE' hg' hat')
    obtain⟨ua,uc,rfl,hul,huc⟩:=hO'.form
    go_roundw
    case rel=>exact⟨q+1,by omega,by go_num,_,(by rw [rowO_take l S hqn,HZ.out,if_pos rfl];exact hO'),(fun x hx=>by rcases List.mem_append.1 hx with h | h;exact HF.out x h;rw [List.mem_singleton.1 h];exact⟨fun h=>absurd h (by simp),fun h=>absurd h (by simp)⟩),hE'⟩
    case measure=>simp [intOf];omega
   ·have HNE:=Lib.hid hzm
    obtain⟨bs,os,rfl⟩:=HK.out.head hqL
    obtain⟨n1,a1,q1',c1,n2,b2,k2,d2,g0,g1,g2,g3,V1,Z1⟩:=(HK.out.ext hxr).val HV.out hqS
    obtain⟨n1',a1',q1'',c1',b2',k2',d2',e1⟩:=V1.form
    simp only [Value.agg.injEq,Array.mk.injEq,List.cons.injEq,Value.bool.injEq,Value.slice.injEq,and_true] at e1
    obtain⟨-,-,rfl,-⟩:=e1
    have HS:Hid (S.getD q 0=S[q]):=Lib.hid (by rw [List.getD_eq_getElem?_getD,List.getElem?_eq_getElem hqS];rfl)
    have HZ1:=Lib.hid Z1
    have V1:=Lib.hid V1
    generalize S[q]=sv at *
    clear Z1
    go_upto_region 7 with fail
    go_cut [8,9] (fun s1 s2 wx=>∃ (p:Nat) (nd:Bool) (ad:Option Addr) (qd cd:Nat) (bd:Option Addr) (kd dd:Nat),s1=.pointer (some ⟨p,0,none⟩)∧s2=.int .i64 0∧Blk wx p #[.bool nd,.slice ad qd cd,.bool false,.slice bd kd dd] 38∧RatV wx (.agg #[.bool nd,.slice ad qd cd,.bool false,.slice bd kd dd]) ((z:Rat) - sv)∧FreshC wr.heap.size ⟨nd,ad,qd,cd,false,bd,kd,dd⟩∧Ext wr wx)
    case first=>
     have hx:=hxr
     clear hxr
     have s0:World.cell? wr ⟨b,o+q,none⟩=some (.int .i64 z):=hc
     have s1:World.cell? wr ⟨bs,os+q*4,none⟩=some (.bool n1):=g0
     have s2:World.cell? wr ⟨bs,os+q*4+1,none⟩=some (.slice a1 q1' c1):=g1
     have s3:World.cell? wr ⟨bs,os+q*4+2,none⟩=some (.bool false):=g2
     have s4:World.cell? wr ⟨bs,os+q*4+3,none⟩=some (.slice b2 k2 d2):=g3
     have hE:Ext wr (World.drew wr):=(Ext.refl _).drew
     have hyd:Ext wr (World.drew wr):=(Ext.refl _).drew
     replace hx:=hx.trans hyd
     replace V1:=Lib.hid (V1.out.ext hyd)
     clear hyd
     replace s0:World.cell? (World.drew wr) ⟨b,o+q,none⟩=some (.int .i64 z):=s0
     replace s1:World.cell? (World.drew wr) ⟨bs,os+q*4,none⟩=some (.bool n1):=s1
     replace s2:World.cell? (World.drew wr) ⟨bs,os+q*4+1,none⟩=some (.slice a1 q1' c1):=s2
     replace s3:World.cell? (World.drew wr) ⟨bs,os+q*4+2,none⟩=some (.bool false):=s3
     replace s4:World.cell? (World.drew wr) ⟨bs,os+q*4+3,none⟩=some (.slice b2 k2 d2):=s4
     refine wp_region_held_drew (S:=(fun w'=>World.cell? w' ⟨b,o+q,none⟩=some (.int .i64 z)∧World.cell? w' ⟨bs,os+q*4,none⟩=some (.bool n1)∧World.cell? w' ⟨bs,os+q*4+1,none⟩=some (.slice a1 q1' c1)∧World.cell? w' ⟨bs,os+q*4+2,none⟩=some (.bool false)∧World.cell? w' ⟨bs,os+q*4+3,none⟩=some (.slice b2 k2 d2))) (by kernel_rfl) ?_ (fun hHeld=>?_)
     ·exact⟨s0,s1,s2,s3,s4⟩
     (try simp only [pur,Nat.reduceAdd])
     generalize World.drew wr=x31 at *
     refine tk (v:=?_) 0 rfl (by kernel_rfl) (fun _ _ _ h=>h) (by rfl) ?_ (by assumption) ?_
     rotate_left
     ·(intro w hSw;(try dsimp only at hSw);(try go_simp);(try with_reducible rfl))
     (try simp only [Act.put,pus])
     refine tk (v:=?_) 1 rfl (by kernel_rfl) (fun _ _ _ h=>h) (by rfl) ?_ (by assumption) ?_
     rotate_left
     ·(intro w hSw;(try dsimp only at hSw);(try go_simp);(try with_reducible rfl))
     (try simp only [Act.put,pus])
     refine tk (v:=?_) 2 rfl (by kernel_rfl) (fun _ _ _ h=>h) (by rfl) ?_ (by assumption) ?_
     rotate_left
     ·(intro w hSw;(try dsimp only at hSw);(try go_simp);(try with_reducible rfl))
     (try simp only [Act.put,pus])
     refine tk (v:=?_) 3 rfl (by kernel_rfl) (fun _ _ _ h=>h) (by rfl) ?_ (by assumption) ?_
     rotate_left
     ·(intro w hSw;(try dsimp only at hSw);(try go_simp);(try with_reducible rfl))
     (try simp only [Act.put,pus])
     refine tk (v:=?_) 5 rfl (by kernel_rfl) (fun _ _ _ h=>h) (by rfl) ?_ (by assumption) ?_
     rotate_left
     ·(intro w hSw;(try dsimp only at hSw);(try go_simp);(try with_reducible rfl))
     (try simp only [Act.put,pus])
     refine tk (v:=?_) 6 rfl (by kernel_rfl) (fun _ _ _ h=>h) (by rfl) ?_ (by assumption) ?_
     rotate_left
     ·(intro w hSw;(try dsimp only at hSw);(try go_simp);(try with_reducible rfl))
     (try simp only [Act.put,pus])
     refine tk (v:=?_) 7 rfl (by kernel_rfl) (fun _ _ _ h=>h) (by rfl) ?_ (by assumption) ?_
     rotate_left
     ·(intro w hSw;(try dsimp only at hSw);(try go_simp);(try with_reducible rfl))
     (try simp only [Act.put,pus])
     refine tk (v:=?_) 8 rfl (by kernel_rfl) (fun _ _ _ h=>h) (by rfl) ?_ (by assumption) ?_
     rotate_left
     ·(intro w hSw;(try dsimp only at hSw);(try go_simp);(try with_reducible rfl))
     (try simp only [Act.put,pus])
     refine wpAnyH_ready (rs:=[4,13]) (by kernel_rfl) (by simp) ?_
     refine AllReadyH.cons (o:=_) rfl (fun K hK=>?_) ?_
     ·go_simp
      (with_reducible refine(ref10_Int z _ (by omega)).mono ?_);rintro e x32 ⟨v1,rfl,hv,hy⟩;have hzx:=hE.size;replace hE:=hE.trans hy;replace hx:=hx.trans hy;replace s0:=cell_exQ hy s0;replace s1:=cell_exQ hy s1;replace s2:=cell_exQ hy s2;replace s3:=cell_exQ hy s3;replace s4:=cell_exQ hy s4;replace V1:=Lib.hid (V1.out.ext hy);clear hy;obtain⟨ni,ai,qi,ci,bi,ki,di,rfl,hv',hf',hg'⟩:=hv;have Vi:=Lib.hid hv';have Fi:Hid (FreshC wr.heap.size ⟨ni,ai,qi,ci,false,bi,ki,di⟩):=Lib.hid ⟨fun _ A hA=>Nat.le_trans hzx (hf' A hA),fun _ A hA=>Nat.le_trans hzx (hg' A hA)⟩;clear hv' hf' hg' hzx
      refine hK.out _ _ ?_ (fun hHeld2=>?_)
      ·exact⟨s0,s1,s2,s3,s4⟩
      clear hK K hHeld
      have hHeld:=hHeld2
      clear hHeld2
      (try simp only [Act.put,pus])
      refine wpAnyH_ready (rs:=[9,13]) (by kernel_rfl) (by simp) ?_
      refine AllReadyH.cons (o:=_) rfl (fun K hK=>?_) ?_
      ·go_simp
       (with_reducible refine(rSub_valR (i:=1) (j:=7) Vi.out V1.out (mark_sz HZM.out) HZ1.out (by omega)).mono ?_);rintro e x33 ⟨v2,rfl,hv,hy⟩;have hzx:=hE.size;replace hE:=hE.trans hy;replace hx:=hx.trans hy;replace s0:=cell_exQ hy s0;replace s1:=cell_exQ hy s1;replace s2:=cell_exQ hy s2;replace s3:=cell_exQ hy s3;replace s4:=cell_exQ hy s4;replace V1:=Lib.hid (V1.out.ext hy);replace Vi:=Lib.hid (Vi.out.ext hy);clear hy;obtain⟨nd,ad,qd,cd,bd,kd,dd,rfl,hv',hf',hg'⟩:=hv;have Vd:=Lib.hid hv';have Fd:Hid (FreshC wr.heap.size ⟨nd,ad,qd,cd,false,bd,kd,dd⟩):=Lib.hid ⟨fun _ A hA=>Nat.le_trans hzx (hf' A hA),fun _ A hA=>Nat.le_trans hzx (hg' A hA)⟩;clear hv' hf' hg' hzx
       refine hK.out _ _ ?_ (fun hHeld2=>?_)
       ·exact⟨s0,s1,s2,s3,s4⟩
       clear hK K hHeld
       have hHeld:=hHeld2
       clear hHeld2
       (try simp only [Act.put,pus])
       refine tk (v:=?_) 10 rfl (by kernel_rfl) (fun _ _ _ h=>h) (by rfl) ?_ (by assumption) ?_
       rotate_left
       ·(intro w hSw;(try dsimp only at hSw);(try go_simp);(try with_reducible rfl))
       (try simp only [Act.put,pus])
       refine tk (v:=?_) 11 rfl (by kernel_rfl) (fun _ _ _ h=>h) (by rfl) ?_ (by assumption) ?_
       rotate_left
       ·(intro w hSw;(try dsimp only at hSw);(try go_simp);(try with_reducible rfl))
       (try simp only [Act.put,pus])
       refine tk (v:=?_) 12 rfl (by kernel_rfl) (fun _ _ _ h=>h) (by rfl) ?_ (by assumption) ?_
       rotate_left
       ·(intro w hSw;(try dsimp only at hSw);(try go_simp);(try with_reducible rfl))
       (try simp only [Act.put,pus])
       refine wpAnyH_ready (rs:=[13]) (by kernel_rfl) (by simp) ?_
       refine AllReadyH.cons (o:=_) rfl (fun K hK=>?_) ?_
       ·go_simp
        have hy:Ext x33 (World.alloc x33 (.cells #[.bool false,.slice none 0 0,.bool false,.slice none 0 0] 38)):=Ext.alloc _ _;have hpd:w.heap.size≤Array.size (World.heap x33):=hx.size;have hqd:=hE.size;replace hE:=hE.trans hy;replace hx:=hx.trans hy;have md0:=lt_of_cell s0;replace s0:=cell_exQ hy s0;have md1:=lt_of_cell s1;replace s1:=cell_exQ hy s1;have md2:=lt_of_cell s2;replace s2:=cell_exQ hy s2;have md3:=lt_of_cell s3;replace s3:=cell_exQ hy s3;have md4:=lt_of_cell s4;replace s4:=cell_exQ hy s4;replace V1:=Lib.hid (V1.out.ext hy);replace Vi:=Lib.hid (Vi.out.ext hy);replace Vd:=Lib.hid (Vd.out.ext hy);have Kd:=Lib.hid (Blk.new0 x33 #[.bool false,.slice none 0 0,.bool false,.slice none 0 0] 38);clear hy;generalize World.alloc x33 (.cells #[.bool false,.slice none 0 0,.bool false,.slice none 0 0] 38)=x34 at *;generalize Array.size (World.heap x33)=pd at *
        refine hK.out _ _ ?_ (fun hHeld2=>?_)
        ·exact⟨s0,s1,s2,s3,s4⟩
        clear hK K hHeld
        have hHeld:=hHeld2
        clear hHeld2
        (try simp only [Act.put,pus])
        refine wpAnyH_ready (rs:=[14]) (by kernel_rfl) (by simp) ?_
        refine AllReadyH.cons (o:=_) rfl (fun K hK=>?_) ?_
        ·obtain⟨g0,z0,g1,z1,g2,z2,g3,z3⟩:=bp4 Kd (.bool nd) (.slice ad qd cd) (.bool false) (.slice bd kd dd);go_simp;clear g0 z0 g1 z1 g2 z2 g3 z3;replace V1:=(by first | exact rv4 V1 Kd (.bool nd) (.slice ad qd cd) (.bool false) (.slice bd kd dd) rfl rfl rfl rfl | exact bv4 V1 Kd (.bool nd) (.slice ad qd cd) (.bool false) (.slice bd kd dd) rfl rfl rfl rfl);replace Vi:=(by first | exact rv4 Vi Kd (.bool nd) (.slice ad qd cd) (.bool false) (.slice bd kd dd) rfl rfl rfl rfl | exact bv4 Vi Kd (.bool nd) (.slice ad qd cd) (.bool false) (.slice bd kd dd) rfl rfl rfl rfl);replace Vd:=(by first | exact rv4 Vd Kd (.bool nd) (.slice ad qd cd) (.bool false) (.slice bd kd dd) rfl rfl rfl rfl | exact bv4 Vd Kd (.bool nd) (.slice ad qd cd) (.bool false) (.slice bd kd dd) rfl rfl rfl rfl);replace hx:=bx4 hx (pd) (.bool nd) (.slice ad qd cd) (.bool false) (.slice bd kd dd) (by omega);replace hE:=bx4 hE (pd) (.bool nd) (.slice ad qd cd) (.bool false) (.slice bd kd dd) (by omega);replace s0:=bf4 s0 (pd) (.bool nd) (.slice ad qd cd) (.bool false) (.slice bd kd dd) (by omega);replace s1:=bf4 s1 (pd) (.bool nd) (.slice ad qd cd) (.bool false) (.slice bd kd dd) (by omega);replace s2:=bf4 s2 (pd) (.bool nd) (.slice ad qd cd) (.bool false) (.slice bd kd dd) (by omega);replace s3:=bf4 s3 (pd) (.bool nd) (.slice ad qd cd) (.bool false) (.slice bd kd dd) (by omega);replace s4:=bf4 s4 (pd) (.bool nd) (.slice ad qd cd) (.bool false) (.slice bd kd dd) (by omega);replace Kd:=bs4 Kd (.bool nd) (.slice ad qd cd) (.bool false) (.slice bd kd dd);generalize (World.setCell (World.setCell (World.setCell (World.setCell x34 ⟨pd,0,none⟩ (.bool nd)) ⟨pd,1,none⟩ (.slice ad qd cd)) ⟨pd,2,none⟩ (.bool false)) ⟨pd,3,none⟩ (.slice bd kd dd))=xe at *
         refine hK.out _ _ ?_ (fun hHeld2=>?_)
         ·exact⟨s0,s1,s2,s3,s4⟩
         clear hK K hHeld
         have hHeld:=hHeld2
         clear hHeld2
         (try simp only [Act.put,pus])
         refine tk (v:=?_) 15 rfl (by kernel_rfl) (fun _ _ _ h=>h) (by rfl) ?_ (by assumption) ?_
         rotate_left
         ·(intro w hSw;(try dsimp only at hSw);(try go_simp);(try with_reducible rfl))
         (try simp only [Act.put,pus])
         refine wpAnyH_done (by kernel_rfl) ?_ _
         (go_wp2_with fail;go_meet;exact⟨_,_,_,_,_,_,_,_,rfl,rfl,Kd.out,Vd.out,Fd.out,hE⟩)
        exact AllReadyH.nil
       exact AllReadyH.nil
      refine AllReadyH.cons (o:=_) rfl (fun K hK=>?_) ?_
      ·go_simp
       have hy:Ext x32 (World.alloc x32 (.cells #[.bool false,.slice none 0 0,.bool false,.slice none 0 0] 38)):=Ext.alloc _ _;have hpd:w.heap.size≤Array.size (World.heap x32):=hx.size;have hqd:=hE.size;replace hE:=hE.trans hy;replace hx:=hx.trans hy;have md0:=lt_of_cell s0;replace s0:=cell_exQ hy s0;have md1:=lt_of_cell s1;replace s1:=cell_exQ hy s1;have md2:=lt_of_cell s2;replace s2:=cell_exQ hy s2;have md3:=lt_of_cell s3;replace s3:=cell_exQ hy s3;have md4:=lt_of_cell s4;replace s4:=cell_exQ hy s4;replace V1:=Lib.hid (V1.out.ext hy);replace Vi:=Lib.hid (Vi.out.ext hy);have Kd:=Lib.hid (Blk.new0 x32 #[.bool false,.slice none 0 0,.bool false,.slice none 0 0] 38);clear hy;generalize World.alloc x32 (.cells #[.bool false,.slice none 0 0,.bool false,.slice none 0 0] 38)=x35 at *;generalize Array.size (World.heap x32)=pd at *
       refine hK.out _ _ ?_ (fun hHeld2=>?_)
       ·exact⟨s0,s1,s2,s3,s4⟩
       clear hK K hHeld
       have hHeld:=hHeld2
       clear hHeld2
       (try simp only [Act.put,pus])
       refine wpAnyH_ready (rs:=[9]) (by kernel_rfl) (by simp) ?_
       refine AllReadyH.cons (o:=_) rfl (fun K hK=>?_) ?_
       ·go_simp
        (with_reducible refine(rSub_valR (i:=1) (j:=7) Vi.out V1.out (mark_sz HZM.out) HZ1.out (by omega)).mono ?_);rintro e x36 ⟨v2,rfl,hv,hy⟩;have hzx:=hE.size;replace hE:=hE.trans hy;replace hx:=hx.trans hy;replace s0:=cell_exQ hy s0;replace s1:=cell_exQ hy s1;replace s2:=cell_exQ hy s2;replace s3:=cell_exQ hy s3;replace s4:=cell_exQ hy s4;replace Kd:=kE Kd hy;replace V1:=Lib.hid (V1.out.ext hy);replace Vi:=Lib.hid (Vi.out.ext hy);clear hy;obtain⟨nd,ad,qd,cd,bd,kd,dd,rfl,hv',hf',hg'⟩:=hv;have Vd:=Lib.hid hv';have Fd:Hid (FreshC wr.heap.size ⟨nd,ad,qd,cd,false,bd,kd,dd⟩):=Lib.hid ⟨fun _ A hA=>Nat.le_trans hzx (hf' A hA),fun _ A hA=>Nat.le_trans hzx (hg' A hA)⟩;clear hv' hf' hg' hzx
        refine hK.out _ _ ?_ (fun hHeld2=>?_)
        ·exact⟨s0,s1,s2,s3,s4⟩
        clear hK K hHeld
        have hHeld:=hHeld2
        clear hHeld2
        (try simp only [Act.put,pus])
        refine tk (v:=?_) 10 rfl (by kernel_rfl) (fun _ _ _ h=>h) (by rfl) ?_ (by assumption) ?_
        rotate_left
        ·(intro w hSw;(try dsimp only at hSw);(try go_simp);(try with_reducible rfl))
        (try simp only [Act.put,pus])
        refine tk (v:=?_) 11 rfl (by kernel_rfl) (fun _ _ _ h=>h) (by rfl) ?_ (by assumption) ?_
        rotate_left
        ·(intro w hSw;(try dsimp only at hSw);(try go_simp);(try with_reducible rfl))
        (try simp only [Act.put,pus])
        refine tk (v:=?_) 12 rfl (by kernel_rfl) (fun _ _ _ h=>h) (by rfl) ?_ (by assumption) ?_
        rotate_left
        ·(intro w hSw;(try dsimp only at hSw);(try go_simp);(try with_reducible rfl))
        (try simp only [Act.put,pus])
        refine wpAnyH_ready (rs:=[14]) (by kernel_rfl) (by simp) ?_
        refine AllReadyH.cons (o:=_) rfl (fun K hK=>?_) ?_
        ·obtain⟨g0,z0,g1,z1,g2,z2,g3,z3⟩:=bp4 Kd (.bool nd) (.slice ad qd cd) (.bool false) (.slice bd kd dd);go_simp;clear g0 z0 g1 z1 g2 z2 g3 z3;replace V1:=(by first | exact rv4 V1 Kd (.bool nd) (.slice ad qd cd) (.bool false) (.slice bd kd dd) rfl rfl rfl rfl | exact bv4 V1 Kd (.bool nd) (.slice ad qd cd) (.bool false) (.slice bd kd dd) rfl rfl rfl rfl);replace Vi:=(by first | exact rv4 Vi Kd (.bool nd) (.slice ad qd cd) (.bool false) (.slice bd kd dd) rfl rfl rfl rfl | exact bv4 Vi Kd (.bool nd) (.slice ad qd cd) (.bool false) (.slice bd kd dd) rfl rfl rfl rfl);replace Vd:=(by first | exact rv4 Vd Kd (.bool nd) (.slice ad qd cd) (.bool false) (.slice bd kd dd) rfl rfl rfl rfl | exact bv4 Vd Kd (.bool nd) (.slice ad qd cd) (.bool false) (.slice bd kd dd) rfl rfl rfl rfl);replace hx:=bx4 hx (pd) (.bool nd) (.slice ad qd cd) (.bool false) (.slice bd kd dd) (by omega);replace hE:=bx4 hE (pd) (.bool nd) (.slice ad qd cd) (.bool false) (.slice bd kd dd) (by omega);replace s0:=bf4 s0 (pd) (.bool nd) (.slice ad qd cd) (.bool false) (.slice bd kd dd) (by omega);replace s1:=bf4 s1 (pd) (.bool nd) (.slice ad qd cd) (.bool false) (.slice bd kd dd) (by omega);replace s2:=bf4 s2 (pd) (.bool nd) (.slice ad qd cd) (.bool false) (.slice bd kd dd) (by omega);replace s3:=bf4 s3 (pd) (.bool nd) (.slice ad qd cd) (.bool false) (.slice bd kd dd) (by omega);replace s4:=bf4 s4 (pd) (.bool nd) (.slice ad qd cd) (.bool false) (.slice bd kd dd) (by omega);replace Kd:=bs4 Kd (.bool nd) (.slice ad qd cd) (.bool false) (.slice bd kd dd);generalize (World.setCell (World.setCell (World.setCell (World.setCell x36 ⟨pd,0,none⟩ (.bool nd)) ⟨pd,1,none⟩ (.slice ad qd cd)) ⟨pd,2,none⟩ (.bool false)) ⟨pd,3,none⟩ (.slice bd kd dd))=xe at *
         refine hK.out _ _ ?_ (fun hHeld2=>?_)
         ·exact⟨s0,s1,s2,s3,s4⟩
         clear hK K hHeld
         have hHeld:=hHeld2
         clear hHeld2
         (try simp only [Act.put,pus])
         refine tk (v:=?_) 15 rfl (by kernel_rfl) (fun _ _ _ h=>h) (by rfl) ?_ (by assumption) ?_
         rotate_left
         ·(intro w hSw;(try dsimp only at hSw);(try go_simp);(try with_reducible rfl))
         (try simp only [Act.put,pus])
         refine wpAnyH_done (by kernel_rfl) ?_ _
         (go_wp2_with fail;go_meet;exact⟨_,_,_,_,_,_,_,_,rfl,rfl,Kd.out,Vd.out,Fd.out,hE⟩)
        exact AllReadyH.nil
       exact AllReadyH.nil
      exact AllReadyH.nil
     refine AllReadyH.cons (o:=_) rfl (fun K hK=>?_) ?_
     ·go_simp
      have hy:Ext x31 (World.alloc x31 (.cells #[.bool false,.slice none 0 0,.bool false,.slice none 0 0] 38)):=Ext.alloc _ _;have hpd:w.heap.size≤Array.size (World.heap x31):=hx.size;have hqd:=hE.size;replace hE:=hE.trans hy;replace hx:=hx.trans hy;have md0:=lt_of_cell s0;replace s0:=cell_exQ hy s0;have md1:=lt_of_cell s1;replace s1:=cell_exQ hy s1;have md2:=lt_of_cell s2;replace s2:=cell_exQ hy s2;have md3:=lt_of_cell s3;replace s3:=cell_exQ hy s3;have md4:=lt_of_cell s4;replace s4:=cell_exQ hy s4;replace V1:=Lib.hid (V1.out.ext hy);have Kd:=Lib.hid (Blk.new0 x31 #[.bool false,.slice none 0 0,.bool false,.slice none 0 0] 38);clear hy;generalize World.alloc x31 (.cells #[.bool false,.slice none 0 0,.bool false,.slice none 0 0] 38)=x37 at *;generalize Array.size (World.heap x31)=pd at *
      refine hK.out _ _ ?_ (fun hHeld2=>?_)
      ·exact⟨s0,s1,s2,s3,s4⟩
      clear hK K hHeld
      have hHeld:=hHeld2
      clear hHeld2
      (try simp only [Act.put,pus])
      refine wpAnyH_ready (rs:=[4]) (by kernel_rfl) (by simp) ?_
      refine AllReadyH.cons (o:=_) rfl (fun K hK=>?_) ?_
      ·go_simp
       (with_reducible refine(ref10_Int z _ (by omega)).mono ?_);rintro e x38 ⟨v1,rfl,hv,hy⟩;have hzx:=hE.size;replace hE:=hE.trans hy;replace hx:=hx.trans hy;replace s0:=cell_exQ hy s0;replace s1:=cell_exQ hy s1;replace s2:=cell_exQ hy s2;replace s3:=cell_exQ hy s3;replace s4:=cell_exQ hy s4;replace Kd:=kE Kd hy;replace V1:=Lib.hid (V1.out.ext hy);clear hy;obtain⟨ni,ai,qi,ci,bi,ki,di,rfl,hv',hf',hg'⟩:=hv;have Vi:=Lib.hid hv';have Fi:Hid (FreshC wr.heap.size ⟨ni,ai,qi,ci,false,bi,ki,di⟩):=Lib.hid ⟨fun _ A hA=>Nat.le_trans hzx (hf' A hA),fun _ A hA=>Nat.le_trans hzx (hg' A hA)⟩;clear hv' hf' hg' hzx
       refine hK.out _ _ ?_ (fun hHeld2=>?_)
       ·exact⟨s0,s1,s2,s3,s4⟩
       clear hK K hHeld
       have hHeld:=hHeld2
       clear hHeld2
       (try simp only [Act.put,pus])
       refine wpAnyH_ready (rs:=[9]) (by kernel_rfl) (by simp) ?_
       refine AllReadyH.cons (o:=_) rfl (fun K hK=>?_) ?_
       ·go_simp
        (with_reducible refine(rSub_valR (i:=1) (j:=7) Vi.out V1.out (mark_sz HZM.out) HZ1.out (by omega)).mono ?_);rintro e x39 ⟨v2,rfl,hv,hy⟩;have hzx:=hE.size;replace hE:=hE.trans hy;replace hx:=hx.trans hy;replace s0:=cell_exQ hy s0;replace s1:=cell_exQ hy s1;replace s2:=cell_exQ hy s2;replace s3:=cell_exQ hy s3;replace s4:=cell_exQ hy s4;replace Kd:=kE Kd hy;replace V1:=Lib.hid (V1.out.ext hy);replace Vi:=Lib.hid (Vi.out.ext hy);clear hy;obtain⟨nd,ad,qd,cd,bd,kd,dd,rfl,hv',hf',hg'⟩:=hv;have Vd:=Lib.hid hv';have Fd:Hid (FreshC wr.heap.size ⟨nd,ad,qd,cd,false,bd,kd,dd⟩):=Lib.hid ⟨fun _ A hA=>Nat.le_trans hzx (hf' A hA),fun _ A hA=>Nat.le_trans hzx (hg' A hA)⟩;clear hv' hf' hg' hzx
        refine hK.out _ _ ?_ (fun hHeld2=>?_)
        ·exact⟨s0,s1,s2,s3,s4⟩
        clear hK K hHeld
        have hHeld:=hHeld2
        clear hHeld2
        (try simp only [Act.put,pus])
        refine tk (v:=?_) 10 rfl (by kernel_rfl) (fun _ _ _ h=>h) (by rfl) ?_ (by assumption) ?_
        rotate_left
        ·(intro w hSw;(try dsimp only at hSw);(try go_simp);(try with_reducible rfl))
        (try simp only [Act.put,pus])
        refine tk (v:=?_) 11 rfl (by kernel_rfl) (fun _ _ _ h=>h) (by rfl) ?_ (by assumption) ?_
        rotate_left
        ·(intro w hSw;(try dsimp only at hSw);(try go_simp);(try with_reducible rfl))
        (try simp only [Act.put,pus])
        refine tk (v:=?_) 12 rfl (by kernel_rfl) (fun _ _ _ h=>h) (by rfl) ?_ (by assumption) ?_
        rotate_left
        ·(intro w hSw;(try dsimp only at hSw);(try go_simp);(try with_reducible rfl))
        (try simp only [Act.put,pus])
        refine wpAnyH_ready (rs:=[14]) (by kernel_rfl) (by simp) ?_
        refine AllReadyH.cons (o:=_) rfl (fun K hK=>?_) ?_
        ·obtain⟨g0,z0,g1,z1,g2,z2,g3,z3⟩:=bp4 Kd (.bool nd) (.slice ad qd cd) (.bool false) (.slice bd kd dd);go_simp;clear g0 z0 g1 z1 g2 z2 g3 z3;replace V1:=(by first | exact rv4 V1 Kd (.bool nd) (.slice ad qd cd) (.bool false) (.slice bd kd dd) rfl rfl rfl rfl | exact bv4 V1 Kd (.bool nd) (.slice ad qd cd) (.bool false) (.slice bd kd dd) rfl rfl rfl rfl);replace Vi:=(by first | exact rv4 Vi Kd (.bool nd) (.slice ad qd cd) (.bool false) (.slice bd kd dd) rfl rfl rfl rfl | exact bv4 Vi Kd (.bool nd) (.slice ad qd cd) (.bool false) (.slice bd kd dd) rfl rfl rfl rfl);replace Vd:=(by first | exact rv4 Vd Kd (.bool nd) (.slice ad qd cd) (.bool false) (.slice bd kd dd) rfl rfl rfl rfl | exact bv4 Vd Kd (.bool nd) (.slice ad qd cd) (.bool false) (.slice bd kd dd) rfl rfl rfl rfl);replace hx:=bx4 hx (pd) (.bool nd) (.slice ad qd cd) (.bool false) (.slice bd kd dd) (by omega);replace hE:=bx4 hE (pd) (.bool nd) (.slice ad qd cd) (.bool false) (.slice bd kd dd) (by omega);replace s0:=bf4 s0 (pd) (.bool nd) (.slice ad qd cd) (.bool false) (.slice bd kd dd) (by omega);replace s1:=bf4 s1 (pd) (.bool nd) (.slice ad qd cd) (.bool false) (.slice bd kd dd) (by omega);replace s2:=bf4 s2 (pd) (.bool nd) (.slice ad qd cd) (.bool false) (.slice bd kd dd) (by omega);replace s3:=bf4 s3 (pd) (.bool nd) (.slice ad qd cd) (.bool false) (.slice bd kd dd) (by omega);replace s4:=bf4 s4 (pd) (.bool nd) (.slice ad qd cd) (.bool false) (.slice bd kd dd) (by omega);replace Kd:=bs4 Kd (.bool nd) (.slice ad qd cd) (.bool false) (.slice bd kd dd);generalize (World.setCell (World.setCell (World.setCell (World.setCell x39 ⟨pd,0,none⟩ (.bool nd)) ⟨pd,1,none⟩ (.slice ad qd cd)) ⟨pd,2,none⟩ (.bool false)) ⟨pd,3,none⟩ (.slice bd kd dd))=xe at *
         refine hK.out _ _ ?_ (fun hHeld2=>?_)
         ·exact⟨s0,s1,s2,s3,s4⟩
         clear hK K hHeld
         have hHeld:=hHeld2
         clear hHeld2
         (try simp only [Act.put,pus])
         refine tk (v:=?_) 15 rfl (by kernel_rfl) (fun _ _ _ h=>h) (by rfl) ?_ (by assumption) ?_
         rotate_left
         ·(intro w hSw;(try dsimp only at hSw);(try go_simp);(try with_reducible rfl))
         (try simp only [Act.put,pus])
         refine wpAnyH_done (by kernel_rfl) ?_ _
         (go_wp2_with fail;go_meet;exact⟨_,_,_,_,_,_,_,_,rfl,rfl,Kd.out,Vd.out,Fd.out,hE⟩)
        exact AllReadyH.nil
       exact AllReadyH.nil
      exact AllReadyH.nil
     exact AllReadyH.nil
    case rest=>
     obtain⟨pd,nd,ad,qd,cd,bd,kd,dd,rfl,rfl,hB,hv,hfr,hy⟩:=hcut
     replace hxr:=hxr.trans hy
     have HO1:=Lib.hid (HO.out.ext hy)
     have HVd:=Lib.hid hv
     have HFd:=Lib.hid hfr
     obtain⟨s0,s1,s2,s3⟩:=bk4 (Lib.hid hB)
     clear hv hB hfr hy hc g0 g1 g2 g3
     go_upto_region 10 with fail
     have HBz:=Lib.hid (Blk.new0 wc #[.bool nd,.slice ad qd cd,.bool false,.slice bd kd dd] 38)
     have hya:=Ext.alloc wc (.cells #[.bool nd,.slice ad qd cd,.bool false,.slice bd kd dd] 38)
     have HXa:=Lib.hid (hxr.trans hya)
     have HOa:=Lib.hid (HO1.out.ext hya)
     have HVa:=Lib.hid (HVd.out.ext hya)
     clear hya
     go_wp2_with (at_builtin;refine wpl_append_o rfl (.tmp 42) (.tmp 44) rfl HXa.out rfl HOa.out rfl (x:=⟨nd,ad,qd,cd,false,bd,kd,dd⟩) (r:=some ((z:Rat) - sv)) HBz.out HVa.out (HFd.out.off hlt.out) (by have:=HXL.out;omega) ?_;intro v' w3 hO' hE' hg' hat')
     obtain⟨ua,uc,rfl,hul,huc⟩:=hO'.form
     go_roundw
     case rel=>exact⟨q+1,by omega,by go_num,_,(by rw [rowO_take l S hqn,HZ.out,if_neg HNE.out,HS.out];exact hO'),(fun x hx=>by rcases List.mem_append.1 hx with h | h;exact HF.out x h;rw [List.mem_singleton.1 h];exact HFd.out.base HSZ.out),hE'⟩
     case measure=>simp [intOf];omega
  ·have q2:¬ (q:Int)< (l.length:Int):=by omega
   have hqe:q=l.length:=by omega
   subst hqe
   have HO2:=Lib.hid (by have:=HO.out;rwa [List.take_of_length_le (by rw [rowO_len];exact Nat.le_refl _)] at this)
   clear HO
   go_wp2_with fail
   go_ret2
   exact⟨_,xs,rfl,HO2.out,HF.out,HXR.out⟩
end Go.Proofs.YtolffmmkjnhkkaaGreat
