import Derived.Test.YtonkhcdmchidjaaGreatYR
set_option maxHeartbeats 8000000
namespace Go.Proofs.YtonkhcdmchidjaaGreat
open Go.RowKit Go BigFrame Go.Shelf
set_option maxRecDepth 100000
set_option linter.all false
attribute [local go_sem] Oper.semAt_some
theorem zNn {w:World} {n1 n2:Bool} {a b:Option Addr} {q c k d B:Nat} {r:Rat} (h1:BigV w (.agg #[.bool n1,.slice a q c]) r.num) (h2:BigV w (.agg #[.bool n2,.slice b k d]) (r.den:Int)) (h3:∀A,a=some A→B≤A.block) (h4:∀A,b=some A→B≤A.block):
 RatN w (.agg #[.bool n1,.slice a q c,.bool n2,.slice b k d]) r B:=by
 have hv:=RatV.mk h1 h2;obtain⟨n1',a',q',c',b',k',d',e⟩:=hv.form;have e':=e;simp only [Value.agg.injEq,Array.mk.injEq,List.cons.injEq,Value.bool.injEq,Value.slice.injEq,and_true] at e';obtain⟨rfl,⟨rfl,rfl,rfl⟩,rfl,⟨rfl,rfl,rfl⟩⟩:=e';exact⟨_,_,_,_,_,_,_,rfl,hv,h3,h4⟩
theorem zF4 (n:Int) (w:World) (hn:-9223372036854775808≤n∧n≤9223372036854775807):Calls Tryz.prog 28 #[.int .i64 n] w (zNN (n:Rat) w):=by
 have HN:=dH hn;clear hn;obtain⟨x1,hw,hx,Kr⟩:=zCh w #[.bool false,.slice none 0 0,.bool false,.slice none 0 0] 38;replace hw:=dH hw;go_enter Tryz.func28,Tryz.ntmps28;go_upto_region 1 with fail
 try simp only [Nat.add_assoc,Nat.reduceAdd,Nat.add_zero]
 rw [hw.out];clear hw;have hs0:=hx.size;obtain⟨cr0,cr1,cr2,cr3⟩:=bk4 Kr;have hsz:=hx.size;go_wp2_with fail;clear cr0 cr1 cr2 cr3;refine(zIc n _ HN.out).mono ?_;rintro e x2 ⟨v,rfl,hv,hy⟩;replace hx:=hx.trans hy;replace Kr:=kE Kr hy;clear hy;obtain⟨nu,au,qu,cu,rfl,hv',hf'⟩:=hv.two;have Vu:=dH hv';have Fu:=dH (fun A hA=>Nat.le_trans hsz (hf' A hA));clear hv' hf' hsz;obtain⟨cr0,cr1,cr2,cr3⟩:=bk4 Kr;have hsz:=hx.size;go_wp2_with fail;clear cr0 cr1 cr2 cr3;refine(zIc 1 _ (by omega)).mono ?_;rintro e x3 ⟨v,rfl,hv,hy⟩;replace hx:=hx.trans hy;replace Kr:=kE Kr hy;replace Vu:=dH (Vu.out.ext hy);clear hy;obtain⟨nv,av,qv,cv,rfl,hv',hf'⟩:=hv.two;have Vv:=dH hv';have Fv:=dH (fun A hA=>Nat.le_trans hsz (hf' A hA));clear hv' hf' hsz;obtain⟨cr0,cr1,cr2,cr3⟩:=bk4 Kr;obtain⟨g0,z0,g1,z1,g2,z2,g3,z3⟩:=bp4 Kr (.bool nu) (.slice au qu cu) (.bool nv) (.slice av qv cv);go_wp2_with fail;clear g0 z0 g1 z1 g2 z2 g3 z3;clear cr0 cr1 cr2 cr3;replace Vu:=(by first | exact rv4 Vu Kr (.bool nu) (.slice au qu cu) (.bool nv) (.slice av qv cv) rfl rfl rfl rfl | exact bv4 Vu Kr (.bool nu) (.slice au qu cu) (.bool nv) (.slice av qv cv) rfl rfl rfl rfl)
 replace Vv:=(by first | exact rv4 Vv Kr (.bool nu) (.slice au qu cu) (.bool nv) (.slice av qv cv) rfl rfl rfl rfl | exact bv4 Vv Kr (.bool nu) (.slice au qu cu) (.bool nv) (.slice av qv cv) rfl rfl rfl rfl)
 replace hx:=bx4 hx (w.heap.size) (.bool nu) (.slice au qu cu) (.bool nv) (.slice av qv cv) (by omega);replace Kr:=bs4 Kr (.bool nu) (.slice au qu cu) (.bool nv) (.slice av qv cv);generalize ((((x3).setCell ⟨w.heap.size,0,none⟩ (.bool nu)).setCell ⟨w.heap.size,1,none⟩ (.slice au qu cu)).setCell ⟨w.heap.size,2,none⟩ (.bool nv)).setCell ⟨w.heap.size,3,none⟩ (.slice av qv cv)=x4 at *;obtain⟨cr0,cr1,cr2,cr3⟩:=bk4 Kr;refine bodyPost_ret (v:=.agg #[.bool nu,.slice au qu cu,.bool nv,.slice av qv cv]) (by simp [results,Tryz.results28,go_sem,cr0,cr1,cr2,cr3]) rfl ?_;exact⟨_,rfl,zNn (by simpa using Vu.out) (by simpa using Vv.out) Fu.out Fv.out,hx⟩
theorem RowR.cellsY {w:World} {a:Option Addr} {cap N:Nat} {V:Nat→RatC} {f:Nat→Rat} (h:RowR w a cap N V f) {k:Nat} (hk:k<N):∃b o n1 a1 q1 c1 m1 b1 k1 d1,a=some ⟨b,o,none⟩∧w.cell? ⟨b,o+k*4,none⟩=some (.bool n1)∧w.cell? ⟨b,o+k*4+1,none⟩=some (.slice a1 q1 c1)∧w.cell? ⟨b,o+k*4+2,none⟩=some (.bool m1)∧w.cell? ⟨b,o+k*4+3,none⟩=some (.slice b1 k1 d1)∧RatV w (.agg #[.bool n1,.slice a1 q1 c1,.bool m1,.slice b1 k1 d1]) (f k):=by
 obtain⟨b,o,rfl⟩:=h.head hk;obtain⟨_,g0,g1,g2,g3⟩:=h.cells _ rfl k hk;exact⟨b,o,_,_,_,_,_,_,_,_,rfl,g0,g1,g2,g3,h.val k hk⟩
theorem zLQ {N M:Nat} {f g:Nat→Rat} {E:Bool} (hE:zDt N M f g=E) (h:N≠M):false=E:=by rw [←hE];unfold zDt;rw [decide_eq_false h];rfl
theorem zLR {N M:Nat} {f g:Nat→Rat} {E:Bool} (hE:zDt N M f g=E) {k:Nat} (hk:k<N) (h:¬f k=g k):false=E:=by
 rw [←hE];unfold zDt;have:(List.range N).all (fun c=>decide (f c=g c))=false:=by
  rw [Bool.eq_false_iff];exact fun e=>h (by simpa using List.all_eq_true.1 e k (List.mem_range.2 hk))
 rw [this,Bool.and_false]
theorem zLS {N M:Nat} {f g:Nat→Rat} {E:Bool} (hE:zDt N M f g=E) (h:N=M) (hk:∀k,k<N→f k=g k):true=E:=by
 rw [←hE];unfold zDt;rw [decide_eq_true h,Bool.true_and]
 symm
 exact List.all_eq_true.2 fun k hk2=>by simpa using hk k (List.mem_range.1 hk2)
theorem zCU (a b:Option Addr) (ca cb N M:Nat) (V U:Nat→RatC) (f g:Nat→Rat) (w:World) (hx0:RowR w a ca N V f) (hy0:RowR w b cb M U g):Calls Tryz.prog 37 #[.slice a N ca,.slice b M cb] w fun e w'=>e=.returned (.bool (zDt N M f g))∧Ext w w':=by
 have xle:=hx0.le;have xmx:=hx0.mx;have yle:=hy0.le;have ymx:=hy0.mx;obtain⟨E,hE⟩:∃E,zDt N M f g=E:=⟨_,rfl⟩
 rw [hE];have HE:=dH hE;have HX:=dH hx0;have HY:=dH hy0;clear hx0 hy0 hE;have hx:=Ext.refl w;by_cases hlen:N=M
 ·have t1:((N:Int) != (M:Int))=false:=by simp [hlen]
  have HLN:=dH hlen;clear hlen;go_enter Tryz.func37,Tryz.ntmps37;go_wp2_with fail
  go_loopw [5] (fun i wr=>∃k:Nat,k≤N∧i=.int .i64 k∧(∀j,j<k→f j=g j)∧Ext w wr) (fun i _=>N - (intOf i).toNat)
  case atStart=>exact⟨0,Nat.zero_le _,rfl,fun j hj=>by omega,hx⟩
  case round=>
   obtain⟨k,hk,rfl,hall,hxr⟩:=hrel;have q1:(0:Int)≤(k:Int):=by omega
   clear hx;by_cases hkn:k<N
   ·have hky:k<M:=by have:=HLN.out;omega
    have q2:(k:Int)< (N:Int):=by omega
    have q3:(k:Int)< (M:Int):=by omega
    have hw1:IntKind.i64.wrap ((k:Int)+1)= (k:Int)+1:=IntWalk.i64_in _ (by omega);obtain⟨b,o,n1,a1,q1',c1,m1,b1,k1,d1,rfl,g0,g1,g2,g3,V1⟩:=(HX.out.ext hxr).cellsY hkn;obtain⟨b2,o2,n2,a2,q2',c2,m2,b2',k2,d2,rfl,h0,h1,h2,h3,V2⟩:=(HY.out.ext hxr).cellsY hky;have HS:=dH (fun W (hW:Ext wr W)=>zGb (V1.ext hW) (V2.ext hW));have HAL:=dH hall;have HXR:=dH hxr;clear V1 V2 hall hxr;go_upto_region 6 with fail;have hE:Ext wr (World.drew wr):=(Ext.refl _).drew;replace g0:=zA0 hE g0;replace g1:=zA0 hE g1;replace g2:=zA0 hE g2;replace g3:=zA0 hE g3;replace h0:=zA0 hE h0;replace h1:=zA0 hE h1;replace h2:=zA0 hE h2;replace h3:=zA0 hE h3;by_cases hfg:f k=g k
    ·have HFG:=dH hfg;rw [decide_eq_true hfg] at HS;clear hfg;refine wp_region_held_drew (S:=(fun w'=>w'.cell? ⟨b,o+k*4,none⟩=some (.bool n1)∧w'.cell? ⟨b,o+k*4+1,none⟩=some (.slice a1 q1' c1)∧w'.cell? ⟨b,o+k*4+2,none⟩=some (.bool m1)∧w'.cell? ⟨b,o+k*4+3,none⟩=some (.slice b1 k1 d1)∧w'.cell? ⟨b2,o2+k*4,none⟩=some (.bool n2)∧w'.cell? ⟨b2,o2+k*4+1,none⟩=some (.slice a2 q2' c2)∧w'.cell? ⟨b2,o2+k*4+2,none⟩=some (.bool m2)∧w'.cell? ⟨b2,o2+k*4+3,none⟩=some (.slice b2' k2 d2))) (by kernel_rfl) ?_ (fun hHeld=>?_)
     ·exact⟨g0,g1,g2,g3,h0,h1,h2,h3⟩
     (try simp only [pur,Nat.reduceAdd])
     generalize World.drew wr=x2 at *
     iterate 8
      refine tkR [0,1,2,3,4,5,6,7] (v:=?_) rfl rfl (by kernel_rfl) (fun _ _ _ h=>h) (by rfl) ?_ (by assumption) ?_;rotate_left
      ·(intro w hSw;(try dsimp only at hSw);(try go_simp);(try with_reducible rfl))
      (try simp only [Act.put,pus])
     refine wpAnyH_ready (rs:=[8]) (by kernel_rfl) (by simp) ?_;refine AllReadyH.cons (o:=_) rfl (fun K hK=>?_) ?_
     ·go_simp
      (with_reducible refine(HS.out _ hE).mono ?_);rintro e x3 ⟨rfl,hy⟩;replace hE:=hE.trans hy;replace g0:=zA0 hy g0;replace g1:=zA0 hy g1;replace g2:=zA0 hy g2;replace g3:=zA0 hy g3;replace h0:=zA0 hy h0;replace h1:=zA0 hy h1;replace h2:=zA0 hy h2;replace h3:=zA0 hy h3;clear hy
      refine hK.out _ _ ?_ ?_
      ·exact⟨g0,g1,g2,g3,h0,h1,h2,h3⟩
      clear hK K hHeld;intro hHeld
      (try simp only [Act.put,pus])
      refine tk (v:=?_) 9 rfl (by kernel_rfl) (fun _ _ _ h=>h) (by rfl) ?_ (by assumption) ?_;rotate_left
      ·(intro w hSw;(try dsimp only at hSw);(try go_simp);(try with_reducible rfl))
      (try simp only [Act.put,pus])
      refine wpAnyH_done (by kernel_rfl) ?_ _;go_wp2_with fail;go_roundw
      case rel=>exact⟨k+1,by omega,by go_num,fun j hj=>(if e:j=k then e ▸ HFG.out else HAL.out j (by omega)),HXR.out.trans hE⟩
      case measure=>simp [intOf];omega
     exact AllReadyH.nil
    ·have HFG:=dH (zLR HE.out hkn hfg);rw [decide_eq_false hfg] at HS;clear hfg;refine wp_region_held_drew (S:=(fun w'=>w'.cell? ⟨b,o+k*4,none⟩=some (.bool n1)∧w'.cell? ⟨b,o+k*4+1,none⟩=some (.slice a1 q1' c1)∧w'.cell? ⟨b,o+k*4+2,none⟩=some (.bool m1)∧w'.cell? ⟨b,o+k*4+3,none⟩=some (.slice b1 k1 d1)∧w'.cell? ⟨b2,o2+k*4,none⟩=some (.bool n2)∧w'.cell? ⟨b2,o2+k*4+1,none⟩=some (.slice a2 q2' c2)∧w'.cell? ⟨b2,o2+k*4+2,none⟩=some (.bool m2)∧w'.cell? ⟨b2,o2+k*4+3,none⟩=some (.slice b2' k2 d2))) (by kernel_rfl) ?_ (fun hHeld=>?_)
     ·exact⟨g0,g1,g2,g3,h0,h1,h2,h3⟩
     (try simp only [pur,Nat.reduceAdd])
     generalize World.drew wr=x2 at *
     iterate 8
      refine tkR [0,1,2,3,4,5,6,7] (v:=?_) rfl rfl (by kernel_rfl) (fun _ _ _ h=>h) (by rfl) ?_ (by assumption) ?_;rotate_left
      ·(intro w hSw;(try dsimp only at hSw);(try go_simp);(try with_reducible rfl))
      (try simp only [Act.put,pus])
     refine wpAnyH_ready (rs:=[8]) (by kernel_rfl) (by simp) ?_;refine AllReadyH.cons (o:=_) rfl (fun K hK=>?_) ?_
     ·go_simp
      (with_reducible refine(HS.out _ hE).mono ?_);rintro e x3 ⟨rfl,hy⟩;replace hE:=hE.trans hy;replace g0:=zA0 hy g0;replace g1:=zA0 hy g1;replace g2:=zA0 hy g2;replace g3:=zA0 hy g3;replace h0:=zA0 hy h0;replace h1:=zA0 hy h1;replace h2:=zA0 hy h2;replace h3:=zA0 hy h3;clear hy
      refine hK.out _ _ ?_ ?_
      ·exact⟨g0,g1,g2,g3,h0,h1,h2,h3⟩
      clear hK K hHeld;intro hHeld
      (try simp only [Act.put,pus])
      refine tk (v:=?_) 9 rfl (by kernel_rfl) (fun _ _ _ h=>h) (by rfl) ?_ (by assumption) ?_;rotate_left
      ·(intro w hSw;(try dsimp only at hSw);(try go_simp);(try with_reducible rfl))
      (try simp only [Act.put,pus])
      refine wpAnyH_done (by kernel_rfl) ?_ _;go_wp2_with fail;go_ret;exact⟨by rw [←HFG.out];rfl,HXR.out.trans hE⟩
     exact AllReadyH.nil
   ·have q2:¬ (k:Int)< (N:Int):=by omega
    have HF:=dH (zLS HE.out HLN.out fun j hj=>hall j (by omega));clear hall;go_wp2_with fail;go_ret;exact⟨by rw [←HF.out];rfl,hxr⟩
 ·have t1:((N:Int) != (M:Int))=true:=by simp only [bne_iff_ne,ne_eq];omega
  have HF:=dH (zLQ HE.out hlen);clear hlen;go_enter Tryz.func37,Tryz.ntmps37;go_wp2_with fail;go_ret;exact⟨by rw [←HF.out];rfl,hx⟩
def zF5 (N M n m:Nat) (f g p q:Nat→Rat):Bool:=zDt N M f g && zDt n m p q
theorem zDV (a b c d:Option Addr) (ca cb cc cd N M n m:Nat) (V U X Y:Nat→RatC) (f g p q:Nat→Rat) (w:World) (h1:RowR w a ca N V f) (h2:RowR w b cb n X p) (h3:RowR w c cc M U g) (h4:RowR w d cd m Y q):Calls Tryz.prog 23 #[.agg #[.slice a N ca,.slice b n cb],.agg #[.slice c M cc,.slice d m cd]] w fun e w'=>e=.returned (.bool (zF5 N M n m f g p q))∧Ext w w':=by
 obtain⟨x1,hw,hx,K1,K2⟩:=zGI w #[.slice a N ca,.slice b n cb] 25 #[.slice c M cc,.slice d m cd] 25;replace hw:=dH hw;have H1:=dH (fun W (k:Ext w W)=>zCU a c ca cc N M V U f g W (h1.ext k) (h3.ext k));have H2:=dH (fun W (k:Ext w W)=>zCU b d cb cd n m X Y p q W (h2.ext k) (h4.ext k));unfold zF5;clear h1 h2 h3 h4;generalize zDt N M f g=s1 at *;generalize zDt n m p q=s2 at *;go_enter Tryz.func23,Tryz.ntmps23;go_upto_region 1 with fail
 try simp only [Nat.add_assoc,Nat.reduceAdd,Nat.add_zero]
 rw [hw.out];clear hw;obtain⟨e0,e1⟩:=bk2 K1;obtain⟨e2,e3⟩:=bk2 K2;go_wp2_with fail;refine(H1.out _ hx).mono ?_;rintro e x2 ⟨rfl,hy⟩;replace hx:=hx.trans hy;replace e0:=zA0 hy e0;replace e1:=zA0 hy e1;replace e2:=zA0 hy e2;replace e3:=zA0 hy e3;clear hy;cases s1
 ·go_wp2_with fail;go_ret;exact⟨rfl,hx⟩
 ·go_wp2_with fail;refine(H2.out _ hx).mono ?_;rintro e x3 ⟨rfl,hy⟩;replace hx:=hx.trans hy;go_wp2_with fail;go_ret;exact⟨rfl,hx⟩
def zOn (l:List Int) (w:World) (e:Ending) (w':World):Prop:=∃v K,e=.returned v∧OwnRats w' w.heap.size v K (l.map fun(x:Int)=>(x:Rat))∧Ext w w'
theorem zJh (a:Option Addr) (cap:Nat) (l:List Int) (w:World) (h:Ints w a cap l) (hl:l.length≤1000):Calls Tryz.prog 50 #[.slice a l.length cap] w (zOn l w):=by
 have HH:=dH h;have hle:=h.le;have hmx:=h.mx;clear h;go_enter Tryz.func50,Tryz.ntmps50;go_wp2_with fail
 go_loopw [2,7] (fun s i wr=>∃k:Nat,k≤l.length∧i=.int .i64 k∧∃Kr,OwnRats wr w.heap.size s Kr ((l.take k).map fun(x:Int)=>(x:Rat))∧Ext w wr) (fun _ i _=>l.length - (intOf i).toNat)
 case atStart=>exact⟨0,Nat.zero_le _,rfl,[],by simpa using OwnRats.nil _ _,Ext.refl _⟩
 case round=>
  obtain⟨k,hk,rfl,Kr,ho,hxk⟩:=hrel;have k0:(0:Int)≤(k:Int):=by omega
  have hkl:Kr.length=k:=by have:=ho.len;rwa [List.length_map,List.length_take,Nat.min_eq_left hk] at this
  obtain⟨ar,cr,rfl,hrl2,hrc2⟩:=ho.form;have HO:=dH ho;have HXK:=dH hxk;have HKR:=dH hkl;clear ho hxk hkl;by_cases hkn:k<l.length
  ·have k1:(k:Int)< (l.length:Int):=by omega
   have hw2:IntKind.i64.wrap ((k:Int)+1)= (k:Int)+1:=IntWalk.i64_in _ (by omega);obtain⟨b2,o2,rfl⟩:=HH.out.head hkn;obtain⟨x,hx,hcx,hx1,hx2⟩:=Ints.get (HH.out.ext HXK.out) hkn;have HT:=dH (zB0 hx);clear hx;go_wp2_with fail;refine(zF4 x _ ⟨hx1,hx2⟩).mono ?_;rintro e9 y1 ⟨v9,rfl,⟨nz,az,qz,cz,bz,kz,dz,rfl,hv',hf',hg'⟩,hE⟩;have hya:=Ext.alloc y1 (.cells #[.bool nz,.slice az qz cz,.bool false,.slice bz kz dz] 38);have HBz:=dH (Blk.new0 y1 #[.bool nz,.slice az qz cz,.bool false,.slice bz kz dz] 38);have hlt:=HO.out.lt;have HOFF:Hid (RatC.Off ⟨nz,az,qz,cz,false,bz,kz,dz⟩ (Value.slice ar Kr.length cr).ownBlock):=dH ⟨fun _ A hA e=>by have:=hf' A hA;have:=(hlt _ e).2;omega,fun _ A hA e=>by have:=hg' A hA;have:=(hlt _ e).2;omega⟩;have HXa:=dH ((HXK.out.trans hE).trans hya);have HOa:=dH ((HO.out.ext hE).ext hya);have HVa:=dH (RatV.ext hv' hya);clear hya hE hlt hv' hf' hg' hcx HO HXK
   go_wp2_with (at_builtin;refine zBU rfl (.tmp 11) (.tmp 14) rfl HXa.out rfl HOa.out rfl (x:=⟨nz,az,qz,cz,false,bz,kz,dz⟩) (r:=(x:Rat)) HBz.out HVa.out HOFF.out (by have:=HKR.out;omega) ?_;intro v' w3 hO' hE' hg' hat')
   obtain⟨ua,uc,rfl,hul,huc⟩:=hO'.form;go_roundw
   case rel=>exact⟨k+1,by omega,by go_num,_,(by rw [HT.out,List.map_append,List.map_singleton];exact hO'),hE'⟩
   case measure=>simp [intOf];omega
  ·have k1:¬ (k:Int)< (l.length:Int):=by omega
   have hP:zOn l w (.returned (.slice ar Kr.length cr)) wr:=⟨_,Kr,rfl,by have h9:=HO.out;rw [List.take_of_length_le (by omega)] at h9;exact h9,HXK.out⟩
   have HP:=dH hP;clear hP HO HXK;go_wp2_with fail;go_ret;exact HP.out
def zFm (r:List Int):Bool:=(decide (4<r.length) && decide (r.length≤16)) || decide (30<r.length)
def zDf (m:List (List Int)):Bool:=!((decide (6<m.length) && decide (m.length≤64)) || decide (80<m.length)) && m.all fun r=>!zFm r
theorem zF6 {m:List (List Int)} (h:zDf m=true) (hE:zBJ m=0):m.length≤6∧(m.headD []).length≤4:=by
 have ha:=zAJ hE;unfold zDf at h;rw [Bool.and_eq_true] at h;have h1:=h.1;have hr:=ha.rows
 constructor
 ·by_cases h9:m.length≤6
  ·exact h9
  ·rw [decide_eq_true (by omega:6<m.length),decide_eq_true hr] at h1;cases h1
 ·cases m with
  | nil=>simp
  | cons r t=>
   have h2:=List.all_eq_true.1 h.2 r (by simp);have hw:=ha.wide r (by simp);show r.length≤4;by_cases h9:r.length≤4
   ·exact h9
   ·unfold zFm at h2;rw [decide_eq_true (by omega:4<r.length),decide_eq_true hw] at h2;cases h2
theorem zNo {m:List (List Int)} {E:Bool} (hE:zDf m=E) (h:((decide (6<m.length) && decide (m.length≤64)) || decide (80<m.length))=true):false=E:=by
 rw [←hE];unfold zDf;rw [h];rfl
theorem zKx {m:List (List Int)} {E:Bool} (hE:zDf m=E) {r:List Int} (hr:r∈m) (h:zFm r=true):false=E:=by
 rw [←hE];unfold zDf;have:m.all (fun r=>!zFm r)=false:=by
  rw [Bool.eq_false_iff];exact fun e=>by have:=List.all_eq_true.1 e r hr;rw [h] at this;cases this
 rw [this,Bool.and_false]
theorem zMt {m:List (List Int)} {E:Bool} (hE:zDf m=E) (h:((decide (6<m.length) && decide (m.length≤64)) || decide (80<m.length))=false) (k:m.any zFm=false):true=E:=by
 rw [←hE];unfold zDf;rw [h,Bool.not_false,Bool.true_and]
 symm
 refine List.all_eq_true.2 fun r hr=>?_;have:¬zFm r=true:=fun e=>by rw [List.any_eq_true.2 ⟨r,hr,e⟩] at k;cases k
 simpa using this
theorem zKy (a:Option Addr) (cap:Nat) (m:List (List Int)) (w:World) (h:Rows w a cap m):Calls Tryz.prog 15 #[.slice a m.length cap] w fun e w'=>e=.returned (.bool (zDf m))∧Ext w w':=by
 have HH:=dH h;have hle:=h.le;have hmx:=h.mx;obtain⟨E,hE⟩:∃E,zDf m=E:=⟨_,rfl⟩
 rw [hE];have HE:=dH hE;clear h hE;go_enter Tryz.func15,Tryz.ntmps15;have hx:=Ext.refl w;by_cases h1:((decide (6<m.length) && decide (m.length≤64)) || decide (80<m.length))=true
 ·have HF:=dH (zNo HE.out h1);by_cases h6:6<m.length
  ·have i1:(6:Int)< (m.length:Int):=by omega
   by_cases h64:m.length≤64
   ·have i2:(m.length:Int)≤64:=by omega
    clear h1;go_wp2_with fail;go_ret;exact⟨by rw [←HF.out];rfl,hx⟩
   ·have i2:¬ (m.length:Int)≤64:=by omega
    have i3:(80:Int)< (m.length:Int):=by
     rw [decide_eq_false h64,Bool.and_false,Bool.false_or] at h1;have:=of_decide_eq_true h1;omega
    clear h1;go_wp2_with fail;go_ret;exact⟨by rw [←HF.out];rfl,hx⟩
  ·rw [decide_eq_false h6,Bool.false_and,Bool.false_or] at h1;have:=of_decide_eq_true h1;omega
 ·have h1:((decide (6<m.length) && decide (m.length≤64)) || decide (80<m.length))=false:=by simpa using h1
  have HN:=dH h1;have i3:¬ (80:Int)< (m.length:Int):=by
   rw [Bool.or_eq_false_iff] at h1;have:=of_decide_eq_false h1.2;omega
  have h6:m.length≤6∨64<m.length:=by
   rw [Bool.or_eq_false_iff,Bool.and_eq_false_iff] at h1;rcases h1.1 with h9 | h9
   ·exact .inl (by have:=of_decide_eq_false h9;omega)
   ·exact .inr (by have:=of_decide_eq_false h9;omega)
  clear h1;rcases h6 with h6 | h6
  ·have i1:¬ (6:Int)< (m.length:Int):=by omega
   go_wp2_with fail
   go_loopw [3] (fun i wr=>∃q:Nat,q≤m.length∧i=.int .i64 q∧(m.take q).any zFm=false∧Ext w wr) (fun i _=>m.length - (intOf i).toNat)
   case atStart=>exact⟨0,Nat.zero_le _,rfl,rfl,hx⟩
   case round=>
    obtain⟨q,hq,rfl,hall,hxr⟩:=hrel;have q0:(0:Int)≤(q:Int):=by omega
    clear hx;by_cases hqn:q<m.length
    ·have q1:(q:Int)< (m.length:Int):=by omega
     have hw1:IntKind.i64.wrap ((q:Int)+1)= (q:Int)+1:=IntWalk.i64_in _ (by omega);obtain⟨b,o,rfl⟩:=HH.out.head hqn;obtain⟨r,ar,cr,hr,hc,hI⟩:=Rows.get (HH.out.ext hxr) hqn;have rle:=hI.le;have rmx:=hI.mx;have HR:=dH hr;have HAL:=dH hall;have HXR:=dH hxr;clear hr hI hall hxr;by_cases hm:zFm r=true
     ·have HF:=dH (zKx HE.out (List.mem_of_getElem? HR.out) hm);by_cases h4:4<r.length
      ·have j1:(4:Int)< (r.length:Int):=by omega
       by_cases h16:r.length≤16
       ·have j2:(r.length:Int)≤16:=by omega
        clear hm;go_wp2_with fail;go_ret;exact⟨by rw [←HF.out];rfl,HXR.out⟩
       ·have j2:¬ (r.length:Int)≤16:=by omega
        have j3:(30:Int)< (r.length:Int):=by
         unfold zFm at hm;rw [decide_eq_false h16,Bool.and_false,Bool.false_or] at hm;have:=of_decide_eq_true hm;omega
        clear hm;go_wp2_with fail;go_ret;exact⟨by rw [←HF.out];rfl,HXR.out⟩
      ·unfold zFm at hm;rw [decide_eq_false h4,Bool.false_and,Bool.false_or] at hm;have:=of_decide_eq_true hm;omega
     ·have hm:zFm r=false:=by simpa using hm
      have HT:=dH (zBl HR.out HAL.out hm);have j3:¬ (30:Int)< (r.length:Int):=by
       unfold zFm at hm;rw [Bool.or_eq_false_iff] at hm;have:=of_decide_eq_false hm.2;omega
      have h4:r.length≤4∨16<r.length:=by
       unfold zFm at hm;rw [Bool.or_eq_false_iff,Bool.and_eq_false_iff] at hm;rcases hm.1 with h9 | h9
       ·exact .inl (by have:=of_decide_eq_false h9;omega)
       ·exact .inr (by have:=of_decide_eq_false h9;omega)
      clear hm;rcases h4 with h4 | h4
      ·have j1:¬ (4:Int)< (r.length:Int):=by omega
       go_wp2_with fail;go_roundw
       case rel=>exact⟨q+1,by omega,by go_num,HT.out,HXR.out⟩
       case measure=>simp [intOf];omega
      ·have j1:(4:Int)< (r.length:Int):=by omega
       have j2:¬ (r.length:Int)≤16:=by omega
       go_wp2_with fail;go_roundw
       case rel=>exact⟨q+1,by omega,by go_num,HT.out,HXR.out⟩
       case measure=>simp [intOf];omega
    ·have q1:¬ (q:Int)< (m.length:Int):=by omega
     have HF:=dH (zMt HE.out HN.out (by rw [List.take_of_length_le (by omega)] at hall;exact hall));clear hall;go_wp2_with fail;go_ret;exact⟨by rw [←HF.out];rfl,hxr⟩
  ·have i1:(6:Int)< (m.length:Int):=by omega
   have i2:¬ (m.length:Int)≤64:=by omega
   go_wp2_with fail
   go_loopw [3] (fun i wr=>∃q:Nat,q≤m.length∧i=.int .i64 q∧(m.take q).any zFm=false∧Ext w wr) (fun i _=>m.length - (intOf i).toNat)
   case atStart=>exact⟨0,Nat.zero_le _,rfl,rfl,hx⟩
   case round=>
    obtain⟨q,hq,rfl,hall,hxr⟩:=hrel;have q0:(0:Int)≤(q:Int):=by omega
    clear hx;by_cases hqn:q<m.length
    ·have q1:(q:Int)< (m.length:Int):=by omega
     have hw1:IntKind.i64.wrap ((q:Int)+1)= (q:Int)+1:=IntWalk.i64_in _ (by omega);obtain⟨b,o,rfl⟩:=HH.out.head hqn;obtain⟨r,ar,cr,hr,hc,hI⟩:=Rows.get (HH.out.ext hxr) hqn;have rle:=hI.le;have rmx:=hI.mx;have HR:=dH hr;have HAL:=dH hall;have HXR:=dH hxr;clear hr hI hall hxr;by_cases hm:zFm r=true
     ·have HF:=dH (zKx HE.out (List.mem_of_getElem? HR.out) hm);by_cases h4:4<r.length
      ·have j1:(4:Int)< (r.length:Int):=by omega
       by_cases h16:r.length≤16
       ·have j2:(r.length:Int)≤16:=by omega
        clear hm;go_wp2_with fail;go_ret;exact⟨by rw [←HF.out];rfl,HXR.out⟩
       ·have j2:¬ (r.length:Int)≤16:=by omega
        have j3:(30:Int)< (r.length:Int):=by
         unfold zFm at hm;rw [decide_eq_false h16,Bool.and_false,Bool.false_or] at hm;have:=of_decide_eq_true hm;omega
        clear hm;go_wp2_with fail;go_ret;exact⟨by rw [←HF.out];rfl,HXR.out⟩
      ·unfold zFm at hm;rw [decide_eq_false h4,Bool.false_and,Bool.false_or] at hm;have:=of_decide_eq_true hm;omega
     ·have hm:zFm r=false:=by simpa using hm
      have HT:=dH (zBl HR.out HAL.out hm);have j3:¬ (30:Int)< (r.length:Int):=by
       unfold zFm at hm;rw [Bool.or_eq_false_iff] at hm;have:=of_decide_eq_false hm.2;omega
      have h4:r.length≤4∨16<r.length:=by
       unfold zFm at hm;rw [Bool.or_eq_false_iff,Bool.and_eq_false_iff] at hm;rcases hm.1 with h9 | h9
       ·exact .inl (by have:=of_decide_eq_false h9;omega)
       ·exact .inr (by have:=of_decide_eq_false h9;omega)
      clear hm;rcases h4 with h4 | h4
      ·have j1:¬ (4:Int)< (r.length:Int):=by omega
       go_wp2_with fail;go_roundw
       case rel=>exact⟨q+1,by omega,by go_num,HT.out,HXR.out⟩
       case measure=>simp [intOf];omega
      ·have j1:(4:Int)< (r.length:Int):=by omega
       have j2:¬ (r.length:Int)≤16:=by omega
       go_wp2_with fail;go_roundw
       case rel=>exact⟨q+1,by omega,by go_num,HT.out,HXR.out⟩
       case measure=>simp [intOf];omega
    ·have q1:¬ (q:Int)< (m.length:Int):=by omega
     have HF:=dH (zMt HE.out HN.out (by rw [List.take_of_length_le (by omega)] at hall;exact hall));clear hall;go_wp2_with fail;go_ret;exact⟨by rw [←HF.out];rfl,hxr⟩
theorem zHn (a:Option Addr) (cap:Nat) (m:List (List Int)) (w:World) (h:Rows w a cap m):Calls Tryz.prog 47 #[.slice a m.length cap] w fun e w'=>e=.returned (.int .i64 ((m.headD []).length:Nat))∧w=w':=by
 have HH:=dH h;have hle:=h.le;have hmx:=h.mx;clear h;go_enter Tryz.func47,Tryz.ntmps47;by_cases h0:0<m.length
 ·have i1:((m.length:Int) == 0)=false:=by simp only [beq_eq_false_iff_ne];omega
  obtain⟨b,o,rfl⟩:=HH.out.head h0;obtain⟨r,ar,cr,hr,hc,hI⟩:=Rows.get HH.out h0;have hl:(m.headD []).length=r.length:=by
   cases m with
   | nil=>simp at h0
   | cons x t=>simp only [List.getElem?_cons_zero,Option.some.injEq] at hr;subst hr;rfl
  have rle:=hI.le;have rmx:=hI.mx;rw [hl];rw [Nat.add_zero] at hc;clear hr hI hl;go_wp2_with fail;go_ret;exact⟨rfl,rfl⟩
 ·have hm:m=[]:=List.eq_nil_of_length_eq_zero (by omega);subst hm;go_wp2_with fail;go_ret;exact⟨rfl,rfl⟩
theorem zNp {m:List (List Int)} {E:Int} (hE:zBJ m=E) (h:64<m.length):2=E:=by rw [←hE];unfold zBJ;rw [if_pos h]
theorem zLT {m:List (List Int)} {E:Int} (hE:zBJ m=E) (h:¬64<m.length) {r:List Int} (hr:r∈m) (hl:zD6 r=true):2=E:=by
 rw [←hE];unfold zBJ;rw [if_neg h,if_pos (List.any_eq_true.2 ⟨r,hr,hl⟩)]
theorem zKz {m:List (List Int)} {E:Int} (hE:zBJ m=E) (h:¬64<m.length) (h2:m.any zD6=false) {r:List Int} (hr:r∈m) (hl:zAR (m.headD []).length r=true):380=E:=by
 rw [←hE];unfold zBJ;rw [if_neg h,h2,if_neg (by simp),if_pos (List.any_eq_true.2 ⟨r,hr,hl⟩)]
theorem zOo {m:List (List Int)} {E:Int} (hE:zBJ m=E) (h:¬64<m.length) (h2:m.any zD6=false) (h3:m.any (zAR (m.headD []).length)=false):0=E:=by
 rw [←hE];unfold zBJ;rw [if_neg h,h2,if_neg (by simp),h3,if_neg (by simp)]
theorem zI3 (a:Option Addr) (cap:Nat) (m:List (List Int)) (w:World) (h:Rows w a cap m):Calls Tryz.prog 45 #[.slice a m.length cap] w fun e w'=>e=.returned (.int .i64 (zBJ m))∧Ext w w':=by
 have HH:=dH h;have hle:=h.le;have hmx:=h.mx;obtain⟨E,hE⟩:∃E,zBJ m=E:=⟨_,rfl⟩
 rw [hE];have HE:=dH hE;clear h hE;have hx:=Ext.refl w;go_enter Tryz.func45,Tryz.ntmps45;by_cases h64:64<m.length
 ·have HF:=dH (zNp HE.out h64);have i1:(64:Int)< (m.length:Int):=by omega
  go_wp2_with fail;go_ret;exact⟨by rw [←HF.out];rfl,hx⟩
 ·have i1:¬ (64:Int)< (m.length:Int):=by omega
  go_wp2_with fail
  go_loopw [3] (fun i wr=>∃q:Nat,q≤m.length∧i=.int .i64 q∧(m.take q).any zD6=false∧Ext w wr) (fun i _=>m.length - (intOf i).toNat)
  case atStart=>exact⟨0,Nat.zero_le _,rfl,rfl,hx⟩
  case round=>
   obtain⟨q,hq,rfl,hall,hxr⟩:=hrel;generalize wr=wA at *;have q0:(0:Int)≤(q:Int):=by omega
   clear hx;by_cases hqn:q<m.length
   ·have q1:(q:Int)< (m.length:Int):=by omega
    have hw1:IntKind.i64.wrap ((q:Int)+1)= (q:Int)+1:=IntWalk.i64_in _ (by omega);obtain⟨b,o,rfl⟩:=HH.out.head hqn;obtain⟨r,ar,cr,hr,hc,hI⟩:=Rows.get (HH.out.ext hxr) hqn;have rle:=hI.le;have rmx:=hI.mx;have HR:=dH hr;have HAL:=dH hall;have HXR:=dH hxr;clear hr hI hall hxr;by_cases h16:16<r.length
    ·have HF:=dH (zLT HE.out h64 (List.mem_of_getElem? HR.out) (by unfold zD6;exact decide_eq_true h16));have j1:(16:Int)< (r.length:Int):=by omega
     go_wp2_with fail;go_ret;exact⟨by rw [←HF.out];rfl,HXR.out⟩
    ·have HT:=dH (zBl HR.out HAL.out (by unfold zD6;exact decide_eq_false h16));have j1:¬ (16:Int)< (r.length:Int):=by omega
     go_wp2_with fail;go_roundw
     case rel=>exact⟨q+1,by omega,by go_num,HT.out,HXR.out⟩
     case measure=>simp [intOf];omega
   ·have q1:¬ (q:Int)< (m.length:Int):=by omega
    have HL:=dH (show m.any zD6=false by rw [List.take_of_length_le (by omega)] at hall;exact hall);have HXA:=dH hxr;clear hall hxr;go_wp2_with fail
    go_loopw [4] (fun i wr=>∃q:Nat,q≤m.length∧i=.int .i64 q∧(m.take q).any (zAR (m.headD []).length)=false∧Ext w wr) (fun i _=>m.length - (intOf i).toNat)
    case atStart=>exact⟨0,Nat.zero_le _,rfl,rfl,HXA.out⟩
    case round=>
     obtain⟨p,hp,rfl,hall,hxr⟩:=hrel;generalize wr=wB at *;have p0:(0:Int)≤(p:Int):=by omega
     by_cases hpn:p<m.length
     ·have p1:(p:Int)< (m.length:Int):=by omega
      have m0:(0:Int)< (m.length:Int):=by omega
      have m0n:0<m.length:=by omega
      have hw1:IntKind.i64.wrap ((p:Int)+1)= (p:Int)+1:=IntWalk.i64_in _ (by omega);obtain⟨b,o,rfl⟩:=HH.out.head hpn;have hyd:Ext wB (World.drew wB):=(Ext.refl _).drew;obtain⟨r,ar,cr,hr,hcw,hI⟩:=Rows.get HH.out hpn;obtain⟨r0,ar0,cr0,hr0,hc0w,hI0⟩:=Rows.get HH.out (show 0<m.length by omega);have HCW:=dH hcw;have hc:=zA0 (hxr.trans hyd) hcw;have hc0:=zA0 (hxr.trans hyd) hc0w;clear hcw hc0w;have hl0:(m.headD []).length=r0.length:=by
       cases m with
       | nil=>simp at hpn
       | cons x t=>simp only [List.getElem?_cons_zero,Option.some.injEq] at hr0;subst hr0;rfl
      rw [Nat.add_zero] at hc0;have HWE:Hid (∀{E:Int},zBJ m=E→zAR r0.length r=true→380=E):=dH (fun hE hw=>zKz hE h64 HL.out (List.mem_of_getElem? hr) (by rw [hl0];exact hw));have HTK:Hid (zAR r0.length r=false→(m.take (p+1)).any (zAR (m.headD []).length)=false):=dH (fun hw=>zBl hr hall (by rw [hl0];exact hw));have rle:=hI.le;have rmx:=hI.mx;have rle0:=hI0.le;have rmx0:=hI0.mx;have HI:=dH hI;have HXR:=dH (hxr.trans hyd);clear hr hr0 hI hI0 hall hxr hl0;go_upto_region 11 with fail;by_cases hlen:r.length=r0.length
      ·have j1:((r.length:Int) != (r0.length:Int))=false:=by simp [hlen]
       have HLN:=dH hlen;clear hlen;refine wp_region_held_drew (S:=(fun w'=>w'.cell? ⟨b,o+p,none⟩=some (.slice ar r.length cr)∧w'.cell? ⟨b,o,none⟩=some (.slice ar0 r0.length cr0))) (by kernel_rfl) ?_ (fun hHeld=>?_)
       ·exact⟨hc,hc0⟩
       (try simp only [pur,Nat.reduceAdd])
       generalize World.drew wB=x2 at *
       iterate 10
        refine tkR [0,1,2,3,4,5,6,7,8,9] (v:=?_) rfl rfl (by kernel_rfl) (fun _ _ _ h=>h) (by rfl) ?_ (by assumption) ?_;rotate_left
        ·(intro w hSw;(try dsimp only at hSw);(try go_simp);(try with_reducible rfl))
        (try simp only [Act.put,pus])
       refine wpAnyH_done (by kernel_rfl) ?_ _;go_wp2_with fail;clear hc hc0
       go_loopw [5] (fun i wr=>∃k:Nat,k≤r.length∧i=.int .i64 k∧(r.take k).any zFB=false∧Ext w wr) (fun i _=>r.length - (intOf i).toNat)
       case atStart=>exact⟨0,Nat.zero_le _,rfl,rfl,HXR.out⟩
       case round=>
        obtain⟨k,hk,rfl,hallk,hxk⟩:=hrel;generalize wr=wC at *;have k0:(0:Int)≤(k:Int):=by omega
        have hcx:=zA0 hxk HCW.out;have hIk:=HI.out.ext hxk;by_cases hkn:k<r.length
        ·have k1:(k:Int)< (r.length:Int):=by omega
         have hw2:IntKind.i64.wrap ((k:Int)+1)= (k:Int)+1:=IntWalk.i64_in _ (by omega);obtain⟨b2,o2,rfl⟩:=hIk.head hkn;obtain⟨x,hx,hcx2,hx1,hx2⟩:=Ints.get hIk hkn;have HX:=dH hx;have HAK:=dH hallk;have HXK:=dH hxk;clear hx hallk hxk hIk;by_cases hm1:x= -1
         ·have t1:(x != -1)=false:=by simp [hm1]
          have HT:=dH (zBl HX.out HAK.out (show zFB x=false by rw [hm1];decide));clear hm1;go_wp2_with fail;go_roundw
          case rel=>exact⟨k+1,by omega,by go_num,HT.out,HXK.out⟩
          case measure=>simp [intOf];omega
         ·have t1:(x != -1)=true:=by simp [hm1]
          by_cases hneg:x<0
          ·have HF:=dH (HWE.out HE.out (by unfold zAR;rw [zCe HX.out (show zFB x=true by unfold zFB;rw [decide_eq_true (show x< -1 by omega)];rfl),Bool.or_true]));clear hm1;go_wp2_with fail;go_ret;exact⟨by rw [←HF.out];rfl,HXK.out⟩
          ·by_cases hbig:1000<x
           ·have HF:=dH (HWE.out HE.out (by unfold zAR;rw [zCe HX.out (show zFB x=true by unfold zFB;rw [decide_eq_true hbig,Bool.or_true]),Bool.or_true]));clear hm1;go_wp2_with fail;go_ret;exact⟨by rw [←HF.out];rfl,HXK.out⟩
           ·have HT:=dH (zBl HX.out HAK.out (show zFB x=false by unfold zFB;rw [decide_eq_false (show ¬x< -1 by omega),decide_eq_false hbig];rfl));clear hm1;go_wp2_with fail;go_roundw
            case rel=>exact⟨k+1,by omega,by go_num,HT.out,HXK.out⟩
            case measure=>simp [intOf];omega
        ·have k1:¬ (k:Int)< (r.length:Int):=by omega
         have HT:=dH (HTK.out (by unfold zAR;rw [decide_eq_false (fun h=>h HLN.out),show r.any zFB=false by rw [List.take_of_length_le (by omega)] at hallk;exact hallk];rfl));have HXK:=dH hxk;clear hallk hxk hIk;go_wp2_with fail;go_roundw
         case rel=>exact⟨p+1,by omega,by go_num,HT.out,HXK.out⟩
         case measure=>simp [intOf];omega
      ·have j1:((r.length:Int) != (r0.length:Int))=true:=by simp only [bne_iff_ne,ne_eq];omega
       have HF:=dH (HWE.out HE.out (by unfold zAR;rw [decide_eq_true hlen];rfl));clear hlen;refine wp_region_held_drew (S:=(fun w'=>w'.cell? ⟨b,o+p,none⟩=some (.slice ar r.length cr)∧w'.cell? ⟨b,o,none⟩=some (.slice ar0 r0.length cr0))) (by kernel_rfl) ?_ (fun hHeld=>?_)
       ·exact⟨hc,hc0⟩
       (try simp only [pur,Nat.reduceAdd])
       generalize World.drew wB=x2 at *
       iterate 10
        refine tkR [0,1,2,3,4,5,6,7,8,9] (v:=?_) rfl rfl (by kernel_rfl) (fun _ _ _ h=>h) (by rfl) ?_ (by assumption) ?_;rotate_left
        ·(intro w hSw;(try dsimp only at hSw);(try go_simp);(try with_reducible rfl))
        (try simp only [Act.put,pus])
       refine wpAnyH_done (by kernel_rfl) ?_ _;go_wp2_with fail;go_ret;exact⟨by rw [←HF.out];rfl,HXR.out⟩
     ·have p1:¬ (p:Int)< (m.length:Int):=by omega
      have HF:=dH (zOo HE.out h64 HL.out (by rw [List.take_of_length_le (by omega)] at hall;exact hall));clear hall;go_wp2_with fail;go_ret;exact⟨by rw [←HF.out];rfl,hxr⟩
theorem zKA:(Tryz.prog.info? 4).map (fun i=>(i.zero,i.size,i.bytes))=some (some (.bool false),1,1):=by kernel_rfl
theorem zCV (n:Nat) (hn:n≤1000000) (w:World):(Instr.makeSlice 52 (.int .i64 (n:Int)) (.int .i64 (n:Int))).run Tryz.prog w=.ok (.slice (some ⟨w.heap.size,0,none⟩) n n) (w.alloc (.cells ((List.replicate n false).map Value.bool).toArray 4)):=by
 obtain⟨i0,hi0,hz0,hz1,hz2⟩:=info_parts zKA;have hr:=run_makeSlice (P:=Tryz.prog) (w:=w) 52 4 i0 (.bool false) Tryz.underlying52 hi0 hz0 .i64 .i64 (n:Int) (n:Int) (by omega) (by omega) (by rw [hz1];omega) (by rw [hz2];omega) (by omega);have e:madeCells (Value.cells (.bool false)) ((n:Int).toNat*i0.size)= ((List.replicate n false).map Value.bool).toArray:=by
  rw [hz1,Nat.mul_one,Int.toNat_natCast];refine Array.ext' ?_;simp [Value.cells,toList_madeCells_one]
 rw [e,Int.toNat_natCast] at hr;exact hr
def BlB (W:World) (g:Nat) (l:List Bool):Prop:=Blk W g (l.map Value.bool).toArray 4
theorem BlB.cell {W:World} {g:Nat} {l:List Bool} (h:BlB W g l) {i:Nat} (hi:i<l.length):W.cell? ⟨g,i,none⟩=some (.bool (l.getD i false)):=Blk.cell (cs:=(l.map Value.bool).toArray) h (by simp [List.getD_eq_getElem?_getD,hi])
theorem BlB.free {W:World} {g:Nat} {l:List Bool} (h:BlB W g l) (i:Nat):W.frozen? ⟨g,i,none⟩=false:=Blk.free (cs:=(l.map Value.bool).toArray) h i
theorem BlB.put {W:World} {g:Nat} {l:List Bool} (h:BlB W g l) (i:Nat) (b:Bool):BlB (W.setCell ⟨g,i,none⟩ (.bool b)) g (l.set i b):=by
 have h1:=Blk.set (cs:=(l.map Value.bool).toArray) h i (.bool b);unfold BlB;have e:(l.map Value.bool).toArray.setIfInBounds i (.bool b)= ((l.set i b).map Value.bool).toArray:=by
  refine Array.ext' ?_;rw [Array.toList_setIfInBounds,List.map_set]
 rw [←e];exact h1
theorem BlB.other {W:World} {g p i:Nat} {l:List Bool} (h:BlB W g l) (hp:g≠p) (v:Value):BlB (W.setCell ⟨p,i,none⟩ v) g l:=Blk.other (p:=⟨p,i,none⟩) h hp v
theorem BlB.ext {W W':World} {g:Nat} {l:List Bool} (h:BlB W g l) (k:Ext W W'):BlB W' g l:=Blk.ext h k
theorem BlB.new (w:World) (l:List Bool):BlB (w.alloc (.cells (l.map Value.bool).toArray 4)) w.heap.size l:=Blk.new0 w _ _
def zI4 (W:World) (g i:Nat):Bool:=match W.cell? ⟨g,i,none⟩ with
 | some (.bool false)=>true
 | _=>false
def zMu (W:World) (g n:Nat):Nat:=((List.range n).filter (zI4 W g)).length
def zE9 (l:List Bool):Nat:=(l.filter fun b=>!b).length
theorem zGs {W:World} {g:Nat} {l:List Bool} (h:BlB W g l):zMu W g l.length=zE9 l:=by
 have key:∀i,i<l.length→zI4 W g i= !(l.getD i false):=fun i hi=>by
  unfold zI4;rw [h.cell hi];cases l.getD i false <;> rfl
 unfold zMu zE9;have e:l= (List.range l.length).map fun i=>l.getD i false:=by
  refine List.ext_getElem? fun j=>?_;by_cases hj:j<l.length
  ·rw [List.getElem?_map,List.getElem?_range hj,Option.map_some,List.getD_eq_getElem?_getD,List.getElem?_eq_getElem hj];rfl
  ·rw [List.getElem?_eq_none (by omega),List.getElem?_eq_none (by simp;omega)]
 conv=>rhs;rw [e]
 rw [List.filter_map,List.length_map]
 congr 1
 exact List.filter_congr fun i hi=>key i (List.mem_range.1 hi)
theorem zID {l:List Bool} {i:Nat} (hi:i<l.length):zE9 (l.set i true)+ (if l.getD i false then 0 else 1)=zE9 l:=by
 induction l generalizing i with
 | nil=>simp at hi
 | cons b l ih=>
  cases i with
  | zero=>cases b <;> simp [zE9]
  | succ i=>
   have:=ih (i:=i) (by simpa using hi);cases b <;> simp [zE9] at this ⊢ <;> omega
theorem zCx {l:List Bool} {i j:Nat} (hj:j<l.length):(l.set i true).getD j false=if i=j then true else l.getD j false:=by
 rw [List.getD_eq_getElem?_getD,List.getD_eq_getElem?_getD,List.getElem?_set];by_cases e:i=j
 ·subst e;rw [if_pos rfl,if_pos rfl,if_pos hj];rfl
 ·rw [if_neg e,if_neg e]
def ReachC (m:List (List Int)) (n:Nat) (es js:List Bool):Prop:=∀f g:Nat→Rat,(∀i,i<m.length→∀k,k<n→kS m i k≠0→f i=g k)→(∀i,i<m.length→es.getD i false=true→f i=f 0)∧∀k,k<n→js.getD k false=true→g k=f 0
theorem ReachC.start {m:List (List Int)} {n:Nat} (h0:0<m.length):ReachC m n ((List.replicate m.length false).set 0 true) (List.replicate n false):=fun f g h=>by
 refine⟨fun i hi he=>?_,fun k hk he=>?_⟩
 ·rw [zCx (by simpa using hi)] at he;by_cases e:0=i
  ·rw [←e]
  ·rw [if_neg e,List.getD_eq_getElem?_getD,List.getElem?_replicate,if_pos hi] at he;cases he
 ·rw [List.getD_eq_getElem?_getD,List.getElem?_replicate,if_pos hk] at he;cases he
theorem ReachC.step {m:List (List Int)} {n:Nat} {es js:List Bool} (h:ReachC m n es js) (he:es.length=m.length) (hj:js.length=n) {i k:Nat} (hi:i<m.length) (hk:k<n) (hm:kS m i k≠0) (hne:es.getD i false≠js.getD k false):ReachC m n (es.set i true) (js.set k true):=fun f g hfg=>by
 obtain⟨h1,h2⟩:=h f g hfg;have hik:=hfg i hi k hk hm;have hb:f i=f 0∧g k=f 0:=by
  cases e1:es.getD i false with
  | true=>have:=h1 i hi e1;exact⟨this,by rw [←hik];exact this⟩
  | false=>
   have e2:js.getD k false=true:=by
    cases e3:js.getD k false with
    | true=>rfl
    | false=>rw [e1,e3] at hne;exact absurd rfl hne
   have:=h2 k hk e2;exact⟨by rw [hik];exact this,this⟩
 refine⟨fun j hj2 hje=>?_,fun l hl hle=>?_⟩
 ·rw [zCx (by omega)] at hje;by_cases e:i=j
  ·rw [←e];exact hb.1
  ·rw [if_neg e] at hje;exact h1 j hj2 hje
 ·rw [zCx (by omega)] at hle;by_cases e:k=l
  ·rw [←e];exact hb.2
  ·rw [if_neg e] at hle;exact h2 l hl hle
def zF7 (m:List (List Int)) (n:Nat) (es js:List Bool) (i k:Nat):Prop:=∀i',i'<m.length→∀k',k'<n→(i'<i∨i'=i∧k'<k)→kS m i' k'≠0→es.getD i' false=js.getD k' false
theorem zLU {m:List (List Int)} {n:Nat} {es js:List Bool} (hn:(m.headD []).length=n) (h:ReachC m n es js) (he:∀i,i<m.length→es.getD i false=true) (hj:∀k,k<n→js.getD k false=true):(zAi m).Conn:=fun f g hfg k hk i hi=>by
 have hk2:k<n:=by rw [←hn];exact hk
 obtain⟨h1,h2⟩:=h f g fun i hi k hk hm=>hfg i hi k (by show k< (m.headD []).length;rw [hn];exact hk) hm;rw [h1 i hi (he i hi),h2 k hk2 (hj k hk2)]
theorem zIE {m:List (List Int)} {n:Nat} {es js:List Bool} (hn:(m.headD []).length=n) (h0:0<m.length) (hn0:0<n) (hc:zF7 m n es js m.length 0) (hs:es.getD 0 false=true) (hC:(zAi m).Conn):(∀i,i<m.length→es.getD i false=true)∧∀k,k<n→js.getD k false=true:=by
 have key:=hC (fun i=>if es.getD i false then 1 else 0) (fun k=>if js.getD k false then 1 else 0) fun i hi k hk hne=>by
  rw [hc i hi k (by rw [←hn];exact hk) (.inl hi) hne]
 have hJ:(zAi m).J=n:=hn;rw [hJ] at key;have hk1:∀k,k<n→js.getD k false=true:=fun k hk=>by
  have:=key k hk 0 h0;rw [hs,if_pos rfl] at this;by_cases e:js.getD k false=true
  ·exact e
  ·rw [if_neg e] at this;exact absurd this (by decide)
 refine⟨fun i hi=>?_,hk1⟩;have:=key 0 hn0 i hi;rw [hk1 0 hn0,if_pos rfl] at this;by_cases e:es.getD i false=true
 ·exact e
 ·rw [if_neg e] at this;exact absurd this (by decide)
def zKB (m:List (List Int)) (w:World) (e:Ending) (w':World):Prop:=∃c:Bool,e=.returned (.bool c)∧(c=true↔0<m.length∧0< (m.headD []).length∧(zAi m).Conn)∧Ext w w'
structure zMv (m:List (List Int)) (n ge gj:Nat) (es js:List Bool) (w W:World):Prop where
 be:BlB W ge es
 bj:BlB W gj js
 le:es.length=m.length
 lj:js.length=n
 re:ReachC m n es js
 s0:es.getD 0 false=true
 ex:Ext w W
theorem zF8 (a:Option Addr) (cap:Nat) (m:List (List Int)) (w:World) (h:Rows w a cap m) (hOK:zHb m):Calls Tryz.prog 64 #[.slice a m.length cap] w (zKB m w):=by
 have HH:=dH h;have hle:=h.le;have hmx:=h.mx;have HJ:=dH (zHn a cap m w h);have h64:=hOK.rows;obtain⟨n,hn⟩:∃n,(m.headD []).length=n:=⟨_,rfl⟩
 have HT:=dH (zGo hOK hn);have h16:=HT.out.j16;have HOK:=dH hOK;rw [hn] at HJ;have HN:=dH hn;clear h hOK hn;go_enter Tryz.func64,Tryz.ntmps64;by_cases hn0:0<n
 ·have t0:((n:Int) == 0)=false:=by simp only [beq_eq_false_iff_ne];omega
  have h0:0<m.length:=by
   by_cases h9:0<m.length
   ·exact h9
   ·have hm:m=[]:=List.eq_nil_of_length_eq_zero (by omega);have:=HN.out;rw [hm] at this;simp at this;omega
  have h0i:(0:Int)< (m.length:Int):=by omega
  obtain⟨ob,hob⟩:∃ob:Obj,ob=.cells ((List.replicate m.length false).map Value.bool).toArray 4:=⟨_,rfl⟩
  obtain⟨oc,hoc⟩:∃oc:Obj,oc=.cells ((List.replicate n false).map Value.bool).toArray 4:=⟨_,rfl⟩
  have hmk1:∀w,(Instr.makeSlice 52 (.int .i64 (m.length:Int)) (.int .i64 (m.length:Int))).run Tryz.prog w=.ok (.slice (some ⟨w.heap.size,0,none⟩) m.length m.length) (w.alloc ob):=fun w=>by rw [hob];exact zCV m.length (by omega) w
  have hmk2:∀w,(Instr.makeSlice 52 (.int .i64 (n:Int)) (.int .i64 (n:Int))).run Tryz.prog w=.ok (.slice (some ⟨w.heap.size,0,none⟩) n n) (w.alloc oc):=fun w=>by rw [hoc];exact zCV n (by omega) w
  have b1:BlB (w.alloc ob) w.heap.size (List.replicate m.length false):=by rw [hob];exact BlB.new _ _
  have b1':=b1.ext (Ext.alloc (w.alloc ob) oc);have f1:=b1'.free 0;have c1:=b1'.cell (i:=0) (by simpa using h0);have f2:=b1.free 0;have c2:=b1.cell (i:=0) (by simpa using h0);have b3:=(b1.put 0 true).ext (Ext.alloc _ oc);have b4:BlB (((w.alloc ob).setCell ⟨w.heap.size,0,none⟩ (.bool true)).alloc oc) ((w.alloc ob).setCell ⟨w.heap.size,0,none⟩ (.bool true)).heap.size (List.replicate n false):=by rw [hoc];exact BlB.new _ _
  have hs1:((w.alloc ob).setCell ⟨w.heap.size,0,none⟩ (.bool true)).heap.size=w.heap.size+1:=by simp
  rw [hs1] at b4;have HS:Hid (zMv m n w.heap.size (w.heap.size+1) ((List.replicate m.length false).set 0 true) (List.replicate n false) w (((w.alloc ob).setCell ⟨w.heap.size,0,none⟩ (.bool true)).alloc oc)):=dH ⟨b3,b4,by simp,by simp,ReachC.start h0,by rw [zCx (by simpa using h0)];rfl,((Ext.alloc w ob).set (p:=⟨w.heap.size,0,none⟩) (Nat.le_refl _) _).trans (Ext.alloc _ oc)⟩;clear b1 b1' b3 b4 hs1 hob hoc;go_wp2_with fail;refine HJ.out.mono ?_;rintro e w9 ⟨rfl,rfl⟩;go_upto_region 7 with fail;clear hmk1 hmk2 f1 c1 f2 c2;generalize ((w.alloc ob).setCell ⟨w.heap.size,0,none⟩ (.bool true)).alloc oc=x1 at *;have hgj:w.heap.size+1≠w.heap.size:=by omega
  have hrow:∀ (W:World) (i:Nat),Ext w W→i<m.length→∃b o r ar cr,a=some ⟨b,o,none⟩∧m[i]? =some r∧r.length=n∧W.cell? ⟨b,o+i,none⟩=some (.slice ar n cr)∧Ints W ar cr r:=fun W i hW hi=>by
   obtain⟨b,o,e⟩:=HH.out.head hi;have h9:=HH.out;rw [e] at h9;obtain⟨r,ar,cr,hr,hc,hI⟩:=Rows.get (h9.ext hW) hi;have hl:r.length=n:=by rw [←HT.out.len i hi,zDu hr]
   rw [hl] at hc;exact⟨b,o,r,ar,cr,e,hr,hl,hc,hI⟩
  have HRO:=dH hrow;clear hrow;go_wp2_with fail
  go_loopw [6] (fun mv wr=>∃ (more:Bool) (es js:List Bool),mv=.bool more∧zMv m n w.heap.size (w.heap.size+1) es js w wr∧(more=false→zF7 m n es js m.length 0)) (fun mv wr=>zMu wr w.heap.size m.length+zMu wr (w.heap.size+1) n+ (match mv with | .bool true=>1 | _=>0))
  case atStart=>exact⟨true,_,_,rfl,HS.out,fun h=>by cases h⟩
  case round=>
   obtain⟨more,es,js,rfl,hs,hcl⟩:=hrel;generalize wr=x2 at *;clear HS;cases more
   ·have HCL:=dH (hcl rfl);have HS:=dH hs;clear hs hcl;go_wp2_with fail
    go_loopw [9] (fun i wr=>∃q:Nat,q≤m.length∧i=.int .i64 q∧(∀j,j<q→es.getD j false=true)∧zMv m n w.heap.size (w.heap.size+1) es js w wr) (fun i _=>m.length - (intOf i).toNat)
    case atStart=>exact⟨0,Nat.zero_le _,rfl,(fun j hj=>by omega),HS.out⟩
    case round=>
     obtain⟨q,hq,rfl,hall,hs⟩:=hrel;have q0:(0:Int)≤(q:Int):=by omega
     by_cases hqn:q<m.length
     ·have q1:(q:Int)< (m.length:Int):=by omega
      have hw1:IntKind.i64.wrap ((q:Int)+1)= (q:Int)+1:=IntWalk.i64_in _ (by omega);have c0:=hs.be.cell (i:=q) (by rw [hs.le];exact hqn);have HS2:=dH hs;have HAL:=dH hall;clear hs hall;obtain⟨bv,hbv⟩:∃bv,es.getD q false=bv:=⟨_,rfl⟩
      rw [hbv] at c0;have HBV:=dH hbv;clear hbv;cases bv
      ·have HP:Hid (zKB m w (.returned (.bool false)) wr):=dH ⟨false,rfl,⟨(fun h=>by cases h),(fun h=>by
        have:=(zIE HN.out h0 hn0 HCL.out HS.out.s0 h.2.2).1 q hqn
        rw [HBV.out] at this;cases this)⟩,HS2.out.ex⟩
       go_wp2_with fail;go_ret;exact HP.out
      ·go_wp2_with fail;go_roundw
       case rel=>exact⟨q+1,by omega,by go_num,(fun j hj=>if e:j=q then e ▸ HBV.out else HAL.out j (by omega)),HS2.out⟩
       case measure=>simp [intOf];omega
     ·have q1:¬ (q:Int)< (m.length:Int):=by omega
      have HE1:Hid (∀j,j<m.length→es.getD j false=true):=dH (fun j hj=>hall j (by omega));have HS2:=dH hs;clear hs hall;go_wp2_with fail
      go_loopw [10] (fun i wr=>∃q:Nat,q≤n∧i=.int .i64 q∧(∀j,j<q→js.getD j false=true)∧zMv m n w.heap.size (w.heap.size+1) es js w wr) (fun i _=>n - (intOf i).toNat)
      case atStart=>exact⟨0,Nat.zero_le _,rfl,(fun j hj=>by omega),HS2.out⟩
      case round=>
       obtain⟨p,hp,rfl,hall,hs⟩:=hrel;have p0:(0:Int)≤(p:Int):=by omega
       by_cases hpn:p<n
       ·have p1:(p:Int)< (n:Int):=by omega
        have hw1:IntKind.i64.wrap ((p:Int)+1)= (p:Int)+1:=IntWalk.i64_in _ (by omega);have c0:=hs.bj.cell (i:=p) (by rw [hs.lj];exact hpn);have HS3:=dH hs;have HAL:=dH hall;clear hs hall;obtain⟨bv,hbv⟩:∃bv,js.getD p false=bv:=⟨_,rfl⟩
        rw [hbv] at c0;have HBV:=dH hbv;clear hbv;cases bv
        ·have HP:Hid (zKB m w (.returned (.bool false)) wr):=dH ⟨false,rfl,⟨(fun h=>by cases h),(fun h=>by
          have:=(zIE HN.out h0 hn0 HCL.out HS.out.s0 h.2.2).2 p hpn
          rw [HBV.out] at this;cases this)⟩,HS3.out.ex⟩
         go_wp2_with fail;go_ret;exact HP.out
        ·go_wp2_with fail;go_roundw
         case rel=>exact⟨p+1,by omega,by go_num,(fun j hj=>if e:j=p then e ▸ HBV.out else HAL.out j (by omega)),HS3.out⟩
         case measure=>simp [intOf];omega
       ·have p1:¬ (p:Int)< (n:Int):=by omega
        have HP:Hid (zKB m w (.returned (.bool true)) wr):=dH ⟨true,rfl,⟨fun _=>⟨h0,by rw [HN.out];exact hn0,zLU HN.out hs.re HE1.out (fun k hk=>hall k (by omega))⟩,fun _=>rfl⟩,hs.ex⟩;clear hs hall;go_wp2_with fail;go_ret;exact HP.out
   ·have HS:=dH hs;obtain⟨F0,hF0⟩:∃F0,zE9 es+zE9 js=F0:=⟨_,rfl⟩
    have hms:zMu x2 w.heap.size m.length+zMu x2 (w.heap.size+1) n=F0:=by rw [←hF0,←zGs hs.be,←zGs hs.bj,hs.le,hs.lj]
    have HMS:=dH hms;have HF0:=dH hF0;clear hs hcl hms hF0;go_wp2_with fail
    go_loopw [6,7] (fun mv i wr=>∃ (more:Bool) (q:Nat) (es js:List Bool),mv=.bool more∧i=.int .i64 q∧q≤m.length∧zMv m n w.heap.size (w.heap.size+1) es js w wr∧(more=false→zF7 m n es js q 0∧zE9 es+zE9 js=F0)∧(more=true→zE9 es+zE9 js<F0)) (fun _ i _=>m.length - (intOf i).toNat)
    case atStart=>exact⟨false,0,es,js,rfl,rfl,Nat.zero_le _,HS.out,(fun _=>⟨fun i' hi' k' hk' h9=>by omega,HF0.out⟩),fun h=>by cases h⟩
    case round=>
     obtain⟨more,q,es,js,rfl,rfl,hq,hs,hm1,hm2⟩:=hrel;generalize wr=x3 at *;have q0:(0:Int)≤(q:Int):=by omega
     by_cases hqn:q<m.length
     ·have q1:(q:Int)< (m.length:Int):=by omega
      have hw1:IntKind.i64.wrap ((q:Int)+1)= (q:Int)+1:=IntWalk.i64_in _ (by omega);have HS3:=dH hs;have HM1:=dH hm1;have HM2:=dH hm2;clear hs hm1 hm2 HS;go_wp2_with fail
      go_loopw [6,8] (fun mv i wr=>∃ (more:Bool) (p:Nat) (es js:List Bool),mv=.bool more∧i=.int .i64 p∧p≤n∧zMv m n w.heap.size (w.heap.size+1) es js w wr∧(more=false→zF7 m n es js q p∧zE9 es+zE9 js=F0)∧(more=true→zE9 es+zE9 js<F0)) (fun _ i _=>n - (intOf i).toNat)
      case atStart=>exact⟨more,0,es,js,rfl,rfl,Nat.zero_le _,HS3.out,HM1.out,HM2.out⟩
      case round=>
       obtain⟨more,p,es,js,rfl,rfl,hp,hs,hm1,hm2⟩:=hrel;generalize wr=x4 at *;clear HS3 HM1 HM2;have p0:(0:Int)≤(p:Int):=by omega
       by_cases hpn:p<n
       ·have p1:(p:Int)< (n:Int):=by omega
        have hw2:IntKind.i64.wrap ((p:Int)+1)= (p:Int)+1:=IntWalk.i64_in _ (by omega);have hyd:Ext x4 (World.drew x4):=(Ext.refl _).drew;obtain⟨b,o,r,ar,cr,rfl,hr,hrl,hc,hI⟩:=HRO.out _ _ (hs.ex.trans hyd) hqn;have hpl:p<r.length:=by omega
        obtain⟨b2,o2,rfl⟩:=hI.head hpl;obtain⟨x,hx,hcx,hx1,hx2⟩:=Ints.get hI hpl;have hmk:=zHU hr hx;have ce:=(hs.be.ext hyd).cell (i:=q) (by rw [hs.le];exact hqn);have cj:=(hs.bj.ext hyd).cell (i:=p) (by rw [hs.lj];exact hpn);obtain⟨ev,hev⟩:∃ev,es.getD q false=ev:=⟨_,rfl⟩
        obtain⟨jv,hjv⟩:∃jv,js.getD p false=jv:=⟨_,rfl⟩
        rw [hev] at ce;rw [hjv] at cj;have HSX:=dH (show zMv m n w.heap.size (w.heap.size+1) es js w (World.drew x4) from⟨hs.be.ext hyd,hs.bj.ext hyd,hs.le,hs.lj,hs.re,hs.s0,hs.ex.trans hyd⟩)
        have HNC:Hid (x= -1∨ev=jv→more=false→zF7 m n es js q (p+1)∧zE9 es+zE9 js=F0):=dH (fun h9 h8=>⟨fun i' hi' k' hk' hlt hne=>by
         by_cases e9:i'=q∧k'=p
         ·obtain⟨rfl,rfl⟩:=e9;rcases h9 with h9 | h9
          ·exact absurd (show kS m i' k'=0 by unfold kS;rw [hmk,h9];simp) hne
          ·rw [hev,hjv];exact h9
         ·exact(hm1 h8).1 i' hi' k' hk' (by omega) hne,(hm1 h8).2⟩)
        have HNK:Hid (x≠-1→kS m q p≠0):=dH (fun h9=>by unfold kS;rw [hmk,if_pos h9];decide);have HEV:=dH hev;have HJV:=dH hjv;have HM2:=dH hm2;have HM1:=dH hm1;clear hs hr hI hx hmk hev hjv hm1 hm2 hyd;go_upto_region 16 with fail;by_cases hm:x= -1
        ·have t1:(x != -1)=false:=by simp [hm]
         replace HNC:=dH (HNC.out (.inl hm));clear hm;refine wp_region_held_drew (S:=(fun w'=>w'.cell? ⟨b,o+q,none⟩=some (.slice (some ⟨b2,o2,none⟩) n cr)∧w'.cell? ⟨b2,o2+p,none⟩=some (.int .i64 x))) (by kernel_rfl) ?_ (fun hHeld=>?_)
         ·exact⟨hc,hcx⟩
         (try simp only [pur,Nat.reduceAdd])
         generalize World.drew x4=x5 at *
         iterate 9
          refine tkR [0,1,2,3,4,5,6,7,8] (v:=?_) rfl rfl (by kernel_rfl) (fun _ _ _ h=>h) (by rfl) ?_ (by assumption) ?_;rotate_left
          ·(intro w hSw;(try dsimp only at hSw);(try go_simp);(try with_reducible rfl))
          (try simp only [Act.put,pus])
         iterate 9
          refine tkU [9,10,11,12,13,14,15,16,17] rfl rfl (by kernel_rfl) (fun _ _ _ h=>h) (Or.inr ⟨by rfl,rfl⟩) (by assumption) ?_
          (try simp only [Act.put,pus])
         refine tk (v:=?_) 18 rfl (by kernel_rfl) (fun _ _ _ h=>h) (by rfl) ?_ (by assumption) ?_;rotate_left
         ·(intro w hSw;(try dsimp only at hSw);(try go_simp);(try with_reducible rfl))
         (try simp only [Act.put,pus])
         refine wpAnyH_done (by kernel_rfl) ?_ _;go_wp2_with fail;go_roundw
         case rel=>exact⟨more,p+1,es,js,rfl,by go_num,by omega,HSX.out,HNC.out,HM2.out⟩
         case measure=>simp [intOf];omega
        ·have t1:(x != -1)=true:=by simp [hm]
         have HK:=dH (HNK.out hm);have KEEPX:True:=trivial;clear hm;by_cases hej:ev=jv
         ·replace HNC:=dH (HNC.out (.inr hej));subst hej;have t2:(ev != ev)=false:=by simp
          refine wp_region_held_drew (S:=(fun w'=>w'.cell? ⟨b,o+q,none⟩=some (.slice (some ⟨b2,o2,none⟩) n cr)∧w'.cell? ⟨b2,o2+p,none⟩=some (.int .i64 x)∧w'.cell? ⟨w.heap.size,q,none⟩=some (.bool ev)∧w'.cell? ⟨w.heap.size+1,p,none⟩=some (.bool ev))) (by kernel_rfl) ?_ (fun hHeld=>?_)
          ·exact⟨hc,hcx,ce,cj⟩
          (try simp only [pur,Nat.reduceAdd])
          generalize World.drew x4=x5 at *
          iterate 19
           refine tkR [0,1,2,3,4,5,6,7,8,9,10,11,12,13,14,15,16,17,18] (v:=?_) rfl rfl (by kernel_rfl) (fun _ _ _ h=>h) (by rfl) ?_ (by assumption) ?_;rotate_left
           ·(intro w hSw;(try dsimp only at hSw);(try go_simp);(try with_reducible rfl))
           (try simp only [Act.put,pus])
          refine wpAnyH_done (by kernel_rfl) ?_ _;go_wp2_with fail;go_roundw
          case rel=>exact⟨more,p+1,es,js,rfl,by go_num,by omega,HSX.out,HNC.out,HM2.out⟩
          case measure=>simp [intOf];omega
         ·have t2:(ev != jv)=true:=by simp [hej]
          have HST:Hid (ReachC m n (es.set q true) (js.set p true)∧zE9 (es.set q true)+zE9 (js.set p true)<zE9 es+zE9 js):=dH ⟨HSX.out.re.step HSX.out.le HSX.out.lj hqn hpn HK.out (by rw [HEV.out,HJV.out];exact hej),by
           have h1:=zID (l:=es) (i:=q) (by rw [HSX.out.le];exact hqn);have h2:=zID (l:=js) (i:=p) (by rw [HSX.out.lj];exact hpn);rw [HEV.out] at h1;rw [HJV.out] at h2
           cases ev <;> cases jv <;> simp at hej h1 h2 <;> omega⟩
          have HLT:Hid (zE9 es+zE9 js≤F0):=dH (by
           cases more
           ·exact Nat.le_of_eq (HM1.out rfl).2
           ·exact Nat.le_of_lt (HM2.out rfl))
          have HD1:=dH (HSX.out.be.put q true);have HD2:=dH (HSX.out.bj.other (p:=w.heap.size) (i:=q) hgj (.bool true));have HD3:=dH (HD2.out.put p true);have HD4:=dH (HD1.out.other (p:=w.heap.size+1) (i:=p) hgj.symm (.bool true))
          have HSN:Hid (zMv m n w.heap.size (w.heap.size+1) (es.set q true) (js.set p true) w (((World.drew x4).setCell ⟨w.heap.size,q,none⟩ (.bool true)).setCell ⟨w.heap.size+1,p,none⟩ (.bool true))):=dH ⟨HD4.out,HD3.out,by rw [List.length_set];exact HSX.out.le,by rw [List.length_set];exact HSX.out.lj,HST.out.1,(by
           rw [zCx (by rw [HSX.out.le];exact h0)];by_cases e:q=0
           ·rw [if_pos e]
           ·rw [if_neg e];exact HSX.out.s0),(HSX.out.ex.set (p:=⟨w.heap.size,q,none⟩) (Nat.le_refl _) _).set (p:=⟨w.heap.size+1,p,none⟩) (by dsimp only;omega) _⟩
          have f1:=HSX.out.be.free q;have f2:=HD2.out.free p;have c2:=HD2.out.cell (i:=p) (by rw [HSX.out.lj];exact hpn);rw [HJV.out] at c2;clear HD1 HD2 HD3 HD4 t2 HNC HEV HJV HM1 HM2;obtain rfl:jv= !ev:=by cases ev <;> cases jv <;> simp at hej ⊢
          clear hej;cases ev
          ·simp only [Bool.not_false,Bool.not_true] at ce cj c2;refine wp_region_held_drew (S:=(fun w'=>w'.cell? ⟨b,o+q,none⟩=some (.slice (some ⟨b2,o2,none⟩) n cr)∧w'.cell? ⟨b2,o2+p,none⟩=some (.int .i64 x)∧w'.cell? ⟨w.heap.size,q,none⟩=some (.bool false)∧w'.cell? ⟨w.heap.size+1,p,none⟩=some (.bool true))) (by kernel_rfl) ?_ (fun hHeld=>?_)
           ·exact⟨hc,hcx,ce,cj⟩
           (try simp only [pur,Nat.reduceAdd])
           generalize World.drew x4=x5 at *
           iterate 19
            refine tkR [0,1,2,3,4,5,6,7,8,9,10,11,12,13,14,15,16,17,18] (v:=?_) rfl rfl (by kernel_rfl) (fun _ _ _ h=>h) (by rfl) ?_ (by assumption) ?_;rotate_left
            ·(intro w hSw;(try dsimp only at hSw);(try go_simp);(try with_reducible rfl))
            (try simp only [Act.put,pus])
           refine wpAnyH_done (by kernel_rfl) ?_ _;go_wp2_with fail;go_roundw
           case rel=>exact⟨true,p+1,es.set q true,js.set p true,rfl,by go_num,by omega,HSN.out,(fun h=>by cases h),(fun _=>Nat.lt_of_lt_of_le HST.out.2 HLT.out)⟩
           case measure=>simp [intOf];omega
          ·simp only [Bool.not_false,Bool.not_true] at ce cj c2;refine wp_region_held_drew (S:=(fun w'=>w'.cell? ⟨b,o+q,none⟩=some (.slice (some ⟨b2,o2,none⟩) n cr)∧w'.cell? ⟨b2,o2+p,none⟩=some (.int .i64 x)∧w'.cell? ⟨w.heap.size,q,none⟩=some (.bool true)∧w'.cell? ⟨w.heap.size+1,p,none⟩=some (.bool false))) (by kernel_rfl) ?_ (fun hHeld=>?_)
           ·exact⟨hc,hcx,ce,cj⟩
           (try simp only [pur,Nat.reduceAdd])
           generalize World.drew x4=x5 at *
           iterate 19
            refine tkR [0,1,2,3,4,5,6,7,8,9,10,11,12,13,14,15,16,17,18] (v:=?_) rfl rfl (by kernel_rfl) (fun _ _ _ h=>h) (by rfl) ?_ (by assumption) ?_;rotate_left
            ·(intro w hSw;(try dsimp only at hSw);(try go_simp);(try with_reducible rfl))
            (try simp only [Act.put,pus])
           refine wpAnyH_done (by kernel_rfl) ?_ _;go_wp2_with fail;go_roundw
           case rel=>exact⟨true,p+1,es.set q true,js.set p true,rfl,by go_num,by omega,HSN.out,(fun h=>by cases h),(fun _=>Nat.lt_of_lt_of_le HST.out.2 HLT.out)⟩
           case measure=>simp [intOf];omega
       ·have p1:¬ (p:Int)< (n:Int):=by omega
        have HS4:=dH hs;have HM1:=dH hm1;have HM2:=dH hm2;clear hs hm1 hm2;go_wp2_with fail;go_roundw
        case rel=>exact⟨more,q+1,es,js,rfl,by go_num,by omega,HS4.out,(fun h=>⟨fun i' hi' k' hk' hlt hne=>(HM1.out h).1 i' hi' k' hk' (by omega) hne,(HM1.out h).2⟩),HM2.out⟩
        case measure=>simp [intOf];omega
     ·have q1:¬ (q:Int)< (m.length:Int):=by omega
      obtain rfl:q=m.length:=by omega
      have HS3:=dH hs;have HMN:Hid (zMu x3 w.heap.size m.length+zMu x3 (w.heap.size+1) n=zE9 es+zE9 js):=dH (by rw [←zGs hs.be,←zGs hs.bj,hs.le,hs.lj]);have HM1:=dH hm1;have HM2:=dH hm2;clear hs hm1 hm2 HS;go_wp2_with fail;go_roundw
      case rel=>exact⟨more,es,js,rfl,HS3.out,fun h=>(HM1.out h).1⟩
      case measure=>
       have h1:=HMN.out;have h2:=HMS.out;cases more
       ·have:=(HM1.out rfl).2;simp;omega
       ·have:=HM2.out rfl;simp;omega
 ·have t0:((n:Int) == 0)=true:=by simp only [beq_iff_eq];omega
  have HP:Hid (zKB m w (.returned (.bool false)) w):=dH ⟨false,rfl,⟨(fun h=>by cases h),(fun h=>absurd h.2.1 (by rw [HN.out];exact hn0))⟩,Ext.refl _⟩;go_wp2_with fail;refine HJ.out.mono ?_;rintro e w9 ⟨rfl,rfl⟩;go_wp2_with fail;go_ret;exact HP.out
end Go.Proofs.YtonkhcdmchidjaaGreat
