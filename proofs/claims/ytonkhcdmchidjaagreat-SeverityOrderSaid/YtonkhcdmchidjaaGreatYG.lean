import Derived.Test.YtonkhcdmchidjaaGreatYF
set_option maxHeartbeats 16000000
namespace Go.Proofs.YtonkhcdmchidjaaGreat
open Go.RowKit Go BigFrame Go.Shelf
set_option maxRecDepth 100000
set_option linter.all false
attribute [local go_sem] Oper.semAt_some
theorem BigV.offB {w:World} {n:Bool} {a:Option Addr} {q c:Nat} {z:Int} {p:Nat} {cs:Array Value} {t:TypeId} (h:BigV w (.agg #[.bool n,.slice a q c]) z) (hB:Blk w p cs t) (hc:noInt cs):0<q→∀A,a=some A→some p≠some A.block:=fun hp A hA e=>by
 obtain⟨n',l,⟨a',c',e',hi⟩,hb⟩:=h;simp only [Value.agg.injEq,Array.mk.injEq,List.cons.injEq,Value.bool.injEq,Value.slice.injEq,and_true] at e';obtain⟨rfl,rfl,rfl,rfl⟩:=e';have e:=Option.some.inj e;obtain⟨b0,o0,e0⟩:=hi.head hp;rw [e0] at hA hi;cases hA
 dsimp only at e;subst e;have hl:l≠[]:=List.ne_nil_of_length_pos hp;have h1:=(hi.cell (i:=l.length - 1) (by omega)).1;have hB':w.heap[p]? =some (.cells cs t (0,0)):=hB;simp only [World.cell?,hB'] at h1;have h2:l[l.length - 1]'(by omega)=0:=by
  refine hc (o0+ (l.length - 1)) _ ?_
  simpa using h1
 have h3:=(zEl.1 hb.1).2 hl;rw [List.getLast_eq_getElem] at h3;exact h3 h2
theorem RatV.offB {w:World} {x:RatC} {r:Rat} {p:Nat} {cs:Array Value} {t:TypeId} (h:RatV w x.val r) (hB:Blk w p cs t) (hc:noInt cs):x.Off (some p):=⟨h.num.offB hB hc,h.den.offB hB hc⟩
theorem RowR.offB {w:World} {a:Option Addr} {cap N:Nat} {V:Nat→RatC} {f:Nat→Rat} (h:RowR w a cap N V f) (h0:0<N) {p:Nat} {cs:Array Value} {t:TypeId} (hB:Blk w p cs t) (hb:∀ (i:Nat) (b:Bool),cs[i]?≠some (.bool b)):∀A,a=some A→some p≠some A.block:=fun A hA e=>by
 obtain⟨_,h1,_⟩:=h.cells A hA 0 h0;have e:=Option.some.inj e;rw [←e] at h1;have hB':w.heap[p]? =some (.cells cs t (0,0)):=hB;simp only [World.cell?,hB'] at h1;exact hb _ _ (by simpa using h1)
theorem RowR.newB {w:World} {a:Option Addr} {cap N:Nat} {V:Nat→RatC} {f:Nat→Rat} (h:RowR w a cap N V f) (h0:0<N) {p:Nat} (hp:w.heap.size≤p):∀A,a=some A→some p≠some A.block:=fun A hA e=>by
 obtain⟨_,h1,_⟩:=h.cells A hA 0 h0;have:=World.block_lt_of_cell? w _ h1;have e:=Option.some.inj e;dsimp only at this;omega
theorem RatV.newB {w:World} {x:RatC} {r:Rat} {p:Nat} (h:RatV w x.val r) (hp:w.heap.size≤p):x.Off (some p):=
 ⟨fun hq A hA e=>by have:=h.num.lt hq A hA;have:=Option.some.inj e;omega,fun hq A hA e=>by have:=h.den.lt hq A hA;have:=Option.some.inj e;omega⟩
theorem SysR.grownT {W W':World} {P Ra ca n E:Nat} {G:Nat→Nat} {L:Nat→List Int} (h:SysR W P Ra ca n E G L) {p:Nat} {cs:Array Value} {t:TypeId} (hB:Blk W p cs t) (h1:91≠t) (h2:34≠t) (h3:3≠t) (hg:W.grownBy W' (some p)):SysR W' P Ra ca n E G L:=by
 have key:∀{b:Nat} {cs':Array Value} {t':TypeId},Blk W b cs' t'→t'≠t→Blk W' b cs' t':=fun k ht=>zA5 k hg (fun e=>zAz k hB ht (Option.some.inj e).symm);obtain⟨cs',hb,hc⟩:=h.ra;exact⟨key h.p h1,⟨cs',key hb h2,hc⟩,h.ca,fun t ht=>key (h.ib t ht).blk h3,h.inj,h.len⟩
theorem zDz {A B:World} (h:Ext A B) (row:Option Nat):A.grownBy B row:=⟨h.os,h.tape,h.output,h.size,fun k hk _=>h.block k hk⟩
theorem zBE (x:Int):Rat.divInt x 1= (x:Rat):=by
 rw [Rat.divInt_eq_div];grind
def zCj (m:List (List Int)) (i:Nat) (s:Rat) (f:Nat→Rat) (k:Nat):Rat:=s - sq (fun c=>kS m i c*f c) k
theorem zFE (m:List (List Int)) (i:Nat) (s:Rat) (f:Nat→Rat) (k:Nat):zCj m i s f (k+1)=if mkS m i k≠-1 then zCj m i s f k - f k else zCj m i s f k:=by
 unfold zCj;rw [zAv];by_cases h:mkS m i k= -1
 ·rw [if_neg (fun e=>e h),show kS m i k=0 from if_neg (fun e=>e h)];grind
 ·rw [if_pos h,show kS m i k=1 from if_pos h];grind
theorem zNa {y:World} {g:Nat} {u0 u1 u2 u3:Value} {t:TypeId} (h:Blk y g #[u0,u1,u2,u3] t) (v0 v1 v2 v3:Value):y.grownBy ((((y.setCell ⟨g,0,none⟩ v0).setCell ⟨g,1,none⟩ v1).setCell ⟨g,2,none⟩ v2).setCell ⟨g,3,none⟩ v3) (some g):=
 (((zAa y g 0 v0).trans (zAa _ g 1 v1)).trans (zAa _ g 2 v2)).trans (zAa _ g 3 v3)
theorem zNb {n qb cr ac i:Nat} {ar ax:Option Addr} {m:List (List Int)} {r:List Int} {s:Rat} {V:Nat→RatC} {f:Nat→Rat} {nq:Bool} {aq bq:Option Addr} {qq cq kq dq zi zj:Nat} {w0 y:World} (hr:m[i]? =some r) (hI:Ints w0 ar cr r) (hrn:r.length=n) (hE:Ext w0 y) (hq0:w0.heap.size≤qb)
 (hB:Blk y qb #[.bool nq,.slice aq qq cq,.bool false,.slice bq kq dq] 38) (hV:RatV y (.agg #[.bool nq,.slice aq qq cq,.bool false,.slice bq kq dq]) s) (hX:RowR y ax ac n V f) (ho1:0<n→∀A,ax=some A→some qb≠some A.block) (ho2:∀c,c<n→(V c).Off (some qb))
 (hz1:∀k,k<n→Sz (zCj m i s f k) zi) (hz2:∀c,c<n→Sz (f c) zj) (hz:zi+zj+1≤2048) {K':Act→World→Prop} {Q':Exit→Act→World→Prop} {defs:List Deferred} {l0 l1 l2 l3 l4 l5 l6 l7 l8 l9 ah ai aj hZ ia ak al ap aY bT dW dX bU bV aZ bf bg bh bW bX aA aB aC aD aE aG aH aI aJ aK aL aM aN dT dU dV bi bw bA bB bC bD bE bG bH bI bJ bK bL bM bN bO bP bQ bR bS aO aP aQ aR aS aT aU aV aW aX bY bZ dZ ed ee ef eh ek en b7 ci ck cl cA cB gN gO eo fX fY fZ f5 f7 f8 f9 ga gc ep cC gP cD cE cF cG cH cI cJ cK cL cN cO cP cQ cR cS cT cU cV cW cX gQ cY cZ dc de df dg dh di dj dk dn dp dt gR gS er eu ew ey ez eB eC eD eE eF eG dw gT gU eH eI eJ eK eM eN eO eP eQ eR eS eT eW eX eY eZ fa fc fd fe ff fg fh fi fj fk fl fm fq fs ft fu fv fw dA dB dC dD dE dF dG dI dJ dK dL dM dN dO dP dQ dR gV gW gX fx fy fz fA fB fC fD fE fF fG gd gh gl gn gy gz gA gC gD gE gF gG gH gI gJ gK gL fH fI fJ fK fL fM fN fO fP fQ fR fS fT fU fV fW dS:Value}
 (hfin:∀ (iu iv iw iy iz iA iB iC iD iE iF iG iH iI iJ iK iL iM iN iO:Value) (n9:Bool) (a9:Option Addr) (q9 c9:Nat) (b9:Option Addr) (k9 d9:Nat) (w':World),Blk w' qb #[.bool n9,.slice a9 q9 c9,.bool false,.slice b9 k9 d9] 38→RatV w' (.agg #[.bool n9,.slice a9 q9 c9,.bool false,.slice b9 k9 d9]) (zCj m i s f n)→y.grownBy w' (some qb)→K' ⟨#[l0,l1,l2,l3,l4,l5,l6,l7,l8,l9,ah,ai,aj,hZ,ia,ak,al,ap,aY,bT,dW,dX,bU,bV,aZ,bf,.slice ax n ac,bg,bh,.pointer (some ⟨qb,0,none⟩),iu,iv,aA,aB,aC,aD,aE,aG,aH,aI,aJ,aK,aL,aM,aN,dT,dU,dV,bi,bw,bA,bB,bC,bD,bE,bG,bH,bI,bJ,bK,bL,bM,bN,bO,bP,bQ,bR,bS,aO,aP,aQ,aR,aS,aT,aU,aV,aW,aX,bY,bZ,dZ,ed,ee,ef,eh,ek,en,b7,ci,ck,cl,cA,cB,gN,gO,eo,fX,fY,fZ,f5,f7,f8,f9,ga,gc,ep,cC,gP,cD,cE,cF,cG,cH,cI,cJ,cK,cL,cN,cO,cP,cQ,cR,cS,cT,cU,cV,cW,cX,gQ,cY,cZ,dc,de,df,dg,dh,di,dj,dk,dn,dp,dt,gR,gS,er,eu,ew,ey,ez,eB,eC,eD,eE,eF,eG,dw,gT,gU,eH,eI,eJ,eK,eM,eN,eO,eP,eQ,eR,eS,eT,eW,eX,eY,eZ,fa,fc,fd,fe,ff,fg,fh,fi,fj,fk,fl,fm,fq,fs,ft,fu,fv,fw,dA,dB,dC,dD,dE,dF,dG,dI,dJ,dK,dL,dM,dN,dO,dP,dQ,dR,gV,gW,gX,fx,fy,fz,fA,fB,fC,fD,fE,fF,fG,.slice ar n cr,.int .i64 (n:Nat),iw,iy,iz,iA,iB,iC,iD,iE,iF,iG,iH,iI,iJ,iK,iL,iM,iN,iO,fH,fI,fJ,fK,fL,fM,fN,fO,fP,fQ,fR,fS,fT,fU,fV,fW,dS],defs⟩ w'):
 Code.wp Tryz.prog ((Tryz.f17.body.bind (zAr 18)).getD .skip) (Exit.then K' Q') ⟨#[l0,l1,l2,l3,l4,l5,l6,l7,l8,l9,ah,ai,aj,hZ,ia,ak,al,ap,aY,bT,dW,dX,bU,bV,aZ,bf,.slice ax n ac,bg,bh,.pointer (some ⟨qb,0,none⟩),bW,bX,aA,aB,aC,aD,aE,aG,aH,aI,aJ,aK,aL,aM,aN,dT,dU,dV,bi,bw,bA,bB,bC,bD,bE,bG,bH,bI,bJ,bK,bL,bM,bN,bO,bP,bQ,bR,bS,aO,aP,aQ,aR,aS,aT,aU,aV,aW,aX,bY,bZ,dZ,ed,ee,ef,eh,ek,en,b7,ci,ck,cl,cA,cB,gN,gO,eo,fX,fY,fZ,f5,f7,f8,f9,ga,gc,ep,cC,gP,cD,cE,cF,cG,cH,cI,cJ,cK,cL,cN,cO,cP,cQ,cR,cS,cT,cU,cV,cW,cX,gQ,cY,cZ,dc,de,df,dg,dh,di,dj,dk,dn,dp,dt,gR,gS,er,eu,ew,ey,ez,eB,eC,eD,eE,eF,eG,dw,gT,gU,eH,eI,eJ,eK,eM,eN,eO,eP,eQ,eR,eS,eT,eW,eX,eY,eZ,fa,fc,fd,fe,ff,fg,fh,fi,fj,fk,fl,fm,fq,fs,ft,fu,fv,fw,dA,dB,dC,dD,dE,dF,dG,dI,dJ,dK,dL,dM,dN,dO,dP,dQ,dR,gV,gW,gX,fx,fy,fz,fA,fB,fC,fD,fE,fF,fG,.slice ar n cr,.int .i64 (n:Nat),.int .i64 0,gd,gh,gl,gn,gy,gz,gA,gC,gD,gE,gF,gG,gH,gI,gJ,gK,gL,fH,fI,fJ,fK,fL,fM,fN,fO,fP,fQ,fR,fS,fT,fU,fV,fW,dS],defs⟩ y:=by
 conv=>arg 2;whnf
 have HI:=dH hI;have HE:=dH hE;have HR:=dH hr;have HX:=dH hX;have HO1:=dH ho1;have HO2:=dH ho2;have HZ1':=dH hz1;have HZ2':=dH hz2;have HZ3:=dH hz;have HF:=dH hfin;have HB0:=dH hB;have HV0:Hid (RatV y (.agg #[.bool nq,.slice aq qq cq,.bool false,.slice bq kq dq]) (zCj m i s f 0)):=dH (by unfold zCj;rw [zBB];rwa [show s - 0=s by grind]);have hrle:=hI.le;have hrmx:=hI.mx;have hxle:=hX.le;have hxmx:=hX.mx;have HSZ:=dH hB.lt;clear hI hE hr hX ho1 ho2 hz1 hz2 hz hfin hB hV;go_wp2_with fail
 go_loopw [224] (fun v wr=>∃k:Nat,k≤n∧v=.int .i64 k∧∃ (nq:Bool) (aq:Option Addr) (qq cq:Nat) (bq:Option Addr) (kq dq:Nat),Blk wr qb #[.bool nq,.slice aq qq cq,.bool false,.slice bq kq dq] 38∧RatV wr (.agg #[.bool nq,.slice aq qq cq,.bool false,.slice bq kq dq]) (zCj m i s f k)∧y.grownBy wr (some qb)) (fun v _=>n - (intOf v).toNat)
 case atStart=>exact⟨0,Nat.zero_le _,rfl,nq,aq,qq,cq,bq,kq,dq,HB0.out,HV0.out,World.grownBy.refl _ _⟩
 case round=>
  obtain⟨k,hk,rfl,nq,aq,qq,cq,bq,kq,dq,hb,hv,hg⟩:=hrel;generalize wr=z at *;clear HB0 HV0;have k0:(0:Int)≤(k:Int):=by omega
  by_cases hkn:k<n
  ·have k1:(k:Int)< (n:Int):=by omega
   have hw2:IntKind.i64.wrap ((k:Int)+1)= (k:Int)+1:=IntWalk.i64_in _ (by omega);have hxr:Ext w0 z:=Below.grown HE.out hg HE.out.size (fun b e=>by cases e;exact hq0);have hkl:k<r.length:=by omega
   obtain⟨b2,o2,rfl⟩:=HI.out.head hkl;obtain⟨x,hx,hcx,hx1,hx2⟩:=Ints.get (HI.out.ext hxr) hkl;have hmk:=zHU HR.out hx;have HLS:=dH (zFE m i s f k);rw [hmk] at HLS;have HBQ:=dH hb;have HVQ:=dH hv;have HG:=dH hg;clear hx hxr hmk hb hv hg;by_cases hmiss:x= -1
   ·have t1:(x != -1)=false:=by simp [hmiss]
    rw [if_neg (by simpa using hmiss)] at HLS;clear hmiss;go_wp2_with fail;refine(zAA x _).mono ?_;rintro e w9 ⟨rfl,rfl⟩;rw [t1];go_wp2_with fail;go_roundw
    case rel=>exact⟨k+1,by omega,by go_num,nq,aq,qq,cq,bq,kq,dq,HBQ.out,by rw [HLS.out];exact HVQ.out,HG.out⟩
    case measure=>simp [intOf];omega
   ·have t1:(x != -1)=true:=by simp [hmiss]
    rw [if_pos hmiss] at HLS;clear hmiss;have hX2:=HX.out.grown HG.out (HO1.out (by omega)) HO2.out;have hax:∃bx ox,ax=some ⟨bx,ox,none⟩:=by
     cases ax with
     | none=>have:=hX2.nil rfl;omega
     | some A=>
      obtain⟨h0,_⟩:=hX2.cells A rfl k hkn;obtain⟨bx,ox,sx⟩:=A;dsimp only at h0;subst h0;exact⟨bx,ox,rfl⟩
    obtain⟨bx,ox,rfl⟩:=hax;obtain⟨_,x0,x1,x2,x3⟩:=hX2.cells _ rfl k hkn;have HNE:Hid (some bx≠some qb):=dH (fun e=>HO1.out (by omega) _ rfl e.symm);have HVX:=dH (hX2.val k hkn);have HZ1:=dH (HZ1'.out k hkn);have HZ2:=dH (HZ2'.out k hkn);dsimp only at x0 x1 x2 x3;obtain⟨cx,hcx9⟩:∃cx,cx=V k:=⟨_,rfl⟩
    rw [←hcx9] at x0 x1 x2 x3 HVX;obtain⟨nx,xa,xq,xc,mx,xb,xk,xd⟩:=cx;dsimp only [RatC.val] at x0 x1 x2 x3 HVX;clear hX2 hcx9;go_wp2_with fail;refine(zAA x _).mono ?_;rintro e w9 ⟨rfl,rfl⟩;rw [t1];go_upto_region 63 with fail;have hE0:Ext z (World.drew z):=(Ext.refl _).drew;have HB:=dH (HBQ.out.ext hE0);replace HVQ:=dH (HVQ.out.ext hE0);replace HVX:=dH (HVX.out.ext hE0);obtain⟨s0,s1,s2,s3⟩:=bk4 HB;have s4:=zA0 hE0 x0;have s5:=zA0 hE0 x1;have s6:=zA0 hE0 x2;have s7:=zA0 hE0 x3;clear x0 x1 x2 x3 HBQ hcx;refine wp_region_noPanic ?_;refine wp_region_held_drew (S:=(fun w'=>w'.cell? ⟨bx,ox+k*4,none⟩=some (.bool nx)∧w'.cell? ⟨bx,ox+k*4+1,none⟩=some (.slice xa xq xc)∧w'.cell? ⟨bx,ox+k*4+2,none⟩=some (.bool mx)∧w'.cell? ⟨bx,ox+k*4+3,none⟩=some (.slice xb xk xd))) (by kernel_rfl) ?_ (fun hHeld=>?_)
    ·exact⟨s4,s5,s6,s7⟩
    (try simp only [pur,Nat.reduceAdd])
    generalize World.drew z=y0 at *
    iterate 4
     refine tkR [1,2,3,4] (v:=?_) rfl rfl (by kernel_rfl) (fun _ _ _ h=>h) (by rfl) ?_ (by assumption) ?_;rotate_left
     ·(intro w hSw;(try dsimp only at hSw);(try go_simp);(try with_reducible rfl))
     (try simp only [Act.put,pus])
    refine wpAnyH_ready (rs:=[0]) (by kernel_rfl) (by simp) ?_;refine AllReadyH.cons (o:=_) rfl (fun K hK=>?_) ?_
    ·go_simp;refine hK.out _ _ ?_ ?_
     ·exact⟨s4,s5,s6,s7⟩
     clear hK K hHeld;intro hHeld
     (try simp only [Act.put,pus])
     refine wpAnyH_ready (rs:=[5]) (by kernel_rfl) (by simp) ?_;refine AllReadyH.cons (o:=_) rfl (fun K hK=>?_) ?_
     ·go_simp
      (with_reducible refine(zDq (v:=.agg #[.bool nq,.slice aq qq cq,.bool false,.slice bq kq dq]) (u:=.agg #[.bool nx,.slice xa xq xc,.bool mx,.slice xb xk xd]) HVQ.out HVX.out HZ1.out HZ2.out HZ3.out).mono ?_);rintro e9 y1 ⟨v9,rfl,⟨n9,a9,q9,c9,b9,k9,d9,rfl,hv',hf',hg'⟩,hE⟩;replace HB:=dH (HB.out.ext hE);have HV9:=dH hv';have hE0:=hE0.trans hE;replace s0:=zA0 hE s0;replace s1:=zA0 hE s1;replace s2:=zA0 hE s2;replace s3:=zA0 hE s3;replace s4:=zA0 hE s4;replace s5:=zA0 hE s5;replace s6:=zA0 hE s6;replace s7:=zA0 hE s7;clear hE hv' hf' hg' HVQ HVX
      refine hK.out _ _ ?_ ?_
      ·exact⟨s4,s5,s6,s7⟩
      clear hK K hHeld;intro hHeld
      (try simp only [Act.put,pus])
      iterate 2
       refine tkR [6,7] (v:=?_) rfl rfl (by kernel_rfl) (fun _ _ _ h=>h) (by rfl) ?_ (by assumption) ?_;rotate_left
       ·(intro w hSw;(try dsimp only at hSw);(try go_simp);(try with_reducible rfl))
       (try simp only [Act.put,pus])
      refine wpAnyH_ready (rs:=[8]) (by kernel_rfl) (by simp) ?_;refine AllReadyH.cons (o:=_) rfl (fun K hK=>?_) ?_
      ·go_simp
       (with_reducible refine(zAG n9 false a9 b9 q9 c9 k9 d9 _).mono ?_);rintro e9 y2 ⟨rfl,hE⟩;replace HB:=dH (HB.out.ext hE);replace HV9:=dH (RatV.ext HV9.out hE);have hE0:=hE0.trans hE;replace s0:=zA0 hE s0;replace s1:=zA0 hE s1;replace s2:=zA0 hE s2;replace s3:=zA0 hE s3;replace s4:=zA0 hE s4;replace s5:=zA0 hE s5;replace s6:=zA0 hE s6;replace s7:=zA0 hE s7;clear hE
       refine hK.out _ _ ?_ ?_
       ·exact⟨s4,s5,s6,s7⟩
       clear hK K hHeld;intro hHeld
       (try simp only [Act.put,pus])
       refine wpAnyH_ready (rs:=[9]) (by kernel_rfl) (by simp) ?_;refine AllReadyH.cons (o:=_) rfl (fun K hK=>?_) ?_
       ·obtain⟨g0,z0,g1,z1,g2,z2,g3,z3⟩:=bp4 HB (.bool n9) (.slice a9 q9 c9) (.bool false) (.slice b9 k9 d9);have HV5:=rv4 HV9 HB (.bool n9) (.slice a9 q9 c9) (.bool false) (.slice b9 k9 d9) rfl rfl rfl rfl;have HB5:=bs4 HB (.bool n9) (.slice a9 q9 c9) (.bool false) (.slice b9 k9 d9);have HG5:=dH ((zDz hE0 (some qb)).trans (zNa HB.out (.bool n9) (.slice a9 q9 c9) (.bool false) (.slice b9 k9 d9)));clear s0 s1 s2 s3;have hsb:=zNa HB.out (.bool n9) (.slice a9 q9 c9) (.bool false) (.slice b9 k9 d9);replace s4:=hsb.cell s4 HNE.out;replace s5:=hsb.cell s5 HNE.out;replace s6:=hsb.cell s6 HNE.out;replace s7:=hsb.cell s7 HNE.out;clear hsb;go_simp;clear g0 z0 g1 z1 g2 z2 g3 z3;refine hK.out _ _ ?_ ?_
        ·exact⟨s4,s5,s6,s7⟩
        clear hK K hHeld;intro hHeld
        (try simp only [Act.put,pus])
        refine wpAnyH_done (by kernel_rfl) ?_ _;refine NoPanic.normal ?_;go_wp2_with fail;go_roundw
        case rel=>exact⟨k+1,by omega,by go_num,n9,a9,q9,c9,b9,k9,d9,HB5.out,by rw [HLS.out];exact HV5.out,HG.out.trans HG5.out⟩
        case measure=>simp [intOf];omega
       exact AllReadyH.nil
      exact AllReadyH.nil
     exact AllReadyH.nil
    exact AllReadyH.nil
  ·have k1:¬ (k:Int)< (n:Int):=by omega
   obtain rfl:k=n:=by omega
   have HBQ:=dH hb;have HVQ:=dH hv;have HG:=dH hg;clear hb hv hg;go_wp2_with fail;exact HF.out _ _ _ _ _ _ _ _ _ _ _ _ _ _ _ _ _ _ _ _ _ _ _ _ _ _ _ _ HBQ.out HVQ.out HG.out
theorem OwnRats.keptB {w w':World} {B:Nat} {v:Value} {K:List RatC} {rs:List Rat} {p:Nat} {cs:Array Value} {t:TypeId} (h:OwnRats w B v K rs) (hB:Blk w p cs t) (ht:38≠t) (hc:noInt cs) (hg:w.grownBy w' (some p)):OwnRats w' B v K rs:=
 h.kept hg (.inr (zAI h.own hB ht)) fun x hx=>by
  obtain⟨i,hi,rfl⟩:=List.getElem_of_mem hx;exact(h.val i hi).offB hB hc
theorem OwnRats.high {w:World} {B B':Nat} {v:Value} {K:List RatC} {rs:List Rat} (h:OwnRats w B v K rs) (hb:∀g,v.ownBlock=some g→B'≤g):OwnRats w B' v K rs:=by
 refine⟨h.len,⟨h.own.1,?_⟩,h.val,h.apart⟩;rcases h.own.2 with h2 | ⟨g,cap,cur,e,h3,hg,hr⟩
 ·exact .inl h2
 ·exact .inr ⟨g,cap,cur,e,hb g (by rw [e];rfl),hg,hr⟩
theorem zKl {x y8 w9:World} {B0 fb vc uc n ac:Nat} {va ua ax:Option Addr} {Kx:List RatC} {c:RatC} {rs:List Rat} {r:Rat} (HO:OwnRats y8 x.heap.size (.slice va Kx.length vc) Kx rs) (hO:OwnRats w9 B0 (.slice ua (Kx.length+1) uc) (Kx ++ [c]) (rs ++ [r]))
 (hgr:y8.grownBy w9 (Value.slice va Kx.length vc).ownBlock) (hat:(Value.slice ua (Kx.length+1) uc).ownBlock= (Value.slice va Kx.length vc).ownBlock∨(Value.slice ua (Kx.length+1) uc).ownBlock=some y8.heap.size) (hF:Blk y8 fb #[.slice va Kx.length vc,.slice ax n ac] 25) (hx:x.heap.size≤y8.heap.size) (hg:x.grownBy y8 (some fb)):
 OwnRats (w9.setCell ⟨fb,0,none⟩ (.slice ua (Kx.length+1) uc)) x.heap.size (.slice ua (Kx.length+1) uc) (Kx ++ [c]) (rs ++ [r])∧Blk (w9.setCell ⟨fb,0,none⟩ (.slice ua (Kx.length+1) uc)) fb #[.slice ua (Kx.length+1) uc,.slice ax n ac] 25∧x.grownBy (w9.setCell ⟨fb,0,none⟩ (.slice ua (Kx.length+1) uc)) (some fb)∧w9.frozen? ⟨fb,0,none⟩=false∧w9.cell? ⟨fb,0,none⟩=some (.slice va Kx.length vc):=by
 have hF9:=zA5 hF hgr (zAI HO.own hF (by decide));refine⟨(hO.high fun g e=>?_).keptB hF9 (by decide) (zAc rfl) (zAa w9 fb 0 _),hF9.set 0 _,(hg.andThen hgr fun j e=>.inl (HO.lt j e).1).trans (zAa w9 fb 0 _),hF9.free 0,hF9.cell rfl⟩;rcases hat with h | h
 ·exact(HO.lt g (h ▸ e)).1
 ·rw [h] at e;cases e;exact hx
def zKm (m:List (List Int)) (f:Nat→Rat) (n i:Nat):Rat:=zCj m i ((zBL m i:Int):Rat) f n / Rat.divInt (zBe m i) 1
theorem zNc {P Ra ca n fb ac cap zi zj:Nat} {ax a:Option Addr} {m:List (List Int)} {G:Nat→Nat} {L:Nat→List Int} {V:Nat→RatC} {f:Nat→Rat} {w0 x:World} (h:Rows w0 a cap m) (hE:Ext w0 x) (hfb:w0.heap.size≤fb) (hs:SysR x P Ra ca n m.length G L) (hL2:L (n+2)= (List.range m.length).map (zBe m)) (hL3:L (n+3)= (List.range m.length).map (zBL m))
 (hT:Tab m n) (h1:∀i,i<m.length→1≤zBe m i) (hn:0<n) (hf:Blk x fb #[.slice none 0 0,.slice ax n ac] 25) (hX:RowR x ax ac n V f)
 (hz1:∀i,i<m.length→∀k,k≤n→Sz (zCj m i ((zBL m i:Int):Rat) f k) zi) (hz2:∀c,c<n→Sz (f c) zj) (hz:zi+zj+1≤2048) (hzi:zi+1≤2048) {K':Act→World→Prop} {Q':Exit→Act→World→Prop} {defs:List Deferred} {l0 l1 l3 l4 l5 l6 l7 l8 l9 ah ai aj hZ ak al ap aY bT dW dX bU bV aZ bf bg bh dY bW bX aA aB aC aD aE aG aH aI aJ aK aL aM aN dT dU dV bi bw bA bB bC bD bE bG bH bI bJ bK bL bM bN bO bP bQ bR bS aO aP aQ aR aS aT aU aV aW aX bY bZ dZ ed ee ef eh ek en b7 ci ck cl cA cB gN gO eo fX fY fZ f5 f7 f8 f9 ga gc ep cC gP cD cE cF cG cH cI cJ cK cL cN cO cP cQ cR cS cT cU cV cW cX gQ cY cZ dc de df dg dh di dj dk dn dp dt gR gS er eu ew ey ez eB eC eD eE eF eG dw gT gU eH eI eJ eK eM eN eO eP eQ eR eS eT eW eX eY eZ fa fc fd fe ff fg fh fi fj fk fl fm fq fs ft fu fv fw dA dB dC dD dE dF dG dI dJ dK dL dM dN dO dP dQ dR fx fy fz fA fB fC fD fE fF fG gY gZ hH gd gh gl gn gy gz gA gC gD gE gF gG gH gI gJ gK gL fH fI fJ fK fL fM fN fO fP fQ fR fS fT fU fV fW dS:Value}
 (hfin:∀ (kj kl km iu iv ko kw kA kB kC kD kF kG kH kI kJ kK kL iw iy iz iA iB iC iD iE iF iG iH iI iJ iK iL iM iN iO kM kN kO kP kQ kR kT kU kV kW kX kY kZ k8 lc ld:Value) (va:Option Addr) (vc:Nat) (Kx:List RatC) (w':World),OwnRats w' x.heap.size (.slice va m.length vc) Kx ((List.range m.length).map (zKm m f n))→Blk w' fb #[.slice va m.length vc,.slice ax n ac] 25→x.grownBy w' (some fb)→K' ⟨#[l0,l1,.pointer (some ⟨fb,0,none⟩),l3,l4,l5,l6,l7,l8,l9,ah,ai,aj,hZ,.pointer (some ⟨P,0,none⟩),ak,al,ap,aY,bT,dW,dX,bU,bV,aZ,bf,.slice ax n ac,kj,kl,km,iu,iv,aA,aB,aC,aD,aE,aG,aH,aI,aJ,aK,aL,aM,aN,dT,dU,dV,bi,bw,bA,bB,bC,bD,bE,bG,bH,bI,bJ,bK,bL,bM,bN,bO,bP,bQ,bR,bS,aO,aP,aQ,aR,aS,aT,aU,aV,aW,aX,bY,bZ,dZ,ed,ee,ef,eh,ek,en,b7,ci,ck,cl,cA,cB,gN,gO,eo,fX,fY,fZ,f5,f7,f8,f9,ga,gc,ep,cC,gP,cD,cE,cF,cG,cH,cI,cJ,cK,cL,cN,cO,cP,cQ,cR,cS,cT,cU,cV,cW,cX,gQ,cY,cZ,dc,de,df,dg,dh,di,dj,dk,dn,dp,dt,gR,gS,er,eu,ew,ey,ez,eB,eC,eD,eE,eF,eG,dw,gT,gU,eH,eI,eJ,eK,eM,eN,eO,eP,eQ,eR,eS,eT,eW,eX,eY,eZ,fa,fc,fd,fe,ff,fg,fh,fi,fj,fk,fl,fm,fq,fs,ft,fu,fv,fw,dA,dB,dC,dD,dE,dF,dG,dI,dJ,dK,dL,dM,dN,dO,dP,dQ,dR,.slice a m.length cap,.int .i64 (m.length:Nat),ko,kw,kA,kB,kC,kD,kF,kG,kH,kI,kJ,kK,kL,iw,iy,iz,iA,iB,iC,iD,iE,iF,iG,iH,iI,iJ,iK,iL,iM,iN,iO,kM,kN,kO,kP,kQ,kR,kT,kU,kV,kW,kX,kY,kZ,k8,lc,ld,dS],defs⟩ w'):
 Code.wp Tryz.prog ((Tryz.f17.body.bind (zAr 16)).getD .skip) (Exit.then K' Q') ⟨#[l0,l1,.pointer (some ⟨fb,0,none⟩),l3,l4,l5,l6,l7,l8,l9,ah,ai,aj,hZ,.pointer (some ⟨P,0,none⟩),ak,al,ap,aY,bT,dW,dX,bU,bV,aZ,bf,.slice ax n ac,bg,bh,dY,bW,bX,aA,aB,aC,aD,aE,aG,aH,aI,aJ,aK,aL,aM,aN,dT,dU,dV,bi,bw,bA,bB,bC,bD,bE,bG,bH,bI,bJ,bK,bL,bM,bN,bO,bP,bQ,bR,bS,aO,aP,aQ,aR,aS,aT,aU,aV,aW,aX,bY,bZ,dZ,ed,ee,ef,eh,ek,en,b7,ci,ck,cl,cA,cB,gN,gO,eo,fX,fY,fZ,f5,f7,f8,f9,ga,gc,ep,cC,gP,cD,cE,cF,cG,cH,cI,cJ,cK,cL,cN,cO,cP,cQ,cR,cS,cT,cU,cV,cW,cX,gQ,cY,cZ,dc,de,df,dg,dh,di,dj,dk,dn,dp,dt,gR,gS,er,eu,ew,ey,ez,eB,eC,eD,eE,eF,eG,dw,gT,gU,eH,eI,eJ,eK,eM,eN,eO,eP,eQ,eR,eS,eT,eW,eX,eY,eZ,fa,fc,fd,fe,ff,fg,fh,fi,fj,fk,fl,fm,fq,fs,ft,fu,fv,fw,dA,dB,dC,dD,dE,dF,dG,dI,dJ,dK,dL,dM,dN,dO,dP,dQ,dR,.slice a m.length cap,.int .i64 (m.length:Nat),.int .i64 0,fx,fy,fz,fA,fB,fC,fD,fE,fF,fG,gY,gZ,hH,gd,gh,gl,gn,gy,gz,gA,gC,gD,gE,gF,gG,gH,gI,gJ,gK,gL,fH,fI,fJ,fK,fL,fM,fN,fO,fP,fQ,fR,fS,fT,fU,fV,fW,dS],defs⟩ x:=by
 conv=>arg 2;whnf
 have HH:=dH h;have hle:=h.le;have hmx:=h.mx;have HE:=dH hE;have HS:=dH hs;have HT:=dH hT;have HM1:=dH h1;have HFX:=dH hf;have HX:=dH hX;have HZ1:=dH hz1;have HZ2:=dH hz2;have HF:=dH hfin;have H64:=hT.e64;have hxle:=hX.le;have hxmx:=hX.mx;clear h hE hs hT h1 hf hX hz1 hz2 hfin;go_wp2_with fail
 go_loopw [211] (fun v wr=>∃q:Nat,q≤m.length∧v=.int .i64 q∧∃vv Kx,OwnRats wr x.heap.size vv Kx ((List.range q).map (zKm m f n))∧Blk wr fb #[vv,.slice ax n ac] 25∧x.grownBy wr (some fb)) (fun v _=>m.length - (intOf v).toNat)
 case atStart=>exact⟨0,Nat.zero_le _,rfl,_,[],OwnRats.nil _ _,HFX.out,World.grownBy.refl _ _⟩
 case round=>
  obtain⟨q,hq,rfl,vv,Kx,ho,hb,hg⟩:=hrel;generalize wr=z at *;have q0:(0:Int)≤(q:Int):=by omega
  have hKl:Kx.length=q:=by have:=ho.len;rwa [List.length_map,List.length_range] at this
  obtain⟨va,vc,rfl,hvl,hvc⟩:=ho.form;have HO:=dH ho;have HFB:=dH hb;have HG:=dH hg;have HKL:=dH hKl;have hzx:=hg.size;clear ho hb hg hKl;by_cases hqm:q<m.length
  ·have q1:(q:Int)< (m.length:Int):=by omega
   have hw1:IntKind.i64.wrap ((q:Int)+1)= (q:Int)+1:=IntWalk.i64_in _ (by omega);have hxr:Ext w0 z:=Below.grown HE.out HG.out HE.out.size (fun b e=>by cases e;exact hfb);obtain⟨ab,ao,rfl⟩:=HH.out.head hqm;obtain⟨r,ar9,cr9,hr,hc,hI⟩:=Rows.get (HH.out.ext hxr) hqm;obtain⟨r9,ar,cr,hr9,hc9,hI9⟩:=Rows.get HH.out hqm;rw [hr] at hr9;cases hr9
   have hce:=(zA0 hxr hc9).symm.trans hc;simp only [Option.some.injEq,Value.slice.injEq] at hce;obtain⟨rfl,-,rfl⟩:=hce;have hrn:r.length=n:=by rw [←HT.out.len q hqm,zDu hr]
   rw [hrn] at hc;have hsz:=HS.out.grownT HFX.out (by decide) (by decide) (by decide) HG.out;have c3:=hsz.p.cell (i:=3) rfl;have m3:=hsz.at (t:=n+3) (i:=q) (by omega) (by rw [hL3,List.length_map,List.length_range];exact hqm)
   rw [hL3,zA7 hqm] at m3;have hsl:=zET HT.out hqm;obtain⟨sy,hsy⟩:∃sy,zBL m q=sy:=⟨_,rfl⟩
   rw [hsy] at m3 hsl;have HSY:=dH hsy;have HR:=dH hr;have HI:=dH hI9;have HRN:=dH hrn;have HXR:=dH hxr;clear hr hI hI9 hc9 hrn hsz hxr hsy;go_upto_region 58 with fail;clear hc;go_wp2_with fail
   with_reducible refine(zAC sy 1 _ (by omega) (by omega) (by omega)).mono ?_
   rintro e4 y1 ⟨v4,rfl,⟨n4,a4,q4,c4,b4,k4,d4,rfl,hv',hf',hg'⟩,hE1⟩;have HV4:Hid (RatV y1 (.agg #[.bool n4,.slice a4 q4 c4,.bool false,.slice b4 k4 d4]) ((zBL m q:Int):Rat)):=dH (by rw [HSY.out,←zBE];exact hv');have HE1:=dH hE1;clear hv' hf' hg' hE1 c3 m3;go_upto_region 59 with fail;have hy2:=Ext.alloc y1 (.cells #[.bool n4,.slice a4 q4 c4,.bool false,.slice b4 k4 d4] 38);have HQB:=dH (Blk.new0 y1 #[.bool n4,.slice a4 q4 c4,.bool false,.slice b4 k4 d4] 38);have HXZ2:=dH (HE1.out.trans hy2);replace HV4:=dH (RatV.ext HV4.out hy2);have HO1:=dH (HO.out.ext HE1.out);have hqs:=HE1.out.size;have hys:(y1.alloc (.cells #[.bool n4,.slice a4 q4 c4,.bool false,.slice b4 k4 d4] 38)).heap.size=y1.heap.size+1:=by simp
   have HQN:Hid (∀x∈Kx,x.Off (some y1.heap.size)):=dH (fun x hx=>by
    obtain⟨i,hi,rfl⟩:=List.getElem_of_mem hx
    exact(HO1.out.val i hi).newB (Nat.le_refl _))
   have HO2:=dH (HO1.out.ext hy2);have HOL:=dH HO1.out.lt;clear hy2 HE1 HO1;generalize y1.alloc (.cells #[.bool n4,.slice a4 q4 c4,.bool false,.slice b4 k4 d4] 38)=y2 at *;generalize hqb:y1.heap.size=qb at *;have HG2:=dH (HG.out.trans (zDz HXZ2.out (some fb)));have hn3:(n:Int)≤9223372036854775807:=by have:=HT.out.j16;omega
   go_cut [222,223,224] from 222 to 225 (fun s1 s2 s3 wx=>s1=.slice ar n cr∧s2=.int .i64 (n:Nat)∧s3=.int .i64 0∧wx=y2)
   case first=>
    go_wp2_with fail;go_meet;exact⟨rfl,rfl,rfl,rfl⟩
   case rest=>
   obtain⟨rfl,rfl,rfl,rfl⟩:=hcut;rename_i K9 hK9;refine hK9 _ _ ?_;clear hK9;refine zAX (c':=((Tryz.f17.body.bind (zAr 18)).getD .skip)) (by kernel_rfl) ?_
   have hXY:RowR wc ax ac n V f:=HX.out.grown HG2.out (HX.out.offB hn HFX.out (fun i b=>by
    match i with
    | 0=>simp
    | 1=>simp
    | i+2=>simp)) fun c hc=>(HX.out.val c hc).offB HFX.out (zAc rfl)
   apply zNb (w0:=w0) HR.out HI.out HRN.out (HXR.out.trans HXZ2.out) (by have:=HE.out.size;omega) HQB.out HV4.out hXY (fun _=>HX.out.newB hn (by omega)) (fun c hc=>(HX.out.val c hc).newB (by omega)) (fun k hk=>HZ1.out q hqm k (by omega)) HZ2.out hz
   intros
   rename_i n9 a9 q9 c9 b9 k9 d9 w3 hb9 hv9 hg9;have hfq:fb≠qb:=by have:=HFX.out.lt;omega
   have HV9:=dH hv9;have HB9:=dH hb9;have HG3:=dH (HG2.out.andThen hg9 (fun j e=>.inl (by cases e;omega)));have HFB3:Hid (Blk w3 fb #[.slice va Kx.length vc,.slice ax n ac] 25):=dH (zA5 (HFB.out.ext HXZ2.out) hg9 (fun e=>hfq (Option.some.inj e).symm))
   have HO3:=dH (HO2.out.kept hg9 (by
    by_cases e:(Value.slice va Kx.length vc).ownBlock=none
    ·exact .inl e
    ·exact .inr (fun e2=>by have:=(HOL.out _ e2).2;omega)) HQN.out)
   have hsz:=HS.out.grownT HFX.out (by decide) (by decide) (by decide) HG3.out;have HN1:Hid (some qb≠(Value.slice va Kx.length vc).ownBlock∧some P≠(Value.slice va Kx.length vc).ownBlock∧some (G (n+2))≠(Value.slice va Kx.length vc).ownBlock):=dH ⟨fun e=>by have:=(HOL.out _ e.symm).2;omega,fun e=>zAI HO3.out.own hsz.p (by decide) e.symm,fun e=>zAI HO3.out.own (hsz.ib (n+2) (by omega)).blk (by decide) e.symm⟩;have HN2:Hid (some qb≠some fb∧some P≠some fb∧some (G (n+2))≠some fb):=dH ⟨fun e=>hfq (Option.some.inj e).symm,fun e=>zAz hsz.p HFB3.out (by decide) (Option.some.inj e),fun e=>zAz (hsz.ib (n+2) (by omega)).blk HFB3.out (by decide) (Option.some.inj e)⟩;have c2:=hsz.p.cell (i:=2) rfl;have m2:=hsz.at (t:=n+2) (i:=q) (by omega) (by rw [hL2,List.length_map,List.length_range];exact hqm)
   rw [hL2,zA7 hqm] at m2;have hm1:=HM1.out q hqm;have hm2:=(zDR HT.out hqm).2;have HQF:Hid (zKm m f n q=zCj m q ((zBL m q:Int):Rat) f n / Rat.divInt (zBe m q) 1):=dH rfl;obtain⟨my,hmy⟩:∃my,zBe m q=my:=⟨_,rfl⟩
   rw [hmy] at m2 hm1 hm2 HQF;have HZN:=dH (HZ1.out q hqm n (Nat.le_refl _));have HZM:Hid (Sz (Rat.divInt my 1) 1):=dH (zBk (by omega) (by decide) (by decide));have HZ3:=dH hzi
   have HMZ:Hid (Rat.divInt my 1≠0):=dH (by rw [zBE];exact fun e=>by have:my=0:=by exact_mod_cast e
                                                                     omega)
   clear hsz hb9 hv9 hmy HO2 HOL HQN HFB HG2 HXZ2 HG hXY HQB HV4;go_upto_region 65 with fail;have hE0:Ext w3 (World.drew w3):=(Ext.refl _).drew;have HFB:=dH (HFB3.out.ext hE0);have HO:=dH (HO3.out.ext hE0);replace HV9:=dH (HV9.out.ext hE0);have HXZ:Hid (Ext w0 w3):=dH (Below.grown HE.out HG3.out HE.out.size (fun b e=>by cases e;exact hfb));have HZ33:Hid (z.heap.size≤w3.heap.size):=dH (by have h1:=hg9.size;omega);have s0:World.cell? (World.drew w3) ⟨fb,0,none⟩=some (.slice va Kx.length vc):=HFB.out.cell (i:=0) rfl;clear hg9;obtain⟨s1,s2,s3,s4⟩:=bk4 (dH (HB9.out.ext hE0));have s5:=zA0 hE0 c2;have s6:=zA0 hE0 m2;clear c2 m2 HFB3 HO3 HB9;refine wp_region_noPanic ?_;refine wp_region_held_drew (S:=(fun w'=>w'.cell? ⟨qb,0,none⟩=some (.bool n9)∧w'.cell? ⟨qb,1,none⟩=some (.slice a9 q9 c9)∧w'.cell? ⟨qb,2,none⟩=some (.bool false)∧w'.cell? ⟨qb,3,none⟩=some (.slice b9 k9 d9)∧w'.cell? ⟨P,2,none⟩=some (.slice (some ⟨G (n+2),0,none⟩) m.length m.length)∧w'.cell? ⟨G (n+2),q,none⟩=some (.int .i64 my))) (by kernel_rfl) ?_ (fun hHeld=>?_)
   ·exact⟨s1,s2,s3,s4,s5,s6⟩
   (try simp only [pur,Nat.reduceAdd])
   generalize World.drew w3=y4 at *
   iterate 7
    refine tkR [0,2,3,4,5,6,7] (v:=?_) rfl rfl (by kernel_rfl) (fun _ _ _ h=>h) (by rfl) ?_ (by assumption) ?_;rotate_left
    ·(intro w hSw;(try dsimp only at hSw);(try go_simp);(try with_reducible rfl))
    (try simp only [Act.put,pus])
   repeat' first
    | (refine tkR [10,11,15] (v:=?_) rfl rfl (by decide +kernel) (fun _ _ _ h=>h) (by rfl) ?_ (by assumption) ?_
       rotate_left
       ·(intro w hSw;(try dsimp only at hSw);(try go_simp);(try with_reducible rfl))
       (try simp only [Act.put,pus]))
    | (refine wpAnyH_done (by decide +kernel) ?_ _
       refine NoPanic.normal ?_;go_wp2_with fail;go_roundw
       case rel=>exact⟨q+1,by omega,by go_num,_,_,(by rw [List.range_succ,List.map_append,List.map_singleton,HQF.out];exact HFO.out.1),HFO.out.2.1,HFO.out.2.2.1⟩
       case measure=>simp [intOf];omega)
    | (refine rdR [1,8,9,12,13,14,16] (by decide +kernel) (zAt ?_ (zAt ?_ (zAt ?_ (zAt ?_ (zAt ?_ (zAt ?_ (zAt ?_ zFw)))))))
       first
       | exact noR (by decide +kernel)
       | (refine isR (o:=_) rfl (fun K hK=>?_)
          go_simp
          rotate_left)
       first
       | exact noR (by decide +kernel)
       | (refine isR (o:=_) rfl (fun K hK=>?_)
          go_simp
          (with_reducible refine(zAC my 1 _ (by omega) (by omega) (by omega)).mono ?_);rintro e5 y5 ⟨v5,rfl,⟨n5,a5,q5,c5,b5,k5,d5,rfl,hv',hf',hg'⟩,hE⟩;replace HV9:=dH (RatV.ext HV9.out hE);replace HO:=dH (HO.out.ext hE);replace HFB:=dH (HFB.out.ext hE);have hE0:=hE0.trans hE;have HV5:=dH hv';replace s0:=zA0 hE s0;replace s1:=zA0 hE s1;replace s2:=zA0 hE s2;replace s3:=zA0 hE s3;replace s4:=zA0 hE s4;replace s5:=zA0 hE s5;replace s6:=zA0 hE s6;clear hE hv' hf' hg'
          rotate_left)
       first
       | exact noR (by decide +kernel)
       | (refine isR (o:=_) rfl (fun K hK=>?_)
          go_simp
          (with_reducible refine(zGO (v:=.agg #[.bool n9,.slice a9 q9 c9,.bool false,.slice b9 k9 d9]) (u:=.agg #[.bool n5,.slice a5 q5 c5,.bool false,.slice b5 k5 d5]) HV9.out HV5.out HZN.out HZM.out HZ3.out HMZ.out).mono ?_);rintro e6 y6 ⟨v6,rfl,⟨n6,a6,q6,c6,b6,k6,d6,rfl,hv',hf',hg'⟩,hE⟩;have hlt:=HO.out.lt;have HOFF:Hid (RatC.Off ⟨n6,a6,q6,c6,false,b6,k6,d6⟩ (Value.slice va Kx.length vc).ownBlock):=dH ⟨fun _ A hA e=>by have:=hf' A hA;have:=(hlt _ e).2;omega,fun _ A hA e=>by have:=hg' A hA;have:=(hlt _ e).2;omega⟩;replace HO:=dH (HO.out.ext hE);replace HFB:=dH (HFB.out.ext hE);have hE0:=hE0.trans hE;have HV6:=dH hv';replace s0:=zA0 hE s0;replace s1:=zA0 hE s1;replace s2:=zA0 hE s2;replace s3:=zA0 hE s3;replace s4:=zA0 hE s4;replace s5:=zA0 hE s5;replace s6:=zA0 hE s6;clear hE hv' hf' hg' hlt HV5 HV9
          rotate_left)
       first
       | exact noR (by decide +kernel)
       | (refine isR (o:=_) rfl (fun K hK=>?_)
          go_simp
          (with_reducible refine(zAG n6 false a6 b6 q6 c6 k6 d6 _).mono ?_);rintro e7 y7 ⟨rfl,hE⟩;replace HO:=dH (HO.out.ext hE);replace HFB:=dH (HFB.out.ext hE);replace HV6:=dH (RatV.ext HV6.out hE);have hE0:=hE0.trans hE;replace s0:=zA0 hE s0;replace s1:=zA0 hE s1;replace s2:=zA0 hE s2;replace s3:=zA0 hE s3;replace s4:=zA0 hE s4;replace s5:=zA0 hE s5;replace s6:=zA0 hE s6;clear hE
          rotate_left)
       first
       | exact noR (by decide +kernel)
       | (refine isR (o:=_) rfl (fun K hK=>?_)
          go_simp;have hE:=Ext.alloc y7 (.cells #[.bool n6,.slice a6 q6 c6,.bool false,.slice b6 k6 d6] 38);replace HO:=dH (HO.out.ext hE);replace HFB:=dH (HFB.out.ext hE);replace HV6:=dH (RatV.ext HV6.out hE);have hE0:=hE0.trans hE;replace s0:=zA0 hE s0;replace s1:=zA0 hE s1;replace s2:=zA0 hE s2;replace s3:=zA0 hE s3;replace s4:=zA0 hE s4;replace s5:=zA0 hE s5;replace s6:=zA0 hE s6;have HBz:=dH (Blk.new0 y7 #[.bool n6,.slice a6 q6 c6,.bool false,.slice b6 k6 d6] 38);clear hE;generalize Array.size (World.heap y7)=kb2 at *;generalize World.alloc y7 (.cells #[.bool n6,.slice a6 q6 c6,.bool false,.slice b6 k6 d6] 38)=y8 at *
          rotate_left)
       first
       | exact noR (by decide +kernel)
       | (refine isR (o:=_) rfl (fun K hK=>?_)
          refine zAP (a0:=w0) rfl (.tmp 242) (.tmp 254) rfl (HXZ.out.trans hE0) rfl (HO.out.low HE.out.size) rfl (x:=⟨n6,a6,q6,c6,false,b6,k6,d6⟩) (r:=zCj m q ((zBL m q:Int):Rat) f n / Rat.divInt my 1) HBz.out HV6.out HOFF.out (by have:=HKL.out;omega) ?_;intro v' w9 hO' hE' hgr hat';obtain⟨ua,uc,e9,hul,huc⟩:=hO'.form;rw [List.length_append,List.length_singleton] at e9;subst e9;have HFO:=dH (zKl HO.out hO' hgr hat' HFB.out (Nat.le_trans hzx (Nat.le_trans HZ33.out hE0.size)) (HG3.out.trans (zDz hE0 _)));have hF9:=HFO.out.2.2.2.1;have hC9:=HFO.out.2.2.2.2;replace s1:=hgr.cell s1 HN1.out.1;replace s2:=hgr.cell s2 HN1.out.1;replace s3:=hgr.cell s3 HN1.out.1;replace s4:=hgr.cell s4 HN1.out.1;replace s5:=hgr.cell s5 HN1.out.2.1;replace s6:=hgr.cell s6 HN1.out.2.2;clear s0 HFB HO
          rotate_left)
       first
       | exact noR (by decide +kernel)
       | (refine isR (o:=_) rfl (fun K hK=>?_)
          go_simp;have hsb:=zAa w9 fb 0 (.slice ua (Kx.length+1) uc);replace s1:=hsb.cell s1 HN2.out.1;replace s2:=hsb.cell s2 HN2.out.1;replace s3:=hsb.cell s3 HN2.out.1;replace s4:=hsb.cell s4 HN2.out.1;replace s5:=hsb.cell s5 HN2.out.2.1;replace s6:=hsb.cell s6 HN2.out.2.2;clear hF9 hC9 hsb
          rotate_left)
       all_goals (
        refine hK.out _ _ ?_ ?_
        ·exact⟨s1,s2,s3,s4,s5,s6⟩
        clear hK K hHeld;intro hHeld
        (try simp only [Act.put,pus])))
  ·have q1:¬ (q:Int)< (m.length:Int):=by omega
   obtain rfl:q=m.length:=by omega
   have hKc:=HKL.out;rw [hKc] at HO HFB;clear hKc;go_wp2_with fail;exact HF.out _ _ _ _ _ _ _ _ _ _ _ _ _ _ _ _ _ _ _ _ _ _ _ _ _ _ _ _ _ _ _ _ _ _ _ _ _ _ _ _ _ _ _ _ _ _ _ _ _ _ _ _ _ _ _ _ HO.out HFB.out HG.out
end Go.Proofs.YtonkhcdmchidjaaGreat
