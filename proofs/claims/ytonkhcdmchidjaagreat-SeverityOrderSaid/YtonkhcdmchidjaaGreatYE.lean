import Derived.Test.YtonkhcdmchidjaaGreatYD
set_option maxHeartbeats 8000000
namespace Go.Proofs.YtonkhcdmchidjaaGreat
open Go.RowKit Go BigFrame Go.Shelf
set_option maxRecDepth 100000
set_option linter.all false
attribute [local go_sem] Oper.semAt_some
theorem zEn {W W':World} {row:Option Nat} {b:Nat} {cs:Array Value} {t:TypeId} (h:Blk W b cs t) (hg:W.grownBy W' row) (hr:∀r,row=some r→∃o:Obj,W.heap[r]? =some o∧o.isCells=false):Blk W' b cs t:=
 zA5 h hg fun e=>by
  obtain⟨o,ho,hc⟩:=hr b e;rw [show W.heap[b]? =some (.cells cs t (0,0)) from h] at ho;cases ho
  cases hc
theorem SysR.own {P Ra ca n E:Nat} {G:Nat→Nat} {β:Type} {L:β→Nat→List Int} (B:Nat):OwnFrom B (fun(s:β) W=>SysR W P Ra ca n E G (L s)):=fun s W W' row h hg hr=>by
 have hr2:∀r,row=some r→∃o:Obj,W.heap[r]? =some o∧o.isCells=false:=fun r e=>(hr r e).2;obtain⟨cs,hb,hc⟩:=h.ra;exact⟨zEn h.p hg hr2,⟨cs,zEn hb hg hr2,hc⟩,h.ca,fun t ht=>zEn (h.ib t ht) hg hr2,h.inj,h.len⟩
theorem PutK.own {β:Type} {n₀ B:Nat} {x:World} (hx:n₀≤x.heap.size) (hB:x.heap.size≤B):OwnFrom B (fun(_:β) W=>PutK n₀ x W):=fun s W W' row h hg hr=>
 ⟨h.low.grown hg (Nat.le_trans hx h.low.size) fun k e=>Nat.le_trans hx (Nat.le_trans hB (hr k e).1),fun b cs t ht k=>zEn (h.nt b cs t ht k) hg fun r e=>(hr r e).2,
  ⟨Nat.le_trans h.ot.size hg.size,fun k o hk ho=>by
   have hlt:=(Array.getElem?_eq_some_iff.1 hk).1
   exact(hg.block k (Nat.lt_of_lt_of_le hlt h.ot.size) (fun e=>by have:=(hr k e.symm).1;omega)).trans (h.ot.same k o hk ho)⟩⟩
theorem PutK.kps {n₀ B1 B2:Nat} {A B:World} {t1 t2:TypeId} {c1 c2:Array Value} (h:PutK n₀ A B) (h1:Blk A B1 c1 t1) (h2:Blk A B2 c2 t2) (e1:t1≠3) (e2:t2≠3):KpS n₀ B1 B2 A B:=
 ⟨h.low,fun cs t k=>h.nt _ _ _ (fun e=>by subst e;exact zAz h1 k e1 rfl) k,fun cs t k=>h.nt _ _ _ (fun e=>by subst e;exact zAz h2 k e2 rfl) k⟩
theorem OkS.own (m:List (List Int)) (B:Nat):OwnFrom B (OkS m):=fun _ _ _ _ h _ _=>h
theorem PutK.keeps {n₀:Nat} {A B:World} (_:PutK n₀ A B):True:=trivial
theorem zOa {P Ra ca n B1 B2 cap:Nat} {a:Option Addr} {m:List (List Int)} {G:Nat→Nat} {w0 x:World} (h:Rows w0 a cap m) (hE:Ext w0 x) (hb1:Blk x B1 #[.slice a m.length cap] 22) (hb2:Blk x B2 #[.func (.func 55) #[] #[]] 84)
 (hs:SysR x P Ra ca n m.length G (L6 m n m.length [])) (hG:∀t,t<n+4→w0.heap.size≤G t) (hT:Tab m n) {K':Act→World→Prop} {Q':Exit→Act→World→Prop} {defs:List Deferred} {l0 l1 l2 l3 l4 l5 l6 l7 l8 l9 ah ai aj hZ ak al ap aY bT dW dX bU bV aZ bf gM bg bh dY bW bX aA aB aC aD aE aG aH aI aJ aK aL aM aN dT dU dV bi bw bA bB bC bD bE bG bH bI bJ bK bL bM bN bO bP bQ bR bS aO aP aQ aR aS aT aU aV aW aX bY bZ dZ ed ee ef eh ek en b7 ci ck cl cA cB gN gO eo fX fY fZ f5 f7 f8 f9 ga gc ep cC cD cE cF cG cH cI cJ cK cL cN cO cP cQ cR cS cT cU cV cW cX gQ cY cZ dc de df dg dh di dj dk dn dp dt gR gS er eu ew ey ez eB eC eD eE eF eG dw gT gU eH eI eJ eK eM eN eO eP eQ eR eS eT eW eX eY eZ fa fc fd fe ff fg fh fi fj fk fl fm fq fs ft fu fv fw dA dB dC dD dE dF dG dI dJ dK dL dM dN dO dP dQ dR gV gW gX fx fy fz fA fB fC fD fE fF fG gY gZ hH gd gh gl gn gy gz gA gC gD gE gF gG gH gI gJ gK gL fH fI fJ fK fL fM fN fO fP fQ fR fS fT fU fV fW dS:Value}
 (hfin:∀ (D:Nat) (w':World),x.heap.size≤D→SysR w' P Ra ca n m.length G (L6 m n m.length (knS m m.length 0))→PutK w0.heap.size x w'→w'.heap[D]? =some (.deferred (some []))→K' ⟨#[l0,l1,l2,l3,l4,l5,l6,l7,l8,l9,ah,ai,aj,hZ,.pointer (some ⟨P,0,none⟩),ak,al,ap,aY,bT,dW,dX,bU,bV,aZ,bf,gM,bg,bh,dY,bW,bX,aA,aB,aC,aD,aE,aG,aH,aI,aJ,aK,aL,aM,aN,dT,dU,dV,bi,bw,bA,bB,bC,bD,bE,bG,bH,bI,bJ,bK,bL,bM,bN,bO,bP,bQ,bR,bS,aO,aP,aQ,aR,aS,aT,aU,aV,aW,aX,bY,bZ,dZ,ed,ee,ef,eh,ek,en,b7,ci,ck,cl,cA,cB,gN,gO,eo,fX,fY,fZ,f5,f7,f8,f9,ga,gc,ep,cC,.func (.func 122) #[] #[.pointer (some ⟨B1,0,none⟩),.pointer (some ⟨B2,0,none⟩)],cD,cE,cF,cG,cH,cI,cJ,cK,cL,cN,cO,cP,cQ,cR,cS,cT,cU,cV,cW,cX,gQ,cY,cZ,dc,de,df,dg,dh,di,dj,dk,dn,dp,dt,gR,gS,er,eu,ew,ey,ez,eB,eC,eD,eE,eF,eG,dw,gT,gU,eH,eI,eJ,eK,eM,eN,eO,eP,eQ,eR,eS,eT,eW,eX,eY,eZ,fa,fc,fd,fe,ff,fg,fh,fi,fj,fk,fl,fm,fq,fs,ft,fu,fv,fw,dA,dB,dC,dD,dE,dF,dG,dI,dJ,dK,dL,dM,dN,dO,dP,dQ,dR,gV,gW,gX,fx,fy,fz,fA,fB,fC,fD,fE,fF,fG,gY,gZ,hH,gd,gh,gl,gn,gy,gz,gA,gC,gD,gE,gF,gG,gH,gI,gJ,gK,gL,fH,fI,fJ,fK,fL,fM,fN,fO,fP,fQ,fR,fS,fT,fU,fV,fW,dS],({target:=.collected D,args:=#[]} :: defs)⟩ w'):
 Code.wp Tryz.prog ((Tryz.f17.body.bind (zAr 6)).getD .skip) (Exit.then K' Q') ⟨#[l0,l1,l2,l3,l4,l5,l6,l7,l8,l9,ah,ai,aj,hZ,.pointer (some ⟨P,0,none⟩),ak,al,ap,aY,bT,dW,dX,bU,bV,aZ,bf,gM,bg,bh,dY,bW,bX,aA,aB,aC,aD,aE,aG,aH,aI,aJ,aK,aL,aM,aN,dT,dU,dV,bi,bw,bA,bB,bC,bD,bE,bG,bH,bI,bJ,bK,bL,bM,bN,bO,bP,bQ,bR,bS,aO,aP,aQ,aR,aS,aT,aU,aV,aW,aX,bY,bZ,dZ,ed,ee,ef,eh,ek,en,b7,ci,ck,cl,cA,cB,gN,gO,eo,fX,fY,fZ,f5,f7,f8,f9,ga,gc,ep,cC,.func (.func 122) #[] #[.pointer (some ⟨B1,0,none⟩),.pointer (some ⟨B2,0,none⟩)],cD,cE,cF,cG,cH,cI,cJ,cK,cL,cN,cO,cP,cQ,cR,cS,cT,cU,cV,cW,cX,gQ,cY,cZ,dc,de,df,dg,dh,di,dj,dk,dn,dp,dt,gR,gS,er,eu,ew,ey,ez,eB,eC,eD,eE,eF,eG,dw,gT,gU,eH,eI,eJ,eK,eM,eN,eO,eP,eQ,eR,eS,eT,eW,eX,eY,eZ,fa,fc,fd,fe,ff,fg,fh,fi,fj,fk,fl,fm,fq,fs,ft,fu,fv,fw,dA,dB,dC,dD,dE,dF,dG,dI,dJ,dK,dL,dM,dN,dO,dP,dQ,dR,gV,gW,gX,fx,fy,fz,fA,fB,fC,fD,fE,fF,fG,gY,gZ,hH,gd,gh,gl,gn,gy,gz,gA,gC,gD,gE,gF,gG,gH,gI,gJ,gK,gL,fH,fI,fJ,fK,fL,fM,fN,fO,fP,fQ,fR,fS,fT,fU,fV,fW,dS],defs⟩ x:=by
 conv=>arg 2;whnf
 have hsz:=hE.size;have HG:=dH hG;have HT:=dH hT;have HF:=dH hfin;have HI0:Hid (SysR x P Ra ca n m.length G (L6 m n m.length [])∧PutK w0.heap.size x x):=dH ⟨hs,PutK.refl _ _⟩;have HSQ:=dH (zDv 4 B1 B2 a cap m w0 x h hE hb1 hb2);have H64:=hT.e64;have H16:=hT.j16;clear h hs hG hT hfin;go_wp2_with fail;refine(wpIn_wide (n:=5)).1 ?_
 refine zAH (by omega) (gf:=122) (lb:=#[.pointer (some ⟨B1,0,none⟩),.pointer (some ⟨B2,0,none⟩)]) rfl (enters_of Tryz.func122 (by kernel_rfl) rfl)
  HSQ.out (fun h k=>KpS.trans h k) (fun W l o o' h1 h2 h3 h4=>KpS.b (w:=x) hsz W l o o' h1 h2 h3 h4) (fun _=>rfl)
  (fun xs W=>SysR W P Ra ca n m.length G (L6 m n m.length xs)∧PutK w0.heap.size x W) (fun _ _ _=>False) (OwnFrom.and (SysR.own _) (PutK.own hsz (Nat.le_refl _))) (fun _ _ _ _ _ h _ _=>h.elim) (OkS.own m _) HI0.out
  (fun W o h=>KpS.ext (Ext.alloc W o) (Nat.le_trans hsz h)) (fun p=>#[.int .i64 (p.1:Int),.int .i64 (p.2:Int)]) 95 ?a1 ?assign ?body ?done ?stop
 case assign=>
  intro lp p W K hK
  gi_wp2
  generalize W.heap.size=bb at *;exact hK
 case body=>
  rintro lp pre ⟨i,k⟩ W ⟨hs,hp⟩ ⟨i0,k0,hi,hk,hm,hxs⟩ b hbx hbw;obtain⟨rfl,hxe⟩:=List.append_inj' hxs rfl;cases hxe
  clear hxs;dsimp only;rw [HT.out.len i hi] at hk;have hmk:=HT.out.mks i k;have hm6:=zKi HT.out hi hk i;have hs6:=zKj HT.out hi hk i;have hL2:(L6 m n m.length (knS m i k) (n+2)).getD i 0=zDx (knS m i k) i:=by rw [L6_2,zA7 hi]
  have hL3:(L6 m n m.length (knS m i k) (n+3)).getD i 0=zDy m (knS m i k) i:=by rw [L6_3,zA7 hi]
  have hl2:(L6 m n m.length (knS m i k) (n+2)).length=m.length:=by rw [L6_2,List.length_map,List.length_range]
  have hl3:(L6 m n m.length (knS m i k) (n+3)).length=m.length:=by rw [L6_3,List.length_map,List.length_range]
  have HNX:Hid (∀u,u<n+4→zGd (zGd (L6 m n m.length (knS m i k)) (n+2) i (zDx (knS m i k) i+1)) (n+3) i (zDy m (knS m i k) i+mkS m i k) u=L6 m n m.length (knS m i k ++ [(i,k)]) u):=dH (fun u hu=>zN5 hu);generalize zDx (knS m i k) i=q2 at *;generalize zDy m (knS m i k) i=q3 at *;have hcx:Blk W b #[.int .i64 (i:Int),.int .i64 (k:Int)] 95:=hbx;have hne2:b≠G (n+2):=fun e=>zAz hcx (IB.blk (hs.ib (n+2) (by omega))) (by decide) e;have i1:(0:Int)≤(i:Int):=by omega
  have i2:(i:Int)< (m.length:Int):=by omega
  have hw1:IntKind.i64.wrap (q2+1)=q2+1:=IntWalk.i64_in _ (by omega);have hw2:IntKind.i64.wrap (q3+mkS m i k)=q3+mkS m i k:=IntWalk.i64_in _ (by omega);have c2:=hs.p.cell (i:=2) rfl;have b0:=hcx.cell (i:=0) rfl;have m0:=hs.at (t:=n+2) (i:=i) (by omega) (by rw [hl2];exact hi)
  rw [hL2] at m0;have z0:=hs.free (t:=n+2) (by omega) i;have hs2:=hs.put (t:=n+2) (by omega) i (q2+1);have hp2:=hp.trans (PutK.set (hs.ib (n+2) (by omega)) (HG.out (n+2) (by omega)) i (.int .i64 (q2+1)));have hcx2:Blk (W.setCell ⟨G (n+2),i,none⟩ (.int .i64 (q2+1))) b #[.int .i64 (i:Int),.int .i64 (k:Int)] 95:=hcx.other (p:=⟨G (n+2),i,none⟩) hne2 _;have hB1:KpS w0.heap.size B1 B2 W (W.setCell ⟨G (n+2),i,none⟩ (.int .i64 (q2+1))):=(PutK.set (hs.ib (n+2) (by omega)) (HG.out (n+2) (by omega)) i (.int .i64 (q2+1))).kps (hp.nt _ _ _ (by decide) hb1) (hp.nt _ _ _ (by decide) hb2) (by decide) (by decide);have hKo:KeepsOthers W (W.setCell ⟨G (n+2),i,none⟩ (.int .i64 (q2+1))):=KeepsOthers.setCell _ _ _;have HS2:=dH hs2;have HP2:=dH hp2;have HCX:=dH hcx2;have HKB:=dH hB1;have HKO:=dH hKo;have hL3':zGd (L6 m n m.length (knS m i k)) (n+2) i (q2+1) (n+3)=L6 m n m.length (knS m i k) (n+3):=if_neg (by omega);clear hs hp hs2 hp2 hcx hcx2 hB1 hKo hL2 hl2 hbx;gi_upto_region 29 with fail;clear c2 b0 m0 z0;generalize hY:W.setCell ⟨G (n+2),i,none⟩ (.int .i64 (q2+1))=Y at *;have c3:=HS2.out.p.cell (i:=3) rfl;have b0:=HCX.out.cell (i:=0) rfl;have m0:=HS2.out.at (t:=n+3) (i:=i) (by omega) (by rw [hL3',hl3];exact hi)
  rw [hL3',hL3] at m0;have z0:=HS2.out.free (t:=n+3) (by omega) i;have hs3:=HS2.out.put (t:=n+3) (by omega) i (q3+mkS m i k);have hp3:=HP2.out.trans (PutK.set (HS2.out.ib (n+3) (by omega)) (HG.out (n+3) (by omega)) i (.int .i64 (q3+mkS m i k)));have hB2:KpS w0.heap.size B1 B2 Y (Y.setCell ⟨G (n+3),i,none⟩ (.int .i64 (q3+mkS m i k))):=(PutK.set (HS2.out.ib (n+3) (by omega)) (HG.out (n+3) (by omega)) i (.int .i64 (q3+mkS m i k))).kps (HP2.out.nt _ _ _ (by decide) hb1) (HP2.out.nt _ _ _ (by decide) hb2) (by decide) (by decide)
  have HFN:Hid (KeepsOthers W (Y.setCell ⟨G (n+3),i,none⟩ (.int .i64 (q3+mkS m i k)))∧KpS w0.heap.size B1 B2 W (Y.setCell ⟨G (n+3),i,none⟩ (.int .i64 (q3+mkS m i k)))∧SysR (Y.setCell ⟨G (n+3),i,none⟩ (.int .i64 (q3+mkS m i k))) P Ra ca n m.length G (L6 m n m.length (knS m i k ++ [(i,k)]))∧PutK w0.heap.size x (Y.setCell ⟨G (n+3),i,none⟩ (.int .i64 (q3+mkS m i k)))):=
   dH ⟨HKO.out.trans (KeepsOthers.setCell _ _ _),HKB.out.trans hB2,hs3.congr HNX.out,hp3⟩
  clear hs3 hp3 hB2 hL3 hl3 hL3'
  gi_wp2
  exact HFN.out
 case done=>
  rintro D xs W hD hS ⟨hs,hp⟩ hK;rw [show xs=knS m m.length 0 from hS] at hs;exact HF.out D W hD hs hp hK
 case stop=>exact fun _ _ _ _ _ _ h=>h.elim
theorem zOb {P Ra ca n B1 B2 bm cap:Nat} {a:Option Addr} {m:List (List Int)} {G:Nat→Nat} {w0 x:World} (h:Rows w0 a cap m) (hE:Ext w0 x) (hb1:Blk x B1 #[.slice a m.length cap] 22) (hb2:Blk x B2 #[.func (.func 55) #[] #[]] 84) (hbm:Blk x bm #[.slice a m.length cap] 22)
 (hs:SysR x P Ra ca n m.length G (L8 m n m.length [])) (hG:∀t,t<n+4→w0.heap.size≤G t) (hT:Tab m n) {K':Act→World→Prop} {Q':Exit→Act→World→Prop} {defs:List Deferred} {l0 l2 l3 l4 l5 l6 l7 l8 l9 ah ai aj hZ ak al ap aY bT dW dX bU bV aZ bf gM bg bh dY bW bX aA aB aC aD aE aG aH aI aJ aK aL aM aN dT dU dV bi bw bA bB bC bD bE bG bH bI bJ bK bL bM bN bO bP bQ bR bS aO aP aQ aR aS aT aU aV aW aX bY bZ dZ ed ee ef eh ek en b7 ci ck cl cA cB gN gO eo fX fY fZ f5 f7 f8 f9 ga gc ep cC gP cD cE cF cG cH cI cJ cK cL cN cO cP cQ cR cS cT cU cV cW cX cY cZ dc de df dg dh di dj dk dn dp dt gR gS er eu ew ey ez eB eC eD eE eF eG dw gT gU eH eI eJ eK eM eN eO eP eQ eR eS eT eW eX eY eZ fa fc fd fe ff fg fh fi fj fk fl fm fq fs ft fu fv fw dA dB dC dD dE dF dG dI dJ dK dL dM dN dO dP dQ dR gV gW gX fx fy fz fA fB fC fD fE fF fG gY gZ hH gd gh gl gn gy gz gA gC gD gE gF gG gH gI gJ gK gL fH fI fJ fK fL fM fN fO fP fQ fR fS fT fU fV fW dS:Value}
 (hfin:∀ (D:Nat) (w':World),x.heap.size≤D→SysR w' P Ra ca n m.length G (L8 m n m.length (knS m m.length 0))→PutK w0.heap.size x w'→w'.heap[D]? =some (.deferred (some []))→K' ⟨#[l0,.pointer (some ⟨bm,0,none⟩),l2,l3,l4,l5,l6,l7,l8,l9,ah,ai,aj,hZ,.pointer (some ⟨P,0,none⟩),ak,al,ap,aY,bT,dW,dX,bU,bV,aZ,bf,gM,bg,bh,dY,bW,bX,aA,aB,aC,aD,aE,aG,aH,aI,aJ,aK,aL,aM,aN,dT,dU,dV,bi,bw,bA,bB,bC,bD,bE,bG,bH,bI,bJ,bK,bL,bM,bN,bO,bP,bQ,bR,bS,aO,aP,aQ,aR,aS,aT,aU,aV,aW,aX,bY,bZ,dZ,ed,ee,ef,eh,ek,en,b7,ci,ck,cl,cA,cB,gN,gO,eo,fX,fY,fZ,f5,f7,f8,f9,ga,gc,ep,cC,gP,cD,cE,cF,cG,cH,cI,cJ,cK,cL,cN,cO,cP,cQ,cR,cS,cT,cU,cV,cW,cX,.func (.func 122) #[] #[.pointer (some ⟨B1,0,none⟩),.pointer (some ⟨B2,0,none⟩)],cY,cZ,dc,de,df,dg,dh,di,dj,dk,dn,dp,dt,gR,gS,er,eu,ew,ey,ez,eB,eC,eD,eE,eF,eG,dw,gT,gU,eH,eI,eJ,eK,eM,eN,eO,eP,eQ,eR,eS,eT,eW,eX,eY,eZ,fa,fc,fd,fe,ff,fg,fh,fi,fj,fk,fl,fm,fq,fs,ft,fu,fv,fw,dA,dB,dC,dD,dE,dF,dG,dI,dJ,dK,dL,dM,dN,dO,dP,dQ,dR,gV,gW,gX,fx,fy,fz,fA,fB,fC,fD,fE,fF,fG,gY,gZ,hH,gd,gh,gl,gn,gy,gz,gA,gC,gD,gE,gF,gG,gH,gI,gJ,gK,gL,fH,fI,fJ,fK,fL,fM,fN,fO,fP,fQ,fR,fS,fT,fU,fV,fW,dS],({target:=.collected D,args:=#[]} :: defs)⟩ w'):
 Code.wp Tryz.prog ((Tryz.f17.body.bind (zAr 8)).getD .skip) (Exit.then K' Q') ⟨#[l0,.pointer (some ⟨bm,0,none⟩),l2,l3,l4,l5,l6,l7,l8,l9,ah,ai,aj,hZ,.pointer (some ⟨P,0,none⟩),ak,al,ap,aY,bT,dW,dX,bU,bV,aZ,bf,gM,bg,bh,dY,bW,bX,aA,aB,aC,aD,aE,aG,aH,aI,aJ,aK,aL,aM,aN,dT,dU,dV,bi,bw,bA,bB,bC,bD,bE,bG,bH,bI,bJ,bK,bL,bM,bN,bO,bP,bQ,bR,bS,aO,aP,aQ,aR,aS,aT,aU,aV,aW,aX,bY,bZ,dZ,ed,ee,ef,eh,ek,en,b7,ci,ck,cl,cA,cB,gN,gO,eo,fX,fY,fZ,f5,f7,f8,f9,ga,gc,ep,cC,gP,cD,cE,cF,cG,cH,cI,cJ,cK,cL,cN,cO,cP,cQ,cR,cS,cT,cU,cV,cW,cX,.func (.func 122) #[] #[.pointer (some ⟨B1,0,none⟩),.pointer (some ⟨B2,0,none⟩)],cY,cZ,dc,de,df,dg,dh,di,dj,dk,dn,dp,dt,gR,gS,er,eu,ew,ey,ez,eB,eC,eD,eE,eF,eG,dw,gT,gU,eH,eI,eJ,eK,eM,eN,eO,eP,eQ,eR,eS,eT,eW,eX,eY,eZ,fa,fc,fd,fe,ff,fg,fh,fi,fj,fk,fl,fm,fq,fs,ft,fu,fv,fw,dA,dB,dC,dD,dE,dF,dG,dI,dJ,dK,dL,dM,dN,dO,dP,dQ,dR,gV,gW,gX,fx,fy,fz,fA,fB,fC,fD,fE,fF,fG,gY,gZ,hH,gd,gh,gl,gn,gy,gz,gA,gC,gD,gE,gF,gG,gH,gI,gJ,gK,gL,fH,fI,fJ,fK,fL,fM,fN,fO,fP,fQ,fR,fS,fT,fU,fV,fW,dS],defs⟩ x:=by
 conv=>arg 2;whnf
 have hsz:=hE.size;have HH:=dH h;have hle:=h.le;have hmx:=h.mx;have HE:=dH hE;have HG:=dH hG;have HT:=dH hT;have HF:=dH hfin;have HI0:Hid (SysR x P Ra ca n m.length G (L8 m n m.length [])∧PutK w0.heap.size x x):=dH ⟨hs,PutK.refl _ _⟩;have HSQ:=dH (zDv 4 B1 B2 a cap m w0 x h hE hb1 hb2);have H64:=hT.e64;have H16:=hT.j16;clear h hs hG hT hfin hE;go_wp2_with fail;refine(wpIn_wide (n:=5)).1 ?_
 refine zAH (by omega) (gf:=122) (lb:=#[.pointer (some ⟨B1,0,none⟩),.pointer (some ⟨B2,0,none⟩)]) rfl (enters_of Tryz.func122 (by kernel_rfl) rfl)
  HSQ.out (fun h k=>KpS.trans h k) (fun W l o o' h1 h2 h3 h4=>KpS.b (w:=x) hsz W l o o' h1 h2 h3 h4) (fun _=>rfl)
  (fun xs W=>SysR W P Ra ca n m.length G (L8 m n m.length xs)∧PutK w0.heap.size x W) (fun _ _ _=>False) (OwnFrom.and (SysR.own _) (PutK.own hsz (Nat.le_refl _))) (fun _ _ _ _ _ h _ _=>h.elim) (OkS.own m _) HI0.out
  (fun W o h=>KpS.ext (Ext.alloc W o) (Nat.le_trans hsz h)) (fun p=>#[.int .i64 (p.1:Int),.int .i64 (p.2:Int)]) 95 ?a1 ?assign ?body ?done ?stop
 case assign=>
  intro lp p W K hK
  gi_wp2
  generalize W.heap.size=bb at *;exact hK
 case body=>
  rintro lp pre ⟨i,k⟩ W ⟨hs,hp⟩ ⟨i0,k0,hi,hk,hm,hxs⟩ b hbx hbw;obtain⟨rfl,hxe⟩:=List.append_inj' hxs rfl;cases hxe
  clear hxs;dsimp only;rw [HT.out.len i hi] at hk;have hyd:Ext W (World.drew W):=(Ext.refl _).drew;have hwE0:Ext w0 W:=Below.trans HE.out hp.low;have hwE:Ext w0 (World.drew W):=hwE0.trans hyd;obtain⟨ab,ao,rfl⟩:=HH.out.head hi;obtain⟨r,ar9,cr9,hr,hc,hI⟩:=Rows.get (HH.out.ext hwE) hi;obtain⟨r9,ar,cr,hr9,hc9,hI9⟩:=Rows.get HH.out hi;rw [hr] at hr9;cases hr9
  have hce:=(zA0 hwE hc9).symm.trans hc;simp only [Option.some.injEq,Value.slice.injEq] at hce;obtain⟨rfl,-,rfl⟩:=hce;have hrn:r.length=n:=by rw [←HT.out.len i hi,zDu hr]
  have hrd:m.getD i []=r:=by rw [List.getD_eq_getElem?_getD,hr];rfl
  have hmk:=HT.out.mks i k;have hmy:=zGg HT.out hi hk hm;have hml:=zDR HT.out hi;have hsl:=zET HT.out hi;have hpl:=zEU HT.out hi (Nat.le_of_lt hk);have hpx:∀p∈knS m i k,p.1<m.length:=fun p hp=>(zHg HT.out hi (Nat.le_of_lt hk) hp).1;have e2:(L8 m n m.length (knS m i k) (n+2)).getD i 0=zBe m i:=by rw [L8_2,zA7 hi]
  have e3:(L8 m n m.length (knS m i k) (n+3)).getD i 0=zBL m i:=by rw [L8_3,zA7 hi]
  have e1:(L8 m n m.length (knS m i k) (n+1)).getD k 0=zCu (knS m i k) (bF m k):=by rw [zO6,zA7 (by omega)]
  have HPUT:=dH (zH9 w0.heap.size P Ra ca n m.length i k G (L8 m n m.length (knS m i k)) (mkS m i k) ar cr r w0 (World.drew W) (hs.ext hyd) HG.out hwE hI9 hi hk H16 H64 hrn (by omega) (by rw [e2];omega) (by rw [e3];omega)
   (by rw [e1];exact zKg HT.out hpl hpx k) (fun j hj=>by rw [L8_k hk,zA7 hj];exact zKh HT.out hpl hpx k j))
  have HNX:Hid (∀u,u<n+4→zMj n i k (mkS m i k) r (L8 m n m.length (knS m i k)) u=L8 m n m.length (knS m i k ++ [(i,k)]) u):=dH (fun u hu=>by rw [←hrd];exact zN6 hi hk (by rw [hrd];exact hrn) hu);have hcx:Blk W b #[.int .i64 (i:Int),.int .i64 (k:Int)] 95:=hbx;have s0:World.cell? (World.drew W) ⟨b,0,none⟩=some (.int .i64 (i:Int)):=(hcx.ext hyd).cell (i:=0) rfl;have s1:World.cell? (World.drew W) ⟨b,1,none⟩=some (.int .i64 (k:Int)):=(hcx.ext hyd).cell (i:=1) rfl;have s2:World.cell? (World.drew W) ⟨bm,0,none⟩=some (.slice (some ⟨ab,ao,none⟩) m.length cap):=((hp.nt _ _ _ (by decide) hbm).ext hyd).cell (i:=0) rfl;have HBX:=dH (hcx.ext hyd);have HBM:=dH ((hp.nt _ _ _ (by decide) hbm).ext hyd);have HLT:=dH (World.block_lt_of_cell? w0 _ hc9);have i1:(0:Int)≤(i:Int):=by omega
  have i2:(i:Int)< (m.length:Int):=by omega
  rw [hrn] at hc;have HPW:=dH (hp.trans (PutK.ext hyd (Nat.le_trans hsz hp.low.size)));have HKY:=dH (PutK.ext (n₀:=w0.heap.size) hyd (Nat.le_trans hsz hp.low.size));have HKB:=dH (fun(W':World) (hk:PutK w0.heap.size W W')=>hk.kps (hp.nt _ _ _ (by decide) hb1) (hp.nt _ _ _ (by decide) hb2) (by decide) (by decide));clear hs hp hyd hwE hwE0 hI hI9 hc9 hr e1 e2 e3 hmk hmy hml hsl hpl hpx hcx hbx hrd hm hrn;gi_upto_region 33 with fail;refine zA8 (S:=(fun w'=>w'.cell? ⟨b,0,none⟩=some (.int .i64 (i:Int))∧w'.cell? ⟨b,1,none⟩=some (.int .i64 (k:Int))∧w'.cell? ⟨bm,0,none⟩=some (.slice (some ⟨ab,ao,none⟩) m.length cap)∧w'.cell? ⟨ab,ao+i,none⟩=some (.slice ar n cr))) (by kernel_rfl) (by kernel_rfl) (by rintro⟨_,_,h⟩;exact h) ?_ (fun hHeld=>?_)
  ·exact⟨s0,s1,s2,hc⟩
  (try simp only [pur,Nat.reduceAdd])
  generalize World.drew W=x5 at *
  iterate 10
   refine tkR [0,1,2,3,4,5,6,7,8,9] (v:=?_) rfl rfl (by kernel_rfl) (fun _ _ _ h=>h) (by rfl) ?_ (by assumption) ?_;rotate_left
   ·(intro w hSw;(try dsimp only at hSw);(try go_simp);(try with_reducible rfl))
   (try simp only [Act.put,pus])
  refine wpAnyH_ready (rs:=[10]) (by kernel_rfl) (by simp) ?_;refine AllReadyH.cons (o:=_) rfl (fun K hK=>?_) ?_
  ·go_simp
   (with_reducible refine HPUT.out.mono ?_);rintro e9 y1 ⟨rfl,hs9,hk9⟩;replace s0:y1.cell? ⟨b,0,none⟩=some (.int .i64 (i:Int)):=(hk9.nt _ _ _ (by decide) HBX.out).cell (i:=0) rfl;replace s1:y1.cell? ⟨b,1,none⟩=some (.int .i64 (k:Int)):=(hk9.nt _ _ _ (by decide) HBX.out).cell (i:=1) rfl;replace s2:y1.cell? ⟨bm,0,none⟩=some (.slice (some ⟨ab,ao,none⟩) m.length cap):=(hk9.nt _ _ _ (by decide) HBM.out).cell (i:=0) rfl;replace hc:=(hk9.low.cell (p:=⟨ab,ao+i,none⟩) HLT.out).trans hc
   refine hK.out _ _ ?_ ?_
   ·exact⟨s0,s1,s2,hc⟩
   clear hK K hHeld;intro hHeld
   (try simp only [Act.put,pus])
   refine wpAnyH_done (by kernel_rfl) ?_ _;gi_wp2_with fail;exact⟨(HKY.out.trans hk9).ot,HKB.out _ (HKY.out.trans hk9),hs9.congr HNX.out,HPW.out.trans hk9⟩
  exact AllReadyH.nil
 case done=>
  rintro D xs W hD hS ⟨hs,hp⟩ hK;rw [show xs=knS m m.length 0 from hS] at hs;exact HF.out D W hD hs hp hK
 case stop=>exact fun _ _ _ _ _ _ h=>h.elim
end Go.Proofs.YtonkhcdmchidjaaGreat
