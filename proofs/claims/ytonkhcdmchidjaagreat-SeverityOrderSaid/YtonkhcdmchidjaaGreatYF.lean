import Derived.Test.YtonkhcdmchidjaaGreatYE
set_option maxHeartbeats 16000000
namespace Go.Proofs.YtonkhcdmchidjaaGreat
open Go.RowKit Go BigFrame Go.Shelf
set_option maxRecDepth 100000
set_option linter.all false
attribute [local go_sem] Oper.semAt_some
def RowG (w:World) (P:Nat→Prop) (N:Nat) (u:Value) (V:Nat→RatC) (f:Nat→Rat):Prop:=∃a c,u=.slice a N c∧RowR w a c N V f∧(0<N→∀A,a=some A→¬P A.block)∧∀c,c<N→∀o,P o→(V c).Off (some o)
section
variable {w w':World} {P:Nat→Prop} {N:Nat} {u:Value} {V:Nat→RatC} {f:Nat→Rat}
theorem RowG.ext (h:RowG w P N u V f) (k:Ext w w'):RowG w' P N u V f:=by
 obtain⟨a,c,e,h1,h2,h3⟩:=h;exact⟨a,c,e,h1.ext k,h2,h3⟩
theorem RowG.grown (h:RowG w P N u V f) {o:Nat} (ho:P o) (hg:w.grownBy w' (some o)):RowG w' P N u V f:=by
 obtain⟨a,c,e,h1,h2,h3⟩:=h;refine⟨a,c,e,?_,h2,h3⟩;by_cases h0:0<N
 ·exact h1.grown hg (fun A hA eq=>h2 h0 A hA (by rw [←Option.some.inj eq];exact ho)) fun c hc=>h3 c hc o ho
 ·exact⟨h1.le,h1.mx,h1.nil,fun A hA c hc=>by omega,fun c hc=>by omega⟩
theorem RowG.none (h:RowG w P N u V f) (hg:w.grownBy w' none):RowG w' P N u V f:=h.ext (zE4 hg)
theorem RowG.fresh (h:RowG w P N u V f) {P':Nat→Prop} (hP:∀o,P' o→P o∨o=w.heap.size):RowG w P' N u V f:=by
 obtain⟨a,c,e,h1,h2,h3⟩:=h;refine⟨a,c,e,h1,fun h0 A hA hp=>?_,fun c hc o ho=>?_⟩
 ·rcases hP _ hp with hp | hp
  ·exact h2 h0 A hA hp
  ·obtain⟨_,hc,_⟩:=h1.cells A hA 0 h0;have:=World.block_lt_of_cell? w _ hc;dsimp only at this;omega
 ·rcases hP _ ho with hp | rfl
  ·exact h3 c hc o hp
  ·exact(h1.val c hc).offNew
end
theorem zKk {w:World} {B:Nat} {P:Nat→Prop} {N:Nat} {v:Value} {K:List RatC} {rs:List Rat} {f:Nat→Rat} (h:OwnRats w B v K rs) (hN:K.length=N) (hf:∀c,c<N→rs.getD c 0=f c) (ho:∀x∈K,∀o,P o→x.Off (some o)) (hP:∀o,P o→o<B):
 ∃V,RowG w P N v V f:=by
 subst hN;by_cases h0:0<K.length
 ·obtain⟨gr,cap,rfl,hb,h1,h2,h3⟩:=h.fill h0;refine⟨_,_,cap,rfl,h3.read ⟨h1,h2⟩ hf,fun _ A hA hp=>by cases hA;have:=hP _ hp;dsimp only at this;omega,fun c hc o hp=>?_⟩;rw [List.getD_eq_getElem?_getD,List.getElem?_eq_getElem hc];exact ho _ (List.getElem_mem hc) o hp
 ·obtain⟨a,cap,V,e,h1⟩:=h.reads rfl hf;exact⟨V,a,cap,e,h1,fun h=>absurd h h0,fun c hc=>by omega⟩
theorem ownNe {w:World} {B1 B2:Nat} {t1 t2:TypeId} {k1 k2 n1 n2:Nat} {v1 v2:Value} {xs1 xs2:List Value} (h1:w.ownsRow B1 t1 k1 v1 n1 xs1) (h2:w.ownsRow B2 t2 k2 v2 n2 xs2) (ht:t1≠t2):v1.ownBlock=none∨v1.ownBlock≠v2.ownBlock:=by
 rcases h2.2 with⟨rfl,_⟩ | ⟨g,cap,cur,rfl,hb,hg,_⟩
 ·by_cases e:v1.ownBlock=none
  ·exact .inl e
  ·exact .inr e
 ·exact .inr (zAI h1 hg ht)
theorem OwnRats.kept {w w':World} {B:Nat} {v:Value} {L:List RatC} {rs:List Rat} {row:Option Nat} (h:OwnRats w B v L rs) (hg:w.grownBy w' row) (hne:v.ownBlock=none∨v.ownBlock≠row) (ho:∀x∈L,x.Off row):OwnRats w' B v L rs:=
 ⟨h.len,World.ownsRow.kept h.own hg hne,fun i hi=>(h.val i hi).grown hg (ho _ (List.getElem_mem hi)),h.apart⟩
def Pt (vt vw:Value) (o:Nat):Prop:=vt.ownBlock=some o∨vw.ownBlock=some o
structure TurnS (w:World) (B q N:Nat) (vt:Value) (val:Nat→Value) (V:Nat→Nat→RatC) (M:Mx) (vw:Value) (K:List RatC) (rs:List Rat):Prop where
 own:w.ownsRow B 23 1 vt q ((List.range q).map val)
 row:∀r,r<q→RowG w (Pt vt vw) N (val r) (V r) (M r)
 want:OwnRats w B vw K rs
 off:∀x∈K,x.Off vt.ownBlock
section
variable {w w':World} {B q N:Nat} {vt vw:Value} {val:Nat→Value} {V:Nat→Nat→RatC} {M:Mx} {K:List RatC} {rs:List Rat}
theorem TurnS.nil (w:World) (B N:Nat) (val:Nat→Value) (V:Nat→Nat→RatC) (M:Mx):TurnS w B 0 N (.slice none 0 0) val V M (.slice none 0 0) [] []:=⟨World.ownsRow_nil _ _ _ _,fun r hr=>by omega,OwnRats.nil _ _,fun x hx=>by cases hx⟩
theorem TurnS.ext (h:TurnS w B q N vt val V M vw K rs) (k:Ext w w'):TurnS w' B q N vt val V M vw K rs:=⟨zAg h.own k,fun r hr=>(h.row r hr).ext k,h.want.ext k,h.off⟩
theorem TurnS.lt (h:TurnS w B q N vt val V M vw K rs):∀o,Pt vt vw o→B≤o∧o<w.heap.size:=fun o ho=>by
 rcases ho with ho | ho
 ·exact World.ownsRow.lt h.own o ho
 ·exact h.want.lt o ho
theorem zHZ {P P':Nat→Prop} {o1:Option Nat} {u:Value} {U:Nat→RatC} {f:Nat→Rat} (hx:RowG w P N u U f) (hg:w.grownBy w' o1) (h1:∀o,o1=some o→P o) (h2:∀o,P' o→P o∨o=w.heap.size):RowG w' P' N u U f:=by
 have k1:=hx.fresh (P':=fun o=>P o∨P' o) (fun o hp=>hp.elim .inl (h2 o));have k2:RowG w' (fun o=>P o∨P' o) N u U f:=by
  cases o1 with
  | none=>exact k1.none hg
  | some o=>exact k1.grown (o:=o) (.inl (h1 o rfl)) hg
 exact k2.fresh (P':=P') fun o hp=>.inl (.inr hp)
theorem TurnS.pushT (h:TurnS w B q N vt val V M vw K rs) {vt' u:Value} {Vq:Nat→RatC} {f:Nat→Rat} (ho:w'.ownsRow B 23 1 vt' (q+1) (((List.range q).map val) ++ [u])) (hg:w.grownBy w' vt.ownBlock) (hat:vt'.ownBlock=vt.ownBlock∨vt'.ownBlock=some w.heap.size) (hu:RowG w (Pt vt vw) N u Vq f):
 TurnS w' B (q+1) N vt' (fun r=>if r=q then u else val r) (fun r=>if r=q then Vq else V r) (fun r=>if r=q then f else M r) vw K rs:=by
 have hP:∀o,Pt vt' vw o→Pt vt vw o∨o=w.heap.size:=fun o hp=>by
  rcases hp with hp | hp
  ·rcases hat with e | e
   ·exact .inl (.inl (e ▸ hp))
   ·rw [e] at hp;exact .inr (Option.some.inj hp).symm
  ·exact .inl (.inr hp)
 refine⟨?_,fun r hr=>?_,h.want.kept hg (ownNe h.want.own h.own (by decide)) h.off,fun x hx=>?_⟩
 ·rw [List.range_succ,List.map_append,List.map_singleton,if_pos rfl]
  rw [List.map_congr_left (g:=val) fun r hr=>by
   have:=List.mem_range.1 hr
   rw [if_neg (by omega)]]
  exact ho
 ·by_cases e:r=q
  ·simp only [e,if_true];exact zHZ hu hg (fun o e=>.inl e) hP
  ·simp only [e,if_false];exact zHZ (h.row r (by omega)) hg (fun o e=>.inl e) hP
 ·rcases hat with e | e
  ·rw [e];exact h.off x hx
  ·rw [e];obtain⟨i,hi,rfl⟩:=List.getElem_of_mem hx;exact(h.want.val i hi).offNew
theorem TurnS.pushW (h:TurnS w B q N vt val V M vw K rs) {vw':Value} {x:RatC} {r:Rat} (ho:OwnRats w' B vw' (K ++ [x]) (rs ++ [r])) (hg:w.grownBy w' vw.ownBlock) (hat:vw'.ownBlock=vw.ownBlock∨vw'.ownBlock=some w.heap.size) (hx:x.Off vt.ownBlock):
 TurnS w' B q N vt val V M vw' (K ++ [x]) (rs ++ [r]):=by
 have hP:∀o,Pt vt vw' o→Pt vt vw o∨o=w.heap.size:=fun o hp=>by
  rcases hp with hp | hp
  ·exact .inl (.inl hp)
  ·rcases hat with e | e
   ·exact .inl (.inr (e ▸ hp))
   ·rw [e] at hp;exact .inr (Option.some.inj hp).symm
 refine⟨World.ownsRow.kept h.own hg (ownNe h.own h.want.own (by decide)),fun r hr=>zHZ (h.row r hr) hg (fun o e=>.inr e) hP,ho,fun y hy=>?_⟩;rcases List.mem_append.1 hy with hy | hy
 ·exact h.off y hy
 ·rw [List.mem_singleton.1 hy];exact hx
theorem TurnS.mat (h:TurnS w B q N vt val V M vw K rs):∃a cap,vt=.slice a q cap∧MatR w a cap q N V M:=by
 rcases h.own.2 with⟨rfl,h0⟩ | ⟨R,rc,cur,rfl,hb,hg,h1,h2,h3,h4⟩
 ·exact⟨none,0,by rw [h0],by omega,by omega,fun _=>rfl,fun A hA=>(by cases hA)⟩
 ·refine⟨_,rc,rfl,h1,by unfold maxLen at h2;exact h2,fun e=>(by cases e),fun A hA r hr=>?_⟩;cases hA
  obtain⟨a,c,e,hrow,_,_⟩:=h.row r hr;refine⟨rfl,a,c,?_,hrow⟩;have e1:((List.range q).map val)[r]? =some (.slice a N c):=by rw [List.getElem?_map,List.getElem?_range hr,←e];rfl
  have:=World.ownsRow.cellAt h.own r (by omega);rw [e1] at this
  simpa using this
end
theorem zOc (m:List (List Int)) (n E q:Nat):(L9 m n E q n).length=n:=by unfold L9;rw [if_pos rfl,List.length_map,List.length_range]
def zMm (B:Nat) (x:RatC):Prop:=(0<x.q→∀A,x.a=some A→B≤A.block)∧(0<x.k→∀A,x.b=some A→B≤A.block)
abbrev noCY:RatC:=⟨false,none,0,0,false,none,0,0⟩
theorem zN8 {n₀ P Ra ca n:Nat} {m:List (List Int)} {G:Nat→Nat} {x:World} (hs:SysR x P Ra ca n m.length G (L9 m n m.length 0)) (hG:∀t,t<n+4→n₀≤G t) (hn:n≤16) {K':Act→World→Prop} {Q':Exit→Act→World→Prop} {defs:List Deferred} {l0 l1 l2 l3 l4 l5 l6 l7 l8 l9 ah ai aj ak al ap aY bT dW dX bU bV aZ bf gM bg bh dY bW bX aA aB aC aD aE aG aH aI aJ aK aL aM aN dT dU dV bi bw bA bB bC bD bE bG bH bI bJ bK bL bM bN bO bP bQ bR bS aO aP aQ aR aS aT aU aV aW aX bY bZ dZ ed ee ef eh ek en b7 ci ck cl cA cB gN gO eo fX fY fZ f5 f7 f8 f9 ga gc ep cC gP cD cE cF cG cH cI cJ cK cL cN cO cP cQ cR cS cT cU cV cW cX gQ cY cZ dc de df dg dh di dj dk dn dp dt er eu ew ey ez eB eC eD eE eF eG dw gT gU eH eI eJ eK eM eN eO eP eQ eR eS eT eW eX eY eZ fa fc fd fe ff fg fh fi fj fk fl fm fq fs ft fu fv fw dA dB dC dD dE dF dG dI dJ dK dL dM dN dO dP dQ dR gV gW gX fx fy fz fA fB fC fD fE fF fG gY gZ hH gd gh gl gn gy gz gA gC gD gE gF gG gH gI gJ gK gL fH fI fJ fK fL fM fN fO fP fQ fR fS fT fU fV fW dS:Value}
 (hfin:∀ (ip jo jp jq jr jt ju jw jx jy jz jA jB:Value) (w':World),SysR w' P Ra ca n m.length G (L9 m n m.length n)→PutK n₀ x w'→K' ⟨#[l0,l1,l2,l3,l4,l5,l6,l7,l8,l9,ah,ai,aj,.int .i64 (n:Nat),.pointer (some ⟨P,0,none⟩),ak,al,ap,aY,ip,dW,dX,bU,bV,aZ,bf,gM,bg,bh,dY,bW,bX,aA,aB,aC,aD,aE,aG,aH,aI,aJ,aK,aL,aM,aN,dT,dU,dV,bi,bw,bA,bB,bC,bD,bE,bG,bH,bI,bJ,bK,bL,bM,bN,bO,bP,bQ,bR,bS,aO,aP,aQ,aR,aS,aT,aU,aV,aW,aX,bY,bZ,dZ,ed,ee,ef,eh,ek,en,b7,ci,ck,cl,cA,cB,gN,gO,eo,fX,fY,fZ,f5,f7,f8,f9,ga,gc,ep,cC,gP,cD,cE,cF,cG,cH,cI,cJ,cK,cL,cN,cO,cP,cQ,cR,cS,cT,cU,cV,cW,cX,gQ,cY,cZ,dc,de,df,dg,dh,di,dj,dk,dn,dp,dt,.int .i64 (n:Nat),jo,jp,jq,jr,jt,ju,jw,jx,jy,jz,jA,jB,dw,gT,gU,eH,eI,eJ,eK,eM,eN,eO,eP,eQ,eR,eS,eT,eW,eX,eY,eZ,fa,fc,fd,fe,ff,fg,fh,fi,fj,fk,fl,fm,fq,fs,ft,fu,fv,fw,dA,dB,dC,dD,dE,dF,dG,dI,dJ,dK,dL,dM,dN,dO,dP,dQ,dR,gV,gW,gX,fx,fy,fz,fA,fB,fC,fD,fE,fF,fG,gY,gZ,hH,gd,gh,gl,gn,gy,gz,gA,gC,gD,gE,gF,gG,gH,gI,gJ,gK,gL,fH,fI,fJ,fK,fL,fM,fN,fO,fP,fQ,fR,fS,fT,fU,fV,fW,dS],defs⟩ w'):
 Code.wp Tryz.prog ((Tryz.f17.body.bind (zAr 10)).getD .skip) (Exit.then K' Q') ⟨#[l0,l1,l2,l3,l4,l5,l6,l7,l8,l9,ah,ai,aj,.int .i64 (n:Nat),.pointer (some ⟨P,0,none⟩),ak,al,ap,aY,bT,dW,dX,bU,bV,aZ,bf,gM,bg,bh,dY,bW,bX,aA,aB,aC,aD,aE,aG,aH,aI,aJ,aK,aL,aM,aN,dT,dU,dV,bi,bw,bA,bB,bC,bD,bE,bG,bH,bI,bJ,bK,bL,bM,bN,bO,bP,bQ,bR,bS,aO,aP,aQ,aR,aS,aT,aU,aV,aW,aX,bY,bZ,dZ,ed,ee,ef,eh,ek,en,b7,ci,ck,cl,cA,cB,gN,gO,eo,fX,fY,fZ,f5,f7,f8,f9,ga,gc,ep,cC,gP,cD,cE,cF,cG,cH,cI,cJ,cK,cL,cN,cO,cP,cQ,cR,cS,cT,cU,cV,cW,cX,gQ,cY,cZ,dc,de,df,dg,dh,di,dj,dk,dn,dp,dt,.int .i64 (n:Nat),.int .i64 0,er,eu,ew,ey,ez,eB,eC,eD,eE,eF,eG,dw,gT,gU,eH,eI,eJ,eK,eM,eN,eO,eP,eQ,eR,eS,eT,eW,eX,eY,eZ,fa,fc,fd,fe,ff,fg,fh,fi,fj,fk,fl,fm,fq,fs,ft,fu,fv,fw,dA,dB,dC,dD,dE,dF,dG,dI,dJ,dK,dL,dM,dN,dO,dP,dQ,dR,gV,gW,gX,fx,fy,fz,fA,fB,fC,fD,fE,fF,fG,gY,gZ,hH,gd,gh,gl,gn,gy,gz,gA,gC,gD,gE,gF,gG,gH,gI,gJ,gK,gL,fH,fI,fJ,fK,fL,fM,fN,fO,fP,fQ,fR,fS,fT,fU,fV,fW,dS],defs⟩ x:=by
 conv=>arg 2;whnf
 have HS:=dH hs;have HG:=dH hG;have HF:=dH hfin;have hca:=hs.ca;clear hs hG hfin;go_wp2_with fail
 go_loopw [143] (fun i wr=>∃q:Nat,q≤n∧i=.int .i64 q∧SysR wr P Ra ca n m.length G (L9 m n m.length q)∧PutK n₀ x wr) (fun i _=>n - (intOf i).toNat)
 case atStart=>exact⟨0,Nat.zero_le _,rfl,HS.out,PutK.refl _ _⟩
 case round=>
  obtain⟨q,hq,rfl,hs,hp⟩:=hrel;generalize wr=y at *;clear HS;have q0:(0:Int)≤(q:Int):=by omega
  by_cases hqn:q<n
  ·have q1:(q:Int)< (n:Int):=by omega
   have n1:(0:Int)≤(n:Int):=by omega
   have n2:(n:Int)< (n:Int)+1:=by omega
   have hw1:IntKind.i64.wrap ((q:Int)+1)= (q:Int)+1:=IntWalk.i64_in _ (by omega);have c0:=hs.p.cell (i:=0) rfl;have r0:=hs.row (r:=n) (Nat.le_refl _);have f0:=hs.free (t:=n) (by omega) q;have a0:=hs.at (t:=n) (i:=q) (by omega) (by rw [zOc];exact hqn)
   have hs2:=hs.put (t:=n) (by omega) q 720720;rw [zN7] at hs2;have HS2:=dH hs2;have HP2:=dH (hp.trans (PutK.set (hs.ib n (by omega)) (HG.out n (by omega)) q (.int .i64 720720)));clear hs hp hs2;go_wp2_with fail;go_roundw
   case rel=>exact⟨q+1,by omega,by go_num,HS2.out,HP2.out⟩
   case measure=>simp [intOf];omega
  ·have q1:¬ (q:Int)< (n:Int):=by omega
   obtain rfl:q=n:=by omega
   have HS2:=dH hs;have HP2:=dH hp;clear hs hp;go_wp2_with fail;exact HF.out _ _ _ _ _ _ _ _ _ _ _ _ _ _ HS2.out HP2.out
theorem zN9 {P Ra ca n E:Nat} {G:Nat→Nat} {L:Nat→List Int} {x:World} (hs:SysR x P Ra ca n E G L) (hn:n≤16) (hL:∀t,t<n+4→∀j,-1000000000000000000≤(L t).getD j 0∧(L t).getD j 0≤1000000000000000000) {K':Act→World→Prop} {Q':Exit→Act→World→Prop} {defs:List Deferred} {l0 l1 l2 l3 l4 l5 l6 l7 l8 l9 ah ai aj ak al ap aY bT bU bV aZ bf gM bg bh dY bW bX aA aB aC aD aE aG aH aI aJ aK aL aM aN dT dU dV bi bw bA bB bC bD bE bG bH bI bJ bK bL bM bN bO bP bQ bR bS aO aP aQ aR aS aT aU aV aW aX bY bZ dZ ed ee ef eh ek en b7 ci ck cl cA cB gN gO eo fX fY fZ f5 f7 f8 f9 ga gc ep cC gP cD cE cF cG cH cI cJ cK cL cN cO cP cQ cR cS cT cU cV cW cX gQ cY cZ dc de df dg dh di dj dk dn dp dt gR gS er eu ew ey ez eB eC eD eE eF eG dw eH eI eJ eK eM eN eO eP eQ eR eS eT eW eX eY eZ fa fc fd fe ff fg fh fi fj fk fl fm fq fs ft fu fv fw dA dB dC dD dE dF dG dI dJ dK dL dM dN dO dP dQ dR gV gW gX fx fy fz fA fB fC fD fE fF fG gY gZ hH gd gh gl gn gy gz gA gC gD gE gF gG gH gI gJ gK gL fH fI fJ fK fL fM fN fO fP fQ fR fS fT fU fV fW dS:Value}
 (hfin:∀ (iq ir jC jD jE jF jG jH jI jJ jK jL jM jN jO jP jQ jR jS jT jU jV jW jX jY jZ j5 j6 j7 j8 j9 ka kc kd ke kf kh ki:Value) (aa:Option Addr) (ac:Nat) (ba:Option Addr) (bc:Nat) (val:Nat→Value) (V:Nat→Nat→RatC) (M:Mx) (Kx:List RatC) (rs:List Rat) (w':World),TurnS w' x.heap.size (n+1) n (.slice aa (n+1) ac) val V M (.slice ba (n+1) bc) Kx rs→(∀r,r<n+1→∀c,c<n→M r c=Rat.divInt ((L r).getD c 0) 720720)→rs.length=n+1→(∀r,r<n+1→rs.getD r 0=Rat.divInt ((L (n+1)).getD r 0) 720720)→Ext x w'→K' ⟨#[l0,l1,l2,l3,l4,l5,l6,l7,l8,l9,ah,ai,aj,.int .i64 (n:Nat),.pointer (some ⟨P,0,none⟩),ak,al,ap,aY,bT,.slice aa (n+1) ac,.slice ba (n+1) bc,iq,ir,aZ,jC,gM,bg,bh,dY,bW,bX,aA,aB,aC,aD,aE,aG,aH,aI,aJ,aK,aL,aM,aN,dT,dU,dV,bi,bw,bA,bB,bC,bD,bE,bG,bH,bI,bJ,bK,bL,bM,bN,bO,bP,bQ,bR,bS,aO,aP,aQ,aR,aS,aT,aU,aV,aW,aX,bY,bZ,dZ,ed,ee,ef,eh,ek,en,b7,ci,ck,cl,cA,cB,gN,gO,eo,fX,fY,fZ,f5,f7,f8,f9,ga,gc,ep,cC,gP,cD,cE,cF,cG,cH,cI,cJ,cK,cL,cN,cO,cP,cQ,cR,cS,cT,cU,cV,cW,cX,gQ,cY,cZ,dc,de,df,dg,dh,di,dj,dk,dn,dp,dt,gR,gS,er,eu,ew,ey,ez,eB,eC,eD,eE,eF,eG,dw,.int .i64 ((n:Int)+1),jD,jE,jF,jG,jH,jI,jJ,jK,jL,jM,jN,jO,jP,jQ,jR,jS,jT,jU,jV,jW,jX,jY,jZ,j5,j6,j7,j8,j9,ka,kc,kd,ke,kf,kh,ki,dA,dB,dC,dD,dE,dF,dG,dI,dJ,dK,dL,dM,dN,dO,dP,dQ,dR,gV,gW,gX,fx,fy,fz,fA,fB,fC,fD,fE,fF,fG,gY,gZ,hH,gd,gh,gl,gn,gy,gz,gA,gC,gD,gE,gF,gG,gH,gI,gJ,gK,gL,fH,fI,fJ,fK,fL,fM,fN,fO,fP,fQ,fR,fS,fT,fU,fV,fW,dS],defs⟩ w'):
 Code.wp Tryz.prog ((Tryz.f17.body.bind (zAr 12)).getD .skip) (Exit.then K' Q') ⟨#[l0,l1,l2,l3,l4,l5,l6,l7,l8,l9,ah,ai,aj,.int .i64 (n:Nat),.pointer (some ⟨P,0,none⟩),ak,al,ap,aY,bT,.slice none 0 0,.slice none 0 0,bU,bV,aZ,bf,gM,bg,bh,dY,bW,bX,aA,aB,aC,aD,aE,aG,aH,aI,aJ,aK,aL,aM,aN,dT,dU,dV,bi,bw,bA,bB,bC,bD,bE,bG,bH,bI,bJ,bK,bL,bM,bN,bO,bP,bQ,bR,bS,aO,aP,aQ,aR,aS,aT,aU,aV,aW,aX,bY,bZ,dZ,ed,ee,ef,eh,ek,en,b7,ci,ck,cl,cA,cB,gN,gO,eo,fX,fY,fZ,f5,f7,f8,f9,ga,gc,ep,cC,gP,cD,cE,cF,cG,cH,cI,cJ,cK,cL,cN,cO,cP,cQ,cR,cS,cT,cU,cV,cW,cX,gQ,cY,cZ,dc,de,df,dg,dh,di,dj,dk,dn,dp,dt,gR,gS,er,eu,ew,ey,ez,eB,eC,eD,eE,eF,eG,dw,.int .i64 ((n:Int)+1),.int .i64 0,eH,eI,eJ,eK,eM,eN,eO,eP,eQ,eR,eS,eT,eW,eX,eY,eZ,fa,fc,fd,fe,ff,fg,fh,fi,fj,fk,fl,fm,fq,fs,ft,fu,fv,fw,dA,dB,dC,dD,dE,dF,dG,dI,dJ,dK,dL,dM,dN,dO,dP,dQ,dR,gV,gW,gX,fx,fy,fz,fA,fB,fC,fD,fE,fF,fG,gY,gZ,hH,gd,gh,gl,gn,gy,gz,gA,gC,gD,gE,gF,gG,gH,gI,gJ,gK,gL,fH,fI,fJ,fK,fL,fM,fN,fO,fP,fQ,fR,fS,fT,fU,fV,fW,dS],defs⟩ x:=by
 conv=>arg 2;whnf
 have HS:=dH hs;have HB:=dH hL;have HF:=dH hfin;have hca:=hs.ca;have HL1:Hid ((L (n+1)).length=n+1):=dH (by have:=hs.len (n+1) (by omega);rwa [if_neg (by omega),if_pos rfl] at this);have HLR:Hid (∀r,r≤n→(L r).length=n):=dH (fun r hr=>by have:=hs.len r (by omega);rwa [if_pos hr] at this);clear hs hL hfin;go_wp2_with fail
 go_loopw [20,21,157] (fun s8 s9 i wr=>∃q:Nat,q≤n+1∧i=.int .i64 q∧∃val V M Kx rs,TurnS wr x.heap.size q n s8 val V M s9 Kx rs∧(∀r,r<q→∀c,c<n→M r c=Rat.divInt ((L r).getD c 0) 720720)∧rs.length=q∧(∀r,r<q→rs.getD r 0=Rat.divInt ((L (n+1)).getD r 0) 720720)∧Ext x wr) (fun _ _ i _=>n+1 - (intOf i).toNat)
 case atStart=>exact⟨0,Nat.zero_le _,rfl,fun _=>.bool false,fun _ _=>noCY,fun _ _=>0,[],[],TurnS.nil _ _ _ _ _ _,fun r hr=>by omega,rfl,fun r hr=>by omega,Ext.refl _⟩
 case round=>
  obtain⟨q,hq,rfl,val,V,M,Kx,rs,ht,hmq,hrl,hrq,hxr⟩:=hrel;generalize wr=xq at *;have q0:(0:Int)≤(q:Int):=by omega
  obtain⟨at1,ct,rfl⟩:=zAh ht.own;obtain⟨aw,cw,rfl,hwl,hwc⟩:=ht.want.form;have hKl:Kx.length=q:=by have:=ht.want.len;rw [this,hrl]
  have HT:=dH ht;have HMQ:=dH hmq;have HRL:=dH hrl;have HRQ:=dH hrq;have HXR:=dH hxr;have HKL:=dH hKl;clear ht hmq hrl hrq hxr hKl;by_cases hqn:q<n+1
  ·have q1:(q:Int)< (n:Int)+1:=by omega
   have hw1:IntKind.i64.wrap ((q:Int)+1)= (q:Int)+1:=IntWalk.i64_in _ (by omega);have hsx:=HS.out.ext HXR.out;have c0:=hsx.p.cell (i:=0) rfl;have r0:=hsx.row (r:=q) (by omega);clear hsx;go_wp2_with fail;clear c0 r0
   go_loopw [23,167] (fun s i wr=>∃k:Nat,k≤n∧i=.int .i64 k∧∃Kr,OwnRats wr xq.heap.size s Kr ((List.range k).map fun c=>Rat.divInt ((L q).getD c 0) 720720)∧(∀y∈Kr,zMm xq.heap.size y)∧Ext xq wr) (fun _ i _=>n - (intOf i).toNat)
   case atStart=>exact⟨0,Nat.zero_le _,rfl,[],OwnRats.nil _ _,(fun y hy=>by cases hy),Ext.refl _⟩
   case round=>
    obtain⟨k,hk,rfl,Kr,ho,hfr,hxk⟩:=hrel;generalize wr=xk at *;have k0:(0:Int)≤(k:Int):=by omega
    have hkl:Kr.length=k:=by have:=ho.len;rwa [List.length_map,List.length_range] at this
    obtain⟨ar,cr,rfl,hrl2,hrc2⟩:=ho.form;have HO:=dH ho;have HFR:=dH hfr;have HXK:=dH hxk;have HKR:=dH hkl;have hsx:=HS.out.ext (HXR.out.trans hxk);clear ho hfr hxk hkl;by_cases hkn:k<n
    ·have k1:(k:Int)< (n:Int):=by omega
     have hw2:IntKind.i64.wrap ((k:Int)+1)= (k:Int)+1:=IntWalk.i64_in _ (by omega);have a0:=hsx.at (t:=q) (i:=k) (by omega) (by rw [HLR.out q (by omega)];exact hkn)
     have hbd:=HB.out q (by omega) k;obtain⟨av,hav⟩:∃av,(L q).getD k 0=av:=⟨_,rfl⟩
     rw [hav] at a0 hbd;have HAV:=dH hav;clear hsx hav;go_wp2_with fail
     with_reducible refine(zAC av 720720 _ (by omega) (by omega) (by omega)).mono ?_
     rintro e9 y1 ⟨v9,rfl,⟨nz,az,qz,cz,bz,kz,dz,rfl,hv',hf',hg'⟩,hE⟩;have hya:=Ext.alloc y1 (.cells #[.bool nz,.slice az qz cz,.bool false,.slice bz kz dz] 38);have HBz:=dH (Blk.new0 y1 #[.bool nz,.slice az qz cz,.bool false,.slice bz kz dz] 38);have hlt:=HO.out.lt;have HOFF:Hid (RatC.Off ⟨nz,az,qz,cz,false,bz,kz,dz⟩ (Value.slice ar Kr.length cr).ownBlock):=dH ⟨fun _ A hA e=>by have:=hf' A hA;have:=(hlt _ e).2;omega,fun _ A hA e=>by have:=hg' A hA;have:=(hlt _ e).2;omega⟩;have hxs:=HXK.out.size;have HFN:Hid (zMm xq.heap.size ⟨nz,az,qz,cz,false,bz,kz,dz⟩):=dH ⟨fun _ A hA=>Nat.le_trans hxs (hf' A hA),fun _ A hA=>Nat.le_trans hxs (hg' A hA)⟩;have HXa:=dH ((HXK.out.trans hE).trans hya);have HOa:=dH ((HO.out.ext hE).ext hya);have HVa:=dH (RatV.ext hv' hya);clear hya hE hlt hv' hf' hg' a0 hxs HO HXK
     go_wp2_with (at_builtin;refine zBU rfl (.tmp 171) (.tmp 174) rfl HXa.out rfl HOa.out rfl (x:=⟨nz,az,qz,cz,false,bz,kz,dz⟩) (r:=Rat.divInt av 720720) HBz.out HVa.out HOFF.out (by have:=HKR.out;omega) ?_;intro v' w3 hO' hE' hg' hat')
     obtain⟨ua,uc,rfl,hul,huc⟩:=hO'.form;go_roundw
     case rel=>exact⟨k+1,by omega,by go_num,_,(by rw [List.range_succ,List.map_append,List.map_singleton,HAV.out];exact hO'),fun y hy=>(List.mem_append.1 hy).elim (HFR.out y) (fun h=>by rw [List.mem_singleton.1 h];exact HFN.out),hE'⟩
     case measure=>simp [intOf];omega
    ·have k1:¬ (k:Int)< (n:Int):=by omega
     obtain rfl:k=n:=by omega
     have hxs:=HXR.out.size
     obtain⟨Vq,hu⟩:=zKk (P:=Pt (.slice at1 q ct) (.slice aw Kx.length cw)) (N:=k) (f:=fun c=>Rat.divInt ((L q).getD c 0) 720720) HO.out HKR.out (fun c hc=>by rw [List.getD_eq_getElem?_getD,List.getElem?_map,List.getElem?_range hc];rfl) (fun y hy o hp=>by
      have:=(HT.out.lt _ hp).2;obtain⟨f1,f2⟩:=HFR.out y hy
      exact⟨fun hp A hA e=>by have:=f1 hp A hA;cases e;omega,fun hp A hA e=>by have:=f2 hp A hA;cases e;omega⟩) (fun o hp=>(HT.out.lt o hp).2)
     have HU:=dH hu;have hkr:=HKR.out;rw [hkr] at HU ⊢;replace HT:=dH (HT.out.ext HXK.out);have hx:=HXR.out.trans HXK.out;have hbd:=HB.out (k+1) (by omega) q;obtain⟨bv,hbv⟩:∃bv,(L (k+1)).getD q 0=bv:=⟨_,rfl⟩
     rw [hbv] at hbd;have HBV:=dH hbv;clear hu hsx HXK HXR HO HFR HKR hbv hkr;go_upto_region 50 with fail;have hyd:Ext xk (World.drew xk):=(Ext.refl _).drew;replace HT:=dH (HT.out.ext hyd);replace HU:=dH (HU.out.ext hyd);replace hx:=hx.trans hyd;have hs9:=HS.out.ext hx;have s0:World.cell? (World.drew xk) ⟨P,1,none⟩=some (.slice (some ⟨G (k+1),0,none⟩) (k+1) (k+1)):=hs9.p.cell (i:=1) rfl;have s1:=hs9.at (t:=k+1) (i:=q) (by omega) (by rw [HL1.out];omega)
     rw [HBV.out] at s1;clear hyd hs9;refine wp_region_noPanic ?_;refine wp_region_held_drew (S:=(fun w'=>w'.cell? ⟨P,1,none⟩=some (.slice (some ⟨G (k+1),0,none⟩) (k+1) (k+1))∧w'.cell? ⟨G (k+1),q,none⟩=some (.int .i64 bv))) (by kernel_rfl) ?_ (fun hHeld=>?_)
     ·exact⟨s0,s1⟩
     (try simp only [pur,Nat.reduceAdd])
     generalize World.drew xk=y at *
     iterate 9
      refine tkR [0,1,4,5,6,7,8,9,10] (v:=?_) rfl rfl (by kernel_rfl) (fun _ _ _ h=>h) (by rfl) ?_ (by assumption) ?_;rotate_left
      ·(intro w hSw;(try dsimp only at hSw);(try go_simp);(try with_reducible rfl))
      (try simp only [Act.put,pus])
     refine wpAnyH_ready (rs:=[2]) (by kernel_rfl) (by simp) ?_;refine AllReadyH.cons (o:=_) rfl (fun K hK=>?_) ?_
     ·go_simp;have hE:=Ext.alloc y (.cells #[.slice ar k cr] 23);replace HT:=dH (HT.out.ext hE);replace HU:=dH (HU.out.ext hE);replace s0:=zA0 hE s0;replace s1:=zA0 hE s1;replace hx:=hx.trans hE;have HB3:=dH (Blk.new0 y #[.slice ar k cr] 23);clear hE;generalize Array.size (World.heap y)=kb at *;generalize World.alloc y (.cells #[.slice ar k cr] 23)=y at *;refine hK.out _ _ ?_ ?_
      ·exact⟨s0,s1⟩
      clear hK K hHeld;intro hHeld
      (try simp only [Act.put,pus])
      refine wpAnyH_ready (rs:=[3]) (by kernel_rfl) (by simp) ?_;refine AllReadyH.cons (o:=_) rfl (fun K hK=>?_) ?_
      ·refine zAk rfl (.tmp 177) (.tmp 179) 55 23 rfl (z:=.slice none 0 0) (k:=1) (by_:=24) Tryz.underlying55 zBh rfl (by decide) (B:=x.heap.size) hx.size rfl HT.out.own rfl (fun e=>by cases e) (news:=[.slice ar k cr]) rfl (fun A' hA j u hu=>by cases hA;exact zCH HB3.out hu) (fun u hu=>by rw [List.mem_singleton.1 hu];rfl) (by omega) (by omega) ?_;intro v9 x9 ho hg hnl hat;obtain⟨a9,c9,rfl⟩:=zAh ho;have HT9:=dH (HT.out.pushT ho hg hat HU.out);replace hx:Ext x x9:=Below.grown hx hg hx.size (fun r e=>(World.ownsRow.lt HT.out.own r e).1);have hs9:=HS.out.ext hx;replace s0:x9.cell? ⟨P,1,none⟩=some (.slice (some ⟨G (k+1),0,none⟩) (k+1) (k+1)):=hs9.p.cell (i:=1) rfl;replace s1:=hs9.at (t:=k+1) (i:=q) (by omega) (by rw [HL1.out];omega);rw [HBV.out] at s1;clear ho hg hnl hat HT HU HB3 hs9;refine hK.out _ _ ?_ ?_
       ·exact⟨s0,s1⟩
       clear hK K hHeld;intro hHeld
       (try simp only [Act.put,pus])
       refine wpAnyH_ready (rs:=[11]) (by kernel_rfl) (by simp) ?_;refine AllReadyH.cons (o:=_) rfl (fun K hK=>?_) ?_
       ·go_simp
        (with_reducible refine(zAC bv 720720 _ (by omega) (by omega) (by omega)).mono ?_);rintro e9 y1 ⟨v9,rfl,⟨nz,az,qz,cz,bz,kz,dz,rfl,hv',hf',hg'⟩,hE⟩;have hlt:=HT9.out.lt;have HOFF:Hid (RatC.Off ⟨nz,az,qz,cz,false,bz,kz,dz⟩ (Value.slice aw Kx.length cw).ownBlock):=dH ⟨fun _ A hA e=>by have:=hf' A hA;have:=(hlt _ (.inr e)).2;omega,fun _ A hA e=>by have:=hg' A hA;have:=(hlt _ (.inr e)).2;omega⟩;have HOF2:Hid (RatC.Off ⟨nz,az,qz,cz,false,bz,kz,dz⟩ (Value.slice a9 (q+1) c9).ownBlock):=dH ⟨fun _ A hA e=>by have:=hf' A hA;have:=(hlt _ (.inl e)).2;omega,fun _ A hA e=>by have:=hg' A hA;have:=(hlt _ (.inl e)).2;omega⟩;replace HT9:=dH (HT9.out.ext hE);replace hx:=hx.trans hE;replace s0:=zA0 hE s0;replace s1:=zA0 hE s1;have HVa:=dH hv';clear hE hlt hv' hf' hg'
        refine hK.out _ _ ?_ ?_
        ·exact⟨s0,s1⟩
        clear hK K hHeld;intro hHeld
        (try simp only [Act.put,pus])
        refine wpAnyH_ready (rs:=[12]) (by kernel_rfl) (by simp) ?_;refine AllReadyH.cons (o:=_) rfl (fun K hK=>?_) ?_
        ·go_simp;have hE:=Ext.alloc y1 (.cells #[.bool nz,.slice az qz cz,.bool false,.slice bz kz dz] 38);replace HT9:=dH (HT9.out.ext hE);replace hx:=hx.trans hE;replace HVa:=dH (RatV.ext HVa.out hE);replace s0:=zA0 hE s0;replace s1:=zA0 hE s1;have HBz:=dH (Blk.new0 y1 #[.bool nz,.slice az qz cz,.bool false,.slice bz kz dz] 38);clear hE;generalize Array.size (World.heap y1)=kb2 at *;generalize World.alloc y1 (.cells #[.bool nz,.slice az qz cz,.bool false,.slice bz kz dz] 38)=y2 at *;refine hK.out _ _ ?_ ?_
         ·exact⟨s0,s1⟩
         clear hK K hHeld;intro hHeld
         (try simp only [Act.put,pus])
         refine wpAnyH_ready (rs:=[13]) (by kernel_rfl) (by simp) ?_;refine AllReadyH.cons (o:=_) rfl (fun K hK=>?_) ?_
         ·refine zAP rfl (.tmp 181) (.tmp 189) rfl hx rfl HT9.out.want rfl (x:=⟨nz,az,qz,cz,false,bz,kz,dz⟩) (r:=Rat.divInt bv 720720) HBz.out HVa.out HOFF.out (by have:=HKL.out;omega) ?_;intro v' w3 hO' hE' hg' hat';obtain⟨ua,uc,e9,hul,huc⟩:=hO'.form;rw [List.length_append,List.length_singleton] at e9;subst e9;have HTz:=dH (HT9.out.pushW hO' hg' hat' HOF2.out);have hs9:=HS.out.ext hE';replace s0:w3.cell? ⟨P,1,none⟩=some (.slice (some ⟨G (k+1),0,none⟩) (k+1) (k+1)):=hs9.p.cell (i:=1) rfl;replace s1:=hs9.at (t:=k+1) (i:=q) (by omega) (by rw [HL1.out];omega);rw [HBV.out] at s1;clear HT9 hs9;refine hK.out _ _ ?_ ?_
          ·exact⟨s0,s1⟩
          clear hK K hHeld;intro hHeld
          (try simp only [Act.put,pus])
          iterate 2
           refine tkR [14,15] (v:=?_) rfl rfl (by kernel_rfl) (fun _ _ _ h=>h) (by rfl) ?_ (by assumption) ?_;rotate_left
           ·(intro w hSw;(try dsimp only at hSw);(try go_simp);(try with_reducible rfl))
           (try simp only [Act.put,pus])
          refine wpAnyH_done (by kernel_rfl) ?_ _;refine NoPanic.normal ?_;go_wp2_with fail;go_roundw
          case rel=>exact⟨q+1,by omega,by go_num,_,_,_,_,_,HTz.out,fun r hr c hc=>(if e:r=q then(by rw [if_pos e,e]) else(by rw [if_neg e];exact HMQ.out r (by omega) c hc)),by rw [List.length_append,HRL.out];rfl,fun r hr=>(if e:r=q then(by rw [e,List.getD_eq_getElem?_getD,List.getElem?_append_right (by rw [HRL.out];exact Nat.le_refl _),HRL.out,Nat.sub_self,HBV.out];rfl) else(by rw [List.getD_eq_getElem?_getD,List.getElem?_append_left (by rw [HRL.out];omega),←List.getD_eq_getElem?_getD];exact HRQ.out r (by omega))),hE'⟩
          case measure=>simp [intOf];omega
         exact AllReadyH.nil
        exact AllReadyH.nil
       exact AllReadyH.nil
      exact AllReadyH.nil
     exact AllReadyH.nil
  ·have q1:¬ (q:Int)< (n:Int)+1:=by omega
   obtain rfl:q=n+1:=by omega
   have hKc:=HKL.out;rw [hKc] at HT ⊢;clear hKc;go_wp2_with fail;exact HF.out _ _ _ _ _ _ _ _ _ _ _ _ _ _ _ _ _ _ _ _ _ _ _ _ _ _ _ _ _ _ _ _ _ _ _ _ _ _ _ _ _ _ _ _ _ _ _ _ HT.out HMQ.out HRL.out HRQ.out HXR.out
end Go.Proofs.YtonkhcdmchidjaaGreat
