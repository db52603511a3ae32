import Derived.Test.YtonkhcdmchidjaaGreatZD
namespace Go.Proofs.YtonkhcdmchidjaaGreat
open Go.RowKit Go BigFrame Go.Shelf
set_option maxRecDepth 100000
set_option linter.all false
attribute [local go_sem] Oper.semAt_some
structure RightB (m:List (List Int)):Prop where
 few:zDf m=true
 ask:zBJ m=0
 e0:0<m.length
 n0:0< (m.headD []).length
 conn:(zAi m).Conn
section
variable {m:List (List Int)}
theorem RightB.e6 (h:RightB m):m.length≤6:=(zF6 h.few h.ask).1
theorem RightB.n4 (h:RightB m):(m.headD []).length≤4:=(zF6 h.few h.ask).2
theorem RightB.tab (h:RightB m) {n:Nat} (hn:(m.headD []).length=n):Tab m n:=zGo (zAJ h.ask) hn
theorem RightB.ok (h:RightB m):(zAi m).Ok:=zKo (h.tab rfl) rfl h.n0 h.conn
theorem RightB.connB (h:RightB m) {n:Nat} (hn:(m.headD []).length=n):zHT m.length n (edB (zCO m) []):=zNh hn (hn ▸ h.n0) h.e0 h.conn
end
def zIF (m:List (List Int)) (w:World) (e:Ending) (w':World):Prop:=∃c:Bool,e=.returned (.bool c)∧(c=true↔RightB m)∧Ext w w'
theorem zKC {m:List (List Int)} {n E:Nat} {w:World} {qa xa:Option Addr} {qc xc:Nat} {Vq Vx:Nat→RatC} {q x:Nat→Rat} (hE:m.length=E) (hn:(m.headD []).length=n) (hq:RowR w qa qc E Vq q) (hx:RowR w xa xc n Vx x) (sq:∀i,i<E→Sz (q i) 2048) (sx:∀k,k<n→Sz (x k) 2048):
 ∃LQ LX:List RatA,LQ.length=E∧LX.length=n∧RatsI w qa qc LQ∧RatsI w xa xc LX∧zBF m LQ LX=true∧(∀i,i<E→zAq LQ i=q i)∧∀k,k<n→zAq LX k=x k:=by
 obtain⟨LQ,l1,r1,n1⟩:=hq.raw fun c hc=>⟨(sq c hc).lenN (Nat.le_refl _),(sq c hc).lenD (Nat.le_refl _)⟩
 obtain⟨LX,l2,r2,n2⟩:=hx.raw fun c hc=>⟨(sx c hc).lenN (Nat.le_refl _),(sx c hc).lenD (Nat.le_refl _)⟩
 refine⟨LQ,LX,l1,l2,r1,r2,?_,fun i hi=>(n1 i hi).val,fun k hk=>(n2 k hk).val⟩;unfold zBF;rw [decide_eq_true (by omega),decide_eq_true (by omega),Bool.true_and,Bool.true_and];refine List.all_eq_true.2 fun y hy=>?_;rcases List.mem_append.1 hy with h | h
 ·obtain⟨i,hi,rfl⟩:=List.getElem_of_mem h;have:=(n1 i (by omega)).ok
  rwa [List.getD_eq_getElem?_getD,List.getElem?_eq_getElem hi] at this
 ·obtain⟨i,hi,rfl⟩:=List.getElem_of_mem h;have:=(n2 i (by omega)).ok
  rwa [List.getD_eq_getElem?_getD,List.getElem?_eq_getElem hi] at this
theorem Mks.loss_congr {g:Mks} {q x q' x':Nat→Rat} (hq:∀i,i<g.E→q' i=q i) (hx:∀k,k<g.J→x' k=x k):g.loss q' x'=g.loss q x:=by
 unfold Mks.loss Mks.r;exact zA3 fun i hi=>zA3 fun k hk=>by rw [hq i hi,hx k hk]
theorem Mks.fits_congr {g:Mks} {q x q' x':Nat→Rat} (hq:∀i,i<g.E→q' i=q i) (hx:∀k,k<g.J→x' k=x k) (h:g.Fits q x):g.Fits q' x' where
 row i hi:=by
  rw [←h.row i hi];exact zA3 fun k hk=>by unfold Mks.r;rw [hq i hi,hx k hk]
 col k hk:=by
  rw [←h.col k hk];exact zA3 fun i hi=>by unfold Mks.r;rw [hq i hi,hx k hk]
 sum:=by
  rw [←h.sum];exact zA3 fun k hk=>hx k hk
theorem zLV {D e k:Nat} {r:Rat} (h0:0<D) (hD:D<2 ^ e) (h:Ov D (2 ^ e) r) (he:e≤30*k):Sz r k:=by
 obtain⟨z,hz,e1⟩:=h;exact zCJ h0 hD hz he he e1
theorem zIG (a:Option Addr) (cap:Nat) (m:List (List Int)) (E n:Nat) (qa:Option Addr) (qc:Nat) (xa:Option Addr) (xc:Nat) (Vq Vx:Nat→RatC) (q x:Nat→Rat) (D e:Nat) (w:World) (h:Rows w a cap m) (hE9:m.length=E) (hn:(m.headD []).length=n) (hq:RowR w qa qc E Vq q) (hx:RowR w xa xc n Vx x) (hE:zBJ m=0)
 (hov:OvF D (2 ^ e) n m.length q x) (hD:D<2 ^ e) (he:e≤14900):Calls Tryz.prog 21 #[.slice a E cap,.agg #[.slice qa E qc,.slice xa n xc]] w (zHJ ((zAi m).loss q x) w):=by
 subst hE9;obtain⟨LQ,LX,l1,l2,r1,r2,hf,v1,v2⟩:=zKC rfl hn hq hx (fun i hi=>zLV hov.d0 hD (hov.q i hi) (by omega)) (fun k hk=>zLV hov.d0 hD (hov.x k hk) (by omega));have:=zNk a cap m n qa qc LQ xa xc LX D e w h r1 r2 hE hf hn ⟨hov.d0,fun i hi=>by rw [v1 i hi];exact hov.q i hi,fun k hk=>by rw [v2 k hk];exact hov.x k hk⟩ hD he;rw [l1,l2,Mks.loss_congr (g:=zAi m) (q:=q) (x:=x) (fun i hi=>v1 i hi) (fun k hk=>v2 k (by rw [←hn];exact hk))] at this;exact this
theorem zKD (a:Option Addr) (cap:Nat) (m:List (List Int)) (E n:Nat) (qa:Option Addr) (qc:Nat) (xa:Option Addr) (xc:Nat) (Vq Vx:Nat→RatC) (q x:Nat→Rat) (D e:Nat) (w:World) (h:Rows w a cap m) (hE9:m.length=E) (hn:(m.headD []).length=n) (hq:RowR w qa qc E Vq q) (hx:RowR w xa xc n Vx x) (hE:zBJ m=0)
 (hov:OvF D (2 ^ e) n m.length q x) (hD:D<2 ^ e) (he:e≤14900):Calls Tryz.prog 19 #[.slice a E cap,.agg #[.slice qa E qc,.slice xa n xc]] w (zMq m q x w):=by
 subst hE9;obtain⟨LQ,LX,l1,l2,r1,r2,hf,v1,v2⟩:=zKC rfl hn hq hx (fun i hi=>zLV hov.d0 hD (hov.q i hi) (by omega)) (fun k hk=>zLV hov.d0 hD (hov.x k hk) (by omega));have:=zIz a cap m n qa qc LQ xa xc LX D e w h r1 r2 hE hf hn ⟨hov.d0,fun i hi=>by rw [v1 i hi];exact hov.q i hi,fun k hk=>by rw [v2 k hk];exact hov.x k hk⟩ hD he;rw [l1,l2] at this;refine this.mono ?_;rintro e9 w9 ⟨b,he9,hb,hx9⟩;exact⟨b,he9,hb.trans ⟨Mks.fits_congr (fun i hi=>(v1 i hi).symm) (fun k hk=>(v2 k (by rw [←hn];exact hk)).symm),Mks.fits_congr (fun i hi=>v1 i hi) (fun k hk=>v2 k (by rw [←hn];exact hk))⟩,hx9⟩
theorem zHo (a:Option Addr) (cap:Nat) (m:List (List Int)) (w:World) (h:Rows w a cap m) (hR:RightB m):Calls Tryz.prog 17 #[.slice a m.length cap] w (FitG m (m.headD []).length w):=
 zOf a cap m _ w h hR.ask hR.e0 rfl hR.n0 hR.n4 (hR.connB rfl)
theorem zHp (a:Option Addr) (cap:Nat) (m:List (List Int)) (w:World) (h:Rows w a cap m) (hA:zBJ m=0) (hC:¬ (0<m.length∧0< (m.headD []).length∧(zAi m).Conn)):Calls Tryz.prog 17 #[.slice a m.length cap] w (zMl 371 w):=by
 by_cases h0:m.length=0
 ·exact zLz a cap m w h hA h0
 ·by_cases h1:(m.headD []).length=0
  ·exact zLA a cap m w h hA (by omega) h1
  ·exact zKd a cap m w h hA (by omega) (by omega) fun hB=>hC ⟨by omega,by omega,zKq rfl (by omega) (by omega) hB⟩
theorem FitX.fits {m:List (List Int)} {n:Nat} {f:Nat→Rat} (h:FitX m n f) (hn:(m.headD []).length=n) (hO:(zAi m).Ok):(zAi m).Fits (fun i=>(zAi m).q f i) f:=Mks.fits_of hO (fun k hk=>by
 have:=h.eqs k (by rw [←hn];exact hk)
 rw [←hn] at this;exact this) (by
 have:=h.sum
 rw [←hn] at this;exact this)
set_option maxHeartbeats 4000000 in
theorem zI5 (a:Option Addr) (cap:Nat) (m:List (List Int)) (w:World) (h:Rows w a cap m):Calls Tryz.prog 25 #[.slice a m.length cap] w (zIF m w):=by
 have HH:=dH h;have HF:=dH (zKy a cap m w h);have hx:=Ext.refl w;clear h;go_enter Tryz.func25,Tryz.ntmps25;by_cases hf:zDf m=true
 ·rw [hf] at HF;have HF9:=dH hf;clear hf;go_wp2_with fail;refine HF.out.mono ?_;rintro e x1 ⟨rfl,hy⟩;replace hx:=hx.trans hy;clear hy HF;have HE:=dH (zI3 a cap m x1 (HH.out.ext hx));by_cases ha:zBJ m=0
  ·rw [ha] at HE;have HA:=dH ha;clear ha;go_wp2_with fail;refine HE.out.mono ?_;rintro e x2 ⟨rfl,hy⟩;replace hx:=hx.trans hy;clear hy HE;have HC:=dH (zF8 a cap m x2 (HH.out.ext hx) (zAJ HA.out));go_wp2_with fail;refine HC.out.mono ?_;rintro e x3 ⟨c,rfl,hc,hy⟩;replace hx:=hx.trans hy;have HP:Hid (zIF m w (.returned (.bool c)) x3):=dH ⟨c,rfl,hc.trans ⟨fun⟨h1,h2,h3⟩=>⟨HF9.out,HA.out,h1,h2,h3⟩,fun h=>⟨h.e0,h.n0,h.conn⟩⟩,hx⟩;clear hy HC hc;go_wp2_with fail;go_ret;exact HP.out
  ·have HA:=dH ha;have t1:(zBJ m == 0)=false:=by simpa using ha
   clear ha;go_wp2_with fail;refine HE.out.mono ?_;rintro e x2 ⟨rfl,hy⟩;replace hx:=hx.trans hy;have HP:Hid (zIF m w (.returned (.bool false)) x2):=dH ⟨false,rfl,⟨(fun h=>by cases h),fun h=>absurd h.ask HA.out⟩,hx⟩;clear hy HE;go_wp2_with fail;go_ret;exact HP.out
 ·have hf2:zDf m=false:=by simpa using hf
  rw [hf2] at HF;have HF9:=dH hf;clear hf hf2;go_wp2_with fail;refine HF.out.mono ?_;rintro e x2 ⟨rfl,hy⟩;replace hx:=hx.trans hy;have HP:Hid (zIF m w (.returned (.bool false)) x2):=dH ⟨false,rfl,⟨(fun h=>by cases h),fun h=>absurd h.few HF9.out⟩,hx⟩;clear hy HF;go_wp2_with fail;go_ret;exact HP.out
end Go.Proofs.YtonkhcdmchidjaaGreat
namespace Go.Proofs.YtonkhcdmchidjaaGreat
open Go.RowKit Go BigFrame Go.Shelf
set_option maxRecDepth 100000
set_option linter.all false
def zBo (l:List Int):Prop:=∀x∈l,-1000000≤x∧x≤1000000
theorem zHq {w:World} {b:Nat} {t:TypeId} {l:List Int} (h:Blk w b (l.map (Value.int .i64)).toArray t) (hr:zBo l) (hl:l.length≤1000000):Ints w (some ⟨b,0,none⟩) l.length l:=
 ⟨Nat.le_refl _,by omega,fun h=>by(cases h),fun A hA i hi=>by
  cases hA
  have h1:=hr _ (List.getElem_mem hi);refine⟨rfl,.int .i64 l[i],?_,?_⟩
  ·simp only [Nat.zero_add];exact h.cell (by simp [hi])
  ·exact⟨rfl,by omega,by omega⟩⟩
theorem zJi {w:World} {b:Nat} {t:TypeId} {a:Option Addr} {cap:Nat} {l:List Int} (h:Blk w b #[.slice a l.length cap] t) (hi:Ints w a cap l):Rows w (some ⟨b,0,none⟩) 1 [l]:=
 ⟨by simp,by simp,fun h=>by(cases h),fun A hA i hi'=>by
  cases hA
  have e:i=0:=by simp at hi';omega
  subst e
  exact⟨rfl,.slice a l.length cap,h.cell rfl,a,cap,rfl,hi⟩⟩
theorem zJj {w:World} {b:Nat} {t:TypeId} {a a2:Option Addr} {cap cap2:Nat} {l l2:List Int} (h:Blk w b #[.slice a l.length cap,.slice a2 l2.length cap2] t) (hi:Ints w a cap l) (hj:Ints w a2 cap2 l2):Rows w (some ⟨b,0,none⟩) 2 [l,l2]:=
 ⟨by simp,by simp,fun h=>by(cases h),fun A hA i hi'=>by
  cases hA
  have e:i=0∨i=1:=by simp at hi';omega
  rcases e with rfl | rfl
  ·exact⟨rfl,.slice a l.length cap,h.cell rfl,a,cap,rfl,hi⟩
  ·exact⟨rfl,.slice a2 l2.length cap2,h.cell (i:=1) rfl,a2,cap2,rfl,hj⟩⟩
theorem zCK (w:World) {a:Option Addr} {cap:Nat} {l:List Int} (h:Ints w a cap l):∃x,w.alloc (.cells #[.slice a l.length cap] 34)=x∧Ext w x∧Rows x (some ⟨w.heap.size,0,none⟩) 1 [l]:=
 ⟨_,rfl,Ext.alloc _ _,zJi (Blk.new0 w _ _) (h.ext (Ext.alloc _ _))⟩
theorem zCL (w:World) {a a2:Option Addr} {cap cap2:Nat} {l l2:List Int} (h:Ints w a cap l) (h2:Ints w a2 cap2 l2):∃x,w.alloc (.cells #[.slice a l.length cap,.slice a2 l2.length cap2] 34)=x∧Ext w x∧Rows x (some ⟨w.heap.size,0,none⟩) 2 [l,l2]:=
 ⟨_,rfl,Ext.alloc _ _,zJj (Blk.new0 w _ _) (h.ext (Ext.alloc _ _)) (h2.ext (Ext.alloc _ _))⟩
theorem zAn (w:World) (l:List Int) (hr:zBo l) (hl:l.length≤1000000):∃x,w.alloc (.cells (l.map (Value.int .i64)).toArray 3)=x∧Ext w x∧Ints x (some ⟨w.heap.size,0,none⟩) l.length l:=
 ⟨_,rfl,Ext.alloc _ _,zHq (Blk.new0 w _ _) hr hl⟩
theorem zHr (w:World):Rows w none 0 []:=⟨Nat.le_refl _,by simp,fun _=>rfl,fun A hA=>by cases hA⟩
theorem zDE (w:World):RatsI w none 0 []:=⟨Nat.le_refl _,by simp,fun _=>rfl,(fun A hA=>by cases hA),fun i h=>absurd h (by simp)⟩
def zDg (l:List Int):Nat→Rat:=fun c=>((l.getD c 0:Int):Rat)
def zJk (l:List Int) (w:World) (e:Ending) (w':World):Prop:=∃a cap V,e=.returned (.slice a l.length cap)∧RowR w' a cap l.length V (zDg l)∧Ext w w'
theorem zBH (a:Option Addr) (cap:Nat) (l:List Int) (w:World) (h:Ints w a cap l) (hl:l.length≤1000):Calls Tryz.prog 50 #[.slice a l.length cap] w (zJk l w):=by
 refine(zJh a cap l w h hl).mono ?_;rintro e w' ⟨v,K,rfl,hO,hx⟩;have hN:K.length=l.length:=by have:=hO.len;rw [List.length_map] at this;exact this
 obtain⟨a',cap',V,rfl,hR⟩:=hO.reads hN (f:=zDg l) fun c hc=>by
  unfold zDg;rw [List.getD_eq_getElem?_getD,List.getD_eq_getElem?_getD,List.getElem?_map,List.getElem?_eq_getElem hc];rfl
 exact⟨a',cap',V,rfl,hR,hx⟩
theorem zDF (p:Nat) (l:List Int) (w:World) (h:Blk w p (l.map (Value.int .i64)).toArray 3) (hr:zBo l) (hl:l.length≤1000):Calls Tryz.prog 50 #[.slice (some ⟨p,0,none⟩) l.length l.length] w (zJk l w):=zBH _ _ l w (zHq h hr (by omega)) hl
theorem RowR.congrZ {w:World} {a:Option Addr} {cap N:Nat} {V:Nat→RatC} {f g:Nat→Rat} (h:RowR w a cap N V f) (e:∀c,c<N→f c=g c):RowR w a cap N V g:=⟨h.le,h.mx,h.nil,h.cells,fun c hc=>e c hc ▸ h.val c hc⟩
theorem zFI (n:Nat) (f g:Nat→Rat) (h:∀c,c<n→f c=g c):zDt n n f g=true:=by
 unfold zDt;rw [decide_eq_true rfl,Bool.true_and];exact List.all_eq_true.2 fun c hc=>decide_eq_true (h c (List.mem_range.1 hc))
theorem zEa (N n:Nat) (f p:Nat→Rat):zF5 N N n n f f p p=true:=by
 unfold zF5;rw [zFI N f f fun _ _=>rfl,zFI n p p fun _ _=>rfl];rfl
theorem FitX.only {m:List (List Int)} {f q x:Nat→Rat} (h:FitX m (m.headD []).length f) (hR:RightB m) (hf:(zAi m).Fits q x):(∀i,i<m.length→(zAi m).q f i=q i)∧∀k,k< (m.headD []).length→f k=x k:=
 Mks.fits_only hR.ok hR.conn hR.e0 hf (h.fits rfl hR.ok)
def FitV (E n:Nat) (q x:Nat→Rat) (w:World) (e:Ending) (w':World):Prop:=
 ∃ (qa:Option Addr) (qc:Nat) (xa:Option Addr) (xc:Nat) (Vq Vx:Nat→RatC),e=.returned (.tuple #[.agg #[.slice qa E qc,.slice xa n xc],.int .i64 0])∧RowR w' qa qc E Vq q∧RowR w' xa xc n Vx x∧Ext w w'
theorem zF9 (a:Option Addr) (cap:Nat) (m:List (List Int)) (E n:Nat) (q x:Nat→Rat) (w:World) (hE:m.length=E) (hn:(m.headD []).length=n) (h:Rows w a cap m) (hR:RightB m) (hf:(zAi m).Fits q x):Calls Tryz.prog 17 #[.slice a E cap] w (FitV E n q x w):=by
 subst hE hn;refine(zHo a cap m w h hR).mono ?_;rintro e w' ⟨qa,qc,xa,xc,Vq,Vx,f,rfl,h1,h2,hF,hy⟩;obtain⟨e1,e2⟩:=hF.only hR hf;exact⟨qa,qc,xa,xc,Vq,Vx,rfl,h1.congrZ e1,h2.congrZ e2,hy⟩
theorem zHs {m:List (List Int)} (h:∀i,i<m.length→∀k,k< (m.headD []).length→mkS m i k≠-1):(zAi m).Conn:=fun f g hf k hk i hi=>hf i hi k hk (by
 show kS m i k≠0;unfold kS;rw [if_pos (h i hi k hk)]
 decide)
theorem zNq:RightB [[5,7],[6,8]]:=⟨by decide,by decide,by decide,by decide,zHs (by decide)⟩
theorem zNr:RightB [[9]]:=⟨by decide,by decide,by decide,by decide,zHs (by decide)⟩
theorem zOp:(zAi [[5,7],[6,8]]).Fits (zDg [6,7]) (zDg [-1,1]) where
 row:=by show ∀i,i<2→_;decide +kernel
 col:=by show ∀i,i<2→_;decide +kernel
 sum:=by decide +kernel
theorem zOq:(zAi [[9]]).Fits (zDg [9]) (zDg [0]) where
 row:=by show ∀i,i<1→_;decide +kernel
 col:=by show ∀i,i<1→_;decide +kernel
 sum:=by decide +kernel
theorem zNs:¬ (zAi [[9]]).Fits (zDg [8]) (zDg [0]):=fun h=>absurd (h.row 0 (by decide)) (by decide +kernel)
theorem zOr:(zAi [[9]]).loss (zDg [8]) (zDg [0])=1:=by decide +kernel
theorem zOs:(zAi [[5,7],[6,8]]).loss (zDg [6,7]) (zDg [-1,1])=0:=by decide +kernel
theorem zNt:¬ (0< ([[5,-1],[-1,5]]:List (List Int)).length∧0< (([[5,-1],[-1,5]]:List (List Int)).headD []).length∧(zAi [[5,-1],[-1,5]]).Conn):=fun⟨_,_,h⟩=>by
 have:=h (fun i=>if i=0 then 0 else 1) (fun i=>if i=0 then 0 else 1) (fun i hi k hk hne=>by
  have hi2:i<2:=hi;have hk2:k<2:=hk;have h1:i=0∨i=1:=by omega
  have h2:k=0∨k=1:=by omega
  rcases h1 with rfl | rfl <;> rcases h2 with rfl | rfl
  ·rfl
  ·exact absurd (by decide +kernel) hne
  ·exact absurd (by decide +kernel) hne
  ·rfl) 0 (by decide) 1 (by decide)
 exact absurd this (by decide)
theorem zMw (l:List Int) (h:∀x∈l,-30≤x∧x≤30) (c:Nat):Ov 1 (2 ^ 5) (zDg l c):=by
 refine⟨l.getD c 0,?_,?_⟩
 ·have:-30≤l.getD c 0∧l.getD c 0≤30:=by
   by_cases hc:c<l.length
   ·rw [List.getD_eq_getElem?_getD,List.getElem?_eq_getElem hc];exact h _ (List.getElem_mem hc)
   ·rw [List.getD_eq_getElem?_getD,List.getElem?_eq_none (by omega)];exact⟨by decide,by decide⟩
  omega
 ·unfold zDg;rw [Rat.div_def];rw [show(((1:Nat):Rat))⁻¹=1 by decide +kernel];grind
theorem zI6 (n E:Nat) (l k:List Int) (h:∀x∈l,-30≤x∧x≤30) (h2:∀x∈k,-30≤x∧x≤30):OvF 1 (2 ^ 5) n E (zDg l) (zDg k):=⟨by omega,fun i _=>zMw l h i,fun i _=>zMw k h2 i⟩
theorem zJl (w:World):Calls Tryz.prog 19 #[.slice none 0 0,.agg #[.slice none 0 0,.slice none 0 0]] w fun e w'=>e=.returned (.tuple #[.bool true,.int .i64 0])∧Ext w w':=by
 have:=zIz none 0 [] 0 none 0 [] none 0 [] 1 5 w (zHr w) (zDE w) (zDE w) (by decide) (by decide) rfl ⟨by omega,(fun i hi=>absurd hi (by simp)),fun i hi=>absurd hi (by omega)⟩ (by omega) (by omega);refine this.mono ?_;rintro e w' ⟨b,rfl,hb,hy⟩;have hf:b=true:=hb.2 ⟨(fun i hi=>absurd (show i<0 from hi) (by omega)),(fun i hi=>absurd (show i<0 from hi) (by omega)),rfl⟩;exact⟨by rw [hf],hy⟩
theorem zLW (a:Option Addr) (cap:Nat) (qa:Option Addr) (qc:Nat) (xa:Option Addr) (xc:Nat) (Vq Vx:Nat→RatC) (w:World) (h:Rows w a cap [[9]]) (hq:RowR w qa qc 1 Vq (zDg [8])) (hx:RowR w xa xc 1 Vx (zDg [0])):Calls Tryz.prog 19 #[.slice a 1 cap,.agg #[.slice qa 1 qc,.slice xa 1 xc]] w fun e w'=>e=.returned (.tuple #[.bool false,.int .i64 0])∧Ext w w':=by
 refine(zKD a cap [[9]] 1 1 qa qc xa xc Vq Vx _ _ 1 5 w h rfl rfl hq hx (by decide) (zI6 _ _ _ _ (by decide) (by decide)) (by omega) (by omega)).mono ?_;rintro e w' ⟨b,rfl,hb,hy⟩;have hf:b=false:=by
  cases b
  ·rfl
  ·exact absurd (hb.1 rfl) zNs
 exact⟨by rw [hf],hy⟩
theorem zNu (a:Option Addr) (cap:Nat) (qa:Option Addr) (qc:Nat) (xa:Option Addr) (xc:Nat) (Vq Vx:Nat→RatC) (w:World) (h:Rows w a cap [[9]]) (hq:RowR w qa qc 1 Vq (zDg [8])) (hx:RowR w xa xc 1 Vx (zDg [0])):Calls Tryz.prog 21 #[.slice a 1 cap,.agg #[.slice qa 1 qc,.slice xa 1 xc]] w (zHJ 1 w):=by
 have:=zIG a cap [[9]] 1 1 qa qc xa xc Vq Vx _ _ 1 5 w h rfl rfl hq hx (by decide) (zI6 _ _ _ _ (by decide) (by decide)) (by omega) (by omega);rw [zOr] at this;exact this
theorem zNv (a:Option Addr) (cap:Nat) (qa:Option Addr) (qc:Nat) (xa:Option Addr) (xc:Nat) (Vq Vx:Nat→RatC) (w:World) (h:Rows w a cap [[5,7],[6,8]]) (hq:RowR w qa qc 2 Vq (zDg [6,7])) (hx:RowR w xa xc 2 Vx (zDg [-1,1])):Calls Tryz.prog 21 #[.slice a 2 cap,.agg #[.slice qa 2 qc,.slice xa 2 xc]] w (zHJ 0 w):=by
 have:=zIG a cap [[5,7],[6,8]] 2 2 qa qc xa xc Vq Vx _ _ 1 5 w h rfl rfl hq hx (by decide) (zI6 _ _ _ _ (by decide) (by decide)) (by omega) (by omega);rw [zOs] at this;exact this
theorem zNw (a:Option Addr) (cap:Nat) (w:World) (h:Rows w a cap [[9]]):Calls Tryz.prog 21 #[.slice a 1 cap,.agg #[.slice none 0 0,.slice none 0 0]] w (zOk 380 w):=
 zKt a cap [[9]] none 0 [] none 0 [] w h (zDE w) (zDE w) (by simp) (by simp) (by decide) (by decide)
theorem zLX (w:World):Calls Tryz.prog 17 #[.slice none 0 0] w (zMl 371 w):=zHp none 0 [] w (zHr w) (by decide) fun h=>absurd h.1 (by simp)
theorem zJm (a:Option Addr) (cap:Nat) (w:World) (h:Rows w a cap [[5,-1],[-1,5]]):Calls Tryz.prog 17 #[.slice a 2 cap] w (zMl 371 w):=zHp a cap [[5,-1],[-1,5]] w h (by decide) zNt
theorem zLY (a:Option Addr) (cap:Nat) (w:World) (h:Rows w a cap [[9],[]]):Calls Tryz.prog 17 #[.slice a 2 cap] w (zMl 380 w):=zN1 a cap [[9],[]] w h (by decide)
end Go.Proofs.YtonkhcdmchidjaaGreat
