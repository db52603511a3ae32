import Derived.Test.YtokffagbdfhnnaaGreatUJ
import Derived.Test.YtokffagbdfhnnaaGreatUI
import Derived.OwnWalk
namespace Go.Proofs.YtokffagbdfhnnaaGreat
open Go.RowKit Go BigFrame Go.Shelf
set_option maxRecDepth 100000
set_option linter.unusedSimpArgs false
set_option linter.unusedVariables false
structure NumA (y:RatA) (r:Rat):Prop where
 ok:y.ok=true
 val:valA y=r
theorem NumA.err {y:RatA} {r:Rat} (h:NumA y r) (h1:(r.num.natAbs:Int)<1152921504606846976) (h2:((r.den:Int).natAbs:Int)<1073741824):errX y=0:=by
 obtain⟨_,e1,e2⟩:=ok_valA h.ok
 unfold errX smX
 rw [if_pos h.ok,←e1,←e2,h.val,decide_eq_true h1,decide_eq_true h2];rfl
theorem NumA.err2 {y:RatA} {r:Rat} (h:NumA y r) (h2:¬ ((r.den:Int).natAbs:Int)<1073741824):errX y=2:=by
 obtain⟨_,e1,e2⟩:=ok_valA h.ok
 unfold errX smX
 rw [if_pos h.ok,←e1,←e2,h.val,decide_eq_false h2,Bool.and_false];rfl
def NumP (r:Rat) (w:World) (e:Ending) (w':World):Prop:=∃y:RatA,e=.returned (.agg #[.bool y.n,.slice y.a y.l.length y.c,.bool y.n2,.slice y.b y.m.length y.d])∧RatI w' y∧NumA y r∧Ext w w'
theorem ratV_num {w:World} {n1:Bool} {a:Option Addr} {q c:Nat} {n2:Bool} {b:Option Addr} {k d:Nat} {r:Rat} (h:RatV w (.agg #[.bool n1,.slice a q c,.bool n2,.slice b k d]) r) (l1:Len r.num) (l2:Len (r.den:Int)):
 ∃l m:List Int,l.length=q∧m.length=k∧RatI w ⟨n1,a,c,l,n2,b,d,m⟩∧NumA ⟨n1,a,c,l,n2,b,d,m⟩ r:=by
 obtain⟨l,e1,h1,b1⟩:=h.num.parts
 obtain⟨m,e2,h2,b2⟩:=h.den.parts
 have hok:RatA.ok ⟨n1,a,c,l,n2,b,d,m⟩=true:=big_okR b1 b2 l1 l2
 refine⟨l,m,e1,e2,⟨h1,h2⟩,hok,?_⟩
 obtain⟨_,g1,g2⟩:=ok_valA hok
 have s1:sgn n1 (dval l)=r.num:=by have:=b1.2.2;unfold sgn;rw [this]
 have s2:sgn n2 (dval m)= (r.den:Int):=by have:=b2.2.2;unfold sgn;rw [this]
 dsimp only at g1 g2
 rw [s1] at g1
 rw [s2] at g2
 exact Rat.ext g1 (by exact_mod_cast g2)
theorem law11_numA (n d:Int) (w:World) (hn:-9223372036854775808≤n∧n≤9223372036854775807) (hd:-9223372036854775808≤d∧d≤9223372036854775807) (h0:d≠0) (l1:Len (Rat.divInt n d).num) (l2:Len ((Rat.divInt n d).den:Int)):Calls Tryz.prog 23 #[.int .i64 n,.int .i64 d] w (NumP (Rat.divInt n d) w):=by
 refine(law11_num n d w hn hd h0).mono ?_
 rintro e w' ⟨v,rfl,⟨n1,a,q,c,b,k,dd,rfl,hv,_,_⟩,hx⟩
 obtain⟨l,m,rfl,rfl,hi,hk⟩:=ratV_num hv l1 l2
 exact⟨⟨n1,a,c,l,false,b,dd,m⟩,rfl,hi,hk,hx⟩
def cellsA (y:RatA):List Value:=[.bool y.n,.slice y.a y.l.length y.c,.bool y.n2,.slice y.b y.m.length y.d]
theorem rats_blk1 {w:World} {b:Nat} {t:TypeId} {y:RatA} (h:Blk w b #[.bool y.n,.slice y.a y.l.length y.c,.bool y.n2,.slice y.b y.m.length y.d] t) (h1:RatI w y):RatsI w (some ⟨b,0,none⟩) 1 [y]:=
 ⟨by simp,by omega,fun h=>by(cases h),fun A hA i hi=>by
  cases hA
  have e:i=0:=by simp at hi;omega
  subst e
  exact⟨rfl,h.cell rfl,h.cell rfl,h.cell rfl,h.cell rfl⟩,fun i hi=>by
  have e:i=0:=by simp at hi;omega
  subst e
  exact h1⟩
theorem rats_blk2 {w:World} {b:Nat} {t:TypeId} {y z:RatA} (h:Blk w b #[.bool y.n,.slice y.a y.l.length y.c,.bool y.n2,.slice y.b y.m.length y.d,.bool z.n,.slice z.a z.l.length z.c,.bool z.n2,.slice z.b z.m.length z.d] t) (h1:RatI w y) (h2:RatI w z):RatsI w (some ⟨b,0,none⟩) 2 [y,z]:=
 ⟨by simp,by omega,fun h=>by(cases h),fun A hA i hi=>by
  cases hA
  have e:i=0∨i=1:=by simp at hi;omega
  rcases e with rfl | rfl
  ·exact⟨rfl,h.cell rfl,h.cell rfl,h.cell rfl,h.cell rfl⟩
  ·exact⟨rfl,h.cell (i:=4) rfl,h.cell (i:=5) rfl,h.cell (i:=6) rfl,h.cell (i:=7) rfl⟩,fun i hi=>by
  have e:i=0∨i=1:=by simp at hi;omega
  rcases e with rfl | rfl
  ·exact h1
  ·exact h2⟩
theorem mat_blk1 {w:World} {b:Nat} {t:TypeId} {a:Option Addr} {cap:Nat} {l:List RatA} (h:Blk w b #[.slice a l.length cap] t) (hi:RatsI w a cap l):RRows w (some ⟨b,0,none⟩) 1 [l]:=
 ⟨by simp,by omega,fun h=>by(cases h),fun A hA i hi'=>by
  cases hA
  have e:i=0:=by simp at hi';omega
  subst e
  exact⟨rfl,.slice a l.length cap,h.cell rfl,a,cap,rfl,hi⟩⟩
theorem mat_blk2 {w:World} {b:Nat} {t:TypeId} {a a2:Option Addr} {cap cap2:Nat} {l l2:List RatA} (h:Blk w b #[.slice a l.length cap,.slice a2 l2.length cap2] t) (hi:RatsI w a cap l) (hj:RatsI w a2 cap2 l2):RRows w (some ⟨b,0,none⟩) 2 [l,l2]:=
 ⟨by simp,by omega,fun h=>by(cases h),fun A hA i hi'=>by
  cases hA
  have e:i=0∨i=1:=by simp at hi';omega
  rcases e with rfl | rfl
  ·exact⟨rfl,.slice a l.length cap,h.cell rfl,a,cap,rfl,hi⟩
  ·exact⟨rfl,.slice a2 l2.length cap2,h.cell (i:=1) rfl,a2,cap2,rfl,hj⟩⟩
theorem rats_nil (w:World):RatsI w none 0 []:=⟨by simp,by omega,fun _=>rfl,fun A h=>(by cases h),fun i h=>by simp at h⟩
theorem mat_nil (w:World):RRows w none 0 []:=⟨by simp,by omega,fun _=>rfl,fun A h=>(by cases h)⟩
theorem lit_rats1 (w:World) {y:RatA} (h1:RatI w y):∃x,w.alloc (.cells #[.bool y.n,.slice y.a y.l.length y.c,.bool y.n2,.slice y.b y.m.length y.d] 44)=x∧Ext w x∧RatsI x (some ⟨w.heap.size,0,none⟩) 1 [y]∧x.heap.size=w.heap.size+1:=
 ⟨_,rfl,Ext.alloc _ _,rats_blk1 (Blk.new0 w _ _) (h1.ext (Ext.alloc _ _)),by simp⟩
theorem lit_rats2 (w:World) {y z:RatA} (h1:RatI w y) (h2:RatI w z):∃x,w.alloc (.cells #[.bool y.n,.slice y.a y.l.length y.c,.bool y.n2,.slice y.b y.m.length y.d,.bool z.n,.slice z.a z.l.length z.c,.bool z.n2,.slice z.b z.m.length z.d] 44)=x∧Ext w x∧RatsI x (some ⟨w.heap.size,0,none⟩) 2 [y,z]∧x.heap.size=w.heap.size+1:=
 ⟨_,rfl,Ext.alloc _ _,rats_blk2 (Blk.new0 w _ _) (h1.ext (Ext.alloc _ _)) (h2.ext (Ext.alloc _ _)),by simp⟩
theorem lit_mat1 (w:World) {a:Option Addr} {cap n:Nat} {l:List RatA} (hn:l.length=n) (h:RatsI w a cap l):∃x,w.alloc (.cells #[.slice a n cap] 23)=x∧Ext w x∧RRows x (some ⟨w.heap.size,0,none⟩) 1 [l]∧x.heap.size=w.heap.size+1:=by
 subst hn
 exact⟨_,rfl,Ext.alloc _ _,mat_blk1 (Blk.new0 w _ _) (h.ext (Ext.alloc _ _)),by simp⟩
theorem lit_mat2 (w:World) {a a2:Option Addr} {cap cap2 n n2:Nat} {l l2:List RatA} (hn:l.length=n) (hn2:l2.length=n2) (h:RatsI w a cap l) (h2:RatsI w a2 cap2 l2):∃x,w.alloc (.cells #[.slice a n cap,.slice a2 n2 cap2] 23)=x∧Ext w x∧RRows x (some ⟨w.heap.size,0,none⟩) 2 [l,l2]∧x.heap.size=w.heap.size+1:=by
 subst hn hn2
 exact⟨_,rfl,Ext.alloc _ _,mat_blk2 (Blk.new0 w _ _) (h.ext (Ext.alloc _ _)) (h2.ext (Ext.alloc _ _)),by simp⟩
theorem mat_nils (w:World) (b n:Nat) (hn:n≤1000) (t:TypeId) (h:Blk w b (Array.replicate n (.slice none 0 0)) t):RRows w (some ⟨b,0,none⟩) n (List.replicate n []):=
 ⟨by simp,by omega,fun h=>by(cases h),fun A hA i hi=>by
  cases hA
  rw [List.length_replicate] at hi
  have e:(List.replicate n ([]:List RatA))[i]'(by rw [List.length_replicate];exact hi)=[]:=List.getElem_replicate _
  refine⟨rfl,.slice none 0 0,?_,none,0,by rw [e];rfl,by rw [e];exact rats_nil w⟩
  rw [Nat.zero_add]
  exact h.cell (by simp [hi])⟩
def cM (l:List (List Rat)):Mx:=fun r c=>(l.getD r []).getD c 0
theorem okB_congr {m n N:Nat} {A B:Mx} (h:∀r,r<m→∀c,c<N→A r c=B r c) (hn:n<N):okB m n (elimX m A n)=okB m n (elimX m B n):=by
 obtain⟨e1,e2⟩:=elim_cols h (Nat.le_of_lt hn)
 rw [Bool.eq_iff_iff,okB_iff,okB_iff]
 unfold OkX
 rw [e1]
 exact⟨fun k r h1 h2=>by rw [←e2 r h2 n hn];exact k r h1 h2,fun k r h1 h2=>by rw [e2 r h2 n hn];exact k r h1 h2⟩
theorem solX_congr {m n N:Nat} {A B:Mx} (h:∀r,r<m→∀c,c<N→A r c=B r c) (hn:n<N) {c:Nat} (hc:c<n):solX n (elimX m A n) c=solX n (elimX m B n) c:=by
 obtain⟨e1,e2⟩:=elim_cols h (Nat.le_of_lt hn)
 have hle:=(elimX_ech m A n).le
 unfold solX
 rw [e1]
 split
 ·rename_i hm
  rw [←e1] at hm
  rw [←e1]
  exact e2 _ (by have:=List.idxOf_lt_length_iff.2 hm;omega) n hn
 ·rfl
theorem two_cases {r:Nat} (h:r<2):r=0∨r=1:=by omega
theorem three_cases {r:Nat} (h:r<3):r=0∨r=1∨r=2:=by omega
section
variable {y1 y2 y3 y4 z1 z2:RatA} (h1:NumA y1 (Rat.divInt 1 1)) (h2:NumA y2 (Rat.divInt 2 1)) (h3:NumA y3 (Rat.divInt 2 1)) (h4:NumA y4 (Rat.divInt 4 1))
include h1 h2 h3 h4
theorem ex_chk:chkE [[y1,y2],[y3,y4]]=0:=by
 have e1:=h1.err (by decide +kernel) (by decide +kernel)
 have e2:=h2.err (by decide +kernel) (by decide +kernel)
 have e3:=h3.err (by decide +kernel) (by decide +kernel)
 have e4:=h4.err (by decide +kernel) (by decide +kernel)
 simp [chkE,rowsE,elsE,e1,e2,e3,e4]
theorem ex_mx:∀r,r<2→∀c,c<2→mxA [[y1,y2],[y3,y4]] r c=cM [[1,2],[2,4]] r c:=by
 intro r hr c hc
 have d1:Rat.divInt 1 1=1:=by decide +kernel
 have d2:Rat.divInt 2 1=2:=by decide +kernel
 have d4:Rat.divInt 4 1=4:=by decide +kernel
 rcases two_cases hr with rfl | rfl <;> rcases two_cases hc with rfl | rfl <;> simp [mxA,cM,h1.val,h2.val,h3.val,h4.val,d1,d2,d4]
theorem ex_rank:rankA [[y1,y2],[y3,y4]]=1:=by
 unfold rankA
 rw [if_pos (ex_chk h1 h2 h3 h4)]
 have e:=(elim_cols (ex_mx h1 h2 h3 h4) (Nat.le_refl 2)).1
 show((elimX 2 (mxA [[y1,y2],[y3,y4]]) 2).ps.length:Int)=1
 rw [e]
 decide +kernel
theorem ex_vec {n d m e:Int} (k1:NumA z1 (Rat.divInt n d)) (k2:NumA z2 (Rat.divInt m e)) (g1:((Rat.divInt n d).num.natAbs:Int)<1152921504606846976) (g2:(((Rat.divInt n d).den:Int).natAbs:Int)<1073741824)
 (g3:((Rat.divInt m e).num.natAbs:Int)<1152921504606846976) (g4:(((Rat.divInt m e).den:Int).natAbs:Int)<1073741824):vecE [[y1,y2],[y3,y4]] [z1,z2] 2=0:=by
 unfold vecE
 rw [ex_chk h1 h2 h3 h4]
 simp [elsE,k1.err g1 g2,k2.err g3 g4]
theorem ex_vec0:vecE [[y1,y2],[y3,y4]] [] 2=110:=by
 unfold vecE
 rw [ex_chk h1 h2 h3 h4]
 rfl
theorem ex_aug {n m:Int} (k1:NumA z1 (Rat.divInt n 1)) (k2:NumA z2 (Rat.divInt m 1)):∀r,r<2→∀c,c<3→augA [[y1,y2],[y3,y4]] [z1,z2] r c=cM [[1,2,Rat.divInt n 1],[2,4,Rat.divInt m 1]] r c:=by
 intro r hr c hc
 have d1:Rat.divInt 1 1=1:=by decide +kernel
 have d2:Rat.divInt 2 1=2:=by decide +kernel
 have d4:Rat.divInt 4 1=4:=by decide +kernel
 rcases two_cases hr with rfl | rfl <;> rcases three_cases hc with rfl | rfl | rfl <;> simp [augA,widA,mxA,cM,h1.val,h2.val,h3.val,h4.val,k1.val,k2.val,d1,d2,d4]
theorem ex_trn {n m:Int} (k1:NumA z1 (Rat.divInt n 1)) (k2:NumA z2 (Rat.divInt m 1)):∀r,r<3→∀c,c<3→trnA [[y1,y2],[y3,y4]] [z1,z2] r c=cM [[1,2,0],[2,4,0],[Rat.divInt n 1,Rat.divInt m 1,1]] r c:=by
 intro r hr c hc
 have d1:Rat.divInt 1 1=1:=by decide +kernel
 have d2:Rat.divInt 2 1=2:=by decide +kernel
 have d4:Rat.divInt 4 1=4:=by decide +kernel
 rcases three_cases hr with rfl | rfl | rfl <;> rcases three_cases hc with rfl | rfl | rfl <;> simp [trnA,vecF,widA,mxA,cM,h1.val,h2.val,h3.val,h4.val,k1.val,k2.val,d1,d2,d4]
theorem ex_sol1 (k1:NumA z1 (Rat.divInt 1 1)) (k2:NumA z2 (Rat.divInt 2 1)):solOk [[y1,y2],[y3,y4]] [z1,z2]=true∧solF [[y1,y2],[y3,y4]] [z1,z2] 0=1∧solF [[y1,y2],[y3,y4]] [z1,z2] 1=0:=by
 have hv:=ex_vec h1 h2 h3 h4 k1 k2 (by decide +kernel) (by decide +kernel) (by decide +kernel) (by decide +kernel)
 have ha:=ex_aug h1 h2 h3 h4 k1 k2
 refine⟨?_,?_,?_⟩
 ·unfold solOk
  rw [show(([[y1,y2],[y3,y4]]:List (List RatA)).length:Int)=2 from rfl,decide_eq_true hv]
  show(true && okB 2 2 (elimX 2 _ 2))=true
  rw [okB_congr ha (by omega)]
  decide +kernel
 ·show solX 2 (elimX 2 (augA [[y1,y2],[y3,y4]] [z1,z2]) 2) 0=1
  rw [solX_congr ha (by omega) (by omega)]
  decide +kernel
 ·show solX 2 (elimX 2 (augA [[y1,y2],[y3,y4]] [z1,z2]) 2) 1=0
  rw [solX_congr ha (by omega) (by omega)]
  decide +kernel
theorem ex_sol2 (k1:NumA z1 (Rat.divInt 1 1)) (k2:NumA z2 (Rat.divInt 3 1)):solOk [[y1,y2],[y3,y4]] [z1,z2]=false:=by
 have ha:=ex_aug h1 h2 h3 h4 k1 k2
 unfold solOk
 show(_ && okB 2 2 (elimX 2 _ 2))=false
 rw [okB_congr ha (by omega)]
 rw [show okB 2 2 (elimX 2 (cM [[1,2,Rat.divInt 1 1],[2,4,Rat.divInt 3 1]]) 2)=false by decide +kernel,Bool.and_false]
theorem ex_ref1 (k1:NumA z1 (Rat.divInt 1 1)) (k2:NumA z2 (Rat.divInt 3 1)):refOk [[y1,y2],[y3,y4]] [z1,z2]=true∧refF [[y1,y2],[y3,y4]] [z1,z2] 0= -2∧refF [[y1,y2],[y3,y4]] [z1,z2] 1=1:=by
 have hv:=ex_vec h1 h2 h3 h4 k1 k2 (by decide +kernel) (by decide +kernel) (by decide +kernel) (by decide +kernel)
 have ha:=ex_trn h1 h2 h3 h4 k1 k2
 refine⟨?_,?_,?_⟩
 ·unfold refOk
  rw [show(([[y1,y2],[y3,y4]]:List (List RatA)).length:Int)=2 from rfl,decide_eq_true hv]
  show(true && okB 3 2 (elimX 3 _ 2))=true
  rw [okB_congr ha (by omega)]
  decide +kernel
 ·show solX 2 (elimX 3 (trnA [[y1,y2],[y3,y4]] [z1,z2]) 2) 0= -2
  rw [solX_congr ha (by omega) (by omega)]
  decide +kernel
 ·show solX 2 (elimX 3 (trnA [[y1,y2],[y3,y4]] [z1,z2]) 2) 1=1
  rw [solX_congr ha (by omega) (by omega)]
  decide +kernel
theorem ex_ref2 (k1:NumA z1 (Rat.divInt 1 1)) (k2:NumA z2 (Rat.divInt 2 1)):refOk [[y1,y2],[y3,y4]] [z1,z2]=false:=by
 have ha:=ex_trn h1 h2 h3 h4 k1 k2
 unfold refOk
 show(_ && okB 3 2 (elimX 3 _ 2))=false
 rw [okB_congr ha (by omega)]
 rw [show okB 3 2 (elimX 3 (cM [[1,2,0],[2,4,0],[Rat.divInt 1 1,Rat.divInt 2 1,1]]) 2)=false by decide +kernel,Bool.and_false]
theorem ex_app (k1:NumA z1 (Rat.divInt 3 1)) (k2:NumA z2 (Rat.divInt 1 2)):appF [[y1,y2],[y3,y4]] [z1,z2] 0=4∧appF [[y1,y2],[y3,y4]] [z1,z2] 1=8:=by
 unfold appF dotX
 show sq (fun c=>mxA [[y1,y2],[y3,y4]] 0 c*vecF [z1,z2] c) 2=4∧sq (fun c=>mxA [[y1,y2],[y3,y4]] 1 c*vecF [z1,z2] c) 2=8
 simp only [sq_succ,sq_nil,mxA,vecF,List.getD_cons_zero,List.getD_cons_succ,h1.val,h2.val,h3.val,h4.val,k1.val,k2.val]
 exact⟨by decide +kernel,by decide +kernel⟩
end
theorem ex_nil:vecE [] [] 0=0∧solOk [] []=true:=⟨by decide,by decide +kernel⟩
theorem ex_one {z:RatA} (k:NumA z (Rat.divInt 1 1)):vecE [[]] [z] 1=0∧refOk [[]] [z]=true∧refF [[]] [z] 0=1:=by
 have hv:vecE [[]] [z] 1=0:=by
  unfold vecE
  rw [show chkE [[]]=0 by decide]
  simp [elsE,k.err (by decide +kernel) (by decide +kernel)]
 have ha:∀r,r<1→∀c,c<2→trnA [[]] [z] r c=cM [[1,1]] r c:=by
  intro r hr c hc
  have d1:Rat.divInt 1 1=1:=by decide +kernel
  obtain rfl:r=0:=by omega
  rcases two_cases hc with rfl | rfl <;> simp [trnA,vecF,widA,mxA,cM,k.val,d1]
 refine⟨hv,?_,?_⟩
 ·unfold refOk
  rw [show(([[]]:List (List RatA)).length:Int)=1 from rfl,decide_eq_true hv]
  show(true && okB 1 1 (elimX 1 _ 1))=true
  rw [okB_congr ha (by omega)]
  decide +kernel
 ·show solX 1 (elimX 1 (trnA [[]] [z]) 1) 0=1
  rw [solX_congr ha (by omega) (by omega)]
  decide +kernel
theorem ex_c1 (z:RatA):chkE [[],[z]]=110:=by simp [chkE]
theorem ex_c2:chkE [[noA]]=100:=by decide +kernel
theorem ex_c3 {z:RatA} (k:NumA z (Rat.divInt 1 1073741824)):chkE [[z]]=2:=by
 simp [chkE,rowsE,elsE,k.err2 (by decide +kernel)]
theorem ex_c4:chkE (List.replicate 18 [])=2:=by decide
end Go.Proofs.YtokffagbdfhnnaaGreat
