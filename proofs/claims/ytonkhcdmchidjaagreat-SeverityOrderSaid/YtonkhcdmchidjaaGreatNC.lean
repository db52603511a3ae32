import Derived.Test.YtonkhcdmchidjaaGreatRG
import Derived.Test.YtonkhcdmchidjaaGreatNB
import Derived.Test.YtonkhcdmchidjaaGreatHeldIn
set_option maxHeartbeats 4000000
namespace Go.Proofs.YtonkhcdmchidjaaGreat
open Go.RowKit Go Go.Shelf
set_option maxRecDepth 100000
set_option linter.all false
attribute [local go_sem] Oper.semAt_some
theorem zJs (n:Int) (h₀:0≤n) (h₁:n<2 ^ 63):IntKind.i64.wrap n=n:=by rw [IntKind.wrap_i64];omega
theorem zFQ (r x:Int) (h1:0≤r) (h2:r<8589934592) (h3:0≤x) (h4:x<1073741824):bits .or .i64 (r*1073741824) x=r*1073741824+x:=
 bits_join .i64 63 (by decide) zJs 30 _ _ (by omega) (by omega) (by omega) h3 (by omega) (by omega)
theorem ownFrom_ex {β γ:Type} {B:Nat} {I:γ→β→World→Prop} (h:∀x,OwnFrom B (I x)):OwnFrom B (fun s W=>∃x,I x s W):=
 fun s W W' row ⟨x,hx⟩ hg hr=>⟨x,h x s W W' row hx hg hr⟩
def DivAt (l:List Int) (d:Int) (i:Nat) (Q:List Int) (r:Int):Prop:=Q.length=l.length∧Digs Q∧0≤r∧r<d∧zA1 (Q.drop i)*d+r=zA1 (l.drop i)
theorem DivAt.start {l:List Int} {d:Int} (hd:0<d):DivAt l d l.length (List.replicate l.length 0) 0:=
 ⟨by simp,fun x hx=>by have:=List.eq_of_mem_replicate hx;omega,by omega,hd,by simp [zA1]⟩
theorem DivAt.step {l:List Int} {d:Int} {i:Nat} {Q:List Int} {r:Int} (hl:Digs l) (h:DivAt l d (i+1) Q r) (hi:i<l.length):
 DivAt l d i (Q.set i ((r*1073741824+l.getD i 0) / d)) ((r*1073741824+l.getD i 0) % d):=by
 obtain⟨h1,h2,h3,h4,h5⟩:=h;obtain⟨x1,x2⟩:=hl.getD i;have hset:(Q.set i ((r*1073741824+l.getD i 0) / d)).drop i= ((r*1073741824+l.getD i 0) / d) :: Q.drop (i+1):=by
  rw [zAU (by simp;omega)];simp only [List.getD,List.getElem?_set];rw [List.drop_set_of_lt (by omega)];simp [show i<Q.length by omega]
 have hdv:=Int.mul_ediv_add_emod (r*1073741824+l.getD i 0) d;have hv0:0≤(r*1073741824+l.getD i 0) / d:=Int.ediv_nonneg (by omega) (by omega);have hvB:(r*1073741824+l.getD i 0) / d<1073741824:=Int.ediv_lt_of_lt_mul (by omega) (by omega);refine⟨by simp [h1],fun y hy=>?_,Int.emod_nonneg _ (by omega),Int.emod_lt_of_pos _ (by omega),?_⟩
 ·rcases List.mem_or_eq_of_mem_set hy with h | h
  ·exact h2 _ h
  ·rw [h];exact⟨hv0,hvB⟩
 ·rw [hset,zAU hi,zA1,zA1,←h5,Int.add_mul];generalize (r*1073741824+l.getD i 0) / d=v at *;have e1:d*v=v*d:=Int.mul_comm _ _;have e2:1073741824*zA1 (Q.drop (i+1))*d=1073741824* (zA1 (Q.drop (i+1))*d):=Int.mul_assoc _ _ _;omega
theorem DivAt.done {l:List Int} {d:Int} {Q:List Int} {r:Int} (h:DivAt l d 0 Q r):zAB Q=digs (zA1 l / d).toNat∧r=zA1 l % d:=by
 obtain⟨h1,h2,h3,h4,h5⟩:=h;rw [List.drop_zero,List.drop_zero] at h5;have hd:0<d:=by omega
 rw [zCX h2,←h5];have e:zA1 Q*d+r=r+d*zA1 Q:=by rw [Int.mul_comm];omega
 rw [e,Int.add_mul_ediv_left _ _ (by omega),Int.add_mul_emod_self_left,Int.ediv_eq_zero_of_lt h3 h4,Int.emod_eq_of_lt h3 h4];exact⟨by simp,rfl⟩
def zJt (l:List Int) (d:Int) (w:World) (e:Ending) (w':World):Prop:=
 ∃v,e=.returned (.tuple #[v,.int .i64 (zA1 l % d)])∧OwnI w' w.heap.size v (digs (zA1 l / d).toNat)∧Ext w w'
theorem zHA (n:Nat) (a:Option Addr) (ca:Nat) (l:List Int) (d:Int) (w:World) (h:Ints w a ca l) (hl:Digs l) (h1:l.length=n) (hn:n≤100000) (hd1:1≤d) (hd2:d≤1073741824):
 Calls Tryz.prog 220 #[.slice a n ca,.int .i64 d] w (zJt l d w):=by
 obtain⟨i0,hi0,hz0,hz1,hz2⟩:=info_parts zHD;have hle1:=h.le;have hmx1:=h.mx;rw [h1] at hle1;have HL:=dH h1;have HI:=dH h;have HN1:=dH hl;clear h1 h hl;have X1:=((Blk.new0 w #[.int .i64 d] 3).alloc (.cells #[.slice none 0 0] 217)).alloc (.cells #[.int .i64 0] 3);have X2:=(Blk.new1 w (.cells #[.int .i64 d] 3) #[.slice none 0 0] 217).alloc (.cells #[.int .i64 0] 3);have X3:=Blk.new2 w (.cells #[.int .i64 d] 3) (.cells #[.slice none 0 0] 217) #[.int .i64 0] 3;have hx:Ext w (((w.alloc (.cells #[.int .i64 d] 3)).alloc (.cells #[.slice none 0 0] 217)).alloc (.cells #[.int .i64 0] 3)):=(by repeat (first | with_reducible exact Ext.refl _ | with_reducible assumption | with_reducible refine Ext.drewN ?_ _ | with_reducible refine Ext.drew ?_ | with_reducible refine Ext.alloc' ?_ _ | with_reducible refine Ext.set ?_ (by dsimp only;omega) _))
 have hsz:(((w.alloc (.cells #[.int .i64 d] 3)).alloc (.cells #[.slice none 0 0] 217)).alloc (.cells #[.int .i64 0] 3)).heap.size=w.heap.size+3:=by simp
 refine(callsIn_wide (n:=5)).1 ?_;refine callsIn_of_wp_marks Tryz.func220 rfl trivial ?_ rfl;simp only [Tryz.ntmps220,List.size_toArray,List.length_cons,List.length_nil,Nat.reduceAdd,Nat.reduceSub,Array.replicate_succ,Array.replicate_zero,List.push_toArray,List.append_toArray,List.nil_append,List.cons_append];refine wpIn_wide.2 ?_;go_upto_region 1 with fail;have X1:=dH X1;have X2:=dH X2;have X3:=dH X3;have c2:=X2.out.cell (i:=0) rfl;have f2:=X2.out.free 0;generalize (((w.alloc (.cells #[.int .i64 d] 3)).alloc (.cells #[.slice none 0 0] 217)).alloc (.cells #[.int .i64 0] 3))=w1 at *;simp only [Nat.add_assoc,Nat.reduceAdd]
 go_wp2_with (at_make;refine wpList_make_full _ rfl _ _ 217 rfl (w.heap.size+3) 3 i0 (.int .i64 0) 1 Tryz.underlying217 hi0 hz0 hz1 _ _ _ _ n rfl rfl rfl rfl (by rw [hz2];omega) (by unfold maxLen;omega) (by omega) ?_;intro w2 hown hgrow;have X1:=dH (zFN X1.out hgrow);have X2:=dH (zFN X2.out hgrow);have X3:=dH (zFN X3.out hgrow);have c2:=X2.out.cell (i:=0) rfl;have f2:=X2.out.free 0;have hx2:=zEj hx hgrow;clear hgrow)
 refine(zIa _ _ _ _).mono ?_;rintro e6 w6 ⟨rfl,rfl⟩;have hown:w2.ownsRow (w.heap.size+3) 3 1 (.slice (some ⟨w.heap.size+3,0,none⟩) n n) n ((List.replicate n (0:Int)).map (Value.int .i64)):=by simpa [Value.cells,toList_madeCells_one,hsz] using hown
 have hB0:IB w2 (w.heap.size+3) (List.replicate n 0):=IB.of_owns hown;have hs2:w.heap.size+4≤w2.heap.size:=by have:=hB0.lt;omega
 clear hown;have Y1:=X1.out.other (p:=⟨w.heap.size+1,0,none⟩) (by dsimp only;omega) (.slice (some ⟨w.heap.size+3,0,none⟩) n n);have Y2:=X2.out.set 0 (.slice (some ⟨w.heap.size+3,0,none⟩) n n);have Y3:=X3.out.other (p:=⟨w.heap.size+1,0,none⟩) (by dsimp only;omega) (.slice (some ⟨w.heap.size+3,0,none⟩) n n);have Y4:=Blk.other hB0 (p:=⟨w.heap.size+1,0,none⟩) (by dsimp only;omega) (.slice (some ⟨w.heap.size+3,0,none⟩) n n);have hx3:=hx2.set (p:=⟨w.heap.size+1,0,none⟩) (by dsimp only;omega) (.slice (some ⟨w.heap.size+3,0,none⟩) n n);have hs3:(w2.setCell ⟨w.heap.size+1,0,none⟩ (.slice (some ⟨w.heap.size+3,0,none⟩) n n)).heap.size=w2.heap.size:=by simp [World.setCell]
 generalize w2.setCell ⟨w.heap.size+1,0,none⟩ (.slice (some ⟨w.heap.size+3,0,none⟩) n n)=w3 at *;have Y1:=Y1.alloc (.cells #[.slice a n ca] 217);have Y2:=Y2.alloc (.cells #[.slice a n ca] 217);have Y3:=Y3.alloc (.cells #[.slice a n ca] 217);have Y4:IB (w3.alloc (.cells #[.slice a n ca] 217)) (w.heap.size+3) (List.replicate n 0):=Blk.alloc Y4 _;have Y5:=Blk.new0 w3 #[.slice a n ca] 217;have hx4:=hx3.alloc' (.cells #[.slice a n ca] 217);have hs4:w3.heap.size< (w3.alloc (.cells #[.slice a n ca] 217)).heap.size:=by simp
 rw [hs3] at Y5 hs4;generalize hbs:w2.heap.size=bs at *;have hi3:=HI.out.ext hx4;have hA:∀A,a=some A→0<l.length→A.block<w.heap.size:=fun A hA hn=>by
  obtain⟨b0,o0,e0⟩:=HI.out.head hn;have hI0:=HI.out;rw [e0] at hA hI0;cases hA
  exact zAd (hI0.cell (i:=0) hn).1
 have hseq:=zIb 4 bs w.heap.size a ca l (w3.alloc (.cells #[.slice a n ca] 217)) (by rw [HL.out];exact Y5) hi3 hA;rw [HL.out] at hseq;go_wp2_with fail;generalize w3.alloc (.cells #[.slice a n ca] 217)=w4 at *;clear X1 X2 X3 c2 f2 hsz hx hB0;refine(wpIn_wide (n:=5)).1 ?_
 refine zBx (by omega) (gf:=228) (lb:=#[.pointer (some ⟨bs,0,none⟩)]) (by simp [go_sem,hs3]) (enters_of Tryz.func228 (by kernel_rfl) rfl)
  hseq (fun h k=>KpB.trans h k) (fun W l o o' h1 h2 h3 h4=>KpB.b (w:=w4) (by omega) W l o o' h1 h2 h3 h4) (fun _=>rfl)
  (fun pre W=>Blk W w.heap.size #[.int .i64 d] 3∧Blk W (w.heap.size+1) #[.slice (some ⟨w.heap.size+3,0,none⟩) n n] 217∧(∃Q,∃r,Blk W (w.heap.size+2) #[.int .i64 r] 3∧IB W (w.heap.size+3) Q∧DivAt l d (n - pre.length) Q r)∧Below w.heap.size w W)
  (fun _ _ _=>False)
  (OwnFrom.and (Own.from (zCW _ _ _) _) (OwnFrom.and (Own.from (zCW _ _ _) _) (OwnFrom.and (ownFrom_ex fun Q=>ownFrom_ex fun r=>OwnFrom.and (Own.from (zCW _ _ _) _) (OwnFrom.and (Own.from (zCW _ _ _) _) (ownFrom_pure _ _))) (ownFrom_below (Nat.le_refl _) (by omega)))))
  (fun c=>ownFrom_pure _ _)
  ⟨Y1,Y2,⟨_,_,Y3,Y4,by have:=DivAt.start (l:=l) (d:=d) (by omega);rw [HL.out] at this;exact this⟩,hx4⟩ ?a1 ?assign ?body ?done ?stop
 case assign=>
  intro l x W K hK
  gi_wp2
  exact hK
 case body=>
  rintro lp pre i W ⟨hb1,hb2,⟨Q,r,hb3,hb4,hd⟩,hB⟩ hok;obtain⟨e1,e2,e3⟩:=hok.snoc;have hin:i<n:=by omega
  have hdi:n - pre.length=i+1:=by omega
  rw [hdi] at hd;have hst:=hd.step HN1.out (by rw [HL.out];exact hin);have hp1:n - (pre ++ [i]).length=i:=by rw [List.length_append,List.length_singleton];omega
  rw [←hp1] at hst;rw [hp1] at hst;obtain⟨q1,q2,r1,r2,_⟩:=hd;obtain⟨x1,x2⟩:=HN1.out.getD i;obtain⟨x,hx⟩:∃x,l.getD i 0=x:=⟨_,rfl⟩
  have hx':l[i]?.getD 0=x:=by rw [←List.getD_eq_getElem?_getD];exact hx
  rw [hx] at hst x1 x2;rw [hx'];have hor:=zFQ r x r1 (by omega) x1 x2;obtain⟨t,ht⟩:∃t,r*1073741824+x=t:=⟨_,rfl⟩
  rw [ht] at hor hst;have HST:=dH hst;have HP:=dH hp1;have ht0:0≤t:=by omega
  have ht1:t<1152921504606846976:=by omega
  have f3:=hb3.free 0;have c3:=hb3.cell (i:=0) rfl;have H1:=dH hb1;have H2:=dH hb2;have H3:=dH hb3;have H4:Hid (IB W (w.heap.size+3) Q):=dH hb4;have HB:=dH hB;have HQ:=dH (show Q.length=n by rw [q1,HL.out]);have g1:(0:Int)≤(i:Int):=by omega
  have g2:(i:Int)< (n:Int):=by omega
  clear hst hp1 hb1 hb2 hb3 hb4 hB q1 q2 hx hx' hok e1 e3 Y1 Y2 Y3 Y4 Y5 hx4 ht hi3;gi_wp2_with fail;have K1:=H1.out.other (p:=⟨w.heap.size+2,0,none⟩) (by dsimp only;omega) (.int .i64 t);have K2:=H2.out.other (p:=⟨w.heap.size+2,0,none⟩) (by dsimp only;omega) (.int .i64 t);have K3:=H3.out.set 0 (.int .i64 t);have K4:IB (W.setCell ⟨w.heap.size+2,0,none⟩ (.int .i64 t)) (w.heap.size+3) Q:=Blk.other H4.out (p:=⟨w.heap.size+2,0,none⟩) (by dsimp only;omega) (.int .i64 t);have KK:KpB w.heap.size bs W (W.setCell ⟨w.heap.size+2,0,none⟩ (.int .i64 t)):=⟨(Below.refl _ W).setCell (p:=⟨w.heap.size+2,0,none⟩) (by dsimp only;omega) _,fun _ _ h=>h.other (by dsimp only;omega) _⟩
  have KO:=KeepsOthers.setCell W ⟨w.heap.size+2,0,none⟩ (.int .i64 t);generalize W.setCell ⟨w.heap.size+2,0,none⟩ (.int .i64 t)=W1 at *;have HK1:=dH K1;have HK2:=dH K2;have HK3:=dH K3;have HK4:Hid (IB W1 (w.heap.size+3) Q):=dH K4;have HKK:=dH KK;have HKO:=dH KO;have d1:(d == 0)=false:=by simp;omega
  have d2:(d != 0)=true:=by simp;omega
  have d3:¬d=0:=by omega
  have hdv0:0≤t / d:=Int.ediv_nonneg ht0 (by omega);have hdv1:t / d≤t:=Int.ediv_le_self _ ht0;have hv:IntKind.i64.wrap (t.tdiv d)=t / d:=by rw [Int.tdiv_eq_ediv_of_nonneg ht0];exact IntWalk.i64_in _ (by omega)
  have hm:t.tmod d=t % d:=Int.tmod_eq_emod_of_nonneg ht0;clear hdv0 hdv1;have s0:W1.cell? ⟨w.heap.size,0,none⟩=some (.int .i64 d)∧W1.cell? ⟨w.heap.size+1,0,none⟩=some (.slice (some ⟨w.heap.size+3,0,none⟩) n n):=⟨K1.cell rfl,K2.cell rfl⟩
  have e1:=IB.at K4 (i:=i) (by rw [HQ.out];exact hin);have f1:=Blk.free K4 i;have e2:=K3.cell (i:=0) (v:=.int .i64 t) rfl;have f2:=K3.free 0;have e3:=(K3.other (p:=⟨w.heap.size+3,i,none⟩) (by dsimp only;omega) (.int .i64 (t / d))).cell (i:=0) (v:=.int .i64 t) rfl
  have s1:(W1.setCell ⟨w.heap.size+3,i,none⟩ (.int .i64 (t / d))).cell? ⟨w.heap.size,0,none⟩=some (.int .i64 d)∧(W1.setCell ⟨w.heap.size+3,i,none⟩ (.int .i64 (t / d))).cell? ⟨w.heap.size+1,0,none⟩=some (.slice (some ⟨w.heap.size+3,0,none⟩) n n):=
   ⟨(K1.other (p:=⟨w.heap.size+3,i,none⟩) (by dsimp only;omega) _).cell rfl,(K2.other (p:=⟨w.heap.size+3,i,none⟩) (by dsimp only;omega) _).cell rfl⟩
  have s2:((W1.setCell ⟨w.heap.size+3,i,none⟩ (.int .i64 (t / d))).setCell ⟨w.heap.size+2,0,none⟩ (.int .i64 (t % d))).cell? ⟨w.heap.size,0,none⟩=some (.int .i64 d)∧((W1.setCell ⟨w.heap.size+3,i,none⟩ (.int .i64 (t / d))).setCell ⟨w.heap.size+2,0,none⟩ (.int .i64 (t % d))).cell? ⟨w.heap.size+1,0,none⟩=some (.slice (some ⟨w.heap.size+3,0,none⟩) n n):=
   ⟨((K1.other (p:=⟨w.heap.size+3,i,none⟩) (by dsimp only;omega) _).other (p:=⟨w.heap.size+2,0,none⟩) (by dsimp only;omega) _).cell rfl,((K2.other (p:=⟨w.heap.size+3,i,none⟩) (by dsimp only;omega) _).other (p:=⟨w.heap.size+2,0,none⟩) (by dsimp only;omega) _).cell rfl⟩
  clear K1 K2 K3 K4 KK KO f3 c3 hor;refine zJp (A:=?A1) ?region1 ?cont1
  case region1=>
   intro hFin;refine zA8 (S:=(fun w'=>w'.cell? ⟨w.heap.size,0,none⟩=some (.int .i64 d)∧w'.cell? ⟨w.heap.size+1,0,none⟩=some (.slice (some ⟨w.heap.size+3,0,none⟩) n n))) (by kernel_rfl) (by kernel_rfl) (by rintro⟨_,_,h⟩;exact h) ?_ (fun hHeld=>?_)
   ·(first | exact s0 | exact s1 | exact s2)
   (try simp only [pur,Nat.reduceAdd])
   iterate 4
    refine tkR [0,1,3,6] (v:=?_) rfl rfl (by kernel_rfl) (fun _ _ _ h=>h) (by rfl) ?_ (by assumption) ?_;rotate_left
    ·(intro w hSw;(try dsimp only at hSw);(try go_simp);(try with_reducible rfl))
    (try simp only [Act.put,pus])
   repeat' first
    | (refine tkR [4,8] (v:=?_) rfl rfl (by decide +kernel) (fun _ _ _ h=>h) (by rfl) ?_ (by assumption) ?_
       rotate_left
       ·(intro w hSw;(try dsimp only at hSw);(try go_simp);(try with_reducible rfl))
       (try simp only [Act.put,pus]))
    | (refine tkR [7] (v:=?_) rfl rfl (by decide +kernel) (fun _ _ _ h=>h) (by rfl) ?_ (by assumption) ?_
       rotate_left
       ·(intro w hSw;(try dsimp only at hSw);(try go_simp);(try with_reducible rfl))
       (try simp only [Act.put,pus]))
    | (refine wpAnyH_done (by decide +kernel) ?_ _
       exact hFin)
    | (refine rdR [2,5,9,10] (by decide +kernel) (zAt ?_ (zAt ?_ (zAt ?_ (zAt ?_ zFw))))
       iterate 4
        first
        | exact noR (by decide +kernel)
        | (refine isR (o:=_) rfl (fun K hK=>?_)
           go_simp
           rotate_left)
       all_goals (
        refine hK.out _ _ ?_ ?_
        ·(first | exact s0 | exact s1 | exact s2)
        clear hK K hHeld;intro hHeld
        (try simp only [Act.put,pus])))
  have M1:=((HK1.out.other (p:=⟨w.heap.size+3,i,none⟩) (by dsimp only;omega) (.int .i64 (t / d))).other (p:=⟨w.heap.size+2,0,none⟩) (by dsimp only;omega) (.int .i64 (t % d))).drew;have M2:=((HK2.out.other (p:=⟨w.heap.size+3,i,none⟩) (by dsimp only;omega) (.int .i64 (t / d))).other (p:=⟨w.heap.size+2,0,none⟩) (by dsimp only;omega) (.int .i64 (t % d))).drew;have M3:=((HK3.out.other (p:=⟨w.heap.size+3,i,none⟩) (by dsimp only;omega) (.int .i64 (t / d))).set 0 (.int .i64 (t % d))).drew;have M4:IB _ (w.heap.size+3) (Q.set i (t / d)):=((IB.put HK4.out i (t / d)).other (p:=⟨w.heap.size+2,0,none⟩) (by dsimp only;omega) (.int .i64 (t % d))).drew;have hbs2:w.heap.size+4≤bs:=hs2
  have KK2:KpB w.heap.size bs W1 ((W1.setCell ⟨w.heap.size+3,i,none⟩ (.int .i64 (t / d))).setCell ⟨w.heap.size+2,0,none⟩ (.int .i64 (t % d))).drew:=
   ⟨(((Below.refl _ W1).setCell (p:=⟨w.heap.size+3,i,none⟩) (by dsimp only;omega) _).setCell (p:=⟨w.heap.size+2,0,none⟩) (by dsimp only;omega) _).drew,fun _ _ h=>((h.other (p:=⟨w.heap.size+3,i,none⟩) (by dsimp only;omega) _).other (p:=⟨w.heap.size+2,0,none⟩) (by dsimp only;omega) _).drew⟩
  have KO2:=((KeepsOthers.setCell W1 ⟨w.heap.size+3,i,none⟩ (.int .i64 (t / d))).trans (KeepsOthers.setCell _ ⟨w.heap.size+2,0,none⟩ (.int .i64 (t % d)))).trans (KeepsOthers.drew _);clear e1 f1 e2 f2 e3 s0 s1 s2;generalize ((W1.setCell ⟨w.heap.size+3,i,none⟩ (.int .i64 (t / d))).setCell ⟨w.heap.size+2,0,none⟩ (.int .i64 (t % d))).drew=w9 at *;gi_wp2_with fail;exact⟨HKO.out.trans KO2,HKK.out.trans KK2,M1,M2,⟨_,_,M3,M4,by rw [HP.out];exact HST.out⟩,HB.out.trans (HKK.out.trans KK2).low⟩
 case done=>
  rintro D ys W hD rfl ⟨hb1,hb2,⟨Q,r,hb3,hb4,hd⟩,hB⟩ hK;rw [zDn,Nat.sub_self] at hd;obtain⟨hT,hr⟩:=hd.done;obtain⟨q1,q2,r1,r2,_⟩:=hd;have hQn:Q.length=n:=by rw [q1,HL.out]
  have hbnd:∀x∈Q,-9223372036854775808≤x∧x≤9223372036854775807:=fun x hx=>by have:=q2 x hx;omega
  have hIQ:=IB.ints hb4 hbnd (by rw [hQn];omega);have HTr:=dH hT;have hT2:=fun W' (k:Ext W W')=>zC5 _ _ _ W' (hIQ.ext k);have hO:=IB.own (base:=w.heap.size) hb4 (by omega) (by rw [hQn];unfold maxLen;omega) (zCB Q);rw [←zB1] at hO;rw [hT] at hT2 hO;rw [hQn] at hT2 hO;have HQn:=dH hQn;generalize hRR:(digs (zA1 l / d).toNat)=R at *;have HRR:=dH hRR;clear hRR;have hT3:=dH hT2;have HO:=dH hO;have H2:=dH hb2;have H3:=dH hb3;have HB:=dH hB;have HK:=dH hK;have HR:=dH hr;have HQ4:Hid (IB W (w.heap.size+3) Q):=dH hb4;clear hT2 hO hb1 hb2 hb3 hb4 hB hK hIQ hbnd hT hr hi3 Y1 Y2 Y3 Y4 Y5 hx4;go_upto_region 7 with fail;have hTD:=dH (hT3.out W.drew (Ext.refl W).drew);have e1:=H2.out.cell (i:=0) rfl;have f1:=H2.out.free 0;have e2:=H3.out.cell (i:=0) rfl;have f2:=H3.out.free 0;have s1:=(H3.out.other (p:=⟨w.heap.size+1,0,none⟩) (by dsimp only;omega) (.slice (some ⟨w.heap.size+3,0,none⟩) R.length n)).cell (i:=0) (v:=.int .i64 r) rfl;have s2:=((H3.out.other (p:=⟨w.heap.size+1,0,none⟩) (by dsimp only;omega) (.slice (some ⟨w.heap.size+3,0,none⟩) R.length n)).set 0 (.int .i64 r)).cell (i:=0) (v:=.int .i64 r) rfl;clear hT3;refine wp_region_noPanic ?_;refine zJp (A:=?A2) ?region2 ?cont2
  case region2=>
   intro hFin;refine wp_region_held_drew (S:=(fun w'=>w'.cell? ⟨w.heap.size+2,0,none⟩=some (.int .i64 r))) (by kernel_rfl) ?_ (fun hHeld=>?_)
   ·(first | exact e2 | exact s1 | exact s2)
   (try simp only [pur,Nat.reduceAdd])
   repeat' first
    | (refine tkR [2] (v:=?_) rfl rfl (by decide +kernel) (fun _ _ _ h=>h) (by rfl) ?_ (by assumption) ?_
       rotate_left
       ·(intro w hSw;(try dsimp only at hSw);(try go_simp);(try with_reducible rfl))
       (try simp only [Act.put,pus]))
    | (refine wpAnyH_done (by decide +kernel) ?_ _
       exact hFin)
    | (refine rdR [0,1,3,4] (by decide +kernel) (zAt ?_ (zAt ?_ (zAt ?_ (zAt ?_ zFw))))
       first
       | exact noR (by decide +kernel)
       | (refine isR (o:=_) rfl (fun K hK=>?_)
          go_simp
          rotate_left)
       first
       | exact noR (by decide +kernel)
       | (refine isR (o:=_) rfl (fun K hK=>?_)
          go_simp;refine hTD.out.mono ?_;rintro e1 w1 ⟨rfl,rfl⟩
          rotate_left)
       iterate 2
        first
        | exact noR (by decide +kernel)
        | (refine isR (o:=_) rfl (fun K hK=>?_)
           go_simp
           rotate_left)
       all_goals (
        refine hK.out _ _ ?_ ?_
        ·(first | exact e2 | exact s1 | exact s2)
        clear hK K hHeld;intro hHeld
        (try simp only [Act.put,pus])))
  refine NoPanic.normal ?_;go_wp2_with fail;have KO1:=((KeepsOthers.setCell W ⟨w.heap.size+1,0,none⟩ (.slice (some ⟨w.heap.size+3,0,none⟩) R.length n)).trans (KeepsOthers.setCell _ ⟨w.heap.size+2,0,none⟩ (.int .i64 r))).trans (KeepsOthers.drew _);have M2:=((H2.out.set 0 (.slice (some ⟨w.heap.size+3,0,none⟩) R.length n)).other (p:=⟨w.heap.size+2,0,none⟩) (by dsimp only;omega) (.int .i64 r)).drew;have M3:=((H3.out.other (p:=⟨w.heap.size+1,0,none⟩) (by dsimp only;omega) (.slice (some ⟨w.heap.size+3,0,none⟩) R.length n)).set 0 (.int .i64 r)).drew;have M4:IB _ (w.heap.size+3) Q:=((HQ4.out.other (p:=⟨w.heap.size+1,0,none⟩) (by dsimp only;omega) (.slice (some ⟨w.heap.size+3,0,none⟩) R.length n)).other (p:=⟨w.heap.size+2,0,none⟩) (by dsimp only;omega) (.int .i64 r)).drew;have hBf:=((HB.out.setCell (p:=⟨w.heap.size+1,0,none⟩) (by dsimp only;omega) (.slice (some ⟨w.heap.size+3,0,none⟩) R.length n)).setCell (p:=⟨w.heap.size+2,0,none⟩) (by dsimp only;omega) (.int .i64 r)).drew;clear e1 f1 e2 f2 s1 s2;generalize ((W.setCell ⟨w.heap.size+1,0,none⟩ (.slice (some ⟨w.heap.size+3,0,none⟩) R.length n)).setCell ⟨w.heap.size+2,0,none⟩ (.int .i64 r)).drew=W3 at *;have hK':=KO1.same D _ HK.out rfl;refine⟨by simp,.inl ⟨_,_,rfl,run_takeDeferred hK',?_⟩⟩;have kt2:=(M2.put hK' rfl (.deferred none)).cell (i:=0) (v:=.slice (some ⟨w.heap.size+3,0,none⟩) R.length n) rfl;have kt3:=(M3.put hK' rfl (.deferred none)).cell (i:=0) (v:=.int .i64 r) rfl;have hO:=IB.own (base:=w.heap.size) (Blk.put M4 hK' rfl (.deferred none)) (by omega) (by rw [HQn.out];unfold maxLen;omega) (zCB Q);rw [←zB1,HTr.out,HQn.out] at hO;refine⟨.tuple #[.slice (some ⟨w.heap.size+3,0,none⟩) R.length n,.int .i64 r],by simp [results,Tryz.f220,go_sem,kt2,kt3],?_⟩;refine⟨_,by rw [←HR.out],by rw [HRR.out];exact hO,?_⟩;exact Below.trans hBf (belowK_b (n₀:=w.heap.size) (w:=w) (Nat.le_refl _) _ D _ _ (by omega) hK' rfl rfl)
 case stop=>exact fun _ _ _ _ _ _ h=>h.elim
theorem zGD (a:Option Addr) (ca:Nat) (l:List Int) (d:Int) (w:World) (h:Ints w a ca l) (hl:Digs l) (hn:l.length≤100000) (hd1:1≤d) (hd2:d≤1073741824):
 Calls Tryz.prog 220 #[.slice a l.length ca,.int .i64 d] w (zJt l d w):=zHA l.length a ca l d w h hl rfl hn hd1 hd2
end Go.Proofs.YtonkhcdmchidjaaGreat
namespace Go.Proofs.YtonkhcdmchidjaaGreat
open Go.RowKit Go
set_option maxRecDepth 100000
set_option linter.all false
theorem zCM (p:Addr) (x e:Int) (older:List PanicEntry) (w:World) (hc:w.cell? p=some (.int .i64 x)) (hz:w.frozen? p=false):
 CallsD Tryz.prog 146 #[.pointer (some p)] (.panicking ({v:=.iface 29 (.int .i64 e),recovered:=false} :: older)) w fun r u' w'=>
  r=.returned (.tuple #[])∧u'=.panicking ({v:=.iface 29 (.int .i64 e),recovered:=true} :: older)∧w'=w.setCell p (.int .i64 e):=by
 have hta:∀ (v:Value) (w:World),(Instr.typeAssert (.iface 29 v) 20 29 true).run Tryz.prog w=.ok (.tuple #[v,.bool true]) w:=fun _ _=>by kernel_rfl
 refine callsD_of_wpS Tryz.func146 rfl fun c₀ cs hu=>?_;apply wpS_seq;apply wpS_region;simp [wpOpsS,go_sem,recoverD,hu,Tryz.ntmps146,Exit.thenS];apply wpS_seq;apply wpS_region;simp [wpOpsS,go_sem,Exit.thenS];refine wpS_cond (t:=true) (by simp [Act.eval,Array.replicate]) ?_;simp only [if_true];apply wpS_seq;apply wpS_region;simp [wpOpsS,go_sem,Exit.thenS,hta];apply wpS_seq;apply wpS_seq;apply wpS_region;simp [wpOpsS,go_sem,Exit.thenS];refine wpS_cond (t:=false) (by simp [Act.eval,Array.replicate]) ?_;simp only [Bool.false_eq_true,if_false];refine wpS_of_wp (wp_skip ?_);simp only [Exit.thenS];apply wpS_region;simp [wpOpsS,go_sem,hc,hz,bodyPostS,results,Tryz.results146]
theorem zAj (p:Addr) (w:World):
 CallsD Tryz.prog 146 #[.pointer (some p)] .returning w fun e u' w'=>e=.returned (.tuple #[])∧u'=.returning∧w'=w:=by
 refine callsD_of_wpS Tryz.func146 rfl fun c₀ cs hu=>?_;apply wpS_seq;apply wpS_region;simp [wpOpsS,go_sem,recoverD,hu,Tryz.ntmps146,Exit.thenS];apply wpS_seq;apply wpS_region;simp [wpOpsS,go_sem,Exit.thenS];refine wpS_cond (t:=false) (by simp [Act.eval,Array.replicate]) ?_;simp only [Bool.false_eq_true,if_false];refine wpS_of_wp (wp_skip ?_);cases c₀
 simp_all [bodyPostS,results,Tryz.results146]
end Go.Proofs.YtonkhcdmchidjaaGreat
namespace Go.Proofs.YtonkhcdmchidjaaGreat
open Go.RowKit Go BigFrame Go.Shelf
set_option maxRecDepth 100000
set_option linter.all false
theorem zKZ (fp:FuncId) (B:Int→Bool) (hen:∀args w,(callFunc fp args).run Tryz.prog w=.ok (.enter fp args) w) (hp:∀x W,Calls Tryz.prog fp #[.int .i64 x] W fun e W'=>e=.returned (.bool (B x))∧W=W')
 (a:Option Addr) (cap:Nat) (l:List Int) (w:World) (h:Ints w a cap l) (hn:l.any B=false):
 Calls Tryz.prog 227 #[.slice a l.length cap,.func (.func fp) #[] #[]] w fun e w'=>e=.returned (.int .i64 (-1))∧w=w':=by
 have hle:=h.le;have hmx:=h.mx;have HN:=dH hn;have HP:=dH hp;have HEN:=dH hen;clear hn hp hen;go_enter Tryz.func227,Tryz.ntmps227;go_wp2_with fail
 go_loop [8] (fun i=>∃k:Nat,k≤l.length∧i=.int .i64 k) (fun i=>l.length - (intOf i).toNat)
 case atStart=>exact⟨0,Nat.zero_le _,rfl⟩
 case round=>
  obtain⟨k,hk,rfl⟩:=hrel;by_cases hkn:k<l.length
  ·obtain⟨b,o,rfl⟩:=h.head hkn;obtain⟨x,hx,hc,_⟩:=Ints.get h hkn;have ho:B x=false:=by
    have:=List.any_eq_false.1 HN.out x (List.mem_of_getElem? hx)
    simpa using this
   have hO:=HP.out x w;rw [ho] at hO;have HO:=dH hO;have g1:(0:Int)≤(k:Int):=by omega
   have g2:(k:Int)< (l.length:Int):=by omega
   clear hx ho hO;have hen:=HEN.out;go_wp2_with fail;refine HO.out.mono ?_;rintro e w' ⟨rfl,rfl⟩;go_wp2_with fail
   go_round
   case rel=>exact⟨k+1,by omega,by go_num⟩
   case measure=>simp [intOf];omega
  ·obtain rfl:k=l.length:=by omega
   go_wp2_with fail;go_ret;exact⟨rfl,rfl⟩
def zND (w:World) (e:Ending) (w':World):Prop:=∃i:Nat,e=.returned (.int .i64 (i:Int))∧w=w'
theorem zL0 (fp:FuncId) (B:Int→Bool) (hen:∀args w,(callFunc fp args).run Tryz.prog w=.ok (.enter fp args) w) (hp:∀x W,Calls Tryz.prog fp #[.int .i64 x] W fun e W'=>e=.returned (.bool (B x))∧W=W')
 (a:Option Addr) (cap:Nat) (l:List Int) (w:World) (h:Ints w a cap l) (hn:l.any B=true):
 Calls Tryz.prog 227 #[.slice a l.length cap,.func (.func fp) #[] #[]] w (zND w):=by
 have hle:=h.le;have hmx:=h.mx;have HN:=dH hn;have HP:=dH hp;have HEN:=dH hen;clear hn hp hen;go_enter Tryz.func227,Tryz.ntmps227;go_wp2_with fail
 go_loop [8] (fun i=>∃k:Nat,k≤l.length∧i=.int .i64 k∧(l.take k).any B=false) (fun i=>l.length - (intOf i).toNat)
 case atStart=>exact⟨0,Nat.zero_le _,rfl,rfl⟩
 case round=>
  obtain⟨k,hk,rfl,hno⟩:=hrel;have HNO:=dH hno;clear hno;by_cases hkn:k<l.length
  ·obtain⟨b,o,rfl⟩:=h.head hkn;obtain⟨x,hx,hc,_⟩:=Ints.get h hkn;have hO:=HP.out x w;have hT:=dH (zB0 hx);have g1:(0:Int)≤(k:Int):=by omega
   have g2:(k:Int)< (l.length:Int):=by omega
   clear hx
   cases ho:B x with
   | false=>
    rw [ho] at hO;have HO:=dH hO;have Ho:=dH ho;clear ho hO;have hen:=HEN.out;go_wp2_with fail;refine HO.out.mono ?_;rintro e w' ⟨rfl,rfl⟩;go_wp2_with fail
    go_round
    case rel=>exact⟨k+1,by omega,by go_num,by rw [hT.out,List.any_append,HNO.out];simp [Ho.out]⟩
    case measure=>simp [intOf];omega
   | true=>
    rw [ho] at hO;have HO:=dH hO;clear ho hO;have hen:=HEN.out;go_wp2_with fail;refine HO.out.mono ?_;rintro e w' ⟨rfl,rfl⟩;go_wp2_with fail;go_ret;exact⟨k,rfl,rfl⟩
  ·obtain rfl:k=l.length:=by omega
   exfalso;have:=HNO.out;rw [List.take_length,HN.out] at this;cases this
theorem zDZ (fp:FuncId) (B:Int→Bool) (hen:∀args w,(callFunc fp args).run Tryz.prog w=.ok (.enter fp args) w) (hp:∀x W,Calls Tryz.prog fp #[.int .i64 x] W fun e W'=>e=.returned (.bool (B x))∧W=W')
 (a:Option Addr) (cap:Nat) (l:List Int) (w:World) (h:Ints w a cap l):
 Calls Tryz.prog 216 #[.slice a l.length cap,.func (.func fp) #[] #[]] w fun e w'=>e=.returned (.bool (l.any B))∧w=w':=by
 have hle:=h.le;have hmx:=h.mx
 cases hn:l.any B with
 | false=>
  have HI:=dH (zKZ fp B hen hp a cap l w h hn);clear hn hen hp;go_enter Tryz.func216,Tryz.ntmps216
  go_wp2_with (go_at_call 227;refine HI.out.mono ?_;rintro e w' ⟨rfl,rfl⟩)
  go_ret;exact⟨rfl,rfl⟩
 | true=>
  have HI:=dH (zL0 fp B hen hp a cap l w h hn);clear hn hen hp;go_enter Tryz.func216,Tryz.ntmps216
  go_wp2_with (go_at_call 227;refine HI.out.mono ?_;rintro e w' ⟨i,rfl,rfl⟩)
  go_ret;exact⟨rfl,rfl⟩
def zL1 (d:Int):Bool:=decide (d<0) || decide (1073741823<d)
theorem zJu (d:Int) (w:World):Calls Tryz.prog 215 #[.int .i64 d] w fun e w'=>e=.returned (.bool (zL1 d))∧w=w':=by
 unfold zL1;by_cases h1:d<0
 ·have d1:decide (d<0)=true:=by simpa using h1
  go_enter Tryz.func215,Tryz.ntmps215;go_wp2_with fail;go_ret;exact⟨zBM (by first | rfl | (rw [d1];rfl)),rfl⟩
 ·have d1:decide (d<0)=false:=by simpa using h1
  go_enter Tryz.func215,Tryz.ntmps215;go_wp2_with fail;go_ret;exact⟨zBM (by first | rfl | (rw [d1];rfl)),rfl⟩
def zBI (neg:Bool) (l:List Int):Bool:=decide (l.length≤2048) && !(neg && decide (l.length=0)) && !(decide (0<l.length) && l.getD (l.length - 1) 0 == 0) && !(l.any zL1)
def zFR (b:Bool):Int:=if b then 0 else 90
theorem zHB {neg:Bool} {l:List Int}:zBI neg l=true↔l.length≤2048∧(neg=true→l≠[])∧Norm l:=by
 have hd:Digs l↔l.any zL1=false:=by
  rw [List.any_eq_false];refine forall_congr' fun x=>forall_congr' fun _=>?_;unfold zL1;simp;omega
 rw [zEl,hd];unfold zBI;simp only [Bool.and_eq_true,decide_eq_true_eq,Bool.not_eq_true',Bool.and_eq_false_iff,decide_eq_false_iff_not,beq_eq_false_iff_ne,ne_eq]
 constructor
 ·rintro⟨⟨⟨h1,h2⟩,h3⟩,h4⟩;refine⟨h1,fun hn e=>?_,h4,fun hne=>?_⟩
  ·rcases h2 with h2 | h2
   ·rw [hn] at h2;cases h2
   ·exact h2 (by rw [e];rfl)
  ·have hp:0<l.length:=List.length_pos_iff.2 hne;rcases h3 with h3 | h3
   ·exact absurd hp h3
   ·rw [List.getLast_eq_getElem];intro e;exact h3 (by simp only [List.getD,List.getElem?_eq_getElem (show l.length - 1<l.length by omega),Option.getD_some];exact e)
 ·rintro⟨h1,h2,h4,h3⟩;refine⟨⟨⟨h1,?_⟩,?_⟩,h4⟩
  ·by_cases hn:neg=true
   ·exact .inr (fun e=>h2 hn (List.length_eq_zero_iff.1 e))
   ·exact .inl (by simpa using hn)
  ·by_cases hp:0<l.length
   ·refine .inr (fun e=>h3 (List.length_pos_iff.1 hp) ?_);rw [List.getLast_eq_getElem];simp only [List.getD,List.getElem?_eq_getElem (show l.length - 1<l.length by omega),Option.getD_some] at e;exact e
   ·exact .inl hp
theorem zFd (neg:Bool) (a:Option Addr) (cap:Nat) (l:List Int) (w:World) (h:Ints w a cap l) (hl:2048<l.length):
 Calls Tryz.prog 191 #[.agg #[.bool neg,.slice a l.length cap]] w fun e w'=>e=.returned (.int .i64 (zFR (zBI neg l)))∧Ext w w':=by
 have hle:=h.le;have hmx:=h.mx;have hx:=Ext.alloc w (.cells #[.bool neg,.slice a l.length cap] 36);have B1:=dH (Blk.new0 w #[.bool neg,.slice a l.length cap] 36);have c1:=B1.out.cell (i:=0) (v:=.bool neg) rfl;have c2:=B1.out.cell (i:=1) (v:=.slice a l.length cap) rfl;have e1:decide (2048< (l.length:Int))=true:=by simp only [decide_eq_true_eq];omega
 have HE:=dH (show zFR (zBI neg l)=90 by unfold zBI;rw [decide_eq_false (show ¬l.length≤2048 by omega)];rfl);go_enter Tryz.func191,Tryz.ntmps191;go_upto_region 1 with fail;generalize w.alloc (.cells #[.bool neg,.slice a l.length cap] 36)=w1 at *;go_wp2_with fail;go_ret;exact⟨by rw [HE.out];rfl,hx⟩
theorem zFS (neg:Bool) (a:Option Addr) (cap:Nat) (w:World) (h:Ints w a cap []):
 Calls Tryz.prog 191 #[.agg #[.bool neg,.slice a 0 cap]] w fun e w'=>e=.returned (.int .i64 (zFR (zBI neg [])))∧Ext w w':=by
 have hmx:=h.mx;have hx:=Ext.alloc w (.cells #[.bool neg,.slice a 0 cap] 36);have B1:=dH (Blk.new0 w #[.bool neg,.slice a 0 cap] 36);have c1:=B1.out.cell (i:=0) (v:=.bool neg) rfl;have c2:=B1.out.cell (i:=1) (v:=.slice a 0 cap) rfl;have HC:=dH (zDZ 215 zL1 (enters_of Tryz.func215 (by kernel_rfl) rfl) zJu a cap [] _ (h.ext hx))
 cases neg with
 | true=>
  go_enter Tryz.func191,Tryz.ntmps191;go_upto_region 1 with fail;generalize w.alloc (.cells #[.bool true,.slice a 0 cap] 36)=w1 at *;go_wp2_with fail;go_ret;exact⟨rfl,hx⟩
 | false=>
  go_enter Tryz.func191,Tryz.ntmps191;go_upto_region 1 with fail;generalize w.alloc (.cells #[.bool false,.slice a 0 cap] 36)=w1 at *;go_wp2_with fail;refine HC.out.mono ?_;rintro e w' ⟨rfl,rfl⟩;go_wp2_with fail;go_ret;exact⟨rfl,hx⟩
theorem zFT (neg:Bool) (a:Option Addr) (cap:Nat) (l:List Int) (w:World) (h:Ints w a cap l) (hl:l.length≤2048) (hp:0<l.length):
 Calls Tryz.prog 191 #[.agg #[.bool neg,.slice a l.length cap]] w fun e w'=>e=.returned (.int .i64 (zFR (zBI neg l)))∧Ext w w':=by
 have hle:=h.le;have hmx:=h.mx;have hx:=Ext.alloc w (.cells #[.bool neg,.slice a l.length cap] 36);have B1:=dH (Blk.new0 w #[.bool neg,.slice a l.length cap] 36);have c1:=B1.out.cell (i:=0) (v:=.bool neg) rfl;have c2:=B1.out.cell (i:=1) (v:=.slice a l.length cap) rfl;have hI:=h.ext hx;have hC:=zDZ 215 zL1 (enters_of Tryz.func215 (by kernel_rfl) rfl) zJu a cap l _ hI;have e1:decide (2048< (l.length:Int))=false:=by simp only [decide_eq_false_iff_not];omega
 have e2:((l.length:Int) == 0)=false:=by simp only [beq_eq_false_iff_ne];omega
 have e3:decide (0< (l.length:Int))=true:=by simp only [decide_eq_true_eq];omega
 have e3':decide (0<l.length)=true:=by simpa using hp
 have hE:zBI neg l= (decide (l.length≤2048) && !(neg && decide (l.length=0)) && !(decide (0<l.length) && l.getD (l.length - 1) 0 == 0) && !(l.any zL1)):=rfl;rw [decide_eq_true hl,decide_eq_false (show ¬l.length=0 by omega),decide_eq_true hp,Bool.and_false,Bool.not_false,Bool.true_and,Bool.true_and,Bool.true_and] at hE;obtain⟨j,hj⟩:∃j,l.length=j+1:=⟨l.length - 1,by omega⟩
 obtain⟨b,o,rfl⟩:=hI.head (i:=j) (by omega);obtain⟨x,hx1,hc,_⟩:=Ints.get hI (i:=j) (by omega);rw [show l.length - 1=j by omega,zCY hx1] at hE;have e4:(l.length:Int) - 1= (j:Int):=by omega
 have g1:(0:Int)≤(j:Int):=by omega
 have g2:(j:Int)< (l.length:Int):=by omega
 generalize hEE:zBI neg l=E at *;generalize l.any zL1=O at *;have HC:=dH hC;have HX:=dH hx;clear hC hI hx1 h hEE hx hj;by_cases h0:x=0
 ·subst h0;have HE:=dH (show zFR E=90 by rw [hE];rfl);clear hE HC;go_enter Tryz.func191,Tryz.ntmps191;go_upto_region 1 with fail;generalize w.alloc (.cells #[.bool neg,.slice (some ⟨b,o,none⟩) l.length cap] 36)=w1 at *;go_wp2_with fail;go_ret;exact⟨by rw [HE.out];rfl,HX.out⟩
 ·have t0:(x == 0)=false:=by simpa using h0
  rw [t0,Bool.not_false,Bool.true_and] at hE
  cases O with
  | true=>
   have HE:=dH (show zFR E=90 by rw [hE];rfl);clear hE h0;go_enter Tryz.func191,Tryz.ntmps191;go_upto_region 1 with fail;generalize w.alloc (.cells #[.bool neg,.slice (some ⟨b,o,none⟩) l.length cap] 36)=w1 at *;go_wp2_with fail;refine HC.out.mono ?_;rintro e w' ⟨rfl,rfl⟩;go_wp2_with fail;go_ret;exact⟨by rw [HE.out];rfl,HX.out⟩
  | false=>
   have HE:=dH (show zFR E=0 by rw [hE];rfl);clear hE h0;go_enter Tryz.func191,Tryz.ntmps191;go_upto_region 1 with fail;generalize w.alloc (.cells #[.bool neg,.slice (some ⟨b,o,none⟩) l.length cap] 36)=w1 at *;go_wp2_with fail;refine HC.out.mono ?_;rintro e w' ⟨rfl,rfl⟩;go_wp2_with fail;go_ret;exact⟨by rw [HE.out];rfl,HX.out⟩
theorem zAw (neg:Bool) (a:Option Addr) (cap:Nat) (l:List Int) (w:World) (h:Ints w a cap l):
 Calls Tryz.prog 191 #[.agg #[.bool neg,.slice a l.length cap]] w fun e w'=>e=.returned (.int .i64 (zFR (zBI neg l)))∧Ext w w':=by
 rcases Nat.lt_or_ge 2048 l.length with h1 | h1
 ·exact zFd neg a cap l w h h1
 ·rcases Nat.eq_zero_or_pos l.length with h2 | h2
  ·obtain rfl:=List.length_eq_zero_iff.1 h2;exact zFS neg a cap w h
  ·exact zFT neg a cap l w h h1 h2
abbrev zBN (E:Int):Ending:=.panicked [{v:=.iface 29 (.int .i64 E),recovered:=false}]
theorem zAN (g:Nat) (n1 n2:Bool) (a b:Option Addr) (ca cb:Nat) (l m:List Int) (w:World) (h:Ints w a ca l) (k:Ints w b cb m)
 (hg:Blk w g #[.bool n1,.slice a l.length ca,.bool n2,.slice b m.length cb] 36) (h1:zBI n1 l=true) (h2:zBI n2 m=true):
 Calls Tryz.prog 147 #[.slice (some ⟨g,0,none⟩) 2 2] w fun e w'=>e=.returned (.tuple #[])∧Ext w w':=by
 have HG:=dH hg;have H1:=dH (fun W (hx:Ext w W)=>zAw n1 a ca l W (h.ext hx));have H2:=dH (fun W (hx:Ext w W)=>zAw n2 b cb m W (k.ext hx));have hE:zFR true=0:=rfl;rw [h1,hE] at H1;rw [h2,hE] at H2;clear hg h k h1 h2 hE;go_enter Tryz.func147,Tryz.ntmps147;go_wp2_with fail
 go_loopw [7] (fun i wr=>∃k:Nat,k≤2∧i=.int .i64 k∧Ext w wr) (fun i _=>2 - (intOf i).toNat)
 case atStart=>exact⟨0,by omega,rfl,Ext.refl _⟩
 case round=>
  obtain⟨k,hk,rfl,hxr⟩:=hrel;have hB:=HG.out.ext hxr;have c0:=hB.cell (i:=0) rfl;have c1:=hB.cell (i:=1) rfl;have c2:=hB.cell (i:=2) rfl;have c3:=hB.cell (i:=3) rfl;have hxx:∀x y,Ext w (wr.alloc (.cells #[x,y] 36)):=fun x y=>hxr.alloc' _;rcases(show k=0∨k=1∨k=2 by omega) with rfl | rfl | rfl
  ·have HC:=dH (H1.out _ (hxx (.bool n1) (.slice a l.length ca)));clear hB;go_wp2_with fail;refine HC.out.mono ?_;rintro e w3 ⟨rfl,hy⟩;go_wp2_with fail;go_roundw
   case rel=>exact⟨1,by omega,by go_num,(hxx _ _).trans hy⟩
   case measure=>simp [intOf]
  ·have HC:=dH (H2.out _ (hxx (.bool n2) (.slice b m.length cb)));clear hB;go_wp2_with fail;refine HC.out.mono ?_;rintro e w3 ⟨rfl,hy⟩;go_wp2_with fail;go_roundw
   case rel=>exact⟨2,by omega,by go_num,(hxx _ _).trans hy⟩
   case measure=>simp [intOf]
  ·go_wp2_with fail
   go_end0
   exact⟨rfl,hxr⟩
def BigE (neg:Bool) (a:Option Addr) (cap:Nat) (L:List Int) (w:World) (e:Ending) (w':World):Prop:=
 (L.length≤2048∧e=.returned (.agg #[.bool (neg && decide (0<L.length)),.slice a L.length cap])∧Ext w w')∨(2048<L.length∧e=zBN 2∧Ext w w')
theorem zFU (neg:Bool) (a:Option Addr) (cap:Nat) (l:List Int) (w:World) (h:Ints w a cap l):
 Calls Tryz.prog 195 #[.bool neg,.slice a l.length cap] w (BigE neg a cap (zAB l) w):=by
 have hmx:=h.mx;have hle:=h.le;have htl:=zCB l;have hx:=Ext.alloc w (.cells #[.bool false,.slice none 0 0] 36);have B1:=dH (Blk.new0 w #[.bool false,.slice none 0 0] 36);have hT:=zC5 a cap l _ (h.ext hx);generalize zAB l=L at *;have HT:=dH hT;clear hT h;have hx2:=fun v u=>(hx.set (p:=⟨w.heap.size,0,none⟩) (Nat.le_refl _) v).set (p:=⟨w.heap.size,1,none⟩) (Nat.le_refl _) u;by_cases hl:2048<L.length
 ·have e1:decide (2048< (L.length:Int))=true:=by simp only [decide_eq_true_eq];omega
  go_enter Tryz.func195,Tryz.ntmps195;go_upto_region 1 with fail;generalize w.alloc (.cells #[.bool false,.slice none 0 0] 36)=w1 at *;go_wp2_with fail;refine HT.out.mono ?_;rintro e w2 ⟨rfl,rfl⟩;go_wp2_with fail;exact⟨rfl,.inr ⟨hl,rfl,hx⟩⟩
 ·have e1:decide (2048< (L.length:Int))=false:=by simp only [decide_eq_false_iff_not];omega
  have c0:=B1.out.cell (i:=0) (v:=.bool false) rfl;have c1:=B1.out.cell (i:=1) (v:=.slice none 0 0) rfl;have f0:=B1.out.free 0;have f1:=B1.out.free 1;have HX:=dH hx2;have hl2:L.length≤2048:=by omega
  clear hx2
  cases neg with
  | true=>
   go_enter Tryz.func195,Tryz.ntmps195;go_upto_region 1 with fail;generalize w.alloc (.cells #[.bool false,.slice none 0 0] 36)=w1 at *;go_wp2_with fail;refine HT.out.mono ?_;rintro e w2 ⟨rfl,rfl⟩;go_wp2_with fail;have k2:=(B1.out.set 0 (.bool (decide (0<L.length)))).set 1 (.slice a L.length cap);have e0:=k2.cell (i:=0) (v:=.bool (decide (0<L.length))) rfl;have e1:=k2.cell (i:=1) (v:=.slice a L.length cap) rfl;refine bodyPost_ret (v:=.agg #[.bool (decide (0<L.length)),.slice a L.length cap]) (by simp [results,Tryz.results195,go_sem,e0,e1]) rfl ?_;exact .inl ⟨hl2,rfl,HX.out _ _⟩
  | false=>
   go_enter Tryz.func195,Tryz.ntmps195;go_upto_region 1 with fail;generalize w.alloc (.cells #[.bool false,.slice none 0 0] 36)=w1 at *;go_wp2_with fail;refine HT.out.mono ?_;rintro e w2 ⟨rfl,rfl⟩;go_wp2_with fail;have k2:=(B1.out.set 0 (.bool false)).set 1 (.slice a L.length cap);have e0:=k2.cell (i:=0) (v:=.bool false) rfl;have e1:=k2.cell (i:=1) (v:=.slice a L.length cap) rfl;refine bodyPost_ret (v:=.agg #[.bool false,.slice a L.length cap]) (by simp [results,Tryz.results195,go_sem,e0,e1]) rfl ?_;exact .inl ⟨hl2,rfl,HX.out _ _⟩
def sgn (neg:Bool) (z:Int):Int:=if neg then -z else z
theorem Big.sgn {neg:Bool} {l:List Int} {z:Int} (h:Big neg l z):z=sgn neg (zA1 l):=h.2.2
theorem zDo (neg:Bool) (N:Nat):Big (neg && decide (0< (digs N).length)) (digs N) (sgn neg N):=by
 refine⟨zA4 N,fun h e=>?_,?_⟩
 ·rw [e] at h;simp at h
 ·rw [zAF];unfold sgn
  cases neg with
  | false=>rfl
  | true=>
   by_cases h:0<N
   ·have:0< (digs N).length:=by rw [zBf h];simp
    simp [this]
   ·obtain rfl:N=0:=by omega
    rw [zAO];rfl
def BigO (z:Int) (w:World) (e:Ending) (w':World):Prop:=
 ((digs z.natAbs).length≤2048∧BigP z w e w')∨(2048< (digs z.natAbs).length∧e=zBN 2∧Ext w w')
theorem zHC (neg:Bool) (N:Nat):(sgn neg N).natAbs=N:=by unfold sgn;split <;> omega
theorem Ints.putO {w:World} {a:Option Addr} {cap:Nat} {l:List Int} (h:Ints w a cap l) {p:Addr} (hp:∀A,a=some A→A.block≠p.block) (v:Value):Ints (w.setCell p v) a cap l:=by
 refine⟨h.le,h.mx,h.nil,fun A hA i hi=>?_⟩;obtain⟨h1,u,hu,hr⟩:=h.cells A hA i hi;refine⟨h1,u,?_,hr⟩;rw [←hu];simp only [World.cell?,Below.heap_setCell _ _ _ _ (hp A hA)]
theorem OwnI.form0 {w:World} {B:Nat} {v:Value} {L:List Int} (h:OwnI w B v L) (hd:Digs L):∃a cap,v=.slice a L.length cap∧Ints w a cap L∧(∀A,a=some A→B≤A.block):=by
 obtain⟨g,cap,rfl,h1,_⟩:=h.form;exact⟨_,cap,rfl,(h.ints (fun x hx=>by have:=hd x hx;omega)).2,fun A hA=>by cases hA;exact h1⟩
theorem zDM {w w1 w2:World} {a:Option Addr} {cap N:Nat} {neg:Bool} (B1:Blk w1 w.heap.size #[.bool false,.slice none 0 0] 36) (hi:Ints w2 a cap (digs N)) (hB:∀A,a=some A→w1.heap.size≤A.block):
 BigN ((w2.setCell ⟨w.heap.size,0,none⟩ (.bool (neg && decide (0< (digs N).length)))).setCell ⟨w.heap.size,1,none⟩ (.slice a (digs N).length cap)) (.agg #[.bool (neg && decide (0< (digs N).length)),.slice a (digs N).length cap]) (sgn neg N) w.heap.size:=by
 have hlt:=B1.lt;refine⟨_,a,cap,digs N,rfl,?_,zDo neg N,fun A hA=>by have:=hB A hA;omega⟩;exact(hi.putO (p:=⟨w.heap.size,0,none⟩) (fun A hA=>by have:=hB A hA;dsimp only;omega) _).putO (p:=⟨w.heap.size,1,none⟩) (fun A hA=>by have:=hB A hA;dsimp only;omega) _
theorem zEt (neg:Bool) (a b:Option Addr) (ca cb:Nat) (l m:List Int) (w:World) (h:Ints w a ca l) (k:Ints w b cb m) (hl:Norm l) (hm:Norm m) (h1:l.length≤2048) (h2:m.length≤2048):
 Calls Tryz.prog 199 #[.bool neg,.slice a l.length ca,.bool neg,.slice b m.length cb] w (BigO (sgn neg (zA1 l)+sgn neg (zA1 m)) w):=by
 have hx:=Ext.alloc w (.cells #[.bool false,.slice none 0 0] 36);have B1:=dH (Blk.new0 w #[.bool false,.slice none 0 0] 36);have HA:=dH (zJr a b ca cb l m _ (h.ext hx) (k.ext hx) hl.digs hm.digs (by omega) (by omega));obtain⟨N,hN⟩:∃N,(zA1 l+zA1 m).toNat=N:=⟨_,rfl⟩
 have hz:sgn neg (zA1 l)+sgn neg (zA1 m)=sgn neg N:=by
  have a1:=zA2 hl.digs;have a2:=zA2 hm.digs;unfold sgn;split <;> omega
 rw [hN] at HA;rw [hz];have hX:=fun w2 (hy:Ext _ w2) v u=>((hx.trans hy).set (p:=⟨w.heap.size,0,none⟩) (Nat.le_refl _) v).set (p:=⟨w.heap.size,1,none⟩) (Nat.le_refl _) u;have HX:=dH hX;have hab:=zHC neg N;have HAB:=dH hab;clear h k hl hm h1 h2 hN hz hX hab;go_enter Tryz.func199,Tryz.ntmps199;go_upto_region 1 with fail;generalize w.alloc (.cells #[.bool false,.slice none 0 0] 36)=w1 at *;go_wp2_with fail;refine HA.out.mono ?_;rintro e w2 ⟨v,rfl,hO,hy⟩;obtain⟨a3,c3,rfl,hi3,hb3⟩:=hO.form0 (zA4 N).digs;have hG:=zFU neg a3 c3 (digs N) w2 hi3;rw [zAE (zA4 N)] at hG;have HG:=dH hG;have HI:=dH hi3;have HB:=dH hb3;have HY:=dH hy;clear hG hO hi3 hb3 HA hy;go_wp2_with fail;refine HG.out.mono ?_;rintro e w3 (⟨hlen,rfl,hy3⟩ | ⟨hlen,rfl,hy3⟩)
 ·have B3:=B1.out.ext (HY.out.trans hy3);have c0:=B3.cell (i:=0) (v:=.bool false) rfl;have c1:=B3.cell (i:=1) (v:=.slice none 0 0) rfl;have f0:=B3.free 0;have f1:=B3.free 1;have HB3:=dH B3;have HY3:=dH (HY.out.trans hy3);have HI3:=dH (HI.out.ext hy3);have HL:=dH hlen;clear B3 hy3 hlen HG;obtain⟨t,ht⟩:∃t,(neg && decide (0< (digs N).length))=t:=⟨_,rfl⟩
  have hend:=zDM (neg:=neg) B1.out HI3.out HB.out;rw [ht] at hend ⊢;have HEND:=dH hend;clear hend ht;go_wp2_with fail;have k2:=(HB3.out.set 0 (.bool t)).set 1 (.slice a3 (digs N).length c3);have e0:=k2.cell (i:=0) (v:=.bool t) rfl;have e1:=k2.cell (i:=1) (v:=.slice a3 (digs N).length c3) rfl;refine bodyPost_ret (v:=.agg #[.bool t,.slice a3 (digs N).length c3]) (by simp [results,Tryz.results199,go_sem,e0,e1]) rfl ?_;exact .inl ⟨by rw [HAB.out];exact HL.out,_,rfl,HEND.out,HX.out _ HY3.out _ _⟩
 ·go_wp2_with fail;exact⟨rfl,.inr ⟨by rw [HAB.out];exact hlen,rfl,hx.trans (HY.out.trans hy3)⟩⟩
theorem zFV (n1 n2:Bool) (hne:(n1 == n2)=false) (a b:Option Addr) (ca cb:Nat) (l m:List Int) (w:World) (h:Ints w a ca l) (k:Ints w b cb m) (hl:Norm l) (hm:Norm m) (h1:l.length≤2048) (_:m.length≤2048) (hc:zA1 m≤zA1 l):
 Calls Tryz.prog 199 #[.bool n1,.slice a l.length ca,.bool n2,.slice b m.length cb] w (BigO (sgn n1 (zA1 l)+sgn n2 (zA1 m)) w):=by
 have hx:=Ext.alloc w (.cells #[.bool false,.slice none 0 0] 36);have B0:=Blk.new0 w #[.bool false,.slice none 0 0] 36;have hC:=zAY a b ca cb l m _ (h.ext hx) (k.ext hx) hl hm;have hA:=fun W (hy:Ext _ W)=>zHy a b ca cb l m W (h.ext (hx.trans hy)) (k.ext (hx.trans hy)) hl.digs hm (by omega) hc;obtain⟨N,hN⟩:∃N,(zA1 l - zA1 m).toNat=N:=⟨_,rfl⟩
 have hz:sgn n1 (zA1 l)+sgn n2 (zA1 m)=sgn n1 N:=by
  unfold sgn;cases n1 <;> cases n2 <;> simp at hne ⊢ <;> omega
 rw [hN] at hA;rw [hz];have hge:zBS (zA1 l) (zA1 m)= -1∨zBS (zA1 l) (zA1 m)=0∨zBS (zA1 l) (zA1 m)=1:=by unfold zBS;split <;> (try split) <;> omega
 have hge2:decide (0≤zBS (zA1 l) (zA1 m))=true:=by
  rw [decide_eq_true_eq];unfold zBS;split <;> (try split) <;> omega
 generalize zBS (zA1 l) (zA1 m)=c at *;have HCC:=dH hC;have HAA:=dH hA;have hX:=fun w2 (hy:Ext _ w2) v u=>((hx.trans hy).set (p:=⟨w.heap.size,0,none⟩) (Nat.le_refl _) v).set (p:=⟨w.heap.size,1,none⟩) (Nat.le_refl _) u;have HX:=dH hX;have hab:=zHC n1 N;have HAB:=dH hab;have B1:=dH B0;clear h k hl hm h1 hN hz hX hab hc hC hA B0;go_enter Tryz.func199,Tryz.ntmps199;go_upto_region 1 with fail;generalize w.alloc (.cells #[.bool false,.slice none 0 0] 36)=w1 at *;go_wp2_with fail;refine HCC.out.mono ?_;rintro e wc ⟨rfl,hyc⟩;have HA:=dH (HAA.out wc hyc);have hxc:=hx.trans hyc;have BC:=dH (B1.out.ext hyc);have HXC:=dH (fun w2 (hy:Ext wc w2) v u=>HX.out w2 (hyc.trans hy) v u);clear HAA HCC B1 HX hx hyc;go_wp2_with fail;refine HA.out.mono ?_;rintro e w2 ⟨v,rfl,hO,hy⟩;obtain⟨a3,c3,rfl,hi3,hb3⟩:=hO.form0 (zA4 N).digs;have hG:=zFU n1 a3 c3 (digs N) w2 hi3;rw [zAE (zA4 N)] at hG;have HG:=dH hG;have HI:=dH hi3;have HB:=dH hb3;have HY:=dH hy;clear hG hO hi3 hb3 HA hy;go_wp2_with fail;refine HG.out.mono ?_;rintro e w3 (⟨hlen,rfl,hy3⟩ | ⟨hlen,rfl,hy3⟩)
 ·have B3:=BC.out.ext (HY.out.trans hy3);have c0:=B3.cell (i:=0) (v:=.bool false) rfl;have c1:=B3.cell (i:=1) (v:=.slice none 0 0) rfl;have f0:=B3.free 0;have f1:=B3.free 1;have HB3:=dH B3;have HY3:=dH (HY.out.trans hy3);have HI3:=dH (HI.out.ext hy3);have HL:=dH hlen;clear B3 hy3 hlen HG;obtain⟨t,ht⟩:∃t,(n1 && decide (0< (digs N).length))=t:=⟨_,rfl⟩
  have hend:=zDM (neg:=n1) BC.out HI3.out HB.out;rw [ht] at hend ⊢;have HEND:=dH hend;clear hend ht;go_wp2_with fail;have k2:=(HB3.out.set 0 (.bool t)).set 1 (.slice a3 (digs N).length c3);have e0:=k2.cell (i:=0) (v:=.bool t) rfl;have e1:=k2.cell (i:=1) (v:=.slice a3 (digs N).length c3) rfl;refine bodyPost_ret (v:=.agg #[.bool t,.slice a3 (digs N).length c3]) (by simp [results,Tryz.results199,go_sem,e0,e1]) rfl ?_;exact .inl ⟨by rw [HAB.out];exact HL.out,_,rfl,HEND.out,HXC.out _ HY3.out _ _⟩
 ·go_wp2_with fail;exact⟨rfl,.inr ⟨by rw [HAB.out];exact hlen,rfl,hxc.trans (HY.out.trans hy3)⟩⟩
theorem zFW (n1 n2:Bool) (hne:(n1 == n2)=false) (a b:Option Addr) (ca cb:Nat) (l m:List Int) (w:World) (h:Ints w a ca l) (k:Ints w b cb m) (hl:Norm l) (hm:Norm m) (_:l.length≤2048) (h2:m.length≤2048) (hc:zA1 l<zA1 m):
 Calls Tryz.prog 199 #[.bool n1,.slice a l.length ca,.bool n2,.slice b m.length cb] w (BigO (sgn n1 (zA1 l)+sgn n2 (zA1 m)) w):=by
 have hx:=Ext.alloc w (.cells #[.bool false,.slice none 0 0] 36);have B0:=Blk.new0 w #[.bool false,.slice none 0 0] 36;have hC:=zAY a b ca cb l m _ (h.ext hx) (k.ext hx) hl hm;have hA:=fun W (hy:Ext _ W)=>zHy b a cb ca m l W (k.ext (hx.trans hy)) (h.ext (hx.trans hy)) hm.digs hl (by omega) (by omega);obtain⟨N,hN⟩:∃N,(zA1 m - zA1 l).toNat=N:=⟨_,rfl⟩
 have hz:sgn n1 (zA1 l)+sgn n2 (zA1 m)=sgn n2 N:=by
  unfold sgn;cases n1 <;> cases n2 <;> simp at hne ⊢ <;> omega
 rw [hN] at hA;rw [hz];have hge:zBS (zA1 l) (zA1 m)= -1∨zBS (zA1 l) (zA1 m)=0∨zBS (zA1 l) (zA1 m)=1:=by unfold zBS;split <;> (try split) <;> omega
 have hge2:decide (0≤zBS (zA1 l) (zA1 m))=false:=by
  rw [decide_eq_false_iff_not,zDK hc];omega
 generalize zBS (zA1 l) (zA1 m)=c at *;have HCC:=dH hC;have HAA:=dH hA;have hX:=fun w2 (hy:Ext _ w2) v u=>((hx.trans hy).set (p:=⟨w.heap.size,0,none⟩) (Nat.le_refl _) v).set (p:=⟨w.heap.size,1,none⟩) (Nat.le_refl _) u;have HX:=dH hX;have hab:=zHC n2 N;have HAB:=dH hab;have B1:=dH B0;clear h k hl hm h2 hN hz hX hab hc hC hA B0;go_enter Tryz.func199,Tryz.ntmps199;go_upto_region 1 with fail;generalize w.alloc (.cells #[.bool false,.slice none 0 0] 36)=w1 at *;go_wp2_with fail;refine HCC.out.mono ?_;rintro e wc ⟨rfl,hyc⟩;have HA:=dH (HAA.out wc hyc);have hxc:=hx.trans hyc;have BC:=dH (B1.out.ext hyc);have HXC:=dH (fun w2 (hy:Ext wc w2) v u=>HX.out w2 (hyc.trans hy) v u);clear HAA HCC B1 HX hx hyc;go_wp2_with fail;refine HA.out.mono ?_;rintro e w2 ⟨v,rfl,hO,hy⟩;obtain⟨a3,c3,rfl,hi3,hb3⟩:=hO.form0 (zA4 N).digs;have hG:=zFU n2 a3 c3 (digs N) w2 hi3;rw [zAE (zA4 N)] at hG;have HG:=dH hG;have HI:=dH hi3;have HB:=dH hb3;have HY:=dH hy;clear hG hO hi3 hb3 HA hy;go_wp2_with fail;refine HG.out.mono ?_;rintro e w3 (⟨hlen,rfl,hy3⟩ | ⟨hlen,rfl,hy3⟩)
 ·have B3:=BC.out.ext (HY.out.trans hy3);have c0:=B3.cell (i:=0) (v:=.bool false) rfl;have c1:=B3.cell (i:=1) (v:=.slice none 0 0) rfl;have f0:=B3.free 0;have f1:=B3.free 1;have HB3:=dH B3;have HY3:=dH (HY.out.trans hy3);have HI3:=dH (HI.out.ext hy3);have HL:=dH hlen;clear B3 hy3 hlen HG;obtain⟨t,ht⟩:∃t,(n2 && decide (0< (digs N).length))=t:=⟨_,rfl⟩
  have hend:=zDM (neg:=n2) BC.out HI3.out HB.out;rw [ht] at hend ⊢;have HEND:=dH hend;clear hend ht;go_wp2_with fail;have k2:=(HB3.out.set 0 (.bool t)).set 1 (.slice a3 (digs N).length c3);have e0:=k2.cell (i:=0) (v:=.bool t) rfl;have e1:=k2.cell (i:=1) (v:=.slice a3 (digs N).length c3) rfl;refine bodyPost_ret (v:=.agg #[.bool t,.slice a3 (digs N).length c3]) (by simp [results,Tryz.results199,go_sem,e0,e1]) rfl ?_;exact .inl ⟨by rw [HAB.out];exact HL.out,_,rfl,HEND.out,HXC.out _ HY3.out _ _⟩
 ·go_wp2_with fail;exact⟨rfl,.inr ⟨by rw [HAB.out];exact hlen,rfl,hxc.trans (HY.out.trans hy3)⟩⟩
theorem zIP (n1 n2:Bool) (a b:Option Addr) (ca cb:Nat) (l m:List Int) (w:World) (h:Ints w a ca l) (k:Ints w b cb m) (hl:Norm l) (hm:Norm m) (h1:l.length≤2048) (h2:m.length≤2048):
 Calls Tryz.prog 199 #[.bool n1,.slice a l.length ca,.bool n2,.slice b m.length cb] w (BigO (sgn n1 (zA1 l)+sgn n2 (zA1 m)) w):=by
 by_cases hne:n1=n2
 ·subst hne;exact zEt n1 a b ca cb l m w h k hl hm h1 h2
 ·have hne':(n1 == n2)=false:=by simpa using hne
  rcases Int.lt_or_le (zA1 l) (zA1 m) with hc | hc
  ·exact zFW n1 n2 hne' a b ca cb l m w h k hl hm h1 h2 hc
  ·exact zFV n1 n2 hne' a b ca cb l m w h k hl hm h1 h2 hc
end Go.Proofs.YtonkhcdmchidjaaGreat
