import Derived.Test.YtonkhcdmchidjaaGreatND
set_option maxHeartbeats 2000000
namespace Go.Proofs.YtonkhcdmchidjaaGreat
open Go.RowKit Go BigFrame Go.Shelf
set_option maxRecDepth 100000
set_option linter.all false
theorem zAZ (neg:Bool) (a:Option Addr) (cap:Nat) (l:List Int) (w:World) (h:Ints w a cap l) (hl:(zAB l).length≤2048):
 Calls Tryz.prog 195 #[.bool neg,.slice a l.length cap] w fun e w'=>e=.returned (.agg #[.bool (neg && decide (0< (zAB l).length)),.slice a (zAB l).length cap])∧Ext w w':=
 (zFU neg a cap l w h).mono fun e w' hh=>by
   rcases hh with⟨_,h1,h2⟩ | ⟨h1,_⟩
   ·exact⟨h1,h2⟩
   ·omega
theorem zIS (n1 n2:Bool) (a b:Option Addr) (ca cb:Nat) (l m:List Int) (w:World) (h:Ints w a ca l) (k:Ints w b cb m) (h1:zBI n1 l=true) (h2:zBI n2 m=true) (hlen:(digs (zA1 l*zA1 m).toNat).length≤2048):
 Calls Tryz.prog 145 #[.agg #[.bool n1,.slice a l.length ca],.agg #[.bool n2,.slice b m.length cb]] w (zNF (sgn n1 (zA1 l)*sgn n2 (zA1 m)) w):=by
 obtain⟨w3,hw3⟩:∃w3,((((w.alloc (.cells #[.bool n1,.slice a l.length ca] 36)).alloc (.cells #[.bool n2,.slice b m.length cb] 36)).alloc (.cells #[.bool false,.slice none 0 0] 36)).alloc (.cells #[.int .i64 0] 29))=w3:=⟨_,rfl⟩
 have B1:=(((Blk.new0 w #[.bool n1,.slice a l.length ca] 36).alloc (.cells #[.bool n2,.slice b m.length cb] 36)).alloc (.cells #[.bool false,.slice none 0 0] 36)).alloc (.cells #[.int .i64 0] 29);have B2:=((Blk.new1 w (.cells #[.bool n1,.slice a l.length ca] 36) #[.bool n2,.slice b m.length cb] 36).alloc (.cells #[.bool false,.slice none 0 0] 36)).alloc (.cells #[.int .i64 0] 29);have B3:=(Blk.new2 w (.cells #[.bool n1,.slice a l.length ca] 36) (.cells #[.bool n2,.slice b m.length cb] 36) #[.bool false,.slice none 0 0] 36).alloc (.cells #[.int .i64 0] 29);have B4:=Blk.new2 (w.alloc (.cells #[.bool n1,.slice a l.length ca] 36)) (.cells #[.bool n2,.slice b m.length cb] 36) (.cells #[.bool false,.slice none 0 0] 36) #[.int .i64 0] 29;simp only [World.size_alloc,Nat.add_assoc,Nat.reduceAdd] at B4;have hx:Ext w w3:=by rw [←hw3];exact(by repeat (first | with_reducible exact Ext.refl _ | with_reducible assumption | with_reducible refine Ext.drewN ?_ _ | with_reducible refine Ext.drew ?_ | with_reducible refine Ext.alloc' ?_ _ | with_reducible refine Ext.set ?_ (by dsimp only;omega) _))
 have hs3:w3.heap.size=w.heap.size+4:=by rw [←hw3];simp
 rw [hw3] at B1 B2 B3 B4;have hx4:=hx.alloc' (.cells #[.bool n1,.slice a l.length ca,.bool n2,.slice b m.length cb] 36);have c0:=B1.cell (i:=0) (v:=.bool n1) rfl;have c1:=B1.cell (i:=1) (v:=.slice a l.length ca) rfl;have c2:=B2.cell (i:=0) (v:=.bool n2) rfl;have c3:=B2.cell (i:=1) (v:=.slice b m.length cb) rfl;have H3:=dH (B3.alloc (.cells #[.bool n1,.slice a l.length ca,.bool n2,.slice b m.length cb] 36));have H4:=dH (B4.alloc (.cells #[.bool n1,.slice a l.length ca,.bool n2,.slice b m.length cb] 36));have HW:=dH hw3;have HC:=dH (zAN w3.heap.size n1 n2 a b ca cb l m _ (h.ext hx4) (k.ext hx4) (Blk.new0 w3 _ _) h1 h2);obtain⟨z1,y1⟩:=zAu h1;obtain⟨z2,y2⟩:=zAu h2;have HM:=dH (fun W (hy:Ext w W)=>zMz a b ca cb l m W (h.ext hy) (k.ext hy) z1.1.digs z2.1.digs (by omega));obtain⟨N,hN⟩:∃N,(zA1 l*zA1 m).toNat=N:=⟨_,rfl⟩
 have hz:sgn n1 (zA1 l)*sgn n2 (zA1 m)=sgn (!(n1 == n2)) N:=by
  have a1:=zA2 z1.1.digs;have a2:=zA2 z2.1.digs;have a3:=Int.mul_nonneg a1 a2;rw [show((N:Nat):Int)=zA1 l*zA1 m by omega];unfold sgn;cases n1 <;> cases n2 <;> simp [Int.neg_mul,Int.mul_neg]
 rw [hN] at HM hlen;rw [hz];obtain⟨S,hS⟩:∃S,(!(n1 == n2))=S:=⟨_,rfl⟩
 rw [hS];have HL:=dH hlen;have H1:=dH (B1.alloc (.cells #[.bool n1,.slice a l.length ca,.bool n2,.slice b m.length cb] 36));have H2:=dH (B2.alloc (.cells #[.bool n1,.slice a l.length ca,.bool n2,.slice b m.length cb] 36));clear z1 z2 y1 y2 h1 h2 h k B1 B2 B3 B4 hw3 hN hz hlen
 go_enter_defers Tryz.func145,Tryz.ntmps145
 go_upto_region 1 with fail;rw [HW.out];simp only [Nat.add_assoc,Nat.reduceAdd];go_wp2_with fail;rw [hs3] at HC;refine HC.out.mono ?_;rintro e w5 ⟨rfl,hy⟩;have H5:=dH (H3.out.ext hy);have H6:=dH (H4.out.ext hy);have hx5:=hx4.trans hy;clear c0 c1 c2 c3 HC H3 H4;have c0:=(H1.out.ext hy).cell (i:=0) (v:=.bool n1) rfl;have c1:=(H1.out.ext hy).cell (i:=1) (v:=.slice a l.length ca) rfl;have c2:=(H2.out.ext hy).cell (i:=0) (v:=.bool n2) rfl;have c3:=(H2.out.ext hy).cell (i:=1) (v:=.slice b m.length cb) rfl;go_upto_region 3 with fail;have K1:=H1.out.ext hy;have K2:=H2.out.ext hy;have s0:w5.cell? ⟨w.heap.size,0,none⟩=some (.bool n1)∧w5.cell? ⟨w.heap.size,1,none⟩=some (.slice a l.length ca)∧w5.cell? ⟨w.heap.size+1,0,none⟩=some (.bool n2)∧w5.cell? ⟨w.heap.size+1,1,none⟩=some (.slice b m.length cb):=⟨c0,c1,c2,c3⟩
 have hext:∀{A B:World},Ext A B→A.cell? ⟨w.heap.size,0,none⟩=some (.bool n1)∧A.cell? ⟨w.heap.size,1,none⟩=some (.slice a l.length ca)∧A.cell? ⟨w.heap.size+1,0,none⟩=some (.bool n2)∧A.cell? ⟨w.heap.size+1,1,none⟩=some (.slice b m.length cb)→
  B.cell? ⟨w.heap.size,0,none⟩=some (.bool n1)∧B.cell? ⟨w.heap.size,1,none⟩=some (.slice a l.length ca)∧B.cell? ⟨w.heap.size+1,0,none⟩=some (.bool n2)∧B.cell? ⟨w.heap.size+1,1,none⟩=some (.slice b m.length cb):=fun hAB h=>
  ⟨(hAB.cell (p:=⟨_,_,none⟩) (zAd h.1)).trans h.1,(hAB.cell (p:=⟨_,_,none⟩) (zAd h.2.1)).trans h.2.1,(hAB.cell (p:=⟨_,_,none⟩) (zAd h.2.2.1)).trans h.2.2.1,(hAB.cell (p:=⟨_,_,none⟩) (zAd h.2.2.2)).trans h.2.2.2⟩
 have s0d:w5.drew.cell? ⟨w.heap.size,0,none⟩=some (.bool n1)∧w5.drew.cell? ⟨w.heap.size,1,none⟩=some (.slice a l.length ca)∧w5.drew.cell? ⟨w.heap.size+1,0,none⟩=some (.bool n2)∧w5.drew.cell? ⟨w.heap.size+1,1,none⟩=some (.slice b m.length cb):=s0
 have hset1:∀{A:World} (x y:Value),A.cell? ⟨w.heap.size,0,none⟩=some (.bool n1)∧A.cell? ⟨w.heap.size,1,none⟩=some (.slice a l.length ca)∧A.cell? ⟨w.heap.size+1,0,none⟩=some (.bool n2)∧A.cell? ⟨w.heap.size+1,1,none⟩=some (.slice b m.length cb)→
  ((A.setCell ⟨w.heap.size+2,0,none⟩ x).setCell ⟨w.heap.size+2,1,none⟩ y).cell? ⟨w.heap.size,0,none⟩=some (.bool n1)∧((A.setCell ⟨w.heap.size+2,0,none⟩ x).setCell ⟨w.heap.size+2,1,none⟩ y).cell? ⟨w.heap.size,1,none⟩=some (.slice a l.length ca)∧((A.setCell ⟨w.heap.size+2,0,none⟩ x).setCell ⟨w.heap.size+2,1,none⟩ y).cell? ⟨w.heap.size+1,0,none⟩=some (.bool n2)∧((A.setCell ⟨w.heap.size+2,0,none⟩ x).setCell ⟨w.heap.size+2,1,none⟩ y).cell? ⟨w.heap.size+1,1,none⟩=some (.slice b m.length cb):=fun x y h=>by
  refine⟨?_,?_,?_,?_⟩ <;> rw [World.cell?_setCell_far _ _ _ _ (by dsimp only;omega),World.cell?_setCell_far _ _ _ _ (by dsimp only;omega)]
  ·exact h.1
  ·exact h.2.1
  ·exact h.2.2.1
  ·exact h.2.2.2
 have hset2:∀{A:World} (x:Value),A.cell? ⟨w.heap.size,0,none⟩=some (.bool n1)∧A.cell? ⟨w.heap.size,1,none⟩=some (.slice a l.length ca)∧A.cell? ⟨w.heap.size+1,0,none⟩=some (.bool n2)∧A.cell? ⟨w.heap.size+1,1,none⟩=some (.slice b m.length cb)→
  (A.setCell ⟨w.heap.size+3,0,none⟩ x).cell? ⟨w.heap.size,0,none⟩=some (.bool n1)∧(A.setCell ⟨w.heap.size+3,0,none⟩ x).cell? ⟨w.heap.size,1,none⟩=some (.slice a l.length ca)∧(A.setCell ⟨w.heap.size+3,0,none⟩ x).cell? ⟨w.heap.size+1,0,none⟩=some (.bool n2)∧(A.setCell ⟨w.heap.size+3,0,none⟩ x).cell? ⟨w.heap.size+1,1,none⟩=some (.slice b m.length cb):=fun x h=>by
  refine⟨?_,?_,?_,?_⟩ <;> rw [World.cell?_setCell_far _ _ _ _ (by dsimp only;omega)]
  ·exact h.1
  ·exact h.2.1
  ·exact h.2.2.1
  ·exact h.2.2.2
 have HM5:=dH (HM.out w5.drew (hx5.drew));clear K1 K2 H1 H2 HM c0 c1 c2 c3;refine wp_region_noPanic ?_;refine wp_region_held_drew (S:=(fun w'=>w'.cell? ⟨w.heap.size,0,none⟩=some (.bool n1)∧w'.cell? ⟨w.heap.size,1,none⟩=some (.slice a l.length ca)∧w'.cell? ⟨w.heap.size+1,0,none⟩=some (.bool n2)∧w'.cell? ⟨w.heap.size+1,1,none⟩=some (.slice b m.length cb))) (by kernel_rfl) ?_ (fun hHeld=>?_)
 ·(first | with_reducible exact s0d | with_reducible exact hext hy6 hHeld | with_reducible exact hS7 | with_reducible exact hset1 _ _ hHeld | with_reducible exact hset2 _ hHeld)
 (try simp only [pur,Nat.reduceAdd])
 iterate 9
  refine tkR [0,1,2,3,4,5,6,7,8] (v:=?_) rfl rfl (by kernel_rfl) (fun _ _ _ h=>h) (by rfl) ?_ (by assumption) ?_;rotate_left
  ·(intro w hSw;(try dsimp only at hSw);(try go_simp);(try with_reducible rfl))
  (try simp only [Act.put,pus])
 repeat' first
  | (refine wpAnyH_done (by decide +kernel) ?_ _
     (refine NoPanic.normal ?_;go_wp2_with fail;refine leaves_cons (f:=146) (args:=#[.pointer (some ⟨w.heap.size+3,0,none⟩)]) (by simp) (by simp [go_sem]) ?_;refine(zAj ⟨w.heap.size+3,0,none⟩ _).mono ?_;rintro e u' w'' ⟨rfl,rfl,rfl⟩;have L5:=((J5.set 0 (.bool t)).set 1 (.slice a6 (digs N).length cp6)).other (p:=⟨w.heap.size+3,0,none⟩) (by dsimp only;omega) (.int .i64 0);have L6:=((J6.other (p:=⟨w.heap.size+2,0,none⟩) (by dsimp only;omega) (.bool t)).other (p:=⟨w.heap.size+2,1,none⟩) (by dsimp only;omega) (.slice a6 (digs N).length cp6)).set 0 (.int .i64 0);have e0:=L5.cell (i:=0) (v:=.bool t) rfl;have e1:=L5.cell (i:=1) (v:=.slice a6 (digs N).length cp6) rfl;have e2:=L6.cell (i:=0) (v:=.int .i64 0) rfl;have hbo:=zDo S N;rw [ht] at hbo;have hlt5:=H6.out.lt;have hbl:∀A,a6=some A→w5.heap.size≤A.block:=hb6;have hs5:=hx5.size;have hfin:zNF (sgn S N) w (.returned (.tuple #[.agg #[.bool t,.slice a6 (digs N).length cp6],.int .i64 0])) (((w7.setCell ⟨w.heap.size+2,0,none⟩ (.bool t)).setCell ⟨w.heap.size+2,1,none⟩ (.slice a6 (digs N).length cp6)).setCell ⟨w.heap.size+3,0,none⟩ (.int .i64 0)):=⟨_,rfl,⟨t,a6,cp6,digs N,rfl,(((hi6.ext hy7).putO (p:=⟨w.heap.size+2,0,none⟩) (fun A hA=>by have:=hbl A hA;dsimp only;omega) _).putO (p:=⟨w.heap.size+2,1,none⟩) (fun A hA=>by have:=hbl A hA;dsimp only;omega) _).putO (p:=⟨w.heap.size+3,0,none⟩) (fun A hA=>by have:=hbl A hA;dsimp only;omega) _,hbo,fun A hA=>by have:=hbl A hA;omega⟩,(((hx5.drew.trans hyy).set (p:=⟨w.heap.size+2,0,none⟩) (by dsimp only;omega) _).set (p:=⟨w.heap.size+2,1,none⟩) (by dsimp only;omega) _).set (p:=⟨w.heap.size+3,0,none⟩) (by dsimp only;omega) _⟩;simp [Leaves,settle,results,Tryz.results145,go_sem,e0,e1,e2];exact hfin))
  | (refine rdR [9,10,11,12] (by decide +kernel) (zAt ?_ (zAt ?_ (zAt ?_ (zAt ?_ zFw))))
     first
     | exact noR (by decide +kernel)
     | (refine isR (o:=_) rfl (fun K hK=>?_)
        go_simp;refine HM5.out.mono ?_;rintro e6 w6 ⟨v6,rfl,hO6,hy6⟩;obtain⟨a6,cp6,rfl,hi6,hb6⟩:=hO6.form0 (zA4 N).digs
        rotate_left)
     first
     | exact noR (by decide +kernel)
     | (refine isR (o:=_) rfl (fun K hK=>?_)
        go_simp
        (try rw [hS]);with_reducible refine(zAZ S a6 cp6 (digs N) w6 hi6 (by rw [zAE (zA4 N)];exact HL.out)).mono ?_;rintro e7 w7 ⟨rfl,hy7⟩;rw [zAE (zA4 N)];have hyy:=hy6.trans hy7;have J5:=(H5.out.drew).ext hyy;have J6:=(H6.out.drew).ext hyy;have d0:=J5.cell (i:=0) (v:=.bool false) rfl;have d1:=J5.cell (i:=1) (v:=.slice none 0 0) rfl;have d2:=J6.cell (i:=0) (v:=.int .i64 0) rfl;have f0:=J5.free 0;have f1:=J5.free 1;have f2:=J6.free 0;have hS7:=hext hyy s0d;have hne:w.heap.size+3<w7.heap.size:=J6.lt;obtain⟨t,ht⟩:∃t,(S && decide (0< (digs N).length))=t:=⟨_,rfl⟩;rw [ht]
        rotate_left)
     iterate 2
      first
      | exact noR (by decide +kernel)
      | (refine isR (o:=_) rfl (fun K hK=>?_)
         go_simp
         rotate_left)
     all_goals (
      refine hK.out _ _ ?_ ?_
      ·(first | with_reducible exact s0d | with_reducible exact hext hy6 hHeld | with_reducible exact hS7 | with_reducible exact hset1 _ _ hHeld | with_reducible exact hset2 _ hHeld)
      clear hK K hHeld;intro hHeld
      (try simp only [Act.put,pus])))
theorem zMG (n1 n2:Bool) (x y:Int):sgn n1 x*sgn n2 y=sgn (!(n1 == n2)) (x*y):=by cases n1 <;> cases n2 <;> simp [sgn,Int.neg_mul,Int.mul_neg]
theorem zEw {v u:Value} {z y:Int} {w:World} (hv:BigV w v z) (hu:BigV w u y) (hz:Len z) (hy:Len y) (hl:Len (z*y)):Calls Tryz.prog 145 #[v,u] w (zNF (z*y) w):=by
 obtain⟨n1,l,⟨a,ca,rfl,hi⟩,hb⟩:=hv;obtain⟨n2,m,⟨b,cb,rfl,hj⟩,hc⟩:=hu;have h0:=zA2 hb.1.digs;have h1:=zA2 hc.1.digs;have h2:=Int.mul_nonneg h0 h1;have habs:(z*y).natAbs= (zA1 l*zA1 m).toNat:=by
  rw [hb.sgn,hc.sgn,zMG];unfold sgn;split <;> omega
 have:=zIS n1 n2 a b ca cb l m w hi hj (hb.chk hz) (hc.chk hy) (by rw [←habs];exact hl);rw [←hb.sgn,←hc.sgn] at this;exact this
theorem zCk {n:Nat} (h:n≤29):(1:Int)≤2 ^ n∧(2:Int) ^ n≤536870912:=by
 have h1:(1:Int)≤2 ^ n:=Int.pow_pos (by decide);have h2:((2 ^ n:Nat):Int)≤((2 ^ 29:Nat):Int):=Int.ofNat_le.2 (Nat.pow_le_pow_right (by decide) h);rw [Int.natCast_pow,Int.natCast_pow] at h2;exact⟨h1,by simpa using h2⟩
structure CapN (w:World) (p q:Nat) (a:Option Addr) (ca n:Nat) (l:List Int):Prop where
 p:Blk w p #[.slice a l.length ca] 217
 q:Blk w q #[.int .i64 (n:Int)] 3
 l:Ints w a ca l
theorem CapN.ext {w w':World} {p q:Nat} {a:Option Addr} {ca n:Nat} {l:List Int} (h:CapN w p q a ca n l) (k:Ext w w'):CapN w' p q a ca n l:=⟨h.p.ext k,h.q.ext k,h.l.ext k⟩
theorem zL3 (p q:Nat) (a:Option Addr) (ca n:Nat) (l:List Int) (i:Nat) (w:World) (h:CapN w p q a ca n l) (hl:Digs l) (hn:n≤29):
 Calls Tryz.prog 232 #[.int .i64 i,.pointer (some ⟨p,0,none⟩),.pointer (some ⟨q,0,none⟩)] w fun e w'=>e=.returned (.int .i64 (l.getD i 0*2 ^ n))∧Ext w w':=by
 have C1:=dH (fun W:zEq w=>zCz (W:=W) (zI8 a ca l i W.1 (h.l.ext W.2)));have L1:=zB9 (h.p.cell (i:=0) rfl);have L2:=zB9 (h.q.cell (i:=0) rfl);obtain⟨x1,x2⟩:=hl.getD i;obtain⟨p1,p2⟩:=zCk hn;have hmul:0≤l.getD i 0*2 ^ n∧l.getD i 0*2 ^ n≤1073741824*536870912:=⟨Int.mul_nonneg x1 (by omega),Int.mul_le_mul (by omega) p2 (by omega) (by omega)⟩
 have hwr:IntKind.i64.wrap (l.getD i 0*2 ^ n)=l.getD i 0*2 ^ n:=IntWalk.i64_in _ (by omega);have hmin:min n 64=n:=by omega
 have hshl:∀x:Int,Op.shift .shl .i64 x .i64 (n:Int)=pure (.int .i64 (IntKind.i64.wrap (x*2 ^ n))):=fun x=>by
  rw [shift_shl_any _ _ _ _ (by omega)];have:min (n:Int).toNat IntKind.i64.bits=n:=by simp [IntKind.bits];omega
  rw [this]
 generalize hx:l.getD i 0=x at *;generalize hP:(2:Int) ^ n=P at *;clear h hl;go_enter Tryz.func232,Tryz.ntmps232;go_upto_region 1 with fail;refine zBw (by kernel_rfl) (by kernel_rfl) ?_;repeat (go_big_quiet_step ((go_at_call 224;with_reducible exact C1.out _)))
 refine wpQuiet_nil ?_;rintro _ ⟨⟨W1,HW1⟩,rfl⟩;(try dsimp only);go_wp2_with fail;go_ret;exact⟨rfl,HW1⟩
theorem zL4 {l:List Int} (hl:Digs l) {n:Nat} (hn:n≤29):zAB (zAp (fun i=>l.getD i 0*2 ^ n) (l.length+1))=digs (zA1 l*2 ^ n).toNat:=by
 obtain⟨p1,p2⟩:=zCk hn;have e:zDG (fun i=>l.getD i 0*2 ^ n) (l.length+1)=zA1 l*2 ^ n:=by
  rw [zDI (fun i=>l.getD i 0),zB3 l _ (by omega)]
 have a1:=zA2 hl;have b1:=zAy hl;have hp:=zB4 l.length;have h0:0≤zA1 l*2 ^ n:=Int.mul_nonneg a1 (by omega);have h1:zA1 l*2 ^ n≤1073741824 ^ l.length*536870912:=Int.mul_le_mul (by omega) p2 (by omega) (by omega);rw [zDJ _ _ (by rw [e];exact h0) (by rw [e,Int.pow_succ];omega),e]
theorem zGE (a:Option Addr) (ca n:Nat) (l:List Int) (w:World) (h:Ints w a ca l) (hl:Digs l) (h1:l.length≤99998) (hn:n≤29):
 Calls Tryz.prog 230 #[.slice a l.length ca,.int .i64 n] w (zNC (digs (zA1 l*2 ^ n).toNat) w):=by
 have hle1:=h.le;have hmx1:=h.mx;have hmf:∀ (fn:Fn) (first cap:Array Value) (w:World),(Instr.makeFunc fn first cap).run Tryz.prog w=.ok (.func fn first cap) w:=fun _ _ _ _=>rfl;have hx:Ext w ((w.alloc (.cells #[.slice a l.length ca] 217)).alloc (.cells #[.int .i64 (n:Int)] 3)):=(by repeat (first | with_reducible exact Ext.refl _ | with_reducible assumption | with_reducible refine Ext.drewN ?_ _ | with_reducible refine Ext.drew ?_ | with_reducible refine Ext.alloc' ?_ _ | with_reducible refine Ext.set ?_ (by dsimp only;omega) _))
 have hC:CapN ((w.alloc (.cells #[.slice a l.length ca] 217)).alloc (.cells #[.int .i64 (n:Int)] 3)) w.heap.size (w.heap.size+1) a ca n l:=
  ⟨(Blk.new0 w _ _).alloc _,Blk.new1 w _ _ _,h.ext hx⟩
 have c1:=hC.p.cell (i:=0) rfl;have hsz:w.heap.size≤((w.alloc (.cells #[.slice a l.length ca] 217)).alloc (.cells #[.int .i64 (n:Int)] 3)).heap.size:=hx.size;obtain⟨p1,p2⟩:=zCk hn
 have hK:=zCZ (l.length+1) 232 (.pointer (some ⟨w.heap.size,0,none⟩)) (.pointer (some ⟨w.heap.size+1,0,none⟩)) (fun i=>l.getD i 0*2 ^ n) _ (by omega)
  (fun i=>by
    obtain⟨x1,x2⟩:=hl.getD i;have h1:0≤l.getD i 0*2 ^ n:=Int.mul_nonneg x1 (by omega);have h2:l.getD i 0*2 ^ n≤1073741824*536870912:=Int.mul_le_mul (by omega) p2 (by omega) (by omega)
    exact⟨by omega,by omega⟩) (enters_of Tryz.func232 (by kernel_rfl) rfl)
  (fun i W hi hW=>zL3 _ _ a ca n l i W (hC.ext hW) hl hn)
 rw [zL4 hl hn] at hK;generalize digs (zA1 l*2 ^ n).toNat=R at *;have HK:=dH hK;generalize hw1:(w.alloc (.cells #[.slice a l.length ca] 217)).alloc (.cells #[.int .i64 (n:Int)] 3)=w1 at *;have HW:=dH hw1;clear hK hC hw1 p1 p2;go_enter Tryz.func230,Tryz.ntmps230;go_upto_region 1 with fail;rw [HW.out];go_wp2_with fail;refine HK.out.mono ?_;rintro e w2 ⟨v,rfl,hO,hy⟩;go_wp2_with fail;go_ret;exact⟨v,rfl,hO.base hsz,hx.trans hy⟩
def zJw (l m:List Int) (arg:Option Addr) (w:World) (e:Ending) (w':World):Prop:=
 ∃aq cq ar cr,e=.returned (.tuple #[.slice aq (digs (zA1 l / zA1 m).toNat).length cq,.slice ar (digs (zA1 l % zA1 m).toNat).length cr])∧
  Ints w' aq cq (digs (zA1 l / zA1 m).toNat)∧Ints w' ar cr (digs (zA1 l % zA1 m).toNat)∧(∀A,aq=some A→w.heap.size≤A.block)∧(∀A,ar=some A→w.heap.size≤A.block∨∃A',arg=some A'∧A.block=A'.block)∧Ext w w'
theorem zIT (a b:Option Addr) (ca cb:Nat) (l m:List Int) (w:World) (h:Ints w a ca l) (k:Ints w b cb m) (hl:Norm l) (hm:Norm m) (hlt:zA1 l<zA1 m):
 Calls Tryz.prog 208 #[.slice a l.length ca,.slice b m.length cb] w (zJw l m a w):=by
 have HC:=dH (zAY a b ca cb l m w h k hl hm);have p1:=zA2 hl.digs;have hc:decide (zBS (zA1 l) (zA1 m)<0)=true:=by rw [decide_eq_true_eq,zDK hlt];omega
 have hq:digs (zA1 l / zA1 m).toNat=[]:=by rw [Int.ediv_eq_zero_of_lt p1 hlt];exact zAO
 have hr:digs (zA1 l % zA1 m).toNat=l:=by rw [Int.emod_eq_of_lt p1 hlt];exact zEv hl
 have HI:=dH h
 have HF:=dH (fun w' (hy:Ext w w')=>show zJw l m a w (.returned (.tuple #[.slice none 0 0,.slice a l.length ca])) w' from
  ⟨none,0,a,ca,by rw [hq,hr];rfl,by rw [hq];exact⟨Nat.le_refl _,by omega,fun _=>rfl,fun A hA=>by cases hA⟩,by rw [hr];exact HI.out.ext hy,fun A hA=>by(cases hA),fun A hA=>.inr ⟨A,hA,rfl⟩,hy⟩)
 generalize zBS (zA1 l) (zA1 m)=cm at *;clear hq hr h k hl hm hlt p1 HI;go_enter Tryz.func208,Tryz.ntmps208;go_wp2_with fail;refine HC.out.mono ?_;rintro e w2 ⟨rfl,hy⟩;go_wp2_with fail
 go_ret2
 exact HF.out w2 hy
theorem zHE (a b:Option Addr) (ca cb:Nat) (l:List Int) (d:Int) (w:World) (h:Ints w a ca l) (k:Ints w b cb [d]) (hl:Norm l) (hm:Norm [d]) (h1:l.length≤99999) (hge:d≤zA1 l):
 Calls Tryz.prog 208 #[.slice a l.length ca,.slice b 1 cb] w (zJw l [d] a w):=by
 obtain⟨d0,d1,d2,_⟩:=hm;have d3:d≠0:=d2 rfl;have hdv:zA1 [d]=d:=by simp [zA1]
 have HC:=dH (zAY a b ca cb l [d] w h k hl ⟨d0,d1,d2,trivial⟩);have hc:decide (zBS (zA1 l) (zA1 [d])<0)=false:=by rw [decide_eq_false_iff_not,hdv];unfold zBS;split <;> (try split) <;> omega
 obtain⟨bb,bo,rfl⟩:=k.head (i:=0) (by simp);have HK:=dH (fun W (hy:Ext w W)=>show W.cell? ⟨bb,bo,none⟩=some (.int .i64 d) from((k.ext hy).cell (i:=0) (by simp)).1);have HS:=dH (fun W (hy:Ext w W)=>zGD a ca l d W (h.ext hy) hl.digs (by omega) (by omega) (by omega));have hr0:0≤zA1 l % d:=Int.emod_nonneg _ d3;have hr1:zA1 l % d<d:=Int.emod_lt_of_pos _ (by omega);have hcb:=k.le;have hcm:=k.mx;simp only [List.length_singleton] at hcb;generalize zBS (zA1 l) (zA1 [d])=cm at *;obtain⟨R,hR⟩:∃R,zA1 l % d=R:=⟨_,rfl⟩
 have htr:zAB [R]=digs R.toNat:=by
  rw [zCX (fun x hx=>by obtain rfl:=List.mem_singleton.1 hx;omega)];simp [zA1]
 have HTR:=dH htr;have hR2:=hR;clear h k hl htr;go_enter Tryz.func208,Tryz.ntmps208;go_wp2_with fail;refine HC.out.mono ?_;rintro e w2 ⟨rfl,hy⟩;have c0:=HK.out w2 hy;have HS2:=dH (HS.out w2 hy);go_wp2_with fail;refine HS2.out.mono ?_;rintro e w3 ⟨v,rfl,hO,hy3⟩;rw [hR];obtain⟨aq,cq,rfl,hiq,hbq⟩:=hO.form0 (zA4 _).digs;have hIR:Ints (w3.alloc (.cells #[.int .i64 R] 3)) (some ⟨w3.heap.size,0,none⟩) 1 [R]:=IB.ints (g:=w3.heap.size) (L:=[R]) (Blk.new0 w3 #[.int .i64 R] 3) (fun x hx=>by obtain rfl:=List.mem_singleton.1 hx;omega) (by simp);have hTC:=zC5 _ _ _ _ hIR;have hIT:=hIR.take (zAB [R]).length;rw [←zB1,HTR.out] at hIT;rw [HTR.out] at hTC;have HTC:=dH hTC;have hy4:=(hy.trans hy3).alloc' (.cells #[.int .i64 R] 3);have h43:=Ext.alloc w3 (.cells #[.int .i64 R] 3);have HIQ:=dH (hiq.ext h43);have HIT:=dH hIT;have hs3:w2.heap.size≤w3.heap.size:=hy3.size;have hs2:=hy.size;have HBQ:=dH hbq;clear hO hiq hIR hTC hIT c0 HS2 hbq h43;go_wp2_with fail;refine HTC.out.mono ?_;rintro e w5 ⟨rfl,rfl⟩;go_wp2_with fail
 go_ret2
 refine⟨aq,cq,some ⟨w3.heap.size,0,none⟩,1,by rw [hdv,hR2];rfl,by rw [hdv];exact HIQ.out,by rw [hdv,hR2];exact HIT.out,fun A hA=>by have:=HBQ.out A hA;omega,fun A hA=>.inl (by cases hA;dsimp only;omega),hy4⟩
end Go.Proofs.YtonkhcdmchidjaaGreat
