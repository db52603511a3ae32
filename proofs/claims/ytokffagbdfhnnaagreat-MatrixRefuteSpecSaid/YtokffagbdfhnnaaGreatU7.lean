import Derived.Test.YtokffagbdfhnnaaGreatU5
import Derived.Test.YtokffagbdfhnnaaGreatU6
import Derived.OwnWalk
import Derived.Deep.QuietTactic
namespace Go.Proofs.YtokffagbdfhnnaaGreat
open Go.RowKit Go BigFrame Go.Shelf
set_option maxRecDepth 100000
set_option linter.unusedSimpArgs false
set_option linter.unusedVariables false
attribute [local go_sem] Oper.semAt_some
def okB (m n:Nat) (s:StX):Bool:=(List.range m).all fun r=>decide (r<s.ps.length) || decide (s.M r n=0)
theorem okB_iff {m n:Nat} {s:StX}:okB m n s=true↔OkX m n s:=by
 unfold okB OkX
 rw [List.all_eq_true]
 constructor
 ·intro h r h1 h2
  have:=h r (List.mem_range.2 h2)
  simp only [Bool.or_eq_true,decide_eq_true_eq] at this
  exact this.resolve_left (by omega)
 ·intro h r hr
  simp only [Bool.or_eq_true,decide_eq_true_eq]
  by_cases h1:r<s.ps.length
  ·exact .inl h1
  ·exact .inr (h r (by omega) (List.mem_range.1 hr))
def SolP (m n:Nat) (A:Mx) (w:World) (e:Ending) (w':World):Prop:=∃ (a:Option Addr) (cap:Nat) (V:Nat→RatC),e=.returned (.tuple #[.slice a (if okB m n (elimX m A n) then n else 0) cap,.bool (okB m n (elimX m A n))])∧
 RowR w' a cap (if okB m n (elimX m A n) then n else 0) V (solX n (elimX m A n))∧Ext w w'
theorem RowR.nil' (w:World) (V:Nat→RatC) (f:Nat→Rat):RowR w none 0 0 V f:=⟨by omega,by omega,fun _=>rfl,fun A h=>(by cases h),fun c h=>(by omega)⟩
theorem Sys.pivot {w:World} {B p m N:Nat} {ra:Option Addr} {R rc:Nat} {g cp:Nat→Nat} {V:Nat→Nat→RatC} {M:Mx} {va:Value} {ps:List Nat} (h:Sys w B p m N ra R rc g cp V M va ps) {i k:Nat} (hi:ps[i]? =some k):
 ∃b cv,va=.slice (some ⟨b,0,none⟩) ps.length cv∧w.cell? ⟨b,i,none⟩=some (.int .i64 k):=by
 have hl:i<ps.length:=(List.getElem?_eq_some_iff.1 hi).1
 rcases h.atl.2 with⟨_,h0⟩ | ⟨b,cv,cur,rfl,_⟩
 ·omega
 ·refine⟨b,cv,rfl,?_⟩
  have:=World.ownsRow.cellAt h.atl i (by omega)
  rw [List.getElem?_map,hi] at this
  exact this
structure Fill (w:World) (g N:Nat) (V:Nat→RatC) (f:Nat→Rat):Prop where
 row:RowB w g N V
 val:∀c,c<N→RatV w (V c).val (f c)
 off:∀c,c<N→(V c).Off (some g)
theorem Fill.put {w:World} {g N k:Nat} {V:Nat→RatC} {f:Nat→Rat} (h:Fill w g N V f) (hk:k<N) {x:RatC} {q:Rat} (hx:RatV w x.val q) (ho:x.Off (some g)):
 Fill (set4U w g k x) g N (fun c=>if c=k then x else V c) (fun c=>if c=k then q else f c):=by
 have hg:=grown4 w g k x
 refine⟨(h.row.put hk x).2,fun c hc=>?_,fun c hc=>?_⟩
 ·by_cases e:c=k
  ·rw [if_pos e,if_pos e];exact hx.grown hg ho
  ·rw [if_neg e,if_neg e];exact(h.val c hc).grown hg (h.off c hc)
 ·by_cases e:c=k
  ·rw [if_pos e];exact ho
  ·rw [if_neg e];exact h.off c hc
theorem Fill.ext {w w':World} {g N:Nat} {V:Nat→RatC} {f:Nat→Rat} (h:Fill w g N V f) (k:Ext w w'):Fill w' g N V f:=⟨h.row.ext k,fun c hc=>(h.val c hc).ext k,h.off⟩
theorem Fill.read {w:World} {g N cap:Nat} {V:Nat→RatC} {f f':Nat→Rat} (h:Fill w g N V f) (hc:N≤cap∧cap≤9223372036854775807) (hf:∀c,c<N→f c=f' c):RowR w (some ⟨g,0,none⟩) cap N V f':=
 ⟨hc.1,hc.2,fun e=>(by cases e),fun A hA c hcN=>by
  cases hA
  obtain⟨h0,h1,h2,h3⟩:=h.row.cells hcN
  simp only [Nat.zero_add]
  exact⟨trivial,h0,h1,h2,h3⟩,fun c hcN=>by rw [←hf c hcN];exact h.val c hcN⟩
theorem OwnRats.fill {w:World} {B:Nat} {v:Value} {L:List RatC} {rs:List Rat} (h:OwnRats w B v L rs) (hl:0<L.length):∃g cap,v=.slice (some ⟨g,0,none⟩) L.length cap∧B≤g∧L.length≤cap∧cap≤9223372036854775807∧Fill w g L.length (fun c=>L.getD c ⟨false,none,0,0,false,none,0,0⟩) (fun c=>rs.getD c 0):=by
 have hcell:=h.own
 rcases h.own.2 with⟨rfl,h0⟩ | ⟨g,cap,cur,rfl,hb,hg,h1,h2,h3,h4⟩
 ·omega
 ·have hgd:∀c (hc:c<L.length),L.getD c ⟨false,none,0,0,false,none,0,0⟩=L[c]:=fun c hc=>by rw [List.getD_eq_getElem?_getD,List.getElem?_eq_getElem hc];rfl
  refine⟨g,cap,rfl,hb,h1,by unfold maxLen at h2;exact h2,⟨cur,hg,fun c hc=>?_⟩,fun c hc=>?_,fun c hc=>?_⟩
  ·obtain⟨e1,e2,e3,e4⟩:=flat_getR L c hc
   have key:∀j u,(L.flatMap RatC.cells)[j]? =some u→cur[j]? =some u:=fun j u hu=>by
    rw [←h4,List.getElem?_take] at hu
    split at hu
    ·simpa using hu
    ·cases hu
   show CellsX cur c (L.getD c ⟨false,none,0,0,false,none,0,0⟩)
   rw [hgd c hc]
   unfold CellsX
   rw [Nat.mul_comm c 4]
   exact⟨key _ _ e1,key _ _ e2,key _ _ e3,key _ _ e4⟩
  ·rw [hgd c hc]
   exact h.val c hc
  ·rw [hgd c hc]
   exact h.apart _ (List.getElem_mem hc)
theorem sol_step {m n i k c:Nat} {A:Mx} {s:StX} {f:Nat→Rat} (h:EchX m A n s) (hk:s.ps[i]? =some k) (hf:f c=if c∈s.ps.take i then s.M (s.ps.idxOf c) n else 0):
 (if c=k then s.M i n else f c)=if c∈s.ps.take (i+1) then s.M (s.ps.idxOf c) n else 0:=by
 obtain⟨hi,rfl⟩:=List.getElem?_eq_some_iff.1 hk
 have e1:s.ps.take (i+1)=s.ps.take i ++ [s.ps[i]]:=by rw [List.take_add_one,List.getElem?_eq_getElem hi];rfl
 rw [e1,hf]
 by_cases h1:c=s.ps[i]
 ·rw [if_pos h1,h1,if_pos (List.mem_append_right _ (List.mem_singleton.2 rfl)),ps_idx h hi]
 ·rw [if_neg h1]
  by_cases h2:c∈s.ps.take i
  ·rw [if_pos h2,if_pos (List.mem_append_left _ h2)]
  ·rw [if_neg h2,if_neg fun h3=>(List.mem_append.1 h3).elim h2 fun h4=>h1 (List.mem_singleton.1 h4)]
set_option maxHeartbeats 16000000 in
theorem matrix_solve (a:Option Addr) (cap m n:Nat) (V:Nat→Nat→RatC) (A:Mx) (e:Nat) (w:World) (h:MatR w a cap m (n+1) V A) (hcd:CdX m (n+1) e A) (hn:n≤90) (hm:m≤90) (he:2 ^ n* (e+1)≤40920):
 Calls Tryz.prog 31 #[.slice a m cap,.int .i64 n] w (SolP m n A w):=by
 have hle:=h.le
 have hmx:=h.mx
 have HB:=Lib.hid (matrix_begin a cap m (n+1) V A w h (by omega) (by omega))
 have HCD:=Lib.hid hcd
 clear h hcd
 go_enter Tryz.func31,Tryz.ntmps31
 go_wp2_with fail
 refine HB.out.mono ?_
 rintro e1 x1 ⟨p,ra,R,rc,g,cp,rfl,hs,hy⟩
 have HS:=Lib.hid hs
 have HX:=Lib.hid hy
 clear hs hy HB
 go_wp2_with fail
 refine(system_reduce w.heap.size p m (n+1) ra R rc g cp V A _ n e x1 HS.out HCD.out (by omega) (by omega) (by omega) he HX.out.size).mono ?_
 rintro e2 x2 ⟨⟨v2,rfl⟩,⟨g2,cp2,V2,va2,hs2⟩,hb2⟩
 have HX2:Hid (Ext w x2):=Lib.hid (Below.trans HX.out hb2)
 have hech:=elimX_ech m A n
 have HECH:=Lib.hid hech
 have hdm:=hech.le
 have hdn:=(rank_le m n A).2
 obtain⟨d,hd⟩:∃d,(elimX m A n).ps.length=d:=⟨_,rfl⟩
 have HD:=Lib.hid hd
 obtain⟨av,cv,hva⟩:=at_form hs2.atl
 subst hva
 rw [hd] at hs2 hdm hdn
 have HS2:=Lib.hid hs2
 have hrc:=hs2.hrc
 clear hs2 hb2 hech hd HS HX
 go_upto_region 3 with fail
 have hS3:=HS2.out.ext (Ext.refl x2).drew
 have HS3:=Lib.hid hS3
 have s0:World.cell? (World.drew x2) ⟨p,0,none⟩=some (.slice av d cv):=hS3.box.cell rfl
 have s1:World.cell? (World.drew x2) ⟨p,1,none⟩=some (.slice ra m rc):=hS3.box.cell rfl
 have hE3:Ext x2 (World.drew x2):=(Ext.refl _).drew
 clear hS3
 have z0:(0:Int)≤(d:Int):=by omega
 have z1:(d:Int)≤(m:Int):=by omega
 have z2:(d:Int)≤(rc:Int):=by omega
 have z3:(m:Int) - (d:Int)= ((m - d:Nat):Int):=by omega
 go_cut [24,25,26] (fun s24 s25 s26 wx=>∃ (a24:Option Addr) (c24:Nat),s24=.slice a24 (m - d) c24∧s25=.int .i64 ((m - d:Nat):Int)∧s26=.int .i64 0∧(0<m - d→a24=some ⟨R,d,none⟩)∧(m - d≤c24∧c24≤9223372036854775807)∧Ext x2 wx)
 case first=>
  by_cases hk:d=rc
  ·subst hk
   refine wp_region_held_drew (S:=(fun w'=>World.cell? w' ⟨p,0,none⟩=some (.slice av d cv)∧World.cell? w' ⟨p,1,none⟩=some (.slice ra m d))) (by kernel_rfl) ?_ (fun hHeld=>?_)
   ·exact⟨s0,s1⟩
   (try simp only [pur,Nat.reduceAdd])
   generalize World.drew x2=x3 at *
   refine tk (v:=?_) 0 rfl (by kernel_rfl) (fun _ _ _ h=>h) (by rfl) ?_ (by assumption) ?_
   rotate_left
   ·(intro w hSw;(try dsimp only at hSw);(try go_simp);(try with_reducible rfl))
   (try simp only [Act.put,pus])
   refine tk (v:=?_) 1 rfl (by kernel_rfl) (fun _ _ _ h=>h) (by rfl) ?_ (by assumption) ?_
   rotate_left
   ·(intro w hSw;(try dsimp only at hSw);(try go_simp);(try with_reducible rfl))
   (try simp only [Act.put,pus])
   refine tk (v:=?_) 2 rfl (by kernel_rfl) (fun _ _ _ h=>h) (by rfl) ?_ (by assumption) ?_
   rotate_left
   ·(intro w hSw;(try dsimp only at hSw);(try go_simp);(try with_reducible rfl))
   (try simp only [Act.put,pus])
   refine tk (v:=?_) 3 rfl (by kernel_rfl) (fun _ _ _ h=>h) (by rfl) ?_ (by assumption) ?_
   rotate_left
   ·(intro w hSw;(try dsimp only at hSw);(try go_simp);(try with_reducible rfl))
   (try simp only [Act.put,pus])
   refine tk (v:=?_) 4 rfl (by kernel_rfl) (fun _ _ _ h=>h) (by rfl) ?_ (by assumption) ?_
   rotate_left
   ·(intro w hSw;(try dsimp only at hSw);(try go_simp);(try with_reducible rfl))
   (try simp only [Act.put,pus])
   refine tk (v:=?_) 5 rfl (by kernel_rfl) (fun _ _ _ h=>h) (by rfl) ?_ (by assumption) ?_
   rotate_left
   ·(intro w hSw;(try dsimp only at hSw);(try go_simp);(try with_reducible rfl))
   (try simp only [Act.put,pus])
   refine tk (v:=?_) 6 rfl (by kernel_rfl) (fun _ _ _ h=>h) (by rfl) ?_ (by assumption) ?_
   rotate_left
   ·(intro w hSw;(try dsimp only at hSw);(try go_simp);(try with_reducible rfl))
   (try simp only [Act.put,pus])
   refine tk (v:=?_) 10 rfl (by kernel_rfl) (fun _ _ _ h=>h) (by rfl) ?_ (by assumption) ?_
   rotate_left
   ·(intro w hSw;(try dsimp only at hSw);(try go_simp);(try with_reducible rfl))
   (try simp only [Act.put,pus])
   refine wpAnyH_ready (rs:=[7]) (by kernel_rfl) (by simp) ?_
   refine AllReadyH.cons (o:=_) rfl (fun K hK=>?_) ?_
   ·go_simp
    (with_reducible refine(pivots_many p av d cv _ s0).mono ?_);rintro e9 y1 ⟨rfl,rfl⟩
    refine hK.out _ _ ?_ (fun hHeld2=>?_)
    ·exact⟨s0,s1⟩
    clear hK K hHeld
    have hHeld:=hHeld2
    clear hHeld2
    (try simp only [Act.put,pus])
    refine tk (v:=?_) 8 rfl (by kernel_rfl) (fun _ _ _ h=>h) (by rfl) ?_ (by assumption) ?_
    rotate_left
    ·(intro w hSw;(try dsimp only at hSw);(try go_simp);(try with_reducible rfl))
    (try simp only [Act.put,pus])
    refine tk (v:=?_) 9 rfl (by kernel_rfl) (fun _ _ _ h=>h) (by rfl) ?_ (by assumption) ?_
    rotate_left
    ·(intro w hSw;(try dsimp only at hSw);(try go_simp);(try with_reducible rfl))
    (try simp only [Act.put,pus])
    refine wpAnyH_done (by kernel_rfl) ?_ _
    go_wp2_with fail
    go_meet
    have hmd:m - d=0:=by omega
    exact⟨_,_,by rw [hmd],by rw [hmd];rfl,rfl,fun h=>(by omega),⟨by omega,by omega⟩,hE3⟩
   exact AllReadyH.nil
  ·have hk2:¬ (rc:Int)= (d:Int):=by omega
   have hk3:¬rc=d:=by omega
   refine wp_region_held_drew (S:=(fun w'=>World.cell? w' ⟨p,0,none⟩=some (.slice av d cv)∧World.cell? w' ⟨p,1,none⟩=some (.slice ra m rc))) (by kernel_rfl) ?_ (fun hHeld=>?_)
   ·exact⟨s0,s1⟩
   (try simp only [pur,Nat.reduceAdd])
   generalize World.drew x2=x3 at *
   refine tk (v:=?_) 0 rfl (by kernel_rfl) (fun _ _ _ h=>h) (by rfl) ?_ (by assumption) ?_
   rotate_left
   ·(intro w hSw;(try dsimp only at hSw);(try go_simp);(try with_reducible rfl))
   (try simp only [Act.put,pus])
   refine tk (v:=?_) 1 rfl (by kernel_rfl) (fun _ _ _ h=>h) (by rfl) ?_ (by assumption) ?_
   rotate_left
   ·(intro w hSw;(try dsimp only at hSw);(try go_simp);(try with_reducible rfl))
   (try simp only [Act.put,pus])
   refine tk (v:=?_) 2 rfl (by kernel_rfl) (fun _ _ _ h=>h) (by rfl) ?_ (by assumption) ?_
   rotate_left
   ·(intro w hSw;(try dsimp only at hSw);(try go_simp);(try with_reducible rfl))
   (try simp only [Act.put,pus])
   refine tk (v:=?_) 3 rfl (by kernel_rfl) (fun _ _ _ h=>h) (by rfl) ?_ (by assumption) ?_
   rotate_left
   ·(intro w hSw;(try dsimp only at hSw);(try go_simp);(try with_reducible rfl))
   (try simp only [Act.put,pus])
   refine tk (v:=?_) 4 rfl (by kernel_rfl) (fun _ _ _ h=>h) (by rfl) ?_ (by assumption) ?_
   rotate_left
   ·(intro w hSw;(try dsimp only at hSw);(try go_simp);(try with_reducible rfl))
   (try simp only [Act.put,pus])
   refine tk (v:=?_) 5 rfl (by kernel_rfl) (fun _ _ _ h=>h) (by rfl) ?_ (by assumption) ?_
   rotate_left
   ·(intro w hSw;(try dsimp only at hSw);(try go_simp);(try with_reducible rfl))
   (try simp only [Act.put,pus])
   refine tk (v:=?_) 6 rfl (by kernel_rfl) (fun _ _ _ h=>h) (by rfl) ?_ (by assumption) ?_
   rotate_left
   ·(intro w hSw;(try dsimp only at hSw);(try go_simp);(try with_reducible rfl))
   (try simp only [Act.put,pus])
   refine tk (v:=?_) 10 rfl (by kernel_rfl) (fun _ _ _ h=>h) (by rfl) ?_ (by assumption) ?_
   rotate_left
   ·(intro w hSw;(try dsimp only at hSw);(try go_simp);(try with_reducible rfl))
   (try simp only [Act.put,pus])
   refine wpAnyH_ready (rs:=[7]) (by kernel_rfl) (by simp) ?_
   refine AllReadyH.cons (o:=_) rfl (fun K hK=>?_) ?_
   ·go_simp
    (with_reducible refine(pivots_many p av d cv _ s0).mono ?_);rintro e9 y1 ⟨rfl,rfl⟩
    refine hK.out _ _ ?_ (fun hHeld2=>?_)
    ·exact⟨s0,s1⟩
    clear hK K hHeld
    have hHeld:=hHeld2
    clear hHeld2
    (try simp only [Act.put,pus])
    refine tk (v:=?_) 8 rfl (by kernel_rfl) (fun _ _ _ h=>h) (by rfl) ?_ (by assumption) ?_
    rotate_left
    ·(intro w hSw;(try dsimp only at hSw);(try go_simp);(try with_reducible rfl))
    (try simp only [Act.put,pus])
    refine tk (v:=?_) 9 rfl (by kernel_rfl) (fun _ _ _ h=>h) (by rfl) ?_ (by assumption) ?_
    rotate_left
    ·(intro w hSw;(try dsimp only at hSw);(try go_simp);(try with_reducible rfl))
    (try simp only [Act.put,pus])
    refine wpAnyH_done (by kernel_rfl) ?_ _
    go_wp2_with fail
    go_meet
    exact⟨_,_,rfl,rfl,rfl,fun h=>(by rw [HS3.out.hra (by omega),Option.map_some,Addr.add_off,Nat.zero_add]),⟨by omega,by omega⟩,hE3⟩
   exact AllReadyH.nil
 case rest=>
  obtain⟨a24,c24,rfl,rfl,rfl,ha24,hc24,hy⟩:=hcut
  have HY:=Lib.hid hy
  have HA:=Lib.hid ha24
  clear hy ha24 hE3 s0 s1 HS3 z3
  go_wp2_with fail
  go_loopw [4,26] (fun s v wr=>∃q:Nat,q≤m - d∧s=.slice none 0 0∧v=.int .i64 q∧(∀r,r<q→(elimX m A n).M (d+r) n=0)∧Ext x2 wr) (fun _ v _=>(m - d) - (intOf v).toNat)
  case atStart=>exact⟨0,Nat.zero_le _,rfl,rfl,fun r hr=>by omega,HY.out⟩
  case round=>
   obtain⟨q,hq,rfl,rfl,hal,hxr⟩:=hrel
   have q0:(0:Int)≤(q:Int):=by omega
   by_cases hqm:q<m - d
   ·have q1:(q:Int)< ((m - d:Nat):Int):=by omega
    have hw1:IntKind.i64.wrap ((q:Int)+1)= (q:Int)+1:=IntWalk.i64_in _ (by omega)
    obtain rfl:=HA.out (by omega)
    have hs:=HS2.out.ext hxr
    have hdq:d+q<m:=by omega
    have c0:=hs.top hdq
    have hcp:=hs.cap (d+q) hdq
    have n0:(0:Int)≤(n:Int):=by omega
    have n1:(n:Int)< ((n+1:Nat):Int):=by omega
    obtain⟨e0,e1,e2,e3⟩:=(hs.row (d+q) hdq).cells (c:=n) (by omega)
    have hv:=hs.val (d+q) hdq n (by omega)
    generalize hx:V2 (d+q) n=x at *
    obtain⟨nx,ax,qx,cx,mx,bx,kx,dx⟩:=x
    dsimp only [RatC.val] at e0 e1 e2 e3 hv
    have HV:=Lib.hid hv
    have HXR:=Lib.hid hxr
    have HAL:=Lib.hid hal
    clear hs hv hx hxr hal
    go_wp2_with fail
    refine(matrix_is nx mx ax bx qx cx kx dx _ _ HV.out).mono ?_
    rintro e9 y1 ⟨rfl,hy⟩
    have HX4:=Lib.hid (HXR.out.trans hy)
    clear hy e0 e1 e2 e3 c0 HV
    by_cases hz:(elimX m A n).M (d+q) n=0
    ·rw [decide_eq_true hz]
     have HZ:=Lib.hid hz
     clear hz
     go_wp2_with fail
     go_roundw
     case rel=>exact⟨q+1,by omega,rfl,by go_num,fun r hr=>(by
      by_cases e:r=q
      ·rw [e];exact HZ.out
      ·exact HAL.out r (by omega)),HX4.out⟩
     case measure=>simp [intOf];omega
    ·rw [decide_eq_false hz]
     have hok:okB m n (elimX m A n)=false:=by
      cases hb:okB m n (elimX m A n)
      ·rfl
      ·exact absurd (okB_iff.1 hb (d+q) (by rw [HD.out];omega) hdq) hz
     have HOK:Hid (SolP m n A w (.returned (.tuple #[.slice none 0 0,.bool false])) y1):=Lib.hid ⟨none,0,fun _=>⟨false,none,0,0,false,none,0,0⟩,by rw [hok];rfl,by rw [hok];exact RowR.nil' _ _ _,HX2.out.trans HX4.out⟩
     clear hz hok
     go_wp2_with fail
     go_ret2
     exact HOK.out
   ·have q1:¬ (q:Int)< ((m - d:Nat):Int):=by omega
    have hok:okB m n (elimX m A n)=true:=okB_iff.2 fun r h1 h2=>by
     have:=hal (r - d) (by rw [HD.out] at h1;omega)
     rwa [show d+ (r - d)=r from by rw [HD.out] at h1;omega] at this
    have HOK:=Lib.hid hok
    have HXR:=Lib.hid hxr
    have HS5:=Lib.hid (HS2.out.ext hxr)
    have HX5:=Lib.hid (HX2.out.trans hxr)
    clear hal hok hxr HS2 HXR HX2 HY HA
    generalize hwr:wr=x5 at *
    clear hwr
    have n0:(0:Int)≤(n:Int):=by omega
    go_wp2_with fail
    go_loopw [4,38] (fun s v wr=>∃c:Nat,c≤n∧v=.int .i64 c∧∃L,OwnRats wr x5.heap.size s L (List.replicate c 0)∧Ext x5 wr) (fun _ v _=>n - (intOf v).toNat)
    case atStart=>exact⟨0,Nat.zero_le _,rfl,[],OwnRats.nil _ _,Ext.refl _⟩
    case round=>
     obtain⟨c,hc,rfl,L,hO,hxr⟩:=hrel
     have c0:(0:Int)≤(c:Int):=by omega
     obtain⟨va,vc,rfl,hvl,hvc⟩:=hO.form
     have hLl:L.length=c:=by have:=hO.len;rwa [List.length_replicate] at this
     have HLL:=Lib.hid hLl
     have HO:=Lib.hid hO
     have HXR:=Lib.hid hxr
     clear hO hxr hLl
     by_cases hcn:c<n
     ·have c1:(c:Int)< (n:Int):=by omega
      have hw1:IntKind.i64.wrap ((c:Int)+1)= (c:Int)+1:=IntWalk.i64_in _ (by omega)
      go_wp2_with fail
      refine(matrix_zero _).mono ?_
      rintro e9 y1 ⟨v9,rfl,⟨nz,az,qz,cz,bz,kz,dz,rfl,hv',hf',hg'⟩,hy⟩
      have hlt:=HO.out.lt
      have hoff:RatC.Off ⟨nz,az,qz,cz,false,bz,kz,dz⟩ (Value.slice va L.length vc).ownBlock:=⟨fun _ A hA e=>by have:=hf' A hA;have:=(hlt _ e).2;omega,fun _ A hA e=>by have:=hg' A hA;have:=(hlt _ e).2;omega⟩
      have hya:=Ext.alloc y1 (.cells #[.bool nz,.slice az qz cz,.bool false,.slice bz kz dz] 44)
      have HBz:=Lib.hid (Blk.new0 y1 #[.bool nz,.slice az qz cz,.bool false,.slice bz kz dz] 44)
      have HXa:=Lib.hid ((HXR.out.trans hy).trans hya)
      have HOa:=Lib.hid ((HO.out.ext hy).ext hya)
      have HVa:=Lib.hid (RatV.ext hv' hya)
      have HOFF:=Lib.hid hoff
      clear hlt hoff hya hy hv' hf' hg' HO HXR
      go_wp2_with (at_builtin;refine wpl_append_rat rfl (.tmp 40) (.tmp 42) rfl HXa.out rfl HOa.out rfl (x:=⟨nz,az,qz,cz,false,bz,kz,dz⟩) (r:=0) HBz.out HVa.out HOFF.out (by have:=HLL.out;omega) ?_;intro v' w3 hO' hE' hg' hat')
      obtain⟨ua,uc,rfl,hul,huc⟩:=hO'.form
      go_roundw
      case rel=>exact⟨c+1,by omega,by go_num,_,(by rw [List.replicate_succ'];exact hO'),hE'⟩
      case measure=>simp [intOf];omega
     ·have c1:¬ (c:Int)< (n:Int):=by omega
      have hce:c=n:=by omega
      have HFL:Hid (0<n→∃gx,va=some ⟨gx,0,none⟩∧x5.heap.size≤gx∧Fill wr gx n (fun c=>L.getD c ⟨false,none,0,0,false,none,0,0⟩) (fun _=>0)):=Lib.hid fun h0=>by
       obtain⟨gx,cx,e1,e2,e3,e4,e5⟩:=HO.out.fill (by have:=HLL.out;omega)
       simp only [Value.slice.injEq,true_and] at e1
       refine⟨gx,e1.1,e2,?_⟩
       rw [show L.length=n by have:=HLL.out;omega] at e5
       refine⟨e5.row,fun c2 hc2=>?_,e5.off⟩
       have h9:=e5.val c2 hc2
       have e0:(List.replicate c (0:Rat)).getD c2 0=0:=by rw [List.getD_eq_getElem?_getD,List.getElem?_replicate];split <;> rfl
       rw [e0] at h9
       exact h9
      have hvn:va=none→vc=0:=fun e9=>by
       rcases HO.out.own.2 with⟨h1,_⟩ | ⟨gx,cx,cur,h1,_⟩
       ·simp only [Value.slice.injEq] at h1;exact h1.2.2
       ·simp only [Value.slice.injEq,e9] at h1;exact absurd h1.1 (by simp)
      have HVN:=Lib.hid hvn
      clear hvn
      have hLn:L.length=n:=by have:=HLL.out;omega
      rw [hLn] at hvl ⊢
      have HS6:=Lib.hid (HS5.out.ext HXR.out)
      have s0:World.cell? wr ⟨p,0,none⟩=some (.slice av d cv):=HS6.out.box.cell rfl
      generalize (fun c=>L.getD c ⟨false,none,0,0,false,none,0,0⟩:Nat→RatC)=V0 at *
      clear hLn HLL HO hce
      go_wp2_with fail
      clear s0
      generalize hwr:wr=x6 at *
      clear hwr
      go_loopw [51] (fun v wr=>∃i:Nat,i≤d∧v=.int .i64 i∧Ext x5 wr∧(0<n→∃gx V f,va=some ⟨gx,0,none⟩∧x5.heap.size≤gx∧Fill wr gx n V f∧∀c,c<n→f c=if c∈(elimX m A n).ps.take i then(elimX m A n).M ((elimX m A n).ps.idxOf c) n else 0)) (fun v _=>d - (intOf v).toNat)
      case atStart=>exact⟨0,Nat.zero_le _,rfl,HXR.out,fun h0=>by
       obtain⟨gx,e1,e2,e3⟩:=HFL.out h0
       exact⟨gx,_,_,e1,e2,e3,fun c hc=>by rw [List.take_zero,if_neg (by simp)]⟩⟩
      case round=>
       obtain⟨i,hi,rfl,hxy,hfl⟩:=hrel
       have i0:(0:Int)≤(i:Int):=by omega
       by_cases hid:i<d
       ·have i1:(i:Int)< (d:Int):=by omega
        have hw1:IntKind.i64.wrap ((i:Int)+1)= (i:Int)+1:=IntWalk.i64_in _ (by omega)
        obtain⟨k,hk⟩:∃k,(elimX m A n).ps[i]? =some k:=⟨_,List.getElem?_eq_getElem (by rw [HD.out];exact hid)⟩
        have hkn:k<n:=HECH.out.lt k (List.mem_of_getElem? hk)
        obtain⟨b9,cv9,e9,c9⟩:=(HS5.out.ext hxy).pivot hk
        simp only [Value.slice.injEq] at e9
        obtain⟨rfl,-,rfl⟩:=e9
        have him:i<m:=by omega
        have hs:=HS5.out.ext hxy
        have s1:World.cell? wr ⟨p,1,none⟩=some (.slice ra m rc):=hs.box.cell rfl
        obtain rfl:=hs.hra (by omega)
        have c0:=hs.top him
        have hcp:=hs.cap i him
        have n1:(n:Int)< ((n+1:Nat):Int):=by omega
        have k0:(0:Int)≤(k:Int):=by omega
        have k1:(k:Int)< (n:Int):=by omega
        obtain⟨e0,e1,e2,e3⟩:=(hs.row i him).cells (c:=n) (by omega)
        have hv:=hs.val i him n (by omega)
        have hv5:=HS5.out.val i him n (by omega)
        obtain⟨gx,V,f,rfl,hgx,hf,hfe⟩:=hfl (by omega)
        generalize hx:V2 i n=x at *
        obtain⟨nx,ax,qx,cx,mx,bx,kx,dx⟩:=x
        dsimp only [RatC.val] at e0 e1 e2 e3 hv hv5
        have hoff:RatC.Off ⟨nx,ax,qx,cx,mx,bx,kx,dx⟩ (some gx):=⟨fun hq A hA e=>by have:=hv5.num.lt hq A hA;simp only [Option.some.injEq] at e;omega,fun hq A hA e=>by have:=hv5.den.lt hq A hA;simp only [Option.some.injEq] at e;omega⟩
        obtain⟨PP,_⟩:=hf.row.put hkn ⟨nx,ax,qx,cx,mx,bx,kx,dx⟩
        obtain⟨p0,p1,p2,p3,⟨_,p4⟩,⟨_,p5⟩,⟨_,p6⟩,⟨_,p7⟩⟩:=PP
        dsimp only at p0 p1 p2 p3 p4 p5 p6 p7
        have HF2:=Lib.hid (hf.put hkn hv hoff)
        have HXY:Hid (Ext x5 (set4U wr gx k ⟨nx,ax,qx,cx,mx,bx,kx,dx⟩)):=Lib.hid ((((hxy.set (p:=⟨gx,k*4,none⟩) hgx _).set (p:=⟨gx,k*4+1,none⟩) hgx _).set (p:=⟨gx,k*4+2,none⟩) hgx _).set (p:=⟨gx,k*4+3,none⟩) hgx _)
        have HFE:=Lib.hid hfe
        have HK:=Lib.hid hk
        have HGX:=Lib.hid hgx
        clear hs hv hv5 hx hoff hf hfe hfl hxy hgx hk
        go_wp2_with fail
        clear p0 p1 p2 p3 p4 p5 p6 p7
        go_roundw
        case rel=>exact⟨i+1,by omega,by go_num,HXY.out,fun _=>⟨gx,_,_,rfl,HGX.out,HF2.out,fun c hc=>sol_step HECH.out HK.out (HFE.out c hc)⟩⟩
        case measure=>simp [intOf];omega
       ·have i1:¬ (i:Int)< (d:Int):=by omega
        have HSO:Hid (SolP m n A w (.returned (.tuple #[.slice va n vc,.bool true])) wr):=Lib.hid (by
         by_cases h0:0<n
         ·obtain⟨gx,V,f,rfl,hgx,hf,hfe⟩:=hfl h0
          refine⟨_,vc,V,by rw [HOK.out];rfl,?_,HX5.out.trans hxy⟩
          rw [HOK.out,if_pos rfl]
          refine hf.read ⟨hvl,hvc⟩ fun c hc=>?_
          rw [hfe c hc,List.take_of_length_le (by rw [HD.out];omega)]
          rfl
         ·refine⟨va,vc,fun _=>⟨false,none,0,0,false,none,0,0⟩,by rw [HOK.out];rfl,?_,HX5.out.trans hxy⟩
          rw [HOK.out,if_pos rfl]
          exact⟨hvl,hvc,HVN.out,fun A hA c hc=>by omega,fun c hc=>by omega⟩)
        clear hfl hxy
        go_wp2_with fail
        go_ret2
        exact HSO.out
end Go.Proofs.YtokffagbdfhnnaaGreat
