import Derived.Test.YtolffmmkjnhkkaaGreatPMov
namespace Go.Proofs.YtolffmmkjnhkkaaGreat
open Go.RowKit Go BigFrame Go.Shelf
set_option maxRecDepth 100000
set_option linter.unusedSimpArgs false
def DivP (l m:List Int) (arg:Option Addr) (w:World) (e:Ending) (w':World):Prop:=
 ∃aq cq ar cr,e=.returned (.tuple #[.slice aq (digs (dval l / dval m).toNat).length cq,.slice ar (digs (dval l % dval m).toNat).length cr])∧
  Ints w' aq cq (digs (dval l / dval m).toNat)∧Ints w' ar cr (digs (dval l % dval m).toNat)∧(∀A,aq=some A→w.heap.size≤A.block)∧(∀A,ar=some A→w.heap.size≤A.block∨∃A',arg=some A'∧A.block=A'.block)∧Ext w w'
set_option maxHeartbeats 1000000 in
theorem nat_div_lt (a b:Option Addr) (ca cb:Nat) (l m:List Int) (w:World) (h:Ints w a ca l) (k:Ints w b cb m) (hl:Norm l) (hm:Norm m) (hlt:dval l<dval m):
 Calls Tryz.prog 87 #[.slice a l.length ca,.slice b m.length cb] w (DivP l m a w):=by
 have HC:=Lib.hid (nat_compare a b ca cb l m w h k hl hm)
 have p1:=dval_nonneg hl.digs
 have hc:decide (cmpI (dval l) (dval m)<0)=true:=by rw [decide_eq_true_eq,cmpI_lt hlt];omega
 have hq:digs (dval l / dval m).toNat=[]:=by rw [Int.ediv_eq_zero_of_lt p1 hlt];exact digs_zero
 have hr:digs (dval l % dval m).toNat=l:=by rw [Int.emod_eq_of_lt p1 hlt];exact digs_of hl
 have HI:=Lib.hid h
 have HF:=Lib.hid (fun w' (hy:Ext w w')=>show DivP l m a w (.returned (.tuple #[.slice none 0 0,.slice a l.length ca])) w' from
  ⟨none,0,a,ca,by rw [hq,hr];rfl,by rw [hq];exact⟨Nat.le_refl _,by omega,fun _=>rfl,fun A hA=>by cases hA⟩,by rw [hr];exact HI.out.ext hy,fun A hA=>by(cases hA),fun A hA=>.inr ⟨A,hA,rfl⟩,hy⟩)
 generalize cmpI (dval l) (dval m)=cm at *
 clear hq hr h k hl hm hlt p1 HI
 go_enter Tryz.func87,Tryz.ntmps87
 go_wp2_with fail
 refine HC.out.mono ?_
 rintro e w2 ⟨rfl,hy⟩
 go_wp2_with fail
 go_ret2
 exact HF.out w2 hy
set_option maxHeartbeats 1000000 in
theorem nat_div_one (a b:Option Addr) (ca cb:Nat) (l:List Int) (d:Int) (w:World) (h:Ints w a ca l) (k:Ints w b cb [d]) (hl:Norm l) (hm:Norm [d]) (h1:l.length≤99999) (hge:d≤dval l):
 Calls Tryz.prog 87 #[.slice a l.length ca,.slice b 1 cb] w (DivP l [d] a w):=by
 obtain⟨d0,d1,d2,_⟩:=hm
 have d3:d≠0:=d2 rfl
 have hdv:dval [d]=d:=by simp [dval]
 have HC:=Lib.hid (nat_compare a b ca cb l [d] w h k hl ⟨d0,d1,d2,trivial⟩)
 have hc:decide (cmpI (dval l) (dval [d])<0)=false:=by rw [decide_eq_false_iff_not,hdv];unfold cmpI;split <;> (try split) <;> omega
 obtain⟨bb,bo,rfl⟩:=k.head (i:=0) (by simp)
 have HK:=Lib.hid (fun W (hy:Ext w W)=>show W.cell? ⟨bb,bo,none⟩=some (.int .i64 d) from((k.ext hy).cell (i:=0) (by simp)).1)
 have HS:=Lib.hid (fun W (hy:Ext w W)=>nat_short a ca l d W (h.ext hy) hl.digs (by omega) (by omega) (by omega))
 have hr0:0≤dval l % d:=Int.emod_nonneg _ d3
 have hr1:dval l % d<d:=Int.emod_lt_of_pos _ (by omega)
 have hcb:=k.le
 have hcm:=k.mx
 simp only [List.length_singleton] at hcb
 generalize cmpI (dval l) (dval [d])=cm at *
 obtain⟨R,hR⟩:∃R,dval l % d=R:=⟨_,rfl⟩
 have htr:trimL [R]=digs R.toNat:=by
  rw [trim_eq (fun x hx=>by obtain rfl:=List.mem_singleton.1 hx;omega)]
  simp [dval]
 have HTR:=Lib.hid htr
 have hR2:=hR
 clear h k hl htr
 go_enter Tryz.func87,Tryz.ntmps87
 go_wp2_with fail
 refine HC.out.mono ?_
 rintro e w2 ⟨rfl,hy⟩
 have c0:=HK.out w2 hy
 have HS2:=Lib.hid (HS.out w2 hy)
 go_wp2_with fail
 refine HS2.out.mono ?_
 rintro e w3 ⟨v,rfl,hO,hy3⟩
 rw [hR]
 obtain⟨aq,cq,rfl,hiq,hbq⟩:=hO.form0 (digs_norm _).digs
 have hIR:Ints (w3.alloc (.cells #[.int .i64 R] 3)) (some ⟨w3.heap.size,0,none⟩) 1 [R]:=IB.ints (g:=w3.heap.size) (L:=[R]) (Blk.new0 w3 #[.int .i64 R] 3) (fun x hx=>by obtain rfl:=List.mem_singleton.1 hx;omega) (by simp)
 have hTC:=nat_trim _ _ _ _ hIR
 have hIT:=hIR.take (trimL [R]).length
 rw [←trim_take,HTR.out] at hIT
 rw [HTR.out] at hTC
 have HTC:=Lib.hid hTC
 have hy4:=(hy.trans hy3).alloc' (.cells #[.int .i64 R] 3)
 have h43:=Ext.alloc w3 (.cells #[.int .i64 R] 3)
 have HIQ:=Lib.hid (hiq.ext h43)
 have HIT:=Lib.hid hIT
 have hs3:w2.heap.size≤w3.heap.size:=hy3.size
 have hs2:=hy.size
 have HBQ:=Lib.hid hbq
 clear hO hiq hIR hTC hIT c0 HS2 hbq h43
 go_wp2_with fail
 refine HTC.out.mono ?_
 rintro e w5 ⟨rfl,rfl⟩
 go_wp2_with fail
 go_ret2
 refine⟨aq,cq,some ⟨w3.heap.size,0,none⟩,1,by rw [hdv,hR2];rfl,by rw [hdv];exact HIQ.out,by rw [hdv,hR2];exact HIT.out,fun A hA=>by have:=HBQ.out A hA;omega,fun A hA=>.inl (by cases hA;dsimp only;omega),hy4⟩
end Go.Proofs.YtolffmmkjnhkkaaGreat
