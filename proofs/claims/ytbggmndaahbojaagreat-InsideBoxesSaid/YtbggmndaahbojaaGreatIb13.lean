/- Part 13 of the proof of IB.row_holds: no condition beyond the row's. -/
import Derived.Test.YtbggmndaahbojaaGreatIb12
import Derived.RangeFuncFrom
import Derived.RangeFuncLeaves
import Derived.RangeFuncBox
import Derived.OrdersIn
import Derived.TacticsIn
import Derived.IntWalk
import Derived.OwnWalkIn
import Derived.BigFrameIn
import Derived.Maps.OwnIn
set_option maxRecDepth 100000
set_option maxHeartbeats 40000000
namespace Go.Proofs.YtbggmndaahbojaaGreat
open Go.RowKit
structure Jm (Pv:Nat->Prop) (W W':World):Prop where
 os:W'.os=W.os
 tape:W'.tape=W.tape
 output:W'.output=W.output
 size:W.heap.size<=W'.heap.size
 block:∀b,b<W.heap.size->¬Pv b->W'.heap[b]?=W.heap[b]?
theorem Jm.refl (Pv:Nat->Prop) (W:World):Jm Pv W W:=⟨rfl,rfl,rfl,Nat.le_refl _,λ_ _ _=>rfl⟩
theorem Jm.trans {Pv:Nat->Prop} {A B C:World} (h:Jm Pv A B) (k:Jm Pv B C):Jm Pv A C:=
 ⟨k.os.trans h.os,k.tape.trans h.tape,k.output.trans h.output,Nat.le_trans h.size k.size,λb hb hn=>(k.block b (Nat.lt_of_lt_of_le hb h.size) hn).trans (h.block b hb hn)⟩
theorem Jm.mono {Pv Pv':Nat->Prop} {A B:World} (h:Jm Pv A B) (hp:∀b,Pv b->Pv' b):Jm Pv' A B:=⟨h.os,h.tape,h.output,h.size,λb hb hn=>h.block b hb (λe=>hn (hp b e))⟩
theorem Jm.putObj {Pv:Nat->Prop} (W:World) (l:Nat) (o:Obj) (hl:Pv l):Jm Pv W (W.putObj l o):=
 ⟨rfl,rfl,rfl,by simp,λb _ hn=>World.putObj_heap_other (λe=>hn (by rw[e];exact hl))⟩
theorem Jm.cell {Pv:Nat->Prop} {W W':World} (h:Jm Pv W W') {b o:Nat} (hb:b<W.heap.size) (hn:¬Pv b):W'.cell? ⟨b,o,none⟩=W.cell? ⟨b,o,none⟩:=World.cell?_of_block (h.block b hb hn)
theorem Mh {f:FuncId} {fn:Func} {c:Code} {args:Array Value} {w:World} {R:Ending->World->Prop} (hf:Tryz.prog.funcs[f]?=some fn) (hb:fn.body=some c)
  (h:c.wp Tryz.prog (bodyPostM Fence.wide 0 Tryz.prog fn R) { tmps:=args++Array.replicate (fn.ntmps-args.size) undef,defers:=[] } w):Calls Tryz.prog f args w R:=
 callsIn_wide.1 (callsIn_of_wp_marks (n:=0) hf hb trivial (wpIn_wide.2 h))
def Aid (r:Nat):Deferred:={ target:= .collected r,args:=#[] }
def Akz (d:Deferred):Prop:=∃fv cap f args,d.target= .fn fv cap/\∀w,(invoke d.target d.args).run Tryz.prog w= .ok (.enter f args) w/\CallsDIn Fence.wide 0 Tryz.prog f args .returning w λe u w'=>(∃v,e= .returned v)/\u= .returning/\w'=w
inductive Vh:List Nat->List Deferred->Prop
 |nil:Vh [] []
 |mark (r:Nat) {rs ds} (h:Vh rs ds):Vh (r::rs) (Aid r::ds)
 |idle {d rs ds} (hd:Akz d) (h:Vh rs ds):Vh rs (d::ds)
theorem gA {fn:Func} {tmps:Array Value} {R:Ending->World->Prop} {rs:List Nat} {ds:List Deferred} (hl:Vh rs ds):∀(W:World),rs.Nodup->(∀r∈rs,W.heap[r]?=some (.deferred (some [])))->
  (∀W',Jm (·∈rs) W W'->W'.heap.size=W.heap.size->∃v,(results fn tmps).run Tryz.prog W'= .ok v W'/\R (.returned v) W')->LeavesInM Fence.wide 0 Tryz.prog fn tmps R ds .returning W:=by
 induction hl with
 |nil=>
  intro W _ _ h
  obtain⟨v,h1,h2⟩:=h W (Jm.refl _ _) rfl
  exact⟨v,h1,h2⟩
 |mark r hl ih=>
  rename_i rs ds
  intro W hn hr h
  obtain⟨hnr,hns⟩:=List.nodup_cons.1 hn
  refine⟨by simp,.inl ⟨r,_,rfl,run_takeDeferred (hr r (by simp)),ih _ hns (λr' hr'=>?_) λW' hk hz=>?_⟩⟩
  exact(World.putObj_heap_other (λe=>hnr (by rw[<-e];exact hr'))).trans (hr r' (by simp[hr']))
  exact h W' ((Jm.putObj W r _ (by simp)).trans (hk.mono λb hb=>by simp[hb])) (by rw[hz,World.putObj_size])
 |idle hd hl ih=>
  intro W hn hr h
  obtain⟨fv,cap,f,args,ht,hi⟩:=hd
  refine⟨by simp,.inr ⟨λh=>by simp[Fence.wide] at h,fv,cap,f,args,ht,(hi W).1,λ_ _=>trivial,(hi W).2.mono λe u w' ⟨⟨v,e1⟩,e2,e3⟩=>?_⟩⟩
  subst e1 e2 e3
  exact ih _ hn hr h
theorem Qz {fn:Func} {a:Act} {W:World} {R:Ending->World->Prop} (rs:List Nat) (hd:Vh rs a.defers) (hn:rs.Nodup) (hr:∀r∈rs,W.heap[r]?=some (.deferred (some [])))
  (h:∀W',Jm (·∈rs) W W'->W'.heap.size=W.heap.size->∃v,(results fn a.tmps).run Tryz.prog W'= .ok v W'/\R (.returned v) W'):bodyPostM Fence.wide 0 Tryz.prog fn R .ret a W:=
 gA hd W hn hr h
end Go.Proofs.YtbggmndaahbojaaGreat