/- Part 12 of the proof of PH.card_holds: no condition beyond the row's. -/
import Derived.Test.YtkpjchfniejdoaaGreatDoorPH11
import Derived.TacticsIn
set_option maxRecDepth 100000
set_option maxHeartbeats 40000000
namespace Go.Proofs.YtkpjchfniejdoaaGreatDoor
open Go.RowKit
variable {P:Program} {ops:Array Oper} {n N:Nat} {C:World->Prop} {R:Nat->Value->World->Prop} {a0:Act} {Q:Exit->Act->World->Prop}
theorem Aem {row:String} {args:Array Value} {w:World} {S:Value->World->Prop} (h:Rows P row args w S):RowsIn Fence.wide 0 P row args w S:=
 λc cs _=>let ⟨v,w',r,s⟩:=h c cs;⟨v,w',r,stepsIn_wide.2 s⟩
theorem jQ {o:Oper} {a:Act} {w:World} {K:Act->World->Prop} (h:o.wp P a w K Q):o.wpIn Fence.wide 0 P a w K Q:=by
 refine⟨λ_ _=>trivial,?_⟩
 unfold Oper.wp at h
 show o.uponIn Fence.wide 0 P a K Q ((o.semAt none a.eval).run P w)
 rw[show o.semAt none a.eval=execOp a.eval o from rfl]
 generalize (execOp a.eval o).run P w=r at*
 cases r with
 |ok x w'=>
  cases x<;>simp only[Oper.upon] at h<;>simp only[Oper.uponIn]<;>first
   |exact h
   |exact⟨λhd=>by simp[Fence.wide] at hd,callsIn_wide.2 h⟩
   |exact⟨λhd=>by simp[Fence.wide] at hd,Aem h⟩
 |halt x w'=>cases x<;>simp only[Oper.upon] at h<;>simp only[Oper.uponIn]<;>exact h
theorem tP (hS:Yb .any ops n N) (hN:a0.tmps.size=N) (hst:∀j v w w',Below w.heap.size w w'->R j v w->R j v w') (hop:∀i o,i<n->ops[i]?=some o->Mk P ops n C R a0 Q i o)
  {listed:Array Bool} {σ:Nat->Value} {a:Act} {w:World} (hsz:listed.size=ops.size) (h:Mid ops n C R a0 listed σ a w) {i:Nat} (hi:i∈Region.ready .any ops listed) (hin:i<n) {K:Act->World->Prop}
  (hK:∀σ' a' w',Mid ops n C R a0 (listed.setIfInBounds i true) σ' a' w'->K a' w'):wpOpIn Fence.wide 0 P ops Q i K a w:=by
 obtain⟨hun,oi,hoi,hall⟩:=mem_ready.1 hi
 obtain⟨o,ho,hg,_,_,_⟩:=hS.op i hin
 obtain rfl:oi=o:=Option.some.inj (hoi.symm.trans ho)
 have hw:Region.wanted oi (yielded ops a.tmps)=true:=by simp[Region.wanted,hg]
 have hstep:oi.wp P a w K Q:=Abk hS hN hst hop hsz h hi hin hK hoi
 unfold wpOpIn
 simp only[hoi,hw,if_true]
 exact jQ hstep
theorem Vd {F:Fence} {m:Nat} {md:Region.Mode}:∀(l:List Oper) (k:Nat) (listed:Array Bool) (a:Act) (w:World),(∀j,l[j]?=ops[k+j]?)->
  Region.seqB md ops l.length k listed=true->wpListIn F m P ops Q l a w->wpAnyIn F m P md ops Q l.length listed a w
 |[],_,_,_,_,_,hB,h=>⟨by simpa [Region.seqB] using hB,h⟩
 |o::l,k,listed,a,w,hl,hB,h=>by
  have h0:ops[k]?=some o:=by simpa using (hl 0).symm
  simp only[List.length_cons,Region.seqB,Bool.and_eq_true,decide_eq_true_eq] at hB
  refine⟨λh1=>(by rw[hB.1] at h1;cases h1),λi hi=>?_⟩
  rw[hB.1] at hi
  have hik:i=k:=by simpa using hi
  subst hik
  have hw:wpOpIn F m P ops Q i (wpListIn F m P ops Q l) a w:=by unfold wpOpIn;simp only[h0];exact h
  exact wpOpIn_mono (λa' w' h'=>Vd l (i+1) _ a' w' (λj=>by have:=hl (j+1);simpa [Nat.add_assoc,Nat.add_comm 1 j] using this) hB.2 h') hw
theorem gE (hS:Yb .any ops n N) (hN:a0.tmps.size=N) (hst:∀j v w w',Below w.heap.size w w'->R j v w->R j v w') (hop:∀i o,i<n->ops[i]?=some o->Mk P ops n C R a0 Q i o)
  (htail:∀σ w,C w->(∀j,j<n->R j (σ j) w)->wpListIn Fence.wide 0 P ops Q (ops.toList.drop n) (Dk ops a0 σ n) w) (hn:n<=ops.size):
  ∀(c:Nat) (listed:Array Bool) (σ:Nat->Value) (a:Act) (w:World),left n listed=c->HeadInv .any ops n listed->Mid ops n C R a0 listed σ a w->wpAnyIn Fence.wide 0 P .any ops Q (c+(ops.size-n)) listed a w
 |0,listed,σ,a,w,hl,inv,h=>by
  obtain⟨hlist,ha⟩:=tO hS hN hn hl inv h
  rw[Nat.zero_add]
  have hlen:(ops.toList.drop n).length=ops.size-n:=by simp
  have:=Vd (P:=P) (ops:=ops) (Q:=Q) (F:=Fence.wide) (m:=0) (md:= .any) (ops.toList.drop n) n listed a w (λj=>by simp[List.getElem?_drop]) (by rw[hlen,hlist];exact hS.seq) (by rw[ha];exact htail σ w h.c λj hj=>h.r j hj (Rc hl j hj))
  rwa [hlen] at this
 |c+1,listed,σ,a,w,hl,inv,h=>by
  rw[show c+1+(ops.size-n)=(c+(ops.size-n))+1 by omega]
  obtain⟨hne,hsm⟩:=gJ hS hn hl inv
  refine⟨λh0=>absurd h0 hne,λi hi=>?_⟩
  have hin:=hsm i hi
  have hun:=(mem_ready.1 hi).1
  have hisz:i<listed.size:=by rw[inv.size];omega
  exact tP hS hN hst hop inv.size h hi hin λσ' a' w' h'=>
   gE hS hN hst hop htail hn c _ σ' a' w' (by have:=gQ hin hisz (getD_both hun);omega) (inv.set hi hin) h'
theorem Wl {id:Nat} {w:World} {l:List Oper} (n N:Nat) (C:World->Prop) (Rs:List (Value->World->Prop)) (hm:P.follows .mixedOrders=true) (hB:mJ .any l.toArray n N=true) (hN:a0.tmps.size=N) (hn:n<=l.length)
  (hst:∀r∈Rs,Qb r) (h0:C w.drew) (hop:AaW P l.toArray n C (oJ Rs) a0 Q n 0 l)
  (htail:∀σ w,C w->(∀j,j<n->oJ Rs j (σ j) w)->wpListIn Fence.wide 0 P l.toArray Q (l.drop n) (Dk l.toArray a0 σ n) w):(Code.region id l.toArray true).wp P Q a0 w:=by
 rw[<-wpIn_wide (n:=0)]
 have hS:=Ahv hB
 refine wpIn_region_any hm ?_
 have inv0:HeadInv .any l.toArray n (Array.replicate l.toArray.size false):=
  ⟨by simp,λj oj _ hl=>(by rw[getD_replicate_false] at hl;cases hl),λt _ ht=>getD_in (by simpa using ht) (getD_replicate_false _ _)⟩
 have hl:left n (Array.replicate l.toArray.size false)=n:=by
  unfold left
  rw[List.filter_eq_self.2 (λi _=>by rw[getD_replicate_false];rfl),List.length_range]
 have:=gE (C:=C) (R:=oJ Rs) (a0:=a0) (Q:=Q) hS hN (cK hst) (λi o hi ho=>by have:=iI n 0 l hop i o hi (by simpa using ho);rwa [Nat.zero_add] at this) htail (by simpa using hn) n _ (λ_=>undef) a0 w.drew hl inv0
  ⟨h0,rfl,rfl,λt=>by
   cases Dq l.toArray n t with
   |none=>rfl
   |some j=>simp only[getD_replicate_false,Bool.false_eq_true,if_false],λj _ hl=>by rw[getD_replicate_false] at hl;cases hl⟩
 rw[show n+(l.toArray.size-n)=l.toArray.size by simp;omega] at this
 exact this
theorem Ve {a:Act} {w:World} {o:Oper} {rest:List Oper} (hg:o.guard=none) (c:Operand) (xs:Array Operand) (ts:Array TypeId) (l:Nat) (args:Array Value) (ho:o.op= .call { callee:= .value c,args:=xs,argTypes:=ts })
  (hc:a.eval c= .func (.yield l) #[] #[]) (hargs:xs.map a.eval=args) {S:Ending->World->Prop} (hY:YieldAt Fence.wide 0 P l args w S)
  (h:∀e w',S e w'->∃v,e= .returned v/\wpListIn Fence.wide 0 P ops Q rest (a.put o.dst v) w'):wpListIn Fence.wide 0 P ops Q (o::rest) a w:=by
 have hw:Region.wanted o (yielded ops a.tmps)=true:=by simp[Region.wanted,hg]
 simp only[wpListIn,hw,if_true]
 refine⟨λ_ _=>trivial,?_⟩
 obtain⟨fn,tmps,assign,body,hy,hR⟩:=hY
 have hrun:(o.semAt Fence.wide.round a.eval).run P w= .ok (.round l fn tmps assign body) w:=by
  show (execOp a.eval o).run P w=_
  simp[execOp,ho,resolve,invoke,hc,hargs,Deferred.ofValue,hy]
 rw[hrun]
 refine⟨λhd=>by simp[Fence.wide] at hd,RoundIn.mono hR λe w' hS=>?_⟩
 obtain⟨v,rfl,hh⟩:=h e w' hS
 exact hh
theorem dE {a:Act} {w:World} {o:Oper} {rest:List Oper} (hg:o.guard=none) (h:o.wp P a w (wpListIn Fence.wide 0 P ops Q rest) Q):wpListIn Fence.wide 0 P ops Q (o::rest) a w:=by
 have hw:Region.wanted o (yielded ops a.tmps)=true:=by simp[Region.wanted,hg]
 simp only[wpListIn,hw,if_true]
 exact jQ h
theorem Mw {a:Act} {w:World} {o:Oper} {rest:List Oper} (hg:o.guard=none) (v:Value) (hrun:(execOp a.eval o).run P w= .ok (.value v) w) (h:wpListIn Fence.wide 0 P ops Q rest (a.put o.dst v) w):wpListIn Fence.wide 0 P ops Q (o::rest) a w:=
 dE hg (by unfold Oper.wp;rw[hrun];exact h)
end Go.Proofs.YtkpjchfniejdoaaGreatDoor