/- Part 5 of the proof of SH.row_holds, joined by program: no condition beyond the row's own. -/
import Derived.Test.YtldnjomacnjhnaaGreatH4
import Derived.Laws.IdiomStrings
set_option maxRecDepth 100000
set_option maxHeartbeats 40000000
namespace Go.Proofs.YtldnjomacnjhnaaGreat
open Go.RowKit
def lV (lo:Nat) (e:TypeId) (us:List Value) (v:Value) (w:World):Prop:=
 ∃b,lo<=b/\v= .slice (some ⟨b,0,none⟩) us.length us.length/\w.heap[b]?=some (.cells us.toArray e (0,0))
theorem oQ (lo:Nat) (e:TypeId) (us:List Value):Hp (lV lo e us):=λ_ _ _ hb ⟨b,hl,hv,hc⟩=>⟨b,hl,hv,(hb.block b (Array.getElem?_eq_some_iff.1 hc).1).trans hc⟩
theorem lV.sees {lo:Nat} {e:TypeId} {us:List Value} {v:Value} {w:World} (h:lV lo e us v w):Cc w lo w.heap.size 1 v us.length us:=by
 obtain⟨b,hl,rfl,hc⟩:=h
 refine⟨by simp,.inr ⟨b,0,_,rfl,⟨hl,(Array.getElem?_eq_some_iff.1 hc).1⟩,λj u hu=>?_⟩⟩
 simp[World.cell?,hc,hu]
section
variable {P:Program} {ops:Array Oper} {n:Nat} {R:Nat->Value->World->Prop} {a0:Act} {Q:Exit->Act->World->Prop} {W:World}
theorem AeL {i:Nat} {o:Oper} (e:TypeId) (us:List Value) (h:∀(a:Act) (w:World),Below W.heap.size W w->(∀x,x∈o.op.operands->Hf ops n R a0 x (a.eval x) w)->
  (execOp a.eval o).run P w= .ok (.value (.slice (some ⟨w.heap.size,0,none⟩) us.length us.length)) (w.alloc (.cells us.toArray e))) (hr:R i=lV W.heap.size e us):Ih P ops n (λw'=>Below W.heap.size W w') R a0 Q i o:=by
 intro a w _ hC hpre
 unfold Oper.wp
 rw[h a w hC hpre]
 refine⟨_,rfl,hC.alloc hC.size _,(Below.refl _ _).alloc (Nat.le_refl _) _,?_⟩
 rw[hr]
 exact⟨_,hC.size,rfl,heap_alloc_new _ _⟩
theorem fP {C:World->Prop} {i:Nat} {o:Oper} (x:Operand) (r:Value->World->Prop) (ho:o.op= .assign x) (hx:Hf ops n R a0 x=r) (h:∀(v:Value) (w:World),C w->r v w->R i v w):Ih P ops n C R a0 Q i o:=
 Gr λa w hC hpre=>⟨a.eval x,by simp[execOp,ho],h _ w hC (by have:=hpre x (by rw[ho];simp[Op.operands]);rw[hx] at this;exact this)⟩
theorem Rr {C:World->Prop} {i:Nat} {o:Oper} (f:FuncId) (x:Operand) (ts:Array TypeId) (r:Value->World->Prop) (ho:o.op= .call { callee:= .value (.func f),args:=#[x],argTypes:=ts }) (hcall:∀args w,(callFunc f args).run P w= .ok (.enter f args) w)
  (hx:Hf ops n R a0 x=r) (hc:∀w u,C w->r u w->Calls P f #[u] w λe w'=>∃v',e= .returned v'/\C w'/\Below w.heap.size w w'/\R i v' w'):Ih P ops n C R a0 Q i o:=by
 intro a w _ hC hpre
 have h1:=hpre x (by rw[ho];simp[Op.operands,Call.operands])
 rw[hx] at h1
 have he:a.eval (.func f)= .func (.func f) #[] #[]:=rfl
 have hrun:(execOp a.eval o).run P w= .ok (.enter f #[a.eval x]) w:=by simp[execOp,ho,resolve,invoke,he,hcall,Deferred.ofValue]
 unfold Oper.wp
 rw[hrun]
 exact(hc w _ hC h1).mono λe w' ⟨v,he,g1,g2,g3⟩=>by subst he;exact⟨v,rfl,g1,g2,g3⟩
theorem Oy {C:World->Prop} {i:Nat} {o:Oper} (f:FuncId) (x y:Operand) (ts:Array TypeId) (r r':Value->World->Prop) (ho:o.op= .call { callee:= .value (.func f),args:=#[x,y],argTypes:=ts }) (hcall:∀args w,(callFunc f args).run P w= .ok (.enter f args) w)
  (hx:Hf ops n R a0 x=r) (hy:Hf ops n R a0 y=r') (hc:∀w u v,C w->r u w->r' v w->Calls P f #[u,v] w λe w'=>∃v',e= .returned v'/\C w'/\Below w.heap.size w w'/\R i v' w'):Ih P ops n C R a0 Q i o:=by
 intro a w _ hC hpre
 have h1:=hpre x (by rw[ho];simp[Op.operands,Call.operands])
 have h2:=hpre y (by rw[ho];simp[Op.operands,Call.operands])
 rw[hx] at h1
 rw[hy] at h2
 have he:a.eval (.func f)= .func (.func f) #[] #[]:=rfl
 have hrun:(execOp a.eval o).run P w= .ok (.enter f #[a.eval x,a.eval y]) w:=by simp[execOp,ho,resolve,invoke,he,hcall,Deferred.ofValue]
 unfold Oper.wp
 rw[hrun]
 exact(hc w _ _ hC h1 h2).mono λe w' ⟨v,he,g1,g2,g3⟩=>by subst he;exact⟨v,rfl,g1,g2,g3⟩
theorem Af9 {C:World->Prop} {i:Nat} {o:Oper} (t:Nat) (c u v:Value) (ho:o.op.operands=#[.const c,.tmp t]) (hx:Hf ops n R a0 (.tmp t)=is u) (h:∀(a:Act) (w:World),C w->a.tmps[t]?.getD undef=u->(execOp a.eval o).run P w= .ok (.value v) w) (hr:R i=is v):Ih P ops n C R a0 Q i o:=
 Gr λa w hC hpre=>⟨v,h a w hC (by have:=hpre (.tmp t) (by rw[ho];simp);rw[hx] at this;simpa [Act.eval,is] using this),by rw[hr];rfl⟩
end
end Go.Proofs.YtldnjomacnjhnaaGreat
namespace Go.Proofs.YtldnjomacnjhnaaGreat
open Go.RowKit
structure aE (ops:Array Oper) (n N:Nat):Prop where
 op:∀i,i<n->∃o,ops[i]?=some o/\(∀j b,o.guard=some (j,b)->Region.waitsFor .any ops i j=true/\j<n/\∃oj d,ops[j]?=some oj/\oj.dst=some d/\Cb ops n d=some j)/\(∀t j,Operand.tmp t∈o.op.operands->Cb ops n t=some j->Region.waitsFor .any ops i j=true)/\(∀d,o.dst=some d->Cb ops n d=some i/\d<N)/\(∀e∈o.after,Region.binds .any e=true->e.on<i)
def AfZ (ops:Array Oper) (n N:Nat):Bool:=
 ((List.range n).all λi=>match ops[i]? with
  |some o=>(match o.guard with|none=>true|some (j,_)=>Region.waitsFor .any ops i j&&decide (j<n)&&(match ops[j]? with|some oj=>(match oj.dst with|some d=>Cb ops n d==some j|none=>false)|none=>false))&&
   (o.op.operands.all λx=>match x with| .tmp t=>(match Cb ops n t with|some j=>Region.waitsFor .any ops i j|none=>true)|_=>true)&&
   (match o.dst with|some d=>Cb ops n d==some i&&decide (d<N)|none=>true)&&(o.after.all λe=> !Region.binds .any e||decide (e.on<i))
  |none=>false)&&decide (n=ops.size)
theorem cF {ops:Array Oper} {n N:Nat} (hS:aE ops n N) (a0:Act) (hN:a0.tmps.size=N) (σ:Nat->Value):∀k,k<=n->∀t,(Bl ops a0 σ k).tmps.getD t undef=
  match Cb ops n t with|some j=>if j<k then σ j else a0.tmps.getD t undef|none=>a0.tmps.getD t undef
 |0,_,t=>by unfold Bl;split<;>simp
 |k+1,hk,t=>by
  obtain⟨o,ho,_,_,hd,_⟩:=hS.op k ω
  have ih:=cF hS a0 hN σ k ω t
  have e:Bl ops a0 σ (k+1)=(Bl ops a0 σ k).put o.dst (σ k):=by show (Bl ops a0 σ k).put ((ops[k]?).bind (·.dst)) (σ k)=_;rw[ho];rfl
  rw[e]
  cases hdst:o.dst with
  |none=>
   show (Bl ops a0 σ k).tmps.getD t undef=_
   rw[ih]
   cases hs:Cb ops n t with
   |none=>rfl
   |some j=>
    obtain⟨_,o',ho',hd'⟩:=Dh hs
    have hne:j≠k:=λe=>by subst e;rw[ho] at ho';cases ho';rw[hdst] at hd';cases hd'
    by_cases hj:j<k
    simp[hj,show j<k+1 by omega]
    simp[hj,show ¬j<k+1 by omega]
  |some d=>
   obtain⟨hsd,hdN⟩:=hd d hdst
   rw[Rx _ d t _ (by rw[Ke,hN];exact hdN)]
   by_cases hdt:d=t
   subst hdt;rw[if_pos rfl,hsd];simp
   rw[if_neg hdt,ih]
   cases hs:Cb ops n t with
   |none=>rfl
   |some j=>
    obtain⟨_,o',ho',hd'⟩:=Dh hs
    have hne:j≠k:=λe=>by subst e;rw[ho] at ho';cases ho';rw[hdst] at hd';cases hd';exact hdt rfl
    by_cases hj:j<k
    simp[hj,show j<k+1 by omega]
    simp[hj,show ¬j<k+1 by omega]
variable {P:Program} {ops:Array Oper} {n N:Nat} {C:World->Prop} {R:Nat->Value->World->Prop} {a0:Act} {Q:Exit->Act->World->Prop}
theorem jN (hS:aE ops n N) (hN:a0.tmps.size=N) (hst:∀j v w w',Below w.heap.size w w'->R j v w->R j v w')
  {listed:Array Bool} {σ:Nat->Value} {a:Act} {w w':World} {v:Value} (hsz:listed.size=ops.size) (h:kS ops n C R a0 listed σ a w) {i:Nat} (hin:i<n) {oi':Oper} (hoi:ops[i]?=some oi') (hc':C w') (hb':Below w.heap.size w w') (hr':R i v w'):
  kS ops n C R a0 (listed.setIfInBounds i true) (λj=>if j=i then v else σ j) (a.put oi'.dst v) w':=by
 obtain⟨o,ho,hg,hops,hd,_⟩:=hS.op i hin
 obtain rfl:oi'=o:=Option.some.inj (hoi.symm.trans ho)
 refine⟨hc',?_,?_,λt=>?_,λj hj hl=>?_⟩
 unfold Act.put;split<;>exact h.d
 unfold Act.put;split<;>simp[h.z]
 have ht:=h.t t
 have hset:(listed.setIfInBounds i true).getD i false=true:=by
  have:i<listed.size:=by rw[hsz];exact(Array.getElem?_eq_some_iff.1 hoi).1
  simp[this]
 cases hdst:oi'.dst with
 |none=>
  show a.tmps.getD t undef=_
  rw[ht]
  cases hs:Cb ops n t with
  |none=>rfl
  |some j=>
   obtain⟨_,o',ho',hd'⟩:=Dh hs
   have hne:j≠i:=λe=>by subst e;rw[hoi] at ho';cases ho';rw[hdst] at hd';cases hd'
   simp only[getD_set_ne false (Ne.symm hne),hne,if_false]
 |some d=>
  obtain⟨hsd,hdN⟩:=hd d hdst
  rw[Rx _ d t _ (by rw[h.z,hN];exact hdN)]
  by_cases hdt:d=t
  subst hdt;rw[if_pos rfl,hsd];simp only[hset,if_true]
  rw[if_neg hdt,ht]
  cases hs:Cb ops n t with
  |none=>rfl
  |some j=>
   obtain⟨_,o',ho',hd'⟩:=Dh hs
   have hne:j≠i:=λe=>by subst e;rw[hoi] at ho';cases ho';rw[hdst] at hd';cases hd';exact hdt rfl
   simp only[getD_set_ne false (Ne.symm hne),hne,if_false]
 by_cases hji:j=i
 subst hji;simpa using hr'
 rw[getD_set_ne false (Ne.symm hji)] at hl
 simp only[hji,if_false]
 exact hst j _ w w' hb' (h.r j hj hl)
def OpG (P:Program) (ops:Array Oper) (n:Nat) (C:World->Prop) (R:Nat->Value->World->Prop) (a0:Act) (Q:Exit->Act->World->Prop) (i:Nat) (o:Oper):Prop:=
 match o.guard with
 |none=>Ih P ops n C R a0 Q i o
 |some (j,want)=>(∃b,R j=is (.bool b)/\if b=want then Ih P ops n C R a0 Q i o else R i=is undef)\/(R j=is undef/\R i=is undef)
theorem Fu {i:Nat} {o:Oper} (hg:o.guard=none) (h:Ih P ops n C R a0 Q i o):OpG P ops n C R a0 Q i o:=by unfold OpG;rw[hg];exact h
theorem Zk {i j:Nat} {want:Bool} {o:Oper} (hg:o.guard=some (j,want)) (hR:R j=is (.bool want)) (h:Ih P ops n C R a0 Q i o):OpG P ops n C R a0 Q i o:=by unfold OpG;rw[hg];exact .inl ⟨want,hR,by rw[if_pos rfl];exact h⟩
theorem Wa {i j:Nat} {want b:Bool} {o:Oper} (hg:o.guard=some (j,want)) (hR:R j=is (.bool b)) (hb:b≠want) (hi:R i=is undef):OpG P ops n C R a0 Q i o:=by unfold OpG;rw[hg];exact .inl ⟨b,hR,by rw[if_neg hb];exact hi⟩
theorem stepG (hS:aE ops n N) (hN:a0.tmps.size=N) (hst:∀j v w w',Below w.heap.size w w'->R j v w->R j v w')
  {listed:Array Bool} {σ:Nat->Value} {a:Act} {w:World} (hsz:listed.size=ops.size) (h:kS ops n C R a0 listed σ a w) {i:Nat} (hi:i∈Region.ready .any ops listed) (hin:i<n) {oi':Oper} (hoi:ops[i]?=some oi') (hop:OpG P ops n C R a0 Q i oi'):
  wpOp P ops Q i (λa' w'=>(listed.setIfInBounds i true).size=ops.size/\∃σ',kS ops n C R a0 (listed.setIfInBounds i true) σ' a' w') a w:=by
 obtain⟨hun,oj0,hoj0,hall⟩:=mem_ready.1 hi
 obtain rfl:oi'=oj0:=Option.some.inj (hoi.symm.trans hoj0)
 obtain⟨o,ho,hg,hops,hd,_⟩:=hS.op i hin
 obtain rfl:oi'=o:=Option.some.inj (hoi.symm.trans ho)
 have hpre:∀x,x∈oi'.op.operands->Hf ops n R a0 x (a.eval x) w:=by
  intro x hx
  cases x with
  |tmp t=>
   have ht:=h.t t
   show (match Cb ops n t with|some j=>R j|none=>is (a0.eval (.tmp t))) _ w
   cases hs:Cb ops n t with
   |none=>rw[hs] at ht;exact ht
   |some j=>
    rw[hs] at ht
    obtain⟨oj,hoj,e,he,hb,hon⟩:=Region.waitsFor_spec (hops t j hx hs)
    have hoj':oj=oi':=Option.some.inj (hoj.symm.trans hoi)
    have hl:listed.getD j false=true:=by
     rw[<-hon];exact hall e (by rw[<-hoj'];exact he) hb
    simp only[hl,if_true] at ht
    show R j (a.tmps.getD t undef) w
    rw[ht]
    exact h.r j (Dh hs).1 hl
  |const v=>rfl
  |global g=>rfl
  |func f=>rfl
 have run:Ih P ops n C R a0 Q i oi'->oi'.wp P a w (λa' w'=>(listed.setIfInBounds i true).size=ops.size/\∃σ',kS ops n C R a0 (listed.setIfInBounds i true) σ' a' w') Q:=λhok=>by
  refine Oper.wp_mono (λa' w' hh=>?_) (hok a w ⟨h.d,λt ht=>by have:=h.t t;rw[ht] at this;exact this⟩ h.c hpre)
  obtain⟨v,rfl,hc',hb',hr'⟩:=hh
  exact⟨by simp[hsz],_,jN hS hN hst hsz h hin hoi hc' hb' hr'⟩
 unfold OpG at hop
 unfold wpOp
 simp only[hoi]
 cases hgd:oi'.guard with
 |none=>
  rw[hgd] at hop
  have hw:Region.wanted oi' (yielded ops a.tmps)=true:=by simp[Region.wanted,hgd]
  simp only[hw,if_true]
  exact .inl (run hop)
 |some jw=>
  obtain⟨j,want⟩:=jw
  rw[hgd] at hop
  obtain⟨hwt,hjn,oj,d,hoj,hdj,hsd⟩:=hg j want hgd
  obtain⟨ok,hok,e,he,hb,hon⟩:=Region.waitsFor_spec hwt
  have hok':ok=oi':=Option.some.inj (hok.symm.trans hoi)
  have hl:listed.getD j false=true:=by rw[<-hon];exact hall e (by rw[<-hok'];exact he) hb
  have ht:=h.t d
  rw[hsd] at ht
  simp only[hl,if_true] at ht
  have hr:=h.r j hjn hl
  rcases hop with⟨b,hRj,hop⟩|⟨hRj,hop⟩
  case inr=>
   rw[hRj] at hr
   have hv:a.tmps.getD d undef=undef:=by rw[ht];exact hr
   have hy:yielded ops a.tmps j=none:=by
    cases hd2:a.tmps[d]? with
    |none=>simp[yielded,hoj,hdj,hd2]
    |some x=>
     have:x=undef:=by
      have h1:a.tmps.getD d undef=x:=by simp[hd2]
      rw[<-h1];exact hv
     subst this
     simp[yielded,hoj,hdj,hd2,undef]
   have hw:Region.wanted oi' (yielded ops a.tmps)=false:=by simp[Region.wanted,hgd,hy]
   simp only[hw,Bool.false_eq_true,if_false]
   exact⟨by simp[hsz],_,jN hS hN hst hsz h hin hoi h.c (Below.refl _ _) (by rw[hop];rfl)⟩
  rw[hRj] at hr
  have hv:a.tmps.getD d undef= .bool b:=by rw[ht];exact hr
  have hdz:d<a.tmps.size:=by
   rcases Nat.lt_or_ge d a.tmps.size with h1|h1
   exact h1
   rw[Array.getD,dif_neg ω] at hv;cases hv
  have hy:yielded ops a.tmps j=some b:=by
   have:a.tmps[d]?=some (.bool b):=by
    rw[Array.getElem?_eq_getElem hdz]
    rw[Array.getD,dif_pos hdz] at hv
    exact congrArg some hv
   simp[yielded,hoj,hdj,this]
  by_cases hbw:b=want
  rw[if_pos hbw] at hop
  have hw:Region.wanted oi' (yielded ops a.tmps)=true:=by simp[Region.wanted,hgd,hy,hbw]
  simp only[hw,if_true]
  exact .inl (run hop)
  rw[if_neg hbw] at hop
  have hw:Region.wanted oi' (yielded ops a.tmps)=false:=by simp[Region.wanted,hgd,hy,hbw]
  simp only[hw,Bool.false_eq_true,if_false]
  exact⟨by simp[hsz],_,jN hS hN hst hsz h hin hoi h.c (Below.refl _ _) (by rw[hop];rfl)⟩
def Ae0 (P:Program) (ops:Array Oper) (n:Nat) (C:World->Prop) (R:Nat->Value->World->Prop) (a0:Act) (Q:Exit->Act->World->Prop):Nat->List Oper->Prop
 |_,[]=>True
 |i,o::l=>OpG P ops n C R a0 Q i o/\Ae0 P ops n C R a0 Q (i+1) l
theorem vB:∀(i:Nat) (l:List Oper),Ae0 P ops n C R a0 Q i l->∀j o,l[j]?=some o->OpG P ops n C R a0 Q (i+j) o
 |i,[],_,j,o,h=>by simp at h
 |i,o'::l,h,0,o,hl=>by
  have:o'=o:=by simpa using hl
  rw[<-this]
  exact h.1
 |i,o'::l,h,j+1,o,hl=>by
  have:=vB (i+1) l h.2 j o (by simpa using hl)
  rwa [show i+1+j=i+(j+1) by omega] at this
end Go.Proofs.YtldnjomacnjhnaaGreat
namespace Go.Proofs.YtldnjomacnjhnaaGreat
open Go.RowKit
variable {P:Program} {ops:Array Oper} {n N:Nat} {J:(Nat->Value)->(Nat->Bool)->World->Prop} {a0:Act} {Q:Exit->Act->World->Prop}
def Qk (P:Program) (ops:Array Oper) (n:Nat) (J:(Nat->Value)->(Nat->Bool)->World->Prop) (a0:Act) (Q:Exit->Act->World->Prop) (i:Nat) (o:Oper):Prop:=
 ∀(a:Act) (w:World) (σ:Nat->Value) (L:Nat->Bool),a.defers=a0.defers->(∀t j,Operand.tmp t∈o.op.operands->Cb ops n t=some j->L j=true/\a.tmps.getD t undef=σ j)->(∀t,Cb ops n t=none->a.tmps.getD t undef=a0.tmps.getD t undef)->
  (∀j,Region.waitsFor .any ops i j=true->L j=true)->L i=false->J σ L w->
  o.wp P a w (λa' w'=>∃v,a'=a.put o.dst v/\J (λj=>if j=i then v else σ j) (λj=>if j=i then true else L j) w') Q
structure qF (ops:Array Oper) (n:Nat) (J:(Nat->Value)->(Nat->Bool)->World->Prop) (a0:Act) (listed:Array Bool) (σ:Nat->Value) (a:Act) (w:World):Prop where
 d:a.defers=a0.defers
 z:a.tmps.size=a0.tmps.size
 t:∀t,a.tmps.getD t undef=match Cb ops n t with|some j=>if listed.getD j false=true then σ j else a0.tmps.getD t undef|none=>a0.tmps.getD t undef
 j:J σ (λi=>listed.getD i false) w
theorem mX (hS:GrowO .any ops n N) (hN:a0.tmps.size=N) (hop:∀i o,i<n->ops[i]?=some o->Qk P ops n J a0 Q i o)
  {listed:Array Bool} {σ:Nat->Value} {a:Act} {w:World} (hsz:listed.size=ops.size) (h:qF ops n J a0 listed σ a w) {i:Nat} (hi:i∈Region.ready .any ops listed) (hin:i<n) {K:Act->World->Prop}
  (hK:∀σ' a' w',qF ops n J a0 (listed.setIfInBounds i true) σ' a' w'->K a' w') {oi:Oper} (hoi:ops[i]?=some oi):oi.wp P a w K Q:=by
 obtain⟨hun,oi',hoi',hall⟩:=mem_ready.1 hi
 obtain rfl:oi'=oi:=Option.some.inj (hoi'.symm.trans hoi)
 obtain⟨o,ho,hg,hops,hd,_⟩:=hS.op i hin
 obtain rfl:oi'=o:=Option.some.inj (hoi.symm.trans ho)
 have hunf:=getD_both hun
 have hwt:∀j,Region.waitsFor .any ops i j=true->listed.getD j false=true:=by
  intro j hj
  obtain⟨oj,hoj,e,he,hb,hon⟩:=Region.waitsFor_spec hj
  have hoj':oj=oi':=Option.some.inj (hoj.symm.trans hoi)
  rw[<-hon];exact hall e (by rw[<-hoj'];exact he) hb
 refine Oper.wp_mono (λa' w' hh=>?_) (hop i oi' hin hoi a w σ (λi=>listed.getD i false) h.d (λt j ht hs=>?_) (λt hs=>?_) hwt hunf h.j)
 rotate_left
 ·
  have hl:=hwt j (hops t j ht hs)
  have ht':=h.t t
  rw[hs] at ht'
  simp only[hl,if_true] at ht'
  exact⟨hl,ht'⟩
 ·
  have ht':=h.t t
  rw[hs] at ht'
  exact ht'
 obtain⟨v,rfl,hj'⟩:=hh
 refine hK (λj=>if j=i then v else σ j) _ w' ⟨?_,?_,λt=>?_,?_⟩
 · unfold Act.put;split<;>exact h.d
 · unfold Act.put;split<;>simp[h.z]
 ·
  have ht:=h.t t
  have hset:(listed.setIfInBounds i true).getD i false=true:=by
   have:i<listed.size:=by rw[hsz];exact(Array.getElem?_eq_some_iff.1 hoi).1
   simp[this]
  cases hdst:oi'.dst with
  |none=>
   show a.tmps.getD t undef=_
   rw[ht]
   cases hs:Cb ops n t with
   |none=>rfl
   |some j=>
    obtain⟨_,o',ho',hd'⟩:=Dh hs
    have hne:j≠i:=λe=>by subst e;rw[hoi] at ho';cases ho';rw[hdst] at hd';cases hd'
    simp only[getD_set_ne false (Ne.symm hne),hne,if_false]
  |some d=>
   obtain⟨hsd,hdN⟩:=hd d hdst
   rw[Rx _ d t _ (by rw[h.z,hN];exact hdN)]
   by_cases hdt:d=t
   · subst hdt;rw[if_pos rfl,hsd];simp only[hset,if_true]
   ·
    rw[if_neg hdt,ht]
    cases hs:Cb ops n t with
    |none=>rfl
    |some j=>
     obtain⟨_,o',ho',hd'⟩:=Dh hs
     have hne:j≠i:=λe=>by subst e;rw[hoi] at ho';cases ho';rw[hdst] at hd';cases hd';exact hdt rfl
     simp only[getD_set_ne false (Ne.symm hne),hne,if_false]
 ·
  have e:(λk=>(listed.setIfInBounds i true).getD k false)=λj=>if j=i then true else listed.getD j false:=funext λk=>by
   by_cases hk:k=i
   ·
    subst hk
    have:k<listed.size:=by rw[hsz];exact(Array.getElem?_eq_some_iff.1 hoi).1
    simp[this]
   · rw[getD_set_ne false (Ne.symm hk),if_neg hk]
  rw[e]
  exact hj'
theorem qY (hS:Qv .any ops n N) (hN:a0.tmps.size=N) (hop:∀i o,i<n->ops[i]?=some o->Qk P ops n J a0 Q i o)
  {listed:Array Bool} {σ:Nat->Value} {a:Act} {w:World} (hsz:listed.size=ops.size) (h:qF ops n J a0 listed σ a w) {i:Nat} (hi:i∈Region.ready .any ops listed) (hin:i<n) {K:Act->World->Prop}
  (hK:∀σ' a' w',qF ops n J a0 (listed.setIfInBounds i true) σ' a' w'->K a' w'):wpOp P ops Q i K a w:=by
 obtain⟨o,ho,hg,_,_,_⟩:=hS.op i hin
 have hw:Region.wanted o (yielded ops a.tmps)=true:=by simp[Region.wanted,hg]
 unfold wpOp
 simp only[ho,hw,if_true]
 exact .inl (mX hS.toGrowO hN hop hsz h hi hin hK ho)
theorem fD (hS:Qv .any ops n N) (hN:a0.tmps.size=N) (_:n<=ops.size) {listed:Array Bool} {σ:Nat->Value} {a:Act} {w:World} (hl:left n listed=0) (inv:HeadInv .any ops n listed) (h:qF ops n J a0 listed σ a w):
  listed=((List.range ops.size).map λi=>decide (i<n)).toArray/\a=Bl ops a0 σ n:=by
 have hall:=Kc hl
 have hlist:listed=((List.range ops.size).map λi=>decide (i<n)).toArray:=by
  apply Array.ext
  simp[inv.size]
  intro i h1 h2
  have hi:i<ops.size:=by rw[<-inv.size];exact h1
  by_cases hin:i<n
  have:=hall i hin
  simp[h1] at this
  simp[this,hin]
  have:=inv.tail i ω hi
  simp[h1] at this
  simp[this,hin]
 have ha:a=Bl ops a0 σ n:=by
  obtain⟨tm,df⟩:=a
  have hd:=h.d
  have hz:=h.z
  have htt:=h.t
  simp only at hd hz htt
  have e1:(Bl ops a0 σ n).defers=df:=by rw[Lc,hd]
  have e2:tm=(Bl ops a0 σ n).tmps:=by
   apply Array.ext
   rw[hz,Ke]
   intro i h1 h2
   have x1:=htt i
   have x2:=Xp hS.toGrowO a0 hN σ n (Nat.le_refl _) i
   have x3:tm.getD i undef=(Bl ops a0 σ n).tmps.getD i undef:=by
    rw[x1,x2]
    cases hs:Cb ops n i with
    |none=>rfl
    |some j=>
     have hj:=(Dh hs).1
     simp only[hall j hj,if_true,hj]
   simpa [h1,h2] using x3
  rw[e2,<-e1]
 exact⟨hlist,ha⟩
theorem fC (hS:Qv .any ops n N) (hN:a0.tmps.size=N) (hop:∀i o,i<n->ops[i]?=some o->Qk P ops n J a0 Q i o)
  (htail:∀σ L w,(∀j,j<n->L j=true)->J σ L w->wpList P ops Q (ops.toList.drop n) (Bl ops a0 σ n) w) (hn:n<=ops.size):
  ∀(c:Nat) (listed:Array Bool) (σ:Nat->Value) (a:Act) (w:World),left n listed=c->HeadInv .any ops n listed->qF ops n J a0 listed σ a w->wpAny P .any ops Q (c+(ops.size-n)) listed a w
 |0,listed,σ,a,w,hl,inv,h=>by
  have hall:=Kc hl
  obtain⟨hlist,ha⟩:=fD hS hN hn hl inv h
  rw[Nat.zero_add]
  have hlen:(ops.toList.drop n).length=ops.size-n:=by simp
  have:=wpAny_of_seq (P:=P) (ops:=ops) (md:= .any) (Q':=Q) (ops.toList.drop n) n listed a w (λj=>by simp[List.getElem?_drop]) (by rw[hlen,hlist];exact hS.seq) (by rw[ha];exact htail σ _ w hall h.j)
  rwa [hlen] at this
 |c+1,listed,σ,a,w,hl,inv,h=>by
  rw[show c+1+(ops.size-n)=(c+(ops.size-n))+1 by omega]
  obtain⟨hne,hsm⟩:=Ue hS hn hl inv
  refine⟨λh0=>absurd h0 hne,λi hi=>?_⟩
  have hin:=hsm i hi
  have hun:=(mem_ready.1 hi).1
  have hisz:i<listed.size:=by rw[inv.size];omega
  exact qY hS hN hop inv.size h hi hin λσ' a' w' h'=>
   fC hS hN hop htail hn c _ σ' a' w' (by have:=Rm hin hisz (getD_both hun);omega) (inv.set hi hin) h'
theorem kD {id:Nat} {w:World} {l:List Oper} (n N:Nat) (J:(Nat->Value)->(Nat->Bool)->World->Prop) (hm:P.follows .mixedOrders=true) (hB:Yb .any l.toArray n N=true) (hN:a0.tmps.size=N) (hn:n<=l.length)
  (h0:J (λ_=>undef) (λ_=>false) w.drew) (hop:∀i o,i<n->l[i]?=some o->Qk P l.toArray n J a0 Q i o)
  (htail:∀σ L w,(∀j,j<n->L j=true)->J σ L w->wpList P l.toArray Q (l.drop n) (Bl l.toArray a0 σ n) w):(Code.region id l.toArray true).wp P Q a0 w:=by
 have hS:=uG hB
 refine wp_region_any hm ?_
 have inv0:HeadInv .any l.toArray n (Array.replicate l.toArray.size false):=
  ⟨by simp,λj oj _ hl=>(by rw[getD_replicate_false] at hl;cases hl),λt _ ht=>getD_in (by simpa using ht) (getD_replicate_false _ _)⟩
 have hl:left n (Array.replicate l.toArray.size false)=n:=by
  unfold left
  rw[List.filter_eq_self.2 (λi _=>by rw[getD_replicate_false];rfl),List.length_range]
 have:=fC (J:=J) (a0:=a0) (Q:=Q) hS hN (λi o hi ho=>hop i o hi (by simpa using ho)) htail (by simpa using hn) n _ (λ_=>undef) a0 w.drew hl inv0
  ⟨rfl,rfl,λt=>by
   cases Cb l.toArray n t with
   |none=>rfl
   |some j=>simp only[getD_replicate_false,Bool.false_eq_true,if_false],by
   have e:(λi=>(Array.replicate l.toArray.size false).getD i false)=λ_=>false:=funext λi=>getD_replicate_false _ _
   rw[e];exact h0⟩
 rw[show n+(l.toArray.size-n)=l.toArray.size by simp;omega] at this
 exact this
def iI (P:Program) (ops:Array Oper) (n:Nat) (J:(Nat->Value)->(Nat->Bool)->World->Prop) (a0:Act) (Q:Exit->Act->World->Prop):Nat->List Oper->Prop
 |_,[]=>True
 |i,o::l=>Qk P ops n J a0 Q i o/\iI P ops n J a0 Q (i+1) l
theorem Xn:∀(i:Nat) (l:List Oper),iI P ops n J a0 Q i l->∀j o,l[j]?=some o->Qk P ops n J a0 Q (i+j) o
 |i,[],_,j,o,h=>by simp at h
 |i,o'::l,h,0,o,hl=>by
  have:o'=o:=by simpa using hl
  rw[<-this]
  exact h.1
 |i,o'::l,h,j+1,o,hl=>by
  have:=Xn (i+1) l h.2 j o (by simpa using hl)
  rwa [show i+1+j=i+(j+1) by omega] at this
theorem kE {id:Nat} {w:World} {l:List Oper} (N:Nat) (J:(Nat->Value)->(Nat->Bool)->World->Prop) (hm:P.follows .mixedOrders=true) (hB:Yb .any l.toArray l.length N=true) (hN:a0.tmps.size=N)
  (h0:J (λ_=>undef) (λ_=>false) w.drew) (hop:iI P l.toArray l.length J a0 Q 0 l)
  (hend:∀σ L w,(∀j,j<l.length->L j=true)->J σ L w->Q .normal (Bl l.toArray a0 σ l.length) w):(Code.region id l.toArray true).wp P Q a0 w:=
 kD l.length N J hm hB hN (Nat.le_refl _) h0 (λi o hi ho=>by have:=Xn 0 l hop i o ho;rwa [Nat.zero_add] at this) (λσ L w h1 h2=>by
  rw[List.drop_of_length_le (Nat.le_refl _)]
  exact wpList_nil (hend σ L w h1 h2))
theorem Rt {C:World->Prop} {R:Nat->Value->World->Prop} {i:Nat} {o:Oper} (hCJ:∀σ L w,J σ L w->C w) (hRJ:∀σ L w j,J σ L w->L j=true->R j (σ j) w)
  (hkeep:∀σ L w w' v,J σ L w->L i=false->C w'->Below w.heap.size w w'->R i v w'->J (λj=>if j=i then v else σ j) (λj=>if j=i then true else L j) w') (h:Ih P ops n C R a0 Q i o):Qk P ops n J a0 Q i o:=by
 intro a w σ L hd ht hn _ hi hJ
 refine Oper.wp_mono (λa' w' hh=>?_) (h a w ⟨hd,hn⟩ (hCJ σ L w hJ) (λx hx=>?_))
 obtain⟨v,h1,h2,h3,h4⟩:=hh
 exact⟨v,h1,hkeep σ L w w' v hJ hi h2 h3 h4⟩
 cases x with
 |tmp t=>
  show (match Cb ops n t with|some j=>R j|none=>is (a0.eval (.tmp t))) _ w
  cases hs:Cb ops n t with
  |none=>exact hn t hs
  |some j=>
   obtain⟨h1,h2⟩:=ht t j hx hs
   show R j (a.tmps.getD t undef) w
   rw[h2]
   exact hRJ σ L w j hJ h1
 |const v=>rfl
 |global g=>rfl
 |func f=>rfl
end Go.Proofs.YtldnjomacnjhnaaGreat
namespace Go.Proofs.YtldnjomacnjhnaaGreat
open Go.RowKit
variable {P:Program} {ops:Array Oper} {n N:Nat} {C:World->Prop} {R:Nat->Value->World->Prop} {a0:Act} {Q:Exit->Act->World->Prop}
def jK (ops:Array Oper) (n N:Nat):Bool:=
 ((List.range n).all λi=>match ops[i]? with
  |some o=>(match o.guard with|none=>true|some (j,_)=>Region.waitsFor .any ops i j&&decide (j<n)&&(match ops[j]? with|some oj=>(match oj.dst with|some d=>Cb ops n d==some j|none=>false)|none=>false))&&
   (o.op.operands.all λx=>match x with| .tmp t=>(match Cb ops n t with|some j=>Region.waitsFor .any ops i j|none=>true)|_=>true)&&
   (match o.dst with|some d=>Cb ops n d==some i&&decide (d<N)|none=>true)&&(o.after.all λe=> !Region.binds .any e||decide (e.on<i))
  |none=>false)&&(decide (n<ops.size)&&Region.sinkB .any ops n&&Region.chainB .any ops n&&Region.seqB .any ops (ops.size-n) n ((List.range ops.size).map λi=>decide (i<n)).toArray)
theorem Adf {ops:Array Oper} {n N:Nat} (h:jK ops n N=true):aE ops n N/\(n<ops.size/\Region.sinkB .any ops n=true/\Region.chainB .any ops n=true)/\Region.seqB .any ops (ops.size-n) n ((List.range ops.size).map λi=>decide (i<n)).toArray=true:=by
 unfold jK at h
 simp only[Bool.and_eq_true,decide_eq_true_eq] at h
 obtain⟨h1,⟨⟨h2,h3⟩,h4⟩,h5⟩:=h
 refine⟨⟨λi hi=>?_⟩,⟨h2,h3,h4⟩,h5⟩
 have h:=List.all_eq_true.1 h1 i (List.mem_range.2 hi)
 cases ho:ops[i]? with
 |none=>simp[ho] at h
 |some o=>
  simp only[ho,Bool.and_eq_true] at h
  obtain⟨⟨⟨a1,a2⟩,a3⟩,a4⟩:=h
  refine⟨o,rfl,λj b hg=>?_,λt j ht hj=>?_,λd hd=>?_,λe he hb=>?_⟩
  rw[hg] at a1
  simp only[Bool.and_eq_true,decide_eq_true_eq] at a1
  obtain⟨⟨b1,b2⟩,b3⟩:=a1
  refine⟨b1,b2,?_⟩
  cases hoj:ops[j]? with
  |none=>rw[hoj] at b3;cases b3
  |some oj=>
   rw[hoj] at b3
   cases hd:oj.dst with
   |none=>simp only[hd] at b3;cases b3
   |some d=>simp only[hd] at b3;exact⟨oj,d,rfl,hd,by simpa using b3⟩
  have:=Array.all_eq_true_iff_forall_mem.1 a2 _ ht
  simpa [hj] using this
  simpa [hd] using a3
  have:=Array.all_eq_true_iff_forall_mem.1 a4 e he
  simpa [hb] using this
theorem xH (hS:aE ops n N) (hN:a0.tmps.size=N) (_:n<=ops.size) {listed:Array Bool} {σ:Nat->Value} {a:Act} {w:World} (hl:left n listed=0) (inv:HeadInv .any ops n listed) (h:kS ops n C R a0 listed σ a w):
  listed=((List.range ops.size).map λi=>decide (i<n)).toArray/\a=Bl ops a0 σ n:=by
 have hall:=Kc hl
 have hlist:listed=((List.range ops.size).map λi=>decide (i<n)).toArray:=by
  apply Array.ext
  simp[inv.size]
  intro i h1 h2
  have hi:i<ops.size:=by rw[<-inv.size];exact h1
  by_cases hin:i<n
  have:=hall i hin
  simp[h1] at this
  simp[this,hin]
  have:=inv.tail i ω hi
  simp[h1] at this
  simp[this,hin]
 have ha:a=Bl ops a0 σ n:=by
  obtain⟨tm,df⟩:=a
  have hd:=h.d
  have hz:=h.z
  have htt:=h.t
  simp only at hd hz htt
  have e1:(Bl ops a0 σ n).defers=df:=by rw[Lc,hd]
  have e2:tm=(Bl ops a0 σ n).tmps:=by
   apply Array.ext
   rw[hz,Ke]
   intro i h1 h2
   have x1:=htt i
   have x2:=cF hS a0 hN σ n (Nat.le_refl _) i
   have x3:tm.getD i undef=(Bl ops a0 σ n).tmps.getD i undef:=by
    rw[x1,x2]
    cases hs:Cb ops n i with
    |none=>rfl
    |some j=>
     have hj:=(Dh hs).1
     simp only[hall j hj,if_true,hj]
   simpa [h1,h2] using x3
  rw[e2,<-e1]
 exact⟨hlist,ha⟩
theorem nA (hS:aE ops n N) (htl:n<ops.size/\Region.sinkB .any ops n=true/\Region.chainB .any ops n=true) (_:n<=ops.size) {listed:Array Bool} {c:Nat} (hl:left n listed=c+1) (inv:HeadInv .any ops n listed):Region.ready .any ops listed≠[]/\∀i∈Region.ready .any ops listed,i<n:=by
 obtain⟨i0,hi0,hf0,hlow⟩:=bF (n:=n) (listed:=listed) ω
 have hsz0:i0<listed.size:=by rw[inv.size];omega
 have hr0:i0∈Region.ready .any ops listed:=by
  obtain⟨o,ho,_,_,_,hed⟩:=hS.op i0 hi0
  exact mem_ready.2 ⟨getD_in hsz0 hf0,o,ho,λe he hb=>hlow _ (hed e he hb)⟩
 refine⟨λh0=>absurd hr0 (by rw[h0];simp),λi hi=>?_⟩
 rcases Nat.lt_or_ge i n with hlt|hge
 exact hlt
 obtain⟨hlt,hs,hc⟩:=htl
 exact absurd hi (tail_waits hs hc hlt inv _ i0 rfl hi0 (getD_in hsz0 hf0) i hge)
theorem aZ (hS:aE ops n N) (htl:n<ops.size/\Region.sinkB .any ops n=true/\Region.chainB .any ops n=true) (hseq:Region.seqB .any ops (ops.size-n) n ((List.range ops.size).map λi=>decide (i<n)).toArray=true) (hN:a0.tmps.size=N) (hst:∀j v w w',Below w.heap.size w w'->R j v w->R j v w') (hop:∀i o,i<n->ops[i]?=some o->OpG P ops n C R a0 Q i o)
  (htail:∀σ w,C w->(∀j,j<n->R j (σ j) w)->wpList P ops Q (ops.toList.drop n) (Bl ops a0 σ n) w) (hn:n<=ops.size):
  ∀(c:Nat) (listed:Array Bool) (σ:Nat->Value) (a:Act) (w:World),left n listed=c->HeadInv .any ops n listed->kS ops n C R a0 listed σ a w->wpAny P .any ops Q (c+(ops.size-n)) listed a w
 |0,listed,σ,a,w,hl,inv,h=>by
  have hall:=Kc hl
  obtain⟨hlist,ha⟩:=xH hS hN hn hl inv h
  rw[Nat.zero_add]
  have hlen:(ops.toList.drop n).length=ops.size-n:=by simp
  have:=wpAny_of_seq (P:=P) (ops:=ops) (md:= .any) (Q':=Q) (ops.toList.drop n) n listed a w (λj=>by simp[List.getElem?_drop]) (by rw[hlen,hlist];exact hseq) (by rw[ha];exact htail σ w h.c λj hj=>h.r j hj (hall j hj))
  rwa [hlen] at this
 |c+1,listed,σ,a,w,hl,inv,h=>by
  rw[show c+1+(ops.size-n)=(c+(ops.size-n))+1 by omega]
  obtain⟨hne,hsm⟩:=nA hS htl hn hl inv
  refine⟨λh0=>absurd h0 hne,λi hi=>?_⟩
  have hin:=hsm i hi
  have hun:=(mem_ready.1 hi).1
  have hisz:i<listed.size:=by rw[inv.size];omega
  obtain⟨_,o,ho,_⟩:=mem_ready.1 hi
  refine wpOp_mono (λa' w' h'=>?_) (stepG hS hN hst inv.size h hi hin ho (hop i o hin ho))
  obtain⟨_,σ',hm'⟩:=h'
  exact aZ hS htl hseq hN hst hop htail hn c _ σ' a' w' (by have:=Rm hin hisz (getD_both hun);omega) (inv.set hi hin) hm'
theorem Tq {id:Nat} {w:World} {l:List Oper} (n N:Nat) (C:World->Prop) (Rs:List (Value->World->Prop)) (hm:P.follows .mixedOrders=true) (hB:jK l.toArray n N=true) (hN:a0.tmps.size=N)
  (hst:∀r∈Rs,Hp r) (h0:C w.drew) (hop:Ae0 P l.toArray n C (Kq Rs) a0 Q 0 (l.take n))
  (htail:∀σ w,C w->(∀j,j<n->Kq Rs j (σ j) w)->wpList P l.toArray Q (l.drop n) (Bl l.toArray a0 σ n) w):(Code.region id l.toArray true).wp P Q a0 w:=by
 obtain⟨hO,htl,hseq⟩:=Adf hB
 have hn:n<=l.toArray.size:=by have:=htl.1;omega
 refine wp_region_any hm ?_
 have inv0:HeadInv .any l.toArray n (Array.replicate l.toArray.size false):=
  ⟨by simp,λj oj _ hl=>(by rw[getD_replicate_false] at hl;cases hl),λt _ ht=>getD_in (by simpa using ht) (getD_replicate_false _ _)⟩
 have hl:left n (Array.replicate l.toArray.size false)=n:=by
  unfold left
  rw[List.filter_eq_self.2 (λi _=>by rw[getD_replicate_false];rfl),List.length_range]
 have hop':∀i o,i<n->l.toArray[i]?=some o->OpG P l.toArray n C (Kq Rs) a0 Q i o:=λi o hi ho=>by
  have:=vB 0 (l.take n) hop i o (by rw[List.getElem?_take];simp only[hi,if_true];simpa using ho)
  rwa [Nat.zero_add] at this
 have:=aZ (P:=P) (Q:=Q) hO htl hseq hN (Kf hst) hop' (by simpa using htail) hn n _ (λ_=>undef) a0 w.drew hl inv0 ⟨h0,rfl,rfl,λt=>by
  cases Cb l.toArray n t with
  |none=>rfl
  |some j=>simp only[getD_replicate_false,Bool.false_eq_true,if_false],λj _ hl=>by rw[getD_replicate_false] at hl;cases hl⟩
 rwa [show n+(l.toArray.size-n)=l.toArray.size by omega] at this
end Go.Proofs.YtldnjomacnjhnaaGreat