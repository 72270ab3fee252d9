/- Part 8 of the proof of PH.card_holds: no condition beyond the row's. -/
import Derived.Test.YtkpjchfniejdoaaGreatDoorPH7
import Derived.Laws.IdiomStrings
set_option maxRecDepth 100000
set_option maxHeartbeats 40000000
namespace Go.Proofs.YtkpjchfniejdoaaGreatDoor
open Go.RowKit
section
variable {P:Program} {ops:Array Oper} {n:Nat} {R:Nat->Value->World->Prop} {a0:Act} {Q:Exit->Act->World->Prop} {W:World}
theorem mT {C:World->Prop} {i:Nat} {o:Oper} (x:Operand) (r:Value->World->Prop) (ho:o.op= .assign x) (hx:Jt ops n R a0 x=r) (h:∀(v:Value) (w:World),C w->r v w->R i v w):Mk P ops n C R a0 Q i o:=
 Lu λa w hC hpre=>⟨a.eval x,by simp[execOp,ho],h _ w hC (by have:=hpre x (by rw[ho];simp[Op.operands]);rw[hx] at this;exact this)⟩
end
variable {P:Program} {ops:Array Oper} {n N:Nat} {J:(Nat->Value)->(Nat->Bool)->World->Prop} {a0:Act} {Q:Exit->Act->World->Prop}
def AaV (P:Program) (ops:Array Oper) (n:Nat) (J:(Nat->Value)->(Nat->Bool)->World->Prop) (a0:Act) (Q:Exit->Act->World->Prop) (i:Nat) (o:Oper):Prop:=
 ∀(a:Act) (w:World) (σ:Nat->Value) (L:Nat->Bool),a.defers=a0.defers->(∀t j,Operand.tmp t∈o.op.operands->Dq ops n t=some j->L j=true/\a.tmps.getD t undef=σ j)->(∀t,Dq ops n t=none->a.tmps.getD t undef=a0.tmps.getD t undef)->
  (∀j,Region.waitsFor .any ops i j=true->L j=true)->L i=false->J σ L w->
  o.wp P a w (λa' w'=>∃v,a'=a.put o.dst v/\J (λj=>if j=i then v else σ j) (λj=>if j=i then true else L j) w') Q
structure Akh (ops:Array Oper) (n:Nat) (J:(Nat->Value)->(Nat->Bool)->World->Prop) (a0:Act) (listed:Array Bool) (σ:Nat->Value) (a:Act) (w:World):Prop where
 d:a.defers=a0.defers
 z:a.tmps.size=a0.tmps.size
 t:∀t,a.tmps.getD t undef=match Dq ops n t with|some j=>if listed.getD j false=true then σ j else a0.tmps.getD t undef|none=>a0.tmps.getD t undef
 j:J σ (λi=>listed.getD i false) w
theorem Ahu (hS:GrowO .any ops n N) (hN:a0.tmps.size=N) (hop:∀i o,i<n->ops[i]?=some o->AaV P ops n J a0 Q i o)
  {listed:Array Bool} {σ:Nat->Value} {a:Act} {w:World} (hsz:listed.size=ops.size) (h:Akh ops n J a0 listed σ a w) {i:Nat} (hi:i∈Region.ready .any ops listed) (hin:i<n) {K:Act->World->Prop}
  (hK:∀σ' a' w',Akh ops n J a0 (listed.setIfInBounds i true) σ' a' w'->K a' w') {oi:Oper} (hoi:ops[i]?=some oi):oi.wp P a w K Q:=by
 obtain⟨hun,oi',hoi',hall⟩:=mem_ready.1 hi
 obtain rfl:oi'=oi:=Option.some.inj (hoi'.symm.trans hoi)
 obtain⟨o,ho,hg,hops,hd,_⟩:=hS.op i hin
 obtain rfl:oi'=o:=Option.some.inj (hoi.symm.trans ho)
 have hunf:=getD_both hun
 have hwt:∀j,Region.waitsFor .any ops i j=true->listed.getD j false=true:=by
  intro j hj
  obtain⟨oj,hoj,e,he,hb,hon⟩:=Region.waitsFor_spec hj
  have hoj':oj=oi':=Option.some.inj (hoj.symm.trans hoi)
  rw[<-hon];exact hall e (by rw[<-hoj'];exact he) hb
 refine Oper.wp_mono (λa' w' hh=>?_) (hop i oi' hin hoi a w σ (λi=>listed.getD i false) h.d (λt j ht hs=>?_) (λt hs=>?_) hwt hunf h.j)
 rotate_left
 ·
  have hl:=hwt j (hops t j ht hs)
  have ht':=h.t t
  rw[hs] at ht'
  simp only[hl,if_true] at ht'
  exact⟨hl,ht'⟩
 ·
  have ht':=h.t t
  rw[hs] at ht'
  exact ht'
 obtain⟨v,rfl,hj'⟩:=hh
 refine hK (λj=>if j=i then v else σ j) _ w' ⟨?_,?_,λt=>?_,?_⟩
 · unfold Act.put;split<;>exact h.d
 · unfold Act.put;split<;>simp[h.z]
 ·
  have ht:=h.t t
  have hset:(listed.setIfInBounds i true).getD i false=true:=by
   have:i<listed.size:=by rw[hsz];exact(Ξ hoi).1
   simp[this]
  cases hdst:oi'.dst with
  |none=>
   show a.tmps.getD t undef=_
   rw[ht]
   cases hs:Dq ops n t with
   |none=>rfl
   |some j=>
    obtain⟨_,o',ho',hd'⟩:=Ff hs
    have hne:j≠i:=λe=>by subst e;rw[hoi] at ho';cases ho';rw[hdst] at hd';cases hd'
    simp only[getD_set_ne false (Ne.symm hne),hne,if_false]
  |some d=>
   obtain⟨hsd,hdN⟩:=hd d hdst
   rw[aU _ d t _ (by rw[h.z,hN];exact hdN)]
   by_cases hdt:d=t
   · subst hdt;rw[if_pos rfl,hsd];simp only[hset,if_true]
   ·
    rw[if_neg hdt,ht]
    cases hs:Dq ops n t with
    |none=>rfl
    |some j=>
     obtain⟨_,o',ho',hd'⟩:=Ff hs
     have hne:j≠i:=λe=>by subst e;rw[hoi] at ho';cases ho';rw[hdst] at hd';cases hd';exact hdt rfl
     simp only[getD_set_ne false (Ne.symm hne),hne,if_false]
 ·
  have e:(λk=>(listed.setIfInBounds i true).getD k false)=λj=>if j=i then true else listed.getD j false:=funext λk=>by
   by_cases hk:k=i
   ·
    subst hk
    have:k<listed.size:=by rw[hsz];exact(Ξ hoi).1
    simp[this]
   · rw[getD_set_ne false (Ne.symm hk),if_neg hk]
  rw[e]
  exact hj'
theorem Adr (hS:Yb .any ops n N) (hN:a0.tmps.size=N) (_:n<=ops.size) {listed:Array Bool} {σ:Nat->Value} {a:Act} {w:World} (hl:left n listed=0) (inv:HeadInv .any ops n listed) (h:Akh ops n J a0 listed σ a w):
  listed=((List.range ops.size).map λi=>decide (i<n)).toArray/\a=Dk ops a0 σ n:=by
 have hall:=Rc hl
 have hlist:listed=((List.range ops.size).map λi=>decide (i<n)).toArray:=by
  apply Array.ext
  simp[inv.size]
  intro i h1 h2
  have hi:i<ops.size:=by rw[<-inv.size];exact h1
  by_cases hin:i<n
  have:=hall i hin
  simp[h1] at this
  simp[this,hin]
  have:=inv.tail i ω hi
  simp[h1] at this
  simp[this,hin]
 have ha:a=Dk ops a0 σ n:=by
  obtain⟨tm,df⟩:=a
  have hd:=h.d
  have hz:=h.z
  have htt:=h.t
  simp only at hd hz htt
  have e1:(Dk ops a0 σ n).defers=df:=by rw[Qh,hd]
  have e2:tm=(Dk ops a0 σ n).tmps:=by
   apply Array.ext
   rw[hz,Po]
   intro i h1 h2
   have x1:=htt i
   have x2:=aT hS.toGrowO a0 hN σ n ζ i
   have x3:tm.getD i undef=(Dk ops a0 σ n).tmps.getD i undef:=by
    rw[x1,x2]
    cases hs:Dq ops n i with
    |none=>rfl
    |some j=>
     have hj:=(Ff hs).1
     simp only[hall j hj,if_true,hj]
   simpa [h1,h2] using x3
  rw[e2,<-e1]
 exact⟨hlist,ha⟩
def yB (P:Program) (ops:Array Oper) (n:Nat) (J:(Nat->Value)->(Nat->Bool)->World->Prop) (a0:Act) (Q:Exit->Act->World->Prop):Nat->List Oper->Prop
 |_,[]=>True
 |i,o::l=>AaV P ops n J a0 Q i o/\yB P ops n J a0 Q (i+1) l
theorem nB:∀(i:Nat) (l:List Oper),yB P ops n J a0 Q i l->∀j o,l[j]?=some o->AaV P ops n J a0 Q (i+j) o
 |i,[],_,j,o,h=>by simp at h
 |i,o'::l,h,0,o,hl=>by
  have:o'=o:=by simpa using hl
  rw[<-this]
  exact h.1
 |i,o'::l,h,j+1,o,hl=>by
  have:=nB (i+1) l h.2 j o (by simpa using hl)
  rwa [show i+1+j=i+(j+1) by omega] at this
end Go.Proofs.YtkpjchfniejdoaaGreatDoor