/- Part 7 of the proof of IB.row_holds: no condition beyond the row's. -/
import Derived.Test.YtbggmndaahbojaaGreatIb6
import Derived.StillTail
set_option maxRecDepth 100000
set_option maxHeartbeats 40000000
namespace Go.Proofs.YtbggmndaahbojaaGreat
open Go.RowKit
theorem Ξ.{u} {α:Type u} {xs:Array α} {i:Nat} {b:α} (h:xs[i]?=some b):∃h:i<xs.size,xs[i]=b:=Array.getElem?_eq_some_iff.1 h
theorem Γ.{u} {α:Type u} {l:List α} {i:Nat} {a:α}:l.getD i a=l[i]?.getD a:=List.getD_eq_getElem?_getD
def Ej (ops:Array Oper) (n t:Nat):Option Nat:=(List.range n).find? λj=>((ops[j]?).bind (·.dst))==some t
def is (x:Value):Value->World->Prop:=λv _=>v=x
def Kj (ops:Array Oper) (n:Nat) (R:Nat->Value->World->Prop) (a0:Act):Operand->Value->World->Prop
 | .tmp t=>match Ej ops n t with|some j=>R j|none=>is (a0.eval (.tmp t))
 |x=>is (a0.eval x)
def sG (md:Region.Mode) (ops:Array Oper) (n N:Nat):Bool:=
 ((List.range n).all λi=>match ops[i]? with
  |some o=>o.guard.isNone&&(o.op.operands.all λx=>match x with| .tmp t=>(match Ej ops n t with|some j=>Region.waitsFor md ops i j|none=>true)|_=>true)&&
   (match o.dst with|some d=>Ej ops n d==some i&&decide (d<N)|none=>true)&&(o.after.all λe=> !Region.binds md e||decide (e.on<i))
  |none=>false)&&
 (decide (n=ops.size)||(decide (n<ops.size)&&Region.sinkB md ops n&&Region.chainB md ops n))&&
 Region.seqB md ops (ops.size-n) n ((List.range ops.size).map λi=>decide (i<n)).toArray
theorem Gj {ops:Array Oper} {n t j:Nat} (h:Ej ops n t=some j):j<n/\∃o,ops[j]?=some o/\o.dst=some t:=by
 have h1:=List.find?_some h
 have h2:=List.mem_of_find?_eq_some h
 refine⟨List.mem_range.1 h2,?_⟩
 cases ho:ops[j]? with
 |none=>simp[ho] at h1
 |some o=>exact⟨o,rfl,by simpa [ho] using h1⟩
structure GrowO (md:Region.Mode) (ops:Array Oper) (n N:Nat):Prop where
 op:∀i,i<n->∃o,ops[i]?=some o/\o.guard=none/\(∀t j,Operand.tmp t∈o.op.operands->Ej ops n t=some j->Region.waitsFor md ops i j=true)/\(∀d,o.dst=some d->Ej ops n d=some i/\d<N)/\(∀e∈o.after,Region.binds md e=true->e.on<i)
structure cR (md:Region.Mode) (ops:Array Oper) (n N:Nat):Prop extends GrowO md ops n N where
 tail:n=ops.size\/(n<ops.size/\Region.sinkB md ops n=true/\Region.chainB md ops n=true)
 seq:Region.seqB md ops (ops.size-n) n ((List.range ops.size).map λi=>decide (i<n)).toArray=true
theorem Aj4 {md:Region.Mode} {ops:Array Oper} {n N:Nat} (h:sG md ops n N=true):cR md ops n N:=by
 unfold sG at h
 simp only[Bool.and_eq_true,Bool.or_eq_true,decide_eq_true_eq] at h
 obtain⟨⟨h1,h2⟩,h3⟩:=h
 refine⟨⟨λi hi=>?_⟩,?_,h3⟩
 have h:=List.all_eq_true.1 h1 i (List.mem_range.2 hi)
 cases ho:ops[i]? with
 |none=>simp[ho] at h
 |some o=>
  simp only[ho,Bool.and_eq_true] at h
  obtain⟨⟨⟨a1,a2⟩,a3⟩,a4⟩:=h
  refine⟨o,rfl,by simpa using a1,λt j ht hj=>?_,λd hd=>?_,λe he hb=>?_⟩
  have:=Array.all_eq_true_iff_forall_mem.1 a2 _ ht
  simpa [hj] using this
  simpa [hd] using a3
  have:=Array.all_eq_true_iff_forall_mem.1 a4 e he
  simpa [hb] using this
 rcases h2 with h2|⟨⟨h2,h4⟩,h5⟩
 exact .inl h2
 exact .inr ⟨h2,h4,h5⟩
def Fm (ops:Array Oper) (a0:Act) (σ:Nat->Value):Nat->Act
 |0=>a0
 |k+1=>(Fm ops a0 σ k).put ((ops[k]?).bind (·.dst)) (σ k)
theorem Ri (ops:Array Oper) (a0:Act) (σ:Nat->Value):∀k,(Fm ops a0 σ k).defers=a0.defers
 |0=>rfl
 |k+1=>by unfold Fm Act.put;split<;>exact Ri ops a0 σ k
theorem Qk (ops:Array Oper) (a0:Act) (σ:Nat->Value):∀k,(Fm ops a0 σ k).tmps.size=a0.tmps.size
 |0=>rfl
 |k+1=>by unfold Fm Act.put;split<;>simp[Qk ops a0 σ k]
theorem Zq (a:Act) (d t:Nat) (v:Value) (hd:d<a.tmps.size):(a.put (some d) v).tmps.getD t undef=if d=t then v else a.tmps.getD t undef:=by
 unfold Act.put
 simp only
 by_cases h:d=t
 subst h;simp[hd]
 simp[h,Array.getElem?_setIfInBounds_ne h]
theorem eB {md:Region.Mode} {ops:Array Oper} {n N:Nat} (hS:GrowO md ops n N) (a0:Act) (hN:a0.tmps.size=N) (σ:Nat->Value):∀k,k<=n->∀t,(Fm ops a0 σ k).tmps.getD t undef=
  match Ej ops n t with|some j=>if j<k then σ j else a0.tmps.getD t undef|none=>a0.tmps.getD t undef
 |0,_,t=>by unfold Fm;split<;>simp
 |k+1,hk,t=>by
  obtain⟨o,ho,_,_,hd,_⟩:=hS.op k ω
  have ih:=eB hS a0 hN σ k ω t
  have e:Fm ops a0 σ (k+1)=(Fm ops a0 σ k).put o.dst (σ k):=by show (Fm ops a0 σ k).put ((ops[k]?).bind (·.dst)) (σ k)=_;rw[ho];rfl
  rw[e]
  cases hdst:o.dst with
  |none=>
   show (Fm ops a0 σ k).tmps.getD t undef=_
   rw[ih]
   cases hs:Ej ops n t with
   |none=>rfl
   |some j=>
    obtain⟨_,o',ho',hd'⟩:=Gj hs
    have hne:j≠k:=λe=>by subst e;rw[ho] at ho';cases ho';rw[hdst] at hd';cases hd'
    by_cases hj:j<k
    simp[hj,show j<k+1 by omega]
    simp[hj,show ¬j<k+1 by omega]
  |some d=>
   obtain⟨hsd,hdN⟩:=hd d hdst
   rw[Zq _ d t _ (by rw[Qk,hN];exact hdN)]
   by_cases hdt:d=t
   subst hdt;rw[if_pos rfl,hsd];simp
   rw[if_neg hdt,ih]
   cases hs:Ej ops n t with
   |none=>rfl
   |some j=>
    obtain⟨_,o',ho',hd'⟩:=Gj hs
    have hne:j≠k:=λe=>by subst e;rw[ho] at ho';cases ho';rw[hdst] at hd';cases hd';exact hdt rfl
    by_cases hj:j<k
    simp[hj,show j<k+1 by omega]
    simp[hj,show ¬j<k+1 by omega]
def Ajp (ops:Array Oper) (n:Nat) (a0 a:Act):Prop:=a.defers=a0.defers/\∀t,Ej ops n t=none->a.tmps.getD t undef=a0.tmps.getD t undef
def Oi (P:Program) (ops:Array Oper) (n:Nat) (C:World->Prop) (R:Nat->Value->World->Prop) (a0:Act) (Q:Exit->Act->World->Prop) (i:Nat) (o:Oper):Prop:=
 ∀(a:Act) (w:World),Ajp ops n a0 a->C w->(∀x,x∈o.op.operands->Kj ops n R a0 x (a.eval x) w)->
  o.wp P a w (λa' w'=>∃v,a'=a.put o.dst v/\C w'/\Below w.heap.size w w'/\R i v w') Q
structure Mid (ops:Array Oper) (n:Nat) (C:World->Prop) (R:Nat->Value->World->Prop) (a0:Act) (listed:Array Bool) (σ:Nat->Value) (a:Act) (w:World):Prop where
 c:C w
 d:a.defers=a0.defers
 z:a.tmps.size=a0.tmps.size
 t:∀t,a.tmps.getD t undef=match Ej ops n t with|some j=>if listed.getD j false=true then σ j else a0.tmps.getD t undef|none=>a0.tmps.getD t undef
 r:∀j,j<n->listed.getD j false=true->R j (σ j) w
variable {P:Program} {ops:Array Oper} {n N:Nat} {C:World->Prop} {R:Nat->Value->World->Prop} {a0:Act} {Q:Exit->Act->World->Prop}
theorem Acj (hS:GrowO .any ops n N) (hN:a0.tmps.size=N) (hst:∀j v w w',Below w.heap.size w w'->R j v w->R j v w') (hop:∀i o,i<n->ops[i]?=some o->Oi P ops n C R a0 Q i o)
  {listed:Array Bool} {σ:Nat->Value} {a:Act} {w:World} (hsz:listed.size=ops.size) (h:Mid ops n C R a0 listed σ a w) {i:Nat} (hi:i∈Region.ready .any ops listed) (hin:i<n) {K:Act->World->Prop}
  (hK:∀σ' a' w',Mid ops n C R a0 (listed.setIfInBounds i true) σ' a' w'->Below w.heap.size w w'->K a' w') {oi:Oper} (hoi:ops[i]?=some oi):oi.wp P a w K Q:=by
 obtain⟨hun,oi',hoi',hall⟩:=mem_ready.1 hi
 obtain rfl:oi'=oi:=Option.some.inj (hoi'.symm.trans hoi)
 obtain⟨o,ho,hg,hops,hd,_⟩:=hS.op i hin
 obtain rfl:oi'=o:=Option.some.inj (hoi.symm.trans ho)
 have hunf:=getD_both hun
 have hpre:∀x,x∈oi'.op.operands->Kj ops n R a0 x (a.eval x) w:=by
  intro x hx
  cases x with
  |tmp t=>
   have ht:=h.t t
   show (match Ej ops n t with|some j=>R j|none=>is (a0.eval (.tmp t))) _ w
   cases hs:Ej ops n t with
   |none=>rw[hs] at ht;exact ht
   |some j=>
    rw[hs] at ht
    obtain⟨oj,hoj,e,he,hb,hon⟩:=Region.waitsFor_spec (hops t j hx hs)
    have hoj':oj=oi':=Option.some.inj (hoj.symm.trans hoi)
    have hl:listed.getD j false=true:=by
     rw[<-hon];exact hall e (by rw[<-hoj'];exact he) hb
    simp only[hl,if_true] at ht
    show R j (a.tmps.getD t undef) w
    rw[ht]
    exact h.r j (Gj hs).1 hl
  |const v=>rfl
  |global g=>rfl
  |func f=>rfl
 refine Oper.wp_mono (λa' w' hh=>?_) (hop i oi' hin hoi a w ⟨h.d,λt ht=>by have:=h.t t;rw[ht] at this;exact this⟩ h.c hpre)
 obtain⟨v,rfl,hc',hb',hr'⟩:=hh
 refine hK (λj=>if j=i then v else σ j) _ w' ⟨hc',?_,?_,λt=>?_,λj hj hl=>?_⟩ hb'
 unfold Act.put;split<;>exact h.d
 unfold Act.put;split<;>simp[h.z]
 have ht:=h.t t
 have hset:(listed.setIfInBounds i true).getD i false=true:=by
  have:i<listed.size:=by rw[hsz];exact(Ξ hoi).1
  simp[this]
 cases hdst:oi'.dst with
 |none=>
  show a.tmps.getD t undef=_
  rw[ht]
  cases hs:Ej ops n t with
  |none=>rfl
  |some j=>
   obtain⟨_,o',ho',hd'⟩:=Gj hs
   have hne:j≠i:=λe=>by subst e;rw[hoi] at ho';cases ho';rw[hdst] at hd';cases hd'
   simp only[getD_set_ne false (Ne.symm hne),hne,if_false]
 |some d=>
  obtain⟨hsd,hdN⟩:=hd d hdst
  rw[Zq _ d t _ (by rw[h.z,hN];exact hdN)]
  by_cases hdt:d=t
  subst hdt;rw[if_pos rfl,hsd];simp only[hset,if_true]
  rw[if_neg hdt,ht]
  cases hs:Ej ops n t with
  |none=>rfl
  |some j=>
   obtain⟨_,o',ho',hd'⟩:=Gj hs
   have hne:j≠i:=λe=>by subst e;rw[hoi] at ho';cases ho';rw[hdst] at hd';cases hd';exact hdt rfl
   simp only[getD_set_ne false (Ne.symm hne),hne,if_false]
 by_cases hji:j=i
 subst hji;simpa using hr'
 rw[getD_set_ne false (Ne.symm hji)] at hl
 simp only[hji,if_false]
 exact hst j _ w w' hb' (h.r j hj hl)
theorem Afw (hS:cR .any ops n N) (hN:a0.tmps.size=N) (hst:∀j v w w',Below w.heap.size w w'->R j v w->R j v w') (hop:∀i o,i<n->ops[i]?=some o->Oi P ops n C R a0 Q i o)
  {listed:Array Bool} {σ:Nat->Value} {a:Act} {w:World} (hsz:listed.size=ops.size) (h:Mid ops n C R a0 listed σ a w) {i:Nat} (hi:i∈Region.ready .any ops listed) (hin:i<n) {K:Act->World->Prop}
  (hK:∀σ' a' w',Mid ops n C R a0 (listed.setIfInBounds i true) σ' a' w'->K a' w') {oi:Oper} (hoi:ops[i]?=some oi):oi.wp P a w K Q:=
 Acj hS.toGrowO hN hst hop hsz h hi hin (λσ' a' w' h' _=>hK σ' a' w' h') hoi
theorem wU (hS:cR .any ops n N) (hN:a0.tmps.size=N) (hst:∀j v w w',Below w.heap.size w w'->R j v w->R j v w') (hop:∀i o,i<n->ops[i]?=some o->Oi P ops n C R a0 Q i o)
  {listed:Array Bool} {σ:Nat->Value} {a:Act} {w:World} (hsz:listed.size=ops.size) (h:Mid ops n C R a0 listed σ a w) {i:Nat} (hi:i∈Region.ready .any ops listed) (hin:i<n) {K:Act->World->Prop}
  (hK:∀σ' a' w',Mid ops n C R a0 (listed.setIfInBounds i true) σ' a' w'->K a' w'):wpOp P ops Q i K a w:=by
 obtain⟨o,ho,hg,_,_,_⟩:=hS.op i hin
 have hw:Region.wanted o (yielded ops a.tmps)=true:=by simp[Region.wanted,hg]
 unfold wpOp
 simp only[ho,hw,if_true]
 exact .inl (Afw hS hN hst hop hsz h hi hin hK ho)
def left (n:Nat) (listed:Array Bool):Nat:=((List.range n).filter λi=> !listed.getD i false).length
theorem kT {listed:Array Bool} {i:Nat} (hi:i<n) (hs:i<listed.size) (h:listed.getD i false=false):left n (listed.setIfInBounds i true)+1=left n listed:=by
 unfold left
 have hset:∀j,(listed.setIfInBounds i true).getD j false=if j=i then true else listed.getD j false:=λj=>by
  by_cases hj:j=i
  subst hj;simp[hs]
  rw[if_neg hj,getD_set_ne false (Ne.symm hj)]
 simp only[hset]
 induction n with
 |zero=>omega
 |succ m ih=>
  rw[List.range_succ,List.filter_append,List.filter_append,List.length_append,List.length_append]
  by_cases hm:i=m
  subst hm
  have e:(List.range i).filter (λj=> !(if j=i then true else listed.getD j false))=(List.range i).filter (λj=> !listed.getD j false):=
   List.filter_congr λj hj=>by rw[if_neg (by have:=List.mem_range.1 hj;omega)]
  have e2:(List.filter (λj=> !(if j=i then true else listed.getD j false)) [i])=[]:=by simp
  have e3:(List.filter (λj=> !listed.getD j false) [i])=[i]:=by rw[List.filter_cons_of_pos (by rw[h];rfl)];rfl
  rw[e,e2,e3]
  rfl
  have:=ih ω
  have e:(!(if m=i then true else listed.getD m false))= !listed.getD m false:=by rw[if_neg (Ne.symm hm)]
  simp only[List.filter_cons,e,List.filter_nil]
  omega
theorem Us {listed:Array Bool} (h:left n listed=0):∀i,i<n->listed.getD i false=true:=by
 intro i hi
 unfold left at h
 have:=List.eq_nil_of_length_eq_zero h
 have:=List.filter_eq_nil_iff.1 this i (List.mem_range.2 hi)
 simpa using this
theorem kS {listed:Array Bool} (h:0<left n listed):∃i,i<n/\listed.getD i false=false/\∀j,j<i->listed.getD j false=true:=by
 have h1:∃i,i<n/\listed.getD i false=false:=by
  obtain⟨i,hi⟩:=List.exists_mem_of_length_pos h
  have:=List.mem_filter.1 hi
  exact⟨i,List.mem_range.1 this.1,by simpa using this.2⟩
 obtain⟨i,hi,hf⟩:=h1
 induction i using Nat.strongRecOn with
 |_ i ih=>
  by_cases hall:∀j,j<i->listed.getD j false=true
  exact⟨i,hi,hf,hall⟩
  have ⟨j,hj⟩:=Classical.not_forall.1 hall
  have ⟨hji,hjf⟩:=Classical.not_imp.1 hj
  exact ih j hji ω (by simpa using hjf)
theorem Aci (hS:cR .any ops n N) (hN:a0.tmps.size=N) (_:n<=ops.size) {listed:Array Bool} {σ:Nat->Value} {a:Act} {w:World} (hl:left n listed=0) (inv:HeadInv .any ops n listed) (h:Mid ops n C R a0 listed σ a w):
  listed=((List.range ops.size).map λi=>decide (i<n)).toArray/\a=Fm ops a0 σ n:=by
 have hall:=Us hl
 have hlist:listed=((List.range ops.size).map λi=>decide (i<n)).toArray:=by
  apply Array.ext
  simp[inv.size]
  intro i h1 h2
  have hi:i<ops.size:=by rw[<-inv.size];exact h1
  by_cases hin:i<n
  have:=hall i hin
  simp[h1] at this
  simp[this,hin]
  have:=inv.tail i ω hi
  simp[h1] at this
  simp[this,hin]
 have ha:a=Fm ops a0 σ n:=by
  obtain⟨tm,df⟩:=a
  have hd:=h.d
  have hz:=h.z
  have htt:=h.t
  simp only at hd hz htt
  have e1:(Fm ops a0 σ n).defers=df:=by rw[Ri,hd]
  have e2:tm=(Fm ops a0 σ n).tmps:=by
   apply Array.ext
   rw[hz,Qk]
   intro i h1 h2
   have x1:=htt i
   have x2:=eB hS.toGrowO a0 hN σ n ζ i
   have x3:tm.getD i undef=(Fm ops a0 σ n).tmps.getD i undef:=by
    rw[x1,x2]
    cases hs:Ej ops n i with
    |none=>rfl
    |some j=>
     have hj:=(Gj hs).1
     simp only[hall j hj,if_true,hj]
   simpa [h1,h2] using x3
  rw[e2,<-e1]
 exact⟨hlist,ha⟩
theorem oS (hS:cR .any ops n N) (hn:n<=ops.size) {listed:Array Bool} {c:Nat} (hl:left n listed=c+1) (inv:HeadInv .any ops n listed):Region.ready .any ops listed≠[]/\∀i∈Region.ready .any ops listed,i<n:=by
 obtain⟨i0,hi0,hf0,hlow⟩:=kS (n:=n) (listed:=listed) ω
 have hsz0:i0<listed.size:=by rw[inv.size];omega
 have hr0:i0∈Region.ready .any ops listed:=by
  obtain⟨o,ho,_,_,_,hed⟩:=hS.op i0 hi0
  exact mem_ready.2 ⟨getD_in hsz0 hf0,o,ho,λe he hb=>hlow _ (hed e he hb)⟩
 refine⟨λh0=>absurd hr0 (by rw[h0];simp),λi hi=>?_⟩
 rcases Nat.lt_or_ge i n with hlt|hge
 exact hlt
 rcases hS.tail with he|⟨hlt,hs,hc⟩
 obtain⟨_,o,ho,_⟩:=mem_ready.1 hi
 have:=(Ξ ho).1
 omega
 exact absurd hi (tail_waits hs hc hlt inv _ i0 rfl hi0 (getD_in hsz0 hf0) i hge)
theorem kL (hS:cR .any ops n N) (hN:a0.tmps.size=N) (hst:∀j v w w',Below w.heap.size w w'->R j v w->R j v w') (hop:∀i o,i<n->ops[i]?=some o->Oi P ops n C R a0 Q i o)
  (htail:∀σ w,C w->(∀j,j<n->R j (σ j) w)->wpList P ops Q (ops.toList.drop n) (Fm ops a0 σ n) w) (hn:n<=ops.size):
  ∀(c:Nat) (listed:Array Bool) (σ:Nat->Value) (a:Act) (w:World),left n listed=c->HeadInv .any ops n listed->Mid ops n C R a0 listed σ a w->wpAny P .any ops Q (c+(ops.size-n)) listed a w
 |0,listed,σ,a,w,hl,inv,h=>by
  have hall:=Us hl
  obtain⟨hlist,ha⟩:=Aci hS hN hn hl inv h
  rw[Nat.zero_add]
  have hlen:(ops.toList.drop n).length=ops.size-n:=by simp
  have:=wpAny_of_seq (P:=P) (ops:=ops) (md:= .any) (Q':=Q) (ops.toList.drop n) n listed a w (λj=>by simp[List.getElem?_drop]) (by rw[hlen,hlist];exact hS.seq) (by rw[ha];exact htail σ w h.c λj hj=>h.r j hj (hall j hj))
  rwa [hlen] at this
 |c+1,listed,σ,a,w,hl,inv,h=>by
  rw[show c+1+(ops.size-n)=(c+(ops.size-n))+1 by omega]
  obtain⟨hne,hsm⟩:=oS hS hn hl inv
  refine⟨λh0=>absurd h0 hne,λi hi=>?_⟩
  have hin:=hsm i hi
  have hun:=(mem_ready.1 hi).1
  have hisz:i<listed.size:=by rw[inv.size];omega
  exact wU hS hN hst hop inv.size h hi hin λσ' a' w' h'=>
   kL hS hN hst hop htail hn c _ σ' a' w' (by have:=kT hin hisz (getD_both hun);omega) (inv.set hi hin) h'
theorem lO {id:Nat} {w:World} {l:List Oper} (n N:Nat) (C:World->Prop) (R:Nat->Value->World->Prop) (hm:P.follows .mixedOrders=true) (hB:sG .any l.toArray n N=true) (hN:a0.tmps.size=N) (hn:n<=l.length)
  (hst:∀j v w w',Below w.heap.size w w'->R j v w->R j v w') (h0:C w.drew) (hop:∀i o,i<n->l[i]?=some o->Oi P l.toArray n C R a0 Q i o)
  (htail:∀σ w,C w->(∀j,j<n->R j (σ j) w)->wpList P l.toArray Q (l.drop n) (Fm l.toArray a0 σ n) w):(Code.region id l.toArray true).wp P Q a0 w:=by
 have hS:=Aj4 hB
 refine wp_region_any hm ?_
 have inv0:HeadInv .any l.toArray n (Array.replicate l.toArray.size false):=
  ⟨by simp,λj oj _ hl=>(by rw[getD_replicate_false] at hl;cases hl),λt _ ht=>getD_in (by simpa using ht) (getD_replicate_false _ _)⟩
 have hl:left n (Array.replicate l.toArray.size false)=n:=by
  unfold left
  rw[List.filter_eq_self.2 (λi _=>by rw[getD_replicate_false];rfl),List.length_range]
 have:=kL (C:=C) (R:=R) (a0:=a0) (Q:=Q) hS hN hst (λi o hi ho=>hop i o hi (by simpa using ho)) htail (by simpa using hn) n _ (λ_=>undef) a0 w.drew hl inv0
  ⟨h0,rfl,rfl,λt=>by
   cases Ej l.toArray n t with
   |none=>rfl
   |some j=>simp only[getD_replicate_false,Bool.false_eq_true,if_false],λj _ hl=>by rw[getD_replicate_false] at hl;cases hl⟩
 rw[show n+(l.toArray.size-n)=l.toArray.size by simp;omega] at this
 exact this
def vN (Rs:List (Value->World->Prop)):Nat->Value->World->Prop:=λi=>Rs.getD i (λ_ _=>True)
def Xx (r:Value->World->Prop):Prop:=∀v w w',Below w.heap.size w w'->r v w->r v w'
theorem Cl (x:Value):Xx (is x):=λ_ _ _ _ h=>h
theorem lV {Rs:List (Value->World->Prop)} (h:∀r∈Rs,Xx r):∀j v w w',Below w.heap.size w w'->vN Rs j v w->vN Rs j v w':=by
 intro j v w w' hb hr
 unfold vN at*
 rw[Γ] at*
 cases hj:Rs[j]? with
 |none=>rw[hj] at hr;exact hr
 |some r=>rw[hj] at hr;exact h r (List.mem_of_getElem? hj) v w w' hb hr
def AaG (P:Program) (ops:Array Oper) (n:Nat) (C:World->Prop) (R:Nat->Value->World->Prop) (a0:Act) (Q:Exit->Act->World->Prop):Nat->Nat->List Oper->Prop
 |0,_,_=>True
 |_+1,_,[]=>True
 |k+1,i,o::l=>Oi P ops n C R a0 Q i o/\AaG P ops n C R a0 Q k (i+1) l
theorem lJ:∀(k i:Nat) (l:List Oper),AaG P ops n C R a0 Q k i l->∀j o,j<k->l[j]?=some o->Oi P ops n C R a0 Q (i+j) o
 |0,_,_,_,_,_,hj,_=>by omega
 |k+1,i,[],_,j,o,_,h=>by simp at h
 |k+1,i,o'::l,h,0,o,_,hl=>by
  have:o'=o:=by simpa using hl
  rw[<-this]
  exact h.1
 |k+1,i,o'::l,h,j+1,o,hj,hl=>by
  have:=lJ k (i+1) l h.2 j o ω (by simpa using hl)
  rwa [show i+1+j=i+(j+1) by omega] at this
theorem Vw {id:Nat} {w:World} {l:List Oper} (n N:Nat) (C:World->Prop) (Rs:List (Value->World->Prop)) (hm:P.follows .mixedOrders=true) (hB:sG .any l.toArray n N=true) (hN:a0.tmps.size=N) (hn:n<=l.length)
  (hst:∀r∈Rs,Xx r) (h0:C w.drew) (hop:AaG P l.toArray n C (vN Rs) a0 Q n 0 l)
  (htail:∀σ w,C w->(∀j,j<n->vN Rs j (σ j) w)->wpList P l.toArray Q (l.drop n) (Fm l.toArray a0 σ n) w):(Code.region id l.toArray true).wp P Q a0 w:=
 lO n N C (vN Rs) hm hB hN hn (lV hst) h0 (λi o hi ho=>by have:=lJ n 0 l hop i o hi ho;rwa [Nat.zero_add] at this) htail
theorem Nv {i:Nat} {o:Oper} (h:∀(a:Act) (w:World),C w->(∀x,x∈o.op.operands->Kj ops n R a0 x (a.eval x) w)->∃v,(execOp a.eval o).run P w= .ok (.value v) w/\R i v w):Oi P ops n C R a0 Q i o:=by
 intro a w _ hC hpre
 obtain⟨v,hrun,hr⟩:=h a w hC hpre
 unfold Oper.wp
 rw[hrun]
 exact⟨v,rfl,hC,Below.refl _ _,hr⟩
theorem Mp {i:Nat} {o:Oper} (x:Operand) (r:Value->World->Prop) (ho:o.op= .move x) (hx:Kj ops n R a0 x=r) (h:∀(v:Value) (w:World),C w->r v w->R i v w):Oi P ops n C R a0 Q i o:=
 Nv λa w hC hpre=>⟨a.eval x,by simp[execOp,ho],h _ w hC (by have:=hpre x (by rw[ho];simp[Op.operands]);rw[hx] at this;exact this)⟩
theorem AfJ {i:Nat} {o:Oper} (f:FuncId) (args:Array Value) (h:∀(a:Act) (w:World),C w->(∀x,x∈o.op.operands->Kj ops n R a0 x (a.eval x) w)->(execOp a.eval o).run P w= .ok (.enter f args) w)
  (hc:∀w,C w->Calls P f args w λe w'=>∃v,e= .returned v/\C w'/\Below w.heap.size w w'/\R i v w'):Oi P ops n C R a0 Q i o:=by
 intro a w _ hC hpre
 unfold Oper.wp
 rw[h a w hC hpre]
 exact(hc w hC).mono λe w' ⟨v,he,h1,h2,h3⟩=>by subst he;exact⟨v,rfl,h1,h2,h3⟩
theorem AfM {i:Nat} {o:Oper} (x:Operand) (u v:Value) (F:Value->Sem Value) (hF:∀ρ:Operand->Value,execOp ρ o=(do let y<-F (ρ x);pure (.value y))) (ho:x∈o.op.operands) (hx:Kj ops n R a0 x=is u)
  (hrun:∀w,C w->(F u).run P w= .ok v w) (hr:∀w,C w->R i v w):Oi P ops n C R a0 Q i o:=
 Nv λa w hC hpre=>by
  have h1:a.eval x=u:=by have:=hpre x ho;rw[hx] at this;exact this
  exact⟨v,by rw[hF,h1];simp[hrun w hC],hr w hC⟩
theorem AfK {i:Nat} {o:Oper} (T:TypeId) (x:Operand) (u v:Value) (ho:o.op= .load T x) (hx:Kj ops n R a0 x=is u) (hrun:∀w,C w->(Instr.loadAt T u).run P w= .ok v w) (hr:R i=is v):Oi P ops n C R a0 Q i o:=
 AfM x u v (λy=>Instr.loadAt T y) (λρ=>by simp[execOp,ho]) (by rw[ho];simp[Op.operands]) hx hrun (λ_ _=>by rw[hr];rfl)
theorem Li {T:TypeId} {ad:Addr} {u:Value} (w:World) (hT:(isAgg T).run P w= .ok false w) (hc:w.cell? ad=some u):(Instr.loadAt T (.pointer (some ad))).run P w= .ok u w:=by
 simp[Instr.loadAt,Instr.sureAddr,loadVar,hT,hc]
theorem Tx {w:World} {b o:Nat}:∀(cs:List Value) (i:Nat) (acc:Array Value),(∀j u,cs[j]?=some u->w.cell? ⟨b,o+(i+j),none⟩=some u)->
  (loadCellsFrom ⟨b,o,none⟩ i cs.length acc).run P w= .ok (acc++cs.toArray) w
 |[],i,acc,_=>by simp[loadCellsFrom]
 |c::cs,i,acc,h=>by
  have h0:=h 0 c rfl
  have ha:(⟨b,o,none⟩:Addr).add i=⟨b,o+i,none⟩:=by unfold Addr.add;split<;>simp_all
  have ih:=Tx cs (i+1) (acc.push c) (λj u hu=>by have:=h (j+1) u hu;rwa [show i+1+j=i+(j+1) by omega])
  simp only[List.length_cons,loadCellsFrom,Sem.run_bind,ha,run_load]
  rw[Nat.add_zero] at h0
  simp only[h0]
  simp only[Result.andThen_ok]
  rw[ih]
  simp
theorem eE {T:TypeId} {b o:Nat} (cs:List Value) (w:World) (hT:(isAgg T).run P w= .ok true w) (hn:(sizeOf T).run P w= .ok cs.length w) (hc:∀j u,cs[j]?=some u->w.cell? ⟨b,o+j,none⟩=some u):
  (Instr.loadAt T (.pointer (some ⟨b,o,none⟩))).run P w= .ok (.agg cs.toArray) w:=by
 have:=Tx (P:=P) (w:=w) (b:=b) (o:=o) cs 0 #[] (λj u hu=>by rw[Nat.zero_add];exact hc j u hu)
 simp[Instr.loadAt,Instr.sureAddr,loadVar,hT,hn,loadCells,this]
def eY (ops:Array Oper) (n:Nat) (R:Nat->Value->World->Prop) (a0:Act):List Operand->List Value->Prop
 |[],[]=>True
 |x::xs,u::us=>Kj ops n R a0 x=is u/\eY ops n R a0 xs us
 |_,_=>False
theorem lC {a:Act} {w:World}:∀(xs:List Operand) (us:List Value),eY ops n R a0 xs us->(∀x,x∈xs->Kj ops n R a0 x (a.eval x) w)->xs.map a.eval=us
 |[],[],_,_=>rfl
 |[],_::_,h,_=>h.elim
 |_::_,[],h,_=>h.elim
 |x::xs,u::us,h,hp=>by
  have h1:=hp x (by simp)
  rw[h.1] at h1
  rw[List.map_cons,lC xs us h.2 (λy hy=>hp y (by simp[hy]))]
  exact congrArg (·::us) h1
theorem AcV {i:Nat} {o:Oper} (f:FuncId) (xs:List Operand) (ts:Array TypeId) (us:List Value) (ho:o.op= .call { callee:= .value (.func f),args:=xs.toArray,argTypes:=ts }) (hcall:∀args w,(callFunc f args).run P w= .ok (.enter f args) w)
  (hargs:eY ops n R a0 xs us) (hc:∀w,C w->Calls P f us.toArray w λe w'=>∃v,e= .returned v/\C w'/\Below w.heap.size w w'/\R i v w'):Oi P ops n C R a0 Q i o:=by
 refine AfJ f us.toArray (λa w hC hpre=>?_) hc
 have hm:=lC (a:=a) (w:=w) xs us hargs (λx hx=>hpre x (by rw[ho];simp[Op.operands,Call.operands,hx]))
 have he:a.eval (.func f)= .func (.func f) #[] #[]:=rfl
 simp[execOp,ho,resolve,invoke,he,hm,hcall,Deferred.ofValue]
theorem AgS {i:Nat} {o:Oper} (t:Nat) (u v:Value) (ho:o.op.operands=#[.tmp t]) (hx:Kj ops n R a0 (.tmp t)=is u) (h:∀(a:Act) (w:World),C w->a.tmps[t]?.getD undef=u->(execOp a.eval o).run P w= .ok (.value v) w) (hr:R i=is v):Oi P ops n C R a0 Q i o:=
 Nv λa w hC hpre=>⟨v,h a w hC (by have:=hpre (.tmp t) (by rw[ho];simp);rw[hx] at this;simpa [Act.eval,is] using this),by rw[hr];rfl⟩
theorem tF {i:Nat} {o:Oper} (t:Nat) (c u v:Value) (ho:o.op.operands=#[.tmp t,.const c]) (hx:Kj ops n R a0 (.tmp t)=is u) (h:∀(a:Act) (w:World),C w->a.tmps[t]?.getD undef=u->(execOp a.eval o).run P w= .ok (.value v) w) (hr:R i=is v):Oi P ops n C R a0 Q i o:=
 Nv λa w hC hpre=>⟨v,h a w hC (by have:=hpre (.tmp t) (by rw[ho];simp);rw[hx] at this;simpa [Act.eval,is] using this),by rw[hr];rfl⟩
theorem tE {i:Nat} {o:Oper} (t t':Nat) (u u' v:Value) (ho:o.op.operands=#[.tmp t,.tmp t']) (hx:Kj ops n R a0 (.tmp t)=is u) (hx':Kj ops n R a0 (.tmp t')=is u')
  (h:∀(a:Act) (w:World),C w->a.tmps[t]?.getD undef=u->a.tmps[t']?.getD undef=u'->(execOp a.eval o).run P w= .ok (.value v) w) (hr:R i=is v):Oi P ops n C R a0 Q i o:=
 Nv λa w hC hpre=>⟨v,h a w hC (by have:=hpre (.tmp t) (by rw[ho];simp);rw[hx] at this;simpa [Act.eval,is] using this) (by have:=hpre (.tmp t') (by rw[ho];simp);rw[hx'] at this;simpa [Act.eval,is] using this),by rw[hr];rfl⟩
theorem AcW {i:Nat} {o:Oper} (T e:TypeId) (t t':Nat) (b off len c size:Nat) (j:Int) (k:Nat) (ho:o.op= .indexAddr T (.tmp t) (.tmp t')) (hx:Kj ops n R a0 (.tmp t)=is (.slice (some ⟨b,off,none⟩) len c)) (hx':Kj ops n R a0 (.tmp t')=is (.int .i64 j))
  (hT:P.underlying T=some (.slice e)) (hsz:∀w,(sizeOf e).run P w= .ok size w) (hj:j=(k:Int)) (hk:k<len) (hr:R i=is (.pointer (some ⟨b,off+k*size,none⟩))):Oi P ops n C R a0 Q i o:=
 tE t t' _ _ (.pointer (some ⟨b,off+k*size,none⟩)) (by rw[ho];rfl) hx hx' (λa w _ h1 h2=>by
  have e1:a.eval (.tmp t)= .slice (some ⟨b,off,none⟩) len c:=by simpa [Act.eval] using h1
  have e2:a.eval (.tmp t')= .int .i64 j:=by simpa [Act.eval] using h2
  have hj2:(0:Int)<=j/\j<(len:Int):=by omega
  have hj3:j.toNat=k:=by omega
  simp[execOp,ho,e1,e2,Instr.indexAt,asIntOf,run_underlying hT,hj2,hj3,hsz,Ff]) hr
end Go.Proofs.YtbggmndaahbojaaGreat