/- Part 20 of the proof of SV.row_holds, joined by program: no condition beyond the row's own. -/
import Derived.Test.YtldnjomacnjhnaaGreatV19
import Derived.Scope
set_option maxRecDepth 100000
set_option maxHeartbeats 40000000
namespace Go.Proofs.YtldnjomacnjhnaaGreat
theorem Jr {P:Program} {b:Frame} {a:Act} {k:List Item} {cs:List Frame} {w:World} {c:Code}:step P (lone (b.atR a (.code (.scope c)::k)) cs w)= .next (lone (b.atR a (.code c:: .inScope c::k)) cs w):=
 step_lone_go (by simp[Go.stepG,Go.stepG.exec,Frame.atR])
theorem dP {P:Program} {b:Frame} {a:Act} {k:List Item} {cs:List Frame} {w:World} {c:Code}:step P (lone (b.atR a (.inScope c::k)) cs w)= .next (lone (b.atR a k) cs w):=
 step_lone_go (by simp[Go.stepG,Go.stepG.exec,Frame.atR])
theorem sO {F:Fence} {n:Nat} {P:Program} {Q:Exit->Act->World->Prop} {a:Act} {w:World} {c:Code} (h:c.wpIn F n P (Exit.noGoto Q) a w):(Code.scope c).wpIn F n P Q a w:=by
 intro b k cs hro hb hr
 have h0:(lone (b.atR a (.code (.scope c)::k)) cs w).fenced P F:=fenced_calm hb hr rfl
 obtain⟨e,a₁,w₁,hq,harr⟩:=h b (.inScope c::k) cs hro hb hr
 cases e with
 |normal=>exact⟨.normal,a₁,w₁,hq,.head h0 Jr (StepsIn.trans harr (.one (fenced_calm hb hr rfl) dP))⟩
 |exit id=>
  have hx:exitTo id (.inScope c::k)=exitTo id k:=by simp[exitTo]
  exact⟨.exit id,a₁,w₁,hq,λk' hk=> .head h0 Jr (harr.1 k' (by rw[hx];exact hk)),
   λhr' hk=>let ⟨k₁,h1,h2⟩:=harr.2 hr' (by rw[hx];exact hk);⟨k₁,h1,.head h0 Jr h2⟩⟩
 |goto l=>exact hq.elim
 |ret=>exact⟨_,a₁,w₁,hq,.of_steps (.one h0 Jr) harr⟩
 |panic ch=>exact⟨_,a₁,w₁,hq,.of_steps (.one h0 Jr) harr⟩
 |outgrown=>exact⟨_,a₁,w₁,hq,.of_steps (.one h0 Jr) harr⟩
def AeK (Q:Exit->St->Prop):Exit->St->Prop
 | .goto _,_=>False
 |e,s=>Q e s
theorem zW {P:Program} {R:Option Nat} {B:Nat} {D0:Bk} {s:St} {Q:Exit->St->Prop} {c:Code} (h:AC P R B D0 c s (AeK Q)):AC P R B D0 (.scope c) s Q:=⟨λE a hs=>
 sO (Em (λe a' w' ⟨s',E',h1,h2,h3,h4⟩=>by
  cases e with
  |goto l=>exact h2.elim
  |normal=>exact⟨s',E',h1,h2,h3,h4⟩
  |exit id=>exact⟨s',E',h1,h2,h3,h4⟩
  |ret=>exact⟨s',E',h1,h2,h3,h4⟩
  |panic ch=>exact⟨s',E',h1,h2,h3,h4⟩
  |outgrown=>exact⟨s',E',h1,h2,h3,h4⟩) (h.run E a hs))⟩
theorem iY {B:Nat} {D0:Bk} {s:St} (id:Nat) (t:TypeId) (cs:List AV) (s':St) (hc:Bb s.h id=some (.box t cs)) (hs':(⟨mapT (frzB id cs) s.t,(Hc s.h id).map λp=>(p.1,p.2.mapB (frzB id cs)),s.nx,s.n⟩:St)=s') (hf:cs.all AV.free=true) (E:Bk) (a:Act) (hs:Im B D0 E s a):∃E',E'.w=E.w/\Im B D0 E' s' a:=by
 refine aS id (frzB id cs) s' hs' hc (λE x v hh hv=>?_) E a hs
 have up:=hv.up (E.le_fr id)
 obtain⟨arr,hb,hvs⟩:=hh.box hc
 cases hv with
 |osl _ id' e' m hA=>
  unfold frzB
  simp only
  by_cases e1:id'=id
  rw[if_pos e1];exact .top _ _
  rw[if_neg e1];exact up
 |ptr _ id' off hA=>
  unfold frzB
  simp only
  by_cases e1:id'=id
  subst e1
  rw[if_pos rfl]
  refine .elt _ _ _ _ _ (λj=>arr.getD (off+j) undef) (.inr rfl) (λj hj=>Lk hb (by rw[hvs.1];omega)) λj hj=>?_
  have:=hvs.2 (off+j)
  have e2:cs.getD (off+j) .top=cs[off+j]:=by simp[List.getD_eq_getElem?_getD,show off+j<cs.length by omega]
  refine(this.free ?_).up (E.le_fr id').fz
  rw[e2]
  exact List.all_eq_true.1 hf _ (List.getElem_mem _)
  rw[if_neg e1];exact up
 |_=>exact up
theorem Jo {P:Program} {B:Nat} {D0:Bk} {o:Oper} {ev:Operand->AV} {pre:Nat->Option Ck} (f:FuncId) (xs:Array Operand) (ts:Array TypeId) (ho:o.op= .call { callee:= .value (.func f),args:=xs,argTypes:=ts }) (hcall:∀(vs:Array Value) w,(callFunc f vs).run P w= .ok (.enter f vs) w) (id:Nat) (blk:Ck) (hp:pre id=some blk) (hfl:∀t e n f,blk= .vec t e n f->∀i,i<n->∀j,j<e->((f i).cell j).flat=true) (Hb:List AV) (hargs0:xs.toList.map ev=Hb) (args:List AV) (hargs:Hb.map (mD id blk)=args) (r:AV) (hf:AF P f args r):Eh P B D0 o ev pre r (.drop id):=by
 subst hargs
 subst hargs0
 refine⟨?_⟩
 intro E a c K Q _ hh htch _ hv k
 have hc:=(htch id (by simp[Cd.touch])).trans hp
 obtain⟨l1,l2,l3,l4⟩:=hh.live id _ hc
 unfold Oper.wp
 rw[show (execOp a.eval o).run P E.w=(callFunc f (xs.map a.eval)).run P E.w by simp[execOp,ho,resolve,Deferred.ofValue,Act.eval,invoke],hcall]
 show Calls P f _ E.w _
 refine(hf (E.fr id) (xs.map a.eval) (λb hb=>?_) (by simp) λi hi=>?_).mono ?_
 rcases hb with hb|hb
 exact hh.bnd b hb
 rw[hb];exact l2.lt
 have hi2:i<xs.size:=by simpa using hi
 have e1:((xs.toList.map ev).map (mD id blk)).getD i .top=mD id blk (ev xs[i]):=by simp[List.getD_eq_getElem?_getD,hi2]
 have e2:(xs.map a.eval).getD i undef=a.eval xs[i]:=by simp[hi2]
 rw[e1,e2]
 exact tL hh hc hfl (hv _ (by simp[ho,Op.operands,Call.operands]))
 rintro e w' ⟨v,D',rfl,hr,hb,hd1,hd2,hd3⟩
 have hz:(E.fr id).w=E.w:=rfl
 rw[hz] at hb hd2
 have hle:E.le { E with D:=D',w:=w' }:=⟨λ_ h=>h,λ_ _=>rfl,λb h=>hd1 b (.inl h),λb hb'=>hb.block b (hh.bnd b hb'),λ_ _=>rfl⟩
 have hn:∀b,D' b->(E.D b\/b=E.π id)\/E.w.heap.size<=b:=hd2
 refine k v { E with D:=D',w:=w' } hle (hb.mono hh.B) hr ⟨λi x hx=>?_,λi j x y hx hy=>?_,hd3,λi hi=>Nat.lt_of_lt_of_le (hh.abd i hi) hb.size,hh.le0.trans hle,λb hb'=>?_,Nat.le_trans hh.B hb.size⟩ λi hi=> .inl hi
 have hx2:(if id=i then Option.none else c i)=some x:=hx
 by_cases e1:id=i
 rw[if_pos e1] at hx2;cases hx2
 rw[if_neg e1] at hx2
 obtain⟨j1,j2,j3,j4⟩:=hh.live i x hx2
 refine⟨j1,j2.up hle (hb.block _ j2.lt),λh=>?_,j4⟩
 rcases hn _ h with(h|h)|h
 exact j3 h
 exact hh.inj i id x blk hx2 hc (λe=>e1 e.symm) h
 have:E.π i<E.w.heap.size:=j2.lt
 have h:E.w.heap.size<=E.π i:=h
 omega
 have hx2:(if id=i then Option.none else c i)=some x:=hx
 have hy2:(if id=j then Option.none else c j)=some y:=hy
 by_cases e1:id=i
 rw[if_pos e1] at hx2;cases hx2
 by_cases e2:id=j
 rw[if_pos e2] at hy2;cases hy2
 rw[if_neg e1] at hx2;rw[if_neg e2] at hy2
 exact hh.inj i j x y hx2 hy2
 rcases hn b hb' with(h|h)|h
 exact hh.new b h
 exact .inr (by rw[h];exact l4)
 exact .inr (Nat.le_trans hh.B h)
theorem Aet {P:Program} {B:Nat} {D0:Bk} {s:St} {fn:Func} {r1 r2 r3 r4 r5:ResultVar} {x y z u t:AV} (hr:fn.results=#[r1,r2,r3,r4,r5]) (h1:Ph P B D0 s r1 x) (h2:Ph P B D0 s r2 y) (h3:Ph P B D0 s r3 z) (h4:Ph P B D0 s r4 u) (h5:Ph P B D0 s r5 t):Mx P B D0 fn s (mkTup [x,y,z,u,t]):=λE a hs=>by
 obtain⟨v1,e1,f1⟩:=h1 E a hs
 obtain⟨v2,e2,f2⟩:=h2 E a hs
 obtain⟨v3,e3,f3⟩:=h3 E a hs
 obtain⟨v4,e4,f4⟩:=h4 E a hs
 obtain⟨v5,e5,f5⟩:=h5 E a hs
 refine⟨.tuple #[v1,v2,v3,v4,v5],by simp[Jd,hr,e1,e2,e3,e4,e5],VR.tupl [x,y,z,u,t] _ rfl (λi hi=>?_) _ rfl⟩
 match i with
 |0=>exact f1
 |1=>exact f2
 |2=>exact f3
 |3=>exact f4
 |4=>exact f5
end Go.Proofs.YtldnjomacnjhnaaGreat
namespace Go.Proofs.YtldnjomacnjhnaaGreat
open Go.RowKit
inductive KI where
 |seq (y:Code)
 |blk (id:Nat)
 |lp (I:St->Prop)
 |scp
 |un (n:Nat) (b:Code)
inductive Md where
 |code (c:Code)
 |ops (a:Array Oper) (l:List Oper)
 |out (e:Exit)
structure Ft where
 m:Md
 k:List KI
 s:St
section
variable (P:Program) (R:Option Nat) (B:Nat) (D0:Bk)
def KQ (Q:Exit->St->Prop):List KI->Exit->St->Prop
 |[]=>Q
 | .seq y::k=>qI (λs1=>AC P R B D0 y s1 (KQ Q k)) (KQ Q k)
 | .blk id::k=>tD id (KQ Q k)
 | .lp I::k=>qI I (KQ Q k)
 | .scp::k=>AeK (KQ Q k)
 | .un n b::k=>qI (Sd P R B D0 b (KQ Q k) n) (KQ Q k)
def Mq (s s':St):Prop:=∀E a,Im B D0 E s a->∃E',E'.w=E.w/\Im B D0 E' s' a
def GoM (Q:Exit->St->Prop) (k:List KI) (s:St):Md->Prop
 | .code x=>AC P R B D0 x s (KQ P R B D0 Q k)
 | .ops a l=>AL P R B D0 a l s (KQ P R B D0 Q k)
 | .out e=>∃s',Mq B D0 s s'/\KQ P R B D0 Q k e s'
structure Go (Q:Exit->St->Prop) (c:Ft):Prop where
 m:GoM P R B D0 Q c.k c.s c.m
end
variable {P:Program} {R:Option Nat} {B:Nat} {D0:Bk} {Q:Exit->St->Prop} {c:Ft}
theorem Mq.refl (s:St):Mq B D0 s s:=λE _ h=>⟨E,rfl,h⟩
theorem Mq.trans {a b d:St} (h:Mq B D0 a b) (g:Mq B D0 b d):Mq B D0 a d:=λE x hs=>by
 obtain⟨E1,e1,h1⟩:=h E x hs
 obtain⟨E2,e2,h2⟩:=g E1 x h1
 exact⟨E2,e2.trans e1,h2⟩
theorem Aak {k:List KI} {s s':St} (hw:Mq B D0 s s'):∀m,GoM P R B D0 Q k s' m->GoM P R B D0 Q k s m
 | .code _,h=>Pb hw h
 | .ops _ _,h=>sZ hw h
 | .out _,⟨s2,h1,h2⟩=>⟨s2,hw.trans h1,h2⟩
theorem Jw (s':St) (hw:Mq B D0 c.s s') (h:Go P R B D0 Q ⟨c.m,c.k,s'⟩):Go P R B D0 Q c:=⟨Aak hw _ h.m⟩
theorem gC {x:Code} {s:St} {Q:Exit->St->Prop} {e:Exit} (h:∃s',Mq B D0 s s'/\Q e s') (hx:∀s,Q e s->AC P R B D0 x s Q):AC P R B D0 x s Q:=by
 obtain⟨s',h1,h2⟩:=h
 exact Pb h1 (hx s' h2)
def mV (a:Array Oper) (s:St) (o:Oper):Option Bool:=match o.guard with
 |none=>some true
 |some (j,b)=>match (a[j]?).bind (·.dst) with
  |some d=>match Bx s.t d with
   | .lit (.bool b')=>match b,b' with
    |true,true|false,false=>some true
    |_,_=>some false
   | .lit (.tuple v)=>match v.toList with
    |[]=>some false
    |_=>none
   |_=>none
  |none=>none
def Aex (P:Program) (a:Array Oper) (o:Oper) (l:List Oper) (k:List KI) (s:St):Ft:=
 match mV a s o with
 |some true=>match evG P o s.ev (Bb s.h) s.nx with
  |some (V,f)=>bif f.low s.nx&&Iq o s.n then ⟨.ops a l,k,⟨Ja s.t o.dst V,f.ap s.h,f.nx s.nx,s.n⟩⟩ else ⟨.ops a (o::l),k,s⟩
  |none=>⟨.ops a (o::l),k,s⟩
 |some false=>bif Iq o s.n then ⟨.ops a l,k,⟨Ja s.t o.dst .undef,s.h,s.nx,s.n⟩⟩ else ⟨.ops a (o::l),k,s⟩
 |none=>⟨.ops a (o::l),k,s⟩
theorem mW {a:Array Oper} {s:St} {o:Oper} {l:List Oper} {Q:Exit->St->Prop} (h:mV a s o=some true) (V:AV) (f:Cd) (hlow:f.low s.nx=true) (hd:Iq o s.n=true) (ho:Eh P B D0 o s.ev (Bb s.h) V f) (hk:AL P R B D0 a l ⟨Ja s.t o.dst V,f.ap s.h,f.nx s.nx,s.n⟩ Q):AL P R B D0 a (o::l) s Q:=by
 unfold mV at h
 split at h
 rename_i hg;exact eB V f hg hlow hd ho hk
 rename_i j b hg
 split at h
 rename_i d hj
 split at h
 rename_i b' hv
 split at h
 exact gV V f hg hj hv hlow hd ho hk
 exact gV V f hg hj hv hlow hd ho hk
 cases h
 rename_i v hv
 split at h<;>cases h
 cases h
 cases h
theorem xA {a:Array Oper} {s:St} {o:Oper} {l:List Oper} {Q:Exit->St->Prop} (h:mV a s o=some false) (hd:Iq o s.n=true) (hk:AL P R B D0 a l ⟨Ja s.t o.dst .undef,s.h,s.nx,s.n⟩ Q):AL P R B D0 a (o::l) s Q:=by
 unfold mV at h
 split at h
 cases h
 rename_i j b hg
 split at h
 rename_i d hj
 split at h
 rename_i b' hv
 split at h
 cases h
 cases h
 rename_i h1 h2
 refine tA hg hj hv ?_ hd hk
 cases b<;>cases b'<;>first|rfl|exact(h1 rfl rfl).elim|exact(h2 rfl rfl).elim
 rename_i v hv
 split at h
 rename_i he
 refine lQ hg hj (hv.trans ?_) hd hk
 have:v=#[]:=by cases v;simp_all
 subst this;rfl
 cases h
 cases h
 cases h
theorem Adv {a:Array Oper} {o:Oper} {l:List Oper} {k:List KI} {s:St} (h:Go P R B D0 Q (Aex P a o l k s)):AL P R B D0 a (o::l) s (KQ P R B D0 Q k):=by
 unfold Aex at h
 split at h
 rename_i hg
 split at h
 rename_i V f he
 cases hb:f.low s.nx&&Iq o s.n with
 |false=>rw[hb] at h;exact h.m
 |true=>
  rw[hb] at h
  have hb2:=Bool.and_eq_true_iff.1 hb
  exact mW hg V f hb2.1 hb2.2 (qQ he) h.m
 exact h.m
 rename_i hg
 cases hb:Iq o s.n with
 |false=>rw[hb] at h;exact h.m
 |true=>rw[hb] at h;exact xA hg hb h.m
 exact h.m
def stp (P:Program):Ft->Ft
 |⟨.code x,k,s⟩=>match x with
  | .seq x y=>⟨.code x,.seq y::k,s⟩
  | .region _ a false=>⟨.ops a a.toList,k,s⟩
  | .skip=>⟨.out .normal,k,s⟩
  | .label _=>⟨.out .normal,k,s⟩
  | .block id x=>⟨.code x,.blk id::k,s⟩
  | .scope x=>⟨.code x,.scp::k,s⟩
  | .exit id=>⟨.out (.exit id),k,s⟩
  | .ret=>⟨.out .ret,k,s⟩
  | .cond d x y=>match s.ev d with
   | .lit (.bool true)=>⟨.code x,k,s⟩
   | .lit (.bool false)=>⟨.code y,k,s⟩
   |_=>⟨.code (.cond d x y),k,s⟩
  |x=>⟨.code x,k,s⟩
 |⟨.ops _ [],k,s⟩=>⟨.out .normal,k,s⟩
 |⟨.ops a (o::l),k,s⟩=>Aex P a o l k s
 |⟨.out .normal,.seq y::k,s⟩=>⟨.code y,k,s⟩
 |⟨.out .normal,.blk _::k,s⟩=>⟨.out .normal,k,s⟩
 |⟨.out .normal,.scp::k,s⟩=>⟨.out .normal,k,s⟩
 |⟨.out .normal,.un (n+1) b::k,s⟩=>⟨.code b,.un n b::k,s⟩
 |⟨.out (.exit id),.blk id'::k,s⟩=>bif Nat.beq id id' then ⟨.out .normal,k,s⟩ else ⟨.out (.exit id),k,s⟩
 |⟨.out (.exit id),.seq _::k,s⟩=>⟨.out (.exit id),k,s⟩
 |⟨.out (.exit id),.lp _::k,s⟩=>⟨.out (.exit id),k,s⟩
 |⟨.out (.exit id),.scp::k,s⟩=>⟨.out (.exit id),k,s⟩
 |⟨.out (.exit id),.un _ _::k,s⟩=>⟨.out (.exit id),k,s⟩
 |⟨.out .ret,_::k,s⟩=>⟨.out .ret,k,s⟩
 |c=>c
theorem Lb {k:List KI} {s:St} {e:Exit} {i:KI} (h:GoM P R B D0 Q k s (.out e)) (hk:∀s,KQ P R B D0 Q k e s->KQ P R B D0 Q (i::k) e s):GoM P R B D0 Q (i::k) s (.out e):=by
 obtain⟨s',h1,h2⟩:=h
 exact⟨s',h1,hk _ h2⟩
theorem Adu {k:List KI} {s:St}:∀x,Go P R B D0 Q (stp P ⟨.code x,k,s⟩)->AC P R B D0 x s (KQ P R B D0 Q k)
 | .seq x y,h=>Iw h.m
 | .region _ ⟨l⟩ false,h=>Iu (l:=l) h.m
 | .region _ _ true,h=>h.m
 | .skip,h=>gC h.m λ_ h=>Li h
 | .label _,h=>gC h.m λ_ h=>zU h
 | .block id x,h=>Jt h.m
 | .scope x,h=>zW h.m
 | .exit id,h=>gC h.m λ_ h=>Uj h
 | .ret,h=>gC h.m λ_ h=>Pc h
 | .cond d x y,h=>by
  unfold stp at h
  dsimp only at h
  split at h
  rename_i hb;exact gG hb rfl h.m
  rename_i hb;exact Zm hb rfl h.m
  exact h.m
 | .loop _,h=>h.m
 | .rangeFunc ..,h=>h.m
 | .goto _,h=>h.m
 | .refuse _,h=>h.m
theorem Aey:∀c,Go P R B D0 Q (stp P c)->Go P R B D0 Q c
 |⟨.code x,k,s⟩,h=>⟨Adu x h⟩
 |⟨.ops _ [],k,s⟩,h=>by
  obtain⟨s',h1,h2⟩:=h.m
  exact⟨sZ h1 (AdR h2)⟩
 |⟨.ops _ (_::_),_,_⟩,h=>⟨Adv h⟩
 |⟨.out .normal,.seq y::k,s⟩,h=>⟨⟨s,Mq.refl s,h.m⟩⟩
 |⟨.out .normal,.blk _::k,s⟩,h=>⟨Lb h.m λ_ h=>h⟩
 |⟨.out .normal,.scp::k,s⟩,h=>⟨Lb h.m λ_ h=>h⟩
 |⟨.out .normal,.lp _::k,s⟩,h=>h
 |⟨.out .normal,.un 0 _::k,s⟩,h=>h
 |⟨.out .normal,.un (n+1) b::k,s⟩,h=>⟨⟨s,Mq.refl s,h.m⟩⟩
 |⟨.out (.exit id),.blk id'::k,s⟩,h=>by
  have h:Go P R B D0 Q (bif Nat.beq id id' then ⟨.out .normal,k,s⟩ else ⟨.out (.exit id),k,s⟩):=h
  cases hb:Nat.beq id id' with
  |false=>rw[hb] at h;exact⟨Lb h.m λ_ h=>by show (bif Nat.beq id id' then _ else _);rw[hb];exact h⟩
  |true=>
   rw[hb] at h
   obtain⟨s',h1,h2⟩:=h.m
   exact⟨⟨s',h1,by show (bif Nat.beq id id' then _ else _);rw[hb];exact h2⟩⟩
 |⟨.out (.exit id),.seq _::k,s⟩,h=>⟨Lb h.m λ_ h=>h⟩
 |⟨.out (.exit id),.lp _::k,s⟩,h=>⟨Lb h.m λ_ h=>h⟩
 |⟨.out (.exit id),.scp::k,s⟩,h=>⟨Lb h.m λ_ h=>h⟩
 |⟨.out (.exit id),.un _ _::k,s⟩,h=>⟨Lb h.m λ_ h=>h⟩
 |⟨.out .ret,.seq _::k,s⟩,h=>⟨Lb h.m λ_ h=>h⟩
 |⟨.out .ret,.blk _::k,s⟩,h=>⟨Lb h.m λ_ h=>h⟩
 |⟨.out .ret,.lp _::k,s⟩,h=>⟨Lb h.m λ_ h=>h⟩
 |⟨.out .ret,.scp::k,s⟩,h=>⟨Lb h.m λ_ h=>h⟩
 |⟨.out .ret,.un _ _::k,s⟩,h=>⟨Lb h.m λ_ h=>h⟩
 |⟨.out .normal,[],_⟩,h=>h
 |⟨.out (.exit _),[],_⟩,h=>h
 |⟨.out .ret,[],_⟩,h=>h
 |⟨.out (.goto _),_,_⟩,h=>h
 |⟨.out (.panic _),_,_⟩,h=>h
 |⟨.out .outgrown,_,_⟩,h=>h
def run (P:Program):Nat->Ft->Ft
 |0,c=>c
 |n+1,c=>run P n (stp P c)
theorem Ae:∀(n:Nat) {c:Ft},Go P R B D0 Q (run P n c)->Go P R B D0 Q c
 |0,_,h=>h
 |n+1,c,h=>Aey c (Ae n h)
def Ft.a (c:Ft):Array Oper:=match c.m with| .ops a _=>a|_=>#[]
def Ft.l (c:Ft):List Oper:=match c.m with| .ops _ l=>l|_=>[]
def Ft.o (c:Ft):Oper:=match c.l with|o::_=>o|[]=>default
def Ft.ok (c:Ft):Bool:=match c.m with
 | .ops a (o::_)=>mV a c.s o==some true&&Iq o c.s.n
 |_=>false
def Ft.put (c:Ft) (V:AV) (f:Cd):Ft:=⟨match c.m with| .ops a (_::l)=> .ops a l|m=>m,c.k,⟨Ja c.s.t c.o.dst V,f.ap c.s.h,f.nx c.s.nx,c.s.n⟩⟩
theorem Xv (V:AV) (f:Cd) (h:Eh P B D0 c.o c.s.ev (Bb c.s.h) V f) (hk:Go P R B D0 Q (c.put V f)) (hok:c.ok=true) (hlow:f.low c.s.nx=true):Go P R B D0 Q c:=by
 obtain⟨m,k,s⟩:=c
 cases m with
 |code x=>cases hok
 |out e=>cases hok
 |ops a l=>
  cases l with
  |nil=>cases hok
  |cons o l=>
   have hok:(mV a s o==some true&&Iq o s.n)=true:=hok
   obtain⟨h1,h2⟩:=Bool.and_eq_true_iff.1 hok
   exact⟨mW (by simpa using h1) V f hlow h2 h hk.m⟩
end Go.Proofs.YtldnjomacnjhnaaGreat
namespace Go.Proofs.YtldnjomacnjhnaaGreat
open Go.RowKit
variable {P:Program} {R:Option Nat} {B:Nat} {D0:Bk} {Q:Exit->St->Prop} {c:Ft}
def Ft.add (c:Ft) (d:Nat) (b:Bool):Ft:=⟨c.m,c.k,⟨(d,.bool b)::c.s.t,c.s.h,c.s.nx,c.s.n⟩⟩
theorem Lh (d:Nat) (b v:Bool) (hb:b=v) (hk:Go P R B D0 Q (c.add d v)) (hd:Bx c.s.t d= .bool b:=by kernel_rfl):Go P R B D0 Q c:=
 Jw _ (λE a hs=>fC d b v hb hd E a hs) hk
theorem vS (d:Nat) (b:Bool) (h1:b=true->Go P R B D0 Q (c.add d true)) (h2:b=false->Go P R B D0 Q (c.add d false)) (hd:Bx c.s.t d= .bool b:=by kernel_rfl):Go P R B D0 Q c:=
 Ey b (λh=>Lh d b true h (h1 h) hd) (λh=>Lh d b false h (h2 h) hd)
theorem pK (d:Nat) (b:Bool) (h1:b=true->Go P R B D0 Q (c.add d false)) (h2:b=false->Go P R B D0 Q (c.add d true)) (hd:Bx c.s.t d= .bool (!b):=by kernel_rfl):Go P R B D0 Q c:=
 Ey b (λh=>Lh d (!b) false (by rw[h];rfl) (h1 h) hd) (λh=>Lh d (!b) true (by rw[h];rfl) (h2 h) hd)
theorem Gu (d:Nat) (p:Prop) [Decidable p] (h1:decide p=true->p->Go P R B D0 Q (c.add d true)) (h2:decide p=false->¬p->Go P R B D0 Q (c.add d false)) (hd:Bx c.s.t d= .bool (decide p):=by kernel_rfl):Go P R B D0 Q c:=
 vS d (decide p) (λh=>h1 h (of_decide_eq_true h)) (λh=>h2 h (of_decide_eq_false h)) hd
theorem Ae5 (d:Nat) (p:Prop) [Decidable p] (h1:decide p=true->p->Go P R B D0 Q (c.add d false)) (h2:decide p=false->¬p->Go P R B D0 Q (c.add d true)) (hd:Bx c.s.t d= .bool (!decide p):=by kernel_rfl):Go P R B D0 Q c:=
 pK d (decide p) (λh=>h1 h (of_decide_eq_true h)) (λh=>h2 h (of_decide_eq_false h)) hd
theorem zL {G:Prop} (p:Prop) [Decidable p] (h1:decide p=true->p->G) (h2:decide p=false->¬p->G):G:=
 Ey (decide p) (λh=>h1 h (of_decide_eq_true h)) (λh=>h2 h (of_decide_eq_false h))
theorem No (v v':Value) (hk:Go P R B D0 Q (c.put (.lit v') .none)) (hv:v=v':=by rfl) (hx:(c.o.op.operands.toList.all λx=>(c.s.ev x).isLit)=true:=by kernel_rfl) (hs:Rj c.o=true:=by kernel_rfl) (hrun:∀w,(execOp (λx=>(c.s.ev x).val) c.o).run P w= .ok (.value v) w:=by intro w;kernel_rfl) (hok:c.ok=true:=by kernel_rfl):Go P R B D0 Q c:=
 Xv (.lit v') .none (Cq _ hx rfl hs hrun hv) hk hok rfl
theorem Fw (x y:Int) (hk:Go P R B D0 Q (c.put (.int y) .none)) (hr: -9223372036854775808<=x/\x<=9223372036854775807:=by omega) (he:x=y:=by omega) (hx:(c.o.op.operands.toList.all λx=>(c.s.ev x).isLit)=true:=by kernel_rfl) (hs:Rj c.o=true:=by kernel_rfl) (hrun:∀w,(execOp (λx=>(c.s.ev x).val) c.o).run P w= .ok (.value (.int .i64 (IntKind.wrap .i64 x))) w:=by intro w;kernel_rfl) (hok:c.ok=true:=by kernel_rfl):Go P R B D0 Q c:=
 Xv (.int y) .none (Cq _ hx rfl hs hrun (congrArg (Value.int .i64) ((IntWalk.i64_in x hr).trans he))) hk hok rfl
theorem Ci (V:AV) (f:Cd) {V0:AV} {f0:Cd} (h:Eh P B D0 c.o c.s.ev (Bb c.s.h) V0 f0) (hk:Go P R B D0 Q (c.put V f)) (hok:c.ok=true:=by kernel_rfl) (hlow:f.low c.s.nx=true:=by kernel_rfl) (hV:V0=V:=by kernel_rfl) (hf:f0=f:=by kernel_rfl):Go P R B D0 Q c:=Xv V f (hV▸hf▸h) hk hok hlow
def Ft.xs (c:Ft):Array Operand:=match c.o.op with| .call cl=>cl.args|_=>#[]
def Ft.ts (c:Ft):Array TypeId:=match c.o.op with| .call cl=>cl.argTypes|_=>#[]
theorem Ds {f:FuncId} {args:List AV} {r:AV} (hf:AF P f args r) (hk:Go P R B D0 Q (c.put r .none)) (ho:c.o.op= .call { callee:= .value (.func f),args:=c.xs,argTypes:=c.ts }:=by kernel_rfl) (hargs:c.xs.toList.map c.s.ev=args:=by kernel_rfl) (hfree:args.all AV.free=true:=by kernel_rfl) (hok:c.ok=true:=by kernel_rfl) (hcall:∀(vs:Array Value) w,(callFunc f vs).run P w= .ok (.enter f vs) w:=by intro _ _;kernel_rfl):Go P R B D0 Q c:=
 Xv r .none (Vr f c.xs c.ts ho hcall args hargs hfree r hf) hk hok rfl
def Abb:AV->Nat
 | .sl _ n _=>n
 | .slc _ n _=>n
 | .osl _ _ n=>n
 |_=>0
def Fu:AV->Nat->AV
 | .sl e _ f,k=> .elt e λq=>(f k).cell q
 | .slc e _ f,k=> .elt e λq=>(f k).cell q
 | .osl id e _,k=> .ptr id (k*e)
 |_,_=> .top
def Oper.ixX (o:Oper):Operand:=match o.op with| .indexAddr _ x _=>x|_=>default
def Oper.ixY (o:Oper):Operand:=match o.op with| .indexAddr _ _ y=>y|_=>default
def ixB (P:Program) (o:Oper) (x:AV):Bool:=match o.op with
 | .indexAddr T _ _=>match P.underlying T with
  |some (.slice el)=>match Le P el with
   |some e=>match x with
    | .sl e' _ _=>Nat.beq e e'
    | .slc e' _ _=>Nat.beq e e'
    | .osl _ e' _=>Nat.beq e e'
    |_=>false
   |none=>false
  |_=>false
 |_=>false
theorem uG {o:Oper} {ev:Operand->AV} {pre:Nat->Option Ck} (j:Int) (k:Nat) (hb:ixB P o (ev (Oper.ixX o))=true) (hy:ev (Oper.ixY o)= .int j) (hj:j=(k:Int)) (hk:k<Abb (ev (Oper.ixX o))):Eh P B D0 o ev pre (Fu (ev (Oper.ixX o)) k) .none:=by
 unfold ixB at hb
 split at hb
 rename_i T x y ho
 have ex:Oper.ixX o=x:=by unfold Oper.ixX;rw[ho]
 have ey:Oper.ixY o=y:=by unfold Oper.ixY;rw[ho]
 rw[ex] at hb hk ⊢
 rw[ey] at hy
 split at hb
 rename_i el hu
 split at hb
 rename_i e he
 split at hb
 rename_i e' n f hx
 obtain rfl:=Nat.eq_of_beq_eq_true hb
 rw[hx] at hk ⊢
 exact Pt T x y ho hu e n k f j hx hy (El he) hj hk
 rename_i e' n f hx
 obtain rfl:=Nat.eq_of_beq_eq_true hb
 rw[hx] at hk ⊢
 exact Eh.wk (Pt T x y ho hu e n k f j (by rw[hx];rfl) (by rw[hy];rfl) (El he) hj hk)
 rename_i id e' n hx
 obtain rfl:=Nat.eq_of_beq_eq_true hb
 rw[hx] at hk ⊢
 exact dI T x y ho hu id e n k j hx hy (El he) hj hk
 cases hb
 cases hb
 cases hb
 cases hb
def Ft.ixP (c:Ft) (k:Nat):Ft:=c.put (Fu (c.s.ev (Oper.ixX c.o)) k) .none
theorem Gt (k n:Nat) (hk:Go P R B D0 Q (c.ixP k)) (hlt:k<n:=by omega) (hb:ixB P c.o (c.s.ev (Oper.ixX c.o))=true:=by kernel_rfl) (hn:Abb (c.s.ev (Oper.ixX c.o))=n:=by kernel_rfl) (hy:c.s.ev (Oper.ixY c.o)= .int (k:Int):=by kernel_rfl) (hok:c.ok=true:=by kernel_rfl):Go P R B D0 Q c:=
 Xv _ .none (uG _ k hb hy rfl (by rw[hn];exact hlt)) hk hok rfl
theorem Afz (j:Int) (k n:Nat) (hk:Go P R B D0 Q (c.ixP k)) (hlt:k<n:=by omega) (hj:j=(k:Int):=by omega) (hb:ixB P c.o (c.s.ev (Oper.ixX c.o))=true:=by kernel_rfl) (hn:Abb (c.s.ev (Oper.ixX c.o))=n:=by kernel_rfl) (hy:c.s.ev (Oper.ixY c.o)= .int j:=by kernel_rfl) (hok:c.ok=true:=by kernel_rfl):Go P R B D0 Q c:=
 Xv _ .none (uG j k hb hy hj (by rw[hn];exact hlt)) hk hok rfl
theorem Pa {o:Oper} {ev:Operand->AV} {pre:Nat->Option Ck} {V:AV} (k n:Nat) (hlt:k<n:=by omega) (hb:ixB P o (ev (Oper.ixX o))=true:=by kernel_rfl) (hn:Abb (ev (Oper.ixX o))=n:=by kernel_rfl) (hy:ev (Oper.ixY o)= .int (k:Int):=by kernel_rfl) (hV:Fu (ev (Oper.ixX o)) k=V:=by kernel_rfl):Eh P B D0 o ev pre V .none:=hV▸uG _ k hb hy rfl (by rw[hn];exact hlt)
theorem AeV {o:Oper} {ev:Operand->AV} {pre:Nat->Option Ck} {V:AV} (j:Int) (k n:Nat) (hlt:k<n:=by omega) (hj:j=(k:Int):=by omega) (hb:ixB P o (ev (Oper.ixX o))=true:=by kernel_rfl) (hn:Abb (ev (Oper.ixX o))=n:=by kernel_rfl) (hy:ev (Oper.ixY o)= .int j:=by kernel_rfl) (hV:Fu (ev (Oper.ixX o)) k=V:=by kernel_rfl):Eh P B D0 o ev pre V .none:=hV▸uG j k hb hy hj (by rw[hn];exact hlt)
theorem Ace {x:Code} {s:St} (h:AC P R B D0 x s (λe s=>∃s',Mq B D0 s s'/\Q e s')):AC P R B D0 x s Q:=⟨λE a hs=>
 Em (λe a' w' ⟨s1,E',h1,⟨s',hk,hq⟩,h3,h4⟩=>by
  obtain⟨E2,e2,h5⟩:=hk E' a' h3
  exact⟨s',E2,e2.trans h1,hq,h5,h4⟩) (h.run E a hs)⟩
def Ft.dl (c:Ft):List Oper:=match c.m with| .code (.region _ a true)=>a.toList|_=>[]
def Ft.dr (P:Program) (c:Ft) (ex:tC):List AV×List Cd:=(cX P c.dl.toArray ex c.s c.dl [] []).getD ([],[])
def Ft.drawn (P:Program) (c:Ft) (ex:tC) (keep:List Nat):Ft:=⟨.out .normal,c.k,⟨rP c.dl.toArray (c.dr P ex).1 c.s keep,Hd (c.dr P ex).2 c.s.h c.dl.toArray.size,nxF (c.dr P ex).2 c.s.nx,c.s.n⟩⟩
theorem Kg (ex:tC) (keep:List Nat) (hop:aQ P B D0 c.dl (c.dr P ex).1 (c.dr P ex).2 c.s ex)
  (hk:Go P R B D0 Q (c.drawn P ex keep))
  (hm:P.follows .mixedOrders=true:=by kernel_rfl) (hr:(cX P c.dl.toArray ex c.s c.dl [] []).isSome=true:=by kernel_rfl) (hB:drB c.dl.toArray (c.dr P ex).2 c.s.nx c.s.n=true:=by kernel_rfl) (hnx:nxB (c.dr P ex).2 c.s.nx (nxF (c.dr P ex).2 c.s.nx)=true:=by kernel_rfl) (hc:(match c.m with| .code (.region _ _ true)=>true|_=>false)=true:=by kernel_rfl):Go P R B D0 Q c:=by
 obtain⟨m,k,s⟩:=c
 split at hc
 rename_i id a hmm
 cases hmm
 obtain⟨l⟩:=a
 exact⟨Ace (AdG ex keep _ hop hk.m hm hr hB hnx)⟩
 cases hc
def fF (keep:List Nat) (s:St):St:=⟨keep.map λt=>(t,Bx s.t t),s.h,s.nx,s.n⟩
theorem Sk (keep:List Nat) (s:St):Mq B D0 s (fF keep s):=λE a hs=>nU keep _ rfl E a hs
def Ft.lb (c:Ft):Code:=match c.m with| .code (.loop b)=>b|_=> .skip
def Ft.isL (c:Ft):Bool:=match c.m with| .code (.loop _)=>true|_=>false
def Ft.round (c:Ft) (J:St->Prop) (s:St):Ft:=⟨.code c.lb,.lp J::c.k,s⟩
theorem kU (keep:List Nat) (I:Nat->St->Prop) (m:Nat) (h0:I m (fF keep c.s)) (h:∀m s,I m s->∀J:St->Prop,(∀m' s',m'<m->I m' s'->J s')->Go P R B D0 Q (c.round J s)) (hl:c.isL=true:=by kernel_rfl):Go P R B D0 Q c:=by
 refine Jw _ (Sk keep c.s) ?_
 obtain⟨md,k,s⟩:=c
 unfold Ft.isL at hl
 split at hl
 rename_i b hm
 cases hm
 exact⟨Xm I m h0 λm s hI=>(h m s hI _ λm' s' h1 h2=>⟨m',h1,h2⟩).m⟩
 cases hl
theorem Qf (keep:List Nat) (n:Nat) (F:Nat->Prop) (st:Nat->St) (h0:F 0) (h:∀i,i<=n->F i->∀J:St->Prop,(i<n->F (i+1)->J (st (i+1)))->Go P R B D0 Q (c.round J (st i))) (hs:fF keep c.s=st 0:=by kernel_rfl) (hl:c.isL=true:=by kernel_rfl):Go P R B D0 Q c:=
 kU keep (λm s=>∃i,i<=n/\m=n-i/\F i/\s=st i) n ⟨0,Nat.zero_le _,rfl,h0,hs⟩ (λm s ⟨i,h1,h2,h3,h4⟩ J hJ=>by
  subst h4
  exact h i h1 h3 J λg1 g2=>hJ (n-(i+1)) _ (by omega) ⟨i+1,g1,rfl,g2,rfl⟩) hl
def Ft.J (c:Ft):St->Prop:=match c.k with| .lp J::_=>J|_=>λ_=>False
def Ft.isN (c:Ft):Bool:=match c.m with| .out .normal=>true|_=>false
theorem Afm {J:St->Prop} (s':St) (hw:Mq B D0 c.s s') (h:J s') (hT:c.J=J:=by kernel_rfl) (hn:c.isN=true:=by kernel_rfl):Go P R B D0 Q c:=by
 obtain⟨m,k,s⟩:=c
 unfold Ft.isN at hn
 split at hn
 rename_i hm
 cases hm
 subst hT
 cases k with
 |nil=>exact h.elim
 |cons i k=>cases i with
  |lp J=>exact⟨⟨s',hw,h⟩⟩
  |_=>exact h.elim
 cases hn
theorem Qm {J:St->Prop} (keep:List Nat) {s':St} (h:J s') (hs:fF keep c.s=s':=by kernel_rfl) (hT:c.J=J:=by kernel_rfl) (hn:c.isN=true:=by kernel_rfl):Go P R B D0 Q c:=Afm _ (Sk keep c.s) (hs▸h) hT hn
abbrev Acu:=List (TypeId×Nat×Nat×(Nat->AV))
def pF:Dw->Acu
 |[]=>[]
 |(_,.vec t e n f)::h=>(t,e,n,f)::pF h
 |(_,.box _ _)::h=>pF h
 |(_,.loop ..)::h=>pF h
def AaM:Acu->Prop
 |[]=>True
 |(_,e,n,f)::l=>(∀i,i<n->∀j,j<e->((f i).cell j).flat=true)/\AaM l
theorem Vb:∀{h:Dw} {l:Acu},pF h=l->AaM l->Mf h
 |[],_,_,_=>trivial
 |(_,.vec _ _ _ _)::h,_,rfl,hl=>⟨hl.1,Vb (h:=h) rfl hl.2⟩
 |(_,.box _ _)::h,_,hv,hl=>Vb (h:=h) hv hl
 |(_,.loop ..)::h,_,hv,hl=>Vb (h:=h) hv hl
theorem Hl {J:St->Prop} (keep:List Nat) (ρ:List (Nat×Nat)) (nx k0:Nat) (hA0:∀id,D0.A id->id<k0) (L:Acu) (hfl:AaM L) {s':St} (h:J s') (hv:pF c.s.h=L:=by kernel_rfl) (hs:(⟨mapT (Uf ρ) (fF keep c.s).t,yI ρ c.s.h,nx,c.s.n⟩:St)=s':=by kernel_rfl) (hd:Qi (ρ.map (·.2))=true:=by kernel_rfl) (hd1:Qi (ρ.map (·.1))=true:=by kernel_rfl) (hl:(ρ.all λp=>(Bb c.s.h p.1).isSome&&Nat.blt p.2 nx)=true:=by kernel_rfl) (hk0:(Nat.ble k0 nx&&ρ.all λp=>Nat.beq p.1 p.2||Nat.ble k0 p.2)=true:=by kernel_rfl) (hT:c.J=J:=by kernel_rfl) (hn:c.isN=true:=by kernel_rfl):Go P R B D0 Q c:=
 Afm s' (Mq.trans (Sk keep c.s) λE a hs'=>vA ρ nx k0 hA0 s' hs hd hd1 hl hk0 (Vb hv hfl) E a hs') h hT hn
def Ft.frzS (c:Ft) (id:Nat) (ds:List Nat) (V:AV):Ft:=⟨c.m,c.k,⟨ds.map (λd=>(d,V))++c.s.t,Hc c.s.h id,c.s.nx,c.s.n⟩⟩
theorem cR (id:Nat) (ds:List Nat) (t:TypeId) (e n:Nat) (f:Nat->AV) (hf:∀i,i<n->∀j,j<e->((f i).cell j).flat=true) (hk:Go P R B D0 Q (c.frzS id ds (.sl e n f))) (hd:ds.map (Bx c.s.t)=ds.map λ_=> .osl id e n:=by kernel_rfl) (hc:Bb c.s.h id=some (.vec t e n f):=by kernel_rfl):Go P R B D0 Q c:=
 Jw _ (λE a hs=>mT id ds t e n f hd hc hf E a hs) hk
theorem AbR (id:Nat) (ds:List Nat) (t:TypeId) (e n:Nat) (f:Nat->AV) (hf:∀i,i<n->∀j,j<e->((f i).cell j).flat=true) (hk:Go P R B D0 Q (c.frzS id ds (.slc e n f))) (hd:ds.map (Bx c.s.t)=ds.map λ_=> .osl id e n:=by kernel_rfl) (hc:Bb c.s.h id=some (.vec t e n f):=by kernel_rfl):Go P R B D0 Q c:=
 Jw _ (λE a hs=>jA id ds t e n f hd hc hf E a hs) hk
def Ft.box (c:Ft) (id:Nat):List AV:=match Bb c.s.h id with|some (.box _ cs)=>cs|_=>[]
def Ft.boxT (c:Ft) (id:Nat):TypeId:=match Bb c.s.h id with|some (.box t _)=>t|_=>0
def Ft.frzB (c:Ft) (id:Nat):Ft:=⟨c.m,c.k,⟨mapT (YtldnjomacnjhnaaGreat.frzB id (c.box id)) c.s.t,(Hc c.s.h id).map λp=>(p.1,p.2.mapB (YtldnjomacnjhnaaGreat.frzB id (c.box id))),c.s.nx,c.s.n⟩⟩
theorem sN (id:Nat) (hk:Go P R B D0 Q (c.frzB id)) (hc:Bb c.s.h id=some (.box (c.boxT id) (c.box id)):=by kernel_rfl) (hf:(c.box id).all AV.free=true:=by kernel_rfl):Go P R B D0 Q c:=
 Jw _ (λE a hs=>iY id _ _ _ hc rfl hf E a hs) hk
def Ft.setB (c:Ft) (id:Nat) (b:Ck):Ft:=⟨c.m,c.k,⟨c.s.t,hset c.s.h id b,c.s.nx,c.s.n⟩⟩
theorem Xl (id:Nat) (t:TypeId) (e n:Nat) (f g:Nat->AV) (hfg:∀i,i<n->f i=g i) (hk:Go P R B D0 Q (c.setB id (.vec t e n g))) (hc:Bb c.s.h id=some (.vec t e n f):=by kernel_rfl):Go P R B D0 Q c:=
 Jw _ (λE a hs=>pJ id t e n f g hc hfg E a hs) hk
def Ft.upN (c:Ft) (nx:Nat):Ft:=⟨c.m,c.k,⟨c.s.t,c.s.h,nx,c.s.n⟩⟩
theorem zM (nx:Nat) (hk:Go P R B D0 Q (c.upN nx)) (hn:Nat.ble c.s.nx nx=true:=by kernel_rfl):Go P R B D0 Q c:=
 Jw _ (λE a hs=>Ae3 nx (Nat.le_of_ble_eq_true hn) E a hs) hk
def Hu (P:Program) (s:St):ResultVar->Option AV
 | .tmp t=>bif (Bx s.t t).free then some (Bx s.t t) else none
 | .cell q T=>match Bx s.t q with
  | .ptr id off=>match Bb s.h id with
   |some (.box _ cs)=>match cM P T with
    |some false=>bif Nat.blt off cs.length&&(cs.getD off .top).free then some (cs.getD off .top) else none
    |some true=>match Le P T with
     |some n=>bif Nat.ble (off+n) cs.length&&(mkAgg ((cs.drop off).take n)).free then some (mkAgg ((cs.drop off).take n)) else none
     |none=>none
    |none=>none
   |_=>none
  |_=>none
theorem Ek {s:St} {rv:ResultVar} {x:AV} (h:Hu P s rv=some x):Ph P B D0 s rv x:=by
 unfold Hu at h
 split at h
 rename_i t
 cases hb:(Bx s.t t).free with
 |false=>rw[hb] at h;cases h
 |true=>rw[hb] at h;cases h;exact Ab2 rfl hb
 rename_i q T
 split at h
 rename_i id off hq
 split at h
 rename_i t cs hc
 split at h
 rename_i ha
 cases hb:Nat.blt off cs.length&&(cs.getD off .top).free with
 |false=>rw[hb] at h;cases h
 |true=>
  rw[hb] at h;cases h
  have hb2:=Bool.and_eq_true_iff.1 hb
  exact Jc id (Hi ha) off cs hq t hc (by simpa [Nat.blt_eq] using hb2.1) rfl hb2.2
 rename_i ha
 split at h
 rename_i n hn
 cases hb:Nat.ble (off+n) cs.length&&(mkAgg ((cs.drop off).take n)).free with
 |false=>rw[hb] at h;cases h
 |true=>
  rw[hb] at h;cases h
  have hb2:=Bool.and_eq_true_iff.1 hb
  exact yJ id (Hi ha) n (El hn) off cs hq t hc (Nat.le_of_ble_eq_true hb2.1) rfl hb2.2
 cases h
 cases h
 cases h
 cases h
theorem Aes {s:St} {fn:Func} {r1 r2 r3 r4:ResultVar} {x y z u:AV} (hr:fn.results=#[r1,r2,r3,r4]) (h1:Ph P B D0 s r1 x) (h2:Ph P B D0 s r2 y) (h3:Ph P B D0 s r3 z) (h4:Ph P B D0 s r4 u):Mx P B D0 fn s (mkTup [x,y,z,u]):=λE a hs=>by
 obtain⟨v1,e1,f1⟩:=h1 E a hs
 obtain⟨v2,e2,f2⟩:=h2 E a hs
 obtain⟨v3,e3,f3⟩:=h3 E a hs
 obtain⟨v4,e4,f4⟩:=h4 E a hs
 refine⟨.tuple #[v1,v2,v3,v4],by simp[Jd,hr,e1,e2,e3,e4],VR.tupl [x,y,z,u] _ rfl (λi hi=>?_) _ rfl⟩
 match i with
 |0=>exact f1
 |1=>exact f2
 |2=>exact f3
 |3=>exact f4
def mP (P:Program) (fn:Func) (s:St):Option AV:=match fn.results.toList with
 |[]=>some (.lit (.tuple #[]))
 |[r]=>Hu P s r
 |[r1,r2]=>match Hu P s r1,Hu P s r2 with
  |some x,some y=>some (mkTup [x,y])
  |_,_=>none
 |[r1,r2,r3]=>match Hu P s r1,Hu P s r2,Hu P s r3 with
  |some x,some y,some z=>some (mkTup [x,y,z])
  |_,_,_=>none
 |[r1,r2,r3,r4]=>match Hu P s r1,Hu P s r2,Hu P s r3,Hu P s r4 with
  |some x,some y,some z,some u=>some (mkTup [x,y,z,u])
  |_,_,_,_=>none
 |[r1,r2,r3,r4,r5]=>match Hu P s r1,Hu P s r2,Hu P s r3,Hu P s r4,Hu P s r5 with
  |some x,some y,some z,some u,some t=>some (mkTup [x,y,z,u,t])
  |_,_,_,_,_=>none
 |_=>none
theorem mQ {fn:Func} {s:St} {V:AV} (h:mP P fn s=some V):Mx P B D0 fn s V:=by
 have key:∀l,fn.results.toList=l->fn.results=l.toArray:=λl h=>by rw[<-h]
 unfold mP at h
 split at h
 rename_i hr;cases h;exact rU (key _ hr)
 rename_i hr;exact Aeq (key _ hr) (Ek h)
 rename_i hr
 split at h
 rename_i h1 h2;cases h;exact kH (key _ hr) (Ek h1) (Ek h2)
 cases h
 rename_i hr
 split at h
 rename_i h1 h2 h3;cases h;exact Aer (key _ hr) (Ek h1) (Ek h2) (Ek h3)
 cases h
 rename_i hr
 split at h
 rename_i h1 h2 h3 h4;cases h;exact Aes (key _ hr) (Ek h1) (Ek h2) (Ek h3) (Ek h4)
 cases h
 rename_i hr
 split at h
 rename_i h1 h2 h3 h4 h5;cases h;exact Aet (key _ hr) (Ek h1) (Ek h2) (Ek h3) (Ek h4) (Ek h5)
 cases h
 cases h
def QF (P:Program) (B:Nat) (D0:Bk) (fn:Func) (r:AV):Exit->St->Prop:=λe s=>(e= .ret\/e= .normal)/\Mx P B D0 fn s r
def Ft.isE (c:Ft):Bool:=match c.m,c.k with| .out .normal,[]=>true| .out .ret,[]=>true|_,_=>false
theorem Ha {fn:Func} {r:AV} (V:AV) (h:V=r) (hv:mP P fn c.s=some V:=by kernel_rfl) (hn:c.isE=true:=by kernel_rfl):Go P R B D0 (QF P B D0 fn r) c:=by
 subst h
 have hr:=mQ (B:=B) (D0:=D0) hv
 obtain⟨m,k,s⟩:=c
 unfold Ft.isE at hn
 split at hn
 rename_i h1 h2
 cases h1;cases h2
 exact⟨⟨s,Mq.refl s,.inr rfl,hr⟩⟩
 rename_i h1 h2
 cases h1;cases h2
 exact⟨⟨s,Mq.refl s,.inl rfl,hr⟩⟩
 cases hn
theorem Hq {fn:Func} {r:AV} (hv:mP P fn c.s=some r:=by kernel_rfl) (hn:c.isE=true:=by kernel_rfl):Go P R B D0 (QF P B D0 fn r) c:=Ha r rfl hv hn
theorem Cx {f:FuncId} {fn:Func} {args:List AV} {r:AV} (hf:Tryz.prog.funcs[f]?=some fn) {x:Code} (hc:fn.body=some x:=by rfl) (h:∀B D0,(∀id,D0.A id->id<0)->Go Tryz.prog none B D0 (QF Tryz.prog B D0 fn r) ⟨.code x,[],⟨Hb args 0,[],0,fn.ntmps⟩⟩) (hle:Nat.ble args.length fn.ntmps=true:=by kernel_rfl):AF Tryz.prog f args r:=
 Ad7 _ hf hc fn.ntmps rfl hle rfl λB D0 hA=>(h B D0 hA).m
end Go.Proofs.YtldnjomacnjhnaaGreat
namespace Go.Proofs.YtldnjomacnjhnaaGreat
open Go.RowKit
variable {P:Program} {R:Option Nat} {B:Nat} {D0:Bk} {Q:Exit->St->Prop} {c:Ft}
def Ft.unr (c:Ft) (n:Nat):Ft:=⟨.code c.lb,.un n c.lb::c.k,c.s⟩
theorem zT (n:Nat) (h:Go P R B D0 Q (c.unr n)) (hl:c.isL=true:=by kernel_rfl):Go P R B D0 Q c:=by
 obtain⟨m,k,s⟩:=c
 unfold Ft.isL at hl
 split at hl
 rename_i b hm
 cases hm
 exact⟨gE (n+1) h.m⟩
 cases hl
def Ft.back (c:Ft) (r:AV) (h:Dw) (nx:Nat):Ft:=⟨.ops c.a c.l.tail,c.k,⟨Ja c.s.t c.o.dst r,h,nx,c.s.n⟩⟩
def Aaj (P:Program) (B:Nat) (D1:Bk) (fn:Func) (K:AV->Dw->Nat->Prop):Exit->St->Prop:=Acq P B D1 fn K
theorem AcC {f:FuncId} {fn:Func} {x:Code} {args:List AV} (hf:Tryz.prog.funcs[f]?=some fn) (hc:fn.body=some x)
  (hrun:∀(E:Bk) (a:Act),(∀x,VR E (c.s.ev x) (a.eval x))->∃vs:Array Value,(∀w,(execOp a.eval c.o).run Tryz.prog w= .ok (.enter f vs) w)/\vs.size=args.length/\∀i,i<args.length->VR E (args.getD i .top) (vs.getD i undef))
  (h:∀D1,(∀id,D1.A id->id<c.s.nx)->Go Tryz.prog none B D1 (Aaj Tryz.prog B D1 fn λr h nx=>Go Tryz.prog R B D0 Q (c.back r h nx)) ⟨.code x,[],⟨Hb args 0,c.s.h,c.s.nx,fn.ntmps⟩⟩)
  (hle:Nat.ble args.length fn.ntmps=true) (hok:c.ok=true) (hg:c.o.guard=none):Go Tryz.prog R B D0 Q c:=by
 obtain⟨m,k,s⟩:=c
 cases m with
 |code x=>cases hok
 |out e=>cases hok
 |ops a l=>
  cases l with
  |nil=>cases hok
  |cons o l=>
   have hok:(mV a s o==some true&&Iq o s.n)=true:=hok
   exact⟨eA f args fn.ntmps hg (Bool.and_eq_true_iff.1 hok).2 hrun hf hc rfl hle λD1 hD=>sS (h D1 hD).m λe s ⟨h1,r,h2,h3⟩=>⟨h1,r,h2,h3.m⟩⟩
theorem cS {f:FuncId} {fn:Func} {x:Code} (nx0:Nat) (hf:Tryz.prog.funcs[f]?=some fn)
  (h:∀D1,(∀id,D1.A id->id<nx0)->Go Tryz.prog none B D1 (Aaj Tryz.prog B D1 fn λr h nx=>Go Tryz.prog R B D0 Q (c.back r h nx)) ⟨.code x,[],⟨Hb (c.xs.toList.map c.s.ev) 0,c.s.h,c.s.nx,fn.ntmps⟩⟩)
  (hc:fn.body=some x:=by rfl) (ho:c.o.op= .call { callee:= .value (.func f),args:=c.xs,argTypes:=c.ts }:=by kernel_rfl) (hcall:∀(vs:Array Value) w,(callFunc f vs).run Tryz.prog w= .ok (.enter f vs) w:=by intro _ _;kernel_rfl)
  (hle:Nat.ble (c.xs.toList.map c.s.ev).length fn.ntmps=true:=by kernel_rfl) (hok:c.ok=true:=by kernel_rfl) (hg:c.o.guard=none:=by kernel_rfl) (hnx:c.s.nx=nx0:=by kernel_rfl):Go Tryz.prog R B D0 Q c:=
 AcC hf hc (λE a hv=>vE f c.xs c.ts ho hcall _ rfl E a hv) (hnx▸h) hle hok hg
def Ft.sx (c:Ft):Code:=match c.m with| .code (.seq x _)=>x|_=> .skip
def Ft.sy (c:Ft):Code:=match c.m with| .code (.seq _ y)=>y|_=> .skip
theorem vjn (mid:St) (h1:Go P R B D0 Q ⟨.code c.sy,c.k,mid⟩) (h2:∀J:St->Prop,J mid->Go P R B D0 Q ⟨.code c.sx,.lp J::c.k,c.s⟩) (hc:(match c.m with| .code (.seq _ _)=>true|_=>false)=true:=by kernel_rfl):Go P R B D0 Q c:=by
 obtain⟨m,k,s⟩:=c
 split at hc
 rename_i x y hm
 cases hm
 exact⟨Iw (h2 (λs=>AC P R B D0 y s (KQ P R B D0 Q k)) h1.m).m⟩
 cases hc
def Uy (P:Program) (s:St):ResultVar->Option AV
 | .tmp t=>some (Bx s.t t)
 | .cell q T=>match Bx s.t q with
  | .ptr id off=>match Bb s.h id with
   |some (.box _ cs)=>match cM P T with
    |some false=>bif Nat.blt off cs.length then some (cs.getD off .top) else none
    |some true=>match Le P T with
     |some n=>bif Nat.ble (off+n) cs.length then some (mkAgg ((cs.drop off).take n)) else none
     |none=>none
    |none=>none
   |_=>none
  |_=>none
theorem Tu {s:St} {rv:ResultVar} {x:AV} (h:Uy P s rv=some x):Zy P B D0 s rv x:=by
 unfold Uy at h
 split at h
 cases h;exact fR rfl
 rename_i q T
 split at h
 rename_i id off hq
 split at h
 rename_i t cs hc
 split at h
 rename_i ha
 cases hb:Nat.blt off cs.length with
 |false=>rw[hb] at h;cases h
 |true=>rw[hb] at h;cases h;exact oM id (Hi ha) off cs hq t hc (by simpa [Nat.blt_eq] using hb) rfl
 rename_i ha
 split at h
 rename_i n hn
 cases hb:Nat.ble (off+n) cs.length with
 |false=>rw[hb] at h;cases h
 |true=>rw[hb] at h;cases h;exact rV id (Hi ha) n (El hn) off cs hq t hc (Nat.le_of_ble_eq_true hb) rfl
 cases h
 cases h
 cases h
 cases h
def aP (P:Program) (fn:Func) (s:St):Option AV:=match fn.results.toList with
 |[]=>some (.lit (.tuple #[]))
 |[r]=>Uy P s r
 |[r1,r2]=>match Uy P s r1,Uy P s r2 with
  |some x,some y=>some (mkTup [x,y])
  |_,_=>none
 |_=>none
theorem wX {fn:Func} {s:St} {V:AV} (h:aP P fn s=some V):lU P B D0 fn s V:=by
 have key:∀l,fn.results.toList=l->fn.results=l.toArray:=λl h=>by rw[<-h]
 unfold aP at h
 split at h
 rename_i hr;cases h;exact Om (key _ hr)
 rename_i hr;exact AdI (key _ hr) (Tu h)
 rename_i hr
 split at h
 rename_i h1 h2;cases h;exact Afd (key _ hr) (Tu h1) (Tu h2)
 cases h
 cases h
def Ft.rI (P:Program) (fn:Func) (c:Ft):AV:=(aP P fn c.s).getD .top
theorem zK {D1:Bk} {fn:Func} {K:AV->Dw->Nat->Prop} (hk:K (c.rI P fn) c.s.h c.s.nx) (hv:(aP P fn c.s).isSome=true:=by kernel_rfl) (hn:c.isE=true:=by kernel_rfl):Go P R B D1 (Aaj P B D1 fn K) c:=by
 unfold Ft.rI at hk
 cases he:aP P fn c.s with
 |none=>rw[he] at hv;cases hv
 |some V=>
  rw[he] at hk
  have hr:=wX (B:=B) (D0:=D1) he
  obtain⟨m,k,s⟩:=c
  unfold Ft.isE at hn
  split at hn
  rename_i h1 h2
  cases h1;cases h2
  exact⟨⟨s,Mq.refl s,.inr rfl,V,hr,hk⟩⟩
  rename_i h1 h2
  cases h1;cases h2
  exact⟨⟨s,Mq.refl s,.inl rfl,V,hr,hk⟩⟩
  cases hn
def Oper.enX (o:Oper):Operand:=match o.op with| .binOp _ _ x _ _=>x|_=>default
def enB (P:Program) (o:Oper):Bool:=match o.op with
 | .binOp .eql T _ (.const (.slice none 0 0)) _=>match P.underlying T with
  |some (.slice _)=>true
  |_=>false
 |_=>false
theorem AeR {o:Oper} {ev:Operand->AV} {pre:Nat->Option Ck} (hb:enB P o=true) {e n:Nat} {f:Nat->AV} (hx:ev (Oper.enX o)= .sl e n f) (h0:0<n):Eh P B D0 o ev pre (.bool false) .none:=by
 unfold enB at hb
 split at hb
 rename_i T x t' ho
 have ex:Oper.enX o=x:=by unfold Oper.enX;rw[ho]
 rw[ex] at hx
 split at hb
 rename_i el hu
 exact xY T t' x ho hu e n f hx h0
 cases hb
 cases hb
theorem Aeb {o:Oper} {ev:Operand->AV} {pre:Nat->Option Ck} (hb:enB P o=true) (hx:ev (Oper.enX o)= .lit (.slice none 0 0)):Eh P B D0 o ev pre (.bool true) .none:=by
 unfold enB at hb
 split at hb
 rename_i T x t' ho
 have ex:Oper.enX o=x:=by unfold Oper.enX;rw[ho]
 rw[ex] at hx
 split at hb
 rename_i el hu
 exact rM T t' x ho hu hx
 cases hb
 cases hb
def slE:AV->Nat| .sl e _ _=>e|_=>0
def slF:AV->Nat->AV| .sl _ _ f=>f|_=>λ_=> .top
theorem fZ (n:Nat) (hk:Go P R B D0 Q (c.put (.bool false) .none)) (h0:0<n:=by omega) (hb:enB P c.o=true:=by kernel_rfl) (hx:c.s.ev (Oper.enX c.o)= .sl (slE (c.s.ev (Oper.enX c.o))) n (slF (c.s.ev (Oper.enX c.o))):=by kernel_rfl) (hok:c.ok=true:=by kernel_rfl):Go P R B D0 Q c:=Xv _ .none (AeR hb hx h0) hk hok rfl
theorem pI (hk:Go P R B D0 Q (c.put (.bool true) .none)) (hb:enB P c.o=true:=by kernel_rfl) (hx:c.s.ev (Oper.enX c.o)= .lit (.slice none 0 0):=by kernel_rfl) (hok:c.ok=true:=by kernel_rfl):Go P R B D0 Q c:=Xv _ .none (Aeb hb hx) hk hok rfl
def Oper.cxs (o:Oper):Array Operand:=match o.op with| .call cl=>cl.args|_=>#[]
def Oper.cts (o:Oper):Array TypeId:=match o.op with| .call cl=>cl.argTypes|_=>#[]
def Oper.cfx (o:Oper):Operand:=match o.op with| .call cl=>(match cl.callee with| .value x=>x|_=>default)|_=>default
def AdD:AV->List AV| .fn _ l=>l|_=>[]
theorem Hj {o:Oper} {ev:Operand->AV} {pre:Nat->Option Ck} {f:FuncId} {args:List AV} {r:AV} (hf:AF P f args r) (ho:o.op= .call { callee:= .value (.func f),args:=Oper.cxs o,argTypes:=Oper.cts o }:=by kernel_rfl) (hargs:(Oper.cxs o).toList.map ev=args:=by kernel_rfl) (hfree:args.all AV.free=true:=by kernel_rfl) (hcall:∀(vs:Array Value) w,(callFunc f vs).run P w= .ok (.enter f vs) w:=by intro _ _;kernel_rfl):Eh P B D0 o ev pre r .none:=Vr f _ _ ho hcall args hargs hfree r hf
theorem Ac2 {o:Oper} {ev:Operand->AV} {pre:Nat->Option Ck} {f:FuncId} {args:List AV} {r:AV} (hf:AF P f args r) (ho:o.op= .call { callee:= .value (Oper.cfx o),args:=Oper.cxs o,argTypes:=Oper.cts o }:=by kernel_rfl) (hx:ev (Oper.cfx o)= .fn f (AdD (ev (Oper.cfx o))):=by kernel_rfl) (hargs:(Oper.cxs o).toList.map ev++AdD (ev (Oper.cfx o))=args:=by kernel_rfl) (hfree:args.all AV.free=true:=by kernel_rfl) (hcall:∀(vs:Array Value) w,(callFunc f vs).run P w= .ok (.enter f vs) w:=by intro _ _;kernel_rfl):Eh P B D0 o ev pre r .none:=xX _ f _ _ ho _ hx hcall args hargs hfree r hf
theorem kT {o:Oper} {ev:Operand->AV} {pre:Nat->Option Ck} {b v:Bool} (hb:b=v) (h:evG P o ev pre 0=some (.bool b,.none):=by kernel_rfl):Eh P B D0 o ev pre (.bool v) .none:=hb▸qQ h
theorem kbC {o:Oper} {ev:Operand->AV} {pre:Nat->Option Ck} {b v:Bool} (hb:b=v) (h:Eh P B D0 o ev pre (.bool b) .none):Eh P B D0 o ev pre (.bool v) .none:=hb▸h
theorem Hf {e n:Nat} {f:Nat->AV} (h:∀i,i<n->((List.range e).all λj=>((f i).cell j).flat)=true):∀i,i<n->∀j,j<e->((f i).cell j).flat=true:=λi hi j hj=>List.all_eq_true.1 (h i hi) j (List.mem_range.2 hj)
theorem zJ {keep:List Nat} (n:Nat) (st:Nat->St) (h:∀i,i<n->∀J:St->Prop,J (st (i+1))->Go P R B D0 Q (c.round J (st i))) (hl:Go P R B D0 Q (c.round (λ_=>False) (st n))) (hs:fF keep c.s=st 0:=by kernel_rfl) (hL:c.isL=true:=by kernel_rfl):Go P R B D0 Q c:=by
 refine Jw _ (Sk keep c.s) ?_
 rw[hs]
 obtain⟨md,k,s⟩:=c
 unfold Ft.isL at hL
 split at hL
 rename_i b hm
 cases hm
 exact⟨kW st n rfl (λi hi K hK=>(h i hi K hK).m) hl.m⟩
 cases hL
def QM (P:Program) (B:Nat) (D0:Bk) (fn:Func) (r:Value) (t:TypeId) (us:List Value):Exit->St->Prop:=λe s=>(e= .ret\/e= .normal)/\Mx P B D0 fn s (.lit r)/\Bb s.h 0=some (.box t (us.map .lit))
theorem Ae4 {fn:Func} {r:Value} {t:TypeId} {us:List Value} (V:AV) (h:V= .lit r) (hv:mP P fn c.s=some V:=by kernel_rfl) (hb:Bb c.s.h 0=some (.box t (us.map .lit)):=by kernel_rfl) (hn:c.isE=true:=by kernel_rfl):Go P R B D0 (QM P B D0 fn r t us) c:=by
 subst h
 have hr:=mQ (B:=B) (D0:=D0) hv
 obtain⟨m,k,s⟩:=c
 unfold Ft.isE at hn
 split at hn
 rename_i h1 h2
 cases h1;cases h2
 exact⟨⟨s,Mq.refl s,.inr rfl,hr,hb⟩⟩
 rename_i h1 h2
 cases h1;cases h2
 exact⟨⟨s,Mq.refl s,.inl rfl,hr,hb⟩⟩
 cases hn
theorem qW {f:FuncId} {fn:Func} {t:TypeId} {us:List Value} {args:List AV} {r:Value} (hf:Tryz.prog.funcs[f]?=some fn) {x:Code} (hc:fn.body=some x:=by rfl) (h:∀B D0,(∀id,D0.A id->id<1)->Go Tryz.prog none B D0 (QM Tryz.prog B D0 fn r t us) ⟨.code x,[],⟨Hb (.ptr 0 0::args) 0,[(0,.box t (us.map .lit))],1,fn.ntmps⟩⟩) (hle:Nat.ble (args.length+1) fn.ntmps=true:=by kernel_rfl):AFM Tryz.prog f t us args r:=
 AdN _ hf hc fn.ntmps rfl hle rfl λB D0 hA=>(h B D0 hA).m
def Ft.frzC (c:Ft) (id b off:Nat) (V:AV):Ft:=⟨c.m,c.k,⟨c.s.t,hset (Hc c.s.h id) b (.box (c.boxT b) ((c.box b).set off V)),c.s.nx,c.s.n⟩⟩
theorem zI (id b off:Nat) (t:TypeId) (e n:Nat) (f:Nat->AV) (hf:∀i,i<n->∀j,j<e->((f i).cell j).flat=true) (hk:Go P R B D0 Q (c.frzC id b off (.sl e n f))) (hb:Bb c.s.h b=some (.box (c.boxT b) (c.box b)):=by kernel_rfl) (ho:(c.box b).getD off .top= .osl id e n:=by kernel_rfl) (hne:Nat.beq id b=false:=by kernel_rfl) (hc:Bb c.s.h id=some (.vec t e n f):=by kernel_rfl):Go P R B D0 Q c:=
 Jw _ (λE a hs=>Xu id b off t e n f (c.boxT b) (c.box b) _ hb ho rfl hne hc hf E a hs) hk
theorem AbQ (id b off:Nat) (t:TypeId) (e n:Nat) (f:Nat->AV) (hf:∀i,i<n->∀j,j<e->((f i).cell j).flat=true) (hk:Go P R B D0 Q (c.frzC id b off (.slc e n f))) (hb:Bb c.s.h b=some (.box (c.boxT b) (c.box b)):=by kernel_rfl) (ho:(c.box b).getD off .top= .osl id e n:=by kernel_rfl) (hne:Nat.beq id b=false:=by kernel_rfl) (hc:Bb c.s.h id=some (.vec t e n f):=by kernel_rfl):Go P R B D0 Q c:=
 Jw _ (λE a hs=>iZ id b off t e n f (c.boxT b) (c.box b) _ hb ho rfl hne hc hf E a hs) hk
def Aff:AV->Nat| .slc e _ _=>e|_=>0
def Afh:AV->Nat| .slc _ n _=>n|_=>0
def Afg:AV->Nat->AV| .slc _ _ f=>f|_=>λ_=> .top
def Ft.wkS (c:Ft) (d:Nat):Ft:=⟨c.m,c.k,⟨(d,(Bx c.s.t d).wk)::c.s.t,c.s.h,c.s.nx,c.s.n⟩⟩
theorem vwk (d:Nat) (hk:Go P R B D0 Q (c.wkS d)) (hd:Bx c.s.t d= .slc (Aff (Bx c.s.t d)) (Afh (Bx c.s.t d)) (Afg (Bx c.s.t d)):=by kernel_rfl):Go P R B D0 Q c:=
 Jw _ (λE a hs=>AbS d _ _ _ hd E a hs) (by
  have e:(Bx c.s.t d).wk= .sl (Aff (Bx c.s.t d)) (Afh (Bx c.s.t d)) (Afg (Bx c.s.t d)):=by rw[hd];rfl
  unfold Ft.wkS at hk
  rw[e] at hk
  exact hk)
end Go.Proofs.YtldnjomacnjhnaaGreat
namespace Go.Proofs.YtldnjomacnjhnaaGreat
open Go.Proofs.Tryz
open Go.RowKit
abbrev wB (z:Int):Ck:= .box 70 [.bool (decide (z<0)),.lit (.string (Dv z.natAbs))]
abbrev WA (z:Int):AV:= .lit (Aj z)
theorem Ix {P:Program} {f:FuncId} {vs:List Value} {v:Value} (h:∀w,Calls P f vs.toArray w λe w'=>e= .returned v/\Below w.heap.size w w'):AF P f (vs.map .lit) (.lit v):=by
 intro E us hD hn hv
 have:us=vs.toArray:=VR.lits (E:=E.fz) (by simpa using hn) (VR.tops hv)
 subst this
 refine(h E.w).mono ?_
 rintro e w' ⟨rfl,hb⟩
 exact⟨v,E.D,rfl,.lit _ _,hb,λ_ h=>h,λ_ h=> .inl h,λb hb'=>Nat.lt_of_lt_of_le (hD b hb') hb.size⟩
theorem Gf (n:Int) (h0: -9223372036854775808<=n) (h1:n<=9223372036854775807):AF Tryz.prog 95 [.int n] (WA n):=Ix (vs:=[_]) λw=>Kq n w h0 h1
theorem gT (x y:Int) (hx:Fd x) (hy:Fd y) (hz:Fd (x+y)):AF Tryz.prog 70 [WA x,WA y] (WA (x+y)):=Ix (vs:=[_,_]) λw=>oR x y w hx hy hz
theorem Ju (x y:Int) (hx:Fd x) (hy:Fd y) (hz:Fd (x*y)):AF Tryz.prog 94 [WA x,WA y] (WA (x*y)):=Ix (vs:=[_,_]) λw=>Wf x y w hx hy hz
theorem Fz (n:Int) (k:Nat) (h0: -9223372036854775808<=n) (h1:n<=9223372036854775807) (hk:k<=1000) (hf:∀j,j<=k->Fd (n^j)):AF Tryz.prog 96 [.int n,.int (k:Int)] (WA (n^k)):=Ix (vs:=[_,_]) λw=>yE n k w h0 h1 hk hf
abbrev Ao (l:List Int):AV:= .sl 1 l.length λi=> .int (l.getD i 0)
abbrev Bn (s:Sg):AV:= .agg [.int s.f,.int s.t,.int s.o,Ao s.x,Ao s.y,Ao s.z]
theorem sU (s:Sg):AF Tryz.prog 97 [Bn s] (.agg [Ao s.x,Ao s.y,Ao s.z]):=by
 refine Cx func97 rfl λB D0 hA0=>?_
 refine Ae 19 ?_
 exact Hq
theorem Sc (x y:Int) (hx:Fd x) (hy:Fd y):AF Tryz.prog 98 [WA x,WA y] (WA (Nat.gcd x.natAbs y.natAbs:Int)):=Ix (vs:=[_,_]) λw=>oS x y w hx hy
theorem Jv (x y:Int) (hx:Fd x) (hy:Fd y) (h0:y≠0):AF Tryz.prog 69 [WA x,WA y] (WA (x/y)):=Ix (vs:=[_,_]) λw=>AbB x y w hx hy h0
theorem Hn {x:Int} (h:Cy x):Fd x:=Iv h.1 h.2
theorem Ei {x:Int} (h:Cy x) {k:Nat} (hk:k<=6):Fd (x^k):=((Bd.int h.1 h.2).pow k).fit (by omega)
abbrev jU (p:PL):AV:= .lit (.agg #[.bool (decide (p.x<0)),.string (Dv p.x.natAbs),.bool (decide (p.y<0)),.string (Dv p.y.natAbs),.bool (decide (p.z<0)),.string (Dv p.z.natAbs),.bool (decide (p.o<0)),.string (Dv p.o.natAbs)])
theorem Xe {s:Sg} {d:Int} (hs:Tr s) (hd:Cy d):Bd 378 (fO s d):=((Bd.int hs.o.1 hs.o.2).mul ((Bd.int hd.1 hd.2).pow 5)).mono (by omega)
theorem Aae (s:Sg) (a d:Int) (hs:Tr s) (hx:s.x.length<=6) (hy:s.y.length<=6) (hz:s.z.length<=6) (ha:Cy a) (hd:Cy d) (hg:plG s a d≠0):AF Tryz.prog 67 [Bn s,.int a,.int d] (jU (Hx s a d)):=by
 have bX:∀k,k<=6->Bd 390 (bS s.x a d k):=λk hk=>(jT hs.x ha hd k hk).mono (by omega)
 have bY:∀k,k<=6->Bd 390 (bS s.y a d k):=λk hk=>(jT hs.y ha hd k hk).mono (by omega)
 have bZ:∀k,k<=6->Bd 390 (bS s.z a d k):=λk hk=>(jT hs.z ha hd k hk).mono (by omega)
 have bO:Bd 390 (fO s d):=(Xe hs hd).mono (by omega)
 have bXX:Bd 390 (yD s a d):=bX _ hx
 have bYY:Bd 390 (plY s a d):=bY _ hy
 have bZZ:Bd 390 (plZ s a d):=bZ _ hz
 have bG1:=bO.gcd bXX
 have bG2:=bG1.gcd bYY
 have bG3:=bG2.gcd bZZ
 have pw:∀{x:Int},Cy x->∀k,k<=6->∀j,j<=k->Fd (x^j):=λh k hk j hj=>Ei h (by omega)
 refine Cx func67 rfl λB D0 hA0=>?_
 refine Ae 15 ?_
 refine Ds (Gf _ hs.o.1 hs.o.2) ?_
 refine Ae 1 ?_
 refine Ds (Fz d 5 hd.1 hd.2 (by omega) (pw hd 5 (by omega))) ?_
 refine Ds (Ju _ _ (Hn hs.o) (Ei hd (by omega)) (bO.fit (by omega))) ?_
 refine Ae 15 ?_
 refine Ds (sU s) ?_
 refine Ae 4 ?_
 refine zT 3 ?_
 refine Ae 14 ?_
 refine Ci (Ao s.x) .none (Dk 147 (.tmp 22) (.tmp 23) (by kernel_rfl) underlying147 1 sizeOf23 0 false isAgg23 [Ao s.x,Ao s.y,Ao s.z] 0 (by kernel_rfl) (by kernel_rfl) (by omega) (by decide) (Nat.le_of_ble_eq_true (by kernel_rfl)) (by decide) (Ao s.x) (by kernel_rfl)) ?_
 refine Ae 13 ?_
 refine zJ (keep:=[1,2,6,7,8,9,10,22,23,27,28,29]) s.x.length (λk=>⟨[(1,.int a),(2,.int d),(6,.ptr 1 0),(7,.ptr 2 0),(8,.ptr 3 0),(9,.ptr 4 0),(10,.int 0),(22,.agg [Ao s.x,Ao s.y,Ao s.z]),(23,.int 0),(27,Ao s.x),(28,.int (s.x.length:Int)),(29,.int (k:Int))],[(0,.box 81 [.int s.f,.int s.t,.int s.o,Ao s.x,Ao s.y,Ao s.z]),(1,.box 72 [.bool false,.lit (.string ⟨#[]⟩),.bool false,.lit (.string ⟨#[]⟩),.bool false,.lit (.string ⟨#[]⟩),.bool false,.lit (.string ⟨#[]⟩)]),(2,.box 122 [.bool (decide (bS s.x a d k<0)),.lit (.string (Dv (bS s.x a d k).natAbs)),.bool false,.lit (.string ⟨#[]⟩),.bool false,.lit (.string ⟨#[]⟩)]),(3,.box 70 [.bool (decide (fO s d<0)),.lit (.string (Dv (fO s d).natAbs))]),(4,.box 70 [.bool (decide (fO s d<0)),.lit (.string (Dv (fO s d).natAbs))])],5,74⟩) (λk hk J1 hJ1=>?_) ?_
 ·
  refine Ae 3 ?_
  refine Lh 30 (decide ((k:Int)<(s.x.length:Int))) true (decide_eq_true (by omega)) ?_
  refine Ae 11 ?_
  refine Gt k s.x.length ?_
  refine Ae 5 ?_
  refine Kg [(2,.ptr 2 0,.none),(5,_,.none),(8,_,.none),(11,.int ((5-k:Nat):Int),.none),(12,_,.none),(13,_,.none),(14,_,.none),(15,_,.none),(16,.ptr 2 0,.none)] [1,2,6,7,8,9,10,22,23,27,28,29] ⟨Av (Bv 122 (.tmp 7) (.tmp 35) (by kernel_rfl) underlying122 2 0 2 0 0 (by kernel_rfl) (by kernel_rfl) sizeOf70 (by decide) (by omega) (by decide)),Hj (Gf _ (hs.x k).1 (hs.x k).2),Hj (Fz a k ha.1 ha.2 (by omega) (pw ha _ (by omega))),Av (Cq (v:= .int .i64 (IntKind.wrap .i64 ((5:Int)-(k:Int)))) (v':= .int .i64 ((5-k:Nat):Int)) _ (by kernel_rfl) rfl (by kernel_rfl) (λw=>by kernel_rfl) (congrArg (Value.int .i64) ((IntWalk.i64_in _ (by omega)).trans (by omega)))),Hj (Fz d (5-k) hd.1 hd.2 (by omega) (pw hd _ (by omega))),Hj (Ju _ _ (Ei ha (by omega)) (Ei hd (by omega)) ((((Bd.int ha.1 ha.2).pow k).mul ((Bd.int hd.1 hd.2).pow (5-k))).fit (by omega))),Hj (Ju _ _ (Hn (hs.x k)) ((((Bd.int ha.1 ha.2).pow k).mul ((Bd.int hd.1 hd.2).pow (5-k))).fit (by omega)) ((Qa (hs.x k) ha hd (by omega)).fit (by omega))),Hj (gT (bS s.x a d k) _ ((bX k (by omega)).fit (by omega)) ((Qa (hs.x k) ha hd (by omega)).fit (by omega)) ((bX (k+1) (by omega)).fit (by omega))),Av (Bv 122 (.tmp 7) (.tmp 34) (by kernel_rfl) underlying122 2 0 2 0 0 (by kernel_rfl) (by kernel_rfl) sizeOf70 (by decide) (by omega) (by decide)),trivial⟩ ?_
  refine Ae 3 ?_
  refine Fw ((k:Int)+1) ((k+1:Nat):Int) ?_
  refine Ae 2 ?_
  exact Qm [1,2,6,7,8,9,10,22,23,27,28,29] hJ1
 ·
  refine Ae 3 ?_
  refine Lh 30 (decide ((s.x.length:Int)<(s.x.length:Int))) false (decide_eq_false (by omega)) ?_
  refine Ae 9 ?_
  refine Kg [(2,.ptr 2 0,.none),(4,_,.none)] [1,2,6,7,8,9,22,23] ⟨Av (Bv 122 (.tmp 7) (.tmp 53) (by kernel_rfl) underlying122 2 0 2 0 0 (by kernel_rfl) (by kernel_rfl) sizeOf70 (by decide) (by omega) (by decide)),Hj (Sc _ _ (bO.fit (by omega)) (bXX.fit (by omega))),trivial⟩ ?_
  refine Ae 3 ?_
  refine No (.int .i64 1) (.int .i64 1) ?_
  refine Ae 17 ?_
  refine Ci (Ao s.y) .none (Dk 147 (.tmp 22) (.tmp 23) (by kernel_rfl) underlying147 1 sizeOf23 1 false isAgg23 [Ao s.x,Ao s.y,Ao s.z] 1 (by kernel_rfl) (by kernel_rfl) (by omega) (by decide) (Nat.le_of_ble_eq_true (by kernel_rfl)) (by decide) (Ao s.y) (by kernel_rfl)) ?_
  refine Ae 13 ?_
  refine zJ (keep:=[1,2,6,7,8,9,10,22,23,27,28,29]) s.y.length (λk=>⟨[(1,.int a),(2,.int d),(6,.ptr 1 0),(7,.ptr 2 0),(8,.ptr 3 0),(9,.ptr 4 0),(10,.int 1),(22,.agg [Ao s.x,Ao s.y,Ao s.z]),(23,.int 1),(27,Ao s.y),(28,.int (s.y.length:Int)),(29,.int (k:Int))],[(0,.box 81 [.int s.f,.int s.t,.int s.o,Ao s.x,Ao s.y,Ao s.z]),(1,.box 72 [.bool false,.lit (.string ⟨#[]⟩),.bool false,.lit (.string ⟨#[]⟩),.bool false,.lit (.string ⟨#[]⟩),.bool false,.lit (.string ⟨#[]⟩)]),(2,.box 122 [.bool (decide (yD s a d<0)),.lit (.string (Dv (yD s a d).natAbs)),.bool (decide (bS s.y a d k<0)),.lit (.string (Dv (bS s.y a d k).natAbs)),.bool false,.lit (.string ⟨#[]⟩)]),(3,.box 70 [.bool (decide (fO s d<0)),.lit (.string (Dv (fO s d).natAbs))]),(4,.box 70 [.bool (decide ((Nat.gcd (fO s d).natAbs (yD s a d).natAbs:Int)<0)),.lit (.string (Dv (Nat.gcd (fO s d).natAbs (yD s a d).natAbs:Int).natAbs))])],5,74⟩) (λk hk J2 hJ2=>?_) ?_
  ·
   refine Ae 3 ?_
   refine Lh 30 (decide ((k:Int)<(s.y.length:Int))) true (decide_eq_true (by omega)) ?_
   refine Ae 11 ?_
   refine Gt k s.y.length ?_
   refine Ae 5 ?_
   refine Kg [(2,.ptr 2 2,.none),(5,_,.none),(8,_,.none),(11,.int ((5-k:Nat):Int),.none),(12,_,.none),(13,_,.none),(14,_,.none),(15,_,.none),(16,.ptr 2 2,.none)] [1,2,6,7,8,9,10,22,23,27,28,29] ⟨Av (Bv 122 (.tmp 7) (.tmp 35) (by kernel_rfl) underlying122 2 0 2 1 1 (by kernel_rfl) (by kernel_rfl) sizeOf70 (by decide) (by omega) (by decide)),Hj (Gf _ (hs.y k).1 (hs.y k).2),Hj (Fz a k ha.1 ha.2 (by omega) (pw ha _ (by omega))),Av (Cq (v:= .int .i64 (IntKind.wrap .i64 ((5:Int)-(k:Int)))) (v':= .int .i64 ((5-k:Nat):Int)) _ (by kernel_rfl) rfl (by kernel_rfl) (λw=>by kernel_rfl) (congrArg (Value.int .i64) ((IntWalk.i64_in _ (by omega)).trans (by omega)))),Hj (Fz d (5-k) hd.1 hd.2 (by omega) (pw hd _ (by omega))),Hj (Ju _ _ (Ei ha (by omega)) (Ei hd (by omega)) ((((Bd.int ha.1 ha.2).pow k).mul ((Bd.int hd.1 hd.2).pow (5-k))).fit (by omega))),Hj (Ju _ _ (Hn (hs.y k)) ((((Bd.int ha.1 ha.2).pow k).mul ((Bd.int hd.1 hd.2).pow (5-k))).fit (by omega)) ((Qa (hs.y k) ha hd (by omega)).fit (by omega))),Hj (gT (bS s.y a d k) _ ((bY k (by omega)).fit (by omega)) ((Qa (hs.y k) ha hd (by omega)).fit (by omega)) ((bY (k+1) (by omega)).fit (by omega))),Av (Bv 122 (.tmp 7) (.tmp 34) (by kernel_rfl) underlying122 2 0 2 1 1 (by kernel_rfl) (by kernel_rfl) sizeOf70 (by decide) (by omega) (by decide)),trivial⟩ ?_
   refine Ae 3 ?_
   refine Fw ((k:Int)+1) ((k+1:Nat):Int) ?_
   refine Ae 2 ?_
   exact Qm [1,2,6,7,8,9,10,22,23,27,28,29] hJ2
  ·
   refine Ae 3 ?_
   refine Lh 30 (decide ((s.y.length:Int)<(s.y.length:Int))) false (decide_eq_false (by omega)) ?_
   refine Ae 9 ?_
   refine Kg [(2,.ptr 2 2,.none),(4,_,.none)] [1,2,6,7,8,9,22,23] ⟨Av (Bv 122 (.tmp 7) (.tmp 53) (by kernel_rfl) underlying122 2 0 2 1 1 (by kernel_rfl) (by kernel_rfl) sizeOf70 (by decide) (by omega) (by decide)),Hj (Sc _ _ (bG1.fit (by omega)) (bYY.fit (by omega))),trivial⟩ ?_
   refine Ae 3 ?_
   refine No (.int .i64 2) (.int .i64 2) ?_
   refine Ae 17 ?_
   refine Ci (Ao s.z) .none (Dk 147 (.tmp 22) (.tmp 23) (by kernel_rfl) underlying147 1 sizeOf23 2 false isAgg23 [Ao s.x,Ao s.y,Ao s.z] 2 (by kernel_rfl) (by kernel_rfl) (by omega) (by decide) (Nat.le_of_ble_eq_true (by kernel_rfl)) (by decide) (Ao s.z) (by kernel_rfl)) ?_
   refine Ae 13 ?_
   refine zJ (keep:=[1,2,6,7,8,9,10,22,23,27,28,29]) s.z.length (λk=>⟨[(1,.int a),(2,.int d),(6,.ptr 1 0),(7,.ptr 2 0),(8,.ptr 3 0),(9,.ptr 4 0),(10,.int 2),(22,.agg [Ao s.x,Ao s.y,Ao s.z]),(23,.int 2),(27,Ao s.z),(28,.int (s.z.length:Int)),(29,.int (k:Int))],[(0,.box 81 [.int s.f,.int s.t,.int s.o,Ao s.x,Ao s.y,Ao s.z]),(1,.box 72 [.bool false,.lit (.string ⟨#[]⟩),.bool false,.lit (.string ⟨#[]⟩),.bool false,.lit (.string ⟨#[]⟩),.bool false,.lit (.string ⟨#[]⟩)]),(2,.box 122 [.bool (decide (yD s a d<0)),.lit (.string (Dv (yD s a d).natAbs)),.bool (decide (plY s a d<0)),.lit (.string (Dv (plY s a d).natAbs)),.bool (decide (bS s.z a d k<0)),.lit (.string (Dv (bS s.z a d k).natAbs))]),(3,.box 70 [.bool (decide (fO s d<0)),.lit (.string (Dv (fO s d).natAbs))]),(4,.box 70 [.bool (decide (((Nat.gcd (Nat.gcd (fO s d).natAbs (yD s a d).natAbs:Int).natAbs (plY s a d).natAbs:Nat):Int)<0)),.lit (.string (Dv ((Nat.gcd (Nat.gcd (fO s d).natAbs (yD s a d).natAbs:Int).natAbs (plY s a d).natAbs:Nat):Int).natAbs))])],5,74⟩) (λk hk J3 hJ3=>?_) ?_
   ·
    refine Ae 3 ?_
    refine Lh 30 (decide ((k:Int)<(s.z.length:Int))) true (decide_eq_true (by omega)) ?_
    refine Ae 11 ?_
    refine Gt k s.z.length ?_
    refine Ae 5 ?_
    refine Kg [(2,.ptr 2 4,.none),(5,_,.none),(8,_,.none),(11,.int ((5-k:Nat):Int),.none),(12,_,.none),(13,_,.none),(14,_,.none),(15,_,.none),(16,.ptr 2 4,.none)] [1,2,6,7,8,9,10,22,23,27,28,29] ⟨Av (Bv 122 (.tmp 7) (.tmp 35) (by kernel_rfl) underlying122 2 0 2 2 2 (by kernel_rfl) (by kernel_rfl) sizeOf70 (by decide) (by omega) (by decide)),Hj (Gf _ (hs.z k).1 (hs.z k).2),Hj (Fz a k ha.1 ha.2 (by omega) (pw ha _ (by omega))),Av (Cq (v:= .int .i64 (IntKind.wrap .i64 ((5:Int)-(k:Int)))) (v':= .int .i64 ((5-k:Nat):Int)) _ (by kernel_rfl) rfl (by kernel_rfl) (λw=>by kernel_rfl) (congrArg (Value.int .i64) ((IntWalk.i64_in _ (by omega)).trans (by omega)))),Hj (Fz d (5-k) hd.1 hd.2 (by omega) (pw hd _ (by omega))),Hj (Ju _ _ (Ei ha (by omega)) (Ei hd (by omega)) ((((Bd.int ha.1 ha.2).pow k).mul ((Bd.int hd.1 hd.2).pow (5-k))).fit (by omega))),Hj (Ju _ _ (Hn (hs.z k)) ((((Bd.int ha.1 ha.2).pow k).mul ((Bd.int hd.1 hd.2).pow (5-k))).fit (by omega)) ((Qa (hs.z k) ha hd (by omega)).fit (by omega))),Hj (gT (bS s.z a d k) _ ((bZ k (by omega)).fit (by omega)) ((Qa (hs.z k) ha hd (by omega)).fit (by omega)) ((bZ (k+1) (by omega)).fit (by omega))),Av (Bv 122 (.tmp 7) (.tmp 34) (by kernel_rfl) underlying122 2 0 2 2 2 (by kernel_rfl) (by kernel_rfl) sizeOf70 (by decide) (by omega) (by decide)),trivial⟩ ?_
    refine Ae 3 ?_
    refine Fw ((k:Int)+1) ((k+1:Nat):Int) ?_
    refine Ae 2 ?_
    exact Qm [1,2,6,7,8,9,10,22,23,27,28,29] hJ3
   ·
    refine Ae 3 ?_
    refine Lh 30 (decide ((s.z.length:Int)<(s.z.length:Int))) false (decide_eq_false (by omega)) ?_
    refine Ae 9 ?_
    refine Kg [(2,.ptr 2 4,.none),(4,_,.none)] [1,2,6,7,8,9,22,23] ⟨Av (Bv 122 (.tmp 7) (.tmp 53) (by kernel_rfl) underlying122 2 0 2 2 2 (by kernel_rfl) (by kernel_rfl) sizeOf70 (by decide) (by omega) (by decide)),Hj (Sc _ _ (bG2.fit (by omega)) (bZZ.fit (by omega))),trivial⟩ ?_
    refine Ae 3 ?_
    refine No (.int .i64 3) (.int .i64 3) ?_
    refine Ae 16 ?_
    refine Kg [(0,.ptr 2 0,.none),(3,_,.none),(4,.ptr 2 2,.none),(7,_,.none),(8,.ptr 2 4,.none),(11,_,.none),(14,_,.none)] [6] ⟨Av (Bv 122 (.tmp 7) (.const (.int .i64 0)) (by kernel_rfl) underlying122 2 0 2 0 0 (by kernel_rfl) (by kernel_rfl) sizeOf70 (by decide) (by omega) (by decide)),Hj (Jv _ _ (bXX.fit (by omega)) (bG3.fit (by omega)) hg),Av (Bv 122 (.tmp 7) (.const (.int .i64 1)) (by kernel_rfl) underlying122 2 0 2 1 1 (by kernel_rfl) (by kernel_rfl) sizeOf70 (by decide) (by omega) (by decide)),Hj (Jv _ _ (bYY.fit (by omega)) (bG3.fit (by omega)) hg),Av (Bv 122 (.tmp 7) (.const (.int .i64 2)) (by kernel_rfl) underlying122 2 0 2 2 2 (by kernel_rfl) (by kernel_rfl) sizeOf70 (by decide) (by omega) (by decide)),Hj (Jv _ _ (bZZ.fit (by omega)) (bG3.fit (by omega)) hg),Hj (Jv _ _ (bO.fit (by omega)) (bG3.fit (by omega)) hg),trivial⟩ ?_
    refine Ae 2 ?_
    exact Hq
end Go.Proofs.YtldnjomacnjhnaaGreat
namespace Go.Proofs.YtldnjomacnjhnaaGreat
open Go.Proofs.Tryz
open Go.RowKit
variable {B:Nat} {D0:Bk} {o:Oper} {ev:Operand->AV} {pre:Nat->Option Ck}
theorem Zb (t t':TypeId) (x y:Operand) (ho:o.op= .binOp .eql t x y t') (vs us:Array Value) (hx:ev x= .lit (.agg vs)) (hy:ev y= .lit (.agg us)) (hg:Tryz.prog.eqGuardType Tryz.prog.depth t=false) (b:Bool) (heq:∀w,(Op.equal t (.agg vs) (.agg us)).run Tryz.prog w= .ok b w):Eh Tryz.prog B D0 o ev pre (.bool b) .none:=by
 refine Cn (.inl rfl) λE a c _ _ hv=>⟨_,?_,.lit _ _⟩
 have h1:=hv x (by simp[ho,Op.operands])
 have h2:=hv y (by simp[ho,Op.operands])
 rw[hx] at h1
 rw[hy] at h2
 simp[execOp,ho,h1.lit_inv,h2.lit_inv,eqGuard,hg,binOp,heq]
theorem Vs (t t':TypeId) (x y:Operand) (ho:o.op= .binOp .neq t x y t') (vs us:Array Value) (hx:ev x= .lit (.agg vs)) (hy:ev y= .lit (.agg us)) (hg:Tryz.prog.eqGuardType Tryz.prog.depth t=false) (b:Bool) (heq:∀w,(Op.equal t (.agg vs) (.agg us)).run Tryz.prog w= .ok b w):Eh Tryz.prog B D0 o ev pre (.bool (!b)) .none:=by
 refine Cn (.inl rfl) λE a c _ _ hv=>⟨_,?_,.lit _ _⟩
 have h1:=hv x (by simp[ho,Op.operands])
 have h2:=hv y (by simp[ho,Op.operands])
 rw[hx] at h1
 rw[hy] at h2
 simp[execOp,ho,h1.lit_inv,h2.lit_inv,eqGuard,hg,binOp,heq]
theorem Ir {b b':Bool} (h:Eh Tryz.prog B D0 o ev pre (.bool b) .none) (e:b=b'):Eh Tryz.prog B D0 o ev pre (.bool b') .none:=e▸h
theorem Adl (b b':Bool) (s s':ByteArray) (w:World) (d:Nat):(Op.equalIn (d+2) 70 (.agg #[.bool b,.string s]) (.agg #[.bool b',.string s'])).run Tryz.prog w= .ok ((b==b')&&(s==s')) w:=by
 have h91:=Tryz.runUnderlying70
 have ha4:=isAgg4
 unfold Op.equalIn
 simp[h91,part,ha4,Op.equalIn]
 by_cases h1:b=b'
 subst h1
 cases hs:(s==s')<;>simp
 simp[h1]
theorem eqW (x y:Int) (w:World) (d:Nat):(Op.equalIn (d+2) 70 (Aj x) (Aj y)).run Tryz.prog w= .ok (decide (x=y)) w:=by
 unfold Aj
 rw[Adl]
 congr 1
 rw[beq_toListBytes]
 by_cases h:x=y
 subst h;simp
 rw[decide_eq_false h]
 cases h1:((Dv x.natAbs).toList==(Dv y.natAbs).toList) with
 |false=>simp
 |true=>
  have h3:x.natAbs=y.natAbs:=lY (by simpa using h1)
  have h4:¬(decide (x<0)=decide (y<0)):=λe=>by
   have:x<0↔y<0:=by simpa using e
   apply h
   omega
  simpa using h4
theorem Ac7 (p q:PL) (w:World):(Op.equal 72 (jU p).val (jU q).val).run Tryz.prog w= .ok (decide (p=q)) w:=by
 have e:∀(x y:Int) (w:World),(Op.equalIn 9999 70 (Aj x) (Aj y)).run Tryz.prog w= .ok (decide (x=y)) w:=λx y w=>eqW x y w 9997
 have h93:=Tryz.runUnderlying72
 have h91:=isAgg70
 have hs:=sizeOf70
 have hin:Tryz.prog.stoodInHeld 72=false:=by kernel_rfl
 unfold Op.equal
 rw[show Op.maxDepth=9999+1 from rfl]
 unfold Op.equalIn
 simp only[AV.val]
 unfold Aj at e
 simp[h93,part,h91,hs,e,hin]
 obtain⟨x,y,z,u⟩:=p
 obtain⟨x',y',z',u'⟩:=q
 simp only[PL.mk.injEq]
 by_cases h1:x=x'<;>by_cases h2:y=y'<;>by_cases h3:z=z'<;>by_cases h4:u=u'<;>simp[h1,h2,h3,h4]
theorem iO (x y z x' y' z':Int) (w:World):(Op.equal 36 (.agg #[.int .i64 x,.int .i64 y,.int .i64 z]) (.agg #[.int .i64 x',.int .i64 y',.int .i64 z'])).run Tryz.prog w= .ok (decide (x=x'/\y=y'/\z=z')) w:=by
 have h55:=Tryz.runUnderlying36
 have h3:=Tryz.runUnderlying3
 have ha:=isAgg3
 have hin:Tryz.prog.stoodInHeld 36=false:=by kernel_rfl
 unfold Op.equal
 rw[show Op.maxDepth=9998+1+1 from rfl]
 unfold Op.equalIn
 simp[h55,part,ha,hin]
 unfold Op.equalIn
 simp[h3]
 by_cases h1:x=x'<;>by_cases h2:y=y'<;>by_cases h3:z=z'<;>simp[h1,h2,h3]
theorem iK {E:Bk} {l:List Int} {v:Value} (h:VR E (Ao l) v):∃A c,v= .slice A l.length c/\Qq E.w v l:=by
 obtain⟨n,hn⟩:∃n,l.length=n:=⟨_,rfl⟩
 unfold Ao at h
 rw[hn] at h ⊢
 cases h with
 |sl0 _ _ _ A c=>exact⟨A,c,rfl,.inl ⟨A,c,rfl,List.eq_nil_of_length_eq_zero hn⟩⟩
 |sl _ _ _ _ b q c us hn0 hD hc hr=>
  refine⟨_,c,rfl,.inr ⟨b,q,c,by rw[hn],λi hi=>?_⟩⟩
  have h1:=hc i 0 (by omega) (by omega)
  have h2:=hr i 0 (by omega) (by omega)
  have h3:us i 0= .int .i64 (l.getD i 0):=h2.lit_inv
  rw[<-h3];exact h1
theorem Qp (s:Sg) (hs:Tr s):AF Tryz.prog 92 [Bn s] (.bool (decide (Gm s))):=by
 intro E us hD hn hv
 have h0:=hv 0 (by simp)
 obtain⟨u,rfl⟩:∃u,us=#[u]:=⟨us.getD 0 undef,by
  apply Array.ext
  simpa using hn
  intro i h1 h2
  have:i=0:=by simp at hn;omega
  subst this
  simp[h1]⟩
 simp at h0
 cases h0 with
 |agg _ _ vs hsz hr=>
  have g:=VR.tops hr
  have l0:vs.getD 0 undef= .int .i64 s.f:=(g 0).lit_inv
  have l1:vs.getD 1 undef= .int .i64 s.t:=(g 1).lit_inv
  have l2:vs.getD 2 undef= .int .i64 s.o:=(g 2).lit_inv
  obtain⟨A3,c3,e3,k3⟩:=iK (l:=s.x) (g 3)
  obtain⟨A4,c4,e4,k4⟩:=iK (l:=s.y) (g 4)
  obtain⟨A5,c5,e5,k5⟩:=iK (l:=s.z) (g 5)
  have hvs:vs=#[.int .i64 s.f,.int .i64 s.t,.int .i64 s.o,.slice A3 s.x.length c3,.slice A4 s.y.length c4,.slice A5 s.z.length c5]:=by
   apply Array.ext
   simpa using hsz
   intro i h1 h2
   have e:vs[i]=vs.getD i undef:=by simp[h1]
   rw[e]
   simp at h2
   match i,h2 with
   |0,_=>exact l0
   |1,_=>exact l1
   |2,_=>exact l2
   |3,_=>exact e3
   |4,_=>exact e4
   |5,_=>exact e5
  subst hvs
  rw[e3] at k3
  rw[e4] at k4
  rw[e5] at k5
  refine(kJ s A3 A4 A5 c3 c4 c5 E.w k3 k4 k5 (λk i=>?_)).mono ?_
  match k with
  |0=>exact hs.x i
  |1=>exact hs.y i
  |k+2=>exact hs.z i
  rintro e w' ⟨rfl,hb⟩
  exact⟨_,E.D,rfl,.lit _ _,hb,λ_ h=>h,λ_ h=> .inl h,λb hb'=>Nat.lt_of_lt_of_le (hD b hb') hb.size⟩
end Go.Proofs.YtldnjomacnjhnaaGreat
namespace Go.Proofs.YtldnjomacnjhnaaGreat
open Go.Proofs.Tryz
open Go.RowKit
theorem Zi {E:Bk} {e n:Nat} {f:Nat->AV} {v:Value} (h:VR E (.sl e n f) v) (cs:List Value) (hl:cs.length=n*e) (hc:∀i j,i<n->j<e->(f i).cell j= .lit (cs.getD (i*e+j) undef)):Dd E.w E.D e v n cs:=by
 cases h with
 |sl0=>exact⟨hl,.inl ⟨_,_,rfl,rfl⟩⟩
 |sl _ _ _ _ b q c us hn hD hcell hr=>
  refine⟨hl,.inr ⟨b,q,c,rfl,hD,λk u hu=>?_⟩⟩
  obtain⟨hk,he⟩:=List.getElem?_eq_some_iff.1 hu
  rw[hl] at hk
  have he0:0<e:=by
   rcases Nat.eq_zero_or_pos e with h|h
   subst h;omega
   exact h
  obtain⟨d1,d2,d3⟩:=iM hk he0
  have h1:=hcell _ _ d1 d2
  have h2:=hr _ _ d1 d2
  rw[hc _ _ d1 d2,d3] at h2
  have h3:=h2.lit_inv
  rw[Nat.add_assoc,d3,h3] at h1
  rw[h1,List.getD_eq_getElem?_getD,hu];rfl
theorem Wd {w:World} {D:Nat->Prop} {e n:Nat} {v:Value} {cs:List Value} (h:Dd w D e v n cs) {E:Bk} (hw:E.w=w) (hD:∀b,D b->E.D b) {f:Nat->AV} (hc:∀i j,i<n->j<e->VR E.fz ((f i).cell j) (cs.getD (i*e+j) undef)):VR E (.sl e n f) v:=by
 subst hw
 by_cases hn:n=0
 obtain⟨A,c,rfl⟩:=h.slice
 subst hn
 exact .sl0 _ _ _ _ _
 rcases h.2 with⟨A,c,rfl,h0⟩|⟨b,o,c,rfl,hd,hcell⟩
 exact absurd h0 hn
 refine .sl _ _ _ _ _ _ _ (λi j=>cs.getD (i*e+j) undef) (by omega) (hD b hd) (λi j hi hj=>?_) hc
 have hlt:i*e+j<n*e:=by
  have:=Nat.mul_le_mul_right e (show i+1<=n from hi)
  rw[Nat.succ_mul] at this;omega
 rw[Nat.add_assoc]
 exact hcell _ _ (by rw[List.getD_eq_getElem?_getD,List.getElem?_eq_getElem (by rw[h.1];exact hlt)];rfl)
theorem fB (l:List Int) {i:Nat} (h:i<l.length):(Db l).getD i undef= .int .i64 (l.getD i 0):=by
 rw[List.getD_eq_getElem?_getD,Vh l i h,List.getD_eq_getElem?_getD,List.getElem?_eq_getElem h];rfl
theorem Ys {w:World} {D:Nat->Prop} {l:List Int} {v:Value} (h:Dd w D 1 v l.length (Db l)) {E:Bk} (hw:E.w=w) (hD:∀b,D b->E.D b):VR E (Ao l) v:=
 Wd h hw hD λi j hi hj=>by
  obtain rfl:j=0:=by omega
  rw[Nat.mul_one,Nat.add_zero,fB l hi]
  exact .lit _ _
theorem Adt {E:Bk} {l:List Int} {v:Value} (h:VR E (Ao l) v):Dd E.w E.D 1 v l.length (Db l):=
 Zi h (Db l) (by rw[nJ,Nat.mul_one]) λi j hi hj=>by
  obtain rfl:j=0:=by omega
  rw[Nat.mul_one,Nat.add_zero,fB l hi]
  rfl
def Sg.none:Sg:=⟨0,0,0,[],[],[]⟩
abbrev Ai (l:List Sg):AV:= .sl 6 l.length λi=>Bn (l.getD i Sg.none)
theorem jS {w:World} {D:Nat->Prop} {l:List Sg} {v:Value} (h:Aan w D v l) {E:Bk} (hw:E.w=w) (hD:∀b,D b->E.D b):VR E (Ai l) v:=by
 obtain⟨cs,h1,h2⟩:=h
 refine Wd h1 hw hD λi j hi hj=>?_
 obtain⟨a,⟨vx,vy,vz,rfl,hx,hy,hz⟩,ha⟩:=h2.at_ hi
 have e:l.getD i Sg.none=l[i]:=by rw[List.getD_eq_getElem?_getD,List.getElem?_eq_getElem hi];rfl
 have g:∀u,[Value.int .i64 l[i].f,.int .i64 l[i].t,.int .i64 l[i].o,vx,vy,vz][j]?=some u->cs.getD (i*6+j) undef=u:=λu hu=>by
  rw[List.getD_eq_getElem?_getD,ha j u hu];rfl
 rw[e]
 match j,hj with
 |0,_=>rw[g _ rfl];exact .lit _ _
 |1,_=>rw[g _ rfl];exact .lit _ _
 |2,_=>rw[g _ rfl];exact .lit _ _
 |3,_=>rw[g _ rfl];exact Ys (E:=E.fz) hx hw hD
 |4,_=>rw[g _ rfl];exact Ys (E:=E.fz) hy hw hD
 |5,_=>rw[g _ rfl];exact Ys (E:=E.fz) hz hw hD
theorem sW {P:Program} {f:FuncId} {args:List AV} {r:AV} (h:∀(E:Bk) (vs:Array Value),(∀b,E.D b->b<E.w.heap.size)->vs.size=args.length->(∀i,i<args.length->VR E.fz (args.getD i .top) (vs.getD i undef))->
  Calls P f vs E.w λe w'=>∃v,e= .returned v/\Below E.w.heap.size E.w w'/\∀E':Bk,E'.w=w'->(∀b,E.D b->E'.D b)->(∀b,E.w.heap.size<=b->b<w'.heap.size->E'.D b)->VR E' r v):AF P f args r:=by
 intro E vs hD hn hv
 refine(h E vs hD hn hv).mono ?_
 rintro e w' ⟨v,rfl,hb,hr⟩
 refine⟨v,λb=>E.D b\/(E.w.heap.size<=b/\b<w'.heap.size),rfl,hr _ rfl (λb hb=> .inl hb) (λb h1 h2=> .inr ⟨h1,h2⟩),hb,λb hb=> .inl hb,λb hb=>?_,λb hb'=>?_⟩
 rcases hb with hb|hb
 exact .inl hb
 exact .inr hb.1
 rcases hb' with hb'|hb'
 exact Nat.lt_of_lt_of_le (hD b hb') hb.size
 exact hb'.2
theorem gS {P:Program} {f:FuncId} {vs:List Value} {r:AV} (h:∀w,Calls P f vs.toArray w λe w'=>∃v,e= .returned v/\Below w.heap.size w w'/\∀E':Bk,E'.w=w'->(∀b,w.heap.size<=b->b<w'.heap.size->E'.D b)->VR E' r v):AF P f (vs.map .lit) r:=by
 refine sW λE us hD hn hv=>?_
 have:us=vs.toArray:=VR.lits (E:=E.fz) (by simpa using hn) (VR.tops hv)
 subst this
 refine(h E.w).mono ?_
 rintro e w' ⟨v,rfl,hb,hr⟩
 exact⟨v,rfl,hb,λE' h1 _ h3=>hr E' h1 h3⟩
abbrev Gv (v:V3):AV:= .lit (.agg #[.int .i64 v.x,.int .i64 v.y,.int .i64 v.z])
theorem Um (v:V3):AF Tryz.prog 33 [Gv v] (.bool (Dy 1048576 [v.x,v.y,v.z])):=Ix (vs:=[_]) λw=>fP v.x v.y v.z w
theorem Ae2 {E:Bk} {x y:AV} {a b:Value} (h1:VR E x a) (h2:VR E y b):VR E (.tup [x,y]) (.tuple #[a,b]):= .tup _ _ _ rfl λi hi=>by
 match i,hi with
 |0,_=>exact h1
 |1,_=>exact h2
abbrev wY (a b:V3) (f t k:Int):AV:= .tup [Ai (if Ll a b f t=true then [Sx a b f t k] else []),.int (if Ll a b f t=true then 0 else 2)]
theorem tZ {w w':World} {a b:V3} {f t k:Int} {e:Ending} (h:Ga w a b f t k e w'):∃v,e= .returned v/\Below w.heap.size w w'/\∀E':Bk,E'.w=w'->(∀b,w.heap.size<=b->b<w'.heap.size->E'.D b)->VR E' (wY a b f t k) v:=by
 unfold Ga at h
 unfold wY
 split at h
 rename_i hf
 obtain⟨v,rfl,hp,hb⟩:=h
 simp only[hf,if_true]
 exact⟨_,rfl,hb,λE' h1 h2=>Ae2 (jS hp h1 λb hb=>h2 b hb.1 hb.2) (.lit _ _)⟩
 rename_i hf
 simp only[hf,if_false]
 obtain⟨rfl,hb⟩:=h
 exact⟨_,rfl,hb,λE' h1 h2=>Ae2 (.sl0 _ _ _ _ _) (.lit _ _)⟩
theorem zZ (a b:V3) (f t:Int):AF Tryz.prog 49 [Gv a,Gv b,.int f,.int t] (wY a b f t 2):=gS (vs:=[_,_,_,_]) λw=>(Wz a.x a.y a.z b.x b.y b.z f t w).mono λe w' h=>tZ h
theorem Aab (a:V3) (f t:Int):AF Tryz.prog 62 [Gv a,.int f,.int t] (wY a a f t 0):=gS (vs:=[_,_,_]) λw=>(eX a.x a.y a.z f t w).mono λe w' h=>tZ h
abbrev Kc (l:List V3):AV:= .sl 3 l.length λi=>Gv (l.getD i V3.zero)
abbrev Hk (l:List ByteArray):AV:= .sl 1 l.length λi=> .lit (.string (l.getD i ByteArray.empty))
abbrev xR (m:Mv):AV:= .lit (.agg #[.int .i64 m.to.x,.int .i64 m.to.y,.int .i64 m.to.z,.int .i64 m.wait,.int .i64 m.flight,.int .i64 m.rise])
abbrev Aek (l:List Mv):AV:= .sl 6 l.length λi=>xR (l.getD i Mv.none)
abbrev Acv (a:Ac):AV:= .agg [.lit (.string a.name),.int a.len,Aek a.moves]
abbrev Io (l:List Ac):AV:= .sl 3 l.length λi=>Acv (l.getD i Ac.none)
abbrev Gw (p:Pr):AV:= .agg [Hk p.names,Kc p.homes,Io p.acts]
theorem Of {α:Type} (f:α->List Value) (k:Nat) (hf:∀a,(f a).length=k):∀(l:List α) (i j:Nat) (d:α),i<l.length->j<k->(l.flatMap f).getD (i*k+j) undef=(f (l.getD i d)).getD j undef
 |[],i,j,d,hi,_=>by simp at hi
 |a::l,0,j,d,_,hj=>by
  rw[List.flatMap_cons,List.getD_eq_getElem?_getD,List.getElem?_append_left (by rw[hf];omega)]
  simp[List.getD_eq_getElem?_getD]
 |a::l,i+1,j,d,hi,hj=>by
  rw[List.flatMap_cons,List.getD_eq_getElem?_getD,List.getElem?_append_right (by rw[hf,Nat.succ_mul];omega),hf]
  have:=Of f k hf l i j d (by simpa using hi) hj
  rw[List.getD_eq_getElem?_getD] at this
  rw[show (i+1)*k+j-k=i*k+j by rw[Nat.succ_mul];omega,this]
  simp[List.getD_eq_getElem?_getD]
theorem Xy {α:Type} (f:α->List Value) (k:Nat) (hf:∀a,(f a).length=k):∀l:List α,(l.flatMap f).length=l.length*k
 |[]=>by simp
 |a::l=>by rw[List.flatMap_cons,List.length_append,hf,Xy f k hf l,List.length_cons,Nat.succ_mul];omega
theorem zH {E:Bk} {l:List V3} {v:Value} (h:VR E (Kc l) v):Dd E.w E.D 3 v l.length (Jf l):=
 Zi h (Jf l) (Yj l) λi j hi hj=>by
  have:=Of (λv:V3=>[Value.int .i64 v.x,.int .i64 v.y,.int .i64 v.z]) 3 (λ_=>rfl) l i j V3.zero hi hj
  show _=AV.lit ((Jf l).getD (i*3+j) undef)
  unfold Jf
  rw[this]
  match j,hj with
  |0,_=>rfl
  |1,_=>rfl
  |2,_=>rfl
theorem Abm {E:Bk} {l:List Mv} {v:Value} (h:VR E (Aek l) v):Dd E.w E.D 6 v l.length (mvs l):=
 Zi h (mvs l) (Xy Mv.cells 6 (λ_=>rfl) l) λi j hi hj=>by
  have:=Of Mv.cells 6 (λ_=>rfl) l i j Mv.none hi hj
  unfold mvs
  rw[this]
  match j,hj with
  |0,_=>rfl
  |1,_=>rfl
  |2,_=>rfl
  |3,_=>rfl
  |4,_=>rfl
  |5,_=>rfl
theorem rL {E:Bk} {l:List ByteArray} {v:Value} (h:VR E (Hk l) v):Dd E.w E.D 1 v l.length (kL l):=
 Zi h (kL l) (by simp[kL]) λi j hi hj=>by
  obtain rfl:j=0:=by omega
  rw[Nat.mul_one,Nat.add_zero]
  show AV.lit (.string (l.getD i ByteArray.empty))=AV.lit ((kL l).getD i undef)
  simp[kL,List.getD_eq_getElem?_getD,hi]
def Xq:List Ac->(Nat->Value)->List Value
 |[],_=>[]
 |a::l,g=>[.string a.name,.int .i64 a.len,g 0]++Xq l λi=>g (i+1)
theorem Wq:∀(l:List Ac) (g:Nat->Value),(Xq l g).length=l.length*3
 |[],_=>rfl
 |a::l,g=>by rw[Xq,List.length_append,Wq l];simp;omega
theorem lX:∀(l:List Ac) (g:Nat->Value) (i j:Nat),i<l.length->j<3->(Xq l g).getD (i*3+j) undef=[Value.string (l.getD i Ac.none).name,.int .i64 (l.getD i Ac.none).len,g i].getD j undef
 |[],g,i,j,hi,_=>by simp at hi
 |a::l,g,0,j,_,hj=>by
  rw[Xq,List.getD_eq_getElem?_getD,List.getElem?_append_left (by simp;omega)]
  simp[List.getD_eq_getElem?_getD]
 |a::l,g,i+1,j,hi,hj=>by
  rw[Xq,List.getD_eq_getElem?_getD,List.getElem?_append_right (by simp;omega)]
  have:=lX l (λi=>g (i+1)) i j (by simpa using hi) hj
  rw[List.getD_eq_getElem?_getD] at this
  rw[show (i+1)*3+j-[Value.string a.name,.int .i64 a.len,g 0].length=i*3+j by simp;omega,this]
  simp[List.getD_eq_getElem?_getD]
theorem aC {w:World} {D:Nat->Prop}:∀(l:List Ac) (g:Nat->Value),(∀i,i<l.length->Dd w D 6 (g i) (l.getD i Ac.none).moves.length (mvs (l.getD i Ac.none).moves))->To w D l (Xq l g)
 |[],_,_=>rfl
 |a::l,g,h=>⟨_,_,rfl,⟨g 0,rfl,by simpa using h 0 (by simp)⟩,aC l (λi=>g (i+1)) λi hi=>by simpa using h (i+1) (by simpa using hi)⟩
theorem wN {E:Bk} {l:List Ac} {v:Value} (h:VR E (Io l) v):∃cs,Dd E.w E.D 3 v l.length cs/\To E.w E.D l cs:=by
 unfold Io at h
 generalize hn:l.length=n at h ⊢
 cases h with
 |sl0=>
  have:l=[]:=List.eq_nil_of_length_eq_zero hn
  subst this
  exact⟨[],⟨rfl,.inl ⟨_,_,rfl,rfl⟩⟩,rfl⟩
 |sl _ _ _ _ b q c us hn0 hD hcell hr=>
  refine⟨Xq l λi=>us i 2,⟨by rw[Wq,hn],.inr ⟨b,q,c,rfl,hD,λk u hu=>?_⟩⟩,aC l _ λi hi=>?_⟩
  obtain⟨hk,he⟩:=List.getElem?_eq_some_iff.1 hu
  rw[Wq,hn] at hk
  obtain⟨d1,d2,d3⟩:=iM hk (by decide)
  have h1:=hcell _ _ d1 d2
  have h2:=hr _ _ d1 d2
  have h3:=lX l (λi=>us i 2) (k/3) (k%3) (by rw[hn];exact d1) d2
  rw[d3,List.getD_eq_getElem?_getD,hu] at h3
  rw[Nat.add_assoc,d3] at h1
  rw[h1]
  congr 1
  have h4:u=[Value.string (l.getD (k/3) Ac.none).name,.int .i64 (l.getD (k/3) Ac.none).len,us (k/3) 2].getD (k%3) undef:=h3
  rw[h4]
  generalize hj:k%3=j at h2 d2
  match j,d2 with
  |0,_=>exact h2.lit_inv
  |1,_=>exact h2.lit_inv
  |2,_=>rfl
  have h2:=hr i 2 (by omega) (by decide)
  exact Abm (E:=E.fz) h2
theorem uW {E:Bk} {p:Pr} {v:Value} (h:VR E (Gw p) v) (hD:∀b,E.D b->b<E.w.heap.size):∃vn vh va,v= .agg #[vn,vh,va]/\Iy E.w E.w.heap.size vn vh va p:=by
 have hrg:∀b,E.D b->rg 0 E.w.heap.size b:=λb hb=>⟨Nat.zero_le _,hD b hb⟩
 cases h with
 |agg _ _ vs hn hr=>
  have g:=VR.tops hr
  have hvs:vs=#[vs.getD 0 undef,vs.getD 1 undef,vs.getD 2 undef]:=by
   apply Array.ext
   simpa using hn
   intro i h1 h2
   have h3:i<3:=by simpa using h2
   match i,h3 with
   |0,_=>simp[Array.getD,h1]
   |1,_=>simp[Array.getD,h1]
   |2,_=>simp[Array.getD,h1]
  obtain⟨cs,k1,k2⟩:=wN (g 2)
  exact⟨_,_,_,congrArg _ hvs,⟨(rL (g 0)).more hrg,(zH (g 1)).more hrg,cs,k1.more hrg,k2.more hrg⟩⟩
structure Nq (p:Pr):Prop where
 names:∀s∈p.names,s.size<=maxLen
 anames:∀a∈p.acts,a.name.size<=maxLen
 acts:p.acts.length<=1000000
 moves:∀a∈p.acts,a.moves.length<=1000000
 lens:∀a∈p.acts,Cy a.len
theorem jL {vs:Array Value} (h:vs.size=1):vs=#[vs.getD 0 undef]:=by
 apply Array.ext
 simpa using h
 intro i h1 h2
 have:i=0:=by simp at h2;exact h2
 subst this
 simp[h1]
theorem Pe (p:Pr) (hp:Nq p):AF Tryz.prog 25 [Gw p] (.bool (Fb p)):=sW λE us hD hn hv=>by
 rw[jL hn]
 have h0:=hv 0 (by simp)
 obtain⟨vn,vh,va,e,h1⟩:=uW (E:=E.fz) (p:=p) h0 hD
 rw[e]
 refine(zF p vn vh va E.w h1 hp.names hp.anames hp.acts hp.moves).mono ?_
 rintro e w' ⟨rfl,hb⟩
 exact⟨_,rfl,hb,λ_ _ _ _=> .lit _ _⟩
abbrev Ql (l:List V3):AV:= .slc 3 l.length λi=>Gv (l.getD i V3.zero)
structure Cs where
 craft:Int
 act:Int
abbrev Kf (c:Cs):AV:= .lit (.agg #[.int .i64 c.craft,.int .i64 c.act])
def Uz (n:Nat) (p:Nat->Bool):Int:=match (List.range n).find? p with|some i=>(i:Int)|none=> -1
theorem AaL (n:Nat) (p:Nat->Bool) (h:∀q,q<n->p q=false):Uz n p= -1:=by
 have:(List.range n).find? p=none:=List.find?_eq_none.2 λq hq=>by simp[h q (List.mem_range.1 hq)]
 unfold Uz;rw[this]
theorem Ac9 (n:Nat) (p:Nat->Bool) (i:Nat) (hi:i<n) (h:∀q,q<i->p q=false) (h2:p i=true):Uz n p=(i:Int):=by
 have:(List.range n).find? p=some i:=List.find?_range_eq_some.2 ⟨h2,by simpa using hi,λj hj=>by simp[h j hj]⟩
 unfold Uz;rw[this]
theorem Aac (l:List V3) (n:Nat) (v:V3) (hn:n<=1000000):AF Tryz.prog 72 [.sl 3 n λi=>Gv (l.getD i V3.zero),Gv v] (.int (Uz n λi=>decide ((l.getD i V3.zero).x=v.x/\(l.getD i V3.zero).y=v.y/\(l.getD i V3.zero).z=v.z))):=by
 refine Cx func72 rfl λB D0 hA0=>?_
 refine Ae 15 ?_
 refine Qf [0,3,7,8] n (λi=>∀q,q<i->decide ((l.getD q V3.zero).x=v.x/\(l.getD q V3.zero).y=v.y/\(l.getD q V3.zero).z=v.z)=false) (λi=>⟨[(0,.sl 3 n (λi0=>Gv (l.getD i0 V3.zero))),(3,.ptr 0 0),(7,.int (n:Int)),(8,.int (i:Int))],[(0,.box 36 [.int v.x,.int v.y,.int v.z])],1,19⟩) (λq hq=>absurd hq (Nat.not_lt_zero q)) (λi hin hFi J1 hJ1=>?_)
 refine Ae 6 ?_
 refine Gu 9 ((i:Int)<(n:Int)) (λhx1 hx1d=>?_) (λhx1 hx1d=>?_)
 ·
  refine Ae 12 ?_
  refine Kg [(3,Fu (.sl 3 n (λi0=>Gv (l.getD i0 V3.zero))) i,.none),(5,.bool (decide (v.x=(l.getD i V3.zero).x/\v.y=(l.getD i V3.zero).y/\v.z=(l.getD i V3.zero).z)),.none)] [0,3,5,7,8,16] ⟨Pa i n,Av (Zb 36 36 (.tmp 11) (.tmp 15) (by kernel_rfl) _ _ (by kernel_rfl) (by kernel_rfl) (by kernel_rfl) (decide (v.x=(l.getD i V3.zero).x/\v.y=(l.getD i V3.zero).y/\v.z=(l.getD i V3.zero).z)) (iO _ _ _ _ _ _)),trivial⟩ ?_
  refine Ae 1 ?_
  refine Gu 16 (v.x=(l.getD i V3.zero).x/\v.y=(l.getD i V3.zero).y/\v.z=(l.getD i V3.zero).z) (λhx2 hx2d=>?_) (λhx2 hx2d=>?_)
  ·
   refine Ae 13 ?_
   exact Ha (.int (i:Int)) (congrArg AV.int (Ac9 n _ i (by omega) (λq hq=>hFi q hq) (by simp only[decide_eq_true_eq];omega)).symm)
  ·
   refine Ae 5 ?_
   refine Fw ((i:Int)+1) ((i+1:Nat):Int) ?_
   refine Ae 2 ?_
   exact Qm [0,3,7,8] (hJ1 (by omega) (λq hq=>(Nat.lt_or_ge q i).elim (λg=>hFi q g) λg=>by have e:q=i:=(by omega);subst e;simp only[decide_eq_false_iff_not];omega))
 ·
  refine Ae 12 ?_
  exact Ha (.int (-1)) (congrArg AV.int (AaL n _ λq hq=>hFi q (by omega)).symm)
def Cj (l:List Ac):Nat->Int
 |0=>0
 |k+1=>Cj l k+(l.getD k Ac.none).len
theorem bC {p:Pr} {k:Nat} {t:Int} {m:List Int}:∀{i:Nat} {l:List Int},Dz p k t m i=some l->∀j,j<i->Qj p k t j=0
 |0,_,_,j,hj=>absurd hj (Nat.not_lt_zero j)
 |i+1,l,h,j,hj=>by
  rw[Dz] at h
  cases h1:Dz p k t m i with
  |none=>rw[h1] at h;cases h
  |some l1=>
   rw[h1] at h
   simp only at h
   split at h
   rename_i hc
   rcases Nat.lt_or_ge j i with hji|hji
   exact bC h1 j hji
   have:j=i:=by omega
   subst this
   exact hc.1
   cases h
theorem cP {p:Pr}:∀{k:Nat} {t:Int} {m:List Int},Ke p k=some (t,m)->t=Cj p.acts k/\0<=t/\t<=3600000/\∀j,j<k->(0<=Cj p.acts j/\Cj p.acts j<=3600000)/\1<=(p.acts.getD j Ac.none).len/\(p.acts.getD j Ac.none).moves.length=p.names.length/\∀i,i<p.names.length->Qj p j (Cj p.acts j) i=0
 |0,t,m,h=>by
  simp only[Ke,Option.some.injEq,Prod.mk.injEq] at h
  obtain⟨rfl,_⟩:=h
  exact⟨rfl,Int.le_refl _,by decide,λj hj=>absurd hj (Nat.not_lt_zero j)⟩
 |k+1,t,m,h=>by
  rw[Ke] at h
  cases h1:Ke p k with
  |none=>rw[h1] at h;cases h
  |some tm=>
   obtain⟨t1,m1⟩:=tm
   rw[h1] at h
   simp only at h
   split at h
   rename_i hc
   cases h2:Dz p k t1 m1 p.names.length with
   |none=>rw[h2] at h;cases h
   |some m2=>
    rw[h2] at h
    simp only[Option.some.injEq,Prod.mk.injEq] at h
    obtain⟨rfl,rfl⟩:=h
    obtain⟨e1,e2,e3,e4⟩:=cP h1
    refine⟨by rw[Cj,e1],by omega,by omega,λj hj=>?_⟩
    rcases Nat.lt_or_ge j k with hjk|hjk
    exact e4 j hjk
    have:j=k:=by omega
    subst this
    rw[<-e1]
    exact⟨⟨e2,e3⟩,hc.2.1,hc.2.2.2,bC h2⟩
   cases h
structure Zx (p:Pr):Prop where
 n1:1<=p.names.length/\p.names.length<=64
 homes:p.homes.length=p.names.length
 acts:p.acts.length<=60
 ends:∀j,j<=p.acts.length->0<=Cj p.acts j/\Cj p.acts j<=3600000
 len:∀j,j<p.acts.length->1<=(p.acts.getD j Ac.none).len
 mv:∀j,j<p.acts.length->(p.acts.getD j Ac.none).moves.length=p.names.length
 pe:∀j i,j<p.acts.length->i<p.names.length->Qj p j (Cj p.acts j) i=0
theorem Kx {p:Pr} (h:Fb p=true):Zx p:=by
 unfold Fb at h
 simp only[Bool.and_eq_true,decide_eq_true_eq] at h
 obtain⟨⟨h1,h2⟩,h3⟩:=h
 unfold Qv at h1
 simp only[Bool.and_eq_true,decide_eq_true_eq] at h1
 obtain⟨tm,ht⟩:=Option.isSome_iff_exists.1 h3
 obtain⟨t,m⟩:=tm
 obtain⟨e1,e2,e3,e4⟩:=cP ht
 refine⟨⟨h1.1.1.1,h1.1.1.2⟩,h1.1.2,h2,λj hj=>?_,λj hj=>(e4 j hj).2.1,λj hj=>(e4 j hj).2.2.1,λj i hj hi=>(e4 j hj).2.2.2 i hi⟩
 rcases Nat.lt_or_ge j p.acts.length with hlt|hge
 exact(e4 j hlt).1
 have:j=p.acts.length:=by omega
 subst this
 rw[<-e1];exact⟨e2,e3⟩
theorem Zx.to {p:Pr} (h:Zx p) {j i:Nat} (hj:j<p.acts.length) (hi:i<p.names.length):Dy 1048576 [((p.acts.getD j Ac.none).moves.getD i Mv.none).to.x,((p.acts.getD j Ac.none).moves.getD i Mv.none).to.y,((p.acts.getD j Ac.none).moves.getD i Mv.none).to.z]=true:=by
 have:=h.pe j i hj hi
 unfold Qj sJ at this
 split at this
 rename_i hb
 unfold tpB pU at hb
 simp only[Bool.and_eq_true] at hb
 have h2:Sy ((p.acts.getD j Ac.none).moves.getD i Mv.none).to.x ((p.acts.getD j Ac.none).moves.getD i Mv.none).to.y ((p.acts.getD j Ac.none).moves.getD i Mv.none).to.z=true:=by
  revert hb
  simp only[and_imp]
  intros
  assumption
 exact h2
 cases this
theorem in3 {m x y z:Int} (h:Dy m [x,y,z]=true):(-m<=x/\x<=m)/\(-m<=y/\y<=m)/\(-m<=z/\z<=m):=by
 unfold Dy at h
 simpa using h
theorem getD_in {l:List Ac} (h:∀a∈l,Cy a.len) (i:Nat):Cy (l.getD i Ac.none).len:=by
 rw[List.getD_eq_getElem?_getD]
 cases hi:l[i]? with
 |none=>exact⟨by decide,by decide⟩
 |some a=>exact h a (List.mem_of_getElem? hi)
theorem mR (n:Nat) (p:Nat->Bool):0<=Uz n p↔∃q,q<n/\p q=true:=by
 unfold Uz
 cases h:(List.range n).find? p with
 |none=>
  have:=List.find?_eq_none.1 h
  constructor
  intro h;exact absurd h (by decide)
  rintro⟨q,hq,hp⟩
  exact absurd hp (this q (List.mem_range.2 hq))
 |some i=>
  have h1:=List.find?_some h
  have h2:=List.mem_of_find?_eq_some h
  exact⟨λ_=>⟨i,List.mem_range.1 h2,h1⟩,λ_=>Int.natCast_nonneg i⟩
theorem lG (l:List V3) (n:Nat) (v:V3) (hn:n<=1000000):AF Tryz.prog 34 [.sl 3 n λi=>Gv (l.getD i V3.zero),Gv v] (.bool (bP (∃q,q<n/\(l.getD q V3.zero).x=v.x/\(l.getD q V3.zero).y=v.y/\(l.getD q V3.zero).z=v.z))):=by
 have HQ:decide ((0:Int)<=Uz n λi=>decide ((l.getD i V3.zero).x=v.x/\(l.getD i V3.zero).y=v.y/\(l.getD i V3.zero).z=v.z))=bP (∃q,q<n/\(l.getD q V3.zero).x=v.x/\(l.getD q V3.zero).y=v.y/\(l.getD q V3.zero).z=v.z):=by
  by_cases h:∃q,q<n/\(l.getD q V3.zero).x=v.x/\(l.getD q V3.zero).y=v.y/\(l.getD q V3.zero).z=v.z
  ·
   rw[Eo h,decide_eq_true_eq,mR]
   obtain⟨q,hq,h⟩:=h
   exact⟨q,hq,by simpa using h⟩
  ·
   rw[Be h,decide_eq_false_iff_not,mR]
   rintro⟨q,hq,h2⟩
   exact h ⟨q,hq,by simpa using h2⟩
 refine Cx func34 rfl λB D0 hA0=>?_
 refine Ae 10 ?_
 refine Ds (Aac l n v hn) ?_
 refine Ae 5 ?_
 exact Ha (.bool (decide ((0:Int)<=Uz n (λi=>decide ((l.getD i V3.zero).x=v.x/\(l.getD i V3.zero).y=v.y/\(l.getD i V3.zero).z=v.z))))) (congrArg AV.bool HQ)
theorem AdQ (p:Pr) (hp:Nq p) (ho:Zx p) (k:Nat) (hk:k<p.acts.length):AF Tryz.prog 103 [Gw p,.int (k:Int)] (.int (Cj p.acts (k+1))):=by
 have hac:=ho.acts
 refine Cx func103 rfl λB D0 hA0=>?_
 refine Ae 15 ?_
 refine Fw ((k:Int)+1) ((k+1:Nat):Int) ?_
 refine Ae 4 ?_
 refine Qf [2,5,8,9] (k+1) (λi=>True) (λi=>⟨[(2,.ptr 0 0),(5,.int (Cj p.acts i)),(8,.int ((k+1:Nat):Int)),(9,.int (i:Int))],[(0,.box 31 [Hk p.names,Kc p.homes,Io p.acts])],1,22⟩) trivial (λi hin hFi J1 hJ1=>?_)
 refine Ae 6 ?_
 refine Gu 10 ((i:Int)<((k+1:Nat):Int)) (λhx1 hx1d=>?_) (λhx1 hx1d=>?_)
 ·
  refine Ae 11 ?_
  have he2:=ho.ends i (by omega)
  have hl:=getD_in hp.lens i
  refine Ae 5 ?_
  refine Gt i p.acts.length ?_
  refine Ae 2 ?_
  refine No (.int .i64 (IntKind.wrap .i64 (Cj p.acts i+(p.acts.getD i Ac.none).len))) (.int .i64 (Cj p.acts (i+1))) ?_ (congrArg (Value.int .i64) ((IntWalk.i64_in _ (by have he3:=ho.ends (i+1) (by omega);rw[Cj] at he3;omega)).trans rfl))
  refine Ae 5 ?_
  refine Fw ((i:Int)+1) ((i+1:Nat):Int) ?_
  refine Ae 2 ?_
  exact Qm [2,5,8,9] (hJ1 (by omega) trivial)
 ·
  refine Ae 13 ?_
  exact Ha (.int (Cj p.acts i)) (congrArg (λq=>AV.int (Cj p.acts q)) (show i=k+1 by omega))
def Ig (p:Pr) (c:Cs):Prop:=Fb p=true/\0<=c.craft/\c.craft<(p.names.length:Int)/\0<=c.act/\c.act<(p.acts.length:Int)
def Bo (p:Pr) (c:Cs):Int:=Cj p.acts (c.act.toNat+1)
structure Tq (c:Cs):Prop where
 craft:Cy c.craft
 act:Cy c.act
theorem Up (p:Pr) (c:Cs) (hp:Nq p) (hc:Tq c):AF Tryz.prog 73 [Gw p,Kf c] (.bool (bP (Ig p c))):=by
 have hac:=hp.acts
 refine Cx func73 rfl λB D0 hA0=>?_
 refine Ae 10 ?_
 refine Ds (Pe p hp) ?_
 refine Ae 1 ?_
 refine vS 7 (Fb p) (λhx1=>?_) (λhx1=>?_)
 ·
  refine Ae 5 ?_
  refine Gu 12 ((0:Int)<=c.craft) (λhx2 hx2d=>?_) (λhx2 hx2d=>?_)
  ·
   refine Ae 8 ?_
   refine Gu 20 (c.craft<(p.names.length:Int)) (λhx3 hx3d=>?_) (λhx3 hx3d=>?_)
   ·
    refine Ae 5 ?_
    refine Gu 25 ((0:Int)<=c.act) (λhx4 hx4d=>?_) (λhx4 hx4d=>?_)
    ·
     refine Ae 11 ?_
     exact Ha (.bool (decide (c.act<(p.acts.length:Int)))) (congrArg AV.bool (if hz:c.act<(p.acts.length:Int) then (decide_eq_true hz).trans (Eo ⟨by assumption,by omega,by omega,by omega,hz⟩).symm else (decide_eq_false hz).trans (Be (by rintro⟨g1,g2,g3,g4,g5⟩;omega)).symm))
    ·
     refine Ae 11 ?_
     exact Ha (.bool false) (congrArg AV.bool (Be (by rintro⟨g1,g2,g3,g4,g5⟩;first|omega|(simp_all;done))).symm)
   ·
    refine Ae 16 ?_
    exact Ha (.bool false) (congrArg AV.bool (Be (by rintro⟨g1,g2,g3,g4,g5⟩;first|omega|(simp_all;done))).symm)
  ·
   refine Ae 24 ?_
   exact Ha (.bool false) (congrArg AV.bool (Be (by rintro⟨g1,g2,g3,g4,g5⟩;first|omega|(simp_all;done))).symm)
 ·
  refine Ae 29 ?_
  exact Ha (.bool false) (congrArg AV.bool (Be (by rintro⟨g1,g2,g3,g4,g5⟩;first|omega|(simp_all;done))).symm)
theorem pW (p:Pr) (c:Cs) (hp:Nq p) (hc:Tq c) (h:Ig p c):AF Tryz.prog 75 [Gw p,Kf c] (.lit (.tuple #[.int .i64 (Bo p c),.int .i64 0])):=by
 have hv1:=h.2.1
 have hv2:=h.2.2.1
 have hv3:=h.2.2.2.1
 have hv4:=h.2.2.2.2
 have hmv:=(Kx h.1).mv c.act.toNat (by omega)
 refine Cx func75 rfl λB D0 hA0=>?_
 refine Ae 13 ?_
 refine Ds (Up p c hp hc) ?_
 refine Ae 3 ?_
 refine Lh 9 (!bP (Ig p c)) false (by rw[(Eo h)];rfl) ?_
 refine Ae 8 ?_
 refine Ds (by have:=AdQ p hp (Kx h.1) c.act.toNat (by have:=h.2.2.2.2;omega);rwa [show (c.act.toNat:Int)=c.act by have:=h.2.2.2.1;omega] at this) ?_
 refine Ae 5 ?_
 exact Hq
theorem dY (p:Pr) (hp:Nq p) (h:Fb p=true):AF Tryz.prog 51 [Gw p] (.lit (.tuple #[.int .i64 (Cj p.acts p.acts.length),.int .i64 0])):=by
 have ho:=Kx h
 have hac:=ho.acts
 refine Cx func51 rfl λB D0 hA0=>?_
 refine Ae 11 ?_
 refine Ds (Pe p hp) ?_
 refine Ae 3 ?_
 refine Lh 9 (!Fb p) false (by rw[h];rfl) ?_
 refine Ae 18 ?_
 refine Qf [4,11,12,13] p.acts.length (λi=>True) (λi=>⟨[(4,.int (Cj p.acts i)),(11,Io p.acts),(12,.int (p.acts.length:Int)),(13,.int (i:Int))],[(0,.box 31 [Hk p.names,Kc p.homes,Io p.acts])],1,23⟩) trivial (λi hin hFi J1 hJ1=>?_)
 refine Ae 6 ?_
 refine Gu 14 ((i:Int)<(p.acts.length:Int)) (λhx1 hx1d=>?_) (λhx1 hx1d=>?_)
 ·
  refine Ae 5 ?_
  have he2:=ho.ends i (by omega)
  have hl:=getD_in hp.lens i
  refine Ae 2 ?_
  refine Gt i p.acts.length ?_
  refine Ae 9 ?_
  refine No (.int .i64 (IntKind.wrap .i64 (Cj p.acts i+(p.acts.getD i Ac.none).len))) (.int .i64 (Cj p.acts (i+1))) ?_ (congrArg (Value.int .i64) ((IntWalk.i64_in _ (by have he3:=ho.ends (i+1) (by omega);rw[Cj] at he3;omega)).trans rfl))
  refine Ae 5 ?_
  refine Fw ((i:Int)+1) ((i+1:Nat):Int) ?_
  refine Ae 2 ?_
  exact Hl [4,11,12,13] [(0,0)] 1 0 hA0 [] trivial (hJ1 (by omega) trivial)
 ·
  refine Ae 14 ?_
  exact Ha (.lit (.tuple #[.int .i64 (Cj p.acts i),.int .i64 0])) (congrArg (λq=>AV.lit (.tuple #[.int .i64 (Cj p.acts q),.int .i64 0])) (show i=p.acts.length by omega))
structure Rv where
 homes:List V3
 flight:Int
 waits:List Int
 rises:List Int
structure Rl where
 spare:Int
 wait:Int
 rise:Int
def Rl.none:Rl:=⟨0,0,0⟩
abbrev Dq (l:List Int):AV:= .slc 1 l.length λi=> .int (l.getD i 0)
abbrev Ie (r:Rv):AV:= .agg [Ql r.homes,.int r.flight,Dq r.waits,Dq r.rises]
abbrev Cr (x:Rl):AV:= .lit (.agg #[.int .i64 x.spare,.int .i64 x.wait,.int .i64 x.rise])
abbrev Abz (l:List Rl):AV:= .sl 3 l.length λi=>Cr (l.getD i Rl.none)
structure dF (r:Rv):Prop where
 n:r.homes.length<=1000000
 w:r.waits.length<=1000000
 s:r.rises.length<=1000000
 fl:Cy r.flight
def Nr (l:List Int) (m:Int):Prop:=1<=l.length/\l.length<=16/\∀i,i<l.length->0<=l.getD i 0/\l.getD i 0<=m/\(0<i->l.getD (i-1) 0<l.getD i 0)
theorem Adj {l:List Int} {m:Int} (h1:1<=l.length) (h2:l.length<=16) (h3:0<=l.getD 0 0) (h4:l.getD (l.length-1) 0<=m) (h5:∀i,i<l.length-1->l.getD i 0<l.getD (1+i) 0):Nr l m:=by
 have lo:∀i,i<l.length->0<=l.getD i 0:=by
  intro i
  induction i with
  |zero=>intro _;exact h3
  |succ i ih=>intro hi;have:=ih (by omega);have:=h5 i (by omega);rw[Nat.add_comm 1 i] at this;omega
 have hi:∀j i,i+j=l.length-1->i<l.length->l.getD i 0<=m:=by
  intro j
  induction j with
  |zero=>intro i h _;rw[show i=l.length-1 by omega];exact h4
  |succ j ih=>intro i h h6;have:=ih (i+1) (by omega) (by omega);have:=h5 i (by omega);rw[Nat.add_comm 1 i] at this;omega
 exact⟨h1,h2,λi h6=>⟨lo i h6,hi (l.length-1-i) i (by omega) h6,λh7=>by
  have:=h5 (i-1) (by omega)
  rwa [show 1+(i-1)=i by omega] at this⟩⟩
def tm4 (x:Int):Int:=Int.tmod x 4
theorem Aax {a b:Prop} (h:a↔b):bP a=bP b:=by
 by_cases g:a
 rw[Eo g,Eo (h.1 g)]
 rw[Be g,Be λk=>g (h.2 k)]
def Pj (r:Rv):Prop:=(1<=r.homes.length/\r.homes.length<=8/\4<=r.flight/\r.flight<=3600000/\tm4 r.flight=0)/\(∀i,i<r.homes.length->Dy 1048576 [(r.homes.getD i V3.zero).x,(r.homes.getD i V3.zero).y,(r.homes.getD i V3.zero).z]=true/\∀j,j<i->¬((r.homes.getD j V3.zero).x=(r.homes.getD i V3.zero).x/\(r.homes.getD j V3.zero).y=(r.homes.getD i V3.zero).y/\(r.homes.getD j V3.zero).z=(r.homes.getD i V3.zero).z))/\Nr r.waits 3600000/\Nr r.rises 1048576
def Xk (l:List Ac) (a:Int):Nat->Nat->Nat
 |0,i=>i
 |k+1,i=>if a<=Cj l (i+1) then i else Xk l a k (i+1)
theorem vM {l:List Ac} {a:Int}:∀k i j,i<=j->j<=i+k->(∀q,i<=q->q<j->Cj l (q+1)<a)->(j=i+k\/a<=Cj l (j+1))->Xk l a k i=j
 |0,i,j,h1,h2,_,_=>by rw[Xk];omega
 |k+1,i,j,h1,h2,h3,h4=>by
  rw[Xk]
  by_cases h:i=j
  subst h
  rw[if_pos (by omega)]
  have:=h3 i (by omega) (by omega)
  rw[if_neg (by omega)]
  exact vM k (i+1) j (by omega) (by omega) (λq g1 g2=>h3 q (by omega) g2) (by omega)
theorem vO {l:List Ac} {a:Int}:∀k i,i<=Xk l a k i/\Xk l a k i<=i+k
 |0,i=>by rw[Xk];omega
 |k+1,i=>by
  have:=vO (l:=l) (a:=a) k (i+1)
  rw[Xk]
  split<;>omega
def Nx (p:Pr) (c:Cs) (a:Int):Nat:=Xk p.acts a (p.acts.length-(c.act.toNat+1)) (c.act.toNat+1)
theorem vP {p:Pr} {c:Cs} {a:Int} {j:Nat} (h1:c.act.toNat+1<=j) (h2:j<=p.acts.length) (h3:∀q,c.act.toNat+1<=q->q<j->Cj p.acts (q+1)<a) (h4:j=p.acts.length\/a<=Cj p.acts (j+1)):Nx p c a=j:=
 vM _ _ _ h1 (by omega) h3 (by omega)
def Ky (p:Pr) (r:Rv) (c:Cs) (w:Int):Int:=Bo p c+w+r.flight
def sH (p:Pr) (c:Cs) (i:Nat):V3:=((p.acts.getD i Ac.none).moves.getD c.craft.toNat Mv.none).to
def Ot (l:List Nat) (j:Nat):List Nat:=(l.set (j+1) (l.getD j 0)).set j (l.getD (j+1) 0)
theorem Ma (l:List Nat) (j:Nat):(Ot l j).length=l.length:=by simp[Ot]
theorem cF (l:List Nat) (j x:Nat) (h:j+1<l.length):(Ot l j).getD x 0=if x=j then l.getD (j+1) 0 else if x=j+1 then l.getD j 0 else l.getD x 0:=by
 unfold Ot
 simp only[List.getD_eq_getElem?_getD,List.getElem?_set,List.length_set]
 by_cases h1:x=j
 subst h1
 simp[show x<l.length by omega]
 by_cases h2:x=j+1
 subst h2
 simp[h,h1]
 rw[if_neg (λe=>h1 e.symm),if_neg (λe=>h2 e.symm),if_neg h1,if_neg h2]
def Vf (lt:Nat->Nat->Bool) (l:List Nat):Nat->List Nat
 |0=>l
 |j+1=>if lt (l.getD (j+1) 0) (l.getD j 0) then Vf lt (Ot l j) j else l
def Lr (lt:Nat->Nat->Bool) (l:List Nat):Nat->List Nat
 |0=>l
 |i+1=>Vf lt (Lr lt l i) (i+1)
theorem nG (lt:Nat->Nat->Bool):∀j l,(Vf lt l j).length=l.length
 |0,_=>rfl
 |j+1,l=>by
  rw[Vf]
  split
  rw[nG lt j,Ma]
  rfl
theorem nH (lt:Nat->Nat->Bool) {n:Nat}:∀j l,j<l.length->(∀x,x<l.length->l.getD x 0<n)->∀x,x<l.length->(Vf lt l j).getD x 0<n
 |0,_,_,h=>h
 |j+1,l,hj,h=>by
  rw[Vf]
  split
  have:=nH lt j (Ot l j) (by rw[Ma];omega) (n:=n) (λx hx=>by
   rw[Ma] at hx
   rw[cF _ _ _ hj]
   split
   exact h _ hj
   split
   exact h _ (by omega)
   exact h x hx)
  rwa [Ma] at this
  exact h
theorem Oo (lt:Nat->Nat->Bool) (l:List Nat):∀i,(Lr lt l i).length=l.length
 |0=>rfl
 |i+1=>by rw[Lr,nG,Oo lt l i]
theorem cD (lt:Nat->Nat->Bool) {n:Nat} (l:List Nat) (h:∀x,x<l.length->l.getD x 0<n):∀i,i<l.length->∀x,x<l.length->(Lr lt l i).getD x 0<n
 |0,_=>h
 |i+1,hi=>by
  have:=nH lt (n:=n) (i+1) (Lr lt l i) (by rw[Oo];exact hi) (λx hx=>by
   rw[Oo] at hx
   exact cD lt l h i (by omega) x hx)
  rw[Oo] at this
  rw[Lr];exact this
def Sw (r:Rv) (v:V3) (i:Nat):Int:=((r.homes.getD i V3.zero).x-v.x)*((r.homes.getD i V3.zero).x-v.x)+((r.homes.getD i V3.zero).y-v.y)*((r.homes.getD i V3.zero).y-v.y)+((r.homes.getD i V3.zero).z-v.z)*((r.homes.getD i V3.zero).z-v.z)
def cY (r:Rv) (v:V3) (a b:Nat):Bool:=decide (Sw r v a<Sw r v b\/(Sw r v a=Sw r v b/\a<b))
def Eb (r:Rv) (v:V3):List Nat:=Lr (cY r v) (List.range r.homes.length) (r.homes.length-1)
theorem Wa {n x:Nat} (h:x<n):(List.range n).getD x 0=x:=by
 rw[List.getD_eq_getElem?_getD,List.getElem?_range h];rfl
theorem Vt (r:Rv) (v:V3) {x:Nat} (h:x<r.homes.length):(Eb r v).getD x 0<r.homes.length:=by
 have:=cD (cY r v) (n:=r.homes.length) (List.range r.homes.length) (λx hx=>by
  rw[List.length_range] at hx
  rw[Wa hx];exact hx) (r.homes.length-1) (by rw[List.length_range];omega) x (by rw[List.length_range];exact h)
 exact this
def Ka (v:V3) (w:Int):Bool:=Dy 1048576 [v.x,v.y,v.z+w]
def dN (r:Rv) (w:Int) (v:V3) (i:Nat):Nat->List Rl
 |0=>[]
 |q+1=>dN r w v i q++if Ka (r.homes.getD i V3.zero) (r.rises.getD q 0)&&Ka v (r.rises.getD q 0) then [⟨(i:Int),w,r.rises.getD q 0⟩] else []
def kE (r:Rv) (w:Int) (v:V3) (o:List Nat):Nat->List Rl
 |0=>[]
 |m+1=>kE r w v o m++dN r w v (o.getD m 0) r.rises.length
def Bj (p:Pr) (r:Rv) (c:Cs) (k:Nat):V3:=sH p c (Nx p c (Ky p r c (r.waits.getD k 0)))
def kD (p:Pr) (r:Rv) (c:Cs) (k:Nat):Bool:=decide (Nx p c (Ky p r c (r.waits.getD k 0))<p.acts.length)
def Jb (p:Pr) (r:Rv) (c:Cs):Nat->List Rl
 |0=>[]
 |k+1=>Jb p r c k++if kD p r c k then kE r (r.waits.getD k 0) (Bj p r c k) (Eb r (Bj p r c k)) r.homes.length else []
def Ok (p:Pr) (r:Rv) (c:Cs):List Rl:=Jb p r c r.waits.length
def Oj (p:Pr) (r:Rv) (c:Cs) (k m:Nat):List Rl:=Jb p r c k++kE r (r.waits.getD k 0) (Bj p r c k) (Eb r (Bj p r c k)) m
def Ev (p:Pr) (r:Rv) (c:Cs) (k m u:Nat):List Rl:=Oj p r c k m++dN r (r.waits.getD k 0) (Bj p r c k) ((Eb r (Bj p r c k)).getD m 0) u
theorem rT (p:Pr) (r:Rv) (c:Cs) (k:Nat):Oj p r c k 0=Jb p r c k:=List.append_nil _
theorem bV (p:Pr) (r:Rv) (c:Cs) (k m:Nat):Ev p r c k m 0=Oj p r c k m:=List.append_nil _
theorem Ue (p:Pr) (r:Rv) (c:Cs) (k m:Nat):Ev p r c k m r.rises.length=Oj p r c k (m+1):=by rw[Ev,Oj,Oj,kE,List.append_assoc]
theorem bW {p:Pr} {r:Rv} {c:Cs} {k:Nat} (h:kD p r c k=true):Oj p r c k r.homes.length=Jb p r c (k+1):=by rw[Oj,Jb,if_pos h]
theorem kF {p:Pr} {r:Rv} {c:Cs} {k:Nat} (h:kD p r c k=false):Jb p r c (k+1)=Jb p r c k:=by rw[Jb,if_neg (by rw[h];decide),List.append_nil]
theorem Hy {p:Pr} {r:Rv} {c:Cs} {k m u:Nat} (h:Ka (r.homes.getD ((Eb r (Bj p r c k)).getD m 0) V3.zero) (r.rises.getD u 0)=true) (g:Ka (Bj p r c k) (r.rises.getD u 0)=true):Ev p r c k m (u+1)=Ev p r c k m u++[⟨(((Eb r (Bj p r c k)).getD m 0:Nat):Int),r.waits.getD k 0,r.rises.getD u 0⟩]:=by
 rw[Ev,Ev,dN,h,g,Bool.and_self,if_pos rfl,List.append_assoc]
theorem Ex {p:Pr} {r:Rv} {c:Cs} {k m u:Nat} (h:Ka (r.homes.getD ((Eb r (Bj p r c k)).getD m 0) V3.zero) (r.rises.getD u 0)=false\/Ka (Bj p r c k) (r.rises.getD u 0)=false):Ev p r c k m (u+1)=Ev p r c k m u:=by
 rw[Ev,Ev,dN,if_neg (by rcases h with h|h<;>rw[h]<;>simp only[Bool.and_false,Bool.false_and]<;>exact Bool.false_ne_true),List.append_nil]
theorem Aeo {s:Sg} {a d:Int} (ho:s.o≠0) (hd:d≠0):plG s a d≠0:=by
 have h0:(fO s d).natAbs≠0:=by
  unfold fO
  rw[Int.natAbs_mul,Int.natAbs_pow]
  have h1:0<s.o.natAbs:=by omega
  have h2:0<d.natAbs^5:=Nat.pow_pos (by omega)
  exact Nat.ne_of_gt (Nat.mul_pos h1 h2)
 have g:∀x y:Int,x.natAbs≠0->(Nat.gcd x.natAbs y.natAbs:Int).natAbs≠0:=λx y hx=>by
  rw[Int.natAbs_natCast]
  exact Nat.ne_of_gt (Nat.gcd_pos_of_pos_left _ (by omega))
 have h:=g _ (plZ s a d) (g _ (plY s a d) (g _ (yD s a d) h0))
 unfold plG
 omega
theorem Zs (s:Sg) (a d:Int) (hs:Tr s) (ho:Gm s) (ha:Cy a) (hd:Cy d) (h0:d≠0):AF Tryz.prog 67 [Bn s,.int a,.int d] (jU (Hx s a d)):=
 Aae s a d hs ho.2.1.2.1 ho.2.2.1.2.1 ho.2.2.2.1.2.1 ha hd (Aeo (by have:=ho.1.2.2.2.1;omega) h0)
def Oa (s u:Sg):Prop:=s.t=u.f/\Hx s 1 1=Hx u 0 1
instance (s u:Sg):Decidable (Oa s u):=by unfold Oa;infer_instance
def Fj (l:List Sg):Prop:=(∀i,i<l.length->Gm (l.getD i Sg.none)/\(0<i->Oa (l.getD (i-1) Sg.none) (l.getD i Sg.none)))/\1<=l.length/\l.length<=256
instance (l:List Sg):Decidable (Fj l):=by unfold Fj;infer_instance
def Dh (l:List Sg):Prop:=l.length<=1000000/\∀i,Tr (l.getD i Sg.none)
theorem Pp:Cy 0:=⟨by decide,by decide⟩
theorem jE:Cy 1:=⟨by decide,by decide⟩
theorem lJ (s u:Sg) (hs:Tr s) (hu:Tr u) (ho:Gm s) (hp:Gm u):AF Tryz.prog 93 [Bn s,Bn u] (.bool (bP (Oa s u))):=by
 refine Cx func93 rfl λB D0 hA0=>?_
 refine Ae 8 ?_
 refine zL (s.t=u.f) (λhx1 hx1d=>?_) (λhx1 hx1d=>?_)
 ·
  refine Kg [(4,.bool true,.none),(7,_,.none),(9,_,.none),(10,.bool (decide (Hx s 1 1=Hx u 0 1)),.none)] [4] ⟨kT hx1,Hj (Zs s 1 1 hs ho jE jE (by decide)),Hj (Zs u 0 1 hu hp Pp jE (by decide)),Av (Zb 72 72 (.tmp 12) (.tmp 14) (by kernel_rfl) _ _ (by kernel_rfl) (by kernel_rfl) (by kernel_rfl) (decide (Hx s 1 1=Hx u 0 1)) (Ac7 (Hx s 1 1) (Hx u 0 1))),trivial⟩ ?_
  refine Ae 2 ?_
  exact Ha (.bool (decide (Hx s 1 1=Hx u 0 1))) (congrArg AV.bool (if hz:Hx s 1 1=Hx u 0 1 then (decide_eq_true hz).trans (Eo ⟨by assumption,hz⟩).symm else (decide_eq_false hz).trans (Be (λg=>hz g.2)).symm))
 ·
  refine Kg [(4,.bool false,.none)] [4] ⟨kT hx1,trivial⟩ ?_
  refine Ae 2 ?_
  exact Ha (.bool false) (congrArg AV.bool (Be (λg=>absurd g.1 (by assumption))).symm)
theorem Pf (l:List Sg) (hl:Dh l):AF Tryz.prog 64 [Ai l] (.bool (bP (Fj l))):=by
 have hln:=hl.1
 refine Cx func64 rfl λB D0 hA0=>?_
 refine Ae 14 ?_
 refine Qf [0,5,6,7] l.length (λi=>∀q,q<i->Gm (l.getD q Sg.none)/\(0<q->Oa (l.getD (q-1) Sg.none) (l.getD q Sg.none))) (λi=>⟨[(0,Ai l),(5,Ai l),(6,.int ((l).length:Int)),(7,.int (i:Int))],[],0,38⟩) (λq hq=>absurd hq (Nat.not_lt_zero q)) (λi hin hFi J1 hJ1=>?_)
 refine Ae 6 ?_
 refine Gu 8 ((i:Int)<((l).length:Int)) (λhx1 hx1d=>?_) (λhx1 hx1d=>?_)
 ·
  refine Ae 8 ?_
  refine Gt i ((l).length) ?_
  refine Ae 7 ?_
  refine zL (Gm (l.getD i Sg.none)) (λhx2 hx2d=>?_) (λhx2 hx2d=>?_)
  ·
   refine zL ((0:Int)<(i:Int)) (λhx3 hx3d=>?_) (λhx3 hx3d=>?_)
   ·
    refine Kg [(1,.bool true,.none),(5,.bool true,.none),(9,.int ((i-1:Nat):Int),.none),(10,Fu (Ai l) (i-1),.none),(13,_,.none)] [0,5,6,7,28] ⟨kbC hx2 (Hj (Qp (l.getD i Sg.none) (hl.2 i))),kT hx3,Av (Cq (v:= .int .i64 (IntKind.wrap .i64 ((i:Int)-1))) (v':= .int .i64 ((i-1:Nat):Int)) _ (by kernel_rfl) rfl (by kernel_rfl) (λw=>by kernel_rfl) (congrArg (Value.int .i64) ((IntWalk.i64_in _ (by omega)).trans (by omega)))),Pa (i-1) ((l).length),Hj (lJ _ _ (hl.2 (i-1)) (hl.2 i) (hFi (i-1) (by omega)).1 (of_decide_eq_true (by assumption))),trivial⟩ ?_
    refine Ae 1 ?_
    refine pK 28 (bP (Oa (l.getD (i-1) Sg.none) (l.getD i Sg.none))) (λhx4=>?_) (λhx4=>?_)
    ·
     refine Ae 5 ?_
     refine Fw ((i:Int)+1) ((i+1:Nat):Int) ?_
     refine Ae 2 ?_
     exact Hl [0,5,6,7] [] 0 0 hA0 [] trivial (hJ1 (by omega) (λq hq=>(Nat.lt_or_ge q i).elim (λg=>hFi q g) λg=>by have e:q=i:=(by omega);subst e;exact⟨of_decide_eq_true hx2,λ_=>My hx4⟩))
    ·
     refine Ae 12 ?_
     exact Ha (.bool false) (congrArg AV.bool (Be (by rintro⟨g1,g2,g3⟩;first|omega|exact aH hx4 ((g1 i (by omega)).2 (by omega))|exact absurd (g1 i (by omega)).1 (of_decide_eq_false hx2))).symm)
   ·
    refine Kg [(1,.bool true,.none),(5,.bool false,.none)] [0,5,6,7,28] ⟨kbC hx2 (Hj (Qp (l.getD i Sg.none) (hl.2 i))),kT hx3,trivial⟩ ?_
    refine Ae 6 ?_
    refine Fw ((i:Int)+1) ((i+1:Nat):Int) ?_
    refine Ae 2 ?_
    exact Hl [0,5,6,7] [] 0 0 hA0 [] trivial (hJ1 (by omega) (λq hq=>(Nat.lt_or_ge q i).elim (λg=>hFi q g) λg=>by have e:q=i:=(by omega);subst e;exact⟨of_decide_eq_true hx2,λhz=>absurd hz (by omega)⟩))
  ·
   refine Kg [(1,.bool false,.none)] [0,5,6,7,28] ⟨kbC hx2 (Hj (Qp (l.getD i Sg.none) (hl.2 i))),trivial⟩ ?_
   refine Ae 13 ?_
   exact Ha (.bool false) (congrArg AV.bool (Be (by rintro⟨g1,g2,g3⟩;first|omega|exact absurd (g1 i (by omega)).1 (of_decide_eq_false hx2))).symm)
 ·
  refine Ae 12 ?_
  refine Gu 33 ((1:Int)<=((l).length:Int)) (λhx5 hx5d=>?_) (λhx5 hx5d=>?_)
  ·
   refine Ae 8 ?_
   exact Ha (.bool (decide (((l).length:Int)<=256))) (congrArg AV.bool (if hz:l.length<=256 then (decide_eq_true (by omega)).trans (Eo ⟨λq hq=>hFi q (by omega),by omega,by omega⟩).symm else (decide_eq_false (by omega)).trans (Be (λg=>hz g.2.2)).symm))
  ·
   refine Ae 8 ?_
   exact Ha (.bool false) (congrArg AV.bool (Be (by rintro⟨g1,g2,g3⟩;first|omega)).symm)
theorem iH (l:List Int) (v:Value) (w:World) (h:Cc w 0 w.heap.size 1 v l.length (Db l)) (hl:0<l.length) (hm:l.length<=1000000):
  Calls Tryz.prog 142 #[v] w λe w'=>∃v',e= .returned v'/\Cc w' w.heap.size w'.heap.size 1 v' l.length (Db l)/\Below w.heap.size w w':=by
 obtain⟨i0,hi0,hz0,hz1,hz2⟩:=info_parts aX
 obtain⟨b,o,c,rfl,_,hb,hc⟩:=h.pos hl
 have hnil:=λW=>Lib.run_eql_slice_nil (P:=Tryz.prog) W 23 3 (some ⟨b,o,none⟩) l.length c 0 0 underlying23
 clear hc
 go_enter func142,ntmps142
 have hown:=Vu w [] 0 w.heap.size 1 3 rfl rfl (by decide)
 have hs1:=h.up ((Below.refl w.heap.size w).alloc (Nat.le_refl _) (.cells #[] 3))
 go_wp2_with (at_builtin;refine En rfl (.tmp 5) (.tmp 6) 23 rfl w.heap.size 3 i0 _ 1 8 underlying23 hi0 hz0 hz1 hz2 rfl (by decide) _ _ _ rfl hown _ _ _ _ rfl hs1 (aY l) ?_ ?_ ?_ ?_)
 · unfold maxLen;omega
 · omega
 · simp
 intro v' w1 hown1 hg1 hat1
 go_wp2
 go_ret
 refine⟨_,rfl,Cc.own hown1,((Below.refl _ _).alloc (Nat.le_refl _) _).grown hg1 (by simp) ?_⟩
 rintro j hj
 simp[Value.ownBlock] at hj
 omega
theorem Ee (l:List Int) (hl:0<l.length) (hm:l.length<=1000000):AF Tryz.prog 142 [Ao l] (Ao l):=sW λE us hD hn hv=>by
 rw[jL hn]
 have h0:=hv 0 (by simp)
 have h1:Dd E.w E.D 1 (us.getD 0 undef) l.length (Db l):=Adt (E:=E.fz) h0
 refine(iH l _ E.w (h1.more λb hb=>⟨Nat.zero_le _,hD b hb⟩) hl hm).mono ?_
 rintro e w' ⟨v',rfl,hs,hb⟩
 exact⟨_,rfl,hb,λE' h1 h2 h3=>Ys hs h1 λb hb=>h3 b hb.1 hb.2⟩
def tB (l:List Sg):Prop:=∀i,i<l.length->(0<(l.getD i Sg.none).x.length/\(l.getD i Sg.none).x.length<=6)/\(0<(l.getD i Sg.none).y.length/\(l.getD i Sg.none).y.length<=6)/\(0<(l.getD i Sg.none).z.length/\(l.getD i Sg.none).z.length<=6)
theorem Ach (l:List Sg) (hn:l.length<=1000000) (hl:0<l.length) (hc:tB l):AF Tryz.prog 117 [Ai l] (Ai l):=by
 refine Cx func117 rfl λB D0 hA0=>?_
 refine Ae 19 ?_
 refine kU [3,6,7,8] (λm s=>∃i,i<=l.length/\m=l.length-i/\True/\((i=0/\s=⟨[(3,.lit (.slice none 0 0)),(6,Ai l),(7,.int ((l).length:Int)),(8,.int ((0:Nat):Int))],[],0,30⟩)\/(0<i/\s=⟨[(3,.osl 9 6 i),(6,Ai l),(7,.int ((l).length:Int)),(8,.int (i:Int))],[(9,.vec 81 6 i (λxi=>Bn (l.getD xi Sg.none)))],10,30⟩))) l.length ⟨0,Nat.zero_le _,rfl,trivial,.inl ⟨rfl,(by kernel_rfl)⟩⟩ ?_
 rintro _ _ ⟨i,hin,rfl,hFi,(⟨hi0,rfl⟩|⟨hi0,rfl⟩)⟩ J1 hJ1
 ·
  subst hi0
  refine Ae 6 ?_
  refine Gu 9 (((0:Nat):Int)<((l).length:Int)) (λhx1 hx1d=>?_) (λhx1 hx1d=>?_)
  ·
   refine Ae 7 ?_
   refine Gt 0 ((l).length) ?_
   refine Ae 6 ?_
   refine Kg [(2,_,.none),(5,_,.none),(8,_,.none)] [3,5,6,7,8] ⟨Hj (Ee _ (hc 0 (by omega)).1.1 (by have:=(hc 0 (by omega)).1.2;omega)),Hj (Ee _ (hc 0 (by omega)).2.1.1 (by have:=(hc 0 (by omega)).2.1.2;omega)),Hj (Ee _ (hc 0 (by omega)).2.2.1 (by have:=(hc 0 (by omega)).2.2.2;omega)),trivial⟩ ?_
   refine Ae 4 ?_
   refine Ci (.osl 1 6 1) (.new 1 (.vec 81 6 1 (λ_=>Bn ((l).getD 0 Sg.none)))) (Ak 54 1 #[(0,(.tmp 25))] (by kernel_rfl) underlying54 6 sizeOf81 _ zeroValue81 (by kernel_rfl) (Nat.le_of_ble_eq_true (by kernel_rfl)) (Nat.le_of_ble_eq_true (by kernel_rfl)) (Nat.le_of_ble_eq_true (by kernel_rfl)) 1 [.int (((l).getD 0 Sg.none).f),.int (((l).getD 0 Sg.none).t),.int (((l).getD 0 Sg.none).o),Ao (((l).getD 0 Sg.none).x),Ao (((l).getD 0 Sg.none).y),Ao (((l).getD 0 Sg.none).z)] (by kernel_rfl) (λ_=>Bn ((l).getD 0 Sg.none)) (by kernel_rfl)) ?_
   refine Ci (.osl 2 6 1) (.newr 1 2 (.vec 81 6 1 (λxi=>Bn (l.getD xi Sg.none)))) (Cp (.tmp 24) (.tmp 26) 54 (by kernel_rfl) underlying54 6 96 (.agg #[.int .i64 0,.int .i64 0,.int .i64 0,.slice none 0 0,.slice none 0 0,.slice none 0 0]) (by kernel_rfl) (by kernel_rfl) (by decide) 1 (by omega) (λ_=>Bn ((l).getD 0 Sg.none)) (λxi=>Bn (l.getD xi Sg.none)) 2 (λi hi=>by(obtain rfl:i=0:=(by omega));rfl) (λi hi j hj=>match j,hj with|0,_=>rfl|1,_=>rfl|2,_=>rfl|3,_=>rfl|4,_=>rfl|5,_=>rfl|_+6,h=>absurd h (by omega)) (by unfold maxLen;omega) (by omega) (by kernel_rfl) 1 81 (by kernel_rfl) (by kernel_rfl)) ?_
   refine Ae 5 ?_
   refine Fw (((0:Nat):Int)+1) ((0+1:Nat):Int) ?_
   refine Ae 2 ?_
   exact Hl [3,6,7,8] [(2,9)] 10 0 hA0 [(81,6,1,(λ_=>Bn ((l).getD 0 Sg.none))),(81,6,1,(λxi=>Bn (l.getD xi Sg.none)))] ⟨(Hf λ_ _=>rfl),(Hf λ_ _=>rfl),trivial⟩ (hJ1 _ _ (by omega:l.length-(0+1)<l.length-0) ⟨0+1,(by omega),rfl,trivial,.inr ⟨Nat.succ_pos _,rfl⟩⟩)
  ·
   refine Ae 13 ?_
   exact Ha (.lit (.slice none 0 0)) (by exfalso;omega)
 ·
  refine Ae 6 ?_
  refine Gu 9 ((i:Int)<((l).length:Int)) (λhx2 hx2d=>?_) (λhx2 hx2d=>?_)
  ·
   refine Ae 7 ?_
   refine Gt i ((l).length) ?_
   refine Ae 6 ?_
   refine Kg [(2,_,.none),(5,_,.none),(8,_,.none)] [3,5,6,7,8] ⟨Hj (Ee _ (hc i (by omega)).1.1 (by have:=(hc i (by omega)).1.2;omega)),Hj (Ee _ (hc i (by omega)).2.1.1 (by have:=(hc i (by omega)).2.1.2;omega)),Hj (Ee _ (hc i (by omega)).2.2.1 (by have:=(hc i (by omega)).2.2.2;omega)),trivial⟩ ?_
   refine Ae 4 ?_
   refine Ci (.osl 11 6 1) (.new 11 (.vec 81 6 1 (λ_=>Bn ((l).getD i Sg.none)))) (Ak 54 1 #[(0,(.tmp 25))] (by kernel_rfl) underlying54 6 sizeOf81 _ zeroValue81 (by kernel_rfl) (Nat.le_of_ble_eq_true (by kernel_rfl)) (Nat.le_of_ble_eq_true (by kernel_rfl)) (Nat.le_of_ble_eq_true (by kernel_rfl)) 11 [.int (((l).getD i Sg.none).f),.int (((l).getD i Sg.none).t),.int (((l).getD i Sg.none).o),Ao (((l).getD i Sg.none).x),Ao (((l).getD i Sg.none).y),Ao (((l).getD i Sg.none).z)] (by kernel_rfl) (λ_=>Bn ((l).getD i Sg.none)) (by kernel_rfl)) ?_
   refine Ci (.osl 12 6 (i+1)) (.grow2 9 11 12 (.vec 81 6 (i+1) (λxi=>Bn (l.getD xi Sg.none)))) (Cz (.tmp 24) (.tmp 26) 54 (by kernel_rfl) underlying54 6 96 (.agg #[.int .i64 0,.int .i64 0,.int .i64 0,.slice none 0 0,.slice none 0 0,.slice none 0 0]) (by kernel_rfl) (by kernel_rfl) (by decide) i 1 (by omega) (λxi=>Bn (l.getD xi Sg.none)) (λ_=>Bn ((l).getD i Sg.none)) (λxi=>Bn (l.getD xi Sg.none)) 12 (by omega) (by unfold maxLen;omega) (λi hi=>rfl) (λi hi=>by(obtain rfl:i=0:=(by omega));rfl) (λi hi j hj=>match j,hj with|0,_=>rfl|1,_=>rfl|2,_=>rfl|3,_=>rfl|4,_=>rfl|5,_=>rfl|_+6,h=>absurd h (by omega)) 9 (by kernel_rfl) (by kernel_rfl) 11 81 (by kernel_rfl) (by kernel_rfl)) ?_
   refine Ae 5 ?_
   refine Fw ((i:Int)+1) ((i+1:Nat):Int) ?_
   refine Ae 2 ?_
   exact Hl [3,6,7,8] [(12,9)] 10 0 hA0 [(81,6,1,(λ_=>Bn ((l).getD i Sg.none))),(81,6,i+1,(λxi=>Bn (l.getD xi Sg.none)))] ⟨(Hf λ_ _=>rfl),(Hf λ_ _=>rfl),trivial⟩ (hJ1 _ _ (by omega:l.length-(i+1)<l.length-i) ⟨i+1,(by omega),rfl,trivial,.inr ⟨Nat.succ_pos _,rfl⟩⟩)
  ·
   refine Ae 12 ?_
   refine cR 9 [2] 81 6 i (λxi=>Bn (l.getD xi Sg.none)) (Hf λ_ _=>rfl) ?_
   refine Ae 1 ?_
   exact Ha (.sl 6 i (λxi=>Bn (l.getD xi Sg.none))) (congrArg (λq=>AV.sl 6 q λxi=>Bn (l.getD xi Sg.none)) (show i=l.length by omega))
theorem Vx {l:List Sg} (h:Fj l):tB l:=λi hi=>by
 have h1:=(h.1 i hi).1
 exact⟨⟨h1.2.1.1,h1.2.1.2.1⟩,⟨h1.2.2.1.1,h1.2.2.1.2.1⟩,⟨h1.2.2.2.1.1,h1.2.2.2.1.2.1⟩⟩
theorem Kt {l r:List Sg} (i:Nat):(l++r).getD i Sg.none=if i<l.length then l.getD i Sg.none else r.getD (i-l.length) Sg.none:=by
 simp only[List.getD_eq_getElem?_getD,List.getElem?_append]
 split<;>rfl
noncomputable def Nt (a b:List Sg):List Sg×Int:=
 if bP (Fj a)=false\/bP (Fj b)=false then ([],2) else if bP (Oa (a.getD (a.length-1) Sg.none) (b.getD 0 Sg.none))=false then ([],10) else if 256<a.length+b.length then ([],7) else (a++b,0)
theorem tI {a b:List Sg} (h:bP (Fj a)=false\/bP (Fj b)=false):Nt a b=([],2):=by unfold Nt;rw[if_pos h]
theorem wO {a b:List Sg} (h1:bP (Fj a)=true) (h2:bP (Fj b)=true) (h:bP (Oa (a.getD (a.length-1) Sg.none) (b.getD 0 Sg.none))=false):Nt a b=([],10):=by unfold Nt;rw[if_neg (by simp[h1,h2]),if_pos h]
theorem Aas {a b:List Sg} (h1:bP (Fj a)=true) (h2:bP (Fj b)=true) (h:bP (Oa (a.getD (a.length-1) Sg.none) (b.getD 0 Sg.none))=true) (h3:256<a.length+b.length):Nt a b=([],7):=by unfold Nt;rw[if_neg (by simp[h1,h2]),if_neg (λg=>by rw[h] at g;cases g),if_pos h3]
theorem Aat {a b:List Sg} (h1:bP (Fj a)=true) (h2:bP (Fj b)=true) (h:bP (Oa (a.getD (a.length-1) Sg.none) (b.getD 0 Sg.none))=true) (h3:¬256<a.length+b.length):Nt a b=(a++b,0):=by unfold Nt;rw[if_neg (by simp[h1,h2]),if_neg (λg=>by rw[h] at g;cases g),if_neg h3]
def kG (r:List Sg×Int):AV:=if r.2=0 then .tup [Ai r.1,.int 0] else .lit (.tuple #[.slice none 0 0,.int .i64 r.2])
theorem Ol {r:List Sg×Int} {e:Int} {l:List Sg} (h:r=(l,e)) (he:e≠0):kG r= .lit (.tuple #[.slice none 0 0,.int .i64 e]):=by
 subst h;unfold kG;rw[if_neg he]
theorem vB {r:List Sg×Int} {l:List Sg} (h:r=(l,0)):kG r= .tup [Ai l,.int 0]:=by
 subst h;unfold kG;rw[if_pos rfl]
theorem vW (a b:List Sg) (ha:Dh a) (hb:Dh b):AF Tryz.prog 88 [Ai a,Ai b] (kG (Nt a b)):=by
 have han:=ha.1
 have hbn:=hb.1
 refine Cx func88 rfl λB D0 hA0=>?_
 refine Ae 11 ?_
 refine Ds (Pf a ha) ?_
 refine Ae 2 ?_
 refine pK 10 (bP (Fj a)) (λhx1=>?_) (λhx1=>?_)
 ·
  have hx1l:=(My hx1).2
  have hac:=Vx (My hx1)
  refine Ae 1 ?_
  refine Ds (Pf b hb) ?_
  refine Ae 5 ?_
  refine pK 6 (bP (Fj b)) (λhx2=>?_) (λhx2=>?_)
  ·
   have hx2l:=(My hx2).2
   refine Ae 2 ?_
   refine Kg [(3,.int (((a).length-1:Nat):Int),.none),(4,Fu (Ai a) ((a).length-1),.none),(7,Fu (Ai b) 0,.none),(9,_,.none)] [0,1,15] ⟨Av (Cq (v:= .int .i64 (IntKind.wrap .i64 (((a).length:Int)-1))) (v':= .int .i64 (((a).length-1:Nat):Int)) _ (by kernel_rfl) rfl (by kernel_rfl) (λw=>by kernel_rfl) (congrArg (Value.int .i64) ((IntWalk.i64_in _ (by omega)).trans (by omega)))),Pa ((a).length-1) ((a).length),Pa 0 ((b).length),Hj (lJ (a.getD (a.length-1) Sg.none) (b.getD 0 Sg.none) (ha.2 _) (hb.2 _) ((My hx1).1 _ (by omega)).1 ((My hx2).1 0 (by omega)).1),trivial⟩ ?_
   refine Ae 1 ?_
   refine pK 15 (bP (Oa (a.getD (a.length-1) Sg.none) (b.getD 0 Sg.none))) (λhx3=>?_) (λhx3=>?_)
   ·
    refine Ae 7 ?_
    refine Fw (((a).length:Int)+((b).length:Int)) (((a).length+(b).length:Nat):Int) ?_
    refine Ae 4 ?_
    refine Gu 27 ((256:Int)<(((a).length+(b).length:Nat):Int)) (λhx4 hx4d=>?_) (λhx4 hx4d=>?_)
    ·
     refine Ae 10 ?_
     exact Ha (.lit (.tuple #[.slice none 0 0,.int .i64 7])) (Ol (Aas hx1 hx2 hx3 (by omega)) (by decide)).symm
    ·
     refine Ae 7 ?_
     refine cS 0 func117 (λ_ hD5=>?_)
     refine Ae 19 ?_
     refine kU [3,6,7,8] (λm s=>∃i,i<=a.length/\m=a.length-i/\True/\((i=0/\s=⟨[(3,.lit (.slice none 0 0)),(6,Ai a),(7,.int ((a).length:Int)),(8,.int ((0:Nat):Int))],[],0,30⟩)\/(0<i/\s=⟨[(3,.osl 9 6 i),(6,Ai a),(7,.int ((a).length:Int)),(8,.int (i:Int))],[(9,.vec 81 6 i (λxi=>Bn (a.getD xi Sg.none)))],10,30⟩))) a.length ⟨0,Nat.zero_le _,rfl,trivial,.inl ⟨rfl,(by kernel_rfl)⟩⟩ ?_
     rintro _ _ ⟨i,hin,rfl,hFi,(⟨hi0,rfl⟩|⟨hi0,rfl⟩)⟩ J1 hJ1
     ·
      subst hi0
      refine Ae 6 ?_
      refine Gu 9 (((0:Nat):Int)<((a).length:Int)) (λhx6 hx6d=>?_) (λhx6 hx6d=>?_)
      ·
       refine Ae 7 ?_
       refine Gt 0 ((a).length) ?_
       refine Ae 6 ?_
       refine Kg [(2,_,.none),(5,_,.none),(8,_,.none)] [3,5,6,7,8] ⟨Hj (Ee _ (hac 0 (by omega)).1.1 (by have:=(hac 0 (by omega)).1.2;omega)),Hj (Ee _ (hac 0 (by omega)).2.1.1 (by have:=(hac 0 (by omega)).2.1.2;omega)),Hj (Ee _ (hac 0 (by omega)).2.2.1 (by have:=(hac 0 (by omega)).2.2.2;omega)),trivial⟩ ?_
       refine Ae 4 ?_
       refine Ci (.osl 1 6 1) (.new 1 (.vec 81 6 1 (λ_=>Bn ((a).getD 0 Sg.none)))) (Ak 54 1 #[(0,(.tmp 25))] (by kernel_rfl) underlying54 6 sizeOf81 _ zeroValue81 (by kernel_rfl) (Nat.le_of_ble_eq_true (by kernel_rfl)) (Nat.le_of_ble_eq_true (by kernel_rfl)) (Nat.le_of_ble_eq_true (by kernel_rfl)) 1 [.int (((a).getD 0 Sg.none).f),.int (((a).getD 0 Sg.none).t),.int (((a).getD 0 Sg.none).o),Ao (((a).getD 0 Sg.none).x),Ao (((a).getD 0 Sg.none).y),Ao (((a).getD 0 Sg.none).z)] (by kernel_rfl) (λ_=>Bn ((a).getD 0 Sg.none)) (by kernel_rfl)) ?_
       refine Ci (.osl 2 6 1) (.newr 1 2 (.vec 81 6 1 (λxi=>Bn (a.getD xi Sg.none)))) (Cp (.tmp 24) (.tmp 26) 54 (by kernel_rfl) underlying54 6 96 (.agg #[.int .i64 0,.int .i64 0,.int .i64 0,.slice none 0 0,.slice none 0 0,.slice none 0 0]) (by kernel_rfl) (by kernel_rfl) (by decide) 1 (by omega) (λ_=>Bn ((a).getD 0 Sg.none)) (λxi=>Bn (a.getD xi Sg.none)) 2 (λi hi=>by(obtain rfl:i=0:=(by omega));rfl) (λi hi j hj=>match j,hj with|0,_=>rfl|1,_=>rfl|2,_=>rfl|3,_=>rfl|4,_=>rfl|5,_=>rfl|_+6,h=>absurd h (by omega)) (by unfold maxLen;omega) (by omega) (by kernel_rfl) 1 81 (by kernel_rfl) (by kernel_rfl)) ?_
       refine Ae 5 ?_
       refine Fw (((0:Nat):Int)+1) ((0+1:Nat):Int) ?_
       refine Ae 2 ?_
       exact Hl [3,6,7,8] [(2,9)] 10 0 hD5 [(81,6,1,(λ_=>Bn ((a).getD 0 Sg.none))),(81,6,1,(λxi=>Bn (a.getD xi Sg.none)))] ⟨(Hf λ_ _=>rfl),(Hf λ_ _=>rfl),trivial⟩ (hJ1 _ _ (by omega:a.length-(0+1)<a.length-0) ⟨0+1,(by omega),rfl,trivial,.inr ⟨Nat.succ_pos _,rfl⟩⟩)
      ·
       refine Ae 6 ?_
       exfalso;omega
     ·
      refine Ae 6 ?_
      refine Gu 9 ((i:Int)<((a).length:Int)) (λhx7 hx7d=>?_) (λhx7 hx7d=>?_)
      ·
       refine Ae 7 ?_
       refine Gt i ((a).length) ?_
       refine Ae 6 ?_
       refine Kg [(2,_,.none),(5,_,.none),(8,_,.none)] [3,5,6,7,8] ⟨Hj (Ee _ (hac i (by omega)).1.1 (by have:=(hac i (by omega)).1.2;omega)),Hj (Ee _ (hac i (by omega)).2.1.1 (by have:=(hac i (by omega)).2.1.2;omega)),Hj (Ee _ (hac i (by omega)).2.2.1 (by have:=(hac i (by omega)).2.2.2;omega)),trivial⟩ ?_
       refine Ae 4 ?_
       refine Ci (.osl 11 6 1) (.new 11 (.vec 81 6 1 (λ_=>Bn ((a).getD i Sg.none)))) (Ak 54 1 #[(0,(.tmp 25))] (by kernel_rfl) underlying54 6 sizeOf81 _ zeroValue81 (by kernel_rfl) (Nat.le_of_ble_eq_true (by kernel_rfl)) (Nat.le_of_ble_eq_true (by kernel_rfl)) (Nat.le_of_ble_eq_true (by kernel_rfl)) 11 [.int (((a).getD i Sg.none).f),.int (((a).getD i Sg.none).t),.int (((a).getD i Sg.none).o),Ao (((a).getD i Sg.none).x),Ao (((a).getD i Sg.none).y),Ao (((a).getD i Sg.none).z)] (by kernel_rfl) (λ_=>Bn ((a).getD i Sg.none)) (by kernel_rfl)) ?_
       refine Ci (.osl 12 6 (i+1)) (.grow2 9 11 12 (.vec 81 6 (i+1) (λxi=>Bn (a.getD xi Sg.none)))) (Cz (.tmp 24) (.tmp 26) 54 (by kernel_rfl) underlying54 6 96 (.agg #[.int .i64 0,.int .i64 0,.int .i64 0,.slice none 0 0,.slice none 0 0,.slice none 0 0]) (by kernel_rfl) (by kernel_rfl) (by decide) i 1 (by omega) (λxi=>Bn (a.getD xi Sg.none)) (λ_=>Bn ((a).getD i Sg.none)) (λxi=>Bn (a.getD xi Sg.none)) 12 (by omega) (by unfold maxLen;omega) (λi hi=>rfl) (λi hi=>by(obtain rfl:i=0:=(by omega));rfl) (λi hi j hj=>match j,hj with|0,_=>rfl|1,_=>rfl|2,_=>rfl|3,_=>rfl|4,_=>rfl|5,_=>rfl|_+6,h=>absurd h (by omega)) 9 (by kernel_rfl) (by kernel_rfl) 11 81 (by kernel_rfl) (by kernel_rfl)) ?_
       refine Ae 5 ?_
       refine Fw ((i:Int)+1) ((i+1:Nat):Int) ?_
       refine Ae 2 ?_
       exact Hl [3,6,7,8] [(12,9)] 10 0 hD5 [(81,6,1,(λ_=>Bn ((a).getD i Sg.none))),(81,6,i+1,(λxi=>Bn (a.getD xi Sg.none)))] ⟨(Hf λ_ _=>rfl),(Hf λ_ _=>rfl),trivial⟩ (hJ1 _ _ (by omega:a.length-(i+1)<a.length-i) ⟨i+1,(by omega),rfl,trivial,.inr ⟨Nat.succ_pos _,rfl⟩⟩)
      ·
       refine Ae 6 ?_
       have hie:i=a.length:=by omega
       subst hie
       refine Ae 7 ?_
       refine zK (Ae 1 ?_)
       refine Ds (Ach b hbn (by omega) (Vx (My hx2))) ?_
       refine Ci (.osl 10 6 (a.length+(b).length)) (.grow 9 10 (.vec 81 6 (a.length+(b).length) (λxi=>Bn ((a++b).getD xi Sg.none)))) (dH (.tmp 35) (.tmp 37) 54 (by kernel_rfl) underlying54 6 96 (.agg #[.int .i64 0,.int .i64 0,.int .i64 0,.slice none 0 0,.slice none 0 0,.slice none 0 0]) (by kernel_rfl) (by kernel_rfl) (by decide) a.length ((b).length) (by omega) (λxi=>Bn (a.getD xi Sg.none)) (λi0=>Bn ((b).getD i0 Sg.none)) (λxi=>Bn ((a++b).getD xi Sg.none)) 10 (by omega) (by unfold maxLen;omega) (λi hi=>by show Bn _=Bn _;rw[Kt,if_pos hi]) (λi hi=>by show Bn _=Bn _;rw[Kt,if_neg (by omega),Nat.add_sub_cancel_left]) (λi hi j hj=>match j,hj with|0,_=>rfl|1,_=>rfl|2,_=>rfl|3,_=>rfl|4,_=>rfl|5,_=>rfl|_+6,h=>absurd h (by omega)) 9 (by kernel_rfl) (by kernel_rfl) (by kernel_rfl)) ?_
       refine Ae 4 ?_
       refine cR 10 [4] 81 6 (a.length+(b).length) (λxi=>Bn ((a++b).getD xi Sg.none)) (Hf λ_ _=>rfl) ?_
       refine Ae 1 ?_
       exact Ha (.tup [.sl 6 (a.length+(b).length) (λxi=>Bn ((a++b).getD xi Sg.none)),.int 0]) ((vB (Aat hx1 hx2 hx3 (by omega))).trans (congrArg (λq=>AV.tup [AV.sl 6 q λxi=>Bn ((a++b).getD xi Sg.none),.int 0]) List.length_append)).symm
   ·
    refine Ae 10 ?_
    exact Ha (.lit (.tuple #[.slice none 0 0,.int .i64 10])) (Ol (wO hx1 hx2 hx3) (by decide)).symm
  ·
   refine Ae 10 ?_
   exact Ha (.lit (.tuple #[.slice none 0 0,.int .i64 2])) (Ol (tI (.inr hx2)) (by decide)).symm
 ·
  refine Ae 17 ?_
  exact Ha (.lit (.tuple #[.slice none 0 0,.int .i64 2])) (Ol (tI (.inl hx1)) (by decide)).symm
theorem Ack (l:List Sg) (hl:Dh l) (ho:Fj l):AF Tryz.prog 29 [Ai l] (.lit (.tuple #[.int .i64 ((l.getD 0 Sg.none).f),.int .i64 ((l.getD (l.length-1) Sg.none).t),.int .i64 0])):=by
 have hln:=hl.1
 have hlo:=ho.2
 refine Cx func29 rfl λB D0 hA0=>?_
 refine Ae 11 ?_
 refine Ds (Pf l hl) ?_
 refine Ae 3 ?_
 refine Lh 7 (!bP (Fj l)) false (by rw[(Eo ho)];rfl) ?_
 refine Ae 4 ?_
 refine Kg [(1,Fu (Ai l) 0,.none),(7,.int (((l).length-1:Nat):Int),.none),(8,Fu (Ai l) ((l).length-1),.none)] [2,3,4] ⟨Pa 0 ((l).length),Av (Cq (v:= .int .i64 (IntKind.wrap .i64 (((l).length:Int)-1))) (v':= .int .i64 (((l).length-1:Nat):Int)) _ (by kernel_rfl) rfl (by kernel_rfl) (λw=>by kernel_rfl) (congrArg (Value.int .i64) ((IntWalk.i64_in _ (by omega)).trans (by omega)))),Pa ((l).length-1) ((l).length),trivial⟩ ?_
 refine Ae 2 ?_
 exact Hq
def aR (a b:V3) (f t k:Int):List Sg×Int:=if Ll a b f t=true then ([Sx a b f t k],0) else ([],2)
theorem tW (a b:V3) (f t k:Int):wY a b f t k= .tup [Ai (aR a b f t k).1,.int (aR a b f t k).2]:=by unfold wY aR;split<;>rfl
theorem vX (a b:V3) (f t:Int):AF Tryz.prog 49 [Gv a,Gv b,.int f,.int t] (.tup [Ai (aR a b f t 2).1,.int (aR a b f t 2).2]):=by rw[<-tW];exact zZ a b f t
theorem vZ (a:V3) (f t:Int):AF Tryz.prog 62 [Gv a,.int f,.int t] (.tup [Ai (aR a a f t 0).1,.int (aR a a f t 0).2]):=by rw[<-tW];exact Aab a f t
theorem gL (a b:List Sg) (ha:Dh a) (hb:Dh b) (h:(Nt a b).2=0):AF Tryz.prog 88 [Ai a,Ai b] (.tup [Ai (Nt a b).1,.int 0]):=by
 have:=vW a b ha hb
 unfold kG at this
 rwa [if_pos h] at this
theorem Dh.nil:Dh []:=⟨by decide,λi=>by simp[Sg.none];exact⟨Pp,Pp,Pp,λ_=>by simpa using Pp,λ_=>by simpa using Pp,λ_=>by simpa using Pp⟩⟩
theorem cG {a b:Int} (ha: -1048576<=a/\a<=1048576) (hb: -1048576<=b/\b<=1048576) {k:Int} (i:Nat):Cy ((Dg a b (Bq k)).getD i 0):=by
 have key:∀x,x∈Dg a b (Bq k)->Cy x:=λx hx=>by
  unfold Dg at hx
  rcases List.mem_cons.1 hx with rfl|hx
  exact⟨by omega,by omega⟩
  split at hx
  cases hx
  obtain⟨y,hy,rfl⟩:=List.mem_map.1 hx
  have hy2: -100<=y/\y<=100:=by
   unfold Bq at hy
   split at hy
   cases hy
   split at hy
   have:y=1:=by simpa using hy
   omega
   simp at hy;omega
  have:=fE y (b-a) hy2 (by omega)
  exact⟨by omega,by omega⟩
 rw[List.getD_eq_getElem?_getD]
 cases h:(Dg a b (Bq k))[i]? with
 |none=>exact Pp
 |some x=>exact key x (List.mem_of_getElem? h)
theorem Ji (x:Int) (hx:Fd x):AF Tryz.prog 99 [WA x] (.bool true):=Ix (vs:=[_]) λw=>Jg x w hx
theorem Uq (x:Int) (hx:Fd x):AF Tryz.prog 172 [WA x] (.int x.sign):=Ix (vs:=[_]) λw=>zO x w hx
theorem Acm (x:Int) (hx:Fd x):AF Tryz.prog 179 [WA x] (.int (bitLen x.natAbs:Int)):=Ix (vs:=[_]) λw=>AbW x w hx
theorem Acl (x y:Int) (hx:Fd x) (hy:Fd y) (hz:Fd (x+y)):AF Tryz.prog 102 [WA x,WA y] (.lit (.tuple #[Aj (x+y),.int .i64 0])):=Ix (vs:=[_,_]) λw=>pL x y w hx hy hz
theorem Acn (x y:Int) (hx:Fd x) (hy:Fd y) (hz:Fd (x*y)):AF Tryz.prog 123 [WA x,WA y] (.lit (.tuple #[Aj (x*y),.int .i64 0])):=Ix (vs:=[_,_]) λw=>pN x y w hx hy hz
def Fh (c:Nat->Int):Nat->Nat
 |0=>0
 |n+1=>if c n=0 then Fh c n else n+1
abbrev Bc (n:Nat) (c:Nat->Int):AV:= .sl 2 n λi=>WA (c i)
abbrev AdF (n:Nat) (c:Nat->Int):AV:= .slc 2 n λi=>WA (c i)
theorem He (c:Nat->Int):∀n,Fh c n<=n
 |0=>Nat.le_refl _
 |n+1=>by
  unfold Fh
  split
  exact Nat.le_succ_of_le (He c n)
  exact Nat.le_refl _
theorem Je (c:Nat->Int):∀n,Fh c n=0\/c (Fh c n-1)≠0
 |0=> .inl rfl
 |n+1=>by
  unfold Fh
  split
  exact Je c n
  rename_i h;exact .inr h
theorem Ss {c:Nat->Int} {n:Nat} (h:n=0\/c (n-1)≠0):Fh c n=n:=by
 cases n with
 |zero=>rfl
 |succ n=>
  unfold Fh
  rcases h with h|h
  cases h
  exact if_neg h
theorem Xi {x:Int}:x.sign=0↔x=0:=Int.sign_eq_zero_iff_zero
theorem sK {c:Nat->Int} {q:Nat} (hq:0<q) (h:(c (q-1)).sign=0):Fh c q=Fh c (q-1):=by
 obtain⟨k,rfl⟩:∃k,q=k+1:=⟨q-1,by omega⟩
 rw[Nat.add_sub_cancel] at h ⊢
 rw[Fh,if_pos (Xi.1 h)]
theorem cK {c:Nat->Int} {q n:Nat} (h0:Fh c q=Fh c n) (h:q=0\/(c (q-1)).sign≠0):q=Fh c n:=by
 rw[<-h0]
 exact(Ss (h.imp id λh e=>h (Xi.2 e))).symm
theorem gU (n:Nat) (c:Nat->Int) (hn:n<=1000000) (hc:∀i,i<n->Fd (c i)):AF Tryz.prog 170 [AdF n c] (Bc (Fh c n) c):=by
 refine Cx func170 rfl λB D0 hA0=>?_
 refine Ae 7 ?_
 refine kU [0] (λm s=>∃m1,m=m1+1/\(m1<=n/\Fh c m1=Fh c n)/\s=⟨[(0,AdF m1 c)],[],0,22⟩) (n+1) ⟨n,rfl,⟨Nat.le_refl _,rfl⟩,(by kernel_rfl)⟩ ?_
 rintro _ _ ⟨m1,rfl,hF,rfl⟩ J1 hJ1
 obtain⟨hF1,hF2⟩:=hF
 refine Ae 7 ?_
 refine Gu 6 ((0:Int)<((m1:Nat):Int)) (λhx1 hx1d=>?_) (λhx1 hx1d=>?_)
 ·
  refine Ae 3 ?_
  refine Fw (((m1:Nat):Int)-1) ((m1-1:Nat):Int) ?_
  refine Gt (m1-1) m1 ?_
  refine Ae 1 ?_
  refine Ds (Uq (c (m1-1)) (hc _ (by omega))) ?_
  refine Ae 4 ?_
  refine Gu 15 ((c (m1-1)).sign=0) (λhx2 hx2d=>?_) (λhx2 hx2d=>?_)
  ·
   refine Ae 8 ?_
   refine Fw (((m1:Nat):Int)-1) ((m1-1:Nat):Int) ?_
   refine Ci (.slc 2 (m1-1) (λi0=> .lit (Aj (c i0)))) .none (Tg 202 (.tmp 16) (.tmp 19) (by kernel_rfl) underlying202 2 m1 sizeOf70 (λi0=> .lit (Aj (c i0))) (by kernel_rfl) (m1-1) ((m1-1:Nat):Int) (by kernel_rfl) (by omega) (by omega)) ?_
   refine Ae 3 ?_
   exact Qm [0] (hJ1 _ _ (by omega:m1-1+1<m1+1) ⟨m1-1,rfl,⟨by omega,(sK (by omega) hx2d).symm.trans hF2⟩,rfl⟩)
  ·
   refine Ae 6 ?_
   refine vwk 0 ?_
   refine Ae 7 ?_
   exact Ha (.sl 2 m1 (λi0=> .lit (Aj (c i0)))) (congrArg (λz=>Bc z c) (cK hF2 (by omega)))
 ·
  refine Ae 17 ?_
  refine vwk 0 ?_
  refine Ae 7 ?_
  exact Ha (.sl 2 m1 (λi0=> .lit (Aj (c i0)))) (congrArg (λz=>Bc z c) (cK hF2 (by omega)))
theorem kX (x:Int):AFM Tryz.prog 180 241 [.int .i64 0] [WA x,.int 0] (Aj x):=by
 refine qW func180 rfl λB D0 hA0=>?_
 refine Ae 32 ?_
 exact Ae4 (.lit (Aj x)) (by kernel_rfl)
theorem Uk (x y:Int) (hx:Fd x) (hy:Fd y) (hz:Fd (x*y)):AFM Tryz.prog 174 241 [.int .i64 0] [WA x,WA y] (Aj (x*y)):=by
 refine qW func174 rfl λB D0 hA0=>?_
 refine Ae 8 ?_
 refine Kg [(5,_,.none),(8,.lit (Aj (x*y)),(.set 0 (.box 241 [.int 0])))] [6] ⟨Hj (Acn x y hx hy hz),Av (Ic 180 #[.tmp 9,.tmp 13,.tmp 14] #[239,70,37] (by kernel_rfl) (λ_ _=>by kernel_rfl) 0 241 [.int .i64 0] (by kernel_rfl) [.lit (Aj (x*y)),.int 0] (by kernel_rfl) (by kernel_rfl) (Aj (x*y)) (kX (x*y))),trivial⟩ ?_
 refine Ae 2 ?_
 exact Ae4 (.lit (Aj (x*y))) (by kernel_rfl)
theorem sT (x y:Int) (hx:Fd x) (hy:Fd y) (hz:Fd (x+y)):AFM Tryz.prog 175 241 [.int .i64 0] [WA x,WA y] (Aj (x+y)):=by
 refine qW func175 rfl λB D0 hA0=>?_
 refine Ae 8 ?_
 refine Kg [(5,_,.none),(8,.lit (Aj (x+y)),(.set 0 (.box 241 [.int 0])))] [6] ⟨Hj (Acl x y hx hy hz),Av (Ic 180 #[.tmp 9,.tmp 13,.tmp 14] #[239,70,37] (by kernel_rfl) (λ_ _=>by kernel_rfl) 0 241 [.int .i64 0] (by kernel_rfl) [.lit (Aj (x+y)),.int 0] (by kernel_rfl) (by kernel_rfl) (Aj (x+y)) (kX (x+y))),trivial⟩ ?_
 refine Ae 2 ?_
 exact Ae4 (.lit (Aj (x+y))) (by kernel_rfl)
theorem Afe {c:Nat->Int} {n:Nat} (hl:n=0\/c (n-1)≠0) (h:n≠0):(!decide ((c (n-1)).sign=0))=true:=by
 have h9:¬(c (n-1)).sign=0:=λe=>by
  rcases hl with g|g
  exact h g
  exact g (Xi.1 e)
 rw[decide_eq_false h9];rfl
theorem Pd (n:Nat) (c:Nat->Int) (hn:n<=25) (hc:∀i,i<n->Fd (c i)) (hl:n=0\/c (n-1)≠0):AF Tryz.prog 171 [Bc n c] (.bool true):=by
 refine Cx func171 rfl λB D0 hA0=>?_
 refine Ae 14 ?_
 refine Qf [0,5,6,7] n (λi=>True) (λi=>⟨[(0,Bc n c),(5,Bc n c),(6,.int (n:Int)),(7,.int (i:Int))],[],0,33⟩) trivial (λi hin hFi J1 hJ1=>?_)
 refine Ae 6 ?_
 refine Gu 8 ((i:Int)<(n:Int)) (λhx1 hx1d=>?_) (λhx1 hx1d=>?_)
 ·
  refine Ae 7 ?_
  refine Gt i n ?_
  refine Ae 8 ?_
  refine Ds (Ji (c i) (hc _ (by omega))) ?_
  refine Ae 8 ?_
  refine Fw ((i:Int)+1) ((i+1:Nat):Int) ?_
  refine Ae 2 ?_
  exact Hl [0,5,6,7] [] 0 0 hA0 [] trivial (hJ1 (by omega) trivial)
 ·
  refine Ae 12 ?_
  refine Lh 18 (decide ((n:Int)<=25)) true (decide_eq_true (by omega)) ?_
  refine Ae 4 ?_
  refine Gu 22 ((n:Int)=0) (λhx2 hx2d=>?_) (λhx2 hx2d=>?_)
  ·
   refine Ae 14 ?_
   exact Hq
  ·
   refine Ae 3 ?_
   refine Fw ((n:Int)-1) ((n-1:Nat):Int) ?_
   refine Gt (n-1) n ?_
   refine Ae 1 ?_
   refine Ds (Uq (c (n-1)) (hc _ (by omega))) ?_
   refine Ae 7 ?_
   exact Ha (.bool (!decide ((c (n-1)).sign=0))) (congrArg AV.bool (Afe hl (by omega)))
def Ej (c:Nat->Int):Nat->Int
 |0=>0
 |n+1=>max (Ej c n) (bitLen (c n).natAbs:Int)
theorem oV {c:Nat->Int} {k:Nat}:∀n,(∀i,i<n->bitLen (c i).natAbs<=k)->0<=Ej c n/\Ej c n<=(k:Int)
 |0,_=>⟨Int.le_refl _,by show (0:Int)<=_;omega⟩
 |n+1,h=>by
  have h1:=oV n λi hi=>h i (by omega)
  have h2:=h n (Nat.lt_succ_self n)
  unfold Ej
  omega
theorem sY (n:Nat) (c:Nat->Int) (hn:n<=1000000) (hc:∀i,i<n->Fd (c i)):AF Tryz.prog 173 [Bc n c] (.int (Ej c n)):=by
 refine Cx func173 rfl λB D0 hA0=>?_
 refine Ae 19 ?_
 refine Qf [3,6,7,8] n (λi=>True) (λi=>⟨[(3,.int (Ej c i)),(6,Bc n c),(7,.int (n:Int)),(8,.int (i:Int))],[],0,18⟩) trivial (λi hin hFi J1 hJ1=>?_)
 refine Ae 6 ?_
 refine Gu 9 ((i:Int)<(n:Int)) (λhx1 hx1d=>?_) (λhx1 hx1d=>?_)
 ·
  refine Ae 7 ?_
  refine Gt i n ?_
  refine Ae 8 ?_
  refine Ds (Acm (c i) (hc _ (by omega))) ?_
  refine Ci (.int (max (Ej c i) (bitLen (c i).natAbs:Int))) .none (jP (.tmp 12) (.tmp 14) #[3,3] (by kernel_rfl) (Ej c i) (bitLen (c i).natAbs:Int) (by kernel_rfl) (by kernel_rfl)) ?_
  refine Ae 5 ?_
  refine Fw ((i:Int)+1) ((i+1:Nat):Int) ?_
  refine Ae 2 ?_
  exact Hl [3,6,7,8] [] 0 0 hA0 [] trivial (hJ1 (by omega) trivial)
 ·
  refine Ae 13 ?_
  exact Ha (.int (Ej c i)) (congrArg (λz=>AV.int (Ej c z)) (show _=n by omega))
end Go.Proofs.YtldnjomacnjhnaaGreat
namespace Go.Proofs.YtldnjomacnjhnaaGreat
open Go.Proofs.Tryz
open Go.RowKit
abbrev Yt (l:List Int) (i:Nat):Int:=l.getD i 0
def Uc (g:Nat->Int) (k i:Nat):Int:=if i<k then g i else 0
theorem yF (g:Nat->Int) (k i:Nat):(if i=k then WA (g k) else WA (Uc g k i))=WA (Uc g (k+1) i):=by
 unfold Uc
 by_cases h:i=k
 subst h;rw[if_pos rfl,if_pos (Nat.lt_succ_self _)]
 rw[if_neg h]
 by_cases h2:i<k
 rw[if_pos h2,if_pos (by omega)]
 rw[if_neg h2,if_neg (by omega)]
theorem yG (g:Nat->Int) (i:Nat):WA 0=WA (Uc g 0 i):=by unfold Uc;rw[if_neg (Nat.not_lt_zero i)]
theorem Abv {g:Nat->Int} {k i:Nat} (h:i<k):WA (Uc g k i)=WA (g i):=by unfold Uc;rw[if_pos h]
theorem Wn (l:List Int) (hl:0<l.length) (hn:l.length<=25) (hc:∀i,Cy (l.getD i 0)):AF Tryz.prog 157 [Ao l] (.tup [Bc (Fh (Yt l) l.length) (Yt l),.int 0]):=by
 have hle:=He (Yt l) l.length
 refine Cx func157 rfl λB D0 hA0=>?_
 refine Ae 20 ?_
 refine kU [4,7,8,9] (λm s=>∃i,i<=l.length/\m=l.length-i/\True/\((i=0/\s=⟨[(4,.lit (.slice none 0 0)),(7,Ao l),(8,.int (l.length:Int)),(9,.int ((0:Nat):Int))],[],0,25⟩)\/(0<i/\s=⟨[(4,.osl 9 2 i),(7,Ao l),(8,.int (l.length:Int)),(9,.int (i:Int))],[(9,.vec 70 2 i (λxi=>WA (Yt l xi)))],10,25⟩))) l.length ⟨0,Nat.zero_le _,rfl,trivial,.inl ⟨rfl,(by kernel_rfl)⟩⟩ ?_
 rintro _ _ ⟨i,hin,rfl,hFi,(⟨hi0,rfl⟩|⟨hi0,rfl⟩)⟩ J1 hJ1
 ·
  subst hi0
  refine Ae 6 ?_
  refine Gu 10 (((0:Nat):Int)<(l.length:Int)) (λhx1 hx1d=>?_) (λhx1 hx1d=>?_)
  ·
   refine Ae 7 ?_
   refine Gt 0 l.length ?_
   refine Ae 7 ?_
   refine Ds (Gf ((l).getD 0 0) (hc _).1 (hc _).2) ?_
   refine Ci (.osl 0 2 1) (.new 0 (.vec 70 2 1 (λ_=> .lit (Aj ((l).getD 0 0))))) (Ak 202 1 #[(0,(.tmp 15))] (by kernel_rfl) underlying202 2 sizeOf70 _ zeroValue70 (by kernel_rfl) (Nat.le_of_ble_eq_true (by kernel_rfl)) (Nat.le_of_ble_eq_true (by kernel_rfl)) (Nat.le_of_ble_eq_true (by kernel_rfl)) 0 [.bool (decide ((l).getD 0 0<0)),.lit (.string (Dv ((l).getD 0 0).natAbs))] (by kernel_rfl) (λ_=> .lit (Aj ((l).getD 0 0))) (by kernel_rfl)) ?_
   refine Ci (.osl 1 2 1) (.newr 0 1 (.vec 70 2 1 (λxi=>WA (Yt l xi)))) (Cp (.tmp 13) (.tmp 16) 202 (by kernel_rfl) underlying202 2 24 (.agg #[.bool false,.string ⟨#[]⟩]) (by kernel_rfl) (by kernel_rfl) (by decide) 1 (by omega) (λ_=> .lit (Aj ((l).getD 0 0))) (λxi=>WA (Yt l xi)) 1 (λi hi=>by(obtain rfl:i=0:=(by omega));rfl) (λi hi j hj=>match j,hj with|0,_=>rfl|1,_=>rfl|_+2,h=>absurd h (by omega)) (by unfold maxLen;omega) (by omega) (by kernel_rfl) 0 70 (by kernel_rfl) (by kernel_rfl)) ?_
   refine Ae 5 ?_
   refine Fw (((0:Nat):Int)+1) ((0+1:Nat):Int) ?_
   refine Ae 2 ?_
   exact Hl [4,7,8,9] [(1,9)] 10 0 hA0 [(70,2,1,(λ_=> .lit (Aj ((l).getD 0 0)))),(70,2,1,(λxi=>WA (Yt l xi)))] ⟨(Hf λ_ _=>rfl),(Hf λ_ _=>rfl),trivial⟩ (hJ1 _ _ (by omega:l.length-(0+1)<l.length-0) ⟨0+1,(by omega),rfl,trivial,.inr ⟨Nat.succ_pos _,rfl⟩⟩)
  ·
   refine Ae 6 ?_
   exfalso;omega
 ·
  refine Ae 6 ?_
  refine Gu 10 ((i:Int)<(l.length:Int)) (λhx2 hx2d=>?_) (λhx2 hx2d=>?_)
  ·
   refine Ae 7 ?_
   refine Gt i l.length ?_
   refine Ae 7 ?_
   refine Ds (Gf ((l).getD i 0) (hc _).1 (hc _).2) ?_
   refine Ci (.osl 10 2 1) (.new 10 (.vec 70 2 1 (λ_=> .lit (Aj ((l).getD i 0))))) (Ak 202 1 #[(0,(.tmp 15))] (by kernel_rfl) underlying202 2 sizeOf70 _ zeroValue70 (by kernel_rfl) (Nat.le_of_ble_eq_true (by kernel_rfl)) (Nat.le_of_ble_eq_true (by kernel_rfl)) (Nat.le_of_ble_eq_true (by kernel_rfl)) 10 [.bool (decide ((l).getD i 0<0)),.lit (.string (Dv ((l).getD i 0).natAbs))] (by kernel_rfl) (λ_=> .lit (Aj ((l).getD i 0))) (by kernel_rfl)) ?_
   refine Ci (.osl 11 2 (i+1)) (.grow2 9 10 11 (.vec 70 2 (i+1) (λxi=>WA (Yt l xi)))) (Cz (.tmp 13) (.tmp 16) 202 (by kernel_rfl) underlying202 2 24 (.agg #[.bool false,.string ⟨#[]⟩]) (by kernel_rfl) (by kernel_rfl) (by decide) i 1 (by omega) (λxi=>WA (Yt l xi)) (λ_=> .lit (Aj ((l).getD i 0))) (λxi=>WA (Yt l xi)) 11 (by omega) (by unfold maxLen;omega) (λi hi=>rfl) (λi hi=>by(obtain rfl:i=0:=(by omega));rfl) (λi hi j hj=>match j,hj with|0,_=>rfl|1,_=>rfl|_+2,h=>absurd h (by omega)) 9 (by kernel_rfl) (by kernel_rfl) 10 70 (by kernel_rfl) (by kernel_rfl)) ?_
   refine Ae 5 ?_
   refine Fw ((i:Int)+1) ((i+1:Nat):Int) ?_
   refine Ae 2 ?_
   exact Hl [4,7,8,9] [(11,9)] 10 0 hA0 [(70,2,1,(λ_=> .lit (Aj ((l).getD i 0)))),(70,2,i+1,(λxi=>WA (Yt l xi)))] ⟨(Hf λ_ _=>rfl),(Hf λ_ _=>rfl),trivial⟩ (hJ1 _ _ (by omega:l.length-(i+1)<l.length-i) ⟨i+1,(by omega),rfl,trivial,.inr ⟨Nat.succ_pos _,rfl⟩⟩)
  ·
   refine Ae 6 ?_
   have hie:i=l.length:=by omega
   subst hie
   refine AbR 9 [4] 70 2 l.length (λxi=>WA (Yt l xi)) (Hf λ_ _=>rfl) ?_
   refine Ae 3 ?_
   refine Ds (gU l.length (Yt l) (by omega) (λi _=>Hn (hc i))) ?_
   refine Ae 11 ?_
   refine Lh 23 (decide ((25:Int)<(Fh (Yt l) l.length:Int))) false (decide_eq_false (by omega)) ?_
   refine Ae 11 ?_
   exact Hq
theorem Zt (n:Nat) (c:Nat->Int) (y:Int) (hn:n<=25) (hc:∀i,i<n->Fd (c i)) (hl:n=0\/c (n-1)≠0) (hy:Fd y) (hp:∀i,i<n->Fd (c i*y)):AF Tryz.prog 159 [Bc n c,WA y] (.tup [Bc (Fh (λi=>c i*y) n) (λi=>c i*y),.int 0]):=by
 refine Cx func159 rfl λB D0 hA0=>?_
 refine Ae 11 ?_
 refine Ds (Pd n c hn hc hl) ?_
 refine Ae 3 ?_
 refine Ds (Ji _ hy) ?_
 refine Ae 16 ?_
 refine Ci (.osl 2 2 n) (.new 2 (.vec 70 2 n (λ_=> .lit (Aj 0)))) (Tf 202 (.tmp 19) (.tmp 19) (by kernel_rfl) underlying202 2 24 (.agg #[.bool false,.string ⟨#[]⟩]) (by kernel_rfl) (by kernel_rfl) (by decide) (n:Int) n (by omega) (by kernel_rfl) (by kernel_rfl) (by omega) (by omega) (by omega) 2 (.lit (Aj 0)) (by kernel_rfl)) ?_
 refine Ae 12 ?_
 refine Xl 2 70 2 n (λ_=> .lit (Aj 0)) (λxi=>WA (Uc (λi=>c i*y) 0 xi)) (λx9 hx9=>yG _ _) ?_
 refine Qf [3,6,7,21,22,23] n (λi=>True) (λi=>⟨[(3,.ptr 0 0),(6,.ptr 1 0),(7,.osl 2 2 n),(21,Bc n c),(22,.int (n:Int)),(23,.int (i:Int))],[(0,.box 70 [.bool (decide (y<0)),.lit (.string (Dv (y).natAbs))]),(1,.box 241 [.int 0]),(2,.vec 70 2 n (λxi=>WA (Uc (λi=>c i*y) i xi)))],3,39⟩) trivial (λi hin hFi J1 hJ1=>?_)
 refine Ae 6 ?_
 refine Gu 24 ((i:Int)<(n:Int)) (λhx1 hx1d=>?_) (λhx1 hx1d=>?_)
 ·
  refine Ae 8 ?_
  refine Gt i n ?_
  refine Ae 11 ?_
  refine Ci (.lit (Aj (c i*y))) (.set 1 (.box 241 [.int 0])) (Ic 174 #[.tmp 6,.tmp 30,.tmp 31] #[241,70,70] (by kernel_rfl) (λ_ _=>by kernel_rfl) 1 241 [.int .i64 0] (by kernel_rfl) [.lit (Aj (c i)),.lit (Aj y)] (by kernel_rfl) (by kernel_rfl) (Aj (c i*y)) (Uk (c i) y (hc _ (by omega)) hy (hp _ (by omega)))) ?_
  refine Gt i n ?_
  refine Ci (.lit Go.undef) (.set 2 (.vec 70 2 n (λxi=>if xi=i then .lit (Aj (c i*y)) else (λxi=>WA (Uc (λi=>c i*y) i xi)) xi))) (Fm 70 (.tmp 33) (.tmp 32) (by kernel_rfl) 2 sizeOf70 2 i (by kernel_rfl) 70 n (λxi=>WA (Uc (λi=>c i*y) i xi)) (by kernel_rfl) (by omega) (by kernel_rfl) (by kernel_rfl) (by kernel_rfl) (.lit (Aj (c i*y))) (by kernel_rfl)) ?_
  refine Ae 4 ?_
  refine Fw ((i:Int)+1) ((i+1:Nat):Int) ?_
  refine Ae 2 ?_
  refine Xl 2 70 2 n (λxi=>if xi=i then .lit (Aj (c i*y)) else (λxi=>WA (Uc (λi=>c i*y) i xi)) xi) (λxi=>WA (Uc (λi=>c i*y) (i+1) xi)) (λx9 hx9=>yF (λi=>c i*y) i _) ?_
  exact Hl [3,6,7,21,22,23] [(0,0),(1,1),(2,2)] 3 0 hA0 [(70,2,n,(λxi=>WA (Uc (λi=>c i*y) (i+1) xi)))] ⟨(Hf λ_ _=>rfl),trivial⟩ (hJ1 (by omega) trivial)
 ·
  refine Ae 6 ?_
  refine Xl 2 70 2 n (λxi=>WA (Uc (λi=>c i*y) i xi)) (λxi=>WA ((λi=>c i*y) xi)) (λx9 hx9=>Abv (by omega)) ?_
  refine AbR 2 [7] 70 2 n (λxi=>WA ((λi=>c i*y) xi)) (Hf λ_ _=>rfl) ?_
  refine Ae 3 ?_
  refine cS 3 func176 (λ_ hD2=>?_)
  refine Ae 23 ?_
  refine Ds (gU n (λi=>c i*y) (by omega) hp) ?_
  refine Ae 5 ?_
  refine zK (Ae 7 ?_)
  exact Hq
def inn (a b:Int) (c:Nat->Int) (t k:Nat):Int:=if k<t then (if k=0 then 0 else c (k-1)*b)+c k*a else if k=t/\0<t then c (t-1)*b else 0
theorem AaW (a b:Int) (c:Nat->Int) (k:Nat):WA 0=WA (inn a b c 0 k):=by
 unfold inn
 rw[if_neg (Nat.not_lt_zero k),if_neg (by omega)]
theorem AaV (a b:Int) (c:Nat->Int) (t k:Nat):(if k=t+1 then WA (c t*b) else if k=t then WA (inn a b c t t+c t*a) else WA (inn a b c t k))=WA (inn a b c (t+1) k):=by
 by_cases h1:k=t+1
 rw[if_pos h1]
 unfold inn
 rw[if_neg (by omega),if_pos (by omega),Nat.add_sub_cancel]
 rw[if_neg h1]
 by_cases h2:k=t
 subst h2
 rw[if_pos rfl]
 unfold inn
 rw[if_neg (Nat.lt_irrefl k),if_pos (Nat.lt_succ_self k)]
 by_cases h3:k=0
 subst h3;rw[if_neg (by omega),if_pos rfl]
 rw[if_pos (by omega),if_neg h3]
 rw[if_neg h2]
 by_cases h3:k<t
 rw[inn,inn,if_pos h3,if_pos (show k<t+1 by omega)]
 rw[inn,inn,if_neg h3,if_neg (by omega),if_neg (by omega),if_neg (by omega)]
def Lo (d:Int):Nat->Int
 |0=>1
 |k+1=>Lo d k*d
theorem Ze (d:Int):∀k,Lo d k=d^k
 |0=>by rw[Int.pow_zero];rfl
 |k+1=>by rw[Lo,Ze d k,Int.pow_succ]
def cN (p:Nat->Int) (m:Nat) (a b d:Int):Nat->Nat->Int
 |0,_=>p (m-1)
 |j+1,k=>inn a b (cN p m a b d j) (j+1) k+(if k=0 then p (m-2-j)*Lo d (j+1) else 0)
theorem Ac0 (p:Nat->Int) (m:Nat) (a b d:Int) (j k:Nat) {q:Nat} (hq:q=m-2-j):(if k=0 then WA (inn a b (cN p m a b d j) (j+1) 0+p q*Lo d (j+1)) else WA (inn a b (cN p m a b d j) (j+1) k))=WA (cN p m a b d (j+1) k):=by
 subst hq
 rw[cN]
 by_cases h:k=0
 subst h;rw[if_pos rfl,if_pos rfl]
 rw[if_neg h,if_neg h,Int.add_zero]
theorem AaU {a b:Int} {c:Nat->Int} {e:Nat} (ha:Cy a) (hb:Cy b) (hc:∀k,Bd e (c k)) (t k:Nat):Bd (e+64) (inn a b c t k):=by
 have h1:∀k,Bd (e+63) (c k*a):=λk=>(hc k).mul (Bd.int ha.1 ha.2)
 have h2:∀k,Bd (e+63) (c k*b):=λk=>(hc k).mul (Bd.int hb.1 hb.2)
 unfold inn
 split
 refine Bd.add (e:=e+63) ?_ (h1 k)
 split
 exact Bd.zero _
 exact h2 _
 split
 exact(h2 _).mono (by omega)
 exact Bd.zero _
theorem mF {p:Nat->Int} {m:Nat} {a b d:Int} (hp:∀i,Cy (p i)) (ha:Cy a) (hb:Cy b) (hd:Cy d):∀j k,Bd (70*j+63) (cN p m a b d j k)
 |0,_=>Bd.int (hp _).1 (hp _).2
 |j+1,k=>by
  have h1:=AaU ha hb (mF (m:=m) hp ha hb hd j) (j+1) k
  rw[cN]
  refine(Bd.add (e:=70*j+63+64) (h1.mono (Nat.le_refl _)) ?_).mono (by omega)
  split
  rw[Ze];exact((Bd.int (hp _).1 (hp _).2).mul ((Bd.int hd.1 hd.2).pow (j+1))).mono (by omega)
  exact Bd.zero _
def c3 (a b d:Int):Nat->Int
 |0=>a
 |1=>b
 |_=>d
theorem AdC {a b d:Int} (ha:Cy a) (hb:Cy b) (hd:Cy d):∀i,Cy (c3 a b d i)
 |0=>ha
 |1=>hb
 |_+2=>hd
theorem Ab8 {c:Nat->Int} {n:Nat} (h:∀i,Cy (c i)):0<=Ej c n/\Ej c n<=64:=oV (k:=64) n λi _=>by
 have:=(Bd.int (h i).1 (h i).2).le
 exact Fx.2 (by omega)
theorem lE (k0:Nat) (p:Nat->Int) (a b d:Int) (hm:k0<=5) (hp:∀i,Cy (p i)) (hl:p k0≠0) (ha:Cy a) (hb:Cy b) (hd:Cy d) (hdp:0<d):AF Tryz.prog 158 [Bc (k0+1) p,WA a,WA b,WA d] (.tup [Bc (Fh (cN p (k0+1) a b d k0) (k0+1)) (cN p (k0+1) a b d k0),.int 0]):=by
 have hsp:=Ab8 (n:=k0+1) hp
 have hs3:=Ab8 (n:=3) (AdC ha hb hd)
 have hml:0<=((k0+1-1:Nat):Int)*(Ej (c3 a b d) 3+1)/\((k0+1-1:Nat):Int)*(Ej (c3 a b d) 3+1)<=325:=⟨Int.mul_nonneg (by omega) (by omega),Int.le_trans (Int.mul_le_mul (show ((k0+1-1:Nat):Int)<=5 by omega) (show Ej (c3 a b d) 3+1<=65 by omega) (by omega) (by omega)) (by decide)⟩
 have fc:∀j k,j<=6->Fd (cN p (k0+1) a b d j k):=λj k hj=>(mF hp ha hb hd j k).fit (by omega)
 have fi:∀j t k,j<=6->Bd 600 (inn a b (cN p (k0+1) a b d j) t k):=λj t k hj=>(AaU ha hb (mF hp ha hb hd j) t k).mono (by omega)
 have fm:∀j k y,j<=6->Cy y->Bd 600 (cN p (k0+1) a b d j k*y):=λj k y hj hy=>((mF hp ha hb hd j k).mul (Bd.int hy.1 hy.2)).mono (by omega)
 have fd:∀j,j<=6->Bd 500 (Lo d j):=λj hj=>by rw[Ze];exact((Bd.int hd.1 hd.2).pow j).mono (by omega)
 have fp:∀i j,j<=6->Bd 600 (p i*Lo d j):=λi j hj=>((Bd.int (hp i).1 (hp i).2).mul (fd j hj)).mono (by omega)
 refine Cx func158 rfl λB D0 hA0=>?_
 refine Ae 13 ?_
 refine Ds (Pd (k0+1) p (by omega) (λi _=>Hn (hp i)) (.inr hl)) ?_
 refine Ae 3 ?_
 refine Ds (Ji _ (Hn ha)) ?_
 refine Ae 4 ?_
 refine Ds (Ji _ (Hn hb)) ?_
 refine Ae 4 ?_
 refine Ds (Ji _ (Hn hd)) ?_
 refine Ae 11 ?_
 refine Ds (Uq d (Hn hd)) ?_
 refine Ae 3 ?_
 refine Lh 37 (decide (d.sign<=0)) false (decide_eq_false (by rw[Int.sign_eq_one_of_pos hdp];decide)) ?_
 refine Ae 11 ?_
 refine Lh 40 (decide (((k0+1:Nat):Int)=0)) false (decide_eq_false (by omega)) ?_
 refine Ae 5 ?_
 refine Kg [(1,_,.none),(4,.int ((k0+1-1:Nat):Int),.none),(8,.osl 3 2 3,(.new 3 (.vec 70 2 3 (λxi=>WA (c3 a b d xi))))),(9,.int (Ej (c3 a b d) 3),(.read 3)),(10,.int (Ej (c3 a b d) 3+1),.none),(11,.int (((k0+1-1:Nat):Int)*(Ej (c3 a b d) 3+1)),.none),(12,.int (Ej p (k0+1)+((k0+1-1:Nat):Int)*(Ej (c3 a b d) 3+1)),.none),(13,.int (Ej p (k0+1)+((k0+1-1:Nat):Int)*(Ej (c3 a b d) 3+1)+8),.none),(14,.bool false,.none)] [0,5,6,7,55] ⟨Hj (sY (k0+1) p (by omega) (λi _=>Hn (hp i))),Av (Cq (v:= .int .i64 (IntKind.wrap .i64 (((k0+1:Nat):Int)-1))) (v':= .int .i64 ((k0+1-1:Nat):Int)) _ (by kernel_rfl) rfl (by kernel_rfl) (λw=>by kernel_rfl) (congrArg (Value.int .i64) ((IntWalk.i64_in _ (by omega)).trans (by omega)))),Av (Ak 201 3 #[(0,(.tmp 46)),(1,(.tmp 47)),(2,(.tmp 48))] (by kernel_rfl) underlying201 2 sizeOf70 _ zeroValue70 (by kernel_rfl) (Nat.le_of_ble_eq_true (by kernel_rfl)) (Nat.le_of_ble_eq_true (by kernel_rfl)) (Nat.le_of_ble_eq_true (by kernel_rfl)) 3 [.bool (decide (a<0)),.lit (.string (Dv (a).natAbs)),.bool (decide (b<0)),.lit (.string (Dv (b).natAbs)),.bool (decide (d<0)),.lit (.string (Dv (d).natAbs))] (by kernel_rfl) (λxi=>WA (c3 a b d xi)) (by kernel_rfl)),Av (fI 173 #[.tmp 49] #[201] (by kernel_rfl) (λ_ _=>by kernel_rfl) 3 (.vec 70 2 3 (λxi=>WA (c3 a b d xi))) (by kernel_rfl) (λ_ _ _ _ h=>by cases h;exact(Hf λ_ _=>rfl)) [.osl 3 2 3] (by kernel_rfl) [.sl 2 3 (λxi=>WA (c3 a b d xi))] (by kernel_rfl) (.int .i64 (Ej (c3 a b d) 3)) (sY 3 (c3 a b d) (by omega) (λi _=>Hn (AdC ha hb hd i)))),Av (Cq (v:= .int .i64 (IntKind.wrap .i64 (Ej (c3 a b d) 3+1))) (v':= .int .i64 (Ej (c3 a b d) 3+1)) _ (by kernel_rfl) rfl (by kernel_rfl) (λw=>by kernel_rfl) (congrArg (Value.int .i64) ((IntWalk.i64_in _ (by omega)).trans (by omega)))),Av (Cq (v:= .int .i64 (IntKind.wrap .i64 (((k0+1-1:Nat):Int)*(Ej (c3 a b d) 3+1)))) (v':= .int .i64 (((k0+1-1:Nat):Int)*(Ej (c3 a b d) 3+1))) _ (by kernel_rfl) rfl (by kernel_rfl) (λw=>by kernel_rfl) (congrArg (Value.int .i64) ((IntWalk.i64_in _ (by omega)).trans (by omega)))),Av (Cq (v:= .int .i64 (IntKind.wrap .i64 (Ej p (k0+1)+((k0+1-1:Nat):Int)*(Ej (c3 a b d) 3+1)))) (v':= .int .i64 (Ej p (k0+1)+((k0+1-1:Nat):Int)*(Ej (c3 a b d) 3+1))) _ (by kernel_rfl) rfl (by kernel_rfl) (λw=>by kernel_rfl) (congrArg (Value.int .i64) ((IntWalk.i64_in _ (by omega)).trans (by omega)))),Av (Cq (v:= .int .i64 (IntKind.wrap .i64 (Ej p (k0+1)+((k0+1-1:Nat):Int)*(Ej (c3 a b d) 3+1)+8))) (v':= .int .i64 (Ej p (k0+1)+((k0+1-1:Nat):Int)*(Ej (c3 a b d) 3+1)+8)) _ (by kernel_rfl) rfl (by kernel_rfl) (λw=>by kernel_rfl) (congrArg (Value.int .i64) ((IntWalk.i64_in _ (by omega)).trans (by omega)))),kT (b:=decide ((65536:Int)<Ej p (k0+1)+((k0+1-1:Nat):Int)*(Ej (c3 a b d) 3+1)+8)) (decide_eq_false (by omega)),trivial⟩ ?_
 refine Ae 10 ?_
 refine Kg [(3,.int ((k0+1-1:Nat):Int),.none),(4,Fu (Bc (k0+1) p) (k0+1-1),.none),(6,.osl 5 2 1,(.new 5 (.vec 70 2 1 (λ_=> .lit (Aj (p (k0+1-1))))))),(7,_,.none)] [0,5,6,7,10,11,12] ⟨Av (Cq (v:= .int .i64 (IntKind.wrap .i64 (((k0+1:Nat):Int)-1))) (v':= .int .i64 ((k0+1-1:Nat):Int)) _ (by kernel_rfl) rfl (by kernel_rfl) (λw=>by kernel_rfl) (congrArg (Value.int .i64) ((IntWalk.i64_in _ (by omega)).trans (by omega)))),Pa (k0+1-1) (k0+1),Av (Ak 202 1 #[(0,(.tmp 61))] (by kernel_rfl) underlying202 2 sizeOf70 _ zeroValue70 (by kernel_rfl) (Nat.le_of_ble_eq_true (by kernel_rfl)) (Nat.le_of_ble_eq_true (by kernel_rfl)) (Nat.le_of_ble_eq_true (by kernel_rfl)) 5 [.bool (decide (p (k0+1-1)<0)),.lit (.string (Dv (p (k0+1-1)).natAbs))] (by kernel_rfl) (λ_=> .lit (Aj (p (k0+1-1)))) (by kernel_rfl)),Hj (Gf 1 (by decide) (by decide)),trivial⟩ ?_
 refine Ae 6 ?_
 refine Fw (((k0+1:Nat):Int)-2) (((k0-0:Nat):Int)-1) ?_
 refine Ae 4 ?_
 refine Qf [0,5,6,7,10,11,12,13] k0 (λj=>True) (λj=>⟨[(0,Bc (k0+1) p),(5,.ptr 0 0),(6,.ptr 1 0),(7,.ptr 2 0),(10,.ptr 4 0),(11,.osl 5 2 (j+1)),(12,.ptr 6 0),(13,.int (((k0-j:Nat):Int)-1))],[(0,.box 70 [.bool (decide (a<0)),.lit (.string (Dv (a).natAbs))]),(1,.box 70 [.bool (decide (b<0)),.lit (.string (Dv (b).natAbs))]),(2,.box 70 [.bool (decide (d<0)),.lit (.string (Dv (d).natAbs))]),(3,.vec 70 2 3 (λxi=>WA (c3 a b d xi))),(4,.box 241 [.int 0]),(5,.vec 70 2 (j+1) (λxi=>WA (cN p (k0+1) a b d j xi))),(6,.box 70 [.bool (decide (Lo d j<0)),.lit (.string (Dv (Lo d j).natAbs))])],7,121⟩) trivial (λj hjn hFj J1 hJ1=>?_)
 refine Ae 7 ?_
 refine Gu 68 ((0:Int)<=((k0-j:Nat):Int)-1) (λhx1 hx1d=>?_) (λhx1 hx1d=>?_)
 ·
  refine Ae 9 ?_
  refine Ci (.lit (Aj (Lo d (j+1)))) (.set 4 (.box 241 [.int 0])) (Ic 174 #[.tmp 10,.tmp 71,.tmp 72] #[241,70,70] (by kernel_rfl) (λ_ _=>by kernel_rfl) 4 241 [.int .i64 0] (by kernel_rfl) [.lit (Aj (Lo d j)),.lit (Aj d)] (by kernel_rfl) (by kernel_rfl) (Aj (Lo d (j+1))) (Uk (Lo d j) d ((fd j (by omega)).fit (by omega)) (Hn hd) ((fd (j+1) (by omega)).fit (by omega)))) ?_
  refine Ae 7 ?_
  refine Fw (((j+1:Nat):Int)+1) ((j+1+1:Nat):Int) ?_
  refine Ci (.osl 7 2 (j+1+1)) (.new 7 (.vec 70 2 (j+1+1) (λ_=> .lit (Aj 0)))) (Tf 202 (.tmp 76) (.tmp 76) (by kernel_rfl) underlying202 2 24 (.agg #[.bool false,.string ⟨#[]⟩]) (by kernel_rfl) (by kernel_rfl) (by decide) ((j+1+1:Nat):Int) (j+1+1) (by omega) (by kernel_rfl) (by kernel_rfl) (by omega) (by omega) (by omega) 7 (.lit (Aj 0)) (by kernel_rfl)) ?_
  refine Ae 12 ?_
  refine Xl 7 70 2 (j+1+1) (λ_=> .lit (Aj 0)) (λxi=>WA (inn a b (cN p (k0+1) a b d j) 0 xi)) (λx9 hx9=>AaW _ _ _ _) ?_
  refine Qf [0,5,6,7,10,12,13,14,78,79,80] (j+1) (λt=>True) (λt=>⟨[(0,Bc (k0+1) p),(5,.ptr 0 0),(6,.ptr 1 0),(7,.ptr 2 0),(10,.ptr 4 0),(12,.ptr 6 0),(13,.int (((k0-j:Nat):Int)-1)),(14,.osl 7 2 (j+1+1)),(78,.osl 5 2 (j+1)),(79,.int ((j+1:Nat):Int)),(80,.int (t:Int))],[(0,.box 70 [.bool (decide (a<0)),.lit (.string (Dv (a).natAbs))]),(1,.box 70 [.bool (decide (b<0)),.lit (.string (Dv (b).natAbs))]),(2,.box 70 [.bool (decide (d<0)),.lit (.string (Dv (d).natAbs))]),(3,.vec 70 2 3 (λxi=>WA (c3 a b d xi))),(4,.box 241 [.int 0]),(5,.vec 70 2 (j+1) (λxi=>WA (cN p (k0+1) a b d j xi))),(6,.box 70 [.bool (decide (Lo d (j+1)<0)),.lit (.string (Dv (Lo d (j+1)).natAbs))]),(7,.vec 70 2 (j+1+1) (λxi=>WA (inn a b (cN p (k0+1) a b d j) t xi)))],8,121⟩) trivial (λt htn hFt J2 hJ2=>?_)
  refine Ae 6 ?_
  refine Gu 81 ((t:Int)<((j+1:Nat):Int)) (λhx2 hx2d=>?_) (λhx2 hx2d=>?_)
  ·
   refine Ae 8 ?_
   refine Gt t (j+1) ?_
   refine Ci (.lit (Aj (cN p (k0+1) a b d j t))) (.read 5) (Pu 70 (.tmp 83) (by kernel_rfl) isAgg70 2 sizeOf70 5 t (by kernel_rfl) 70 (j+1) (λxi=>WA (cN p (k0+1) a b d j xi)) (by kernel_rfl) (by omega)) ?_
   refine Ae 6 ?_
   refine Kg [(4,Fu (.osl 7 2 (j+1+1)) t,.none),(5,.lit (Aj (inn a b (cN p (k0+1) a b d j) t t)),(.read 7)),(8,.lit (Aj (cN p (k0+1) a b d j t*a)),(.set 4 (.box 241 [.int 0]))),(9,.lit (Aj (inn a b (cN p (k0+1) a b d j) t t+cN p (k0+1) a b d j t*a)),(.set 4 (.box 241 [.int 0]))),(10,Fu (.osl 7 2 (j+1+1)) t,.none),(11,.lit Go.undef,(.set 7 (.vec 70 2 (j+1+1) (λxi=>if xi=t then .lit (Aj (inn a b (cN p (k0+1) a b d j) t t+cN p (k0+1) a b d j t*a)) else (λxi=>WA (inn a b (cN p (k0+1) a b d j) t xi)) xi))))] [0,5,6,7,10,12,13,14,15,16,78,79,80] ⟨Pa t (j+1+1),Av (Pu 70 (.tmp 89) (by kernel_rfl) isAgg70 2 sizeOf70 7 t (by kernel_rfl) 70 (j+1+1) (λxi=>WA (inn a b (cN p (k0+1) a b d j) t xi)) (by kernel_rfl) (by omega)),Av (Ic 174 #[.tmp 10,.tmp 91,.tmp 92] #[241,70,70] (by kernel_rfl) (λ_ _=>by kernel_rfl) 4 241 [.int .i64 0] (by kernel_rfl) [.lit (Aj (cN p (k0+1) a b d j t)),.lit (Aj a)] (by kernel_rfl) (by kernel_rfl) (Aj (cN p (k0+1) a b d j t*a)) (Uk _ _ (fc j _ (by omega)) (Hn ha) ((fm j _ _ (by omega) ha).fit (by omega)))),Av (Ic 175 #[.tmp 10,.tmp 90,.tmp 93] #[241,70,70] (by kernel_rfl) (λ_ _=>by kernel_rfl) 4 241 [.int .i64 0] (by kernel_rfl) [.lit (Aj (inn a b (cN p (k0+1) a b d j) t t)),.lit (Aj (cN p (k0+1) a b d j t*a))] (by kernel_rfl) (by kernel_rfl) (Aj (inn a b (cN p (k0+1) a b d j) t t+cN p (k0+1) a b d j t*a)) (sT _ _ ((fi j _ _ (by omega)).fit (by omega)) ((fm j _ _ (by omega) ha).fit (by omega)) (((fi j _ _ (by omega)).add (fm j _ _ (by omega) ha)).fit (by omega)))),Pa t (j+1+1),Av (Fm 70 (.tmp 95) (.tmp 94) (by kernel_rfl) 2 sizeOf70 7 t (by kernel_rfl) 70 (j+1+1) (λxi=>WA (inn a b (cN p (k0+1) a b d j) t xi)) (by kernel_rfl) (by omega) (by kernel_rfl) (by kernel_rfl) (by kernel_rfl) (.lit (Aj (inn a b (cN p (k0+1) a b d j) t t+cN p (k0+1) a b d j t*a))) (by kernel_rfl)),trivial⟩ ?_
   refine Ae 4 ?_
   refine Fw ((t:Int)+1) ((t+1:Nat):Int) ?_
   refine Ae 2 ?_
   refine Ci (.lit (Aj (cN p (k0+1) a b d j t*b))) (.set 4 (.box 241 [.int 0])) (Ic 174 #[.tmp 10,.tmp 99,.tmp 100] #[241,70,70] (by kernel_rfl) (λ_ _=>by kernel_rfl) 4 241 [.int .i64 0] (by kernel_rfl) [.lit (Aj (cN p (k0+1) a b d j t)),.lit (Aj b)] (by kernel_rfl) (by kernel_rfl) (Aj (cN p (k0+1) a b d j t*b)) (Uk _ _ (fc j _ (by omega)) (Hn hb) ((fm j _ _ (by omega) hb).fit (by omega)))) ?_
   refine Gt (t+1) (j+1+1) ?_
   refine Ci (.lit Go.undef) (.set 7 (.vec 70 2 (j+1+1) (λxi=>if xi=t+1 then .lit (Aj (cN p (k0+1) a b d j t*b)) else (λxi=>if xi=t then .lit (Aj (inn a b (cN p (k0+1) a b d j) t t+cN p (k0+1) a b d j t*a)) else (λxi=>WA (inn a b (cN p (k0+1) a b d j) t xi)) xi) xi))) (Fm 70 (.tmp 102) (.tmp 101) (by kernel_rfl) 2 sizeOf70 7 (t+1) (by kernel_rfl) 70 (j+1+1) (λxi=>if xi=t then .lit (Aj (inn a b (cN p (k0+1) a b d j) t t+cN p (k0+1) a b d j t*a)) else (λxi=>WA (inn a b (cN p (k0+1) a b d j) t xi)) xi) (by kernel_rfl) (by omega) (by kernel_rfl) (by kernel_rfl) (by kernel_rfl) (.lit (Aj (cN p (k0+1) a b d j t*b))) (by kernel_rfl)) ?_
   refine Ae 4 ?_
   refine Fw ((t:Int)+1) ((t+1:Nat):Int) ?_
   refine Ae 2 ?_
   refine Xl 7 70 2 (j+1+1) (λxi=>if xi=t+1 then .lit (Aj (cN p (k0+1) a b d j t*b)) else (λxi=>if xi=t then .lit (Aj (inn a b (cN p (k0+1) a b d j) t t+cN p (k0+1) a b d j t*a)) else (λxi=>WA (inn a b (cN p (k0+1) a b d j) t xi)) xi) xi) (λxi=>WA (inn a b (cN p (k0+1) a b d j) (t+1) xi)) (λx9 hx9=>AaV _ _ _ _ _) ?_
   exact Hl [0,5,6,7,10,12,13,14,78,79,80] [(0,0),(1,1),(2,2),(3,3),(4,4),(5,5),(6,6),(7,7)] 8 0 hA0 [(70,2,3,(λxi=>WA (c3 a b d xi))),(70,2,j+1,(λxi=>WA (cN p (k0+1) a b d j xi))),(70,2,j+1+1,(λxi=>WA (inn a b (cN p (k0+1) a b d j) (t+1) xi)))] ⟨(Hf λ_ _=>rfl),(Hf λ_ _=>rfl),(Hf λ_ _=>rfl),trivial⟩ (hJ2 (by omega) trivial)
  ·
   refine Ae 6 ?_
   have hte:t=j+1:=by omega
   subst hte
   refine Ae 1 ?_
   refine Kg [(2,Fu (.osl 7 2 (j+1+1)) 0,.none),(3,.lit (Aj (inn a b (cN p (k0+1) a b d j) (j+1) 0)),(.read 7)),(6,Fu (Bc (k0+1) p) (((k0-j:Nat):Int)-1).toNat,.none),(9,.lit (Aj (p ((((k0-j:Nat):Int)-1).toNat)*(Lo d (j+1)))),(.set 4 (.box 241 [.int 0]))),(10,.lit (Aj (inn a b (cN p (k0+1) a b d j) (j+1) 0+p ((((k0-j:Nat):Int)-1).toNat)*(Lo d (j+1)))),(.set 4 (.box 241 [.int 0]))),(11,Fu (.osl 7 2 (j+1+1)) 0,.none),(12,.lit Go.undef,(.set 7 (.vec 70 2 (j+1+1) (λxi=>if xi=0 then .lit (Aj (inn a b (cN p (k0+1) a b d j) (j+1) 0+p ((((k0-j:Nat):Int)-1).toNat)*(Lo d (j+1)))) else (λxi=>WA (inn a b (cN p (k0+1) a b d j) (j+1) xi)) xi))))] [0,5,6,7,10,12,13,14] ⟨Pa 0 (j+1+1),Av (Pu 70 (.tmp 106) (by kernel_rfl) isAgg70 2 sizeOf70 7 0 (by kernel_rfl) 70 (j+1+1) (λxi=>WA (inn a b (cN p (k0+1) a b d j) (j+1) xi)) (by kernel_rfl) (by omega)),AeV (((k0-j:Nat):Int)-1) (((k0-j:Nat):Int)-1).toNat (k0+1),Av (Ic 174 #[.tmp 10,.tmp 111,.tmp 112] #[241,70,70] (by kernel_rfl) (λ_ _=>by kernel_rfl) 4 241 [.int .i64 0] (by kernel_rfl) [.lit (Aj (p ((((k0-j:Nat):Int)-1).toNat))),.lit (Aj (Lo d (j+1)))] (by kernel_rfl) (by kernel_rfl) (Aj (p ((((k0-j:Nat):Int)-1).toNat)*(Lo d (j+1)))) (Uk _ _ (Hn (hp _)) ((fd _ (by omega)).fit (by omega)) ((fp _ _ (by omega)).fit (by omega)))),Av (Ic 175 #[.tmp 10,.tmp 107,.tmp 113] #[241,70,70] (by kernel_rfl) (λ_ _=>by kernel_rfl) 4 241 [.int .i64 0] (by kernel_rfl) [.lit (Aj (inn a b (cN p (k0+1) a b d j) (j+1) 0)),.lit (Aj (p ((((k0-j:Nat):Int)-1).toNat)*(Lo d (j+1))))] (by kernel_rfl) (by kernel_rfl) (Aj (inn a b (cN p (k0+1) a b d j) (j+1) 0+p ((((k0-j:Nat):Int)-1).toNat)*(Lo d (j+1)))) (sT _ _ ((fi j _ _ (by omega)).fit (by omega)) ((fp _ _ (by omega)).fit (by omega)) (((fi j _ _ (by omega)).add (fp _ _ (by omega))).fit (by omega)))),Pa 0 (j+1+1),Av (Fm 70 (.tmp 115) (.tmp 114) (by kernel_rfl) 2 sizeOf70 7 0 (by kernel_rfl) 70 (j+1+1) (λxi=>WA (inn a b (cN p (k0+1) a b d j) (j+1) xi)) (by kernel_rfl) (by omega) (by kernel_rfl) (by kernel_rfl) (by kernel_rfl) (.lit (Aj (inn a b (cN p (k0+1) a b d j) (j+1) 0+p ((((k0-j:Nat):Int)-1).toNat)*(Lo d (j+1))))) (by kernel_rfl)),trivial⟩ ?_
   refine Ae 9 ?_
   refine Fw (((k0-j:Nat):Int)-1-1) (((k0-(j+1):Nat):Int)-1) ?_
   refine Ae 2 ?_
   refine Xl 7 70 2 (j+1+1) (λxi=>if xi=0 then .lit (Aj (inn a b (cN p (k0+1) a b d j) (j+1) 0+p ((((k0-j:Nat):Int)-1).toNat)*(Lo d (j+1)))) else (λxi=>WA (inn a b (cN p (k0+1) a b d j) (j+1) xi)) xi) (λxi=>WA (cN p (k0+1) a b d (j+1) xi)) (λx9 hx9=>Ac0 _ _ _ _ _ _ _ (by omega)) ?_
   exact Hl [0,5,6,7,10,11,12,13] [(0,0),(1,1),(2,2),(3,3),(4,4),(7,5),(6,6)] 7 0 hA0 [(70,2,3,(λxi=>WA (c3 a b d xi))),(70,2,j+1,(λxi=>WA (cN p (k0+1) a b d j xi))),(70,2,j+1+1,(λxi=>WA (cN p (k0+1) a b d (j+1) xi)))] ⟨(Hf λ_ _=>rfl),(Hf λ_ _=>rfl),(Hf λ_ _=>rfl),trivial⟩ (hJ1 (by omega) trivial)
 ·
  refine Ae 6 ?_
  have hje:j=k0:=by omega
  subst hje
  refine AbR 5 [11] 70 2 (j+1) (λxi=>WA (cN p (j+1) a b d j xi)) (Hf λ_ _=>rfl) ?_
  refine Ae 3 ?_
  refine cS 7 func176 (λ_ hD3=>?_)
  refine Ae 23 ?_
  refine Ds (gU (j+1) (cN p (j+1) a b d j) (by omega) (λi _=>fc _ i (by omega))) ?_
  refine Ae 5 ?_
  refine zK (Ae 7 ?_)
  exact Hq
end Go.Proofs.YtldnjomacnjhnaaGreat