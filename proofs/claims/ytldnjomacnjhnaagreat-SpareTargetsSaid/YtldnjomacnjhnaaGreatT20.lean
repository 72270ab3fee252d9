/- Part 20 of the proof of ST.row_holds, joined by program: no condition beyond the row's own. -/
import Derived.Test.YtldnjomacnjhnaaGreatT19
import Derived.Scope
set_option maxRecDepth 100000
set_option maxHeartbeats 40000000
namespace Go.Proofs.YtldnjomacnjhnaaGreat
theorem Kb {P:Program} {b:Frame} {a:Act} {k:List Item} {cs:List Frame} {w:World} {c:Code}:step P (lone (b.atR a (.code (.scope c)::k)) cs w)= .next (lone (b.atR a (.code c:: .inScope c::k)) cs w):=
 step_lone_go (by simp[Go.stepG,Go.stepG.exec,Frame.atR])
theorem eH {P:Program} {b:Frame} {a:Act} {k:List Item} {cs:List Frame} {w:World} {c:Code}:step P (lone (b.atR a (.inScope c::k)) cs w)= .next (lone (b.atR a k) cs w):=
 step_lone_go (by simp[Go.stepG,Go.stepG.exec,Frame.atR])
theorem tG {F:Fence} {n:Nat} {P:Program} {Q:Exit->Act->World->Prop} {a:Act} {w:World} {c:Code} (h:c.wpIn F n P (Exit.noGoto Q) a w):(Code.scope c).wpIn F n P Q a w:=by
 intro b k cs hro hb hr
 have h0:(lone (b.atR a (.code (.scope c)::k)) cs w).fenced P F:=fenced_calm hb hr rfl
 obtain⟨e,a₁,w₁,hq,harr⟩:=h b (.inScope c::k) cs hro hb hr
 cases e with
 |normal=>exact⟨.normal,a₁,w₁,hq,.head h0 Kb (StepsIn.trans harr (.one (fenced_calm hb hr rfl) eH))⟩
 |exit id=>
  have hx:exitTo id (.inScope c::k)=exitTo id k:=by simp[exitTo]
  exact⟨.exit id,a₁,w₁,hq,λk' hk=> .head h0 Kb (harr.1 k' (by rw[hx];exact hk)),
   λhr' hk=>let ⟨k₁,h1,h2⟩:=harr.2 hr' (by rw[hx];exact hk);⟨k₁,h1,.head h0 Kb h2⟩⟩
 |goto l=>exact hq.elim
 |ret=>exact⟨_,a₁,w₁,hq,.of_steps (.one h0 Kb) harr⟩
 |panic ch=>exact⟨_,a₁,w₁,hq,.of_steps (.one h0 Kb) harr⟩
 |outgrown=>exact⟨_,a₁,w₁,hq,.of_steps (.one h0 Kb) harr⟩
def Afm (Q:Exit->St->Prop):Exit->St->Prop
 | .goto _,_=>False
 |e,s=>Q e s
theorem Aap {P:Program} {R:Option Nat} {B:Nat} {D0:Bl} {s:St} {Q:Exit->St->Prop} {c:Code} (h:AC P R B D0 c s (Afm Q)):AC P R B D0 (.scope c) s Q:=⟨λE a hs=>
 tG (Er (λe a' w' ⟨s',E',h1,h2,h3,h4⟩=>by
  cases e with
  |goto l=>exact h2.elim
  |normal=>exact⟨s',E',h1,h2,h3,h4⟩
  |exit id=>exact⟨s',E',h1,h2,h3,h4⟩
  |ret=>exact⟨s',E',h1,h2,h3,h4⟩
  |panic ch=>exact⟨s',E',h1,h2,h3,h4⟩
  |outgrown=>exact⟨s',E',h1,h2,h3,h4⟩) (h.run E a hs))⟩
theorem jM {B:Nat} {D0:Bl} {s:St} (id:Nat) (t:TypeId) (cs:List AV) (s':St) (hc:Bc s.h id=some (.box t cs)) (hs':(⟨mapT (frzB id cs) s.t,(Hl s.h id).map λp=>(p.1,p.2.mapB (frzB id cs)),s.nx,s.n⟩:St)=s') (hf:cs.all AV.free=true) (E:Bl) (a:Act) (hs:Iz B D0 E s a):∃E',E'.w=E.w/\Iz B D0 E' s' a:=by
 refine bI id (frzB id cs) s' hs' hc (λE x v hh hv=>?_) E a hs
 have up:=hv.up (E.le_fr id)
 obtain⟨arr,hb,hvs⟩:=hh.box hc
 cases hv with
 |osl _ id' e' m hA=>
  unfold frzB
  simp only
  by_cases e1:id'=id
  rw[if_pos e1];exact .top _ _
  rw[if_neg e1];exact up
 |ptr _ id' off hA=>
  unfold frzB
  simp only
  by_cases e1:id'=id
  subst e1
  rw[if_pos rfl]
  refine .elt _ _ _ _ _ (λj=>arr.getD (off+j) undef) (.inr rfl) (λj hj=>Lu hb (by rw[hvs.1];omega)) λj hj=>?_
  have:=hvs.2 (off+j)
  have e2:cs.getD (off+j) .top=cs[off+j]:=by simp[List.getD_eq_getElem?_getD,show off+j<cs.length by omega]
  refine(this.free ?_).up (E.le_fr id').fz
  rw[e2]
  exact List.all_eq_true.1 hf _ (List.getElem_mem _)
  rw[if_neg e1];exact up
 |_=>exact up
theorem Jy {P:Program} {B:Nat} {D0:Bl} {o:Oper} {ev:Operand->AV} {pre:Nat->Option Ck} (f:FuncId) (xs:Array Operand) (ts:Array TypeId) (ho:o.op= .call { callee:= .value (.func f),args:=xs,argTypes:=ts }) (hcall:∀(vs:Array Value) w,(callFunc f vs).run P w= .ok (.enter f vs) w) (id:Nat) (blk:Ck) (hp:pre id=some blk) (hfl:∀t e n f,blk= .vec t e n f->∀i,i<n->∀j,j<e->((f i).cell j).flat=true) (Hk:List AV) (hargs0:xs.toList.map ev=Hk) (args:List AV) (hargs:Hk.map (mV id blk)=args) (r:AV) (hf:AF P f args r):Ek P B D0 o ev pre r (.drop id):=by
 subst hargs
 subst hargs0
 refine⟨?_⟩
 intro E a c K Q _ hh htch _ hv k
 have hc:=(htch id (by simp[Cf.touch])).trans hp
 obtain⟨l1,l2,l3,l4⟩:=hh.live id _ hc
 unfold Oper.wp
 rw[show (execOp a.eval o).run P E.w=(callFunc f (xs.map a.eval)).run P E.w by simp[execOp,ho,resolve,Deferred.ofValue,Act.eval,invoke],hcall]
 show Calls P f _ E.w _
 refine(hf (E.fr id) (xs.map a.eval) (λb hb=>?_) (by simp) λi hi=>?_).mono ?_
 rcases hb with hb|hb
 exact hh.bnd b hb
 rw[hb];exact l2.lt
 have hi2:i<xs.size:=by simpa using hi
 have e1:((xs.toList.map ev).map (mV id blk)).getD i .top=mV id blk (ev xs[i]):=by simp[List.getD_eq_getElem?_getD,hi2]
 have e2:(xs.map a.eval).getD i undef=a.eval xs[i]:=by simp[hi2]
 rw[e1,e2]
 exact uD hh hc hfl (hv _ (by simp[ho,Op.operands,Call.operands]))
 rintro e w' ⟨v,D',rfl,hr,hb,hd1,hd2,hd3⟩
 have hz:(E.fr id).w=E.w:=rfl
 rw[hz] at hb hd2
 have hle:E.le { E with D:=D',w:=w' }:=⟨λ_ h=>h,λ_ _=>rfl,λb h=>hd1 b (.inl h),λb hb'=>hb.block b (hh.bnd b hb'),λ_ _=>rfl⟩
 have hn:∀b,D' b->(E.D b\/b=E.π id)\/E.w.heap.size<=b:=hd2
 refine k v { E with D:=D',w:=w' } hle (hb.mono hh.B) hr ⟨λi x hx=>?_,λi j x y hx hy=>?_,hd3,λi hi=>Nat.lt_of_lt_of_le (hh.abd i hi) hb.size,hh.le0.trans hle,λb hb'=>?_,Nat.le_trans hh.B hb.size⟩ λi hi=> .inl hi
 have hx2:(if id=i then Option.none else c i)=some x:=hx
 by_cases e1:id=i
 rw[if_pos e1] at hx2;cases hx2
 rw[if_neg e1] at hx2
 obtain⟨j1,j2,j3,j4⟩:=hh.live i x hx2
 refine⟨j1,j2.up hle (hb.block _ j2.lt),λh=>?_,j4⟩
 rcases hn _ h with(h|h)|h
 exact j3 h
 exact hh.inj i id x blk hx2 hc (λe=>e1 e.symm) h
 have:E.π i<E.w.heap.size:=j2.lt
 have h:E.w.heap.size<=E.π i:=h
 omega
 have hx2:(if id=i then Option.none else c i)=some x:=hx
 have hy2:(if id=j then Option.none else c j)=some y:=hy
 by_cases e1:id=i
 rw[if_pos e1] at hx2;cases hx2
 by_cases e2:id=j
 rw[if_pos e2] at hy2;cases hy2
 rw[if_neg e1] at hx2;rw[if_neg e2] at hy2
 exact hh.inj i j x y hx2 hy2
 rcases hn b hb' with(h|h)|h
 exact hh.new b h
 exact .inr (by rw[h];exact l4)
 exact .inr (Nat.le_trans hh.B h)
theorem AeM {P:Program} {B:Nat} {D0:Bl} {s:St} {fn:Func} {r1 r2 r3 r4 r5:ResultVar} {x y z u t:AV} (hr:fn.results=#[r1,r2,r3,r4,r5]) (h1:Qb P B D0 s r1 x) (h2:Qb P B D0 s r2 y) (h3:Qb P B D0 s r3 z) (h4:Qb P B D0 s r4 u) (h5:Qb P B D0 s r5 t):Nn P B D0 fn s (mkTup [x,y,z,u,t]):=λE a hs=>by
 obtain⟨v1,e1,f1⟩:=h1 E a hs
 obtain⟨v2,e2,f2⟩:=h2 E a hs
 obtain⟨v3,e3,f3⟩:=h3 E a hs
 obtain⟨v4,e4,f4⟩:=h4 E a hs
 obtain⟨v5,e5,f5⟩:=h5 E a hs
 refine⟨.tuple #[v1,v2,v3,v4,v5],by simp[Jn,hr,e1,e2,e3,e4,e5],VR.tupl [x,y,z,u,t] _ rfl (λi hi=>?_) _ rfl⟩
 match i with
 |0=>exact f1
 |1=>exact f2
 |2=>exact f3
 |3=>exact f4
 |4=>exact f5
end Go.Proofs.YtldnjomacnjhnaaGreat
namespace Go.Proofs.YtldnjomacnjhnaaGreat
open Go.RowKit
inductive KI where
 |seq (y:Code)
 |blk (id:Nat)
 |lp (I:St->Prop)
 |scp
 |un (n:Nat) (b:Code)
inductive Md where
 |code (c:Code)
 |ops (a:Array Oper) (l:List Oper)
 |out (e:Exit)
structure Gd where
 m:Md
 k:List KI
 s:St
section
variable (P:Program) (R:Option Nat) (B:Nat) (D0:Bl)
def KQ (Q:Exit->St->Prop):List KI->Exit->St->Prop
 |[]=>Q
 | .seq y::k=>rB (λs1=>AC P R B D0 y s1 (KQ Q k)) (KQ Q k)
 | .blk id::k=>tV id (KQ Q k)
 | .lp I::k=>rB I (KQ Q k)
 | .scp::k=>Afm (KQ Q k)
 | .un n b::k=>rB (Ss P R B D0 b (KQ Q k) n) (KQ Q k)
def Nf (s s':St):Prop:=∀E a,Iz B D0 E s a->∃E',E'.w=E.w/\Iz B D0 E' s' a
def GoM (Q:Exit->St->Prop) (k:List KI) (s:St):Md->Prop
 | .code x=>AC P R B D0 x s (KQ P R B D0 Q k)
 | .ops a l=>AL P R B D0 a l s (KQ P R B D0 Q k)
 | .out e=>∃s',Nf B D0 s s'/\KQ P R B D0 Q k e s'
structure Go (Q:Exit->St->Prop) (c:Gd):Prop where
 m:GoM P R B D0 Q c.k c.s c.m
end
variable {P:Program} {R:Option Nat} {B:Nat} {D0:Bl} {Q:Exit->St->Prop} {c:Gd}
theorem Nf.refl (s:St):Nf B D0 s s:=λE _ h=>⟨E,rfl,h⟩
theorem Nf.trans {a b d:St} (h:Nf B D0 a b) (g:Nf B D0 b d):Nf B D0 a d:=λE x hs=>by
 obtain⟨E1,e1,h1⟩:=h E x hs
 obtain⟨E2,e2,h2⟩:=g E1 x h1
 exact⟨E2,e2.trans e1,h2⟩
theorem Aa5 {k:List KI} {s s':St} (hw:Nf B D0 s s'):∀m,GoM P R B D0 Q k s' m->GoM P R B D0 Q k s m
 | .code _,h=>Pt hw h
 | .ops _ _,h=>tR hw h
 | .out _,⟨s2,h1,h2⟩=>⟨s2,hw.trans h1,h2⟩
theorem Kg (s':St) (hw:Nf B D0 c.s s') (h:Go P R B D0 Q ⟨c.m,c.k,s'⟩):Go P R B D0 Q c:=⟨Aa5 hw _ h.m⟩
theorem hZ {x:Code} {s:St} {Q:Exit->St->Prop} {e:Exit} (h:∃s',Nf B D0 s s'/\Q e s') (hx:∀s,Q e s->AC P R B D0 x s Q):AC P R B D0 x s Q:=by
 obtain⟨s',h1,h2⟩:=h
 exact Pt h1 (hx s' h2)
def nN (a:Array Oper) (s:St) (o:Oper):Option Bool:=match o.guard with
 |none=>some true
 |some (j,b)=>match (a[j]?).bind (·.dst) with
  |some d=>match Bz s.t d with
   | .lit (.bool b')=>match b,b' with
    |true,true|false,false=>some true
    |_,_=>some false
   | .lit (.tuple v)=>match v.toList with
    |[]=>some false
    |_=>none
   |_=>none
  |none=>none
def AeQ (P:Program) (a:Array Oper) (o:Oper) (l:List Oper) (k:List KI) (s:St):Gd:=
 match nN a s o with
 |some true=>match evG P o s.ev (Bc s.h) s.nx with
  |some (V,f)=>bif f.low s.nx&&Jb o s.n then ⟨.ops a l,k,⟨Jk s.t o.dst V,f.ap s.h,f.nx s.nx,s.n⟩⟩ else ⟨.ops a (o::l),k,s⟩
  |none=>⟨.ops a (o::l),k,s⟩
 |some false=>bif Jb o s.n then ⟨.ops a l,k,⟨Jk s.t o.dst .undef,s.h,s.nx,s.n⟩⟩ else ⟨.ops a (o::l),k,s⟩
 |none=>⟨.ops a (o::l),k,s⟩
theorem nO {a:Array Oper} {s:St} {o:Oper} {l:List Oper} {Q:Exit->St->Prop} (h:nN a s o=some true) (V:AV) (f:Cf) (hlow:f.low s.nx=true) (hd:Jb o s.n=true) (ho:Ek P B D0 o s.ev (Bc s.h) V f) (hk:AL P R B D0 a l ⟨Jk s.t o.dst V,f.ap s.h,f.nx s.nx,s.n⟩ Q):AL P R B D0 a (o::l) s Q:=by
 unfold nN at h
 split at h
 rename_i hg;exact eV V f hg hlow hd ho hk
 rename_i j b hg
 split at h
 rename_i d hj
 split at h
 rename_i b' hv
 split at h
 exact iK V f hg hj hv hlow hd ho hk
 exact iK V f hg hj hv hlow hd ho hk
 cases h
 rename_i v hv
 split at h<;>cases h
 cases h
 cases h
theorem xP {a:Array Oper} {s:St} {o:Oper} {l:List Oper} {Q:Exit->St->Prop} (h:nN a s o=some false) (hd:Jb o s.n=true) (hk:AL P R B D0 a l ⟨Jk s.t o.dst .undef,s.h,s.nx,s.n⟩ Q):AL P R B D0 a (o::l) s Q:=by
 unfold nN at h
 split at h
 cases h
 rename_i j b hg
 split at h
 rename_i d hj
 split at h
 rename_i b' hv
 split at h
 cases h
 cases h
 rename_i h1 h2
 refine tS hg hj hv ?_ hd hk
 cases b<;>cases b'<;>first|rfl|exact(h1 rfl rfl).elim|exact(h2 rfl rfl).elim
 rename_i v hv
 split at h
 rename_i he
 refine mH hg hj (hv.trans ?_) hd hk
 have:v=#[]:=by cases v;simp_all
 subst this;rfl
 cases h
 cases h
 cases h
theorem AdL {a:Array Oper} {o:Oper} {l:List Oper} {k:List KI} {s:St} (h:Go P R B D0 Q (AeQ P a o l k s)):AL P R B D0 a (o::l) s (KQ P R B D0 Q k):=by
 unfold AeQ at h
 split at h
 rename_i hg
 split at h
 rename_i V f he
 cases hb:f.low s.nx&&Jb o s.n with
 |false=>rw[hb] at h;exact h.m
 |true=>
  rw[hb] at h
  have hb2:=Bool.and_eq_true_iff.1 hb
  exact nO hg V f hb2.1 hb2.2 (rK he) h.m
 exact h.m
 rename_i hg
 cases hb:Jb o s.n with
 |false=>rw[hb] at h;exact h.m
 |true=>rw[hb] at h;exact xP hg hb h.m
 exact h.m
def stp (P:Program):Gd->Gd
 |⟨.code x,k,s⟩=>match x with
  | .seq x y=>⟨.code x,.seq y::k,s⟩
  | .region _ a false=>⟨.ops a a.toList,k,s⟩
  | .skip=>⟨.out .normal,k,s⟩
  | .label _=>⟨.out .normal,k,s⟩
  | .block id x=>⟨.code x,.blk id::k,s⟩
  | .scope x=>⟨.code x,.scp::k,s⟩
  | .exit id=>⟨.out (.exit id),k,s⟩
  | .ret=>⟨.out .ret,k,s⟩
  | .cond d x y=>match s.ev d with
   | .lit (.bool true)=>⟨.code x,k,s⟩
   | .lit (.bool false)=>⟨.code y,k,s⟩
   |_=>⟨.code (.cond d x y),k,s⟩
  |x=>⟨.code x,k,s⟩
 |⟨.ops _ [],k,s⟩=>⟨.out .normal,k,s⟩
 |⟨.ops a (o::l),k,s⟩=>AeQ P a o l k s
 |⟨.out .normal,.seq y::k,s⟩=>⟨.code y,k,s⟩
 |⟨.out .normal,.blk _::k,s⟩=>⟨.out .normal,k,s⟩
 |⟨.out .normal,.scp::k,s⟩=>⟨.out .normal,k,s⟩
 |⟨.out .normal,.un (n+1) b::k,s⟩=>⟨.code b,.un n b::k,s⟩
 |⟨.out (.exit id),.blk id'::k,s⟩=>bif Nat.beq id id' then ⟨.out .normal,k,s⟩ else ⟨.out (.exit id),k,s⟩
 |⟨.out (.exit id),.seq _::k,s⟩=>⟨.out (.exit id),k,s⟩
 |⟨.out (.exit id),.lp _::k,s⟩=>⟨.out (.exit id),k,s⟩
 |⟨.out (.exit id),.scp::k,s⟩=>⟨.out (.exit id),k,s⟩
 |⟨.out (.exit id),.un _ _::k,s⟩=>⟨.out (.exit id),k,s⟩
 |⟨.out .ret,_::k,s⟩=>⟨.out .ret,k,s⟩
 |c=>c
theorem Lj {k:List KI} {s:St} {e:Exit} {i:KI} (h:GoM P R B D0 Q k s (.out e)) (hk:∀s,KQ P R B D0 Q k e s->KQ P R B D0 Q (i::k) e s):GoM P R B D0 Q (i::k) s (.out e):=by
 obtain⟨s',h1,h2⟩:=h
 exact⟨s',h1,hk _ h2⟩
theorem AdK {k:List KI} {s:St}:∀x,Go P R B D0 Q (stp P ⟨.code x,k,s⟩)->AC P R B D0 x s (KQ P R B D0 Q k)
 | .seq x y,h=>Jg h.m
 | .region _ ⟨l⟩ false,h=>Je (l:=l) h.m
 | .region _ _ true,h=>h.m
 | .skip,h=>hZ h.m λ_ h=>Lr h
 | .label _,h=>hZ h.m λ_ h=>Aan h
 | .block id x,h=>Kd h.m
 | .scope x,h=>Aap h.m
 | .exit id,h=>hZ h.m λ_ h=>Ut h
 | .ret,h=>hZ h.m λ_ h=>Pu h
 | .cond d x y,h=>by
  unfold stp at h
  dsimp only at h
  split at h
  rename_i hb;exact iB hb rfl h.m
  rename_i hb;exact aD hb rfl h.m
  exact h.m
 | .loop _,h=>h.m
 | .rangeFunc ..,h=>h.m
 | .goto _,h=>h.m
 | .refuse _,h=>h.m
theorem AeR:∀c,Go P R B D0 Q (stp P c)->Go P R B D0 Q c
 |⟨.code x,k,s⟩,h=>⟨AdK x h⟩
 |⟨.ops _ [],k,s⟩,h=>by
  obtain⟨s',h1,h2⟩:=h.m
  exact⟨tR h1 (Aer h2)⟩
 |⟨.ops _ (_::_),_,_⟩,h=>⟨AdL h⟩
 |⟨.out .normal,.seq y::k,s⟩,h=>⟨⟨s,Nf.refl s,h.m⟩⟩
 |⟨.out .normal,.blk _::k,s⟩,h=>⟨Lj h.m λ_ h=>h⟩
 |⟨.out .normal,.scp::k,s⟩,h=>⟨Lj h.m λ_ h=>h⟩
 |⟨.out .normal,.lp _::k,s⟩,h=>h
 |⟨.out .normal,.un 0 _::k,s⟩,h=>h
 |⟨.out .normal,.un (n+1) b::k,s⟩,h=>⟨⟨s,Nf.refl s,h.m⟩⟩
 |⟨.out (.exit id),.blk id'::k,s⟩,h=>by
  have h:Go P R B D0 Q (bif Nat.beq id id' then ⟨.out .normal,k,s⟩ else ⟨.out (.exit id),k,s⟩):=h
  cases hb:Nat.beq id id' with
  |false=>rw[hb] at h;exact⟨Lj h.m λ_ h=>by show (bif Nat.beq id id' then _ else _);rw[hb];exact h⟩
  |true=>
   rw[hb] at h
   obtain⟨s',h1,h2⟩:=h.m
   exact⟨⟨s',h1,by show (bif Nat.beq id id' then _ else _);rw[hb];exact h2⟩⟩
 |⟨.out (.exit id),.seq _::k,s⟩,h=>⟨Lj h.m λ_ h=>h⟩
 |⟨.out (.exit id),.lp _::k,s⟩,h=>⟨Lj h.m λ_ h=>h⟩
 |⟨.out (.exit id),.scp::k,s⟩,h=>⟨Lj h.m λ_ h=>h⟩
 |⟨.out (.exit id),.un _ _::k,s⟩,h=>⟨Lj h.m λ_ h=>h⟩
 |⟨.out .ret,.seq _::k,s⟩,h=>⟨Lj h.m λ_ h=>h⟩
 |⟨.out .ret,.blk _::k,s⟩,h=>⟨Lj h.m λ_ h=>h⟩
 |⟨.out .ret,.lp _::k,s⟩,h=>⟨Lj h.m λ_ h=>h⟩
 |⟨.out .ret,.scp::k,s⟩,h=>⟨Lj h.m λ_ h=>h⟩
 |⟨.out .ret,.un _ _::k,s⟩,h=>⟨Lj h.m λ_ h=>h⟩
 |⟨.out .normal,[],_⟩,h=>h
 |⟨.out (.exit _),[],_⟩,h=>h
 |⟨.out .ret,[],_⟩,h=>h
 |⟨.out (.goto _),_,_⟩,h=>h
 |⟨.out (.panic _),_,_⟩,h=>h
 |⟨.out .outgrown,_,_⟩,h=>h
def run (P:Program):Nat->Gd->Gd
 |0,c=>c
 |n+1,c=>run P n (stp P c)
theorem Ae:∀(n:Nat) {c:Gd},Go P R B D0 Q (run P n c)->Go P R B D0 Q c
 |0,_,h=>h
 |n+1,c,h=>AeR c (Ae n h)
def Gd.a (c:Gd):Array Oper:=match c.m with| .ops a _=>a|_=>#[]
def Gd.l (c:Gd):List Oper:=match c.m with| .ops _ l=>l|_=>[]
def Gd.o (c:Gd):Oper:=match c.l with|o::_=>o|[]=>default
def Gd.ok (c:Gd):Bool:=match c.m with
 | .ops a (o::_)=>nN a c.s o==some true&&Jb o c.s.n
 |_=>false
def Gd.put (c:Gd) (V:AV) (f:Cf):Gd:=⟨match c.m with| .ops a (_::l)=> .ops a l|m=>m,c.k,⟨Jk c.s.t c.o.dst V,f.ap c.s.h,f.nx c.s.nx,c.s.n⟩⟩
theorem Ym (V:AV) (f:Cf) (h:Ek P B D0 c.o c.s.ev (Bc c.s.h) V f) (hk:Go P R B D0 Q (c.put V f)) (hok:c.ok=true) (hlow:f.low c.s.nx=true):Go P R B D0 Q c:=by
 obtain⟨m,k,s⟩:=c
 cases m with
 |code x=>cases hok
 |out e=>cases hok
 |ops a l=>
  cases l with
  |nil=>cases hok
  |cons o l=>
   have hok:(nN a s o==some true&&Jb o s.n)=true:=hok
   obtain⟨h1,h2⟩:=Bool.and_eq_true_iff.1 hok
   exact⟨nO (by simpa using h1) V f hlow h2 h hk.m⟩
end Go.Proofs.YtldnjomacnjhnaaGreat
namespace Go.Proofs.YtldnjomacnjhnaaGreat
open Go.RowKit
variable {P:Program} {R:Option Nat} {B:Nat} {D0:Bl} {Q:Exit->St->Prop} {c:Gd}
def Gd.add (c:Gd) (d:Nat) (b:Bool):Gd:=⟨c.m,c.k,⟨(d,.bool b)::c.s.t,c.s.h,c.s.nx,c.s.n⟩⟩
theorem Iw (d:Nat) (b v:Bool) (hb:b=v) (hk:Go P R B D0 Q (c.add d v)) (hd:Bz c.s.t d= .bool b:=by kernel_rfl):Go P R B D0 Q c:=
 Kg _ (λE a hs=>fV d b v hb hd E a hs) hk
theorem qN (d:Nat) (b:Bool) (h1:b=true->Go P R B D0 Q (c.add d true)) (h2:b=false->Go P R B D0 Q (c.add d false)) (hd:Bz c.s.t d= .bool b:=by kernel_rfl):Go P R B D0 Q c:=
 Dx b (λh=>Iw d b true h (h1 h) hd) (λh=>Iw d b false h (h2 h) hd)
theorem lG (d:Nat) (b:Bool) (h1:b=true->Go P R B D0 Q (c.add d false)) (h2:b=false->Go P R B D0 Q (c.add d true)) (hd:Bz c.s.t d= .bool (!b):=by kernel_rfl):Go P R B D0 Q c:=
 Dx b (λh=>Iw d (!b) false (by rw[h];rfl) (h1 h) hd) (λh=>Iw d (!b) true (by rw[h];rfl) (h2 h) hd)
theorem Ft (d:Nat) (p:Prop) [Decidable p] (h1:decide p=true->p->Go P R B D0 Q (c.add d true)) (h2:decide p=false->¬p->Go P R B D0 Q (c.add d false)) (hd:Bz c.s.t d= .bool (decide p):=by kernel_rfl):Go P R B D0 Q c:=
 qN d (decide p) (λh=>h1 h (of_decide_eq_true h)) (λh=>h2 h (of_decide_eq_false h)) hd
theorem AeY (d:Nat) (p:Prop) [Decidable p] (h1:decide p=true->p->Go P R B D0 Q (c.add d false)) (h2:decide p=false->¬p->Go P R B D0 Q (c.add d true)) (hd:Bz c.s.t d= .bool (!decide p):=by kernel_rfl):Go P R B D0 Q c:=
 lG d (decide p) (λh=>h1 h (of_decide_eq_true h)) (λh=>h2 h (of_decide_eq_false h)) hd
theorem vsp {G:Prop} (p:Prop) [Decidable p] (h1:decide p=true->p->G) (h2:decide p=false->¬p->G):G:=
 Dx (decide p) (λh=>h1 h (of_decide_eq_true h)) (λh=>h2 h (of_decide_eq_false h))
theorem Nd (v v':Value) (hk:Go P R B D0 Q (c.put (.lit v') .none)) (hv:v=v':=by rfl) (hx:(c.o.op.operands.toList.all λx=>(c.s.ev x).isLit)=true:=by kernel_rfl) (hs:Sb c.o=true:=by kernel_rfl) (hrun:∀w,(execOp (λx=>(c.s.ev x).val) c.o).run P w= .ok (.value v) w:=by intro w;kernel_rfl) (hok:c.ok=true:=by kernel_rfl):Go P R B D0 Q c:=
 Ym (.lit v') .none (Cn _ hx rfl hs hrun hv) hk hok rfl
theorem Fr (x y:Int) (hk:Go P R B D0 Q (c.put (.int y) .none)) (hr: -9223372036854775808<=x/\x<=9223372036854775807:=by omega) (he:x=y:=by omega) (hx:(c.o.op.operands.toList.all λx=>(c.s.ev x).isLit)=true:=by kernel_rfl) (hs:Sb c.o=true:=by kernel_rfl) (hrun:∀w,(execOp (λx=>(c.s.ev x).val) c.o).run P w= .ok (.value (.int .i64 (IntKind.wrap .i64 x))) w:=by intro w;kernel_rfl) (hok:c.ok=true:=by kernel_rfl):Go P R B D0 Q c:=
 Ym (.int y) .none (Cn _ hx rfl hs hrun (congrArg (Value.int .i64) ((IntWalk.i64_in x hr).trans he))) hk hok rfl
theorem Ce (V:AV) (f:Cf) {V0:AV} {f0:Cf} (h:Ek P B D0 c.o c.s.ev (Bc c.s.h) V0 f0) (hk:Go P R B D0 Q (c.put V f)) (hok:c.ok=true:=by kernel_rfl) (hlow:f.low c.s.nx=true:=by kernel_rfl) (hV:V0=V:=by kernel_rfl) (hf:f0=f:=by kernel_rfl):Go P R B D0 Q c:=Ym V f (hV▸hf▸h) hk hok hlow
def Gd.xs (c:Gd):Array Operand:=match c.o.op with| .call cl=>cl.args|_=>#[]
def Gd.ts (c:Gd):Array TypeId:=match c.o.op with| .call cl=>cl.argTypes|_=>#[]
theorem Cz {f:FuncId} {args:List AV} {r:AV} (hf:AF P f args r) (hk:Go P R B D0 Q (c.put r .none)) (ho:c.o.op= .call { callee:= .value (.func f),args:=c.xs,argTypes:=c.ts }:=by kernel_rfl) (hargs:c.xs.toList.map c.s.ev=args:=by kernel_rfl) (hfree:args.all AV.free=true:=by kernel_rfl) (hok:c.ok=true:=by kernel_rfl) (hcall:∀(vs:Array Value) w,(callFunc f vs).run P w= .ok (.enter f vs) w:=by intro _ _;kernel_rfl):Go P R B D0 Q c:=
 Ym r .none (We f c.xs c.ts ho hcall args hargs hfree r hf) hk hok rfl
def Abx:AV->Nat
 | .sl _ n _=>n
 | .slc _ n _=>n
 | .osl _ _ n=>n
 |_=>0
def Fv:AV->Nat->AV
 | .sl e _ f,k=> .elt e λq=>(f k).cell q
 | .slc e _ f,k=> .elt e λq=>(f k).cell q
 | .osl id e _,k=> .ptr id (k*e)
 |_,_=> .top
def Oper.ixX (o:Oper):Operand:=match o.op with| .indexAddr _ x _=>x|_=>default
def Oper.ixY (o:Oper):Operand:=match o.op with| .indexAddr _ _ y=>y|_=>default
def ixB (P:Program) (o:Oper) (x:AV):Bool:=match o.op with
 | .indexAddr T _ _=>match P.underlying T with
  |some (.slice el)=>match Lm P el with
   |some e=>match x with
    | .sl e' _ _=>Nat.beq e e'
    | .slc e' _ _=>Nat.beq e e'
    | .osl _ e' _=>Nat.beq e e'
    |_=>false
   |none=>false
  |_=>false
 |_=>false
theorem uZ {o:Oper} {ev:Operand->AV} {pre:Nat->Option Ck} (j:Int) (k:Nat) (hb:ixB P o (ev (Oper.ixX o))=true) (hy:ev (Oper.ixY o)= .int j) (hj:j=(k:Int)) (hk:k<Abx (ev (Oper.ixX o))):Ek P B D0 o ev pre (Fv (ev (Oper.ixX o)) k) .none:=by
 unfold ixB at hb
 split at hb
 rename_i T x y ho
 have ex:Oper.ixX o=x:=by unfold Oper.ixX;rw[ho]
 have ey:Oper.ixY o=y:=by unfold Oper.ixY;rw[ho]
 rw[ex] at hb hk ⊢
 rw[ey] at hy
 split at hb
 rename_i el hu
 split at hb
 rename_i e he
 split at hb
 rename_i e' n f hx
 obtain rfl:=Nat.eq_of_beq_eq_true hb
 rw[hx] at hk ⊢
 exact Ql T x y ho hu e n k f j hx hy (Ep he) hj hk
 rename_i e' n f hx
 obtain rfl:=Nat.eq_of_beq_eq_true hb
 rw[hx] at hk ⊢
 exact Ek.wk (Ql T x y ho hu e n k f j (by rw[hx];rfl) (by rw[hy];rfl) (Ep he) hj hk)
 rename_i id e' n hx
 obtain rfl:=Nat.eq_of_beq_eq_true hb
 rw[hx] at hk ⊢
 exact eA T x y ho hu id e n k j hx hy (Ep he) hj hk
 cases hb
 cases hb
 cases hb
 cases hb
def Gd.ixP (c:Gd) (k:Nat):Gd:=c.put (Fv (c.s.ev (Oper.ixX c.o)) k) .none
theorem Gn (k n:Nat) (hk:Go P R B D0 Q (c.ixP k)) (hlt:k<n:=by omega) (hb:ixB P c.o (c.s.ev (Oper.ixX c.o))=true:=by kernel_rfl) (hn:Abx (c.s.ev (Oper.ixX c.o))=n:=by kernel_rfl) (hy:c.s.ev (Oper.ixY c.o)= .int (k:Int):=by kernel_rfl) (hok:c.ok=true:=by kernel_rfl):Go P R B D0 Q c:=
 Ym _ .none (uZ _ k hb hy rfl (by rw[hn];exact hlt)) hk hok rfl
theorem AfP (j:Int) (k n:Nat) (hk:Go P R B D0 Q (c.ixP k)) (hlt:k<n:=by omega) (hj:j=(k:Int):=by omega) (hb:ixB P c.o (c.s.ev (Oper.ixX c.o))=true:=by kernel_rfl) (hn:Abx (c.s.ev (Oper.ixX c.o))=n:=by kernel_rfl) (hy:c.s.ev (Oper.ixY c.o)= .int j:=by kernel_rfl) (hok:c.ok=true:=by kernel_rfl):Go P R B D0 Q c:=
 Ym _ .none (uZ j k hb hy hj (by rw[hn];exact hlt)) hk hok rfl
theorem Ox {o:Oper} {ev:Operand->AV} {pre:Nat->Option Ck} {V:AV} (k n:Nat) (hlt:k<n:=by omega) (hb:ixB P o (ev (Oper.ixX o))=true:=by kernel_rfl) (hn:Abx (ev (Oper.ixX o))=n:=by kernel_rfl) (hy:ev (Oper.ixY o)= .int (k:Int):=by kernel_rfl) (hV:Fv (ev (Oper.ixX o)) k=V:=by kernel_rfl):Ek P B D0 o ev pre V .none:=hV▸uZ _ k hb hy rfl (by rw[hn];exact hlt)
theorem Ae6 {o:Oper} {ev:Operand->AV} {pre:Nat->Option Ck} {V:AV} (j:Int) (k n:Nat) (hlt:k<n:=by omega) (hj:j=(k:Int):=by omega) (hb:ixB P o (ev (Oper.ixX o))=true:=by kernel_rfl) (hn:Abx (ev (Oper.ixX o))=n:=by kernel_rfl) (hy:ev (Oper.ixY o)= .int j:=by kernel_rfl) (hV:Fv (ev (Oper.ixX o)) k=V:=by kernel_rfl):Ek P B D0 o ev pre V .none:=hV▸uZ j k hb hy hj (by rw[hn];exact hlt)
theorem Ac3 {x:Code} {s:St} (h:AC P R B D0 x s (λe s=>∃s',Nf B D0 s s'/\Q e s')):AC P R B D0 x s Q:=⟨λE a hs=>
 Er (λe a' w' ⟨s1,E',h1,⟨s',hk,hq⟩,h3,h4⟩=>by
  obtain⟨E2,e2,h5⟩:=hk E' a' h3
  exact⟨s',E2,e2.trans h1,hq,h5,h4⟩) (h.run E a hs)⟩
def Gd.dl (c:Gd):List Oper:=match c.m with| .code (.region _ a true)=>a.toList|_=>[]
def Gd.dr (P:Program) (c:Gd) (ex:tU):List AV×List Cf:=(dR P c.dl.toArray ex c.s c.dl [] []).getD ([],[])
def Gd.drawn (P:Program) (c:Gd) (ex:tU) (keep:List Nat):Gd:=⟨.out .normal,c.k,⟨sJ c.dl.toArray (c.dr P ex).1 c.s keep,Hn (c.dr P ex).2 c.s.h c.dl.toArray.size,nxF (c.dr P ex).2 c.s.nx,c.s.n⟩⟩
theorem Kq (ex:tU) (keep:List Nat) (hop:bF P B D0 c.dl (c.dr P ex).1 (c.dr P ex).2 c.s ex)
  (hk:Go P R B D0 Q (c.drawn P ex keep))
  (hm:P.follows .mixedOrders=true:=by kernel_rfl) (hr:(dR P c.dl.toArray ex c.s c.dl [] []).isSome=true:=by kernel_rfl) (hB:drB c.dl.toArray (c.dr P ex).2 c.s.nx c.s.n=true:=by kernel_rfl) (hnx:nxB (c.dr P ex).2 c.s.nx (nxF (c.dr P ex).2 c.s.nx)=true:=by kernel_rfl) (hc:(match c.m with| .code (.region _ _ true)=>true|_=>false)=true:=by kernel_rfl):Go P R B D0 Q c:=by
 obtain⟨m,k,s⟩:=c
 split at hc
 rename_i id a hmm
 cases hmm
 obtain⟨l⟩:=a
 exact⟨Ac3 (Aeg ex keep _ hop hk.m hm hr hB hnx)⟩
 cases hc
def fY (keep:List Nat) (s:St):St:=⟨keep.map λt=>(t,Bz s.t t),s.h,s.nx,s.n⟩
theorem Sz (keep:List Nat) (s:St):Nf B D0 s (fY keep s):=λE a hs=>oM keep _ rfl E a hs
def Gd.lb (c:Gd):Code:=match c.m with| .code (.loop b)=>b|_=> .skip
def Gd.isL (c:Gd):Bool:=match c.m with| .code (.loop _)=>true|_=>false
def Gd.round (c:Gd) (J:St->Prop) (s:St):Gd:=⟨.code c.lb,.lp J::c.k,s⟩
theorem lK (keep:List Nat) (I:Nat->St->Prop) (m:Nat) (h0:I m (fY keep c.s)) (h:∀m s,I m s->∀J:St->Prop,(∀m' s',m'<m->I m' s'->J s')->Go P R B D0 Q (c.round J s)) (hl:c.isL=true:=by kernel_rfl):Go P R B D0 Q c:=by
 refine Kg _ (Sz keep c.s) ?_
 obtain⟨md,k,s⟩:=c
 unfold Gd.isL at hl
 split at hl
 rename_i b hm
 cases hm
 exact⟨Xz I m h0 λm s hI=>(h m s hI _ λm' s' h1 h2=>⟨m',h1,h2⟩).m⟩
 cases hl
theorem Mf (keep:List Nat) (n:Nat) (F:Nat->Prop) (st:Nat->St) (h0:F 0) (h:∀i,i<=n->F i->∀J:St->Prop,(i<n->F (i+1)->J (st (i+1)))->Go P R B D0 Q (c.round J (st i))) (hs:fY keep c.s=st 0:=by kernel_rfl) (hl:c.isL=true:=by kernel_rfl):Go P R B D0 Q c:=
 lK keep (λm s=>∃i,i<=n/\m=n-i/\F i/\s=st i) n ⟨0,Nat.zero_le _,rfl,h0,hs⟩ (λm s ⟨i,h1,h2,h3,h4⟩ J hJ=>by
  subst h4
  exact h i h1 h3 J λg1 g2=>hJ (n-(i+1)) _ (by omega) ⟨i+1,g1,rfl,g2,rfl⟩) hl
def Gd.J (c:Gd):St->Prop:=match c.k with| .lp J::_=>J|_=>λ_=>False
def Gd.isN (c:Gd):Bool:=match c.m with| .out .normal=>true|_=>false
theorem AfC {J:St->Prop} (s':St) (hw:Nf B D0 c.s s') (h:J s') (hT:c.J=J:=by kernel_rfl) (hn:c.isN=true:=by kernel_rfl):Go P R B D0 Q c:=by
 obtain⟨m,k,s⟩:=c
 unfold Gd.isN at hn
 split at hn
 rename_i hm
 cases hm
 subst hT
 cases k with
 |nil=>exact h.elim
 |cons i k=>cases i with
  |lp J=>exact⟨⟨s',hw,h⟩⟩
  |_=>exact h.elim
 cases hn
theorem Om {J:St->Prop} (keep:List Nat) {s':St} (h:J s') (hs:fY keep c.s=s':=by kernel_rfl) (hT:c.J=J:=by kernel_rfl) (hn:c.isN=true:=by kernel_rfl):Go P R B D0 Q c:=AfC _ (Sz keep c.s) (hs▸h) hT hn
abbrev AcI:=List (TypeId×Nat×Nat×(Nat->AV))
def pY:Dz->AcI
 |[]=>[]
 |(_,.vec t e n f)::h=>(t,e,n,f)::pY h
 |(_,.box _ _)::h=>pY h
 |(_,.loop ..)::h=>pY h
def Abj:AcI->Prop
 |[]=>True
 |(_,e,n,f)::l=>(∀i,i<n->∀j,j<e->((f i).cell j).flat=true)/\Abj l
theorem Vn:∀{h:Dz} {l:AcI},pY h=l->Abj l->Mr h
 |[],_,_,_=>trivial
 |(_,.vec _ _ _ _)::h,_,rfl,hl=>⟨hl.1,Vn (h:=h) rfl hl.2⟩
 |(_,.box _ _)::h,_,hv,hl=>Vn (h:=h) hv hl
 |(_,.loop ..)::h,_,hv,hl=>Vn (h:=h) hv hl
theorem Hu {J:St->Prop} (keep:List Nat) (ρ:List (Nat×Nat)) (nx k0:Nat) (hA0:∀id,D0.A id->id<k0) (L:AcI) (hfl:Abj L) {s':St} (h:J s') (hv:pY c.s.h=L:=by kernel_rfl) (hs:(⟨mapT (Up ρ) (fY keep c.s).t,zC ρ c.s.h,nx,c.s.n⟩:St)=s':=by kernel_rfl) (hd:Qy (ρ.map (·.2))=true:=by kernel_rfl) (hd1:Qy (ρ.map (·.1))=true:=by kernel_rfl) (hl:(ρ.all λp=>(Bc c.s.h p.1).isSome&&Nat.blt p.2 nx)=true:=by kernel_rfl) (hk0:(Nat.ble k0 nx&&ρ.all λp=>Nat.beq p.1 p.2||Nat.ble k0 p.2)=true:=by kernel_rfl) (hT:c.J=J:=by kernel_rfl) (hn:c.isN=true:=by kernel_rfl):Go P R B D0 Q c:=
 AfC s' (Nf.trans (Sz keep c.s) λE a hs'=>vS ρ nx k0 hA0 s' hs hd hd1 hl hk0 (Vn hv hfl) E a hs') h hT hn
def Gd.frzS (c:Gd) (id:Nat) (ds:List Nat) (V:AV):Gd:=⟨c.m,c.k,⟨ds.map (λd=>(d,V))++c.s.t,Hl c.s.h id,c.s.nx,c.s.n⟩⟩
theorem dL (id:Nat) (ds:List Nat) (t:TypeId) (e n:Nat) (f:Nat->AV) (hf:∀i,i<n->∀j,j<e->((f i).cell j).flat=true) (hk:Go P R B D0 Q (c.frzS id ds (.sl e n f))) (hd:ds.map (Bz c.s.t)=ds.map λ_=> .osl id e n:=by kernel_rfl) (hc:Bc c.s.h id=some (.vec t e n f):=by kernel_rfl):Go P R B D0 Q c:=
 Kg _ (λE a hs=>nL id ds t e n f hd hc hf E a hs) hk
theorem Acp (id:Nat) (ds:List Nat) (t:TypeId) (e n:Nat) (f:Nat->AV) (hf:∀i,i<n->∀j,j<e->((f i).cell j).flat=true) (hk:Go P R B D0 Q (c.frzS id ds (.slc e n f))) (hd:ds.map (Bz c.s.t)=ds.map λ_=> .osl id e n:=by kernel_rfl) (hc:Bc c.s.h id=some (.vec t e n f):=by kernel_rfl):Go P R B D0 Q c:=
 Kg _ (λE a hs=>jO id ds t e n f hd hc hf E a hs) hk
def Gd.box (c:Gd) (id:Nat):List AV:=match Bc c.s.h id with|some (.box _ cs)=>cs|_=>[]
def Gd.boxT (c:Gd) (id:Nat):TypeId:=match Bc c.s.h id with|some (.box t _)=>t|_=>0
def Gd.frzB (c:Gd) (id:Nat):Gd:=⟨c.m,c.k,⟨mapT (YtldnjomacnjhnaaGreat.frzB id (c.box id)) c.s.t,(Hl c.s.h id).map λp=>(p.1,p.2.mapB (YtldnjomacnjhnaaGreat.frzB id (c.box id))),c.s.nx,c.s.n⟩⟩
theorem tF (id:Nat) (hk:Go P R B D0 Q (c.frzB id)) (hc:Bc c.s.h id=some (.box (c.boxT id) (c.box id)):=by kernel_rfl) (hf:(c.box id).all AV.free=true:=by kernel_rfl):Go P R B D0 Q c:=
 Kg _ (λE a hs=>jM id _ _ _ hc rfl hf E a hs) hk
def Gd.setB (c:Gd) (id:Nat) (b:Ck):Gd:=⟨c.m,c.k,⟨c.s.t,hset c.s.h id b,c.s.nx,c.s.n⟩⟩
theorem Xy (id:Nat) (t:TypeId) (e n:Nat) (f g:Nat->AV) (hfg:∀i,i<n->f i=g i) (hk:Go P R B D0 Q (c.setB id (.vec t e n g))) (hc:Bc c.s.h id=some (.vec t e n f):=by kernel_rfl):Go P R B D0 Q c:=
 Kg _ (λE a hs=>qB id t e n f g hc hfg E a hs) hk
def Gd.upN (c:Gd) (nx:Nat):Gd:=⟨c.m,c.k,⟨c.s.t,c.s.h,nx,c.s.n⟩⟩
theorem Aaf (nx:Nat) (hk:Go P R B D0 Q (c.upN nx)) (hn:Nat.ble c.s.nx nx=true:=by kernel_rfl):Go P R B D0 Q c:=
 Kg _ (λE a hs=>AeW nx (Nat.le_of_ble_eq_true hn) E a hs) hk
def Ie (P:Program) (s:St):ResultVar->Option AV
 | .tmp t=>bif (Bz s.t t).free then some (Bz s.t t) else none
 | .cell q T=>match Bz s.t q with
  | .ptr id off=>match Bc s.h id with
   |some (.box _ cs)=>match dH P T with
    |some false=>bif Nat.blt off cs.length&&(cs.getD off .top).free then some (cs.getD off .top) else none
    |some true=>match Lm P T with
     |some n=>bif Nat.ble (off+n) cs.length&&(mkAgg ((cs.drop off).take n)).free then some (mkAgg ((cs.drop off).take n)) else none
     |none=>none
    |none=>none
   |_=>none
  |_=>none
theorem Eo {s:St} {rv:ResultVar} {x:AV} (h:Ie P s rv=some x):Qb P B D0 s rv x:=by
 unfold Ie at h
 split at h
 rename_i t
 cases hb:(Bz s.t t).free with
 |false=>rw[hb] at h;cases h
 |true=>rw[hb] at h;cases h;exact AbQ rfl hb
 rename_i q T
 split at h
 rename_i id off hq
 split at h
 rename_i t cs hc
 split at h
 rename_i ha
 cases hb:Nat.blt off cs.length&&(cs.getD off .top).free with
 |false=>rw[hb] at h;cases h
 |true=>
  rw[hb] at h;cases h
  have hb2:=Bool.and_eq_true_iff.1 hb
  exact Jm id (Ht ha) off cs hq t hc (by simpa [Nat.blt_eq] using hb2.1) rfl hb2.2
 rename_i ha
 split at h
 rename_i n hn
 cases hb:Nat.ble (off+n) cs.length&&(mkAgg ((cs.drop off).take n)).free with
 |false=>rw[hb] at h;cases h
 |true=>
  rw[hb] at h;cases h
  have hb2:=Bool.and_eq_true_iff.1 hb
  exact zD id (Ht ha) n (Ep hn) off cs hq t hc (Nat.le_of_ble_eq_true hb2.1) rfl hb2.2
 cases h
 cases h
 cases h
 cases h
theorem AeL {s:St} {fn:Func} {r1 r2 r3 r4:ResultVar} {x y z u:AV} (hr:fn.results=#[r1,r2,r3,r4]) (h1:Qb P B D0 s r1 x) (h2:Qb P B D0 s r2 y) (h3:Qb P B D0 s r3 z) (h4:Qb P B D0 s r4 u):Nn P B D0 fn s (mkTup [x,y,z,u]):=λE a hs=>by
 obtain⟨v1,e1,f1⟩:=h1 E a hs
 obtain⟨v2,e2,f2⟩:=h2 E a hs
 obtain⟨v3,e3,f3⟩:=h3 E a hs
 obtain⟨v4,e4,f4⟩:=h4 E a hs
 refine⟨.tuple #[v1,v2,v3,v4],by simp[Jn,hr,e1,e2,e3,e4],VR.tupl [x,y,z,u] _ rfl (λi hi=>?_) _ rfl⟩
 match i with
 |0=>exact f1
 |1=>exact f2
 |2=>exact f3
 |3=>exact f4
def nH (P:Program) (fn:Func) (s:St):Option AV:=match fn.results.toList with
 |[]=>some (.lit (.tuple #[]))
 |[r]=>Ie P s r
 |[r1,r2]=>match Ie P s r1,Ie P s r2 with
  |some x,some y=>some (mkTup [x,y])
  |_,_=>none
 |[r1,r2,r3]=>match Ie P s r1,Ie P s r2,Ie P s r3 with
  |some x,some y,some z=>some (mkTup [x,y,z])
  |_,_,_=>none
 |[r1,r2,r3,r4]=>match Ie P s r1,Ie P s r2,Ie P s r3,Ie P s r4 with
  |some x,some y,some z,some u=>some (mkTup [x,y,z,u])
  |_,_,_,_=>none
 |[r1,r2,r3,r4,r5]=>match Ie P s r1,Ie P s r2,Ie P s r3,Ie P s r4,Ie P s r5 with
  |some x,some y,some z,some u,some t=>some (mkTup [x,y,z,u,t])
  |_,_,_,_,_=>none
 |_=>none
theorem nI {fn:Func} {s:St} {V:AV} (h:nH P fn s=some V):Nn P B D0 fn s V:=by
 have key:∀l,fn.results.toList=l->fn.results=l.toArray:=λl h=>by rw[<-h]
 unfold nH at h
 split at h
 rename_i hr;cases h;exact sP (key _ hr)
 rename_i hr;exact AeJ (key _ hr) (Eo h)
 rename_i hr
 split at h
 rename_i h1 h2;cases h;exact kW (key _ hr) (Eo h1) (Eo h2)
 cases h
 rename_i hr
 split at h
 rename_i h1 h2 h3;cases h;exact AeK (key _ hr) (Eo h1) (Eo h2) (Eo h3)
 cases h
 rename_i hr
 split at h
 rename_i h1 h2 h3 h4;cases h;exact AeL (key _ hr) (Eo h1) (Eo h2) (Eo h3) (Eo h4)
 cases h
 rename_i hr
 split at h
 rename_i h1 h2 h3 h4 h5;cases h;exact AeM (key _ hr) (Eo h1) (Eo h2) (Eo h3) (Eo h4) (Eo h5)
 cases h
 cases h
def QF (P:Program) (B:Nat) (D0:Bl) (fn:Func) (r:AV):Exit->St->Prop:=λe s=>(e= .ret\/e= .normal)/\Nn P B D0 fn s r
def Gd.isE (c:Gd):Bool:=match c.m,c.k with| .out .normal,[]=>true| .out .ret,[]=>true|_,_=>false
theorem Fw {fn:Func} {r:AV} (V:AV) (h:V=r) (hv:nH P fn c.s=some V:=by kernel_rfl) (hn:c.isE=true:=by kernel_rfl):Go P R B D0 (QF P B D0 fn r) c:=by
 subst h
 have hr:=nI (B:=B) (D0:=D0) hv
 obtain⟨m,k,s⟩:=c
 unfold Gd.isE at hn
 split at hn
 rename_i h1 h2
 cases h1;cases h2
 exact⟨⟨s,Nf.refl s,.inr rfl,hr⟩⟩
 rename_i h1 h2
 cases h1;cases h2
 exact⟨⟨s,Nf.refl s,.inl rfl,hr⟩⟩
 cases hn
theorem Gx {fn:Func} {r:AV} (hv:nH P fn c.s=some r:=by kernel_rfl) (hn:c.isE=true:=by kernel_rfl):Go P R B D0 (QF P B D0 fn r) c:=Fw r rfl hv hn
theorem Cq {f:FuncId} {fn:Func} {args:List AV} {r:AV} (hf:Tryz.prog.funcs[f]?=some fn) {x:Code} (hc:fn.body=some x:=by rfl) (h:∀B D0,(∀id,D0.A id->id<0)->Go Tryz.prog none B D0 (QF Tryz.prog B D0 fn r) ⟨.code x,[],⟨Hk args 0,[],0,fn.ntmps⟩⟩) (hle:Nat.ble args.length fn.ntmps=true:=by kernel_rfl):AF Tryz.prog f args r:=
 AdW _ hf hc fn.ntmps rfl hle rfl λB D0 hA=>(h B D0 hA).m
end Go.Proofs.YtldnjomacnjhnaaGreat
namespace Go.Proofs.YtldnjomacnjhnaaGreat
open Go.RowKit
variable {P:Program} {R:Option Nat} {B:Nat} {D0:Bl} {Q:Exit->St->Prop} {c:Gd}
def Gd.unr (c:Gd) (n:Nat):Gd:=⟨.code c.lb,.un n c.lb::c.k,c.s⟩
theorem vul (n:Nat) (h:Go P R B D0 Q (c.unr n)) (hl:c.isL=true:=by kernel_rfl):Go P R B D0 Q c:=by
 obtain⟨m,k,s⟩:=c
 unfold Gd.isL at hl
 split at hl
 rename_i b hm
 cases hm
 exact⟨iA (n+1) h.m⟩
 cases hl
def Gd.back (c:Gd) (r:AV) (h:Dz) (nx:Nat):Gd:=⟨.ops c.a c.l.tail,c.k,⟨Jk c.s.t c.o.dst r,h,nx,c.s.n⟩⟩
def Aa4 (P:Program) (B:Nat) (D1:Bl) (fn:Func) (K:AV->Dz->Nat->Prop):Exit->St->Prop:=AcF P B D1 fn K
theorem Adc {f:FuncId} {fn:Func} {x:Code} {args:List AV} (hf:Tryz.prog.funcs[f]?=some fn) (hc:fn.body=some x)
  (hrun:∀(E:Bl) (a:Act),(∀x,VR E (c.s.ev x) (a.eval x))->∃vs:Array Value,(∀w,(execOp a.eval c.o).run Tryz.prog w= .ok (.enter f vs) w)/\vs.size=args.length/\∀i,i<args.length->VR E (args.getD i .top) (vs.getD i undef))
  (h:∀D1,(∀id,D1.A id->id<c.s.nx)->Go Tryz.prog none B D1 (Aa4 Tryz.prog B D1 fn λr h nx=>Go Tryz.prog R B D0 Q (c.back r h nx)) ⟨.code x,[],⟨Hk args 0,c.s.h,c.s.nx,fn.ntmps⟩⟩)
  (hle:Nat.ble args.length fn.ntmps=true) (hok:c.ok=true) (hg:c.o.guard=none):Go Tryz.prog R B D0 Q c:=by
 obtain⟨m,k,s⟩:=c
 cases m with
 |code x=>cases hok
 |out e=>cases hok
 |ops a l=>
  cases l with
  |nil=>cases hok
  |cons o l=>
   have hok:(nN a s o==some true&&Jb o s.n)=true:=hok
   exact⟨eU f args fn.ntmps hg (Bool.and_eq_true_iff.1 hok).2 hrun hf hc rfl hle λD1 hD=>tK (h D1 hD).m λe s ⟨h1,r,h2,h3⟩=>⟨h1,r,h2,h3.m⟩⟩
theorem dM {f:FuncId} {fn:Func} {x:Code} (nx0:Nat) (hf:Tryz.prog.funcs[f]?=some fn)
  (h:∀D1,(∀id,D1.A id->id<nx0)->Go Tryz.prog none B D1 (Aa4 Tryz.prog B D1 fn λr h nx=>Go Tryz.prog R B D0 Q (c.back r h nx)) ⟨.code x,[],⟨Hk (c.xs.toList.map c.s.ev) 0,c.s.h,c.s.nx,fn.ntmps⟩⟩)
  (hc:fn.body=some x:=by rfl) (ho:c.o.op= .call { callee:= .value (.func f),args:=c.xs,argTypes:=c.ts }:=by kernel_rfl) (hcall:∀(vs:Array Value) w,(callFunc f vs).run Tryz.prog w= .ok (.enter f vs) w:=by intro _ _;kernel_rfl)
  (hle:Nat.ble (c.xs.toList.map c.s.ev).length fn.ntmps=true:=by kernel_rfl) (hok:c.ok=true:=by kernel_rfl) (hg:c.o.guard=none:=by kernel_rfl) (hnx:c.s.nx=nx0:=by kernel_rfl):Go Tryz.prog R B D0 Q c:=
 Adc hf hc (λE a hv=>vX f c.xs c.ts ho hcall _ rfl E a hv) (hnx▸h) hle hok hg
def Gd.sx (c:Gd):Code:=match c.m with| .code (.seq x _)=>x|_=> .skip
def Gd.sy (c:Gd):Code:=match c.m with| .code (.seq _ y)=>y|_=> .skip
theorem vjn (mid:St) (h1:Go P R B D0 Q ⟨.code c.sy,c.k,mid⟩) (h2:∀J:St->Prop,J mid->Go P R B D0 Q ⟨.code c.sx,.lp J::c.k,c.s⟩) (hc:(match c.m with| .code (.seq _ _)=>true|_=>false)=true:=by kernel_rfl):Go P R B D0 Q c:=by
 obtain⟨m,k,s⟩:=c
 split at hc
 rename_i x y hm
 cases hm
 exact⟨Jg (h2 (λs=>AC P R B D0 y s (KQ P R B D0 Q k)) h1.m).m⟩
 cases hc
def Vk (P:Program) (s:St):ResultVar->Option AV
 | .tmp t=>some (Bz s.t t)
 | .cell q T=>match Bz s.t q with
  | .ptr id off=>match Bc s.h id with
   |some (.box _ cs)=>match dH P T with
    |some false=>bif Nat.blt off cs.length then some (cs.getD off .top) else none
    |some true=>match Lm P T with
     |some n=>bif Nat.ble (off+n) cs.length then some (mkAgg ((cs.drop off).take n)) else none
     |none=>none
    |none=>none
   |_=>none
  |_=>none
theorem Uf {s:St} {rv:ResultVar} {x:AV} (h:Vk P s rv=some x):aN P B D0 s rv x:=by
 unfold Vk at h
 split at h
 cases h;exact gR rfl
 rename_i q T
 split at h
 rename_i id off hq
 split at h
 rename_i t cs hc
 split at h
 rename_i ha
 cases hb:Nat.blt off cs.length with
 |false=>rw[hb] at h;cases h
 |true=>rw[hb] at h;cases h;exact pI id (Ht ha) off cs hq t hc (by simpa [Nat.blt_eq] using hb) rfl
 rename_i ha
 split at h
 rename_i n hn
 cases hb:Nat.ble (off+n) cs.length with
 |false=>rw[hb] at h;cases h
 |true=>rw[hb] at h;cases h;exact sR id (Ht ha) n (Ep hn) off cs hq t hc (Nat.le_of_ble_eq_true hb) rfl
 cases h
 cases h
 cases h
 cases h
def bE (P:Program) (fn:Func) (s:St):Option AV:=match fn.results.toList with
 |[]=>some (.lit (.tuple #[]))
 |[r]=>Vk P s r
 |[r1,r2]=>match Vk P s r1,Vk P s r2 with
  |some x,some y=>some (mkTup [x,y])
  |_,_=>none
 |_=>none
theorem xM {fn:Func} {s:St} {V:AV} (h:bE P fn s=some V):mL P B D0 fn s V:=by
 have key:∀l,fn.results.toList=l->fn.results=l.toArray:=λl h=>by rw[<-h]
 unfold bE at h
 split at h
 rename_i hr;cases h;exact Pe (key _ hr)
 rename_i hr;exact Aei (key _ hr) (Uf h)
 rename_i hr
 split at h
 rename_i h1 h2;cases h;exact Af3 (key _ hr) (Uf h1) (Uf h2)
 cases h
 cases h
def Gd.rI (P:Program) (fn:Func) (c:Gd):AV:=(bE P fn c.s).getD .top
theorem vrI {D1:Bl} {fn:Func} {K:AV->Dz->Nat->Prop} (hk:K (c.rI P fn) c.s.h c.s.nx) (hv:(bE P fn c.s).isSome=true:=by kernel_rfl) (hn:c.isE=true:=by kernel_rfl):Go P R B D1 (Aa4 P B D1 fn K) c:=by
 unfold Gd.rI at hk
 cases he:bE P fn c.s with
 |none=>rw[he] at hv;cases hv
 |some V=>
  rw[he] at hk
  have hr:=xM (B:=B) (D0:=D1) he
  obtain⟨m,k,s⟩:=c
  unfold Gd.isE at hn
  split at hn
  rename_i h1 h2
  cases h1;cases h2
  exact⟨⟨s,Nf.refl s,.inr rfl,V,hr,hk⟩⟩
  rename_i h1 h2
  cases h1;cases h2
  exact⟨⟨s,Nf.refl s,.inl rfl,V,hr,hk⟩⟩
  cases hn
def Oper.enX (o:Oper):Operand:=match o.op with| .binOp _ _ x _ _=>x|_=>default
def enB (P:Program) (o:Oper):Bool:=match o.op with
 | .binOp .eql T _ (.const (.slice none 0 0)) _=>match P.underlying T with
  |some (.slice _)=>true
  |_=>false
 |_=>false
theorem Afs {o:Oper} {ev:Operand->AV} {pre:Nat->Option Ck} (hb:enB P o=true) {e n:Nat} {f:Nat->AV} (hx:ev (Oper.enX o)= .sl e n f) (h0:0<n):Ek P B D0 o ev pre (.bool false) .none:=by
 unfold enB at hb
 split at hb
 rename_i T x t' ho
 have ex:Oper.enX o=x:=by unfold Oper.enX;rw[ho]
 rw[ex] at hx
 split at hb
 rename_i el hu
 exact yO T t' x ho hu e n f hx h0
 cases hb
 cases hb
theorem Ae3 {o:Oper} {ev:Operand->AV} {pre:Nat->Option Ck} (hb:enB P o=true) (hx:ev (Oper.enX o)= .lit (.slice none 0 0)):Ek P B D0 o ev pre (.bool true) .none:=by
 unfold enB at hb
 split at hb
 rename_i T x t' ho
 have ex:Oper.enX o=x:=by unfold Oper.enX;rw[ho]
 rw[ex] at hx
 split at hb
 rename_i el hu
 exact sF T t' x ho hu hx
 cases hb
 cases hb
def slE:AV->Nat| .sl e _ _=>e|_=>0
def slF:AV->Nat->AV| .sl _ _ f=>f|_=>λ_=> .top
theorem gZ (n:Nat) (hk:Go P R B D0 Q (c.put (.bool false) .none)) (h0:0<n:=by omega) (hb:enB P c.o=true:=by kernel_rfl) (hx:c.s.ev (Oper.enX c.o)= .sl (slE (c.s.ev (Oper.enX c.o))) n (slF (c.s.ev (Oper.enX c.o))):=by kernel_rfl) (hok:c.ok=true:=by kernel_rfl):Go P R B D0 Q c:=Ym _ .none (Afs hb hx h0) hk hok rfl
theorem qA (hk:Go P R B D0 Q (c.put (.bool true) .none)) (hb:enB P c.o=true:=by kernel_rfl) (hx:c.s.ev (Oper.enX c.o)= .lit (.slice none 0 0):=by kernel_rfl) (hok:c.ok=true:=by kernel_rfl):Go P R B D0 Q c:=Ym _ .none (Ae3 hb hx) hk hok rfl
def Oper.cxs (o:Oper):Array Operand:=match o.op with| .call cl=>cl.args|_=>#[]
def Oper.cts (o:Oper):Array TypeId:=match o.op with| .call cl=>cl.argTypes|_=>#[]
def Oper.cfx (o:Oper):Operand:=match o.op with| .call cl=>(match cl.callee with| .value x=>x|_=>default)|_=>default
def Aed:AV->List AV| .fn _ l=>l|_=>[]
theorem Hw {o:Oper} {ev:Operand->AV} {pre:Nat->Option Ck} {f:FuncId} {args:List AV} {r:AV} (hf:AF P f args r) (ho:o.op= .call { callee:= .value (.func f),args:=Oper.cxs o,argTypes:=Oper.cts o }:=by kernel_rfl) (hargs:(Oper.cxs o).toList.map ev=args:=by kernel_rfl) (hfree:args.all AV.free=true:=by kernel_rfl) (hcall:∀(vs:Array Value) w,(callFunc f vs).run P w= .ok (.enter f vs) w:=by intro _ _;kernel_rfl):Ek P B D0 o ev pre r .none:=We f _ _ ho hcall args hargs hfree r hf
theorem AcS {o:Oper} {ev:Operand->AV} {pre:Nat->Option Ck} {f:FuncId} {args:List AV} {r:AV} (hf:AF P f args r) (ho:o.op= .call { callee:= .value (Oper.cfx o),args:=Oper.cxs o,argTypes:=Oper.cts o }:=by kernel_rfl) (hx:ev (Oper.cfx o)= .fn f (Aed (ev (Oper.cfx o))):=by kernel_rfl) (hargs:(Oper.cxs o).toList.map ev++Aed (ev (Oper.cfx o))=args:=by kernel_rfl) (hfree:args.all AV.free=true:=by kernel_rfl) (hcall:∀(vs:Array Value) w,(callFunc f vs).run P w= .ok (.enter f vs) w:=by intro _ _;kernel_rfl):Ek P B D0 o ev pre r .none:=yN _ f _ _ ho _ hx hcall args hargs hfree r hf
theorem lJ {o:Oper} {ev:Operand->AV} {pre:Nat->Option Ck} {b v:Bool} (hb:b=v) (h:evG P o ev pre 0=some (.bool b,.none):=by kernel_rfl):Ek P B D0 o ev pre (.bool v) .none:=hb▸rK h
theorem kbC {o:Oper} {ev:Operand->AV} {pre:Nat->Option Ck} {b v:Bool} (hb:b=v) (h:Ek P B D0 o ev pre (.bool b) .none):Ek P B D0 o ev pre (.bool v) .none:=hb▸h
theorem Hq {e n:Nat} {f:Nat->AV} (h:∀i,i<n->((List.range e).all λj=>((f i).cell j).flat)=true):∀i,i<n->∀j,j<e->((f i).cell j).flat=true:=λi hi j hj=>List.all_eq_true.1 (h i hi) j (List.mem_range.2 hj)
theorem Aac {keep:List Nat} (n:Nat) (st:Nat->St) (h:∀i,i<n->∀J:St->Prop,J (st (i+1))->Go P R B D0 Q (c.round J (st i))) (hl:Go P R B D0 Q (c.round (λ_=>False) (st n))) (hs:fY keep c.s=st 0:=by kernel_rfl) (hL:c.isL=true:=by kernel_rfl):Go P R B D0 Q c:=by
 refine Kg _ (Sz keep c.s) ?_
 rw[hs]
 obtain⟨md,k,s⟩:=c
 unfold Gd.isL at hL
 split at hL
 rename_i b hm
 cases hm
 exact⟨lM st n rfl (λi hi K hK=>(h i hi K hK).m) hl.m⟩
 cases hL
def QM (P:Program) (B:Nat) (D0:Bl) (fn:Func) (r:Value) (t:TypeId) (us:List Value):Exit->St->Prop:=λe s=>(e= .ret\/e= .normal)/\Nn P B D0 fn s (.lit r)/\Bc s.h 0=some (.box t (us.map .lit))
theorem AeX {fn:Func} {r:Value} {t:TypeId} {us:List Value} (V:AV) (h:V= .lit r) (hv:nH P fn c.s=some V:=by kernel_rfl) (hb:Bc c.s.h 0=some (.box t (us.map .lit)):=by kernel_rfl) (hn:c.isE=true:=by kernel_rfl):Go P R B D0 (QM P B D0 fn r t us) c:=by
 subst h
 have hr:=nI (B:=B) (D0:=D0) hv
 obtain⟨m,k,s⟩:=c
 unfold Gd.isE at hn
 split at hn
 rename_i h1 h2
 cases h1;cases h2
 exact⟨⟨s,Nf.refl s,.inr rfl,hr,hb⟩⟩
 rename_i h1 h2
 cases h1;cases h2
 exact⟨⟨s,Nf.refl s,.inl rfl,hr,hb⟩⟩
 cases hn
theorem rP {f:FuncId} {fn:Func} {t:TypeId} {us:List Value} {args:List AV} {r:Value} (hf:Tryz.prog.funcs[f]?=some fn) {x:Code} (hc:fn.body=some x:=by rfl) (h:∀B D0,(∀id,D0.A id->id<1)->Go Tryz.prog none B D0 (QM Tryz.prog B D0 fn r t us) ⟨.code x,[],⟨Hk (.ptr 0 0::args) 0,[(0,.box t (us.map .lit))],1,fn.ntmps⟩⟩) (hle:Nat.ble (args.length+1) fn.ntmps=true:=by kernel_rfl):AFM Tryz.prog f t us args r:=
 Aen _ hf hc fn.ntmps rfl hle rfl λB D0 hA=>(h B D0 hA).m
def Gd.frzC (c:Gd) (id b off:Nat) (V:AV):Gd:=⟨c.m,c.k,⟨c.s.t,hset (Hl c.s.h id) b (.box (c.boxT b) ((c.box b).set off V)),c.s.nx,c.s.n⟩⟩
theorem Aab (id b off:Nat) (t:TypeId) (e n:Nat) (f:Nat->AV) (hf:∀i,i<n->∀j,j<e->((f i).cell j).flat=true) (hk:Go P R B D0 Q (c.frzC id b off (.sl e n f))) (hb:Bc c.s.h b=some (.box (c.boxT b) (c.box b)):=by kernel_rfl) (ho:(c.box b).getD off .top= .osl id e n:=by kernel_rfl) (hne:Nat.beq id b=false:=by kernel_rfl) (hc:Bc c.s.h id=some (.vec t e n f):=by kernel_rfl):Go P R B D0 Q c:=
 Kg _ (λE a hs=>Yk id b off t e n f (c.boxT b) (c.box b) _ hb ho rfl hne hc hf E a hs) hk
theorem Aco (id b off:Nat) (t:TypeId) (e n:Nat) (f:Nat->AV) (hf:∀i,i<n->∀j,j<e->((f i).cell j).flat=true) (hk:Go P R B D0 Q (c.frzC id b off (.slc e n f))) (hb:Bc c.s.h b=some (.box (c.boxT b) (c.box b)):=by kernel_rfl) (ho:(c.box b).getD off .top= .osl id e n:=by kernel_rfl) (hne:Nat.beq id b=false:=by kernel_rfl) (hc:Bc c.s.h id=some (.vec t e n f):=by kernel_rfl):Go P R B D0 Q c:=
 Kg _ (λE a hs=>jN id b off t e n f (c.boxT b) (c.box b) _ hb ho rfl hne hc hf E a hs) hk
def Af5:AV->Nat| .slc e _ _=>e|_=>0
def Af7:AV->Nat| .slc _ n _=>n|_=>0
def Af6:AV->Nat->AV| .slc _ _ f=>f|_=>λ_=> .top
def Gd.wkS (c:Gd) (d:Nat):Gd:=⟨c.m,c.k,⟨(d,(Bz c.s.t d).wk)::c.s.t,c.s.h,c.s.nx,c.s.n⟩⟩
theorem vwk (d:Nat) (hk:Go P R B D0 Q (c.wkS d)) (hd:Bz c.s.t d= .slc (Af5 (Bz c.s.t d)) (Af7 (Bz c.s.t d)) (Af6 (Bz c.s.t d)):=by kernel_rfl):Go P R B D0 Q c:=
 Kg _ (λE a hs=>Acq d _ _ _ hd E a hs) (by
  have e:(Bz c.s.t d).wk= .sl (Af5 (Bz c.s.t d)) (Af7 (Bz c.s.t d)) (Af6 (Bz c.s.t d)):=by rw[hd];rfl
  unfold Gd.wkS at hk
  rw[e] at hk
  exact hk)
end Go.Proofs.YtldnjomacnjhnaaGreat
namespace Go.Proofs.YtldnjomacnjhnaaGreat
open Go.Proofs.Tryz
open Go.RowKit
abbrev wB (z:Int):Ck:= .box 70 [.bool (decide (z<0)),.lit (.string (Dy z.natAbs))]
abbrev WA (z:Int):AV:= .lit (Aj z)
theorem Ji {P:Program} {f:FuncId} {vs:List Value} {v:Value} (h:∀w,Calls P f vs.toArray w λe w'=>e= .returned v/\Below w.heap.size w w'):AF P f (vs.map .lit) (.lit v):=by
 intro E us hD hn hv
 have:us=vs.toArray:=VR.lits (E:=E.fz) (by simpa using hn) (VR.tops hv)
 subst this
 refine(h E.w).mono ?_
 rintro e w' ⟨rfl,hb⟩
 exact⟨v,E.D,rfl,.lit _ _,hb,λ_ h=>h,λ_ h=> .inl h,λb hb'=>Nat.lt_of_lt_of_le (hD b hb') hb.size⟩
theorem Gp (n:Int) (h0: -9223372036854775808<=n) (h1:n<=9223372036854775807):AF Tryz.prog 95 [.int n] (WA n):=Ji (vs:=[_]) λw=>La n w h0 h1
theorem iI (x y:Int) (hx:Fg x) (hy:Fg y) (hz:Fg (x+y)):AF Tryz.prog 70 [WA x,WA y] (WA (x+y)):=Ji (vs:=[_,_]) λw=>pN x y w hx hy hz
theorem Ke (x y:Int) (hx:Fg x) (hy:Fg y) (hz:Fg (x*y)):AF Tryz.prog 94 [WA x,WA y] (WA (x*y)):=Ji (vs:=[_,_]) λw=>Wr x y w hx hy hz
theorem Gh (n:Int) (k:Nat) (h0: -9223372036854775808<=n) (h1:n<=9223372036854775807) (hk:k<=1000) (hf:∀j,j<=k->Fg (n^j)):AF Tryz.prog 96 [.int n,.int (k:Int)] (WA (n^k)):=Ji (vs:=[_,_]) λw=>yW n k w h0 h1 hk hf
abbrev Ao (l:List Int):AV:= .sl 1 l.length λi=> .int (l.getD i 0)
abbrev Bq (s:Sg):AV:= .agg [.int s.f,.int s.t,.int s.o,Ao s.x,Ao s.y,Ao s.z]
theorem tM (s:Sg):AF Tryz.prog 97 [Bq s] (.agg [Ao s.x,Ao s.y,Ao s.z]):=by
 refine Cq func97 rfl λB D0 hA0=>?_
 refine Ae 19 ?_
 exact Gx
theorem Sr (x y:Int) (hx:Fg x) (hy:Fg y):AF Tryz.prog 98 [WA x,WA y] (WA (Nat.gcd x.natAbs y.natAbs:Int)):=Ji (vs:=[_,_]) λw=>pO x y w hx hy
theorem Kf (x y:Int) (hx:Fg x) (hy:Fg y) (h0:y≠0):AF Tryz.prog 69 [WA x,WA y] (WA (x/y)):=Ji (vs:=[_,_]) λw=>AbZ x y w hx hy h0
theorem Hx {x:Int} (h:Ct x):Fg x:=Jf h.1 h.2
theorem El {x:Int} (h:Ct x) {k:Nat} (hk:k<=6):Fg (x^k):=((Bd.int h.1 h.2).pow k).fit (by omega)
abbrev kJ (p:PL):AV:= .lit (.agg #[.bool (decide (p.x<0)),.string (Dy p.x.natAbs),.bool (decide (p.y<0)),.string (Dy p.y.natAbs),.bool (decide (p.z<0)),.string (Dy p.z.natAbs),.bool (decide (p.o<0)),.string (Dy p.o.natAbs)])
theorem Xr {s:Sg} {d:Int} (hs:Uc s) (hd:Ct d):Bd 378 (gO s d):=((Bd.int hs.o.1 hs.o.2).mul ((Bd.int hd.1 hd.2).pow 5)).mono (by omega)
theorem Aay (s:Sg) (a d:Int) (hs:Uc s) (hx:s.x.length<=6) (hy:s.y.length<=6) (hz:s.z.length<=6) (ha:Ct a) (hd:Ct d) (hg:plG s a d≠0):AF Tryz.prog 67 [Bq s,.int a,.int d] (kJ (Ii s a d)):=by
 have bX:∀k,k<=6->Bd 390 (cM s.x a d k):=λk hk=>(kI hs.x ha hd k hk).mono (by omega)
 have bY:∀k,k<=6->Bd 390 (cM s.y a d k):=λk hk=>(kI hs.y ha hd k hk).mono (by omega)
 have bZ:∀k,k<=6->Bd 390 (cM s.z a d k):=λk hk=>(kI hs.z ha hd k hk).mono (by omega)
 have bO:Bd 390 (gO s d):=(Xr hs hd).mono (by omega)
 have bXX:Bd 390 (yV s a d):=bX _ hx
 have bYY:Bd 390 (plY s a d):=bY _ hy
 have bZZ:Bd 390 (plZ s a d):=bZ _ hz
 have bG1:=bO.gcd bXX
 have bG2:=bG1.gcd bYY
 have bG3:=bG2.gcd bZZ
 have pw:∀{x:Int},Ct x->∀k,k<=6->∀j,j<=k->Fg (x^j):=λh k hk j hj=>El h (by omega)
 refine Cq func67 rfl λB D0 hA0=>?_
 refine Ae 15 ?_
 refine Cz (Gp _ hs.o.1 hs.o.2) ?_
 refine Ae 1 ?_
 refine Cz (Gh d 5 hd.1 hd.2 (by omega) (pw hd 5 (by omega))) ?_
 refine Cz (Ke _ _ (Hx hs.o) (El hd (by omega)) (bO.fit (by omega))) ?_
 refine Ae 15 ?_
 refine Cz (tM s) ?_
 refine Ae 4 ?_
 refine vul 3 ?_
 refine Ae 14 ?_
 refine Ce (Ao s.x) .none (Dm 147 (.tmp 22) (.tmp 23) (by kernel_rfl) underlying147 1 sizeOf23 0 false isAgg23 [Ao s.x,Ao s.y,Ao s.z] 0 (by kernel_rfl) (by kernel_rfl) (by omega) (by decide) (Nat.le_of_ble_eq_true (by kernel_rfl)) (by decide) (Ao s.x) (by kernel_rfl)) ?_
 refine Ae 13 ?_
 refine Aac (keep:=[1,2,6,7,8,9,10,22,23,27,28,29]) s.x.length (λk=>⟨[(1,.int a),(2,.int d),(6,.ptr 1 0),(7,.ptr 2 0),(8,.ptr 3 0),(9,.ptr 4 0),(10,.int 0),(22,.agg [Ao s.x,Ao s.y,Ao s.z]),(23,.int 0),(27,Ao s.x),(28,.int (s.x.length:Int)),(29,.int (k:Int))],[(0,.box 81 [.int s.f,.int s.t,.int s.o,Ao s.x,Ao s.y,Ao s.z]),(1,.box 72 [.bool false,.lit (.string ⟨#[]⟩),.bool false,.lit (.string ⟨#[]⟩),.bool false,.lit (.string ⟨#[]⟩),.bool false,.lit (.string ⟨#[]⟩)]),(2,.box 122 [.bool (decide (cM s.x a d k<0)),.lit (.string (Dy (cM s.x a d k).natAbs)),.bool false,.lit (.string ⟨#[]⟩),.bool false,.lit (.string ⟨#[]⟩)]),(3,.box 70 [.bool (decide (gO s d<0)),.lit (.string (Dy (gO s d).natAbs))]),(4,.box 70 [.bool (decide (gO s d<0)),.lit (.string (Dy (gO s d).natAbs))])],5,74⟩) (λk hk J1 hJ1=>?_) ?_
 ·
  refine Ae 3 ?_
  refine Iw 30 (decide ((k:Int)<(s.x.length:Int))) true (decide_eq_true (by omega)) ?_
  refine Ae 11 ?_
  refine Gn k s.x.length ?_
  refine Ae 5 ?_
  refine Kq [(2,.ptr 2 0,.none),(5,_,.none),(8,_,.none),(11,.int ((5-k:Nat):Int),.none),(12,_,.none),(13,_,.none),(14,_,.none),(15,_,.none),(16,.ptr 2 0,.none)] [1,2,6,7,8,9,10,22,23,27,28,29] ⟨Av (Bx 122 (.tmp 7) (.tmp 35) (by kernel_rfl) underlying122 2 0 2 0 0 (by kernel_rfl) (by kernel_rfl) sizeOf70 (by decide) (by omega) (by decide)),Hw (Gp _ (hs.x k).1 (hs.x k).2),Hw (Gh a k ha.1 ha.2 (by omega) (pw ha _ (by omega))),Av (Cn (v:= .int .i64 (IntKind.wrap .i64 ((5:Int)-(k:Int)))) (v':= .int .i64 ((5-k:Nat):Int)) _ (by kernel_rfl) rfl (by kernel_rfl) (λw=>by kernel_rfl) (congrArg (Value.int .i64) ((IntWalk.i64_in _ (by omega)).trans (by omega)))),Hw (Gh d (5-k) hd.1 hd.2 (by omega) (pw hd _ (by omega))),Hw (Ke _ _ (El ha (by omega)) (El hd (by omega)) ((((Bd.int ha.1 ha.2).pow k).mul ((Bd.int hd.1 hd.2).pow (5-k))).fit (by omega))),Hw (Ke _ _ (Hx (hs.x k)) ((((Bd.int ha.1 ha.2).pow k).mul ((Bd.int hd.1 hd.2).pow (5-k))).fit (by omega)) ((Qr (hs.x k) ha hd (by omega)).fit (by omega))),Hw (iI (cM s.x a d k) _ ((bX k (by omega)).fit (by omega)) ((Qr (hs.x k) ha hd (by omega)).fit (by omega)) ((bX (k+1) (by omega)).fit (by omega))),Av (Bx 122 (.tmp 7) (.tmp 34) (by kernel_rfl) underlying122 2 0 2 0 0 (by kernel_rfl) (by kernel_rfl) sizeOf70 (by decide) (by omega) (by decide)),trivial⟩ ?_
  refine Ae 3 ?_
  refine Fr ((k:Int)+1) ((k+1:Nat):Int) ?_
  refine Ae 2 ?_
  exact Om [1,2,6,7,8,9,10,22,23,27,28,29] hJ1
 ·
  refine Ae 3 ?_
  refine Iw 30 (decide ((s.x.length:Int)<(s.x.length:Int))) false (decide_eq_false (by omega)) ?_
  refine Ae 9 ?_
  refine Kq [(2,.ptr 2 0,.none),(4,_,.none)] [1,2,6,7,8,9,22,23] ⟨Av (Bx 122 (.tmp 7) (.tmp 53) (by kernel_rfl) underlying122 2 0 2 0 0 (by kernel_rfl) (by kernel_rfl) sizeOf70 (by decide) (by omega) (by decide)),Hw (Sr _ _ (bO.fit (by omega)) (bXX.fit (by omega))),trivial⟩ ?_
  refine Ae 3 ?_
  refine Nd (.int .i64 1) (.int .i64 1) ?_
  refine Ae 17 ?_
  refine Ce (Ao s.y) .none (Dm 147 (.tmp 22) (.tmp 23) (by kernel_rfl) underlying147 1 sizeOf23 1 false isAgg23 [Ao s.x,Ao s.y,Ao s.z] 1 (by kernel_rfl) (by kernel_rfl) (by omega) (by decide) (Nat.le_of_ble_eq_true (by kernel_rfl)) (by decide) (Ao s.y) (by kernel_rfl)) ?_
  refine Ae 13 ?_
  refine Aac (keep:=[1,2,6,7,8,9,10,22,23,27,28,29]) s.y.length (λk=>⟨[(1,.int a),(2,.int d),(6,.ptr 1 0),(7,.ptr 2 0),(8,.ptr 3 0),(9,.ptr 4 0),(10,.int 1),(22,.agg [Ao s.x,Ao s.y,Ao s.z]),(23,.int 1),(27,Ao s.y),(28,.int (s.y.length:Int)),(29,.int (k:Int))],[(0,.box 81 [.int s.f,.int s.t,.int s.o,Ao s.x,Ao s.y,Ao s.z]),(1,.box 72 [.bool false,.lit (.string ⟨#[]⟩),.bool false,.lit (.string ⟨#[]⟩),.bool false,.lit (.string ⟨#[]⟩),.bool false,.lit (.string ⟨#[]⟩)]),(2,.box 122 [.bool (decide (yV s a d<0)),.lit (.string (Dy (yV s a d).natAbs)),.bool (decide (cM s.y a d k<0)),.lit (.string (Dy (cM s.y a d k).natAbs)),.bool false,.lit (.string ⟨#[]⟩)]),(3,.box 70 [.bool (decide (gO s d<0)),.lit (.string (Dy (gO s d).natAbs))]),(4,.box 70 [.bool (decide ((Nat.gcd (gO s d).natAbs (yV s a d).natAbs:Int)<0)),.lit (.string (Dy (Nat.gcd (gO s d).natAbs (yV s a d).natAbs:Int).natAbs))])],5,74⟩) (λk hk J2 hJ2=>?_) ?_
  ·
   refine Ae 3 ?_
   refine Iw 30 (decide ((k:Int)<(s.y.length:Int))) true (decide_eq_true (by omega)) ?_
   refine Ae 11 ?_
   refine Gn k s.y.length ?_
   refine Ae 5 ?_
   refine Kq [(2,.ptr 2 2,.none),(5,_,.none),(8,_,.none),(11,.int ((5-k:Nat):Int),.none),(12,_,.none),(13,_,.none),(14,_,.none),(15,_,.none),(16,.ptr 2 2,.none)] [1,2,6,7,8,9,10,22,23,27,28,29] ⟨Av (Bx 122 (.tmp 7) (.tmp 35) (by kernel_rfl) underlying122 2 0 2 1 1 (by kernel_rfl) (by kernel_rfl) sizeOf70 (by decide) (by omega) (by decide)),Hw (Gp _ (hs.y k).1 (hs.y k).2),Hw (Gh a k ha.1 ha.2 (by omega) (pw ha _ (by omega))),Av (Cn (v:= .int .i64 (IntKind.wrap .i64 ((5:Int)-(k:Int)))) (v':= .int .i64 ((5-k:Nat):Int)) _ (by kernel_rfl) rfl (by kernel_rfl) (λw=>by kernel_rfl) (congrArg (Value.int .i64) ((IntWalk.i64_in _ (by omega)).trans (by omega)))),Hw (Gh d (5-k) hd.1 hd.2 (by omega) (pw hd _ (by omega))),Hw (Ke _ _ (El ha (by omega)) (El hd (by omega)) ((((Bd.int ha.1 ha.2).pow k).mul ((Bd.int hd.1 hd.2).pow (5-k))).fit (by omega))),Hw (Ke _ _ (Hx (hs.y k)) ((((Bd.int ha.1 ha.2).pow k).mul ((Bd.int hd.1 hd.2).pow (5-k))).fit (by omega)) ((Qr (hs.y k) ha hd (by omega)).fit (by omega))),Hw (iI (cM s.y a d k) _ ((bY k (by omega)).fit (by omega)) ((Qr (hs.y k) ha hd (by omega)).fit (by omega)) ((bY (k+1) (by omega)).fit (by omega))),Av (Bx 122 (.tmp 7) (.tmp 34) (by kernel_rfl) underlying122 2 0 2 1 1 (by kernel_rfl) (by kernel_rfl) sizeOf70 (by decide) (by omega) (by decide)),trivial⟩ ?_
   refine Ae 3 ?_
   refine Fr ((k:Int)+1) ((k+1:Nat):Int) ?_
   refine Ae 2 ?_
   exact Om [1,2,6,7,8,9,10,22,23,27,28,29] hJ2
  ·
   refine Ae 3 ?_
   refine Iw 30 (decide ((s.y.length:Int)<(s.y.length:Int))) false (decide_eq_false (by omega)) ?_
   refine Ae 9 ?_
   refine Kq [(2,.ptr 2 2,.none),(4,_,.none)] [1,2,6,7,8,9,22,23] ⟨Av (Bx 122 (.tmp 7) (.tmp 53) (by kernel_rfl) underlying122 2 0 2 1 1 (by kernel_rfl) (by kernel_rfl) sizeOf70 (by decide) (by omega) (by decide)),Hw (Sr _ _ (bG1.fit (by omega)) (bYY.fit (by omega))),trivial⟩ ?_
   refine Ae 3 ?_
   refine Nd (.int .i64 2) (.int .i64 2) ?_
   refine Ae 17 ?_
   refine Ce (Ao s.z) .none (Dm 147 (.tmp 22) (.tmp 23) (by kernel_rfl) underlying147 1 sizeOf23 2 false isAgg23 [Ao s.x,Ao s.y,Ao s.z] 2 (by kernel_rfl) (by kernel_rfl) (by omega) (by decide) (Nat.le_of_ble_eq_true (by kernel_rfl)) (by decide) (Ao s.z) (by kernel_rfl)) ?_
   refine Ae 13 ?_
   refine Aac (keep:=[1,2,6,7,8,9,10,22,23,27,28,29]) s.z.length (λk=>⟨[(1,.int a),(2,.int d),(6,.ptr 1 0),(7,.ptr 2 0),(8,.ptr 3 0),(9,.ptr 4 0),(10,.int 2),(22,.agg [Ao s.x,Ao s.y,Ao s.z]),(23,.int 2),(27,Ao s.z),(28,.int (s.z.length:Int)),(29,.int (k:Int))],[(0,.box 81 [.int s.f,.int s.t,.int s.o,Ao s.x,Ao s.y,Ao s.z]),(1,.box 72 [.bool false,.lit (.string ⟨#[]⟩),.bool false,.lit (.string ⟨#[]⟩),.bool false,.lit (.string ⟨#[]⟩),.bool false,.lit (.string ⟨#[]⟩)]),(2,.box 122 [.bool (decide (yV s a d<0)),.lit (.string (Dy (yV s a d).natAbs)),.bool (decide (plY s a d<0)),.lit (.string (Dy (plY s a d).natAbs)),.bool (decide (cM s.z a d k<0)),.lit (.string (Dy (cM s.z a d k).natAbs))]),(3,.box 70 [.bool (decide (gO s d<0)),.lit (.string (Dy (gO s d).natAbs))]),(4,.box 70 [.bool (decide (((Nat.gcd (Nat.gcd (gO s d).natAbs (yV s a d).natAbs:Int).natAbs (plY s a d).natAbs:Nat):Int)<0)),.lit (.string (Dy ((Nat.gcd (Nat.gcd (gO s d).natAbs (yV s a d).natAbs:Int).natAbs (plY s a d).natAbs:Nat):Int).natAbs))])],5,74⟩) (λk hk J3 hJ3=>?_) ?_
   ·
    refine Ae 3 ?_
    refine Iw 30 (decide ((k:Int)<(s.z.length:Int))) true (decide_eq_true (by omega)) ?_
    refine Ae 11 ?_
    refine Gn k s.z.length ?_
    refine Ae 5 ?_
    refine Kq [(2,.ptr 2 4,.none),(5,_,.none),(8,_,.none),(11,.int ((5-k:Nat):Int),.none),(12,_,.none),(13,_,.none),(14,_,.none),(15,_,.none),(16,.ptr 2 4,.none)] [1,2,6,7,8,9,10,22,23,27,28,29] ⟨Av (Bx 122 (.tmp 7) (.tmp 35) (by kernel_rfl) underlying122 2 0 2 2 2 (by kernel_rfl) (by kernel_rfl) sizeOf70 (by decide) (by omega) (by decide)),Hw (Gp _ (hs.z k).1 (hs.z k).2),Hw (Gh a k ha.1 ha.2 (by omega) (pw ha _ (by omega))),Av (Cn (v:= .int .i64 (IntKind.wrap .i64 ((5:Int)-(k:Int)))) (v':= .int .i64 ((5-k:Nat):Int)) _ (by kernel_rfl) rfl (by kernel_rfl) (λw=>by kernel_rfl) (congrArg (Value.int .i64) ((IntWalk.i64_in _ (by omega)).trans (by omega)))),Hw (Gh d (5-k) hd.1 hd.2 (by omega) (pw hd _ (by omega))),Hw (Ke _ _ (El ha (by omega)) (El hd (by omega)) ((((Bd.int ha.1 ha.2).pow k).mul ((Bd.int hd.1 hd.2).pow (5-k))).fit (by omega))),Hw (Ke _ _ (Hx (hs.z k)) ((((Bd.int ha.1 ha.2).pow k).mul ((Bd.int hd.1 hd.2).pow (5-k))).fit (by omega)) ((Qr (hs.z k) ha hd (by omega)).fit (by omega))),Hw (iI (cM s.z a d k) _ ((bZ k (by omega)).fit (by omega)) ((Qr (hs.z k) ha hd (by omega)).fit (by omega)) ((bZ (k+1) (by omega)).fit (by omega))),Av (Bx 122 (.tmp 7) (.tmp 34) (by kernel_rfl) underlying122 2 0 2 2 2 (by kernel_rfl) (by kernel_rfl) sizeOf70 (by decide) (by omega) (by decide)),trivial⟩ ?_
    refine Ae 3 ?_
    refine Fr ((k:Int)+1) ((k+1:Nat):Int) ?_
    refine Ae 2 ?_
    exact Om [1,2,6,7,8,9,10,22,23,27,28,29] hJ3
   ·
    refine Ae 3 ?_
    refine Iw 30 (decide ((s.z.length:Int)<(s.z.length:Int))) false (decide_eq_false (by omega)) ?_
    refine Ae 9 ?_
    refine Kq [(2,.ptr 2 4,.none),(4,_,.none)] [1,2,6,7,8,9,22,23] ⟨Av (Bx 122 (.tmp 7) (.tmp 53) (by kernel_rfl) underlying122 2 0 2 2 2 (by kernel_rfl) (by kernel_rfl) sizeOf70 (by decide) (by omega) (by decide)),Hw (Sr _ _ (bG2.fit (by omega)) (bZZ.fit (by omega))),trivial⟩ ?_
    refine Ae 3 ?_
    refine Nd (.int .i64 3) (.int .i64 3) ?_
    refine Ae 16 ?_
    refine Kq [(0,.ptr 2 0,.none),(3,_,.none),(4,.ptr 2 2,.none),(7,_,.none),(8,.ptr 2 4,.none),(11,_,.none),(14,_,.none)] [6] ⟨Av (Bx 122 (.tmp 7) (.const (.int .i64 0)) (by kernel_rfl) underlying122 2 0 2 0 0 (by kernel_rfl) (by kernel_rfl) sizeOf70 (by decide) (by omega) (by decide)),Hw (Kf _ _ (bXX.fit (by omega)) (bG3.fit (by omega)) hg),Av (Bx 122 (.tmp 7) (.const (.int .i64 1)) (by kernel_rfl) underlying122 2 0 2 1 1 (by kernel_rfl) (by kernel_rfl) sizeOf70 (by decide) (by omega) (by decide)),Hw (Kf _ _ (bYY.fit (by omega)) (bG3.fit (by omega)) hg),Av (Bx 122 (.tmp 7) (.const (.int .i64 2)) (by kernel_rfl) underlying122 2 0 2 2 2 (by kernel_rfl) (by kernel_rfl) sizeOf70 (by decide) (by omega) (by decide)),Hw (Kf _ _ (bZZ.fit (by omega)) (bG3.fit (by omega)) hg),Hw (Kf _ _ (bO.fit (by omega)) (bG3.fit (by omega)) hg),trivial⟩ ?_
    refine Ae 2 ?_
    exact Gx
end Go.Proofs.YtldnjomacnjhnaaGreat
namespace Go.Proofs.YtldnjomacnjhnaaGreat
open Go.Proofs.Tryz
open Go.RowKit
variable {B:Nat} {D0:Bl} {o:Oper} {ev:Operand->AV} {pre:Nat->Option Ck}
theorem Lx (t t':TypeId) (x y:Operand) (ho:o.op= .binOp .eql t x y t') (vs us:Array Value) (hx:ev x= .lit (.agg vs)) (hy:ev y= .lit (.agg us)) (hg:Tryz.prog.eqGuardType Tryz.prog.depth t=false) (b:Bool) (heq:∀w,(Op.equal t (.agg vs) (.agg us)).run Tryz.prog w= .ok b w):Ek Tryz.prog B D0 o ev pre (.bool b) .none:=by
 refine Co (.inl rfl) λE a c _ _ hv=>⟨_,?_,.lit _ _⟩
 have h1:=hv x (by simp[ho,Op.operands])
 have h2:=hv y (by simp[ho,Op.operands])
 rw[hx] at h1
 rw[hy] at h2
 simp[execOp,ho,h1.lit_inv,h2.lit_inv,eqGuard,hg,binOp,heq]
theorem Wf (t t':TypeId) (x y:Operand) (ho:o.op= .binOp .neq t x y t') (vs us:Array Value) (hx:ev x= .lit (.agg vs)) (hy:ev y= .lit (.agg us)) (hg:Tryz.prog.eqGuardType Tryz.prog.depth t=false) (b:Bool) (heq:∀w,(Op.equal t (.agg vs) (.agg us)).run Tryz.prog w= .ok b w):Ek Tryz.prog B D0 o ev pre (.bool (!b)) .none:=by
 refine Co (.inl rfl) λE a c _ _ hv=>⟨_,?_,.lit _ _⟩
 have h1:=hv x (by simp[ho,Op.operands])
 have h2:=hv y (by simp[ho,Op.operands])
 rw[hx] at h1
 rw[hy] at h2
 simp[execOp,ho,h1.lit_inv,h2.lit_inv,eqGuard,hg,binOp,heq]
theorem Jc {b b':Bool} (h:Ek Tryz.prog B D0 o ev pre (.bool b) .none) (e:b=b'):Ek Tryz.prog B D0 o ev pre (.bool b') .none:=e▸h
theorem AdB (b b':Bool) (s s':ByteArray) (w:World) (d:Nat):(Op.equalIn (d+2) 70 (.agg #[.bool b,.string s]) (.agg #[.bool b',.string s'])).run Tryz.prog w= .ok ((b==b')&&(s==s')) w:=by
 have h91:=Tryz.runUnderlying70
 have ha4:=isAgg4
 unfold Op.equalIn
 simp[h91,part,ha4,Op.equalIn]
 by_cases h1:b=b'
 subst h1
 cases hs:(s==s')<;>simp
 simp[h1]
theorem eqW (x y:Int) (w:World) (d:Nat):(Op.equalIn (d+2) 70 (Aj x) (Aj y)).run Tryz.prog w= .ok (decide (x=y)) w:=by
 unfold Aj
 rw[AdB]
 congr 1
 rw[beq_toListBytes]
 by_cases h:x=y
 subst h;simp
 rw[decide_eq_false h]
 cases h1:((Dy x.natAbs).toList==(Dy y.natAbs).toList) with
 |false=>simp
 |true=>
  have h3:x.natAbs=y.natAbs:=mQ (by simpa using h1)
  have h4:¬(decide (x<0)=decide (y<0)):=λe=>by
   have:x<0↔y<0:=by simpa using e
   apply h
   omega
  simpa using h4
theorem AcX (p q:PL) (w:World):(Op.equal 72 (kJ p).val (kJ q).val).run Tryz.prog w= .ok (decide (p=q)) w:=by
 have e:∀(x y:Int) (w:World),(Op.equalIn 9999 70 (Aj x) (Aj y)).run Tryz.prog w= .ok (decide (x=y)) w:=λx y w=>eqW x y w 9997
 have h93:=Tryz.runUnderlying72
 have h91:=isAgg70
 have hs:=sizeOf70
 have hin:Tryz.prog.stoodInHeld 72=false:=by kernel_rfl
 unfold Op.equal
 rw[show Op.maxDepth=9999+1 from rfl]
 unfold Op.equalIn
 simp only[AV.val]
 unfold Aj at e
 simp[h93,part,h91,hs,e,hin]
 obtain⟨x,y,z,u⟩:=p
 obtain⟨x',y',z',u'⟩:=q
 simp only[PL.mk.injEq]
 by_cases h1:x=x'<;>by_cases h2:y=y'<;>by_cases h3:z=z'<;>by_cases h4:u=u'<;>simp[h1,h2,h3,h4]
theorem Qf (x y z x' y' z':Int) (w:World):(Op.equal 36 (.agg #[.int .i64 x,.int .i64 y,.int .i64 z]) (.agg #[.int .i64 x',.int .i64 y',.int .i64 z'])).run Tryz.prog w= .ok (decide (x=x'/\y=y'/\z=z')) w:=by
 have h55:=Tryz.runUnderlying36
 have h3:=Tryz.runUnderlying3
 have ha:=isAgg3
 have hin:Tryz.prog.stoodInHeld 36=false:=by kernel_rfl
 unfold Op.equal
 rw[show Op.maxDepth=9998+1+1 from rfl]
 unfold Op.equalIn
 simp[h55,part,ha,hin]
 unfold Op.equalIn
 simp[h3]
 by_cases h1:x=x'<;>by_cases h2:y=y'<;>by_cases h3:z=z'<;>simp[h1,h2,h3]
theorem jA {E:Bl} {l:List Int} {v:Value} (h:VR E (Ao l) v):∃A c,v= .slice A l.length c/\Rf E.w v l:=by
 obtain⟨n,hn⟩:∃n,l.length=n:=⟨_,rfl⟩
 unfold Ao at h
 rw[hn] at h ⊢
 cases h with
 |sl0 _ _ _ A c=>exact⟨A,c,rfl,.inl ⟨A,c,rfl,List.eq_nil_of_length_eq_zero hn⟩⟩
 |sl _ _ _ _ b q c us hn0 hD hc hr=>
  refine⟨_,c,rfl,.inr ⟨b,q,c,by rw[hn],λi hi=>?_⟩⟩
  have h1:=hc i 0 (by omega) (by omega)
  have h2:=hr i 0 (by omega) (by omega)
  have h3:us i 0= .int .i64 (l.getD i 0):=h2.lit_inv
  rw[<-h3];exact h1
theorem Rd (s:Sg) (hs:Uc s):AF Tryz.prog 92 [Bq s] (.bool (decide (Gy s))):=by
 intro E us hD hn hv
 have h0:=hv 0 (by simp)
 obtain⟨u,rfl⟩:∃u,us=#[u]:=⟨us.getD 0 undef,by
  apply Array.ext
  simpa using hn
  intro i h1 h2
  have:i=0:=by simp at hn;omega
  subst this
  simp[h1]⟩
 simp at h0
 cases h0 with
 |agg _ _ vs hsz hr=>
  have g:=VR.tops hr
  have l0:vs.getD 0 undef= .int .i64 s.f:=(g 0).lit_inv
  have l1:vs.getD 1 undef= .int .i64 s.t:=(g 1).lit_inv
  have l2:vs.getD 2 undef= .int .i64 s.o:=(g 2).lit_inv
  obtain⟨A3,c3,e3,k3⟩:=jA (l:=s.x) (g 3)
  obtain⟨A4,c4,e4,k4⟩:=jA (l:=s.y) (g 4)
  obtain⟨A5,c5,e5,k5⟩:=jA (l:=s.z) (g 5)
  have hvs:vs=#[.int .i64 s.f,.int .i64 s.t,.int .i64 s.o,.slice A3 s.x.length c3,.slice A4 s.y.length c4,.slice A5 s.z.length c5]:=by
   apply Array.ext
   simpa using hsz
   intro i h1 h2
   have e:vs[i]=vs.getD i undef:=by simp[h1]
   rw[e]
   simp at h2
   match i,h2 with
   |0,_=>exact l0
   |1,_=>exact l1
   |2,_=>exact l2
   |3,_=>exact e3
   |4,_=>exact e4
   |5,_=>exact e5
  subst hvs
  rw[e3] at k3
  rw[e4] at k4
  rw[e5] at k5
  refine(kZ s A3 A4 A5 c3 c4 c5 E.w k3 k4 k5 (λk i=>?_)).mono ?_
  match k with
  |0=>exact hs.x i
  |1=>exact hs.y i
  |k+2=>exact hs.z i
  rintro e w' ⟨rfl,hb⟩
  exact⟨_,E.D,rfl,.lit _ _,hb,λ_ h=>h,λ_ h=> .inl h,λb hb'=>Nat.lt_of_lt_of_le (hD b hb') hb.size⟩
end Go.Proofs.YtldnjomacnjhnaaGreat
namespace Go.Proofs.YtldnjomacnjhnaaGreat
open Go.Proofs.Tryz
open Go.RowKit
theorem Zy {E:Bl} {e n:Nat} {f:Nat->AV} {v:Value} (h:VR E (.sl e n f) v) (cs:List Value) (hl:cs.length=n*e) (hc:∀i j,i<n->j<e->(f i).cell j= .lit (cs.getD (i*e+j) undef)):Cw E.w E.D e v n cs:=by
 cases h with
 |sl0=>exact⟨hl,.inl ⟨_,_,rfl,rfl⟩⟩
 |sl _ _ _ _ b q c us hn hD hcell hr=>
  refine⟨hl,.inr ⟨b,q,c,rfl,hD,λk u hu=>?_⟩⟩
  obtain⟨hk,he⟩:=List.getElem?_eq_some_iff.1 hu
  rw[hl] at hk
  have he0:0<e:=by
   rcases Nat.eq_zero_or_pos e with h|h
   subst h;omega
   exact h
  obtain⟨d1,d2,d3⟩:=jC hk he0
  have h1:=hcell _ _ d1 d2
  have h2:=hr _ _ d1 d2
  rw[hc _ _ d1 d2,d3] at h2
  have h3:=h2.lit_inv
  rw[Nat.add_assoc,d3,h3] at h1
  rw[h1,List.getD_eq_getElem?_getD,hu];rfl
theorem Oa {w:World} {D:Nat->Prop} {e n:Nat} {v:Value} {cs:List Value} (h:Cw w D e v n cs) {E:Bl} (hw:E.w=w) (hD:∀b,D b->E.D b) {f:Nat->AV} (hc:∀i j,i<n->j<e->VR E.fz ((f i).cell j) (cs.getD (i*e+j) undef)):VR E (.sl e n f) v:=by
 subst hw
 by_cases hn:n=0
 obtain⟨A,c,rfl⟩:=h.slice
 subst hn
 exact .sl0 _ _ _ _ _
 rcases h.2 with⟨A,c,rfl,h0⟩|⟨b,o,c,rfl,hd,hcell⟩
 exact absurd h0 hn
 refine .sl _ _ _ _ _ _ _ (λi j=>cs.getD (i*e+j) undef) (by omega) (hD b hd) (λi j hi hj=>?_) hc
 have hlt:i*e+j<n*e:=by
  have:=Nat.mul_le_mul_right e (show i+1<=n from hi)
  rw[Nat.succ_mul] at this;omega
 rw[Nat.add_assoc]
 exact hcell _ _ (by rw[List.getD_eq_getElem?_getD,List.getElem?_eq_getElem (by rw[h.1];exact hlt)];rfl)
theorem fU (l:List Int) {i:Nat} (h:i<l.length):(Dd l).getD i undef= .int .i64 (l.getD i 0):=by
 rw[List.getD_eq_getElem?_getD,Vt l i h,List.getD_eq_getElem?_getD,List.getElem?_eq_getElem h];rfl
theorem Zj {w:World} {D:Nat->Prop} {l:List Int} {v:Value} (h:Cw w D 1 v l.length (Dd l)) {E:Bl} (hw:E.w=w) (hD:∀b,D b->E.D b):VR E (Ao l) v:=
 Oa h hw hD λi j hi hj=>by
  obtain rfl:j=0:=by omega
  rw[Nat.mul_one,Nat.add_zero,fU l hi]
  exact .lit _ _
theorem AdJ {E:Bl} {l:List Int} {v:Value} (h:VR E (Ao l) v):Cw E.w E.D 1 v l.length (Dd l):=
 Zy h (Dd l) (by rw[oB,Nat.mul_one]) λi j hi hj=>by
  obtain rfl:j=0:=by omega
  rw[Nat.mul_one,Nat.add_zero,fU l hi]
  rfl
def Sg.none:Sg:=⟨0,0,0,[],[],[]⟩
abbrev Ai (l:List Sg):AV:= .sl 6 l.length λi=>Bq (l.getD i Sg.none)
theorem kH {w:World} {D:Nat->Prop} {l:List Sg} {v:Value} (h:Aa8 w D v l) {E:Bl} (hw:E.w=w) (hD:∀b,D b->E.D b):VR E (Ai l) v:=by
 obtain⟨cs,h1,h2⟩:=h
 refine Oa h1 hw hD λi j hi hj=>?_
 obtain⟨a,⟨vx,vy,vz,rfl,hx,hy,hz⟩,ha⟩:=h2.at_ hi
 have e:l.getD i Sg.none=l[i]:=by rw[List.getD_eq_getElem?_getD,List.getElem?_eq_getElem hi];rfl
 have g:∀u,[Value.int .i64 l[i].f,.int .i64 l[i].t,.int .i64 l[i].o,vx,vy,vz][j]?=some u->cs.getD (i*6+j) undef=u:=λu hu=>by
  rw[List.getD_eq_getElem?_getD,ha j u hu];rfl
 rw[e]
 match j,hj with
 |0,_=>rw[g _ rfl];exact .lit _ _
 |1,_=>rw[g _ rfl];exact .lit _ _
 |2,_=>rw[g _ rfl];exact .lit _ _
 |3,_=>rw[g _ rfl];exact Zj (E:=E.fz) hx hw hD
 |4,_=>rw[g _ rfl];exact Zj (E:=E.fz) hy hw hD
 |5,_=>rw[g _ rfl];exact Zj (E:=E.fz) hz hw hD
theorem tO {P:Program} {f:FuncId} {args:List AV} {r:AV} (h:∀(E:Bl) (vs:Array Value),(∀b,E.D b->b<E.w.heap.size)->vs.size=args.length->(∀i,i<args.length->VR E.fz (args.getD i .top) (vs.getD i undef))->
  Calls P f vs E.w λe w'=>∃v,e= .returned v/\Below E.w.heap.size E.w w'/\∀E':Bl,E'.w=w'->(∀b,E.D b->E'.D b)->(∀b,E.w.heap.size<=b->b<w'.heap.size->E'.D b)->VR E' r v):AF P f args r:=by
 intro E vs hD hn hv
 refine(h E vs hD hn hv).mono ?_
 rintro e w' ⟨v,rfl,hb,hr⟩
 refine⟨v,λb=>E.D b\/(E.w.heap.size<=b/\b<w'.heap.size),rfl,hr _ rfl (λb hb=> .inl hb) (λb h1 h2=> .inr ⟨h1,h2⟩),hb,λb hb=> .inl hb,λb hb=>?_,λb hb'=>?_⟩
 rcases hb with hb|hb
 exact .inl hb
 exact .inr hb.1
 rcases hb' with hb'|hb'
 exact Nat.lt_of_lt_of_le (hD b hb') hb.size
 exact hb'.2
theorem iH {P:Program} {f:FuncId} {vs:List Value} {r:AV} (h:∀w,Calls P f vs.toArray w λe w'=>∃v,e= .returned v/\Below w.heap.size w w'/\∀E':Bl,E'.w=w'->(∀b,w.heap.size<=b->b<w'.heap.size->E'.D b)->VR E' r v):AF P f (vs.map .lit) r:=by
 refine tO λE us hD hn hv=>?_
 have:us=vs.toArray:=VR.lits (E:=E.fz) (by simpa using hn) (VR.tops hv)
 subst this
 refine(h E.w).mono ?_
 rintro e w' ⟨v,rfl,hb,hr⟩
 exact⟨v,rfl,hb,λE' h1 _ h3=>hr E' h1 h3⟩
abbrev Hf (v:V3):AV:= .lit (.agg #[.int .i64 v.x,.int .i64 v.y,.int .i64 v.z])
theorem Uy (v:V3):AF Tryz.prog 33 [Hf v] (.bool (Eb 1048576 [v.x,v.y,v.z])):=Ji (vs:=[_]) λw=>gP v.x v.y v.z w
theorem AeV {E:Bl} {x y:AV} {a b:Value} (h1:VR E x a) (h2:VR E y b):VR E (.tup [x,y]) (.tuple #[a,b]):= .tup _ _ _ rfl λi hi=>by
 match i,hi with
 |0,_=>exact h1
 |1,_=>exact h2
abbrev xN (a b:V3) (f t k:Int):AV:= .tup [Ai (if Lv a b f t=true then [Tl a b f t k] else []),.int (if Lv a b f t=true then 0 else 2)]
theorem uR {w w':World} {a b:V3} {f t k:Int} {e:Ending} (h:Gi w a b f t k e w'):∃v,e= .returned v/\Below w.heap.size w w'/\∀E':Bl,E'.w=w'->(∀b,w.heap.size<=b->b<w'.heap.size->E'.D b)->VR E' (xN a b f t k) v:=by
 unfold Gi at h
 unfold xN
 split at h
 rename_i hf
 obtain⟨v,rfl,hp,hb⟩:=h
 simp only[hf,if_true]
 exact⟨_,rfl,hb,λE' h1 h2=>AeV (kH hp h1 λb hb=>h2 b hb.1 hb.2) (.lit _ _)⟩
 rename_i hf
 simp only[hf]
 obtain⟨rfl,hb⟩:=h
 exact⟨_,rfl,hb,λE' h1 h2=>AeV (.sl0 _ _ _ _ _) (.lit _ _)⟩
theorem Aat (a b:V3) (f t:Int):AF Tryz.prog 49 [Hf a,Hf b,.int f,.int t] (xN a b f t 2):=iH (vs:=[_,_,_,_]) λw=>(Xm a.x a.y a.z b.x b.y b.z f t w).mono λ_ _ h=>uR h
theorem Aav (a:V3) (f t:Int):AF Tryz.prog 62 [Hf a,.int f,.int t] (xN a a f t 0):=iH (vs:=[_,_,_]) λw=>(fQ a.x a.y a.z f t w).mono λ_ _ h=>uR h
abbrev Ik (l:List V3):AV:= .sl 3 l.length λi=>Hf (l.getD i V3.zero)
abbrev Ga (l:List ByteArray):AV:= .sl 1 l.length λi=> .lit (.string (l.getD i ByteArray.empty))
abbrev yG (m:Mv):AV:= .lit (.agg #[.int .i64 m.to.x,.int .i64 m.to.y,.int .i64 m.to.z,.int .i64 m.wait,.int .i64 m.flight,.int .i64 m.rise])
abbrev Ab8 (l:List Mv):AV:= .sl 6 l.length λi=>yG (l.getD i Mv.none)
abbrev AcJ (a:Ac):AV:= .agg [.lit (.string a.name),.int a.len,Ab8 a.moves]
abbrev Ha (l:List Ac):AV:= .sl 3 l.length λi=>AcJ (l.getD i Ac.none)
abbrev Ey (p:Pr):AV:= .agg [Ga p.names,Ik p.homes,Ha p.acts]
theorem Mh {α:Type} (f:α->List Value) (k:Nat) (hf:∀a,(f a).length=k):∀(l:List α) (i j:Nat) (d:α),i<l.length->j<k->(l.flatMap f).getD (i*k+j) undef=(f (l.getD i d)).getD j undef
 |[],i,j,d,hi,_=>by simp at hi
 |a::l,0,j,d,_,hj=>by
  rw[List.flatMap_cons,List.getD_eq_getElem?_getD,List.getElem?_append_left (by rw[hf];omega)]
  simp[List.getD_eq_getElem?_getD]
 |a::l,i+1,j,d,hi,hj=>by
  rw[List.flatMap_cons,List.getD_eq_getElem?_getD,List.getElem?_append_right (by rw[hf,Nat.succ_mul];omega),hf]
  have:=Mh f k hf l i j d (by simpa using hi) hj
  rw[List.getD_eq_getElem?_getD] at this
  rw[show (i+1)*k+j-k=i*k+j by rw[Nat.succ_mul];omega,this]
  simp[List.getD_eq_getElem?_getD]
theorem Yp {α:Type} (f:α->List Value) (k:Nat) (hf:∀a,(f a).length=k):∀l:List α,(l.flatMap f).length=l.length*k
 |[]=>by simp
 |a::l=>by rw[List.flatMap_cons,List.length_append,hf,Yp f k hf l,List.length_cons,Nat.succ_mul];omega
theorem Aaa {E:Bl} {l:List V3} {v:Value} (h:VR E (Ik l) v):Cw E.w E.D 3 v l.length (Iu l):=
 Zy h (Iu l) (Yy l) λi j hi hj=>by
  have:=Mh (λv:V3=>[Value.int .i64 v.x,.int .i64 v.y,.int .i64 v.z]) 3 (λ_=>rfl) l i j V3.zero hi hj
  show _=AV.lit ((Iu l).getD (i*3+j) undef)
  unfold Iu
  rw[this]
  match j,hj with
  |0,_=>rfl
  |1,_=>rfl
  |2,_=>rfl
theorem Ab9 {E:Bl} {l:List Mv} {v:Value} (h:VR E (Ab8 l) v):Cw E.w E.D 6 v l.length (yH l):=
 Zy h (yH l) (Yp Mv.cells 6 (λ_=>rfl) l) λi j hi hj=>by
  have:=Mh Mv.cells 6 (λ_=>rfl) l i j Mv.none hi hj
  unfold yH
  rw[this]
  match j,hj with
  |0,_=>rfl
  |1,_=>rfl
  |2,_=>rfl
  |3,_=>rfl
  |4,_=>rfl
  |5,_=>rfl
theorem sE {E:Bl} {l:List ByteArray} {v:Value} (h:VR E (Ga l) v):Cw E.w E.D 1 v l.length (strs l):=
 Zy h (strs l) (by simp[strs]) λi j hi hj=>by
  obtain rfl:j=0:=by omega
  rw[Nat.mul_one,Nat.add_zero]
  show AV.lit (.string (l.getD i ByteArray.empty))=AV.lit ((strs l).getD i undef)
  simp[strs,List.getD_eq_getElem?_getD,hi]
def Yg:List Ac->(Nat->Value)->List Value
 |[],_=>[]
 |a::l,g=>[.string a.name,.int .i64 a.len,g 0]++Yg l λi=>g (i+1)
theorem Xf:∀(l:List Ac) (g:Nat->Value),(Yg l g).length=l.length*3
 |[],_=>rfl
 |a::l,g=>by rw[Yg,List.length_append,Xf l];simp;omega
theorem mO:∀(l:List Ac) (g:Nat->Value) (i j:Nat),i<l.length->j<3->(Yg l g).getD (i*3+j) undef=[Value.string (l.getD i Ac.none).name,.int .i64 (l.getD i Ac.none).len,g i].getD j undef
 |[],g,i,j,hi,_=>by simp at hi
 |a::l,g,0,j,_,hj=>by
  rw[Yg,List.getD_eq_getElem?_getD,List.getElem?_append_left (by simp;omega)]
  simp[List.getD_eq_getElem?_getD]
 |a::l,g,i+1,j,hi,hj=>by
  rw[Yg,List.getD_eq_getElem?_getD,List.getElem?_append_right (by simp;omega)]
  have:=mO l (λi=>g (i+1)) i j (by simpa using hi) hj
  rw[List.getD_eq_getElem?_getD] at this
  rw[show (i+1)*3+j-[Value.string a.name,.int .i64 a.len,g 0].length=i*3+j by simp;omega,this]
  simp[List.getD_eq_getElem?_getD]
theorem aS {w:World} {D:Nat->Prop}:∀(l:List Ac) (g:Nat->Value),(∀i,i<l.length->Cw w D 6 (g i) (l.getD i Ac.none).moves.length (yH (l.getD i Ac.none).moves))->Re w D l (Yg l g)
 |[],_,_=>rfl
 |a::l,g,h=>⟨_,_,rfl,⟨g 0,rfl,by simpa using h 0 (by simp)⟩,aS l (λi=>g (i+1)) λi hi=>by simpa using h (i+1) (by simpa using hi)⟩
theorem xD {E:Bl} {l:List Ac} {v:Value} (h:VR E (Ha l) v):∃cs,Cw E.w E.D 3 v l.length cs/\Re E.w E.D l cs:=by
 unfold Ha at h
 generalize hn:l.length=n at h ⊢
 cases h with
 |sl0=>
  have:l=[]:=List.eq_nil_of_length_eq_zero hn
  subst this
  exact⟨[],⟨rfl,.inl ⟨_,_,rfl,rfl⟩⟩,rfl⟩
 |sl _ _ _ _ b q c us hn0 hD hcell hr=>
  refine⟨Yg l λi=>us i 2,⟨by rw[Xf,hn],.inr ⟨b,q,c,rfl,hD,λk u hu=>?_⟩⟩,aS l _ λi hi=>?_⟩
  obtain⟨hk,he⟩:=List.getElem?_eq_some_iff.1 hu
  rw[Xf,hn] at hk
  obtain⟨d1,d2,d3⟩:=jC hk (by decide)
  have h1:=hcell _ _ d1 d2
  have h2:=hr _ _ d1 d2
  have h3:=mO l (λi=>us i 2) (k/3) (k%3) (by rw[hn];exact d1) d2
  rw[d3,List.getD_eq_getElem?_getD,hu] at h3
  rw[Nat.add_assoc,d3] at h1
  rw[h1]
  congr 1
  have h4:u=[Value.string (l.getD (k/3) Ac.none).name,.int .i64 (l.getD (k/3) Ac.none).len,us (k/3) 2].getD (k%3) undef:=h3
  rw[h4]
  generalize hj:k%3=j at h2 d2
  match j,d2 with
  |0,_=>exact h2.lit_inv
  |1,_=>exact h2.lit_inv
  |2,_=>rfl
  have h2:=hr i 2 (by omega) (by decide)
  exact Ab9 (E:=E.fz) h2
theorem vP {E:Bl} {p:Pr} {v:Value} (h:VR E (Ey p) v) (hD:∀b,E.D b->b<E.w.heap.size):∃vn vh va,v= .agg #[vn,vh,va]/\Ib E.w E.w.heap.size vn vh va p:=by
 have hrg:∀b,E.D b->rg 0 E.w.heap.size b:=λb hb=>⟨Nat.zero_le _,hD b hb⟩
 cases h with
 |agg _ _ vs hn hr=>
  have g:=VR.tops hr
  have hvs:vs=#[vs.getD 0 undef,vs.getD 1 undef,vs.getD 2 undef]:=by
   apply Array.ext
   simpa using hn
   intro i h1 h2
   have h3:i<3:=by simpa using h2
   match i,h3 with
   |0,_=>simp[Array.getD,h1]
   |1,_=>simp[Array.getD,h1]
   |2,_=>simp[Array.getD,h1]
  obtain⟨cs,k1,k2⟩:=xD (g 2)
  exact⟨_,_,_,congrArg _ hvs,⟨(sE (g 0)).more hrg,(Aaa (g 1)).more hrg,cs,k1.more hrg,k2.more hrg⟩⟩
structure Km (p:Pr):Prop where
 names:∀s∈p.names,s.size<=maxLen
 anames:∀a∈p.acts,a.name.size<=maxLen
 acts:p.acts.length<=1000000
 moves:∀a∈p.acts,a.moves.length<=1000000
 lens:∀a∈p.acts,Ct a.len
theorem kA {vs:Array Value} (h:vs.size=1):vs=#[vs.getD 0 undef]:=by
 apply Array.ext
 simpa using h
 intro i h1 h2
 have:i=0:=by simp at h2;exact h2
 subst this
 simp[h1]
theorem Lt (p:Pr) (hp:Km p):AF Tryz.prog 25 [Ey p] (.bool (Fa p)):=tO λE us hD hn hv=>by
 rw[kA hn]
 have h0:=hv 0 (by simp)
 obtain⟨vn,vh,va,e,h1⟩:=vP (E:=E.fz) (p:=p) h0 hD
 rw[e]
 refine(zY p vn vh va E.w h1 hp.names hp.anames hp.acts hp.moves).mono ?_
 rintro e w' ⟨rfl,hb⟩
 exact⟨_,rfl,hb,λ_ _ _ _=> .lit _ _⟩
abbrev Pn (l:List V3):AV:= .slc 3 l.length λi=>Hf (l.getD i V3.zero)
structure Cs where
 craft:Int
 act:Int
abbrev Hv (c:Cs):AV:= .lit (.agg #[.int .i64 c.craft,.int .i64 c.act])
def Aes (p:Pr) (a k:Int):Prop:=(p.names.length:Int)<=a/\(p.homes.length:Int)<=a/\(p.acts.length:Int)<=k/\(∀i,i<p.names.length->(p.names.getD i ByteArray.empty).size<=60)/\∀i,i<p.acts.length->(p.acts.getD i Ac.none).name.size<=60/\((p.acts.getD i Ac.none).moves.length:Int)<=a
theorem Aar (p:Pr) (a k:Int) (ha:Ct a) (hk:Ct k):AF Tryz.prog 13 [Ey p,.int a,.int k] (.bool (bP (Aes p a k))):=by
 refine Cq func13 rfl λB D0 hA0=>?_
 refine Ae 15 ?_
 refine Ft 14 (a<(p.names.length:Int)) (λhx1 hx1d=>?_) (λhx1 hx1d=>?_)
 ·
  refine Ae 23 ?_
  exact Fw (.bool false) (congrArg AV.bool (As (by rintro⟨g1,g2,g3,g4,g5⟩;first|omega|(have:=g4 i (by omega);omega)|(have:=g5 j (by omega);omega))).symm)
 ·
  refine Ae 7 ?_
  refine Ft 21 (a<(p.homes.length:Int)) (λhx2 hx2d=>?_) (λhx2 hx2d=>?_)
  ·
   refine Ae 16 ?_
   exact Fw (.bool false) (congrArg AV.bool (As (by rintro⟨g1,g2,g3,g4,g5⟩;first|omega|(have:=g4 i (by omega);omega)|(have:=g5 j (by omega);omega))).symm)
  ·
   refine Ae 8 ?_
   refine Ft 27 (k<(p.acts.length:Int)) (λhx3 hx3d=>?_) (λhx3 hx3d=>?_)
   ·
    refine Ae 8 ?_
    exact Fw (.bool false) (congrArg AV.bool (As (by rintro⟨g1,g2,g3,g4,g5⟩;first|omega|(have:=g4 i (by omega);omega)|(have:=g5 j (by omega);omega))).symm)
   ·
    refine Ae 10 ?_
    refine Mf [1,3,7] p.names.length (λi=>∀q,q<i->(p.names.getD q ByteArray.empty).size<=60) (λi=>⟨[(1,.int a),(3,.ptr 0 0),(7,.int (i:Int))],[(0,.box 31 [Ga p.names,Ik p.homes,Ha p.acts])],1,68⟩) (λq hq=>absurd hq (Nat.not_lt_zero q)) (λi hin hFi J1 hJ1=>?_)
    refine Ae 10 ?_
    refine Ft 32 ((i:Int)<(p.names.length:Int)) (λhx4 hx4d=>?_) (λhx4 hx4d=>?_)
    ·
     refine Ae 10 ?_
     refine Gn i p.names.length ?_
     refine Ae 1 ?_
     refine Nd (.int .i64 (ByteArray.size (p.names.getD i ByteArray.empty):Int)) (.int .i64 (ByteArray.size (p.names.getD i ByteArray.empty):Int)) ?_
     refine Ae 3 ?_
     refine Ft 41 ((60:Int)<(ByteArray.size (p.names.getD i ByteArray.empty):Int)) (λhx5 hx5d=>?_) (λhx5 hx5d=>?_)
     ·
      refine Ae 12 ?_
      exact Fw (.bool false) (congrArg AV.bool (As (by rintro⟨g1,g2,g3,g4,g5⟩;first|omega|(have:=g4 i (by omega);omega)|(have:=g5 j (by omega);omega))).symm)
     ·
      refine Ae 6 ?_
      refine Fr ((i:Int)+1) ((i+1:Nat):Int) ?_
      refine Ae 2 ?_
      exact Om [1,3,7] (hJ1 (by omega) (λq hq=>(Nat.lt_or_ge q i).elim (λg=>hFi q g) λg=>by have e:q=i:=(by omega);subst e;omega))
    ·
     refine Ae 13 ?_
     refine Mf [1,3,8] p.acts.length (λj=>∀q,q<j->(p.acts.getD q Ac.none).name.size<=60/\((p.acts.getD q Ac.none).moves.length:Int)<=a) (λj=>⟨[(1,.int a),(3,.ptr 0 0),(8,.int (j:Int))],[(0,.box 31 [Ga p.names,Ik p.homes,Ha p.acts])],1,68⟩) (λq hq=>absurd hq (Nat.not_lt_zero q)) (λj hjn hFj J2 hJ2=>?_)
     refine Ae 10 ?_
     refine Ft 46 ((j:Int)<(p.acts.length:Int)) (λhx6 hx6d=>?_) (λhx6 hx6d=>?_)
     ·
      refine Ae 10 ?_
      refine Gn j p.acts.length ?_
      refine Ae 2 ?_
      refine Nd (.int .i64 (ByteArray.size ((p.acts.getD j Ac.none).name):Int)) (.int .i64 (ByteArray.size ((p.acts.getD j Ac.none).name):Int)) ?_
      refine Ae 2 ?_
      refine Ft 57 ((60:Int)<(ByteArray.size ((p.acts.getD j Ac.none).name):Int)) (λhx7 hx7d=>?_) (λhx7 hx7d=>?_)
      ·
       refine Ae 24 ?_
       exact Fw (.bool false) (congrArg AV.bool (As (by rintro⟨g1,g2,g3,g4,g5⟩;first|omega|(have:=g4 i (by omega);omega)|(have:=g5 j (by omega);omega))).symm)
      ·
       refine Ae 3 ?_
       refine Gn j p.acts.length ?_
       refine Ae 8 ?_
       refine Ft 67 (a<((p.acts.getD j Ac.none).moves.length:Int)) (λhx8 hx8d=>?_) (λhx8 hx8d=>?_)
       ·
        refine Ae 12 ?_
        exact Fw (.bool false) (congrArg AV.bool (As (by rintro⟨g1,g2,g3,g4,g5⟩;first|omega|(have:=g4 i (by omega);omega)|(have:=g5 j (by omega);omega))).symm)
       ·
        refine Ae 6 ?_
        refine Fr ((j:Int)+1) ((j+1:Nat):Int) ?_
        refine Ae 2 ?_
        exact Om [1,3,8] (hJ2 (by omega) (λq hq=>(Nat.lt_or_ge q j).elim (λg=>hFj q g) λg=>by have e:q=j:=(by omega);subst e;omega))
     ·
      refine Ae 12 ?_
      exact Fw (.bool true) (congrArg AV.bool (Dw (⟨by omega,by omega,by omega,λq hq=>hFi q (by omega),λq hq=>hFj q (by omega)⟩)).symm)
def Vl (n:Nat) (p:Nat->Bool):Int:=match (List.range n).find? p with|some i=>(i:Int)|none=> -1
theorem Abi (n:Nat) (p:Nat->Bool) (h:∀q,q<n->p q=false):Vl n p= -1:=by
 have:(List.range n).find? p=none:=List.find?_eq_none.2 λq hq=>by simp[h q (List.mem_range.1 hq)]
 unfold Vl;rw[this]
theorem AcZ (n:Nat) (p:Nat->Bool) (i:Nat) (hi:i<n) (h:∀q,q<i->p q=false) (h2:p i=true):Vl n p=(i:Int):=by
 have:(List.range n).find? p=some i:=List.find?_range_eq_some.2 ⟨h2,by simpa using hi,λj hj=>by simp[h j hj]⟩
 unfold Vl;rw[this]
theorem Aaw (l:List V3) (n:Nat) (v:V3) (hn:n<=1000000):AF Tryz.prog 72 [.sl 3 n λi=>Hf (l.getD i V3.zero),Hf v] (.int (Vl n λi=>decide ((l.getD i V3.zero).x=v.x/\(l.getD i V3.zero).y=v.y/\(l.getD i V3.zero).z=v.z))):=by
 refine Cq func72 rfl λB D0 hA0=>?_
 refine Ae 15 ?_
 refine Mf [0,3,7,8] n (λi=>∀q,q<i->decide ((l.getD q V3.zero).x=v.x/\(l.getD q V3.zero).y=v.y/\(l.getD q V3.zero).z=v.z)=false) (λi=>⟨[(0,.sl 3 n (λi0=>Hf (l.getD i0 V3.zero))),(3,.ptr 0 0),(7,.int (n:Int)),(8,.int (i:Int))],[(0,.box 36 [.int v.x,.int v.y,.int v.z])],1,19⟩) (λq hq=>absurd hq (Nat.not_lt_zero q)) (λi hin hFi J1 hJ1=>?_)
 refine Ae 6 ?_
 refine Ft 9 ((i:Int)<(n:Int)) (λhx1 hx1d=>?_) (λhx1 hx1d=>?_)
 ·
  refine Ae 12 ?_
  refine Kq [(3,Fv (.sl 3 n (λi0=>Hf (l.getD i0 V3.zero))) i,.none),(5,.bool (decide (v.x=(l.getD i V3.zero).x/\v.y=(l.getD i V3.zero).y/\v.z=(l.getD i V3.zero).z)),.none)] [0,3,5,7,8,16] ⟨Ox i n,Av (Lx 36 36 (.tmp 11) (.tmp 15) (by kernel_rfl) _ _ (by kernel_rfl) (by kernel_rfl) (by kernel_rfl) (decide (v.x=(l.getD i V3.zero).x/\v.y=(l.getD i V3.zero).y/\v.z=(l.getD i V3.zero).z)) (Qf _ _ _ _ _ _)),trivial⟩ ?_
  refine Ae 1 ?_
  refine Ft 16 (v.x=(l.getD i V3.zero).x/\v.y=(l.getD i V3.zero).y/\v.z=(l.getD i V3.zero).z) (λhx2 hx2d=>?_) (λhx2 hx2d=>?_)
  ·
   refine Ae 13 ?_
   exact Fw (.int (i:Int)) (congrArg AV.int (AcZ n _ i (by omega) (λq hq=>hFi q hq) (by simp only[decide_eq_true_eq];omega)).symm)
  ·
   refine Ae 5 ?_
   refine Fr ((i:Int)+1) ((i+1:Nat):Int) ?_
   refine Ae 2 ?_
   exact Om [0,3,7,8] (hJ1 (by omega) (λq hq=>(Nat.lt_or_ge q i).elim (λg=>hFi q g) λg=>by have e:q=i:=(by omega);subst e;simp only[decide_eq_false_iff_not];omega))
 ·
  refine Ae 12 ?_
  exact Fw (.int (-1)) (congrArg AV.int (Abi n _ λq hq=>hFi q (by omega)).symm)
def Bn (l:List Ac):Nat->Int
 |0=>0
 |k+1=>Bn l k+(l.getD k Ac.none).len
theorem bV {p:Pr} {k:Nat} {t:Int} {m:List Int}:∀{i:Nat} {l:List Int},Ec p k t m i=some l->∀j,j<i->Qz p k t j=0
 |0,_,_,j,hj=>absurd hj (Nat.not_lt_zero j)
 |i+1,l,h,j,hj=>by
  rw[Ec] at h
  cases h1:Ec p k t m i with
  |none=>rw[h1] at h;cases h
  |some l1=>
   rw[h1] at h
   simp only at h
   split at h
   rename_i hc
   rcases Nat.lt_or_ge j i with hji|hji
   exact bV h1 j hji
   have:j=i:=by omega
   subst this
   exact hc.1
   cases h
theorem dJ {p:Pr}:∀{k:Nat} {t:Int} {m:List Int},Kp p k=some (t,m)->t=Bn p.acts k/\0<=t/\t<=3600000/\∀j,j<k->(0<=Bn p.acts j/\Bn p.acts j<=3600000)/\1<=(p.acts.getD j Ac.none).len/\(p.acts.getD j Ac.none).moves.length=p.names.length/\∀i,i<p.names.length->Qz p j (Bn p.acts j) i=0
 |0,t,m,h=>by
  simp only[Kp,Option.some.injEq,Prod.mk.injEq] at h
  obtain⟨rfl,_⟩:=h
  exact⟨rfl,Int.le_refl _,by decide,λj hj=>absurd hj (Nat.not_lt_zero j)⟩
 |k+1,t,m,h=>by
  rw[Kp] at h
  cases h1:Kp p k with
  |none=>rw[h1] at h;cases h
  |some tm=>
   obtain⟨t1,m1⟩:=tm
   rw[h1] at h
   simp only at h
   split at h
   rename_i hc
   cases h2:Ec p k t1 m1 p.names.length with
   |none=>rw[h2] at h;cases h
   |some m2=>
    rw[h2] at h
    simp only[Option.some.injEq,Prod.mk.injEq] at h
    obtain⟨rfl,rfl⟩:=h
    obtain⟨e1,e2,e3,e4⟩:=dJ h1
    refine⟨by rw[Bn,e1],by omega,by omega,λj hj=>?_⟩
    rcases Nat.lt_or_ge j k with hjk|hjk
    exact e4 j hjk
    have:j=k:=by omega
    subst this
    rw[<-e1]
    exact⟨⟨e2,e3⟩,hc.2.1,hc.2.2.2,bV h2⟩
   cases h
structure Za (p:Pr):Prop where
 n1:1<=p.names.length/\p.names.length<=64
 homes:p.homes.length=p.names.length
 acts:p.acts.length<=60
 ends:∀j,j<=p.acts.length->0<=Bn p.acts j/\Bn p.acts j<=3600000
 len:∀j,j<p.acts.length->1<=(p.acts.getD j Ac.none).len
 mv:∀j,j<p.acts.length->(p.acts.getD j Ac.none).moves.length=p.names.length
 pe:∀j i,j<p.acts.length->i<p.names.length->Qz p j (Bn p.acts j) i=0
theorem Kl {p:Pr} (h:Fa p=true):Za p:=by
 unfold Fa at h
 simp only[Bool.and_eq_true,decide_eq_true_eq] at h
 obtain⟨⟨h1,h2⟩,h3⟩:=h
 unfold Rk at h1
 simp only[Bool.and_eq_true,decide_eq_true_eq] at h1
 obtain⟨tm,ht⟩:=Option.isSome_iff_exists.1 h3
 obtain⟨t,m⟩:=tm
 obtain⟨e1,e2,e3,e4⟩:=dJ ht
 refine⟨⟨h1.1.1.1,h1.1.1.2⟩,h1.1.2,h2,λj hj=>?_,λj hj=>(e4 j hj).2.1,λj hj=>(e4 j hj).2.2.1,λj i hj hi=>(e4 j hj).2.2.2 i hi⟩
 rcases Nat.lt_or_ge j p.acts.length with hlt|hge
 exact(e4 j hlt).1
 have:j=p.acts.length:=by omega
 subst this
 rw[<-e1];exact⟨e2,e3⟩
theorem Za.to {p:Pr} (h:Za p) {j i:Nat} (hj:j<p.acts.length) (hi:i<p.names.length):Eb 1048576 [((p.acts.getD j Ac.none).moves.getD i Mv.none).to.x,((p.acts.getD j Ac.none).moves.getD i Mv.none).to.y,((p.acts.getD j Ac.none).moves.getD i Mv.none).to.z]=true:=by
 have:=h.pe j i hj hi
 unfold Qz tC at this
 split at this
 rename_i hb
 unfold tpB qM at hb
 simp only[Bool.and_eq_true] at hb
 have h2:Tm ((p.acts.getD j Ac.none).moves.getD i Mv.none).to.x ((p.acts.getD j Ac.none).moves.getD i Mv.none).to.y ((p.acts.getD j Ac.none).moves.getD i Mv.none).to.z=true:=by
  revert hb
  simp only[and_imp]
  intros
  assumption
 exact h2
 cases this
theorem in3 {m x y z:Int} (h:Eb m [x,y,z]=true):(-m<=x/\x<=m)/\(-m<=y/\y<=m)/\(-m<=z/\z<=m):=by
 unfold Eb at h
 simpa using h
theorem getD_in {l:List Ac} (h:∀a∈l,Ct a.len) (i:Nat):Ct (l.getD i Ac.none).len:=by
 rw[List.getD_eq_getElem?_getD]
 cases hi:l[i]? with
 |none=>exact⟨by decide,by decide⟩
 |some a=>exact h a (List.mem_of_getElem? hi)
theorem nJ (n:Nat) (p:Nat->Bool):0<=Vl n p↔∃q,q<n/\p q=true:=by
 unfold Vl
 cases h:(List.range n).find? p with
 |none=>
  have:=List.find?_eq_none.1 h
  constructor
  intro h;exact absurd h (by decide)
  rintro⟨q,hq,hp⟩
  exact absurd hp (this q (List.mem_range.2 hq))
 |some i=>
  have h1:=List.find?_some h
  have h2:=List.mem_of_find?_eq_some h
  exact⟨λ_=>⟨i,List.mem_range.1 h2,h1⟩,λ_=>Int.natCast_nonneg i⟩
theorem lV (l:List V3) (n:Nat) (v:V3) (hn:n<=1000000):AF Tryz.prog 34 [.sl 3 n λi=>Hf (l.getD i V3.zero),Hf v] (.bool (bP (∃q,q<n/\(l.getD q V3.zero).x=v.x/\(l.getD q V3.zero).y=v.y/\(l.getD q V3.zero).z=v.z))):=by
 have HQ:decide ((0:Int)<=Vl n λi=>decide ((l.getD i V3.zero).x=v.x/\(l.getD i V3.zero).y=v.y/\(l.getD i V3.zero).z=v.z))=bP (∃q,q<n/\(l.getD q V3.zero).x=v.x/\(l.getD q V3.zero).y=v.y/\(l.getD q V3.zero).z=v.z):=by
  by_cases h:∃q,q<n/\(l.getD q V3.zero).x=v.x/\(l.getD q V3.zero).y=v.y/\(l.getD q V3.zero).z=v.z
  ·
   rw[Dw h,decide_eq_true_eq,nJ]
   obtain⟨q,hq,h⟩:=h
   exact⟨q,hq,by simpa using h⟩
  ·
   rw[As h,decide_eq_false_iff_not,nJ]
   rintro⟨q,hq,h2⟩
   exact h ⟨q,hq,by simpa using h2⟩
 refine Cq func34 rfl λB D0 hA0=>?_
 refine Ae 10 ?_
 refine Cz (Aaw l n v hn) ?_
 refine Ae 5 ?_
 exact Fw (.bool (decide ((0:Int)<=Vl n (λi=>decide ((l.getD i V3.zero).x=v.x/\(l.getD i V3.zero).y=v.y/\(l.getD i V3.zero).z=v.z))))) (congrArg AV.bool HQ)
theorem Aeq (p:Pr) (hp:Km p) (ho:Za p) (k:Nat) (hk:k<p.acts.length):AF Tryz.prog 103 [Ey p,.int (k:Int)] (.int (Bn p.acts (k+1))):=by
 have hac:=ho.acts
 refine Cq func103 rfl λB D0 hA0=>?_
 refine Ae 15 ?_
 refine Fr ((k:Int)+1) ((k+1:Nat):Int) ?_
 refine Ae 4 ?_
 refine Mf [2,5,8,9] (k+1) (λi=>True) (λi=>⟨[(2,.ptr 0 0),(5,.int (Bn p.acts i)),(8,.int ((k+1:Nat):Int)),(9,.int (i:Int))],[(0,.box 31 [Ga p.names,Ik p.homes,Ha p.acts])],1,22⟩) trivial (λi hin hFi J1 hJ1=>?_)
 refine Ae 6 ?_
 refine Ft 10 ((i:Int)<((k+1:Nat):Int)) (λhx1 hx1d=>?_) (λhx1 hx1d=>?_)
 ·
  refine Ae 11 ?_
  have he2:=ho.ends i (by omega)
  have hl:=getD_in hp.lens i
  refine Ae 5 ?_
  refine Gn i p.acts.length ?_
  refine Ae 2 ?_
  refine Nd (.int .i64 (IntKind.wrap .i64 (Bn p.acts i+(p.acts.getD i Ac.none).len))) (.int .i64 (Bn p.acts (i+1))) ?_ (congrArg (Value.int .i64) ((IntWalk.i64_in _ (by have he3:=ho.ends (i+1) (by omega);rw[Bn] at he3;omega)).trans rfl))
  refine Ae 5 ?_
  refine Fr ((i:Int)+1) ((i+1:Nat):Int) ?_
  refine Ae 2 ?_
  exact Om [2,5,8,9] (hJ1 (by omega) trivial)
 ·
  refine Ae 13 ?_
  exact Fw (.int (Bn p.acts i)) (congrArg (λq=>AV.int (Bn p.acts q)) (show i=k+1 by omega))
theorem lW (p:Pr) (hp:Km p) (ho:Za p) (k:Nat) (hk:k<p.acts.length):AF Tryz.prog 27 [Ey p,.int (k:Int)] (.int (Bn p.acts (k+1))):=by
 have hac:=ho.acts
 refine Cq func27 rfl λB D0 hA0=>?_
 refine Ae 18 ?_
 refine Mf [1,2,5,6] (k+1) (λi=>True) (λi=>⟨[(1,.int (k:Int)),(2,.ptr 0 0),(5,.int (Bn p.acts i)),(6,.int (i:Int))],[(0,.box 31 [Ga p.names,Ik p.homes,Ha p.acts])],1,21⟩) trivial (λi hin hFi J1 hJ1=>?_)
 have he:=ho.ends i
 refine Ae 8 ?_
 refine Ft 9 ((i:Int)<=(k:Int)) (λhx1 hx1d=>?_) (λhx1 hx1d=>?_)
 ·
  refine Ae 5 ?_
  have he2:=ho.ends i (by omega)
  have hl:=getD_in hp.lens i
  refine Ae 5 ?_
  refine Gn i p.acts.length ?_
  refine Ae 2 ?_
  refine Nd (.int .i64 (IntKind.wrap .i64 (Bn p.acts i+(p.acts.getD i Ac.none).len))) (.int .i64 (Bn p.acts (i+1))) ?_ (congrArg (Value.int .i64) ((IntWalk.i64_in _ (by have he3:=ho.ends (i+1) (by omega);rw[Bn] at he3;omega)).trans rfl))
  refine Ae 6 ?_
  refine Fr ((i:Int)+1) ((i+1:Nat):Int) ?_
  refine Ae 2 ?_
  exact Om [1,2,5,6] (hJ1 (by omega) trivial)
 ·
  refine Ae 13 ?_
  exact Fw (.int (Bn p.acts i)) (congrArg (λq=>AV.int (Bn p.acts q)) (show i=k+1 by omega))
def Fx (p:Pr) (c:Cs):Prop:=Fa p=true/\0<=c.craft/\c.craft<(p.names.length:Int)/\0<=c.act/\c.act<(p.acts.length:Int)
def Bj (p:Pr) (c:Cs):Int:=Bn p.acts (c.act.toNat+1)
structure Qa (c:Cs):Prop where
 craft:Ct c.craft
 act:Ct c.act
theorem Vb (p:Pr) (c:Cs) (hp:Km p) (_:Qa c):AF Tryz.prog 73 [Ey p,Hv c] (.bool (bP (Fx p c))):=by
 have hac:=hp.acts
 refine Cq func73 rfl λB D0 hA0=>?_
 refine Ae 10 ?_
 refine Cz (Lt p hp) ?_
 refine Ae 1 ?_
 refine qN 7 (Fa p) (λhx1=>?_) (λhx1=>?_)
 ·
  refine Ae 5 ?_
  refine Ft 12 ((0:Int)<=c.craft) (λhx2 hx2d=>?_) (λhx2 hx2d=>?_)
  ·
   refine Ae 8 ?_
   refine Ft 20 (c.craft<(p.names.length:Int)) (λhx3 hx3d=>?_) (λhx3 hx3d=>?_)
   ·
    refine Ae 5 ?_
    refine Ft 25 ((0:Int)<=c.act) (λhx4 hx4d=>?_) (λhx4 hx4d=>?_)
    ·
     refine Ae 11 ?_
     exact Fw (.bool (decide (c.act<(p.acts.length:Int)))) (congrArg AV.bool (if hz:c.act<(p.acts.length:Int) then (decide_eq_true hz).trans (Dw ⟨by assumption,by omega,by omega,by omega,hz⟩).symm else (decide_eq_false hz).trans (As (by rintro⟨g1,g2,g3,g4,g5⟩;omega)).symm))
    ·
     refine Ae 11 ?_
     exact Fw (.bool false) (congrArg AV.bool (As (by rintro⟨g1,g2,g3,g4,g5⟩;first|omega|(simp_all;done))).symm)
   ·
    refine Ae 16 ?_
    exact Fw (.bool false) (congrArg AV.bool (As (by rintro⟨g1,g2,g3,g4,g5⟩;first|omega|(simp_all;done))).symm)
  ·
   refine Ae 24 ?_
   exact Fw (.bool false) (congrArg AV.bool (As (by rintro⟨g1,g2,g3,g4,g5⟩;first|omega|(simp_all;done))).symm)
 ·
  refine Ae 29 ?_
  exact Fw (.bool false) (congrArg AV.bool (As (by rintro⟨g1,g2,g3,g4,g5⟩;first|omega|(simp_all;done))).symm)
theorem Px (p:Pr) (c:Cs) (hp:Km p) (_:Qa c):AF Tryz.prog 15 [Ey p,Hv c] (.bool (bP (Fx p c))):=by
 have hac:=hp.acts
 refine Cq func15 rfl λB D0 hA0=>?_
 refine Ae 10 ?_
 refine Cz (Lt p hp) ?_
 refine Ae 1 ?_
 refine qN 7 (Fa p) (λhx1=>?_) (λhx1=>?_)
 ·
  refine Ae 5 ?_
  refine Ft 12 ((0:Int)<=c.craft) (λhx2 hx2d=>?_) (λhx2 hx2d=>?_)
  ·
   refine Ae 8 ?_
   refine Ft 20 (c.craft<(p.names.length:Int)) (λhx3 hx3d=>?_) (λhx3 hx3d=>?_)
   ·
    refine Ae 5 ?_
    refine Ft 25 ((0:Int)<=c.act) (λhx4 hx4d=>?_) (λhx4 hx4d=>?_)
    ·
     refine Ae 11 ?_
     exact Fw (.bool (decide (c.act<(p.acts.length:Int)))) (congrArg AV.bool (if hz:c.act<(p.acts.length:Int) then (decide_eq_true hz).trans (Dw ⟨by assumption,by omega,by omega,by omega,hz⟩).symm else (decide_eq_false hz).trans (As (by rintro⟨g1,g2,g3,g4,g5⟩;omega)).symm))
    ·
     refine Ae 11 ?_
     exact Fw (.bool false) (congrArg AV.bool (As (by rintro⟨g1,g2,g3,g4,g5⟩;first|omega|(simp_all;done))).symm)
   ·
    refine Ae 16 ?_
    exact Fw (.bool false) (congrArg AV.bool (As (by rintro⟨g1,g2,g3,g4,g5⟩;first|omega|(simp_all;done))).symm)
  ·
   refine Ae 24 ?_
   exact Fw (.bool false) (congrArg AV.bool (As (by rintro⟨g1,g2,g3,g4,g5⟩;first|omega|(simp_all;done))).symm)
 ·
  refine Ae 29 ?_
  exact Fw (.bool false) (congrArg AV.bool (As (by rintro⟨g1,g2,g3,g4,g5⟩;first|omega|(simp_all;done))).symm)
theorem qP (p:Pr) (c:Cs) (hp:Km p) (hc:Qa c) (h:Fx p c):AF Tryz.prog 75 [Ey p,Hv c] (.lit (.tuple #[.int .i64 (Bj p c),.int .i64 0])):=by
 have hv1:=h.2.1
 have hv2:=h.2.2.1
 have hv3:=h.2.2.2.1
 have hv4:=h.2.2.2.2
 have hmv:=(Kl h.1).mv c.act.toNat (by omega)
 refine Cq func75 rfl λB D0 hA0=>?_
 refine Ae 13 ?_
 refine Cz (Vb p c hp hc) ?_
 refine Ae 3 ?_
 refine Iw 9 (!bP (Fx p c)) false (by rw[(Dw h)];rfl) ?_
 refine Ae 8 ?_
 refine Cz (by have:=Aeq p hp (Kl h.1) c.act.toNat (by have:=h.2.2.2.2;omega);rwa [show (c.act.toNat:Int)=c.act by have:=h.2.2.2.1;omega] at this) ?_
 refine Ae 5 ?_
 exact Gx
theorem eS (p:Pr) (hp:Km p) (h:Fa p=true):AF Tryz.prog 51 [Ey p] (.lit (.tuple #[.int .i64 (Bn p.acts p.acts.length),.int .i64 0])):=by
 have ho:=Kl h
 have hac:=ho.acts
 refine Cq func51 rfl λB D0 hA0=>?_
 refine Ae 11 ?_
 refine Cz (Lt p hp) ?_
 refine Ae 3 ?_
 refine Iw 9 (!Fa p) false (by rw[h];rfl) ?_
 refine Ae 18 ?_
 refine Mf [4,11,12,13] p.acts.length (λi=>True) (λi=>⟨[(4,.int (Bn p.acts i)),(11,Ha p.acts),(12,.int (p.acts.length:Int)),(13,.int (i:Int))],[(0,.box 31 [Ga p.names,Ik p.homes,Ha p.acts])],1,23⟩) trivial (λi hin hFi J1 hJ1=>?_)
 refine Ae 6 ?_
 refine Ft 14 ((i:Int)<(p.acts.length:Int)) (λhx1 hx1d=>?_) (λhx1 hx1d=>?_)
 ·
  refine Ae 5 ?_
  have he2:=ho.ends i (by omega)
  have hl:=getD_in hp.lens i
  refine Ae 2 ?_
  refine Gn i p.acts.length ?_
  refine Ae 9 ?_
  refine Nd (.int .i64 (IntKind.wrap .i64 (Bn p.acts i+(p.acts.getD i Ac.none).len))) (.int .i64 (Bn p.acts (i+1))) ?_ (congrArg (Value.int .i64) ((IntWalk.i64_in _ (by have he3:=ho.ends (i+1) (by omega);rw[Bn] at he3;omega)).trans rfl))
  refine Ae 5 ?_
  refine Fr ((i:Int)+1) ((i+1:Nat):Int) ?_
  refine Ae 2 ?_
  exact Hu [4,11,12,13] [(0,0)] 1 0 hA0 [] trivial (hJ1 (by omega) trivial)
 ·
  refine Ae 14 ?_
  exact Fw (.lit (.tuple #[.int .i64 (Bn p.acts i),.int .i64 0])) (congrArg (λq=>AV.lit (.tuple #[.int .i64 (Bn p.acts q),.int .i64 0])) (show i=p.acts.length by omega))
structure Rv where
 homes:List V3
 flight:Int
 waits:List Int
 rises:List Int
structure Rl where
 spare:Int
 wait:Int
 rise:Int
def Rl.none:Rl:=⟨0,0,0⟩
abbrev Dg (l:List Int):AV:= .slc 1 l.length λi=> .int (l.getD i 0)
abbrev Hg (r:Rv):AV:= .agg [Pn r.homes,.int r.flight,Dg r.waits,Dg r.rises]
abbrev Cu (x:Rl):AV:= .lit (.agg #[.int .i64 x.spare,.int .i64 x.wait,.int .i64 x.rise])
abbrev AbM (l:List Rl):AV:= .sl 3 l.length λi=>Cu (l.getD i Rl.none)
structure aO (r:Rv):Prop where
 n:r.homes.length<=1000000
 w:r.waits.length<=1000000
 s:r.rises.length<=1000000
 fl:Ct r.flight
def Of (l:List Int) (m:Int):Prop:=1<=l.length/\l.length<=16/\∀i,i<l.length->0<=l.getD i 0/\l.getD i 0<=m/\(0<i->l.getD (i-1) 0<l.getD i 0)
theorem Ad9 {l:List Int} {m:Int} (h1:1<=l.length) (h2:l.length<=16) (h3:0<=l.getD 0 0) (h4:l.getD (l.length-1) 0<=m) (h5:∀i,i<l.length-1->l.getD i 0<l.getD (1+i) 0):Of l m:=by
 have lo:∀i,i<l.length->0<=l.getD i 0:=by
  intro i
  induction i with
  |zero=>intro _;exact h3
  |succ i ih=>intro hi;have:=ih (by omega);have:=h5 i (by omega);rw[Nat.add_comm 1 i] at this;omega
 have hi:∀j i,i+j=l.length-1->i<l.length->l.getD i 0<=m:=by
  intro j
  induction j with
  |zero=>intro i h _;rw[show i=l.length-1 by omega];exact h4
  |succ j ih=>intro i h h6;have:=ih (i+1) (by omega) (by omega);have:=h5 i (by omega);rw[Nat.add_comm 1 i] at this;omega
 exact⟨h1,h2,λi h6=>⟨lo i h6,hi (l.length-1-i) i (by omega) h6,λh7=>by
  have:=h5 (i-1) (by omega)
  rwa [show 1+(i-1)=i by omega] at this⟩⟩
def tm4 (x:Int):Int:=Int.tmod x 4
theorem AaI {a b:Prop} (h:a↔b):bP a=bP b:=by
 by_cases g:a
 rw[Dw g,Dw (h.1 g)]
 rw[As g,As λk=>g (h.2 k)]
def Ng (r:Rv):Prop:=(1<=r.homes.length/\r.homes.length<=8/\4<=r.flight/\r.flight<=3600000/\tm4 r.flight=0)/\(∀i,i<r.homes.length->Eb 1048576 [(r.homes.getD i V3.zero).x,(r.homes.getD i V3.zero).y,(r.homes.getD i V3.zero).z]=true/\∀j,j<i->¬((r.homes.getD j V3.zero).x=(r.homes.getD i V3.zero).x/\(r.homes.getD j V3.zero).y=(r.homes.getD i V3.zero).y/\(r.homes.getD j V3.zero).z=(r.homes.getD i V3.zero).z))/\Of r.waits 3600000/\Of r.rises 1048576
def Xx (l:List Ac) (a:Int):Nat->Nat->Nat
 |0,i=>i
 |k+1,i=>if a<=Bn l (i+1) then i else Xx l a k (i+1)
theorem wI {l:List Ac} {a:Int}:∀k i j,i<=j->j<=i+k->(∀q,i<=q->q<j->Bn l (q+1)<a)->(j=i+k\/a<=Bn l (j+1))->Xx l a k i=j
 |0,i,j,h1,h2,_,_=>by rw[Xx];omega
 |k+1,i,j,h1,h2,h3,h4=>by
  rw[Xx]
  by_cases h:i=j
  subst h
  rw[if_pos (by omega)]
  have:=h3 i (by omega) (by omega)
  rw[if_neg (by omega)]
  exact wI k (i+1) j (by omega) (by omega) (λq g1 g2=>h3 q (by omega) g2) (by omega)
theorem wK {l:List Ac} {a:Int}:∀k i,i<=Xx l a k i/\Xx l a k i<=i+k
 |0,i=>by rw[Xx];omega
 |k+1,i=>by
  have:=wK (l:=l) (a:=a) k (i+1)
  rw[Xx]
  split<;>omega
def Gc (p:Pr) (c:Cs) (a:Int):Nat:=Xx p.acts a (p.acts.length-(c.act.toNat+1)) (c.act.toNat+1)
theorem Zz {p:Pr} {c:Cs} {a:Int} {j:Nat} (h1:c.act.toNat+1<=j) (h2:j<=p.acts.length) (h3:∀q,c.act.toNat+1<=q->q<j->Bn p.acts (q+1)<a) (h4:j=p.acts.length\/a<=Bn p.acts (j+1)):Gc p c a=j:=
 wI _ _ _ h1 (by omega) h3 (by omega)
def Em (p:Pr) (r:Rv) (c:Cs) (w:Int):Int:=Bj p c+w+r.flight
def Ko (p:Pr) (c:Cs) (i:Nat):V3:=((p.acts.getD i Ac.none).moves.getD c.craft.toNat Mv.none).to
def Pj (l:List Nat) (j:Nat):List Nat:=(l.set (j+1) (l.getD j 0)).set j (l.getD (j+1) 0)
theorem Mn (l:List Nat) (j:Nat):(Pj l j).length=l.length:=by simp[Pj]
theorem cX (l:List Nat) (j x:Nat) (h:j+1<l.length):(Pj l j).getD x 0=if x=j then l.getD (j+1) 0 else if x=j+1 then l.getD j 0 else l.getD x 0:=by
 unfold Pj
 simp only[List.getD_eq_getElem?_getD,List.getElem?_set,List.length_set]
 by_cases h1:x=j
 subst h1
 simp[show x<l.length by omega]
 by_cases h2:x=j+1
 subst h2
 simp[h]
 rw[if_neg (λe=>h1 e.symm),if_neg (λe=>h2 e.symm),if_neg h1,if_neg h2]
def Vr (lt:Nat->Nat->Bool) (l:List Nat):Nat->List Nat
 |0=>l
 |j+1=>if lt (l.getD (j+1) 0) (l.getD j 0) then Vr lt (Pj l j) j else l
def Ma (lt:Nat->Nat->Bool) (l:List Nat):Nat->List Nat
 |0=>l
 |i+1=>Vr lt (Ma lt l i) (i+1)
theorem nY (lt:Nat->Nat->Bool):∀j l,(Vr lt l j).length=l.length
 |0,_=>rfl
 |j+1,l=>by
  rw[Vr]
  split
  rw[nY lt j,Mn]
  rfl
theorem nZ (lt:Nat->Nat->Bool) {n:Nat}:∀j l,j<l.length->(∀x,x<l.length->l.getD x 0<n)->∀x,x<l.length->(Vr lt l j).getD x 0<n
 |0,_,_,h=>h
 |j+1,l,hj,h=>by
  rw[Vr]
  split
  have:=nZ lt j (Pj l j) (by rw[Mn];omega) (n:=n) (λx hx=>by
   rw[Mn] at hx
   rw[cX _ _ _ hj]
   split
   exact h _ hj
   split
   exact h _ (by omega)
   exact h x hx)
  rwa [Mn] at this
  exact h
theorem Pg (lt:Nat->Nat->Bool) (l:List Nat):∀i,(Ma lt l i).length=l.length
 |0=>rfl
 |i+1=>by rw[Ma,nY,Pg lt l i]
theorem cV (lt:Nat->Nat->Bool) {n:Nat} (l:List Nat) (h:∀x,x<l.length->l.getD x 0<n):∀i,i<l.length->∀x,x<l.length->(Ma lt l i).getD x 0<n
 |0,_=>h
 |i+1,hi=>by
  have:=nZ lt (n:=n) (i+1) (Ma lt l i) (by rw[Pg];exact hi) (λx hx=>by
   rw[Pg] at hx
   exact cV lt l h i (by omega) x hx)
  rw[Pg] at this
  rw[Ma];exact this
def Tk (r:Rv) (v:V3) (i:Nat):Int:=((r.homes.getD i V3.zero).x-v.x)*((r.homes.getD i V3.zero).x-v.x)+((r.homes.getD i V3.zero).y-v.y)*((r.homes.getD i V3.zero).y-v.y)+((r.homes.getD i V3.zero).z-v.z)*((r.homes.getD i V3.zero).z-v.z)
def dS (r:Rv) (v:V3) (a b:Nat):Bool:=decide (Tk r v a<Tk r v b\/(Tk r v a=Tk r v b/\a<b))
def Ee (r:Rv) (v:V3):List Nat:=Ma (dS r v) (List.range r.homes.length) (r.homes.length-1)
theorem Wn {n x:Nat} (h:x<n):(List.range n).getD x 0=x:=by
 rw[List.getD_eq_getElem?_getD,List.getElem?_range h];rfl
theorem Wg (r:Rv) (v:V3) {x:Nat} (h:x<r.homes.length):(Ee r v).getD x 0<r.homes.length:=by
 have:=cV (dS r v) (n:=r.homes.length) (List.range r.homes.length) (λx hx=>by
  rw[List.length_range] at hx
  rw[Wn hx];exact hx) (r.homes.length-1) (by rw[List.length_range];omega) x (by rw[List.length_range];exact h)
 exact this
def Kj (v:V3) (w:Int):Bool:=Eb 1048576 [v.x,v.y,v.z+w]
def eF (r:Rv) (w:Int) (v:V3) (i:Nat):Nat->List Rl
 |0=>[]
 |q+1=>eF r w v i q++if Kj (r.homes.getD i V3.zero) (r.rises.getD q 0)&&Kj v (r.rises.getD q 0) then [⟨(i:Int),w,r.rises.getD q 0⟩] else []
def kT (r:Rv) (w:Int) (v:V3) (o:List Nat):Nat->List Rl
 |0=>[]
 |m+1=>kT r w v o m++eF r w v (o.getD m 0) r.rises.length
def Bk (p:Pr) (r:Rv) (c:Cs) (k:Nat):V3:=Ko p c (Gc p c (Em p r c (r.waits.getD k 0)))
def kS (p:Pr) (r:Rv) (c:Cs) (k:Nat):Bool:=decide (Gc p c (Em p r c (r.waits.getD k 0))<p.acts.length)
def Jl (p:Pr) (r:Rv) (c:Cs):Nat->List Rl
 |0=>[]
 |k+1=>Jl p r c k++if kS p r c k then kT r (r.waits.getD k 0) (Bk p r c k) (Ee r (Bk p r c k)) r.homes.length else []
def Pc (p:Pr) (r:Rv) (c:Cs):List Rl:=Jl p r c r.waits.length
def Pb (p:Pr) (r:Rv) (c:Cs) (k m:Nat):List Rl:=Jl p r c k++kT r (r.waits.getD k 0) (Bk p r c k) (Ee r (Bk p r c k)) m
def Ez (p:Pr) (r:Rv) (c:Cs) (k m u:Nat):List Rl:=Pb p r c k m++eF r (r.waits.getD k 0) (Bk p r c k) ((Ee r (Bk p r c k)).getD m 0) u
theorem sO (p:Pr) (r:Rv) (c:Cs) (k:Nat):Pb p r c k 0=Jl p r c k:=List.append_nil _
theorem cQ (p:Pr) (r:Rv) (c:Cs) (k m:Nat):Ez p r c k m 0=Pb p r c k m:=List.append_nil _
theorem Uo (p:Pr) (r:Rv) (c:Cs) (k m:Nat):Ez p r c k m r.rises.length=Pb p r c k (m+1):=by rw[Ez,Pb,Pb,kT,List.append_assoc]
theorem cR {p:Pr} {r:Rv} {c:Cs} {k:Nat} (h:kS p r c k=true):Pb p r c k r.homes.length=Jl p r c (k+1):=by rw[Pb,Jl,if_pos h]
theorem kU {p:Pr} {r:Rv} {c:Cs} {k:Nat} (h:kS p r c k=false):Jl p r c (k+1)=Jl p r c k:=by rw[Jl,if_neg (by rw[h];decide),List.append_nil]
theorem Ij {p:Pr} {r:Rv} {c:Cs} {k m u:Nat} (h:Kj (r.homes.getD ((Ee r (Bk p r c k)).getD m 0) V3.zero) (r.rises.getD u 0)=true) (g:Kj (Bk p r c k) (r.rises.getD u 0)=true):Ez p r c k m (u+1)=Ez p r c k m u++[⟨(((Ee r (Bk p r c k)).getD m 0:Nat):Int),r.waits.getD k 0,r.rises.getD u 0⟩]:=by
 rw[Ez,Ez,eF,h,g,Bool.and_self,if_pos rfl,List.append_assoc]
theorem Fc {p:Pr} {r:Rv} {c:Cs} {k m u:Nat} (h:Kj (r.homes.getD ((Ee r (Bk p r c k)).getD m 0) V3.zero) (r.rises.getD u 0)=false\/Kj (Bk p r c k) (r.rises.getD u 0)=false):Ez p r c k m (u+1)=Ez p r c k m u:=by
 rw[Ez,Ez,eF,if_neg (by rcases h with h|h<;>rw[h]<;>simp only[Bool.and_false,Bool.false_and]<;>exact Bool.false_ne_true),List.append_nil]
theorem AeH {s:Sg} {a d:Int} (ho:s.o≠0) (hd:d≠0):plG s a d≠0:=by
 have h0:(gO s d).natAbs≠0:=by
  unfold gO
  rw[Int.natAbs_mul,Int.natAbs_pow]
  have h1:0<s.o.natAbs:=by omega
  have h2:0<d.natAbs^5:=Nat.pow_pos (by omega)
  exact Nat.ne_of_gt (Nat.mul_pos h1 h2)
 have g:∀x y:Int,x.natAbs≠0->(Nat.gcd x.natAbs y.natAbs:Int).natAbs≠0:=λx y hx=>by
  rw[Int.natAbs_natCast]
  exact Nat.ne_of_gt (Nat.gcd_pos_of_pos_left _ (by omega))
 have h:=g _ (plZ s a d) (g _ (plY s a d) (g _ (yV s a d) h0))
 unfold plG
 omega
theorem aI (s:Sg) (a d:Int) (hs:Uc s) (ho:Gy s) (ha:Ct a) (hd:Ct d) (h0:d≠0):AF Tryz.prog 67 [Bq s,.int a,.int d] (kJ (Ii s a d)):=
 Aay s a d hs ho.2.1.2.1 ho.2.2.1.2.1 ho.2.2.2.1.2.1 ha hd (AeH (by have:=ho.1.2.2.2.1;omega) h0)
def Oq (s u:Sg):Prop:=s.t=u.f/\Ii s 1 1=Ii u 0 1
instance (s u:Sg):Decidable (Oq s u):=by unfold Oq;infer_instance
def Fm (l:List Sg):Prop:=(∀i,i<l.length->Gy (l.getD i Sg.none)/\(0<i->Oq (l.getD (i-1) Sg.none) (l.getD i Sg.none)))/\1<=l.length/\l.length<=256
instance (l:List Sg):Decidable (Fm l):=by unfold Fm;infer_instance
def Dj (l:List Sg):Prop:=l.length<=1000000/\∀i,Uc (l.getD i Sg.none)
theorem Qi:Ct 0:=⟨by decide,by decide⟩
theorem jT:Ct 1:=⟨by decide,by decide⟩
theorem mA (s u:Sg) (hs:Uc s) (hu:Uc u) (ho:Gy s) (hp:Gy u):AF Tryz.prog 93 [Bq s,Bq u] (.bool (bP (Oq s u))):=by
 refine Cq func93 rfl λB D0 hA0=>?_
 refine Ae 8 ?_
 refine vsp (s.t=u.f) (λhx1 hx1d=>?_) (λhx1 hx1d=>?_)
 ·
  refine Kq [(4,.bool true,.none),(7,_,.none),(9,_,.none),(10,.bool (decide (Ii s 1 1=Ii u 0 1)),.none)] [4] ⟨lJ hx1,Hw (aI s 1 1 hs ho jT jT (by decide)),Hw (aI u 0 1 hu hp Qi jT (by decide)),Av (Lx 72 72 (.tmp 12) (.tmp 14) (by kernel_rfl) _ _ (by kernel_rfl) (by kernel_rfl) (by kernel_rfl) (decide (Ii s 1 1=Ii u 0 1)) (AcX (Ii s 1 1) (Ii u 0 1))),trivial⟩ ?_
  refine Ae 2 ?_
  exact Fw (.bool (decide (Ii s 1 1=Ii u 0 1))) (congrArg AV.bool (if hz:Ii s 1 1=Ii u 0 1 then (decide_eq_true hz).trans (Dw ⟨by assumption,hz⟩).symm else (decide_eq_false hz).trans (As (λg=>hz g.2)).symm))
 ·
  refine Kq [(4,.bool false,.none)] [4] ⟨lJ hx1,trivial⟩ ?_
  refine Ae 2 ?_
  exact Fw (.bool false) (congrArg AV.bool (As (λg=>absurd g.1 (by assumption))).symm)
theorem Py (l:List Sg) (hl:Dj l):AF Tryz.prog 64 [Ai l] (.bool (bP (Fm l))):=by
 have hln:=hl.1
 refine Cq func64 rfl λB D0 hA0=>?_
 refine Ae 14 ?_
 refine Mf [0,5,6,7] l.length (λi=>∀q,q<i->Gy (l.getD q Sg.none)/\(0<q->Oq (l.getD (q-1) Sg.none) (l.getD q Sg.none))) (λi=>⟨[(0,Ai l),(5,Ai l),(6,.int ((l).length:Int)),(7,.int (i:Int))],[],0,38⟩) (λq hq=>absurd hq (Nat.not_lt_zero q)) (λi hin hFi J1 hJ1=>?_)
 refine Ae 6 ?_
 refine Ft 8 ((i:Int)<((l).length:Int)) (λhx1 hx1d=>?_) (λhx1 hx1d=>?_)
 ·
  refine Ae 8 ?_
  refine Gn i ((l).length) ?_
  refine Ae 7 ?_
  refine vsp (Gy (l.getD i Sg.none)) (λhx2 hx2d=>?_) (λhx2 hx2d=>?_)
  ·
   refine vsp ((0:Int)<(i:Int)) (λhx3 hx3d=>?_) (λhx3 hx3d=>?_)
   ·
    refine Kq [(1,.bool true,.none),(5,.bool true,.none),(9,.int ((i-1:Nat):Int),.none),(10,Fv (Ai l) (i-1),.none),(13,_,.none)] [0,5,6,7,28] ⟨kbC hx2 (Hw (Rd (l.getD i Sg.none) (hl.2 i))),lJ hx3,Av (Cn (v:= .int .i64 (IntKind.wrap .i64 ((i:Int)-1))) (v':= .int .i64 ((i-1:Nat):Int)) _ (by kernel_rfl) rfl (by kernel_rfl) (λw=>by kernel_rfl) (congrArg (Value.int .i64) ((IntWalk.i64_in _ (by omega)).trans (by omega)))),Ox (i-1) ((l).length),Hw (mA _ _ (hl.2 (i-1)) (hl.2 i) (hFi (i-1) (by omega)).1 (of_decide_eq_true (by assumption))),trivial⟩ ?_
    refine Ae 1 ?_
    refine lG 28 (bP (Oq (l.getD (i-1) Sg.none) (l.getD i Sg.none))) (λhx4=>?_) (λhx4=>?_)
    ·
     refine Ae 5 ?_
     refine Fr ((i:Int)+1) ((i+1:Nat):Int) ?_
     refine Ae 2 ?_
     exact Hu [0,5,6,7] [] 0 0 hA0 [] trivial (hJ1 (by omega) (λq hq=>(Nat.lt_or_ge q i).elim (λg=>hFi q g) λg=>by have e:q=i:=(by omega);subst e;exact⟨of_decide_eq_true hx2,λ_=>Dv hx4⟩))
    ·
     refine Ae 12 ?_
     exact Fw (.bool false) (congrArg AV.bool (As (by rintro⟨g1,g2,g3⟩;first|omega|exact Qc hx4 ((g1 i (by omega)).2 (by omega))|exact absurd (g1 i (by omega)).1 (of_decide_eq_false hx2))).symm)
   ·
    refine Kq [(1,.bool true,.none),(5,.bool false,.none)] [0,5,6,7,28] ⟨kbC hx2 (Hw (Rd (l.getD i Sg.none) (hl.2 i))),lJ hx3,trivial⟩ ?_
    refine Ae 6 ?_
    refine Fr ((i:Int)+1) ((i+1:Nat):Int) ?_
    refine Ae 2 ?_
    exact Hu [0,5,6,7] [] 0 0 hA0 [] trivial (hJ1 (by omega) (λq hq=>(Nat.lt_or_ge q i).elim (λg=>hFi q g) λg=>by have e:q=i:=(by omega);subst e;exact⟨of_decide_eq_true hx2,λhz=>absurd hz (by omega)⟩))
  ·
   refine Kq [(1,.bool false,.none)] [0,5,6,7,28] ⟨kbC hx2 (Hw (Rd (l.getD i Sg.none) (hl.2 i))),trivial⟩ ?_
   refine Ae 13 ?_
   exact Fw (.bool false) (congrArg AV.bool (As (by rintro⟨g1,g2,g3⟩;first|omega|exact absurd (g1 i (by omega)).1 (of_decide_eq_false hx2))).symm)
 ·
  refine Ae 12 ?_
  refine Ft 33 ((1:Int)<=((l).length:Int)) (λhx5 hx5d=>?_) (λhx5 hx5d=>?_)
  ·
   refine Ae 8 ?_
   exact Fw (.bool (decide (((l).length:Int)<=256))) (congrArg AV.bool (if hz:l.length<=256 then (decide_eq_true (by omega)).trans (Dw ⟨λq hq=>hFi q (by omega),by omega,by omega⟩).symm else (decide_eq_false (by omega)).trans (As (λg=>hz g.2.2)).symm))
  ·
   refine Ae 8 ?_
   exact Fw (.bool false) (congrArg AV.bool (As (by rintro⟨g1,g2,g3⟩;first|omega)).symm)
theorem iX (l:List Int) (v:Value) (w:World) (h:Cb w 0 w.heap.size 1 v l.length (Dd l)) (hl:0<l.length) (hm:l.length<=1000000):
  Calls Tryz.prog 142 #[v] w λe w'=>∃v',e= .returned v'/\Cb w' w.heap.size w'.heap.size 1 v' l.length (Dd l)/\Below w.heap.size w w':=by
 obtain⟨i0,hi0,hz0,hz1,hz2⟩:=info_parts bQ
 obtain⟨b,o,c,rfl,_,hb,hc⟩:=h.pos hl
 have hnil:=λW=>Lib.run_eql_slice_nil (P:=Tryz.prog) W 23 3 (some ⟨b,o,none⟩) l.length c 0 0 underlying23
 clear hc
 go_enter func142,ntmps142
 have hown:=Wh w [] 0 w.heap.size 1 3 rfl rfl (by decide)
 have hs1:=h.up ((Below.refl w.heap.size w).alloc (Nat.le_refl _) (.cells #[] 3))
 go_wp2_with (at_builtin;refine Es rfl (.tmp 5) (.tmp 6) 23 rfl w.heap.size 3 i0 _ 1 8 underlying23 hi0 hz0 hz1 hz2 rfl (by decide) _ _ _ rfl hown _ _ _ _ rfl hs1 (bR l) ?_ ?_ ?_ ?_)
 · unfold maxLen;omega
 · omega
 · simp
 intro v' w1 hown1 hg1 hat1
 go_wp2
 go_ret
 refine⟨_,rfl,Cb.own hown1,((Below.refl _ _).alloc (Nat.le_refl _) _).grown hg1 (by simp) ?_⟩
 rintro j hj
 simp[Value.ownBlock] at hj
 omega
theorem Eh (l:List Int) (hl:0<l.length) (hm:l.length<=1000000):AF Tryz.prog 142 [Ao l] (Ao l):=tO λE us hD hn hv=>by
 rw[kA hn]
 have h0:=hv 0 (by simp)
 have h1:Cw E.w E.D 1 (us.getD 0 undef) l.length (Dd l):=AdJ (E:=E.fz) h0
 refine(iX l _ E.w (h1.more λb hb=>⟨Nat.zero_le _,hD b hb⟩) hl hm).mono ?_
 rintro e w' ⟨v',rfl,hs,hb⟩
 exact⟨_,rfl,hb,λE' h1 h2 h3=>Zj hs h1 λb hb=>h3 b hb.1 hb.2⟩
def tT (l:List Sg):Prop:=∀i,i<l.length->(0<(l.getD i Sg.none).x.length/\(l.getD i Sg.none).x.length<=6)/\(0<(l.getD i Sg.none).y.length/\(l.getD i Sg.none).y.length<=6)/\(0<(l.getD i Sg.none).z.length/\(l.getD i Sg.none).z.length<=6)
theorem Ac6 (l:List Sg) (hn:l.length<=1000000) (hl:0<l.length) (hc:tT l):AF Tryz.prog 117 [Ai l] (Ai l):=by
 refine Cq func117 rfl λB D0 hA0=>?_
 refine Ae 19 ?_
 refine lK [3,6,7,8] (λm s=>∃i,i<=l.length/\m=l.length-i/\True/\((i=0/\s=⟨[(3,.lit (.slice none 0 0)),(6,Ai l),(7,.int ((l).length:Int)),(8,.int ((0:Nat):Int))],[],0,30⟩)\/(0<i/\s=⟨[(3,.osl 9 6 i),(6,Ai l),(7,.int ((l).length:Int)),(8,.int (i:Int))],[(9,.vec 81 6 i (λxi=>Bq (l.getD xi Sg.none)))],10,30⟩))) l.length ⟨0,Nat.zero_le _,rfl,trivial,.inl ⟨rfl,(by kernel_rfl)⟩⟩ ?_
 rintro _ _ ⟨i,hin,rfl,hFi,(⟨hi0,rfl⟩|⟨hi0,rfl⟩)⟩ J1 hJ1
 ·
  subst hi0
  refine Ae 6 ?_
  refine Ft 9 (((0:Nat):Int)<((l).length:Int)) (λhx1 hx1d=>?_) (λhx1 hx1d=>?_)
  ·
   refine Ae 7 ?_
   refine Gn 0 ((l).length) ?_
   refine Ae 6 ?_
   refine Kq [(2,_,.none),(5,_,.none),(8,_,.none)] [3,5,6,7,8] ⟨Hw (Eh _ (hc 0 (by omega)).1.1 (by have:=(hc 0 (by omega)).1.2;omega)),Hw (Eh _ (hc 0 (by omega)).2.1.1 (by have:=(hc 0 (by omega)).2.1.2;omega)),Hw (Eh _ (hc 0 (by omega)).2.2.1 (by have:=(hc 0 (by omega)).2.2.2;omega)),trivial⟩ ?_
   refine Ae 4 ?_
   refine Ce (.osl 1 6 1) (.new 1 (.vec 81 6 1 (λ_=>Bq ((l).getD 0 Sg.none)))) (Ak 54 1 #[(0,(.tmp 25))] (by kernel_rfl) underlying54 6 sizeOf81 _ zeroValue81 (by kernel_rfl) (Nat.le_of_ble_eq_true (by kernel_rfl)) (Nat.le_of_ble_eq_true (by kernel_rfl)) (Nat.le_of_ble_eq_true (by kernel_rfl)) 1 [.int (((l).getD 0 Sg.none).f),.int (((l).getD 0 Sg.none).t),.int (((l).getD 0 Sg.none).o),Ao (((l).getD 0 Sg.none).x),Ao (((l).getD 0 Sg.none).y),Ao (((l).getD 0 Sg.none).z)] (by kernel_rfl) (λ_=>Bq ((l).getD 0 Sg.none)) (by kernel_rfl)) ?_
   refine Ce (.osl 2 6 1) (.newr 1 2 (.vec 81 6 1 (λxi=>Bq (l.getD xi Sg.none)))) (Cr (.tmp 24) (.tmp 26) 54 (by kernel_rfl) underlying54 6 96 (.agg #[.int .i64 0,.int .i64 0,.int .i64 0,.slice none 0 0,.slice none 0 0,.slice none 0 0]) (by kernel_rfl) (by kernel_rfl) (by decide) 1 (by omega) (λ_=>Bq ((l).getD 0 Sg.none)) (λxi=>Bq (l.getD xi Sg.none)) 2 (λi hi=>by(obtain rfl:i=0:=(by omega));rfl) (λi hi j hj=>match j,hj with|0,_=>rfl|1,_=>rfl|2,_=>rfl|3,_=>rfl|4,_=>rfl|5,_=>rfl|_+6,h=>absurd h (by omega)) (by unfold maxLen;omega) (by omega) (by kernel_rfl) 1 81 (by kernel_rfl) (by kernel_rfl)) ?_
   refine Ae 5 ?_
   refine Fr (((0:Nat):Int)+1) ((0+1:Nat):Int) ?_
   refine Ae 2 ?_
   exact Hu [3,6,7,8] [(2,9)] 10 0 hA0 [(81,6,1,(λ_=>Bq ((l).getD 0 Sg.none))),(81,6,1,(λxi=>Bq (l.getD xi Sg.none)))] ⟨(Hq λ_ _=>rfl),(Hq λ_ _=>rfl),trivial⟩ (hJ1 _ _ (by omega:l.length-(0+1)<l.length-0) ⟨0+1,(by omega),rfl,trivial,.inr ⟨Nat.succ_pos _,rfl⟩⟩)
  ·
   refine Ae 13 ?_
   exact Fw (.lit (.slice none 0 0)) (by exfalso;omega)
 ·
  refine Ae 6 ?_
  refine Ft 9 ((i:Int)<((l).length:Int)) (λhx2 hx2d=>?_) (λhx2 hx2d=>?_)
  ·
   refine Ae 7 ?_
   refine Gn i ((l).length) ?_
   refine Ae 6 ?_
   refine Kq [(2,_,.none),(5,_,.none),(8,_,.none)] [3,5,6,7,8] ⟨Hw (Eh _ (hc i (by omega)).1.1 (by have:=(hc i (by omega)).1.2;omega)),Hw (Eh _ (hc i (by omega)).2.1.1 (by have:=(hc i (by omega)).2.1.2;omega)),Hw (Eh _ (hc i (by omega)).2.2.1 (by have:=(hc i (by omega)).2.2.2;omega)),trivial⟩ ?_
   refine Ae 4 ?_
   refine Ce (.osl 11 6 1) (.new 11 (.vec 81 6 1 (λ_=>Bq ((l).getD i Sg.none)))) (Ak 54 1 #[(0,(.tmp 25))] (by kernel_rfl) underlying54 6 sizeOf81 _ zeroValue81 (by kernel_rfl) (Nat.le_of_ble_eq_true (by kernel_rfl)) (Nat.le_of_ble_eq_true (by kernel_rfl)) (Nat.le_of_ble_eq_true (by kernel_rfl)) 11 [.int (((l).getD i Sg.none).f),.int (((l).getD i Sg.none).t),.int (((l).getD i Sg.none).o),Ao (((l).getD i Sg.none).x),Ao (((l).getD i Sg.none).y),Ao (((l).getD i Sg.none).z)] (by kernel_rfl) (λ_=>Bq ((l).getD i Sg.none)) (by kernel_rfl)) ?_
   refine Ce (.osl 12 6 (i+1)) (.grow2 9 11 12 (.vec 81 6 (i+1) (λxi=>Bq (l.getD xi Sg.none)))) (Db (.tmp 24) (.tmp 26) 54 (by kernel_rfl) underlying54 6 96 (.agg #[.int .i64 0,.int .i64 0,.int .i64 0,.slice none 0 0,.slice none 0 0,.slice none 0 0]) (by kernel_rfl) (by kernel_rfl) (by decide) i 1 (by omega) (λxi=>Bq (l.getD xi Sg.none)) (λ_=>Bq ((l).getD i Sg.none)) (λxi=>Bq (l.getD xi Sg.none)) 12 (by omega) (by unfold maxLen;omega) (λi hi=>rfl) (λi hi=>by(obtain rfl:i=0:=(by omega));rfl) (λi hi j hj=>match j,hj with|0,_=>rfl|1,_=>rfl|2,_=>rfl|3,_=>rfl|4,_=>rfl|5,_=>rfl|_+6,h=>absurd h (by omega)) 9 (by kernel_rfl) (by kernel_rfl) 11 81 (by kernel_rfl) (by kernel_rfl)) ?_
   refine Ae 5 ?_
   refine Fr ((i:Int)+1) ((i+1:Nat):Int) ?_
   refine Ae 2 ?_
   exact Hu [3,6,7,8] [(12,9)] 10 0 hA0 [(81,6,1,(λ_=>Bq ((l).getD i Sg.none))),(81,6,i+1,(λxi=>Bq (l.getD xi Sg.none)))] ⟨(Hq λ_ _=>rfl),(Hq λ_ _=>rfl),trivial⟩ (hJ1 _ _ (by omega:l.length-(i+1)<l.length-i) ⟨i+1,(by omega),rfl,trivial,.inr ⟨Nat.succ_pos _,rfl⟩⟩)
  ·
   refine Ae 12 ?_
   refine dL 9 [2] 81 6 i (λxi=>Bq (l.getD xi Sg.none)) (Hq λ_ _=>rfl) ?_
   refine Ae 1 ?_
   exact Fw (.sl 6 i (λxi=>Bq (l.getD xi Sg.none))) (congrArg (λq=>AV.sl 6 q λxi=>Bq (l.getD xi Sg.none)) (show i=l.length by omega))
theorem Wk {l:List Sg} (h:Fm l):tT l:=λi hi=>by
 have h1:=(h.1 i hi).1
 exact⟨⟨h1.2.1.1,h1.2.1.2.1⟩,⟨h1.2.2.1.1,h1.2.2.1.2.1⟩,⟨h1.2.2.2.1.1,h1.2.2.2.1.2.1⟩⟩
theorem Ld {l r:List Sg} (i:Nat):(l++r).getD i Sg.none=if i<l.length then l.getD i Sg.none else r.getD (i-l.length) Sg.none:=by
 simp only[List.getD_eq_getElem?_getD,List.getElem?_append]
 split<;>rfl
noncomputable def Oh (a b:List Sg):List Sg×Int:=
 if bP (Fm a)=false\/bP (Fm b)=false then ([],2) else if bP (Oq (a.getD (a.length-1) Sg.none) (b.getD 0 Sg.none))=false then ([],10) else if 256<a.length+b.length then ([],7) else (a++b,0)
theorem uA {a b:List Sg} (h:bP (Fm a)=false\/bP (Fm b)=false):Oh a b=([],2):=by unfold Oh;rw[if_pos h]
theorem xE {a b:List Sg} (h1:bP (Fm a)=true) (h2:bP (Fm b)=true) (h:bP (Oq (a.getD (a.length-1) Sg.none) (b.getD 0 Sg.none))=false):Oh a b=([],10):=by unfold Oh;rw[if_neg (by simp[h1,h2]),if_pos h]
theorem AaD {a b:List Sg} (h1:bP (Fm a)=true) (h2:bP (Fm b)=true) (h:bP (Oq (a.getD (a.length-1) Sg.none) (b.getD 0 Sg.none))=true) (h3:256<a.length+b.length):Oh a b=([],7):=by unfold Oh;rw[if_neg (by simp[h1,h2]),if_neg (λg=>by rw[h] at g;cases g),if_pos h3]
theorem AaE {a b:List Sg} (h1:bP (Fm a)=true) (h2:bP (Fm b)=true) (h:bP (Oq (a.getD (a.length-1) Sg.none) (b.getD 0 Sg.none))=true) (h3:¬256<a.length+b.length):Oh a b=(a++b,0):=by unfold Oh;rw[if_neg (by simp[h1,h2]),if_neg (λg=>by rw[h] at g;cases g),if_neg h3]
def kV (r:List Sg×Int):AV:=if r.2=0 then .tup [Ai r.1,.int 0] else .lit (.tuple #[.slice none 0 0,.int .i64 r.2])
theorem Pd {r:List Sg×Int} {e:Int} {l:List Sg} (h:r=(l,e)) (he:e≠0):kV r= .lit (.tuple #[.slice none 0 0,.int .i64 e]):=by
 subst h;unfold kV;rw[if_neg he]
theorem vT {r:List Sg×Int} {l:List Sg} (h:r=(l,0)):kV r= .tup [Ai l,.int 0]:=by
 subst h;unfold kV;rw[if_pos rfl]
theorem wR (a b:List Sg) (ha:Dj a) (hb:Dj b):AF Tryz.prog 88 [Ai a,Ai b] (kV (Oh a b)):=by
 have han:=ha.1
 have hbn:=hb.1
 refine Cq func88 rfl λB D0 hA0=>?_
 refine Ae 11 ?_
 refine Cz (Py a ha) ?_
 refine Ae 2 ?_
 refine lG 10 (bP (Fm a)) (λhx1=>?_) (λhx1=>?_)
 ·
  have hx1l:=(Dv hx1).2
  have hac:=Wk (Dv hx1)
  refine Ae 1 ?_
  refine Cz (Py b hb) ?_
  refine Ae 5 ?_
  refine lG 6 (bP (Fm b)) (λhx2=>?_) (λhx2=>?_)
  ·
   have hx2l:=(Dv hx2).2
   refine Ae 2 ?_
   refine Kq [(3,.int (((a).length-1:Nat):Int),.none),(4,Fv (Ai a) ((a).length-1),.none),(7,Fv (Ai b) 0,.none),(9,_,.none)] [0,1,15] ⟨Av (Cn (v:= .int .i64 (IntKind.wrap .i64 (((a).length:Int)-1))) (v':= .int .i64 (((a).length-1:Nat):Int)) _ (by kernel_rfl) rfl (by kernel_rfl) (λw=>by kernel_rfl) (congrArg (Value.int .i64) ((IntWalk.i64_in _ (by omega)).trans (by omega)))),Ox ((a).length-1) ((a).length),Ox 0 ((b).length),Hw (mA (a.getD (a.length-1) Sg.none) (b.getD 0 Sg.none) (ha.2 _) (hb.2 _) ((Dv hx1).1 _ (by omega)).1 ((Dv hx2).1 0 (by omega)).1),trivial⟩ ?_
   refine Ae 1 ?_
   refine lG 15 (bP (Oq (a.getD (a.length-1) Sg.none) (b.getD 0 Sg.none))) (λhx3=>?_) (λhx3=>?_)
   ·
    refine Ae 7 ?_
    refine Fr (((a).length:Int)+((b).length:Int)) (((a).length+(b).length:Nat):Int) ?_
    refine Ae 4 ?_
    refine Ft 27 ((256:Int)<(((a).length+(b).length:Nat):Int)) (λhx4 hx4d=>?_) (λhx4 hx4d=>?_)
    ·
     refine Ae 10 ?_
     exact Fw (.lit (.tuple #[.slice none 0 0,.int .i64 7])) (Pd (AaD hx1 hx2 hx3 (by omega)) (by decide)).symm
    ·
     refine Ae 7 ?_
     refine dM 0 func117 (λ_ hD5=>?_)
     refine Ae 19 ?_
     refine lK [3,6,7,8] (λm s=>∃i,i<=a.length/\m=a.length-i/\True/\((i=0/\s=⟨[(3,.lit (.slice none 0 0)),(6,Ai a),(7,.int ((a).length:Int)),(8,.int ((0:Nat):Int))],[],0,30⟩)\/(0<i/\s=⟨[(3,.osl 9 6 i),(6,Ai a),(7,.int ((a).length:Int)),(8,.int (i:Int))],[(9,.vec 81 6 i (λxi=>Bq (a.getD xi Sg.none)))],10,30⟩))) a.length ⟨0,Nat.zero_le _,rfl,trivial,.inl ⟨rfl,(by kernel_rfl)⟩⟩ ?_
     rintro _ _ ⟨i,hin,rfl,hFi,(⟨hi0,rfl⟩|⟨hi0,rfl⟩)⟩ J1 hJ1
     ·
      subst hi0
      refine Ae 6 ?_
      refine Ft 9 (((0:Nat):Int)<((a).length:Int)) (λhx6 hx6d=>?_) (λhx6 hx6d=>?_)
      ·
       refine Ae 7 ?_
       refine Gn 0 ((a).length) ?_
       refine Ae 6 ?_
       refine Kq [(2,_,.none),(5,_,.none),(8,_,.none)] [3,5,6,7,8] ⟨Hw (Eh _ (hac 0 (by omega)).1.1 (by have:=(hac 0 (by omega)).1.2;omega)),Hw (Eh _ (hac 0 (by omega)).2.1.1 (by have:=(hac 0 (by omega)).2.1.2;omega)),Hw (Eh _ (hac 0 (by omega)).2.2.1 (by have:=(hac 0 (by omega)).2.2.2;omega)),trivial⟩ ?_
       refine Ae 4 ?_
       refine Ce (.osl 1 6 1) (.new 1 (.vec 81 6 1 (λ_=>Bq ((a).getD 0 Sg.none)))) (Ak 54 1 #[(0,(.tmp 25))] (by kernel_rfl) underlying54 6 sizeOf81 _ zeroValue81 (by kernel_rfl) (Nat.le_of_ble_eq_true (by kernel_rfl)) (Nat.le_of_ble_eq_true (by kernel_rfl)) (Nat.le_of_ble_eq_true (by kernel_rfl)) 1 [.int (((a).getD 0 Sg.none).f),.int (((a).getD 0 Sg.none).t),.int (((a).getD 0 Sg.none).o),Ao (((a).getD 0 Sg.none).x),Ao (((a).getD 0 Sg.none).y),Ao (((a).getD 0 Sg.none).z)] (by kernel_rfl) (λ_=>Bq ((a).getD 0 Sg.none)) (by kernel_rfl)) ?_
       refine Ce (.osl 2 6 1) (.newr 1 2 (.vec 81 6 1 (λxi=>Bq (a.getD xi Sg.none)))) (Cr (.tmp 24) (.tmp 26) 54 (by kernel_rfl) underlying54 6 96 (.agg #[.int .i64 0,.int .i64 0,.int .i64 0,.slice none 0 0,.slice none 0 0,.slice none 0 0]) (by kernel_rfl) (by kernel_rfl) (by decide) 1 (by omega) (λ_=>Bq ((a).getD 0 Sg.none)) (λxi=>Bq (a.getD xi Sg.none)) 2 (λi hi=>by(obtain rfl:i=0:=(by omega));rfl) (λi hi j hj=>match j,hj with|0,_=>rfl|1,_=>rfl|2,_=>rfl|3,_=>rfl|4,_=>rfl|5,_=>rfl|_+6,h=>absurd h (by omega)) (by unfold maxLen;omega) (by omega) (by kernel_rfl) 1 81 (by kernel_rfl) (by kernel_rfl)) ?_
       refine Ae 5 ?_
       refine Fr (((0:Nat):Int)+1) ((0+1:Nat):Int) ?_
       refine Ae 2 ?_
       exact Hu [3,6,7,8] [(2,9)] 10 0 hD5 [(81,6,1,(λ_=>Bq ((a).getD 0 Sg.none))),(81,6,1,(λxi=>Bq (a.getD xi Sg.none)))] ⟨(Hq λ_ _=>rfl),(Hq λ_ _=>rfl),trivial⟩ (hJ1 _ _ (by omega:a.length-(0+1)<a.length-0) ⟨0+1,(by omega),rfl,trivial,.inr ⟨Nat.succ_pos _,rfl⟩⟩)
      ·
       refine Ae 6 ?_
       exfalso;omega
     ·
      refine Ae 6 ?_
      refine Ft 9 ((i:Int)<((a).length:Int)) (λhx7 hx7d=>?_) (λhx7 hx7d=>?_)
      ·
       refine Ae 7 ?_
       refine Gn i ((a).length) ?_
       refine Ae 6 ?_
       refine Kq [(2,_,.none),(5,_,.none),(8,_,.none)] [3,5,6,7,8] ⟨Hw (Eh _ (hac i (by omega)).1.1 (by have:=(hac i (by omega)).1.2;omega)),Hw (Eh _ (hac i (by omega)).2.1.1 (by have:=(hac i (by omega)).2.1.2;omega)),Hw (Eh _ (hac i (by omega)).2.2.1 (by have:=(hac i (by omega)).2.2.2;omega)),trivial⟩ ?_
       refine Ae 4 ?_
       refine Ce (.osl 11 6 1) (.new 11 (.vec 81 6 1 (λ_=>Bq ((a).getD i Sg.none)))) (Ak 54 1 #[(0,(.tmp 25))] (by kernel_rfl) underlying54 6 sizeOf81 _ zeroValue81 (by kernel_rfl) (Nat.le_of_ble_eq_true (by kernel_rfl)) (Nat.le_of_ble_eq_true (by kernel_rfl)) (Nat.le_of_ble_eq_true (by kernel_rfl)) 11 [.int (((a).getD i Sg.none).f),.int (((a).getD i Sg.none).t),.int (((a).getD i Sg.none).o),Ao (((a).getD i Sg.none).x),Ao (((a).getD i Sg.none).y),Ao (((a).getD i Sg.none).z)] (by kernel_rfl) (λ_=>Bq ((a).getD i Sg.none)) (by kernel_rfl)) ?_
       refine Ce (.osl 12 6 (i+1)) (.grow2 9 11 12 (.vec 81 6 (i+1) (λxi=>Bq (a.getD xi Sg.none)))) (Db (.tmp 24) (.tmp 26) 54 (by kernel_rfl) underlying54 6 96 (.agg #[.int .i64 0,.int .i64 0,.int .i64 0,.slice none 0 0,.slice none 0 0,.slice none 0 0]) (by kernel_rfl) (by kernel_rfl) (by decide) i 1 (by omega) (λxi=>Bq (a.getD xi Sg.none)) (λ_=>Bq ((a).getD i Sg.none)) (λxi=>Bq (a.getD xi Sg.none)) 12 (by omega) (by unfold maxLen;omega) (λi hi=>rfl) (λi hi=>by(obtain rfl:i=0:=(by omega));rfl) (λi hi j hj=>match j,hj with|0,_=>rfl|1,_=>rfl|2,_=>rfl|3,_=>rfl|4,_=>rfl|5,_=>rfl|_+6,h=>absurd h (by omega)) 9 (by kernel_rfl) (by kernel_rfl) 11 81 (by kernel_rfl) (by kernel_rfl)) ?_
       refine Ae 5 ?_
       refine Fr ((i:Int)+1) ((i+1:Nat):Int) ?_
       refine Ae 2 ?_
       exact Hu [3,6,7,8] [(12,9)] 10 0 hD5 [(81,6,1,(λ_=>Bq ((a).getD i Sg.none))),(81,6,i+1,(λxi=>Bq (a.getD xi Sg.none)))] ⟨(Hq λ_ _=>rfl),(Hq λ_ _=>rfl),trivial⟩ (hJ1 _ _ (by omega:a.length-(i+1)<a.length-i) ⟨i+1,(by omega),rfl,trivial,.inr ⟨Nat.succ_pos _,rfl⟩⟩)
      ·
       refine Ae 6 ?_
       have hie:i=a.length:=by omega
       subst hie
       refine Ae 7 ?_
       refine vrI (Ae 1 ?_)
       refine Cz (Ac6 b hbn (by omega) (Wk (Dv hx2))) ?_
       refine Ce (.osl 10 6 (a.length+(b).length)) (.grow 9 10 (.vec 81 6 (a.length+(b).length) (λxi=>Bq ((a++b).getD xi Sg.none)))) (dZ (.tmp 35) (.tmp 37) 54 (by kernel_rfl) underlying54 6 96 (.agg #[.int .i64 0,.int .i64 0,.int .i64 0,.slice none 0 0,.slice none 0 0,.slice none 0 0]) (by kernel_rfl) (by kernel_rfl) (by decide) a.length ((b).length) (by omega) (λxi=>Bq (a.getD xi Sg.none)) (λi0=>Bq ((b).getD i0 Sg.none)) (λxi=>Bq ((a++b).getD xi Sg.none)) 10 (by omega) (by unfold maxLen;omega) (λi hi=>by show Bq _=Bq _;rw[Ld,if_pos hi]) (λi hi=>by show Bq _=Bq _;rw[Ld,if_neg (by omega),Nat.add_sub_cancel_left]) (λi hi j hj=>match j,hj with|0,_=>rfl|1,_=>rfl|2,_=>rfl|3,_=>rfl|4,_=>rfl|5,_=>rfl|_+6,h=>absurd h (by omega)) 9 (by kernel_rfl) (by kernel_rfl) (by kernel_rfl)) ?_
       refine Ae 4 ?_
       refine dL 10 [4] 81 6 (a.length+(b).length) (λxi=>Bq ((a++b).getD xi Sg.none)) (Hq λ_ _=>rfl) ?_
       refine Ae 1 ?_
       exact Fw (.tup [.sl 6 (a.length+(b).length) (λxi=>Bq ((a++b).getD xi Sg.none)),.int 0]) ((vT (AaE hx1 hx2 hx3 (by omega))).trans (congrArg (λq=>AV.tup [AV.sl 6 q λxi=>Bq ((a++b).getD xi Sg.none),.int 0]) List.length_append)).symm
   ·
    refine Ae 10 ?_
    exact Fw (.lit (.tuple #[.slice none 0 0,.int .i64 10])) (Pd (xE hx1 hx2 hx3) (by decide)).symm
  ·
   refine Ae 10 ?_
   exact Fw (.lit (.tuple #[.slice none 0 0,.int .i64 2])) (Pd (uA (.inr hx2)) (by decide)).symm
 ·
  refine Ae 17 ?_
  exact Fw (.lit (.tuple #[.slice none 0 0,.int .i64 2])) (Pd (uA (.inl hx1)) (by decide)).symm
theorem Ac9 (l:List Sg) (hl:Dj l) (ho:Fm l):AF Tryz.prog 29 [Ai l] (.lit (.tuple #[.int .i64 ((l.getD 0 Sg.none).f),.int .i64 ((l.getD (l.length-1) Sg.none).t),.int .i64 0])):=by
 have hln:=hl.1
 have hlo:=ho.2
 refine Cq func29 rfl λB D0 hA0=>?_
 refine Ae 11 ?_
 refine Cz (Py l hl) ?_
 refine Ae 3 ?_
 refine Iw 7 (!bP (Fm l)) false (by rw[(Dw ho)];rfl) ?_
 refine Ae 4 ?_
 refine Kq [(1,Fv (Ai l) 0,.none),(7,.int (((l).length-1:Nat):Int),.none),(8,Fv (Ai l) ((l).length-1),.none)] [2,3,4] ⟨Ox 0 ((l).length),Av (Cn (v:= .int .i64 (IntKind.wrap .i64 (((l).length:Int)-1))) (v':= .int .i64 (((l).length-1:Nat):Int)) _ (by kernel_rfl) rfl (by kernel_rfl) (λw=>by kernel_rfl) (congrArg (Value.int .i64) ((IntWalk.i64_in _ (by omega)).trans (by omega)))),Ox ((l).length-1) ((l).length),trivial⟩ ?_
 refine Ae 2 ?_
 exact Gx
def bH (a b:V3) (f t k:Int):List Sg×Int:=if Lv a b f t=true then ([Tl a b f t k],0) else ([],2)
theorem uO (a b:V3) (f t k:Int):xN a b f t k= .tup [Ai (bH a b f t k).1,.int (bH a b f t k).2]:=by unfold xN bH;split<;>rfl
theorem wS (a b:V3) (f t:Int):AF Tryz.prog 49 [Hf a,Hf b,.int f,.int t] (.tup [Ai (bH a b f t 2).1,.int (bH a b f t 2).2]):=by rw[<-uO];exact Aat a b f t
theorem wU (a:V3) (f t:Int):AF Tryz.prog 62 [Hf a,.int f,.int t] (.tup [Ai (bH a a f t 0).1,.int (bH a a f t 0).2]):=by rw[<-uO];exact Aav a f t
theorem iC (a b:List Sg) (ha:Dj a) (hb:Dj b) (h:(Oh a b).2=0):AF Tryz.prog 88 [Ai a,Ai b] (.tup [Ai (Oh a b).1,.int 0]):=by
 have:=wR a b ha hb
 unfold kV at this
 rwa [if_pos h] at this
theorem Dj.nil:Dj []:=⟨by decide,λi=>by simp[Sg.none];exact⟨Qi,Qi,Qi,λ_=>by simpa using Qi,λ_=>by simpa using Qi,λ_=>by simpa using Qi⟩⟩
theorem cY {a b:Int} (ha: -1048576<=a/\a<=1048576) (hb: -1048576<=b/\b<=1048576) {k:Int} (i:Nat):Ct ((Di a b (Br k)).getD i 0):=by
 have key:∀x,x∈Di a b (Br k)->Ct x:=λx hx=>by
  unfold Di at hx
  rcases List.mem_cons.1 hx with rfl|hx
  exact⟨by omega,by omega⟩
  split at hx
  cases hx
  obtain⟨y,hy,rfl⟩:=List.mem_map.1 hx
  have hy2: -100<=y/\y<=100:=by
   unfold Br at hy
   split at hy
   cases hy
   split at hy
   have:y=1:=by simpa using hy
   omega
   simp at hy;omega
  have:=fX y (b-a) hy2 (by omega)
  exact⟨by omega,by omega⟩
 rw[List.getD_eq_getElem?_getD]
 cases h:(Di a b (Br k))[i]? with
 |none=>exact Qi
 |some x=>exact key x (List.mem_of_getElem? h)
theorem Oj {p:Pr} {a k:Int} (h:Aes p a k) (ha:a<=1000) (hk:k<=1000) (hl:∀a∈p.acts,Ct a.len):Km p:=by
 have hm:(1000000:Nat)<=maxLen:=by decide
 refine⟨λs hs=>?_,λx hx=>?_,by have:=h.2.2.1;omega,λx hx=>?_,hl⟩
 obtain⟨i,hi,rfl⟩:=List.getElem_of_mem hs
 have:=h.2.2.2.1 i hi
 rw[List.getD_eq_getElem?_getD,List.getElem?_eq_getElem hi] at this
 simp at this
 omega
 obtain⟨i,hi,rfl⟩:=List.getElem_of_mem hx
 have:=(h.2.2.2.2 i hi).1
 rw[List.getD_eq_getElem?_getD,List.getElem?_eq_getElem hi] at this
 simp at this
 omega
 obtain⟨i,hi,rfl⟩:=List.getElem_of_mem hx
 have:=(h.2.2.2.2 i hi).2
 rw[List.getD_eq_getElem?_getD,List.getElem?_eq_getElem hi] at this
 simp at this
 omega
theorem Jr (x:Int) (hx:Fg x):AF Tryz.prog 99 [WA x] (.bool true):=Ji (vs:=[_]) λw=>Jp x w hx
theorem Vc (x:Int) (hx:Fg x):AF Tryz.prog 172 [WA x] (.int x.sign):=Ji (vs:=[_]) λw=>Aah x w hx
theorem AcB (x:Int) (hx:Fg x):AF Tryz.prog 179 [WA x] (.int (bitLen x.natAbs:Int)):=Ji (vs:=[_]) λw=>Acv x w hx
theorem AcA (x y:Int) (hx:Fg x) (hy:Fg y) (hz:Fg (x+y)):AF Tryz.prog 102 [WA x,WA y] (.lit (.tuple #[Aj (x+y),.int .i64 0])):=Ji (vs:=[_,_]) λw=>qC x y w hx hy hz
theorem AcC (x y:Int) (hx:Fg x) (hy:Fg y) (hz:Fg (x*y)):AF Tryz.prog 123 [WA x,WA y] (.lit (.tuple #[Aj (x*y),.int .i64 0])):=Ji (vs:=[_,_]) λw=>qE x y w hx hy hz
def Fk (c:Nat->Int):Nat->Nat
 |0=>0
 |n+1=>if c n=0 then Fk c n else n+1
abbrev Be (n:Nat) (c:Nat->Int):AV:= .sl 2 n λi=>WA (c i)
abbrev Aef (n:Nat) (c:Nat->Int):AV:= .slc 2 n λi=>WA (c i)
theorem Hp (c:Nat->Int):∀n,Fk c n<=n
 |0=>Nat.le_refl _
 |n+1=>by
  unfold Fk
  split
  exact Nat.le_succ_of_le (Hp c n)
  exact Nat.le_refl _
theorem Jo (c:Nat->Int):∀n,Fk c n=0\/c (Fk c n-1)≠0
 |0=> .inl rfl
 |n+1=>by
  unfold Fk
  split
  exact Jo c n
  rename_i h;exact .inr h
theorem Th {c:Nat->Int} {n:Nat} (h:n=0\/c (n-1)≠0):Fk c n=n:=by
 cases n with
 |zero=>rfl
 |succ n=>
  unfold Fk
  rcases h with h|h
  cases h
  exact if_neg h
theorem Xv {x:Int}:x.sign=0↔x=0:=Int.sign_eq_zero_iff_zero
theorem tD {c:Nat->Int} {q:Nat} (hq:0<q) (h:(c (q-1)).sign=0):Fk c q=Fk c (q-1):=by
 obtain⟨k,rfl⟩:∃k,q=k+1:=⟨q-1,by omega⟩
 rw[Nat.add_sub_cancel] at h ⊢
 rw[Fk,if_pos (Xv.1 h)]
theorem dF {c:Nat->Int} {q n:Nat} (h0:Fk c q=Fk c n) (h:q=0\/(c (q-1)).sign≠0):q=Fk c n:=by
 rw[<-h0]
 exact(Th (h.imp id λh e=>h (Xv.2 e))).symm
theorem iJ (n:Nat) (c:Nat->Int) (hn:n<=1000000) (hc:∀i,i<n->Fg (c i)):AF Tryz.prog 170 [Aef n c] (Be (Fk c n) c):=by
 refine Cq func170 rfl λB D0 hA0=>?_
 refine Ae 7 ?_
 refine lK [0] (λm s=>∃m1,m=m1+1/\(m1<=n/\Fk c m1=Fk c n)/\s=⟨[(0,Aef m1 c)],[],0,22⟩) (n+1) ⟨n,rfl,⟨Nat.le_refl _,rfl⟩,(by kernel_rfl)⟩ ?_
 rintro _ _ ⟨m1,rfl,hF,rfl⟩ J1 hJ1
 obtain⟨hF1,hF2⟩:=hF
 refine Ae 7 ?_
 refine Ft 6 ((0:Int)<((m1:Nat):Int)) (λhx1 hx1d=>?_) (λhx1 hx1d=>?_)
 ·
  refine Ae 3 ?_
  refine Fr (((m1:Nat):Int)-1) ((m1-1:Nat):Int) ?_
  refine Gn (m1-1) m1 ?_
  refine Ae 1 ?_
  refine Cz (Vc (c (m1-1)) (hc _ (by omega))) ?_
  refine Ae 4 ?_
  refine Ft 15 ((c (m1-1)).sign=0) (λhx2 hx2d=>?_) (λhx2 hx2d=>?_)
  ·
   refine Ae 8 ?_
   refine Fr (((m1:Nat):Int)-1) ((m1-1:Nat):Int) ?_
   refine Ce (.slc 2 (m1-1) (λi0=> .lit (Aj (c i0)))) .none (Tt 202 (.tmp 16) (.tmp 19) (by kernel_rfl) underlying202 2 m1 sizeOf70 (λi0=> .lit (Aj (c i0))) (by kernel_rfl) (m1-1) ((m1-1:Nat):Int) (by kernel_rfl) (by omega) (by omega)) ?_
   refine Ae 3 ?_
   exact Om [0] (hJ1 _ _ (by omega:m1-1+1<m1+1) ⟨m1-1,rfl,⟨by omega,(tD (by omega) hx2d).symm.trans hF2⟩,rfl⟩)
  ·
   refine Ae 6 ?_
   refine vwk 0 ?_
   refine Ae 7 ?_
   exact Fw (.sl 2 m1 (λi0=> .lit (Aj (c i0)))) (congrArg (λz=>Be z c) (dF hF2 (by omega)))
 ·
  refine Ae 17 ?_
  refine vwk 0 ?_
  refine Ae 7 ?_
  exact Fw (.sl 2 m1 (λi0=> .lit (Aj (c i0)))) (congrArg (λz=>Be z c) (dF hF2 (by omega)))
theorem lN (x:Int):AFM Tryz.prog 180 241 [.int .i64 0] [WA x,.int 0] (Aj x):=by
 refine rP func180 rfl λB D0 hA0=>?_
 refine Ae 32 ?_
 exact AeX (.lit (Aj x)) (by kernel_rfl)
theorem Uu (x y:Int) (hx:Fg x) (hy:Fg y) (hz:Fg (x*y)):AFM Tryz.prog 174 241 [.int .i64 0] [WA x,WA y] (Aj (x*y)):=by
 refine rP func174 rfl λB D0 hA0=>?_
 refine Ae 8 ?_
 refine Kq [(5,_,.none),(8,.lit (Aj (x*y)),(.set 0 (.box 241 [.int 0])))] [6] ⟨Hw (AcC x y hx hy hz),Av (Ip 180 #[.tmp 9,.tmp 13,.tmp 14] #[239,70,37] (by kernel_rfl) (λ_ _=>by kernel_rfl) 0 241 [.int .i64 0] (by kernel_rfl) [.lit (Aj (x*y)),.int 0] (by kernel_rfl) (by kernel_rfl) (Aj (x*y)) (lN (x*y))),trivial⟩ ?_
 refine Ae 2 ?_
 exact AeX (.lit (Aj (x*y))) (by kernel_rfl)
theorem tL (x y:Int) (hx:Fg x) (hy:Fg y) (hz:Fg (x+y)):AFM Tryz.prog 175 241 [.int .i64 0] [WA x,WA y] (Aj (x+y)):=by
 refine rP func175 rfl λB D0 hA0=>?_
 refine Ae 8 ?_
 refine Kq [(5,_,.none),(8,.lit (Aj (x+y)),(.set 0 (.box 241 [.int 0])))] [6] ⟨Hw (AcA x y hx hy hz),Av (Ip 180 #[.tmp 9,.tmp 13,.tmp 14] #[239,70,37] (by kernel_rfl) (λ_ _=>by kernel_rfl) 0 241 [.int .i64 0] (by kernel_rfl) [.lit (Aj (x+y)),.int 0] (by kernel_rfl) (by kernel_rfl) (Aj (x+y)) (lN (x+y))),trivial⟩ ?_
 refine Ae 2 ?_
 exact AeX (.lit (Aj (x+y))) (by kernel_rfl)
theorem Af4 {c:Nat->Int} {n:Nat} (hl:n=0\/c (n-1)≠0) (h:n≠0):(!decide ((c (n-1)).sign=0))=true:=by
 have h9:¬(c (n-1)).sign=0:=λe=>by
  rcases hl with g|g
  exact h g
  exact g (Xv.1 e)
 rw[decide_eq_false h9];rfl
theorem Pw (n:Nat) (c:Nat->Int) (hn:n<=25) (hc:∀i,i<n->Fg (c i)) (hl:n=0\/c (n-1)≠0):AF Tryz.prog 171 [Be n c] (.bool true):=by
 refine Cq func171 rfl λB D0 hA0=>?_
 refine Ae 14 ?_
 refine Mf [0,5,6,7] n (λi=>True) (λi=>⟨[(0,Be n c),(5,Be n c),(6,.int (n:Int)),(7,.int (i:Int))],[],0,33⟩) trivial (λi hin hFi J1 hJ1=>?_)
 refine Ae 6 ?_
 refine Ft 8 ((i:Int)<(n:Int)) (λhx1 hx1d=>?_) (λhx1 hx1d=>?_)
 ·
  refine Ae 7 ?_
  refine Gn i n ?_
  refine Ae 8 ?_
  refine Cz (Jr (c i) (hc _ (by omega))) ?_
  refine Ae 8 ?_
  refine Fr ((i:Int)+1) ((i+1:Nat):Int) ?_
  refine Ae 2 ?_
  exact Hu [0,5,6,7] [] 0 0 hA0 [] trivial (hJ1 (by omega) trivial)
 ·
  refine Ae 12 ?_
  refine Iw 18 (decide ((n:Int)<=25)) true (decide_eq_true (by omega)) ?_
  refine Ae 4 ?_
  refine Ft 22 ((n:Int)=0) (λhx2 hx2d=>?_) (λhx2 hx2d=>?_)
  ·
   refine Ae 14 ?_
   exact Gx
  ·
   refine Ae 3 ?_
   refine Fr ((n:Int)-1) ((n-1:Nat):Int) ?_
   refine Gn (n-1) n ?_
   refine Ae 1 ?_
   refine Cz (Vc (c (n-1)) (hc _ (by omega))) ?_
   refine Ae 7 ?_
   exact Fw (.bool (!decide ((c (n-1)).sign=0))) (congrArg AV.bool (Af4 hl (by omega)))
def En (c:Nat->Int):Nat->Int
 |0=>0
 |n+1=>max (En c n) (bitLen (c n).natAbs:Int)
theorem pR {c:Nat->Int} {k:Nat}:∀n,(∀i,i<n->bitLen (c i).natAbs<=k)->0<=En c n/\En c n<=(k:Int)
 |0,_=>⟨Int.le_refl _,by show (0:Int)<=_;omega⟩
 |n+1,h=>by
  have h1:=pR n λi hi=>h i (by omega)
  have h2:=h n (Nat.lt_succ_self n)
  unfold En
  omega
theorem tQ (n:Nat) (c:Nat->Int) (hn:n<=1000000) (hc:∀i,i<n->Fg (c i)):AF Tryz.prog 173 [Be n c] (.int (En c n)):=by
 refine Cq func173 rfl λB D0 hA0=>?_
 refine Ae 19 ?_
 refine Mf [3,6,7,8] n (λi=>True) (λi=>⟨[(3,.int (En c i)),(6,Be n c),(7,.int (n:Int)),(8,.int (i:Int))],[],0,18⟩) trivial (λi hin hFi J1 hJ1=>?_)
 refine Ae 6 ?_
 refine Ft 9 ((i:Int)<(n:Int)) (λhx1 hx1d=>?_) (λhx1 hx1d=>?_)
 ·
  refine Ae 7 ?_
  refine Gn i n ?_
  refine Ae 8 ?_
  refine Cz (AcB (c i) (hc _ (by omega))) ?_
  refine Ce (.int (max (En c i) (bitLen (c i).natAbs:Int))) .none (kE (.tmp 12) (.tmp 14) #[3,3] (by kernel_rfl) (En c i) (bitLen (c i).natAbs:Int) (by kernel_rfl) (by kernel_rfl)) ?_
  refine Ae 5 ?_
  refine Fr ((i:Int)+1) ((i+1:Nat):Int) ?_
  refine Ae 2 ?_
  exact Hu [3,6,7,8] [] 0 0 hA0 [] trivial (hJ1 (by omega) trivial)
 ·
  refine Ae 13 ?_
  exact Fw (.int (En c i)) (congrArg (λz=>AV.int (En c z)) (show _=n by omega))
end Go.Proofs.YtldnjomacnjhnaaGreat
namespace Go.Proofs.YtldnjomacnjhnaaGreat
open Go.Proofs.Tryz
open Go.RowKit
abbrev Zk (l:List Int) (i:Nat):Int:=l.getD i 0
def Um (g:Nat->Int) (k i:Nat):Int:=if i<k then g i else 0
theorem yX (g:Nat->Int) (k i:Nat):(if i=k then WA (g k) else WA (Um g k i))=WA (Um g (k+1) i):=by
 unfold Um
 by_cases h:i=k
 subst h;rw[if_pos rfl,if_pos (Nat.lt_succ_self _)]
 rw[if_neg h]
 by_cases h2:i<k
 rw[if_pos h2,if_pos (by omega)]
 rw[if_neg h2,if_neg (by omega)]
theorem yY (g:Nat->Int) (i:Nat):WA 0=WA (Um g 0 i):=by unfold Um;rw[if_neg (Nat.not_lt_zero i)]
theorem AbI {g:Nat->Int} {k i:Nat} (h:i<k):WA (Um g k i)=WA (g i):=by unfold Um;rw[if_pos h]
theorem Xb (l:List Int) (hl:0<l.length) (hn:l.length<=25) (hc:∀i,Ct (l.getD i 0)):AF Tryz.prog 157 [Ao l] (.tup [Be (Fk (Zk l) l.length) (Zk l),.int 0]):=by
 have hle:=Hp (Zk l) l.length
 refine Cq func157 rfl λB D0 hA0=>?_
 refine Ae 20 ?_
 refine lK [4,7,8,9] (λm s=>∃i,i<=l.length/\m=l.length-i/\True/\((i=0/\s=⟨[(4,.lit (.slice none 0 0)),(7,Ao l),(8,.int (l.length:Int)),(9,.int ((0:Nat):Int))],[],0,25⟩)\/(0<i/\s=⟨[(4,.osl 9 2 i),(7,Ao l),(8,.int (l.length:Int)),(9,.int (i:Int))],[(9,.vec 70 2 i (λxi=>WA (Zk l xi)))],10,25⟩))) l.length ⟨0,Nat.zero_le _,rfl,trivial,.inl ⟨rfl,(by kernel_rfl)⟩⟩ ?_
 rintro _ _ ⟨i,hin,rfl,hFi,(⟨hi0,rfl⟩|⟨hi0,rfl⟩)⟩ J1 hJ1
 ·
  subst hi0
  refine Ae 6 ?_
  refine Ft 10 (((0:Nat):Int)<(l.length:Int)) (λhx1 hx1d=>?_) (λhx1 hx1d=>?_)
  ·
   refine Ae 7 ?_
   refine Gn 0 l.length ?_
   refine Ae 7 ?_
   refine Cz (Gp ((l).getD 0 0) (hc _).1 (hc _).2) ?_
   refine Ce (.osl 0 2 1) (.new 0 (.vec 70 2 1 (λ_=> .lit (Aj ((l).getD 0 0))))) (Ak 202 1 #[(0,(.tmp 15))] (by kernel_rfl) underlying202 2 sizeOf70 _ zeroValue70 (by kernel_rfl) (Nat.le_of_ble_eq_true (by kernel_rfl)) (Nat.le_of_ble_eq_true (by kernel_rfl)) (Nat.le_of_ble_eq_true (by kernel_rfl)) 0 [.bool (decide ((l).getD 0 0<0)),.lit (.string (Dy ((l).getD 0 0).natAbs))] (by kernel_rfl) (λ_=> .lit (Aj ((l).getD 0 0))) (by kernel_rfl)) ?_
   refine Ce (.osl 1 2 1) (.newr 0 1 (.vec 70 2 1 (λxi=>WA (Zk l xi)))) (Cr (.tmp 13) (.tmp 16) 202 (by kernel_rfl) underlying202 2 24 (.agg #[.bool false,.string ⟨#[]⟩]) (by kernel_rfl) (by kernel_rfl) (by decide) 1 (by omega) (λ_=> .lit (Aj ((l).getD 0 0))) (λxi=>WA (Zk l xi)) 1 (λi hi=>by(obtain rfl:i=0:=(by omega));rfl) (λi hi j hj=>match j,hj with|0,_=>rfl|1,_=>rfl|_+2,h=>absurd h (by omega)) (by unfold maxLen;omega) (by omega) (by kernel_rfl) 0 70 (by kernel_rfl) (by kernel_rfl)) ?_
   refine Ae 5 ?_
   refine Fr (((0:Nat):Int)+1) ((0+1:Nat):Int) ?_
   refine Ae 2 ?_
   exact Hu [4,7,8,9] [(1,9)] 10 0 hA0 [(70,2,1,(λ_=> .lit (Aj ((l).getD 0 0)))),(70,2,1,(λxi=>WA (Zk l xi)))] ⟨(Hq λ_ _=>rfl),(Hq λ_ _=>rfl),trivial⟩ (hJ1 _ _ (by omega:l.length-(0+1)<l.length-0) ⟨0+1,(by omega),rfl,trivial,.inr ⟨Nat.succ_pos _,rfl⟩⟩)
  ·
   refine Ae 6 ?_
   exfalso;omega
 ·
  refine Ae 6 ?_
  refine Ft 10 ((i:Int)<(l.length:Int)) (λhx2 hx2d=>?_) (λhx2 hx2d=>?_)
  ·
   refine Ae 7 ?_
   refine Gn i l.length ?_
   refine Ae 7 ?_
   refine Cz (Gp ((l).getD i 0) (hc _).1 (hc _).2) ?_
   refine Ce (.osl 10 2 1) (.new 10 (.vec 70 2 1 (λ_=> .lit (Aj ((l).getD i 0))))) (Ak 202 1 #[(0,(.tmp 15))] (by kernel_rfl) underlying202 2 sizeOf70 _ zeroValue70 (by kernel_rfl) (Nat.le_of_ble_eq_true (by kernel_rfl)) (Nat.le_of_ble_eq_true (by kernel_rfl)) (Nat.le_of_ble_eq_true (by kernel_rfl)) 10 [.bool (decide ((l).getD i 0<0)),.lit (.string (Dy ((l).getD i 0).natAbs))] (by kernel_rfl) (λ_=> .lit (Aj ((l).getD i 0))) (by kernel_rfl)) ?_
   refine Ce (.osl 11 2 (i+1)) (.grow2 9 10 11 (.vec 70 2 (i+1) (λxi=>WA (Zk l xi)))) (Db (.tmp 13) (.tmp 16) 202 (by kernel_rfl) underlying202 2 24 (.agg #[.bool false,.string ⟨#[]⟩]) (by kernel_rfl) (by kernel_rfl) (by decide) i 1 (by omega) (λxi=>WA (Zk l xi)) (λ_=> .lit (Aj ((l).getD i 0))) (λxi=>WA (Zk l xi)) 11 (by omega) (by unfold maxLen;omega) (λi hi=>rfl) (λi hi=>by(obtain rfl:i=0:=(by omega));rfl) (λi hi j hj=>match j,hj with|0,_=>rfl|1,_=>rfl|_+2,h=>absurd h (by omega)) 9 (by kernel_rfl) (by kernel_rfl) 10 70 (by kernel_rfl) (by kernel_rfl)) ?_
   refine Ae 5 ?_
   refine Fr ((i:Int)+1) ((i+1:Nat):Int) ?_
   refine Ae 2 ?_
   exact Hu [4,7,8,9] [(11,9)] 10 0 hA0 [(70,2,1,(λ_=> .lit (Aj ((l).getD i 0)))),(70,2,i+1,(λxi=>WA (Zk l xi)))] ⟨(Hq λ_ _=>rfl),(Hq λ_ _=>rfl),trivial⟩ (hJ1 _ _ (by omega:l.length-(i+1)<l.length-i) ⟨i+1,(by omega),rfl,trivial,.inr ⟨Nat.succ_pos _,rfl⟩⟩)
  ·
   refine Ae 6 ?_
   have hie:i=l.length:=by omega
   subst hie
   refine Acp 9 [4] 70 2 l.length (λxi=>WA (Zk l xi)) (Hq λ_ _=>rfl) ?_
   refine Ae 3 ?_
   refine Cz (iJ l.length (Zk l) (by omega) (λi _=>Hx (hc i))) ?_
   refine Ae 11 ?_
   refine Iw 23 (decide ((25:Int)<(Fk (Zk l) l.length:Int))) false (decide_eq_false (by omega)) ?_
   refine Ae 11 ?_
   exact Gx
theorem aJ (n:Nat) (c:Nat->Int) (y:Int) (hn:n<=25) (hc:∀i,i<n->Fg (c i)) (hl:n=0\/c (n-1)≠0) (hy:Fg y) (hp:∀i,i<n->Fg (c i*y)):AF Tryz.prog 159 [Be n c,WA y] (.tup [Be (Fk (λi=>c i*y) n) (λi=>c i*y),.int 0]):=by
 refine Cq func159 rfl λB D0 hA0=>?_
 refine Ae 11 ?_
 refine Cz (Pw n c hn hc hl) ?_
 refine Ae 3 ?_
 refine Cz (Jr _ hy) ?_
 refine Ae 16 ?_
 refine Ce (.osl 2 2 n) (.new 2 (.vec 70 2 n (λ_=> .lit (Aj 0)))) (Ts 202 (.tmp 19) (.tmp 19) (by kernel_rfl) underlying202 2 24 (.agg #[.bool false,.string ⟨#[]⟩]) (by kernel_rfl) (by kernel_rfl) (by decide) (n:Int) n (by omega) (by kernel_rfl) (by kernel_rfl) (by omega) (by omega) (by omega) 2 (.lit (Aj 0)) (by kernel_rfl)) ?_
 refine Ae 12 ?_
 refine Xy 2 70 2 n (λ_=> .lit (Aj 0)) (λxi=>WA (Um (λi=>c i*y) 0 xi)) (λx9 hx9=>yY _ _) ?_
 refine Mf [3,6,7,21,22,23] n (λi=>True) (λi=>⟨[(3,.ptr 0 0),(6,.ptr 1 0),(7,.osl 2 2 n),(21,Be n c),(22,.int (n:Int)),(23,.int (i:Int))],[(0,.box 70 [.bool (decide (y<0)),.lit (.string (Dy (y).natAbs))]),(1,.box 241 [.int 0]),(2,.vec 70 2 n (λxi=>WA (Um (λi=>c i*y) i xi)))],3,39⟩) trivial (λi hin hFi J1 hJ1=>?_)
 refine Ae 6 ?_
 refine Ft 24 ((i:Int)<(n:Int)) (λhx1 hx1d=>?_) (λhx1 hx1d=>?_)
 ·
  refine Ae 8 ?_
  refine Gn i n ?_
  refine Ae 11 ?_
  refine Ce (.lit (Aj (c i*y))) (.set 1 (.box 241 [.int 0])) (Ip 174 #[.tmp 6,.tmp 30,.tmp 31] #[241,70,70] (by kernel_rfl) (λ_ _=>by kernel_rfl) 1 241 [.int .i64 0] (by kernel_rfl) [.lit (Aj (c i)),.lit (Aj y)] (by kernel_rfl) (by kernel_rfl) (Aj (c i*y)) (Uu (c i) y (hc _ (by omega)) hy (hp _ (by omega)))) ?_
  refine Gn i n ?_
  refine Ce (.lit Go.undef) (.set 2 (.vec 70 2 n (λxi=>if xi=i then .lit (Aj (c i*y)) else (λxi=>WA (Um (λi=>c i*y) i xi)) xi))) (Fp 70 (.tmp 33) (.tmp 32) (by kernel_rfl) 2 sizeOf70 2 i (by kernel_rfl) 70 n (λxi=>WA (Um (λi=>c i*y) i xi)) (by kernel_rfl) (by omega) (by kernel_rfl) (by kernel_rfl) (by kernel_rfl) (.lit (Aj (c i*y))) (by kernel_rfl)) ?_
  refine Ae 4 ?_
  refine Fr ((i:Int)+1) ((i+1:Nat):Int) ?_
  refine Ae 2 ?_
  refine Xy 2 70 2 n (λxi=>if xi=i then .lit (Aj (c i*y)) else (λxi=>WA (Um (λi=>c i*y) i xi)) xi) (λxi=>WA (Um (λi=>c i*y) (i+1) xi)) (λx9 hx9=>yX (λi=>c i*y) i _) ?_
  exact Hu [3,6,7,21,22,23] [(0,0),(1,1),(2,2)] 3 0 hA0 [(70,2,n,(λxi=>WA (Um (λi=>c i*y) (i+1) xi)))] ⟨(Hq λ_ _=>rfl),trivial⟩ (hJ1 (by omega) trivial)
 ·
  refine Ae 6 ?_
  refine Xy 2 70 2 n (λxi=>WA (Um (λi=>c i*y) i xi)) (λxi=>WA ((λi=>c i*y) xi)) (λx9 hx9=>AbI (by omega)) ?_
  refine Acp 2 [7] 70 2 n (λxi=>WA ((λi=>c i*y) xi)) (Hq λ_ _=>rfl) ?_
  refine Ae 3 ?_
  refine dM 3 func176 (λ_ hD2=>?_)
  refine Ae 23 ?_
  refine Cz (iJ n (λi=>c i*y) (by omega) hp) ?_
  refine Ae 5 ?_
  refine vrI (Ae 7 ?_)
  exact Gx
def inn (a b:Int) (c:Nat->Int) (t k:Nat):Int:=if k<t then (if k=0 then 0 else c (k-1)*b)+c k*a else if k=t/\0<t then c (t-1)*b else 0
theorem Abs (a b:Int) (c:Nat->Int) (k:Nat):WA 0=WA (inn a b c 0 k):=by
 unfold inn
 rw[if_neg (Nat.not_lt_zero k),if_neg (by omega)]
theorem Abr (a b:Int) (c:Nat->Int) (t k:Nat):(if k=t+1 then WA (c t*b) else if k=t then WA (inn a b c t t+c t*a) else WA (inn a b c t k))=WA (inn a b c (t+1) k):=by
 by_cases h1:k=t+1
 rw[if_pos h1]
 unfold inn
 rw[if_neg (by omega),if_pos (by omega),Nat.add_sub_cancel]
 rw[if_neg h1]
 by_cases h2:k=t
 subst h2
 rw[if_pos rfl]
 unfold inn
 rw[if_neg (Nat.lt_irrefl k),if_pos (Nat.lt_succ_self k)]
 by_cases h3:k=0
 subst h3;rw[if_neg (by omega),if_pos rfl]
 rw[if_pos (by omega),if_neg h3]
 rw[if_neg h2]
 by_cases h3:k<t
 rw[inn,inn,if_pos h3,if_pos (show k<t+1 by omega)]
 rw[inn,inn,if_neg h3,if_neg (by omega),if_neg (by omega),if_neg (by omega)]
def Ly (d:Int):Nat->Int
 |0=>1
 |k+1=>Ly d k*d
theorem Zu (d:Int):∀k,Ly d k=d^k
 |0=>by rw[Int.pow_zero];rfl
 |k+1=>by rw[Ly,Zu d k,Int.pow_succ]
def cN (p:Nat->Int) (m:Nat) (a b d:Int):Nat->Nat->Int
 |0,_=>p (m-1)
 |j+1,k=>inn a b (cN p m a b d j) (j+1) k+(if k=0 then p (m-2-j)*Ly d (j+1) else 0)
theorem AcP (p:Nat->Int) (m:Nat) (a b d:Int) (j k:Nat) {q:Nat} (hq:q=m-2-j):(if k=0 then WA (inn a b (cN p m a b d j) (j+1) 0+p q*Ly d (j+1)) else WA (inn a b (cN p m a b d j) (j+1) k))=WA (cN p m a b d (j+1) k):=by
 subst hq
 rw[cN]
 by_cases h:k=0
 subst h;rw[if_pos rfl,if_pos rfl]
 rw[if_neg h,if_neg h,Int.add_zero]
theorem Abq {a b:Int} {c:Nat->Int} {e:Nat} (ha:Ct a) (hb:Ct b) (hc:∀k,Bd e (c k)) (t k:Nat):Bd (e+64) (inn a b c t k):=by
 have h1:∀k,Bd (e+63) (c k*a):=λk=>(hc k).mul (Bd.int ha.1 ha.2)
 have h2:∀k,Bd (e+63) (c k*b):=λk=>(hc k).mul (Bd.int hb.1 hb.2)
 unfold inn
 split
 refine Bd.add (e:=e+63) ?_ (h1 k)
 split
 exact Bd.zero _
 exact h2 _
 split
 exact(h2 _).mono (by omega)
 exact Bd.zero _
theorem mX {p:Nat->Int} {m:Nat} {a b d:Int} (hp:∀i,Ct (p i)) (ha:Ct a) (hb:Ct b) (hd:Ct d):∀j k,Bd (70*j+63) (cN p m a b d j k)
 |0,_=>Bd.int (hp _).1 (hp _).2
 |j+1,k=>by
  have h1:=Abq ha hb (mX (m:=m) hp ha hb hd j) (j+1) k
  rw[cN]
  refine(Bd.add (e:=70*j+63+64) (h1.mono (Nat.le_refl _)) ?_).mono (by omega)
  split
  rw[Zu];exact((Bd.int (hp _).1 (hp _).2).mul ((Bd.int hd.1 hd.2).pow (j+1))).mono (by omega)
  exact Bd.zero _
def c3 (a b d:Int):Nat->Int
 |0=>a
 |1=>b
 |_=>d
theorem Aeb {a b d:Int} (ha:Ct a) (hb:Ct b) (hd:Ct d):∀i,Ct (c3 a b d i)
 |0=>ha
 |1=>hb
 |_+2=>hd
theorem AbW {c:Nat->Int} {n:Nat} (h:∀i,Ct (c i)):0<=En c n/\En c n<=64:=pR (k:=64) n λi _=>by
 have:=(Bd.int (h i).1 (h i).2).le
 exact Gf.2 (by omega)
theorem lT (k0:Nat) (p:Nat->Int) (a b d:Int) (hm:k0<=5) (hp:∀i,Ct (p i)) (hl:p k0≠0) (ha:Ct a) (hb:Ct b) (hd:Ct d) (hdp:0<d):AF Tryz.prog 158 [Be (k0+1) p,WA a,WA b,WA d] (.tup [Be (Fk (cN p (k0+1) a b d k0) (k0+1)) (cN p (k0+1) a b d k0),.int 0]):=by
 have hsp:=AbW (n:=k0+1) hp
 have hs3:=AbW (n:=3) (Aeb ha hb hd)
 have hml:0<=((k0+1-1:Nat):Int)*(En (c3 a b d) 3+1)/\((k0+1-1:Nat):Int)*(En (c3 a b d) 3+1)<=325:=⟨Int.mul_nonneg (by omega) (by omega),Int.le_trans (Int.mul_le_mul (show ((k0+1-1:Nat):Int)<=5 by omega) (show En (c3 a b d) 3+1<=65 by omega) (by omega) (by omega)) (by decide)⟩
 have fc:∀j k,j<=6->Fg (cN p (k0+1) a b d j k):=λj k hj=>(mX hp ha hb hd j k).fit (by omega)
 have fi:∀j t k,j<=6->Bd 600 (inn a b (cN p (k0+1) a b d j) t k):=λj t k hj=>(Abq ha hb (mX hp ha hb hd j) t k).mono (by omega)
 have fm:∀j k y,j<=6->Ct y->Bd 600 (cN p (k0+1) a b d j k*y):=λj k y hj hy=>((mX hp ha hb hd j k).mul (Bd.int hy.1 hy.2)).mono (by omega)
 have fd:∀j,j<=6->Bd 500 (Ly d j):=λj hj=>by rw[Zu];exact((Bd.int hd.1 hd.2).pow j).mono (by omega)
 have fp:∀i j,j<=6->Bd 600 (p i*Ly d j):=λi j hj=>((Bd.int (hp i).1 (hp i).2).mul (fd j hj)).mono (by omega)
 refine Cq func158 rfl λB D0 hA0=>?_
 refine Ae 13 ?_
 refine Cz (Pw (k0+1) p (by omega) (λi _=>Hx (hp i)) (.inr hl)) ?_
 refine Ae 3 ?_
 refine Cz (Jr _ (Hx ha)) ?_
 refine Ae 4 ?_
 refine Cz (Jr _ (Hx hb)) ?_
 refine Ae 4 ?_
 refine Cz (Jr _ (Hx hd)) ?_
 refine Ae 11 ?_
 refine Cz (Vc d (Hx hd)) ?_
 refine Ae 3 ?_
 refine Iw 37 (decide (d.sign<=0)) false (decide_eq_false (by rw[Int.sign_eq_one_of_pos hdp];decide)) ?_
 refine Ae 11 ?_
 refine Iw 40 (decide (((k0+1:Nat):Int)=0)) false (decide_eq_false (by omega)) ?_
 refine Ae 5 ?_
 refine Kq [(1,_,.none),(4,.int ((k0+1-1:Nat):Int),.none),(8,.osl 3 2 3,(.new 3 (.vec 70 2 3 (λxi=>WA (c3 a b d xi))))),(9,.int (En (c3 a b d) 3),(.read 3)),(10,.int (En (c3 a b d) 3+1),.none),(11,.int (((k0+1-1:Nat):Int)*(En (c3 a b d) 3+1)),.none),(12,.int (En p (k0+1)+((k0+1-1:Nat):Int)*(En (c3 a b d) 3+1)),.none),(13,.int (En p (k0+1)+((k0+1-1:Nat):Int)*(En (c3 a b d) 3+1)+8),.none),(14,.bool false,.none)] [0,5,6,7,55] ⟨Hw (tQ (k0+1) p (by omega) (λi _=>Hx (hp i))),Av (Cn (v:= .int .i64 (IntKind.wrap .i64 (((k0+1:Nat):Int)-1))) (v':= .int .i64 ((k0+1-1:Nat):Int)) _ (by kernel_rfl) rfl (by kernel_rfl) (λw=>by kernel_rfl) (congrArg (Value.int .i64) ((IntWalk.i64_in _ (by omega)).trans (by omega)))),Av (Ak 201 3 #[(0,(.tmp 46)),(1,(.tmp 47)),(2,(.tmp 48))] (by kernel_rfl) underlying201 2 sizeOf70 _ zeroValue70 (by kernel_rfl) (Nat.le_of_ble_eq_true (by kernel_rfl)) (Nat.le_of_ble_eq_true (by kernel_rfl)) (Nat.le_of_ble_eq_true (by kernel_rfl)) 3 [.bool (decide (a<0)),.lit (.string (Dy (a).natAbs)),.bool (decide (b<0)),.lit (.string (Dy (b).natAbs)),.bool (decide (d<0)),.lit (.string (Dy (d).natAbs))] (by kernel_rfl) (λxi=>WA (c3 a b d xi)) (by kernel_rfl)),Av (gE 173 #[.tmp 49] #[201] (by kernel_rfl) (λ_ _=>by kernel_rfl) 3 (.vec 70 2 3 (λxi=>WA (c3 a b d xi))) (by kernel_rfl) (λ_ _ _ _ h=>by cases h;exact(Hq λ_ _=>rfl)) [.osl 3 2 3] (by kernel_rfl) [.sl 2 3 (λxi=>WA (c3 a b d xi))] (by kernel_rfl) (.int .i64 (En (c3 a b d) 3)) (tQ 3 (c3 a b d) (by omega) (λi _=>Hx (Aeb ha hb hd i)))),Av (Cn (v:= .int .i64 (IntKind.wrap .i64 (En (c3 a b d) 3+1))) (v':= .int .i64 (En (c3 a b d) 3+1)) _ (by kernel_rfl) rfl (by kernel_rfl) (λw=>by kernel_rfl) (congrArg (Value.int .i64) ((IntWalk.i64_in _ (by omega)).trans (by omega)))),Av (Cn (v:= .int .i64 (IntKind.wrap .i64 (((k0+1-1:Nat):Int)*(En (c3 a b d) 3+1)))) (v':= .int .i64 (((k0+1-1:Nat):Int)*(En (c3 a b d) 3+1))) _ (by kernel_rfl) rfl (by kernel_rfl) (λw=>by kernel_rfl) (congrArg (Value.int .i64) ((IntWalk.i64_in _ (by omega)).trans (by omega)))),Av (Cn (v:= .int .i64 (IntKind.wrap .i64 (En p (k0+1)+((k0+1-1:Nat):Int)*(En (c3 a b d) 3+1)))) (v':= .int .i64 (En p (k0+1)+((k0+1-1:Nat):Int)*(En (c3 a b d) 3+1))) _ (by kernel_rfl) rfl (by kernel_rfl) (λw=>by kernel_rfl) (congrArg (Value.int .i64) ((IntWalk.i64_in _ (by omega)).trans (by omega)))),Av (Cn (v:= .int .i64 (IntKind.wrap .i64 (En p (k0+1)+((k0+1-1:Nat):Int)*(En (c3 a b d) 3+1)+8))) (v':= .int .i64 (En p (k0+1)+((k0+1-1:Nat):Int)*(En (c3 a b d) 3+1)+8)) _ (by kernel_rfl) rfl (by kernel_rfl) (λw=>by kernel_rfl) (congrArg (Value.int .i64) ((IntWalk.i64_in _ (by omega)).trans (by omega)))),lJ (b:=decide ((65536:Int)<En p (k0+1)+((k0+1-1:Nat):Int)*(En (c3 a b d) 3+1)+8)) (decide_eq_false (by omega)),trivial⟩ ?_
 refine Ae 10 ?_
 refine Kq [(3,.int ((k0+1-1:Nat):Int),.none),(4,Fv (Be (k0+1) p) (k0+1-1),.none),(6,.osl 5 2 1,(.new 5 (.vec 70 2 1 (λ_=> .lit (Aj (p (k0+1-1))))))),(7,_,.none)] [0,5,6,7,10,11,12] ⟨Av (Cn (v:= .int .i64 (IntKind.wrap .i64 (((k0+1:Nat):Int)-1))) (v':= .int .i64 ((k0+1-1:Nat):Int)) _ (by kernel_rfl) rfl (by kernel_rfl) (λw=>by kernel_rfl) (congrArg (Value.int .i64) ((IntWalk.i64_in _ (by omega)).trans (by omega)))),Ox (k0+1-1) (k0+1),Av (Ak 202 1 #[(0,(.tmp 61))] (by kernel_rfl) underlying202 2 sizeOf70 _ zeroValue70 (by kernel_rfl) (Nat.le_of_ble_eq_true (by kernel_rfl)) (Nat.le_of_ble_eq_true (by kernel_rfl)) (Nat.le_of_ble_eq_true (by kernel_rfl)) 5 [.bool (decide (p (k0+1-1)<0)),.lit (.string (Dy (p (k0+1-1)).natAbs))] (by kernel_rfl) (λ_=> .lit (Aj (p (k0+1-1)))) (by kernel_rfl)),Hw (Gp 1 (by decide) (by decide)),trivial⟩ ?_
 refine Ae 6 ?_
 refine Fr (((k0+1:Nat):Int)-2) (((k0-0:Nat):Int)-1) ?_
 refine Ae 4 ?_
 refine Mf [0,5,6,7,10,11,12,13] k0 (λj=>True) (λj=>⟨[(0,Be (k0+1) p),(5,.ptr 0 0),(6,.ptr 1 0),(7,.ptr 2 0),(10,.ptr 4 0),(11,.osl 5 2 (j+1)),(12,.ptr 6 0),(13,.int (((k0-j:Nat):Int)-1))],[(0,.box 70 [.bool (decide (a<0)),.lit (.string (Dy (a).natAbs))]),(1,.box 70 [.bool (decide (b<0)),.lit (.string (Dy (b).natAbs))]),(2,.box 70 [.bool (decide (d<0)),.lit (.string (Dy (d).natAbs))]),(3,.vec 70 2 3 (λxi=>WA (c3 a b d xi))),(4,.box 241 [.int 0]),(5,.vec 70 2 (j+1) (λxi=>WA (cN p (k0+1) a b d j xi))),(6,.box 70 [.bool (decide (Ly d j<0)),.lit (.string (Dy (Ly d j).natAbs))])],7,121⟩) trivial (λj hjn hFj J1 hJ1=>?_)
 refine Ae 7 ?_
 refine Ft 68 ((0:Int)<=((k0-j:Nat):Int)-1) (λhx1 hx1d=>?_) (λhx1 hx1d=>?_)
 ·
  refine Ae 9 ?_
  refine Ce (.lit (Aj (Ly d (j+1)))) (.set 4 (.box 241 [.int 0])) (Ip 174 #[.tmp 10,.tmp 71,.tmp 72] #[241,70,70] (by kernel_rfl) (λ_ _=>by kernel_rfl) 4 241 [.int .i64 0] (by kernel_rfl) [.lit (Aj (Ly d j)),.lit (Aj d)] (by kernel_rfl) (by kernel_rfl) (Aj (Ly d (j+1))) (Uu (Ly d j) d ((fd j (by omega)).fit (by omega)) (Hx hd) ((fd (j+1) (by omega)).fit (by omega)))) ?_
  refine Ae 7 ?_
  refine Fr (((j+1:Nat):Int)+1) ((j+1+1:Nat):Int) ?_
  refine Ce (.osl 7 2 (j+1+1)) (.new 7 (.vec 70 2 (j+1+1) (λ_=> .lit (Aj 0)))) (Ts 202 (.tmp 76) (.tmp 76) (by kernel_rfl) underlying202 2 24 (.agg #[.bool false,.string ⟨#[]⟩]) (by kernel_rfl) (by kernel_rfl) (by decide) ((j+1+1:Nat):Int) (j+1+1) (by omega) (by kernel_rfl) (by kernel_rfl) (by omega) (by omega) (by omega) 7 (.lit (Aj 0)) (by kernel_rfl)) ?_
  refine Ae 12 ?_
  refine Xy 7 70 2 (j+1+1) (λ_=> .lit (Aj 0)) (λxi=>WA (inn a b (cN p (k0+1) a b d j) 0 xi)) (λx9 hx9=>Abs _ _ _ _) ?_
  refine Mf [0,5,6,7,10,12,13,14,78,79,80] (j+1) (λt=>True) (λt=>⟨[(0,Be (k0+1) p),(5,.ptr 0 0),(6,.ptr 1 0),(7,.ptr 2 0),(10,.ptr 4 0),(12,.ptr 6 0),(13,.int (((k0-j:Nat):Int)-1)),(14,.osl 7 2 (j+1+1)),(78,.osl 5 2 (j+1)),(79,.int ((j+1:Nat):Int)),(80,.int (t:Int))],[(0,.box 70 [.bool (decide (a<0)),.lit (.string (Dy (a).natAbs))]),(1,.box 70 [.bool (decide (b<0)),.lit (.string (Dy (b).natAbs))]),(2,.box 70 [.bool (decide (d<0)),.lit (.string (Dy (d).natAbs))]),(3,.vec 70 2 3 (λxi=>WA (c3 a b d xi))),(4,.box 241 [.int 0]),(5,.vec 70 2 (j+1) (λxi=>WA (cN p (k0+1) a b d j xi))),(6,.box 70 [.bool (decide (Ly d (j+1)<0)),.lit (.string (Dy (Ly d (j+1)).natAbs))]),(7,.vec 70 2 (j+1+1) (λxi=>WA (inn a b (cN p (k0+1) a b d j) t xi)))],8,121⟩) trivial (λt htn hFt J2 hJ2=>?_)
  refine Ae 6 ?_
  refine Ft 81 ((t:Int)<((j+1:Nat):Int)) (λhx2 hx2d=>?_) (λhx2 hx2d=>?_)
  ·
   refine Ae 8 ?_
   refine Gn t (j+1) ?_
   refine Ce (.lit (Aj (cN p (k0+1) a b d j t))) (.read 5) (Qm 70 (.tmp 83) (by kernel_rfl) isAgg70 2 sizeOf70 5 t (by kernel_rfl) 70 (j+1) (λxi=>WA (cN p (k0+1) a b d j xi)) (by kernel_rfl) (by omega)) ?_
   refine Ae 6 ?_
   refine Kq [(4,Fv (.osl 7 2 (j+1+1)) t,.none),(5,.lit (Aj (inn a b (cN p (k0+1) a b d j) t t)),(.read 7)),(8,.lit (Aj (cN p (k0+1) a b d j t*a)),(.set 4 (.box 241 [.int 0]))),(9,.lit (Aj (inn a b (cN p (k0+1) a b d j) t t+cN p (k0+1) a b d j t*a)),(.set 4 (.box 241 [.int 0]))),(10,Fv (.osl 7 2 (j+1+1)) t,.none),(11,.lit Go.undef,(.set 7 (.vec 70 2 (j+1+1) (λxi=>if xi=t then .lit (Aj (inn a b (cN p (k0+1) a b d j) t t+cN p (k0+1) a b d j t*a)) else (λxi=>WA (inn a b (cN p (k0+1) a b d j) t xi)) xi))))] [0,5,6,7,10,12,13,14,15,16,78,79,80] ⟨Ox t (j+1+1),Av (Qm 70 (.tmp 89) (by kernel_rfl) isAgg70 2 sizeOf70 7 t (by kernel_rfl) 70 (j+1+1) (λxi=>WA (inn a b (cN p (k0+1) a b d j) t xi)) (by kernel_rfl) (by omega)),Av (Ip 174 #[.tmp 10,.tmp 91,.tmp 92] #[241,70,70] (by kernel_rfl) (λ_ _=>by kernel_rfl) 4 241 [.int .i64 0] (by kernel_rfl) [.lit (Aj (cN p (k0+1) a b d j t)),.lit (Aj a)] (by kernel_rfl) (by kernel_rfl) (Aj (cN p (k0+1) a b d j t*a)) (Uu _ _ (fc j _ (by omega)) (Hx ha) ((fm j _ _ (by omega) ha).fit (by omega)))),Av (Ip 175 #[.tmp 10,.tmp 90,.tmp 93] #[241,70,70] (by kernel_rfl) (λ_ _=>by kernel_rfl) 4 241 [.int .i64 0] (by kernel_rfl) [.lit (Aj (inn a b (cN p (k0+1) a b d j) t t)),.lit (Aj (cN p (k0+1) a b d j t*a))] (by kernel_rfl) (by kernel_rfl) (Aj (inn a b (cN p (k0+1) a b d j) t t+cN p (k0+1) a b d j t*a)) (tL _ _ ((fi j _ _ (by omega)).fit (by omega)) ((fm j _ _ (by omega) ha).fit (by omega)) (((fi j _ _ (by omega)).add (fm j _ _ (by omega) ha)).fit (by omega)))),Ox t (j+1+1),Av (Fp 70 (.tmp 95) (.tmp 94) (by kernel_rfl) 2 sizeOf70 7 t (by kernel_rfl) 70 (j+1+1) (λxi=>WA (inn a b (cN p (k0+1) a b d j) t xi)) (by kernel_rfl) (by omega) (by kernel_rfl) (by kernel_rfl) (by kernel_rfl) (.lit (Aj (inn a b (cN p (k0+1) a b d j) t t+cN p (k0+1) a b d j t*a))) (by kernel_rfl)),trivial⟩ ?_
   refine Ae 4 ?_
   refine Fr ((t:Int)+1) ((t+1:Nat):Int) ?_
   refine Ae 2 ?_
   refine Ce (.lit (Aj (cN p (k0+1) a b d j t*b))) (.set 4 (.box 241 [.int 0])) (Ip 174 #[.tmp 10,.tmp 99,.tmp 100] #[241,70,70] (by kernel_rfl) (λ_ _=>by kernel_rfl) 4 241 [.int .i64 0] (by kernel_rfl) [.lit (Aj (cN p (k0+1) a b d j t)),.lit (Aj b)] (by kernel_rfl) (by kernel_rfl) (Aj (cN p (k0+1) a b d j t*b)) (Uu _ _ (fc j _ (by omega)) (Hx hb) ((fm j _ _ (by omega) hb).fit (by omega)))) ?_
   refine Gn (t+1) (j+1+1) ?_
   refine Ce (.lit Go.undef) (.set 7 (.vec 70 2 (j+1+1) (λxi=>if xi=t+1 then .lit (Aj (cN p (k0+1) a b d j t*b)) else (λxi=>if xi=t then .lit (Aj (inn a b (cN p (k0+1) a b d j) t t+cN p (k0+1) a b d j t*a)) else (λxi=>WA (inn a b (cN p (k0+1) a b d j) t xi)) xi) xi))) (Fp 70 (.tmp 102) (.tmp 101) (by kernel_rfl) 2 sizeOf70 7 (t+1) (by kernel_rfl) 70 (j+1+1) (λxi=>if xi=t then .lit (Aj (inn a b (cN p (k0+1) a b d j) t t+cN p (k0+1) a b d j t*a)) else (λxi=>WA (inn a b (cN p (k0+1) a b d j) t xi)) xi) (by kernel_rfl) (by omega) (by kernel_rfl) (by kernel_rfl) (by kernel_rfl) (.lit (Aj (cN p (k0+1) a b d j t*b))) (by kernel_rfl)) ?_
   refine Ae 4 ?_
   refine Fr ((t:Int)+1) ((t+1:Nat):Int) ?_
   refine Ae 2 ?_
   refine Xy 7 70 2 (j+1+1) (λxi=>if xi=t+1 then .lit (Aj (cN p (k0+1) a b d j t*b)) else (λxi=>if xi=t then .lit (Aj (inn a b (cN p (k0+1) a b d j) t t+cN p (k0+1) a b d j t*a)) else (λxi=>WA (inn a b (cN p (k0+1) a b d j) t xi)) xi) xi) (λxi=>WA (inn a b (cN p (k0+1) a b d j) (t+1) xi)) (λx9 hx9=>Abr _ _ _ _ _) ?_
   exact Hu [0,5,6,7,10,12,13,14,78,79,80] [(0,0),(1,1),(2,2),(3,3),(4,4),(5,5),(6,6),(7,7)] 8 0 hA0 [(70,2,3,(λxi=>WA (c3 a b d xi))),(70,2,j+1,(λxi=>WA (cN p (k0+1) a b d j xi))),(70,2,j+1+1,(λxi=>WA (inn a b (cN p (k0+1) a b d j) (t+1) xi)))] ⟨(Hq λ_ _=>rfl),(Hq λ_ _=>rfl),(Hq λ_ _=>rfl),trivial⟩ (hJ2 (by omega) trivial)
  ·
   refine Ae 6 ?_
   have hte:t=j+1:=by omega
   subst hte
   refine Ae 1 ?_
   refine Kq [(2,Fv (.osl 7 2 (j+1+1)) 0,.none),(3,.lit (Aj (inn a b (cN p (k0+1) a b d j) (j+1) 0)),(.read 7)),(6,Fv (Be (k0+1) p) (((k0-j:Nat):Int)-1).toNat,.none),(9,.lit (Aj (p ((((k0-j:Nat):Int)-1).toNat)*(Ly d (j+1)))),(.set 4 (.box 241 [.int 0]))),(10,.lit (Aj (inn a b (cN p (k0+1) a b d j) (j+1) 0+p ((((k0-j:Nat):Int)-1).toNat)*(Ly d (j+1)))),(.set 4 (.box 241 [.int 0]))),(11,Fv (.osl 7 2 (j+1+1)) 0,.none),(12,.lit Go.undef,(.set 7 (.vec 70 2 (j+1+1) (λxi=>if xi=0 then .lit (Aj (inn a b (cN p (k0+1) a b d j) (j+1) 0+p ((((k0-j:Nat):Int)-1).toNat)*(Ly d (j+1)))) else (λxi=>WA (inn a b (cN p (k0+1) a b d j) (j+1) xi)) xi))))] [0,5,6,7,10,12,13,14] ⟨Ox 0 (j+1+1),Av (Qm 70 (.tmp 106) (by kernel_rfl) isAgg70 2 sizeOf70 7 0 (by kernel_rfl) 70 (j+1+1) (λxi=>WA (inn a b (cN p (k0+1) a b d j) (j+1) xi)) (by kernel_rfl) (by omega)),Ae6 (((k0-j:Nat):Int)-1) (((k0-j:Nat):Int)-1).toNat (k0+1),Av (Ip 174 #[.tmp 10,.tmp 111,.tmp 112] #[241,70,70] (by kernel_rfl) (λ_ _=>by kernel_rfl) 4 241 [.int .i64 0] (by kernel_rfl) [.lit (Aj (p ((((k0-j:Nat):Int)-1).toNat))),.lit (Aj (Ly d (j+1)))] (by kernel_rfl) (by kernel_rfl) (Aj (p ((((k0-j:Nat):Int)-1).toNat)*(Ly d (j+1)))) (Uu _ _ (Hx (hp _)) ((fd _ (by omega)).fit (by omega)) ((fp _ _ (by omega)).fit (by omega)))),Av (Ip 175 #[.tmp 10,.tmp 107,.tmp 113] #[241,70,70] (by kernel_rfl) (λ_ _=>by kernel_rfl) 4 241 [.int .i64 0] (by kernel_rfl) [.lit (Aj (inn a b (cN p (k0+1) a b d j) (j+1) 0)),.lit (Aj (p ((((k0-j:Nat):Int)-1).toNat)*(Ly d (j+1))))] (by kernel_rfl) (by kernel_rfl) (Aj (inn a b (cN p (k0+1) a b d j) (j+1) 0+p ((((k0-j:Nat):Int)-1).toNat)*(Ly d (j+1)))) (tL _ _ ((fi j _ _ (by omega)).fit (by omega)) ((fp _ _ (by omega)).fit (by omega)) (((fi j _ _ (by omega)).add (fp _ _ (by omega))).fit (by omega)))),Ox 0 (j+1+1),Av (Fp 70 (.tmp 115) (.tmp 114) (by kernel_rfl) 2 sizeOf70 7 0 (by kernel_rfl) 70 (j+1+1) (λxi=>WA (inn a b (cN p (k0+1) a b d j) (j+1) xi)) (by kernel_rfl) (by omega) (by kernel_rfl) (by kernel_rfl) (by kernel_rfl) (.lit (Aj (inn a b (cN p (k0+1) a b d j) (j+1) 0+p ((((k0-j:Nat):Int)-1).toNat)*(Ly d (j+1))))) (by kernel_rfl)),trivial⟩ ?_
   refine Ae 9 ?_
   refine Fr (((k0-j:Nat):Int)-1-1) (((k0-(j+1):Nat):Int)-1) ?_
   refine Ae 2 ?_
   refine Xy 7 70 2 (j+1+1) (λxi=>if xi=0 then .lit (Aj (inn a b (cN p (k0+1) a b d j) (j+1) 0+p ((((k0-j:Nat):Int)-1).toNat)*(Ly d (j+1)))) else (λxi=>WA (inn a b (cN p (k0+1) a b d j) (j+1) xi)) xi) (λxi=>WA (cN p (k0+1) a b d (j+1) xi)) (λx9 hx9=>AcP _ _ _ _ _ _ _ (by omega)) ?_
   exact Hu [0,5,6,7,10,11,12,13] [(0,0),(1,1),(2,2),(3,3),(4,4),(7,5),(6,6)] 7 0 hA0 [(70,2,3,(λxi=>WA (c3 a b d xi))),(70,2,j+1,(λxi=>WA (cN p (k0+1) a b d j xi))),(70,2,j+1+1,(λxi=>WA (cN p (k0+1) a b d (j+1) xi)))] ⟨(Hq λ_ _=>rfl),(Hq λ_ _=>rfl),(Hq λ_ _=>rfl),trivial⟩ (hJ1 (by omega) trivial)
 ·
  refine Ae 6 ?_
  have hje:j=k0:=by omega
  subst hje
  refine Acp 5 [11] 70 2 (j+1) (λxi=>WA (cN p (j+1) a b d j xi)) (Hq λ_ _=>rfl) ?_
  refine Ae 3 ?_
  refine dM 7 func176 (λ_ hD3=>?_)
  refine Ae 23 ?_
  refine Cz (iJ (j+1) (cN p (j+1) a b d j) (by omega) (λi _=>fc _ i (by omega))) ?_
  refine Ae 5 ?_
  refine vrI (Ae 7 ?_)
  exact Gx
end Go.Proofs.YtldnjomacnjhnaaGreat