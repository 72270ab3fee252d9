/- Part 20 of the proof of SK.row_holds, joined by program: no condition beyond the row's own. -/
import Derived.Test.YtldnjomacnjhnaaGreatK19
import Derived.Scope
set_option maxRecDepth 100000
set_option maxHeartbeats 40000000
namespace Go.Proofs.YtldnjomacnjhnaaGreat
theorem Jr {P:Program} {b:Frame} {a:Act} {k:List Item} {cs:List Frame} {w:World} {c:Code}:step P (lone (b.atR a (.code (.scope c)::k)) cs w)= .next (lone (b.atR a (.code c:: .inScope c::k)) cs w):=
 step_lone_go (by simp[Go.stepG,Go.stepG.exec,Frame.atR])
theorem cU {P:Program} {b:Frame} {a:Act} {k:List Item} {cs:List Frame} {w:World} {c:Code}:step P (lone (b.atR a (.inScope c::k)) cs w)= .next (lone (b.atR a k) cs w):=
 step_lone_go (by simp[Go.stepG,Go.stepG.exec,Frame.atR])
theorem rN {F:Fence} {n:Nat} {P:Program} {Q:Exit->Act->World->Prop} {a:Act} {w:World} {c:Code} (h:c.wpIn F n P (Exit.noGoto Q) a w):(Code.scope c).wpIn F n P Q a w:=by
 intro b k cs hro hb hr
 have h0:(lone (b.atR a (.code (.scope c)::k)) cs w).fenced P F:=fenced_calm hb hr rfl
 obtain⟨e,a₁,w₁,hq,harr⟩:=h b (.inScope c::k) cs hro hb hr
 cases e with
 |normal=>exact⟨.normal,a₁,w₁,hq,.head h0 Jr (StepsIn.trans harr (.one (fenced_calm hb hr rfl) cU))⟩
 |exit id=>
  have hx:exitTo id (.inScope c::k)=exitTo id k:=by simp[exitTo]
  exact⟨.exit id,a₁,w₁,hq,λk' hk=> .head h0 Jr (harr.1 k' (by rw[hx];exact hk)),
   λhr' hk=>let ⟨k₁,h1,h2⟩:=harr.2 hr' (by rw[hx];exact hk);⟨k₁,h1,.head h0 Jr h2⟩⟩
 |goto l=>exact hq.elim
 |ret=>exact⟨_,a₁,w₁,hq,.of_steps (.one h0 Jr) harr⟩
 |panic ch=>exact⟨_,a₁,w₁,hq,.of_steps (.one h0 Jr) harr⟩
 |outgrown=>exact⟨_,a₁,w₁,hq,.of_steps (.one h0 Jr) harr⟩
def AeL (Q:Exit->St->Prop):Exit->St->Prop
 | .goto _,_=>False
 |e,s=>Q e s
theorem yY {P:Program} {R:Option Nat} {B:Nat} {D0:Bk} {s:St} {Q:Exit->St->Prop} {c:Code} (h:AC P R B D0 c s (AeL Q)):AC P R B D0 (.scope c) s Q:=⟨λE a hs=>
 rN (Em (λe a' w' ⟨s',E',h1,h2,h3,h4⟩=>by
  cases e with
  |goto l=>exact h2.elim
  |normal=>exact⟨s',E',h1,h2,h3,h4⟩
  |exit id=>exact⟨s',E',h1,h2,h3,h4⟩
  |ret=>exact⟨s',E',h1,h2,h3,h4⟩
  |panic ch=>exact⟨s',E',h1,h2,h3,h4⟩
  |outgrown=>exact⟨s',E',h1,h2,h3,h4⟩) (h.run E a hs))⟩
theorem iG {B:Nat} {D0:Bk} {s:St} (id:Nat) (t:TypeId) (cs:List AV) (s':St) (hc:Aw s.h id=some (.box t cs)) (hs':(⟨mapT (frzB id cs) s.t,(Hd s.h id).map λp=>(p.1,p.2.mapB (frzB id cs)),s.nx,s.n⟩:St)=s') (hf:cs.all AV.free=true) (E:Bk) (a:Act) (hs:It B D0 E s a):∃E',E'.w=E.w/\It B D0 E' s' a:=by
 refine Zz id (frzB id cs) s' hs' hc (λE x v hh hv=>?_) E a hs
 have up:=hv.up (E.le_fr id)
 obtain⟨arr,hb,hvs⟩:=hh.box hc
 cases hv with
 |osl _ id' e' m hA=>
  unfold frzB
  simp only
  by_cases e1:id'=id
  rw[if_pos e1];exact .top _ _
  rw[if_neg e1];exact up
 |ptr _ id' off hA=>
  unfold frzB
  simp only
  by_cases e1:id'=id
  subst e1
  rw[if_pos rfl]
  refine .elt _ _ _ _ _ (λj=>arr.getD (off+j) undef) (.inr rfl) (λj hj=>Lo hb (by rw[hvs.1];omega)) λj hj=>?_
  have:=hvs.2 (off+j)
  have e2:cs.getD (off+j) .top=cs[off+j]:=by simp[List.getD_eq_getElem?_getD,show off+j<cs.length by omega]
  refine(this.free ?_).up (E.le_fr id').fz
  rw[e2]
  exact List.all_eq_true.1 hf _ (List.getElem_mem _)
  rw[if_neg e1];exact up
 |_=>exact up
theorem Jo {P:Program} {B:Nat} {D0:Bk} {o:Oper} {ev:Operand->AV} {pre:Nat->Option Ci} (f:FuncId) (xs:Array Operand) (ts:Array TypeId) (ho:o.op= .call { callee:= .value (.func f),args:=xs,argTypes:=ts }) (hcall:∀(vs:Array Value) w,(callFunc f vs).run P w= .ok (.enter f vs) w) (id:Nat) (blk:Ci) (hp:pre id=some blk) (hfl:∀t e n f,blk= .vec t e n f->∀i,i<n->∀j,j<e->((f i).cell j).flat=true) (He:List AV) (hargs0:xs.toList.map ev=He) (args:List AV) (hargs:He.map (lI id blk)=args) (r:AV) (hf:AF P f args r):Fg P B D0 o ev pre r (.drop id):=by
 subst hargs
 subst hargs0
 refine⟨?_⟩
 intro E a c K Q _ hh htch _ hv k
 have hc:=(htch id (by simp[Cg.touch])).trans hp
 obtain⟨l1,l2,l3,l4⟩:=hh.live id _ hc
 unfold Oper.wp
 rw[show (execOp a.eval o).run P E.w=(callFunc f (xs.map a.eval)).run P E.w by simp[execOp,ho,resolve,Deferred.ofValue,Act.eval,invoke],hcall]
 show Calls P f _ E.w _
 refine(hf (E.fr id) (xs.map a.eval) (λb hb=>?_) (by simp) λi hi=>?_).mono ?_
 rcases hb with hb|hb
 exact hh.bnd b hb
 rw[hb];exact l2.lt
 have hi2:i<xs.size:=by simpa using hi
 have e1:((xs.toList.map ev).map (lI id blk)).getD i .top=lI id blk (ev xs[i]):=by simp[List.getD_eq_getElem?_getD,hi2]
 have e2:(xs.map a.eval).getD i undef=a.eval xs[i]:=by simp[hi2]
 rw[e1,e2]
 exact sK hh hc hfl (hv _ (by simp[ho,Op.operands,Call.operands]))
 rintro e w' ⟨v,D',rfl,hr,hb,hd1,hd2,hd3⟩
 have hz:(E.fr id).w=E.w:=rfl
 rw[hz] at hb hd2
 have hle:E.le { E with D:=D',w:=w' }:=⟨λ_ h=>h,λ_ _=>rfl,λb h=>hd1 b (.inl h),λb hb'=>hb.block b (hh.bnd b hb'),λ_ _=>rfl⟩
 have hn:∀b,D' b->(E.D b\/b=E.π id)\/E.w.heap.size<=b:=hd2
 refine k v { E with D:=D',w:=w' } hle (hb.mono hh.B) hr ⟨λi x hx=>?_,λi j x y hx hy=>?_,hd3,λi hi=>Nat.lt_of_lt_of_le (hh.abd i hi) hb.size,hh.le0.trans hle,λb hb'=>?_,Nat.le_trans hh.B hb.size⟩ λi hi=> .inl hi
 have hx2:(if id=i then Option.none else c i)=some x:=hx
 by_cases e1:id=i
 rw[if_pos e1] at hx2;cases hx2
 rw[if_neg e1] at hx2
 obtain⟨j1,j2,j3,j4⟩:=hh.live i x hx2
 refine⟨j1,j2.up hle (hb.block _ j2.lt),λh=>?_,j4⟩
 rcases hn _ h with(h|h)|h
 exact j3 h
 exact hh.inj i id x blk hx2 hc (λe=>e1 e.symm) h
 have:E.π i<E.w.heap.size:=j2.lt
 have h:E.w.heap.size<=E.π i:=h
 omega
 have hx2:(if id=i then Option.none else c i)=some x:=hx
 have hy2:(if id=j then Option.none else c j)=some y:=hy
 by_cases e1:id=i
 rw[if_pos e1] at hx2;cases hx2
 by_cases e2:id=j
 rw[if_pos e2] at hy2;cases hy2
 rw[if_neg e1] at hx2;rw[if_neg e2] at hy2
 exact hh.inj i j x y hx2 hy2
 rcases hn b hb' with(h|h)|h
 exact hh.new b h
 exact .inr (by rw[h];exact l4)
 exact .inr (Nat.le_trans hh.B h)
theorem Aew {P:Program} {B:Nat} {D0:Bk} {s:St} {fn:Func} {r1 r2 r3 r4 r5:ResultVar} {x y z u t:AV} (hr:fn.results=#[r1,r2,r3,r4,r5]) (h1:Pe P B D0 s r1 x) (h2:Pe P B D0 s r2 y) (h3:Pe P B D0 s r3 z) (h4:Pe P B D0 s r4 u) (h5:Pe P B D0 s r5 t):Qn P B D0 fn s (mkTup [x,y,z,u,t]):=λE a hs=>by
 obtain⟨v1,e1,f1⟩:=h1 E a hs
 obtain⟨v2,e2,f2⟩:=h2 E a hs
 obtain⟨v3,e3,f3⟩:=h3 E a hs
 obtain⟨v4,e4,f4⟩:=h4 E a hs
 obtain⟨v5,e5,f5⟩:=h5 E a hs
 refine⟨.tuple #[v1,v2,v3,v4,v5],by simp[Jd,hr,e1,e2,e3,e4,e5],VR.tupl [x,y,z,u,t] _ rfl (λi hi=>?_) _ rfl⟩
 match i with
 |0=>exact f1
 |1=>exact f2
 |2=>exact f3
 |3=>exact f4
 |4=>exact f5
end Go.Proofs.YtldnjomacnjhnaaGreat
namespace Go.Proofs.YtldnjomacnjhnaaGreat
open Go.RowKit
inductive KI where
 |seq (y:Code)
 |blk (id:Nat)
 |lp (I:St->Prop)
 |scp
 |un (n:Nat) (b:Code)
inductive Md where
 |code (c:Code)
 |ops (a:Array Oper) (l:List Oper)
 |out (e:Exit)
structure Ds where
 m:Md
 k:List KI
 s:St
section
variable (P:Program) (R:Option Nat) (B:Nat) (D0:Bk)
def KQ (Q:Exit->St->Prop):List KI->Exit->St->Prop
 |[]=>Q
 | .seq y::k=>vH (λs1=>AC P R B D0 y s1 (KQ Q k)) (KQ Q k)
 | .blk id::k=>sC id (KQ Q k)
 | .lp I::k=>vH I (KQ Q k)
 | .scp::k=>AeL (KQ Q k)
 | .un n b::k=>vH (Rx P R B D0 b (KQ Q k) n) (KQ Q k)
def Js (s s':St):Prop:=∀E a,It B D0 E s a->∃E',E'.w=E.w/\It B D0 E' s' a
def GoM (Q:Exit->St->Prop) (k:List KI) (s:St):Md->Prop
 | .code x=>AC P R B D0 x s (KQ P R B D0 Q k)
 | .ops a l=>AL P R B D0 a l s (KQ P R B D0 Q k)
 | .out e=>∃s',Js B D0 s s'/\KQ P R B D0 Q k e s'
structure Go (Q:Exit->St->Prop) (c:Ds):Prop where
 m:GoM P R B D0 Q c.k c.s c.m
end
variable {P:Program} {R:Option Nat} {B:Nat} {D0:Bk} {Q:Exit->St->Prop} {c:Ds}
theorem Js.refl (s:St):Js B D0 s s:=λE _ h=>⟨E,rfl,h⟩
theorem Js.trans {a b d:St} (h:Js B D0 a b) (g:Js B D0 b d):Js B D0 a d:=λE x hs=>by
 obtain⟨E1,e1,h1⟩:=h E x hs
 obtain⟨E2,e2,h2⟩:=g E1 x h1
 exact⟨E2,e2.trans e1,h2⟩
theorem zY {k:List KI} {s s':St} (hw:Js B D0 s s'):∀m,GoM P R B D0 Q k s' m->GoM P R B D0 Q k s m
 | .code _,h=>rQ hw h
 | .ops _ _,h=>rY hw h
 | .out _,⟨s2,h1,h2⟩=>⟨s2,hw.trans h1,h2⟩
theorem Iy (s':St) (hw:Js B D0 c.s s') (h:Go P R B D0 Q ⟨c.m,c.k,s'⟩):Go P R B D0 Q c:=⟨zY hw _ h.m⟩
theorem fH {x:Code} {s:St} {Q:Exit->St->Prop} {e:Exit} (h:∃s',Js B D0 s s'/\Q e s') (hx:∀s,Q e s->AC P R B D0 x s Q):AC P R B D0 x s Q:=by
 obtain⟨s',h1,h2⟩:=h
 exact rQ h1 (hx s' h2)
def iL (a:Array Oper) (s:St) (o:Oper):Option Bool:=match o.guard with
 |none=>some true
 |some (j,b)=>match (a[j]?).bind (·.dst) with
  |some d=>match Cp s.t d with
   | .lit (.bool b')=>match b,b' with
    |true,true|false,false=>some true
    |_,_=>some false
   | .lit (.tuple v)=>match v.toList with
    |[]=>some false
    |_=>none
   |_=>none
  |none=>none
def Aez (P:Program) (a:Array Oper) (o:Oper) (l:List Oper) (k:List KI) (s:St):Ds:=
 match iL a s o with
 |some true=>match evG P o s.ev (Aw s.h) s.nx with
  |some (V,f)=>bif f.low s.nx&&Mu o s.n then ⟨.ops a l,k,⟨Mn s.t o.dst V,f.ap s.h,f.nx s.nx,s.n⟩⟩ else ⟨.ops a (o::l),k,s⟩
  |none=>⟨.ops a (o::l),k,s⟩
 |some false=>bif Mu o s.n then ⟨.ops a l,k,⟨Mn s.t o.dst .undef,s.h,s.nx,s.n⟩⟩ else ⟨.ops a (o::l),k,s⟩
 |none=>⟨.ops a (o::l),k,s⟩
theorem lZ {a:Array Oper} {s:St} {o:Oper} {l:List Oper} {Q:Exit->St->Prop} (h:iL a s o=some true) (V:AV) (f:Cg) (hlow:f.low s.nx=true) (hd:Mu o s.n=true) (ho:Fg P B D0 o s.ev (Aw s.h) V f) (hk:AL P R B D0 a l ⟨Mn s.t o.dst V,f.ap s.h,f.nx s.nx,s.n⟩ Q):AL P R B D0 a (o::l) s Q:=by
 unfold iL at h
 split at h
 rename_i hg;exact AeJ V f hg hlow hd ho hk
 rename_i j b hg
 split at h
 rename_i d hj
 split at h
 rename_i b' hv
 split at h
 exact zR V f hg hj hv hlow hd ho hk
 exact zR V f hg hj hv hlow hd ho hk
 cases h
 rename_i v hv
 split at h<;>cases h
 cases h
 cases h
theorem vV {a:Array Oper} {s:St} {o:Oper} {l:List Oper} {Q:Exit->St->Prop} (h:iL a s o=some false) (hd:Mu o s.n=true) (hk:AL P R B D0 a l ⟨Mn s.t o.dst .undef,s.h,s.nx,s.n⟩ Q):AL P R B D0 a (o::l) s Q:=by
 unfold iL at h
 split at h
 cases h
 rename_i j b hg
 split at h
 rename_i d hj
 split at h
 rename_i b' hv
 split at h
 cases h
 cases h
 rename_i h1 h2
 refine Acm hg hj hv ?_ hd hk
 cases b<;>cases b'<;>first|rfl|exact(h1 rfl rfl).elim|exact(h2 rfl rfl).elim
 rename_i v hv
 split at h
 rename_i he
 refine zS hg hj (hv.trans ?_) hd hk
 have:v=#[]:=by cases v;simp_all
 subst this;rfl
 cases h
 cases h
 cases h
theorem Ad0 {a:Array Oper} {o:Oper} {l:List Oper} {k:List KI} {s:St} (h:Go P R B D0 Q (Aez P a o l k s)):AL P R B D0 a (o::l) s (KQ P R B D0 Q k):=by
 unfold Aez at h
 split at h
 rename_i hg
 split at h
 rename_i V f he
 cases hb:f.low s.nx&&Mu o s.n with
 |false=>rw[hb] at h;exact h.m
 |true=>
  rw[hb] at h
  have hb2:=Bool.and_eq_true_iff.1 hb
  exact lZ hg V f hb2.1 hb2.2 (pP he) h.m
 exact h.m
 rename_i hg
 cases hb:Mu o s.n with
 |false=>rw[hb] at h;exact h.m
 |true=>rw[hb] at h;exact vV hg hb h.m
 exact h.m
def stp (P:Program):Ds->Ds
 |⟨.code x,k,s⟩=>match x with
  | .seq x y=>⟨.code x,.seq y::k,s⟩
  | .region _ a false=>⟨.ops a a.toList,k,s⟩
  | .skip=>⟨.out .normal,k,s⟩
  | .label _=>⟨.out .normal,k,s⟩
  | .block id x=>⟨.code x,.blk id::k,s⟩
  | .scope x=>⟨.code x,.scp::k,s⟩
  | .exit id=>⟨.out (.exit id),k,s⟩
  | .ret=>⟨.out .ret,k,s⟩
  | .cond d x y=>match s.ev d with
   | .lit (.bool true)=>⟨.code x,k,s⟩
   | .lit (.bool false)=>⟨.code y,k,s⟩
   |_=>⟨.code (.cond d x y),k,s⟩
  |x=>⟨.code x,k,s⟩
 |⟨.ops _ [],k,s⟩=>⟨.out .normal,k,s⟩
 |⟨.ops a (o::l),k,s⟩=>Aez P a o l k s
 |⟨.out .normal,.seq y::k,s⟩=>⟨.code y,k,s⟩
 |⟨.out .normal,.blk _::k,s⟩=>⟨.out .normal,k,s⟩
 |⟨.out .normal,.scp::k,s⟩=>⟨.out .normal,k,s⟩
 |⟨.out .normal,.un (n+1) b::k,s⟩=>⟨.code b,.un n b::k,s⟩
 |⟨.out (.exit id),.blk id'::k,s⟩=>bif Nat.beq id id' then ⟨.out .normal,k,s⟩ else ⟨.out (.exit id),k,s⟩
 |⟨.out (.exit id),.seq _::k,s⟩=>⟨.out (.exit id),k,s⟩
 |⟨.out (.exit id),.lp _::k,s⟩=>⟨.out (.exit id),k,s⟩
 |⟨.out (.exit id),.scp::k,s⟩=>⟨.out (.exit id),k,s⟩
 |⟨.out (.exit id),.un _ _::k,s⟩=>⟨.out (.exit id),k,s⟩
 |⟨.out .ret,_::k,s⟩=>⟨.out .ret,k,s⟩
 |c=>c
theorem Ld {k:List KI} {s:St} {e:Exit} {i:KI} (h:GoM P R B D0 Q k s (.out e)) (hk:∀s,KQ P R B D0 Q k e s->KQ P R B D0 Q (i::k) e s):GoM P R B D0 Q (i::k) s (.out e):=by
 obtain⟨s',h1,h2⟩:=h
 exact⟨s',h1,hk _ h2⟩
theorem Adz {k:List KI} {s:St}:∀x,Go P R B D0 Q (stp P ⟨.code x,k,s⟩)->AC P R B D0 x s (KQ P R B D0 Q k)
 | .seq x y,h=>yZ h.m
 | .region _ ⟨l⟩ false,h=>Acb (l:=l) h.m
 | .region _ _ true,h=>h.m
 | .skip,h=>fH h.m λ_ h=>Acc h
 | .label _,h=>fH h.m λ_ h=>yW h
 | .block id x,h=>yU h.m
 | .scope x,h=>yY h.m
 | .exit id,h=>fH h.m λ_ h=>Aca h
 | .ret,h=>fH h.m λ_ h=>AdM h
 | .cond d x y,h=>by
  unfold stp at h
  dsimp only at h
  split at h
  rename_i hb;exact Acd hb rfl h.m
  rename_i hb;exact yV hb rfl h.m
  exact h.m
 | .loop _,h=>h.m
 | .rangeFunc ..,h=>h.m
 | .goto _,h=>h.m
 | .refuse _,h=>h.m
theorem Ae0:∀c,Go P R B D0 Q (stp P c)->Go P R B D0 Q c
 |⟨.code x,k,s⟩,h=>⟨Adz x h⟩
 |⟨.ops _ [],k,s⟩,h=>by
  obtain⟨s',h1,h2⟩:=h.m
  exact⟨rY h1 (AdR h2)⟩
 |⟨.ops _ (_::_),_,_⟩,h=>⟨Ad0 h⟩
 |⟨.out .normal,.seq y::k,s⟩,h=>⟨⟨s,Js.refl s,h.m⟩⟩
 |⟨.out .normal,.blk _::k,s⟩,h=>⟨Ld h.m λ_ h=>h⟩
 |⟨.out .normal,.scp::k,s⟩,h=>⟨Ld h.m λ_ h=>h⟩
 |⟨.out .normal,.lp _::k,s⟩,h=>h
 |⟨.out .normal,.un 0 _::k,s⟩,h=>h
 |⟨.out .normal,.un (n+1) b::k,s⟩,h=>⟨⟨s,Js.refl s,h.m⟩⟩
 |⟨.out (.exit id),.blk id'::k,s⟩,h=>by
  have h:Go P R B D0 Q (bif Nat.beq id id' then ⟨.out .normal,k,s⟩ else ⟨.out (.exit id),k,s⟩):=h
  cases hb:Nat.beq id id' with
  |false=>rw[hb] at h;exact⟨Ld h.m λ_ h=>by show (bif Nat.beq id id' then _ else _);rw[hb];exact h⟩
  |true=>
   rw[hb] at h
   obtain⟨s',h1,h2⟩:=h.m
   exact⟨⟨s',h1,by show (bif Nat.beq id id' then _ else _);rw[hb];exact h2⟩⟩
 |⟨.out (.exit id),.seq _::k,s⟩,h=>⟨Ld h.m λ_ h=>h⟩
 |⟨.out (.exit id),.lp _::k,s⟩,h=>⟨Ld h.m λ_ h=>h⟩
 |⟨.out (.exit id),.scp::k,s⟩,h=>⟨Ld h.m λ_ h=>h⟩
 |⟨.out (.exit id),.un _ _::k,s⟩,h=>⟨Ld h.m λ_ h=>h⟩
 |⟨.out .ret,.seq _::k,s⟩,h=>⟨Ld h.m λ_ h=>h⟩
 |⟨.out .ret,.blk _::k,s⟩,h=>⟨Ld h.m λ_ h=>h⟩
 |⟨.out .ret,.lp _::k,s⟩,h=>⟨Ld h.m λ_ h=>h⟩
 |⟨.out .ret,.scp::k,s⟩,h=>⟨Ld h.m λ_ h=>h⟩
 |⟨.out .ret,.un _ _::k,s⟩,h=>⟨Ld h.m λ_ h=>h⟩
 |⟨.out .normal,[],_⟩,h=>h
 |⟨.out (.exit _),[],_⟩,h=>h
 |⟨.out .ret,[],_⟩,h=>h
 |⟨.out (.goto _),_,_⟩,h=>h
 |⟨.out (.panic _),_,_⟩,h=>h
 |⟨.out .outgrown,_,_⟩,h=>h
def run (P:Program):Nat->Ds->Ds
 |0,c=>c
 |n+1,c=>run P n (stp P c)
theorem Ae:∀(n:Nat) {c:Ds},Go P R B D0 Q (run P n c)->Go P R B D0 Q c
 |0,_,h=>h
 |n+1,c,h=>Ae0 c (Ae n h)
def Ds.a (c:Ds):Array Oper:=match c.m with| .ops a _=>a|_=>#[]
def Ds.l (c:Ds):List Oper:=match c.m with| .ops _ l=>l|_=>[]
def Ds.o (c:Ds):Oper:=match c.l with|o::_=>o|[]=>default
def Ds.ok (c:Ds):Bool:=match c.m with
 | .ops a (o::_)=>iL a c.s o==some true&&Mu o c.s.n
 |_=>false
def Ds.put (c:Ds) (V:AV) (f:Cg):Ds:=⟨match c.m with| .ops a (_::l)=> .ops a l|m=>m,c.k,⟨Mn c.s.t c.o.dst V,f.ap c.s.h,f.nx c.s.nx,c.s.n⟩⟩
theorem Uq (V:AV) (f:Cg) (h:Fg P B D0 c.o c.s.ev (Aw c.s.h) V f) (hk:Go P R B D0 Q (c.put V f)) (hok:c.ok=true) (hlow:f.low c.s.nx=true):Go P R B D0 Q c:=by
 obtain⟨m,k,s⟩:=c
 cases m with
 |code x=>cases hok
 |out e=>cases hok
 |ops a l=>
  cases l with
  |nil=>cases hok
  |cons o l=>
   have hok:(iL a s o==some true&&Mu o s.n)=true:=hok
   obtain⟨h1,h2⟩:=Bool.and_eq_true_iff.1 hok
   exact⟨lZ (by simpa using h1) V f hlow h2 h hk.m⟩
end Go.Proofs.YtldnjomacnjhnaaGreat
namespace Go.Proofs.YtldnjomacnjhnaaGreat
open Go.RowKit
variable {P:Program} {R:Option Nat} {B:Nat} {D0:Bk} {Q:Exit->St->Prop} {c:Ds}
def Ds.add (c:Ds) (d:Nat) (b:Bool):Ds:=⟨c.m,c.k,⟨(d,.bool b)::c.s.t,c.s.h,c.s.nx,c.s.n⟩⟩
theorem Ic (d:Nat) (b v:Bool) (hb:b=v) (hk:Go P R B D0 Q (c.add d v)) (hd:Cp c.s.t d= .bool b:=by kernel_rfl):Go P R B D0 Q c:=
 Iy _ (λE a hs=>wD d b v hb hd E a hs) hk
theorem oT (d:Nat) (b:Bool) (h1:b=true->Go P R B D0 Q (c.add d true)) (h2:b=false->Go P R B D0 Q (c.add d false)) (hd:Cp c.s.t d= .bool b:=by kernel_rfl):Go P R B D0 Q c:=
 Gn b (λh=>Ic d b true h (h1 h) hd) (λh=>Ic d b false h (h2 h) hd)
theorem cX (d:Nat) (b:Bool) (h1:b=true->Go P R B D0 Q (c.add d false)) (h2:b=false->Go P R B D0 Q (c.add d true)) (hd:Cp c.s.t d= .bool (!b):=by kernel_rfl):Go P R B D0 Q c:=
 Gn b (λh=>Ic d (!b) false (by rw[h];rfl) (h1 h) hd) (λh=>Ic d (!b) true (by rw[h];rfl) (h2 h) hd)
theorem Fd (d:Nat) (p:Prop) [Decidable p] (h1:decide p=true->p->Go P R B D0 Q (c.add d true)) (h2:decide p=false->¬p->Go P R B D0 Q (c.add d false)) (hd:Cp c.s.t d= .bool (decide p):=by kernel_rfl):Go P R B D0 Q c:=
 oT d (decide p) (λh=>h1 h (of_decide_eq_true h)) (λh=>h2 h (of_decide_eq_false h)) hd
theorem yL (d:Nat) (p:Prop) [Decidable p] (h1:decide p=true->p->Go P R B D0 Q (c.add d false)) (h2:decide p=false->¬p->Go P R B D0 Q (c.add d true)) (hd:Cp c.s.t d= .bool (!decide p):=by kernel_rfl):Go P R B D0 Q c:=
 cX d (decide p) (λh=>h1 h (of_decide_eq_true h)) (λh=>h2 h (of_decide_eq_false h)) hd
theorem uP {G:Prop} (p:Prop) [Decidable p] (h1:decide p=true->p->G) (h2:decide p=false->¬p->G):G:=
 Gn (decide p) (λh=>h1 h (of_decide_eq_true h)) (λh=>h2 h (of_decide_eq_false h))
theorem Mt (v v':Value) (hk:Go P R B D0 Q (c.put (.lit v') .none)) (hv:v=v':=by rfl) (hx:(c.o.op.operands.toList.all λx=>(c.s.ev x).isLit)=true:=by kernel_rfl) (hs:mX c.o=true:=by kernel_rfl) (hrun:∀w,(execOp (λx=>(c.s.ev x).val) c.o).run P w= .ok (.value v) w:=by intro w;kernel_rfl) (hok:c.ok=true:=by kernel_rfl):Go P R B D0 Q c:=
 Uq (.lit v') .none (Ca _ hx rfl hs hrun hv) hk hok rfl
theorem Ev (x y:Int) (hk:Go P R B D0 Q (c.put (.int y) .none)) (hr: -9223372036854775808<=x/\x<=9223372036854775807:=by omega) (he:x=y:=by omega) (hx:(c.o.op.operands.toList.all λx=>(c.s.ev x).isLit)=true:=by kernel_rfl) (hs:mX c.o=true:=by kernel_rfl) (hrun:∀w,(execOp (λx=>(c.s.ev x).val) c.o).run P w= .ok (.value (.int .i64 (IntKind.wrap .i64 x))) w:=by intro w;kernel_rfl) (hok:c.ok=true:=by kernel_rfl):Go P R B D0 Q c:=
 Uq (.int y) .none (Ca _ hx rfl hs hrun (congrArg (Value.int .i64) ((IntWalk.i64_in x hr).trans he))) hk hok rfl
theorem Cb (V:AV) (f:Cg) {V0:AV} {f0:Cg} (h:Fg P B D0 c.o c.s.ev (Aw c.s.h) V0 f0) (hk:Go P R B D0 Q (c.put V f)) (hok:c.ok=true:=by kernel_rfl) (hlow:f.low c.s.nx=true:=by kernel_rfl) (hV:V0=V:=by kernel_rfl) (hf:f0=f:=by kernel_rfl):Go P R B D0 Q c:=Uq V f (hV▸hf▸h) hk hok hlow
def Ds.xs (c:Ds):Array Operand:=match c.o.op with| .call cl=>cl.args|_=>#[]
def Ds.ts (c:Ds):Array TypeId:=match c.o.op with| .call cl=>cl.argTypes|_=>#[]
def Ds.fx (c:Ds):Operand:=match c.o.op with| .call cl=>(match cl.callee with| .value x=>x|_=>default)|_=>default
def Ds.cps (c:Ds):List AV:=match c.s.ev c.fx with| .fn _ l=>l|_=>[]
theorem Ct {f:FuncId} {args:List AV} {r:AV} (hf:AF P f args r) (hk:Go P R B D0 Q (c.put r .none)) (ho:c.o.op= .call { callee:= .value (.func f),args:=c.xs,argTypes:=c.ts }:=by kernel_rfl) (hargs:c.xs.toList.map c.s.ev=args:=by kernel_rfl) (hfree:args.all AV.free=true:=by kernel_rfl) (hok:c.ok=true:=by kernel_rfl) (hcall:∀(vs:Array Value) w,(callFunc f vs).run P w= .ok (.enter f vs) w:=by intro _ _;kernel_rfl):Go P R B D0 Q c:=
 Uq r .none (mZ f c.xs c.ts ho hcall args hargs hfree r hf) hk hok rfl
theorem Af2 {f:FuncId} {args:List AV} {r:AV} (hf:AF P f args r) (hk:Go P R B D0 Q (c.put r .none)) (ho:c.o.op= .call { callee:= .value c.fx,args:=c.xs,argTypes:=c.ts }:=by kernel_rfl) (hx:c.s.ev c.fx= .fn f c.cps:=by kernel_rfl) (hargs:c.xs.toList.map c.s.ev++c.cps=args:=by kernel_rfl) (hfree:args.all AV.free=true:=by kernel_rfl) (hok:c.ok=true:=by kernel_rfl) (hcall:∀(vs:Array Value) w,(callFunc f vs).run P w= .ok (.enter f vs) w:=by intro _ _;kernel_rfl):Go P R B D0 Q c:=
 Uq r .none (eR c.fx f c.xs c.ts ho c.cps hx hcall args hargs hfree r hf) hk hok rfl
def AaT:AV->Nat
 | .sl _ n _=>n
 | .slc _ n _=>n
 | .osl _ _ n=>n
 |_=>0
def Fi:AV->Nat->AV
 | .sl e _ f,k=> .elt e λq=>(f k).cell q
 | .slc e _ f,k=> .elt e λq=>(f k).cell q
 | .osl id e _,k=> .ptr id (k*e)
 |_,_=> .top
def Oper.ixX (o:Oper):Operand:=match o.op with| .indexAddr _ x _=>x|_=>default
def Oper.ixY (o:Oper):Operand:=match o.op with| .indexAddr _ _ y=>y|_=>default
def ixB (P:Program) (o:Oper) (x:AV):Bool:=match o.op with
 | .indexAddr T _ _=>match P.underlying T with
  |some (.slice el)=>match Lg P el with
   |some e=>match x with
    | .sl e' _ _=>Nat.beq e e'
    | .slc e' _ _=>Nat.beq e e'
    | .osl _ e' _=>Nat.beq e e'
    |_=>false
   |none=>false
  |_=>false
 |_=>false
theorem tF {o:Oper} {ev:Operand->AV} {pre:Nat->Option Ci} (j:Int) (k:Nat) (hb:ixB P o (ev (Oper.ixX o))=true) (hy:ev (Oper.ixY o)= .int j) (hj:j=(k:Int)) (hk:k<AaT (ev (Oper.ixX o))):Fg P B D0 o ev pre (Fi (ev (Oper.ixX o)) k) .none:=by
 unfold ixB at hb
 split at hb
 rename_i T x y ho
 have ex:Oper.ixX o=x:=by unfold Oper.ixX;rw[ho]
 have ey:Oper.ixY o=y:=by unfold Oper.ixY;rw[ho]
 rw[ex] at hb hk ⊢
 rw[ey] at hy
 split at hb
 rename_i el hu
 split at hb
 rename_i e he
 split at hb
 rename_i e' n f hx
 obtain rfl:=Nat.eq_of_beq_eq_true hb
 rw[hx] at hk ⊢
 exact Vf T x y ho hu e n k f j hx hy (El he) hj hk
 rename_i e' n f hx
 obtain rfl:=Nat.eq_of_beq_eq_true hb
 rw[hx] at hk ⊢
 exact Fg.wk (Vf T x y ho hu e n k f j (by rw[hx];rfl) (by rw[hy];rfl) (El he) hj hk)
 rename_i id e' n hx
 obtain rfl:=Nat.eq_of_beq_eq_true hb
 rw[hx] at hk ⊢
 exact cM T x y ho hu id e n k j hx hy (El he) hj hk
 cases hb
 cases hb
 cases hb
 cases hb
def Ds.ixP (c:Ds) (k:Nat):Ds:=c.put (Fi (c.s.ev (Oper.ixX c.o)) k) .none
theorem Ga (k n:Nat) (hk:Go P R B D0 Q (c.ixP k)) (hlt:k<n:=by omega) (hb:ixB P c.o (c.s.ev (Oper.ixX c.o))=true:=by kernel_rfl) (hn:AaT (c.s.ev (Oper.ixX c.o))=n:=by kernel_rfl) (hy:c.s.ev (Oper.ixY c.o)= .int (k:Int):=by kernel_rfl) (hok:c.ok=true:=by kernel_rfl):Go P R B D0 Q c:=
 Uq _ .none (tF _ k hb hy rfl (by rw[hn];exact hlt)) hk hok rfl
theorem Af3 (j:Int) (k n:Nat) (hk:Go P R B D0 Q (c.ixP k)) (hlt:k<n:=by omega) (hj:j=(k:Int):=by omega) (hb:ixB P c.o (c.s.ev (Oper.ixX c.o))=true:=by kernel_rfl) (hn:AaT (c.s.ev (Oper.ixX c.o))=n:=by kernel_rfl) (hy:c.s.ev (Oper.ixY c.o)= .int j:=by kernel_rfl) (hok:c.ok=true:=by kernel_rfl):Go P R B D0 Q c:=
 Uq _ .none (tF j k hb hy hj (by rw[hn];exact hlt)) hk hok rfl
theorem Ni {o:Oper} {ev:Operand->AV} {pre:Nat->Option Ci} {V:AV} (k n:Nat) (hlt:k<n:=by omega) (hb:ixB P o (ev (Oper.ixX o))=true:=by kernel_rfl) (hn:AaT (ev (Oper.ixX o))=n:=by kernel_rfl) (hy:ev (Oper.ixY o)= .int (k:Int):=by kernel_rfl) (hV:Fi (ev (Oper.ixX o)) k=V:=by kernel_rfl):Fg P B D0 o ev pre V .none:=hV▸tF _ k hb hy rfl (by rw[hn];exact hlt)
theorem AeU {o:Oper} {ev:Operand->AV} {pre:Nat->Option Ci} {V:AV} (j:Int) (k n:Nat) (hlt:k<n:=by omega) (hj:j=(k:Int):=by omega) (hb:ixB P o (ev (Oper.ixX o))=true:=by kernel_rfl) (hn:AaT (ev (Oper.ixX o))=n:=by kernel_rfl) (hy:ev (Oper.ixY o)= .int j:=by kernel_rfl) (hV:Fi (ev (Oper.ixX o)) k=V:=by kernel_rfl):Fg P B D0 o ev pre V .none:=hV▸tF j k hb hy hj (by rw[hn];exact hlt)
theorem rR {x:Code} {s:St} (h:AC P R B D0 x s (λe s=>∃s',Js B D0 s s'/\Q e s')):AC P R B D0 x s Q:=⟨λE a hs=>
 Em (λe a' w' ⟨s1,E',h1,⟨s',hk,hq⟩,h3,h4⟩=>by
  obtain⟨E2,e2,h5⟩:=hk E' a' h3
  exact⟨s',E2,e2.trans h1,hq,h5,h4⟩) (h.run E a hs)⟩
def Ds.dl (c:Ds):List Oper:=match c.m with| .code (.region _ a true)=>a.toList|_=>[]
def Ds.dr (P:Program) (c:Ds) (ex:vA):List AV×List Cg:=(pM P c.dl.toArray ex c.s c.dl [] []).getD ([],[])
def Ds.drawn (P:Program) (c:Ds) (ex:vA) (keep:List Nat):Ds:=⟨.out .normal,c.k,⟨xB c.dl.toArray (c.dr P ex).1 c.s keep,Hr (c.dr P ex).2 c.s.h c.dl.toArray.size,nxF (c.dr P ex).2 c.s.nx,c.s.n⟩⟩
theorem Jf (ex:vA) (keep:List Nat) (hop:dV P B D0 c.dl (c.dr P ex).1 (c.dr P ex).2 c.s ex)
  (hk:Go P R B D0 Q (c.drawn P ex keep))
  (hm:P.follows .mixedOrders=true:=by kernel_rfl) (hr:(pM P c.dl.toArray ex c.s c.dl [] []).isSome=true:=by kernel_rfl) (hB:drB c.dl.toArray (c.dr P ex).2 c.s.nx c.s.n=true:=by kernel_rfl) (hnx:nxB (c.dr P ex).2 c.s.nx (nxF (c.dr P ex).2 c.s.nx)=true:=by kernel_rfl) (hc:(match c.m with| .code (.region _ _ true)=>true|_=>false)=true:=by kernel_rfl):Go P R B D0 Q c:=by
 obtain⟨m,k,s⟩:=c
 split at hc
 rename_i id a hmm
 cases hmm
 obtain⟨l⟩:=a
 exact⟨rR (AeZ ex keep _ hop hk.m hm hr hB hnx)⟩
 cases hc
def aM (keep:List Nat) (s:St):St:=⟨keep.map λt=>(t,Cp s.t t),s.h,s.nx,s.n⟩
theorem Oi (keep:List Nat) (s:St):Js B D0 s (aM keep s):=λE a hs=>Abh keep _ rfl E a hs
def Ds.lb (c:Ds):Code:=match c.m with| .code (.loop b)=>b|_=> .skip
def Ds.isL (c:Ds):Bool:=match c.m with| .code (.loop _)=>true|_=>false
def Ds.round (c:Ds) (J:St->Prop) (s:St):Ds:=⟨.code c.lb,.lp J::c.k,s⟩
theorem fG (keep:List Nat) (I:Nat->St->Prop) (m:Nat) (h0:I m (aM keep c.s)) (h:∀m s,I m s->∀J:St->Prop,(∀m' s',m'<m->I m' s'->J s')->Go P R B D0 Q (c.round J s)) (hl:c.isL=true:=by kernel_rfl):Go P R B D0 Q c:=by
 refine Iy _ (Oi keep c.s) ?_
 obtain⟨md,k,s⟩:=c
 unfold Ds.isL at hl
 split at hl
 rename_i b hm
 cases hm
 exact⟨jY I m h0 λm s hI=>(h m s hI _ λm' s' h1 h2=>⟨m',h1,h2⟩).m⟩
 cases hl
theorem Lh (keep:List Nat) (n:Nat) (F:Nat->Prop) (st:Nat->St) (h0:F 0) (h:∀i,i<=n->F i->∀J:St->Prop,(i<n->F (i+1)->J (st (i+1)))->Go P R B D0 Q (c.round J (st i))) (hs:aM keep c.s=st 0:=by kernel_rfl) (hl:c.isL=true:=by kernel_rfl):Go P R B D0 Q c:=
 fG keep (λm s=>∃i,i<=n/\m=n-i/\F i/\s=st i) n ⟨0,Nat.zero_le _,rfl,h0,hs⟩ (λm s ⟨i,h1,h2,h3,h4⟩ J hJ=>by
  subst h4
  exact h i h1 h3 J λg1 g2=>hJ (n-(i+1)) _ ω ⟨i+1,g1,rfl,g2,rfl⟩) hl
def Ds.J (c:Ds):St->Prop:=match c.k with| .lp J::_=>J|_=>λ_=>False
def Ds.isN (c:Ds):Bool:=match c.m with| .out .normal=>true|_=>false
theorem Afk {J:St->Prop} (s':St) (hw:Js B D0 c.s s') (h:J s') (hT:c.J=J:=by kernel_rfl) (hn:c.isN=true:=by kernel_rfl):Go P R B D0 Q c:=by
 obtain⟨m,k,s⟩:=c
 unfold Ds.isN at hn
 split at hn
 rename_i hm
 cases hm
 subst hT
 cases k with
 |nil=>exact h.elim
 |cons i k=>cases i with
  |lp J=>exact⟨⟨s',hw,h⟩⟩
  |_=>exact h.elim
 cases hn
theorem Ob {J:St->Prop} (keep:List Nat) {s':St} (h:J s') (hs:aM keep c.s=s':=by kernel_rfl) (hT:c.J=J:=by kernel_rfl) (hn:c.isN=true:=by kernel_rfl):Go P R B D0 Q c:=Afk _ (Oi keep c.s) (hs▸h) hT hn
abbrev Acs:=List (TypeId×Nat×Nat×(Nat->AV))
def oF:Eg->Acs
 |[]=>[]
 |(_,.vec t e n f)::h=>(t,e,n,f)::oF h
 |(_,.box _ _)::h=>oF h
 |(_,.loop ..)::h=>oF h
def AaE:Acs->Prop
 |[]=>True
 |(_,e,n,f)::l=>(∀i,i<n->∀j,j<e->((f i).cell j).flat=true)/\AaE l
theorem Un:∀{h:Eg} {l:Acs},oF h=l->AaE l->dY h
 |[],_,_,_=>trivial
 |(_,.vec _ _ _ _)::h,_,rfl,hl=>⟨hl.1,Un (h:=h) rfl hl.2⟩
 |(_,.box _ _)::h,_,hv,hl=>Un (h:=h) hv hl
 |(_,.loop ..)::h,_,hv,hl=>Un (h:=h) hv hl
theorem Gk {J:St->Prop} (keep:List Nat) (ρ:List (Nat×Nat)) (nx k0:Nat) (hA0:∀id,D0.A id->id<k0) (L:Acs) (hfl:AaE L) {s':St} (h:J s') (hv:oF c.s.h=L:=by kernel_rfl) (hs:(⟨mapT (Wz ρ) (aM keep c.s).t,Adk ρ c.s.h,nx,c.s.n⟩:St)=s':=by kernel_rfl) (hd:Xl (ρ.map (·.2))=true:=by kernel_rfl) (hd1:Xl (ρ.map (·.1))=true:=by kernel_rfl) (hl:(ρ.all λp=>(Aw c.s.h p.1).isSome&&Nat.blt p.2 nx)=true:=by kernel_rfl) (hk0:(Nat.ble k0 nx&&ρ.all λp=>Nat.beq p.1 p.2||Nat.ble k0 p.2)=true:=by kernel_rfl) (hT:c.J=J:=by kernel_rfl) (hn:c.isN=true:=by kernel_rfl):Go P R B D0 Q c:=
 Afk s' (Js.trans (Oi keep c.s) λE a hs'=>Adl ρ nx k0 hA0 s' hs hd hd1 hl hk0 (Un hv hfl) E a hs') h hT hn
def Ds.frzS (c:Ds) (id:Nat) (ds:List Nat) (V:AV):Ds:=⟨c.m,c.k,⟨ds.map (λd=>(d,V))++c.s.t,Hd c.s.h id,c.s.nx,c.s.n⟩⟩
theorem Yc (id:Nat) (ds:List Nat) (t:TypeId) (e n:Nat) (f:Nat->AV) (hf:∀i,i<n->∀j,j<e->((f i).cell j).flat=true) (hk:Go P R B D0 Q (c.frzS id ds (.sl e n f))) (hd:ds.map (Cp c.s.t)=ds.map λ_=> .osl id e n:=by kernel_rfl) (hc:Aw c.s.h id=some (.vec t e n f):=by kernel_rfl):Go P R B D0 Q c:=
 Iy _ (λE a hs=>lX id ds t e n f hd hc hf E a hs) hk
theorem AbO (id:Nat) (ds:List Nat) (t:TypeId) (e n:Nat) (f:Nat->AV) (hf:∀i,i<n->∀j,j<e->((f i).cell j).flat=true) (hk:Go P R B D0 Q (c.frzS id ds (.slc e n f))) (hd:ds.map (Cp c.s.t)=ds.map λ_=> .osl id e n:=by kernel_rfl) (hc:Aw c.s.h id=some (.vec t e n f):=by kernel_rfl):Go P R B D0 Q c:=
 Iy _ (λE a hs=>iI id ds t e n f hd hc hf E a hs) hk
def Ds.box (c:Ds) (id:Nat):List AV:=match Aw c.s.h id with|some (.box _ cs)=>cs|_=>[]
def Ds.boxT (c:Ds) (id:Nat):TypeId:=match Aw c.s.h id with|some (.box t _)=>t|_=>0
def Ds.frzB (c:Ds) (id:Nat):Ds:=⟨c.m,c.k,⟨mapT (YtldnjomacnjhnaaGreat.frzB id (c.box id)) c.s.t,(Hd c.s.h id).map λp=>(p.1,p.2.mapB (YtldnjomacnjhnaaGreat.frzB id (c.box id))),c.s.nx,c.s.n⟩⟩
theorem cW (id:Nat) (hk:Go P R B D0 Q (c.frzB id)) (hc:Aw c.s.h id=some (.box (c.boxT id) (c.box id)):=by kernel_rfl) (hf:(c.box id).all AV.free=true:=by kernel_rfl):Go P R B D0 Q c:=
 Iy _ (λE a hs=>iG id _ _ _ hc rfl hf E a hs) hk
def Ds.setB (c:Ds) (id:Nat) (b:Ci):Ds:=⟨c.m,c.k,⟨c.s.t,hset c.s.h id b,c.s.nx,c.s.n⟩⟩
theorem Vz (id:Nat) (t:TypeId) (e n:Nat) (f g:Nat->AV) (hfg:∀i,i<n->f i=g i) (hk:Go P R B D0 Q (c.setB id (.vec t e n g))) (hc:Aw c.s.h id=some (.vec t e n f):=by kernel_rfl):Go P R B D0 Q c:=
 Iy _ (λE a hs=>AbM id t e n f g hc hfg E a hs) hk
def Ds.upN (c:Ds) (nx:Nat):Ds:=⟨c.m,c.k,⟨c.s.t,c.s.h,nx,c.s.n⟩⟩
theorem yM (nx:Nat) (hk:Go P R B D0 Q (c.upN nx)) (hn:Nat.ble c.s.nx nx=true:=by kernel_rfl):Go P R B D0 Q c:=
 Iy _ (λE a hs=>Ae5 nx (Nat.le_of_ble_eq_true hn) E a hs) hk
def Hx (P:Program) (s:St):ResultVar->Option AV
 | .tmp t=>bif (Cp s.t t).free then some (Cp s.t t) else none
 | .cell q T=>match Cp s.t q with
  | .ptr id off=>match Aw s.h id with
   |some (.box _ cs)=>match bU P T with
    |some false=>bif Nat.blt off cs.length&&(cs.getD off .top).free then some (cs.getD off .top) else none
    |some true=>match Lg P T with
     |some n=>bif Nat.ble (off+n) cs.length&&(mkAgg ((cs.drop off).take n)).free then some (mkAgg ((cs.drop off).take n)) else none
     |none=>none
    |none=>none
   |_=>none
  |_=>none
theorem Ek {s:St} {rv:ResultVar} {x:AV} (h:Hx P s rv=some x):Pe P B D0 s rv x:=by
 unfold Hx at h
 split at h
 rename_i t
 cases hb:(Cp s.t t).free with
 |false=>rw[hb] at h;cases h
 |true=>rw[hb] at h;cases h;exact Abx rfl hb
 rename_i q T
 split at h
 rename_i id off hq
 split at h
 rename_i t cs hc
 split at h
 rename_i ha
 cases hb:Nat.blt off cs.length&&(cs.getD off .top).free with
 |false=>rw[hb] at h;cases h
 |true=>
  rw[hb] at h;cases h
  have hb2:=Bool.and_eq_true_iff.1 hb
  exact qU id (Hp ha) off cs hq t hc (by simpa [Nat.blt_eq] using hb2.1) rfl hb2.2
 rename_i ha
 split at h
 rename_i n hn
 cases hb:Nat.ble (off+n) cs.length&&(mkAgg ((cs.drop off).take n)).free with
 |false=>rw[hb] at h;cases h
 |true=>
  rw[hb] at h;cases h
  have hb2:=Bool.and_eq_true_iff.1 hb
  exact xN id (Hp ha) n (El hn) off cs hq t hc (Nat.le_of_ble_eq_true hb2.1) rfl hb2.2
 cases h
 cases h
 cases h
 cases h
theorem Aev {s:St} {fn:Func} {r1 r2 r3 r4:ResultVar} {x y z u:AV} (hr:fn.results=#[r1,r2,r3,r4]) (h1:Pe P B D0 s r1 x) (h2:Pe P B D0 s r2 y) (h3:Pe P B D0 s r3 z) (h4:Pe P B D0 s r4 u):Qn P B D0 fn s (mkTup [x,y,z,u]):=λE a hs=>by
 obtain⟨v1,e1,f1⟩:=h1 E a hs
 obtain⟨v2,e2,f2⟩:=h2 E a hs
 obtain⟨v3,e3,f3⟩:=h3 E a hs
 obtain⟨v4,e4,f4⟩:=h4 E a hs
 refine⟨.tuple #[v1,v2,v3,v4],by simp[Jd,hr,e1,e2,e3,e4],VR.tupl [x,y,z,u] _ rfl (λi hi=>?_) _ rfl⟩
 match i with
 |0=>exact f1
 |1=>exact f2
 |2=>exact f3
 |3=>exact f4
def lS (P:Program) (fn:Func) (s:St):Option AV:=match fn.results.toList with
 |[]=>some (.lit (.tuple #[]))
 |[r]=>Hx P s r
 |[r1,r2]=>match Hx P s r1,Hx P s r2 with
  |some x,some y=>some (mkTup [x,y])
  |_,_=>none
 |[r1,r2,r3]=>match Hx P s r1,Hx P s r2,Hx P s r3 with
  |some x,some y,some z=>some (mkTup [x,y,z])
  |_,_,_=>none
 |[r1,r2,r3,r4]=>match Hx P s r1,Hx P s r2,Hx P s r3,Hx P s r4 with
  |some x,some y,some z,some u=>some (mkTup [x,y,z,u])
  |_,_,_,_=>none
 |[r1,r2,r3,r4,r5]=>match Hx P s r1,Hx P s r2,Hx P s r3,Hx P s r4,Hx P s r5 with
  |some x,some y,some z,some u,some t=>some (mkTup [x,y,z,u,t])
  |_,_,_,_,_=>none
 |_=>none
theorem lT {fn:Func} {s:St} {V:AV} (h:lS P fn s=some V):Qn P B D0 fn s V:=by
 have key:∀l,fn.results.toList=l->fn.results=l.toArray:=λl h=>by rw[<-h]
 unfold lS at h
 split at h
 rename_i hr;cases h;exact qS (key _ hr)
 rename_i hr;exact Aes (key _ hr) (Ek h)
 rename_i hr
 split at h
 rename_i h1 h2;cases h;exact Aet (key _ hr) (Ek h1) (Ek h2)
 cases h
 rename_i hr
 split at h
 rename_i h1 h2 h3;cases h;exact Aeu (key _ hr) (Ek h1) (Ek h2) (Ek h3)
 cases h
 rename_i hr
 split at h
 rename_i h1 h2 h3 h4;cases h;exact Aev (key _ hr) (Ek h1) (Ek h2) (Ek h3) (Ek h4)
 cases h
 rename_i hr
 split at h
 rename_i h1 h2 h3 h4 h5;cases h;exact Aew (key _ hr) (Ek h1) (Ek h2) (Ek h3) (Ek h4) (Ek h5)
 cases h
 cases h
def QF (P:Program) (B:Nat) (D0:Bk) (fn:Func) (r:AV):Exit->St->Prop:=λe s=>(e= .ret\/e= .normal)/\Qn P B D0 fn s r
def Ds.isE (c:Ds):Bool:=match c.m,c.k with| .out .normal,[]=>true| .out .ret,[]=>true|_,_=>false
theorem Fa {fn:Func} {r:AV} (V:AV) (h:V=r) (hv:lS P fn c.s=some V:=by kernel_rfl) (hn:c.isE=true:=by kernel_rfl):Go P R B D0 (QF P B D0 fn r) c:=by
 subst h
 have hr:=lT (B:=B) (D0:=D0) hv
 obtain⟨m,k,s⟩:=c
 unfold Ds.isE at hn
 split at hn
 rename_i h1 h2
 cases h1;cases h2
 exact⟨⟨s,Js.refl s,.inr rfl,hr⟩⟩
 rename_i h1 h2
 cases h1;cases h2
 exact⟨⟨s,Js.refl s,.inl rfl,hr⟩⟩
 cases hn
theorem Gc {fn:Func} {r:AV} (hv:lS P fn c.s=some r:=by kernel_rfl) (hn:c.isE=true:=by kernel_rfl):Go P R B D0 (QF P B D0 fn r) c:=Fa r rfl hv hn
theorem Cc {f:FuncId} {fn:Func} {args:List AV} {r:AV} (hf:Tryz.prog.funcs[f]?=some fn) {x:Code} (hc:fn.body=some x:=by rfl) (h:∀B D0,(∀id,D0.A id->id<0)->Go Tryz.prog none B D0 (QF Tryz.prog B D0 fn r) ⟨.code x,[],⟨He args 0,[],0,fn.ntmps⟩⟩) (hle:Nat.ble args.length fn.ntmps=true:=by kernel_rfl):AF Tryz.prog f args r:=
 AeH _ hf hc fn.ntmps rfl hle rfl λB D0 hA=>(h B D0 hA).m
end Go.Proofs.YtldnjomacnjhnaaGreat
namespace Go.Proofs.YtldnjomacnjhnaaGreat
open Go.RowKit
variable {P:Program} {R:Option Nat} {B:Nat} {D0:Bk} {Q:Exit->St->Prop} {c:Ds}
def Ds.unr (c:Ds) (n:Nat):Ds:=⟨.code c.lb,.un n c.lb::c.k,c.s⟩
theorem yT (n:Nat) (h:Go P R B D0 Q (c.unr n)) (hl:c.isL=true:=by kernel_rfl):Go P R B D0 Q c:=by
 obtain⟨m,k,s⟩:=c
 unfold Ds.isL at hl
 split at hl
 rename_i b hm
 cases hm
 exact⟨fI (n+1) h.m⟩
 cases hl
def Ds.back (c:Ds) (r:AV) (h:Eg) (nx:Nat):Ds:=⟨.ops c.a c.l.tail,c.k,⟨Mn c.s.t c.o.dst r,h,nx,c.s.n⟩⟩
def zX (P:Program) (B:Nat) (D1:Bk) (fn:Func) (K:AV->Eg->Nat->Prop):Exit->St->Prop:=Acp P B D1 fn K
theorem AcE {f:FuncId} {fn:Func} {x:Code} {args:List AV} (hf:Tryz.prog.funcs[f]?=some fn) (hc:fn.body=some x)
  (hrun:∀(E:Bk) (a:Act),(∀x,VR E (c.s.ev x) (a.eval x))->∃vs:Array Value,(∀w,(execOp a.eval c.o).run Tryz.prog w= .ok (.enter f vs) w)/\vs.size=args.length/\∀i,i<args.length->VR E (args.getD i .top) (vs.getD i undef))
  (h:∀D1,(∀id,D1.A id->id<c.s.nx)->Go Tryz.prog none B D1 (zX Tryz.prog B D1 fn λr h nx=>Go Tryz.prog R B D0 Q (c.back r h nx)) ⟨.code x,[],⟨He args 0,c.s.h,c.s.nx,fn.ntmps⟩⟩)
  (hle:Nat.ble args.length fn.ntmps=true) (hok:c.ok=true) (hg:c.o.guard=none):Go Tryz.prog R B D0 Q c:=by
 obtain⟨m,k,s⟩:=c
 cases m with
 |code x=>cases hok
 |out e=>cases hok
 |ops a l=>
  cases l with
  |nil=>cases hok
  |cons o l=>
   have hok:(iL a s o==some true&&Mu o s.n)=true:=hok
   exact⟨uW f args fn.ntmps hg (Bool.and_eq_true_iff.1 hok).2 hrun hf hc rfl hle λD1 hD=>fJ (h D1 hD).m λe s ⟨h1,r,h2,h3⟩=>⟨h1,r,h2,h3.m⟩⟩
theorem Yf {f:FuncId} {fn:Func} {x:Code} (nx0:Nat) (hf:Tryz.prog.funcs[f]?=some fn)
  (h:∀D1,(∀id,D1.A id->id<nx0)->Go Tryz.prog none B D1 (zX Tryz.prog B D1 fn λr h nx=>Go Tryz.prog R B D0 Q (c.back r h nx)) ⟨.code x,[],⟨He (c.xs.toList.map c.s.ev) 0,c.s.h,c.s.nx,fn.ntmps⟩⟩)
  (hc:fn.body=some x:=by rfl) (ho:c.o.op= .call { callee:= .value (.func f),args:=c.xs,argTypes:=c.ts }:=by kernel_rfl) (hcall:∀(vs:Array Value) w,(callFunc f vs).run Tryz.prog w= .ok (.enter f vs) w:=by intro _ _;kernel_rfl)
  (hle:Nat.ble (c.xs.toList.map c.s.ev).length fn.ntmps=true:=by kernel_rfl) (hok:c.ok=true:=by kernel_rfl) (hg:c.o.guard=none:=by kernel_rfl) (hnx:c.s.nx=nx0:=by kernel_rfl):Go Tryz.prog R B D0 Q c:=
 AcE hf hc (λE a hv=>Adq f c.xs c.ts ho hcall _ rfl E a hv) (hnx▸h) hle hok hg
def Ds.sx (c:Ds):Code:=match c.m with| .code (.seq x _)=>x|_=> .skip
def Ds.sy (c:Ds):Code:=match c.m with| .code (.seq _ y)=>y|_=> .skip
theorem vjn (mid:St) (h1:Go P R B D0 Q ⟨.code c.sy,c.k,mid⟩) (h2:∀J:St->Prop,J mid->Go P R B D0 Q ⟨.code c.sx,.lp J::c.k,c.s⟩) (hc:(match c.m with| .code (.seq _ _)=>true|_=>false)=true:=by kernel_rfl):Go P R B D0 Q c:=by
 obtain⟨m,k,s⟩:=c
 split at hc
 rename_i x y hm
 cases hm
 exact⟨yZ (h2 (λs=>AC P R B D0 y s (KQ P R B D0 Q k)) h1.m).m⟩
 cases hc
def Uj (P:Program) (s:St):ResultVar->Option AV
 | .tmp t=>some (Cp s.t t)
 | .cell q T=>match Cp s.t q with
  | .ptr id off=>match Aw s.h id with
   |some (.box _ cs)=>match bU P T with
    |some false=>bif Nat.blt off cs.length then some (cs.getD off .top) else none
    |some true=>match Lg P T with
     |some n=>bif Nat.ble (off+n) cs.length then some (mkAgg ((cs.drop off).take n)) else none
     |none=>none
    |none=>none
   |_=>none
  |_=>none
theorem Ti {s:St} {rv:ResultVar} {x:AV} (h:Uj P s rv=some x):Zl P B D0 s rv x:=by
 unfold Uj at h
 split at h
 cases h;exact xM rfl
 rename_i q T
 split at h
 rename_i id off hq
 split at h
 rename_i t cs hc
 split at h
 rename_i ha
 cases hb:Nat.blt off cs.length with
 |false=>rw[hb] at h;cases h
 |true=>rw[hb] at h;cases h;exact nP id (Hp ha) off cs hq t hc (by simpa [Nat.blt_eq] using hb) rfl
 rename_i ha
 split at h
 rename_i n hn
 cases hb:Nat.ble (off+n) cs.length with
 |false=>rw[hb] at h;cases h
 |true=>rw[hb] at h;cases h;exact qT id (Hp ha) n (El hn) off cs hq t hc (Nat.le_of_ble_eq_true hb) rfl
 cases h
 cases h
 cases h
 cases h
def Wl (P:Program) (fn:Func) (s:St):Option AV:=match fn.results.toList with
 |[]=>some (.lit (.tuple #[]))
 |[r]=>Uj P s r
 |[r1,r2]=>match Uj P s r1,Uj P s r2 with
  |some x,some y=>some (mkTup [x,y])
  |_,_=>none
 |_=>none
theorem vR {fn:Func} {s:St} {V:AV} (h:Wl P fn s=some V):Aac P B D0 fn s V:=by
 have key:∀l,fn.results.toList=l->fn.results=l.toArray:=λl h=>by rw[<-h]
 unfold Wl at h
 split at h
 rename_i hr;cases h;exact xL (key _ hr)
 rename_i hr;exact Afa (key _ hr) (Ti h)
 rename_i hr
 split at h
 rename_i h1 h2;cases h;exact Afb (key _ hr) (Ti h1) (Ti h2)
 cases h
 cases h
def Ds.rI (P:Program) (fn:Func) (c:Ds):AV:=(Wl P fn c.s).getD .top
theorem rM {D1:Bk} {fn:Func} {K:AV->Eg->Nat->Prop} (hk:K (c.rI P fn) c.s.h c.s.nx) (hv:(Wl P fn c.s).isSome=true:=by kernel_rfl) (hn:c.isE=true:=by kernel_rfl):Go P R B D1 (zX P B D1 fn K) c:=by
 unfold Ds.rI at hk
 cases he:Wl P fn c.s with
 |none=>rw[he] at hv;cases hv
 |some V=>
  rw[he] at hk
  have hr:=vR (B:=B) (D0:=D1) he
  obtain⟨m,k,s⟩:=c
  unfold Ds.isE at hn
  split at hn
  rename_i h1 h2
  cases h1;cases h2
  exact⟨⟨s,Js.refl s,.inr rfl,V,hr,hk⟩⟩
  rename_i h1 h2
  cases h1;cases h2
  exact⟨⟨s,Js.refl s,.inl rfl,V,hr,hk⟩⟩
  cases hn
def Oper.enX (o:Oper):Operand:=match o.op with| .binOp _ _ x _ _=>x|_=>default
def enB (P:Program) (o:Oper):Bool:=match o.op with
 | .binOp .eql T _ (.const (.slice none 0 0)) _=>match P.underlying T with
  |some (.slice _)=>true
  |_=>false
 |_=>false
theorem AeQ {o:Oper} {ev:Operand->AV} {pre:Nat->Option Ci} (hb:enB P o=true) {e n:Nat} {f:Nat->AV} (hx:ev (Oper.enX o)= .sl e n f) (h0:0<n):Fg P B D0 o ev pre (.bool false) .none:=by
 unfold enB at hb
 split at hb
 rename_i T x t' ho
 have ex:Oper.enX o=x:=by unfold Oper.enX;rw[ho]
 rw[ex] at hx
 split at hb
 rename_i el hu
 exact wY T t' x ho hu e n f hx h0
 cases hb
 cases hb
theorem Aed {o:Oper} {ev:Operand->AV} {pre:Nat->Option Ci} (hb:enB P o=true) (hx:ev (Oper.enX o)= .lit (.slice none 0 0)):Fg P B D0 o ev pre (.bool true) .none:=by
 unfold enB at hb
 split at hb
 rename_i T x t' ho
 have ex:Oper.enX o=x:=by unfold Oper.enX;rw[ho]
 rw[ex] at hx
 split at hb
 rename_i el hu
 exact qJ T t' x ho hu hx
 cases hb
 cases hb
def slE:AV->Nat| .sl e _ _=>e|_=>0
def slF:AV->Nat->AV| .sl _ _ f=>f|_=>λ_=> .top
theorem fF (n:Nat) (hk:Go P R B D0 Q (c.put (.bool false) .none)) (h0:0<n:=by omega) (hb:enB P c.o=true:=by kernel_rfl) (hx:c.s.ev (Oper.enX c.o)= .sl (slE (c.s.ev (Oper.enX c.o))) n (slF (c.s.ev (Oper.enX c.o))):=by kernel_rfl) (hok:c.ok=true:=by kernel_rfl):Go P R B D0 Q c:=Uq _ .none (AeQ hb hx h0) hk hok rfl
theorem oH (hk:Go P R B D0 Q (c.put (.bool true) .none)) (hb:enB P c.o=true:=by kernel_rfl) (hx:c.s.ev (Oper.enX c.o)= .lit (.slice none 0 0):=by kernel_rfl) (hok:c.ok=true:=by kernel_rfl):Go P R B D0 Q c:=Uq _ .none (Aed hb hx) hk hok rfl
def Oper.cxs (o:Oper):Array Operand:=match o.op with| .call cl=>cl.args|_=>#[]
def Oper.cts (o:Oper):Array TypeId:=match o.op with| .call cl=>cl.argTypes|_=>#[]
def Oper.cfx (o:Oper):Operand:=match o.op with| .call cl=>(match cl.callee with| .value x=>x|_=>default)|_=>default
def Aaw:AV->List AV| .fn _ l=>l|_=>[]
theorem Fx {o:Oper} {ev:Operand->AV} {pre:Nat->Option Ci} {f:FuncId} {args:List AV} {r:AV} (hf:AF P f args r) (ho:o.op= .call { callee:= .value (.func f),args:=Oper.cxs o,argTypes:=Oper.cts o }:=by kernel_rfl) (hargs:(Oper.cxs o).toList.map ev=args:=by kernel_rfl) (hfree:args.all AV.free=true:=by kernel_rfl) (hcall:∀(vs:Array Value) w,(callFunc f vs).run P w= .ok (.enter f vs) w:=by intro _ _;kernel_rfl):Fg P B D0 o ev pre r .none:=mZ f _ _ ho hcall args hargs hfree r hf
theorem Ac3 {o:Oper} {ev:Operand->AV} {pre:Nat->Option Ci} {f:FuncId} {args:List AV} {r:AV} (hf:AF P f args r) (ho:o.op= .call { callee:= .value (Oper.cfx o),args:=Oper.cxs o,argTypes:=Oper.cts o }:=by kernel_rfl) (hx:ev (Oper.cfx o)= .fn f (Aaw (ev (Oper.cfx o))):=by kernel_rfl) (hargs:(Oper.cxs o).toList.map ev++Aaw (ev (Oper.cfx o))=args:=by kernel_rfl) (hfree:args.all AV.free=true:=by kernel_rfl) (hcall:∀(vs:Array Value) w,(callFunc f vs).run P w= .ok (.enter f vs) w:=by intro _ _;kernel_rfl):Fg P B D0 o ev pre r .none:=eR _ f _ _ ho _ hx hcall args hargs hfree r hf
theorem jX {o:Oper} {ev:Operand->AV} {pre:Nat->Option Ci} {b v:Bool} (hb:b=v) (h:evG P o ev pre 0=some (.bool b,.none):=by kernel_rfl):Fg P B D0 o ev pre (.bool v) .none:=hb▸pP h
theorem kbC {o:Oper} {ev:Operand->AV} {pre:Nat->Option Ci} {b v:Bool} (hb:b=v) (h:Fg P B D0 o ev pre (.bool b) .none):Fg P B D0 o ev pre (.bool v) .none:=hb▸h
theorem Gp {e n:Nat} {f:Nat->AV} (h:∀i,i<n->((List.range e).all λj=>((f i).cell j).flat)=true):∀i,i<n->∀j,j<e->((f i).cell j).flat=true:=λi hi j hj=>List.all_eq_true.1 (h i hi) j (List.mem_range.2 hj)
theorem yK {keep:List Nat} (n:Nat) (st:Nat->St) (h:∀i,i<n->∀J:St->Prop,J (st (i+1))->Go P R B D0 Q (c.round J (st i))) (hl:Go P R B D0 Q (c.round (λ_=>False) (st n))) (hs:aM keep c.s=st 0:=by kernel_rfl) (hL:c.isL=true:=by kernel_rfl):Go P R B D0 Q c:=by
 refine Iy _ (Oi keep c.s) ?_
 rw[hs]
 obtain⟨md,k,s⟩:=c
 unfold Ds.isL at hL
 split at hL
 rename_i b hm
 cases hm
 exact⟨jZ st n rfl (λi hi K hK=>(h i hi K hK).m) hl.m⟩
 cases hL
def QM (P:Program) (B:Nat) (D0:Bk) (fn:Func) (r:Value) (t:TypeId) (us:List Value):Exit->St->Prop:=λe s=>(e= .ret\/e= .normal)/\Qn P B D0 fn s (.lit r)/\Aw s.h 0=some (.box t (us.map .lit))
theorem Ae6 {fn:Func} {r:Value} {t:TypeId} {us:List Value} (V:AV) (h:V= .lit r) (hv:lS P fn c.s=some V:=by kernel_rfl) (hb:Aw c.s.h 0=some (.box t (us.map .lit)):=by kernel_rfl) (hn:c.isE=true:=by kernel_rfl):Go P R B D0 (QM P B D0 fn r t us) c:=by
 subst h
 have hr:=lT (B:=B) (D0:=D0) hv
 obtain⟨m,k,s⟩:=c
 unfold Ds.isE at hn
 split at hn
 rename_i h1 h2
 cases h1;cases h2
 exact⟨⟨s,Js.refl s,.inr rfl,hr,hb⟩⟩
 rename_i h1 h2
 cases h1;cases h2
 exact⟨⟨s,Js.refl s,.inl rfl,hr,hb⟩⟩
 cases hn
theorem pU {f:FuncId} {fn:Func} {t:TypeId} {us:List Value} {args:List AV} {r:Value} (hf:Tryz.prog.funcs[f]?=some fn) {x:Code} (hc:fn.body=some x:=by rfl) (h:∀B D0,(∀id,D0.A id->id<1)->Go Tryz.prog none B D0 (QM Tryz.prog B D0 fn r t us) ⟨.code x,[],⟨He (.ptr 0 0::args) 0,[(0,.box t (us.map .lit))],1,fn.ntmps⟩⟩) (hle:Nat.ble (args.length+1) fn.ntmps=true:=by kernel_rfl):AFM Tryz.prog f t us args r:=
 AdN _ hf hc fn.ntmps rfl hle rfl λB D0 hA=>(h B D0 hA).m
def Ds.frzC (c:Ds) (id b off:Nat) (V:AV):Ds:=⟨c.m,c.k,⟨c.s.t,hset (Hd c.s.h id) b (.box (c.boxT b) ((c.box b).set off V)),c.s.nx,c.s.n⟩⟩
theorem rL (id b off:Nat) (t:TypeId) (e n:Nat) (f:Nat->AV) (hf:∀i,i<n->∀j,j<e->((f i).cell j).flat=true) (hk:Go P R B D0 Q (c.frzC id b off (.sl e n f))) (hb:Aw c.s.h b=some (.box (c.boxT b) (c.box b)):=by kernel_rfl) (ho:(c.box b).getD off .top= .osl id e n:=by kernel_rfl) (hne:Nat.beq id b=false:=by kernel_rfl) (hc:Aw c.s.h id=some (.vec t e n f):=by kernel_rfl):Go P R B D0 Q c:=
 Iy _ (λE a hs=>lW id b off t e n f (c.boxT b) (c.box b) _ hb ho rfl hne hc hf E a hs) hk
theorem AbN (id b off:Nat) (t:TypeId) (e n:Nat) (f:Nat->AV) (hf:∀i,i<n->∀j,j<e->((f i).cell j).flat=true) (hk:Go P R B D0 Q (c.frzC id b off (.slc e n f))) (hb:Aw c.s.h b=some (.box (c.boxT b) (c.box b)):=by kernel_rfl) (ho:(c.box b).getD off .top= .osl id e n:=by kernel_rfl) (hne:Nat.beq id b=false:=by kernel_rfl) (hc:Aw c.s.h id=some (.vec t e n f):=by kernel_rfl):Go P R B D0 Q c:=
 Iy _ (λE a hs=>iH id b off t e n f (c.boxT b) (c.box b) _ hb ho rfl hne hc hf E a hs) hk
def Afd:AV->Nat| .slc e _ _=>e|_=>0
def Aff:AV->Nat| .slc _ n _=>n|_=>0
def Afe:AV->Nat->AV| .slc _ _ f=>f|_=>λ_=> .top
def Ds.wkS (c:Ds) (d:Nat):Ds:=⟨c.m,c.k,⟨(d,(Cp c.s.t d).wk)::c.s.t,c.s.h,c.s.nx,c.s.n⟩⟩
theorem vwk (d:Nat) (hk:Go P R B D0 Q (c.wkS d)) (hd:Cp c.s.t d= .slc (Afd (Cp c.s.t d)) (Aff (Cp c.s.t d)) (Afe (Cp c.s.t d)):=by kernel_rfl):Go P R B D0 Q c:=
 Iy _ (λE a hs=>AbP d _ _ _ hd E a hs) (by
  have e:(Cp c.s.t d).wk= .sl (Afd (Cp c.s.t d)) (Aff (Cp c.s.t d)) (Afe (Cp c.s.t d)):=by rw[hd];rfl
  unfold Ds.wkS at hk
  rw[e] at hk
  exact hk)
end Go.Proofs.YtldnjomacnjhnaaGreat
namespace Go.Proofs.YtldnjomacnjhnaaGreat
open Go.RowKit
variable {R:Option Nat} {B:Nat} {D0:Bk} {Q:Exit->St->Prop} {c:Ds}
def Ds.rg (c:Ds):Operand:=match c.m with| .code (.rangeFunc g _ _ _)=>g|_=>default
def Ds.rp (c:Ds):Array Tmp:=match c.m with| .code (.rangeFunc _ p _ _)=>p|_=>#[]
def Ds.ra (c:Ds):Code:=match c.m with| .code (.rangeFunc _ _ a _)=>a|_=> .skip
def Ds.rb (c:Ds):Code:=match c.m with| .code (.rangeFunc _ _ _ b)=>b|_=> .skip
def Ds.isR (c:Ds):Bool:=match c.m with| .code (.rangeFunc ..)=>true|_=>false
def Ds.rc (c:Ds):List AV:=Aaw (c.s.ev c.rg)
def Ds.lt (c:Ds) (l:Nat):Gm:=match Aw c.s.h l with|some (.loop _ _ _ t _)=>t|_=>[]
def Ds.ln (c:Ds) (l:Nat):Nat:=match Aw c.s.h l with|some (.loop _ _ _ _ n)=>n|_=>0
def Ds.lst (c:Ds) (l:Nat):LoopState:=match Aw c.s.h l with|some (.loop s _ _ _ _)=>s|_=> .busy
def Ds.lpe (c:Ds) (l:Nat):Option Code:=match Aw c.s.h l with|some (.loop _ p _ _ _)=>p|_=>none
def QG (B:Nat) (D0 D1:Bk) (fn:Func) (Q:Exit->St->Prop) (c0:Ds) (sp:Li):Exit->St->Prop:=AdD Tryz.prog B D0 D1 fn c0.s (λe s=>∃s',Js B D0 s s'/\KQ Tryz.prog none B D0 Q c0.k e s') sp
theorem vrg {f:FuncId} {fn:Func} {x:Code} (nx0:Nat) (hf:Tryz.prog.funcs[f]?=some fn)
  (h:∀sp:Li,sp.params=c.rp->sp.assign=c.ra->sp.body=c.rb->∀D1,(∀id,D1.A id->id<nx0+1)->Go Tryz.prog none B D1 (QG B D0 D1 fn Q c sp) ⟨.code x,[],⟨He (.yld c.s.nx::c.rc) 0,hset c.s.h c.s.nx (.loop .ready none sp c.s.t c.s.n),c.s.nx+1,fn.ntmps⟩⟩)
  (hc:fn.body=some x:=by rfl) (hg:c.s.ev c.rg= .fn f c.rc:=by kernel_rfl) (hcall:∀(vs:Array Value) w,(callFunc f vs).run Tryz.prog w= .ok (.enter f vs) w:=by intro _ _;kernel_rfl) (hle:Nat.ble (c.rc.length+1) fn.ntmps=true:=by kernel_rfl) (hR:c.isR=true:=by kernel_rfl) (hnx:c.s.nx=nx0:=by kernel_rfl):Go Tryz.prog none B D0 Q c:=by
 obtain⟨m,k,s⟩:=c
 unfold Ds.isR at hR
 split at hR
 rename_i g ps asg bd hm
 cases hm
 exact⟨rR (yX f _ fn.ntmps hg hcall hf hc rfl hle λsp h1 h2 h3 D1 hD=>(h sp h1 h2 h3 D1 (hnx▸hD)).m)⟩
 cases hR
theorem vnm {P:Program} (keep:List Nat) (h:Go P R B D0 Q ⟨c.m,c.k,aM keep c.s⟩):Go P R B D0 Q c:=Iy _ (Oi keep c.s) h
def Ds.af (c0 c:Ds):Ds:=⟨match c.lpe c0.s.nx with|some x=> .code x|none=> .out .normal,c0.k,⟨c0.s.t,Hd c.s.h c0.s.nx,c.s.nx,c0.s.n⟩⟩
def AcT:LoopState->Bool| .busy=>false|_=>true
theorem vrl {c0:Ds} {D1:Bk} {fn:Func} {sp:Li} (h:Go Tryz.prog none B D0 Q (c0.af c)) (hl:Aw c.s.h c0.s.nx=some (.loop (c.lst c0.s.nx) (c.lpe c0.s.nx) sp (c.lt c0.s.nx) (c.ln c0.s.nx)):=by kernel_rfl) (hb:AcT (c.lst c0.s.nx)=true:=by kernel_rfl) (hv:(Wl Tryz.prog fn c.s).isSome=true:=by kernel_rfl) (hn:c.isE=true:=by kernel_rfl):Go Tryz.prog none B D1 (QG B D0 D1 fn Q c0 sp) c:=by
 refine rM (K:=λ_ h' nx'=>∃st pe t' n',Aw h' c0.s.nx=some (.loop st pe sp t' n')/\st≠.busy/\match pe with
  |none=>∃s',Js B D0 ⟨c0.s.t,Hd h' c0.s.nx,nx',c0.s.n⟩ s'/\KQ Tryz.prog none B D0 Q c0.k .normal s'
  |some x=>AC Tryz.prog none B D0 x ⟨c0.s.t,Hd h' c0.s.nx,nx',c0.s.n⟩ (λe s=>∃s',Js B D0 s s'/\KQ Tryz.prog none B D0 Q c0.k e s')) ⟨_,_,_,_,hl,(λe=>by rw[e] at hb;cases hb),?_⟩ hv hn
 unfold Ds.af at h
 generalize c.lpe c0.s.nx=pe at h
 cases pe with
 |none=>exact h.m
 |some x=>exact fJ h.m λe s hq=>⟨s,Js.refl s,hq⟩
def Ds.yl (c:Ds):Nat:=match c.s.ev c.fx with| .yld l=>l|_=>0
def QR (R:Option Nat) (B:Nat) (D0:Bk) (Q:Exit->St->Prop) (c0:Ds) (sp:Li):Exit->St->Prop:=Zg Tryz.prog R B D0 c0.a c0.l.tail c0.o c0.s (KQ Tryz.prog R B D0 Q c0.k) c0.yl sp (c0.ln c0.yl)
def QY (l0 B:Nat) (D1:Bk) (bd:Code) (l:Nat) (sp:Li) (n:Nat) (QA:Exit->St->Prop):Exit->St->Prop:=vH (λs1=>∃t1,Aw s1.h l=some (.loop .ready none sp t1 n)/\AC Tryz.prog (some l0) B D1 bd ⟨s1.t,hset s1.h l (.loop .busy none sp t1 n),s1.nx,s1.n⟩ QA) λ_ _=>False
theorem vyl {sp:Li} {ps:Array Tmp} {asg bd:Code} (nx0:Nat) (hps:sp.params=ps) (has:sp.assign=asg) (hbd:sp.body=bd)
  (h:∀l0 D1,(∀id,D1.A id->id<nx0)->Go Tryz.prog (some l0) B D1 (QY l0 B D1 bd c.yl sp (c.ln c.yl) (QR R B D0 Q c sp)) ⟨.code asg,[],⟨oQ ps.toList (c.xs.toList.map c.s.ev) (c.lt c.yl),c.s.h,c.s.nx,c.ln c.yl⟩⟩)
  (ho:c.o.op= .call { callee:= .value c.fx,args:=c.xs,argTypes:=c.ts }:=by kernel_rfl) (hx:c.s.ev c.fx= .yld c.yl:=by kernel_rfl) (hl:Aw c.s.h c.yl=some (.loop .ready none sp (c.lt c.yl) (c.ln c.yl)):=by kernel_rfl) (hpb:psB ps (c.xs.toList.map c.s.ev).length (c.ln c.yl)=true:=by kernel_rfl) (hok:c.ok=true:=by kernel_rfl) (hg:c.o.guard=none:=by kernel_rfl) (hnx:c.s.nx=nx0:=by kernel_rfl):Go Tryz.prog R B D0 Q c:=by
 obtain⟨m,k,s⟩:=c
 cases m with
 |code x=>cases hok
 |out e=>cases hok
 |ops a l=>
  cases l with
  |nil=>cases hok
  |cons o l=>
   have hok:(iL a s o==some true&&Mu o s.n)=true:=hok
   exact⟨zT _ _ _ _ _ _ _ hps has hbd hg (Bool.and_eq_true_iff.1 hok).2 ho hx hl rfl hpb _ rfl λl0 D1 hD=>(h l0 D1 (hnx▸hD)).m⟩
def Ds.isNil (c:Ds):Bool:=match c.k with|[]=>true|_=>false
theorem vrb {l0:Nat} {D1:Bk} {bd:Code} {l:Nat} {sp:Li} {n:Nat} {QA:Exit->St->Prop} (h:Go Tryz.prog (some l0) B D1 QA ⟨.code bd,[],⟨c.s.t,hset c.s.h l (.loop .busy none sp (c.lt l) n),c.s.nx,c.s.n⟩⟩) (hl:Aw c.s.h l=some (.loop .ready none sp (c.lt l) n):=by kernel_rfl) (hn:c.isN=true:=by kernel_rfl) (hk:c.isNil=true:=by kernel_rfl):Go Tryz.prog (some l0) B D1 (QY l0 B D1 bd l sp n QA) c:=by
 obtain⟨m,k,s⟩:=c
 unfold Ds.isN at hn
 split at hn
 rename_i hm
 cases hm
 cases k with
 |nil=>exact⟨⟨s,Js.refl s,_,hl,h.m⟩⟩
 |cons i k=>cases hk
 cases hn
def Ds.e (c:Ds):Exit:=match c.m with| .out e=>e|_=> .normal
def rdB:Exit->Bool| .normal=>true|_=>false
def rdS:Exit->LoopState| .normal=> .ready|_=> .done
def rdC:Exit->Option Code| .ret=>some .ret| .exit id=>some (.exit id)|_=>none
def Ds.isX (c:Ds):Bool:=match c.m with| .out .normal=>true| .out .ret=>true| .out (.exit _)=>true|_=>false
theorem vre {R1:Option Nat} {D1:Bk} {c0:Ds} {sp:Li} (h:Go Tryz.prog R B D0 Q ⟨.ops c0.a c0.l.tail,c0.k,⟨Mn c0.s.t c0.o.dst (.bool (rdB c.e)),hset c.s.h c0.yl (.loop (rdS c.e) (rdC c.e) sp (c.lt c0.yl) (c0.ln c0.yl)),c.s.nx,c0.s.n⟩⟩) (hl:Aw c.s.h c0.yl=some (.loop .busy none sp (c.lt c0.yl) (c0.ln c0.yl)):=by kernel_rfl) (hX:c.isX=true:=by kernel_rfl) (hk:c.isNil=true:=by kernel_rfl):Go Tryz.prog R1 B D1 (QR R B D0 Q c0 sp) c:=by
 obtain⟨m,k,s⟩:=c
 cases k with
 |cons i k=>cases hk
 |nil=>
  unfold Ds.isX at hX
  split at hX
  rename_i hm;cases hm;exact⟨⟨s,Js.refl s,_,hl,h.m⟩⟩
  rename_i hm;cases hm;exact⟨⟨s,Js.refl s,_,hl,h.m⟩⟩
  rename_i hm;cases hm;exact⟨⟨s,Js.refl s,_,hl,h.m⟩⟩
  cases hX
end Go.Proofs.YtldnjomacnjhnaaGreat
namespace Go.Proofs.YtldnjomacnjhnaaGreat
open Go.Proofs.Tryz
open Go.RowKit
abbrev wB (z:Int):Ci:= .box 70 [.bool (decide (z<0)),.lit (.string (Dw z.natAbs))]
abbrev WA (z:Int):AV:= .lit (Ak z)
theorem Ja {P:Program} {f:FuncId} {vs:List Value} {v:Value} (h:∀w,Calls P f vs.toArray w λe w'=>e= .returned v/\Below w.heap.size w w'):AF P f (vs.map .lit) (.lit v):=by
 intro E us hD hn hv
 have:us=vs.toArray:=VR.lits (E:=E.fz) (by simpa using hn) (VR.tops hv)
 subst this
 refine(h E.w).mono ?_
 rintro e w' ⟨rfl,hb⟩
 exact⟨v,E.D,rfl,.lit _ _,hb,λ_ h=>h,λ_ h=> .inl h,λb hb'=>Nat.lt_of_lt_of_le (hD b hb') hb.size⟩
theorem Gl (n:Int) (h0: -9223372036854775808<=n) (h1:n<=9223372036854775807):AF Tryz.prog 95 [.int n] (WA n):=Ja (vs:=[_]) λw=>Ks n w h0 h1
theorem fU (x y:Int) (hx:Ff x) (hy:Ff y) (hz:Ff (x+y)):AF Tryz.prog 70 [WA x,WA y] (WA (x+y)):=Ja (vs:=[_,_]) λw=>nU x y w hx hy hz
theorem Ju (x y:Int) (hx:Ff x) (hy:Ff y) (hz:Ff (x*y)):AF Tryz.prog 94 [WA x,WA y] (WA (x*y)):=Ja (vs:=[_,_]) λw=>Vs x y w hx hy hz
theorem Gf (n:Int) (k:Nat) (h0: -9223372036854775808<=n) (h1:n<=9223372036854775807) (hk:k<=1000) (hf:∀j,j<=k->Ff (n^j)):AF Tryz.prog 96 [.int n,.int (k:Int)] (WA (n^k)):=Ja (vs:=[_,_]) λw=>xH n k w h0 h1 hk hf
abbrev Bf (l:List Int):AV:= .sl 1 l.length λi=> .int (l.getD i 0)
abbrev Cn (s:Sg):AV:= .agg [.int s.f,.int s.t,.int s.o,Bf s.x,Bf s.y,Bf s.z]
theorem rT (s:Sg):AF Tryz.prog 97 [Cn s] (.agg [Bf s.x,Bf s.y,Bf s.z]):=by
 refine Cc func97 rfl λB D0 hA0=>?_
 exact Ae 19 (Gc)
theorem Rw (x y:Int) (hx:Ff x) (hy:Ff y):AF Tryz.prog 98 [WA x,WA y] (WA (Nat.gcd x.natAbs y.natAbs:Int)):=Ja (vs:=[_,_]) λw=>nV x y w hx hy
theorem Jv (x y:Int) (hx:Ff x) (hy:Ff y) (h0:y≠0):AF Tryz.prog 69 [WA x,WA y] (WA (x/y)):=Ja (vs:=[_,_]) λw=>Ab7 x y w hx hy h0
theorem Hq {x:Int} (h:Co x):Ff x:=Iz h.1 h.2
theorem Ei {x:Int} (h:Co x) {k:Nat} (hk:k<=6):Ff (x^k):=((Bd.int h.1 h.2).pow k).fit ω
abbrev jD (p:PL):AV:= .lit (.agg #[.bool (decide (p.x<0)),.string (Dw p.x.natAbs),.bool (decide (p.y<0)),.string (Dw p.y.natAbs),.bool (decide (p.z<0)),.string (Dw p.z.natAbs),.bool (decide (p.o<0)),.string (Dw p.o.natAbs)])
theorem Wv {s:Sg} {d:Int} (hs:Tf s) (hd:Co d):Bd 378 (eW s d):=((Bd.int hs.o.1 hs.o.2).mul ((Bd.int hd.1 hd.2).pow 5)).mono ω
theorem zO (s:Sg) (a d:Int) (hs:Tf s) (hx:s.x.length<=6) (hy:s.y.length<=6) (hz:s.z.length<=6) (ha:Co a) (hd:Co d) (hg:plG s a d≠0):AF Tryz.prog 67 [Cn s,.int a,.int d] (jD (Ia s a d)):=by
 have bX:∀k,k<=6->Bd 390 (aZ s.x a d k):=λk hk=>(jC hs.x ha hd k hk).mono ω
 have bY:∀k,k<=6->Bd 390 (aZ s.y a d k):=λk hk=>(jC hs.y ha hd k hk).mono ω
 have bZ:∀k,k<=6->Bd 390 (aZ s.z a d k):=λk hk=>(jC hs.z ha hd k hk).mono ω
 have bO:Bd 390 (eW s d):=(Wv hs hd).mono ω
 have bXX:Bd 390 (xG s a d):=bX _ hx
 have bYY:Bd 390 (plY s a d):=bY _ hy
 have bZZ:Bd 390 (plZ s a d):=bZ _ hz
 have bG1:=bO.gcd bXX
 have bG2:=bG1.gcd bYY
 have bG3:=bG2.gcd bZZ
 have pw:∀{x:Int},Co x->∀k,k<=6->∀j,j<=k->Ff (x^j):=λh k hk j hj=>Ei h ω
 refine Cc func67 rfl λB D0 hA0=>?_
 refine Ae 15 (Ct (Gl _ hs.o.1 hs.o.2) (Ae 1 (Ct (Gf d 5 hd.1 hd.2 ω (pw hd 5 ω)) (Ct (Ju _ _ (Hq hs.o) (Ei hd ω) (bO.fit ω)) (Ae 15 (Ct (rT s) (Ae 4 (yT 3 (Ae 14 (Cb (Bf s.x) .none (Dk 147 (.tmp 22) (.tmp 23) κ underlying147 1 sizeOf23 0 false isAgg23 [Bf s.x,Bf s.y,Bf s.z] 0 κ κ ω δ β δ (Bf s.x) κ) (Ae 13 (yK (keep:=[1,2,6,7,8,9,10,22,23,27,28,29]) s.x.length (λk=>⟨[(1,.int a),(2,.int d),(6,.ptr 1 0),(7,.ptr 2 0),(8,.ptr 3 0),(9,.ptr 4 0),(10,.int 0),(22,.agg [Bf s.x,Bf s.y,Bf s.z]),(23,.int 0),(27,Bf s.x),(28,.int (s.x.length:Int)),(29,.int (k:Int))],[(0,.box 81 [.int s.f,.int s.t,.int s.o,Bf s.x,Bf s.y,Bf s.z]),(1,.box 72 [.bool false,.lit (.string ⟨#[]⟩),.bool false,.lit (.string ⟨#[]⟩),.bool false,.lit (.string ⟨#[]⟩),.bool false,.lit (.string ⟨#[]⟩)]),(2,.box 122 [.bool (decide (aZ s.x a d k<0)),.lit (.string (Dw (aZ s.x a d k).natAbs)),.bool false,.lit (.string ⟨#[]⟩),.bool false,.lit (.string ⟨#[]⟩)]),(3,.box 70 [.bool (decide (eW s d<0)),.lit (.string (Dw (eW s d).natAbs))]),(4,.box 70 [.bool (decide (eW s d<0)),.lit (.string (Dw (eW s d).natAbs))])],5,74⟩) (λk hk J1 hJ1=>?_) ?_))))))))))))
 ·
  exact Ae 3 (Ic 30 (decide ((k:Int)<(s.x.length:Int))) true (decide_eq_true ω) (Ae 11 (Ga k s.x.length (Ae 5 (Jf [(2,.ptr 2 0,.none),(5,_,.none),(8,_,.none),(11,.int ((5-k:Nat):Int),.none),(12,_,.none),(13,_,.none),(14,_,.none),(15,_,.none),(16,.ptr 2 0,.none)] [1,2,6,7,8,9,10,22,23,27,28,29] ⟨Bc (Bu 122 (.tmp 7) (.tmp 35) κ underlying122 2 0 2 0 0 κ κ sizeOf70 δ ω δ),Fx (Gl _ (hs.x k).1 (hs.x k).2),Fx (Gf a k ha.1 ha.2 ω (pw ha _ ω)),Bc (Ca (v:= .int .i64 (IntKind.wrap .i64 ((5:Int)-(k:Int)))) (v':= .int .i64 ((5-k:Nat):Int)) _ κ rfl κ (λw=>by kernel_rfl) (congrArg (Value.int .i64) ((IntWalk.i64_in _ ω).trans ω))),Fx (Gf d (5-k) hd.1 hd.2 ω (pw hd _ ω)),Fx (Ju _ _ (Ei ha ω) (Ei hd ω) ((((Bd.int ha.1 ha.2).pow k).mul ((Bd.int hd.1 hd.2).pow (5-k))).fit ω)),Fx (Ju _ _ (Hq (hs.x k)) ((((Bd.int ha.1 ha.2).pow k).mul ((Bd.int hd.1 hd.2).pow (5-k))).fit ω) ((Pw (hs.x k) ha hd ω).fit ω)),Fx (fU (aZ s.x a d k) _ ((bX k ω).fit ω) ((Pw (hs.x k) ha hd ω).fit ω) ((bX (k+1) ω).fit ω)),Bc (Bu 122 (.tmp 7) (.tmp 34) κ underlying122 2 0 2 0 0 κ κ sizeOf70 δ ω δ),trivial⟩ (Ae 3 (Ev ((k:Int)+1) ((k+1:Nat):Int) (Ae 2 (Ob [1,2,6,7,8,9,10,22,23,27,28,29] hJ1)))))))))
 ·
  refine Ae 3 (Ic 30 (decide ((s.x.length:Int)<(s.x.length:Int))) false (decide_eq_false ω) (Ae 9 (Jf [(2,.ptr 2 0,.none),(4,_,.none)] [1,2,6,7,8,9,22,23] ⟨Bc (Bu 122 (.tmp 7) (.tmp 53) κ underlying122 2 0 2 0 0 κ κ sizeOf70 δ ω δ),Fx (Rw _ _ (bO.fit ω) (bXX.fit ω)),trivial⟩ (Ae 3 (Mt (.int .i64 1) (.int .i64 1) (Ae 17 (Cb (Bf s.y) .none (Dk 147 (.tmp 22) (.tmp 23) κ underlying147 1 sizeOf23 1 false isAgg23 [Bf s.x,Bf s.y,Bf s.z] 1 κ κ ω δ β δ (Bf s.y) κ) (Ae 13 (yK (keep:=[1,2,6,7,8,9,10,22,23,27,28,29]) s.y.length (λk=>⟨[(1,.int a),(2,.int d),(6,.ptr 1 0),(7,.ptr 2 0),(8,.ptr 3 0),(9,.ptr 4 0),(10,.int 1),(22,.agg [Bf s.x,Bf s.y,Bf s.z]),(23,.int 1),(27,Bf s.y),(28,.int (s.y.length:Int)),(29,.int (k:Int))],[(0,.box 81 [.int s.f,.int s.t,.int s.o,Bf s.x,Bf s.y,Bf s.z]),(1,.box 72 [.bool false,.lit (.string ⟨#[]⟩),.bool false,.lit (.string ⟨#[]⟩),.bool false,.lit (.string ⟨#[]⟩),.bool false,.lit (.string ⟨#[]⟩)]),(2,.box 122 [.bool (decide (xG s a d<0)),.lit (.string (Dw (xG s a d).natAbs)),.bool (decide (aZ s.y a d k<0)),.lit (.string (Dw (aZ s.y a d k).natAbs)),.bool false,.lit (.string ⟨#[]⟩)]),(3,.box 70 [.bool (decide (eW s d<0)),.lit (.string (Dw (eW s d).natAbs))]),(4,.box 70 [.bool (decide ((Nat.gcd (eW s d).natAbs (xG s a d).natAbs:Int)<0)),.lit (.string (Dw (Nat.gcd (eW s d).natAbs (xG s a d).natAbs:Int).natAbs))])],5,74⟩) (λk hk J2 hJ2=>?_) ?_)))))))))
  ·
   exact Ae 3 (Ic 30 (decide ((k:Int)<(s.y.length:Int))) true (decide_eq_true ω) (Ae 11 (Ga k s.y.length (Ae 5 (Jf [(2,.ptr 2 2,.none),(5,_,.none),(8,_,.none),(11,.int ((5-k:Nat):Int),.none),(12,_,.none),(13,_,.none),(14,_,.none),(15,_,.none),(16,.ptr 2 2,.none)] [1,2,6,7,8,9,10,22,23,27,28,29] ⟨Bc (Bu 122 (.tmp 7) (.tmp 35) κ underlying122 2 0 2 1 1 κ κ sizeOf70 δ ω δ),Fx (Gl _ (hs.y k).1 (hs.y k).2),Fx (Gf a k ha.1 ha.2 ω (pw ha _ ω)),Bc (Ca (v:= .int .i64 (IntKind.wrap .i64 ((5:Int)-(k:Int)))) (v':= .int .i64 ((5-k:Nat):Int)) _ κ rfl κ (λw=>by kernel_rfl) (congrArg (Value.int .i64) ((IntWalk.i64_in _ ω).trans ω))),Fx (Gf d (5-k) hd.1 hd.2 ω (pw hd _ ω)),Fx (Ju _ _ (Ei ha ω) (Ei hd ω) ((((Bd.int ha.1 ha.2).pow k).mul ((Bd.int hd.1 hd.2).pow (5-k))).fit ω)),Fx (Ju _ _ (Hq (hs.y k)) ((((Bd.int ha.1 ha.2).pow k).mul ((Bd.int hd.1 hd.2).pow (5-k))).fit ω) ((Pw (hs.y k) ha hd ω).fit ω)),Fx (fU (aZ s.y a d k) _ ((bY k ω).fit ω) ((Pw (hs.y k) ha hd ω).fit ω) ((bY (k+1) ω).fit ω)),Bc (Bu 122 (.tmp 7) (.tmp 34) κ underlying122 2 0 2 1 1 κ κ sizeOf70 δ ω δ),trivial⟩ (Ae 3 (Ev ((k:Int)+1) ((k+1:Nat):Int) (Ae 2 (Ob [1,2,6,7,8,9,10,22,23,27,28,29] hJ2)))))))))
  ·
   refine Ae 3 (Ic 30 (decide ((s.y.length:Int)<(s.y.length:Int))) false (decide_eq_false ω) (Ae 9 (Jf [(2,.ptr 2 2,.none),(4,_,.none)] [1,2,6,7,8,9,22,23] ⟨Bc (Bu 122 (.tmp 7) (.tmp 53) κ underlying122 2 0 2 1 1 κ κ sizeOf70 δ ω δ),Fx (Rw _ _ (bG1.fit ω) (bYY.fit ω)),trivial⟩ (Ae 3 (Mt (.int .i64 2) (.int .i64 2) (Ae 17 (Cb (Bf s.z) .none (Dk 147 (.tmp 22) (.tmp 23) κ underlying147 1 sizeOf23 2 false isAgg23 [Bf s.x,Bf s.y,Bf s.z] 2 κ κ ω δ β δ (Bf s.z) κ) (Ae 13 (yK (keep:=[1,2,6,7,8,9,10,22,23,27,28,29]) s.z.length (λk=>⟨[(1,.int a),(2,.int d),(6,.ptr 1 0),(7,.ptr 2 0),(8,.ptr 3 0),(9,.ptr 4 0),(10,.int 2),(22,.agg [Bf s.x,Bf s.y,Bf s.z]),(23,.int 2),(27,Bf s.z),(28,.int (s.z.length:Int)),(29,.int (k:Int))],[(0,.box 81 [.int s.f,.int s.t,.int s.o,Bf s.x,Bf s.y,Bf s.z]),(1,.box 72 [.bool false,.lit (.string ⟨#[]⟩),.bool false,.lit (.string ⟨#[]⟩),.bool false,.lit (.string ⟨#[]⟩),.bool false,.lit (.string ⟨#[]⟩)]),(2,.box 122 [.bool (decide (xG s a d<0)),.lit (.string (Dw (xG s a d).natAbs)),.bool (decide (plY s a d<0)),.lit (.string (Dw (plY s a d).natAbs)),.bool (decide (aZ s.z a d k<0)),.lit (.string (Dw (aZ s.z a d k).natAbs))]),(3,.box 70 [.bool (decide (eW s d<0)),.lit (.string (Dw (eW s d).natAbs))]),(4,.box 70 [.bool (decide (((Nat.gcd (Nat.gcd (eW s d).natAbs (xG s a d).natAbs:Int).natAbs (plY s a d).natAbs:Nat):Int)<0)),.lit (.string (Dw ((Nat.gcd (Nat.gcd (eW s d).natAbs (xG s a d).natAbs:Int).natAbs (plY s a d).natAbs:Nat):Int).natAbs))])],5,74⟩) (λk hk J3 hJ3=>?_) ?_)))))))))
   ·
    exact Ae 3 (Ic 30 (decide ((k:Int)<(s.z.length:Int))) true (decide_eq_true ω) (Ae 11 (Ga k s.z.length (Ae 5 (Jf [(2,.ptr 2 4,.none),(5,_,.none),(8,_,.none),(11,.int ((5-k:Nat):Int),.none),(12,_,.none),(13,_,.none),(14,_,.none),(15,_,.none),(16,.ptr 2 4,.none)] [1,2,6,7,8,9,10,22,23,27,28,29] ⟨Bc (Bu 122 (.tmp 7) (.tmp 35) κ underlying122 2 0 2 2 2 κ κ sizeOf70 δ ω δ),Fx (Gl _ (hs.z k).1 (hs.z k).2),Fx (Gf a k ha.1 ha.2 ω (pw ha _ ω)),Bc (Ca (v:= .int .i64 (IntKind.wrap .i64 ((5:Int)-(k:Int)))) (v':= .int .i64 ((5-k:Nat):Int)) _ κ rfl κ (λw=>by kernel_rfl) (congrArg (Value.int .i64) ((IntWalk.i64_in _ ω).trans ω))),Fx (Gf d (5-k) hd.1 hd.2 ω (pw hd _ ω)),Fx (Ju _ _ (Ei ha ω) (Ei hd ω) ((((Bd.int ha.1 ha.2).pow k).mul ((Bd.int hd.1 hd.2).pow (5-k))).fit ω)),Fx (Ju _ _ (Hq (hs.z k)) ((((Bd.int ha.1 ha.2).pow k).mul ((Bd.int hd.1 hd.2).pow (5-k))).fit ω) ((Pw (hs.z k) ha hd ω).fit ω)),Fx (fU (aZ s.z a d k) _ ((bZ k ω).fit ω) ((Pw (hs.z k) ha hd ω).fit ω) ((bZ (k+1) ω).fit ω)),Bc (Bu 122 (.tmp 7) (.tmp 34) κ underlying122 2 0 2 2 2 κ κ sizeOf70 δ ω δ),trivial⟩ (Ae 3 (Ev ((k:Int)+1) ((k+1:Nat):Int) (Ae 2 (Ob [1,2,6,7,8,9,10,22,23,27,28,29] hJ3)))))))))
   ·
    exact Ae 3 (Ic 30 (decide ((s.z.length:Int)<(s.z.length:Int))) false (decide_eq_false ω) (Ae 9 (Jf [(2,.ptr 2 4,.none),(4,_,.none)] [1,2,6,7,8,9,22,23] ⟨Bc (Bu 122 (.tmp 7) (.tmp 53) κ underlying122 2 0 2 2 2 κ κ sizeOf70 δ ω δ),Fx (Rw _ _ (bG2.fit ω) (bZZ.fit ω)),trivial⟩ (Ae 3 (Mt (.int .i64 3) (.int .i64 3) (Ae 16 (Jf [(0,.ptr 2 0,.none),(3,_,.none),(4,.ptr 2 2,.none),(7,_,.none),(8,.ptr 2 4,.none),(11,_,.none),(14,_,.none)] [6] ⟨Bc (Bu 122 (.tmp 7) (.const (.int .i64 0)) κ underlying122 2 0 2 0 0 κ κ sizeOf70 δ ω δ),Fx (Jv _ _ (bXX.fit ω) (bG3.fit ω) hg),Bc (Bu 122 (.tmp 7) (.const (.int .i64 1)) κ underlying122 2 0 2 1 1 κ κ sizeOf70 δ ω δ),Fx (Jv _ _ (bYY.fit ω) (bG3.fit ω) hg),Bc (Bu 122 (.tmp 7) (.const (.int .i64 2)) κ underlying122 2 0 2 2 2 κ κ sizeOf70 δ ω δ),Fx (Jv _ _ (bZZ.fit ω) (bG3.fit ω) hg),Fx (Jv _ _ (bO.fit ω) (bG3.fit ω) hg),trivial⟩ (Ae 2 (Gc)))))))))
end Go.Proofs.YtldnjomacnjhnaaGreat
namespace Go.Proofs.YtldnjomacnjhnaaGreat
open Go.Proofs.Tryz
open Go.RowKit
variable {B:Nat} {D0:Bk} {o:Oper} {ev:Operand->AV} {pre:Nat->Option Ci}
theorem Yr (t t':TypeId) (x y:Operand) (ho:o.op= .binOp .eql t x y t') (vs us:Array Value) (hx:ev x= .lit (.agg vs)) (hy:ev y= .lit (.agg us)) (hg:Tryz.prog.eqGuardType Tryz.prog.depth t=false) (b:Bool) (heq:∀w,(Op.equal t (.agg vs) (.agg us)).run Tryz.prog w= .ok b w):Fg Tryz.prog B D0 o ev pre (.bool b) .none:=by
 refine Cl (.inl rfl) λE a c _ _ hv=>⟨_,?_,.lit _ _⟩
 have h1:=hv x (by simp[ho,Op.operands])
 have h2:=hv y (by simp[ho,Op.operands])
 rw[hx] at h1
 rw[hy] at h2
 simp[execOp,ho,h1.lit_inv,h2.lit_inv,eqGuard,hg,binOp,heq]
theorem Vg (t t':TypeId) (x y:Operand) (ho:o.op= .binOp .neq t x y t') (vs us:Array Value) (hx:ev x= .lit (.agg vs)) (hy:ev y= .lit (.agg us)) (hg:Tryz.prog.eqGuardType Tryz.prog.depth t=false) (b:Bool) (heq:∀w,(Op.equal t (.agg vs) (.agg us)).run Tryz.prog w= .ok b w):Fg Tryz.prog B D0 o ev pre (.bool (!b)) .none:=by
 refine Cl (.inl rfl) λE a c _ _ hv=>⟨_,?_,.lit _ _⟩
 have h1:=hv x (by simp[ho,Op.operands])
 have h2:=hv y (by simp[ho,Op.operands])
 rw[hx] at h1
 rw[hy] at h2
 simp[execOp,ho,h1.lit_inv,h2.lit_inv,eqGuard,hg,binOp,heq]
theorem Iw {b b':Bool} (h:Fg Tryz.prog B D0 o ev pre (.bool b) .none) (e:b=b'):Fg Tryz.prog B D0 o ev pre (.bool b') .none:=e▸h
theorem Adp (b b':Bool) (s s':ByteArray) (w:World) (d:Nat):(Op.equalIn (d+2) 70 (.agg #[.bool b,.string s]) (.agg #[.bool b',.string s'])).run Tryz.prog w= .ok ((b==b')&&(s==s')) w:=by
 have h91:=Tryz.runUnderlying70
 have ha4:=isAgg4
 unfold Op.equalIn
 simp[h91,part,ha4,Op.equalIn]
 by_cases h1:b=b'
 subst h1
 cases hs:(s==s')<;>simp
 simp[h1]
theorem eqW (x y:Int) (w:World) (d:Nat):(Op.equalIn (d+2) 70 (Ak x) (Ak y)).run Tryz.prog w= .ok (decide (x=y)) w:=by
 unfold Ak
 rw[Adp]
 congr 1
 rw[beq_toListBytes]
 by_cases h:x=y
 subst h;simp
 rw[decide_eq_false h]
 cases h1:((Dw x.natAbs).toList==(Dw y.natAbs).toList) with
 |false=>simp
 |true=>
  have h3:x.natAbs=y.natAbs:=lD (by simpa using h1)
  have h4:¬(decide (x<0)=decide (y<0)):=λe=>by
   have:x<0↔y<0:=by simpa using e
   apply h
   omega
  simpa using h4
theorem Ac8 (p q:PL) (w:World):(Op.equal 72 (jD p).val (jD q).val).run Tryz.prog w= .ok (decide (p=q)) w:=by
 have e:∀(x y:Int) (w:World),(Op.equalIn 9999 70 (Ak x) (Ak y)).run Tryz.prog w= .ok (decide (x=y)) w:=λx y w=>eqW x y w 9997
 have h93:=Tryz.runUnderlying72
 have h91:=isAgg70
 have hs:=sizeOf70
 have hin:Tryz.prog.stoodInHeld 72=false:=by kernel_rfl
 unfold Op.equal
 rw[show Op.maxDepth=9999+1 from rfl]
 unfold Op.equalIn
 simp only[AV.val]
 unfold Ak at e
 simp[h93,part,h91,hs,e,hin]
 obtain⟨x,y,z,u⟩:=p
 obtain⟨x',y',z',u'⟩:=q
 simp only[PL.mk.injEq]
 by_cases h1:x=x'<;>by_cases h2:y=y'<;>by_cases h3:z=z'<;>by_cases h4:u=u'<;>simp[h1,h2,h3,h4]
theorem gW (x y z x' y' z':Int) (w:World):(Op.equal 36 (.agg #[.int .i64 x,.int .i64 y,.int .i64 z]) (.agg #[.int .i64 x',.int .i64 y',.int .i64 z'])).run Tryz.prog w= .ok (decide (x=x'/\y=y'/\z=z')) w:=by
 have h55:=Tryz.runUnderlying36
 have h3:=Tryz.runUnderlying3
 have ha:=isAgg3
 have hin:Tryz.prog.stoodInHeld 36=false:=by kernel_rfl
 unfold Op.equal
 rw[show Op.maxDepth=9998+1+1 from rfl]
 unfold Op.equalIn
 simp[h55,part,ha,hin]
 unfold Op.equalIn
 simp[h3]
 by_cases h1:x=x'<;>by_cases h2:y=y'<;>by_cases h3:z=z'<;>simp[h1,h2,h3]
theorem gS {E:Bk} {l:List Int} {v:Value} (h:VR E (Bf l) v):∃A c,v= .slice A l.length c/\Qk E.w v l:=by
 obtain⟨n,hn⟩:∃n,l.length=n:=⟨_,rfl⟩
 unfold Bf at h
 rw[hn] at h ⊢
 cases h with
 |sl0 _ _ _ A c=>exact⟨A,c,rfl,.inl ⟨A,c,rfl,List.eq_nil_of_length_eq_zero hn⟩⟩
 |sl _ _ _ _ b q c us hn0 hD hc hr=>
  refine⟨_,c,rfl,.inr ⟨b,q,c,by rw[hn],λi hi=>?_⟩⟩
  have h1:=hc i 0 ω ω
  have h2:=hr i 0 ω ω
  have h3:us i 0= .int .i64 (l.getD i 0):=h2.lit_inv
  rw[<-h3];exact h1
theorem Qi (s:Sg) (hs:Tf s):AF Tryz.prog 92 [Cn s] (.bool (decide (Gx s))):=by
 intro E us hD hn hv
 have h0:=hv 0 (by simp)
 obtain⟨u,rfl⟩:∃u,us=#[u]:=⟨us.getD 0 undef,by
  apply Array.ext
  simpa using hn
  intro i h1 h2
  have:i=0:=by simp at hn;omega
  subst this
  simp[h1]⟩
 simp at h0
 cases h0 with
 |agg _ _ vs hsz hr=>
  have g:=VR.tops hr
  have l0:vs.getD 0 undef= .int .i64 s.f:=(g 0).lit_inv
  have l1:vs.getD 1 undef= .int .i64 s.t:=(g 1).lit_inv
  have l2:vs.getD 2 undef= .int .i64 s.o:=(g 2).lit_inv
  obtain⟨A3,c3,e3,k3⟩:=gS (l:=s.x) (g 3)
  obtain⟨A4,c4,e4,k4⟩:=gS (l:=s.y) (g 4)
  obtain⟨A5,c5,e5,k5⟩:=gS (l:=s.z) (g 5)
  have hvs:vs=#[.int .i64 s.f,.int .i64 s.t,.int .i64 s.o,.slice A3 s.x.length c3,.slice A4 s.y.length c4,.slice A5 s.z.length c5]:=by
   apply Array.ext
   simpa using hsz
   intro i h1 h2
   have e:vs[i]=vs.getD i undef:=by simp[h1]
   rw[e]
   simp at h2
   match i,h2 with
   |0,_=>exact l0
   |1,_=>exact l1
   |2,_=>exact l2
   |3,_=>exact e3
   |4,_=>exact e4
   |5,_=>exact e5
  subst hvs
  rw[e3] at k3
  rw[e4] at k4
  rw[e5] at k5
  refine(jO s A3 A4 A5 c3 c4 c5 E.w k3 k4 k5 (λk i=>?_)).mono ?_
  match k with
  |0=>exact hs.x i
  |1=>exact hs.y i
  |k+2=>exact hs.z i
  rintro e w' ⟨rfl,hb⟩
  exact⟨_,E.D,rfl,.lit _ _,hb,λ_ h=>h,λ_ h=> .inl h,λb hb'=>Nat.lt_of_lt_of_le (hD b hb') hb.size⟩
end Go.Proofs.YtldnjomacnjhnaaGreat
namespace Go.Proofs.YtldnjomacnjhnaaGreat
open Go.Proofs.Tryz
open Go.RowKit
theorem Yw {E:Bk} {e n:Nat} {f:Nat->AV} {v:Value} (h:VR E (.sl e n f) v) (cs:List Value) (hl:cs.length=n*e) (hc:∀i j,i<n->j<e->(f i).cell j= .lit (cs.getD (i*e+j) undef)):Cv E.w E.D e v n cs:=by
 cases h with
 |sl0=>exact⟨hl,.inl ⟨_,_,rfl,rfl⟩⟩
 |sl _ _ _ _ b q c us hn hD hcell hr=>
  refine⟨hl,.inr ⟨b,q,c,rfl,hD,λk u hu=>?_⟩⟩
  obtain⟨hk,he⟩:=List.getElem?_eq_some_iff.1 hu
  rw[hl] at hk
  have he0:0<e:=by
   rcases Nat.eq_zero_or_pos e with h|h
   subst h;omega
   exact h
  obtain⟨d1,d2,d3⟩:=gU hk he0
  have h1:=hcell _ _ d1 d2
  have h2:=hr _ _ d1 d2
  rw[hc _ _ d1 d2,d3] at h2
  have h3:=h2.lit_inv
  rw[Nat.add_assoc,d3,h3] at h1
  rw[h1,List.getD_eq_getElem?_getD,hu];rfl
theorem Np {w:World} {D:Nat->Prop} {e n:Nat} {v:Value} {cs:List Value} (h:Cv w D e v n cs) {E:Bk} (hw:E.w=w) (hD:∀b,D b->E.D b) {f:Nat->AV} (hc:∀i j,i<n->j<e->VR E.fz ((f i).cell j) (cs.getD (i*e+j) undef)):VR E (.sl e n f) v:=by
 subst hw
 by_cases hn:n=0
 obtain⟨A,c,rfl⟩:=h.slice
 subst hn
 exact .sl0 _ _ _ _ _
 rcases h.2 with⟨A,c,rfl,h0⟩|⟨b,o,c,rfl,hd,hcell⟩
 exact absurd h0 hn
 refine .sl _ _ _ _ _ _ _ (λi j=>cs.getD (i*e+j) undef) ω (hD b hd) (λi j hi hj=>?_) hc
 have hlt:i*e+j<n*e:=by
  have:=Nat.mul_le_mul_right e (show i+1<=n from hi)
  rw[Nat.succ_mul] at this;omega
 rw[Nat.add_assoc]
 exact hcell _ _ (by rw[List.getD_eq_getElem?_getD,List.getElem?_eq_getElem (by rw[h.1];exact hlt)];rfl)
theorem eJ (l:List Int) {i:Nat} (h:i<l.length):(Dc l).getD i undef= .int .i64 (l.getD i 0):=by
 rw[List.getD_eq_getElem?_getD,Uu l i h,List.getD_eq_getElem?_getD,List.getElem?_eq_getElem h];rfl
theorem Yi {w:World} {D:Nat->Prop} {l:List Int} {v:Value} (h:Cv w D 1 v l.length (Dc l)) {E:Bk} (hw:E.w=w) (hD:∀b,D b->E.D b):VR E (Bf l) v:=
 Np h hw hD λi j hi hj=>by
  obtain rfl:j=0:=by omega
  rw[Nat.mul_one,Nat.add_zero,eJ l hi]
  exact .lit _ _
theorem Ady {E:Bk} {l:List Int} {v:Value} (h:VR E (Bf l) v):Cv E.w E.D 1 v l.length (Dc l):=
 Yw h (Dc l) (by rw[mM,Nat.mul_one]) λi j hi hj=>by
  obtain rfl:j=0:=by omega
  rw[Nat.mul_one,Nat.add_zero,eJ l hi]
  rfl
def Sg.none:Sg:=⟨0,0,0,[],[],[]⟩
abbrev Ai (l:List Sg):AV:= .sl 6 l.length λi=>Cn (l.getD i Sg.none)
theorem jB {w:World} {D:Nat->Prop} {l:List Sg} {v:Value} (h:Aab w D v l) {E:Bk} (hw:E.w=w) (hD:∀b,D b->E.D b):VR E (Ai l) v:=by
 obtain⟨cs,h1,h2⟩:=h
 refine Np h1 hw hD λi j hi hj=>?_
 obtain⟨a,⟨vx,vy,vz,rfl,hx,hy,hz⟩,ha⟩:=h2.at_ hi
 have e:l.getD i Sg.none=l[i]:=by rw[List.getD_eq_getElem?_getD,List.getElem?_eq_getElem hi];rfl
 have g:∀u,[Value.int .i64 l[i].f,.int .i64 l[i].t,.int .i64 l[i].o,vx,vy,vz][j]?=some u->cs.getD (i*6+j) undef=u:=λu hu=>by
  rw[List.getD_eq_getElem?_getD,ha j u hu];rfl
 rw[e]
 match j,hj with
 |0,_=>rw[g _ rfl];exact .lit _ _
 |1,_=>rw[g _ rfl];exact .lit _ _
 |2,_=>rw[g _ rfl];exact .lit _ _
 |3,_=>rw[g _ rfl];exact Yi (E:=E.fz) hx hw hD
 |4,_=>rw[g _ rfl];exact Yi (E:=E.fz) hy hw hD
 |5,_=>rw[g _ rfl];exact Yi (E:=E.fz) hz hw hD
theorem rV {P:Program} {f:FuncId} {args:List AV} {r:AV} (h:∀(E:Bk) (vs:Array Value),(∀b,E.D b->b<E.w.heap.size)->vs.size=args.length->(∀i,i<args.length->VR E.fz (args.getD i .top) (vs.getD i undef))->
  Calls P f vs E.w λe w'=>∃v,e= .returned v/\Below E.w.heap.size E.w w'/\∀E':Bk,E'.w=w'->(∀b,E.D b->E'.D b)->(∀b,E.w.heap.size<=b->b<w'.heap.size->E'.D b)->VR E' r v):AF P f args r:=by
 intro E vs hD hn hv
 refine(h E vs hD hn hv).mono ?_
 rintro e w' ⟨v,rfl,hb,hr⟩
 refine⟨v,λb=>E.D b\/(E.w.heap.size<=b/\b<w'.heap.size),rfl,hr _ rfl (λb hb=> .inl hb) (λb h1 h2=> .inr ⟨h1,h2⟩),hb,λb hb=> .inl hb,λb hb=>?_,λb hb'=>?_⟩
 rcases hb with hb|hb
 exact .inl hb
 exact .inr hb.1
 rcases hb' with hb'|hb'
 exact Nat.lt_of_lt_of_le (hD b hb') hb.size
 exact hb'.2
theorem fS {P:Program} {f:FuncId} {vs:List Value} {r:AV} (h:∀w,Calls P f vs.toArray w λe w'=>∃v,e= .returned v/\Below w.heap.size w w'/\∀E':Bk,E'.w=w'->(∀b,w.heap.size<=b->b<w'.heap.size->E'.D b)->VR E' r v):AF P f (vs.map .lit) r:=by
 refine rV λE us hD hn hv=>?_
 have:us=vs.toArray:=VR.lits (E:=E.fz) (by simpa using hn) (VR.tops hv)
 subst this
 refine(h E.w).mono ?_
 rintro e w' ⟨v,rfl,hb,hr⟩
 exact⟨v,rfl,hb,λE' h1 _ h3=>hr E' h1 h3⟩
abbrev Hc (v:V3):AV:= .lit (.agg #[.int .i64 v.x,.int .i64 v.y,.int .i64 v.z])
theorem Ty (v:V3):AF Tryz.prog 33 [Hc v] (.bool (Dy 1048576 [v.x,v.y,v.z])):=Ja (vs:=[_]) λw=>eX v.x v.y v.z w
theorem Ae4 {E:Bk} {x y:AV} {a b:Value} (h1:VR E x a) (h2:VR E y b):VR E (.tup [x,y]) (.tuple #[a,b]):= .tup _ _ _ rfl λi hi=>by
 match i,hi with
 |0,_=>exact h1
 |1,_=>exact h2
abbrev vS (a b:V3) (f t k:Int):AV:= .tup [Ai (if Kv a b f t=true then [So a b f t k] else []),.int (if Kv a b f t=true then 0 else 2)]
theorem sY {w w':World} {a b:V3} {f t k:Int} {e:Ending} (h:Gg w a b f t k e w'):∃v,e= .returned v/\Below w.heap.size w w'/\∀E':Bk,E'.w=w'->(∀b,w.heap.size<=b->b<w'.heap.size->E'.D b)->VR E' (vS a b f t k) v:=by
 unfold Gg at h
 unfold vS
 split at h
 rename_i hf
 obtain⟨v,rfl,hp,hb⟩:=h
 simp only[hf,if_true]
 exact⟨_,rfl,hb,λE' h1 h2=>Ae4 (jB hp h1 λb hb=>h2 b hb.1 hb.2) (.lit _ _)⟩
 rename_i hf
 simp only[hf]
 obtain⟨rfl,hb⟩:=h
 exact⟨_,rfl,hb,λE' h1 h2=>Ae4 (.sl0 _ _ _ _ _) (.lit _ _)⟩
theorem zI (a b:V3) (f t:Int):AF Tryz.prog 49 [Hc a,Hc b,.int f,.int t] (vS a b f t 2):=fS (vs:=[_,_,_,_]) λw=>(Wp a.x a.y a.z b.x b.y b.z f t w).mono λ_ _ h=>sY h
theorem zK (a:V3) (f t:Int):AF Tryz.prog 62 [Hc a,.int f,.int t] (vS a a f t 0):=fS (vs:=[_,_,_]) λw=>(eF a.x a.y a.z f t w).mono λ_ _ h=>sY h
abbrev Hl (l:List V3):AV:= .sl 3 l.length λi=>Hc (l.getD i V3.zero)
abbrev Fc (l:List ByteArray):AV:= .sl 1 l.length λi=> .lit (.string (l.getD i ByteArray.empty))
abbrev wR (m:Mv):AV:= .lit (.agg #[.int .i64 m.to.x,.int .i64 m.to.y,.int .i64 m.to.z,.int .i64 m.wait,.int .i64 m.flight,.int .i64 m.rise])
abbrev AcP (l:List Mv):AV:= .sl 6 l.length λi=>wR (l.getD i Mv.none)
abbrev Acu (a:Ac):AV:= .agg [.lit (.string a.name),.int a.len,AcP a.moves]
abbrev Gs (l:List Ac):AV:= .sl 3 l.length λi=>Acu (l.getD i Ac.none)
abbrev Ey (p:Pr):AV:= .agg [Fc p.names,Hl p.homes,Gs p.acts]
theorem Ly {α:Type} (f:α->List Value) (k:Nat) (hf:∀a,(f a).length=k):∀(l:List α) (i j:Nat) (d:α),i<l.length->j<k->(l.flatMap f).getD (i*k+j) undef=(f (l.getD i d)).getD j undef
 |[],i,j,d,hi,_=>by simp at hi
 |a::l,0,j,d,_,hj=>by
  rw[List.flatMap_cons,List.getD_eq_getElem?_getD,List.getElem?_append_left (by rw[hf];omega)]
  simp[List.getD_eq_getElem?_getD]
 |a::l,i+1,j,d,hi,hj=>by
  rw[List.flatMap_cons,List.getD_eq_getElem?_getD,List.getElem?_append_right (by rw[hf,Nat.succ_mul];omega),hf]
  have:=Ly f k hf l i j d (by simpa using hi) hj
  rw[List.getD_eq_getElem?_getD] at this
  rw[show (i+1)*k+j-k=i*k+j by rw[Nat.succ_mul];omega,this]
  simp[List.getD_eq_getElem?_getD]
theorem Xo {α:Type} (f:α->List Value) (k:Nat) (hf:∀a,(f a).length=k):∀l:List α,(l.flatMap f).length=l.length*k
 |[]=>by simp
 |a::l=>by rw[List.flatMap_cons,List.length_append,hf,Xo f k hf l,List.length_cons,Nat.succ_mul];omega
theorem yJ {E:Bk} {l:List V3} {v:Value} (h:VR E (Hl l) v):Cv E.w E.D 3 v l.length (Io l):=
 Yw h (Io l) (Xw l) λi j hi hj=>by
  have:=Ly (λv:V3=>[Value.int .i64 v.x,.int .i64 v.y,.int .i64 v.z]) 3 (λ_=>rfl) l i j V3.zero hi hj
  show _=AV.lit ((Io l).getD (i*3+j) undef)
  unfold Io
  rw[this]
  match j,hj with
  |0,_=>rfl
  |1,_=>rfl
  |2,_=>rfl
theorem Abe {E:Bk} {l:List Mv} {v:Value} (h:VR E (AcP l) v):Cv E.w E.D 6 v l.length (wS l):=
 Yw h (wS l) (Xo Mv.cells 6 (λ_=>rfl) l) λi j hi hj=>by
  have:=Ly Mv.cells 6 (λ_=>rfl) l i j Mv.none hi hj
  unfold wS
  rw[this]
  match j,hj with
  |0,_=>rfl
  |1,_=>rfl
  |2,_=>rfl
  |3,_=>rfl
  |4,_=>rfl
  |5,_=>rfl
theorem qI {E:Bk} {l:List ByteArray} {v:Value} (h:VR E (Fc l) v):Cv E.w E.D 1 v l.length (strs l):=
 Yw h (strs l) (by simp[strs]) λi j hi hj=>by
  obtain rfl:j=0:=by omega
  rw[Nat.mul_one,Nat.add_zero]
  show AV.lit (.string (l.getD i ByteArray.empty))=AV.lit ((strs l).getD i undef)
  simp[strs,List.getD_eq_getElem?_getD,hi]
def Xh:List Ac->(Nat->Value)->List Value
 |[],_=>[]
 |a::l,g=>[.string a.name,.int .i64 a.len,g 0]++Xh l λi=>g (i+1)
theorem Wg:∀(l:List Ac) (g:Nat->Value),(Xh l g).length=l.length*3
 |[],_=>rfl
 |a::l,g=>by rw[Xh,List.length_append,Wg l];simp;omega
theorem lB:∀(l:List Ac) (g:Nat->Value) (i j:Nat),i<l.length->j<3->(Xh l g).getD (i*3+j) undef=[Value.string (l.getD i Ac.none).name,.int .i64 (l.getD i Ac.none).len,g i].getD j undef
 |[],g,i,j,hi,_=>by simp at hi
 |a::l,g,0,j,_,hj=>by
  rw[Xh,List.getD_eq_getElem?_getD,List.getElem?_append_left (by simp;omega)]
  simp[List.getD_eq_getElem?_getD]
 |a::l,g,i+1,j,hi,hj=>by
  rw[Xh,List.getD_eq_getElem?_getD,List.getElem?_append_right (by simp;omega)]
  have:=lB l (λi=>g (i+1)) i j (by simpa using hi) hj
  rw[List.getD_eq_getElem?_getD] at this
  rw[show (i+1)*3+j-[Value.string a.name,.int .i64 a.len,g 0].length=i*3+j by simp;omega,this]
  simp[List.getD_eq_getElem?_getD]
theorem Zp {w:World} {D:Nat->Prop}:∀(l:List Ac) (g:Nat->Value),(∀i,i<l.length->Cv w D 6 (g i) (l.getD i Ac.none).moves.length (wS (l.getD i Ac.none).moves))->Qj w D l (Xh l g)
 |[],_,_=>rfl
 |a::l,g,h=>⟨_,_,rfl,⟨g 0,rfl,by simpa using h 0 (by simp)⟩,Zp l (λi=>g (i+1)) λi hi=>by simpa using h (i+1) (by simpa using hi)⟩
theorem vI {E:Bk} {l:List Ac} {v:Value} (h:VR E (Gs l) v):∃cs,Cv E.w E.D 3 v l.length cs/\Qj E.w E.D l cs:=by
 unfold Gs at h
 generalize hn:l.length=n at h ⊢
 cases h with
 |sl0=>
  have:l=[]:=List.eq_nil_of_length_eq_zero hn
  subst this
  exact⟨[],⟨rfl,.inl ⟨_,_,rfl,rfl⟩⟩,rfl⟩
 |sl _ _ _ _ b q c us hn0 hD hcell hr=>
  refine⟨Xh l λi=>us i 2,⟨by rw[Wg,hn],.inr ⟨b,q,c,rfl,hD,λk u hu=>?_⟩⟩,Zp l _ λi hi=>?_⟩
  obtain⟨hk,he⟩:=List.getElem?_eq_some_iff.1 hu
  rw[Wg,hn] at hk
  obtain⟨d1,d2,d3⟩:=gU hk δ
  have h1:=hcell _ _ d1 d2
  have h2:=hr _ _ d1 d2
  have h3:=lB l (λi=>us i 2) (k/3) (k%3) (by rw[hn];exact d1) d2
  rw[d3,List.getD_eq_getElem?_getD,hu] at h3
  rw[Nat.add_assoc,d3] at h1
  rw[h1]
  congr 1
  have h4:u=[Value.string (l.getD (k/3) Ac.none).name,.int .i64 (l.getD (k/3) Ac.none).len,us (k/3) 2].getD (k%3) undef:=h3
  rw[h4]
  generalize hj:k%3=j at h2 d2
  match j,d2 with
  |0,_=>exact h2.lit_inv
  |1,_=>exact h2.lit_inv
  |2,_=>rfl
  have h2:=hr i 2 ω δ
  exact Abe (E:=E.fz) h2
theorem tW {E:Bk} {p:Pr} {v:Value} (h:VR E (Ey p) v) (hD:∀b,E.D b->b<E.w.heap.size):∃vn vh va,v= .agg #[vn,vh,va]/\Hu E.w E.w.heap.size vn vh va p:=by
 have hrg:∀b,E.D b->rg 0 E.w.heap.size b:=λb hb=>⟨Nat.zero_le _,hD b hb⟩
 cases h with
 |agg _ _ vs hn hr=>
  have g:=VR.tops hr
  have hvs:vs=#[vs.getD 0 undef,vs.getD 1 undef,vs.getD 2 undef]:=by
   apply Array.ext
   simpa using hn
   intro i h1 h2
   have h3:i<3:=by simpa using h2
   match i,h3 with
   |0,_=>simp[Array.getD,h1]
   |1,_=>simp[Array.getD,h1]
   |2,_=>simp[Array.getD,h1]
  obtain⟨cs,k1,k2⟩:=vI (g 2)
  exact⟨_,_,_,congrArg _ hvs,⟨(qI (g 0)).more hrg,(yJ (g 1)).more hrg,cs,k1.more hrg,k2.more hrg⟩⟩
structure Ki (p:Pr):Prop where
 names:∀s∈p.names,s.size<=maxLen
 anames:∀a∈p.acts,a.name.size<=maxLen
 acts:p.acts.length<=1000000
 moves:∀a∈p.acts,a.moves.length<=1000000
 lens:∀a∈p.acts,Co a.len
theorem iU {vs:Array Value} (h:vs.size=1):vs=#[vs.getD 0 undef]:=by
 apply Array.ext
 simpa using h
 intro i h1 h2
 have:i=0:=by simp at h2;exact h2
 subst this
 simp[h1]
theorem Ec (p:Pr) (hp:Ki p):AF Tryz.prog 25 [Ey p] (.bool (Da p)):=rV λE us hD hn hv=>by
 rw[iU hn]
 have h0:=hv 0 (by simp)
 obtain⟨vn,vh,va,e,h1⟩:=tW (E:=E.fz) (p:=p) h0 hD
 rw[e]
 refine(yH p vn vh va E.w h1 hp.names hp.anames hp.acts hp.moves).mono ?_
 rintro e w' ⟨rfl,hb⟩
 exact⟨_,rfl,hb,λ_ _ _ _=> .lit _ _⟩
abbrev Ll (l:List V3):AV:= .slc 3 l.length λi=>Hc (l.getD i V3.zero)
structure Cs where
 craft:Int
 act:Int
abbrev Kf (c:Cs):AV:= .lit (.agg #[.int .i64 c.craft,.int .i64 c.act])
def AdS (p:Pr) (a k:Int):Prop:=(p.names.length:Int)<=a/\(p.homes.length:Int)<=a/\(p.acts.length:Int)<=k/\(∀i,i<p.names.length->(p.names.getD i ByteArray.empty).size<=60)/\∀i,i<p.acts.length->(p.acts.getD i Ac.none).name.size<=60/\((p.acts.getD i Ac.none).moves.length:Int)<=a
theorem zG (p:Pr) (a k:Int) (ha:Co a) (hk:Co k):AF Tryz.prog 13 [Ey p,.int a,.int k] (.bool (bP (AdS p a k))):=by
 refine Cc func13 rfl λB D0 hA0=>?_
 refine Ae 15 (Fd 14 (a<(p.names.length:Int)) (λhx1 hx1d=>?_) (λhx1 hx1d=>?_))
 ·
  exact Ae 23 (Fa (.bool false) (congrArg AV.bool (Ao (by rintro⟨g1,g2,g3,g4,g5⟩;first|omega|(have:=g4 i ω;omega)|(have:=g5 j ω;omega))).symm))
 ·
  refine Ae 7 (Fd 21 (a<(p.homes.length:Int)) (λhx2 hx2d=>?_) (λhx2 hx2d=>?_))
  ·
   exact Ae 16 (Fa (.bool false) (congrArg AV.bool (Ao (by rintro⟨g1,g2,g3,g4,g5⟩;first|omega|(have:=g4 i ω;omega)|(have:=g5 j ω;omega))).symm))
  ·
   refine Ae 8 (Fd 27 (k<(p.acts.length:Int)) (λhx3 hx3d=>?_) (λhx3 hx3d=>?_))
   ·
    exact Ae 8 (Fa (.bool false) (congrArg AV.bool (Ao (by rintro⟨g1,g2,g3,g4,g5⟩;first|omega|(have:=g4 i ω;omega)|(have:=g5 j ω;omega))).symm))
   ·
    refine Ae 10 (Lh [1,3,7] p.names.length (λi=>∀q,q<i->(p.names.getD q ByteArray.empty).size<=60) (λi=>⟨[(1,.int a),(3,.ptr 0 0),(7,.int (i:Int))],[(0,.box 31 [Fc p.names,Hl p.homes,Gs p.acts])],1,68⟩) (λq hq=>absurd hq (Nat.not_lt_zero q)) (λi hin hFi J1 hJ1=>?_))
    refine Ae 10 (Fd 32 ((i:Int)<(p.names.length:Int)) (λhx4 hx4d=>?_) (λhx4 hx4d=>?_))
    ·
     refine Ae 10 (Ga i p.names.length (Ae 1 (Mt (.int .i64 (ByteArray.size (p.names.getD i ByteArray.empty):Int)) (.int .i64 (ByteArray.size (p.names.getD i ByteArray.empty):Int)) (Ae 3 (Fd 41 ((60:Int)<(ByteArray.size (p.names.getD i ByteArray.empty):Int)) (λhx5 hx5d=>?_) (λhx5 hx5d=>?_))))))
     ·
      exact Ae 12 (Fa (.bool false) (congrArg AV.bool (Ao (by rintro⟨g1,g2,g3,g4,g5⟩;first|omega|(have:=g4 i ω;omega)|(have:=g5 j ω;omega))).symm))
     ·
      exact Ae 6 (Ev ((i:Int)+1) ((i+1:Nat):Int) (Ae 2 (Ob [1,3,7] (hJ1 ω (λq hq=>(Nat.lt_or_ge q i).elim (λg=>hFi q g) λg=>by have e:q=i:=(ω);subst e;omega)))))
    ·
     refine Ae 13 (Lh [1,3,8] p.acts.length (λj=>∀q,q<j->(p.acts.getD q Ac.none).name.size<=60/\((p.acts.getD q Ac.none).moves.length:Int)<=a) (λj=>⟨[(1,.int a),(3,.ptr 0 0),(8,.int (j:Int))],[(0,.box 31 [Fc p.names,Hl p.homes,Gs p.acts])],1,68⟩) (λq hq=>absurd hq (Nat.not_lt_zero q)) (λj hjn hFj J2 hJ2=>?_))
     refine Ae 10 (Fd 46 ((j:Int)<(p.acts.length:Int)) (λhx6 hx6d=>?_) (λhx6 hx6d=>?_))
     ·
      refine Ae 10 (Ga j p.acts.length (Ae 2 (Mt (.int .i64 (ByteArray.size ((p.acts.getD j Ac.none).name):Int)) (.int .i64 (ByteArray.size ((p.acts.getD j Ac.none).name):Int)) (Ae 2 (Fd 57 ((60:Int)<(ByteArray.size ((p.acts.getD j Ac.none).name):Int)) (λhx7 hx7d=>?_) (λhx7 hx7d=>?_))))))
      ·
       exact Ae 24 (Fa (.bool false) (congrArg AV.bool (Ao (by rintro⟨g1,g2,g3,g4,g5⟩;first|omega|(have:=g4 i ω;omega)|(have:=g5 j ω;omega))).symm))
      ·
       refine Ae 3 (Ga j p.acts.length (Ae 8 (Fd 67 (a<((p.acts.getD j Ac.none).moves.length:Int)) (λhx8 hx8d=>?_) (λhx8 hx8d=>?_))))
       ·
        exact Ae 12 (Fa (.bool false) (congrArg AV.bool (Ao (by rintro⟨g1,g2,g3,g4,g5⟩;first|omega|(have:=g4 i ω;omega)|(have:=g5 j ω;omega))).symm))
       ·
        exact Ae 6 (Ev ((j:Int)+1) ((j+1:Nat):Int) (Ae 2 (Ob [1,3,8] (hJ2 ω (λq hq=>(Nat.lt_or_ge q j).elim (λg=>hFj q g) λg=>by have e:q=j:=(ω);subst e;omega)))))
     ·
      exact Ae 12 (Fa (.bool true) (congrArg AV.bool (Dm (⟨ω,ω,ω,λq hq=>hFi q ω,λq hq=>hFj q ω⟩)).symm))
def Ul (n:Nat) (p:Nat->Bool):Int:=match (List.range n).find? p with|some i=>(i:Int)|none=> -1
theorem AaD (n:Nat) (p:Nat->Bool) (h:∀q,q<n->p q=false):Ul n p= -1:=by
 have:(List.range n).find? p=none:=List.find?_eq_none.2 λq hq=>by simp[h q (List.mem_range.1 hq)]
 unfold Ul;rw[this]
theorem AcB (n:Nat) (p:Nat->Bool) (i:Nat) (hi:i<n) (h:∀q,q<i->p q=false) (h2:p i=true):Ul n p=(i:Int):=by
 have:(List.range n).find? p=some i:=List.find?_range_eq_some.2 ⟨h2,by simpa using hi,λj hj=>by simp[h j hj]⟩
 unfold Ul;rw[this]
theorem zL (l:List V3) (n:Nat) (v:V3) (hn:n<=1000000):AF Tryz.prog 72 [.sl 3 n λi=>Hc (l.getD i V3.zero),Hc v] (.int (Ul n λi=>decide ((l.getD i V3.zero).x=v.x/\(l.getD i V3.zero).y=v.y/\(l.getD i V3.zero).z=v.z))):=by
 refine Cc func72 rfl λB D0 hA0=>?_
 refine Ae 15 (Lh [0,3,7,8] n (λi=>∀q,q<i->decide ((l.getD q V3.zero).x=v.x/\(l.getD q V3.zero).y=v.y/\(l.getD q V3.zero).z=v.z)=false) (λi=>⟨[(0,.sl 3 n (λi0=>Hc (l.getD i0 V3.zero))),(3,.ptr 0 0),(7,.int (n:Int)),(8,.int (i:Int))],[(0,.box 36 [.int v.x,.int v.y,.int v.z])],1,19⟩) (λq hq=>absurd hq (Nat.not_lt_zero q)) (λi hin hFi J1 hJ1=>?_))
 refine Ae 6 (Fd 9 ((i:Int)<(n:Int)) (λhx1 hx1d=>?_) (λhx1 hx1d=>?_))
 ·
  refine Ae 12 (Jf [(3,Fi (.sl 3 n (λi0=>Hc (l.getD i0 V3.zero))) i,.none),(5,.bool (decide (v.x=(l.getD i V3.zero).x/\v.y=(l.getD i V3.zero).y/\v.z=(l.getD i V3.zero).z)),.none)] [0,3,5,7,8,16] ⟨Ni i n,Bc (Yr 36 36 (.tmp 11) (.tmp 15) κ _ _ κ κ κ (decide (v.x=(l.getD i V3.zero).x/\v.y=(l.getD i V3.zero).y/\v.z=(l.getD i V3.zero).z)) (gW _ _ _ _ _ _)),trivial⟩ (Ae 1 (Fd 16 (v.x=(l.getD i V3.zero).x/\v.y=(l.getD i V3.zero).y/\v.z=(l.getD i V3.zero).z) (λhx2 hx2d=>?_) (λhx2 hx2d=>?_))))
  ·
   exact Ae 13 (Fa (.int (i:Int)) (congrArg AV.int (AcB n _ i ω (λq hq=>hFi q hq) (by simp only[decide_eq_true_eq];omega)).symm))
  ·
   exact Ae 5 (Ev ((i:Int)+1) ((i+1:Nat):Int) (Ae 2 (Ob [0,3,7,8] (hJ1 ω (λq hq=>(Nat.lt_or_ge q i).elim (λg=>hFi q g) λg=>by have e:q=i:=(ω);subst e;simp only[decide_eq_false_iff_not];omega)))))
 ·
  exact Ae 12 (Fa (.int (-1)) (congrArg AV.int (AaD n _ λq hq=>hFi q ω).symm))
def Bn (l:List Ac):Nat->Int
 |0=>0
 |k+1=>Bn l k+(l.getD k Ac.none).len
theorem aJ {p:Pr} {k:Nat} {t:Int} {m:List Int}:∀{i:Nat} {l:List Int},Dz p k t m i=some l->∀j,j<i->Qe p k t j=0
 |0,_,_,j,hj=>absurd hj (Nat.not_lt_zero j)
 |i+1,l,h,j,hj=>by
  rw[Dz] at h
  cases h1:Dz p k t m i with
  |none=>rw[h1] at h;cases h
  |some l1=>
   rw[h1] at h
   simp only at h
   split at h
   rename_i hc
   rcases Nat.lt_or_ge j i with hji|hji
   exact aJ h1 j hji
   have:j=i:=by omega
   subst this
   exact hc.1
   cases h
theorem bW {p:Pr}:∀{k:Nat} {t:Int} {m:List Int},Ke p k=some (t,m)->t=Bn p.acts k/\0<=t/\t<=3600000/\∀j,j<k->(0<=Bn p.acts j/\Bn p.acts j<=3600000)/\1<=(p.acts.getD j Ac.none).len/\(p.acts.getD j Ac.none).moves.length=p.names.length/\∀i,i<p.names.length->Qe p j (Bn p.acts j) i=0
 |0,t,m,h=>by
  simp only[Ke,Option.some.injEq,Prod.mk.injEq] at h
  obtain⟨rfl,_⟩:=h
  exact⟨rfl,Int.le_refl _,δ,λj hj=>absurd hj (Nat.not_lt_zero j)⟩
 |k+1,t,m,h=>by
  rw[Ke] at h
  cases h1:Ke p k with
  |none=>rw[h1] at h;cases h
  |some tm=>
   obtain⟨t1,m1⟩:=tm
   rw[h1] at h
   simp only at h
   split at h
   rename_i hc
   cases h2:Dz p k t1 m1 p.names.length with
   |none=>rw[h2] at h;cases h
   |some m2=>
    rw[h2] at h
    simp only[Option.some.injEq,Prod.mk.injEq] at h
    obtain⟨rfl,rfl⟩:=h
    obtain⟨e1,e2,e3,e4⟩:=bW h1
    refine⟨by rw[Bn,e1],ω,ω,λj hj=>?_⟩
    rcases Nat.lt_or_ge j k with hjk|hjk
    exact e4 j hjk
    have:j=k:=by omega
    subst this
    rw[<-e1]
    exact⟨⟨e2,e3⟩,hc.2.1,hc.2.2.2,aJ h2⟩
   cases h
structure Wf (p:Pr):Prop where
 n1:1<=p.names.length/\p.names.length<=64
 homes:p.homes.length=p.names.length
 acts:p.acts.length<=60
 ends:∀j,j<=p.acts.length->0<=Bn p.acts j/\Bn p.acts j<=3600000
 len:∀j,j<p.acts.length->1<=(p.acts.getD j Ac.none).len
 mv:∀j,j<p.acts.length->(p.acts.getD j Ac.none).moves.length=p.names.length
 pe:∀j i,j<p.acts.length->i<p.names.length->Qe p j (Bn p.acts j) i=0
theorem Fz {p:Pr} (h:Da p=true):Wf p:=by
 unfold Da at h
 simp only[Bool.and_eq_true,decide_eq_true_eq] at h
 obtain⟨⟨h1,h2⟩,h3⟩:=h
 unfold Qq at h1
 simp only[Bool.and_eq_true,decide_eq_true_eq] at h1
 obtain⟨tm,ht⟩:=Option.isSome_iff_exists.1 h3
 obtain⟨t,m⟩:=tm
 obtain⟨e1,e2,e3,e4⟩:=bW ht
 refine⟨⟨h1.1.1.1,h1.1.1.2⟩,h1.1.2,h2,λj hj=>?_,λj hj=>(e4 j hj).2.1,λj hj=>(e4 j hj).2.2.1,λj i hj hi=>(e4 j hj).2.2.2 i hi⟩
 rcases Nat.lt_or_ge j p.acts.length with hlt|hge
 exact(e4 j hlt).1
 have:j=p.acts.length:=by omega
 subst this
 rw[<-e1];exact⟨e2,e3⟩
theorem Wf.to {p:Pr} (h:Wf p) {j i:Nat} (hj:j<p.acts.length) (hi:i<p.names.length):Dy 1048576 [((p.acts.getD j Ac.none).moves.getD i Mv.none).to.x,((p.acts.getD j Ac.none).moves.getD i Mv.none).to.y,((p.acts.getD j Ac.none).moves.getD i Mv.none).to.z]=true:=by
 have:=h.pe j i hj hi
 unfold Qe rG at this
 split at this
 rename_i hb
 unfold tpB oS at hb
 simp only[Bool.and_eq_true] at hb
 have h2:Sp ((p.acts.getD j Ac.none).moves.getD i Mv.none).to.x ((p.acts.getD j Ac.none).moves.getD i Mv.none).to.y ((p.acts.getD j Ac.none).moves.getD i Mv.none).to.z=true:=by
  revert hb
  simp only[and_imp]
  intros
  assumption
 exact h2
 cases this
theorem in3 {m x y z:Int} (h:Dy m [x,y,z]=true):(-m<=x/\x<=m)/\(-m<=y/\y<=m)/\(-m<=z/\z<=m):=by
 unfold Dy at h
 simpa using h
theorem getD_in {l:List Ac} (h:∀a∈l,Co a.len) (i:Nat):Co (l.getD i Ac.none).len:=by
 rw[List.getD_eq_getElem?_getD]
 cases hi:l[i]? with
 |none=>exact⟨δ,δ⟩
 |some a=>exact h a (List.mem_of_getElem? hi)
theorem lU (n:Nat) (p:Nat->Bool):0<=Ul n p↔∃q,q<n/\p q=true:=by
 unfold Ul
 cases h:(List.range n).find? p with
 |none=>
  have:=List.find?_eq_none.1 h
  constructor
  intro h;exact absurd h δ
  rintro⟨q,hq,hp⟩
  exact absurd hp (this q (List.mem_range.2 hq))
 |some i=>
  have h1:=List.find?_some h
  have h2:=List.mem_of_find?_eq_some h
  exact⟨λ_=>⟨i,List.mem_range.1 h2,h1⟩,λ_=>Int.natCast_nonneg i⟩
theorem kI (l:List V3) (n:Nat) (v:V3) (hn:n<=1000000):AF Tryz.prog 34 [.sl 3 n λi=>Hc (l.getD i V3.zero),Hc v] (.bool (bP (∃q,q<n/\(l.getD q V3.zero).x=v.x/\(l.getD q V3.zero).y=v.y/\(l.getD q V3.zero).z=v.z))):=by
 have HQ:decide ((0:Int)<=Ul n λi=>decide ((l.getD i V3.zero).x=v.x/\(l.getD i V3.zero).y=v.y/\(l.getD i V3.zero).z=v.z))=bP (∃q,q<n/\(l.getD q V3.zero).x=v.x/\(l.getD q V3.zero).y=v.y/\(l.getD q V3.zero).z=v.z):=by
  by_cases h:∃q,q<n/\(l.getD q V3.zero).x=v.x/\(l.getD q V3.zero).y=v.y/\(l.getD q V3.zero).z=v.z
  ·
   rw[Dm h,decide_eq_true_eq,lU]
   obtain⟨q,hq,h⟩:=h
   exact⟨q,hq,by simpa using h⟩
  ·
   rw[Ao h,decide_eq_false_iff_not,lU]
   rintro⟨q,hq,h2⟩
   exact h ⟨q,hq,by simpa using h2⟩
 refine Cc func34 rfl λB D0 hA0=>?_
 exact Ae 10 (Ct (zL l n v hn) (Ae 5 (Fa (.bool (decide ((0:Int)<=Ul n (λi=>decide ((l.getD i V3.zero).x=v.x/\(l.getD i V3.zero).y=v.y/\(l.getD i V3.zero).z=v.z))))) (congrArg AV.bool HQ))))
theorem AdQ (p:Pr) (hp:Ki p) (ho:Wf p) (k:Nat) (hk:k<p.acts.length):AF Tryz.prog 103 [Ey p,.int (k:Int)] (.int (Bn p.acts (k+1))):=by
 have hac:=ho.acts
 refine Cc func103 rfl λB D0 hA0=>?_
 refine Ae 15 (Ev ((k:Int)+1) ((k+1:Nat):Int) (Ae 4 (Lh [2,5,8,9] (k+1) (λi=>True) (λi=>⟨[(2,.ptr 0 0),(5,.int (Bn p.acts i)),(8,.int ((k+1:Nat):Int)),(9,.int (i:Int))],[(0,.box 31 [Fc p.names,Hl p.homes,Gs p.acts])],1,22⟩) trivial (λi hin hFi J1 hJ1=>?_))))
 refine Ae 6 (Fd 10 ((i:Int)<((k+1:Nat):Int)) (λhx1 hx1d=>?_) (λhx1 hx1d=>?_))
 ·
  refine Ae 11 ?_
  have he2:=ho.ends i ω
  have hl:=getD_in hp.lens i
  refine Ae 5 (Ga i p.acts.length (Ae 2 (Mt (.int .i64 (IntKind.wrap .i64 (Bn p.acts i+(p.acts.getD i Ac.none).len))) (.int .i64 (Bn p.acts (i+1))) ?_ (congrArg (Value.int .i64) ((IntWalk.i64_in _ (by have he3:=ho.ends (i+1) ω;rw[Bn] at he3;omega)).trans rfl)))))
  exact Ae 5 (Ev ((i:Int)+1) ((i+1:Nat):Int) (Ae 2 (Ob [2,5,8,9] (hJ1 ω trivial))))
 ·
  exact Ae 13 (Fa (.int (Bn p.acts i)) (congrArg (λq=>AV.int (Bn p.acts q)) (show i=k+1 by omega)))
theorem zC (p:Pr) (hp:Ki p) (ho:Wf p) (k:Nat) (hk:k<p.acts.length):AF Tryz.prog 27 [Ey p,.int (k:Int)] (.int (Bn p.acts (k+1))):=by
 have hac:=ho.acts
 refine Cc func27 rfl λB D0 hA0=>?_
 refine Ae 18 (Lh [1,2,5,6] (k+1) (λi=>True) (λi=>⟨[(1,.int (k:Int)),(2,.ptr 0 0),(5,.int (Bn p.acts i)),(6,.int (i:Int))],[(0,.box 31 [Fc p.names,Hl p.homes,Gs p.acts])],1,21⟩) trivial (λi hin hFi J1 hJ1=>?_))
 have he:=ho.ends i
 refine Ae 8 (Fd 9 ((i:Int)<=(k:Int)) (λhx1 hx1d=>?_) (λhx1 hx1d=>?_))
 ·
  refine Ae 5 ?_
  have he2:=ho.ends i ω
  have hl:=getD_in hp.lens i
  refine Ae 5 (Ga i p.acts.length (Ae 2 (Mt (.int .i64 (IntKind.wrap .i64 (Bn p.acts i+(p.acts.getD i Ac.none).len))) (.int .i64 (Bn p.acts (i+1))) ?_ (congrArg (Value.int .i64) ((IntWalk.i64_in _ (by have he3:=ho.ends (i+1) ω;rw[Bn] at he3;omega)).trans rfl)))))
  exact Ae 6 (Ev ((i:Int)+1) ((i+1:Nat):Int) (Ae 2 (Ob [1,2,5,6] (hJ1 ω trivial))))
 ·
  exact Ae 13 (Fa (.int (Bn p.acts i)) (congrArg (λq=>AV.int (Bn p.acts q)) (show i=k+1 by omega)))
def Il (p:Pr) (c:Cs):Prop:=Da p=true/\0<=c.craft/\c.craft<(p.names.length:Int)/\0<=c.act/\c.act<(p.acts.length:Int)
def Bq (p:Pr) (c:Cs):Int:=Bn p.acts (c.act.toNat+1)
structure Te (c:Cs):Prop where
 craft:Co c.craft
 act:Co c.act
theorem Ub (p:Pr) (c:Cs) (hp:Ki p) (_:Te c):AF Tryz.prog 73 [Ey p,Kf c] (.bool (bP (Il p c))):=by
 have hac:=hp.acts
 refine Cc func73 rfl λB D0 hA0=>?_
 refine Ae 10 (Ct (Ec p hp) (Ae 1 (oT 7 (Da p) (λhx1=>?_) (λhx1=>?_))))
 ·
  refine Ae 5 (Fd 12 ((0:Int)<=c.craft) (λhx2 hx2d=>?_) (λhx2 hx2d=>?_))
  ·
   refine Ae 8 (Fd 20 (c.craft<(p.names.length:Int)) (λhx3 hx3d=>?_) (λhx3 hx3d=>?_))
   ·
    refine Ae 5 (Fd 25 ((0:Int)<=c.act) (λhx4 hx4d=>?_) (λhx4 hx4d=>?_))
    ·
     exact Ae 11 (Fa (.bool (decide (c.act<(p.acts.length:Int)))) (congrArg AV.bool (if hz:c.act<(p.acts.length:Int) then (decide_eq_true hz).trans (Dm ⟨by assumption,ω,ω,ω,hz⟩).symm else (decide_eq_false hz).trans (Ao (by rintro⟨g1,g2,g3,g4,g5⟩;omega)).symm)))
    ·
     exact Ae 11 (Fa (.bool false) (congrArg AV.bool (Ao (by rintro⟨g1,g2,g3,g4,g5⟩;first|omega|(simp_all;done))).symm))
   ·
    exact Ae 16 (Fa (.bool false) (congrArg AV.bool (Ao (by rintro⟨g1,g2,g3,g4,g5⟩;first|omega|(simp_all;done))).symm))
  ·
   exact Ae 24 (Fa (.bool false) (congrArg AV.bool (Ao (by rintro⟨g1,g2,g3,g4,g5⟩;first|omega|(simp_all;done))).symm))
 ·
  exact Ae 29 (Fa (.bool false) (congrArg AV.bool (Ao (by rintro⟨g1,g2,g3,g4,g5⟩;first|omega|(simp_all;done))).symm))
theorem oU (p:Pr) (c:Cs) (hp:Ki p) (hc:Te c) (h:Il p c):AF Tryz.prog 75 [Ey p,Kf c] (.lit (.tuple #[.int .i64 (Bq p c),.int .i64 0])):=by
 have hv1:=h.2.1
 have hv2:=h.2.2.1
 have hv3:=h.2.2.2.1
 have hv4:=h.2.2.2.2
 have hmv:=(Fz h.1).mv c.act.toNat ω
 refine Cc func75 rfl λB D0 hA0=>?_
 exact Ae 13 (Ct (Ub p c hp hc) (Ae 3 (Ic 9 (!bP (Il p c)) false (by rw[(Dm h)];rfl) (Ae 8 (Ct (by have:=AdQ p hp (Fz h.1) c.act.toNat (by have:=h.2.2.2.2;omega);rwa [show (c.act.toNat:Int)=c.act by have:=h.2.2.2.1;omega] at this) (Ae 5 (Gc)))))))
theorem Wb (p:Pr) (hp:Ki p) (h:Da p=true):AF Tryz.prog 51 [Ey p] (.lit (.tuple #[.int .i64 (Bn p.acts p.acts.length),.int .i64 0])):=by
 have ho:=Fz h
 have hac:=ho.acts
 refine Cc func51 rfl λB D0 hA0=>?_
 refine Ae 11 (Ct (Ec p hp) (Ae 3 (Ic 9 (!Da p) false (by rw[h];rfl) (Ae 18 (Lh [4,11,12,13] p.acts.length (λi=>True) (λi=>⟨[(4,.int (Bn p.acts i)),(11,Gs p.acts),(12,.int (p.acts.length:Int)),(13,.int (i:Int))],[(0,.box 31 [Fc p.names,Hl p.homes,Gs p.acts])],1,23⟩) trivial (λi hin hFi J1 hJ1=>?_))))))
 refine Ae 6 (Fd 14 ((i:Int)<(p.acts.length:Int)) (λhx1 hx1d=>?_) (λhx1 hx1d=>?_))
 ·
  refine Ae 5 ?_
  have he2:=ho.ends i ω
  have hl:=getD_in hp.lens i
  refine Ae 2 (Ga i p.acts.length (Ae 9 (Mt (.int .i64 (IntKind.wrap .i64 (Bn p.acts i+(p.acts.getD i Ac.none).len))) (.int .i64 (Bn p.acts (i+1))) ?_ (congrArg (Value.int .i64) ((IntWalk.i64_in _ (by have he3:=ho.ends (i+1) ω;rw[Bn] at he3;omega)).trans rfl)))))
  exact Ae 5 (Ev ((i:Int)+1) ((i+1:Nat):Int) (Ae 2 (Gk [4,11,12,13] [(0,0)] 1 0 hA0 [] trivial (hJ1 ω trivial))))
 ·
  exact Ae 14 (Fa (.lit (.tuple #[.int .i64 (Bn p.acts i),.int .i64 0])) (congrArg (λq=>AV.lit (.tuple #[.int .i64 (Bn p.acts q),.int .i64 0])) (show i=p.acts.length by omega)))
structure Rv where
 homes:List V3
 flight:Int
 waits:List Int
 rises:List Int
structure Rl where
 spare:Int
 wait:Int
 rise:Int
def Rl.none:Rl:=⟨0,0,0⟩
abbrev Dh (l:List Int):AV:= .slc 1 l.length λi=> .int (l.getD i 0)
abbrev Hf (r:Rv):AV:= .agg [Ll r.homes,.int r.flight,Dh r.waits,Dh r.rises]
abbrev Cq (x:Rl):AV:= .lit (.agg #[.int .i64 x.spare,.int .i64 x.wait,.int .i64 x.rise])
abbrev Abu (l:List Rl):AV:= .sl 3 l.length λi=>Cq (l.getD i Rl.none)
structure Ue (r:Rv):Prop where
 n:r.homes.length<=1000000
 w:r.waits.length<=1000000
 s:r.rises.length<=1000000
 fl:Co r.flight
def Nu (l:List Int) (m:Int):Prop:=1<=l.length/\l.length<=16/\∀i,i<l.length->0<=l.getD i 0/\l.getD i 0<=m/\(0<i->l.getD (i-1) 0<l.getD i 0)
theorem Adn {l:List Int} {m:Int} (h1:1<=l.length) (h2:l.length<=16) (h3:0<=l.getD 0 0) (h4:l.getD (l.length-1) 0<=m) (h5:∀i,i<l.length-1->l.getD i 0<l.getD (1+i) 0):Nu l m:=by
 have lo:∀i,i<l.length->0<=l.getD i 0:=by
  intro i
  induction i with
  |zero=>intro _;exact h3
  |succ i ih=>intro hi;have:=ih ω;have:=h5 i ω;rw[Nat.add_comm 1 i] at this;omega
 have hi:∀j i,i+j=l.length-1->i<l.length->l.getD i 0<=m:=by
  intro j
  induction j with
  |zero=>intro i h _;rw[show i=l.length-1 by omega];exact h4
  |succ j ih=>intro i h h6;have:=ih (i+1) ω ω;have:=h5 i ω;rw[Nat.add_comm 1 i] at this;omega
 exact⟨h1,h2,λi h6=>⟨lo i h6,hi (l.length-1-i) i ω h6,λh7=>by
  have:=h5 (i-1) ω
  rwa [show 1+(i-1)=i by omega] at this⟩⟩
def tm4 (x:Int):Int:=Int.tmod x 4
theorem Aan {a b:Prop} (h:a↔b):bP a=bP b:=by
 by_cases g:a
 rw[Dm g,Dm (h.1 g)]
 rw[Ao g,Ao λk=>g (h.2 k)]
def Kd (r:Rv):Prop:=(1<=r.homes.length/\r.homes.length<=8/\4<=r.flight/\r.flight<=3600000/\tm4 r.flight=0)/\(∀i,i<r.homes.length->Dy 1048576 [(r.homes.getD i V3.zero).x,(r.homes.getD i V3.zero).y,(r.homes.getD i V3.zero).z]=true/\∀j,j<i->¬((r.homes.getD j V3.zero).x=(r.homes.getD i V3.zero).x/\(r.homes.getD j V3.zero).y=(r.homes.getD i V3.zero).y/\(r.homes.getD j V3.zero).z=(r.homes.getD i V3.zero).z))/\Nu r.waits 3600000/\Nu r.rises 1048576
def Xd (l:List Ac) (a:Int):Nat->Nat->Nat
 |0,i=>i
 |k+1,i=>if a<=Bn l (i+1) then i else Xd l a k (i+1)
theorem uI {l:List Ac} {a:Int}:∀k i j,i<=j->j<=i+k->(∀q,i<=q->q<j->Bn l (q+1)<a)->(j=i+k\/a<=Bn l (j+1))->Xd l a k i=j
 |0,i,j,h1,h2,_,_=>by rw[Xd];omega
 |k+1,i,j,h1,h2,h3,h4=>by
  rw[Xd]
  by_cases h:i=j
  subst h
  rw[if_pos ω]
  have:=h3 i ω ω
  rw[if_neg ω]
  exact uI k (i+1) j ω ω (λq g1 g2=>h3 q ω g2) ω
theorem uK {l:List Ac} {a:Int}:∀k i,i<=Xd l a k i/\Xd l a k i<=i+k
 |0,i=>by rw[Xd];omega
 |k+1,i=>by
  have:=uK (l:=l) (a:=a) k (i+1)
  rw[Xd]
  split<;>omega
def Oa (p:Pr) (c:Cs) (a:Int):Nat:=Xd p.acts a (p.acts.length-(c.act.toNat+1)) (c.act.toNat+1)
theorem uL {p:Pr} {c:Cs} {a:Int} {j:Nat} (h1:c.act.toNat+1<=j) (h2:j<=p.acts.length) (h3:∀q,c.act.toNat+1<=q->q<j->Bn p.acts (q+1)<a) (h4:j=p.acts.length\/a<=Bn p.acts (j+1)):Oa p c a=j:=
 uI _ _ _ h1 ω h3 ω
def La (p:Pr) (r:Rv) (c:Cs) (w:Int):Int:=Bq p c+w+r.flight
def rE (p:Pr) (c:Cs) (i:Nat):V3:=((p.acts.getD i Ac.none).moves.getD c.craft.toNat Mv.none).to
def Ou (l:List Nat) (j:Nat):List Nat:=(l.set (j+1) (l.getD j 0)).set j (l.getD (j+1) 0)
theorem Mf (l:List Nat) (j:Nat):(Ou l j).length=l.length:=by simp[Ou]
theorem bK (l:List Nat) (j x:Nat) (h:j+1<l.length):(Ou l j).getD x 0=if x=j then l.getD (j+1) 0 else if x=j+1 then l.getD j 0 else l.getD x 0:=by
 unfold Ou
 simp only[List.getD_eq_getElem?_getD,List.getElem?_set,List.length_set]
 by_cases h1:x=j
 subst h1
 simp[show x<l.length by omega]
 by_cases h2:x=j+1
 subst h2
 simp[h]
 rw[if_neg (λe=>h1 e.symm),if_neg (λe=>h2 e.symm),if_neg h1,if_neg h2]
def Us (lt:Nat->Nat->Bool) (l:List Nat):Nat->List Nat
 |0=>l
 |j+1=>if lt (l.getD (j+1) 0) (l.getD j 0) then Us lt (Ou l j) j else l
def Lt (lt:Nat->Nat->Bool) (l:List Nat):Nat->List Nat
 |0=>l
 |i+1=>Us lt (Lt lt l i) (i+1)
theorem mJ (lt:Nat->Nat->Bool):∀j l,(Us lt l j).length=l.length
 |0,_=>rfl
 |j+1,l=>by
  rw[Us]
  split
  rw[mJ lt j,Mf]
  rfl
theorem mK (lt:Nat->Nat->Bool) {n:Nat}:∀j l,j<l.length->(∀x,x<l.length->l.getD x 0<n)->∀x,x<l.length->(Us lt l j).getD x 0<n
 |0,_,_,h=>h
 |j+1,l,hj,h=>by
  rw[Us]
  split
  have:=mK lt j (Ou l j) (by rw[Mf];omega) (n:=n) (λx hx=>by
   rw[Mf] at hx
   rw[bK _ _ _ hj]
   split
   exact h _ hj
   split
   exact h _ ω
   exact h x hx)
  rwa [Mf] at this
  exact h
theorem Oq (lt:Nat->Nat->Bool) (l:List Nat):∀i,(Lt lt l i).length=l.length
 |0=>rfl
 |i+1=>by rw[Lt,mJ,Oq lt l i]
theorem bI (lt:Nat->Nat->Bool) {n:Nat} (l:List Nat) (h:∀x,x<l.length->l.getD x 0<n):∀i,i<l.length->∀x,x<l.length->(Lt lt l i).getD x 0<n
 |0,_=>h
 |i+1,hi=>by
  have:=mK lt (n:=n) (i+1) (Lt lt l i) (by rw[Oq];exact hi) (λx hx=>by
   rw[Oq] at hx
   exact bI lt l h i ω x hx)
  rw[Oq] at this
  rw[Lt];exact this
def Sn (r:Rv) (v:V3) (i:Nat):Int:=((r.homes.getD i V3.zero).x-v.x)*((r.homes.getD i V3.zero).x-v.x)+((r.homes.getD i V3.zero).y-v.y)*((r.homes.getD i V3.zero).y-v.y)+((r.homes.getD i V3.zero).z-v.z)*((r.homes.getD i V3.zero).z-v.z)
def cF (r:Rv) (v:V3) (a b:Nat):Bool:=decide (Sn r v a<Sn r v b\/(Sn r v a=Sn r v b/\a<b))
def Eb (r:Rv) (v:V3):List Nat:=Lt (cF r v) (List.range r.homes.length) (r.homes.length-1)
theorem Vo {n x:Nat} (h:x<n):(List.range n).getD x 0=x:=by
 rw[List.getD_eq_getElem?_getD,List.getElem?_range h];rfl
theorem Vh (r:Rv) (v:V3) {x:Nat} (h:x<r.homes.length):(Eb r v).getD x 0<r.homes.length:=by
 have:=bI (cF r v) (n:=r.homes.length) (List.range r.homes.length) (λx hx=>by
  rw[List.length_range] at hx
  rw[Vo hx];exact hx) (r.homes.length-1) (by rw[List.length_range];omega) x (by rw[List.length_range];exact h)
 exact this
def Jz (v:V3) (w:Int):Bool:=Dy 1048576 [v.x,v.y,v.z+w]
def cS (r:Rv) (w:Int) (v:V3) (i:Nat):Nat->List Rl
 |0=>[]
 |q+1=>cS r w v i q++if Jz (r.homes.getD i V3.zero) (r.rises.getD q 0)&&Jz v (r.rises.getD q 0) then [⟨(i:Int),w,r.rises.getD q 0⟩] else []
def jK (r:Rv) (w:Int) (v:V3) (o:List Nat):Nat->List Rl
 |0=>[]
 |m+1=>jK r w v o m++cS r w v (o.getD m 0) r.rises.length
def Bj (p:Pr) (r:Rv) (c:Cs) (k:Nat):V3:=rE p c (Oa p c (La p r c (r.waits.getD k 0)))
def jJ (p:Pr) (r:Rv) (c:Cs) (k:Nat):Bool:=decide (Oa p c (La p r c (r.waits.getD k 0))<p.acts.length)
def Jc (p:Pr) (r:Rv) (c:Cs):Nat->List Rl
 |0=>[]
 |k+1=>Jc p r c k++if jJ p r c k then jK r (r.waits.getD k 0) (Bj p r c k) (Eb r (Bj p r c k)) r.homes.length else []
def Om (p:Pr) (r:Rv) (c:Cs):List Rl:=Jc p r c r.waits.length
def Ol (p:Pr) (r:Rv) (c:Cs) (k m:Nat):List Rl:=Jc p r c k++jK r (r.waits.getD k 0) (Bj p r c k) (Eb r (Bj p r c k)) m
def Eu (p:Pr) (r:Rv) (c:Cs) (k m u:Nat):List Rl:=Ol p r c k m++cS r (r.waits.getD k 0) (Bj p r c k) ((Eb r (Bj p r c k)).getD m 0) u
theorem qR (p:Pr) (r:Rv) (c:Cs) (k:Nat):Ol p r c k 0=Jc p r c k:=List.append_nil _
theorem bC (p:Pr) (r:Rv) (c:Cs) (k m:Nat):Eu p r c k m 0=Ol p r c k m:=List.append_nil _
theorem Ts (p:Pr) (r:Rv) (c:Cs) (k m:Nat):Eu p r c k m r.rises.length=Ol p r c k (m+1):=by rw[Eu,Ol,Ol,jK,List.append_assoc]
theorem bD {p:Pr} {r:Rv} {c:Cs} {k:Nat} (h:jJ p r c k=true):Ol p r c k r.homes.length=Jc p r c (k+1):=by rw[Ol,Jc,if_pos h]
theorem jL {p:Pr} {r:Rv} {c:Cs} {k:Nat} (h:jJ p r c k=false):Jc p r c (k+1)=Jc p r c k:=by rw[Jc,if_neg (by rw[h];decide),List.append_nil]
theorem Ib {p:Pr} {r:Rv} {c:Cs} {k m u:Nat} (h:Jz (r.homes.getD ((Eb r (Bj p r c k)).getD m 0) V3.zero) (r.rises.getD u 0)=true) (g:Jz (Bj p r c k) (r.rises.getD u 0)=true):Eu p r c k m (u+1)=Eu p r c k m u++[⟨(((Eb r (Bj p r c k)).getD m 0:Nat):Int),r.waits.getD k 0,r.rises.getD u 0⟩]:=by
 rw[Eu,Eu,cS,h,g,Bool.and_self,if_pos rfl,List.append_assoc]
theorem Ez {p:Pr} {r:Rv} {c:Cs} {k m u:Nat} (h:Jz (r.homes.getD ((Eb r (Bj p r c k)).getD m 0) V3.zero) (r.rises.getD u 0)=false\/Jz (Bj p r c k) (r.rises.getD u 0)=false):Eu p r c k m (u+1)=Eu p r c k m u:=by
 rw[Eu,Eu,cS,if_neg (by rcases h with h|h<;>rw[h]<;>simp only[Bool.and_false,Bool.false_and]<;>exact Bool.false_ne_true),List.append_nil]
theorem Aeq {s:Sg} {a d:Int} (ho:s.o≠0) (hd:d≠0):plG s a d≠0:=by
 have h0:(eW s d).natAbs≠0:=by
  unfold eW
  rw[Int.natAbs_mul,Int.natAbs_pow]
  have h1:0<s.o.natAbs:=by omega
  have h2:0<d.natAbs^5:=Nat.pow_pos ω
  exact Nat.ne_of_gt (Nat.mul_pos h1 h2)
 have g:∀x y:Int,x.natAbs≠0->(Nat.gcd x.natAbs y.natAbs:Int).natAbs≠0:=λx y hx=>by
  rw[Int.natAbs_natCast]
  exact Nat.ne_of_gt (Nat.gcd_pos_of_pos_left _ ω)
 have h:=g _ (plZ s a d) (g _ (plY s a d) (g _ (xG s a d) h0))
 unfold plG
 omega
theorem Ze (s:Sg) (a d:Int) (hs:Tf s) (ho:Gx s) (ha:Co a) (hd:Co d) (h0:d≠0):AF Tryz.prog 67 [Cn s,.int a,.int d] (jD (Ia s a d)):=
 zO s a d hs ho.2.1.2.1 ho.2.2.1.2.1 ho.2.2.2.1.2.1 ha hd (Aeq (by have:=ho.1.2.2.2.1;omega) h0)
def Oe (s u:Sg):Prop:=s.t=u.f/\Ia s 1 1=Ia u 0 1
instance (s u:Sg):Decidable (Oe s u):=by unfold Oe;infer_instance
def Fn (l:List Sg):Prop:=(∀i,i<l.length->Gx (l.getD i Sg.none)/\(0<i->Oe (l.getD (i-1) Sg.none) (l.getD i Sg.none)))/\1<=l.length/\l.length<=256
instance (l:List Sg):Decidable (Fn l):=by unfold Fn;infer_instance
def Dg (l:List Sg):Prop:=l.length<=1000000/\∀i,Tf (l.getD i Sg.none)
theorem Pm:Co 0:=⟨δ,δ⟩
theorem iN:Co 1:=⟨δ,δ⟩
theorem kL (s u:Sg) (hs:Tf s) (hu:Tf u) (ho:Gx s) (hp:Gx u):AF Tryz.prog 93 [Cn s,Cn u] (.bool (bP (Oe s u))):=by
 refine Cc func93 rfl λB D0 hA0=>?_
 refine Ae 8 (uP (s.t=u.f) (λhx1 hx1d=>?_) (λhx1 hx1d=>?_))
 ·
  exact Jf [(4,.bool true,.none),(7,_,.none),(9,_,.none),(10,.bool (decide (Ia s 1 1=Ia u 0 1)),.none)] [4] ⟨jX hx1,Fx (Ze s 1 1 hs ho iN iN δ),Fx (Ze u 0 1 hu hp Pm iN δ),Bc (Yr 72 72 (.tmp 12) (.tmp 14) κ _ _ κ κ κ (decide (Ia s 1 1=Ia u 0 1)) (Ac8 (Ia s 1 1) (Ia u 0 1))),trivial⟩ (Ae 2 (Fa (.bool (decide (Ia s 1 1=Ia u 0 1))) (congrArg AV.bool (if hz:Ia s 1 1=Ia u 0 1 then (decide_eq_true hz).trans (Dm ⟨by assumption,hz⟩).symm else (decide_eq_false hz).trans (Ao (λg=>hz g.2)).symm))))
 ·
  exact Jf [(4,.bool false,.none)] [4] ⟨jX hx1,trivial⟩ (Ae 2 (Fa (.bool false) (congrArg AV.bool (Ao (λg=>absurd g.1 (by assumption))).symm)))
theorem Pc (l:List Sg) (hl:Dg l):AF Tryz.prog 64 [Ai l] (.bool (bP (Fn l))):=by
 have hln:=hl.1
 refine Cc func64 rfl λB D0 hA0=>?_
 refine Ae 14 (Lh [0,5,6,7] l.length (λi=>∀q,q<i->Gx (l.getD q Sg.none)/\(0<q->Oe (l.getD (q-1) Sg.none) (l.getD q Sg.none))) (λi=>⟨[(0,Ai l),(5,Ai l),(6,.int ((l).length:Int)),(7,.int (i:Int))],[],0,38⟩) (λq hq=>absurd hq (Nat.not_lt_zero q)) (λi hin hFi J1 hJ1=>?_))
 refine Ae 6 (Fd 8 ((i:Int)<((l).length:Int)) (λhx1 hx1d=>?_) (λhx1 hx1d=>?_))
 ·
  refine Ae 8 (Ga i ((l).length) (Ae 7 (uP (Gx (l.getD i Sg.none)) (λhx2 hx2d=>?_) (λhx2 hx2d=>?_))))
  ·
   refine uP ((0:Int)<(i:Int)) (λhx3 hx3d=>?_) (λhx3 hx3d=>?_)
   ·
    refine Jf [(1,.bool true,.none),(5,.bool true,.none),(9,.int ((i-1:Nat):Int),.none),(10,Fi (Ai l) (i-1),.none),(13,_,.none)] [0,5,6,7,28] ⟨kbC hx2 (Fx (Qi (l.getD i Sg.none) (hl.2 i))),jX hx3,Bc (Ca (v:= .int .i64 (IntKind.wrap .i64 ((i:Int)-1))) (v':= .int .i64 ((i-1:Nat):Int)) _ κ rfl κ (λw=>by kernel_rfl) (congrArg (Value.int .i64) ((IntWalk.i64_in _ ω).trans ω))),Ni (i-1) ((l).length),Fx (kL _ _ (hl.2 (i-1)) (hl.2 i) (hFi (i-1) ω).1 (of_decide_eq_true (by assumption))),trivial⟩ (Ae 1 (cX 28 (bP (Oe (l.getD (i-1) Sg.none) (l.getD i Sg.none))) (λhx4=>?_) (λhx4=>?_)))
    ·
     exact Ae 5 (Ev ((i:Int)+1) ((i+1:Nat):Int) (Ae 2 (Gk [0,5,6,7] [] 0 0 hA0 [] trivial (hJ1 ω (λq hq=>(Nat.lt_or_ge q i).elim (λg=>hFi q g) λg=>by have e:q=i:=(ω);subst e;exact⟨of_decide_eq_true hx2,λ_=>Ew hx4⟩)))))
    ·
     exact Ae 12 (Fa (.bool false) (congrArg AV.bool (Ao (by rintro⟨g1,g2,g3⟩;first|omega|exact Pf hx4 ((g1 i ω).2 ω)|exact absurd (g1 i ω).1 (of_decide_eq_false hx2))).symm))
   ·
    exact Jf [(1,.bool true,.none),(5,.bool false,.none)] [0,5,6,7,28] ⟨kbC hx2 (Fx (Qi (l.getD i Sg.none) (hl.2 i))),jX hx3,trivial⟩ (Ae 6 (Ev ((i:Int)+1) ((i+1:Nat):Int) (Ae 2 (Gk [0,5,6,7] [] 0 0 hA0 [] trivial (hJ1 ω (λq hq=>(Nat.lt_or_ge q i).elim (λg=>hFi q g) λg=>by have e:q=i:=(ω);subst e;exact⟨of_decide_eq_true hx2,λhz=>absurd hz ω⟩))))))
  ·
   exact Jf [(1,.bool false,.none)] [0,5,6,7,28] ⟨kbC hx2 (Fx (Qi (l.getD i Sg.none) (hl.2 i))),trivial⟩ (Ae 13 (Fa (.bool false) (congrArg AV.bool (Ao (by rintro⟨g1,g2,g3⟩;first|omega|exact absurd (g1 i ω).1 (of_decide_eq_false hx2))).symm)))
 ·
  refine Ae 12 (Fd 33 ((1:Int)<=((l).length:Int)) (λhx5 hx5d=>?_) (λhx5 hx5d=>?_))
  ·
   exact Ae 8 (Fa (.bool (decide (((l).length:Int)<=256))) (congrArg AV.bool (if hz:l.length<=256 then (decide_eq_true ω).trans (Dm ⟨λq hq=>hFi q ω,ω,ω⟩).symm else (decide_eq_false ω).trans (Ao (λg=>hz g.2.2)).symm)))
  ·
   exact Ae 8 (Fa (.bool false) (congrArg AV.bool (Ao (by rintro⟨g1,g2,g3⟩;first|omega)).symm))
theorem gP (l:List Int) (v:Value) (w:World) (h:Bx w 0 w.heap.size 1 v l.length (Dc l)) (hl:0<l.length) (hm:l.length<=1000000):
  Calls Tryz.prog 142 #[v] w λe w'=>∃v',e= .returned v'/\Bx w' w.heap.size w'.heap.size 1 v' l.length (Dc l)/\Below w.heap.size w w':=by
 obtain⟨i0,hi0,hz0,hz1,hz2⟩:=info_parts aE
 obtain⟨b,o,c,rfl,_,hb,hc⟩:=h.pos hl
 have hnil:=λW=>Lib.run_eql_slice_nil (P:=Tryz.prog) W 23 3 (some ⟨b,o,none⟩) l.length c 0 0 underlying23
 clear hc
 go_enter func142,ntmps142
 have hown:=Vi w [] 0 w.heap.size 1 3 rfl rfl δ
 have hs1:=h.up ((Below.refl w.heap.size w).alloc (Nat.le_refl _) (.cells #[] 3))
 go_wp2_with (at_builtin;refine En rfl (.tmp 5) (.tmp 6) 23 rfl w.heap.size 3 i0 _ 1 8 underlying23 hi0 hz0 hz1 hz2 rfl δ _ _ _ rfl hown _ _ _ _ rfl hs1 (aF l) ?_ ?_ ?_ ?_)
 · unfold maxLen;omega
 · omega
 · simp
 intro v' w1 hown1 hg1 hat1
 go_wp2
 go_ret
 refine⟨_,rfl,Bx.own hown1,((Below.refl _ _).alloc (Nat.le_refl _) _).grown hg1 (by simp) ?_⟩
 rintro j hj
 simp[Value.ownBlock] at hj
 omega
theorem Ef (l:List Int) (hl:0<l.length) (hm:l.length<=1000000):AF Tryz.prog 142 [Bf l] (Bf l):=rV λE us hD hn hv=>by
 rw[iU hn]
 have h0:=hv 0 (by simp)
 have h1:Cv E.w E.D 1 (us.getD 0 undef) l.length (Dc l):=Ady (E:=E.fz) h0
 refine(gP l _ E.w (h1.more λb hb=>⟨Nat.zero_le _,hD b hb⟩) hl hm).mono ?_
 rintro e w' ⟨v',rfl,hs,hb⟩
 exact⟨_,rfl,hb,λE' h1 h2 h3=>Yi hs h1 λb hb=>h3 b hb.1 hb.2⟩
def rZ (l:List Sg):Prop:=∀i,i<l.length->(0<(l.getD i Sg.none).x.length/\(l.getD i Sg.none).x.length<=6)/\(0<(l.getD i Sg.none).y.length/\(l.getD i Sg.none).y.length<=6)/\(0<(l.getD i Sg.none).z.length/\(l.getD i Sg.none).z.length<=6)
theorem Acf (l:List Sg) (hn:l.length<=1000000) (hl:0<l.length) (hc:rZ l):AF Tryz.prog 117 [Ai l] (Ai l):=by
 refine Cc func117 rfl λB D0 hA0=>?_
 refine Ae 19 (fG [3,6,7,8] (λm s=>∃i,i<=l.length/\m=l.length-i/\True/\((i=0/\s=⟨[(3,.lit (.slice none 0 0)),(6,Ai l),(7,.int ((l).length:Int)),(8,.int ((0:Nat):Int))],[],0,30⟩)\/(0<i/\s=⟨[(3,.osl 9 6 i),(6,Ai l),(7,.int ((l).length:Int)),(8,.int (i:Int))],[(9,.vec 81 6 i (λxi=>Cn (l.getD xi Sg.none)))],10,30⟩))) l.length ⟨0,Nat.zero_le _,rfl,trivial,.inl ⟨rfl,κ⟩⟩ ?_)
 rintro _ _ ⟨i,hin,rfl,hFi,(⟨hi0,rfl⟩|⟨hi0,rfl⟩)⟩ J1 hJ1
 ·
  subst hi0
  refine Ae 6 (Fd 9 (((0:Nat):Int)<((l).length:Int)) (λhx1 hx1d=>?_) (λhx1 hx1d=>?_))
  ·
   exact Ae 7 (Ga 0 ((l).length) (Ae 6 (Jf [(2,_,.none),(5,_,.none),(8,_,.none)] [3,5,6,7,8] ⟨Fx (Ef _ (hc 0 ω).1.1 (by have:=(hc 0 ω).1.2;omega)),Fx (Ef _ (hc 0 ω).2.1.1 (by have:=(hc 0 ω).2.1.2;omega)),Fx (Ef _ (hc 0 ω).2.2.1 (by have:=(hc 0 ω).2.2.2;omega)),trivial⟩ (Ae 4 (Cb (.osl 1 6 1) (.new 1 (.vec 81 6 1 (λ_=>Cn ((l).getD 0 Sg.none)))) (Aj 54 1 #[(0,(.tmp 25))] κ underlying54 6 sizeOf81 _ zeroValue81 κ β β β 1 [.int (((l).getD 0 Sg.none).f),.int (((l).getD 0 Sg.none).t),.int (((l).getD 0 Sg.none).o),Bf (((l).getD 0 Sg.none).x),Bf (((l).getD 0 Sg.none).y),Bf (((l).getD 0 Sg.none).z)] κ (λ_=>Cn ((l).getD 0 Sg.none)) κ) (Cb (.osl 2 6 1) (.newr 1 2 (.vec 81 6 1 (λxi=>Cn (l.getD xi Sg.none)))) (Cf (.tmp 24) (.tmp 26) 54 κ underlying54 6 96 (.agg #[.int .i64 0,.int .i64 0,.int .i64 0,.slice none 0 0,.slice none 0 0,.slice none 0 0]) κ κ δ 1 ω (λ_=>Cn ((l).getD 0 Sg.none)) (λxi=>Cn (l.getD xi Sg.none)) 2 (λi hi=>by(obtain rfl:i=0:=(ω));rfl) (λi hi j hj=>match j,hj with|0,_=>rfl|1,_=>rfl|2,_=>rfl|3,_=>rfl|4,_=>rfl|5,_=>rfl|_+6,h=>absurd h ω) (by unfold maxLen;omega) ω κ 1 81 κ κ) (Ae 5 (Ev (((0:Nat):Int)+1) ((0+1:Nat):Int) (Ae 2 (Gk [3,6,7,8] [(2,9)] 10 0 hA0 [(81,6,1,(λ_=>Cn ((l).getD 0 Sg.none))),(81,6,1,(λxi=>Cn (l.getD xi Sg.none)))] ⟨(Gp λ_ _=>rfl),(Gp λ_ _=>rfl),trivial⟩ (hJ1 _ _ (by omega:l.length-(0+1)<l.length-0) ⟨0+1,ω,rfl,trivial,.inr ⟨Nat.succ_pos _,rfl⟩⟩)))))))))))
  ·
   exact Ae 13 (Fa (.lit (.slice none 0 0)) (by exfalso;omega))
 ·
  refine Ae 6 (Fd 9 ((i:Int)<((l).length:Int)) (λhx2 hx2d=>?_) (λhx2 hx2d=>?_))
  ·
   exact Ae 7 (Ga i ((l).length) (Ae 6 (Jf [(2,_,.none),(5,_,.none),(8,_,.none)] [3,5,6,7,8] ⟨Fx (Ef _ (hc i ω).1.1 (by have:=(hc i ω).1.2;omega)),Fx (Ef _ (hc i ω).2.1.1 (by have:=(hc i ω).2.1.2;omega)),Fx (Ef _ (hc i ω).2.2.1 (by have:=(hc i ω).2.2.2;omega)),trivial⟩ (Ae 4 (Cb (.osl 11 6 1) (.new 11 (.vec 81 6 1 (λ_=>Cn ((l).getD i Sg.none)))) (Aj 54 1 #[(0,(.tmp 25))] κ underlying54 6 sizeOf81 _ zeroValue81 κ β β β 11 [.int (((l).getD i Sg.none).f),.int (((l).getD i Sg.none).t),.int (((l).getD i Sg.none).o),Bf (((l).getD i Sg.none).x),Bf (((l).getD i Sg.none).y),Bf (((l).getD i Sg.none).z)] κ (λ_=>Cn ((l).getD i Sg.none)) κ) (Cb (.osl 12 6 (i+1)) (.grow2 9 11 12 (.vec 81 6 (i+1) (λxi=>Cn (l.getD xi Sg.none)))) (Cu (.tmp 24) (.tmp 26) 54 κ underlying54 6 96 (.agg #[.int .i64 0,.int .i64 0,.int .i64 0,.slice none 0 0,.slice none 0 0,.slice none 0 0]) κ κ δ i 1 ω (λxi=>Cn (l.getD xi Sg.none)) (λ_=>Cn ((l).getD i Sg.none)) (λxi=>Cn (l.getD xi Sg.none)) 12 ω (by unfold maxLen;omega) (λi hi=>rfl) (λi hi=>by(obtain rfl:i=0:=(ω));rfl) (λi hi j hj=>match j,hj with|0,_=>rfl|1,_=>rfl|2,_=>rfl|3,_=>rfl|4,_=>rfl|5,_=>rfl|_+6,h=>absurd h ω) 9 κ κ 11 81 κ κ) (Ae 5 (Ev ((i:Int)+1) ((i+1:Nat):Int) (Ae 2 (Gk [3,6,7,8] [(12,9)] 10 0 hA0 [(81,6,1,(λ_=>Cn ((l).getD i Sg.none))),(81,6,i+1,(λxi=>Cn (l.getD xi Sg.none)))] ⟨(Gp λ_ _=>rfl),(Gp λ_ _=>rfl),trivial⟩ (hJ1 _ _ (by omega:l.length-(i+1)<l.length-i) ⟨i+1,ω,rfl,trivial,.inr ⟨Nat.succ_pos _,rfl⟩⟩)))))))))))
  ·
   exact Ae 12 (Yc 9 [2] 81 6 i (λxi=>Cn (l.getD xi Sg.none)) (Gp λ_ _=>rfl) (Ae 1 (Fa (.sl 6 i (λxi=>Cn (l.getD xi Sg.none))) (congrArg (λq=>AV.sl 6 q λxi=>Cn (l.getD xi Sg.none)) (show i=l.length by omega)))))
theorem Vl {l:List Sg} (h:Fn l):rZ l:=λi hi=>by
 have h1:=(h.1 i hi).1
 exact⟨⟨h1.2.1.1,h1.2.1.2.1⟩,⟨h1.2.2.1.1,h1.2.2.1.2.1⟩,⟨h1.2.2.2.1.1,h1.2.2.2.1.2.1⟩⟩
theorem Kw {l r:List Sg} (i:Nat):(l++r).getD i Sg.none=if i<l.length then l.getD i Sg.none else r.getD (i-l.length) Sg.none:=by
 simp only[List.getD_eq_getElem?_getD,List.getElem?_append]
 split<;>rfl
noncomputable def Nw (a b:List Sg):List Sg×Int:=
 if bP (Fn a)=false\/bP (Fn b)=false then ([],2) else if bP (Oe (a.getD (a.length-1) Sg.none) (b.getD 0 Sg.none))=false then ([],10) else if 256<a.length+b.length then ([],7) else (a++b,0)
theorem sH {a b:List Sg} (h:bP (Fn a)=false\/bP (Fn b)=false):Nw a b=([],2):=by unfold Nw;rw[if_pos h]
theorem vJ {a b:List Sg} (h1:bP (Fn a)=true) (h2:bP (Fn b)=true) (h:bP (Oe (a.getD (a.length-1) Sg.none) (b.getD 0 Sg.none))=false):Nw a b=([],10):=by unfold Nw;rw[if_neg (by simp[h1,h2]),if_pos h]
theorem Aah {a b:List Sg} (h1:bP (Fn a)=true) (h2:bP (Fn b)=true) (h:bP (Oe (a.getD (a.length-1) Sg.none) (b.getD 0 Sg.none))=true) (h3:256<a.length+b.length):Nw a b=([],7):=by unfold Nw;rw[if_neg (by simp[h1,h2]),if_neg (λg=>by rw[h] at g;cases g),if_pos h3]
theorem Aai {a b:List Sg} (h1:bP (Fn a)=true) (h2:bP (Fn b)=true) (h:bP (Oe (a.getD (a.length-1) Sg.none) (b.getD 0 Sg.none))=true) (h3:¬256<a.length+b.length):Nw a b=(a++b,0):=by unfold Nw;rw[if_neg (by simp[h1,h2]),if_neg (λg=>by rw[h] at g;cases g),if_neg h3]
def jM (r:List Sg×Int):AV:=if r.2=0 then .tup [Ai r.1,.int 0] else .lit (.tuple #[.slice none 0 0,.int .i64 r.2])
theorem On {r:List Sg×Int} {e:Int} {l:List Sg} (h:r=(l,e)) (he:e≠0):jM r= .lit (.tuple #[.slice none 0 0,.int .i64 e]):=by
 subst h;unfold jM;rw[if_neg he]
theorem tY {r:List Sg×Int} {l:List Sg} (h:r=(l,0)):jM r= .tup [Ai l,.int 0]:=by
 subst h;unfold jM;rw[if_pos rfl]
theorem uS (a b:List Sg) (ha:Dg a) (hb:Dg b):AF Tryz.prog 88 [Ai a,Ai b] (jM (Nw a b)):=by
 have han:=ha.1
 have hbn:=hb.1
 refine Cc func88 rfl λB D0 hA0=>?_
 refine Ae 11 (Ct (Pc a ha) (Ae 2 (cX 10 (bP (Fn a)) (λhx1=>?_) (λhx1=>?_))))
 ·
  have hx1l:=(Ew hx1).2
  have hac:=Vl (Ew hx1)
  refine Ae 1 (Ct (Pc b hb) (Ae 5 (cX 6 (bP (Fn b)) (λhx2=>?_) (λhx2=>?_))))
  ·
   have hx2l:=(Ew hx2).2
   refine Ae 2 (Jf [(3,.int (((a).length-1:Nat):Int),.none),(4,Fi (Ai a) ((a).length-1),.none),(7,Fi (Ai b) 0,.none),(9,_,.none)] [0,1,15] ⟨Bc (Ca (v:= .int .i64 (IntKind.wrap .i64 (((a).length:Int)-1))) (v':= .int .i64 (((a).length-1:Nat):Int)) _ κ rfl κ (λw=>by kernel_rfl) (congrArg (Value.int .i64) ((IntWalk.i64_in _ ω).trans ω))),Ni ((a).length-1) ((a).length),Ni 0 ((b).length),Fx (kL (a.getD (a.length-1) Sg.none) (b.getD 0 Sg.none) (ha.2 _) (hb.2 _) ((Ew hx1).1 _ ω).1 ((Ew hx2).1 0 ω).1),trivial⟩ (Ae 1 (cX 15 (bP (Oe (a.getD (a.length-1) Sg.none) (b.getD 0 Sg.none))) (λhx3=>?_) (λhx3=>?_))))
   ·
    refine Ae 7 (Ev (((a).length:Int)+((b).length:Int)) (((a).length+(b).length:Nat):Int) (Ae 4 (Fd 27 ((256:Int)<(((a).length+(b).length:Nat):Int)) (λhx4 hx4d=>?_) (λhx4 hx4d=>?_))))
    ·
     exact Ae 10 (Fa (.lit (.tuple #[.slice none 0 0,.int .i64 7])) (On (Aah hx1 hx2 hx3 ω) δ).symm)
    ·
     refine Ae 7 (Yf 0 func117 (λ_ hD5=>?_))
     refine Ae 19 (fG [3,6,7,8] (λm s=>∃i,i<=a.length/\m=a.length-i/\True/\((i=0/\s=⟨[(3,.lit (.slice none 0 0)),(6,Ai a),(7,.int ((a).length:Int)),(8,.int ((0:Nat):Int))],[],0,30⟩)\/(0<i/\s=⟨[(3,.osl 9 6 i),(6,Ai a),(7,.int ((a).length:Int)),(8,.int (i:Int))],[(9,.vec 81 6 i (λxi=>Cn (a.getD xi Sg.none)))],10,30⟩))) a.length ⟨0,Nat.zero_le _,rfl,trivial,.inl ⟨rfl,κ⟩⟩ ?_)
     rintro _ _ ⟨i,hin,rfl,hFi,(⟨hi0,rfl⟩|⟨hi0,rfl⟩)⟩ J1 hJ1
     ·
      subst hi0
      refine Ae 6 (Fd 9 (((0:Nat):Int)<((a).length:Int)) (λhx6 hx6d=>?_) (λhx6 hx6d=>?_))
      ·
       exact Ae 7 (Ga 0 ((a).length) (Ae 6 (Jf [(2,_,.none),(5,_,.none),(8,_,.none)] [3,5,6,7,8] ⟨Fx (Ef _ (hac 0 ω).1.1 (by have:=(hac 0 ω).1.2;omega)),Fx (Ef _ (hac 0 ω).2.1.1 (by have:=(hac 0 ω).2.1.2;omega)),Fx (Ef _ (hac 0 ω).2.2.1 (by have:=(hac 0 ω).2.2.2;omega)),trivial⟩ (Ae 4 (Cb (.osl 1 6 1) (.new 1 (.vec 81 6 1 (λ_=>Cn ((a).getD 0 Sg.none)))) (Aj 54 1 #[(0,(.tmp 25))] κ underlying54 6 sizeOf81 _ zeroValue81 κ β β β 1 [.int (((a).getD 0 Sg.none).f),.int (((a).getD 0 Sg.none).t),.int (((a).getD 0 Sg.none).o),Bf (((a).getD 0 Sg.none).x),Bf (((a).getD 0 Sg.none).y),Bf (((a).getD 0 Sg.none).z)] κ (λ_=>Cn ((a).getD 0 Sg.none)) κ) (Cb (.osl 2 6 1) (.newr 1 2 (.vec 81 6 1 (λxi=>Cn (a.getD xi Sg.none)))) (Cf (.tmp 24) (.tmp 26) 54 κ underlying54 6 96 (.agg #[.int .i64 0,.int .i64 0,.int .i64 0,.slice none 0 0,.slice none 0 0,.slice none 0 0]) κ κ δ 1 ω (λ_=>Cn ((a).getD 0 Sg.none)) (λxi=>Cn (a.getD xi Sg.none)) 2 (λi hi=>by(obtain rfl:i=0:=(ω));rfl) (λi hi j hj=>match j,hj with|0,_=>rfl|1,_=>rfl|2,_=>rfl|3,_=>rfl|4,_=>rfl|5,_=>rfl|_+6,h=>absurd h ω) (by unfold maxLen;omega) ω κ 1 81 κ κ) (Ae 5 (Ev (((0:Nat):Int)+1) ((0+1:Nat):Int) (Ae 2 (Gk [3,6,7,8] [(2,9)] 10 0 hD5 [(81,6,1,(λ_=>Cn ((a).getD 0 Sg.none))),(81,6,1,(λxi=>Cn (a.getD xi Sg.none)))] ⟨(Gp λ_ _=>rfl),(Gp λ_ _=>rfl),trivial⟩ (hJ1 _ _ (by omega:a.length-(0+1)<a.length-0) ⟨0+1,ω,rfl,trivial,.inr ⟨Nat.succ_pos _,rfl⟩⟩)))))))))))
      ·
       refine Ae 6 ?_
       exfalso;omega
     ·
      refine Ae 6 (Fd 9 ((i:Int)<((a).length:Int)) (λhx7 hx7d=>?_) (λhx7 hx7d=>?_))
      ·
       exact Ae 7 (Ga i ((a).length) (Ae 6 (Jf [(2,_,.none),(5,_,.none),(8,_,.none)] [3,5,6,7,8] ⟨Fx (Ef _ (hac i ω).1.1 (by have:=(hac i ω).1.2;omega)),Fx (Ef _ (hac i ω).2.1.1 (by have:=(hac i ω).2.1.2;omega)),Fx (Ef _ (hac i ω).2.2.1 (by have:=(hac i ω).2.2.2;omega)),trivial⟩ (Ae 4 (Cb (.osl 11 6 1) (.new 11 (.vec 81 6 1 (λ_=>Cn ((a).getD i Sg.none)))) (Aj 54 1 #[(0,(.tmp 25))] κ underlying54 6 sizeOf81 _ zeroValue81 κ β β β 11 [.int (((a).getD i Sg.none).f),.int (((a).getD i Sg.none).t),.int (((a).getD i Sg.none).o),Bf (((a).getD i Sg.none).x),Bf (((a).getD i Sg.none).y),Bf (((a).getD i Sg.none).z)] κ (λ_=>Cn ((a).getD i Sg.none)) κ) (Cb (.osl 12 6 (i+1)) (.grow2 9 11 12 (.vec 81 6 (i+1) (λxi=>Cn (a.getD xi Sg.none)))) (Cu (.tmp 24) (.tmp 26) 54 κ underlying54 6 96 (.agg #[.int .i64 0,.int .i64 0,.int .i64 0,.slice none 0 0,.slice none 0 0,.slice none 0 0]) κ κ δ i 1 ω (λxi=>Cn (a.getD xi Sg.none)) (λ_=>Cn ((a).getD i Sg.none)) (λxi=>Cn (a.getD xi Sg.none)) 12 ω (by unfold maxLen;omega) (λi hi=>rfl) (λi hi=>by(obtain rfl:i=0:=(ω));rfl) (λi hi j hj=>match j,hj with|0,_=>rfl|1,_=>rfl|2,_=>rfl|3,_=>rfl|4,_=>rfl|5,_=>rfl|_+6,h=>absurd h ω) 9 κ κ 11 81 κ κ) (Ae 5 (Ev ((i:Int)+1) ((i+1:Nat):Int) (Ae 2 (Gk [3,6,7,8] [(12,9)] 10 0 hD5 [(81,6,1,(λ_=>Cn ((a).getD i Sg.none))),(81,6,i+1,(λxi=>Cn (a.getD xi Sg.none)))] ⟨(Gp λ_ _=>rfl),(Gp λ_ _=>rfl),trivial⟩ (hJ1 _ _ (by omega:a.length-(i+1)<a.length-i) ⟨i+1,ω,rfl,trivial,.inr ⟨Nat.succ_pos _,rfl⟩⟩)))))))))))
      ·
       refine Ae 6 ?_
       have hie:i=a.length:=by omega
       subst hie
       exact Ae 7 (rM (Ae 1 (Ct (Acf b hbn ω (Vl (Ew hx2))) (Cb (.osl 10 6 (a.length+(b).length)) (.grow 9 10 (.vec 81 6 (a.length+(b).length) (λxi=>Cn ((a++b).getD xi Sg.none)))) (cL (.tmp 35) (.tmp 37) 54 κ underlying54 6 96 (.agg #[.int .i64 0,.int .i64 0,.int .i64 0,.slice none 0 0,.slice none 0 0,.slice none 0 0]) κ κ δ a.length ((b).length) ω (λxi=>Cn (a.getD xi Sg.none)) (λi0=>Cn ((b).getD i0 Sg.none)) (λxi=>Cn ((a++b).getD xi Sg.none)) 10 ω (by unfold maxLen;omega) (λi hi=>by show Cn _=Cn _;rw[Kw,if_pos hi]) (λi hi=>by show Cn _=Cn _;rw[Kw,if_neg ω,Nat.add_sub_cancel_left]) (λi hi j hj=>match j,hj with|0,_=>rfl|1,_=>rfl|2,_=>rfl|3,_=>rfl|4,_=>rfl|5,_=>rfl|_+6,h=>absurd h ω) 9 κ κ κ) (Ae 4 (Yc 10 [4] 81 6 (a.length+(b).length) (λxi=>Cn ((a++b).getD xi Sg.none)) (Gp λ_ _=>rfl) (Ae 1 (Fa (.tup [.sl 6 (a.length+(b).length) (λxi=>Cn ((a++b).getD xi Sg.none)),.int 0]) ((tY (Aai hx1 hx2 hx3 ω)).trans (congrArg (λq=>AV.tup [AV.sl 6 q λxi=>Cn ((a++b).getD xi Sg.none),.int 0]) List.length_append)).symm))))))))
   ·
    exact Ae 10 (Fa (.lit (.tuple #[.slice none 0 0,.int .i64 10])) (On (vJ hx1 hx2 hx3) δ).symm)
  ·
   exact Ae 10 (Fa (.lit (.tuple #[.slice none 0 0,.int .i64 2])) (On (sH (.inr hx2)) δ).symm)
 ·
  exact Ae 17 (Fa (.lit (.tuple #[.slice none 0 0,.int .i64 2])) (On (sH (.inl hx1)) δ).symm)
theorem Aci (l:List Sg) (hl:Dg l) (ho:Fn l):AF Tryz.prog 29 [Ai l] (.lit (.tuple #[.int .i64 ((l.getD 0 Sg.none).f),.int .i64 ((l.getD (l.length-1) Sg.none).t),.int .i64 0])):=by
 have hln:=hl.1
 have hlo:=ho.2
 refine Cc func29 rfl λB D0 hA0=>?_
 exact Ae 11 (Ct (Pc l hl) (Ae 3 (Ic 7 (!bP (Fn l)) false (by rw[(Dm ho)];rfl) (Ae 4 (Jf [(1,Fi (Ai l) 0,.none),(7,.int (((l).length-1:Nat):Int),.none),(8,Fi (Ai l) ((l).length-1),.none)] [2,3,4] ⟨Ni 0 ((l).length),Bc (Ca (v:= .int .i64 (IntKind.wrap .i64 (((l).length:Int)-1))) (v':= .int .i64 (((l).length-1:Nat):Int)) _ κ rfl κ (λw=>by kernel_rfl) (congrArg (Value.int .i64) ((IntWalk.i64_in _ ω).trans ω))),Ni ((l).length-1) ((l).length),trivial⟩ (Ae 2 (Gc)))))))
def Wn (a b:V3) (f t k:Int):List Sg×Int:=if Kv a b f t=true then ([So a b f t k],0) else ([],2)
theorem sW (a b:V3) (f t k:Int):vS a b f t k= .tup [Ai (Wn a b f t k).1,.int (Wn a b f t k).2]:=by unfold vS Wn;split<;>rfl
theorem uU (a b:V3) (f t:Int):AF Tryz.prog 49 [Hc a,Hc b,.int f,.int t] (.tup [Ai (Wn a b f t 2).1,.int (Wn a b f t 2).2]):=by rw[<-sW];exact zI a b f t
theorem uV (a:V3) (f t:Int):AF Tryz.prog 62 [Hc a,.int f,.int t] (.tup [Ai (Wn a a f t 0).1,.int (Wn a a f t 0).2]):=by rw[<-sW];exact zK a f t
theorem fM (a b:List Sg) (ha:Dg a) (hb:Dg b) (h:(Nw a b).2=0):AF Tryz.prog 88 [Ai a,Ai b] (.tup [Ai (Nw a b).1,.int 0]):=by
 have:=uS a b ha hb
 unfold jM at this
 rwa [if_pos h] at this
theorem Dg.nil:Dg []:=⟨δ,λi=>by simp[Sg.none];exact⟨Pm,Pm,Pm,λ_=>by simpa using Pm,λ_=>by simpa using Pm,λ_=>by simpa using Pm⟩⟩
theorem bL {a b:Int} (ha: -1048576<=a/\a<=1048576) (hb: -1048576<=b/\b<=1048576) {k:Int} (i:Nat):Co ((Cz a b (Bl k)).getD i 0):=by
 have key:∀x,x∈Cz a b (Bl k)->Co x:=λx hx=>by
  unfold Cz at hx
  rcases List.mem_cons.1 hx with rfl|hx
  exact⟨ω,ω⟩
  split at hx
  cases hx
  obtain⟨y,hy,rfl⟩:=List.mem_map.1 hx
  have hy2: -100<=y/\y<=100:=by
   unfold Bl at hy
   split at hy
   cases hy
   split at hy
   have:y=1:=by simpa using hy
   omega
   simp at hy;omega
  have:=eN y (b-a) hy2 ω
  exact⟨ω,ω⟩
 rw[List.getD_eq_getElem?_getD]
 cases h:(Cz a b (Bl k))[i]? with
 |none=>exact Pm
 |some x=>exact key x (List.mem_of_getElem? h)
theorem Pk {p:Pr} {a k:Int} (h:AdS p a k) (ha:a<=1000) (hk:k<=1000) (hl:∀a∈p.acts,Co a.len):Ki p:=by
 have hm:(1000000:Nat)<=maxLen:=by decide
 refine⟨λs hs=>?_,λx hx=>?_,by have:=h.2.2.1;omega,λx hx=>?_,hl⟩
 obtain⟨i,hi,rfl⟩:=List.getElem_of_mem hs
 have:=h.2.2.2.1 i hi
 rw[List.getD_eq_getElem?_getD,List.getElem?_eq_getElem hi] at this
 simp at this
 omega
 obtain⟨i,hi,rfl⟩:=List.getElem_of_mem hx
 have:=(h.2.2.2.2 i hi).1
 rw[List.getD_eq_getElem?_getD,List.getElem?_eq_getElem hi] at this
 simp at this
 omega
 obtain⟨i,hi,rfl⟩:=List.getElem_of_mem hx
 have:=(h.2.2.2.2 i hi).2
 rw[List.getD_eq_getElem?_getD,List.getElem?_eq_getElem hi] at this
 simp at this
 omega
end Go.Proofs.YtldnjomacnjhnaaGreat
namespace Go.Proofs.YtldnjomacnjhnaaGreat
open Go.Proofs.Tryz
open Go.RowKit
theorem Ji (x:Int) (hx:Ff x):AF Tryz.prog 99 [WA x] (.bool true):=Ja (vs:=[_]) λw=>Jg x w hx
theorem Uc (x:Int) (hx:Ff x):AF Tryz.prog 172 [WA x] (.int x.sign):=Ja (vs:=[_]) λw=>yO x w hx
theorem Ack (x:Int) (hx:Ff x):AF Tryz.prog 179 [WA x] (.int (bitLen x.natAbs:Int)):=Ja (vs:=[_]) λw=>AbT x w hx
theorem Acj (x y:Int) (hx:Ff x) (hy:Ff y) (hz:Ff (x+y)):AF Tryz.prog 102 [WA x,WA y] (.lit (.tuple #[Ak (x+y),.int .i64 0])):=Ja (vs:=[_,_]) λw=>oI x y w hx hy hz
theorem Acl (x y:Int) (hx:Ff x) (hy:Ff y) (hz:Ff (x*y)):AF Tryz.prog 123 [WA x,WA y] (.lit (.tuple #[Ak (x*y),.int .i64 0])):=Ja (vs:=[_,_]) λw=>oK x y w hx hy hz
def Fl (c:Nat->Int):Nat->Nat
 |0=>0
 |n+1=>if c n=0 then Fl c n else n+1
abbrev Bb (n:Nat) (c:Nat->Int):AV:= .sl 2 n λi=>WA (c i)
abbrev AdI (n:Nat) (c:Nat->Int):AV:= .slc 2 n λi=>WA (c i)
theorem Hk (c:Nat->Int):∀n,Fl c n<=n
 |0=>Nat.le_refl _
 |n+1=>by
  unfold Fl
  split
  exact Nat.le_succ_of_le (Hk c n)
  exact Nat.le_refl _
theorem Je (c:Nat->Int):∀n,Fl c n=0\/c (Fl c n-1)≠0
 |0=> .inl rfl
 |n+1=>by
  unfold Fl
  split
  exact Je c n
  rename_i h;exact .inr h
theorem Sk {c:Nat->Int} {n:Nat} (h:n=0\/c (n-1)≠0):Fl c n=n:=by
 cases n with
 |zero=>rfl
 |succ n=>
  unfold Fl
  rcases h with h|h
  cases h
  exact if_neg h
theorem Xa {x:Int}:x.sign=0↔x=0:=Int.sign_eq_zero_iff_zero
theorem rH {c:Nat->Int} {q:Nat} (hq:0<q) (h:(c (q-1)).sign=0):Fl c q=Fl c (q-1):=by
 obtain⟨k,rfl⟩:∃k,q=k+1:=⟨q-1,ω⟩
 rw[Nat.add_sub_cancel] at h ⊢
 rw[Fl,if_pos (Xa.1 h)]
theorem bS {c:Nat->Int} {q n:Nat} (h0:Fl c q=Fl c n) (h:q=0\/(c (q-1)).sign≠0):q=Fl c n:=by
 rw[<-h0]
 exact(Sk (h.imp id λh e=>h (Xa.2 e))).symm
theorem fV (n:Nat) (c:Nat->Int) (hn:n<=1000000) (hc:∀i,i<n->Ff (c i)):AF Tryz.prog 170 [AdI n c] (Bb (Fl c n) c):=by
 refine Cc func170 rfl λB D0 hA0=>?_
 refine Ae 7 (fG [0] (λm s=>∃m1,m=m1+1/\(m1<=n/\Fl c m1=Fl c n)/\s=⟨[(0,AdI m1 c)],[],0,22⟩) (n+1) ⟨n,rfl,⟨Nat.le_refl _,rfl⟩,κ⟩ ?_)
 rintro _ _ ⟨m1,rfl,hF,rfl⟩ J1 hJ1
 obtain⟨hF1,hF2⟩:=hF
 refine Ae 7 (Fd 6 ((0:Int)<((m1:Nat):Int)) (λhx1 hx1d=>?_) (λhx1 hx1d=>?_))
 ·
  refine Ae 3 (Ev (((m1:Nat):Int)-1) ((m1-1:Nat):Int) (Ga (m1-1) m1 (Ae 1 (Ct (Uc (c (m1-1)) (hc _ ω)) (Ae 4 (Fd 15 ((c (m1-1)).sign=0) (λhx2 hx2d=>?_) (λhx2 hx2d=>?_)))))))
  ·
   exact Ae 8 (Ev (((m1:Nat):Int)-1) ((m1-1:Nat):Int) (Cb (.slc 2 (m1-1) (λi0=> .lit (Ak (c i0)))) .none (Sw 202 (.tmp 16) (.tmp 19) κ underlying202 2 m1 sizeOf70 (λi0=> .lit (Ak (c i0))) κ (m1-1) ((m1-1:Nat):Int) κ ω ω) (Ae 3 (Ob [0] (hJ1 _ _ (by omega:m1-1+1<m1+1) ⟨m1-1,rfl,⟨ω,(rH ω hx2d).symm.trans hF2⟩,rfl⟩)))))
  ·
   exact Ae 6 (vwk 0 (Ae 7 (Fa (.sl 2 m1 (λi0=> .lit (Ak (c i0)))) (congrArg (λz=>Bb z c) (bS hF2 ω)))))
 ·
  exact Ae 17 (vwk 0 (Ae 7 (Fa (.sl 2 m1 (λi0=> .lit (Ak (c i0)))) (congrArg (λz=>Bb z c) (bS hF2 ω)))))
theorem kA (x:Int):AFM Tryz.prog 180 241 [.int .i64 0] [WA x,.int 0] (Ak x):=by
 refine pU func180 rfl λB D0 hA0=>?_
 exact Ae 32 (Ae6 (.lit (Ak x)) κ)
theorem Tw (x y:Int) (hx:Ff x) (hy:Ff y) (hz:Ff (x*y)):AFM Tryz.prog 174 241 [.int .i64 0] [WA x,WA y] (Ak (x*y)):=by
 refine pU func174 rfl λB D0 hA0=>?_
 exact Ae 8 (Jf [(5,_,.none),(8,.lit (Ak (x*y)),(.set 0 (.box 241 [.int 0])))] [6] ⟨Fx (Acl x y hx hy hz),Bc (Ih 180 #[.tmp 9,.tmp 13,.tmp 14] #[239,70,37] κ (λ_ _=>by kernel_rfl) 0 241 [.int .i64 0] κ [.lit (Ak (x*y)),.int 0] κ κ (Ak (x*y)) (kA (x*y))),trivial⟩ (Ae 2 (Ae6 (.lit (Ak (x*y))) κ)))
theorem rS (x y:Int) (hx:Ff x) (hy:Ff y) (hz:Ff (x+y)):AFM Tryz.prog 175 241 [.int .i64 0] [WA x,WA y] (Ak (x+y)):=by
 refine pU func175 rfl λB D0 hA0=>?_
 exact Ae 8 (Jf [(5,_,.none),(8,.lit (Ak (x+y)),(.set 0 (.box 241 [.int 0])))] [6] ⟨Fx (Acj x y hx hy hz),Bc (Ih 180 #[.tmp 9,.tmp 13,.tmp 14] #[239,70,37] κ (λ_ _=>by kernel_rfl) 0 241 [.int .i64 0] κ [.lit (Ak (x+y)),.int 0] κ κ (Ak (x+y)) (kA (x+y))),trivial⟩ (Ae 2 (Ae6 (.lit (Ak (x+y))) κ)))
theorem Afc {c:Nat->Int} {n:Nat} (hl:n=0\/c (n-1)≠0) (h:n≠0):(!decide ((c (n-1)).sign=0))=true:=by
 have h9:¬(c (n-1)).sign=0:=λe=>by
  rcases hl with g|g
  exact h g
  exact g (Xa.1 e)
 rw[decide_eq_false h9];rfl
theorem Pb (n:Nat) (c:Nat->Int) (hn:n<=25) (hc:∀i,i<n->Ff (c i)) (hl:n=0\/c (n-1)≠0):AF Tryz.prog 171 [Bb n c] (.bool true):=by
 refine Cc func171 rfl λB D0 hA0=>?_
 refine Ae 14 (Lh [0,5,6,7] n (λi=>True) (λi=>⟨[(0,Bb n c),(5,Bb n c),(6,.int (n:Int)),(7,.int (i:Int))],[],0,33⟩) trivial (λi hin hFi J1 hJ1=>?_))
 refine Ae 6 (Fd 8 ((i:Int)<(n:Int)) (λhx1 hx1d=>?_) (λhx1 hx1d=>?_))
 ·
  exact Ae 7 (Ga i n (Ae 8 (Ct (Ji (c i) (hc _ ω)) (Ae 8 (Ev ((i:Int)+1) ((i+1:Nat):Int) (Ae 2 (Gk [0,5,6,7] [] 0 0 hA0 [] trivial (hJ1 ω trivial))))))))
 ·
  refine Ae 12 (Ic 18 (decide ((n:Int)<=25)) true (decide_eq_true ω) (Ae 4 (Fd 22 ((n:Int)=0) (λhx2 hx2d=>?_) (λhx2 hx2d=>?_))))
  ·
   exact Ae 14 (Gc)
  ·
   exact Ae 3 (Ev ((n:Int)-1) ((n-1:Nat):Int) (Ga (n-1) n (Ae 1 (Ct (Uc (c (n-1)) (hc _ ω)) (Ae 7 (Fa (.bool (!decide ((c (n-1)).sign=0))) (congrArg AV.bool (Afc hl ω))))))))
def Ej (c:Nat->Int):Nat->Int
 |0=>0
 |n+1=>max (Ej c n) (bitLen (c n).natAbs:Int)
theorem nY {c:Nat->Int} {k:Nat}:∀n,(∀i,i<n->bitLen (c i).natAbs<=k)->0<=Ej c n/\Ej c n<=(k:Int)
 |0,_=>⟨Int.le_refl _,by show (0:Int)<=_;omega⟩
 |n+1,h=>by
  have h1:=nY n λi hi=>h i ω
  have h2:=h n (Nat.lt_succ_self n)
  unfold Ej
  omega
theorem rX (n:Nat) (c:Nat->Int) (hn:n<=1000000) (hc:∀i,i<n->Ff (c i)):AF Tryz.prog 173 [Bb n c] (.int (Ej c n)):=by
 refine Cc func173 rfl λB D0 hA0=>?_
 refine Ae 19 (Lh [3,6,7,8] n (λi=>True) (λi=>⟨[(3,.int (Ej c i)),(6,Bb n c),(7,.int (n:Int)),(8,.int (i:Int))],[],0,18⟩) trivial (λi hin hFi J1 hJ1=>?_))
 refine Ae 6 (Fd 9 ((i:Int)<(n:Int)) (λhx1 hx1d=>?_) (λhx1 hx1d=>?_))
 ·
  exact Ae 7 (Ga i n (Ae 8 (Ct (Ack (c i) (hc _ ω)) (Cb (.int (max (Ej c i) (bitLen (c i).natAbs:Int))) .none (iY (.tmp 12) (.tmp 14) #[3,3] κ (Ej c i) (bitLen (c i).natAbs:Int) κ κ) (Ae 5 (Ev ((i:Int)+1) ((i+1:Nat):Int) (Ae 2 (Gk [3,6,7,8] [] 0 0 hA0 [] trivial (hJ1 ω trivial)))))))))
 ·
  exact Ae 13 (Fa (.int (Ej c i)) (congrArg (λz=>AV.int (Ej c z)) (show _=n by omega)))
end Go.Proofs.YtldnjomacnjhnaaGreat