/- Part 20 of the proof of SH.row_holds, joined by program: no condition beyond the row's own. -/
import Derived.Test.YtldnjomacnjhnaaGreatH19
import Derived.Scope
set_option maxRecDepth 100000
set_option maxHeartbeats 40000000
namespace Go.Proofs.YtldnjomacnjhnaaGreat
theorem Kg {P:Program} {b:Frame} {a:Act} {k:List Item} {cs:List Frame} {w:World} {c:Code}:step P (lone (b.atR a (.code (.scope c)::k)) cs w)= .next (lone (b.atR a (.code c:: .inScope c::k)) cs w):=
 step_lone_go (by simp[Go.stepG,Go.stepG.exec,Frame.atR])
theorem eA {P:Program} {b:Frame} {a:Act} {k:List Item} {cs:List Frame} {w:World} {c:Code}:step P (lone (b.atR a (.inScope c::k)) cs w)= .next (lone (b.atR a k) cs w):=
 step_lone_go (by simp[Go.stepG,Go.stepG.exec,Frame.atR])
theorem sT {F:Fence} {n:Nat} {P:Program} {Q:Exit->Act->World->Prop} {a:Act} {w:World} {c:Code} (h:c.wpIn F n P (Exit.noGoto Q) a w):(Code.scope c).wpIn F n P Q a w:=by
 intro b k cs hro hb hr
 have h0:(lone (b.atR a (.code (.scope c)::k)) cs w).fenced P F:=fenced_calm hb hr rfl
 obtain⟨e,a₁,w₁,hq,harr⟩:=h b (.inScope c::k) cs hro hb hr
 cases e with
 |normal=>exact⟨.normal,a₁,w₁,hq,.head h0 Kg (StepsIn.trans harr (.one (fenced_calm hb hr rfl) eA))⟩
 |exit id=>
  have hx:exitTo id (.inScope c::k)=exitTo id k:=by simp[exitTo]
  exact⟨.exit id,a₁,w₁,hq,λk' hk=> .head h0 Kg (harr.1 k' (by rw[hx];exact hk)),
   λhr' hk=>let ⟨k₁,h1,h2⟩:=harr.2 hr' (by rw[hx];exact hk);⟨k₁,h1,.head h0 Kg h2⟩⟩
 |goto l=>exact hq.elim
 |ret=>exact⟨_,a₁,w₁,hq,.of_steps (.one h0 Kg) harr⟩
 |panic ch=>exact⟨_,a₁,w₁,hq,.of_steps (.one h0 Kg) harr⟩
 |outgrown=>exact⟨_,a₁,w₁,hq,.of_steps (.one h0 Kg) harr⟩
def Afx (Q:Exit->St->Prop):Exit->St->Prop
 | .goto _,_=>False
 |e,s=>Q e s
theorem Aaj {P:Program} {R:Option Nat} {B:Nat} {D0:Bu} {s:St} {Q:Exit->St->Prop} {c:Code} (h:AC P R B D0 c s (Afx Q)):AC P R B D0 (.scope c) s Q:=⟨λE a hs=>
 sT (Ev (λe a' w' ⟨s',E',h1,h2,h3,h4⟩=>by
  cases e with
  |goto l=>exact h2.elim
  |normal=>exact⟨s',E',h1,h2,h3,h4⟩
  |exit id=>exact⟨s',E',h1,h2,h3,h4⟩
  |ret=>exact⟨s',E',h1,h2,h3,h4⟩
  |panic ch=>exact⟨s',E',h1,h2,h3,h4⟩
  |outgrown=>exact⟨s',E',h1,h2,h3,h4⟩) (h.run E a hs))⟩
theorem jE {B:Nat} {D0:Bu} {s:St} (id:Nat) (t:TypeId) (cs:List AV) (s':St) (hc:Bc s.h id=some (.box t cs)) (hs':(⟨mapT (frzB id cs) s.t,(Hk s.h id).map λp=>(p.1,p.2.mapB (frzB id cs)),s.nx,s.n⟩:St)=s') (hf:cs.all AV.free=true) (E:Bu) (a:Act) (hs:Ji B D0 E s a):∃E',E'.w=E.w/\Ji B D0 E' s' a:=by
 refine aW id (frzB id cs) s' hs' hc (λE x v hh hv=>?_) E a hs
 have up:=hv.up (E.le_fr id)
 obtain⟨arr,hb,hvs⟩:=hh.box hc
 cases hv with
 |osl _ id' e' m hA=>
  unfold frzB
  simp only
  by_cases e1:id'=id
  rw[if_pos e1];exact .top _ _
  rw[if_neg e1];exact up
 |ptr _ id' off hA=>
  unfold frzB
  simp only
  by_cases e1:id'=id
  subst e1
  rw[if_pos rfl]
  refine .elt _ _ _ _ _ (λj=>arr.getD (off+j) undef) (.inr rfl) (λj hj=>Me hb (by rw[hvs.1];omega)) λj hj=>?_
  have:=hvs.2 (off+j)
  have e2:cs.getD (off+j) .top=cs[off+j]:=by simp[List.getD_eq_getElem?_getD,show off+j<cs.length by omega]
  refine(this.free ?_).up (E.le_fr id').fz
  rw[e2]
  exact List.all_eq_true.1 hf _ (List.getElem_mem _)
  rw[if_neg e1];exact up
 |_=>exact up
theorem Kd {P:Program} {B:Nat} {D0:Bu} {o:Oper} {ev:Operand->AV} {pre:Nat->Option Co} (f:FuncId) (xs:Array Operand) (ts:Array TypeId) (ho:o.op= .call { callee:= .value (.func f),args:=xs,argTypes:=ts }) (hcall:∀(vs:Array Value) w,(callFunc f vs).run P w= .ok (.enter f vs) w) (id:Nat) (blk:Co) (hp:pre id=some blk) (hfl:∀t e n f,blk= .vec t e n f->∀i,i<n->∀j,j<e->((f i).cell j).flat=true) (Hl:List AV) (hargs0:xs.toList.map ev=Hl) (args:List AV) (hargs:Hl.map (mE id blk)=args) (r:AV) (hf:AF P f args r):Fh P B D0 o ev pre r (.drop id):=by
 subst hargs
 subst hargs0
 refine⟨?_⟩
 intro E a c K Q _ hh htch _ hv k
 have hc:=(htch id (by simp[Ck.touch])).trans hp
 obtain⟨l1,l2,l3,l4⟩:=hh.live id _ hc
 unfold Oper.wp
 rw[show (execOp a.eval o).run P E.w=(callFunc f (xs.map a.eval)).run P E.w by simp[execOp,ho,resolve,Deferred.ofValue,Act.eval,invoke],hcall]
 show Calls P f _ E.w _
 refine(hf (E.fr id) (xs.map a.eval) (λb hb=>?_) (by simp) λi hi=>?_).mono ?_
 rcases hb with hb|hb
 exact hh.bnd b hb
 rw[hb];exact l2.lt
 have hi2:i<xs.size:=by simpa using hi
 have e1:((xs.toList.map ev).map (mE id blk)).getD i .top=mE id blk (ev xs[i]):=by simp[List.getD_eq_getElem?_getD,hi2]
 have e2:(xs.map a.eval).getD i undef=a.eval xs[i]:=by simp[hi2]
 rw[e1,e2]
 exact tP hh hc hfl (hv _ (by simp[ho,Op.operands,Call.operands]))
 rintro e w' ⟨v,D',rfl,hr,hb,hd1,hd2,hd3⟩
 have hz:(E.fr id).w=E.w:=rfl
 rw[hz] at hb hd2
 have hle:E.le { E with D:=D',w:=w' }:=⟨λ_ h=>h,λ_ _=>rfl,λb h=>hd1 b (.inl h),λb hb'=>hb.block b (hh.bnd b hb'),λ_ _=>rfl⟩
 have hn:∀b,D' b->(E.D b\/b=E.π id)\/E.w.heap.size<=b:=hd2
 refine k v { E with D:=D',w:=w' } hle (hb.mono hh.B) hr ⟨λi x hx=>?_,λi j x y hx hy=>?_,hd3,λi hi=>Nat.lt_of_lt_of_le (hh.abd i hi) hb.size,hh.le0.trans hle,λb hb'=>?_,Nat.le_trans hh.B hb.size⟩ λi hi=> .inl hi
 have hx2:(if id=i then Option.none else c i)=some x:=hx
 by_cases e1:id=i
 rw[if_pos e1] at hx2;cases hx2
 rw[if_neg e1] at hx2
 obtain⟨j1,j2,j3,j4⟩:=hh.live i x hx2
 refine⟨j1,j2.up hle (hb.block _ j2.lt),λh=>?_,j4⟩
 rcases hn _ h with(h|h)|h
 exact j3 h
 exact hh.inj i id x blk hx2 hc (λe=>e1 e.symm) h
 have:E.π i<E.w.heap.size:=j2.lt
 have h:E.w.heap.size<=E.π i:=h
 omega
 have hx2:(if id=i then Option.none else c i)=some x:=hx
 have hy2:(if id=j then Option.none else c j)=some y:=hy
 by_cases e1:id=i
 rw[if_pos e1] at hx2;cases hx2
 by_cases e2:id=j
 rw[if_pos e2] at hy2;cases hy2
 rw[if_neg e1] at hx2;rw[if_neg e2] at hy2
 exact hh.inj i j x y hx2 hy2
 rcases hn b hb' with(h|h)|h
 exact hh.new b h
 exact .inr (by rw[h];exact l4)
 exact .inr (Nat.le_trans hh.B h)
theorem AeW {P:Program} {B:Nat} {D0:Bu} {s:St} {fn:Func} {r1 r2 r3 r4 r5:ResultVar} {x y z u t:AV} (hr:fn.results=#[r1,r2,r3,r4,r5]) (h1:Pq P B D0 s r1 x) (h2:Pq P B D0 s r2 y) (h3:Pq P B D0 s r3 z) (h4:Pq P B D0 s r4 u) (h5:Pq P B D0 s r5 t):Qx P B D0 fn s (mkTup [x,y,z,u,t]):=λE a hs=>by
 obtain⟨v1,e1,f1⟩:=h1 E a hs
 obtain⟨v2,e2,f2⟩:=h2 E a hs
 obtain⟨v3,e3,f3⟩:=h3 E a hs
 obtain⟨v4,e4,f4⟩:=h4 E a hs
 obtain⟨v5,e5,f5⟩:=h5 E a hs
 refine⟨.tuple #[v1,v2,v3,v4,v5],by simp[Js,hr,e1,e2,e3,e4,e5],VR.tupl [x,y,z,u,t] _ rfl (λi hi=>?_) _ rfl⟩
 match i with
 |0=>exact f1
 |1=>exact f2
 |2=>exact f3
 |3=>exact f4
 |4=>exact f5
end Go.Proofs.YtldnjomacnjhnaaGreat
namespace Go.Proofs.YtldnjomacnjhnaaGreat
open Go.RowKit
inductive KI where
 |seq (y:Code)
 |blk (id:Nat)
 |lp (I:St->Prop)
 |scp
 |un (n:Nat) (b:Code)
inductive Md where
 |code (c:Code)
 |ops (a:Array Oper) (l:List Oper)
 |out (e:Exit)
structure Dt where
 m:Md
 k:List KI
 s:St
section
variable (P:Program) (R:Option Nat) (B:Nat) (D0:Bu)
def KQ (Q:Exit->St->Prop):List KI->Exit->St->Prop
 |[]=>Q
 | .seq y::k=>wT (λs1=>AC P R B D0 y s1 (KQ Q k)) (KQ Q k)
 | .blk id::k=>tG id (KQ Q k)
 | .lp I::k=>wT I (KQ Q k)
 | .scp::k=>Afx (KQ Q k)
 | .un n b::k=>wT (Sl P R B D0 b (KQ Q k) n) (KQ Q k)
def Ki (s s':St):Prop:=∀E a,Ji B D0 E s a->∃E',E'.w=E.w/\Ji B D0 E' s' a
def GoM (Q:Exit->St->Prop) (k:List KI) (s:St):Md->Prop
 | .code x=>AC P R B D0 x s (KQ P R B D0 Q k)
 | .ops a l=>AL P R B D0 a l s (KQ P R B D0 Q k)
 | .out e=>∃s',Ki B D0 s s'/\KQ P R B D0 Q k e s'
structure Go (Q:Exit->St->Prop) (c:Dt):Prop where
 m:GoM P R B D0 Q c.k c.s c.m
end
variable {P:Program} {R:Option Nat} {B:Nat} {D0:Bu} {Q:Exit->St->Prop} {c:Dt}
theorem Ki.refl (s:St):Ki B D0 s s:=λE _ h=>⟨E,rfl,h⟩
theorem Ki.trans {a b d:St} (h:Ki B D0 a b) (g:Ki B D0 b d):Ki B D0 a d:=λE x hs=>by
 obtain⟨E1,e1,h1⟩:=h E x hs
 obtain⟨E2,e2,h2⟩:=g E1 x h1
 exact⟨E2,e2.trans e1,h2⟩
theorem Aa3 {k:List KI} {s s':St} (hw:Ki B D0 s s'):∀m,GoM P R B D0 Q k s' m->GoM P R B D0 Q k s m
 | .code _,h=>sW hw h
 | .ops _ _,h=>tE hw h
 | .out _,⟨s2,h1,h2⟩=>⟨s2,hw.trans h1,h2⟩
theorem Jo (s':St) (hw:Ki B D0 c.s s') (h:Go P R B D0 Q ⟨c.m,c.k,s'⟩):Go P R B D0 Q c:=⟨Aa3 hw _ h.m⟩
theorem gR {x:Code} {s:St} {Q:Exit->St->Prop} {e:Exit} (h:∃s',Ki B D0 s s'/\Q e s') (hx:∀s,Q e s->AC P R B D0 x s Q):AC P R B D0 x s Q:=by
 obtain⟨s',h1,h2⟩:=h
 exact sW h1 (hx s' h2)
def jJ (a:Array Oper) (s:St) (o:Oper):Option Bool:=match o.guard with
 |none=>some true
 |some (j,b)=>match (a[j]?).bind (·.dst) with
  |some d=>match Cw s.t d with
   | .lit (.bool b')=>match b,b' with
    |true,true|false,false=>some true
    |_,_=>some false
   | .lit (.tuple v)=>match v.toList with
    |[]=>some false
    |_=>none
   |_=>none
  |none=>none
def Afa (P:Program) (a:Array Oper) (o:Oper) (l:List Oper) (k:List KI) (s:St):Dt:=
 match jJ a s o with
 |some true=>match evG P o s.ev (Bc s.h) s.nx with
  |some (V,f)=>bif f.low s.nx&&Nh o s.n then ⟨.ops a l,k,⟨My s.t o.dst V,f.ap s.h,f.nx s.nx,s.n⟩⟩ else ⟨.ops a (o::l),k,s⟩
  |none=>⟨.ops a (o::l),k,s⟩
 |some false=>bif Nh o s.n then ⟨.ops a l,k,⟨My s.t o.dst .undef,s.h,s.nx,s.n⟩⟩ else ⟨.ops a (o::l),k,s⟩
 |none=>⟨.ops a (o::l),k,s⟩
theorem mW {a:Array Oper} {s:St} {o:Oper} {l:List Oper} {Q:Exit->St->Prop} (h:jJ a s o=some true) (V:AV) (f:Ck) (hlow:f.low s.nx=true) (hd:Nh o s.n=true) (ho:Fh P B D0 o s.ev (Bc s.h) V f) (hk:AL P R B D0 a l ⟨My s.t o.dst V,f.ap s.h,f.nx s.nx,s.n⟩ Q):AL P R B D0 a (o::l) s Q:=by
 unfold jJ at h
 split at h
 rename_i hg;exact Afv V f hg hlow hd ho hk
 rename_i j b hg
 split at h
 rename_i d hj
 split at h
 rename_i b' hv
 split at h
 exact Aaw V f hg hj hv hlow hd ho hk
 exact Aaw V f hg hj hv hlow hd ho hk
 cases h
 rename_i v hv
 split at h<;>cases h
 cases h
 cases h
theorem xG {a:Array Oper} {s:St} {o:Oper} {l:List Oper} {Q:Exit->St->Prop} (h:jJ a s o=some false) (hd:Nh o s.n=true) (hk:AL P R B D0 a l ⟨My s.t o.dst .undef,s.h,s.nx,s.n⟩ Q):AL P R B D0 a (o::l) s Q:=by
 unfold jJ at h
 split at h
 cases h
 rename_i j b hg
 split at h
 rename_i d hj
 split at h
 rename_i b' hv
 split at h
 cases h
 cases h
 rename_i h1 h2
 refine AcF hg hj hv ?_ hd hk
 cases b<;>cases b'<;>first|rfl|exact(h1 rfl rfl).elim|exact(h2 rfl rfl).elim
 rename_i v hv
 split at h
 rename_i he
 refine Aax hg hj (hv.trans ?_) hd hk
 have:v=#[]:=by cases v;simp_all
 subst this;rfl
 cases h
 cases h
 cases h
theorem AdQ {a:Array Oper} {o:Oper} {l:List Oper} {k:List KI} {s:St} (h:Go P R B D0 Q (Afa P a o l k s)):AL P R B D0 a (o::l) s (KQ P R B D0 Q k):=by
 unfold Afa at h
 split at h
 rename_i hg
 split at h
 rename_i V f he
 cases hb:f.low s.nx&&Nh o s.n with
 |false=>rw[hb] at h;exact h.m
 |true=>
  rw[hb] at h
  have hb2:=Bool.and_eq_true_iff.1 hb
  exact mW hg V f hb2.1 hb2.2 (qQ he) h.m
 exact h.m
 rename_i hg
 cases hb:Nh o s.n with
 |false=>rw[hb] at h;exact h.m
 |true=>rw[hb] at h;exact xG hg hb h.m
 exact h.m
def stp (P:Program):Dt->Dt
 |⟨.code x,k,s⟩=>match x with
  | .seq x y=>⟨.code x,.seq y::k,s⟩
  | .region _ a false=>⟨.ops a a.toList,k,s⟩
  | .skip=>⟨.out .normal,k,s⟩
  | .label _=>⟨.out .normal,k,s⟩
  | .block id x=>⟨.code x,.blk id::k,s⟩
  | .scope x=>⟨.code x,.scp::k,s⟩
  | .exit id=>⟨.out (.exit id),k,s⟩
  | .ret=>⟨.out .ret,k,s⟩
  | .cond d x y=>match s.ev d with
   | .lit (.bool true)=>⟨.code x,k,s⟩
   | .lit (.bool false)=>⟨.code y,k,s⟩
   |_=>⟨.code (.cond d x y),k,s⟩
  |x=>⟨.code x,k,s⟩
 |⟨.ops _ [],k,s⟩=>⟨.out .normal,k,s⟩
 |⟨.ops a (o::l),k,s⟩=>Afa P a o l k s
 |⟨.out .normal,.seq y::k,s⟩=>⟨.code y,k,s⟩
 |⟨.out .normal,.blk _::k,s⟩=>⟨.out .normal,k,s⟩
 |⟨.out .normal,.scp::k,s⟩=>⟨.out .normal,k,s⟩
 |⟨.out .normal,.un (n+1) b::k,s⟩=>⟨.code b,.un n b::k,s⟩
 |⟨.out (.exit id),.blk id'::k,s⟩=>bif Nat.beq id id' then ⟨.out .normal,k,s⟩ else ⟨.out (.exit id),k,s⟩
 |⟨.out (.exit id),.seq _::k,s⟩=>⟨.out (.exit id),k,s⟩
 |⟨.out (.exit id),.lp _::k,s⟩=>⟨.out (.exit id),k,s⟩
 |⟨.out (.exit id),.scp::k,s⟩=>⟨.out (.exit id),k,s⟩
 |⟨.out (.exit id),.un _ _::k,s⟩=>⟨.out (.exit id),k,s⟩
 |⟨.out .ret,_::k,s⟩=>⟨.out .ret,k,s⟩
 |c=>c
theorem Lr {k:List KI} {s:St} {e:Exit} {i:KI} (h:GoM P R B D0 Q k s (.out e)) (hk:∀s,KQ P R B D0 Q k e s->KQ P R B D0 Q (i::k) e s):GoM P R B D0 Q (i::k) s (.out e):=by
 obtain⟨s',h1,h2⟩:=h
 exact⟨s',h1,hk _ h2⟩
theorem AdP {k:List KI} {s:St}:∀x,Go P R B D0 Q (stp P ⟨.code x,k,s⟩)->AC P R B D0 x s (KQ P R B D0 Q k)
 | .seq x y,h=>Aak h.m
 | .region _ ⟨l⟩ false,h=>Ac5 (l:=l) h.m
 | .region _ _ true,h=>h.m
 | .skip,h=>gR h.m λ_ h=>Ac6 h
 | .label _,h=>gR h.m λ_ h=>Aah h
 | .block id x,h=>Aaf h.m
 | .scope x,h=>Aaj h.m
 | .exit id,h=>gR h.m λ_ h=>Ac4 h
 | .ret,h=>gR h.m λ_ h=>Aeq h
 | .cond d x y,h=>by
  unfold stp at h
  dsimp only at h
  split at h
  rename_i hb;exact Ac7 hb rfl h.m
  rename_i hb;exact Aag hb rfl h.m
  exact h.m
 | .loop _,h=>h.m
 | .rangeFunc ..,h=>h.m
 | .goto _,h=>h.m
 | .refuse _,h=>h.m
theorem Afb:∀c,Go P R B D0 Q (stp P c)->Go P R B D0 Q c
 |⟨.code x,k,s⟩,h=>⟨AdP x h⟩
 |⟨.ops _ [],k,s⟩,h=>by
  obtain⟨s',h1,h2⟩:=h.m
  exact⟨tE h1 (Aev h2)⟩
 |⟨.ops _ (_::_),_,_⟩,h=>⟨AdQ h⟩
 |⟨.out .normal,.seq y::k,s⟩,h=>⟨⟨s,Ki.refl s,h.m⟩⟩
 |⟨.out .normal,.blk _::k,s⟩,h=>⟨Lr h.m λ_ h=>h⟩
 |⟨.out .normal,.scp::k,s⟩,h=>⟨Lr h.m λ_ h=>h⟩
 |⟨.out .normal,.lp _::k,s⟩,h=>h
 |⟨.out .normal,.un 0 _::k,s⟩,h=>h
 |⟨.out .normal,.un (n+1) b::k,s⟩,h=>⟨⟨s,Ki.refl s,h.m⟩⟩
 |⟨.out (.exit id),.blk id'::k,s⟩,h=>by
  have h:Go P R B D0 Q (bif Nat.beq id id' then ⟨.out .normal,k,s⟩ else ⟨.out (.exit id),k,s⟩):=h
  cases hb:Nat.beq id id' with
  |false=>rw[hb] at h;exact⟨Lr h.m λ_ h=>by show (bif Nat.beq id id' then _ else _);rw[hb];exact h⟩
  |true=>
   rw[hb] at h
   obtain⟨s',h1,h2⟩:=h.m
   exact⟨⟨s',h1,by show (bif Nat.beq id id' then _ else _);rw[hb];exact h2⟩⟩
 |⟨.out (.exit id),.seq _::k,s⟩,h=>⟨Lr h.m λ_ h=>h⟩
 |⟨.out (.exit id),.lp _::k,s⟩,h=>⟨Lr h.m λ_ h=>h⟩
 |⟨.out (.exit id),.scp::k,s⟩,h=>⟨Lr h.m λ_ h=>h⟩
 |⟨.out (.exit id),.un _ _::k,s⟩,h=>⟨Lr h.m λ_ h=>h⟩
 |⟨.out .ret,.seq _::k,s⟩,h=>⟨Lr h.m λ_ h=>h⟩
 |⟨.out .ret,.blk _::k,s⟩,h=>⟨Lr h.m λ_ h=>h⟩
 |⟨.out .ret,.lp _::k,s⟩,h=>⟨Lr h.m λ_ h=>h⟩
 |⟨.out .ret,.scp::k,s⟩,h=>⟨Lr h.m λ_ h=>h⟩
 |⟨.out .ret,.un _ _::k,s⟩,h=>⟨Lr h.m λ_ h=>h⟩
 |⟨.out .normal,[],_⟩,h=>h
 |⟨.out (.exit _),[],_⟩,h=>h
 |⟨.out .ret,[],_⟩,h=>h
 |⟨.out (.goto _),_,_⟩,h=>h
 |⟨.out (.panic _),_,_⟩,h=>h
 |⟨.out .outgrown,_,_⟩,h=>h
def run (P:Program):Nat->Dt->Dt
 |0,c=>c
 |n+1,c=>run P n (stp P c)
theorem Ae:∀(n:Nat) {c:Dt},Go P R B D0 Q (run P n c)->Go P R B D0 Q c
 |0,_,h=>h
 |n+1,c,h=>Afb c (Ae n h)
def Dt.a (c:Dt):Array Oper:=match c.m with| .ops a _=>a|_=>#[]
def Dt.l (c:Dt):List Oper:=match c.m with| .ops _ l=>l|_=>[]
def Dt.o (c:Dt):Oper:=match c.l with|o::_=>o|[]=>default
def Dt.ok (c:Dt):Bool:=match c.m with
 | .ops a (o::_)=>jJ a c.s o==some true&&Nh o c.s.n
 |_=>false
def Dt.put (c:Dt) (V:AV) (f:Ck):Dt:=⟨match c.m with| .ops a (_::l)=> .ops a l|m=>m,c.k,⟨My c.s.t c.o.dst V,f.ap c.s.h,f.nx c.s.nx,c.s.n⟩⟩
theorem Vn (V:AV) (f:Ck) (h:Fh P B D0 c.o c.s.ev (Bc c.s.h) V f) (hk:Go P R B D0 Q (c.put V f)) (hok:c.ok=true) (hlow:f.low c.s.nx=true):Go P R B D0 Q c:=by
 obtain⟨m,k,s⟩:=c
 cases m with
 |code x=>cases hok
 |out e=>cases hok
 |ops a l=>
  cases l with
  |nil=>cases hok
  |cons o l=>
   have hok:(jJ a s o==some true&&Nh o s.n)=true:=hok
   obtain⟨h1,h2⟩:=Bool.and_eq_true_iff.1 hok
   exact⟨mW (by simpa using h1) V f hlow h2 h hk.m⟩
end Go.Proofs.YtldnjomacnjhnaaGreat
namespace Go.Proofs.YtldnjomacnjhnaaGreat
open Go.RowKit
variable {P:Program} {R:Option Nat} {B:Nat} {D0:Bu} {Q:Exit->St->Prop} {c:Dt}
def Dt.add (c:Dt) (d:Nat) (b:Bool):Dt:=⟨c.m,c.k,⟨(d,.bool b)::c.s.t,c.s.h,c.s.nx,c.s.n⟩⟩
theorem Gv (d:Nat) (b v:Bool) (hb:b=v) (hk:Go P R B D0 Q (c.add d v)) (hd:Cw c.s.t d= .bool b:=by kernel_rfl):Go P R B D0 Q c:=
 Jo _ (λE a hs=>xM d b v hb hd E a hs) hk
theorem zX (d:Nat) (b:Bool) (h1:b=true->Go P R B D0 Q (c.add d true)) (h2:b=false->Go P R B D0 Q (c.add d false)) (hd:Cw c.s.t d= .bool b:=by kernel_rfl):Go P R B D0 Q c:=
 Fm b (λh=>Gv d b true h (h1 h) hd) (λh=>Gv d b false h (h2 h) hd)
theorem pN (d:Nat) (b:Bool) (h1:b=true->Go P R B D0 Q (c.add d false)) (h2:b=false->Go P R B D0 Q (c.add d true)) (hd:Cw c.s.t d= .bool (!b):=by kernel_rfl):Go P R B D0 Q c:=
 Fm b (λh=>Gv d (!b) false (by rw[h];rfl) (h1 h) hd) (λh=>Gv d (!b) true (by rw[h];rfl) (h2 h) hd)
theorem Gi (d:Nat) (p:Prop) [Decidable p] (h1:decide p=true->p->Go P R B D0 Q (c.add d true)) (h2:decide p=false->¬p->Go P R B D0 Q (c.add d false)) (hd:Cw c.s.t d= .bool (decide p):=by kernel_rfl):Go P R B D0 Q c:=
 zX d (decide p) (λh=>h1 h (of_decide_eq_true h)) (λh=>h2 h (of_decide_eq_false h)) hd
theorem Aeb (d:Nat) (p:Prop) [Decidable p] (h1:decide p=true->p->Go P R B D0 Q (c.add d false)) (h2:decide p=false->¬p->Go P R B D0 Q (c.add d true)) (hd:Cw c.s.t d= .bool (!decide p):=by kernel_rfl):Go P R B D0 Q c:=
 pN d (decide p) (λh=>h1 h (of_decide_eq_true h)) (λh=>h2 h (of_decide_eq_false h)) hd
theorem vsp {G:Prop} (p:Prop) [Decidable p] (h1:decide p=true->p->G) (h2:decide p=false->¬p->G):G:=
 Fm (decide p) (λh=>h1 h (of_decide_eq_true h)) (λh=>h2 h (of_decide_eq_false h))
theorem Ip (v v':Value) (hk:Go P R B D0 Q (c.put (.lit v') .none)) (hv:v=v':=by rfl) (hx:(c.o.op.operands.toList.all λx=>(c.s.ev x).isLit)=true:=by kernel_rfl) (hs:nX c.o=true:=by kernel_rfl) (hrun:∀w,(execOp (λx=>(c.s.ev x).val) c.o).run P w= .ok (.value v) w:=by intro w;kernel_rfl) (hok:c.ok=true:=by kernel_rfl):Go P R B D0 Q c:=
 Vn (.lit v') .none (Bx _ hx rfl hs hrun hv) hk hok rfl
theorem Ep (x y:Int) (hk:Go P R B D0 Q (c.put (.int y) .none)) (hr: -9223372036854775808<=x/\x<=9223372036854775807:=by omega) (he:x=y:=by omega) (hx:(c.o.op.operands.toList.all λx=>(c.s.ev x).isLit)=true:=by kernel_rfl) (hs:nX c.o=true:=by kernel_rfl) (hrun:∀w,(execOp (λx=>(c.s.ev x).val) c.o).run P w= .ok (.value (.int .i64 (IntKind.wrap .i64 x))) w:=by intro w;kernel_rfl) (hok:c.ok=true:=by kernel_rfl):Go P R B D0 Q c:=
 Vn (.int y) .none (Bx _ hx rfl hs hrun (congrArg (Value.int .i64) ((IntWalk.i64_in x hr).trans he))) hk hok rfl
theorem Bk (V:AV) (f:Ck) {V0:AV} {f0:Ck} (h:Fh P B D0 c.o c.s.ev (Bc c.s.h) V0 f0) (hk:Go P R B D0 Q (c.put V f)) (hok:c.ok=true:=by kernel_rfl) (hlow:f.low c.s.nx=true:=by kernel_rfl) (hV:V0=V:=by kernel_rfl) (hf:f0=f:=by kernel_rfl):Go P R B D0 Q c:=Vn V f (hV▸hf▸h) hk hok hlow
def Dt.xs (c:Dt):Array Operand:=match c.o.op with| .call cl=>cl.args|_=>#[]
def Dt.ts (c:Dt):Array TypeId:=match c.o.op with| .call cl=>cl.argTypes|_=>#[]
def Dt.fx (c:Dt):Operand:=match c.o.op with| .call cl=>(match cl.callee with| .value x=>x|_=>default)|_=>default
def Dt.cps (c:Dt):List AV:=match c.s.ev c.fx with| .fn _ l=>l|_=>[]
theorem Cf {f:FuncId} {args:List AV} {r:AV} (hf:AF P f args r) (hk:Go P R B D0 Q (c.put r .none)) (ho:c.o.op= .call { callee:= .value (.func f),args:=c.xs,argTypes:=c.ts }:=by kernel_rfl) (hargs:c.xs.toList.map c.s.ev=args:=by kernel_rfl) (hfree:args.all AV.free=true:=by kernel_rfl) (hok:c.ok=true:=by kernel_rfl) (hcall:∀(vs:Array Value) w,(callFunc f vs).run P w= .ok (.enter f vs) w:=by intro _ _;kernel_rfl):Go P R B D0 Q c:=
 Vn r .none (nZ f c.xs c.ts ho hcall args hargs hfree r hf) hk hok rfl
theorem Age {f:FuncId} {args:List AV} {r:AV} (hf:AF P f args r) (hk:Go P R B D0 Q (c.put r .none)) (ho:c.o.op= .call { callee:= .value c.fx,args:=c.xs,argTypes:=c.ts }:=by kernel_rfl) (hx:c.s.ev c.fx= .fn f c.cps:=by kernel_rfl) (hargs:c.xs.toList.map c.s.ev++c.cps=args:=by kernel_rfl) (hfree:args.all AV.free=true:=by kernel_rfl) (hok:c.ok=true:=by kernel_rfl) (hcall:∀(vs:Array Value) w,(callFunc f vs).run P w= .ok (.enter f vs) w:=by intro _ _;kernel_rfl):Go P R B D0 Q c:=
 Vn r .none (fR c.fx f c.xs c.ts ho c.cps hx hcall args hargs hfree r hf) hk hok rfl
def Abw:AV->Nat
 | .sl _ n _=>n
 | .slc _ n _=>n
 | .osl _ _ n=>n
 |_=>0
def Hr:AV->Nat->AV
 | .sl e _ f,k=> .elt e λq=>(f k).cell q
 | .slc e _ f,k=> .elt e λq=>(f k).cell q
 | .osl id e _,k=> .ptr id (k*e)
 |_,_=> .top
def Oper.ixX (o:Oper):Operand:=match o.op with| .indexAddr _ x _=>x|_=>default
def Oper.ixY (o:Oper):Operand:=match o.op with| .indexAddr _ _ y=>y|_=>default
def ixB (P:Program) (o:Oper) (x:AV):Bool:=match o.op with
 | .indexAddr T _ _=>match P.underlying T with
  |some (.slice el)=>match Lv P el with
   |some e=>match x with
    | .sl e' _ _=>Nat.beq e e'
    | .slc e' _ _=>Nat.beq e e'
    | .osl _ e' _=>Nat.beq e e'
    |_=>false
   |none=>false
  |_=>false
 |_=>false
theorem uL {o:Oper} {ev:Operand->AV} {pre:Nat->Option Co} (j:Int) (k:Nat) (hb:ixB P o (ev (Oper.ixX o))=true) (hy:ev (Oper.ixY o)= .int j) (hj:j=(k:Int)) (hk:k<Abw (ev (Oper.ixX o))):Fh P B D0 o ev pre (Hr (ev (Oper.ixX o)) k) .none:=by
 unfold ixB at hb
 split at hb
 rename_i T x y ho
 have ex:Oper.ixX o=x:=by unfold Oper.ixX;rw[ho]
 have ey:Oper.ixY o=y:=by unfold Oper.ixY;rw[ho]
 rw[ex] at hb hk ⊢
 rw[ey] at hy
 split at hb
 rename_i el hu
 split at hb
 rename_i e he
 split at hb
 rename_i e' n f hx
 obtain rfl:=Nat.eq_of_beq_eq_true hb
 rw[hx] at hk ⊢
 exact Wb T x y ho hu e n k f j hx hy (Et he) hj hk
 rename_i e' n f hx
 obtain rfl:=Nat.eq_of_beq_eq_true hb
 rw[hx] at hk ⊢
 exact Fh.wk (Wb T x y ho hu e n k f j (by rw[hx];rfl) (by rw[hy];rfl) (Et he) hj hk)
 rename_i id e' n hx
 obtain rfl:=Nat.eq_of_beq_eq_true hb
 rw[hx] at hk ⊢
 exact dS T x y ho hu id e n k j hx hy (Et he) hj hk
 cases hb
 cases hb
 cases hb
 cases hb
def Dt.ixP (c:Dt) (k:Nat):Dt:=c.put (Hr (c.s.ev (Oper.ixX c.o)) k) .none
theorem Fl (k n:Nat) (hk:Go P R B D0 Q (c.ixP k)) (hlt:k<n:=by omega) (hb:ixB P c.o (c.s.ev (Oper.ixX c.o))=true:=by kernel_rfl) (hn:Abw (c.s.ev (Oper.ixX c.o))=n:=by kernel_rfl) (hy:c.s.ev (Oper.ixY c.o)= .int (k:Int):=by kernel_rfl) (hok:c.ok=true:=by kernel_rfl):Go P R B D0 Q c:=
 Vn _ .none (uL _ k hb hy rfl (by rw[hn];exact hlt)) hk hok rfl
theorem sR (j:Int) (k n:Nat) (hk:Go P R B D0 Q (c.ixP k)) (hlt:k<n:=by omega) (hj:j=(k:Int):=by omega) (hb:ixB P c.o (c.s.ev (Oper.ixX c.o))=true:=by kernel_rfl) (hn:Abw (c.s.ev (Oper.ixX c.o))=n:=by kernel_rfl) (hy:c.s.ev (Oper.ixY c.o)= .int j:=by kernel_rfl) (hok:c.ok=true:=by kernel_rfl):Go P R B D0 Q c:=
 Vn _ .none (uL j k hb hy hj (by rw[hn];exact hlt)) hk hok rfl
theorem Tg {o:Oper} {ev:Operand->AV} {pre:Nat->Option Co} {V:AV} (k n:Nat) (hlt:k<n:=by omega) (hb:ixB P o (ev (Oper.ixX o))=true:=by kernel_rfl) (hn:Abw (ev (Oper.ixX o))=n:=by kernel_rfl) (hy:ev (Oper.ixY o)= .int (k:Int):=by kernel_rfl) (hV:Hr (ev (Oper.ixX o)) k=V:=by kernel_rfl):Fh P B D0 o ev pre V .none:=hV▸uL _ k hb hy rfl (by rw[hn];exact hlt)
theorem Af6 {o:Oper} {ev:Operand->AV} {pre:Nat->Option Co} {V:AV} (j:Int) (k n:Nat) (hlt:k<n:=by omega) (hj:j=(k:Int):=by omega) (hb:ixB P o (ev (Oper.ixX o))=true:=by kernel_rfl) (hn:Abw (ev (Oper.ixX o))=n:=by kernel_rfl) (hy:ev (Oper.ixY o)= .int j:=by kernel_rfl) (hV:Hr (ev (Oper.ixX o)) k=V:=by kernel_rfl):Fh P B D0 o ev pre V .none:=hV▸uL j k hb hy hj (by rw[hn];exact hlt)
theorem sX {x:Code} {s:St} (h:AC P R B D0 x s (λe s=>∃s',Ki B D0 s s'/\Q e s')):AC P R B D0 x s Q:=⟨λE a hs=>
 Ev (λe a' w' ⟨s1,E',h1,⟨s',hk,hq⟩,h3,h4⟩=>by
  obtain⟨E2,e2,h5⟩:=hk E' a' h3
  exact⟨s',E2,e2.trans h1,hq,h5,h4⟩) (h.run E a hs)⟩
def Dt.dl (c:Dt):List Oper:=match c.m with| .code (.region _ a true)=>a.toList|_=>[]
def Dt.dr (P:Program) (c:Dt) (ex:wM):List AV×List Ck:=(qN P c.dl.toArray ex c.s c.dl [] []).getD ([],[])
def Dt.drawn (P:Program) (c:Dt) (ex:wM) (keep:List Nat):Dt:=⟨.out .normal,c.k,⟨yK c.dl.toArray (c.dr P ex).1 c.s keep,Id (c.dr P ex).2 c.s.h c.dl.toArray.size,nxF (c.dr P ex).2 c.s.nx,c.s.n⟩⟩
theorem Jb (ex:wM) (keep:List Nat) (hop:eX P B D0 c.dl (c.dr P ex).1 (c.dr P ex).2 c.s ex)
  (hk:Go P R B D0 Q (c.drawn P ex keep))
  (hm:P.follows .mixedOrders=true:=by kernel_rfl) (hr:(qN P c.dl.toArray ex c.s c.dl [] []).isSome=true:=by kernel_rfl) (hB:drB c.dl.toArray (c.dr P ex).2 c.s.nx c.s.n=true:=by kernel_rfl) (hnx:nxB (c.dr P ex).2 c.s.nx (nxF (c.dr P ex).2 c.s.nx)=true:=by kernel_rfl) (hc:(match c.m with| .code (.region _ _ true)=>true|_=>false)=true:=by kernel_rfl):Go P R B D0 Q c:=by
 obtain⟨m,k,s⟩:=c
 split at hc
 rename_i id a hmm
 cases hmm
 obtain⟨l⟩:=a
 exact⟨sX (AfA ex keep _ hop hk.m hm hr hB hnx)⟩
 cases hc
def bM (keep:List Nat) (s:St):St:=⟨keep.map λt=>(t,Cw s.t t),s.h,s.nx,s.n⟩
theorem Ow (keep:List Nat) (s:St):Ki B D0 s (bM keep s):=λE a hs=>AbB keep _ rfl E a hs
def Dt.lb (c:Dt):Code:=match c.m with| .code (.loop b)=>b|_=> .skip
def Dt.isL (c:Dt):Bool:=match c.m with| .code (.loop _)=>true|_=>false
def Dt.round (c:Dt) (J:St->Prop) (s:St):Dt:=⟨.code c.lb,.lp J::c.k,s⟩
theorem dN (keep:List Nat) (I:Nat->St->Prop) (m:Nat) (h0:I m (bM keep c.s)) (h:∀m s,I m s->∀J:St->Prop,(∀m' s',m'<m->I m' s'->J s')->Go P R B D0 Q (c.round J s)) (hl:c.isL=true:=by kernel_rfl):Go P R B D0 Q c:=by
 refine Jo _ (Ow keep c.s) ?_
 obtain⟨md,k,s⟩:=c
 unfold Dt.isL at hl
 split at hl
 rename_i b hm
 cases hm
 exact⟨kT I m h0 λm s hI=>(h m s hI _ λm' s' h1 h2=>⟨m',h1,h2⟩).m⟩
 cases hl
theorem Pe (keep:List Nat) (n:Nat) (F:Nat->Prop) (st:Nat->St) (h0:F 0) (h:∀i,i<=n->F i->∀J:St->Prop,(i<n->F (i+1)->J (st (i+1)))->Go P R B D0 Q (c.round J (st i))) (hs:bM keep c.s=st 0:=by kernel_rfl) (hl:c.isL=true:=by kernel_rfl):Go P R B D0 Q c:=
 dN keep (λm s=>∃i,i<=n/\m=n-i/\F i/\s=st i) n ⟨0,Nat.zero_le _,rfl,h0,hs⟩ (λm s ⟨i,h1,h2,h3,h4⟩ J hJ=>by
  subst h4
  exact h i h1 h3 J λg1 g2=>hJ (n-(i+1)) _ ω ⟨i+1,g1,rfl,g2,rfl⟩) hl
def Dt.J (c:Dt):St->Prop:=match c.k with| .lp J::_=>J|_=>λ_=>False
def Dt.isN (c:Dt):Bool:=match c.m with| .out .normal=>true|_=>false
theorem AfL {J:St->Prop} (s':St) (hw:Ki B D0 c.s s') (h:J s') (hT:c.J=J:=by kernel_rfl) (hn:c.isN=true:=by kernel_rfl):Go P R B D0 Q c:=by
 obtain⟨m,k,s⟩:=c
 unfold Dt.isN at hn
 split at hn
 rename_i hm
 cases hm
 subst hT
 cases k with
 |nil=>exact h.elim
 |cons i k=>cases i with
  |lp J=>exact⟨⟨s',hw,h⟩⟩
  |_=>exact h.elim
 cases hn
theorem Om {J:St->Prop} (keep:List Nat) {s':St} (h:J s') (hs:bM keep c.s=s':=by kernel_rfl) (hT:c.J=J:=by kernel_rfl) (hn:c.isN=true:=by kernel_rfl):Go P R B D0 Q c:=AfL _ (Ow keep c.s) (hs▸h) hT hn
abbrev AcL:=List (TypeId×Nat×Nat×(Nat->AV))
def pK:Ek->AcL
 |[]=>[]
 |(_,.vec t e n f)::h=>(t,e,n,f)::pK h
 |(_,.box _ _)::h=>pK h
 |(_,.loop ..)::h=>pK h
def Abh:AcL->Prop
 |[]=>True
 |(_,e,n,f)::l=>(∀i,i<n->∀j,j<e->((f i).cell j).flat=true)/\Abh l
theorem Vk:∀{h:Ek} {l:AcL},pK h=l->Abh l->fA h
 |[],_,_,_=>trivial
 |(_,.vec _ _ _ _)::h,_,rfl,hl=>⟨hl.1,Vk (h:=h) rfl hl.2⟩
 |(_,.box _ _)::h,_,hv,hl=>Vk (h:=h) hv hl
 |(_,.loop ..)::h,_,hv,hl=>Vk (h:=h) hv hl
theorem Ha {J:St->Prop} (keep:List Nat) (ρ:List (Nat×Nat)) (nx k0:Nat) (hA0:∀id,D0.A id->id<k0) (L:AcL) (hfl:Abh L) {s':St} (h:J s') (hv:pK c.s.h=L:=by kernel_rfl) (hs:(⟨mapT (Xr ρ) (bM keep c.s).t,AdA ρ c.s.h,nx,c.s.n⟩:St)=s':=by kernel_rfl) (hd:Ya (ρ.map (·.2))=true:=by kernel_rfl) (hd1:Ya (ρ.map (·.1))=true:=by kernel_rfl) (hl:(ρ.all λp=>(Bc c.s.h p.1).isSome&&Nat.blt p.2 nx)=true:=by kernel_rfl) (hk0:(Nat.ble k0 nx&&ρ.all λp=>Nat.beq p.1 p.2||Nat.ble k0 p.2)=true:=by kernel_rfl) (hT:c.J=J:=by kernel_rfl) (hn:c.isN=true:=by kernel_rfl):Go P R B D0 Q c:=
 AfL s' (Ki.trans (Ow keep c.s) λE a hs'=>AdB ρ nx k0 hA0 s' hs hd hd1 hl hk0 (Vk hv hfl) E a hs') h hT hn
def Dt.frzS (c:Dt) (id:Nat) (ds:List Nat) (V:AV):Dt:=⟨c.m,c.k,⟨ds.map (λd=>(d,V))++c.s.t,Hk c.s.h id,c.s.nx,c.s.n⟩⟩
theorem Yw (id:Nat) (ds:List Nat) (t:TypeId) (e n:Nat) (f:Nat->AV) (hf:∀i,i<n->∀j,j<e->((f i).cell j).flat=true) (hk:Go P R B D0 Q (c.frzS id ds (.sl e n f))) (hd:ds.map (Cw c.s.t)=ds.map λ_=> .osl id e n:=by kernel_rfl) (hc:Bc c.s.h id=some (.vec t e n f):=by kernel_rfl):Go P R B D0 Q c:=
 Jo _ (λE a hs=>mU id ds t e n f hd hc hf E a hs) hk
theorem Acr (id:Nat) (ds:List Nat) (t:TypeId) (e n:Nat) (f:Nat->AV) (hf:∀i,i<n->∀j,j<e->((f i).cell j).flat=true) (hk:Go P R B D0 Q (c.frzS id ds (.slc e n f))) (hd:ds.map (Cw c.s.t)=ds.map λ_=> .osl id e n:=by kernel_rfl) (hc:Bc c.s.h id=some (.vec t e n f):=by kernel_rfl):Go P R B D0 Q c:=
 Jo _ (λE a hs=>jG id ds t e n f hd hc hf E a hs) hk
def Dt.box (c:Dt) (id:Nat):List AV:=match Bc c.s.h id with|some (.box _ cs)=>cs|_=>[]
def Dt.boxT (c:Dt) (id:Nat):TypeId:=match Bc c.s.h id with|some (.box t _)=>t|_=>0
def Dt.frzB (c:Dt) (id:Nat):Dt:=⟨c.m,c.k,⟨mapT (YtldnjomacnjhnaaGreat.frzB id (c.box id)) c.s.t,(Hk c.s.h id).map λp=>(p.1,p.2.mapB (YtldnjomacnjhnaaGreat.frzB id (c.box id))),c.s.nx,c.s.n⟩⟩
theorem Yv (id:Nat) (hk:Go P R B D0 Q (c.frzB id)) (hc:Bc c.s.h id=some (.box (c.boxT id) (c.box id)):=by kernel_rfl) (hf:(c.box id).all AV.free=true:=by kernel_rfl):Go P R B D0 Q c:=
 Jo _ (λE a hs=>jE id _ _ _ hc rfl hf E a hs) hk
def Dt.setB (c:Dt) (id:Nat) (b:Co):Dt:=⟨c.m,c.k,⟨c.s.t,hset c.s.h id b,c.s.nx,c.s.n⟩⟩
theorem Ww (id:Nat) (t:TypeId) (e n:Nat) (f g:Nat->AV) (hfg:∀i,i<n->f i=g i) (hk:Go P R B D0 Q (c.setB id (.vec t e n g))) (hc:Bc c.s.h id=some (.vec t e n f):=by kernel_rfl):Go P R B D0 Q c:=
 Jo _ (λE a hs=>Acq id t e n f g hc hfg E a hs) hk
def Dt.upN (c:Dt) (nx:Nat):Dt:=⟨c.m,c.k,⟨c.s.t,c.s.h,nx,c.s.n⟩⟩
theorem zY (nx:Nat) (hk:Go P R B D0 Q (c.upN nx)) (hn:Nat.ble c.s.nx nx=true:=by kernel_rfl):Go P R B D0 Q c:=
 Jo _ (λE a hs=>Afg nx (Nat.le_of_ble_eq_true hn) E a hs) hk
def Ik (P:Program) (s:St):ResultVar->Option AV
 | .tmp t=>bif (Cw s.t t).free then some (Cw s.t t) else none
 | .cell q T=>match Cw s.t q with
  | .ptr id off=>match Bc s.h id with
   |some (.box _ cs)=>match dC P T with
    |some false=>bif Nat.blt off cs.length&&(cs.getD off .top).free then some (cs.getD off .top) else none
    |some true=>match Lv P T with
     |some n=>bif Nat.ble (off+n) cs.length&&(mkAgg ((cs.drop off).take n)).free then some (mkAgg ((cs.drop off).take n)) else none
     |none=>none
    |none=>none
   |_=>none
  |_=>none
theorem Es {s:St} {rv:ResultVar} {x:AV} (h:Ik P s rv=some x):Pq P B D0 s rv x:=by
 unfold Ik at h
 split at h
 rename_i t
 cases hb:(Cw s.t t).free with
 |false=>rw[hb] at h;cases h
 |true=>rw[hb] at h;cases h;exact AbS rfl hb
 rename_i q T
 split at h
 rename_i id off hq
 split at h
 rename_i t cs hc
 split at h
 rename_i ha
 cases hb:Nat.blt off cs.length&&(cs.getD off .top).free with
 |false=>rw[hb] at h;cases h
 |true=>
  rw[hb] at h;cases h
  have hb2:=Bool.and_eq_true_iff.1 hb
  exact rZ id (Hx ha) off cs hq t hc (by simpa [Nat.blt_eq] using hb2.1) rfl hb2.2
 rename_i ha
 split at h
 rename_i n hn
 cases hb:Nat.ble (off+n) cs.length&&(mkAgg ((cs.drop off).take n)).free with
 |false=>rw[hb] at h;cases h
 |true=>
  rw[hb] at h;cases h
  have hb2:=Bool.and_eq_true_iff.1 hb
  exact yW id (Hx ha) n (Et hn) off cs hq t hc (Nat.le_of_ble_eq_true hb2.1) rfl hb2.2
 cases h
 cases h
 cases h
 cases h
theorem AeV {s:St} {fn:Func} {r1 r2 r3 r4:ResultVar} {x y z u:AV} (hr:fn.results=#[r1,r2,r3,r4]) (h1:Pq P B D0 s r1 x) (h2:Pq P B D0 s r2 y) (h3:Pq P B D0 s r3 z) (h4:Pq P B D0 s r4 u):Qx P B D0 fn s (mkTup [x,y,z,u]):=λE a hs=>by
 obtain⟨v1,e1,f1⟩:=h1 E a hs
 obtain⟨v2,e2,f2⟩:=h2 E a hs
 obtain⟨v3,e3,f3⟩:=h3 E a hs
 obtain⟨v4,e4,f4⟩:=h4 E a hs
 refine⟨.tuple #[v1,v2,v3,v4],by simp[Js,hr,e1,e2,e3,e4],VR.tupl [x,y,z,u] _ rfl (λi hi=>?_) _ rfl⟩
 match i with
 |0=>exact f1
 |1=>exact f2
 |2=>exact f3
 |3=>exact f4
def mP (P:Program) (fn:Func) (s:St):Option AV:=match fn.results.toList with
 |[]=>some (.lit (.tuple #[]))
 |[r]=>Ik P s r
 |[r1,r2]=>match Ik P s r1,Ik P s r2 with
  |some x,some y=>some (mkTup [x,y])
  |_,_=>none
 |[r1,r2,r3]=>match Ik P s r1,Ik P s r2,Ik P s r3 with
  |some x,some y,some z=>some (mkTup [x,y,z])
  |_,_,_=>none
 |[r1,r2,r3,r4]=>match Ik P s r1,Ik P s r2,Ik P s r3,Ik P s r4 with
  |some x,some y,some z,some u=>some (mkTup [x,y,z,u])
  |_,_,_,_=>none
 |[r1,r2,r3,r4,r5]=>match Ik P s r1,Ik P s r2,Ik P s r3,Ik P s r4,Ik P s r5 with
  |some x,some y,some z,some u,some t=>some (mkTup [x,y,z,u,t])
  |_,_,_,_,_=>none
 |_=>none
theorem mQ {fn:Func} {s:St} {V:AV} (h:mP P fn s=some V):Qx P B D0 fn s V:=by
 have key:∀l,fn.results.toList=l->fn.results=l.toArray:=λl h=>by rw[<-h]
 unfold mP at h
 split at h
 rename_i hr;cases h;exact rX (key _ hr)
 rename_i hr;exact AeS (key _ hr) (Es h)
 rename_i hr
 split at h
 rename_i h1 h2;cases h;exact AeT (key _ hr) (Es h1) (Es h2)
 cases h
 rename_i hr
 split at h
 rename_i h1 h2 h3;cases h;exact AeU (key _ hr) (Es h1) (Es h2) (Es h3)
 cases h
 rename_i hr
 split at h
 rename_i h1 h2 h3 h4;cases h;exact AeV (key _ hr) (Es h1) (Es h2) (Es h3) (Es h4)
 cases h
 rename_i hr
 split at h
 rename_i h1 h2 h3 h4 h5;cases h;exact AeW (key _ hr) (Es h1) (Es h2) (Es h3) (Es h4) (Es h5)
 cases h
 cases h
def QF (P:Program) (B:Nat) (D0:Bu) (fn:Func) (r:AV):Exit->St->Prop:=λe s=>(e= .ret\/e= .normal)/\Qx P B D0 fn s r
def Dt.isE (c:Dt):Bool:=match c.m,c.k with| .out .normal,[]=>true| .out .ret,[]=>true|_,_=>false
theorem Hs {fn:Func} {r:AV} (V:AV) (h:V=r) (hv:mP P fn c.s=some V:=by kernel_rfl) (hn:c.isE=true:=by kernel_rfl):Go P R B D0 (QF P B D0 fn r) c:=by
 subst h
 have hr:=mQ (B:=B) (D0:=D0) hv
 obtain⟨m,k,s⟩:=c
 unfold Dt.isE at hn
 split at hn
 rename_i h1 h2
 cases h1;cases h2
 exact⟨⟨s,Ki.refl s,.inr rfl,hr⟩⟩
 rename_i h1 h2
 cases h1;cases h2
 exact⟨⟨s,Ki.refl s,.inl rfl,hr⟩⟩
 cases hn
theorem Gd {fn:Func} {r:AV} (hv:mP P fn c.s=some r:=by kernel_rfl) (hn:c.isE=true:=by kernel_rfl):Go P R B D0 (QF P B D0 fn r) c:=Hs r rfl hv hn
theorem Cr {f:FuncId} {fn:Func} {args:List AV} {r:AV} (hf:Tryz.prog.funcs[f]?=some fn) {x:Code} (hc:fn.body=some x:=by rfl) (h:∀B D0,(∀id,D0.A id->id<0)->Go Tryz.prog none B D0 (QF Tryz.prog B D0 fn r) ⟨.code x,[],⟨Hl args 0,[],0,fn.ntmps⟩⟩) (hle:Nat.ble args.length fn.ntmps=true:=by kernel_rfl):AF Tryz.prog f args r:=
 Aft _ hf hc fn.ntmps rfl hle rfl λB D0 hA=>(h B D0 hA).m
end Go.Proofs.YtldnjomacnjhnaaGreat
namespace Go.Proofs.YtldnjomacnjhnaaGreat
open Go.RowKit
variable {P:Program} {R:Option Nat} {B:Nat} {D0:Bu} {Q:Exit->St->Prop} {c:Dt}
def Dt.unr (c:Dt) (n:Nat):Dt:=⟨.code c.lb,.un n c.lb::c.k,c.s⟩
theorem pO (n:Nat) (h:Go P R B D0 Q (c.unr n)) (hl:c.isL=true:=by kernel_rfl):Go P R B D0 Q c:=by
 obtain⟨m,k,s⟩:=c
 unfold Dt.isL at hl
 split at hl
 rename_i b hm
 cases hm
 exact⟨gS (n+1) h.m⟩
 cases hl
def Dt.back (c:Dt) (r:AV) (h:Ek) (nx:Nat):Dt:=⟨.ops c.a c.l.tail,c.k,⟨My c.s.t c.o.dst r,h,nx,c.s.n⟩⟩
def Aa2 (P:Program) (B:Nat) (D1:Bu) (fn:Func) (K:AV->Ek->Nat->Prop):Exit->St->Prop:=AcI P B D1 fn K
theorem Adg {f:FuncId} {fn:Func} {x:Code} {args:List AV} (hf:Tryz.prog.funcs[f]?=some fn) (hc:fn.body=some x)
  (hrun:∀(E:Bu) (a:Act),(∀x,VR E (c.s.ev x) (a.eval x))->∃vs:Array Value,(∀w,(execOp a.eval c.o).run Tryz.prog w= .ok (.enter f vs) w)/\vs.size=args.length/\∀i,i<args.length->VR E (args.getD i .top) (vs.getD i undef))
  (h:∀D1,(∀id,D1.A id->id<c.s.nx)->Go Tryz.prog none B D1 (Aa2 Tryz.prog B D1 fn λr h nx=>Go Tryz.prog R B D0 Q (c.back r h nx)) ⟨.code x,[],⟨Hl args 0,c.s.h,c.s.nx,fn.ntmps⟩⟩)
  (hle:Nat.ble args.length fn.ntmps=true) (hok:c.ok=true) (hg:c.o.guard=none):Go Tryz.prog R B D0 Q c:=by
 obtain⟨m,k,s⟩:=c
 cases m with
 |code x=>cases hok
 |out e=>cases hok
 |ops a l=>
  cases l with
  |nil=>cases hok
  |cons o l=>
   have hok:(jJ a s o==some true&&Nh o s.n)=true:=hok
   exact⟨wI f args fn.ntmps hg (Bool.and_eq_true_iff.1 hok).2 hrun hf hc rfl hle λD1 hD=>gT (h D1 hD).m λe s ⟨h1,r,h2,h3⟩=>⟨h1,r,h2,h3.m⟩⟩
theorem Yx {f:FuncId} {fn:Func} {x:Code} (nx0:Nat) (hf:Tryz.prog.funcs[f]?=some fn)
  (h:∀D1,(∀id,D1.A id->id<nx0)->Go Tryz.prog none B D1 (Aa2 Tryz.prog B D1 fn λr h nx=>Go Tryz.prog R B D0 Q (c.back r h nx)) ⟨.code x,[],⟨Hl (c.xs.toList.map c.s.ev) 0,c.s.h,c.s.nx,fn.ntmps⟩⟩)
  (hc:fn.body=some x:=by rfl) (ho:c.o.op= .call { callee:= .value (.func f),args:=c.xs,argTypes:=c.ts }:=by kernel_rfl) (hcall:∀(vs:Array Value) w,(callFunc f vs).run Tryz.prog w= .ok (.enter f vs) w:=by intro _ _;kernel_rfl)
  (hle:Nat.ble (c.xs.toList.map c.s.ev).length fn.ntmps=true:=by kernel_rfl) (hok:c.ok=true:=by kernel_rfl) (hg:c.o.guard=none:=by kernel_rfl) (hnx:c.s.nx=nx0:=by kernel_rfl):Go Tryz.prog R B D0 Q c:=
 Adg hf hc (λE a hv=>AdG f c.xs c.ts ho hcall _ rfl E a hv) (hnx▸h) hle hok hg
def Dt.sx (c:Dt):Code:=match c.m with| .code (.seq x _)=>x|_=> .skip
def Dt.sy (c:Dt):Code:=match c.m with| .code (.seq _ y)=>y|_=> .skip
theorem vjn (mid:St) (h1:Go P R B D0 Q ⟨.code c.sy,c.k,mid⟩) (h2:∀J:St->Prop,J mid->Go P R B D0 Q ⟨.code c.sx,.lp J::c.k,c.s⟩) (hc:(match c.m with| .code (.seq _ _)=>true|_=>false)=true:=by kernel_rfl):Go P R B D0 Q c:=by
 obtain⟨m,k,s⟩:=c
 split at hc
 rename_i x y hm
 cases hm
 exact⟨Aak (h2 (λs=>AC P R B D0 y s (KQ P R B D0 Q k)) h1.m).m⟩
 cases hc
def Vg (P:Program) (s:St):ResultVar->Option AV
 | .tmp t=>some (Cw s.t t)
 | .cell q T=>match Cw s.t q with
  | .ptr id off=>match Bc s.h id with
   |some (.box _ cs)=>match dC P T with
    |some false=>bif Nat.blt off cs.length then some (cs.getD off .top) else none
    |some true=>match Lv P T with
     |some n=>bif Nat.ble (off+n) cs.length then some (mkAgg ((cs.drop off).take n)) else none
     |none=>none
    |none=>none
   |_=>none
  |_=>none
theorem Uc {s:St} {rv:ResultVar} {x:AV} (h:Vg P s rv=some x):aG P B D0 s rv x:=by
 unfold Vg at h
 split at h
 cases h;exact yV rfl
 rename_i q T
 split at h
 rename_i id off hq
 split at h
 rename_i t cs hc
 split at h
 rename_i ha
 cases hb:Nat.blt off cs.length with
 |false=>rw[hb] at h;cases h
 |true=>rw[hb] at h;cases h;exact oN id (Hx ha) off cs hq t hc (by simpa [Nat.blt_eq] using hb) rfl
 rename_i ha
 split at h
 rename_i n hn
 cases hb:Nat.ble (off+n) cs.length with
 |false=>rw[hb] at h;cases h
 |true=>rw[hb] at h;cases h;exact rY id (Hx ha) n (Et hn) off cs hq t hc (Nat.le_of_ble_eq_true hb) rfl
 cases h
 cases h
 cases h
 cases h
def Xh (P:Program) (fn:Func) (s:St):Option AV:=match fn.results.toList with
 |[]=>some (.lit (.tuple #[]))
 |[r]=>Vg P s r
 |[r1,r2]=>match Vg P s r1,Vg P s r2 with
  |some x,some y=>some (mkTup [x,y])
  |_,_=>none
 |_=>none
theorem xD {fn:Func} {s:St} {V:AV} (h:Xh P fn s=some V):Aa7 P B D0 fn s V:=by
 have key:∀l,fn.results.toList=l->fn.results=l.toArray:=λl h=>by rw[<-h]
 unfold Xh at h
 split at h
 rename_i hr;cases h;exact yU (key _ hr)
 rename_i hr;exact AfB (key _ hr) (Uc h)
 rename_i hr
 split at h
 rename_i h1 h2;cases h;exact AfC (key _ hr) (Uc h1) (Uc h2)
 cases h
 cases h
def Dt.rI (P:Program) (fn:Func) (c:Dt):AV:=(Xh P fn c.s).getD .top
theorem sS {D1:Bu} {fn:Func} {K:AV->Ek->Nat->Prop} (hk:K (c.rI P fn) c.s.h c.s.nx) (hv:(Xh P fn c.s).isSome=true:=by kernel_rfl) (hn:c.isE=true:=by kernel_rfl):Go P R B D1 (Aa2 P B D1 fn K) c:=by
 unfold Dt.rI at hk
 cases he:Xh P fn c.s with
 |none=>rw[he] at hv;cases hv
 |some V=>
  rw[he] at hk
  have hr:=xD (B:=B) (D0:=D1) he
  obtain⟨m,k,s⟩:=c
  unfold Dt.isE at hn
  split at hn
  rename_i h1 h2
  cases h1;cases h2
  exact⟨⟨s,Ki.refl s,.inr rfl,V,hr,hk⟩⟩
  rename_i h1 h2
  cases h1;cases h2
  exact⟨⟨s,Ki.refl s,.inl rfl,V,hr,hk⟩⟩
  cases hn
def Oper.enX (o:Oper):Operand:=match o.op with| .binOp _ _ x _ _=>x|_=>default
def enB (P:Program) (o:Oper):Bool:=match o.op with
 | .binOp .eql T _ (.const (.slice none 0 0)) _=>match P.underlying T with
  |some (.slice _)=>true
  |_=>false
 |_=>false
theorem Af2 {o:Oper} {ev:Operand->AV} {pre:Nat->Option Co} (hb:enB P o=true) {e n:Nat} {f:Nat->AV} (hx:ev (Oper.enX o)= .sl e n f) (h0:0<n):Fh P B D0 o ev pre (.bool false) .none:=by
 unfold enB at hb
 split at hb
 rename_i T x t' ho
 have ex:Oper.enX o=x:=by unfold Oper.enX;rw[ho]
 rw[ex] at hx
 split at hb
 rename_i el hu
 exact yH T t' x ho hu e n f hx h0
 cases hb
 cases hb
theorem Ae7 {o:Oper} {ev:Operand->AV} {pre:Nat->Option Co} (hb:enB P o=true) (hx:ev (Oper.enX o)= .lit (.slice none 0 0)):Fh P B D0 o ev pre (.bool true) .none:=by
 unfold enB at hb
 split at hb
 rename_i T x t' ho
 have ex:Oper.enX o=x:=by unfold Oper.enX;rw[ho]
 rw[ex] at hx
 split at hb
 rename_i el hu
 exact rN T t' x ho hu hx
 cases hb
 cases hb
def slE:AV->Nat| .sl e _ _=>e|_=>0
def slF:AV->Nat->AV| .sl _ _ f=>f|_=>λ_=> .top
theorem gP (n:Nat) (hk:Go P R B D0 Q (c.put (.bool false) .none)) (h0:0<n:=by omega) (hb:enB P c.o=true:=by kernel_rfl) (hx:c.s.ev (Oper.enX c.o)= .sl (slE (c.s.ev (Oper.enX c.o))) n (slF (c.s.ev (Oper.enX c.o))):=by kernel_rfl) (hok:c.ok=true:=by kernel_rfl):Go P R B D0 Q c:=Vn _ .none (Af2 hb hx h0) hk hok rfl
theorem pM (hk:Go P R B D0 Q (c.put (.bool true) .none)) (hb:enB P c.o=true:=by kernel_rfl) (hx:c.s.ev (Oper.enX c.o)= .lit (.slice none 0 0):=by kernel_rfl) (hok:c.ok=true:=by kernel_rfl):Go P R B D0 Q c:=Vn _ .none (Ae7 hb hx) hk hok rfl
def Oper.cxs (o:Oper):Array Operand:=match o.op with| .call cl=>cl.args|_=>#[]
def Oper.cts (o:Oper):Array TypeId:=match o.op with| .call cl=>cl.argTypes|_=>#[]
def Oper.cfx (o:Oper):Operand:=match o.op with| .call cl=>(match cl.callee with| .value x=>x|_=>default)|_=>default
def AaP:AV->List AV| .fn _ l=>l|_=>[]
theorem El {o:Oper} {ev:Operand->AV} {pre:Nat->Option Co} {f:FuncId} {args:List AV} {r:AV} (hf:AF P f args r) (ho:o.op= .call { callee:= .value (.func f),args:=Oper.cxs o,argTypes:=Oper.cts o }:=by kernel_rfl) (hargs:(Oper.cxs o).toList.map ev=args:=by kernel_rfl) (hfree:args.all AV.free=true:=by kernel_rfl) (hcall:∀(vs:Array Value) w,(callFunc f vs).run P w= .ok (.enter f vs) w:=by intro _ _;kernel_rfl):Fh P B D0 o ev pre r .none:=nZ f _ _ ho hcall args hargs hfree r hf
theorem AcV {o:Oper} {ev:Operand->AV} {pre:Nat->Option Co} {f:FuncId} {args:List AV} {r:AV} (hf:AF P f args r) (ho:o.op= .call { callee:= .value (Oper.cfx o),args:=Oper.cxs o,argTypes:=Oper.cts o }:=by kernel_rfl) (hx:ev (Oper.cfx o)= .fn f (AaP (ev (Oper.cfx o))):=by kernel_rfl) (hargs:(Oper.cxs o).toList.map ev++AaP (ev (Oper.cfx o))=args:=by kernel_rfl) (hfree:args.all AV.free=true:=by kernel_rfl) (hcall:∀(vs:Array Value) w,(callFunc f vs).run P w= .ok (.enter f vs) w:=by intro _ _;kernel_rfl):Fh P B D0 o ev pre r .none:=fR _ f _ _ ho _ hx hcall args hargs hfree r hf
theorem kbD {o:Oper} {ev:Operand->AV} {pre:Nat->Option Co} {b v:Bool} (hb:b=v) (h:evG P o ev pre 0=some (.bool b,.none):=by kernel_rfl):Fh P B D0 o ev pre (.bool v) .none:=hb▸qQ h
theorem kbC {o:Oper} {ev:Operand->AV} {pre:Nat->Option Co} {b v:Bool} (hb:b=v) (h:Fh P B D0 o ev pre (.bool b) .none):Fh P B D0 o ev pre (.bool v) .none:=hb▸h
theorem Gl {e n:Nat} {f:Nat->AV} (h:∀i,i<n->((List.range e).all λj=>((f i).cell j).flat)=true):∀i,i<n->∀j,j<e->((f i).cell j).flat=true:=λi hi j hj=>List.all_eq_true.1 (h i hi) j (List.mem_range.2 hj)
theorem zW {keep:List Nat} (n:Nat) (st:Nat->St) (h:∀i,i<n->∀J:St->Prop,J (st (i+1))->Go P R B D0 Q (c.round J (st i))) (hl:Go P R B D0 Q (c.round (λ_=>False) (st n))) (hs:bM keep c.s=st 0:=by kernel_rfl) (hL:c.isL=true:=by kernel_rfl):Go P R B D0 Q c:=by
 refine Jo _ (Ow keep c.s) ?_
 rw[hs]
 obtain⟨md,k,s⟩:=c
 unfold Dt.isL at hL
 split at hL
 rename_i b hm
 cases hm
 exact⟨kU st n rfl (λi hi K hK=>(h i hi K hK).m) hl.m⟩
 cases hL
def QM (P:Program) (B:Nat) (D0:Bu) (fn:Func) (r:Value) (t:TypeId) (us:List Value):Exit->St->Prop:=λe s=>(e= .ret\/e= .normal)/\Qx P B D0 fn s (.lit r)/\Bc s.h 0=some (.box t (us.map .lit))
theorem Afh {fn:Func} {r:Value} {t:TypeId} {us:List Value} (V:AV) (h:V= .lit r) (hv:mP P fn c.s=some V:=by kernel_rfl) (hb:Bc c.s.h 0=some (.box t (us.map .lit)):=by kernel_rfl) (hn:c.isE=true:=by kernel_rfl):Go P R B D0 (QM P B D0 fn r t us) c:=by
 subst h
 have hr:=mQ (B:=B) (D0:=D0) hv
 obtain⟨m,k,s⟩:=c
 unfold Dt.isE at hn
 split at hn
 rename_i h1 h2
 cases h1;cases h2
 exact⟨⟨s,Ki.refl s,.inr rfl,hr,hb⟩⟩
 rename_i h1 h2
 cases h1;cases h2
 exact⟨⟨s,Ki.refl s,.inl rfl,hr,hb⟩⟩
 cases hn
theorem qX {f:FuncId} {fn:Func} {t:TypeId} {us:List Value} {args:List AV} {r:Value} (hf:Tryz.prog.funcs[f]?=some fn) {x:Code} (hc:fn.body=some x:=by rfl) (h:∀B D0,(∀id,D0.A id->id<1)->Go Tryz.prog none B D0 (QM Tryz.prog B D0 fn r t us) ⟨.code x,[],⟨Hl (.ptr 0 0::args) 0,[(0,.box t (us.map .lit))],1,fn.ntmps⟩⟩) (hle:Nat.ble (args.length+1) fn.ntmps=true:=by kernel_rfl):AFM Tryz.prog f t us args r:=
 Aer _ hf hc fn.ntmps rfl hle rfl λB D0 hA=>(h B D0 hA).m
def Dt.frzC (c:Dt) (id b off:Nat) (V:AV):Dt:=⟨c.m,c.k,⟨c.s.t,hset (Hk c.s.h id) b (.box (c.boxT b) ((c.box b).set off V)),c.s.nx,c.s.n⟩⟩
theorem sQ (id b off:Nat) (t:TypeId) (e n:Nat) (f:Nat->AV) (hf:∀i,i<n->∀j,j<e->((f i).cell j).flat=true) (hk:Go P R B D0 Q (c.frzC id b off (.sl e n f))) (hb:Bc c.s.h b=some (.box (c.boxT b) (c.box b)):=by kernel_rfl) (ho:(c.box b).getD off .top= .osl id e n:=by kernel_rfl) (hne:Nat.beq id b=false:=by kernel_rfl) (hc:Bc c.s.h id=some (.vec t e n f):=by kernel_rfl):Go P R B D0 Q c:=
 Jo _ (λE a hs=>mT id b off t e n f (c.boxT b) (c.box b) _ hb ho rfl hne hc hf E a hs) hk
theorem gQ (id b off:Nat) (t:TypeId) (e n:Nat) (f:Nat->AV) (hf:∀i,i<n->∀j,j<e->((f i).cell j).flat=true) (hk:Go P R B D0 Q (c.frzC id b off (.slc e n f))) (hb:Bc c.s.h b=some (.box (c.boxT b) (c.box b)):=by kernel_rfl) (ho:(c.box b).getD off .top= .osl id e n:=by kernel_rfl) (hne:Nat.beq id b=false:=by kernel_rfl) (hc:Bc c.s.h id=some (.vec t e n f):=by kernel_rfl):Go P R B D0 Q c:=
 Jo _ (λE a hs=>jF id b off t e n f (c.boxT b) (c.box b) _ hb ho rfl hne hc hf E a hs) hk
def AfE:AV->Nat| .slc e _ _=>e|_=>0
def AfG:AV->Nat| .slc _ n _=>n|_=>0
def AfF:AV->Nat->AV| .slc _ _ f=>f|_=>λ_=> .top
def Dt.wkS (c:Dt) (d:Nat):Dt:=⟨c.m,c.k,⟨(d,(Cw c.s.t d).wk)::c.s.t,c.s.h,c.s.nx,c.s.n⟩⟩
theorem vwk (d:Nat) (hk:Go P R B D0 Q (c.wkS d)) (hd:Cw c.s.t d= .slc (AfE (Cw c.s.t d)) (AfG (Cw c.s.t d)) (AfF (Cw c.s.t d)):=by kernel_rfl):Go P R B D0 Q c:=
 Jo _ (λE a hs=>Acs d _ _ _ hd E a hs) (by
  have e:(Cw c.s.t d).wk= .sl (AfE (Cw c.s.t d)) (AfG (Cw c.s.t d)) (AfF (Cw c.s.t d)):=by rw[hd];rfl
  unfold Dt.wkS at hk
  rw[e] at hk
  exact hk)
end Go.Proofs.YtldnjomacnjhnaaGreat
namespace Go.Proofs.YtldnjomacnjhnaaGreat
open Go.RowKit
variable {R:Option Nat} {B:Nat} {D0:Bu} {Q:Exit->St->Prop} {c:Dt}
def Dt.rg (c:Dt):Operand:=match c.m with| .code (.rangeFunc g _ _ _)=>g|_=>default
def Dt.rp (c:Dt):Array Tmp:=match c.m with| .code (.rangeFunc _ p _ _)=>p|_=>#[]
def Dt.ra (c:Dt):Code:=match c.m with| .code (.rangeFunc _ _ a _)=>a|_=> .skip
def Dt.rb (c:Dt):Code:=match c.m with| .code (.rangeFunc _ _ _ b)=>b|_=> .skip
def Dt.isR (c:Dt):Bool:=match c.m with| .code (.rangeFunc ..)=>true|_=>false
def Dt.rc (c:Dt):List AV:=AaP (c.s.ev c.rg)
def Dt.lt (c:Dt) (l:Nat):Gy:=match Bc c.s.h l with|some (.loop _ _ _ t _)=>t|_=>[]
def Dt.ln (c:Dt) (l:Nat):Nat:=match Bc c.s.h l with|some (.loop _ _ _ _ n)=>n|_=>0
def Dt.lst (c:Dt) (l:Nat):LoopState:=match Bc c.s.h l with|some (.loop s _ _ _ _)=>s|_=> .busy
def Dt.lpe (c:Dt) (l:Nat):Option Code:=match Bc c.s.h l with|some (.loop _ p _ _ _)=>p|_=>none
def QG (B:Nat) (D0 D1:Bu) (fn:Func) (Q:Exit->St->Prop) (c0:Dt) (sp:Lw):Exit->St->Prop:=Aee Tryz.prog B D0 D1 fn c0.s (λe s=>∃s',Ki B D0 s s'/\KQ Tryz.prog none B D0 Q c0.k e s') sp
theorem vrg {f:FuncId} {fn:Func} {x:Code} (nx0:Nat) (hf:Tryz.prog.funcs[f]?=some fn)
  (h:∀sp:Lw,sp.params=c.rp->sp.assign=c.ra->sp.body=c.rb->∀D1,(∀id,D1.A id->id<nx0+1)->Go Tryz.prog none B D1 (QG B D0 D1 fn Q c sp) ⟨.code x,[],⟨Hl (.yld c.s.nx::c.rc) 0,hset c.s.h c.s.nx (.loop .ready none sp c.s.t c.s.n),c.s.nx+1,fn.ntmps⟩⟩)
  (hc:fn.body=some x:=by rfl) (hg:c.s.ev c.rg= .fn f c.rc:=by kernel_rfl) (hcall:∀(vs:Array Value) w,(callFunc f vs).run Tryz.prog w= .ok (.enter f vs) w:=by intro _ _;kernel_rfl) (hle:Nat.ble (c.rc.length+1) fn.ntmps=true:=by kernel_rfl) (hR:c.isR=true:=by kernel_rfl) (hnx:c.s.nx=nx0:=by kernel_rfl):Go Tryz.prog none B D0 Q c:=by
 obtain⟨m,k,s⟩:=c
 unfold Dt.isR at hR
 split at hR
 rename_i g ps asg bd hm
 cases hm
 exact⟨sX (Aai f _ fn.ntmps hg hcall hf hc rfl hle λsp h1 h2 h3 D1 hD=>(h sp h1 h2 h3 D1 (hnx▸hD)).m)⟩
 cases hR
theorem vnm {P:Program} (keep:List Nat) (h:Go P R B D0 Q ⟨c.m,c.k,bM keep c.s⟩):Go P R B D0 Q c:=Jo _ (Ow keep c.s) h
def Dt.af (c0 c:Dt):Dt:=⟨match c.lpe c0.s.nx with|some x=> .code x|none=> .out .normal,c0.k,⟨c0.s.t,Hk c.s.h c0.s.nx,c.s.nx,c0.s.n⟩⟩
def Adw:LoopState->Bool| .busy=>false|_=>true
theorem vrl {c0:Dt} {D1:Bu} {fn:Func} {sp:Lw} (h:Go Tryz.prog none B D0 Q (c0.af c)) (hl:Bc c.s.h c0.s.nx=some (.loop (c.lst c0.s.nx) (c.lpe c0.s.nx) sp (c.lt c0.s.nx) (c.ln c0.s.nx)):=by kernel_rfl) (hb:Adw (c.lst c0.s.nx)=true:=by kernel_rfl) (hv:(Xh Tryz.prog fn c.s).isSome=true:=by kernel_rfl) (hn:c.isE=true:=by kernel_rfl):Go Tryz.prog none B D1 (QG B D0 D1 fn Q c0 sp) c:=by
 refine sS (K:=λ_ h' nx'=>∃st pe t' n',Bc h' c0.s.nx=some (.loop st pe sp t' n')/\st≠.busy/\match pe with
  |none=>∃s',Ki B D0 ⟨c0.s.t,Hk h' c0.s.nx,nx',c0.s.n⟩ s'/\KQ Tryz.prog none B D0 Q c0.k .normal s'
  |some x=>AC Tryz.prog none B D0 x ⟨c0.s.t,Hk h' c0.s.nx,nx',c0.s.n⟩ (λe s=>∃s',Ki B D0 s s'/\KQ Tryz.prog none B D0 Q c0.k e s')) ⟨_,_,_,_,hl,(λe=>by rw[e] at hb;cases hb),?_⟩ hv hn
 unfold Dt.af at h
 generalize c.lpe c0.s.nx=pe at h
 cases pe with
 |none=>exact h.m
 |some x=>exact gT h.m λe s hq=>⟨s,Ki.refl s,hq⟩
def Dt.yl (c:Dt):Nat:=match c.s.ev c.fx with| .yld l=>l|_=>0
def QR (R:Option Nat) (B:Nat) (D0:Bu) (Q:Exit->St->Prop) (c0:Dt) (sp:Lw):Exit->St->Prop:=aC Tryz.prog R B D0 c0.a c0.l.tail c0.o c0.s (KQ Tryz.prog R B D0 Q c0.k) c0.yl sp (c0.ln c0.yl)
def QY (l0 B:Nat) (D1:Bu) (bd:Code) (l:Nat) (sp:Lw) (n:Nat) (QA:Exit->St->Prop):Exit->St->Prop:=wT (λs1=>∃t1,Bc s1.h l=some (.loop .ready none sp t1 n)/\AC Tryz.prog (some l0) B D1 bd ⟨s1.t,hset s1.h l (.loop .busy none sp t1 n),s1.nx,s1.n⟩ QA) λ_ _=>False
theorem vyl {sp:Lw} {ps:Array Tmp} {asg bd:Code} (nx0:Nat) (hps:sp.params=ps) (has:sp.assign=asg) (hbd:sp.body=bd)
  (h:∀l0 D1,(∀id,D1.A id->id<nx0)->Go Tryz.prog (some l0) B D1 (QY l0 B D1 bd c.yl sp (c.ln c.yl) (QR R B D0 Q c sp)) ⟨.code asg,[],⟨pY ps.toList (c.xs.toList.map c.s.ev) (c.lt c.yl),c.s.h,c.s.nx,c.ln c.yl⟩⟩)
  (ho:c.o.op= .call { callee:= .value c.fx,args:=c.xs,argTypes:=c.ts }:=by kernel_rfl) (hx:c.s.ev c.fx= .yld c.yl:=by kernel_rfl) (hl:Bc c.s.h c.yl=some (.loop .ready none sp (c.lt c.yl) (c.ln c.yl)):=by kernel_rfl) (hpb:psB ps (c.xs.toList.map c.s.ev).length (c.ln c.yl)=true:=by kernel_rfl) (hok:c.ok=true:=by kernel_rfl) (hg:c.o.guard=none:=by kernel_rfl) (hnx:c.s.nx=nx0:=by kernel_rfl):Go Tryz.prog R B D0 Q c:=by
 obtain⟨m,k,s⟩:=c
 cases m with
 |code x=>cases hok
 |out e=>cases hok
 |ops a l=>
  cases l with
  |nil=>cases hok
  |cons o l=>
   have hok:(jJ a s o==some true&&Nh o s.n)=true:=hok
   exact⟨Aay _ _ _ _ _ _ _ hps has hbd hg (Bool.and_eq_true_iff.1 hok).2 ho hx hl rfl hpb _ rfl λl0 D1 hD=>(h l0 D1 (hnx▸hD)).m⟩
def Dt.isNil (c:Dt):Bool:=match c.k with|[]=>true|_=>false
theorem vrb {l0:Nat} {D1:Bu} {bd:Code} {l:Nat} {sp:Lw} {n:Nat} {QA:Exit->St->Prop} (h:Go Tryz.prog (some l0) B D1 QA ⟨.code bd,[],⟨c.s.t,hset c.s.h l (.loop .busy none sp (c.lt l) n),c.s.nx,c.s.n⟩⟩) (hl:Bc c.s.h l=some (.loop .ready none sp (c.lt l) n):=by kernel_rfl) (hn:c.isN=true:=by kernel_rfl) (hk:c.isNil=true:=by kernel_rfl):Go Tryz.prog (some l0) B D1 (QY l0 B D1 bd l sp n QA) c:=by
 obtain⟨m,k,s⟩:=c
 unfold Dt.isN at hn
 split at hn
 rename_i hm
 cases hm
 cases k with
 |nil=>exact⟨⟨s,Ki.refl s,_,hl,h.m⟩⟩
 |cons i k=>cases hk
 cases hn
def Dt.e (c:Dt):Exit:=match c.m with| .out e=>e|_=> .normal
def rdB:Exit->Bool| .normal=>true|_=>false
def rdS:Exit->LoopState| .normal=> .ready|_=> .done
def rdC:Exit->Option Code| .ret=>some .ret| .exit id=>some (.exit id)|_=>none
def Dt.isX (c:Dt):Bool:=match c.m with| .out .normal=>true| .out .ret=>true| .out (.exit _)=>true|_=>false
theorem vre {R1:Option Nat} {D1:Bu} {c0:Dt} {sp:Lw} (h:Go Tryz.prog R B D0 Q ⟨.ops c0.a c0.l.tail,c0.k,⟨My c0.s.t c0.o.dst (.bool (rdB c.e)),hset c.s.h c0.yl (.loop (rdS c.e) (rdC c.e) sp (c.lt c0.yl) (c0.ln c0.yl)),c.s.nx,c0.s.n⟩⟩) (hl:Bc c.s.h c0.yl=some (.loop .busy none sp (c.lt c0.yl) (c0.ln c0.yl)):=by kernel_rfl) (hX:c.isX=true:=by kernel_rfl) (hk:c.isNil=true:=by kernel_rfl):Go Tryz.prog R1 B D1 (QR R B D0 Q c0 sp) c:=by
 obtain⟨m,k,s⟩:=c
 cases k with
 |cons i k=>cases hk
 |nil=>
  unfold Dt.isX at hX
  split at hX
  rename_i hm;cases hm;exact⟨⟨s,Ki.refl s,_,hl,h.m⟩⟩
  rename_i hm;cases hm;exact⟨⟨s,Ki.refl s,_,hl,h.m⟩⟩
  rename_i hm;cases hm;exact⟨⟨s,Ki.refl s,_,hl,h.m⟩⟩
  cases hX
end Go.Proofs.YtldnjomacnjhnaaGreat
namespace Go.Proofs.YtldnjomacnjhnaaGreat
open Go.Proofs.Tryz
open Go.RowKit
abbrev wB (z:Int):Co:= .box 70 [.bool (decide (z<0)),.lit (.string (Dx z.natAbs))]
abbrev WA (z:Int):AV:= .lit (Ak z)
theorem Jc {P:Program} {f:FuncId} {vs:List Value} {v:Value} (h:∀w,Calls P f vs.toArray w λe w'=>e= .returned v/\Below w.heap.size w w'):AF P f (vs.map .lit) (.lit v):=by
 intro E us hD hn hv
 have:us=vs.toArray:=VR.lits (E:=E.fz) (by simpa using hn) (VR.tops hv)
 subst this
 refine(h E.w).mono ?_
 rintro e w' ⟨rfl,hb⟩
 exact⟨v,E.D,rfl,.lit _ _,hb,λ_ h=>h,λ_ h=> .inl h,λb hb'=>Nat.lt_of_lt_of_le (hD b hb') hb.size⟩
theorem Gx (n:Int) (h0: -9223372036854775808<=n) (h1:n<=9223372036854775807):AF Tryz.prog 95 [.int n] (WA n):=Jc (vs:=[_]) λw=>Ld n w h0 h1
theorem Jn (x y:Int) (hx:Fp x) (hy:Fp y) (hz:Fp (x+y)):AF Tryz.prog 70 [WA x,WA y] (WA (x+y)):=Jc (vs:=[_,_]) λw=>oS x y w hx hy hz
theorem Kk (x y:Int) (hx:Fp x) (hy:Fp y) (hz:Fp (x*y)):AF Tryz.prog 94 [WA x,WA y] (WA (x*y)):=Jc (vs:=[_,_]) λw=>Wn x y w hx hy hz
theorem Gn (n:Int) (k:Nat) (h0: -9223372036854775808<=n) (h1:n<=9223372036854775807) (hk:k<=1000) (hf:∀j,j<=k->Fp (n^j)):AF Tryz.prog 96 [.int n,.int (k:Int)] (WA (n^k)):=Jc (vs:=[_,_]) λw=>yP n k w h0 h1 hk hf
abbrev Br (l:List Int):AV:= .sl 1 l.length λi=> .int (l.getD i 0)
abbrev Cv (s:Sg):AV:= .agg [.int s.f,.int s.t,.int s.o,Br s.x,Br s.y,Br s.z]
theorem sZ (s:Sg):AF Tryz.prog 97 [Cv s] (.agg [Br s.x,Br s.y,Br s.z]):=by
 refine Cr func97 rfl λB D0 hA0=>?_
 exact Ae 19 (Gd)
theorem Sk (x y:Int) (hx:Fp x) (hy:Fp y):AF Tryz.prog 98 [WA x,WA y] (WA (Nat.gcd x.natAbs y.natAbs:Int)):=Jc (vs:=[_,_]) λw=>oT x y w hx hy
theorem Hz (x y:Int) (hx:Fp x) (hy:Fp y) (h0:y≠0):AF Tryz.prog 69 [WA x,WA y] (WA (x/y)):=Jc (vs:=[_,_]) λw=>Acb x y w hx hy h0
theorem Ic {x:Int} (h:Cm x):Fp x:=Jp h.1 h.2
theorem Eo {x:Int} (h:Cm x) {k:Nat} (hk:k<=6):Fp (x^k):=((Bd.int h.1 h.2).pow k).fit ω
abbrev jZ (p:PL):AV:= .lit (.agg #[.bool (decide (p.x<0)),.string (Dx p.x.natAbs),.bool (decide (p.y<0)),.string (Dx p.y.natAbs),.bool (decide (p.z<0)),.string (Dx p.z.natAbs),.bool (decide (p.o<0)),.string (Dx p.o.natAbs)])
theorem Uk {s:Sg} {d:Int} (hs:Td s) (hd:Cm d):Bd 378 (cE s d):=((Bd.int hs.o.1 hs.o.2).mul ((Bd.int hd.1 hd.2).pow 5)).mono ω
theorem Aau (s:Sg) (a d:Int) (hs:Td s) (hx:s.x.length<=6) (hy:s.y.length<=6) (hz:s.z.length<=6) (ha:Cm a) (hd:Cm d) (hg:plG s a d≠0):AF Tryz.prog 67 [Cv s,.int a,.int d] (jZ (Em s a d)):=by
 have bX:∀k,k<=6->Bd 390 (Ut s.x a d k):=λk hk=>(Ul hs.x ha hd k hk).mono ω
 have bY:∀k,k<=6->Bd 390 (Ut s.y a d k):=λk hk=>(Ul hs.y ha hd k hk).mono ω
 have bZ:∀k,k<=6->Bd 390 (Ut s.z a d k):=λk hk=>(Ul hs.z ha hd k hk).mono ω
 have bO:Bd 390 (cE s d):=(Uk hs hd).mono ω
 have bXX:Bd 390 (rU s a d):=bX _ hx
 have bYY:Bd 390 (plY s a d):=bY _ hy
 have bZZ:Bd 390 (plZ s a d):=bZ _ hz
 have bG1:=bO.gcd bXX
 have bG2:=bG1.gcd bYY
 have bG3:=bG2.gcd bZZ
 have pw:∀{x:Int},Cm x->∀k,k<=6->∀j,j<=k->Fp (x^j):=λh k hk j hj=>Eo h ω
 refine Cr func67 rfl λB D0 hA0=>?_
 refine Ae 15 (Cf (Gx _ hs.o.1 hs.o.2) (Ae 1 (Cf (Gn d 5 hd.1 hd.2 ω (pw hd 5 ω)) (Cf (Kk _ _ (Ic hs.o) (Eo hd ω) (bO.fit ω)) (Ae 15 (Cf (sZ s) (Ae 4 (pO 3 (Ae 14 (Bk (Br s.x) .none (Dm 147 (.tmp 22) (.tmp 23) κ underlying147 1 sizeOf23 0 false isAgg23 [Br s.x,Br s.y,Br s.z] 0 κ κ ω δ β δ (Br s.x) κ) (Ae 13 (zW (keep:=[1,2,6,7,8,9,10,22,23,27,28,29]) s.x.length (λk=>⟨[(1,.int a),(2,.int d),(6,.ptr 1 0),(7,.ptr 2 0),(8,.ptr 3 0),(9,.ptr 4 0),(10,.int 0),(22,.agg [Br s.x,Br s.y,Br s.z]),(23,.int 0),(27,Br s.x),(28,.int (s.x.length:Int)),(29,.int (k:Int))],[(0,.box 81 [.int s.f,.int s.t,.int s.o,Br s.x,Br s.y,Br s.z]),(1,.box 72 [.bool false,.lit (.string ⟨#[]⟩),.bool false,.lit (.string ⟨#[]⟩),.bool false,.lit (.string ⟨#[]⟩),.bool false,.lit (.string ⟨#[]⟩)]),(2,.box 122 [.bool (decide (Ut s.x a d k<0)),.lit (.string (Dx (Ut s.x a d k).natAbs)),.bool false,.lit (.string ⟨#[]⟩),.bool false,.lit (.string ⟨#[]⟩)]),(3,.box 70 [.bool (decide (cE s d<0)),.lit (.string (Dx (cE s d).natAbs))]),(4,.box 70 [.bool (decide (cE s d<0)),.lit (.string (Dx (cE s d).natAbs))])],5,74⟩) (λk hk J1 hJ1=>?_) ?_))))))))))))
 ·
  exact Ae 3 (Gv 30 (decide ((k:Int)<(s.x.length:Int))) true (decide_eq_true ω) (Ae 11 (Fl k s.x.length (Ae 5 (Jb [(2,.ptr 2 0,.none),(5,_,.none),(8,_,.none),(11,.int ((5-k:Nat):Int),.none),(12,_,.none),(13,_,.none),(14,_,.none),(15,_,.none),(16,.ptr 2 0,.none)] [1,2,6,7,8,9,10,22,23,27,28,29] ⟨Au (Bj 122 (.tmp 7) (.tmp 35) κ underlying122 2 0 2 0 0 κ κ sizeOf70 δ ω δ),El (Gx _ (hs.x k).1 (hs.x k).2),El (Gn a k ha.1 ha.2 ω (pw ha _ ω)),Au (Bx (v:= .int .i64 (IntKind.wrap .i64 ((5:Int)-(k:Int)))) (v':= .int .i64 ((5-k:Nat):Int)) _ κ rfl κ (λw=>by kernel_rfl) (congrArg (Value.int .i64) ((IntWalk.i64_in _ ω).trans ω))),El (Gn d (5-k) hd.1 hd.2 ω (pw hd _ ω)),El (Kk _ _ (Eo ha ω) (Eo hd ω) ((((Bd.int ha.1 ha.2).pow k).mul ((Bd.int hd.1 hd.2).pow (5-k))).fit ω)),El (Kk _ _ (Ic (hs.x k)) ((((Bd.int ha.1 ha.2).pow k).mul ((Bd.int hd.1 hd.2).pow (5-k))).fit ω) ((Qe (hs.x k) ha hd ω).fit ω)),El (Jn (Ut s.x a d k) _ ((bX k ω).fit ω) ((Qe (hs.x k) ha hd ω).fit ω) ((bX (k+1) ω).fit ω)),Au (Bj 122 (.tmp 7) (.tmp 34) κ underlying122 2 0 2 0 0 κ κ sizeOf70 δ ω δ),trivial⟩ (Ae 3 (Ep ((k:Int)+1) ((k+1:Nat):Int) (Ae 2 (Om [1,2,6,7,8,9,10,22,23,27,28,29] hJ1)))))))))
 ·
  refine Ae 3 (Gv 30 (decide ((s.x.length:Int)<(s.x.length:Int))) false (decide_eq_false ω) (Ae 9 (Jb [(2,.ptr 2 0,.none),(4,_,.none)] [1,2,6,7,8,9,22,23] ⟨Au (Bj 122 (.tmp 7) (.tmp 53) κ underlying122 2 0 2 0 0 κ κ sizeOf70 δ ω δ),El (Sk _ _ (bO.fit ω) (bXX.fit ω)),trivial⟩ (Ae 3 (Ip (.int .i64 1) (.int .i64 1) (Ae 17 (Bk (Br s.y) .none (Dm 147 (.tmp 22) (.tmp 23) κ underlying147 1 sizeOf23 1 false isAgg23 [Br s.x,Br s.y,Br s.z] 1 κ κ ω δ β δ (Br s.y) κ) (Ae 13 (zW (keep:=[1,2,6,7,8,9,10,22,23,27,28,29]) s.y.length (λk=>⟨[(1,.int a),(2,.int d),(6,.ptr 1 0),(7,.ptr 2 0),(8,.ptr 3 0),(9,.ptr 4 0),(10,.int 1),(22,.agg [Br s.x,Br s.y,Br s.z]),(23,.int 1),(27,Br s.y),(28,.int (s.y.length:Int)),(29,.int (k:Int))],[(0,.box 81 [.int s.f,.int s.t,.int s.o,Br s.x,Br s.y,Br s.z]),(1,.box 72 [.bool false,.lit (.string ⟨#[]⟩),.bool false,.lit (.string ⟨#[]⟩),.bool false,.lit (.string ⟨#[]⟩),.bool false,.lit (.string ⟨#[]⟩)]),(2,.box 122 [.bool (decide (rU s a d<0)),.lit (.string (Dx (rU s a d).natAbs)),.bool (decide (Ut s.y a d k<0)),.lit (.string (Dx (Ut s.y a d k).natAbs)),.bool false,.lit (.string ⟨#[]⟩)]),(3,.box 70 [.bool (decide (cE s d<0)),.lit (.string (Dx (cE s d).natAbs))]),(4,.box 70 [.bool (decide ((Nat.gcd (cE s d).natAbs (rU s a d).natAbs:Int)<0)),.lit (.string (Dx (Nat.gcd (cE s d).natAbs (rU s a d).natAbs:Int).natAbs))])],5,74⟩) (λk hk J2 hJ2=>?_) ?_)))))))))
  ·
   exact Ae 3 (Gv 30 (decide ((k:Int)<(s.y.length:Int))) true (decide_eq_true ω) (Ae 11 (Fl k s.y.length (Ae 5 (Jb [(2,.ptr 2 2,.none),(5,_,.none),(8,_,.none),(11,.int ((5-k:Nat):Int),.none),(12,_,.none),(13,_,.none),(14,_,.none),(15,_,.none),(16,.ptr 2 2,.none)] [1,2,6,7,8,9,10,22,23,27,28,29] ⟨Au (Bj 122 (.tmp 7) (.tmp 35) κ underlying122 2 0 2 1 1 κ κ sizeOf70 δ ω δ),El (Gx _ (hs.y k).1 (hs.y k).2),El (Gn a k ha.1 ha.2 ω (pw ha _ ω)),Au (Bx (v:= .int .i64 (IntKind.wrap .i64 ((5:Int)-(k:Int)))) (v':= .int .i64 ((5-k:Nat):Int)) _ κ rfl κ (λw=>by kernel_rfl) (congrArg (Value.int .i64) ((IntWalk.i64_in _ ω).trans ω))),El (Gn d (5-k) hd.1 hd.2 ω (pw hd _ ω)),El (Kk _ _ (Eo ha ω) (Eo hd ω) ((((Bd.int ha.1 ha.2).pow k).mul ((Bd.int hd.1 hd.2).pow (5-k))).fit ω)),El (Kk _ _ (Ic (hs.y k)) ((((Bd.int ha.1 ha.2).pow k).mul ((Bd.int hd.1 hd.2).pow (5-k))).fit ω) ((Qe (hs.y k) ha hd ω).fit ω)),El (Jn (Ut s.y a d k) _ ((bY k ω).fit ω) ((Qe (hs.y k) ha hd ω).fit ω) ((bY (k+1) ω).fit ω)),Au (Bj 122 (.tmp 7) (.tmp 34) κ underlying122 2 0 2 1 1 κ κ sizeOf70 δ ω δ),trivial⟩ (Ae 3 (Ep ((k:Int)+1) ((k+1:Nat):Int) (Ae 2 (Om [1,2,6,7,8,9,10,22,23,27,28,29] hJ2)))))))))
  ·
   refine Ae 3 (Gv 30 (decide ((s.y.length:Int)<(s.y.length:Int))) false (decide_eq_false ω) (Ae 9 (Jb [(2,.ptr 2 2,.none),(4,_,.none)] [1,2,6,7,8,9,22,23] ⟨Au (Bj 122 (.tmp 7) (.tmp 53) κ underlying122 2 0 2 1 1 κ κ sizeOf70 δ ω δ),El (Sk _ _ (bG1.fit ω) (bYY.fit ω)),trivial⟩ (Ae 3 (Ip (.int .i64 2) (.int .i64 2) (Ae 17 (Bk (Br s.z) .none (Dm 147 (.tmp 22) (.tmp 23) κ underlying147 1 sizeOf23 2 false isAgg23 [Br s.x,Br s.y,Br s.z] 2 κ κ ω δ β δ (Br s.z) κ) (Ae 13 (zW (keep:=[1,2,6,7,8,9,10,22,23,27,28,29]) s.z.length (λk=>⟨[(1,.int a),(2,.int d),(6,.ptr 1 0),(7,.ptr 2 0),(8,.ptr 3 0),(9,.ptr 4 0),(10,.int 2),(22,.agg [Br s.x,Br s.y,Br s.z]),(23,.int 2),(27,Br s.z),(28,.int (s.z.length:Int)),(29,.int (k:Int))],[(0,.box 81 [.int s.f,.int s.t,.int s.o,Br s.x,Br s.y,Br s.z]),(1,.box 72 [.bool false,.lit (.string ⟨#[]⟩),.bool false,.lit (.string ⟨#[]⟩),.bool false,.lit (.string ⟨#[]⟩),.bool false,.lit (.string ⟨#[]⟩)]),(2,.box 122 [.bool (decide (rU s a d<0)),.lit (.string (Dx (rU s a d).natAbs)),.bool (decide (plY s a d<0)),.lit (.string (Dx (plY s a d).natAbs)),.bool (decide (Ut s.z a d k<0)),.lit (.string (Dx (Ut s.z a d k).natAbs))]),(3,.box 70 [.bool (decide (cE s d<0)),.lit (.string (Dx (cE s d).natAbs))]),(4,.box 70 [.bool (decide (((Nat.gcd (Nat.gcd (cE s d).natAbs (rU s a d).natAbs:Int).natAbs (plY s a d).natAbs:Nat):Int)<0)),.lit (.string (Dx ((Nat.gcd (Nat.gcd (cE s d).natAbs (rU s a d).natAbs:Int).natAbs (plY s a d).natAbs:Nat):Int).natAbs))])],5,74⟩) (λk hk J3 hJ3=>?_) ?_)))))))))
   ·
    exact Ae 3 (Gv 30 (decide ((k:Int)<(s.z.length:Int))) true (decide_eq_true ω) (Ae 11 (Fl k s.z.length (Ae 5 (Jb [(2,.ptr 2 4,.none),(5,_,.none),(8,_,.none),(11,.int ((5-k:Nat):Int),.none),(12,_,.none),(13,_,.none),(14,_,.none),(15,_,.none),(16,.ptr 2 4,.none)] [1,2,6,7,8,9,10,22,23,27,28,29] ⟨Au (Bj 122 (.tmp 7) (.tmp 35) κ underlying122 2 0 2 2 2 κ κ sizeOf70 δ ω δ),El (Gx _ (hs.z k).1 (hs.z k).2),El (Gn a k ha.1 ha.2 ω (pw ha _ ω)),Au (Bx (v:= .int .i64 (IntKind.wrap .i64 ((5:Int)-(k:Int)))) (v':= .int .i64 ((5-k:Nat):Int)) _ κ rfl κ (λw=>by kernel_rfl) (congrArg (Value.int .i64) ((IntWalk.i64_in _ ω).trans ω))),El (Gn d (5-k) hd.1 hd.2 ω (pw hd _ ω)),El (Kk _ _ (Eo ha ω) (Eo hd ω) ((((Bd.int ha.1 ha.2).pow k).mul ((Bd.int hd.1 hd.2).pow (5-k))).fit ω)),El (Kk _ _ (Ic (hs.z k)) ((((Bd.int ha.1 ha.2).pow k).mul ((Bd.int hd.1 hd.2).pow (5-k))).fit ω) ((Qe (hs.z k) ha hd ω).fit ω)),El (Jn (Ut s.z a d k) _ ((bZ k ω).fit ω) ((Qe (hs.z k) ha hd ω).fit ω) ((bZ (k+1) ω).fit ω)),Au (Bj 122 (.tmp 7) (.tmp 34) κ underlying122 2 0 2 2 2 κ κ sizeOf70 δ ω δ),trivial⟩ (Ae 3 (Ep ((k:Int)+1) ((k+1:Nat):Int) (Ae 2 (Om [1,2,6,7,8,9,10,22,23,27,28,29] hJ3)))))))))
   ·
    exact Ae 3 (Gv 30 (decide ((s.z.length:Int)<(s.z.length:Int))) false (decide_eq_false ω) (Ae 9 (Jb [(2,.ptr 2 4,.none),(4,_,.none)] [1,2,6,7,8,9,22,23] ⟨Au (Bj 122 (.tmp 7) (.tmp 53) κ underlying122 2 0 2 2 2 κ κ sizeOf70 δ ω δ),El (Sk _ _ (bG2.fit ω) (bZZ.fit ω)),trivial⟩ (Ae 3 (Ip (.int .i64 3) (.int .i64 3) (Ae 16 (Jb [(0,.ptr 2 0,.none),(3,_,.none),(4,.ptr 2 2,.none),(7,_,.none),(8,.ptr 2 4,.none),(11,_,.none),(14,_,.none)] [6] ⟨Au (Bj 122 (.tmp 7) (.const (.int .i64 0)) κ underlying122 2 0 2 0 0 κ κ sizeOf70 δ ω δ),El (Hz _ _ (bXX.fit ω) (bG3.fit ω) hg),Au (Bj 122 (.tmp 7) (.const (.int .i64 1)) κ underlying122 2 0 2 1 1 κ κ sizeOf70 δ ω δ),El (Hz _ _ (bYY.fit ω) (bG3.fit ω) hg),Au (Bj 122 (.tmp 7) (.const (.int .i64 2)) κ underlying122 2 0 2 2 2 κ κ sizeOf70 δ ω δ),El (Hz _ _ (bZZ.fit ω) (bG3.fit ω) hg),El (Hz _ _ (bO.fit ω) (bG3.fit ω) hg),trivial⟩ (Ae 2 (Gd)))))))))
end Go.Proofs.YtldnjomacnjhnaaGreat
namespace Go.Proofs.YtldnjomacnjhnaaGreat
open Go.Proofs.Tryz
open Go.RowKit
variable {B:Nat} {D0:Bu} {o:Oper} {ev:Operand->AV} {pre:Nat->Option Co}
theorem Sv (t t':TypeId) (x y:Operand) (ho:o.op= .binOp .eql t x y t') (vs us:Array Value) (hx:ev x= .lit (.agg vs)) (hy:ev y= .lit (.agg us)) (hg:Tryz.prog.eqGuardType Tryz.prog.depth t=false) (b:Bool) (heq:∀w,(Op.equal t (.agg vs) (.agg us)).run Tryz.prog w= .ok b w):Fh Tryz.prog B D0 o ev pre (.bool b) .none:=by
 refine Cn (.inl rfl) λE a c _ _ hv=>⟨_,?_,.lit _ _⟩
 have h1:=hv x (by simp[ho,Op.operands])
 have h2:=hv y (by simp[ho,Op.operands])
 rw[hx] at h1
 rw[hy] at h2
 simp[execOp,ho,h1.lit_inv,h2.lit_inv,eqGuard,hg,binOp,heq]
theorem Gs (t t':TypeId) (x y:Operand) (ho:o.op= .binOp .neq t x y t') (vs us:Array Value) (hx:ev x= .lit (.agg vs)) (hy:ev y= .lit (.agg us)) (hg:Tryz.prog.eqGuardType Tryz.prog.depth t=false) (b:Bool) (heq:∀w,(Op.equal t (.agg vs) (.agg us)).run Tryz.prog w= .ok b w):Fh Tryz.prog B D0 o ev pre (.bool (!b)) .none:=by
 refine Cn (.inl rfl) λE a c _ _ hv=>⟨_,?_,.lit _ _⟩
 have h1:=hv x (by simp[ho,Op.operands])
 have h2:=hv y (by simp[ho,Op.operands])
 rw[hx] at h1
 rw[hy] at h2
 simp[execOp,ho,h1.lit_inv,h2.lit_inv,eqGuard,hg,binOp,heq]
theorem Jl {b b':Bool} (h:Fh Tryz.prog B D0 o ev pre (.bool b) .none) (e:b=b'):Fh Tryz.prog B D0 o ev pre (.bool b') .none:=e▸h
theorem AdF (b b':Bool) (s s':ByteArray) (w:World) (d:Nat):(Op.equalIn (d+2) 70 (.agg #[.bool b,.string s]) (.agg #[.bool b',.string s'])).run Tryz.prog w= .ok ((b==b')&&(s==s')) w:=by
 have h91:=Tryz.runUnderlying70
 have ha4:=isAgg4
 unfold Op.equalIn
 simp[h91,part,ha4,Op.equalIn]
 by_cases h1:b=b'
 subst h1
 cases hs:(s==s')<;>simp
 simp[h1]
theorem eqW (x y:Int) (w:World) (d:Nat):(Op.equalIn (d+2) 70 (Ak x) (Ak y)).run Tryz.prog w= .ok (decide (x=y)) w:=by
 unfold Ak
 rw[AdF]
 congr 1
 rw[beq_toListBytes]
 by_cases h:x=y
 subst h;simp
 rw[decide_eq_false h]
 cases h1:((Dx x.natAbs).toList==(Dx y.natAbs).toList) with
 |false=>simp
 |true=>
  have h3:x.natAbs=y.natAbs:=lZ (by simpa using h1)
  have h4:¬(decide (x<0)=decide (y<0)):=λe=>by
   have:x<0↔y<0:=by simpa using e
   apply h
   omega
  simpa using h4
theorem It (p q:PL) (w:World):(Op.equal 72 (jZ p).val (jZ q).val).run Tryz.prog w= .ok (decide (p=q)) w:=by
 have e:∀(x y:Int) (w:World),(Op.equalIn 9999 70 (Ak x) (Ak y)).run Tryz.prog w= .ok (decide (x=y)) w:=λx y w=>eqW x y w 9997
 have h93:=Tryz.runUnderlying72
 have h91:=isAgg70
 have hs:=sizeOf70
 have hin:Tryz.prog.stoodInHeld 72=false:=by kernel_rfl
 unfold Op.equal
 rw[show Op.maxDepth=9999+1 from rfl]
 unfold Op.equalIn
 simp only[AV.val]
 unfold Ak at e
 simp[h93,part,h91,hs,e,hin]
 obtain⟨x,y,z,u⟩:=p
 obtain⟨x',y',z',u'⟩:=q
 simp only[PL.mk.injEq]
 by_cases h1:x=x'<;>by_cases h2:y=y'<;>by_cases h3:z=z'<;>by_cases h4:u=u'<;>simp[h1,h2,h3,h4]
theorem aT (x y z x' y' z':Int) (w:World):(Op.equal 36 (.agg #[.int .i64 x,.int .i64 y,.int .i64 z]) (.agg #[.int .i64 x',.int .i64 y',.int .i64 z'])).run Tryz.prog w= .ok (decide (x=x'/\y=y'/\z=z')) w:=by
 have h55:=Tryz.runUnderlying36
 have h3:=Tryz.runUnderlying3
 have ha:=isAgg3
 have hin:Tryz.prog.stoodInHeld 36=false:=by kernel_rfl
 unfold Op.equal
 rw[show Op.maxDepth=9998+1+1 from rfl]
 unfold Op.equalIn
 simp[h55,part,ha,hin]
 unfold Op.equalIn
 simp[h3]
 by_cases h1:x=x'<;>by_cases h2:y=y'<;>by_cases h3:z=z'<;>simp[h1,h2,h3]
theorem iS {E:Bu} {l:List Int} {v:Value} (h:VR E (Br l) v):∃A c,v= .slice A l.length c/\Qu E.w v l:=by
 obtain⟨n,hn⟩:∃n,l.length=n:=⟨_,rfl⟩
 unfold Br at h
 rw[hn] at h ⊢
 cases h with
 |sl0 _ _ _ A c=>exact⟨A,c,rfl,.inl ⟨A,c,rfl,List.eq_nil_of_length_eq_zero hn⟩⟩
 |sl _ _ _ _ b q c us hn0 hD hc hr=>
  refine⟨_,c,rfl,.inr ⟨b,q,c,by rw[hn],λi hi=>?_⟩⟩
  have h1:=hc i 0 ω ω
  have h2:=hr i 0 ω ω
  have h3:us i 0= .int .i64 (l.getD i 0):=h2.lit_inv
  rw[<-h3];exact h1
theorem Qs (s:Sg) (hs:Td s):AF Tryz.prog 92 [Cv s] (.bool (decide (Hc s))):=by
 intro E us hD hn hv
 have h0:=hv 0 (by simp)
 obtain⟨u,rfl⟩:∃u,us=#[u]:=⟨us.getD 0 undef,by
  apply Array.ext
  simpa using hn
  intro i h1 h2
  have:i=0:=by simp at hn;omega
  subst this
  simp[h1]⟩
 simp at h0
 cases h0 with
 |agg _ _ vs hsz hr=>
  have g:=VR.tops hr
  have l0:vs.getD 0 undef= .int .i64 s.f:=(g 0).lit_inv
  have l1:vs.getD 1 undef= .int .i64 s.t:=(g 1).lit_inv
  have l2:vs.getD 2 undef= .int .i64 s.o:=(g 2).lit_inv
  obtain⟨A3,c3,e3,k3⟩:=iS (l:=s.x) (g 3)
  obtain⟨A4,c4,e4,k4⟩:=iS (l:=s.y) (g 4)
  obtain⟨A5,c5,e5,k5⟩:=iS (l:=s.z) (g 5)
  have hvs:vs=#[.int .i64 s.f,.int .i64 s.t,.int .i64 s.o,.slice A3 s.x.length c3,.slice A4 s.y.length c4,.slice A5 s.z.length c5]:=by
   apply Array.ext
   simpa using hsz
   intro i h1 h2
   have e:vs[i]=vs.getD i undef:=by simp[h1]
   rw[e]
   simp at h2
   match i,h2 with
   |0,_=>exact l0
   |1,_=>exact l1
   |2,_=>exact l2
   |3,_=>exact e3
   |4,_=>exact e4
   |5,_=>exact e5
  subst hvs
  rw[e3] at k3
  rw[e4] at k4
  rw[e5] at k5
  refine(kK s A3 A4 A5 c3 c4 c5 E.w k3 k4 k5 (λk i=>?_)).mono ?_
  match k with
  |0=>exact hs.x i
  |1=>exact hs.y i
  |k+2=>exact hs.z i
  rintro e w' ⟨rfl,hb⟩
  exact⟨_,E.D,rfl,.lit _ _,hb,λ_ h=>h,λ_ h=> .inl h,λb hb'=>Nat.lt_of_lt_of_le (hD b hb') hb.size⟩
end Go.Proofs.YtldnjomacnjhnaaGreat
namespace Go.Proofs.YtldnjomacnjhnaaGreat
open Go.Proofs.Tryz
open Go.RowKit
theorem Zs {E:Bu} {e n:Nat} {f:Nat->AV} {v:Value} (h:VR E (.sl e n f) v) (cs:List Value) (hl:cs.length=n*e) (hc:∀i j,i<n->j<e->(f i).cell j= .lit (cs.getD (i*e+j) undef)):Cz E.w E.D e v n cs:=by
 cases h with
 |sl0=>exact⟨hl,.inl ⟨_,_,rfl,rfl⟩⟩
 |sl _ _ _ _ b q c us hn hD hcell hr=>
  refine⟨hl,.inr ⟨b,q,c,rfl,hD,λk u hu=>?_⟩⟩
  obtain⟨hk,he⟩:=List.getElem?_eq_some_iff.1 hu
  rw[hl] at hk
  have he0:0<e:=by
   rcases Nat.eq_zero_or_pos e with h|h
   subst h;omega
   exact h
  obtain⟨d1,d2,d3⟩:=iU hk he0
  have h1:=hcell _ _ d1 d2
  have h2:=hr _ _ d1 d2
  rw[hc _ _ d1 d2,d3] at h2
  have h3:=h2.lit_inv
  rw[Nat.add_assoc,d3,h3] at h1
  rw[h1,List.getD_eq_getElem?_getD,hu];rfl
theorem Oa {w:World} {D:Nat->Prop} {e n:Nat} {v:Value} {cs:List Value} (h:Cz w D e v n cs) {E:Bu} (hw:E.w=w) (hD:∀b,D b->E.D b) {f:Nat->AV} (hc:∀i j,i<n->j<e->VR E.fz ((f i).cell j) (cs.getD (i*e+j) undef)):VR E (.sl e n f) v:=by
 subst hw
 by_cases hn:n=0
 obtain⟨A,c,rfl⟩:=h.slice
 subst hn
 exact .sl0 _ _ _ _ _
 rcases h.2 with⟨A,c,rfl,h0⟩|⟨b,o,c,rfl,hd,hcell⟩
 exact absurd h0 hn
 refine .sl _ _ _ _ _ _ _ (λi j=>cs.getD (i*e+j) undef) ω (hD b hd) (λi j hi hj=>?_) hc
 have hlt:i*e+j<n*e:=by
  have:=Nat.mul_le_mul_right e (show i+1<=n from hi)
  rw[Nat.succ_mul] at this;omega
 rw[Nat.add_assoc]
 exact hcell _ _ (by rw[List.getD_eq_getElem?_getD,List.getElem?_eq_getElem (by rw[h.1];exact hlt)];rfl)
theorem fL (l:List Int) {i:Nat} (h:i<l.length):(Dg l).getD i undef= .int .i64 (l.getD i 0):=by
 rw[List.getD_eq_getElem?_getD,Vq l i h,List.getD_eq_getElem?_getD,List.getElem?_eq_getElem h];rfl
theorem Zc {w:World} {D:Nat->Prop} {l:List Int} {v:Value} (h:Cz w D 1 v l.length (Dg l)) {E:Bu} (hw:E.w=w) (hD:∀b,D b->E.D b):VR E (Br l) v:=
 Oa h hw hD λi j hi hj=>by
  obtain rfl:j=0:=by omega
  rw[Nat.mul_one,Nat.add_zero,fL l hi]
  exact .lit _ _
theorem AdO {E:Bu} {l:List Int} {v:Value} (h:VR E (Br l) v):Cz E.w E.D 1 v l.length (Dg l):=
 Zs h (Dg l) (by rw[nL,Nat.mul_one]) λi j hi hj=>by
  obtain rfl:j=0:=by omega
  rw[Nat.mul_one,Nat.add_zero,fL l hi]
  rfl
def Sg.none:Sg:=⟨0,0,0,[],[],[]⟩
abbrev Ai (l:List Sg):AV:= .sl 6 l.length λi=>Cv (l.getD i Sg.none)
theorem jY {w:World} {D:Nat->Prop} {l:List Sg} {v:Value} (h:Aa6 w D v l) {E:Bu} (hw:E.w=w) (hD:∀b,D b->E.D b):VR E (Ai l) v:=by
 obtain⟨cs,h1,h2⟩:=h
 refine Oa h1 hw hD λi j hi hj=>?_
 obtain⟨a,⟨vx,vy,vz,rfl,hx,hy,hz⟩,ha⟩:=h2.at_ hi
 have e:l.getD i Sg.none=l[i]:=by rw[List.getD_eq_getElem?_getD,List.getElem?_eq_getElem hi];rfl
 have g:∀u,[Value.int .i64 l[i].f,.int .i64 l[i].t,.int .i64 l[i].o,vx,vy,vz][j]?=some u->cs.getD (i*6+j) undef=u:=λu hu=>by
  rw[List.getD_eq_getElem?_getD,ha j u hu];rfl
 rw[e]
 match j,hj with
 |0,_=>rw[g _ rfl];exact .lit _ _
 |1,_=>rw[g _ rfl];exact .lit _ _
 |2,_=>rw[g _ rfl];exact .lit _ _
 |3,_=>rw[g _ rfl];exact Zc (E:=E.fz) hx hw hD
 |4,_=>rw[g _ rfl];exact Zc (E:=E.fz) hy hw hD
 |5,_=>rw[g _ rfl];exact Zc (E:=E.fz) hz hw hD
theorem tB {P:Program} {f:FuncId} {args:List AV} {r:AV} (h:∀(E:Bu) (vs:Array Value),(∀b,E.D b->b<E.w.heap.size)->vs.size=args.length->(∀i,i<args.length->VR E.fz (args.getD i .top) (vs.getD i undef))->
  Calls P f vs E.w λe w'=>∃v,e= .returned v/\Below E.w.heap.size E.w w'/\∀E':Bu,E'.w=w'->(∀b,E.D b->E'.D b)->(∀b,E.w.heap.size<=b->b<w'.heap.size->E'.D b)->VR E' r v):AF P f args r:=by
 intro E vs hD hn hv
 refine(h E vs hD hn hv).mono ?_
 rintro e w' ⟨v,rfl,hb,hr⟩
 refine⟨v,λb=>E.D b\/(E.w.heap.size<=b/\b<w'.heap.size),rfl,hr _ rfl (λb hb=> .inl hb) (λb h1 h2=> .inr ⟨h1,h2⟩),hb,λb hb=> .inl hb,λb hb=>?_,λb hb'=>?_⟩
 rcases hb with hb|hb
 exact .inl hb
 exact .inr hb.1
 rcases hb' with hb'|hb'
 exact Nat.lt_of_lt_of_le (hD b hb') hb.size
 exact hb'.2
theorem gZ {P:Program} {f:FuncId} {vs:List Value} {r:AV} (h:∀w,Calls P f vs.toArray w λe w'=>∃v,e= .returned v/\Below w.heap.size w w'/\∀E':Bu,E'.w=w'->(∀b,w.heap.size<=b->b<w'.heap.size->E'.D b)->VR E' r v):AF P f (vs.map .lit) r:=by
 refine tB λE us hD hn hv=>?_
 have:us=vs.toArray:=VR.lits (E:=E.fz) (by simpa using hn) (VR.tops hv)
 subst this
 refine(h E.w).mono ?_
 rintro e w' ⟨v,rfl,hb,hr⟩
 exact⟨v,rfl,hb,λE' h1 _ h3=>hr E' h1 h3⟩
abbrev Eg (v:V3):AV:= .lit (.agg #[.int .i64 v.x,.int .i64 v.y,.int .i64 v.z])
theorem aA (v:V3):AF Tryz.prog 33 [Eg v] (.bool (En 1048576 [v.x,v.y,v.z])):=Jc (vs:=[_]) λw=>fY v.x v.y v.z w
theorem Aff {E:Bu} {x y:AV} {a b:Value} (h1:VR E x a) (h2:VR E y b):VR E (.tup [x,y]) (.tuple #[a,b]):= .tup _ _ _ rfl λi hi=>by
 match i,hi with
 |0,_=>exact h1
 |1,_=>exact h2
abbrev xE (a b:V3) (f t k:Int):AV:= .tup [Ai (if Lo a b f t=true then [Qp a b f t k] else []),.int (if Lo a b f t=true then 0 else 2)]
theorem uC {w w':World} {a b:V3} {f t k:Int} {e:Ending} (h:Gp w a b f t k e w'):∃v,e= .returned v/\Below w.heap.size w w'/\∀E':Bu,E'.w=w'->(∀b,w.heap.size<=b->b<w'.heap.size->E'.D b)->VR E' (xE a b f t k) v:=by
 unfold Gp at h
 unfold xE
 split at h
 rename_i hf
 obtain⟨v,rfl,hp,hb⟩:=h
 simp only[hf,if_true]
 exact⟨_,rfl,hb,λE' h1 h2=>Aff (jY hp h1 λb hb=>h2 b hb.1 hb.2) (.lit _ _)⟩
 rename_i hf
 simp only[hf]
 obtain⟨rfl,hb⟩:=h
 exact⟨_,rfl,hb,λE' h1 h2=>Aff (.sl0 _ _ _ _ _) (.lit _ _)⟩
theorem Aap (a b:V3) (f t:Int):AF Tryz.prog 49 [Eg a,Eg b,.int f,.int t] (xE a b f t 2):=gZ (vs:=[_,_,_,_]) λw=>(Xk a.x a.y a.z b.x b.y b.z f t w).mono λ_ _ h=>uC h
theorem Aar (a:V3) (f t:Int):AF Tryz.prog 62 [Eg a,.int f,.int t] (xE a a f t 0):=gZ (vs:=[_,_,_]) λw=>(fH a.x a.y a.z f t w).mono λ_ _ h=>uC h
abbrev Hn (l:List V3):AV:= .sl 3 l.length λi=>Eg (l.getD i V3.zero)
abbrev Fd (l:List ByteArray):AV:= .sl 1 l.length λi=> .lit (.string (l.getD i ByteArray.empty))
abbrev yA (m:Mv):AV:= .lit (.agg #[.int .i64 m.to.x,.int .i64 m.to.y,.int .i64 m.to.z,.int .i64 m.wait,.int .i64 m.flight,.int .i64 m.rise])
abbrev Ads (l:List Mv):AV:= .sl 6 l.length λi=>yA (l.getD i Mv.none)
abbrev AcM (a:Ac):AV:= .agg [.lit (.string a.name),.int a.len,Ads a.moves]
abbrev Gq (l:List Ac):AV:= .sl 3 l.length λi=>AcM (l.getD i Ac.none)
abbrev Ff (p:Pr):AV:= .agg [Fd p.names,Hn p.homes,Gq p.acts]
theorem Ml {α:Type} (f:α->List Value) (k:Nat) (hf:∀a,(f a).length=k):∀(l:List α) (i j:Nat) (d:α),i<l.length->j<k->(l.flatMap f).getD (i*k+j) undef=(f (l.getD i d)).getD j undef
 |[],i,j,d,hi,_=>by simp at hi
 |a::l,0,j,d,_,hj=>by
  rw[List.flatMap_cons,List.getD_eq_getElem?_getD,List.getElem?_append_left (by rw[hf];omega)]
  simp[List.getD_eq_getElem?_getD]
 |a::l,i+1,j,d,hi,hj=>by
  rw[List.flatMap_cons,List.getD_eq_getElem?_getD,List.getElem?_append_right (by rw[hf,Nat.succ_mul];omega),hf]
  have:=Ml f k hf l i j d (by simpa using hi) hj
  rw[List.getD_eq_getElem?_getD] at this
  rw[show (i+1)*k+j-k=i*k+j by rw[Nat.succ_mul];omega,this]
  simp[List.getD_eq_getElem?_getD]
theorem Yf {α:Type} (f:α->List Value) (k:Nat) (hf:∀a,(f a).length=k):∀l:List α,(l.flatMap f).length=l.length*k
 |[]=>by simp
 |a::l=>by rw[List.flatMap_cons,List.length_append,hf,Yf f k hf l,List.length_cons,Nat.succ_mul];omega
theorem zV {E:Bu} {l:List V3} {v:Value} (h:VR E (Hn l) v):Cz E.w E.D 3 v l.length (Jf l):=
 Zs h (Jf l) (Yo l) λi j hi hj=>by
  have:=Ml (λv:V3=>[Value.int .i64 v.x,.int .i64 v.y,.int .i64 v.z]) 3 (λ_=>rfl) l i j V3.zero hi hj
  show _=AV.lit ((Jf l).getD (i*3+j) undef)
  unfold Jf
  rw[this]
  match j,hj with
  |0,_=>rfl
  |1,_=>rfl
  |2,_=>rfl
theorem Ab8 {E:Bu} {l:List Mv} {v:Value} (h:VR E (Ads l) v):Cz E.w E.D 6 v l.length (yB l):=
 Zs h (yB l) (Yf Mv.cells 6 (λ_=>rfl) l) λi j hi hj=>by
  have:=Ml Mv.cells 6 (λ_=>rfl) l i j Mv.none hi hj
  unfold yB
  rw[this]
  match j,hj with
  |0,_=>rfl
  |1,_=>rfl
  |2,_=>rfl
  |3,_=>rfl
  |4,_=>rfl
  |5,_=>rfl
theorem rM {E:Bu} {l:List ByteArray} {v:Value} (h:VR E (Fd l) v):Cz E.w E.D 1 v l.length (strs l):=
 Zs h (strs l) (by simp[strs]) λi j hi hj=>by
  obtain rfl:j=0:=by omega
  rw[Nat.mul_one,Nat.add_zero]
  show AV.lit (.string (l.getD i ByteArray.empty))=AV.lit ((strs l).getD i undef)
  simp[strs,List.getD_eq_getElem?_getD,hi]
def Xw:List Ac->(Nat->Value)->List Value
 |[],_=>[]
 |a::l,g=>[.string a.name,.int .i64 a.len,g 0]++Xw l λi=>g (i+1)
theorem Xc:∀(l:List Ac) (g:Nat->Value),(Xw l g).length=l.length*3
 |[],_=>rfl
 |a::l,g=>by rw[Xw,List.length_append,Xc l];simp;omega
theorem lX:∀(l:List Ac) (g:Nat->Value) (i j:Nat),i<l.length->j<3->(Xw l g).getD (i*3+j) undef=[Value.string (l.getD i Ac.none).name,.int .i64 (l.getD i Ac.none).len,g i].getD j undef
 |[],g,i,j,hi,_=>by simp at hi
 |a::l,g,0,j,_,hj=>by
  rw[Xw,List.getD_eq_getElem?_getD,List.getElem?_append_left (by simp;omega)]
  simp[List.getD_eq_getElem?_getD]
 |a::l,g,i+1,j,hi,hj=>by
  rw[Xw,List.getD_eq_getElem?_getD,List.getElem?_append_right (by simp;omega)]
  have:=lX l (λi=>g (i+1)) i j (by simpa using hi) hj
  rw[List.getD_eq_getElem?_getD] at this
  rw[show (i+1)*3+j-[Value.string a.name,.int .i64 a.len,g 0].length=i*3+j by simp;omega,this]
  simp[List.getD_eq_getElem?_getD]
theorem aK {w:World} {D:Nat->Prop}:∀(l:List Ac) (g:Nat->Value),(∀i,i<l.length->Cz w D 6 (g i) (l.getD i Ac.none).moves.length (yB (l.getD i Ac.none).moves))->Qt w D l (Xw l g)
 |[],_,_=>rfl
 |a::l,g,h=>⟨_,_,rfl,⟨g 0,rfl,by simpa using h 0 (by simp)⟩,aK l (λi=>g (i+1)) λi hi=>by simpa using h (i+1) (by simpa using hi)⟩
theorem wU {E:Bu} {l:List Ac} {v:Value} (h:VR E (Gq l) v):∃cs,Cz E.w E.D 3 v l.length cs/\Qt E.w E.D l cs:=by
 unfold Gq at h
 generalize hn:l.length=n at h ⊢
 cases h with
 |sl0=>
  have:l=[]:=List.eq_nil_of_length_eq_zero hn
  subst this
  exact⟨[],⟨rfl,.inl ⟨_,_,rfl,rfl⟩⟩,rfl⟩
 |sl _ _ _ _ b q c us hn0 hD hcell hr=>
  refine⟨Xw l λi=>us i 2,⟨by rw[Xc,hn],.inr ⟨b,q,c,rfl,hD,λk u hu=>?_⟩⟩,aK l _ λi hi=>?_⟩
  obtain⟨hk,he⟩:=List.getElem?_eq_some_iff.1 hu
  rw[Xc,hn] at hk
  obtain⟨d1,d2,d3⟩:=iU hk δ
  have h1:=hcell _ _ d1 d2
  have h2:=hr _ _ d1 d2
  have h3:=lX l (λi=>us i 2) (k/3) (k%3) (by rw[hn];exact d1) d2
  rw[d3,List.getD_eq_getElem?_getD,hu] at h3
  rw[Nat.add_assoc,d3] at h1
  rw[h1]
  congr 1
  have h4:u=[Value.string (l.getD (k/3) Ac.none).name,.int .i64 (l.getD (k/3) Ac.none).len,us (k/3) 2].getD (k%3) undef:=h3
  rw[h4]
  generalize hj:k%3=j at h2 d2
  match j,d2 with
  |0,_=>exact h2.lit_inv
  |1,_=>exact h2.lit_inv
  |2,_=>rfl
  have h2:=hr i 2 ω δ
  exact Ab8 (E:=E.fz) h2
theorem vC {E:Bu} {p:Pr} {v:Value} (h:VR E (Ff p) v) (hD:∀b,E.D b->b<E.w.heap.size):∃vn vh va,v= .agg #[vn,vh,va]/\Ii E.w E.w.heap.size vn vh va p:=by
 have hrg:∀b,E.D b->rg 0 E.w.heap.size b:=λb hb=>⟨Nat.zero_le _,hD b hb⟩
 cases h with
 |agg _ _ vs hn hr=>
  have g:=VR.tops hr
  have hvs:vs=#[vs.getD 0 undef,vs.getD 1 undef,vs.getD 2 undef]:=by
   apply Array.ext
   simpa using hn
   intro i h1 h2
   have h3:i<3:=by simpa using h2
   match i,h3 with
   |0,_=>simp[Array.getD,h1]
   |1,_=>simp[Array.getD,h1]
   |2,_=>simp[Array.getD,h1]
  obtain⟨cs,k1,k2⟩:=wU (g 2)
  exact⟨_,_,_,congrArg _ hvs,⟨(rM (g 0)).more hrg,(zV (g 1)).more hrg,cs,k1.more hrg,k2.more hrg⟩⟩
structure Kp (p:Pr):Prop where
 names:∀s∈p.names,s.size<=maxLen
 anames:∀a∈p.acts,a.name.size<=maxLen
 acts:p.acts.length<=1000000
 moves:∀a∈p.acts,a.moves.length<=1000000
 lens:∀a∈p.acts,Cm a.len
theorem jR {vs:Array Value} (h:vs.size=1):vs=#[vs.getD 0 undef]:=by
 apply Array.ext
 simpa using h
 intro i h1 h2
 have:i=0:=by simp at h2;exact h2
 subst this
 simp[h1]
theorem Mc (p:Pr) (hp:Kp p):AF Tryz.prog 25 [Ff p] (.bool (Eu p)):=tB λE us hD hn hv=>by
 rw[jR hn]
 have h0:=hv 0 (by simp)
 obtain⟨vn,vh,va,e,h1⟩:=vC (E:=E.fz) (p:=p) h0 hD
 rw[e]
 refine(zT p vn vh va E.w h1 hp.names hp.anames hp.acts hp.moves).mono ?_
 rintro e w' ⟨rfl,hb⟩
 exact⟨_,rfl,hb,λ_ _ _ _=> .lit _ _⟩
abbrev Qn (l:List V3):AV:= .slc 3 l.length λi=>Eg (l.getD i V3.zero)
structure Cs where
 craft:Int
 act:Int
abbrev Ja (c:Cs):AV:= .lit (.agg #[.int .i64 c.craft,.int .i64 c.act])
def Aew (p:Pr) (a k:Int):Prop:=(p.names.length:Int)<=a/\(p.homes.length:Int)<=a/\(p.acts.length:Int)<=k/\(∀i,i<p.names.length->(p.names.getD i ByteArray.empty).size<=60)/\∀i,i<p.acts.length->(p.acts.getD i Ac.none).name.size<=60/\((p.acts.getD i Ac.none).moves.length:Int)<=a
theorem Aan (p:Pr) (a k:Int) (ha:Cm a) (hk:Cm k):AF Tryz.prog 13 [Ff p,.int a,.int k] (.bool (bP (Aew p a k))):=by
 refine Cr func13 rfl λB D0 hA0=>?_
 refine Ae 15 (Gi 14 (a<(p.names.length:Int)) (λhx1 hx1d=>?_) (λhx1 hx1d=>?_))
 ·
  exact Ae 23 (Hs (.bool false) (congrArg AV.bool (Bq (by rintro⟨g1,g2,g3,g4,g5⟩;first|omega|(have:=g4 i ω;omega)|(have:=g5 j ω;omega))).symm))
 ·
  refine Ae 7 (Gi 21 (a<(p.homes.length:Int)) (λhx2 hx2d=>?_) (λhx2 hx2d=>?_))
  ·
   exact Ae 16 (Hs (.bool false) (congrArg AV.bool (Bq (by rintro⟨g1,g2,g3,g4,g5⟩;first|omega|(have:=g4 i ω;omega)|(have:=g5 j ω;omega))).symm))
  ·
   refine Ae 8 (Gi 27 (k<(p.acts.length:Int)) (λhx3 hx3d=>?_) (λhx3 hx3d=>?_))
   ·
    exact Ae 8 (Hs (.bool false) (congrArg AV.bool (Bq (by rintro⟨g1,g2,g3,g4,g5⟩;first|omega|(have:=g4 i ω;omega)|(have:=g5 j ω;omega))).symm))
   ·
    refine Ae 10 (Pe [1,3,7] p.names.length (λi=>∀q,q<i->(p.names.getD q ByteArray.empty).size<=60) (λi=>⟨[(1,.int a),(3,.ptr 0 0),(7,.int (i:Int))],[(0,.box 31 [Fd p.names,Hn p.homes,Gq p.acts])],1,68⟩) (λq hq=>absurd hq (Nat.not_lt_zero q)) (λi hin hFi J1 hJ1=>?_))
    refine Ae 10 (Gi 32 ((i:Int)<(p.names.length:Int)) (λhx4 hx4d=>?_) (λhx4 hx4d=>?_))
    ·
     refine Ae 10 (Fl i p.names.length (Ae 1 (Ip (.int .i64 (ByteArray.size (p.names.getD i ByteArray.empty):Int)) (.int .i64 (ByteArray.size (p.names.getD i ByteArray.empty):Int)) (Ae 3 (Gi 41 ((60:Int)<(ByteArray.size (p.names.getD i ByteArray.empty):Int)) (λhx5 hx5d=>?_) (λhx5 hx5d=>?_))))))
     ·
      exact Ae 12 (Hs (.bool false) (congrArg AV.bool (Bq (by rintro⟨g1,g2,g3,g4,g5⟩;first|omega|(have:=g4 i ω;omega)|(have:=g5 j ω;omega))).symm))
     ·
      exact Ae 6 (Ep ((i:Int)+1) ((i+1:Nat):Int) (Ae 2 (Om [1,3,7] (hJ1 ω (λq hq=>(Nat.lt_or_ge q i).elim (λg=>hFi q g) λg=>by have e:q=i:=(ω);subst e;omega)))))
    ·
     refine Ae 13 (Pe [1,3,8] p.acts.length (λj=>∀q,q<j->(p.acts.getD q Ac.none).name.size<=60/\((p.acts.getD q Ac.none).moves.length:Int)<=a) (λj=>⟨[(1,.int a),(3,.ptr 0 0),(8,.int (j:Int))],[(0,.box 31 [Fd p.names,Hn p.homes,Gq p.acts])],1,68⟩) (λq hq=>absurd hq (Nat.not_lt_zero q)) (λj hjn hFj J2 hJ2=>?_))
     refine Ae 10 (Gi 46 ((j:Int)<(p.acts.length:Int)) (λhx6 hx6d=>?_) (λhx6 hx6d=>?_))
     ·
      refine Ae 10 (Fl j p.acts.length (Ae 2 (Ip (.int .i64 (ByteArray.size ((p.acts.getD j Ac.none).name):Int)) (.int .i64 (ByteArray.size ((p.acts.getD j Ac.none).name):Int)) (Ae 2 (Gi 57 ((60:Int)<(ByteArray.size ((p.acts.getD j Ac.none).name):Int)) (λhx7 hx7d=>?_) (λhx7 hx7d=>?_))))))
      ·
       exact Ae 24 (Hs (.bool false) (congrArg AV.bool (Bq (by rintro⟨g1,g2,g3,g4,g5⟩;first|omega|(have:=g4 i ω;omega)|(have:=g5 j ω;omega))).symm))
      ·
       refine Ae 3 (Fl j p.acts.length (Ae 8 (Gi 67 (a<((p.acts.getD j Ac.none).moves.length:Int)) (λhx8 hx8d=>?_) (λhx8 hx8d=>?_))))
       ·
        exact Ae 12 (Hs (.bool false) (congrArg AV.bool (Bq (by rintro⟨g1,g2,g3,g4,g5⟩;first|omega|(have:=g4 i ω;omega)|(have:=g5 j ω;omega))).symm))
       ·
        exact Ae 6 (Ep ((j:Int)+1) ((j+1:Nat):Int) (Ae 2 (Om [1,3,8] (hJ2 ω (λq hq=>(Nat.lt_or_ge q j).elim (λg=>hFj q g) λg=>by have e:q=j:=(ω);subst e;omega)))))
     ·
      exact Ae 12 (Hs (.bool true) (congrArg AV.bool (Dz (⟨ω,ω,ω,λq hq=>hFi q ω,λq hq=>hFj q ω⟩)).symm))
def Vi (n:Nat) (p:Nat->Bool):Int:=match (List.range n).find? p with|some i=>(i:Int)|none=> -1
theorem Abg (n:Nat) (p:Nat->Bool) (h:∀q,q<n->p q=false):Vi n p= -1:=by
 have:(List.range n).find? p=none:=List.find?_eq_none.2 λq hq=>by simp[h q (List.mem_range.1 hq)]
 unfold Vi;rw[this]
theorem Adc (n:Nat) (p:Nat->Bool) (i:Nat) (hi:i<n) (h:∀q,q<i->p q=false) (h2:p i=true):Vi n p=(i:Int):=by
 have:(List.range n).find? p=some i:=List.find?_range_eq_some.2 ⟨h2,by simpa using hi,λj hj=>by simp[h j hj]⟩
 unfold Vi;rw[this]
theorem Aas (l:List V3) (n:Nat) (v:V3) (hn:n<=1000000):AF Tryz.prog 72 [.sl 3 n λi=>Eg (l.getD i V3.zero),Eg v] (.int (Vi n λi=>decide ((l.getD i V3.zero).x=v.x/\(l.getD i V3.zero).y=v.y/\(l.getD i V3.zero).z=v.z))):=by
 refine Cr func72 rfl λB D0 hA0=>?_
 refine Ae 15 (Pe [0,3,7,8] n (λi=>∀q,q<i->decide ((l.getD q V3.zero).x=v.x/\(l.getD q V3.zero).y=v.y/\(l.getD q V3.zero).z=v.z)=false) (λi=>⟨[(0,.sl 3 n (λi0=>Eg (l.getD i0 V3.zero))),(3,.ptr 0 0),(7,.int (n:Int)),(8,.int (i:Int))],[(0,.box 36 [.int v.x,.int v.y,.int v.z])],1,19⟩) (λq hq=>absurd hq (Nat.not_lt_zero q)) (λi hin hFi J1 hJ1=>?_))
 refine Ae 6 (Gi 9 ((i:Int)<(n:Int)) (λhx1 hx1d=>?_) (λhx1 hx1d=>?_))
 ·
  refine Ae 12 (Jb [(3,Hr (.sl 3 n (λi0=>Eg (l.getD i0 V3.zero))) i,.none),(5,.bool (decide (v.x=(l.getD i V3.zero).x/\v.y=(l.getD i V3.zero).y/\v.z=(l.getD i V3.zero).z)),.none)] [0,3,5,7,8,16] ⟨Tg i n,Au (Sv 36 36 (.tmp 11) (.tmp 15) κ _ _ κ κ κ (decide (v.x=(l.getD i V3.zero).x/\v.y=(l.getD i V3.zero).y/\v.z=(l.getD i V3.zero).z)) (aT _ _ _ _ _ _)),trivial⟩ (Ae 1 (Gi 16 (v.x=(l.getD i V3.zero).x/\v.y=(l.getD i V3.zero).y/\v.z=(l.getD i V3.zero).z) (λhx2 hx2d=>?_) (λhx2 hx2d=>?_))))
  ·
   exact Ae 13 (Hs (.int (i:Int)) (congrArg AV.int (Adc n _ i ω (λq hq=>hFi q hq) (by simp only[decide_eq_true_eq];omega)).symm))
  ·
   exact Ae 5 (Ep ((i:Int)+1) ((i+1:Nat):Int) (Ae 2 (Om [0,3,7,8] (hJ1 ω (λq hq=>(Nat.lt_or_ge q i).elim (λg=>hFi q g) λg=>by have e:q=i:=(ω);subst e;simp only[decide_eq_false_iff_not];omega)))))
 ·
  exact Ae 12 (Hs (.int (-1)) (congrArg AV.int (Abg n _ λq hq=>hFi q ω).symm))
def Av (l:List Ac):Nat->Int
 |0=>0
 |k+1=>Av l k+(l.getD k Ac.none).len
theorem bJ {p:Pr} {k:Nat} {t:Int} {m:List Int}:∀{i:Nat} {l:List Int},Ed p k t m i=some l->∀j,j<i->Ql p k t j=0
 |0,_,_,j,hj=>absurd hj (Nat.not_lt_zero j)
 |i+1,l,h,j,hj=>by
  rw[Ed] at h
  cases h1:Ed p k t m i with
  |none=>rw[h1] at h;cases h
  |some l1=>
   rw[h1] at h
   simp only at h
   split at h
   rename_i hc
   rcases Nat.lt_or_ge j i with hji|hji
   exact bJ h1 j hji
   have:j=i:=by omega
   subst this
   exact hc.1
   cases h
theorem dF {p:Pr}:∀{k:Nat} {t:Int} {m:List Int},Ks p k=some (t,m)->t=Av p.acts k/\0<=t/\t<=3600000/\∀j,j<k->(0<=Av p.acts j/\Av p.acts j<=3600000)/\1<=(p.acts.getD j Ac.none).len/\(p.acts.getD j Ac.none).moves.length=p.names.length/\∀i,i<p.names.length->Ql p j (Av p.acts j) i=0
 |0,t,m,h=>by
  simp only[Ks,Option.some.injEq,Prod.mk.injEq] at h
  obtain⟨rfl,_⟩:=h
  exact⟨rfl,Int.le_refl _,δ,λj hj=>absurd hj (Nat.not_lt_zero j)⟩
 |k+1,t,m,h=>by
  rw[Ks] at h
  cases h1:Ks p k with
  |none=>rw[h1] at h;cases h
  |some tm=>
   obtain⟨t1,m1⟩:=tm
   rw[h1] at h
   simp only at h
   split at h
   rename_i hc
   cases h2:Ed p k t1 m1 p.names.length with
   |none=>rw[h2] at h;cases h
   |some m2=>
    rw[h2] at h
    simp only[Option.some.injEq,Prod.mk.injEq] at h
    obtain⟨rfl,rfl⟩:=h
    obtain⟨e1,e2,e3,e4⟩:=dF h1
    refine⟨by rw[Av,e1],ω,ω,λj hj=>?_⟩
    rcases Nat.lt_or_ge j k with hjk|hjk
    exact e4 j hjk
    have:j=k:=by omega
    subst this
    rw[<-e1]
    exact⟨⟨e2,e3⟩,hc.2.1,hc.2.2.2,bJ h2⟩
   cases h
structure Vb (p:Pr):Prop where
 n1:1<=p.names.length/\p.names.length<=64
 homes:p.homes.length=p.names.length
 acts:p.acts.length<=60
 ends:∀j,j<=p.acts.length->0<=Av p.acts j/\Av p.acts j<=3600000
 len:∀j,j<p.acts.length->1<=(p.acts.getD j Ac.none).len
 mv:∀j,j<p.acts.length->(p.acts.getD j Ac.none).moves.length=p.names.length
 pe:∀j i,j<p.acts.length->i<p.names.length->Ql p j (Av p.acts j) i=0
theorem Du {p:Pr} (h:Eu p=true):Vb p:=by
 unfold Eu at h
 simp only[Bool.and_eq_true,decide_eq_true_eq] at h
 obtain⟨⟨h1,h2⟩,h3⟩:=h
 unfold Rb at h1
 simp only[Bool.and_eq_true,decide_eq_true_eq] at h1
 obtain⟨tm,ht⟩:=Option.isSome_iff_exists.1 h3
 obtain⟨t,m⟩:=tm
 obtain⟨e1,e2,e3,e4⟩:=dF ht
 refine⟨⟨h1.1.1.1,h1.1.1.2⟩,h1.1.2,h2,λj hj=>?_,λj hj=>(e4 j hj).2.1,λj hj=>(e4 j hj).2.2.1,λj i hj hi=>(e4 j hj).2.2.2 i hi⟩
 rcases Nat.lt_or_ge j p.acts.length with hlt|hge
 exact(e4 j hlt).1
 have:j=p.acts.length:=by omega
 subst this
 rw[<-e1];exact⟨e2,e3⟩
theorem Vb.to {p:Pr} (h:Vb p) {j i:Nat} (hj:j<p.acts.length) (hi:i<p.names.length):En 1048576 [((p.acts.getD j Ac.none).moves.getD i Mv.none).to.x,((p.acts.getD j Ac.none).moves.getD i Mv.none).to.y,((p.acts.getD j Ac.none).moves.getD i Mv.none).to.z]=true:=by
 have:=h.pe j i hj hi
 unfold Ql sM at this
 split at this
 rename_i hb
 unfold tpB qA at hb
 simp only[Bool.and_eq_true] at hb
 have h2:Th ((p.acts.getD j Ac.none).moves.getD i Mv.none).to.x ((p.acts.getD j Ac.none).moves.getD i Mv.none).to.y ((p.acts.getD j Ac.none).moves.getD i Mv.none).to.z=true:=by
  revert hb
  simp only[and_imp]
  intros
  assumption
 exact h2
 cases this
theorem in3 {m x y z:Int} (h:En m [x,y,z]=true):(-m<=x/\x<=m)/\(-m<=y/\y<=m)/\(-m<=z/\z<=m):=by
 unfold En at h
 simpa using h
theorem getD_in {l:List Ac} (h:∀a∈l,Cm a.len) (i:Nat):Cm (l.getD i Ac.none).len:=by
 rw[List.getD_eq_getElem?_getD]
 cases hi:l[i]? with
 |none=>exact⟨δ,δ⟩
 |some a=>exact h a (List.mem_of_getElem? hi)
theorem mR (n:Nat) (p:Nat->Bool):0<=Vi n p↔∃q,q<n/\p q=true:=by
 unfold Vi
 cases h:(List.range n).find? p with
 |none=>
  have:=List.find?_eq_none.1 h
  constructor
  intro h;exact absurd h δ
  rintro⟨q,hq,hp⟩
  exact absurd hp (this q (List.mem_range.2 hq))
 |some i=>
  have h1:=List.find?_some h
  have h2:=List.mem_of_find?_eq_some h
  exact⟨λ_=>⟨i,List.mem_range.1 h2,h1⟩,λ_=>Int.natCast_nonneg i⟩
theorem lE (l:List V3) (n:Nat) (v:V3) (hn:n<=1000000):AF Tryz.prog 34 [.sl 3 n λi=>Eg (l.getD i V3.zero),Eg v] (.bool (bP (∃q,q<n/\(l.getD q V3.zero).x=v.x/\(l.getD q V3.zero).y=v.y/\(l.getD q V3.zero).z=v.z))):=by
 have HQ:decide ((0:Int)<=Vi n λi=>decide ((l.getD i V3.zero).x=v.x/\(l.getD i V3.zero).y=v.y/\(l.getD i V3.zero).z=v.z))=bP (∃q,q<n/\(l.getD q V3.zero).x=v.x/\(l.getD q V3.zero).y=v.y/\(l.getD q V3.zero).z=v.z):=by
  by_cases h:∃q,q<n/\(l.getD q V3.zero).x=v.x/\(l.getD q V3.zero).y=v.y/\(l.getD q V3.zero).z=v.z
  ·
   rw[Dz h,decide_eq_true_eq,mR]
   obtain⟨q,hq,h⟩:=h
   exact⟨q,hq,by simpa using h⟩
  ·
   rw[Bq h,decide_eq_false_iff_not,mR]
   rintro⟨q,hq,h2⟩
   exact h ⟨q,hq,by simpa using h2⟩
 refine Cr func34 rfl λB D0 hA0=>?_
 exact Ae 10 (Cf (Aas l n v hn) (Ae 5 (Hs (.bool (decide ((0:Int)<=Vi n (λi=>decide ((l.getD i V3.zero).x=v.x/\(l.getD i V3.zero).y=v.y/\(l.getD i V3.zero).z=v.z))))) (congrArg AV.bool HQ))))
theorem Aeu (p:Pr) (hp:Kp p) (ho:Vb p) (k:Nat) (hk:k<p.acts.length):AF Tryz.prog 103 [Ff p,.int (k:Int)] (.int (Av p.acts (k+1))):=by
 have hac:=ho.acts
 refine Cr func103 rfl λB D0 hA0=>?_
 refine Ae 15 (Ep ((k:Int)+1) ((k+1:Nat):Int) (Ae 4 (Pe [2,5,8,9] (k+1) (λi=>True) (λi=>⟨[(2,.ptr 0 0),(5,.int (Av p.acts i)),(8,.int ((k+1:Nat):Int)),(9,.int (i:Int))],[(0,.box 31 [Fd p.names,Hn p.homes,Gq p.acts])],1,22⟩) trivial (λi hin hFi J1 hJ1=>?_))))
 refine Ae 6 (Gi 10 ((i:Int)<((k+1:Nat):Int)) (λhx1 hx1d=>?_) (λhx1 hx1d=>?_))
 ·
  refine Ae 11 ?_
  have he2:=ho.ends i ω
  have hl:=getD_in hp.lens i
  refine Ae 5 (Fl i p.acts.length (Ae 2 (Ip (.int .i64 (IntKind.wrap .i64 (Av p.acts i+(p.acts.getD i Ac.none).len))) (.int .i64 (Av p.acts (i+1))) ?_ (congrArg (Value.int .i64) ((IntWalk.i64_in _ (by have he3:=ho.ends (i+1) ω;rw[Av] at he3;omega)).trans rfl)))))
  exact Ae 5 (Ep ((i:Int)+1) ((i+1:Nat):Int) (Ae 2 (Om [2,5,8,9] (hJ1 ω trivial))))
 ·
  exact Ae 13 (Hs (.int (Av p.acts i)) (congrArg (λq=>AV.int (Av p.acts q)) (show i=k+1 by omega)))
theorem Qr (p:Pr) (hp:Kp p) (ho:Vb p) (k:Nat) (hk:k<p.acts.length):AF Tryz.prog 27 [Ff p,.int (k:Int)] (.int (Av p.acts (k+1))):=by
 have hac:=ho.acts
 refine Cr func27 rfl λB D0 hA0=>?_
 refine Ae 18 (Pe [1,2,5,6] (k+1) (λi=>True) (λi=>⟨[(1,.int (k:Int)),(2,.ptr 0 0),(5,.int (Av p.acts i)),(6,.int (i:Int))],[(0,.box 31 [Fd p.names,Hn p.homes,Gq p.acts])],1,21⟩) trivial (λi hin hFi J1 hJ1=>?_))
 have he:=ho.ends i
 refine Ae 8 (Gi 9 ((i:Int)<=(k:Int)) (λhx1 hx1d=>?_) (λhx1 hx1d=>?_))
 ·
  refine Ae 5 ?_
  have he2:=ho.ends i ω
  have hl:=getD_in hp.lens i
  refine Ae 5 (Fl i p.acts.length (Ae 2 (Ip (.int .i64 (IntKind.wrap .i64 (Av p.acts i+(p.acts.getD i Ac.none).len))) (.int .i64 (Av p.acts (i+1))) ?_ (congrArg (Value.int .i64) ((IntWalk.i64_in _ (by have he3:=ho.ends (i+1) ω;rw[Av] at he3;omega)).trans rfl)))))
  exact Ae 6 (Ep ((i:Int)+1) ((i+1:Nat):Int) (Ae 2 (Om [1,2,5,6] (hJ1 ω trivial))))
 ·
  exact Ae 13 (Hs (.int (Av p.acts i)) (congrArg (λq=>AV.int (Av p.acts q)) (show i=k+1 by omega)))
def Hy (p:Pr) (c:Cs):Prop:=Eu p=true/\0<=c.craft/\c.craft<(p.names.length:Int)/\0<=c.act/\c.act<(p.acts.length:Int)
def Ao (p:Pr) (c:Cs):Int:=Av p.acts (c.act.toNat+1)
structure Oo (c:Cs):Prop where
 craft:Cm c.craft
 act:Cm c.act
theorem Uy (p:Pr) (c:Cs) (hp:Kp p) (_:Oo c):AF Tryz.prog 73 [Ff p,Ja c] (.bool (bP (Hy p c))):=by
 have hac:=hp.acts
 refine Cr func73 rfl λB D0 hA0=>?_
 refine Ae 10 (Cf (Mc p hp) (Ae 1 (zX 7 (Eu p) (λhx1=>?_) (λhx1=>?_))))
 ·
  refine Ae 5 (Gi 12 ((0:Int)<=c.craft) (λhx2 hx2d=>?_) (λhx2 hx2d=>?_))
  ·
   refine Ae 8 (Gi 20 (c.craft<(p.names.length:Int)) (λhx3 hx3d=>?_) (λhx3 hx3d=>?_))
   ·
    refine Ae 5 (Gi 25 ((0:Int)<=c.act) (λhx4 hx4d=>?_) (λhx4 hx4d=>?_))
    ·
     exact Ae 11 (Hs (.bool (decide (c.act<(p.acts.length:Int)))) (congrArg AV.bool (if hz:c.act<(p.acts.length:Int) then (decide_eq_true hz).trans (Dz ⟨by assumption,ω,ω,ω,hz⟩).symm else (decide_eq_false hz).trans (Bq (by rintro⟨g1,g2,g3,g4,g5⟩;omega)).symm)))
    ·
     exact Ae 11 (Hs (.bool false) (congrArg AV.bool (Bq (by rintro⟨g1,g2,g3,g4,g5⟩;first|omega|(simp_all;done))).symm))
   ·
    exact Ae 16 (Hs (.bool false) (congrArg AV.bool (Bq (by rintro⟨g1,g2,g3,g4,g5⟩;first|omega|(simp_all;done))).symm))
  ·
   exact Ae 24 (Hs (.bool false) (congrArg AV.bool (Bq (by rintro⟨g1,g2,g3,g4,g5⟩;first|omega|(simp_all;done))).symm))
 ·
  exact Ae 29 (Hs (.bool false) (congrArg AV.bool (Bq (by rintro⟨g1,g2,g3,g4,g5⟩;first|omega|(simp_all;done))).symm))
theorem qB (p:Pr) (c:Cs) (hp:Kp p) (hc:Oo c) (h:Hy p c):AF Tryz.prog 75 [Ff p,Ja c] (.lit (.tuple #[.int .i64 (Ao p c),.int .i64 0])):=by
 have hv1:=h.2.1
 have hv2:=h.2.2.1
 have hv3:=h.2.2.2.1
 have hv4:=h.2.2.2.2
 have hmv:=(Du h.1).mv c.act.toNat ω
 refine Cr func75 rfl λB D0 hA0=>?_
 exact Ae 13 (Cf (Uy p c hp hc) (Ae 3 (Gv 9 (!bP (Hy p c)) false (by rw[(Dz h)];rfl) (Ae 8 (Cf (by have:=Aeu p hp (Du h.1) c.act.toNat (by have:=h.2.2.2.2;omega);rwa [show (c.act.toNat:Int)=c.act by have:=h.2.2.2.1;omega] at this) (Ae 5 (Gd)))))))
theorem Wy (p:Pr) (hp:Kp p) (h:Eu p=true):AF Tryz.prog 51 [Ff p] (.lit (.tuple #[.int .i64 (Av p.acts p.acts.length),.int .i64 0])):=by
 have ho:=Du h
 have hac:=ho.acts
 refine Cr func51 rfl λB D0 hA0=>?_
 refine Ae 11 (Cf (Mc p hp) (Ae 3 (Gv 9 (!Eu p) false (by rw[h];rfl) (Ae 18 (Pe [4,11,12,13] p.acts.length (λi=>True) (λi=>⟨[(4,.int (Av p.acts i)),(11,Gq p.acts),(12,.int (p.acts.length:Int)),(13,.int (i:Int))],[(0,.box 31 [Fd p.names,Hn p.homes,Gq p.acts])],1,23⟩) trivial (λi hin hFi J1 hJ1=>?_))))))
 refine Ae 6 (Gi 14 ((i:Int)<(p.acts.length:Int)) (λhx1 hx1d=>?_) (λhx1 hx1d=>?_))
 ·
  refine Ae 5 ?_
  have he2:=ho.ends i ω
  have hl:=getD_in hp.lens i
  refine Ae 2 (Fl i p.acts.length (Ae 9 (Ip (.int .i64 (IntKind.wrap .i64 (Av p.acts i+(p.acts.getD i Ac.none).len))) (.int .i64 (Av p.acts (i+1))) ?_ (congrArg (Value.int .i64) ((IntWalk.i64_in _ (by have he3:=ho.ends (i+1) ω;rw[Av] at he3;omega)).trans rfl)))))
  exact Ae 5 (Ep ((i:Int)+1) ((i+1:Nat):Int) (Ae 2 (Ha [4,11,12,13] [(0,0)] 1 0 hA0 [] trivial (hJ1 ω trivial))))
 ·
  exact Ae 14 (Hs (.lit (.tuple #[.int .i64 (Av p.acts i),.int .i64 0])) (congrArg (λq=>AV.lit (.tuple #[.int .i64 (Av p.acts q),.int .i64 0])) (show i=p.acts.length by omega)))
structure Rv where
 homes:List V3
 flight:Int
 waits:List Int
 rises:List Int
structure Rl where
 spare:Int
 wait:Int
 rise:Int
def Rl.none:Rl:=⟨0,0,0⟩
abbrev Fi (l:List Int):AV:= .slc 1 l.length λi=> .int (l.getD i 0)
abbrev Ie (r:Rv):AV:= .agg [Qn r.homes,.int r.flight,Fi r.waits,Fi r.rises]
abbrev Cx (x:Rl):AV:= .lit (.agg #[.int .i64 x.spare,.int .i64 x.wait,.int .i64 x.rise])
abbrev Ts (l:List Rl):AV:= .sl 3 l.length λi=>Cx (l.getD i Rl.none)
structure Tz (r:Rv):Prop where
 n:r.homes.length<=1000000
 w:r.waits.length<=1000000
 s:r.rises.length<=1000000
 fl:Cm r.flight
def Ty (l:List Int) (m:Int):Prop:=1<=l.length/\l.length<=16/\∀i,i<l.length->0<=l.getD i 0/\l.getD i 0<=m/\(0<i->l.getD (i-1) 0<l.getD i 0)
theorem AdD {l:List Int} {m:Int} (h1:1<=l.length) (h2:l.length<=16) (h3:0<=l.getD 0 0) (h4:l.getD (l.length-1) 0<=m) (h5:∀i,i<l.length-1->l.getD i 0<l.getD (1+i) 0):Ty l m:=by
 have lo:∀i,i<l.length->0<=l.getD i 0:=by
  intro i
  induction i with
  |zero=>intro _;exact h3
  |succ i ih=>intro hi;have:=ih ω;have:=h5 i ω;rw[Nat.add_comm 1 i] at this;omega
 have hi:∀j i,i+j=l.length-1->i<l.length->l.getD i 0<=m:=by
  intro j
  induction j with
  |zero=>intro i h _;rw[show i=l.length-1 by omega];exact h4
  |succ j ih=>intro i h h6;have:=ih (i+1) ω ω;have:=h5 i ω;rw[Nat.add_comm 1 i] at this;omega
 exact⟨h1,h2,λi h6=>⟨lo i h6,hi (l.length-1-i) i ω h6,λh7=>by
  have:=h5 (i-1) ω
  rwa [show 1+(i-1)=i by omega] at this⟩⟩
def tm4 (x:Int):Int:=Int.tmod x 4
theorem Aef {a b:Prop} (h:a↔b):bP a=bP b:=by
 by_cases g:a
 rw[Dz g,Dz (h.1 g)]
 rw[Bq g,Bq λk=>g (h.2 k)]
def Ng (r:Rv):Prop:=(1<=r.homes.length/\r.homes.length<=8/\4<=r.flight/\r.flight<=3600000/\tm4 r.flight=0)/\(∀i,i<r.homes.length->En 1048576 [(r.homes.getD i V3.zero).x,(r.homes.getD i V3.zero).y,(r.homes.getD i V3.zero).z]=true/\∀j,j<i->¬((r.homes.getD j V3.zero).x=(r.homes.getD i V3.zero).x/\(r.homes.getD j V3.zero).y=(r.homes.getD i V3.zero).y/\(r.homes.getD j V3.zero).z=(r.homes.getD i V3.zero).z))/\Ty r.waits 3600000/\Ty r.rises 1048576
def Xu (l:List Ac) (a:Int):Nat->Nat->Nat
 |0,i=>i
 |k+1,i=>if a<=Av l (i+1) then i else Xu l a k (i+1)
theorem vP {l:List Ac} {a:Int}:∀k i j,i<=j->j<=i+k->(∀q,i<=q->q<j->Av l (q+1)<a)->(j=i+k\/a<=Av l (j+1))->Xu l a k i=j
 |0,i,j,h1,h2,_,_=>by rw[Xu];omega
 |k+1,i,j,h1,h2,h3,h4=>by
  rw[Xu]
  by_cases h:i=j
  subst h
  rw[if_pos ω]
  have:=h3 i ω ω
  rw[if_neg ω]
  exact vP k (i+1) j ω ω (λq g1 g2=>h3 q ω g2) ω
theorem vR {l:List Ac} {a:Int}:∀k i,i<=Xu l a k i/\Xu l a k i<=i+k
 |0,i=>by rw[Xu];omega
 |k+1,i=>by
  have:=vR (l:=l) (a:=a) k (i+1)
  rw[Xu]
  split<;>omega
def Nj (p:Pr) (c:Cs) (a:Int):Nat:=Xu p.acts a (p.acts.length-(c.act.toNat+1)) (c.act.toNat+1)
theorem vS {p:Pr} {c:Cs} {a:Int} {j:Nat} (h1:c.act.toNat+1<=j) (h2:j<=p.acts.length) (h3:∀q,c.act.toNat+1<=q->q<j->Av p.acts (q+1)<a) (h4:j=p.acts.length\/a<=Av p.acts (j+1)):Nj p c a=j:=
 vP _ _ _ h1 ω h3 ω
def Lf (p:Pr) (r:Rv) (c:Cs) (w:Int):Int:=Ao p c+w+r.flight
def oY (p:Pr) (c:Cs) (i:Nat):V3:=((p.acts.getD i Ac.none).moves.getD c.craft.toNat Mv.none).to
def Ob (l:List Nat) (j:Nat):List Nat:=(l.set (j+1) (l.getD j 0)).set j (l.getD (j+1) 0)
theorem Kh (l:List Nat) (j:Nat):(Ob l j).length=l.length:=by simp[Ob]
theorem Wo (l:List Nat) (j x:Nat) (h:j+1<l.length):(Ob l j).getD x 0=if x=j then l.getD (j+1) 0 else if x=j+1 then l.getD j 0 else l.getD x 0:=by
 unfold Ob
 simp only[List.getD_eq_getElem?_getD,List.getElem?_set,List.length_set]
 by_cases h1:x=j
 subst h1
 simp[show x<l.length by omega]
 by_cases h2:x=j+1
 subst h2
 simp[h]
 rw[if_neg (λe=>h1 e.symm),if_neg (λe=>h2 e.symm),if_neg h1,if_neg h2]
def Tf (lt:Nat->Nat->Bool) (l:List Nat):Nat->List Nat
 |0=>l
 |j+1=>if lt (l.getD (j+1) 0) (l.getD j 0) then Tf lt (Ob l j) j else l
def Lu (lt:Nat->Nat->Bool) (l:List Nat):Nat->List Nat
 |0=>l
 |i+1=>Tf lt (Lu lt l i) (i+1)
theorem nI (lt:Nat->Nat->Bool):∀j l,(Tf lt l j).length=l.length
 |0,_=>rfl
 |j+1,l=>by
  rw[Tf]
  split
  rw[nI lt j,Kh]
  rfl
theorem nJ (lt:Nat->Nat->Bool) {n:Nat}:∀j l,j<l.length->(∀x,x<l.length->l.getD x 0<n)->∀x,x<l.length->(Tf lt l j).getD x 0<n
 |0,_,_,h=>h
 |j+1,l,hj,h=>by
  rw[Tf]
  split
  have:=nJ lt j (Ob l j) (by rw[Kh];omega) (n:=n) (λx hx=>by
   rw[Kh] at hx
   rw[Wo _ _ _ hj]
   split
   exact h _ hj
   split
   exact h _ ω
   exact h x hx)
  rwa [Kh] at this
  exact h
theorem Na (lt:Nat->Nat->Bool) (l:List Nat):∀i,(Lu lt l i).length=l.length
 |0=>rfl
 |i+1=>by rw[Lu,nI,Na lt l i]
theorem cS (lt:Nat->Nat->Bool) {n:Nat} (l:List Nat) (h:∀x,x<l.length->l.getD x 0<n):∀i,i<l.length->∀x,x<l.length->(Lu lt l i).getD x 0<n
 |0,_=>h
 |i+1,hi=>by
  have:=nJ lt (n:=n) (i+1) (Lu lt l i) (by rw[Na];exact hi) (λx hx=>by
   rw[Na] at hx
   exact cS lt l h i ω x hx)
  rw[Na] at this
  rw[Lu];exact this
def Te (r:Rv) (v:V3) (i:Nat):Int:=((r.homes.getD i V3.zero).x-v.x)*((r.homes.getD i V3.zero).x-v.x)+((r.homes.getD i V3.zero).y-v.y)*((r.homes.getD i V3.zero).y-v.y)+((r.homes.getD i V3.zero).z-v.z)*((r.homes.getD i V3.zero).z-v.z)
def bI (r:Rv) (v:V3) (a b:Nat):Bool:=decide (Te r v a<Te r v b\/(Te r v a=Te r v b/\a<b))
def Ec (r:Rv) (v:V3):List Nat:=Lu (bI r v) (List.range r.homes.length) (r.homes.length-1)
theorem Ry {n x:Nat} (h:x<n):(List.range n).getD x 0=x:=by
 rw[List.getD_eq_getElem?_getD,List.getElem?_range h];rfl
theorem Wc (r:Rv) (v:V3) {x:Nat} (h:x<r.homes.length):(Ec r v).getD x 0<r.homes.length:=by
 have:=cS (bI r v) (n:=r.homes.length) (List.range r.homes.length) (λx hx=>by
  rw[List.length_range] at hx
  rw[Ry hx];exact hx) (r.homes.length-1) (by rw[List.length_range];omega) x (by rw[List.length_range];exact h)
 exact this
def Km (v:V3) (w:Int):Bool:=En 1048576 [v.x,v.y,v.z+w]
def dY (r:Rv) (w:Int) (v:V3) (i:Nat):Nat->List Rl
 |0=>[]
 |q+1=>dY r w v i q++if Km (r.homes.getD i V3.zero) (r.rises.getD q 0)&&Km v (r.rises.getD q 0) then [⟨(i:Int),w,r.rises.getD q 0⟩] else []
def kF (r:Rv) (w:Int) (v:V3) (o:List Nat):Nat->List Rl
 |0=>[]
 |m+1=>kF r w v o m++dY r w v (o.getD m 0) r.rises.length
def Bn (p:Pr) (r:Rv) (c:Cs) (k:Nat):V3:=oY p c (Nj p c (Lf p r c (r.waits.getD k 0)))
def dX (p:Pr) (r:Rv) (c:Cs) (k:Nat):Bool:=decide (Nj p c (Lf p r c (r.waits.getD k 0))<p.acts.length)
def Jr (p:Pr) (r:Rv) (c:Cs):Nat->List Rl
 |0=>[]
 |k+1=>Jr p r c k++if dX p r c k then kF r (r.waits.getD k 0) (Bn p r c k) (Ec r (Bn p r c k)) r.homes.length else []
def Cj (p:Pr) (r:Rv) (c:Cs):List Rl:=Jr p r c r.waits.length
def Oz (p:Pr) (r:Rv) (c:Cs) (k m:Nat):List Rl:=Jr p r c k++kF r (r.waits.getD k 0) (Bn p r c k) (Ec r (Bn p r c k)) m
def Fg (p:Pr) (r:Rv) (c:Cs) (k m u:Nat):List Rl:=Oz p r c k m++dY r (r.waits.getD k 0) (Bn p r c k) ((Ec r (Bn p r c k)).getD m 0) u
theorem rW (p:Pr) (r:Rv) (c:Cs) (k:Nat):Oz p r c k 0=Jr p r c k:=List.append_nil _
theorem cK (p:Pr) (r:Rv) (c:Cs) (k m:Nat):Fg p r c k m 0=Oz p r c k m:=List.append_nil _
theorem Uo (p:Pr) (r:Rv) (c:Cs) (k m:Nat):Fg p r c k m r.rises.length=Oz p r c k (m+1):=by rw[Fg,Oz,Oz,kF,List.append_assoc]
theorem cL {p:Pr} {r:Rv} {c:Cs} {k:Nat} (h:dX p r c k=true):Oz p r c k r.homes.length=Jr p r c (k+1):=by rw[Oz,Jr,if_pos h]
theorem kG {p:Pr} {r:Rv} {c:Cs} {k:Nat} (h:dX p r c k=false):Jr p r c (k+1)=Jr p r c k:=by rw[Jr,if_neg (by rw[h];decide),List.append_nil]
theorem Io {p:Pr} {r:Rv} {c:Cs} {k m u:Nat} (h:Km (r.homes.getD ((Ec r (Bn p r c k)).getD m 0) V3.zero) (r.rises.getD u 0)=true) (g:Km (Bn p r c k) (r.rises.getD u 0)=true):Fg p r c k m (u+1)=Fg p r c k m u++[⟨(((Ec r (Bn p r c k)).getD m 0:Nat):Int),r.waits.getD k 0,r.rises.getD u 0⟩]:=by
 rw[Fg,Fg,dY,h,g,Bool.and_self,if_pos rfl,List.append_assoc]
theorem Fk {p:Pr} {r:Rv} {c:Cs} {k m u:Nat} (h:Km (r.homes.getD ((Ec r (Bn p r c k)).getD m 0) V3.zero) (r.rises.getD u 0)=false\/Km (Bn p r c k) (r.rises.getD u 0)=false):Fg p r c k m (u+1)=Fg p r c k m u:=by
 rw[Fg,Fg,dY,if_neg (by rcases h with h|h<;>rw[h]<;>simp only[Bool.and_false,Bool.false_and]<;>exact Bool.false_ne_true),List.append_nil]
theorem AeP {s:Sg} {a d:Int} (ho:s.o≠0) (hd:d≠0):plG s a d≠0:=by
 have h0:(cE s d).natAbs≠0:=by
  unfold cE
  rw[Int.natAbs_mul,Int.natAbs_pow]
  have h1:0<s.o.natAbs:=by omega
  have h2:0<d.natAbs^5:=Nat.pow_pos ω
  exact Nat.ne_of_gt (Nat.mul_pos h1 h2)
 have g:∀x y:Int,x.natAbs≠0->(Nat.gcd x.natAbs y.natAbs:Int).natAbs≠0:=λx y hx=>by
  rw[Int.natAbs_natCast]
  exact Nat.ne_of_gt (Nat.gcd_pos_of_pos_left _ ω)
 have h:=g _ (plZ s a d) (g _ (plY s a d) (g _ (rU s a d) h0))
 unfold plG
 omega
theorem Tv (s:Sg) (a d:Int) (hs:Td s) (ho:Hc s) (ha:Cm a) (hd:Cm d) (h0:d≠0):AF Tryz.prog 67 [Cv s,.int a,.int d] (jZ (Em s a d)):=
 Aau s a d hs ho.2.1.2.1 ho.2.2.1.2.1 ho.2.2.2.1.2.1 ha hd (AeP (by have:=ho.1.2.2.2.1;omega) h0)
def Oq (s u:Sg):Prop:=s.t=u.f/\Em s 1 1=Em u 0 1
instance (s u:Sg):Decidable (Oq s u):=by unfold Oq;infer_instance
def Eh (l:List Sg):Prop:=(∀i,i<l.length->Hc (l.getD i Sg.none)/\(0<i->Oq (l.getD (i-1) Sg.none) (l.getD i Sg.none)))/\1<=l.length/\l.length<=256
instance (l:List Sg):Decidable (Eh l):=by unfold Eh;infer_instance
def Da (l:List Sg):Prop:=l.length<=1000000/\∀i,Td (l.getD i Sg.none)
theorem Pw:Cm 0:=⟨δ,δ⟩
theorem jL:Cm 1:=⟨δ,δ⟩
theorem lI (s u:Sg) (hs:Td s) (hu:Td u) (ho:Hc s) (hp:Hc u):AF Tryz.prog 93 [Cv s,Cv u] (.bool (bP (Oq s u))):=by
 refine Cr func93 rfl λB D0 hA0=>?_
 refine Ae 8 (vsp (s.t=u.f) (λhx1 hx1d=>?_) (λhx1 hx1d=>?_))
 ·
  exact Jb [(4,.bool true,.none),(7,_,.none),(9,_,.none),(10,.bool (decide (Em s 1 1=Em u 0 1)),.none)] [4] ⟨kbD hx1,El (Tv s 1 1 hs ho jL jL δ),El (Tv u 0 1 hu hp Pw jL δ),Au (Sv 72 72 (.tmp 12) (.tmp 14) κ _ _ κ κ κ (decide (Em s 1 1=Em u 0 1)) (It (Em s 1 1) (Em u 0 1))),trivial⟩ (Ae 2 (Hs (.bool (decide (Em s 1 1=Em u 0 1))) (congrArg AV.bool (if hz:Em s 1 1=Em u 0 1 then (decide_eq_true hz).trans (Dz ⟨by assumption,hz⟩).symm else (decide_eq_false hz).trans (Bq (λg=>hz g.2)).symm))))
 ·
  exact Jb [(4,.bool false,.none)] [4] ⟨kbD hx1,trivial⟩ (Ae 2 (Hs (.bool false) (congrArg AV.bool (Bq (λg=>absurd g.1 (by assumption))).symm)))
theorem Po (l:List Sg) (hl:Da l):AF Tryz.prog 64 [Ai l] (.bool (bP (Eh l))):=by
 have hln:=hl.1
 refine Cr func64 rfl λB D0 hA0=>?_
 refine Ae 14 (Pe [0,5,6,7] l.length (λi=>∀q,q<i->Hc (l.getD q Sg.none)/\(0<q->Oq (l.getD (q-1) Sg.none) (l.getD q Sg.none))) (λi=>⟨[(0,Ai l),(5,Ai l),(6,.int ((l).length:Int)),(7,.int (i:Int))],[],0,38⟩) (λq hq=>absurd hq (Nat.not_lt_zero q)) (λi hin hFi J1 hJ1=>?_))
 refine Ae 6 (Gi 8 ((i:Int)<((l).length:Int)) (λhx1 hx1d=>?_) (λhx1 hx1d=>?_))
 ·
  refine Ae 8 (Fl i ((l).length) (Ae 7 (vsp (Hc (l.getD i Sg.none)) (λhx2 hx2d=>?_) (λhx2 hx2d=>?_))))
  ·
   refine vsp ((0:Int)<(i:Int)) (λhx3 hx3d=>?_) (λhx3 hx3d=>?_)
   ·
    refine Jb [(1,.bool true,.none),(5,.bool true,.none),(9,.int ((i-1:Nat):Int),.none),(10,Hr (Ai l) (i-1),.none),(13,_,.none)] [0,5,6,7,28] ⟨kbC hx2 (El (Qs (l.getD i Sg.none) (hl.2 i))),kbD hx3,Au (Bx (v:= .int .i64 (IntKind.wrap .i64 ((i:Int)-1))) (v':= .int .i64 ((i-1:Nat):Int)) _ κ rfl κ (λw=>by kernel_rfl) (congrArg (Value.int .i64) ((IntWalk.i64_in _ ω).trans ω))),Tg (i-1) ((l).length),El (lI _ _ (hl.2 (i-1)) (hl.2 i) (hFi (i-1) ω).1 (of_decide_eq_true (by assumption))),trivial⟩ (Ae 1 (pN 28 (bP (Oq (l.getD (i-1) Sg.none) (l.getD i Sg.none))) (λhx4=>?_) (λhx4=>?_)))
    ·
     exact Ae 5 (Ep ((i:Int)+1) ((i+1:Nat):Int) (Ae 2 (Ha [0,5,6,7] [] 0 0 hA0 [] trivial (hJ1 ω (λq hq=>(Nat.lt_or_ge q i).elim (λg=>hFi q g) λg=>by have e:q=i:=(ω);subst e;exact⟨of_decide_eq_true hx2,λ_=>Ib hx4⟩)))))
    ·
     exact Ae 12 (Hs (.bool false) (congrArg AV.bool (Bq (by rintro⟨g1,g2,g3⟩;first|omega|exact Qy hx4 ((g1 i ω).2 ω)|exact absurd (g1 i ω).1 (of_decide_eq_false hx2))).symm))
   ·
    exact Jb [(1,.bool true,.none),(5,.bool false,.none)] [0,5,6,7,28] ⟨kbC hx2 (El (Qs (l.getD i Sg.none) (hl.2 i))),kbD hx3,trivial⟩ (Ae 6 (Ep ((i:Int)+1) ((i+1:Nat):Int) (Ae 2 (Ha [0,5,6,7] [] 0 0 hA0 [] trivial (hJ1 ω (λq hq=>(Nat.lt_or_ge q i).elim (λg=>hFi q g) λg=>by have e:q=i:=(ω);subst e;exact⟨of_decide_eq_true hx2,λhz=>absurd hz ω⟩))))))
  ·
   exact Jb [(1,.bool false,.none)] [0,5,6,7,28] ⟨kbC hx2 (El (Qs (l.getD i Sg.none) (hl.2 i))),trivial⟩ (Ae 13 (Hs (.bool false) (congrArg AV.bool (Bq (by rintro⟨g1,g2,g3⟩;first|omega|exact absurd (g1 i ω).1 (of_decide_eq_false hx2))).symm)))
 ·
  refine Ae 12 (Gi 33 ((1:Int)<=((l).length:Int)) (λhx5 hx5d=>?_) (λhx5 hx5d=>?_))
  ·
   exact Ae 8 (Hs (.bool (decide (((l).length:Int)<=256))) (congrArg AV.bool (if hz:l.length<=256 then (decide_eq_true ω).trans (Dz ⟨λq hq=>hFi q ω,ω,ω⟩).symm else (decide_eq_false ω).trans (Bq (λg=>hz g.2.2)).symm)))
  ·
   exact Ae 8 (Hs (.bool false) (congrArg AV.bool (Bq (by rintro⟨g1,g2,g3⟩;first|omega)).symm))
theorem iO (l:List Int) (v:Value) (w:World) (h:Cc w 0 w.heap.size 1 v l.length (Dg l)) (hl:0<l.length) (hm:l.length<=1000000):
  Calls Tryz.prog 142 #[v] w λe w'=>∃v',e= .returned v'/\Cc w' w.heap.size w'.heap.size 1 v' l.length (Dg l)/\Below w.heap.size w w':=by
 obtain⟨i0,hi0,hz0,hz1,hz2⟩:=info_parts bC
 obtain⟨b,o,c,rfl,_,hb,hc⟩:=h.pos hl
 have hnil:=λW=>Lib.run_eql_slice_nil (P:=Tryz.prog) W 23 3 (some ⟨b,o,none⟩) l.length c 0 0 underlying23
 clear hc
 go_enter func142,ntmps142
 have hown:=Wd w [] 0 w.heap.size 1 3 rfl rfl δ
 have hs1:=h.up ((Below.refl w.heap.size w).alloc (Nat.le_refl _) (.cells #[] 3))
 go_wp2_with (at_builtin;refine Ew rfl (.tmp 5) (.tmp 6) 23 rfl w.heap.size 3 i0 _ 1 8 underlying23 hi0 hz0 hz1 hz2 rfl δ _ _ _ rfl hown _ _ _ _ rfl hs1 (bD l) ?_ ?_ ?_ ?_)
 · unfold maxLen;omega
 · omega
 · simp
 intro v' w1 hown1 hg1 hat1
 go_wp2
 go_ret
 refine⟨_,rfl,Cc.own hown1,((Below.refl _ _).alloc (Nat.le_refl _) _).grown hg1 (by simp) ?_⟩
 rintro j hj
 simp[Value.ownBlock] at hj
 omega
theorem Ej (l:List Int) (hl:0<l.length) (hm:l.length<=1000000):AF Tryz.prog 142 [Br l] (Br l):=tB λE us hD hn hv=>by
 rw[jR hn]
 have h0:=hv 0 (by simp)
 have h1:Cz E.w E.D 1 (us.getD 0 undef) l.length (Dg l):=AdO (E:=E.fz) h0
 refine(iO l _ E.w (h1.more λb hb=>⟨Nat.zero_le _,hD b hb⟩) hl hm).mono ?_
 rintro e w' ⟨v',rfl,hs,hb⟩
 exact⟨_,rfl,hb,λE' h1 h2 h3=>Zc hs h1 λb hb=>h3 b hb.1 hb.2⟩
def tF (l:List Sg):Prop:=∀i,i<l.length->(0<(l.getD i Sg.none).x.length/\(l.getD i Sg.none).x.length<=6)/\(0<(l.getD i Sg.none).y.length/\(l.getD i Sg.none).y.length<=6)/\(0<(l.getD i Sg.none).z.length/\(l.getD i Sg.none).z.length<=6)
theorem Ac9 (l:List Sg) (hn:l.length<=1000000) (hl:0<l.length) (hc:tF l):AF Tryz.prog 117 [Ai l] (Ai l):=by
 refine Cr func117 rfl λB D0 hA0=>?_
 refine Ae 19 (dN [3,6,7,8] (λm s=>∃i,i<=l.length/\m=l.length-i/\True/\((i=0/\s=⟨[(3,.lit (.slice none 0 0)),(6,Ai l),(7,.int ((l).length:Int)),(8,.int ((0:Nat):Int))],[],0,30⟩)\/(0<i/\s=⟨[(3,.osl 9 6 i),(6,Ai l),(7,.int ((l).length:Int)),(8,.int (i:Int))],[(9,.vec 81 6 i (λxi=>Cv (l.getD xi Sg.none)))],10,30⟩))) l.length ⟨0,Nat.zero_le _,rfl,trivial,.inl ⟨rfl,κ⟩⟩ ?_)
 rintro _ _ ⟨i,hin,rfl,hFi,(⟨hi0,rfl⟩|⟨hi0,rfl⟩)⟩ J1 hJ1
 ·
  subst hi0
  refine Ae 6 (Gi 9 (((0:Nat):Int)<((l).length:Int)) (λhx1 hx1d=>?_) (λhx1 hx1d=>?_))
  ·
   exact Ae 7 (Fl 0 ((l).length) (Ae 6 (Jb [(2,_,.none),(5,_,.none),(8,_,.none)] [3,5,6,7,8] ⟨El (Ej _ (hc 0 ω).1.1 (by have:=(hc 0 ω).1.2;omega)),El (Ej _ (hc 0 ω).2.1.1 (by have:=(hc 0 ω).2.1.2;omega)),El (Ej _ (hc 0 ω).2.2.1 (by have:=(hc 0 ω).2.2.2;omega)),trivial⟩ (Ae 4 (Bk (.osl 1 6 1) (.new 1 (.vec 81 6 1 (λ_=>Cv ((l).getD 0 Sg.none)))) (Aj 54 1 #[(0,(.tmp 25))] κ underlying54 6 sizeOf81 _ zeroValue81 κ β β β 1 [.int (((l).getD 0 Sg.none).f),.int (((l).getD 0 Sg.none).t),.int (((l).getD 0 Sg.none).o),Br (((l).getD 0 Sg.none).x),Br (((l).getD 0 Sg.none).y),Br (((l).getD 0 Sg.none).z)] κ (λ_=>Cv ((l).getD 0 Sg.none)) κ) (Bk (.osl 2 6 1) (.newr 1 2 (.vec 81 6 1 (λxi=>Cv (l.getD xi Sg.none)))) (Ci (.tmp 24) (.tmp 26) 54 κ underlying54 6 96 (.agg #[.int .i64 0,.int .i64 0,.int .i64 0,.slice none 0 0,.slice none 0 0,.slice none 0 0]) κ κ δ 1 ω (λ_=>Cv ((l).getD 0 Sg.none)) (λxi=>Cv (l.getD xi Sg.none)) 2 (λi hi=>by(obtain rfl:i=0:=(ω));rfl) (λi hi j hj=>match j,hj with|0,_=>rfl|1,_=>rfl|2,_=>rfl|3,_=>rfl|4,_=>rfl|5,_=>rfl|_+6,h=>absurd h ω) (by unfold maxLen;omega) ω κ 1 81 κ κ) (Ae 5 (Ep (((0:Nat):Int)+1) ((0+1:Nat):Int) (Ae 2 (Ha [3,6,7,8] [(2,9)] 10 0 hA0 [(81,6,1,(λ_=>Cv ((l).getD 0 Sg.none))),(81,6,1,(λxi=>Cv (l.getD xi Sg.none)))] ⟨(Gl λ_ _=>rfl),(Gl λ_ _=>rfl),trivial⟩ (hJ1 _ _ (by omega:l.length-(0+1)<l.length-0) ⟨0+1,ω,rfl,trivial,.inr ⟨Nat.succ_pos _,rfl⟩⟩)))))))))))
  ·
   exact Ae 13 (Hs (.lit (.slice none 0 0)) (by exfalso;omega))
 ·
  refine Ae 6 (Gi 9 ((i:Int)<((l).length:Int)) (λhx2 hx2d=>?_) (λhx2 hx2d=>?_))
  ·
   exact Ae 7 (Fl i ((l).length) (Ae 6 (Jb [(2,_,.none),(5,_,.none),(8,_,.none)] [3,5,6,7,8] ⟨El (Ej _ (hc i ω).1.1 (by have:=(hc i ω).1.2;omega)),El (Ej _ (hc i ω).2.1.1 (by have:=(hc i ω).2.1.2;omega)),El (Ej _ (hc i ω).2.2.1 (by have:=(hc i ω).2.2.2;omega)),trivial⟩ (Ae 4 (Bk (.osl 11 6 1) (.new 11 (.vec 81 6 1 (λ_=>Cv ((l).getD i Sg.none)))) (Aj 54 1 #[(0,(.tmp 25))] κ underlying54 6 sizeOf81 _ zeroValue81 κ β β β 11 [.int (((l).getD i Sg.none).f),.int (((l).getD i Sg.none).t),.int (((l).getD i Sg.none).o),Br (((l).getD i Sg.none).x),Br (((l).getD i Sg.none).y),Br (((l).getD i Sg.none).z)] κ (λ_=>Cv ((l).getD i Sg.none)) κ) (Bk (.osl 12 6 (i+1)) (.grow2 9 11 12 (.vec 81 6 (i+1) (λxi=>Cv (l.getD xi Sg.none)))) (Ce (.tmp 24) (.tmp 26) 54 κ underlying54 6 96 (.agg #[.int .i64 0,.int .i64 0,.int .i64 0,.slice none 0 0,.slice none 0 0,.slice none 0 0]) κ κ δ i 1 ω (λxi=>Cv (l.getD xi Sg.none)) (λ_=>Cv ((l).getD i Sg.none)) (λxi=>Cv (l.getD xi Sg.none)) 12 ω (by unfold maxLen;omega) (λi hi=>rfl) (λi hi=>by(obtain rfl:i=0:=(ω));rfl) (λi hi j hj=>match j,hj with|0,_=>rfl|1,_=>rfl|2,_=>rfl|3,_=>rfl|4,_=>rfl|5,_=>rfl|_+6,h=>absurd h ω) 9 κ κ 11 81 κ κ) (Ae 5 (Ep ((i:Int)+1) ((i+1:Nat):Int) (Ae 2 (Ha [3,6,7,8] [(12,9)] 10 0 hA0 [(81,6,1,(λ_=>Cv ((l).getD i Sg.none))),(81,6,i+1,(λxi=>Cv (l.getD xi Sg.none)))] ⟨(Gl λ_ _=>rfl),(Gl λ_ _=>rfl),trivial⟩ (hJ1 _ _ (by omega:l.length-(i+1)<l.length-i) ⟨i+1,ω,rfl,trivial,.inr ⟨Nat.succ_pos _,rfl⟩⟩)))))))))))
  ·
   exact Ae 12 (Yw 9 [2] 81 6 i (λxi=>Cv (l.getD xi Sg.none)) (Gl λ_ _=>rfl) (Ae 1 (Hs (.sl 6 i (λxi=>Cv (l.getD xi Sg.none))) (congrArg (λq=>AV.sl 6 q λxi=>Cv (l.getD xi Sg.none)) (show i=l.length by omega)))))
theorem Wg {l:List Sg} (h:Eh l):tF l:=λi hi=>by
 have h1:=(h.1 i hi).1
 exact⟨⟨h1.2.1.1,h1.2.1.2.1⟩,⟨h1.2.2.1.1,h1.2.2.1.2.1⟩,⟨h1.2.2.2.1.1,h1.2.2.2.1.2.1⟩⟩
theorem Lh {l r:List Sg} (i:Nat):(l++r).getD i Sg.none=if i<l.length then l.getD i Sg.none else r.getD (i-l.length) Sg.none:=by
 simp only[List.getD_eq_getElem?_getD,List.getElem?_append]
 split<;>rfl
noncomputable def Oh (a b:List Sg):List Sg×Int:=
 if bP (Eh a)=false\/bP (Eh b)=false then ([],2) else if bP (Oq (a.getD (a.length-1) Sg.none) (b.getD 0 Sg.none))=false then ([],10) else if 256<a.length+b.length then ([],7) else (a++b,0)
theorem tM {a b:List Sg} (h:bP (Eh a)=false\/bP (Eh b)=false):Oh a b=([],2):=by unfold Oh;rw[if_pos h]
theorem wV {a b:List Sg} (h1:bP (Eh a)=true) (h2:bP (Eh b)=true) (h:bP (Oq (a.getD (a.length-1) Sg.none) (b.getD 0 Sg.none))=false):Oh a b=([],10):=by unfold Oh;rw[if_neg (by simp[h1,h2]),if_pos h]
theorem AaC {a b:List Sg} (h1:bP (Eh a)=true) (h2:bP (Eh b)=true) (h:bP (Oq (a.getD (a.length-1) Sg.none) (b.getD 0 Sg.none))=true) (h3:256<a.length+b.length):Oh a b=([],7):=by unfold Oh;rw[if_neg (by simp[h1,h2]),if_neg (λg=>by rw[h] at g;cases g),if_pos h3]
theorem AaD {a b:List Sg} (h1:bP (Eh a)=true) (h2:bP (Eh b)=true) (h:bP (Oq (a.getD (a.length-1) Sg.none) (b.getD 0 Sg.none))=true) (h3:¬256<a.length+b.length):Oh a b=(a++b,0):=by unfold Oh;rw[if_neg (by simp[h1,h2]),if_neg (λg=>by rw[h] at g;cases g),if_neg h3]
def kI (r:List Sg×Int):AV:=if r.2=0 then .tup [Ai r.1,.int 0] else .lit (.tuple #[.slice none 0 0,.int .i64 r.2])
theorem Pa {r:List Sg×Int} {e:Int} {l:List Sg} (h:r=(l,e)) (he:e≠0):kI r= .lit (.tuple #[.slice none 0 0,.int .i64 e]):=by
 subst h;unfold kI;rw[if_neg he]
theorem vE {r:List Sg×Int} {l:List Sg} (h:r=(l,0)):kI r= .tup [Ai l,.int 0]:=by
 subst h;unfold kI;rw[if_pos rfl]
theorem vZ (a b:List Sg) (ha:Da a) (hb:Da b):AF Tryz.prog 88 [Ai a,Ai b] (kI (Oh a b)):=by
 have han:=ha.1
 have hbn:=hb.1
 refine Cr func88 rfl λB D0 hA0=>?_
 refine Ae 11 (Cf (Po a ha) (Ae 2 (pN 10 (bP (Eh a)) (λhx1=>?_) (λhx1=>?_))))
 ·
  have hx1l:=(Ib hx1).2
  have hac:=Wg (Ib hx1)
  refine Ae 1 (Cf (Po b hb) (Ae 5 (pN 6 (bP (Eh b)) (λhx2=>?_) (λhx2=>?_))))
  ·
   have hx2l:=(Ib hx2).2
   refine Ae 2 (Jb [(3,.int (((a).length-1:Nat):Int),.none),(4,Hr (Ai a) ((a).length-1),.none),(7,Hr (Ai b) 0,.none),(9,_,.none)] [0,1,15] ⟨Au (Bx (v:= .int .i64 (IntKind.wrap .i64 (((a).length:Int)-1))) (v':= .int .i64 (((a).length-1:Nat):Int)) _ κ rfl κ (λw=>by kernel_rfl) (congrArg (Value.int .i64) ((IntWalk.i64_in _ ω).trans ω))),Tg ((a).length-1) ((a).length),Tg 0 ((b).length),El (lI (a.getD (a.length-1) Sg.none) (b.getD 0 Sg.none) (ha.2 _) (hb.2 _) ((Ib hx1).1 _ ω).1 ((Ib hx2).1 0 ω).1),trivial⟩ (Ae 1 (pN 15 (bP (Oq (a.getD (a.length-1) Sg.none) (b.getD 0 Sg.none))) (λhx3=>?_) (λhx3=>?_))))
   ·
    refine Ae 7 (Ep (((a).length:Int)+((b).length:Int)) (((a).length+(b).length:Nat):Int) (Ae 4 (Gi 27 ((256:Int)<(((a).length+(b).length:Nat):Int)) (λhx4 hx4d=>?_) (λhx4 hx4d=>?_))))
    ·
     exact Ae 10 (Hs (.lit (.tuple #[.slice none 0 0,.int .i64 7])) (Pa (AaC hx1 hx2 hx3 ω) δ).symm)
    ·
     refine Ae 7 (Yx 0 func117 (λ_ hD5=>?_))
     refine Ae 19 (dN [3,6,7,8] (λm s=>∃i,i<=a.length/\m=a.length-i/\True/\((i=0/\s=⟨[(3,.lit (.slice none 0 0)),(6,Ai a),(7,.int ((a).length:Int)),(8,.int ((0:Nat):Int))],[],0,30⟩)\/(0<i/\s=⟨[(3,.osl 9 6 i),(6,Ai a),(7,.int ((a).length:Int)),(8,.int (i:Int))],[(9,.vec 81 6 i (λxi=>Cv (a.getD xi Sg.none)))],10,30⟩))) a.length ⟨0,Nat.zero_le _,rfl,trivial,.inl ⟨rfl,κ⟩⟩ ?_)
     rintro _ _ ⟨i,hin,rfl,hFi,(⟨hi0,rfl⟩|⟨hi0,rfl⟩)⟩ J1 hJ1
     ·
      subst hi0
      refine Ae 6 (Gi 9 (((0:Nat):Int)<((a).length:Int)) (λhx6 hx6d=>?_) (λhx6 hx6d=>?_))
      ·
       exact Ae 7 (Fl 0 ((a).length) (Ae 6 (Jb [(2,_,.none),(5,_,.none),(8,_,.none)] [3,5,6,7,8] ⟨El (Ej _ (hac 0 ω).1.1 (by have:=(hac 0 ω).1.2;omega)),El (Ej _ (hac 0 ω).2.1.1 (by have:=(hac 0 ω).2.1.2;omega)),El (Ej _ (hac 0 ω).2.2.1 (by have:=(hac 0 ω).2.2.2;omega)),trivial⟩ (Ae 4 (Bk (.osl 1 6 1) (.new 1 (.vec 81 6 1 (λ_=>Cv ((a).getD 0 Sg.none)))) (Aj 54 1 #[(0,(.tmp 25))] κ underlying54 6 sizeOf81 _ zeroValue81 κ β β β 1 [.int (((a).getD 0 Sg.none).f),.int (((a).getD 0 Sg.none).t),.int (((a).getD 0 Sg.none).o),Br (((a).getD 0 Sg.none).x),Br (((a).getD 0 Sg.none).y),Br (((a).getD 0 Sg.none).z)] κ (λ_=>Cv ((a).getD 0 Sg.none)) κ) (Bk (.osl 2 6 1) (.newr 1 2 (.vec 81 6 1 (λxi=>Cv (a.getD xi Sg.none)))) (Ci (.tmp 24) (.tmp 26) 54 κ underlying54 6 96 (.agg #[.int .i64 0,.int .i64 0,.int .i64 0,.slice none 0 0,.slice none 0 0,.slice none 0 0]) κ κ δ 1 ω (λ_=>Cv ((a).getD 0 Sg.none)) (λxi=>Cv (a.getD xi Sg.none)) 2 (λi hi=>by(obtain rfl:i=0:=(ω));rfl) (λi hi j hj=>match j,hj with|0,_=>rfl|1,_=>rfl|2,_=>rfl|3,_=>rfl|4,_=>rfl|5,_=>rfl|_+6,h=>absurd h ω) (by unfold maxLen;omega) ω κ 1 81 κ κ) (Ae 5 (Ep (((0:Nat):Int)+1) ((0+1:Nat):Int) (Ae 2 (Ha [3,6,7,8] [(2,9)] 10 0 hD5 [(81,6,1,(λ_=>Cv ((a).getD 0 Sg.none))),(81,6,1,(λxi=>Cv (a.getD xi Sg.none)))] ⟨(Gl λ_ _=>rfl),(Gl λ_ _=>rfl),trivial⟩ (hJ1 _ _ (by omega:a.length-(0+1)<a.length-0) ⟨0+1,ω,rfl,trivial,.inr ⟨Nat.succ_pos _,rfl⟩⟩)))))))))))
      ·
       refine Ae 6 ?_
       exfalso;omega
     ·
      refine Ae 6 (Gi 9 ((i:Int)<((a).length:Int)) (λhx7 hx7d=>?_) (λhx7 hx7d=>?_))
      ·
       exact Ae 7 (Fl i ((a).length) (Ae 6 (Jb [(2,_,.none),(5,_,.none),(8,_,.none)] [3,5,6,7,8] ⟨El (Ej _ (hac i ω).1.1 (by have:=(hac i ω).1.2;omega)),El (Ej _ (hac i ω).2.1.1 (by have:=(hac i ω).2.1.2;omega)),El (Ej _ (hac i ω).2.2.1 (by have:=(hac i ω).2.2.2;omega)),trivial⟩ (Ae 4 (Bk (.osl 11 6 1) (.new 11 (.vec 81 6 1 (λ_=>Cv ((a).getD i Sg.none)))) (Aj 54 1 #[(0,(.tmp 25))] κ underlying54 6 sizeOf81 _ zeroValue81 κ β β β 11 [.int (((a).getD i Sg.none).f),.int (((a).getD i Sg.none).t),.int (((a).getD i Sg.none).o),Br (((a).getD i Sg.none).x),Br (((a).getD i Sg.none).y),Br (((a).getD i Sg.none).z)] κ (λ_=>Cv ((a).getD i Sg.none)) κ) (Bk (.osl 12 6 (i+1)) (.grow2 9 11 12 (.vec 81 6 (i+1) (λxi=>Cv (a.getD xi Sg.none)))) (Ce (.tmp 24) (.tmp 26) 54 κ underlying54 6 96 (.agg #[.int .i64 0,.int .i64 0,.int .i64 0,.slice none 0 0,.slice none 0 0,.slice none 0 0]) κ κ δ i 1 ω (λxi=>Cv (a.getD xi Sg.none)) (λ_=>Cv ((a).getD i Sg.none)) (λxi=>Cv (a.getD xi Sg.none)) 12 ω (by unfold maxLen;omega) (λi hi=>rfl) (λi hi=>by(obtain rfl:i=0:=(ω));rfl) (λi hi j hj=>match j,hj with|0,_=>rfl|1,_=>rfl|2,_=>rfl|3,_=>rfl|4,_=>rfl|5,_=>rfl|_+6,h=>absurd h ω) 9 κ κ 11 81 κ κ) (Ae 5 (Ep ((i:Int)+1) ((i+1:Nat):Int) (Ae 2 (Ha [3,6,7,8] [(12,9)] 10 0 hD5 [(81,6,1,(λ_=>Cv ((a).getD i Sg.none))),(81,6,i+1,(λxi=>Cv (a.getD xi Sg.none)))] ⟨(Gl λ_ _=>rfl),(Gl λ_ _=>rfl),trivial⟩ (hJ1 _ _ (by omega:a.length-(i+1)<a.length-i) ⟨i+1,ω,rfl,trivial,.inr ⟨Nat.succ_pos _,rfl⟩⟩)))))))))))
      ·
       refine Ae 6 ?_
       have hie:i=a.length:=by omega
       subst hie
       exact Ae 7 (sS (Ae 1 (Cf (Ac9 b hbn ω (Wg (Ib hx2))) (Bk (.osl 10 6 (a.length+(b).length)) (.grow 9 10 (.vec 81 6 (a.length+(b).length) (λxi=>Cv ((a++b).getD xi Sg.none)))) (dR (.tmp 35) (.tmp 37) 54 κ underlying54 6 96 (.agg #[.int .i64 0,.int .i64 0,.int .i64 0,.slice none 0 0,.slice none 0 0,.slice none 0 0]) κ κ δ a.length ((b).length) ω (λxi=>Cv (a.getD xi Sg.none)) (λi0=>Cv ((b).getD i0 Sg.none)) (λxi=>Cv ((a++b).getD xi Sg.none)) 10 ω (by unfold maxLen;omega) (λi hi=>by show Cv _=Cv _;rw[Lh,if_pos hi]) (λi hi=>by show Cv _=Cv _;rw[Lh,if_neg ω,Nat.add_sub_cancel_left]) (λi hi j hj=>match j,hj with|0,_=>rfl|1,_=>rfl|2,_=>rfl|3,_=>rfl|4,_=>rfl|5,_=>rfl|_+6,h=>absurd h ω) 9 κ κ κ) (Ae 4 (Yw 10 [4] 81 6 (a.length+(b).length) (λxi=>Cv ((a++b).getD xi Sg.none)) (Gl λ_ _=>rfl) (Ae 1 (Hs (.tup [.sl 6 (a.length+(b).length) (λxi=>Cv ((a++b).getD xi Sg.none)),.int 0]) ((vE (AaD hx1 hx2 hx3 ω)).trans (congrArg (λq=>AV.tup [AV.sl 6 q λxi=>Cv ((a++b).getD xi Sg.none),.int 0]) List.length_append)).symm))))))))
   ·
    exact Ae 10 (Hs (.lit (.tuple #[.slice none 0 0,.int .i64 10])) (Pa (wV hx1 hx2 hx3) δ).symm)
  ·
   exact Ae 10 (Hs (.lit (.tuple #[.slice none 0 0,.int .i64 2])) (Pa (tM (.inr hx2)) δ).symm)
 ·
  exact Ae 17 (Hs (.lit (.tuple #[.slice none 0 0,.int .i64 2])) (Pa (tM (.inl hx1)) δ).symm)
abbrev Aek (t:Int):AV:= .elt 1 λxi=>[AV.int t].getD (0+xi) .top
abbrev Aej (l:List Sg):AV:= .elt 1 λxi=>[Ai l].getD (0+xi) .top
theorem wA (l:List Sg) (t:Int) (k:Nat) (hk:k<l.length) (_:l.length<=1000000):AF Tryz.prog 66 [.int (k:Int),Aek t,Aej l] (.bool (decide (t<=(l.getD k Sg.none).t))):=by
 refine Cr func66 rfl λB D0 hA0=>?_
 exact Ae 6 (Jb [(3,Hr (Ai l) k,.none)] [4] ⟨Tg k ((l).length),trivial⟩ (Ae 2 (Gd)))
theorem wH (l:List Sg) (t:Int) (hn:l.length<=1000000) (i0:Nat) (hi0:i0<=l.length) (h1:∀j,j<i0->(l.getD j Sg.none).t<t) (h2:∀j,i0<=j->j<l.length->t<=(l.getD j Sg.none).t):AF Tryz.prog 65 [.int (l.length:Int),.fn 66 [Aek t,Aej l]] (.int ((i0:Nat):Int)):=by
 refine Cr func65 rfl λB D0 hA0=>?_
 refine Ae 14 (dN [1,5,6] (λm s=>∃i j,m=j-i/\(i<=i0/\i0<=j/\j<=l.length)/\s=⟨[(1,.fn 66 [.elt 1 (λxi=>[.int t].getD (0+xi) .top),.elt 1 (λxi=>[Ai l].getD (0+xi) .top)]),(5,.int (i:Int)),(6,.int (j:Int))],[],0,26⟩) (l.length-0) ⟨0,l.length,rfl,⟨Nat.zero_le _,hi0,Nat.le_refl _⟩,κ⟩ ?_)
 rintro _ _ ⟨i,j,rfl,hF,rfl⟩ J1 hJ1
 refine Ae 8 (Gi 11 ((i:Int)<(j:Int)) (λhx1 hx1d=>?_) (λhx1 hx1d=>?_))
 ·
  refine Ae 8 (Ep ((i:Int)+(j:Int)) ((i+j:Nat):Int) (Ip (.int .u64 (IntKind.wrap .u64 ((i+j:Nat):Int))) (.int .u64 ((i+j:Nat):Int)) ?_ (congrArg (Value.int .u64) (IntWalk.u64_in _ ω))))
  refine Ip (.int .u64 (Int.fdiv ((i+j:Nat):Int) (2^1))) (.int .u64 (((i+j)/2:Nat):Int)) ?_ (congrArg (Value.int .u64) (by rw[Int.fdiv_eq_ediv_of_nonneg _ δ];omega))
  refine Ip (.int .i64 (IntKind.wrap .i64 (((i+j)/2:Nat):Int))) (.int .i64 (((i+j)/2:Nat):Int)) ?_ (congrArg (Value.int .i64) (IntWalk.i64_in _ ω))
  refine Ae 7 (Age (wA l t ((i+j)/2) ω hn) (Ae 3 (Aeb 21 (t<=(l.getD ((i+j)/2) Sg.none).t) (λhx2 hx2d=>?_) (λhx2 hx2d=>?_))))
  ·
   have hq:i0<=(i+j)/2:=Nat.le_of_not_lt λhz=>by have g:=h1 _ hz;omega
   exact Ae 6 (Om [1,5,6] (hJ1 _ _ (by omega:((i+j)/2)-i<j-i) ⟨i,(i+j)/2,rfl,⟨ω,ω,ω⟩,rfl⟩))
  ·
   have hq:(i+j)/2<i0:=Nat.lt_of_not_le λhz=>by have g:=h2 _ hz ω;omega
   exact Ae 3 (Ep ((((i+j)/2:Nat):Int)+1) (((i+j)/2+1:Nat):Int) (Ae 3 (Om [1,5,6] (hJ1 _ _ (by omega:j-((i+j)/2+1)<j-i) ⟨(i+j)/2+1,j,rfl,⟨ω,ω,ω⟩,rfl⟩))))
 ·
  exact Ae 13 (Hs (.int (i:Int)) (congrArg (λq:Nat=>AV.int (q:Int)) (show i=i0 by omega)))
theorem Zb (l:List Sg) (hl:Da l) (ho:Eh l):AF Tryz.prog 29 [Ai l] (.lit (.tuple #[.int .i64 ((l.getD 0 Sg.none).f),.int .i64 ((l.getD (l.length-1) Sg.none).t),.int .i64 0])):=by
 have hln:=hl.1
 have hlo:=ho.2
 refine Cr func29 rfl λB D0 hA0=>?_
 exact Ae 11 (Cf (Po l hl) (Ae 3 (Gv 7 (!bP (Eh l)) false (by rw[(Dz ho)];rfl) (Ae 4 (Jb [(1,Hr (Ai l) 0,.none),(7,.int (((l).length-1:Nat):Int),.none),(8,Hr (Ai l) ((l).length-1),.none)] [2,3,4] ⟨Tg 0 ((l).length),Au (Bx (v:= .int .i64 (IntKind.wrap .i64 (((l).length:Int)-1))) (v':= .int .i64 (((l).length-1:Nat):Int)) _ κ rfl κ (λw=>by kernel_rfl) (congrArg (Value.int .i64) ((IntWalk.i64_in _ ω).trans ω))),Tg ((l).length-1) ((l).length),trivial⟩ (Ae 2 (Gd)))))))
abbrev Fc (l:List Sg) (t:Int) (i0:Nat):PL:=(Em (l.getD i0 Sg.none) (t-(l.getD i0 Sg.none).f) ((l.getD i0 Sg.none).t-(l.getD i0 Sg.none).f))
theorem lF (l:List Sg) (hl:Da l) (ho:Eh l) (t:Int) (ht:(l.getD 0 Sg.none).f<=t/\t<=(l.getD (l.length-1) Sg.none).t) (i0:Nat) (hi0:i0<l.length) (h1:∀j,j<i0->(l.getD j Sg.none).t<t) (h2:∀j,i0<=j->j<l.length->t<=(l.getD j Sg.none).t) (h3:(l.getD i0 Sg.none).f<=t):AF Tryz.prog 30 [Ai l,.int t] (.lit (.tuple #[.agg #[.bool (decide ((Fc l t i0).x<0)),.string (Dx ((Fc l t i0).x).natAbs),.bool (decide ((Fc l t i0).y<0)),.string (Dx ((Fc l t i0).y).natAbs),.bool (decide ((Fc l t i0).z<0)),.string (Dx ((Fc l t i0).z).natAbs),.bool (decide ((Fc l t i0).o<0)),.string (Dx ((Fc l t i0).o).natAbs)],.int .i64 0])):=by
 have hln:=hl.1
 have hs:=(ho.1 i0 hi0).1
 have hh:=hs.1
 unfold Jd at hh
 have h4:=h2 i0 (Nat.le_refl _) hi0
 refine Cr func30 rfl λB D0 hA0=>?_
 exact Ae 11 (Cf (Zb l hl ho) (Ae 24 (Gv 24 (decide (t<(l.getD 0 Sg.none).f)) false (decide_eq_false ω) (Ae 4 (Gv 28 (decide ((l.getD (l.length-1) Sg.none).t<t)) false (decide_eq_false ω) (Ae 8 (Yv 0 (Yv 1 (Ae 1 (Jb [(4,_,.none),(5,Hr (Ai l) i0,.none)] [3,4,9] ⟨El (wH l t hln i0 ω h1 h2),Tg i0 ((l).length),trivial⟩ (Ae 7 (Ep (t-((l).getD i0 Sg.none).f) (t-((l).getD i0 Sg.none).f) (Ae 4 (Ep (((l).getD i0 Sg.none).t-((l).getD i0 Sg.none).f) (((l).getD i0 Sg.none).t-((l).getD i0 Sg.none).f) (Cf (Tv (l.getD i0 Sg.none) (t-((l).getD i0 Sg.none).f) (((l).getD i0 Sg.none).t-((l).getD i0 Sg.none).f) (hl.2 i0) hs ⟨ω,ω⟩ ⟨ω,ω⟩ ω) (Ae 5 (Gd)))))))))))))))))
theorem AbM {s:Sg} {a d:Int} (hs:Td s) (ho:Hc s) (ha:Cm a) (hd:Cm d):Bd 390 (Em s a d).x/\Bd 390 (Em s a d).y/\Bd 390 (Em s a d).z/\Bd 390 (Em s a d).o:=
 ⟨((Ul hs.x ha hd _ ho.2.1.2.1).mono (by have:=ho.2.1.2.1;omega)).div _,((Ul hs.y ha hd _ ho.2.2.1.2.1).mono (by have:=ho.2.2.1.2.1;omega)).div _,((Ul hs.z ha hd _ ho.2.2.2.1.2.1).mono (by have:=ho.2.2.2.1.2.1;omega)).div _,((Uk hs hd).mono ω).div _⟩
abbrev rdL (p:PL):V3:=⟨(p.x+p.x+p.o)/(p.o+p.o),(p.y+p.y+p.o)/(p.o+p.o),(p.z+p.z+p.o)/(p.o+p.o)⟩
theorem iB (z:Int) (h:Cm z):AF Tryz.prog 68 [WA z] (.lit (.tuple #[.int .i64 z,.int .i64 0])):=Jc (vs:=[_]) λw=>pR z w h.1 h.2
theorem Afs (l:List Sg) (hl:Da l) (ho:Eh l) (t:Int) (ht:(l.getD 0 Sg.none).f<=t/\t<=(l.getD (l.length-1) Sg.none).t) (i0:Nat) (hi0:i0<l.length) (h1:∀j,j<i0->(l.getD j Sg.none).t<t) (h2:∀j,i0<=j->j<l.length->t<=(l.getD j Sg.none).t) (h3:(l.getD i0 Sg.none).f<=t)
  (hO:(Fc l t i0).o+(Fc l t i0).o≠0) (hx:Cm (rdL (Fc l t i0)).x) (hy:Cm (rdL (Fc l t i0)).y) (hz:Cm (rdL (Fc l t i0)).z):AF Tryz.prog 31 [Ai l,.int t] (.lit (.tuple #[.agg #[.int .i64 (rdL (Fc l t i0)).x,.int .i64 (rdL (Fc l t i0)).y,.int .i64 (rdL (Fc l t i0)).z],.int .i64 0])):=by
 have hs:=(ho.1 i0 hi0).1
 have hh:=hs.1
 unfold Jd at hh
 have h4:=h2 i0 (Nat.le_refl _) hi0
 obtain⟨bx,by_,bz,bo⟩:=AbM (s:=l.getD i0 Sg.none) (a:=t-(l.getD i0 Sg.none).f) (d:=(l.getD i0 Sg.none).t-(l.getD i0 Sg.none).f) (hl.2 i0) hs ⟨ω,ω⟩ ⟨ω,ω⟩
 refine Cr func31 rfl λB D0 hA0=>?_
 exact Ae 10 (Cf (lF l hl ho t ht i0 hi0 h1 h2 h3) (Ae 37 (pO 3 (Ae 14 (Ip (Ak ((Fc l t i0).x)) (Ak ((Fc l t i0).x)) (Ae 5 (Jb [(3,_,.none),(6,_,.none),(11,_,.none),(12,_,.none),(13,_,.none),(17,.ptr 2 0,.none)] [4,6,8,27,28] ⟨El (Jn _ _ (bx.fit ω) (bx.fit ω) ((bx.add bx).fit ω)),El (Jn _ _ ((bx.add bx).fit ω) (bo.fit ω) (((bx.add bx).add (bo.mono ω)).fit ω)),El (Jn _ _ (bo.fit ω) (bo.fit ω) ((bo.add bo).fit ω)),El (Hz _ _ (((bx.add bx).add (bo.mono ω)).fit ω) ((bo.add bo).fit ω) hO),El (iB _ hx),Au (Bj 121 (.tmp 8) (.tmp 33) κ underlying121 2 0 1 0 0 κ κ sizeOf3 δ ω δ),trivial⟩ (Ae 3 (Ip (.int .i64 1) (.int .i64 1) (Ae 17 (Ip (Ak ((Fc l t i0).y)) (Ak ((Fc l t i0).y)) (Ae 5 (Jb [(3,_,.none),(6,_,.none),(11,_,.none),(12,_,.none),(13,_,.none),(17,.ptr 2 1,.none)] [4,6,8,27,28] ⟨El (Jn _ _ (by_.fit ω) (by_.fit ω) ((by_.add by_).fit ω)),El (Jn _ _ ((by_.add by_).fit ω) (bo.fit ω) (((by_.add by_).add (bo.mono ω)).fit ω)),El (Jn _ _ (bo.fit ω) (bo.fit ω) ((bo.add bo).fit ω)),El (Hz _ _ (((by_.add by_).add (bo.mono ω)).fit ω) ((bo.add bo).fit ω) hO),El (iB _ hy),Au (Bj 121 (.tmp 8) (.tmp 33) κ underlying121 2 0 1 1 1 κ κ sizeOf3 δ ω δ),trivial⟩ (Ae 3 (Ip (.int .i64 2) (.int .i64 2) (Ae 17 (Ip (Ak ((Fc l t i0).z)) (Ak ((Fc l t i0).z)) (Ae 5 (Jb [(3,_,.none),(6,_,.none),(11,_,.none),(12,_,.none),(13,_,.none),(17,.ptr 2 2,.none)] [4,6,8,27,28] ⟨El (Jn _ _ (bz.fit ω) (bz.fit ω) ((bz.add bz).fit ω)),El (Jn _ _ ((bz.add bz).fit ω) (bo.fit ω) (((bz.add bz).add (bo.mono ω)).fit ω)),El (Jn _ _ (bo.fit ω) (bo.fit ω) ((bo.add bo).fit ω)),El (Hz _ _ (((bz.add bz).add (bo.mono ω)).fit ω) ((bo.add bo).fit ω) hO),El (iB _ hz),Au (Bj 121 (.tmp 8) (.tmp 33) κ underlying121 2 0 1 2 2 κ κ sizeOf3 δ ω δ),trivial⟩ (Ae 3 (Ip (.int .i64 3) (.int .i64 3) (Ae 17 (Bk (.ptr 2 0) .none (Bj 121 (.tmp 8) (.const (.int .i64 0)) κ underlying121 2 0 1 0 0 κ κ sizeOf3 δ ω δ) (Ae 1 (Bk (.ptr 2 1) .none (Bj 121 (.tmp 8) (.const (.int .i64 1)) κ underlying121 2 0 1 1 1 κ κ sizeOf3 δ ω δ) (Ae 1 (Bk (.ptr 2 2) .none (Bj 121 (.tmp 8) (.const (.int .i64 2)) κ underlying121 2 0 1 2 2 κ κ sizeOf3 δ ω δ) (Ae 7 (Gd)))))))))))))))))))))))))))))
def aV (a b:V3) (f t k:Int):List Sg×Int:=if Lo a b f t=true then ([Qp a b f t k],0) else ([],2)
theorem tZ (a b:V3) (f t k:Int):xE a b f t k= .tup [Ai (aV a b f t k).1,.int (aV a b f t k).2]:=by unfold xE aV;split<;>rfl
theorem wD (a b:V3) (f t:Int):AF Tryz.prog 49 [Eg a,Eg b,.int f,.int t] (.tup [Ai (aV a b f t 2).1,.int (aV a b f t 2).2]):=by rw[<-tZ];exact Aap a b f t
theorem wG (a:V3) (f t:Int):AF Tryz.prog 62 [Eg a,.int f,.int t] (.tup [Ai (aV a a f t 0).1,.int (aV a a f t 0).2]):=by rw[<-tZ];exact Aar a f t
theorem gV (a b:List Sg) (ha:Da a) (hb:Da b) (h:(Oh a b).2=0):AF Tryz.prog 88 [Ai a,Ai b] (.tup [Ai (Oh a b).1,.int 0]):=by
 have:=vZ a b ha hb
 unfold kI at this
 rwa [if_pos h] at this
theorem Da.nil:Da []:=⟨δ,λi=>by simp[Sg.none];exact⟨Pw,Pw,Pw,λ_=>by simpa using Pw,λ_=>by simpa using Pw,λ_=>by simpa using Pw⟩⟩
theorem cU {a b:Int} (ha: -1048576<=a/\a<=1048576) (hb: -1048576<=b/\b<=1048576) {k:Int} (i:Nat):Cm ((Dj a b (Bz k)).getD i 0):=by
 have key:∀x,x∈Dj a b (Bz k)->Cm x:=λx hx=>by
  unfold Dj at hx
  rcases List.mem_cons.1 hx with rfl|hx
  exact⟨ω,ω⟩
  split at hx
  cases hx
  obtain⟨y,hy,rfl⟩:=List.mem_map.1 hx
  have hy2: -100<=y/\y<=100:=by
   unfold Bz at hy
   split at hy
   cases hy
   split at hy
   have:y=1:=by simpa using hy
   omega
   simp at hy;omega
  have:=fN y (b-a) hy2 ω
  exact⟨ω,ω⟩
 rw[List.getD_eq_getElem?_getD]
 cases h:(Dj a b (Bz k))[i]? with
 |none=>exact Pw
 |some x=>exact key x (List.mem_of_getElem? h)
theorem qV {p:Pr} {a k:Int} (h:Aew p a k) (ha:a<=1000) (hk:k<=1000) (hl:∀a∈p.acts,Cm a.len):Kp p:=by
 have hm:(1000000:Nat)<=maxLen:=by decide
 refine⟨λs hs=>?_,λx hx=>?_,by have:=h.2.2.1;omega,λx hx=>?_,hl⟩
 obtain⟨i,hi,rfl⟩:=List.getElem_of_mem hs
 have:=h.2.2.2.1 i hi
 rw[List.getD_eq_getElem?_getD,List.getElem?_eq_getElem hi] at this
 simp at this
 omega
 obtain⟨i,hi,rfl⟩:=List.getElem_of_mem hx
 have:=(h.2.2.2.2 i hi).1
 rw[List.getD_eq_getElem?_getD,List.getElem?_eq_getElem hi] at this
 simp at this
 omega
 obtain⟨i,hi,rfl⟩:=List.getElem_of_mem hx
 have:=(h.2.2.2.2 i hi).2
 rw[List.getD_eq_getElem?_getD,List.getElem?_eq_getElem hi] at this
 simp at this
 omega
end Go.Proofs.YtldnjomacnjhnaaGreat
namespace Go.Proofs.YtldnjomacnjhnaaGreat
open Go.Proofs.Tryz
open Go.RowKit
theorem Jw (x:Int) (hx:Fp x):AF Tryz.prog 99 [WA x] (.bool true):=Jc (vs:=[_]) λw=>Ju x w hx
theorem Uz (x:Int) (hx:Fp x):AF Tryz.prog 172 [WA x] (.int x.sign):=Jc (vs:=[_]) λw=>Aaa x w hx
theorem AcD (x:Int) (hx:Fp x):AF Tryz.prog 179 [WA x] (.int (bitLen x.natAbs:Int)):=Jc (vs:=[_]) λw=>Acw x w hx
theorem AcC (x y:Int) (hx:Fp x) (hy:Fp y) (hz:Fp (x+y)):AF Tryz.prog 102 [WA x,WA y] (.lit (.tuple #[Ak (x+y),.int .i64 0])):=Jc (vs:=[_,_]) λw=>pP x y w hx hy hz
theorem AcE (x y:Int) (hx:Fp x) (hy:Fp y) (hz:Fp (x*y)):AF Tryz.prog 123 [WA x,WA y] (.lit (.tuple #[Ak (x*y),.int .i64 0])):=Jc (vs:=[_,_]) λw=>pS x y w hx hy hz
def Fw (c:Nat->Int):Nat->Nat
 |0=>0
 |n+1=>if c n=0 then Fw c n else n+1
abbrev Bf (n:Nat) (c:Nat->Int):AV:= .sl 2 n λi=>WA (c i)
abbrev Aem (n:Nat) (c:Nat->Int):AV:= .slc 2 n λi=>WA (c i)
theorem Hu (c:Nat->Int):∀n,Fw c n<=n
 |0=>Nat.le_refl _
 |n+1=>by
  unfold Fw
  split
  exact Nat.le_succ_of_le (Hu c n)
  exact Nat.le_refl _
theorem Jt (c:Nat->Int):∀n,Fw c n=0\/c (Fw c n-1)≠0
 |0=> .inl rfl
 |n+1=>by
  unfold Fw
  split
  exact Jt c n
  rename_i h;exact .inr h
theorem Ta {c:Nat->Int} {n:Nat} (h:n=0\/c (n-1)≠0):Fw c n=n:=by
 cases n with
 |zero=>rfl
 |succ n=>
  unfold Fw
  rcases h with h|h
  cases h
  exact if_neg h
theorem Xs {x:Int}:x.sign=0↔x=0:=Int.sign_eq_zero_iff_zero
theorem sO {c:Nat->Int} {q:Nat} (hq:0<q) (h:(c (q-1)).sign=0):Fw c q=Fw c (q-1):=by
 obtain⟨k,rfl⟩:∃k,q=k+1:=⟨q-1,ω⟩
 rw[Nat.add_sub_cancel] at h ⊢
 rw[Fw,if_pos (Xs.1 h)]
theorem cZ {c:Nat->Int} {q n:Nat} (h0:Fw c q=Fw c n) (h:q=0\/(c (q-1)).sign≠0):q=Fw c n:=by
 rw[<-h0]
 exact(Ta (h.imp id λh e=>h (Xs.2 e))).symm
theorem iA (n:Nat) (c:Nat->Int) (hn:n<=1000000) (hc:∀i,i<n->Fp (c i)):AF Tryz.prog 170 [Aem n c] (Bf (Fw c n) c):=by
 refine Cr func170 rfl λB D0 hA0=>?_
 refine Ae 7 (dN [0] (λm s=>∃m1,m=m1+1/\(m1<=n/\Fw c m1=Fw c n)/\s=⟨[(0,Aem m1 c)],[],0,22⟩) (n+1) ⟨n,rfl,⟨Nat.le_refl _,rfl⟩,κ⟩ ?_)
 rintro _ _ ⟨m1,rfl,hF,rfl⟩ J1 hJ1
 obtain⟨hF1,hF2⟩:=hF
 refine Ae 7 (Gi 6 ((0:Int)<((m1:Nat):Int)) (λhx1 hx1d=>?_) (λhx1 hx1d=>?_))
 ·
  refine Ae 3 (Ep (((m1:Nat):Int)-1) ((m1-1:Nat):Int) (Fl (m1-1) m1 (Ae 1 (Cf (Uz (c (m1-1)) (hc _ ω)) (Ae 4 (Gi 15 ((c (m1-1)).sign=0) (λhx2 hx2d=>?_) (λhx2 hx2d=>?_)))))))
  ·
   exact Ae 8 (Ep (((m1:Nat):Int)-1) ((m1-1:Nat):Int) (Bk (.slc 2 (m1-1) (λi0=> .lit (Ak (c i0)))) .none (Tn 202 (.tmp 16) (.tmp 19) κ underlying202 2 m1 sizeOf70 (λi0=> .lit (Ak (c i0))) κ (m1-1) ((m1-1:Nat):Int) κ ω ω) (Ae 3 (Om [0] (hJ1 _ _ (by omega:m1-1+1<m1+1) ⟨m1-1,rfl,⟨ω,(sO ω hx2d).symm.trans hF2⟩,rfl⟩)))))
  ·
   exact Ae 6 (vwk 0 (Ae 7 (Hs (.sl 2 m1 (λi0=> .lit (Ak (c i0)))) (congrArg (λz=>Bf z c) (cZ hF2 ω)))))
 ·
  exact Ae 17 (vwk 0 (Ae 7 (Hs (.sl 2 m1 (λi0=> .lit (Ak (c i0)))) (congrArg (λz=>Bf z c) (cZ hF2 ω)))))
theorem kV (x:Int):AFM Tryz.prog 180 241 [.int .i64 0] [WA x,.int 0] (Ak x):=by
 refine qX func180 rfl λB D0 hA0=>?_
 exact Ae 32 (Afh (.lit (Ak x)) κ)
theorem Uu (x y:Int) (hx:Fp x) (hy:Fp y) (hz:Fp (x*y)):AFM Tryz.prog 174 241 [.int .i64 0] [WA x,WA y] (Ak (x*y)):=by
 refine qX func174 rfl λB D0 hA0=>?_
 exact Ae 8 (Jb [(5,_,.none),(8,.lit (Ak (x*y)),(.set 0 (.box 241 [.int 0])))] [6] ⟨El (AcE x y hx hy hz),Au (Iv 180 #[.tmp 9,.tmp 13,.tmp 14] #[239,70,37] κ (λ_ _=>by kernel_rfl) 0 241 [.int .i64 0] κ [.lit (Ak (x*y)),.int 0] κ κ (Ak (x*y)) (kV (x*y))),trivial⟩ (Ae 2 (Afh (.lit (Ak (x*y))) κ)))
theorem sY (x y:Int) (hx:Fp x) (hy:Fp y) (hz:Fp (x+y)):AFM Tryz.prog 175 241 [.int .i64 0] [WA x,WA y] (Ak (x+y)):=by
 refine qX func175 rfl λB D0 hA0=>?_
 exact Ae 8 (Jb [(5,_,.none),(8,.lit (Ak (x+y)),(.set 0 (.box 241 [.int 0])))] [6] ⟨El (AcC x y hx hy hz),Au (Iv 180 #[.tmp 9,.tmp 13,.tmp 14] #[239,70,37] κ (λ_ _=>by kernel_rfl) 0 241 [.int .i64 0] κ [.lit (Ak (x+y)),.int 0] κ κ (Ak (x+y)) (kV (x+y))),trivial⟩ (Ae 2 (Afh (.lit (Ak (x+y))) κ)))
theorem AfD {c:Nat->Int} {n:Nat} (hl:n=0\/c (n-1)≠0) (h:n≠0):(!decide ((c (n-1)).sign=0))=true:=by
 have h9:¬(c (n-1)).sign=0:=λe=>by
  rcases hl with g|g
  exact h g
  exact g (Xs.1 e)
 rw[decide_eq_false h9];rfl
theorem Pn (n:Nat) (c:Nat->Int) (hn:n<=25) (hc:∀i,i<n->Fp (c i)) (hl:n=0\/c (n-1)≠0):AF Tryz.prog 171 [Bf n c] (.bool true):=by
 refine Cr func171 rfl λB D0 hA0=>?_
 refine Ae 14 (Pe [0,5,6,7] n (λi=>True) (λi=>⟨[(0,Bf n c),(5,Bf n c),(6,.int (n:Int)),(7,.int (i:Int))],[],0,33⟩) trivial (λi hin hFi J1 hJ1=>?_))
 refine Ae 6 (Gi 8 ((i:Int)<(n:Int)) (λhx1 hx1d=>?_) (λhx1 hx1d=>?_))
 ·
  exact Ae 7 (Fl i n (Ae 8 (Cf (Jw (c i) (hc _ ω)) (Ae 8 (Ep ((i:Int)+1) ((i+1:Nat):Int) (Ae 2 (Ha [0,5,6,7] [] 0 0 hA0 [] trivial (hJ1 ω trivial))))))))
 ·
  refine Ae 12 (Gv 18 (decide ((n:Int)<=25)) true (decide_eq_true ω) (Ae 4 (Gi 22 ((n:Int)=0) (λhx2 hx2d=>?_) (λhx2 hx2d=>?_))))
  ·
   exact Ae 14 (Gd)
  ·
   exact Ae 3 (Ep ((n:Int)-1) ((n-1:Nat):Int) (Fl (n-1) n (Ae 1 (Cf (Uz (c (n-1)) (hc _ ω)) (Ae 7 (Hs (.bool (!decide ((c (n-1)).sign=0))) (congrArg AV.bool (AfD hl ω))))))))
def Er (c:Nat->Int):Nat->Int
 |0=>0
 |n+1=>max (Er c n) (bitLen (c n).natAbs:Int)
theorem oW {c:Nat->Int} {k:Nat}:∀n,(∀i,i<n->bitLen (c i).natAbs<=k)->0<=Er c n/\Er c n<=(k:Int)
 |0,_=>⟨Int.le_refl _,by show (0:Int)<=_;omega⟩
 |n+1,h=>by
  have h1:=oW n λi hi=>h i ω
  have h2:=h n (Nat.lt_succ_self n)
  unfold Er
  omega
theorem tD (n:Nat) (c:Nat->Int) (hn:n<=1000000) (hc:∀i,i<n->Fp (c i)):AF Tryz.prog 173 [Bf n c] (.int (Er c n)):=by
 refine Cr func173 rfl λB D0 hA0=>?_
 refine Ae 19 (Pe [3,6,7,8] n (λi=>True) (λi=>⟨[(3,.int (Er c i)),(6,Bf n c),(7,.int (n:Int)),(8,.int (i:Int))],[],0,18⟩) trivial (λi hin hFi J1 hJ1=>?_))
 refine Ae 6 (Gi 9 ((i:Int)<(n:Int)) (λhx1 hx1d=>?_) (λhx1 hx1d=>?_))
 ·
  exact Ae 7 (Fl i n (Ae 8 (Cf (AcD (c i) (hc _ ω)) (Bk (.int (max (Er c i) (bitLen (c i).natAbs:Int))) .none (jV (.tmp 12) (.tmp 14) #[3,3] κ (Er c i) (bitLen (c i).natAbs:Int) κ κ) (Ae 5 (Ep ((i:Int)+1) ((i+1:Nat):Int) (Ae 2 (Ha [3,6,7,8] [] 0 0 hA0 [] trivial (hJ1 ω trivial)))))))))
 ·
  exact Ae 13 (Hs (.int (Er c i)) (congrArg (λz=>AV.int (Er c z)) (show _=n by omega)))
end Go.Proofs.YtldnjomacnjhnaaGreat