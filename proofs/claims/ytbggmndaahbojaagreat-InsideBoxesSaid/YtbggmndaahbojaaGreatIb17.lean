/- Part 17 of the proof of IB.row_holds: no condition beyond the row's. -/
import Derived.Test.YtbggmndaahbojaaGreatIb16
import Derived.Scope
set_option maxRecDepth 100000
set_option maxHeartbeats 40000000
namespace Go.Proofs.YtbggmndaahbojaaGreat
theorem Ir {P:Program} {b:Frame} {a:Act} {k:List Item} {cs:List Frame} {w:World} {c:Code}:step P (lone (b.atR a (.code (.scope c)::k)) cs w)= .next (lone (b.atR a (.code c:: .inScope c::k)) cs w):=
 step_lone_go (by simp[Go.stepG,Go.stepG.exec,Frame.atR])
theorem bR {P:Program} {b:Frame} {a:Act} {k:List Item} {cs:List Frame} {w:World} {c:Code}:step P (lone (b.atR a (.inScope c::k)) cs w)= .next (lone (b.atR a k) cs w):=
 step_lone_go (by simp[Go.stepG,Go.stepG.exec,Frame.atR])
theorem qQ {F:Fence} {n:Nat} {P:Program} {Q:Exit->Act->World->Prop} {a:Act} {w:World} {c:Code} (h:c.wpIn F n P (Exit.noGoto Q) a w):(Code.scope c).wpIn F n P Q a w:=by
 intro b k cs hro hb hr
 have h0:(lone (b.atR a (.code (.scope c)::k)) cs w).fenced P F:=fenced_calm hb hr rfl
 obtain⟨e,a₁,w₁,hq,harr⟩:=h b (.inScope c::k) cs hro hb hr
 cases e with
 |normal=>exact⟨.normal,a₁,w₁,hq,.head h0 Ir (StepsIn.trans harr (.one (fenced_calm hb hr rfl) bR))⟩
 |exit id=>
  have hx:exitTo id (.inScope c::k)=exitTo id k:=by simp[exitTo]
  exact⟨.exit id,a₁,w₁,hq,λk' hk=> .head h0 Ir (harr.1 k' (by rw[hx];exact hk)),
   λhr' hk=>let ⟨k₁,h1,h2⟩:=harr.2 hr' (by rw[hx];exact hk);⟨k₁,h1,.head h0 Ir h2⟩⟩
 |goto l=>exact hq.elim
 |ret=>exact⟨_,a₁,w₁,hq,.of_steps (.one h0 Ir) harr⟩
 |panic ch=>exact⟨_,a₁,w₁,hq,.of_steps (.one h0 Ir) harr⟩
 |outgrown=>exact⟨_,a₁,w₁,hq,.of_steps (.one h0 Ir) harr⟩
def Ajo (Q:Exit->St->Prop):Exit->St->Prop
 | .goto _,_=>False
 |e,s=>Q e s
theorem zG {P:Program} {R:Option Nat} {B:Nat} {D0:Ap} {s:St} {Q:Exit->St->Prop} {c:Code} (h:AC P R B D0 c s (Ajo Q)):AC P R B D0 (.scope c) s Q:=⟨λE a hs=>
 qQ (Cq (λe a' w' ⟨s',E',h1,h2,h3,h4⟩=>by
  cases e with
  |goto l=>exact h2.elim
  |normal=>exact⟨s',E',h1,h2,h3,h4⟩
  |exit id=>exact⟨s',E',h1,h2,h3,h4⟩
  |ret=>exact⟨s',E',h1,h2,h3,h4⟩
  |panic ch=>exact⟨s',E',h1,h2,h3,h4⟩
  |outgrown=>exact⟨s',E',h1,h2,h3,h4⟩) (h.run E a hs))⟩
theorem fT {B:Nat} {D0:Ap} {s:St} (id:Nat) (t:TypeId) (cs:List AV) (s':St) (hc:Ak s.h id=some (.box t cs)) (hs':(⟨mapT (frzB id cs) s.t,(Hx s.h id).map λp=>(p.1,p.2.mapB (frzB id cs)),s.nx,s.n⟩:St)=s') (hf:cs.all AV.free=true) (E:Ap) (a:Act) (hs:Hv B D0 E s a):∃E',E'.w=E.w/\Hv B D0 E' s' a:=by
 refine Pz id (frzB id cs) s' hs' hc (λE x v hh hv=>?_) E a hs
 have up:=hv.up (E.le_fr id)
 obtain⟨arr,hb,hvs⟩:=hh.box hc
 cases hv with
 |osl _ id' e' m hA=>
  unfold frzB
  simp only
  by_cases e1:id'=id
  rw[if_pos e1];exact .top _ _
  rw[if_neg e1];exact up
 |ptr _ id' off hA=>
  unfold frzB
  simp only
  by_cases e1:id'=id
  subst e1
  rw[if_pos rfl]
  refine .elt _ _ _ _ _ (λj=>arr.getD (off+j) undef) (.inr rfl) (λj hj=>Ii hb (by rw[hvs.1];omega)) λj hj=>?_
  have:=hvs.2 (off+j)
  have e2:cs.getD (off+j) .top=cs[off+j]:=by simp[show off+j<cs.length by omega]
  refine(this.free ?_).up (E.le_fr id').fz
  rw[e2]
  exact List.all_eq_true.1 hf _ (List.getElem_mem _)
  rw[if_neg e1];exact up
 |_=>exact up
theorem xJ {P:Program} {B:Nat} {D0:Ap} {o:Oper} {ev:Operand->AV} {pre:Nat->Option Ar} (f:FuncId) (xs:Array Operand) (ts:Array TypeId) (ho:o.op= .call { callee:= .value (.func f),args:=xs,argTypes:=ts }) (hcall:∀(vs:Array Value) w,(callFunc f vs).run P w= .ok (.enter f vs) w) (id:Nat) (blk:Ar) (hp:pre id=some blk) (bv:AV->AV) (hbv:∀(E:Ap) (c:Nat->Option Ar),HR B D0 E c->c id=some blk->∀x v,VR E x v->VR (E.fr id).fz (bv x) v) (Da:List AV) (hargs0:xs.toList.map ev=Da) (args:List AV) (hargs:Da.map bv=args) (r:AV) (hf:AF P f args r):Cw P B D0 o ev pre r (.drop id):=by
 subst hargs
 subst hargs0
 refine⟨?_⟩
 intro E a c K Q _ hh htch _ hv k
 have hc:=(htch id (by simp[Ba.touch])).trans hp
 obtain⟨l1,l2,l3,l4⟩:=hh.live id _ hc
 unfold Oper.wp
 rw[show (execOp a.eval o).run P E.w=(callFunc f (xs.map a.eval)).run P E.w by simp[execOp,ho,resolve,Deferred.ofValue,Act.eval,invoke],hcall]
 show Calls P f _ E.w _
 refine(hf (E.fr id) (xs.map a.eval) (λb hb=>?_) (by simp) λi hi=>?_).mono ?_
 rcases hb with hb|hb
 exact hh.bnd b hb
 rw[hb];exact l2.lt
 have hi2:i<xs.size:=by simpa using hi
 have e1:((xs.toList.map ev).map bv).getD i .top=bv (ev xs[i]):=by simp[hi2]
 have e2:(xs.map a.eval).getD i undef=a.eval xs[i]:=by simp[hi2]
 rw[e1,e2]
 exact hbv _ _ hh hc _ _ (hv _ (by simp[ho,Op.operands,Call.operands]))
 rintro e w' ⟨v,D',rfl,hr,hb,hd1,hd2,hd3⟩
 have hz:(E.fr id).w=E.w:=rfl
 rw[hz] at hb hd2
 have hle:E.le { E with D:=D',w:=w' }:=⟨λ_ h=>h,λ_ _=>rfl,λb h=>hd1 b (.inl h),λb hb'=>hb.block b (hh.bnd b hb'),λ_ _=>rfl⟩
 have hn:∀b,D' b->(E.D b\/b=E.π id)\/E.w.heap.size<=b:=hd2
 refine k v { E with D:=D',w:=w' } hle (hb.mono hh.B) hr ⟨λi x hx=>?_,λi j x y hx hy=>?_,hd3,λi hi=>Nat.lt_of_lt_of_le (hh.abd i hi) hb.size,hh.le0.trans hle,λb hb'=>?_,Nat.le_trans hh.B hb.size⟩ λi hi=> .inl hi
 have hx2:(if id=i then Option.none else c i)=some x:=hx
 by_cases e1:id=i
 rw[if_pos e1] at hx2;cases hx2
 rw[if_neg e1] at hx2
 obtain⟨j1,j2,j3,j4⟩:=hh.live i x hx2
 refine⟨j1,j2.up hle (hb.block _ j2.lt),λh=>?_,j4⟩
 rcases hn _ h with(h|h)|h
 exact j3 h
 exact hh.inj i id x blk hx2 hc (λe=>e1 e.symm) h
 have:E.π i<E.w.heap.size:=j2.lt
 have h:E.w.heap.size<=E.π i:=h
 omega
 have hx2:(if id=i then Option.none else c i)=some x:=hx
 have hy2:(if id=j then Option.none else c j)=some y:=hy
 by_cases e1:id=i
 rw[if_pos e1] at hx2;cases hx2
 by_cases e2:id=j
 rw[if_pos e2] at hy2;cases hy2
 rw[if_neg e1] at hx2;rw[if_neg e2] at hy2
 exact hh.inj i j x y hx2 hy2
 rcases hn b hb' with(h|h)|h
 exact hh.new b h
 exact .inr (by rw[h];exact l4)
 exact .inr (Nat.le_trans hh.B h)
def AeW (id:Nat) (blk:Ar) (x:AV):AV:=match blk,x with
 | .vec _ e n f,.osl id' e' m=>if id'=id then (if Nat.beq e' e&&Nat.ble m n then .slc e m f else .top) else .top
 |_,_=>vQ id blk x
theorem AeX {B:Nat} {D0 E:Ap} {c:Nat->Option Ar} (hh:HR B D0 E c) {id:Nat} {blk:Ar} (hc:c id=some blk) (hf:∀t e n f,blk= .vec t e n f->∀i,i<n->∀j,j<e->((f i).cell j).flat=true) {x:AV} {v:Value} (hv:VR E x v):VR (E.fr id).fz (AeW id blk x) v:=by
 have base:=rM hh hc hf hv
 unfold AeW
 split
 rename_i t e n f id' e' m
 have base:VR (E.fr id).fz (if id'=id then (if Nat.beq e' e&&Nat.ble m n then AV.sl e m f else .top) else .top) v:=base
 by_cases e1:id'=id
 subst e1
 rw[if_pos rfl] at base ⊢
 by_cases e2:(Nat.beq e' e&&Nat.ble m n)=true
 rw[if_pos e2] at base ⊢
 obtain⟨arr,hb,hn,hcp,hr⟩:=hh.vec hc
 simp only[Bool.and_eq_true,Nat.ble_eq] at e2
 cases hv with
 |osl _ _ _ _ hA=>exact .slc _ _ _ _ _ _ (by have:=hcp.1;omega) base
 rw[if_neg e2];exact .top _ _
 rw[if_neg e1];exact .top _ _
 exact base
theorem Js {P:Program} {B:Nat} {D0:Ap} {o:Oper} {ev:Operand->AV} {pre:Nat->Option Ar} (f:FuncId) (xs:Array Operand) (ts:Array TypeId) (ho:o.op= .call { callee:= .value (.func f),args:=xs,argTypes:=ts }) (hcall:∀(vs:Array Value) w,(callFunc f vs).run P w= .ok (.enter f vs) w) (id:Nat) (blk:Ar) (hp:pre id=some blk) (hfl:∀t e n f,blk= .vec t e n f->∀i,i<n->∀j,j<e->((f i).cell j).flat=true) (Da:List AV) (hargs0:xs.toList.map ev=Da) (args:List AV) (hargs:Da.map (AeW id blk)=args) (r:AV) (hf:AF P f args r):Cw P B D0 o ev pre r (.drop id):=xJ f xs ts ho hcall id blk hp (AeW id blk) (λ_ _ hh hc _ _ hv=>AeX hh hc hfl hv) Da hargs0 args hargs r hf
theorem Ai7 {P:Program} {B:Nat} {D0:Ap} {s:St} {fn:Func} {r1 r2 r3 r4 r5:ResultVar} {x y z u t:AV} (hr:fn.results=#[r1,r2,r3,r4,r5]) (h1:Oj P B D0 s r1 x) (h2:Oj P B D0 s r2 y) (h3:Oj P B D0 s r3 z) (h4:Oj P B D0 s r4 u) (h5:Oj P B D0 s r5 t):Nl P B D0 fn s (mkTup [x,y,z,u,t]):=λE a hs=>by
 obtain⟨v1,e1,f1⟩:=h1 E a hs
 obtain⟨v2,e2,f2⟩:=h2 E a hs
 obtain⟨v3,e3,f3⟩:=h3 E a hs
 obtain⟨v4,e4,f4⟩:=h4 E a hs
 obtain⟨v5,e5,f5⟩:=h5 E a hs
 refine⟨.tuple #[v1,v2,v3,v4,v5],by simp[Hn,hr,e1,e2,e3,e4,e5],VR.tupl [x,y,z,u,t] _ rfl (λi hi=>?_) _ rfl⟩
 match i with
 |0=>exact f1
 |1=>exact f2
 |2=>exact f3
 |3=>exact f4
 |4=>exact f5
open Go.RowKit
inductive KI where
 |seq (y:Code)
 |blk (id:Nat)
 |lp (I:St->Prop)
 |scp
 |un (n:Nat) (b:Code)
 |il (b:Code)
inductive Md where
 |code (c:Code)
 |ops (a:Array Oper) (l:List Oper)
 |out (e:Exit)
structure Bn where
 m:Md
 k:List KI
 s:St
section
variable (P:Program) (R:Option Nat) (B:Nat) (D0:Ap)
def KQ (Q:Exit->St->Prop):List KI->Exit->St->Prop
 |[]=>Q
 | .seq y::k=>oB (λs1=>AC P R B D0 y s1 (KQ Q k)) (KQ Q k)
 | .blk id::k=>rH id (KQ Q k)
 | .lp I::k=>oB I (KQ Q k)
 | .scp::k=>Ajo (KQ Q k)
 | .un n b::k=>oB (Qu P R B D0 b (KQ Q k) n) (KQ Q k)
 | .il b::k=>oB (λs=>ALW P R B D0 b s (KQ Q k)) (KQ Q k)
def Hb (s s':St):Prop:=∀E a,Hv B D0 E s a->∃E',E'.w=E.w/\Hv B D0 E' s' a
def GoM (Q:Exit->St->Prop) (k:List KI) (s:St):Md->Prop
 | .code x=>AC P R B D0 x s (KQ P R B D0 Q k)
 | .ops a l=>AL P R B D0 a l s (KQ P R B D0 Q k)
 | .out e=>∃s',Hb B D0 s s'/\KQ P R B D0 Q k e s'
structure Go (Q:Exit->St->Prop) (c:Bn):Prop where
 m:GoM P R B D0 Q c.k c.s c.m
end
variable {P:Program} {R:Option Nat} {B:Nat} {D0:Ap} {Q:Exit->St->Prop} {c:Bn}
theorem Hb.refl (s:St):Hb B D0 s s:=λE _ h=>⟨E,rfl,h⟩
theorem Hb.trans {a b d:St} (h:Hb B D0 a b) (g:Hb B D0 b d):Hb B D0 a d:=λE x hs=>by
 obtain⟨E1,e1,h1⟩:=h E x hs
 obtain⟨E2,e2,h2⟩:=g E1 x h1
 exact⟨E2,e2.trans e1,h2⟩
theorem AaE {k:List KI} {s s':St} (hw:Hb B D0 s s'):∀m,GoM P R B D0 Q k s' m->GoM P R B D0 Q k s m
 | .code _,h=>qT hw h
 | .ops _ _,h=>rF hw h
 | .out _,⟨s2,h1,h2⟩=>⟨s2,hw.trans h1,h2⟩
theorem Fo (s':St) (hw:Hb B D0 c.s s') (h:Go P R B D0 Q ⟨c.m,c.k,s'⟩):Go P R B D0 Q c:=⟨AaE hw _ h.m⟩
theorem eK {x:Code} {s:St} {Q:Exit->St->Prop} {e:Exit} (h:∃s',Hb B D0 s s'/\Q e s') (hx:∀s,Q e s->AC P R B D0 x s Q):AC P R B D0 x s Q:=by
 obtain⟨s',h1,h2⟩:=h
 exact qT h1 (hx s' h2)
def Yv (a:Array Oper) (s:St) (o:Oper):Option Bool:=match o.guard with
 |none=>some true
 |some (j,b)=>match (a[j]?).bind (·.dst) with
  |some d=>match Bl s.t d with
   | .lit (.bool b')=>match b,b' with
    |true,true|false,false=>some true
    |_,_=>some false
   | .lit (.tuple v)=>match v.toList with
    |[]=>some false
    |_=>none
   |_=>none
  |none=>none
def AiM (P:Program) (a:Array Oper) (o:Oper) (l:List Oper) (k:List KI) (s:St):Bn:=
 match Yv a s o with
 |some true=>match evH P o s.ev (Ak s.h) s.nx with
  |some (V,f)=>bif f.low s.nx&&Ly o s.n then ⟨.ops a l,k,⟨Lc s.t o.dst V,f.ap s.h,f.nx s.nx,s.n⟩⟩ else ⟨.ops a (o::l),k,s⟩
  |none=>⟨.ops a (o::l),k,s⟩
 |some false=>bif Ly o s.n then ⟨.ops a l,k,⟨Lc s.t o.dst .undef,s.h,s.nx,s.n⟩⟩ else ⟨.ops a (o::l),k,s⟩
 |none=>⟨.ops a (o::l),k,s⟩
theorem kI {a:Array Oper} {s:St} {o:Oper} {l:List Oper} {Q:Exit->St->Prop} (h:Yv a s o=some true) (V:AV) (f:Ba) (hlow:f.low s.nx=true) (hd:Ly o s.n=true) (ho:Cw P B D0 o s.ev (Ak s.h) V f) (hk:AL P R B D0 a l ⟨Lc s.t o.dst V,f.ap s.h,f.nx s.nx,s.n⟩ Q):AL P R B D0 a (o::l) s Q:=by
 unfold Yv at h
 split at h
 rename_i hg;exact Ajk V f hg hlow hd ho hk
 rename_i j b hg
 split at h
 rename_i d hj
 split at h
 rename_i b' hv
 split at h
 exact Aa8 V f hg hj hv hlow hd ho hk
 exact Aa8 V f hg hj hv hlow hd ho hk
 cases h
 rename_i v hv
 split at h<;>cases h
 cases h
 cases h
theorem wT {a:Array Oper} {s:St} {o:Oper} {l:List Oper} {Q:Exit->St->Prop} (h:Yv a s o=some false) (hd:Ly o s.n=true) (hk:AL P R B D0 a l ⟨Lc s.t o.dst .undef,s.h,s.nx,s.n⟩ Q):AL P R B D0 a (o::l) s Q:=by
 unfold Yv at h
 split at h
 cases h
 rename_i j b hg
 split at h
 rename_i d hj
 split at h
 rename_i b' hv
 split at h
 cases h
 cases h
 rename_i h1 h2
 refine AeL hg hj hv ?_ hd hk
 cases b<;>cases b'<;>first|rfl|exact(h1 rfl rfl).elim|exact(h2 rfl rfl).elim
 rename_i v hv
 split at h
 rename_i he
 refine Aa9 hg hj (hv.trans ?_) hd hk
 have:v=#[]:=by cases v;simp_all
 subst this;rfl
 cases h
 cases h
 cases h
theorem Agw {a:Array Oper} {o:Oper} {l:List Oper} {k:List KI} {s:St} (h:Go P R B D0 Q (AiM P a o l k s)):AL P R B D0 a (o::l) s (KQ P R B D0 Q k):=by
 unfold AiM at h
 split at h
 rename_i hg
 split at h
 rename_i V f he
 cases hb:f.low s.nx&&Ly o s.n with
 |false=>rw[hb] at h;exact h.m
 |true=>
  rw[hb] at h
  have hb2:=Bool.and_eq_true_iff.1 hb
  exact kI hg V f hb2.1 hb2.2 (AbE he) h.m
 exact h.m
 rename_i hg
 cases hb:Ly o s.n with
 |false=>rw[hb] at h;exact h.m
 |true=>rw[hb] at h;exact wT hg hb h.m
 exact h.m
def stp (P:Program):Bn->Bn
 |⟨.code x,k,s⟩=>match x with
  | .seq x y=>⟨.code x,.seq y::k,s⟩
  | .region _ a false=>⟨.ops a a.toList,k,s⟩
  | .skip=>⟨.out .normal,k,s⟩
  | .label _=>⟨.out .normal,k,s⟩
  | .block id x=>⟨.code x,.blk id::k,s⟩
  | .scope x=>⟨.code x,.scp::k,s⟩
  | .exit id=>⟨.out (.exit id),k,s⟩
  | .ret=>⟨.out .ret,k,s⟩
  | .cond d x y=>match s.ev d with
   | .lit (.bool true)=>⟨.code x,k,s⟩
   | .lit (.bool false)=>⟨.code y,k,s⟩
   |_=>⟨.code (.cond d x y),k,s⟩
  |x=>⟨.code x,k,s⟩
 |⟨.ops _ [],k,s⟩=>⟨.out .normal,k,s⟩
 |⟨.ops a (o::l),k,s⟩=>AiM P a o l k s
 |⟨.out .normal,.seq y::k,s⟩=>⟨.code y,k,s⟩
 |⟨.out .normal,.blk _::k,s⟩=>⟨.out .normal,k,s⟩
 |⟨.out .normal,.scp::k,s⟩=>⟨.out .normal,k,s⟩
 |⟨.out .normal,.un (n+1) b::k,s⟩=>⟨.code b,.un n b::k,s⟩
 |⟨.out .normal,.il b::k,s⟩=>⟨.code b,.il b::k,s⟩
 |⟨.out (.exit id),.blk id'::k,s⟩=>bif Nat.beq id id' then ⟨.out .normal,k,s⟩ else ⟨.out (.exit id),k,s⟩
 |⟨.out (.exit id),.seq _::k,s⟩=>⟨.out (.exit id),k,s⟩
 |⟨.out (.exit id),.lp _::k,s⟩=>⟨.out (.exit id),k,s⟩
 |⟨.out (.exit id),.scp::k,s⟩=>⟨.out (.exit id),k,s⟩
 |⟨.out (.exit id),.un _ _::k,s⟩=>⟨.out (.exit id),k,s⟩
 |⟨.out (.exit id),.il _::k,s⟩=>⟨.out (.exit id),k,s⟩
 |⟨.out .ret,_::k,s⟩=>⟨.out .ret,k,s⟩
 |c=>c
theorem Jb {k:List KI} {s:St} {e:Exit} {i:KI} (h:GoM P R B D0 Q k s (.out e)) (hk:∀s,KQ P R B D0 Q k e s->KQ P R B D0 Q (i::k) e s):GoM P R B D0 Q (i::k) s (.out e):=by
 obtain⟨s',h1,h2⟩:=h
 exact⟨s',h1,hk _ h2⟩
theorem Agv {k:List KI} {s:St}:∀x,Go P R B D0 Q (stp P ⟨.code x,k,s⟩)->AC P R B D0 x s (KQ P R B D0 Q k)
 | .seq x y,h=>Ahk h.m
 | .region _ ⟨l⟩ false,h=>Aes (l:=l) h.m
 | .region _ _ true,h=>h.m
 | .skip,h=>eK h.m λ_ h=>Aet h
 | .label _,h=>eK h.m λ_ h=>zD h
 | .block id x,h=>zB h.m
 | .scope x,h=>zG h.m
 | .exit id,h=>eK h.m λ_ h=>Aer h
 | .ret,h=>eK h.m λ_ h=>Ahj h
 | .cond d x y,h=>by
  unfold stp at h
  dsimp only at h
  split at h
  rename_i hb;exact Aeu hb rfl h.m
  rename_i hb;exact zC hb rfl h.m
  exact h.m
 | .loop _,h=>h.m
 | .rangeFunc ..,h=>h.m
 | .goto _,h=>h.m
 | .refuse _,h=>h.m
theorem AdM:∀c,Go P R B D0 Q (stp P c)->Go P R B D0 Q c
 |⟨.code x,k,s⟩,h=>⟨Agv x h⟩
 |⟨.ops _ [],k,s⟩,h=>by
  obtain⟨s',h1,h2⟩:=h.m
  exact⟨rF h1 (Ahs h2)⟩
 |⟨.ops _ (_::_),_,_⟩,h=>⟨Agw h⟩
 |⟨.out .normal,.seq y::k,s⟩,h=>⟨⟨s,Hb.refl s,h.m⟩⟩
 |⟨.out .normal,.blk _::k,s⟩,h=>⟨Jb h.m λ_ h=>h⟩
 |⟨.out .normal,.scp::k,s⟩,h=>⟨Jb h.m λ_ h=>h⟩
 |⟨.out .normal,.lp _::k,s⟩,h=>h
 |⟨.out .normal,.un 0 _::k,s⟩,h=>h
 |⟨.out .normal,.un (n+1) b::k,s⟩,h=>⟨⟨s,Hb.refl s,h.m⟩⟩
 |⟨.out .normal,.il b::k,s⟩,h=>⟨⟨s,Hb.refl s,cO h.m⟩⟩
 |⟨.out (.exit id),.blk id'::k,s⟩,h=>by
  have h:Go P R B D0 Q (bif Nat.beq id id' then ⟨.out .normal,k,s⟩ else ⟨.out (.exit id),k,s⟩):=h
  cases hb:Nat.beq id id' with
  |false=>rw[hb] at h;exact⟨Jb h.m λ_ h=>by show (bif Nat.beq id id' then _ else _);rw[hb];exact h⟩
  |true=>
   rw[hb] at h
   obtain⟨s',h1,h2⟩:=h.m
   exact⟨⟨s',h1,by show (bif Nat.beq id id' then _ else _);rw[hb];exact h2⟩⟩
 |⟨.out (.exit id),.seq _::k,s⟩,h=>⟨Jb h.m λ_ h=>h⟩
 |⟨.out (.exit id),.lp _::k,s⟩,h=>⟨Jb h.m λ_ h=>h⟩
 |⟨.out (.exit id),.scp::k,s⟩,h=>⟨Jb h.m λ_ h=>h⟩
 |⟨.out (.exit id),.un _ _::k,s⟩,h=>⟨Jb h.m λ_ h=>h⟩
 |⟨.out (.exit id),.il _::k,s⟩,h=>⟨Jb h.m λ_ h=>h⟩
 |⟨.out .ret,.seq _::k,s⟩,h=>⟨Jb h.m λ_ h=>h⟩
 |⟨.out .ret,.blk _::k,s⟩,h=>⟨Jb h.m λ_ h=>h⟩
 |⟨.out .ret,.lp _::k,s⟩,h=>⟨Jb h.m λ_ h=>h⟩
 |⟨.out .ret,.scp::k,s⟩,h=>⟨Jb h.m λ_ h=>h⟩
 |⟨.out .ret,.un _ _::k,s⟩,h=>⟨Jb h.m λ_ h=>h⟩
 |⟨.out .ret,.il _::k,s⟩,h=>⟨Jb h.m λ_ h=>h⟩
 |⟨.out .normal,[],_⟩,h=>h
 |⟨.out (.exit _),[],_⟩,h=>h
 |⟨.out .ret,[],_⟩,h=>h
 |⟨.out (.goto _),_,_⟩,h=>h
 |⟨.out (.panic _),_,_⟩,h=>h
 |⟨.out .outgrown,_,_⟩,h=>h
def run (P:Program):Nat->Bn->Bn
 |0,c=>c
 |n+1,c=>run P n (stp P c)
theorem Aa:∀(n:Nat) {c:Bn},Go P R B D0 Q (run P n c)->Go P R B D0 Q c
 |0,_,h=>h
 |n+1,c,h=>AdM c (Aa n h)
def Bn.a (c:Bn):Array Oper:=match c.m with| .ops a _=>a|_=>#[]
def Bn.l (c:Bn):List Oper:=match c.m with| .ops _ l=>l|_=>[]
def Bn.o (c:Bn):Oper:=match c.l with|o::_=>o|[]=>default
def Bn.ok (c:Bn):Bool:=match c.m with
 | .ops a (o::_)=>Yv a c.s o==some true&&Ly o c.s.n
 |_=>false
def Bn.put (c:Bn) (V:AV) (f:Ba):Bn:=⟨match c.m with| .ops a (_::l)=> .ops a l|m=>m,c.k,⟨Lc c.s.t c.o.dst V,f.ap c.s.h,f.nx c.s.nx,c.s.n⟩⟩
theorem Ns (V:AV) (f:Ba) (h:Cw P B D0 c.o c.s.ev (Ak c.s.h) V f) (hk:Go P R B D0 Q (c.put V f)) (hok:c.ok=true) (hlow:f.low c.s.nx=true):Go P R B D0 Q c:=by
 obtain⟨m,k,s⟩:=c
 cases m with
 |code x=>cases hok
 |out e=>cases hok
 |ops a l=>
  cases l with
  |nil=>cases hok
  |cons o l=>
   have hok:(Yv a s o==some true&&Ly o s.n)=true:=hok
   obtain⟨h1,h2⟩:=Bool.and_eq_true_iff.1 hok
   exact⟨kI (by simpa using h1) V f hlow h2 h hk.m⟩
end Go.Proofs.YtbggmndaahbojaaGreat
namespace Go.Proofs.YtbggmndaahbojaaGreat
open Go.RowKit
variable {P:Program} {R:Option Nat} {B:Nat} {D0:Ap} {Q:Exit->St->Prop} {c:Bn}
def Bn.add (c:Bn) (d:Nat) (b:Bool):Bn:=⟨c.m,c.k,⟨(d,.bool b)::c.s.t,c.s.h,c.s.nx,c.s.n⟩⟩
theorem Ev (d:Nat) (b v:Bool) (hb:b=v) (hk:Go P R B D0 Q (c.add d v)) (hd:Bl c.s.t d= .bool b:=by kernel_rfl):Go P R B D0 Q c:=
 Fo _ (λE a hs=>wX d b v hb hd E a hs) hk
theorem vsb (d:Nat) (b:Bool) (h1:b=true->Go P R B D0 Q (c.add d true)) (h2:b=false->Go P R B D0 Q (c.add d false)) (hd:Bl c.s.t d= .bool b:=by kernel_rfl):Go P R B D0 Q c:=
 Fk b (λh=>Ev d b true h (h1 h) hd) (λh=>Ev d b false h (h2 h) hd)
theorem Akh (d:Nat) (b:Bool) (h1:b=true->Go P R B D0 Q (c.add d false)) (h2:b=false->Go P R B D0 Q (c.add d true)) (hd:Bl c.s.t d= .bool (!b):=by kernel_rfl):Go P R B D0 Q c:=
 Fk b (λh=>Ev d (!b) false (by rw[h];rfl) (h1 h) hd) (λh=>Ev d (!b) true (by rw[h];rfl) (h2 h) hd)
theorem Cu (d:Nat) (p:Prop) [Decidable p] (h1:decide p=true->p->Go P R B D0 Q (c.add d true)) (h2:decide p=false->¬p->Go P R B D0 Q (c.add d false)) (hd:Bl c.s.t d= .bool (decide p):=by kernel_rfl):Go P R B D0 Q c:=
 vsb d (decide p) (λh=>h1 h (of_decide_eq_true h)) (λh=>h2 h (of_decide_eq_false h)) hd
theorem qN (d:Nat) (p:Prop) [Decidable p] (h1:decide p=true->p->Go P R B D0 Q (c.add d false)) (h2:decide p=false->¬p->Go P R B D0 Q (c.add d true)) (hd:Bl c.s.t d= .bool (!decide p):=by kernel_rfl):Go P R B D0 Q c:=
 Akh d (decide p) (λh=>h1 h (of_decide_eq_true h)) (λh=>h2 h (of_decide_eq_false h)) hd
theorem vsp {G:Prop} (p:Prop) [Decidable p] (h1:decide p=true->p->G) (h2:decide p=false->¬p->G):G:=
 Fk (decide p) (λh=>h1 h (of_decide_eq_true h)) (λh=>h2 h (of_decide_eq_false h))
theorem Dx (v v':Value) (hk:Go P R B D0 Q (c.put (.lit v') .none)) (hv:v=v':=by rfl) (hx:(c.o.op.operands.toList.all λx=>(c.s.ev x).isLit)=true:=by kernel_rfl) (hs:dU c.o=true:=by kernel_rfl) (hrun:∀w,(execOp (λx=>(c.s.ev x).val) c.o).run P w= .ok (.value v) w:=by intro w;kernel_rfl) (hok:c.ok=true:=by kernel_rfl):Go P R B D0 Q c:=
 Ns (.lit v') .none (Zo _ hx rfl hs hrun hv) hk hok rfl
theorem Ao (x y:Int) (hk:Go P R B D0 Q (c.put (.int y) .none)) (hr: -9223372036854775808<=x/\x<=9223372036854775807:=by omega) (he:x=y:=by omega) (hx:(c.o.op.operands.toList.all λx=>(c.s.ev x).isLit)=true:=by kernel_rfl) (hs:dU c.o=true:=by kernel_rfl) (hrun:∀w,(execOp (λx=>(c.s.ev x).val) c.o).run P w= .ok (.value (.int .i64 (IntKind.wrap .i64 x))) w:=by intro w;kernel_rfl) (hok:c.ok=true:=by kernel_rfl):Go P R B D0 Q c:=
 Ns (.int y) .none (Zo _ hx rfl hs hrun (congrArg (Value.int .i64) ((IntWalk.i64_in x hr).trans he))) hk hok rfl
theorem Cc (V:AV) (f:Ba) {V0:AV} {f0:Ba} (h:Cw P B D0 c.o c.s.ev (Ak c.s.h) V0 f0) (hk:Go P R B D0 Q (c.put V f)) (hok:c.ok=true:=by kernel_rfl) (hlow:f.low c.s.nx=true:=by kernel_rfl) (hV:V0=V:=by kernel_rfl) (hf:f0=f:=by kernel_rfl):Go P R B D0 Q c:=Ns V f (hV▸hf▸h) hk hok hlow
def Bn.xs (c:Bn):Array Operand:=match c.o.op with| .call cl=>cl.args|_=>#[]
def Bn.ts (c:Bn):Array TypeId:=match c.o.op with| .call cl=>cl.argTypes|_=>#[]
def Bn.fx (c:Bn):Operand:=match c.o.op with| .call cl=>(match cl.callee with| .value x=>x|_=>default)|_=>default
def Bn.cps (c:Bn):List AV:=match c.s.ev c.fx with| .fn _ l=>l|_=>[]
theorem Aj {f:FuncId} {args:List AV} {r:AV} (hf:AF P f args r) (hk:Go P R B D0 Q (c.put r .none)) (ho:c.o.op= .call { callee:= .value (.func f),args:=c.xs,argTypes:=c.ts }:=by kernel_rfl) (hargs:c.xs.toList.map c.s.ev=args:=by kernel_rfl) (hfree:args.all AV.free=true:=by kernel_rfl) (hok:c.ok=true:=by kernel_rfl) (hcall:∀(vs:Array Value) w,(callFunc f vs).run P w= .ok (.enter f vs) w:=by intro _ _;kernel_rfl):Go P R B D0 Q c:=
 Ns r .none (lE f c.xs c.ts ho hcall args hargs hfree r hf) hk hok rfl
theorem Aec {f:FuncId} {args:List AV} {r:AV} (hf:AF P f args r) (hk:Go P R B D0 Q (c.put r .none)) (ho:c.o.op= .call { callee:= .value c.fx,args:=c.xs,argTypes:=c.ts }:=by kernel_rfl) (hx:c.s.ev c.fx= .fn f c.cps:=by kernel_rfl) (hargs:c.xs.toList.map c.s.ev++c.cps=args:=by kernel_rfl) (hfree:args.all AV.free=true:=by kernel_rfl) (hok:c.ok=true:=by kernel_rfl) (hcall:∀(vs:Array Value) w,(callFunc f vs).run P w= .ok (.enter f vs) w:=by intro _ _;kernel_rfl):Go P R B D0 Q c:=
 Ns r .none (dX c.fx f c.xs c.ts ho c.cps hx hcall args hargs hfree r hf) hk hok rfl
def Bn.ixP (c:Bn) (k:Nat):Bn:=c.put (Ax (c.s.ev (Oper.ixX c.o)) k) .none
theorem Dm (k n:Nat) (hk:Go P R B D0 Q (c.ixP k)) (hlt:k<n:=by omega) (hb:ixB P c.o (c.s.ev (Oper.ixX c.o))=true:=by kernel_rfl) (hn:wY (c.s.ev (Oper.ixX c.o))=n:=by kernel_rfl) (hy:c.s.ev (Oper.ixY c.o)= .int (k:Int):=by kernel_rfl) (hok:c.ok=true:=by kernel_rfl):Go P R B D0 Q c:=
 Ns _ .none (sK _ k hb hy rfl (by rw[hn];exact hlt)) hk hok rfl
theorem Eg {o:Oper} {ev:Operand->AV} {pre:Nat->Option Ar} {V:AV} (k n:Nat) (hlt:k<n:=by omega) (hb:ixB P o (ev (Oper.ixX o))=true:=by kernel_rfl) (hn:wY (ev (Oper.ixX o))=n:=by kernel_rfl) (hy:ev (Oper.ixY o)= .int (k:Int):=by kernel_rfl) (hV:Ax (ev (Oper.ixX o)) k=V:=by kernel_rfl):Cw P B D0 o ev pre V .none:=hV▸sK _ k hb hy rfl (by rw[hn];exact hlt)
theorem fZ {o:Oper} {ev:Operand->AV} {pre:Nat->Option Ar} {V:AV} (j:Int) (k n:Nat) (hlt:k<n:=by omega) (hj:j=(k:Int):=by omega) (hb:ixB P o (ev (Oper.ixX o))=true:=by kernel_rfl) (hn:wY (ev (Oper.ixX o))=n:=by kernel_rfl) (hy:ev (Oper.ixY o)= .int j:=by kernel_rfl) (hV:Ax (ev (Oper.ixX o)) k=V:=by kernel_rfl):Cw P B D0 o ev pre V .none:=hV▸sK j k hb hy hj (by rw[hn];exact hlt)
theorem eM {x:Code} {s:St} (h:AC P R B D0 x s (λe s=>∃s',Hb B D0 s s'/\Q e s')):AC P R B D0 x s Q:=⟨λE a hs=>
 Cq (λe a' w' ⟨s1,E',h1,⟨s',hk,hq⟩,h3,h4⟩=>by
  obtain⟨E2,e2,h5⟩:=hk E' a' h3
  exact⟨s',E2,e2.trans h1,hq,h5,h4⟩) (h.run E a hs)⟩
def Bn.dl (c:Bn):List Oper:=match c.m with| .code (.region _ a true)=>a.toList|_=>[]
def Bn.dr (P:Program) (c:Bn) (ex:vI):List AV×List Ba:=(oH P c.dl.toArray ex c.s c.dl [] []).getD ([],[])
def Bn.drawn (P:Program) (c:Bn) (ex:vI) (keep:List Nat):Bn:=⟨.out .normal,c.k,⟨xQ c.dl.toArray (c.dr P ex).1 c.s keep,Gx (c.dr P ex).2 c.s.h c.dl.toArray.size,nxF (c.dr P ex).2 c.s.nx,c.s.n⟩⟩
theorem Be (ex:vI) (keep:List Nat) (hop:dF P B D0 c.dl (c.dr P ex).1 (c.dr P ex).2 c.s ex)
  (hk:Go P R B D0 Q (c.drawn P ex keep))
  (hm:P.follows .mixedOrders=true:=by kernel_rfl) (hr:(oH P c.dl.toArray ex c.s c.dl [] []).isSome=true:=by kernel_rfl) (hB:drB c.dl.toArray (c.dr P ex).2 c.s.nx c.s.n=true:=by kernel_rfl) (hnx:nxB (c.dr P ex).2 c.s.nx (nxF (c.dr P ex).2 c.s.nx)=true:=by kernel_rfl) (hc:(match c.m with| .code (.region _ _ true)=>true|_=>false)=true:=by kernel_rfl):Go P R B D0 Q c:=by
 obtain⟨m,k,s⟩:=c
 split at hc
 rename_i id a hmm
 cases hmm
 obtain⟨l⟩:=a
 exact⟨eM (AjL ex keep _ hop hk.m hm hr hB hnx)⟩
 cases hc
def Ks (keep:List Nat) (s:St):St:=⟨keep.map λt=>(t,Bl s.t t),s.h,s.nx,s.n⟩
theorem Gq (keep:List Nat) (s:St):Hb B D0 s (Ks keep s):=λE a hs=>AcO keep _ rfl E a hs
def Bn.lb (c:Bn):Code:=match c.m with| .code (.loop b)=>b|_=> .skip
def Bn.isL (c:Bn):Bool:=match c.m with| .code (.loop _)=>true|_=>false
def Bn.round (c:Bn) (J:St->Prop) (s:St):Bn:=⟨.code c.lb,.lp J::c.k,s⟩
theorem Wg (keep:List Nat) (I:Nat->St->Prop) (m:Nat) (h0:I m (Ks keep c.s)) (h:∀m s,I m s->∀J:St->Prop,(∀m' s',m'<m->I m' s'->J s')->Go P R B D0 Q (c.round J s)) (hl:c.isL=true:=by kernel_rfl):Go P R B D0 Q c:=by
 refine Fo _ (Gq keep c.s) ?_
 obtain⟨md,k,s⟩:=c
 unfold Bn.isL at hl
 split at hl
 rename_i b hm
 cases hm
 exact⟨iT I m h0 λm s hI=>(h m s hI _ λm' s' h1 h2=>⟨m',h1,h2⟩).m⟩
 cases hl
theorem Po (keep:List Nat) (n:Nat) (F:Nat->Prop) (st:Nat->St) (h0:F 0) (h:∀i,i<=n->F i->∀J:St->Prop,(i<n->F (i+1)->J (st (i+1)))->Go P R B D0 Q (c.round J (st i))) (hs:Ks keep c.s=st 0:=by kernel_rfl) (hl:c.isL=true:=by kernel_rfl):Go P R B D0 Q c:=
 Wg keep (λm s=>∃i,i<=n/\m=n-i/\F i/\s=st i) n ⟨0,Nat.zero_le _,rfl,h0,hs⟩ (λm s ⟨i,h1,h2,h3,h4⟩ J hJ=>by
  subst h4
  exact h i h1 h3 J λg1 g2=>hJ (n-(i+1)) _ ω ⟨i+1,g1,rfl,g2,rfl⟩) hl
def Bn.J (c:Bn):St->Prop:=match c.k with| .lp J::_=>J|_=>λ_=>False
def Bn.isN (c:Bn):Bool:=match c.m with| .out .normal=>true|_=>false
theorem Akf {J:St->Prop} (s':St) (hw:Hb B D0 c.s s') (h:J s') (hT:c.J=J:=by kernel_rfl) (hn:c.isN=true:=by kernel_rfl):Go P R B D0 Q c:=by
 obtain⟨m,k,s⟩:=c
 unfold Bn.isN at hn
 split at hn
 rename_i hm
 cases hm
 subst hT
 cases k with
 |nil=>exact h.elim
 |cons i k=>cases i with
  |lp J=>exact⟨⟨s',hw,h⟩⟩
  |_=>exact h.elim
 cases hn
theorem Pe {J:St->Prop} (keep:List Nat) {s':St} (h:J s') (hs:Ks keep c.s=s':=by kernel_rfl) (hT:c.J=J:=by kernel_rfl) (hn:c.isN=true:=by kernel_rfl):Go P R B D0 Q c:=Akf _ (Gq keep c.s) (hs▸h) hT hn
abbrev vP:=List (TypeId×Nat×Nat×(Nat->AV))
def aR:Cx->vP
 |[]=>[]
 |(_,.vec t e n f)::h=>(t,e,n,f)::aR h
 |(_,.box _ _)::h=>aR h
 |(_,.loop ..)::h=>aR h
def kG:vP->Prop
 |[]=>True
 |(_,e,n,f)::l=>(∀i,i<n->∀j,j<e->((f i).cell j).flat=true)/\kG l
theorem Nq:∀{h:Cx} {l:vP},aR h=l->kG l->dI h
 |[],_,_,_=>trivial
 |(_,.vec _ _ _ _)::h,_,rfl,hl=>⟨hl.1,Nq (h:=h) rfl hl.2⟩
 |(_,.box _ _)::h,_,hv,hl=>Nq (h:=h) hv hl
 |(_,.loop ..)::h,_,hv,hl=>Nq (h:=h) hv hl
theorem Ew {J:St->Prop} (keep:List Nat) (ρ:List (Nat×Nat)) (nx k0:Nat) (hA0:∀id,D0.A id->id<k0) (L:vP) (hfl:kG L) {s':St} (h:J s') (hv:aR c.s.h=L:=by kernel_rfl) (hs:(⟨mapT (Si ρ) (Ks keep c.s).t,xV ρ c.s.h,nx,c.s.n⟩:St)=s':=by kernel_rfl) (hd:Kq (ρ.map (·.2))=true:=by kernel_rfl) (hd1:Kq (ρ.map (·.1))=true:=by kernel_rfl) (hl:(ρ.all λp=>(Ak c.s.h p.1).isSome&&Nat.blt p.2 nx)=true:=by kernel_rfl) (hk0:(Nat.ble k0 nx&&ρ.all λp=>Nat.beq p.1 p.2||Nat.ble k0 p.2)=true:=by kernel_rfl) (hT:c.J=J:=by kernel_rfl) (hn:c.isN=true:=by kernel_rfl):Go P R B D0 Q c:=
 Akf s' (Hb.trans (Gq keep c.s) λE a hs'=>iD ρ nx k0 hA0 s' hs hd hd1 hl hk0 (Nq hv hfl) E a hs') h hT hn
def Bn.frzS (c:Bn) (id:Nat) (ds:List Nat) (V:AV):Bn:=⟨c.m,c.k,⟨ds.map (λd=>(d,V))++c.s.t,Hx c.s.h id,c.s.nx,c.s.n⟩⟩
theorem mO (id:Nat) (ds:List Nat) (t:TypeId) (e n:Nat) (f:Nat->AV) (hf:∀i,i<n->∀j,j<e->((f i).cell j).flat=true) (hk:Go P R B D0 Q (c.frzS id ds (.sl e n f))) (hd:ds.map (Bl c.s.t)=ds.map λ_=> .osl id e n:=by kernel_rfl) (hc:Ak c.s.h id=some (.vec t e n f):=by kernel_rfl):Go P R B D0 Q c:=
 Fo _ (λE a hs=>kH id ds t e n f hd hc hf E a hs) hk
theorem Jg (id:Nat) (ds:List Nat) (t:TypeId) (e n:Nat) (f:Nat->AV) (hf:∀i,i<n->∀j,j<e->((f i).cell j).flat=true) (hk:Go P R B D0 Q (c.frzS id ds (.slc e n f))) (hd:ds.map (Bl c.s.t)=ds.map λ_=> .osl id e n:=by kernel_rfl) (hc:Ak c.s.h id=some (.vec t e n f):=by kernel_rfl):Go P R B D0 Q c:=
 Fo _ (λE a hs=>fU id ds t e n f hd hc hf E a hs) hk
def Bn.box (c:Bn) (id:Nat):List AV:=match Ak c.s.h id with|some (.box _ cs)=>cs|_=>[]
def Bn.boxT (c:Bn) (id:Nat):TypeId:=match Ak c.s.h id with|some (.box t _)=>t|_=>0
def Bn.frzB (c:Bn) (id:Nat):Bn:=⟨c.m,c.k,⟨mapT (YtbggmndaahbojaaGreat.frzB id (c.box id)) c.s.t,(Hx c.s.h id).map λp=>(p.1,p.2.mapB (YtbggmndaahbojaaGreat.frzB id (c.box id))),c.s.nx,c.s.n⟩⟩
theorem aS (id:Nat) (hk:Go P R B D0 Q (c.frzB id)) (hc:Ak c.s.h id=some (.box (c.boxT id) (c.box id)):=by kernel_rfl) (hf:(c.box id).all AV.free=true:=by kernel_rfl):Go P R B D0 Q c:=
 Fo _ (λE a hs=>fT id _ _ _ hc rfl hf E a hs) hk
def Bn.setB (c:Bn) (id:Nat) (b:Ar):Bn:=⟨c.m,c.k,⟨c.s.t,hset c.s.h id b,c.s.nx,c.s.n⟩⟩
theorem Sp (id:Nat) (t:TypeId) (e n:Nat) (f g:Nat->AV) (hfg:∀i,i<n->f i=g i) (hk:Go P R B D0 Q (c.setB id (.vec t e n g))) (hc:Ak c.s.h id=some (.vec t e n f):=by kernel_rfl):Go P R B D0 Q c:=
 Fo _ (λE a hs=>Aed id t e n f g hc hfg E a hs) hk
def Hk (P:Program) (s:St):ResultVar->Option AV
 | .tmp t=>bif (Bl s.t t).free then some (Bl s.t t) else none
 | .cell q T=>match Bl s.t q with
  | .ptr id off=>match Ak s.h id with
   |some (.box _ cs)=>match Vy P T with
    |some false=>bif Nat.blt off cs.length&&(cs.getD off .top).free then some (cs.getD off .top) else none
    |some true=>match Hz P T with
     |some n=>bif Nat.ble (off+n) cs.length&&(mkAgg ((cs.drop off).take n)).free then some (mkAgg ((cs.drop off).take n)) else none
     |none=>none
    |none=>none
   |_=>none
  |_=>none
theorem Dv {s:St} {rv:ResultVar} {x:AV} (h:Hk P s rv=some x):Oj P B D0 s rv x:=by
 unfold Hk at h
 split at h
 rename_i t
 cases hb:(Bl s.t t).free with
 |false=>rw[hb] at h;cases h
 |true=>rw[hb] at h;cases h;exact Ad0 rfl hb
 rename_i q T
 split at h
 rename_i id off hq
 split at h
 rename_i t cs hc
 split at h
 rename_i ha
 cases hb:Nat.blt off cs.length&&(cs.getD off .top).free with
 |false=>rw[hb] at h;cases h
 |true=>
  rw[hb] at h;cases h
  have hb2:=Bool.and_eq_true_iff.1 hb
  exact pT id (Fe ha) off cs hq t hc (by simpa [Nat.blt_eq] using hb2.1) rfl hb2.2
 rename_i ha
 split at h
 rename_i n hn
 cases hb:Nat.ble (off+n) cs.length&&(mkAgg ((cs.drop off).take n)).free with
 |false=>rw[hb] at h;cases h
 |true=>
  rw[hb] at h;cases h
  have hb2:=Bool.and_eq_true_iff.1 hb
  exact xY id (Fe ha) n (Ce hn) off cs hq t hc (Nat.le_of_ble_eq_true hb2.1) rfl hb2.2
 cases h
 cases h
 cases h
 cases h
theorem Ai6 {s:St} {fn:Func} {r1 r2 r3 r4:ResultVar} {x y z u:AV} (hr:fn.results=#[r1,r2,r3,r4]) (h1:Oj P B D0 s r1 x) (h2:Oj P B D0 s r2 y) (h3:Oj P B D0 s r3 z) (h4:Oj P B D0 s r4 u):Nl P B D0 fn s (mkTup [x,y,z,u]):=λE a hs=>by
 obtain⟨v1,e1,f1⟩:=h1 E a hs
 obtain⟨v2,e2,f2⟩:=h2 E a hs
 obtain⟨v3,e3,f3⟩:=h3 E a hs
 obtain⟨v4,e4,f4⟩:=h4 E a hs
 refine⟨.tuple #[v1,v2,v3,v4],by simp[Hn,hr,e1,e2,e3,e4],VR.tupl [x,y,z,u] _ rfl (λi hi=>?_) _ rfl⟩
 match i with
 |0=>exact f1
 |1=>exact f2
 |2=>exact f3
 |3=>exact f4
def Pg (P:Program) (fn:Func) (s:St):Option AV:=match fn.results.toList with
 |[]=>some (.lit (.tuple #[]))
 |[r]=>Hk P s r
 |[r1,r2]=>match Hk P s r1,Hk P s r2 with
  |some x,some y=>some (mkTup [x,y])
  |_,_=>none
 |[r1,r2,r3]=>match Hk P s r1,Hk P s r2,Hk P s r3 with
  |some x,some y,some z=>some (mkTup [x,y,z])
  |_,_,_=>none
 |[r1,r2,r3,r4]=>match Hk P s r1,Hk P s r2,Hk P s r3,Hk P s r4 with
  |some x,some y,some z,some u=>some (mkTup [x,y,z,u])
  |_,_,_,_=>none
 |[r1,r2,r3,r4,r5]=>match Hk P s r1,Hk P s r2,Hk P s r3,Hk P s r4,Hk P s r5 with
  |some x,some y,some z,some u,some t=>some (mkTup [x,y,z,u,t])
  |_,_,_,_,_=>none
 |_=>none
theorem Yp {fn:Func} {s:St} {V:AV} (h:Pg P fn s=some V):Nl P B D0 fn s V:=by
 have key:∀l,fn.results.toList=l->fn.results=l.toArray:=λl h=>by rw[<-h]
 unfold Pg at h
 split at h
 rename_i hr;cases h;exact pR (key _ hr)
 rename_i hr;exact Ai3 (key _ hr) (Dv h)
 rename_i hr
 split at h
 rename_i h1 h2;cases h;exact Ai4 (key _ hr) (Dv h1) (Dv h2)
 cases h
 rename_i hr
 split at h
 rename_i h1 h2 h3;cases h;exact Ai5 (key _ hr) (Dv h1) (Dv h2) (Dv h3)
 cases h
 rename_i hr
 split at h
 rename_i h1 h2 h3 h4;cases h;exact Ai6 (key _ hr) (Dv h1) (Dv h2) (Dv h3) (Dv h4)
 cases h
 rename_i hr
 split at h
 rename_i h1 h2 h3 h4 h5;cases h;exact Ai7 (key _ hr) (Dv h1) (Dv h2) (Dv h3) (Dv h4) (Dv h5)
 cases h
 cases h
def QF (P:Program) (B:Nat) (D0:Ap) (fn:Func) (r:AV):Exit->St->Prop:=λe s=>(e= .ret\/e= .normal)/\Nl P B D0 fn s r
def Bn.isE (c:Bn):Bool:=match c.m,c.k with| .out .normal,[]=>true| .out .ret,[]=>true|_,_=>false
theorem Ch {fn:Func} {r:AV} (V:AV) (h:V=r) (hv:Pg P fn c.s=some V:=by kernel_rfl) (hn:c.isE=true:=by kernel_rfl):Go P R B D0 (QF P B D0 fn r) c:=by
 subst h
 have hr:=Yp (B:=B) (D0:=D0) hv
 obtain⟨m,k,s⟩:=c
 unfold Bn.isE at hn
 split at hn
 rename_i h1 h2
 cases h1;cases h2
 exact⟨⟨s,Hb.refl s,.inr rfl,hr⟩⟩
 rename_i h1 h2
 cases h1;cases h2
 exact⟨⟨s,Hb.refl s,.inl rfl,hr⟩⟩
 cases hn
theorem Br {fn:Func} {r:AV} (hv:Pg P fn c.s=some r:=by kernel_rfl) (hn:c.isE=true:=by kernel_rfl):Go P R B D0 (QF P B D0 fn r) c:=Ch r rfl hv hn
theorem Ai {f:FuncId} {fn:Func} {args:List AV} {r:AV} (hf:Tryz.prog.funcs[f]?=some fn) {x:Code} (hc:fn.body=some x:=by rfl) (h:∀B D0,(∀id,D0.A id->id<0)->Go Tryz.prog none B D0 (QF Tryz.prog B D0 fn r) ⟨.code x,[],⟨Da args 0,[],0,fn.ntmps⟩⟩) (hle:Nat.ble args.length fn.ntmps=true:=by kernel_rfl):AF Tryz.prog f args r:=
 Aji _ hf hc fn.ntmps rfl hle rfl λB D0 hA=>(h B D0 hA).m
end Go.Proofs.YtbggmndaahbojaaGreat
namespace Go.Proofs.YtbggmndaahbojaaGreat
open Go.RowKit
variable {P:Program} {R:Option Nat} {B:Nat} {D0:Ap} {Q:Exit->St->Prop} {c:Bn}
def Bn.unr (c:Bn) (n:Nat):Bn:=⟨.code c.lb,.un n c.lb::c.k,c.s⟩
theorem Kt (n:Nat) (h:Go P R B D0 Q (c.unr n)) (hl:c.isL=true:=by kernel_rfl):Go P R B D0 Q c:=by
 obtain⟨m,k,s⟩:=c
 unfold Bn.isL at hl
 split at hl
 rename_i b hm
 cases hm
 exact⟨eL (n+1) h.m⟩
 cases hl
def Bn.back (c:Bn) (r:AV) (h:Cx) (nx:Nat):Bn:=⟨.ops c.a c.l.tail,c.k,⟨Lc c.s.t c.o.dst r,h,nx,c.s.n⟩⟩
def jK (P:Program) (B:Nat) (D1:Ap) (fn:Func) (K:AV->Cx->Nat->Prop):Exit->St->Prop:=AaC P B D1 fn K
theorem sJ {f:FuncId} {fn:Func} {x:Code} {args:List AV} (hf:Tryz.prog.funcs[f]?=some fn) (hc:fn.body=some x)
  (hrun:∀(E:Ap) (a:Act),(∀x,VR E (c.s.ev x) (a.eval x))->∃vs:Array Value,(∀w,(execOp a.eval c.o).run Tryz.prog w= .ok (.enter f vs) w)/\vs.size=args.length/\∀i,i<args.length->VR E (args.getD i .top) (vs.getD i undef))
  (h:∀D1,(∀id,D1.A id->id<c.s.nx)->Go Tryz.prog none B D1 (jK Tryz.prog B D1 fn λr h nx=>Go Tryz.prog R B D0 Q (c.back r h nx)) ⟨.code x,[],⟨Da args 0,c.s.h,c.s.nx,fn.ntmps⟩⟩)
  (hle:Nat.ble args.length fn.ntmps=true) (hok:c.ok=true) (hg:c.o.guard=none):Go Tryz.prog R B D0 Q c:=by
 obtain⟨m,k,s⟩:=c
 cases m with
 |code x=>cases hok
 |out e=>cases hok
 |ops a l=>
  cases l with
  |nil=>cases hok
  |cons o l=>
   have hok:(Yv a s o==some true&&Ly o s.n)=true:=hok
   exact⟨vG f args fn.ntmps hg (Bool.and_eq_true_iff.1 hok).2 hrun hf hc rfl hle λD1 hD=>Wi (h D1 hD).m λe s ⟨h1,r,h2,h3⟩=>⟨h1,r,h2,h3.m⟩⟩
theorem Aee {f:FuncId} {fn:Func} {x:Code} (nx0:Nat) (hf:Tryz.prog.funcs[f]?=some fn)
  (h:∀D1,(∀id,D1.A id->id<nx0)->Go Tryz.prog none B D1 (jK Tryz.prog B D1 fn λr h nx=>Go Tryz.prog R B D0 Q (c.back r h nx)) ⟨.code x,[],⟨Da (c.xs.toList.map c.s.ev) 0,c.s.h,c.s.nx,fn.ntmps⟩⟩)
  (hc:fn.body=some x:=by rfl) (ho:c.o.op= .call { callee:= .value (.func f),args:=c.xs,argTypes:=c.ts }:=by kernel_rfl) (hcall:∀(vs:Array Value) w,(callFunc f vs).run Tryz.prog w= .ok (.enter f vs) w:=by intro _ _;kernel_rfl)
  (hle:Nat.ble (c.xs.toList.map c.s.ev).length fn.ntmps=true:=by kernel_rfl) (hok:c.ok=true:=by kernel_rfl) (hg:c.o.guard=none:=by kernel_rfl) (hnx:c.s.nx=nx0:=by kernel_rfl):Go Tryz.prog R B D0 Q c:=
 sJ hf hc (λE a hv=>Agj f c.xs c.ts ho hcall _ rfl E a hv) (hnx▸h) hle hok hg
theorem Rk {f:FuncId} {fn:Func} {x:Code} (nx0:Nat) (hf:Tryz.prog.funcs[f]?=some fn)
  (h:∀D1,(∀id,D1.A id->id<nx0)->Go Tryz.prog none B D1 (jK Tryz.prog B D1 fn λr h nx=>Go Tryz.prog R B D0 Q (c.back r h nx)) ⟨.code x,[],⟨Da (c.xs.toList.map c.s.ev++c.cps) 0,c.s.h,c.s.nx,fn.ntmps⟩⟩)
  (hc:fn.body=some x:=by rfl) (ho:c.o.op= .call { callee:= .value c.fx,args:=c.xs,argTypes:=c.ts }:=by kernel_rfl) (hx:c.s.ev c.fx= .fn f c.cps:=by kernel_rfl) (hcall:∀(vs:Array Value) w,(callFunc f vs).run Tryz.prog w= .ok (.enter f vs) w:=by intro _ _;kernel_rfl)
  (hle:Nat.ble (c.xs.toList.map c.s.ev++c.cps).length fn.ntmps=true:=by kernel_rfl) (hok:c.ok=true:=by kernel_rfl) (hg:c.o.guard=none:=by kernel_rfl) (hnx:c.s.nx=nx0:=by kernel_rfl):Go Tryz.prog R B D0 Q c:=
 sJ hf hc (λE a hv=>Ad6 c.fx f c.xs c.ts ho c.cps hx hcall _ rfl E a hv) (hnx▸h) hle hok hg
def Mj (P:Program) (s:St):ResultVar->Option AV
 | .tmp t=>some (Bl s.t t)
 | .cell q T=>match Bl s.t q with
  | .ptr id off=>match Ak s.h id with
   |some (.box _ cs)=>match Vy P T with
    |some false=>bif Nat.blt off cs.length then some (cs.getD off .top) else none
    |some true=>match Hz P T with
     |some n=>bif Nat.ble (off+n) cs.length then some (mkAgg ((cs.drop off).take n)) else none
     |none=>none
    |none=>none
   |_=>none
  |_=>none
theorem Jq {s:St} {rv:ResultVar} {x:AV} (h:Mj P s rv=some x):Rf P B D0 s rv x:=by
 unfold Mj at h
 split at h
 cases h;exact xX rfl
 rename_i q T
 split at h
 rename_i id off hq
 split at h
 rename_i t cs hc
 split at h
 rename_i ha
 cases hb:Nat.blt off cs.length with
 |false=>rw[hb] at h;cases h
 |true=>rw[hb] at h;cases h;exact lR id (Fe ha) off cs hq t hc (by simpa [Nat.blt_eq] using hb) rfl
 rename_i ha
 split at h
 rename_i n hn
 cases hb:Nat.ble (off+n) cs.length with
 |false=>rw[hb] at h;cases h
 |true=>rw[hb] at h;cases h;exact pS id (Fe ha) n (Ce hn) off cs hq t hc (Nat.le_of_ble_eq_true hb) rfl
 cases h
 cases h
 cases h
 cases h
def Py (P:Program) (fn:Func) (s:St):Option AV:=match fn.results.toList with
 |[]=>some (.lit (.tuple #[]))
 |[r]=>Mj P s r
 |[r1,r2]=>match Mj P s r1,Mj P s r2 with
  |some x,some y=>some (mkTup [x,y])
  |_,_=>none
 |[r1,r2,r3]=>match Mj P s r1,Mj P s r2,Mj P s r3 with
  |some x,some y,some z=>some (mkTup [x,y,z])
  |_,_,_=>none
 |_=>none
theorem wL {fn:Func} {s:St} {V:AV} (h:Py P fn s=some V):vM P B D0 fn s V:=by
 have key:∀l,fn.results.toList=l->fn.results=l.toArray:=λl h=>by rw[<-h]
 unfold Py at h
 split at h
 rename_i hr;cases h;exact xW (key _ hr)
 rename_i hr;exact AjM (key _ hr) (Jq h)
 rename_i hr
 split at h
 rename_i h1 h2;cases h;exact AjN (key _ hr) (Jq h1) (Jq h2)
 cases h
 rename_i hr
 split at h
 rename_i h1 h2 h3;cases h;exact AjO (key _ hr) (Jq h1) (Jq h2) (Jq h3)
 cases h
 cases h
def Bn.rI (P:Program) (fn:Func) (c:Bn):AV:=(Py P fn c.s).getD .top
theorem qM {D1:Ap} {fn:Func} {K:AV->Cx->Nat->Prop} (hk:K (c.rI P fn) c.s.h c.s.nx) (hv:(Py P fn c.s).isSome=true:=by kernel_rfl) (hn:c.isE=true:=by kernel_rfl):Go P R B D1 (jK P B D1 fn K) c:=by
 unfold Bn.rI at hk
 cases he:Py P fn c.s with
 |none=>rw[he] at hv;cases hv
 |some V=>
  rw[he] at hk
  have hr:=wL (B:=B) (D0:=D1) he
  obtain⟨m,k,s⟩:=c
  unfold Bn.isE at hn
  split at hn
  rename_i h1 h2
  cases h1;cases h2
  exact⟨⟨s,Hb.refl s,.inr rfl,V,hr,hk⟩⟩
  rename_i h1 h2
  cases h1;cases h2
  exact⟨⟨s,Hb.refl s,.inl rfl,V,hr,hk⟩⟩
  cases hn
def Oper.enX (o:Oper):Operand:=match o.op with| .binOp _ _ x _ _=>x|_=>default
def enB (P:Program) (o:Oper):Bool:=match o.op with
 | .binOp .eql T _ (.const (.slice none 0 0)) _=>match P.underlying T with
  |some (.slice _)=>true
  |_=>false
 |_=>false
theorem Ajy {o:Oper} {ev:Operand->AV} {pre:Nat->Option Ar} (hb:enB P o=true) {e n:Nat} {f:Nat->AV} (hx:ev (Oper.enX o)= .sl e n f) (h0:0<n):Cw P B D0 o ev pre (.bool false) .none:=by
 unfold enB at hb
 split at hb
 rename_i T x t' ho
 have ex:Oper.enX o=x:=by unfold Oper.enX;rw[ho]
 rw[ex] at hx
 split at hb
 rename_i el hu
 exact xN T t' x ho hu e n f hx h0
 cases hb
 cases hb
def slE:AV->Nat| .sl e _ _=>e|_=>0
def slF:AV->Nat->AV| .sl _ _ f=>f|_=>λ_=> .top
theorem ven (n:Nat) (hk:Go P R B D0 Q (c.put (.bool false) .none)) (h0:0<n:=by omega) (hb:enB P c.o=true:=by kernel_rfl) (hx:c.s.ev (Oper.enX c.o)= .sl (slE (c.s.ev (Oper.enX c.o))) n (slF (c.s.ev (Oper.enX c.o))):=by kernel_rfl) (hok:c.ok=true:=by kernel_rfl):Go P R B D0 Q c:=Ns _ .none (Ajy hb hx h0) hk hok rfl
def Oper.cxs (o:Oper):Array Operand:=match o.op with| .call cl=>cl.args|_=>#[]
def Oper.cts (o:Oper):Array TypeId:=match o.op with| .call cl=>cl.argTypes|_=>#[]
def Oper.cfx (o:Oper):Operand:=match o.op with| .call cl=>(match cl.callee with| .value x=>x|_=>default)|_=>default
def AaY:AV->List AV| .fn _ l=>l|_=>[]
theorem Am {o:Oper} {ev:Operand->AV} {pre:Nat->Option Ar} {f:FuncId} {args:List AV} {r:AV} (hf:AF P f args r) (ho:o.op= .call { callee:= .value (.func f),args:=Oper.cxs o,argTypes:=Oper.cts o }:=by kernel_rfl) (hargs:(Oper.cxs o).toList.map ev=args:=by kernel_rfl) (hfree:args.all AV.free=true:=by kernel_rfl) (hcall:∀(vs:Array Value) w,(callFunc f vs).run P w= .ok (.enter f vs) w:=by intro _ _;kernel_rfl):Cw P B D0 o ev pre r .none:=lE f _ _ ho hcall args hargs hfree r hf
theorem fE {o:Oper} {ev:Operand->AV} {pre:Nat->Option Ar} {f:FuncId} {args:List AV} {r:AV} (hf:AF P f args r) (ho:o.op= .call { callee:= .value (Oper.cfx o),args:=Oper.cxs o,argTypes:=Oper.cts o }:=by kernel_rfl) (hx:ev (Oper.cfx o)= .fn f (AaY (ev (Oper.cfx o))):=by kernel_rfl) (hargs:(Oper.cxs o).toList.map ev++AaY (ev (Oper.cfx o))=args:=by kernel_rfl) (hfree:args.all AV.free=true:=by kernel_rfl) (hcall:∀(vs:Array Value) w,(callFunc f vs).run P w= .ok (.enter f vs) w:=by intro _ _;kernel_rfl):Cw P B D0 o ev pre r .none:=dX _ f _ _ ho _ hx hcall args hargs hfree r hf
theorem kQ {o:Oper} {ev:Operand->AV} {pre:Nat->Option Ar} {b v:Bool} (hb:b=v) (h:evG P o ev pre 0=some (.bool b,.none):=by kernel_rfl):Cw P B D0 o ev pre (.bool v) .none:=hb▸Ry h
theorem bF {o:Oper} {ev:Operand->AV} {pre:Nat->Option Ar} {b v:Bool} (hb:b=v) (h:Cw P B D0 o ev pre (.bool b) .none):Cw P B D0 o ev pre (.bool v) .none:=hb▸h
theorem Bi {e n:Nat} {f:Nat->AV} (h:∀i,i<n->((List.range e).all λj=>((f i).cell j).flat)=true):∀i,i<n->∀j,j<e->((f i).cell j).flat=true:=λi hi j hj=>List.all_eq_true.1 (h i hi) j (List.mem_range.2 hj)
theorem Ue {keep:List Nat} (n:Nat) (st:Nat->St) (h:∀i,i<n->∀J:St->Prop,J (st (i+1))->Go P R B D0 Q (c.round J (st i))) (hl:Go P R B D0 Q (c.round (λ_=>False) (st n))) (hs:Ks keep c.s=st 0:=by kernel_rfl) (hL:c.isL=true:=by kernel_rfl):Go P R B D0 Q c:=by
 refine Fo _ (Gq keep c.s) ?_
 rw[hs]
 obtain⟨md,k,s⟩:=c
 unfold Bn.isL at hL
 split at hL
 rename_i b hm
 cases hm
 exact⟨iU st n rfl (λi hi K hK=>(h i hi K hK).m) hl.m⟩
 cases hL
def QM (P:Program) (B:Nat) (D0:Ap) (fn:Func) (r:Value) (t:TypeId) (us:List Value):Exit->St->Prop:=λe s=>(e= .ret\/e= .normal)/\Nl P B D0 fn s (.lit r)/\Ak s.h 0=some (.box t (us.map .lit))
theorem AiT {fn:Func} {r:Value} {t:TypeId} {us:List Value} (V:AV) (h:V= .lit r) (hv:Pg P fn c.s=some V:=by kernel_rfl) (hb:Ak c.s.h 0=some (.box t (us.map .lit)):=by kernel_rfl) (hn:c.isE=true:=by kernel_rfl):Go P R B D0 (QM P B D0 fn r t us) c:=by
 subst h
 have hr:=Yp (B:=B) (D0:=D0) hv
 obtain⟨m,k,s⟩:=c
 unfold Bn.isE at hn
 split at hn
 rename_i h1 h2
 cases h1;cases h2
 exact⟨⟨s,Hb.refl s,.inr rfl,hr,hb⟩⟩
 rename_i h1 h2
 cases h1;cases h2
 exact⟨⟨s,Hb.refl s,.inl rfl,hr,hb⟩⟩
 cases hn
theorem AhL {f:FuncId} {fn:Func} {t:TypeId} {us us':List Value} {args:List AV} {r:Value} (hf:Tryz.prog.funcs[f]?=some fn) {x:Code} (hc:fn.body=some x:=by rfl) (h:∀B D0,(∀id,D0.A id->id<1)->Go Tryz.prog none B D0 (QM Tryz.prog B D0 fn r t us') ⟨.code x,[],⟨Da (.ptr 0 0::args) 0,[(0,.box t (us.map .lit))],1,fn.ntmps⟩⟩) (hle:Nat.ble (args.length+1) fn.ntmps=true:=by kernel_rfl):AFN Tryz.prog f t us us' args r:=
 Ahl _ hf hc fn.ntmps rfl hle rfl λB D0 hA=>(h B D0 hA).m
theorem oR {f:FuncId} {fn:Func} {t:TypeId} {us:List Value} {args:List AV} {r:Value} (hf:Tryz.prog.funcs[f]?=some fn) {x:Code} (hc:fn.body=some x:=by rfl) (h:∀B D0,(∀id,D0.A id->id<1)->Go Tryz.prog none B D0 (QM Tryz.prog B D0 fn r t us) ⟨.code x,[],⟨Da (.ptr 0 0::args) 0,[(0,.box t (us.map .lit))],1,fn.ntmps⟩⟩) (hle:Nat.ble (args.length+1) fn.ntmps=true:=by kernel_rfl):AFM Tryz.prog f t us args r:=
 AhL hf hc h hle
def AjX:AV->Nat| .slc e _ _=>e|_=>0
def AjZ:AV->Nat| .slc _ n _=>n|_=>0
def AjY:AV->Nat->AV| .slc _ _ f=>f|_=>λ_=> .top
def Bn.wkS (c:Bn) (d:Nat):Bn:=⟨c.m,c.k,⟨(d,(Bl c.s.t d).wk)::c.s.t,c.s.h,c.s.nx,c.s.n⟩⟩
theorem vwk (d:Nat) (hk:Go P R B D0 Q (c.wkS d)) (hd:Bl c.s.t d= .slc (AjX (Bl c.s.t d)) (AjZ (Bl c.s.t d)) (AjY (Bl c.s.t d)):=by kernel_rfl):Go P R B D0 Q c:=
 Fo _ (λE a hs=>Aei d _ _ _ hd E a hs) (by
  have e:(Bl c.s.t d).wk= .sl (AjX (Bl c.s.t d)) (AjZ (Bl c.s.t d)) (AjY (Bl c.s.t d)):=by rw[hd];rfl
  unfold Bn.wkS at hk
  rw[e] at hk
  exact hk)
def oX (o:Oper):Operand:=match o.op with| .call cl=>cl.args.getD 0 default|_=>default
def oY (o:Oper):Operand:=match o.op with| .call cl=>cl.args.getD 1 default|_=>default
def oT (o:Oper):TypeId:=match o.op with| .call cl=>cl.argTypes.getD 0 0| .buildSlice T _ _=>T|_=>0
def oPs (o:Oper):Array (Nat×Operand):=match o.op with| .buildSlice _ _ ps=>ps|_=>#[]
def zT (P:Program) (el:TypeId):Value:=(Vf P el).getD undef
def AaX (P:Program) (o:Oper) (ev:Operand->AV) (el:TypeId) (e len:Nat):Option (List AV):=Rg (λi=>some (i*e,e)) ((List.range (len*e)).map λi=> .lit ((zT P el).cells.toList.getD (i%e) undef)) ((oPs o).toList.map λp=>(p.1,ev p.2))
theorem Iu (nid:Nat) (el:TypeId) (e len:Nat) (F:Nat->AV) (hk:Go P R B D0 Q (c.put (.osl nid e len) (.new nid (.vec el e len F)))) (ho:c.o.op= .buildSlice (oT c.o) len (oPs c.o):=by kernel_rfl) (hu:P.underlying (oT c.o)=some (.slice el):=by kernel_rfl) (he:Hz P el=some e:=by kernel_rfl) (hz:Vf P el=some (zT P el):=by kernel_rfl) (hb:(Nat.beq (zT P el).cells.size e&&(Nat.blt 0 e&&(Nat.blt 0 len&&Nat.ble (len*e) 16777216)))=true:=by kernel_rfl) (hf:AaX P c.o c.s.ev el e len=some ((AaX P c.o c.s.ev el e len).getD []):=by kernel_rfl) (hfo:(List.range (len*e)).map (λq=>(F (q/e)).cell (q%e))=(AaX P c.o c.s.ev el e len).getD []:=by kernel_rfl) (hok:c.ok=true:=by kernel_rfl) (hlow:Ba.low (.new nid (.vec el e len F)) c.s.nx=true:=by kernel_rfl):Go P R B D0 Q c:=by
 simp only[Bool.and_eq_true] at hb
 obtain⟨b1,b2,b3,b4⟩:=hb
 exact Ns _ _ (Dj (oT c.o) len (oPs c.o) ho hu e (Ce he) _ (Oz hz) (Nat.eq_of_beq_eq_true b1) (by simpa [Nat.blt_eq] using b2) (by simpa [Nat.blt_eq] using b3) (Nat.le_of_ble_eq_true b4) nid _ hf F hfo) hk hok hlow
theorem AjH {e m:Nat} {g:Nat->AV} (h:∀i,((List.range e).all λj=>((g i).cell j).one1)=true):∀i,i<m->∀j,j<e->((g i).cell j).one1=true:=λi _ j hj=>List.all_eq_true.1 (h i) j (List.mem_range.2 hj)
theorem Sk (bytes:Nat) (el t2:TypeId) (e m id2 nid:Nat) (g F:Nat->AV) (hF:∀i,i<m->F i=g i) (hk:Go P R B D0 Q (c.put (.osl nid e m) (.newr id2 nid (.vec el e m F)))) (ho:c.o.op= .call { callee:= .builtin .append,args:=#[oX c.o,oY c.o],argTypes:=#[oT c.o,oT c.o] }:=by kernel_rfl) (hu:P.underlying (oT c.o)=some (.slice el):=by kernel_rfl) (hi:(P.info? el).map (λi=>(i.zero,i.size,i.bytes))=some (some (zT P el),e,bytes):=by kernel_rfl) (hze:(zT P el).cells.size=e:=by kernel_rfl) (he:0<e:=by decide) (hm:0<m:=by omega) (hb:m*bytes<=140737488355328:=by omega) (h63:m<=maxLen:=by unfold maxLen;omega) (hone:∀i,((List.range e).all λj=>((g i).cell j).one1)=true:=by intro _;kernel_rfl) (hx:c.s.ev (oX c.o)= .lit (.slice none 0 0):=by kernel_rfl) (hy:c.s.ev (oY c.o)= .osl id2 e m:=by kernel_rfl) (hp:Ak c.s.h id2=some (.vec t2 e m g):=by kernel_rfl) (hok:c.ok=true:=by kernel_rfl) (hlow:Ba.low (.newr id2 nid (.vec el e m F)) c.s.nx=true:=by kernel_rfl):Go P R B D0 Q c:=
 Ns _ _ (Ls (oX c.o) (oY c.o) (oT c.o) ho hu e bytes _ hi hze he m hm g F nid hF (AjH hone) h63 hb hx id2 t2 hy hp) hk hok hlow
theorem Lz (bytes:Nat) (el t2:TypeId) (e n m id id2 nid:Nat) (f g F:Nat->AV) (hF1:∀i,i<n->F i=f i) (hF2:∀i,i<m->F (n+i)=g i) (hk:Go P R B D0 Q (c.put (.osl nid e (n+m)) (.grow2 id id2 nid (.vec el e (n+m) F)))) (ho:c.o.op= .call { callee:= .builtin .append,args:=#[oX c.o,oY c.o],argTypes:=#[oT c.o,oT c.o] }:=by kernel_rfl) (hu:P.underlying (oT c.o)=some (.slice el):=by kernel_rfl) (hi:(P.info? el).map (λi=>(i.zero,i.size,i.bytes))=some (some (zT P el),e,bytes):=by kernel_rfl) (hze:(zT P el).cells.size=e:=by kernel_rfl) (he:0<e:=by decide) (hm:0<m:=by omega) (hbytes:(n+m)*bytes<=140737488355328:=by omega) (h63:n+m<=maxLen:=by unfold maxLen;omega) (hone:∀i,((List.range e).all λj=>((g i).cell j).one1)=true:=by intro _;kernel_rfl) (hx:c.s.ev (oX c.o)= .osl id e n:=by kernel_rfl) (hp:Ak c.s.h id=some (.vec el e n f):=by kernel_rfl) (hy:c.s.ev (oY c.o)= .osl id2 e m:=by kernel_rfl) (hp2:Ak c.s.h id2=some (.vec t2 e m g):=by kernel_rfl) (hok:c.ok=true:=by kernel_rfl) (hlow:Ba.low (.grow2 id id2 nid (.vec el e (n+m) F)) c.s.nx=true:=by kernel_rfl):Go P R B D0 Q c:=
 Ns _ _ (Qj (oX c.o) (oY c.o) (oT c.o) ho hu e bytes _ hi hze he n m hm f g F nid hbytes h63 hF1 hF2 (AjH hone) id hx hp id2 t2 hy hp2) hk hok hlow
theorem As {B:Nat} {D0:Ap} {P:Program} {o:Oper} {ev:Operand->AV} {pre:Nat->Option Ar} (v:Value) {v':Value} (hv:v=v') (hx:(o.op.operands.toList.all λx=>(ev x).isLit)=true:=by kernel_rfl) (hs:dU o=true:=by kernel_rfl) (hrun:∀w,(execOp (λx=>(ev x).val) o).run P w= .ok (.value v) w:=by intro w;kernel_rfl):Cw P B D0 o ev pre (.lit v') .none:=Zo _ hx rfl hs hrun hv
end Go.Proofs.YtbggmndaahbojaaGreat
namespace Go.Proofs.YtbggmndaahbojaaGreat
open Go.RowKit
variable {R:Option Nat} {B:Nat} {D0:Ap} {Q:Exit->St->Prop} {c:Bn}
def Bn.rg (c:Bn):Operand:=match c.m with| .code (.rangeFunc g _ _ _)=>g|_=>default
def Bn.rp (c:Bn):Array Tmp:=match c.m with| .code (.rangeFunc _ p _ _)=>p|_=>#[]
def Bn.ra (c:Bn):Code:=match c.m with| .code (.rangeFunc _ _ a _)=>a|_=> .skip
def Bn.rb (c:Bn):Code:=match c.m with| .code (.rangeFunc _ _ _ b)=>b|_=> .skip
def Bn.isR (c:Bn):Bool:=match c.m with| .code (.rangeFunc ..)=>true|_=>false
def Bn.rc (c:Bn):List AV:=AaY (c.s.ev c.rg)
def Bn.lt (c:Bn) (l:Nat):Fd:=match Ak c.s.h l with|some (.loop _ _ _ t _)=>t|_=>[]
def Bn.ln (c:Bn) (l:Nat):Nat:=match Ak c.s.h l with|some (.loop _ _ _ _ n)=>n|_=>0
def Bn.lst (c:Bn) (l:Nat):LoopState:=match Ak c.s.h l with|some (.loop s _ _ _ _)=>s|_=> .busy
def Bn.lpe (c:Bn) (l:Nat):Option Code:=match Ak c.s.h l with|some (.loop _ p _ _ _)=>p|_=>none
theorem vnm {P:Program} (keep:List Nat) (h:Go P R B D0 Q ⟨c.m,c.k,Ks keep c.s⟩):Go P R B D0 Q c:=Fo _ (Gq keep c.s) h
def Bn.af (c0 c:Bn):Bn:=⟨match c.lpe c0.s.nx with|some x=> .code x|none=> .out .normal,c0.k,⟨c0.s.t,Hx c.s.h c0.s.nx,c.s.nx,c0.s.n⟩⟩
def tC:LoopState->Bool| .busy=>false|_=>true
def Bn.yl (c:Bn):Nat:=match c.s.ev c.fx with| .yld l=>l|_=>0
def QR (R:Option Nat) (B:Nat) (D0:Ap) (Q:Exit->St->Prop) (c0:Bn) (sp:Fa):Exit->St->Prop:=Xq Tryz.prog R B D0 c0.a c0.l.tail c0.o c0.s (KQ Tryz.prog R B D0 Q c0.k) c0.yl sp (c0.ln c0.yl)
def QY (l0 B:Nat) (D1:Ap) (bd:Code) (l:Nat) (_:Fa) (n:Nat) (QA:Exit->St->Prop):Exit->St->Prop:=oB (λs1=>∃sp1 t1,Ak s1.h l=some (.loop .ready none sp1 t1 n)/\AC Tryz.prog (some l0) B D1 bd ⟨s1.t,hset s1.h l (.loop .busy none sp1 t1 n),s1.nx,s1.n⟩ QA) λ_ _=>False
theorem kJ {B:Nat} {D0 E:Ap} {s:St} {a:Act} {ops:Array Oper} {o:Oper} (hs:Hv B D0 E s a) (h:Yv ops s o=some true):Region.wanted o (yielded ops a.tmps)=true:=by
 unfold Yv at h
 split at h
 rename_i hg;simp[Region.wanted,hg]
 rename_i j b hg
 split at h
 rename_i d hj
 split at h
 rename_i b' hv
 split at h
 simp[Region.wanted,hg,Pf hs hj hv]
 simp[Region.wanted,hg,Pf hs hj hv]
 cases h
 split at h<;>cases h
 cases h
 cases h
theorem vyl {sp:Fa} {ps:Array Tmp} {asg bd:Code} (nx0:Nat) (hps:sp.params=ps) (has:sp.assign=asg) (hbd:sp.body=bd)
  (h:∀l0 D1,(∀id,D1.A id->id<nx0)->(D1.A c.yl/\D1.π c.yl=l0)->Go Tryz.prog (some l0) B D1 (QY l0 B D1 bd c.yl sp (c.ln c.yl) (QR R B D0 Q c sp)) ⟨.code asg,[],⟨cB ps.toList (c.xs.toList.map c.s.ev) (c.lt c.yl),c.s.h,c.s.nx,c.ln c.yl⟩⟩)
  (ho:c.o.op= .call { callee:= .value c.fx,args:=c.xs,argTypes:=c.ts }:=by kernel_rfl) (hx:c.s.ev c.fx= .yld c.yl:=by kernel_rfl) (hl:Ak c.s.h c.yl=some (.loop .ready none sp (c.lt c.yl) (c.ln c.yl)):=by kernel_rfl) (hpb:psB ps (c.xs.toList.map c.s.ev).length (c.ln c.yl)=true:=by kernel_rfl) (hok:c.ok=true:=by kernel_rfl) (hnx:c.s.nx=nx0:=by kernel_rfl):Go Tryz.prog R B D0 Q c:=by
 obtain⟨m,k,s⟩:=c
 cases m with
 |code x=>cases hok
 |out e=>cases hok
 |ops a l=>
  cases l with
  |nil=>cases hok
  |cons o l=>
   have hok:(Yv a s o==some true&&Ly o s.n)=true:=hok
   exact⟨AaA _ _ _ _ _ _ _ hps has hbd (λE a' hs=>kJ hs (by simpa using (Bool.and_eq_true_iff.1 hok).1)) (Bool.and_eq_true_iff.1 hok).2 ho hx hl rfl hpb _ rfl λl0 D1 hD hl0=>(h l0 D1 (hnx▸hD) hl0).m⟩
def Bn.isNil (c:Bn):Bool:=match c.k with|[]=>true|_=>false
theorem vrb {l0:Nat} {D1:Ap} {bd:Code} {l:Nat} {sp:Fa} {n:Nat} {QA:Exit->St->Prop} (h:Go Tryz.prog (some l0) B D1 QA ⟨.code bd,[],⟨c.s.t,hset c.s.h l (.loop .busy none sp (c.lt l) n),c.s.nx,c.s.n⟩⟩) (hl:Ak c.s.h l=some (.loop .ready none sp (c.lt l) n):=by kernel_rfl) (hn:c.isN=true:=by kernel_rfl) (hk:c.isNil=true:=by kernel_rfl):Go Tryz.prog (some l0) B D1 (QY l0 B D1 bd l sp n QA) c:=by
 obtain⟨m,k,s⟩:=c
 unfold Bn.isN at hn
 split at hn
 rename_i hm
 cases hm
 cases k with
 |nil=>exact⟨⟨s,Hb.refl s,_,_,hl,h.m⟩⟩
 |cons i k=>cases hk
 cases hn
def Bn.e (c:Bn):Exit:=match c.m with| .out e=>e|_=> .normal
def rdB:Exit->Bool| .normal=>true|_=>false
def rdS:Exit->LoopState| .normal=> .ready|_=> .done
def rdC:Exit->Option Code| .ret=>some .ret| .exit id=>some (.exit id)|_=>none
def Bn.isX (c:Bn):Bool:=match c.m with| .out .normal=>true| .out .ret=>true| .out (.exit _)=>true|_=>false
theorem vre {R1:Option Nat} {D1:Ap} {c0:Bn} {sp:Fa} (h:Go Tryz.prog R B D0 Q ⟨.ops c0.a c0.l.tail,c0.k,⟨Lc c0.s.t c0.o.dst (.bool (rdB c.e)),hset c.s.h c0.yl (.loop (rdS c.e) (rdC c.e) sp (c.lt c0.yl) (c0.ln c0.yl)),c.s.nx,c0.s.n⟩⟩) (hl:Ak c.s.h c0.yl=some (.loop .busy none sp (c.lt c0.yl) (c0.ln c0.yl)):=by kernel_rfl) (hX:c.isX=true:=by kernel_rfl) (hk:c.isNil=true:=by kernel_rfl):Go Tryz.prog R1 B D1 (QR R B D0 Q c0 sp) c:=by
 obtain⟨m,k,s⟩:=c
 cases k with
 |cons i k=>cases hk
 |nil=>
  unfold Bn.isX at hX
  split at hX
  rename_i hm;cases hm;exact⟨⟨s,Hb.refl s,_,_,hl,h.m⟩⟩
  rename_i hm;cases hm;exact⟨⟨s,Hb.refl s,_,_,hl,h.m⟩⟩
  rename_i hm;cases hm;exact⟨⟨s,Hb.refl s,_,_,hl,h.m⟩⟩
  cases hX
end Go.Proofs.YtbggmndaahbojaaGreat
namespace Go.Proofs.YtbggmndaahbojaaGreat
open Go.RowKit
def Bn.setT (c:Bn) (d:Nat) (V:AV):Bn:=⟨c.m,c.k,⟨(d,V)::c.s.t,c.s.h,c.s.nx,c.s.n⟩⟩
theorem Ee {P:Program} {R:Option Nat} {B:Nat} {D0:Ap} {Q:Exit->St->Prop} {c:Bn} (d:Nat) (V0 V:AV) (h:∀(E:Ap) (v:Value),VR E V0 v->VR E V v) (hk:Go P R B D0 Q (c.setT d V)) (hd:Bl c.s.t d=V0:=by kernel_rfl):Go P R B D0 Q c:=
 Fo ⟨(d,V)::c.s.t,c.s.h,c.s.nx,c.s.n⟩ (λE a hs=>⟨E,rfl,hs.size,hs.df,λi=>by
  show VR E (Bl ((d,V)::c.s.t) i) _
  rw[Gr]
  by_cases hi:d=i
  subst hi
  rw[if_pos rfl]
  have h1:=hs.t d
  rw[hd] at h1
  exact h _ _ h1
  rw[if_neg hi];exact hs.t i,hs.h,hs.A⟩) hk
section
variable {P:Program} {R:Option Nat} {B:Nat} {D0:Ap} {Q:Exit->St->Prop} {c:Bn} {T:Ap->Prop}
end
def Vq (w:World) (bt:Nat->Nat) (k:Nat):Ap:={ π:=bt,cap:=λ_=>0,A:=λid=>id<k,D:=λb=>b<w.heap.size/\∀i,i<k->b≠bt i,w:=w }
abbrev Pk:=List (TypeId×List AV)
def Adh:Pk->Nat->Cx
 |[],_=>[]
 |p::l,i=>(i,.box p.1 p.2)::Adh l (i+1)
theorem dP:∀(l:Pk) (k id:Nat) (b:Ar),Ak (Adh l k) id=some b->∃i,i<l.length/\id=k+i/\b= .box (l.getD i (0,[])).1 (l.getD i (0,[])).2
 |[],k,id,b,h=>by cases h
 |p::l,k,id,b,h=>by
  have h:(if k=id then some (Ar.box p.1 p.2) else Ak (Adh l (k+1)) id)=some b:=h
  by_cases e:k=id
  rw[if_pos e] at h;cases h
  exact⟨0,by simp,ω,rfl⟩
  rw[if_neg e] at h
  obtain⟨i,h1,h2,h3⟩:=dP l (k+1) id b h
  exact⟨i+1,by simp;omega,ω,by simpa using h3⟩
def sM (t:TypeId) (us:List Value) (hs:Pk):Cx:=(0,.box t (us.map .lit))::Adh hs 1
def aY (P:Program) (f:FuncId) (t:TypeId) (us us':List Value) (hs:Pk) (args:List AV) (r:Value):Prop:=
 ∀(w:World) (vs:Array Value) (bt:Nat->Nat),(∀i j,i<hs.length+1->j<hs.length+1->bt i=bt j->i=j)->w.heap[bt 0]?=some (.cells us.toArray t (0,0))->(∀i,i<hs.length->BR (Vq w bt (hs.length+1)) (.box (hs.getD i (0,[])).1 (hs.getD i (0,[])).2) (bt (i+1)) 0)->
  vs.size=args.length->(∀i,i<args.length->VR (Vq w bt (hs.length+1)) (args.getD i .top) (vs.getD i undef))->
  Calls P f vs w λe w'=>e= .returned r/\w'.heap[bt 0]?=some (.cells us'.toArray t (0,0))/\(∀k,k≠bt 0->k<w.heap.size->w'.heap[k]?=w.heap[k]?)/\Below 0 w w'
def AV.det0:AV->Bool| .lit _=>true| .ptr .. =>true|_=>false
def AV.det:AV->Bool| .lit _=>true| .ptr .. =>true| .fn _ l=>l.all AV.det0| .agg l=>l.all AV.det0|_=>false
theorem VR.det0 {E E':Ap} (hπ:∀id,E.A id->E.π id=E'.π id) {x:AV} {v v':Value} (h:VR E x v) (h':VR E' x v') (hd:x.det0=true):v=v':=by
 cases x with
 |lit u=>rw[h.lit_inv,h'.lit_inv]
 |ptr id off=>
  cases h with
  |ptr _ _ _ hA=>cases h' with|ptr=>rw[hπ id hA]
 |_=>cases hd
theorem AhA {E E':Ap} {l:List AV} {vs vs':Array Value} (hn:vs.size=l.length) (hn':vs'.size=l.length) (h:∀i,i<l.length->VR E (l.getD i .top) (vs.getD i undef)) (h':∀i,i<l.length->VR E' (l.getD i .top) (vs'.getD i undef)) (hd:∀i,i<l.length->∀{v v':Value},VR E (l.getD i .top) v->VR E' (l.getD i .top) v'->v=v'):vs=vs':=by
 apply Array.ext
 omega
 intro i h1 h2
 have:=hd i ω (h i ω) (h' i ω)
 simpa [Array.getD,h1,h2] using this
theorem VR.det {E E':Ap} (hπ:∀id,E.A id->E.π id=E'.π id) {x:AV} {v v':Value} (h:VR E x v) (h':VR E' x v') (hd:x.det=true):v=v':=by
 have at0:∀{l:List AV},l.all AV.det0=true->∀i,i<l.length->(l.getD i .top).det0=true:=λh i hi=>by
  have:=List.all_eq_true.1 h _ (List.getElem_mem hi)
  simpa [Γ,hi] using this
 cases x with
 |lit u=>exact VR.det0 hπ h h' rfl
 |ptr id off=>exact VR.det0 hπ h h' rfl
 |fn g l=>
  cases h with
  |fn _ _ _ vs hn hr=>cases h' with
   |fn _ _ _ vs' hn' hr'=>rw[AhA hn hn' hr hr' λi hi _ _ g1 g2=>VR.det0 hπ g1 g2 (at0 hd i hi)]
 |agg l=>
  cases h with
  |agg _ _ vs hn hr=>cases h' with
   |agg _ _ vs' hn' hr'=>rw[AhA hn hn' hr hr' λi hi _ _ g1 g2=>VR.det0 hπ g1 g2 (at0 hd i hi)]
 |_=>cases hd
def Ajx (hs:Pk):Bool:=hs.all λp=>p.2.all AV.det
theorem Ahm {f:FuncId} {fn:Func} {c:Code} {t:TypeId} {us us':List Value} {hs:Pk} {args:List AV} {r:Value} (hf:Tryz.prog.funcs[f]?=some fn) (hc:fn.body=some c) (hle:Nat.ble args.length fn.ntmps=true) (hdt:Ajx hs=true)
  (h:∀B D0,(∀id,D0.A id->id<hs.length+1)->AC Tryz.prog none B D0 c ⟨Da args 0,sM t us hs,hs.length+1,fn.ntmps⟩ (λe s=>(e= .ret\/e= .normal)/\Nl Tryz.prog B D0 fn s (.lit r)/\Ak s.h 0=some (.box t (us'.map .lit))/\∀i,i<hs.length->Ak s.h (i+1)=some (.box (hs.getD i (0,[])).1 (hs.getD i (0,[])).2))):aY Tryz.prog f t us us' hs args r:=by
 intro w vs bt hinj hu hoth hsz hv
 have hle':args.length<=fn.ntmps:=by simpa using hle
 obtain⟨D0,hD0⟩:∃D0:Ap,D0=Vq w bt (hs.length+1):=⟨_,rfl⟩
 rw[<-hD0] at hv hoth
 have dA:∀id,D0.A id↔id<hs.length+1:=λid=>by rw[hD0];rfl
 have dD:∀k,D0.D k↔k<w.heap.size/\∀i,i<hs.length+1->k≠bt i:=λid=>by rw[hD0];rfl
 have dw:D0.w=w:=by rw[hD0];rfl
 have dp:∀id,D0.π id=bt id:=λid=>by rw[hD0];rfl
 have dc:∀id,D0.cap id=0:=λid=>by rw[hD0];rfl
 have hblt:∀i,i<hs.length+1->bt i<w.heap.size:=λi hi=>by
  cases i with
  |zero=>exact(Ξ hu).1
  |succ i=>have:=(hoth i ω).lt;rwa [dw] at this
 have hbr:BR D0 (.box t (us.map .lit)) (bt 0) 0:=by
  refine .box _ _ _ _ us.toArray (by rw[dw];exact hu) (by simp) λi hi=>?_
  have h2:i<us.length:=by simpa using hi
  have e1:(us.map AV.lit).getD i .top= .lit (us.toArray.getD i undef):=by simp[h2]
  rw[e1];exact .lit _ _
 have hget0:∀id b,Ak (sM t us hs) id=some b->id<hs.length+1/\BR D0 b (bt id) 0:=λid b hb=>by
  have hb:(if 0=id then some (Ar.box t (us.map .lit)) else Ak (Adh hs 1) id)=some b:=hb
  by_cases e:0=id
  rw[if_pos e] at hb;cases hb;subst e;exact⟨ω,hbr⟩
  rw[if_neg e] at hb
  obtain⟨i,h1,h2,rfl⟩:=dP hs 1 id b hb
  have:id=i+1:=by omega
  subst this
  exact⟨ω,hoth i h1⟩
 have hsim:Hv 0 D0 D0 ⟨Da args 0,sM t us hs,hs.length+1,fn.ntmps⟩ { tmps:=vs++Array.replicate (fn.ntmps-vs.size) undef,defers:=[] }:=by
  refine⟨by simp[hsz];omega,Nk.nil _ _ _,λi=>?_,⟨λid x hx=>?_,λi j x y hx hy hne=>?_,λk hk=>by rw[dw];exact((dD k).1 hk).1,λid hi=>by rw[dp,dw];exact hblt id ((dA id).1 hi),Ap.le.refl _,λ_ h=> .inl h,Nat.zero_le _⟩,λid hi=>(dA id).1 hi⟩
  have e0:=Lv args 0 i
  rw[Nat.zero_add] at e0
  show VR D0 (Bl (Da args 0) i) _
  rw[e0]
  by_cases hi:i<args.length
  have h2:(vs++Array.replicate (fn.ntmps-vs.size) undef).getD i undef=vs.getD i undef:=by
   simp only[Array.getD_eq_getD_getElem?,Array.getElem?_append_left (show i<vs.size by omega)]
  rw[h2]
  exact hv i hi
  have:args.getD i .top= .top:=by rw[Γ,List.getElem?_eq_none ω];rfl
  rw[this]
  exact .top _ _
  obtain⟨h1,h2⟩:=hget0 id x hx
  refine⟨(dA id).2 h1,by rw[dp,dc];exact h2,λhk=>?_,Nat.zero_le _⟩
  rw[dp] at hk
  exact((dD _).1 hk).2 id h1 rfl
  rw[dp,dp]
  intro e
  exact hne (hinj i j (hget0 i x hx).1 (hget0 j y hy).1 e)
 have hrun:=(h 0 D0 (λid hi=>(dA id).1 hi)).run D0 _ hsim
 rw[dw] at hrun
 refine Mh hf hc (wpIn_wide.1 (Cq ?_ hrun))
 rintro e a' w' ⟨s',E',rfl,⟨he,hr,hk,hko⟩,hs',hbl⟩
 obtain⟨ms,m1,m2,m3⟩:=hs'.df
 have fin:bodyPostM Fence.wide 0 Tryz.prog fn (λe w'=>e= .returned r/\w'.heap[bt 0]?=some (.cells us'.toArray t (0,0))/\(∀k,k≠bt 0->k<w.heap.size->w'.heap[k]?=w.heap[k]?)/\Below 0 w w') .ret a' E'.w:=by
  refine Qz ms m1 m2 (λm hm=>(m3 m hm).2.2.2) λW hk2 hz=>?_
  obtain⟨k1,k2⟩:=hs'.unmark m3 hk2 hz
  obtain⟨v,hv,hrv⟩:=hr _ _ k1
  have hp:∀id,id<hs.length+1->E'.π id=bt id:=λid hi=>by rw[hs'.h.le0.π id ((dA id).2 hi),dp]
  obtain⟨arr,ha1,ha2⟩:=k1.h.box hk
  have ha3:W.heap[bt 0]?=some (.cells arr t (0,0)):=by rw[<-hp 0 ω];exact ha1
  have ha4:arr=us'.toArray:=VR.lits (E:={ E' with w:=W }) (by have:=ha2.1;simpa using this) ha2.2
  have hl:=k1.h.le0
  refine⟨v,hv,⟨by rw[hrv.lit_inv],by rw[ha3,ha4],λk hkb hkl=>?_,?_⟩⟩
  by_cases hin:∃i,i<hs.length/\k=bt (i+1)
  obtain⟨i,hi,rfl⟩:=hin
  obtain⟨arr2,hb1,hb2⟩:=k1.h.box (hko i hi)
  have hb3:W.heap[bt (i+1)]?=some (.cells arr2 (hs.getD i (0,[])).1 (0,0)):=by rw[<-hp (i+1) ω];exact hb1
  have ho:=hoth i hi
  generalize hbb:bt (i+1)=bb at ho hb3 hkl
  cases ho with
  |box _ _ _ _ arr3 g1 g2 g3=>
   rw[dw] at g1
   have hdet:∀j,j<(hs.getD i (0,[])).2.length->((hs.getD i (0,[])).2.getD j .top).det=true:=λj hj=>by
    have h1:=List.all_eq_true.1 hdt _ (List.getElem_mem hi)
    have e1:hs.getD i (0,[])=hs[i]:=by simp[hi]
    rw[e1] at hj ⊢
    have h2:=List.all_eq_true.1 h1 _ (List.getElem_mem hj)
    have e2:hs[i].2.getD j .top=hs[i].2[j]:=by simp[hj]
    rw[e2];exact h2
   have e9:arr3=arr2:=AhA (E:=D0) (E':={ E' with w:=W }) g2 hb2.1 g3 (λj _=>hb2.2 j) λj hj v v' q1 q2=>VR.det (E:=D0) (E':={ E' with w:=W }) (λid hA=>(hl.π id hA).symm) q1 q2 (hdet j hj)
   rw[hb3,g1,e9]
  have:=hl.blk k ((dD k).2 ⟨hkl,λi hi e=>by
   cases i with
   |zero=>exact hkb e
   |succ i=>exact hin ⟨i,ω,e⟩⟩)
  rw[dw] at this
  exact this
  exact(hbl.trans k2).mono Ω
 rcases he with rfl|rfl
 exact fin
 exact fin
def wW:List Nat->Nat->Nat->Option Nat
 |[],_,_=>none
 |a::l,id,k=>if a=id then some k else wW l id (k+1)
theorem sI:∀(l:List Nat) (id k j:Nat),wW l id k=some j->∃i,i<l.length/\j=k+i/\l.getD i 0=id
 |[],_,_,_,h=>by cases h
 |a::l,id,k,j,h=>by
  unfold wW at h
  by_cases e:a=id
  rw[if_pos e] at h;cases h
  exact⟨0,by simp,ω,by simpa using e⟩
  rw[if_neg e] at h
  obtain⟨i,h1,h2,h3⟩:=sI l id (k+1) j h
  exact⟨i+1,by simp;omega,ω,by simpa using h3⟩
def Ak7 (L:List Nat):AV->AV
 | .ptr i off=>match wW L i 0 with|some j=> .ptr j off|none=> .top
 |x=>if x.flat then x else .top
def Zd (L:List Nat) (x:AV):AV:=x.map1 (Ak7 L)
def kY (L:List Nat) (hs:Pk):Pk:=hs.map λp=>(p.1,p.2.map (Zd L))
theorem Acy {E:Ap} {L:List Nat} (hb:∀k,E.D k->k<E.w.heap.size) (hn:∀i,i<L.length->¬E.D (E.π (L.getD i 0))) {x:AV} {v:Value} (h:VR E x v):VR (Vq E.w (λj=>E.π (L.getD j 0)) L.length) (Zd L x) v:=by
 have hl:E.fz.le (Vq E.w (λj=>E.π (L.getD j 0)) L.length):=Ap.fz_le_of (λk hk=>⟨hb k hk,λi hi e=>hn i hi (by have e:k=E.π (L.getD i 0):=e;rw[<-e];exact hk)⟩) λk _=>rfl
 refine VR.map1 (λy u hy=>?_) h
 have hfl:VR (Vq E.w (λj=>E.π (L.getD j 0)) L.length) (if y.flat then y else .top) u:=by
  by_cases hf:y.flat=true
  rw[if_pos hf];exact(hy.flat hf).up hl
  rw[if_neg hf];exact .top _ _
 cases hy with
 |ptr _ i off hA=>
  show VR _ (match wW L i 0 with|some j=>AV.ptr j off|none=> .top) _
  cases hj:wW L i 0 with
  |none=>exact .top _ _
  |some j=>
   obtain⟨q,h1,h2,h3⟩:=sI L i 0 j hj
   have h2:j=q:=by omega
   subst h2
   have:=VR.ptr (Vq E.w (λj=>E.π (L.getD j 0)) L.length) j off h1
   have e:(Vq E.w (λj=>E.π (L.getD j 0)) L.length).π j=E.π i:=by show E.π (L.getD j 0)=_;rw[h3]
   rw[e] at this
   exact this
 |_=>exact hfl
theorem Yk:∀{L:List Nat},Kq L=true->∀i j,i<L.length->j<L.length->L.getD i 0=L.getD j 0->i=j
 |[],_,i,_,hi,_,_=>absurd hi (Nat.not_lt_zero i)
 |a::l,h,i,j,hi,hj,e=>by
  have h2:=Bool.and_eq_true_iff.1 h
  have key:∀q,q<l.length->a≠l.getD q 0:=λq hq e=>by
   have:=List.all_eq_true.1 h2.1 _ (List.getElem_mem hq)
   have e2:l.getD q 0=l[q]:=by simp[hq]
   rw[<-e2,<-e,Nat.beq_refl] at this
   cases this
  cases i with
  |zero=>cases j with
   |zero=>rfl
   |succ j=>exact absurd (by simpa using e) (key j (by simpa using hj))
  |succ i=>cases j with
   |zero=>exact absurd (by simpa using e.symm) (key i (by simpa using hi))
   |succ j=>rw[Yk h2.2 i j (by simpa using hi) (by simpa using hj) (by simpa using e)]
variable {P:Program} {R:Option Nat} {B:Nat} {D0:Ap} {s:St} {Q:Exit->St->Prop} {o:Oper} {ev:Operand->AV} {pre:Nat->Option Ar}
theorem dZ (x:Operand) (f:FuncId) (xs:Array Operand) (ts:Array TypeId) (ho:o.op= .call { callee:= .value x,args:=xs,argTypes:=ts }) (caps:List AV) (hx:ev x= .fn f caps) (hcall:∀(vs:Array Value) w,(callFunc f vs).run P w= .ok (.enter f vs) w) (id:Nat) (ids:List Nat) (hdi:Kq (id::ids)=true) (t:TypeId) (us us':List Value) (hp:pre id=some (.box t (us.map .lit))) (ps:Pk) (hps:ids.map pre=ps.map λp=>some (.box p.1 p.2)) (hs:Pk) (hhs:kY (id::ids) ps=hs) (args:List AV) (hargs:(xs.toList.map ev++caps).map (Zd (id::ids))=args) (r:Value) (hf:aY P f t us us' hs args r):Cw P B D0 o ev pre (.lit r) (.setr ids id (.box t (us'.map .lit))):=by
 subst hargs
 subst hhs
 refine⟨?_⟩
 intro E a c K Q _ hh htch _ hv k
 have hc:=(htch id (by simp[Ba.touch])).trans hp
 obtain⟨arr,ha1,ha2⟩:=hh.box hc
 have ha4:arr=us.toArray:=VR.lits (E:=E) (by have:=ha2.1;simpa using this) ha2.2
 subst ha4
 obtain⟨l1,l2,l3,l4⟩:=hh.live id _ hc
 have hlen:ids.length=ps.length:=by have:=congrArg List.length hps;simpa using this
 have hci:∀i,i<ids.length->c (ids.getD i 0)=some (.box (ps.getD i (0,[])).1 (ps.getD i (0,[])).2):=λi hi=>by
  have hi2:i<ps.length:=by omega
  have e1:ids.getD i 0=ids[i]:=by simp[hi]
  have e2:ps.getD i (0,[])=ps[i]:=by simp[hi2]
  have h1:(ids.map pre)[i]?=(ps.map λp=>some (Ar.box p.1 p.2))[i]?:=by rw[hps]
  simp only[List.getElem?_map,List.getElem?_eq_getElem hi,List.getElem?_eq_getElem hi2,Option.map_some,Option.some.injEq] at h1
  rw[e1,e2,<-h1]
  exact htch _ (by simp[Ba.touch])
 have hLs:∀j,j<(id::ids).length->∃b,c ((id::ids).getD j 0)=some b:=λj hj=>by
  cases j with
  |zero=>exact⟨_,hc⟩
  |succ j=>exact⟨_,hci j (by simpa using hj)⟩
 have hnD:∀i,i<(id::ids).length->¬E.D (E.π ((id::ids).getD i 0)):=λi hi=>by
  obtain⟨b,hb⟩:=hLs i hi
  exact(hh.live _ b hb).2.2.1
 have hfv:=hv x (by simp[ho,Op.operands,Call.operands])
 rw[hx] at hfv
 generalize hz:a.eval x=z at hfv
 cases hfv with
 |fn _ _ _ vs hn hr=>
 have hrun:(execOp a.eval o).run P E.w=(callFunc f (xs.map a.eval++vs)).run P E.w:=by simp[execOp,ho,resolve,Deferred.ofValue,hz,invoke]
 have hk1:(kY (id::ids) ps).length+1=(id::ids).length:=by simp[kY,hlen]
 unfold Oper.wp
 rw[hrun,hcall]
 show Calls P f _ E.w _
 refine(hf E.w (xs.map a.eval++vs) (λj=>E.π ((id::ids).getD j 0)) (λi j hi hj e=>?_) ha1 (λi hi=>?_) (by simp[hn]) λi hi=>?_).mono ?_
 rw[hk1] at hi hj
 obtain⟨bi,hbi⟩:=hLs i hi
 obtain⟨bj,hbj⟩:=hLs j hj
 by_cases hij:(id::ids).getD i 0=(id::ids).getD j 0
 exact Yk hdi i j hi hj hij
 exact absurd e (hh.inj _ _ bi bj hbi hbj hij)
 have hi2:i<ps.length:=by simpa [kY] using hi
 rw[hk1]
 have e2:(kY (id::ids) ps).getD i (0,[])=((ps.getD i (0,[])).1,(ps.getD i (0,[])).2.map (Zd (id::ids))):=by simp[kY,hi2]
 rw[e2]
 have hb:=(hh.live _ _ (hci i ω)).2.1
 show BR _ _ (E.π ((id::ids).getD (i+1) 0)) 0
 rw[show (id::ids).getD (i+1) 0=ids.getD i 0 by simp]
 cases hb with
 |box _ _ _ _ arr2 g1 g2 g3=>
  refine .box _ _ _ _ arr2 g1 (by simpa using g2) λj hj=>?_
  have hj2:j<(ps.getD i (0,[])).2.length:=by simpa using hj
  have e3:((ps.getD i (0,[])).2.map (Zd (id::ids))).getD j .top=Zd (id::ids) ((ps.getD i (0,[])).2.getD j .top):=by
   simp only[Γ,List.getElem?_map]
   simp only[Γ] at hj2
   rw[List.getElem?_eq_getElem hj2];rfl
  show VR _ (((ps.getD i (0,[])).2.map (Zd (id::ids))).getD j .top) _
  rw[e3]
  exact Acy hh.bnd hnD (g3 j hj2)
 rw[hk1]
 have hlen2:i<xs.size+caps.length:=by simpa using hi
 have e0:((xs.toList.map ev++caps).map (Zd (id::ids))).getD i .top=Zd (id::ids) ((xs.toList.map ev++caps).getD i .top):=by
  have:i<(xs.toList.map ev++caps).length:=by simpa using hi
  simp only[Γ,List.getElem?_map,List.getElem?_eq_getElem this,Option.map_some,Option.getD_some]
 rw[e0]
 refine Acy hh.bnd hnD ?_
 by_cases hi1:i<xs.size
 have e1:(xs.toList.map ev++caps).getD i .top=ev xs[i]:=by simp[List.getElem?_append,hi1]
 have e2:(xs.map a.eval++vs).getD i undef=a.eval xs[i]:=by simp[Array.getD_eq_getD_getElem?,Array.getElem?_append,hi1]
 rw[e1,e2]
 exact hv _ (by simp[ho,Op.operands,Call.operands])
 have hi3:i-xs.size<caps.length:=by omega
 have e1:(xs.toList.map ev++caps).getD i .top=caps.getD (i-xs.size) .top:=by simp[List.getElem?_append,hi1]
 have e2:(xs.map a.eval++vs).getD i undef=vs.getD (i-xs.size) undef:=by simp[Array.getD_eq_getD_getElem?,Array.getElem?_append,hi1]
 rw[e1,e2]
 exact hr _ hi3
 rintro e w' ⟨rfl,hb1,hb2,hb3⟩
 have hb1:w'.heap[E.π id]?=some (.cells us'.toArray t (0,0)):=hb1
 have hb2:∀k,k≠E.π id->k<E.w.heap.size->w'.heap[k]?=E.w.heap[k]?:=hb2
 have hle:E.le { E with w:=w' }:=⟨λ_ h=>h,λ_ _=>rfl,λ_ h=>h,λb hb'=>hb2 b (λe=>l3 (e▸hb')) (hh.bnd b hb'),λ_ _=>rfl⟩
 refine k r { E with w:=w' } hle ⟨hb3.os,hb3.tape,hb3.output,hb3.size,λb hb'=>hb2 b ω (by have:=hh.B;omega)⟩ (.lit _ _) ⟨λi x hx=>?_,λi j x y hx hy hne=>?_,λb hb'=>Nat.lt_of_lt_of_le (hh.bnd b hb') hb3.size,λi hi=>Nat.lt_of_lt_of_le (hh.abd i hi) hb3.size,hh.le0.trans hle,hh.new,Nat.le_trans hh.B hb3.size⟩ λi hi=> .inl hi
 have hx2:(if id=i then some (Ar.box t (us'.map .lit)) else c i)=some x:=hx
 by_cases e1:id=i
 subst e1
 rw[if_pos rfl] at hx2
 cases hx2
 refine⟨l1,.box _ _ _ _ us'.toArray hb1 (by simp) λq hq=>?_,l3,l4⟩
 have h2:q<us'.length:=by simpa using hq
 have e3:(us'.map AV.lit).getD q .top= .lit (us'.toArray.getD q undef):=by simp[h2]
 rw[e3];exact .lit _ _
 rw[if_neg e1] at hx2
 obtain⟨j1,j2,j3,j4⟩:=hh.live i x hx2
 exact⟨j1,j2.up hle (hb2 _ (hh.inj i id x _ hx2 hc (λe=>e1 e.symm)) j2.lt),j3,j4⟩
 have real:∀q z,(if id=q then some (Ar.box t (us'.map .lit)) else c q)=some z->∃z',c q=some z':=λq z hz=>by
  by_cases e:id=q
  subst e;exact⟨_,hc⟩
  rw[if_neg e] at hz;exact⟨z,hz⟩
 obtain⟨x',hx'⟩:=real i x hx
 obtain⟨y',hy'⟩:=real j y hy
 exact hh.inj i j x' y' hx' hy' hne
end Go.Proofs.YtbggmndaahbojaaGreat