/- Part 20 of the proof of PC.clocks_holds, joined by program: no condition beyond the row's own. -/
import Derived.Test.YthhkfanbmpcmbaaGreatDoorPC19
import Derived.Scope
set_option maxRecDepth 100000
set_option maxHeartbeats 40000000
namespace Go.Proofs.YthhkfanbmpcmbaaGreatDoor
theorem Hh {P:Program} {b:Frame} {a:Act} {k:List Item} {cs:List Frame} {w:World} {c:Code}:step P (lone (b.atR a (.code (.scope c)::k)) cs w)= .next (lone (b.atR a (.code c:: .inScope c::k)) cs w):=
 step_lone_go (by simp[Go.stepG,Go.stepG.exec,Frame.atR])
theorem Zi {P:Program} {b:Frame} {a:Act} {k:List Item} {cs:List Frame} {w:World} {c:Code}:step P (lone (b.atR a (.inScope c::k)) cs w)= .next (lone (b.atR a k) cs w):=
 step_lone_go (by simp[Go.stepG,Go.stepG.exec,Frame.atR])
theorem oB {F:Fence} {n:Nat} {P:Program} {Q:Exit->Act->World->Prop} {a:Act} {w:World} {c:Code} (h:c.wpIn F n P (Exit.noGoto Q) a w):(Code.scope c).wpIn F n P Q a w:=by
 intro b k cs hro hb hr
 have h0:(lone (b.atR a (.code (.scope c)::k)) cs w).fenced P F:=fenced_calm hb hr rfl
 obtain⟨e,a₁,w₁,hq,harr⟩:=h b (.inScope c::k) cs hro hb hr
 cases e with
 |normal=>exact⟨.normal,a₁,w₁,hq,.head h0 Hh (StepsIn.trans harr (.one (fenced_calm hb hr rfl) Zi))⟩
 |exit id=>
  have hx:exitTo id (.inScope c::k)=exitTo id k:=by simp[exitTo]
  exact⟨.exit id,a₁,w₁,hq,λk' hk=> .head h0 Hh (harr.1 k' (by rw[hx];exact hk)),
   λhr' hk=>let ⟨k₁,h1,h2⟩:=harr.2 hr' (by rw[hx];exact hk);⟨k₁,h1,.head h0 Hh h2⟩⟩
 |goto l=>exact hq.elim
 |ret=>exact⟨_,a₁,w₁,hq,.of_steps (.one h0 Hh) harr⟩
 |panic ch=>exact⟨_,a₁,w₁,hq,.of_steps (.one h0 Hh) harr⟩
 |outgrown=>exact⟨_,a₁,w₁,hq,.of_steps (.one h0 Hh) harr⟩
def Af0 (Q:Exit->St->Prop):Exit->St->Prop
 | .goto _,_=>False
 |e,s=>Q e s
theorem wJ {P:Program} {R:Option Nat} {B:Nat} {D0:Aq} {s:St} {Q:Exit->St->Prop} {c:Code} (h:AC P R B D0 c s (Af0 Q)):AC P R B D0 (.scope c) s Q:=⟨λE a hs=>
 oB (Cs (λe a' w' ⟨s',E',h1,h2,h3,h4⟩=>by
  cases e with
  |goto l=>exact h2.elim
  |normal=>exact⟨s',E',h1,h2,h3,h4⟩
  |exit id=>exact⟨s',E',h1,h2,h3,h4⟩
  |ret=>exact⟨s',E',h1,h2,h3,h4⟩
  |panic ch=>exact⟨s',E',h1,h2,h3,h4⟩
  |outgrown=>exact⟨s',E',h1,h2,h3,h4⟩) (h.run E a hs))⟩
theorem dO {B:Nat} {D0:Aq} {s:St} (id:Nat) (t:TypeId) (cs:List AV) (s':St) (hc:Ao s.h id=some (.box t cs)) (hs':(⟨mapT (frzB id cs) s.t,(Fg s.h id).map λp=>(p.1,p.2.mapB (frzB id cs)),s.nx,s.n⟩:St)=s') (hf:cs.all AV.free=true) (E:Aq) (a:Act) (hs:Gl B D0 E s a):∃E',E'.w=E.w/\Gl B D0 E' s' a:=by
 refine Ox id (frzB id cs) s' hs' hc (λE x v hh hv=>?_) E a hs
 have up:=hv.up (E.le_fr id)
 obtain⟨arr,hb,hvs⟩:=hh.box hc
 cases hv with
 |osl _ id' e' m hA=>
  unfold frzB
  simp only
  by_cases e1:id'=id
  rw[if_pos e1];exact .top _ _
  rw[if_neg e1];exact up
 |ptr _ id' off hA=>
  unfold frzB
  simp only
  by_cases e1:id'=id
  subst e1
  rw[if_pos rfl]
  refine .elt _ _ _ _ _ (λj=>arr.getD (off+j) undef) (.inr rfl) (λj hj=>Ih hb (by rw[hvs.1];omega)) λj hj=>?_
  have:=hvs.2 (off+j)
  have e2:cs.getD (off+j) .top=cs[off+j]:=by simp[List.getD_eq_getElem?_getD,show off+j<cs.length by omega]
  refine(this.free ?_).up (E.le_fr id').fz
  rw[e2]
  exact List.all_eq_true.1 hf _ (List.getElem_mem _)
  rw[if_neg e1];exact up
 |_=>exact up
theorem uH {P:Program} {B:Nat} {D0:Aq} {o:Oper} {ev:Operand->AV} {pre:Nat->Option Bf} (f:FuncId) (xs:Array Operand) (ts:Array TypeId) (ho:o.op= .call { callee:= .value (.func f),args:=xs,argTypes:=ts }) (hcall:∀(vs:Array Value) w,(callFunc f vs).run P w= .ok (.enter f vs) w) (id:Nat) (blk:Bf) (hp:pre id=some blk) (bv:AV->AV) (hbv:∀(E:Aq) (c:Nat->Option Bf),HR B D0 E c->c id=some blk->∀x v,VR E x v->VR (E.fr id).fz (bv x) v) (Cz:List AV) (hargs0:xs.toList.map ev=Cz) (args:List AV) (hargs:Cz.map bv=args) (r:AV) (hf:AF P f args r):Dl P B D0 o ev pre r (.drop id):=by
 subst hargs
 subst hargs0
 refine⟨?_⟩
 intro E a c K Q _ hh htch _ hv k
 have hc:=(htch id (by simp[Bk.touch])).trans hp
 obtain⟨l1,l2,l3,l4⟩:=hh.live id _ hc
 unfold Oper.wp
 rw[show (execOp a.eval o).run P E.w=(callFunc f (xs.map a.eval)).run P E.w by simp[execOp,ho,resolve,Deferred.ofValue,Act.eval,invoke],hcall]
 show Calls P f _ E.w _
 refine(hf (E.fr id) (xs.map a.eval) (λb hb=>?_) (by simp) λi hi=>?_).mono ?_
 rcases hb with hb|hb
 exact hh.bnd b hb
 rw[hb];exact l2.lt
 have hi2:i<xs.size:=by simpa using hi
 have e1:((xs.toList.map ev).map bv).getD i .top=bv (ev xs[i]):=by simp[List.getD_eq_getElem?_getD,hi2]
 have e2:(xs.map a.eval).getD i undef=a.eval xs[i]:=by simp[hi2]
 rw[e1,e2]
 exact hbv _ _ hh hc _ _ (hv _ (by simp[ho,Op.operands,Call.operands]))
 rintro e w' ⟨v,D',rfl,hr,hb,hd1,hd2,hd3⟩
 have hz:(E.fr id).w=E.w:=rfl
 rw[hz] at hb hd2
 have hle:E.le { E with D:=D',w:=w' }:=⟨λ_ h=>h,λ_ _=>rfl,λb h=>hd1 b (.inl h),λb hb'=>hb.block b (hh.bnd b hb'),λ_ _=>rfl⟩
 have hn:∀b,D' b->(E.D b\/b=E.π id)\/E.w.heap.size<=b:=hd2
 refine k v { E with D:=D',w:=w' } hle (hb.mono hh.B) hr ⟨λi x hx=>?_,λi j x y hx hy=>?_,hd3,λi hi=>Nat.lt_of_lt_of_le (hh.abd i hi) hb.size,hh.le0.trans hle,λb hb'=>?_,Nat.le_trans hh.B hb.size⟩ λi hi=> .inl hi
 have hx2:(if id=i then Option.none else c i)=some x:=hx
 by_cases e1:id=i
 rw[if_pos e1] at hx2;cases hx2
 rw[if_neg e1] at hx2
 obtain⟨j1,j2,j3,j4⟩:=hh.live i x hx2
 refine⟨j1,j2.up hle (hb.block _ j2.lt),λh=>?_,j4⟩
 rcases hn _ h with(h|h)|h
 exact j3 h
 exact hh.inj i id x blk hx2 hc (λe=>e1 e.symm) h
 have:E.π i<E.w.heap.size:=j2.lt
 have h:E.w.heap.size<=E.π i:=h
 omega
 have hx2:(if id=i then Option.none else c i)=some x:=hx
 have hy2:(if id=j then Option.none else c j)=some y:=hy
 by_cases e1:id=i
 rw[if_pos e1] at hx2;cases hx2
 by_cases e2:id=j
 rw[if_pos e2] at hy2;cases hy2
 rw[if_neg e1] at hx2;rw[if_neg e2] at hy2
 exact hh.inj i j x y hx2 hy2
 rcases hn b hb' with(h|h)|h
 exact hh.new b h
 exact .inr (by rw[h];exact l4)
 exact .inr (Nat.le_trans hh.B h)
def Acf (id:Nat) (blk:Bf) (x:AV):AV:=match blk,x with
 | .vec _ e n f,.osl id' e' m=>if id'=id then (if Nat.beq e' e&&Nat.ble m n then .slc e m f else .top) else .top
 |_,_=>sB id blk x
theorem Acg {B:Nat} {D0 E:Aq} {c:Nat->Option Bf} (hh:HR B D0 E c) {id:Nat} {blk:Bf} (hc:c id=some blk) (hf:∀t e n f,blk= .vec t e n f->∀i,i<n->∀j,j<e->((f i).cell j).flat=true) {x:AV} {v:Value} (hv:VR E x v):VR (E.fr id).fz (Acf id blk x) v:=by
 have base:=oV hh hc hf hv
 unfold Acf
 split
 rename_i t e n f id' e' m
 have base:VR (E.fr id).fz (if id'=id then (if Nat.beq e' e&&Nat.ble m n then AV.sl e m f else .top) else .top) v:=base
 by_cases e1:id'=id
 subst e1
 rw[if_pos rfl] at base ⊢
 by_cases e2:(Nat.beq e' e&&Nat.ble m n)=true
 rw[if_pos e2] at base ⊢
 obtain⟨arr,hb,hn,hcp,hr⟩:=hh.vec hc
 simp only[Bool.and_eq_true,Nat.ble_eq] at e2
 cases hv with
 |osl _ _ _ _ hA=>exact .slc _ _ _ _ _ _ (by have:=hcp.1;omega) base
 rw[if_neg e2];exact .top _ _
 rw[if_neg e1];exact .top _ _
 exact base
theorem Kb {P:Program} {B:Nat} {D0:Aq} {o:Oper} {ev:Operand->AV} {pre:Nat->Option Bf} (f:FuncId) (xs:Array Operand) (ts:Array TypeId) (ho:o.op= .call { callee:= .value (.func f),args:=xs,argTypes:=ts }) (hcall:∀(vs:Array Value) w,(callFunc f vs).run P w= .ok (.enter f vs) w) (id:Nat) (blk:Bf) (hp:pre id=some blk) (hfl:∀t e n f,blk= .vec t e n f->∀i,i<n->∀j,j<e->((f i).cell j).flat=true) (Cz:List AV) (hargs0:xs.toList.map ev=Cz) (args:List AV) (hargs:Cz.map (Acf id blk)=args) (r:AV) (hf:AF P f args r):Dl P B D0 o ev pre r (.drop id):=uH f xs ts ho hcall id blk hp (Acf id blk) (λ_ _ hh hc _ _ hv=>Acg hh hc hfl hv) Cz hargs0 args hargs r hf
theorem AeN {P:Program} {B:Nat} {D0:Aq} {s:St} {fn:Func} {r1 r2 r3 r4 r5:ResultVar} {x y z u t:AV} (hr:fn.results=#[r1,r2,r3,r4,r5]) (h1:Mu P B D0 s r1 x) (h2:Mu P B D0 s r2 y) (h3:Mu P B D0 s r3 z) (h4:Mu P B D0 s r4 u) (h5:Mu P B D0 s r5 t):Lr P B D0 fn s (mkTup [x,y,z,u,t]):=λE a hs=>by
 obtain⟨v1,e1,f1⟩:=h1 E a hs
 obtain⟨v2,e2,f2⟩:=h2 E a hs
 obtain⟨v3,e3,f3⟩:=h3 E a hs
 obtain⟨v4,e4,f4⟩:=h4 E a hs
 obtain⟨v5,e5,f5⟩:=h5 E a hs
 refine⟨.tuple #[v1,v2,v3,v4,v5],by simp[Gf,hr,e1,e2,e3,e4,e5],VR.tupl [x,y,z,u,t] _ rfl (λi hi=>?_) _ rfl⟩
 match i with
 |0=>exact f1
 |1=>exact f2
 |2=>exact f3
 |3=>exact f4
 |4=>exact f5
end Go.Proofs.YthhkfanbmpcmbaaGreatDoor
namespace Go.Proofs.YthhkfanbmpcmbaaGreatDoor
open Go.RowKit
inductive KI where
 |seq (y:Code)
 |blk (id:Nat)
 |lp (I:St->Prop)
 |scp
 |un (n:Nat) (b:Code)
 |il (b:Code)
inductive Md where
 |code (c:Code)
 |ops (a:Array Oper) (l:List Oper)
 |out (e:Exit)
structure Bv where
 m:Md
 k:List KI
 s:St
section
variable (P:Program) (R:Option Nat) (B:Nat) (D0:Aq)
def KQ (Q:Exit->St->Prop):List KI->Exit->St->Prop
 |[]=>Q
 | .seq y::k=>lS (λs1=>AC P R B D0 y s1 (KQ Q k)) (KQ Q k)
 | .blk id::k=>oP id (KQ Q k)
 | .lp I::k=>lS I (KQ Q k)
 | .scp::k=>Af0 (KQ Q k)
 | .un n b::k=>lS (Pz P R B D0 b (KQ Q k) n) (KQ Q k)
 | .il b::k=>lS (λs=>ALW P R B D0 b s (KQ Q k)) (KQ Q k)
def Gk (s s':St):Prop:=∀E a,Gl B D0 E s a->∃E',E'.w=E.w/\Gl B D0 E' s' a
def GoM (Q:Exit->St->Prop) (k:List KI) (s:St):Md->Prop
 | .code x=>AC P R B D0 x s (KQ P R B D0 Q k)
 | .ops a l=>AL P R B D0 a l s (KQ P R B D0 Q k)
 | .out e=>∃s',Gk B D0 s s'/\KQ P R B D0 Q k e s'
structure Go (Q:Exit->St->Prop) (c:Bv):Prop where
 m:GoM P R B D0 Q c.k c.s c.m
end
variable {P:Program} {R:Option Nat} {B:Nat} {D0:Aq} {Q:Exit->St->Prop} {c:Bv}
theorem Gk.refl (s:St):Gk B D0 s s:=λE _ h=>⟨E,rfl,h⟩
theorem Gk.trans {a b d:St} (h:Gk B D0 a b) (g:Gk B D0 b d):Gk B D0 a d:=λE x hs=>by
 obtain⟨E1,e1,h1⟩:=h E x hs
 obtain⟨E2,e2,h2⟩:=g E1 x h1
 exact⟨E2,e2.trans e1,h2⟩
theorem yG {k:List KI} {s s':St} (hw:Gk B D0 s s'):∀m,GoM P R B D0 Q k s' m->GoM P R B D0 Q k s m
 | .code _,h=>oE hw h
 | .ops _ _,h=>oO hw h
 | .out _,⟨s2,h1,h2⟩=>⟨s2,hw.trans h1,h2⟩
theorem Fv (s':St) (hw:Gk B D0 c.s s') (h:Go P R B D0 Q ⟨c.m,c.k,s'⟩):Go P R B D0 Q c:=⟨yG hw _ h.m⟩
theorem cC {x:Code} {s:St} {Q:Exit->St->Prop} {e:Exit} (h:∃s',Gk B D0 s s'/\Q e s') (hx:∀s,Q e s->AC P R B D0 x s Q):AC P R B D0 x s Q:=by
 obtain⟨s',h1,h2⟩:=h
 exact oE h1 (hx s' h2)
def Uy (a:Array Oper) (s:St) (o:Oper):Option Bool:=match o.guard with
 |none=>some true
 |some (j,b)=>match (a[j]?).bind (·.dst) with
  |some d=>match Bo s.t d with
   | .lit (.bool b')=>match b,b' with
    |true,true|false,false=>some true
    |_,_=>some false
   | .lit (.tuple v)=>match v.toList with
    |[]=>some false
    |_=>none
   |_=>none
  |none=>none
def AeT (P:Program) (a:Array Oper) (o:Oper) (l:List Oper) (k:List KI) (s:St):Bv:=
 match Uy a s o with
 |some true=>match evH P o s.ev (Ao s.h) s.nx with
  |some (V,f)=>bif f.low s.nx&&Jg o s.n then ⟨.ops a l,k,⟨Iz s.t o.dst V,f.ap s.h,f.nx s.nx,s.n⟩⟩ else ⟨.ops a (o::l),k,s⟩
  |none=>⟨.ops a (o::l),k,s⟩
 |some false=>bif Jg o s.n then ⟨.ops a l,k,⟨Iz s.t o.dst .undef,s.h,s.nx,s.n⟩⟩ else ⟨.ops a (o::l),k,s⟩
 |none=>⟨.ops a (o::l),k,s⟩
theorem iA {a:Array Oper} {s:St} {o:Oper} {l:List Oper} {Q:Exit->St->Prop} (h:Uy a s o=some true) (V:AV) (f:Bk) (hlow:f.low s.nx=true) (hd:Jg o s.n=true) (ho:Dl P B D0 o s.ev (Ao s.h) V f) (hk:AL P R B D0 a l ⟨Iz s.t o.dst V,f.ap s.h,f.nx s.nx,s.n⟩ Q):AL P R B D0 a (o::l) s Q:=by
 unfold Uy at h
 split at h
 rename_i hg;exact Afu V f hg hlow hd ho hk
 rename_i j b hg
 split at h
 rename_i d hj
 split at h
 rename_i b' hv
 split at h
 exact xZ V f hg hj hv hlow hd ho hk
 exact xZ V f hg hj hv hlow hd ho hk
 cases h
 rename_i v hv
 split at h<;>cases h
 cases h
 cases h
theorem tD {a:Array Oper} {s:St} {o:Oper} {l:List Oper} {Q:Exit->St->Prop} (h:Uy a s o=some false) (hd:Jg o s.n=true) (hk:AL P R B D0 a l ⟨Iz s.t o.dst .undef,s.h,s.nx,s.n⟩ Q):AL P R B D0 a (o::l) s Q:=by
 unfold Uy at h
 split at h
 cases h
 rename_i j b hg
 split at h
 rename_i d hj
 split at h
 rename_i b' hv
 split at h
 cases h
 cases h
 rename_i h1 h2
 refine AbS hg hj hv ?_ hd hk
 cases b<;>cases b'<;>first|rfl|exact(h1 rfl rfl).elim|exact(h2 rfl rfl).elim
 rename_i v hv
 split at h
 rename_i he
 refine yA hg hj (hv.trans ?_) hd hk
 have:v=#[]:=by cases v;simp_all
 subst this;rfl
 cases h
 cases h
 cases h
theorem Adj {a:Array Oper} {o:Oper} {l:List Oper} {k:List KI} {s:St} (h:Go P R B D0 Q (AeT P a o l k s)):AL P R B D0 a (o::l) s (KQ P R B D0 Q k):=by
 unfold AeT at h
 split at h
 rename_i hg
 split at h
 rename_i V f he
 cases hb:f.low s.nx&&Jg o s.n with
 |false=>rw[hb] at h;exact h.m
 |true=>
  rw[hb] at h
  have hb2:=Bool.and_eq_true_iff.1 hb
  exact iA hg V f hb2.1 hb2.2 (zT he) h.m
 exact h.m
 rename_i hg
 cases hb:Jg o s.n with
 |false=>rw[hb] at h;exact h.m
 |true=>rw[hb] at h;exact tD hg hb h.m
 exact h.m
def stp (P:Program):Bv->Bv
 |⟨.code x,k,s⟩=>match x with
  | .seq x y=>⟨.code x,.seq y::k,s⟩
  | .region _ a false=>⟨.ops a a.toList,k,s⟩
  | .skip=>⟨.out .normal,k,s⟩
  | .label _=>⟨.out .normal,k,s⟩
  | .block id x=>⟨.code x,.blk id::k,s⟩
  | .scope x=>⟨.code x,.scp::k,s⟩
  | .exit id=>⟨.out (.exit id),k,s⟩
  | .ret=>⟨.out .ret,k,s⟩
  | .cond d x y=>match s.ev d with
   | .lit (.bool true)=>⟨.code x,k,s⟩
   | .lit (.bool false)=>⟨.code y,k,s⟩
   |_=>⟨.code (.cond d x y),k,s⟩
  |x=>⟨.code x,k,s⟩
 |⟨.ops _ [],k,s⟩=>⟨.out .normal,k,s⟩
 |⟨.ops a (o::l),k,s⟩=>AeT P a o l k s
 |⟨.out .normal,.seq y::k,s⟩=>⟨.code y,k,s⟩
 |⟨.out .normal,.blk _::k,s⟩=>⟨.out .normal,k,s⟩
 |⟨.out .normal,.scp::k,s⟩=>⟨.out .normal,k,s⟩
 |⟨.out .normal,.un (n+1) b::k,s⟩=>⟨.code b,.un n b::k,s⟩
 |⟨.out .normal,.il b::k,s⟩=>⟨.code b,.il b::k,s⟩
 |⟨.out (.exit id),.blk id'::k,s⟩=>bif Nat.beq id id' then ⟨.out .normal,k,s⟩ else ⟨.out (.exit id),k,s⟩
 |⟨.out (.exit id),.seq _::k,s⟩=>⟨.out (.exit id),k,s⟩
 |⟨.out (.exit id),.lp _::k,s⟩=>⟨.out (.exit id),k,s⟩
 |⟨.out (.exit id),.scp::k,s⟩=>⟨.out (.exit id),k,s⟩
 |⟨.out (.exit id),.un _ _::k,s⟩=>⟨.out (.exit id),k,s⟩
 |⟨.out (.exit id),.il _::k,s⟩=>⟨.out (.exit id),k,s⟩
 |⟨.out .ret,_::k,s⟩=>⟨.out .ret,k,s⟩
 |c=>c
theorem Hp {k:List KI} {s:St} {e:Exit} {i:KI} (h:GoM P R B D0 Q k s (.out e)) (hk:∀s,KQ P R B D0 Q k e s->KQ P R B D0 Q (i::k) e s):GoM P R B D0 Q (i::k) s (.out e):=by
 obtain⟨s',h1,h2⟩:=h
 exact⟨s',h1,hk _ h2⟩
theorem Adi {k:List KI} {s:St}:∀x,Go P R B D0 Q (stp P ⟨.code x,k,s⟩)->AC P R B D0 x s (KQ P R B D0 Q k)
 | .seq x y,h=>AdL h.m
 | .region _ ⟨l⟩ false,h=>AbB (l:=l) h.m
 | .region _ _ true,h=>h.m
 | .skip,h=>cC h.m λ_ h=>AbC h
 | .label _,h=>cC h.m λ_ h=>wG h
 | .block id x,h=>wD h.m
 | .scope x,h=>wJ h.m
 | .exit id,h=>cC h.m λ_ h=>AbA h
 | .ret,h=>cC h.m λ_ h=>AdK h
 | .cond d x y,h=>by
  unfold stp at h
  dsimp only at h
  split at h
  rename_i hb;exact AbD hb rfl h.m
  rename_i hb;exact wE hb rfl h.m
  exact h.m
 | .loop _,h=>h.m
 | .rangeFunc ..,h=>h.m
 | .goto _,h=>h.m
 | .refuse _,h=>h.m
theorem Abl:∀c,Go P R B D0 Q (stp P c)->Go P R B D0 Q c
 |⟨.code x,k,s⟩,h=>⟨Adi x h⟩
 |⟨.ops _ [],k,s⟩,h=>by
  obtain⟨s',h1,h2⟩:=h.m
  exact⟨oO h1 (AdU h2)⟩
 |⟨.ops _ (_::_),_,_⟩,h=>⟨Adj h⟩
 |⟨.out .normal,.seq y::k,s⟩,h=>⟨⟨s,Gk.refl s,h.m⟩⟩
 |⟨.out .normal,.blk _::k,s⟩,h=>⟨Hp h.m λ_ h=>h⟩
 |⟨.out .normal,.scp::k,s⟩,h=>⟨Hp h.m λ_ h=>h⟩
 |⟨.out .normal,.lp _::k,s⟩,h=>h
 |⟨.out .normal,.un 0 _::k,s⟩,h=>h
 |⟨.out .normal,.un (n+1) b::k,s⟩,h=>⟨⟨s,Gk.refl s,h.m⟩⟩
 |⟨.out .normal,.il b::k,s⟩,h=>⟨⟨s,Gk.refl s,aD h.m⟩⟩
 |⟨.out (.exit id),.blk id'::k,s⟩,h=>by
  have h:Go P R B D0 Q (bif Nat.beq id id' then ⟨.out .normal,k,s⟩ else ⟨.out (.exit id),k,s⟩):=h
  cases hb:Nat.beq id id' with
  |false=>rw[hb] at h;exact⟨Hp h.m λ_ h=>by show (bif Nat.beq id id' then _ else _);rw[hb];exact h⟩
  |true=>
   rw[hb] at h
   obtain⟨s',h1,h2⟩:=h.m
   exact⟨⟨s',h1,by show (bif Nat.beq id id' then _ else _);rw[hb];exact h2⟩⟩
 |⟨.out (.exit id),.seq _::k,s⟩,h=>⟨Hp h.m λ_ h=>h⟩
 |⟨.out (.exit id),.lp _::k,s⟩,h=>⟨Hp h.m λ_ h=>h⟩
 |⟨.out (.exit id),.scp::k,s⟩,h=>⟨Hp h.m λ_ h=>h⟩
 |⟨.out (.exit id),.un _ _::k,s⟩,h=>⟨Hp h.m λ_ h=>h⟩
 |⟨.out (.exit id),.il _::k,s⟩,h=>⟨Hp h.m λ_ h=>h⟩
 |⟨.out .ret,.seq _::k,s⟩,h=>⟨Hp h.m λ_ h=>h⟩
 |⟨.out .ret,.blk _::k,s⟩,h=>⟨Hp h.m λ_ h=>h⟩
 |⟨.out .ret,.lp _::k,s⟩,h=>⟨Hp h.m λ_ h=>h⟩
 |⟨.out .ret,.scp::k,s⟩,h=>⟨Hp h.m λ_ h=>h⟩
 |⟨.out .ret,.un _ _::k,s⟩,h=>⟨Hp h.m λ_ h=>h⟩
 |⟨.out .ret,.il _::k,s⟩,h=>⟨Hp h.m λ_ h=>h⟩
 |⟨.out .normal,[],_⟩,h=>h
 |⟨.out (.exit _),[],_⟩,h=>h
 |⟨.out .ret,[],_⟩,h=>h
 |⟨.out (.goto _),_,_⟩,h=>h
 |⟨.out (.panic _),_,_⟩,h=>h
 |⟨.out .outgrown,_,_⟩,h=>h
def run (P:Program):Nat->Bv->Bv
 |0,c=>c
 |n+1,c=>run P n (stp P c)
theorem Ab:∀(n:Nat) {c:Bv},Go P R B D0 Q (run P n c)->Go P R B D0 Q c
 |0,_,h=>h
 |n+1,c,h=>Abl c (Ab n h)
def Bv.a (c:Bv):Array Oper:=match c.m with| .ops a _=>a|_=>#[]
def Bv.l (c:Bv):List Oper:=match c.m with| .ops _ l=>l|_=>[]
def Bv.o (c:Bv):Oper:=match c.l with|o::_=>o|[]=>default
def Bv.ok (c:Bv):Bool:=match c.m with
 | .ops a (o::_)=>Uy a c.s o==some true&&Jg o c.s.n
 |_=>false
def Bv.put (c:Bv) (V:AV) (f:Bk):Bv:=⟨match c.m with| .ops a (_::l)=> .ops a l|m=>m,c.k,⟨Iz c.s.t c.o.dst V,f.ap c.s.h,f.nx c.s.nx,c.s.n⟩⟩
theorem Xf (V:AV) (f:Bk) (h:Dl P B D0 c.o c.s.ev (Ao c.s.h) V f) (hk:Go P R B D0 Q (c.put V f)) (hok:c.ok=true) (hlow:f.low c.s.nx=true):Go P R B D0 Q c:=by
 obtain⟨m,k,s⟩:=c
 cases m with
 |code x=>cases hok
 |out e=>cases hok
 |ops a l=>
  cases l with
  |nil=>cases hok
  |cons o l=>
   have hok:(Uy a s o==some true&&Jg o s.n)=true:=hok
   obtain⟨h1,h2⟩:=Bool.and_eq_true_iff.1 hok
   exact⟨iA (by simpa using h1) V f hlow h2 h hk.m⟩
end Go.Proofs.YthhkfanbmpcmbaaGreatDoor
namespace Go.Proofs.YthhkfanbmpcmbaaGreatDoor
open Go.RowKit
variable {P:Program} {R:Option Nat} {B:Nat} {D0:Aq} {Q:Exit->St->Prop} {c:Bv}
def Bv.add (c:Bv) (d:Nat) (b:Bool):Bv:=⟨c.m,c.k,⟨(d,.bool b)::c.s.t,c.s.h,c.s.nx,c.s.n⟩⟩
theorem Lj (d:Nat) (b v:Bool) (hb:b=v) (hk:Go P R B D0 Q (c.add d v)) (hd:Bo c.s.t d= .bool b:=by kernel_rfl):Go P R B D0 Q c:=
 Fv _ (λE a hs=>tL d b v hb hd E a hs) hk
theorem vsb (d:Nat) (b:Bool) (h1:b=true->Go P R B D0 Q (c.add d true)) (h2:b=false->Go P R B D0 Q (c.add d false)) (hd:Bo c.s.t d= .bool b:=by kernel_rfl):Go P R B D0 Q c:=
 Hw b (λh=>Lj d b true h (h1 h) hd) (λh=>Lj d b false h (h2 h) hd)
theorem Afc (d:Nat) (b:Bool) (h1:b=true->Go P R B D0 Q (c.add d false)) (h2:b=false->Go P R B D0 Q (c.add d true)) (hd:Bo c.s.t d= .bool (!b):=by kernel_rfl):Go P R B D0 Q c:=
 Hw b (λh=>Lj d (!b) false (by rw[h];rfl) (h1 h) hd) (λh=>Lj d (!b) true (by rw[h];rfl) (h2 h) hd)
theorem Mf (d:Nat) (p:Prop) [Decidable p] (h1:decide p=true->p->Go P R B D0 Q (c.add d true)) (h2:decide p=false->¬p->Go P R B D0 Q (c.add d false)) (hd:Bo c.s.t d= .bool (decide p):=by kernel_rfl):Go P R B D0 Q c:=
 vsb d (decide p) (λh=>h1 h (of_decide_eq_true h)) (λh=>h2 h (of_decide_eq_false h)) hd
theorem Agg (d:Nat) (p:Prop) [Decidable p] (h1:decide p=true->p->Go P R B D0 Q (c.add d false)) (h2:decide p=false->¬p->Go P R B D0 Q (c.add d true)) (hd:Bo c.s.t d= .bool (!decide p):=by kernel_rfl):Go P R B D0 Q c:=
 Afc d (decide p) (λh=>h1 h (of_decide_eq_true h)) (λh=>h2 h (of_decide_eq_false h)) hd
theorem vsp {G:Prop} (p:Prop) [Decidable p] (h1:decide p=true->p->G) (h2:decide p=false->¬p->G):G:=
 Hw (decide p) (λh=>h1 h (of_decide_eq_true h)) (λh=>h2 h (of_decide_eq_false h))
theorem Cn (v v':Value) (hk:Go P R B D0 Q (c.put (.lit v') .none)) (hv:v=v':=by rfl) (hx:(c.o.op.operands.toList.all λx=>(c.s.ev x).isLit)=true:=by kernel_rfl) (hs:jG c.o=true:=by kernel_rfl) (hrun:∀w,(execOp (λx=>(c.s.ev x).val) c.o).run P w= .ok (.value v) w:=by intro w;kernel_rfl) (hok:c.ok=true:=by kernel_rfl):Go P R B D0 Q c:=
 Xf (.lit v') .none (Cg _ hx rfl hs hrun hv) hk hok rfl
theorem Ig (x y:Int) (hk:Go P R B D0 Q (c.put (.int y) .none)) (hr: -9223372036854775808<=x/\x<=9223372036854775807:=by omega) (he:x=y:=by omega) (hx:(c.o.op.operands.toList.all λx=>(c.s.ev x).isLit)=true:=by kernel_rfl) (hs:jG c.o=true:=by kernel_rfl) (hrun:∀w,(execOp (λx=>(c.s.ev x).val) c.o).run P w= .ok (.value (.int .i64 (IntKind.wrap .i64 x))) w:=by intro w;kernel_rfl) (hok:c.ok=true:=by kernel_rfl):Go P R B D0 Q c:=
 Xf (.int y) .none (Cg _ hx rfl hs hrun (congrArg (Value.int .i64) ((IntWalk.i64_in x hr).trans he))) hk hok rfl
theorem Bb (V:AV) (f:Bk) {V0:AV} {f0:Bk} (h:Dl P B D0 c.o c.s.ev (Ao c.s.h) V0 f0) (hk:Go P R B D0 Q (c.put V f)) (hok:c.ok=true:=by kernel_rfl) (hlow:f.low c.s.nx=true:=by kernel_rfl) (hV:V0=V:=by kernel_rfl) (hf:f0=f:=by kernel_rfl):Go P R B D0 Q c:=Xf V f (hV▸hf▸h) hk hok hlow
def Bv.xs (c:Bv):Array Operand:=match c.o.op with| .call cl=>cl.args|_=>#[]
def Bv.ts (c:Bv):Array TypeId:=match c.o.op with| .call cl=>cl.argTypes|_=>#[]
def Bv.fx (c:Bv):Operand:=match c.o.op with| .call cl=>(match cl.callee with| .value x=>x|_=>default)|_=>default
def Bv.cps (c:Bv):List AV:=match c.s.ev c.fx with| .fn _ l=>l|_=>[]
theorem Aw {f:FuncId} {args:List AV} {r:AV} (hf:AF P f args r) (hk:Go P R B D0 Q (c.put r .none)) (ho:c.o.op= .call { callee:= .value (.func f),args:=c.xs,argTypes:=c.ts }:=by kernel_rfl) (hargs:c.xs.toList.map c.s.ev=args:=by kernel_rfl) (hfree:args.all AV.free=true:=by kernel_rfl) (hok:c.ok=true:=by kernel_rfl) (hcall:∀(vs:Array Value) w,(callFunc f vs).run P w= .ok (.enter f vs) w:=by intro _ _;kernel_rfl):Go P R B D0 Q c:=
 Xf r .none (jH f c.xs c.ts ho hcall args hargs hfree r hf) hk hok rfl
theorem nZ {f:FuncId} {args:List AV} {r:AV} (hf:AF P f args r) (hk:Go P R B D0 Q (c.put r .none)) (ho:c.o.op= .call { callee:= .value c.fx,args:=c.xs,argTypes:=c.ts }:=by kernel_rfl) (hx:c.s.ev c.fx= .fn f c.cps:=by kernel_rfl) (hargs:c.xs.toList.map c.s.ev++c.cps=args:=by kernel_rfl) (hfree:args.all AV.free=true:=by kernel_rfl) (hok:c.ok=true:=by kernel_rfl) (hcall:∀(vs:Array Value) w,(callFunc f vs).run P w= .ok (.enter f vs) w:=by intro _ _;kernel_rfl):Go P R B D0 Q c:=
 Xf r .none (bI c.fx f c.xs c.ts ho c.cps hx hcall args hargs hfree r hf) hk hok rfl
def Bv.ixP (c:Bv) (k:Nat):Bv:=c.put (Eb (c.s.ev (Oper.ixX c.o)) k) .none
theorem Ob (k n:Nat) (hk:Go P R B D0 Q (c.ixP k)) (hlt:k<n:=by omega) (hb:ixB P c.o (c.s.ev (Oper.ixX c.o))=true:=by kernel_rfl) (hn:tN (c.s.ev (Oper.ixX c.o))=n:=by kernel_rfl) (hy:c.s.ev (Oper.ixY c.o)= .int (k:Int):=by kernel_rfl) (hok:c.ok=true:=by kernel_rfl):Go P R B D0 Q c:=
 Xf _ .none (pJ _ k hb hy rfl (by rw[hn];exact hlt)) hk hok rfl
theorem Nf {o:Oper} {ev:Operand->AV} {pre:Nat->Option Bf} {V:AV} (k n:Nat) (hlt:k<n:=by omega) (hb:ixB P o (ev (Oper.ixX o))=true:=by kernel_rfl) (hn:tN (ev (Oper.ixX o))=n:=by kernel_rfl) (hy:ev (Oper.ixY o)= .int (k:Int):=by kernel_rfl) (hV:Eb (ev (Oper.ixX o)) k=V:=by kernel_rfl):Dl P B D0 o ev pre V .none:=hV▸pJ _ k hb hy rfl (by rw[hn];exact hlt)
theorem Aat {o:Oper} {ev:Operand->AV} {pre:Nat->Option Bf} {V:AV} (j:Int) (k n:Nat) (hlt:k<n:=by omega) (hj:j=(k:Int):=by omega) (hb:ixB P o (ev (Oper.ixX o))=true:=by kernel_rfl) (hn:tN (ev (Oper.ixX o))=n:=by kernel_rfl) (hy:ev (Oper.ixY o)= .int j:=by kernel_rfl) (hV:Eb (ev (Oper.ixX o)) k=V:=by kernel_rfl):Dl P B D0 o ev pre V .none:=hV▸pJ j k hb hy hj (by rw[hn];exact hlt)
theorem cF {x:Code} {s:St} (h:AC P R B D0 x s (λe s=>∃s',Gk B D0 s s'/\Q e s')):AC P R B D0 x s Q:=⟨λE a hs=>
 Cs (λe a' w' ⟨s1,E',h1,⟨s',hk,hq⟩,h3,h4⟩=>by
  obtain⟨E2,e2,h5⟩:=hk E' a' h3
  exact⟨s',E2,e2.trans h1,hq,h5,h4⟩) (h.run E a hs)⟩
def Bv.dl (c:Bv):List Oper:=match c.m with| .code (.region _ a true)=>a.toList|_=>[]
def Bv.dr (P:Program) (c:Bv) (ex:rS):List AV×List Bk:=(mE P c.dl.toArray ex c.s c.dl [] []).getD ([],[])
def Bv.drawn (P:Program) (c:Bv) (ex:rS) (keep:List Nat):Bv:=⟨.out .normal,c.k,⟨uK c.dl.toArray (c.dr P ex).1 c.s keep,Fw (c.dr P ex).2 c.s.h c.dl.toArray.size,nxF (c.dr P ex).2 c.s.nx,c.s.n⟩⟩
theorem Fa (ex:rS) (keep:List Nat) (hop:aS P B D0 c.dl (c.dr P ex).1 (c.dr P ex).2 c.s ex)
  (hk:Go P R B D0 Q (c.drawn P ex keep))
  (hm:P.follows .mixedOrders=true:=by kernel_rfl) (hr:(mE P c.dl.toArray ex c.s c.dl [] []).isSome=true:=by kernel_rfl) (hB:drB c.dl.toArray (c.dr P ex).2 c.s.nx c.s.n=true:=by kernel_rfl) (hnx:nxB (c.dr P ex).2 c.s.nx (nxF (c.dr P ex).2 c.s.nx)=true:=by kernel_rfl) (hc:(match c.m with| .code (.region _ _ true)=>true|_=>false)=true:=by kernel_rfl):Go P R B D0 Q c:=by
 obtain⟨m,k,s⟩:=c
 split at hc
 rename_i id a hmm
 cases hmm
 obtain⟨l⟩:=a
 exact⟨cF (AfO ex keep _ hop hk.m hm hr hB hnx)⟩
 cases hc
def Ma (keep:List Nat) (s:St):St:=⟨keep.map λt=>(t,Bo s.t t),s.h,s.nx,s.n⟩
theorem Hd (keep:List Nat) (s:St):Gk B D0 s (Ma keep s):=λE a hs=>AaG keep _ rfl E a hs
def Bv.lb (c:Bv):Code:=match c.m with| .code (.loop b)=>b|_=> .skip
def Bv.isL (c:Bv):Bool:=match c.m with| .code (.loop _)=>true|_=>false
def Bv.round (c:Bv) (J:St->Prop) (s:St):Bv:=⟨.code c.lb,.lp J::c.k,s⟩
theorem vlp (keep:List Nat) (I:Nat->St->Prop) (m:Nat) (h0:I m (Ma keep c.s)) (h:∀m s,I m s->∀J:St->Prop,(∀m' s',m'<m->I m' s'->J s')->Go P R B D0 Q (c.round J s)) (hl:c.isL=true:=by kernel_rfl):Go P R B D0 Q c:=by
 refine Fv _ (Hd keep c.s) ?_
 obtain⟨md,k,s⟩:=c
 unfold Bv.isL at hl
 split at hl
 rename_i b hm
 cases hm
 exact⟨fD I m h0 λm s hI=>(h m s hI _ λm' s' h1 h2=>⟨m',h1,h2⟩).m⟩
 cases hl
theorem kK (keep:List Nat) (n:Nat) (F:Nat->Prop) (st:Nat->St) (h0:F 0) (h:∀i,i<=n->F i->∀J:St->Prop,(i<n->F (i+1)->J (st (i+1)))->Go P R B D0 Q (c.round J (st i))) (hs:Ma keep c.s=st 0:=by kernel_rfl) (hl:c.isL=true:=by kernel_rfl):Go P R B D0 Q c:=
 vlp keep (λm s=>∃i,i<=n/\m=n-i/\F i/\s=st i) n ⟨0,Nat.zero_le _,rfl,h0,hs⟩ (λm s ⟨i,h1,h2,h3,h4⟩ J hJ=>by
  subst h4
  exact h i h1 h3 J λg1 g2=>hJ (n-(i+1)) _ ω ⟨i+1,g1,rfl,g2,rfl⟩) hl
def Bv.J (c:Bv):St->Prop:=match c.k with| .lp J::_=>J|_=>λ_=>False
def Bv.isN (c:Bv):Bool:=match c.m with| .out .normal=>true|_=>false
theorem Agf {J:St->Prop} (s':St) (hw:Gk B D0 c.s s') (h:J s') (hT:c.J=J:=by kernel_rfl) (hn:c.isN=true:=by kernel_rfl):Go P R B D0 Q c:=by
 obtain⟨m,k,s⟩:=c
 unfold Bv.isN at hn
 split at hn
 rename_i hm
 cases hm
 subst hT
 cases k with
 |nil=>exact h.elim
 |cons i k=>cases i with
  |lp J=>exact⟨⟨s',hw,h⟩⟩
  |_=>exact h.elim
 cases hn
theorem vrd {J:St->Prop} (keep:List Nat) {s':St} (h:J s') (hs:Ma keep c.s=s':=by kernel_rfl) (hT:c.J=J:=by kernel_rfl) (hn:c.isN=true:=by kernel_rfl):Go P R B D0 Q c:=Agf _ (Hd keep c.s) (hs▸h) hT hn
abbrev yQ:=List (TypeId×Nat×Nat×(Nat->AV))
def bW:De->yQ
 |[]=>[]
 |(_,.vec t e n f)::h=>(t,e,n,f)::bW h
 |(_,.box _ _)::h=>bW h
 |(_,.loop ..)::h=>bW h
def pE:yQ->Prop
 |[]=>True
 |(_,e,n,f)::l=>(∀i,i<n->∀j,j<e->((f i).cell j).flat=true)/\pE l
theorem Ou:∀{h:De} {l:yQ},bW h=l->pE l->aV h
 |[],_,_,_=>trivial
 |(_,.vec _ _ _ _)::h,_,rfl,hl=>⟨hl.1,Ou (h:=h) rfl hl.2⟩
 |(_,.box _ _)::h,_,hv,hl=>Ou (h:=h) hv hl
 |(_,.loop ..)::h,_,hv,hl=>Ou (h:=h) hv hl
theorem Ys {J:St->Prop} (keep:List Nat) (ρ:List (Nat×Nat)) (nx k0:Nat) (hA0:∀id,D0.A id->id<k0) (L:yQ) (hfl:pE L) {s':St} (h:J s') (hv:bW c.s.h=L:=by kernel_rfl) (hs:(⟨mapT (Ta ρ) (Ma keep c.s).t,AaU ρ c.s.h,nx,c.s.n⟩:St)=s':=by kernel_rfl) (hd:Qn (ρ.map (·.2))=true:=by kernel_rfl) (hd1:Qn (ρ.map (·.1))=true:=by kernel_rfl) (hl:(ρ.all λp=>(Ao c.s.h p.1).isSome&&Nat.blt p.2 nx)=true:=by kernel_rfl) (hk0:(Nat.ble k0 nx&&ρ.all λp=>Nat.beq p.1 p.2||Nat.ble k0 p.2)=true:=by kernel_rfl) (hT:c.J=J:=by kernel_rfl) (hn:c.isN=true:=by kernel_rfl):Go P R B D0 Q c:=
 Agf s' (Gk.trans (Hd keep c.s) λE a hs'=>qG ρ nx k0 hA0 s' hs hd hd1 hl hk0 (Ou hv hfl) E a hs') h hT hn
def Bv.frzS (c:Bv) (id:Nat) (ds:List Nat) (V:AV):Bv:=⟨c.m,c.k,⟨ds.map (λd=>(d,V))++c.s.t,Fg c.s.h id,c.s.nx,c.s.n⟩⟩
theorem Ab0 (id:Nat) (ds:List Nat) (t:TypeId) (e n:Nat) (f:Nat->AV) (hf:∀i,i<n->∀j,j<e->((f i).cell j).flat=true) (hk:Go P R B D0 Q (c.frzS id ds (.sl e n f))) (hd:ds.map (Bo c.s.t)=ds.map λ_=> .osl id e n:=by kernel_rfl) (hc:Ao c.s.h id=some (.vec t e n f):=by kernel_rfl):Go P R B D0 Q c:=
 Fv _ (λE a hs=>hZ id ds t e n f hd hc hf E a hs) hk
theorem AdI (id:Nat) (ds:List Nat) (t:TypeId) (e n:Nat) (f:Nat->AV) (hf:∀i,i<n->∀j,j<e->((f i).cell j).flat=true) (hk:Go P R B D0 Q (c.frzS id ds (.slc e n f))) (hd:ds.map (Bo c.s.t)=ds.map λ_=> .osl id e n:=by kernel_rfl) (hc:Ao c.s.h id=some (.vec t e n f):=by kernel_rfl):Go P R B D0 Q c:=
 Fv _ (λE a hs=>dP id ds t e n f hd hc hf E a hs) hk
def Bv.box (c:Bv) (id:Nat):List AV:=match Ao c.s.h id with|some (.box _ cs)=>cs|_=>[]
def Bv.boxT (c:Bv) (id:Nat):TypeId:=match Ao c.s.h id with|some (.box t _)=>t|_=>0
def Bv.frzB (c:Bv) (id:Nat):Bv:=⟨c.m,c.k,⟨mapT (YthhkfanbmpcmbaaGreatDoor.frzB id (c.box id)) c.s.t,(Fg c.s.h id).map λp=>(p.1,p.2.mapB (YthhkfanbmpcmbaaGreatDoor.frzB id (c.box id))),c.s.nx,c.s.n⟩⟩
theorem eZ (id:Nat) (hk:Go P R B D0 Q (c.frzB id)) (hc:Ao c.s.h id=some (.box (c.boxT id) (c.box id)):=by kernel_rfl) (hf:(c.box id).all AV.free=true:=by kernel_rfl):Go P R B D0 Q c:=
 Fv _ (λE a hs=>dO id _ _ _ hc rfl hf E a hs) hk
def Bv.setB (c:Bv) (id:Nat) (b:Bf):Bv:=⟨c.m,c.k,⟨c.s.t,hset c.s.h id b,c.s.nx,c.s.n⟩⟩
theorem vvx (id:Nat) (t:TypeId) (e n:Nat) (f g:Nat->AV) (hfg:∀i,i<n->f i=g i) (hk:Go P R B D0 Q (c.setB id (.vec t e n g))) (hc:Ao c.s.h id=some (.vec t e n f):=by kernel_rfl):Go P R B D0 Q c:=
 Fv _ (λE a hs=>Abz id t e n f g hc hfg E a hs) hk
def Gd (P:Program) (s:St):ResultVar->Option AV
 | .tmp t=>bif (Bo s.t t).free then some (Bo s.t t) else none
 | .cell q T=>match Bo s.t q with
  | .ptr id off=>match Ao s.h id with
   |some (.box _ cs)=>match Uu P T with
    |some false=>bif Nat.blt off cs.length&&(cs.getD off .top).free then some (cs.getD off .top) else none
    |some true=>match Gw P T with
     |some n=>bif Nat.ble (off+n) cs.length&&(mkAgg ((cs.drop off).take n)).free then some (mkAgg ((cs.drop off).take n)) else none
     |none=>none
    |none=>none
   |_=>none
  |_=>none
theorem Dk {s:St} {rv:ResultVar} {x:AV} (h:Gd P s rv=some x):Mu P B D0 s rv x:=by
 unfold Gd at h
 split at h
 rename_i t
 cases hb:(Bo s.t t).free with
 |false=>rw[hb] at h;cases h
 |true=>rw[hb] at h;cases h;exact AaV rfl hb
 rename_i q T
 split at h
 rename_i id off hq
 split at h
 rename_i t cs hc
 split at h
 rename_i ha
 cases hb:Nat.blt off cs.length&&(cs.getD off .top).free with
 |false=>rw[hb] at h;cases h
 |true=>
  rw[hb] at h;cases h
  have hb2:=Bool.and_eq_true_iff.1 hb
  exact nL id (Er ha) off cs hq t hc (by simpa [Nat.blt_eq] using hb2.1) rfl hb2.2
 rename_i ha
 split at h
 rename_i n hn
 cases hb:Nat.ble (off+n) cs.length&&(mkAgg ((cs.drop off).take n)).free with
 |false=>rw[hb] at h;cases h
 |true=>
  rw[hb] at h;cases h
  have hb2:=Bool.and_eq_true_iff.1 hb
  exact uT id (Er ha) n (Cm hn) off cs hq t hc (Nat.le_of_ble_eq_true hb2.1) rfl hb2.2
 cases h
 cases h
 cases h
 cases h
theorem AeM {s:St} {fn:Func} {r1 r2 r3 r4:ResultVar} {x y z u:AV} (hr:fn.results=#[r1,r2,r3,r4]) (h1:Mu P B D0 s r1 x) (h2:Mu P B D0 s r2 y) (h3:Mu P B D0 s r3 z) (h4:Mu P B D0 s r4 u):Lr P B D0 fn s (mkTup [x,y,z,u]):=λE a hs=>by
 obtain⟨v1,e1,f1⟩:=h1 E a hs
 obtain⟨v2,e2,f2⟩:=h2 E a hs
 obtain⟨v3,e3,f3⟩:=h3 E a hs
 obtain⟨v4,e4,f4⟩:=h4 E a hs
 refine⟨.tuple #[v1,v2,v3,v4],by simp[Gf,hr,e1,e2,e3,e4],VR.tupl [x,y,z,u] _ rfl (λi hi=>?_) _ rfl⟩
 match i with
 |0=>exact f1
 |1=>exact f2
 |2=>exact f3
 |3=>exact f4
def Xd (P:Program) (fn:Func) (s:St):Option AV:=match fn.results.toList with
 |[]=>some (.lit (.tuple #[]))
 |[r]=>Gd P s r
 |[r1,r2]=>match Gd P s r1,Gd P s r2 with
  |some x,some y=>some (mkTup [x,y])
  |_,_=>none
 |[r1,r2,r3]=>match Gd P s r1,Gd P s r2,Gd P s r3 with
  |some x,some y,some z=>some (mkTup [x,y,z])
  |_,_,_=>none
 |[r1,r2,r3,r4]=>match Gd P s r1,Gd P s r2,Gd P s r3,Gd P s r4 with
  |some x,some y,some z,some u=>some (mkTup [x,y,z,u])
  |_,_,_,_=>none
 |[r1,r2,r3,r4,r5]=>match Gd P s r1,Gd P s r2,Gd P s r3,Gd P s r4,Gd P s r5 with
  |some x,some y,some z,some u,some t=>some (mkTup [x,y,z,u,t])
  |_,_,_,_,_=>none
 |_=>none
theorem gX {fn:Func} {s:St} {V:AV} (h:Xd P fn s=some V):Lr P B D0 fn s V:=by
 have key:∀l,fn.results.toList=l->fn.results=l.toArray:=λl h=>by rw[<-h]
 unfold Xd at h
 split at h
 rename_i hr;cases h;exact nJ (key _ hr)
 rename_i hr;exact AeJ (key _ hr) (Dk h)
 rename_i hr
 split at h
 rename_i h1 h2;cases h;exact AeK (key _ hr) (Dk h1) (Dk h2)
 cases h
 rename_i hr
 split at h
 rename_i h1 h2 h3;cases h;exact AeL (key _ hr) (Dk h1) (Dk h2) (Dk h3)
 cases h
 rename_i hr
 split at h
 rename_i h1 h2 h3 h4;cases h;exact AeM (key _ hr) (Dk h1) (Dk h2) (Dk h3) (Dk h4)
 cases h
 rename_i hr
 split at h
 rename_i h1 h2 h3 h4 h5;cases h;exact AeN (key _ hr) (Dk h1) (Dk h2) (Dk h3) (Dk h4) (Dk h5)
 cases h
 cases h
def QF (P:Program) (B:Nat) (D0:Aq) (fn:Func) (r:AV):Exit->St->Prop:=λe s=>(e= .ret\/e= .normal)/\Lr P B D0 fn s r
def Bv.isE (c:Bv):Bool:=match c.m,c.k with| .out .normal,[]=>true| .out .ret,[]=>true|_,_=>false
theorem Fu {fn:Func} {r:AV} (V:AV) (h:V=r) (hv:Xd P fn c.s=some V:=by kernel_rfl) (hn:c.isE=true:=by kernel_rfl):Go P R B D0 (QF P B D0 fn r) c:=by
 subst h
 have hr:=gX (B:=B) (D0:=D0) hv
 obtain⟨m,k,s⟩:=c
 unfold Bv.isE at hn
 split at hn
 rename_i h1 h2
 cases h1;cases h2
 exact⟨⟨s,Gk.refl s,.inr rfl,hr⟩⟩
 rename_i h1 h2
 cases h1;cases h2
 exact⟨⟨s,Gk.refl s,.inl rfl,hr⟩⟩
 cases hn
theorem Cy {fn:Func} {r:AV} (hv:Xd P fn c.s=some r:=by kernel_rfl) (hn:c.isE=true:=by kernel_rfl):Go P R B D0 (QF P B D0 fn r) c:=Fu r rfl hv hn
theorem As {f:FuncId} {fn:Func} {args:List AV} {r:AV} (hf:Tryz.prog.funcs[f]?=some fn) {x:Code} (hc:fn.body=some x:=by rfl) (h:∀B D0,(∀id,D0.A id->id<0)->Go Tryz.prog none B D0 (QF Tryz.prog B D0 fn r) ⟨.code x,[],⟨Cz args 0,[],0,fn.ntmps⟩⟩) (hle:Nat.ble args.length fn.ntmps=true:=by kernel_rfl):AF Tryz.prog f args r:=
 Afs _ hf hc fn.ntmps rfl hle rfl λB D0 hA=>(h B D0 hA).m
end Go.Proofs.YthhkfanbmpcmbaaGreatDoor
namespace Go.Proofs.YthhkfanbmpcmbaaGreatDoor
open Go.RowKit
variable {P:Program} {R:Option Nat} {B:Nat} {D0:Aq} {Q:Exit->St->Prop} {c:Bv}
def Bv.unr (c:Bv) (n:Nat):Bv:=⟨.code c.lb,.un n c.lb::c.k,c.s⟩
theorem Qk (n:Nat) (h:Go P R B D0 Q (c.unr n)) (hl:c.isL=true:=by kernel_rfl):Go P R B D0 Q c:=by
 obtain⟨m,k,s⟩:=c
 unfold Bv.isL at hl
 split at hl
 rename_i b hm
 cases hm
 exact⟨cD (n+1) h.m⟩
 cases hl
def Bv.back (c:Bv) (r:AV) (h:De) (nx:Nat):Bv:=⟨.ops c.a c.l.tail,c.k,⟨Iz c.s.t c.o.dst r,h,nx,c.s.n⟩⟩
def fR (P:Program) (B:Nat) (D1:Aq) (fn:Func) (K:AV->De->Nat->Prop):Exit->St->Prop:=yD P B D1 fn K
theorem pI {f:FuncId} {fn:Func} {x:Code} {args:List AV} (hf:Tryz.prog.funcs[f]?=some fn) (hc:fn.body=some x)
  (hrun:∀(E:Aq) (a:Act),(∀x,VR E (c.s.ev x) (a.eval x))->∃vs:Array Value,(∀w,(execOp a.eval c.o).run Tryz.prog w= .ok (.enter f vs) w)/\vs.size=args.length/\∀i,i<args.length->VR E (args.getD i .top) (vs.getD i undef))
  (h:∀D1,(∀id,D1.A id->id<c.s.nx)->Go Tryz.prog none B D1 (fR Tryz.prog B D1 fn λr h nx=>Go Tryz.prog R B D0 Q (c.back r h nx)) ⟨.code x,[],⟨Cz args 0,c.s.h,c.s.nx,fn.ntmps⟩⟩)
  (hle:Nat.ble args.length fn.ntmps=true) (hok:c.ok=true) (hg:c.o.guard=none):Go Tryz.prog R B D0 Q c:=by
 obtain⟨m,k,s⟩:=c
 cases m with
 |code x=>cases hok
 |out e=>cases hok
 |ops a l=>
  cases l with
  |nil=>cases hok
  |cons o l=>
   have hok:(Uy a s o==some true&&Jg o s.n)=true:=hok
   exact⟨rP f args fn.ntmps hg (Bool.and_eq_true_iff.1 hok).2 hrun hf hc rfl hle λD1 hD=>cE (h D1 hD).m λe s ⟨h1,r,h2,h3⟩=>⟨h1,r,h2,h3.m⟩⟩
theorem Ad0 {f:FuncId} {fn:Func} {x:Code} (nx0:Nat) (hf:Tryz.prog.funcs[f]?=some fn)
  (h:∀D1,(∀id,D1.A id->id<nx0)->Go Tryz.prog none B D1 (fR Tryz.prog B D1 fn λr h nx=>Go Tryz.prog R B D0 Q (c.back r h nx)) ⟨.code x,[],⟨Cz (c.xs.toList.map c.s.ev) 0,c.s.h,c.s.nx,fn.ntmps⟩⟩)
  (hc:fn.body=some x:=by rfl) (ho:c.o.op= .call { callee:= .value (.func f),args:=c.xs,argTypes:=c.ts }:=by kernel_rfl) (hcall:∀(vs:Array Value) w,(callFunc f vs).run Tryz.prog w= .ok (.enter f vs) w:=by intro _ _;kernel_rfl)
  (hle:Nat.ble (c.xs.toList.map c.s.ev).length fn.ntmps=true:=by kernel_rfl) (hok:c.ok=true:=by kernel_rfl) (hg:c.o.guard=none:=by kernel_rfl) (hnx:c.s.nx=nx0:=by kernel_rfl):Go Tryz.prog R B D0 Q c:=
 pI hf hc (λE a hv=>AcW f c.xs c.ts ho hcall _ rfl E a hv) (hnx▸h) hle hok hg
theorem cA {f:FuncId} {fn:Func} {x:Code} (nx0:Nat) (hf:Tryz.prog.funcs[f]?=some fn)
  (h:∀D1,(∀id,D1.A id->id<nx0)->Go Tryz.prog none B D1 (fR Tryz.prog B D1 fn λr h nx=>Go Tryz.prog R B D0 Q (c.back r h nx)) ⟨.code x,[],⟨Cz (c.xs.toList.map c.s.ev++c.cps) 0,c.s.h,c.s.nx,fn.ntmps⟩⟩)
  (hc:fn.body=some x:=by rfl) (ho:c.o.op= .call { callee:= .value c.fx,args:=c.xs,argTypes:=c.ts }:=by kernel_rfl) (hx:c.s.ev c.fx= .fn f c.cps:=by kernel_rfl) (hcall:∀(vs:Array Value) w,(callFunc f vs).run Tryz.prog w= .ok (.enter f vs) w:=by intro _ _;kernel_rfl)
  (hle:Nat.ble (c.xs.toList.map c.s.ev++c.cps).length fn.ntmps=true:=by kernel_rfl) (hok:c.ok=true:=by kernel_rfl) (hg:c.o.guard=none:=by kernel_rfl) (hnx:c.s.nx=nx0:=by kernel_rfl):Go Tryz.prog R B D0 Q c:=
 pI hf hc (λE a hv=>AaY c.fx f c.xs c.ts ho c.cps hx hcall _ rfl E a hv) (hnx▸h) hle hok hg
def Ko (P:Program) (s:St):ResultVar->Option AV
 | .tmp t=>some (Bo s.t t)
 | .cell q T=>match Bo s.t q with
  | .ptr id off=>match Ao s.h id with
   |some (.box _ cs)=>match Uu P T with
    |some false=>bif Nat.blt off cs.length then some (cs.getD off .top) else none
    |some true=>match Gw P T with
     |some n=>bif Nat.ble (off+n) cs.length then some (mkAgg ((cs.drop off).take n)) else none
     |none=>none
    |none=>none
   |_=>none
  |_=>none
theorem Hy {s:St} {rv:ResultVar} {x:AV} (h:Ko P s rv=some x):Qm P B D0 s rv x:=by
 unfold Ko at h
 split at h
 cases h;exact uS rfl
 rename_i q T
 split at h
 rename_i id off hq
 split at h
 rename_i t cs hc
 split at h
 rename_i ha
 cases hb:Nat.blt off cs.length with
 |false=>rw[hb] at h;cases h
 |true=>rw[hb] at h;cases h;exact jS id (Er ha) off cs hq t hc (by simpa [Nat.blt_eq] using hb) rfl
 rename_i ha
 split at h
 rename_i n hn
 cases hb:Nat.ble (off+n) cs.length with
 |false=>rw[hb] at h;cases h
 |true=>rw[hb] at h;cases h;exact nK id (Er ha) n (Cm hn) off cs hq t hc (Nat.le_of_ble_eq_true hb) rfl
 cases h
 cases h
 cases h
 cases h
def Oq (P:Program) (fn:Func) (s:St):Option AV:=match fn.results.toList with
 |[]=>some (.lit (.tuple #[]))
 |[r]=>Ko P s r
 |[r1,r2]=>match Ko P s r1,Ko P s r2 with
  |some x,some y=>some (mkTup [x,y])
  |_,_=>none
 |[r1,r2,r3]=>match Ko P s r1,Ko P s r2,Ko P s r3 with
  |some x,some y,some z=>some (mkTup [x,y,z])
  |_,_,_=>none
 |_=>none
theorem sZ {fn:Func} {s:St} {V:AV} (h:Oq P fn s=some V):rW P B D0 fn s V:=by
 have key:∀l,fn.results.toList=l->fn.results=l.toArray:=λl h=>by rw[<-h]
 unfold Oq at h
 split at h
 rename_i hr;cases h;exact uR (key _ hr)
 rename_i hr;exact AfP (key _ hr) (Hy h)
 rename_i hr
 split at h
 rename_i h1 h2;cases h;exact AfQ (key _ hr) (Hy h1) (Hy h2)
 cases h
 rename_i hr
 split at h
 rename_i h1 h2 h3;cases h;exact AfR (key _ hr) (Hy h1) (Hy h2) (Hy h3)
 cases h
 cases h
def Bv.rI (P:Program) (fn:Func) (c:Bv):AV:=(Oq P fn c.s).getD .top
theorem vrI {D1:Aq} {fn:Func} {K:AV->De->Nat->Prop} (hk:K (c.rI P fn) c.s.h c.s.nx) (hv:(Oq P fn c.s).isSome=true:=by kernel_rfl) (hn:c.isE=true:=by kernel_rfl):Go P R B D1 (fR P B D1 fn K) c:=by
 unfold Bv.rI at hk
 cases he:Oq P fn c.s with
 |none=>rw[he] at hv;cases hv
 |some V=>
  rw[he] at hk
  have hr:=sZ (B:=B) (D0:=D1) he
  obtain⟨m,k,s⟩:=c
  unfold Bv.isE at hn
  split at hn
  rename_i h1 h2
  cases h1;cases h2
  exact⟨⟨s,Gk.refl s,.inr rfl,V,hr,hk⟩⟩
  rename_i h1 h2
  cases h1;cases h2
  exact⟨⟨s,Gk.refl s,.inl rfl,V,hr,hk⟩⟩
  cases hn
def Oper.cxs (o:Oper):Array Operand:=match o.op with| .call cl=>cl.args|_=>#[]
def Oper.cts (o:Oper):Array TypeId:=match o.op with| .call cl=>cl.argTypes|_=>#[]
def Oper.cfx (o:Oper):Operand:=match o.op with| .call cl=>(match cl.callee with| .value x=>x|_=>default)|_=>default
def zI:AV->List AV| .fn _ l=>l|_=>[]
theorem Cx {o:Oper} {ev:Operand->AV} {pre:Nat->Option Bf} {f:FuncId} {args:List AV} {r:AV} (hf:AF P f args r) (ho:o.op= .call { callee:= .value (.func f),args:=Oper.cxs o,argTypes:=Oper.cts o }:=by kernel_rfl) (hargs:(Oper.cxs o).toList.map ev=args:=by kernel_rfl) (hfree:args.all AV.free=true:=by kernel_rfl) (hcall:∀(vs:Array Value) w,(callFunc f vs).run P w= .ok (.enter f vs) w:=by intro _ _;kernel_rfl):Dl P B D0 o ev pre r .none:=jH f _ _ ho hcall args hargs hfree r hf
theorem Mx {o:Oper} {ev:Operand->AV} {pre:Nat->Option Bf} {f:FuncId} {args:List AV} {r:AV} (hf:AF P f args r) (ho:o.op= .call { callee:= .value (Oper.cfx o),args:=Oper.cxs o,argTypes:=Oper.cts o }:=by kernel_rfl) (hx:ev (Oper.cfx o)= .fn f (zI (ev (Oper.cfx o))):=by kernel_rfl) (hargs:(Oper.cxs o).toList.map ev++zI (ev (Oper.cfx o))=args:=by kernel_rfl) (hfree:args.all AV.free=true:=by kernel_rfl) (hcall:∀(vs:Array Value) w,(callFunc f vs).run P w= .ok (.enter f vs) w:=by intro _ _;kernel_rfl):Dl P B D0 o ev pre r .none:=bI _ f _ _ ho _ hx hcall args hargs hfree r hf
theorem kbD {o:Oper} {ev:Operand->AV} {pre:Nat->Option Bf} {b v:Bool} (hb:b=v) (h:evG P o ev pre 0=some (.bool b,.none):=by kernel_rfl):Dl P B D0 o ev pre (.bool v) .none:=hb▸Rb h
theorem kbC {o:Oper} {ev:Operand->AV} {pre:Nat->Option Bf} {b v:Bool} (hb:b=v) (h:Dl P B D0 o ev pre (.bool b) .none):Dl P B D0 o ev pre (.bool v) .none:=hb▸h
theorem Ro {e n:Nat} {f:Nat->AV} (h:∀i,i<n->((List.range e).all λj=>((f i).cell j).flat)=true):∀i,i<n->∀j,j<e->((f i).cell j).flat=true:=λi hi j hj=>List.all_eq_true.1 (h i hi) j (List.mem_range.2 hj)
theorem Afa {keep:List Nat} (n:Nat) (st:Nat->St) (h:∀i,i<n->∀J:St->Prop,J (st (i+1))->Go P R B D0 Q (c.round J (st i))) (hl:Go P R B D0 Q (c.round (λ_=>False) (st n))) (hs:Ma keep c.s=st 0:=by kernel_rfl) (hL:c.isL=true:=by kernel_rfl):Go P R B D0 Q c:=by
 refine Fv _ (Hd keep c.s) ?_
 rw[hs]
 obtain⟨md,k,s⟩:=c
 unfold Bv.isL at hL
 split at hL
 rename_i b hm
 cases hm
 exact⟨fE st n rfl (λi hi K hK=>(h i hi K hK).m) hl.m⟩
 cases hL
def QM (P:Program) (B:Nat) (D0:Aq) (fn:Func) (r:Value) (t:TypeId) (us:List Value):Exit->St->Prop:=λe s=>(e= .ret\/e= .normal)/\Lr P B D0 fn s (.lit r)/\Ao s.h 0=some (.box t (us.map .lit))
theorem Afb {fn:Func} {r:Value} {t:TypeId} {us:List Value} (V:AV) (h:V= .lit r) (hv:Xd P fn c.s=some V:=by kernel_rfl) (hb:Ao c.s.h 0=some (.box t (us.map .lit)):=by kernel_rfl) (hn:c.isE=true:=by kernel_rfl):Go P R B D0 (QM P B D0 fn r t us) c:=by
 subst h
 have hr:=gX (B:=B) (D0:=D0) hv
 obtain⟨m,k,s⟩:=c
 unfold Bv.isE at hn
 split at hn
 rename_i h1 h2
 cases h1;cases h2
 exact⟨⟨s,Gk.refl s,.inr rfl,hr,hb⟩⟩
 rename_i h1 h2
 cases h1;cases h2
 exact⟨⟨s,Gk.refl s,.inl rfl,hr,hb⟩⟩
 cases hn
theorem Aes {f:FuncId} {fn:Func} {t:TypeId} {us us':List Value} {args:List AV} {r:Value} (hf:Tryz.prog.funcs[f]?=some fn) {x:Code} (hc:fn.body=some x:=by rfl) (h:∀B D0,(∀id,D0.A id->id<1)->Go Tryz.prog none B D0 (QM Tryz.prog B D0 fn r t us') ⟨.code x,[],⟨Cz (.ptr 0 0::args) 0,[(0,.box t (us.map .lit))],1,fn.ntmps⟩⟩) (hle:Nat.ble (args.length+1) fn.ntmps=true:=by kernel_rfl):AFN Tryz.prog f t us us' args r:=
 AdM _ hf hc fn.ntmps rfl hle rfl λB D0 hA=>(h B D0 hA).m
theorem mM {f:FuncId} {fn:Func} {t:TypeId} {us:List Value} {args:List AV} {r:Value} (hf:Tryz.prog.funcs[f]?=some fn) {x:Code} (hc:fn.body=some x:=by rfl) (h:∀B D0,(∀id,D0.A id->id<1)->Go Tryz.prog none B D0 (QM Tryz.prog B D0 fn r t us) ⟨.code x,[],⟨Cz (.ptr 0 0::args) 0,[(0,.box t (us.map .lit))],1,fn.ntmps⟩⟩) (hle:Nat.ble (args.length+1) fn.ntmps=true:=by kernel_rfl):AFM Tryz.prog f t us args r:=
 Aes hf hc h hle
def Bv.frzC (c:Bv) (id b off:Nat) (V:AV):Bv:=⟨c.m,c.k,⟨c.s.t,hset (Fg c.s.h id) b (.box (c.boxT b) ((c.box b).set off V)),c.s.nx,c.s.n⟩⟩
theorem Adz (id b off:Nat) (t:TypeId) (e n:Nat) (f:Nat->AV) (hf:∀i,i<n->∀j,j<e->((f i).cell j).flat=true) (hk:Go P R B D0 Q (c.frzC id b off (.sl e n f))) (hb:Ao c.s.h b=some (.box (c.boxT b) (c.box b)):=by kernel_rfl) (ho:(c.box b).getD off .top= .osl id e n:=by kernel_rfl) (hne:Nat.beq id b=false:=by kernel_rfl) (hc:Ao c.s.h id=some (.vec t e n f):=by kernel_rfl):Go P R B D0 Q c:=
 Fv _ (λE a hs=>gZ id b off t e n f (c.boxT b) (c.box b) _ hb ho rfl hne hc hf E a hs) hk
def AfV:AV->Nat| .slc e _ _=>e|_=>0
def AfX:AV->Nat| .slc _ n _=>n|_=>0
def AfW:AV->Nat->AV| .slc _ _ f=>f|_=>λ_=> .top
def Bv.wkS (c:Bv) (d:Nat):Bv:=⟨c.m,c.k,⟨(d,(Bo c.s.t d).wk)::c.s.t,c.s.h,c.s.nx,c.s.n⟩⟩
theorem vwk (d:Nat) (hk:Go P R B D0 Q (c.wkS d)) (hd:Bo c.s.t d= .slc (AfV (Bo c.s.t d)) (AfX (Bo c.s.t d)) (AfW (Bo c.s.t d)):=by kernel_rfl):Go P R B D0 Q c:=
 Fv _ (λE a hs=>Ab3 d _ _ _ hd E a hs) (by
  have e:(Bo c.s.t d).wk= .sl (AfV (Bo c.s.t d)) (AfX (Bo c.s.t d)) (AfW (Bo c.s.t d)):=by rw[hd];rfl
  unfold Bv.wkS at hk
  rw[e] at hk
  exact hk)
end Go.Proofs.YthhkfanbmpcmbaaGreatDoor
namespace Go.Proofs.YthhkfanbmpcmbaaGreatDoor
open Go.RowKit
structure Ld (T:Aq->Prop):Prop where
 up:∀{E E':Aq},E.le E'->T E->T E'
 fz:∀{E:Aq},T E->T E.fz
 un:∀{E:Aq},T E.fz->T E
def Zn (T:Aq->Prop) (P:Program) (f:FuncId) (args:List AV) (r:AV):Prop:=
 ∀(E:Aq) (vs:Array Value),T E->(∀b,E.D b->b<E.w.heap.size)->vs.size=args.length->(∀i,i<args.length->VR E.fz (args.getD i .top) (vs.getD i undef))->
  Calls P f vs E.w λe w'=>∃v D',e= .returned v/\VR { E with D:=D',w:=w' } r v/\Below E.w.heap.size E.w w'/\(∀b,E.D b->D' b)/\(∀b,D' b->E.D b\/E.w.heap.size<=b)/\(∀b,D' b->b<w'.heap.size)
theorem uJ {P:Program} {B:Nat} {D0:Aq} {o:Oper} {ev:Operand->AV} {pre:Nat->Option Bf} {T:Aq->Prop} (hs:Ld T) (hT:T D0) (f:FuncId) (xs:Array Operand) (ts:Array TypeId) (ho:o.op= .call { callee:= .value (.func f),args:=xs,argTypes:=ts }) (hcall:∀(vs:Array Value) w,(callFunc f vs).run P w= .ok (.enter f vs) w) (args:List AV) (hargs:xs.toList.map ev=args) (hfree:args.all AV.free=true) (r:AV) (hf:Zn T P f args r):Dl P B D0 o ev pre r .none:=by
 subst hargs
 refine⟨?_⟩
 intro E a c K Q _ hh _ _ hv k
 unfold Oper.wp
 rw[show (execOp a.eval o).run P E.w=(callFunc f (xs.map a.eval)).run P E.w by simp[execOp,ho,resolve,Deferred.ofValue,Act.eval,invoke],hcall]
 show Calls P f _ E.w _
 refine(hf E (xs.map a.eval) (hs.up hh.le0 hT) hh.bnd (by simp) λi hi=>?_).mono ?_
 have hi2:i<xs.size:=by simpa using hi
 have e1:(xs.toList.map ev).getD i .top=ev xs[i]:=by simp[List.getD_eq_getElem?_getD,hi2]
 have e2:(xs.map a.eval).getD i undef=a.eval xs[i]:=by simp[hi2]
 rw[e1,e2]
 refine(hv _ (by simp[ho,Op.operands,Call.operands])).free ?_
 have:=List.all_eq_true.1 hfree _ (List.getElem_mem (l:=xs.toList.map ev) hi)
 simpa using this
 rintro e w' ⟨v,D',rfl,hr,hb,hd1,hd2,hd3⟩
 have hle:E.le { E with D:=D',w:=w' }:=⟨λ_ h=>h,λ_ _=>rfl,hd1,λb hb'=>hb.block b (hh.bnd b hb'),λ_ _=>rfl⟩
 refine k v { E with D:=D',w:=w' } hle (hb.mono hh.B) hr ⟨λi x hx=>?_,hh.inj,hd3,λi hi=>Nat.lt_of_lt_of_le (hh.abd i hi) hb.size,hh.le0.trans hle,λb hb'=>?_,Nat.le_trans hh.B hb.size⟩ λi hi=> .inl hi
 obtain⟨j1,j2,j3,j4⟩:=hh.live i x hx
 refine⟨j1,j2.up hle (hb.block _ j2.lt),λh=>?_,j4⟩
 rcases hd2 _ h with h|h
 exact j3 h
 have k1:E.π i<E.w.heap.size:=j2.lt
 have k2:E.w.heap.size<=E.π i:=h
 omega
 rcases hd2 b hb' with h|h
 exact hh.new b h
 have:=hh.B
 exact .inr ω
section
variable {P:Program} {R:Option Nat} {B:Nat} {D0:Aq} {Q:Exit->St->Prop} {c:Bv} {T:Aq->Prop}
theorem Kg (hT:Ld T/\T D0) {f:FuncId} {args:List AV} {r:AV} (hf:Zn T P f args r) (hk:Go P R B D0 Q (c.put r .none)) (ho:c.o.op= .call { callee:= .value (.func f),args:=c.xs,argTypes:=c.ts }:=by kernel_rfl) (hargs:c.xs.toList.map c.s.ev=args:=by kernel_rfl) (hfree:args.all AV.free=true:=by kernel_rfl) (hok:c.ok=true:=by kernel_rfl) (hcall:∀(vs:Array Value) w,(callFunc f vs).run P w= .ok (.enter f vs) w:=by intro _ _;kernel_rfl):Go P R B D0 Q c:=
 Bb r .none (uJ hT.1 hT.2 f c.xs c.ts ho hcall args hargs hfree r hf) hk hok rfl rfl rfl
end
theorem AdN {T:Aq->Prop} {P:Program} {f:FuncId} {args:List AV} {r:AV} (h:∀(E:Aq) (vs:Array Value),T E->(∀b,E.D b->b<E.w.heap.size)->vs.size=args.length->(∀i,i<args.length->VR E.fz (args.getD i .top) (vs.getD i undef))->
  Calls P f vs E.w λe w'=>∃v,e= .returned v/\Below E.w.heap.size E.w w'/\∀E':Aq,E'.w=w'->(∀b,E.D b->E'.D b)->(∀b,E.w.heap.size<=b->b<w'.heap.size->E'.D b)->VR E' r v):Zn T P f args r:=by
 intro E vs hT hD hn hv
 refine(h E vs hT hD hn hv).mono ?_
 rintro e w' ⟨v,rfl,hb,hr⟩
 refine⟨v,λb=>E.D b\/(E.w.heap.size<=b/\b<w'.heap.size),rfl,hr _ rfl (λb hb=> .inl hb) (λb h1 h2=> .inr ⟨h1,h2⟩),hb,λb hb=> .inl hb,λb hb=>?_,λb hb'=>?_⟩
 rcases hb with hb|hb
 exact .inl hb
 exact .inr hb.1
 rcases hb' with hb'|hb'
 exact Nat.lt_of_lt_of_le (hD b hb') hb.size
 exact hb'.2
theorem AdO {T:Aq->Prop} (hst:Ld T) {f:FuncId} {fn:Func} {c:Code} {args:List AV} {r:AV} (s0:St) (hf:Tryz.prog.funcs[f]?=some fn) (hc:fn.body=some c) (n:Nat) (hn:fn.ntmps=n) (hle:Nat.ble args.length n=true) (hs:(⟨Cz args 0,[],0,n⟩:St)=s0)
  (h:∀B D0,(∀id,D0.A id->id<0)->Ld T/\T D0->AC Tryz.prog none B D0 c s0 (λe s=>(e= .ret\/e= .normal)/\Lr Tryz.prog B D0 fn s r)):Zn T Tryz.prog f args r:=by
 subst hs
 subst hn
 intro E vs hT hD hsz hv
 have hle':args.length<=fn.ntmps:=by simpa using hle
 have hsim:Gl E.w.heap.size E.fz E.fz ⟨Cz args 0,[],0,fn.ntmps⟩ { tmps:=vs++Array.replicate (fn.ntmps-vs.size) undef,defers:=[] }:=by
  have hB:∀b,E.D b->b<E.w.heap.size:=hD
  refine⟨by simp[hsz];omega,Lp.nil _ _ _,λi=>?_,⟨λid b h=>by simp[Ao] at h,λi j x y h=>by simp[Ao] at h,hB,λ_ h=>h.elim,Aq.le.refl _,λ_ h=> .inl h,Nat.le_refl _⟩,λ_ h=>h.elim⟩
  have e0:=Ke args 0 i
  rw[Nat.zero_add] at e0
  show VR E.fz (Bo (Cz args 0) i) _
  rw[e0]
  by_cases hi:i<args.length
  have h2:(vs++Array.replicate (fn.ntmps-vs.size) undef).getD i undef=vs.getD i undef:=by
   simp only[Array.getD_eq_getD_getElem?,Array.getElem?_append_left (show i<vs.size by omega)]
  rw[h2]
  exact(hv i hi)
  rw[List.getD_eq_getElem?_getD,List.getElem?_eq_none ω]
  exact .top _ _
 refine Gb hf hc (wpIn_wide.1 (Cs ?_ ((h E.w.heap.size E.fz (λ_ h=>h.elim) ⟨hst,hst.fz hT⟩).run E.fz _ hsim)))
 rintro e a' w' ⟨s',E',rfl,⟨he,hr⟩,hs,hb⟩
 obtain⟨ms,m1,m2,m3⟩:=hs.df
 have fin:bodyPostM Fence.wide 0 Tryz.prog fn (λe w'=>∃v D',e= .returned v/\VR { E with D:=D',w:=w' } r v/\Below E.w.heap.size E.w w'/\(∀b,E.D b->D' b)/\(∀b,D' b->E.D b\/E.w.heap.size<=b)/\(∀b,D' b->b<w'.heap.size)) .ret a' E'.w:=by
  refine Ib ms m1 m2 (λm hm=>(m3 m hm).2.2.2) λW hk hz=>?_
  obtain⟨k1,k2⟩:=hs.unmark m3 hk hz
  obtain⟨v,hv,hrv⟩:=hr _ _ k1
  exact⟨v,hv,v,E'.D,rfl,hrv.up (Aq.fz_le_of (E:={ E' with w:=W }) (E':={ E with D:=E'.D,w:=W }) (λ_ h=>h) λ_ _=>rfl),hb.trans k2,hs.h.le0.D,hs.h.new,k1.h.bnd⟩
 rcases he with rfl|rfl
 exact fin
 exact fin
theorem Pa {T:Aq->Prop} (hst:Ld T) {f:FuncId} {fn:Func} {args:List AV} {r:AV} (hf:Tryz.prog.funcs[f]?=some fn) {x:Code} (hc:fn.body=some x:=by rfl) (h:∀B D0,(∀id,D0.A id->id<0)->Ld T/\T D0->Go Tryz.prog none B D0 (QF Tryz.prog B D0 fn r) ⟨.code x,[],⟨Cz args 0,[],0,fn.ntmps⟩⟩) (hle:Nat.ble args.length fn.ntmps=true:=by kernel_rfl):Zn T Tryz.prog f args r:=
 AdO hst _ hf hc fn.ntmps rfl hle rfl λB D0 hA hT=>(h B D0 hA hT).m
end Go.Proofs.YthhkfanbmpcmbaaGreatDoor
namespace Go.Proofs.YthhkfanbmpcmbaaGreatDoor
open Go.RowKit
variable {R:Option Nat} {B:Nat} {D0:Aq} {Q:Exit->St->Prop} {c:Bv}
def Bv.rg (c:Bv):Operand:=match c.m with| .code (.rangeFunc g _ _ _)=>g|_=>default
def Bv.rp (c:Bv):Array Tmp:=match c.m with| .code (.rangeFunc _ p _ _)=>p|_=>#[]
def Bv.ra (c:Bv):Code:=match c.m with| .code (.rangeFunc _ _ a _)=>a|_=> .skip
def Bv.rb (c:Bv):Code:=match c.m with| .code (.rangeFunc _ _ _ b)=>b|_=> .skip
def Bv.isR (c:Bv):Bool:=match c.m with| .code (.rangeFunc ..)=>true|_=>false
def Bv.rc (c:Bv):List AV:=zI (c.s.ev c.rg)
def Bv.lt (c:Bv) (l:Nat):El:=match Ao c.s.h l with|some (.loop _ _ _ t _)=>t|_=>[]
def Bv.ln (c:Bv) (l:Nat):Nat:=match Ao c.s.h l with|some (.loop _ _ _ _ n)=>n|_=>0
def Bv.lst (c:Bv) (l:Nat):LoopState:=match Ao c.s.h l with|some (.loop s _ _ _ _)=>s|_=> .busy
def Bv.lpe (c:Bv) (l:Nat):Option Code:=match Ao c.s.h l with|some (.loop _ p _ _ _)=>p|_=>none
theorem vnm {P:Program} (keep:List Nat) (h:Go P R B D0 Q ⟨c.m,c.k,Ma keep c.s⟩):Go P R B D0 Q c:=Fv _ (Hd keep c.s) h
def Bv.af (c0 c:Bv):Bv:=⟨match c.lpe c0.s.nx with|some x=> .code x|none=> .out .normal,c0.k,⟨c0.s.t,Fg c.s.h c0.s.nx,c.s.nx,c0.s.n⟩⟩
def pY:LoopState->Bool| .busy=>false|_=>true
def Bv.yl (c:Bv):Nat:=match c.s.ev c.fx with| .yld l=>l|_=>0
def QR (R:Option Nat) (B:Nat) (D0:Aq) (Q:Exit->St->Prop) (c0:Bv) (sp:Ej):Exit->St->Prop:=Wl Tryz.prog R B D0 c0.a c0.l.tail c0.o c0.s (KQ Tryz.prog R B D0 Q c0.k) c0.yl sp (c0.ln c0.yl)
def QY (l0 B:Nat) (D1:Aq) (bd:Code) (l:Nat) (_:Ej) (n:Nat) (QA:Exit->St->Prop):Exit->St->Prop:=lS (λs1=>∃sp1 t1,Ao s1.h l=some (.loop .ready none sp1 t1 n)/\AC Tryz.prog (some l0) B D1 bd ⟨s1.t,hset s1.h l (.loop .busy none sp1 t1 n),s1.nx,s1.n⟩ QA) λ_ _=>False
theorem iB {B:Nat} {D0 E:Aq} {s:St} {a:Act} {ops:Array Oper} {o:Oper} (hs:Gl B D0 E s a) (h:Uy ops s o=some true):Region.wanted o (yielded ops a.tmps)=true:=by
 unfold Uy at h
 split at h
 rename_i hg;simp[Region.wanted,hg]
 rename_i j b hg
 split at h
 rename_i d hj
 split at h
 rename_i b' hv
 split at h
 simp[Region.wanted,hg,Nv hs hj hv]
 simp[Region.wanted,hg,Nv hs hj hv]
 cases h
 split at h<;>cases h
 cases h
 cases h
theorem vyl {sp:Ej} {ps:Array Tmp} {asg bd:Code} (nx0:Nat) (hps:sp.params=ps) (has:sp.assign=asg) (hbd:sp.body=bd)
  (h:∀l0 D1,(∀id,D1.A id->id<nx0)->(D1.A c.yl/\D1.π c.yl=l0)->Go Tryz.prog (some l0) B D1 (QY l0 B D1 bd c.yl sp (c.ln c.yl) (QR R B D0 Q c sp)) ⟨.code asg,[],⟨Zm ps.toList (c.xs.toList.map c.s.ev) (c.lt c.yl),c.s.h,c.s.nx,c.ln c.yl⟩⟩)
  (ho:c.o.op= .call { callee:= .value c.fx,args:=c.xs,argTypes:=c.ts }:=by kernel_rfl) (hx:c.s.ev c.fx= .yld c.yl:=by kernel_rfl) (hl:Ao c.s.h c.yl=some (.loop .ready none sp (c.lt c.yl) (c.ln c.yl)):=by kernel_rfl) (hpb:psB ps (c.xs.toList.map c.s.ev).length (c.ln c.yl)=true:=by kernel_rfl) (hok:c.ok=true:=by kernel_rfl) (hnx:c.s.nx=nx0:=by kernel_rfl):Go Tryz.prog R B D0 Q c:=by
 obtain⟨m,k,s⟩:=c
 cases m with
 |code x=>cases hok
 |out e=>cases hok
 |ops a l=>
  cases l with
  |nil=>cases hok
  |cons o l=>
   have hok:(Uy a s o==some true&&Jg o s.n)=true:=hok
   exact⟨yB _ _ _ _ _ _ _ hps has hbd (λE a' hs=>iB hs (by simpa using (Bool.and_eq_true_iff.1 hok).1)) (Bool.and_eq_true_iff.1 hok).2 ho hx hl rfl hpb _ rfl λl0 D1 hD hl0=>(h l0 D1 (hnx▸hD) hl0).m⟩
def Bv.isNil (c:Bv):Bool:=match c.k with|[]=>true|_=>false
theorem vrb {l0:Nat} {D1:Aq} {bd:Code} {l:Nat} {sp:Ej} {n:Nat} {QA:Exit->St->Prop} (h:Go Tryz.prog (some l0) B D1 QA ⟨.code bd,[],⟨c.s.t,hset c.s.h l (.loop .busy none sp (c.lt l) n),c.s.nx,c.s.n⟩⟩) (hl:Ao c.s.h l=some (.loop .ready none sp (c.lt l) n):=by kernel_rfl) (hn:c.isN=true:=by kernel_rfl) (hk:c.isNil=true:=by kernel_rfl):Go Tryz.prog (some l0) B D1 (QY l0 B D1 bd l sp n QA) c:=by
 obtain⟨m,k,s⟩:=c
 unfold Bv.isN at hn
 split at hn
 rename_i hm
 cases hm
 cases k with
 |nil=>exact⟨⟨s,Gk.refl s,_,_,hl,h.m⟩⟩
 |cons i k=>cases hk
 cases hn
def Bv.e (c:Bv):Exit:=match c.m with| .out e=>e|_=> .normal
def rdB:Exit->Bool| .normal=>true|_=>false
def rdS:Exit->LoopState| .normal=> .ready|_=> .done
def rdC:Exit->Option Code| .ret=>some .ret| .exit id=>some (.exit id)|_=>none
def Bv.isX (c:Bv):Bool:=match c.m with| .out .normal=>true| .out .ret=>true| .out (.exit _)=>true|_=>false
theorem vre {R1:Option Nat} {D1:Aq} {c0:Bv} {sp:Ej} (h:Go Tryz.prog R B D0 Q ⟨.ops c0.a c0.l.tail,c0.k,⟨Iz c0.s.t c0.o.dst (.bool (rdB c.e)),hset c.s.h c0.yl (.loop (rdS c.e) (rdC c.e) sp (c.lt c0.yl) (c0.ln c0.yl)),c.s.nx,c0.s.n⟩⟩) (hl:Ao c.s.h c0.yl=some (.loop .busy none sp (c.lt c0.yl) (c0.ln c0.yl)):=by kernel_rfl) (hX:c.isX=true:=by kernel_rfl) (hk:c.isNil=true:=by kernel_rfl):Go Tryz.prog R1 B D1 (QR R B D0 Q c0 sp) c:=by
 obtain⟨m,k,s⟩:=c
 cases k with
 |cons i k=>cases hk
 |nil=>
  unfold Bv.isX at hX
  split at hX
  rename_i hm;cases hm;exact⟨⟨s,Gk.refl s,_,_,hl,h.m⟩⟩
  rename_i hm;cases hm;exact⟨⟨s,Gk.refl s,_,_,hl,h.m⟩⟩
  rename_i hm;cases hm;exact⟨⟨s,Gk.refl s,_,_,hl,h.m⟩⟩
  cases hX
end Go.Proofs.YthhkfanbmpcmbaaGreatDoor