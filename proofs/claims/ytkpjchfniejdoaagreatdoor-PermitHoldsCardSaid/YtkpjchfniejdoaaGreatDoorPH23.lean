/- Part 23 of the proof of PH.card_holds: no condition beyond the row's. -/
import Derived.Test.YtkpjchfniejdoaaGreatDoorPH22
import Derived.Scope
set_option maxRecDepth 100000
set_option maxHeartbeats 40000000
namespace Go.Proofs.YtkpjchfniejdoaaGreatDoor
theorem Jv {P:Program} {b:Frame} {a:Act} {k:List Item} {cs:List Frame} {w:World} {c:Code}:step P (lone (b.atR a (.code (.scope c)::k)) cs w)= .next (lone (b.atR a (.code c:: .inScope c::k)) cs w):=
 step_lone_go (by simp[Go.stepG,Go.stepG.exec,Frame.atR])
theorem kJ {P:Program} {b:Frame} {a:Act} {k:List Item} {cs:List Frame} {w:World} {c:Code}:step P (lone (b.atR a (.inScope c::k)) cs w)= .next (lone (b.atR a k) cs w):=
 step_lone_go (by simp[Go.stepG,Go.stepG.exec,Frame.atR])
theorem AaD {F:Fence} {n:Nat} {P:Program} {Q:Exit->Act->World->Prop} {a:Act} {w:World} {c:Code} (h:c.wpIn F n P (Exit.noGoto Q) a w):(Code.scope c).wpIn F n P Q a w:=by
 intro b k cs hro hb hr
 have h0:(lone (b.atR a (.code (.scope c)::k)) cs w).fenced P F:=fenced_calm hb hr rfl
 obtain⟨e,a₁,w₁,hq,harr⟩:=h b (.inScope c::k) cs hro hb hr
 cases e with
 |normal=>exact⟨.normal,a₁,w₁,hq,.head h0 Jv (StepsIn.trans harr (.one (fenced_calm hb hr rfl) kJ))⟩
 |exit id=>
  have hx:exitTo id (.inScope c::k)=exitTo id k:=by simp[exitTo]
  exact⟨.exit id,a₁,w₁,hq,λk' hk=> .head h0 Jv (harr.1 k' (by rw[hx];exact hk)),
   λhr' hk=>let ⟨k₁,h1,h2⟩:=harr.2 hr' (by rw[hx];exact hk);⟨k₁,h1,.head h0 Jv h2⟩⟩
 |goto l=>exact hq.elim
 |ret=>exact⟨_,a₁,w₁,hq,.of_steps (.one h0 Jv) harr⟩
 |panic ch=>exact⟨_,a₁,w₁,hq,.of_steps (.one h0 Jv) harr⟩
 |outgrown=>exact⟨_,a₁,w₁,hq,.of_steps (.one h0 Jv) harr⟩
def Apy (Q:Exit->St->Prop):Exit->St->Prop
 | .goto _,_=>False
 |e,s=>Q e s
theorem Afe {P:Program} {R:Option Nat} {B:Nat} {D0:As} {s:St} {Q:Exit->St->Prop} {c:Code} (h:AC P R B D0 c s (Apy Q)):AC P R B D0 (.scope c) s Q:=⟨λE a hs=>
 AaD (De (λe a' w' ⟨s',E',h1,h2,h3,h4⟩=>by
  cases e with
  |goto l=>exact h2.elim
  |normal=>exact⟨s',E',h1,h2,h3,h4⟩
  |exit id=>exact⟨s',E',h1,h2,h3,h4⟩
  |ret=>exact⟨s',E',h1,h2,h3,h4⟩
  |panic ch=>exact⟨s',E',h1,h2,h3,h4⟩
  |outgrown=>exact⟨s',E',h1,h2,h3,h4⟩) (h.run E a hs))⟩
theorem pK {B:Nat} {D0:As} {s:St} (id:Nat) (t:TypeId) (cs:List AV) (s':St) (hc:Aq s.h id=some (.box t cs)) (hs':(⟨mapT (frzB id cs) s.t,(Gx s.h id).map λp=>(p.1,p.2.mapB (frzB id cs)),s.nx,s.n⟩:St)=s') (hf:cs.all AV.free=true) (E:As) (a:Act) (hs:Ij B D0 E s a):∃E',E'.w=E.w/\Ij B D0 E' s' a:=by
 refine Ty id (frzB id cs) s' hs' hc (λE x v hh hv=>?_) E a hs
 have up:=hv.up (E.le_fr id)
 obtain⟨arr,hb,hvs⟩:=hh.box hc
 cases hv with
 |osl _ id' e' m hA=>
  unfold frzB
  simp only
  by_cases e1:id'=id
  rw[if_pos e1];exact .top _ _
  rw[if_neg e1];exact up
 |ptr _ id' off hA=>
  unfold frzB
  simp only
  by_cases e1:id'=id
  subst e1
  rw[if_pos rfl]
  refine .elt _ _ _ _ _ (λj=>arr.getD (off+j) undef) (.inr rfl) (λj hj=>Jf hb (by rw[hvs.1];omega)) λj hj=>?_
  have:=hvs.2 (off+j)
  have e2:cs.getD (off+j) .top=cs[off+j]:=by simp[show off+j<cs.length by omega]
  refine(this.free ?_).up (E.le_fr id').fz
  rw[e2]
  exact List.all_eq_true.1 hf _ (List.getElem_mem _)
  rw[if_neg e1];exact up
 |_=>exact up
theorem AdO {P:Program} {B:Nat} {D0:As} {o:Oper} {ev:Operand->AV} {pre:Nat->Option Aw} (f:FuncId) (xs:Array Operand) (ts:Array TypeId) (ho:o.op= .call { callee:= .value (.func f),args:=xs,argTypes:=ts }) (hcall:∀(vs:Array Value) w,(callFunc f vs).run P w= .ok (.enter f vs) w) (id:Nat) (blk:Aw) (hp:pre id=some blk) (bv:AV->AV) (hbv:∀(E:As) (c:Nat->Option Aw),HR B D0 E c->c id=some blk->∀x v,VR E x v->VR (E.fr id).fz (bv x) v) (Cy:List AV) (hargs0:xs.toList.map ev=Cy) (args:List AV) (hargs:Cy.map bv=args) (r:AV) (hf:AF P f args r):Dl P B D0 o ev pre r (.drop id):=by
 subst hargs
 subst hargs0
 refine⟨?_⟩
 intro E a c K Q _ hh htch _ hv k
 have hc:=(htch id (by simp[Bl.touch])).trans hp
 obtain⟨l1,l2,l3,l4⟩:=hh.live id _ hc
 unfold Oper.wp
 rw[show (execOp a.eval o).run P E.w=(callFunc f (xs.map a.eval)).run P E.w by simp[execOp,ho,resolve,Deferred.ofValue,Act.eval,invoke],hcall]
 show Calls P f _ E.w _
 refine(hf (E.fr id) (xs.map a.eval) (λb hb=>?_) (by simp) λi hi=>?_).mono ?_
 rcases hb with hb|hb
 exact hh.bnd b hb
 rw[hb];exact l2.lt
 have hi2:i<xs.size:=by simpa using hi
 have e1:((xs.toList.map ev).map bv).getD i .top=bv (ev xs[i]):=by simp[hi2]
 have e2:(xs.map a.eval).getD i undef=a.eval xs[i]:=by simp[hi2]
 rw[e1,e2]
 exact hbv _ _ hh hc _ _ (hv _ (by simp[ho,Op.operands,Call.operands]))
 rintro e w' ⟨v,D',rfl,hr,hb,hd1,hd2,hd3⟩
 have hz:(E.fr id).w=E.w:=rfl
 rw[hz] at hb hd2
 have hle:E.le { E with D:=D',w:=w' }:=⟨λ_ h=>h,λ_ _=>rfl,λb h=>hd1 b (.inl h),λb hb'=>hb.block b (hh.bnd b hb'),λ_ _=>rfl⟩
 have hn:∀b,D' b->(E.D b\/b=E.π id)\/E.w.heap.size<=b:=hd2
 refine k v { E with D:=D',w:=w' } hle (hb.mono hh.B) hr ⟨λi x hx=>?_,λi j x y hx hy=>?_,hd3,λi hi=>Nat.lt_of_lt_of_le (hh.abd i hi) hb.size,hh.le0.trans hle,λb hb'=>?_,Nat.le_trans hh.B hb.size⟩ λi hi=> .inl hi
 have hx2:(if id=i then Option.none else c i)=some x:=hx
 by_cases e1:id=i
 rw[if_pos e1] at hx2;cases hx2
 rw[if_neg e1] at hx2
 obtain⟨j1,j2,j3,j4⟩:=hh.live i x hx2
 refine⟨j1,j2.up hle (hb.block _ j2.lt),λh=>?_,j4⟩
 rcases hn _ h with(h|h)|h
 exact j3 h
 exact hh.inj i id x blk hx2 hc (λe=>e1 e.symm) h
 have:E.π i<E.w.heap.size:=j2.lt
 have h:E.w.heap.size<=E.π i:=h
 omega
 have hx2:(if id=i then Option.none else c i)=some x:=hx
 have hy2:(if id=j then Option.none else c j)=some y:=hy
 by_cases e1:id=i
 rw[if_pos e1] at hx2;cases hx2
 by_cases e2:id=j
 rw[if_pos e2] at hy2;cases hy2
 rw[if_neg e1] at hx2;rw[if_neg e2] at hy2
 exact hh.inj i j x y hx2 hy2
 rcases hn b hb' with(h|h)|h
 exact hh.new b h
 exact .inr (by rw[h];exact l4)
 exact .inr (Nat.le_trans hh.B h)
def Aks (id:Nat) (blk:Aw) (x:AV):AV:=match blk,x with
 | .vec _ e n f,.osl id' e' m=>if id'=id then (if Nat.beq e' e&&Nat.ble m n then .slc e m f else .top) else .top
 |_,_=>oM id blk x
theorem Akt {B:Nat} {D0 E:As} {c:Nat->Option Aw} (hh:HR B D0 E c) {id:Nat} {blk:Aw} (hc:c id=some blk) (hf:∀t e n f,blk= .vec t e n f->∀i,i<n->∀j,j<e->((f i).cell j).flat=true) {x:AV} {v:Value} (hv:VR E x v):VR (E.fr id).fz (Aks id blk x) v:=by
 have base:=oN hh hc hf hv
 unfold Aks
 split
 rename_i t e n f id' e' m
 have base:VR (E.fr id).fz (if id'=id then (if Nat.beq e' e&&Nat.ble m n then AV.sl e m f else .top) else .top) v:=base
 by_cases e1:id'=id
 subst e1
 rw[if_pos rfl] at base ⊢
 by_cases e2:(Nat.beq e' e&&Nat.ble m n)=true
 rw[if_pos e2] at base ⊢
 obtain⟨arr,hb,hn,hcp,hr⟩:=hh.vec hc
 simp only[Bool.and_eq_true,Nat.ble_eq] at e2
 cases hv with
 |osl _ _ _ _ hA=>exact .slc _ _ _ _ _ _ (by have:=hcp.1;omega) base
 rw[if_neg e2];exact .top _ _
 rw[if_neg e1];exact .top _ _
 exact base
theorem Gj {P:Program} {B:Nat} {D0:As} {o:Oper} {ev:Operand->AV} {pre:Nat->Option Aw} (f:FuncId) (xs:Array Operand) (ts:Array TypeId) (ho:o.op= .call { callee:= .value (.func f),args:=xs,argTypes:=ts }) (hcall:∀(vs:Array Value) w,(callFunc f vs).run P w= .ok (.enter f vs) w) (id:Nat) (blk:Aw) (hp:pre id=some blk) (hfl:∀t e n f,blk= .vec t e n f->∀i,i<n->∀j,j<e->((f i).cell j).flat=true) (Cy:List AV) (hargs0:xs.toList.map ev=Cy) (args:List AV) (hargs:Cy.map (Aks id blk)=args) (r:AV) (hf:AF P f args r):Dl P B D0 o ev pre r (.drop id):=AdO f xs ts ho hcall id blk hp (Aks id blk) (λ_ _ hh hc _ _ hv=>Akt hh hc hfl hv) Cy hargs0 args hargs r hf
theorem Ao5 {P:Program} {B:Nat} {D0:As} {s:St} {fn:Func} {r1 r2 r3 r4 r5:ResultVar} {x y z u t:AV} (hr:fn.results=#[r1,r2,r3,r4,r5]) (h1:Rv P B D0 s r1 x) (h2:Rv P B D0 s r2 y) (h3:Rv P B D0 s r3 z) (h4:Rv P B D0 s r4 u) (h5:Rv P B D0 s r5 t):Oq P B D0 fn s (mkTup [x,y,z,u,t]):=λE a hs=>by
 obtain⟨v1,e1,f1⟩:=h1 E a hs
 obtain⟨v2,e2,f2⟩:=h2 E a hs
 obtain⟨v3,e3,f3⟩:=h3 E a hs
 obtain⟨v4,e4,f4⟩:=h4 E a hs
 obtain⟨v5,e5,f5⟩:=h5 E a hs
 refine⟨.tuple #[v1,v2,v3,v4,v5],by simp[Ig,hr,e1,e2,e3,e4,e5],VR.tupl [x,y,z,u,t] _ rfl (λi hi=>?_) _ rfl⟩
 match i with
 |0=>exact f1
 |1=>exact f2
 |2=>exact f3
 |3=>exact f4
 |4=>exact f5
open Go.RowKit
inductive KI where
 |seq (y:Code)
 |blk (id:Nat)
 |lp (I:St->Prop)
 |scp
 |un (n:Nat) (b:Code)
 |il (b:Code)
inductive Md where
 |code (c:Code)
 |ops (a:Array Oper) (l:List Oper)
 |out (e:Exit)
structure Bu where
 m:Md
 k:List KI
 s:St
section
variable (P:Program) (R:Option Nat) (B:Nat) (D0:As)
def KQ (Q:Exit->St->Prop):List KI->Exit->St->Prop
 |[]=>Q
 | .seq y::k=>yG (λs1=>AC P R B D0 y s1 (KQ Q k)) (KQ Q k)
 | .blk id::k=>AaT id (KQ Q k)
 | .lp I::k=>yG I (KQ Q k)
 | .scp::k=>Apy (KQ Q k)
 | .un n b::k=>yG (Vl P R B D0 b (KQ Q k) n) (KQ Q k)
 | .il b::k=>yG (λs=>ALW P R B D0 b s (KQ Q k)) (KQ Q k)
def Ho (s s':St):Prop:=∀E a,Ij B D0 E s a->∃E',E'.w=E.w/\Ij B D0 E' s' a
def GoM (Q:Exit->St->Prop) (k:List KI) (s:St):Md->Prop
 | .code x=>AC P R B D0 x s (KQ P R B D0 Q k)
 | .ops a l=>AL P R B D0 a l s (KQ P R B D0 Q k)
 | .out e=>∃s',Ho B D0 s s'/\KQ P R B D0 Q k e s'
structure Go (Q:Exit->St->Prop) (c:Bu):Prop where
 m:GoM P R B D0 Q c.k c.s c.m
end
variable {P:Program} {R:Option Nat} {B:Nat} {D0:As} {Q:Exit->St->Prop} {c:Bu}
theorem Ho.refl (s:St):Ho B D0 s s:=λE _ h=>⟨E,rfl,h⟩
theorem Ho.trans {a b d:St} (h:Ho B D0 a b) (g:Ho B D0 b d):Ho B D0 a d:=λE x hs=>by
 obtain⟨E1,e1,h1⟩:=h E x hs
 obtain⟨E2,e2,h2⟩:=g E1 x h1
 exact⟨E2,e2.trans e1,h2⟩
theorem Aga {k:List KI} {s s':St} (hw:Ho B D0 s s'):∀m,GoM P R B D0 Q k s' m->GoM P R B D0 Q k s m
 | .code _,h=>AaJ hw h
 | .ops _ _,h=>AaS hw h
 | .out _,⟨s2,h1,h2⟩=>⟨s2,hw.trans h1,h2⟩
theorem Fu (s':St) (hw:Ho B D0 c.s s') (h:Go P R B D0 Q ⟨c.m,c.k,s'⟩):Go P R B D0 Q c:=⟨Aga hw _ h.m⟩
theorem nS {x:Code} {s:St} {Q:Exit->St->Prop} {e:Exit} (h:∃s',Ho B D0 s s'/\Q e s') (hx:∀s,Q e s->AC P R B D0 x s Q):AC P R B D0 x s Q:=by
 obtain⟨s',h1,h2⟩:=h
 exact AaJ h1 (hx s' h2)
def cT (a:Array Oper) (s:St) (o:Oper):Option Bool:=match o.guard with
 |none=>some true
 |some (j,b)=>match (a[j]?).bind (·.dst) with
  |some d=>match Bz s.t d with
   | .lit (.bool b')=>match b,b' with
    |true,true|false,false=>some true
    |_,_=>some false
   | .lit (.tuple v)=>match v.toList with
    |[]=>some false
    |_=>none
   |_=>none
  |none=>none
def AoC (P:Program) (a:Array Oper) (o:Oper) (l:List Oper) (k:List KI) (s:St):Bu:=
 match cT a s o with
 |some true=>match evH P o s.ev (Aq s.h) s.nx with
  |some (V,f)=>bif f.low s.nx&&Mn o s.n then ⟨.ops a l,k,⟨Lv s.t o.dst V,f.ap s.h,f.nx s.nx,s.n⟩⟩ else ⟨.ops a (o::l),k,s⟩
  |none=>⟨.ops a (o::l),k,s⟩
 |some false=>bif Mn o s.n then ⟨.ops a l,k,⟨Lv s.t o.dst .undef,s.h,s.nx,s.n⟩⟩ else ⟨.ops a (o::l),k,s⟩
 |none=>⟨.ops a (o::l),k,s⟩
theorem tL {a:Array Oper} {s:St} {o:Oper} {l:List Oper} {Q:Exit->St->Prop} (h:cT a s o=some true) (V:AV) (f:Bl) (hlow:f.low s.nx=true) (hd:Mn o s.n=true) (ho:Dl P B D0 o s.ev (Aq s.h) V f) (hk:AL P R B D0 a l ⟨Lv s.t o.dst V,f.ap s.h,f.nx s.nx,s.n⟩ Q):AL P R B D0 a (o::l) s Q:=by
 unfold cT at h
 split at h
 rename_i hg;exact Apu V f hg hlow hd ho hk
 rename_i j b hg
 split at h
 rename_i d hj
 split at h
 rename_i b' hv
 split at h
 exact AfS V f hg hj hv hlow hd ho hk
 exact AfS V f hg hj hv hlow hd ho hk
 cases h
 rename_i v hv
 split at h<;>cases h
 cases h
 cases h
theorem Adq {a:Array Oper} {s:St} {o:Oper} {l:List Oper} {Q:Exit->St->Prop} (h:cT a s o=some false) (hd:Mn o s.n=true) (hk:AL P R B D0 a l ⟨Lv s.t o.dst .undef,s.h,s.nx,s.n⟩ Q):AL P R B D0 a (o::l) s Q:=by
 unfold cT at h
 split at h
 cases h
 rename_i j b hg
 split at h
 rename_i d hj
 split at h
 rename_i b' hv
 split at h
 cases h
 cases h
 rename_i h1 h2
 refine Akc hg hj hv ?_ hd hk
 cases b<;>cases b'<;>first|rfl|exact(h1 rfl rfl).elim|exact(h2 rfl rfl).elim
 rename_i v hv
 split at h
 rename_i he
 refine AfT hg hj (hv.trans ?_) hd hk
 have:v=#[]:=by cases v;simp_all
 subst this;rfl
 cases h
 cases h
 cases h
theorem Ama {a:Array Oper} {o:Oper} {l:List Oper} {k:List KI} {s:St} (h:Go P R B D0 Q (AoC P a o l k s)):AL P R B D0 a (o::l) s (KQ P R B D0 Q k):=by
 unfold AoC at h
 split at h
 rename_i hg
 split at h
 rename_i V f he
 cases hb:f.low s.nx&&Mn o s.n with
 |false=>rw[hb] at h;exact h.m
 |true=>
  rw[hb] at h
  have hb2:=Bool.and_eq_true_iff.1 hb
  exact tL hg V f hb2.1 hb2.2 (AgT he) h.m
 exact h.m
 rename_i hg
 cases hb:Mn o s.n with
 |false=>rw[hb] at h;exact h.m
 |true=>rw[hb] at h;exact Adq hg hb h.m
 exact h.m
def stp (P:Program):Bu->Bu
 |⟨.code x,k,s⟩=>match x with
  | .seq x y=>⟨.code x,.seq y::k,s⟩
  | .region _ a false=>⟨.ops a a.toList,k,s⟩
  | .skip=>⟨.out .normal,k,s⟩
  | .label _=>⟨.out .normal,k,s⟩
  | .block id x=>⟨.code x,.blk id::k,s⟩
  | .scope x=>⟨.code x,.scp::k,s⟩
  | .exit id=>⟨.out (.exit id),k,s⟩
  | .ret=>⟨.out .ret,k,s⟩
  | .cond d x y=>match s.ev d with
   | .lit (.bool true)=>⟨.code x,k,s⟩
   | .lit (.bool false)=>⟨.code y,k,s⟩
   |_=>⟨.code (.cond d x y),k,s⟩
  |x=>⟨.code x,k,s⟩
 |⟨.ops _ [],k,s⟩=>⟨.out .normal,k,s⟩
 |⟨.ops a (o::l),k,s⟩=>AoC P a o l k s
 |⟨.out .normal,.seq y::k,s⟩=>⟨.code y,k,s⟩
 |⟨.out .normal,.blk _::k,s⟩=>⟨.out .normal,k,s⟩
 |⟨.out .normal,.scp::k,s⟩=>⟨.out .normal,k,s⟩
 |⟨.out .normal,.un (n+1) b::k,s⟩=>⟨.code b,.un n b::k,s⟩
 |⟨.out .normal,.il b::k,s⟩=>⟨.code b,.il b::k,s⟩
 |⟨.out (.exit id),.blk id'::k,s⟩=>bif Nat.beq id id' then ⟨.out .normal,k,s⟩ else ⟨.out (.exit id),k,s⟩
 |⟨.out (.exit id),.seq _::k,s⟩=>⟨.out (.exit id),k,s⟩
 |⟨.out (.exit id),.lp _::k,s⟩=>⟨.out (.exit id),k,s⟩
 |⟨.out (.exit id),.scp::k,s⟩=>⟨.out (.exit id),k,s⟩
 |⟨.out (.exit id),.un _ _::k,s⟩=>⟨.out (.exit id),k,s⟩
 |⟨.out (.exit id),.il _::k,s⟩=>⟨.out (.exit id),k,s⟩
 |⟨.out .ret,_::k,s⟩=>⟨.out .ret,k,s⟩
 |c=>c
theorem Kf {k:List KI} {s:St} {e:Exit} {i:KI} (h:GoM P R B D0 Q k s (.out e)) (hk:∀s,KQ P R B D0 Q k e s->KQ P R B D0 Q (i::k) e s):GoM P R B D0 Q (i::k) s (.out e):=by
 obtain⟨s',h1,h2⟩:=h
 exact⟨s',h1,hk _ h2⟩
theorem AlZ {k:List KI} {s:St}:∀x,Go P R B D0 Q (stp P ⟨.code x,k,s⟩)->AC P R B D0 x s (KQ P R B D0 Q k)
 | .seq x y,h=>AmS h.m
 | .region _ ⟨l⟩ false,h=>AjA (l:=l) h.m
 | .region _ _ true,h=>h.m
 | .skip,h=>nS h.m λ_ h=>AjB h
 | .label _,h=>nS h.m λ_ h=>Afb h
 | .block id x,h=>AeZ h.m
 | .scope x,h=>Afe h.m
 | .exit id,h=>nS h.m λ_ h=>Aj9 h
 | .ret,h=>nS h.m λ_ h=>AmR h
 | .cond d x y,h=>by
  unfold stp at h
  dsimp only at h
  split at h
  rename_i hb;exact AjC hb rfl h.m
  rename_i hb;exact Afa hb rfl h.m
  exact h.m
 | .loop _,h=>h.m
 | .rangeFunc ..,h=>h.m
 | .goto _,h=>h.m
 | .refuse _,h=>h.m
theorem AiP:∀c,Go P R B D0 Q (stp P c)->Go P R B D0 Q c
 |⟨.code x,k,s⟩,h=>⟨AlZ x h⟩
 |⟨.ops _ [],k,s⟩,h=>by
  obtain⟨s',h1,h2⟩:=h.m
  exact⟨AaS h1 (Ane h2)⟩
 |⟨.ops _ (_::_),_,_⟩,h=>⟨Ama h⟩
 |⟨.out .normal,.seq y::k,s⟩,h=>⟨⟨s,Ho.refl s,h.m⟩⟩
 |⟨.out .normal,.blk _::k,s⟩,h=>⟨Kf h.m λ_ h=>h⟩
 |⟨.out .normal,.scp::k,s⟩,h=>⟨Kf h.m λ_ h=>h⟩
 |⟨.out .normal,.lp _::k,s⟩,h=>h
 |⟨.out .normal,.un 0 _::k,s⟩,h=>h
 |⟨.out .normal,.un (n+1) b::k,s⟩,h=>⟨⟨s,Ho.refl s,h.m⟩⟩
 |⟨.out .normal,.il b::k,s⟩,h=>⟨⟨s,Ho.refl s,lO h.m⟩⟩
 |⟨.out (.exit id),.blk id'::k,s⟩,h=>by
  have h:Go P R B D0 Q (bif Nat.beq id id' then ⟨.out .normal,k,s⟩ else ⟨.out (.exit id),k,s⟩):=h
  cases hb:Nat.beq id id' with
  |false=>rw[hb] at h;exact⟨Kf h.m λ_ h=>by show (bif Nat.beq id id' then _ else _);rw[hb];exact h⟩
  |true=>
   rw[hb] at h
   obtain⟨s',h1,h2⟩:=h.m
   exact⟨⟨s',h1,by show (bif Nat.beq id id' then _ else _);rw[hb];exact h2⟩⟩
 |⟨.out (.exit id),.seq _::k,s⟩,h=>⟨Kf h.m λ_ h=>h⟩
 |⟨.out (.exit id),.lp _::k,s⟩,h=>⟨Kf h.m λ_ h=>h⟩
 |⟨.out (.exit id),.scp::k,s⟩,h=>⟨Kf h.m λ_ h=>h⟩
 |⟨.out (.exit id),.un _ _::k,s⟩,h=>⟨Kf h.m λ_ h=>h⟩
 |⟨.out (.exit id),.il _::k,s⟩,h=>⟨Kf h.m λ_ h=>h⟩
 |⟨.out .ret,.seq _::k,s⟩,h=>⟨Kf h.m λ_ h=>h⟩
 |⟨.out .ret,.blk _::k,s⟩,h=>⟨Kf h.m λ_ h=>h⟩
 |⟨.out .ret,.lp _::k,s⟩,h=>⟨Kf h.m λ_ h=>h⟩
 |⟨.out .ret,.scp::k,s⟩,h=>⟨Kf h.m λ_ h=>h⟩
 |⟨.out .ret,.un _ _::k,s⟩,h=>⟨Kf h.m λ_ h=>h⟩
 |⟨.out .ret,.il _::k,s⟩,h=>⟨Kf h.m λ_ h=>h⟩
 |⟨.out .normal,[],_⟩,h=>h
 |⟨.out (.exit _),[],_⟩,h=>h
 |⟨.out .ret,[],_⟩,h=>h
 |⟨.out (.goto _),_,_⟩,h=>h
 |⟨.out (.panic _),_,_⟩,h=>h
 |⟨.out .outgrown,_,_⟩,h=>h
def run (P:Program):Nat->Bu->Bu
 |0,c=>c
 |n+1,c=>run P n (stp P c)
theorem Ae:∀(n:Nat) {c:Bu},Go P R B D0 Q (run P n c)->Go P R B D0 Q c
 |0,_,h=>h
 |n+1,c,h=>AiP c (Ae n h)
def Bu.a (c:Bu):Array Oper:=match c.m with| .ops a _=>a|_=>#[]
def Bu.l (c:Bu):List Oper:=match c.m with| .ops _ l=>l|_=>[]
def Bu.o (c:Bu):Oper:=match c.l with|o::_=>o|[]=>default
def Bu.ok (c:Bu):Bool:=match c.m with
 | .ops a (o::_)=>cT a c.s o==some true&&Mn o c.s.n
 |_=>false
def Bu.put (c:Bu) (V:AV) (f:Bl):Bu:=⟨match c.m with| .ops a (_::l)=> .ops a l|m=>m,c.k,⟨Lv c.s.t c.o.dst V,f.ap c.s.h,f.nx c.s.nx,c.s.n⟩⟩
theorem Pc (V:AV) (f:Bl) (h:Dl P B D0 c.o c.s.ev (Aq c.s.h) V f) (hk:Go P R B D0 Q (c.put V f)) (hok:c.ok=true) (hlow:f.low c.s.nx=true):Go P R B D0 Q c:=by
 obtain⟨m,k,s⟩:=c
 cases m with
 |code x=>cases hok
 |out e=>cases hok
 |ops a l=>
  cases l with
  |nil=>cases hok
  |cons o l=>
   have hok:(cT a s o==some true&&Mn o s.n)=true:=hok
   obtain⟨h1,h2⟩:=Bool.and_eq_true_iff.1 hok
   exact⟨tL (by simpa using h1) V f hlow h2 h hk.m⟩
end Go.Proofs.YtkpjchfniejdoaaGreatDoor
namespace Go.Proofs.YtkpjchfniejdoaaGreatDoor
open Go.RowKit
variable {P:Program} {R:Option Nat} {B:Nat} {D0:As} {Q:Exit->St->Prop} {c:Bu}
def Bu.add (c:Bu) (d:Nat) (b:Bool):Bu:=⟨c.m,c.k,⟨(d,.bool b)::c.s.t,c.s.h,c.s.nx,c.s.n⟩⟩
theorem La (d:Nat) (b v:Bool) (hb:b=v) (hk:Go P R B D0 Q (c.add d v)) (hd:Bz c.s.t d= .bool b:=by kernel_rfl):Go P R B D0 Q c:=
 Fu _ (λE a hs=>Ad3 d b v hb hd E a hs) hk
theorem vsb (d:Nat) (b:Bool) (h1:b=true->Go P R B D0 Q (c.add d true)) (h2:b=false->Go P R B D0 Q (c.add d false)) (hd:Bz c.s.t d= .bool b:=by kernel_rfl):Go P R B D0 Q c:=
 Ec b (λh=>La d b true h (h1 h) hd) (λh=>La d b false h (h2 h) hd)
theorem wH (d:Nat) (b:Bool) (h1:b=true->Go P R B D0 Q (c.add d false)) (h2:b=false->Go P R B D0 Q (c.add d true)) (hd:Bz c.s.t d= .bool (!b):=by kernel_rfl):Go P R B D0 Q c:=
 Ec b (λh=>La d (!b) false (by rw[h];rfl) (h1 h) hd) (λh=>La d (!b) true (by rw[h];rfl) (h2 h) hd)
theorem Fy (d:Nat) (p:Prop) [Decidable p] (h1:decide p=true->p->Go P R B D0 Q (c.add d true)) (h2:decide p=false->¬p->Go P R B D0 Q (c.add d false)) (hd:Bz c.s.t d= .bool (decide p):=by kernel_rfl):Go P R B D0 Q c:=
 vsb d (decide p) (λh=>h1 h (of_decide_eq_true h)) (λh=>h2 h (of_decide_eq_false h)) hd
theorem wJ (d:Nat) (p:Prop) [Decidable p] (h1:decide p=true->p->Go P R B D0 Q (c.add d false)) (h2:decide p=false->¬p->Go P R B D0 Q (c.add d true)) (hd:Bz c.s.t d= .bool (!decide p):=by kernel_rfl):Go P R B D0 Q c:=
 wH d (decide p) (λh=>h1 h (of_decide_eq_true h)) (λh=>h2 h (of_decide_eq_false h)) hd
theorem vsp {G:Prop} (p:Prop) [Decidable p] (h1:decide p=true->p->G) (h2:decide p=false->¬p->G):G:=
 Ec (decide p) (λh=>h1 h (of_decide_eq_true h)) (λh=>h2 h (of_decide_eq_false h))
theorem Bo (v v':Value) (hk:Go P R B D0 Q (c.put (.lit v') .none)) (hv:v=v':=by rfl) (hx:(c.o.op.operands.toList.all λx=>(c.s.ev x).isLit)=true:=by kernel_rfl) (hs:mS c.o=true:=by kernel_rfl) (hrun:∀w,(execOp (λx=>(c.s.ev x).val) c.o).run P w= .ok (.value v) w:=by intro w;kernel_rfl) (hok:c.ok=true:=by kernel_rfl):Go P R B D0 Q c:=
 Pc (.lit v') .none (iG _ hx rfl hs hrun hv) hk hok rfl
theorem Dd (x y:Int) (hk:Go P R B D0 Q (c.put (.int y) .none)) (hr: -9223372036854775808<=x/\x<=9223372036854775807:=by omega) (he:x=y:=by omega) (hx:(c.o.op.operands.toList.all λx=>(c.s.ev x).isLit)=true:=by kernel_rfl) (hs:mS c.o=true:=by kernel_rfl) (hrun:∀w,(execOp (λx=>(c.s.ev x).val) c.o).run P w= .ok (.value (.int .i64 (IntKind.wrap .i64 x))) w:=by intro w;kernel_rfl) (hok:c.ok=true:=by kernel_rfl):Go P R B D0 Q c:=
 Pc (.int y) .none (iG _ hx rfl hs hrun (congrArg (Value.int .i64) ((IntWalk.i64_in x hr).trans he))) hk hok rfl
theorem Ci (V:AV) (f:Bl) {V0:AV} {f0:Bl} (h:Dl P B D0 c.o c.s.ev (Aq c.s.h) V0 f0) (hk:Go P R B D0 Q (c.put V f)) (hok:c.ok=true:=by kernel_rfl) (hlow:f.low c.s.nx=true:=by kernel_rfl) (hV:V0=V:=by kernel_rfl) (hf:f0=f:=by kernel_rfl):Go P R B D0 Q c:=Pc V f (hV▸hf▸h) hk hok hlow
def Bu.xs (c:Bu):Array Operand:=match c.o.op with| .call cl=>cl.args|_=>#[]
def Bu.ts (c:Bu):Array TypeId:=match c.o.op with| .call cl=>cl.argTypes|_=>#[]
def Bu.fx (c:Bu):Operand:=match c.o.op with| .call cl=>(match cl.callee with| .value x=>x|_=>default)|_=>default
def Bu.cps (c:Bu):List AV:=match c.s.ev c.fx with| .fn _ l=>l|_=>[]
theorem Ao {f:FuncId} {args:List AV} {r:AV} (hf:AF P f args r) (hk:Go P R B D0 Q (c.put r .none)) (ho:c.o.op= .call { callee:= .value (.func f),args:=c.xs,argTypes:=c.ts }:=by kernel_rfl) (hargs:c.xs.toList.map c.s.ev=args:=by kernel_rfl) (hfree:args.all AV.free=true:=by kernel_rfl) (hok:c.ok=true:=by kernel_rfl) (hcall:∀(vs:Array Value) w,(callFunc f vs).run P w= .ok (.enter f vs) w:=by intro _ _;kernel_rfl):Go P R B D0 Q c:=
 Pc r .none (uP f c.xs c.ts ho hcall args hargs hfree r hf) hk hok rfl
theorem cZ {f:FuncId} {args:List AV} {r:AV} (hf:AF P f args r) (hk:Go P R B D0 Q (c.put r .none)) (ho:c.o.op= .call { callee:= .value c.fx,args:=c.xs,argTypes:=c.ts }:=by kernel_rfl) (hx:c.s.ev c.fx= .fn f c.cps:=by kernel_rfl) (hargs:c.xs.toList.map c.s.ev++c.cps=args:=by kernel_rfl) (hfree:args.all AV.free=true:=by kernel_rfl) (hok:c.ok=true:=by kernel_rfl) (hcall:∀(vs:Array Value) w,(callFunc f vs).run P w= .ok (.enter f vs) w:=by intro _ _;kernel_rfl):Go P R B D0 Q c:=
 Pc r .none (mW c.fx f c.xs c.ts ho c.cps hx hcall args hargs hfree r hf) hk hok rfl
def Bu.ixP (c:Bu) (k:Nat):Bu:=c.put (Co (c.s.ev (Oper.ixX c.o)) k) .none
theorem Fd (k n:Nat) (hk:Go P R B D0 Q (c.ixP k)) (hlt:k<n:=by omega) (hb:ixB P c.o (c.s.ev (Oper.ixX c.o))=true:=by kernel_rfl) (hn:Ad5 (c.s.ev (Oper.ixX c.o))=n:=by kernel_rfl) (hy:c.s.ev (Oper.ixY c.o)= .int (k:Int):=by kernel_rfl) (hok:c.ok=true:=by kernel_rfl):Go P R B D0 Q c:=
 Pc _ .none (Abo _ k hb hy rfl (by rw[hn];exact hlt)) hk hok rfl
theorem Ht {o:Oper} {ev:Operand->AV} {pre:Nat->Option Aw} {V:AV} (k n:Nat) (hlt:k<n:=by omega) (hb:ixB P o (ev (Oper.ixX o))=true:=by kernel_rfl) (hn:Ad5 (ev (Oper.ixX o))=n:=by kernel_rfl) (hy:ev (Oper.ixY o)= .int (k:Int):=by kernel_rfl) (hV:Co (ev (Oper.ixX o)) k=V:=by kernel_rfl):Dl P B D0 o ev pre V .none:=hV▸Abo _ k hb hy rfl (by rw[hn];exact hlt)
theorem Ah6 {o:Oper} {ev:Operand->AV} {pre:Nat->Option Aw} {V:AV} (j:Int) (k n:Nat) (hlt:k<n:=by omega) (hj:j=(k:Int):=by omega) (hb:ixB P o (ev (Oper.ixX o))=true:=by kernel_rfl) (hn:Ad5 (ev (Oper.ixX o))=n:=by kernel_rfl) (hy:ev (Oper.ixY o)= .int j:=by kernel_rfl) (hV:Co (ev (Oper.ixX o)) k=V:=by kernel_rfl):Dl P B D0 o ev pre V .none:=hV▸Abo j k hb hy hj (by rw[hn];exact hlt)
theorem nU {x:Code} {s:St} (h:AC P R B D0 x s (λe s=>∃s',Ho B D0 s s'/\Q e s')):AC P R B D0 x s Q:=⟨λE a hs=>
 De (λe a' w' ⟨s1,E',h1,⟨s',hk,hq⟩,h3,h4⟩=>by
  obtain⟨E2,e2,h5⟩:=hk E' a' h3
  exact⟨s',E2,e2.trans h1,hq,h5,h4⟩) (h.run E a hs)⟩
def Bu.dl (c:Bu):List Oper:=match c.m with| .code (.region _ a true)=>a.toList|_=>[]
def Bu.dr (P:Program) (c:Bu) (ex:Exs):List AV×List Bl:=(yW P c.dl.toArray ex c.s c.dl [] []).getD ([],[])
def Bu.drawn (P:Program) (c:Bu) (ex:Exs) (keep:List Nat):Bu:=⟨.out .normal,c.k,⟨AdW c.dl.toArray (c.dr P ex).1 c.s keep,Hr (c.dr P ex).2 c.s.h c.dl.toArray.size,nxF (c.dr P ex).2 c.s.nx,c.s.n⟩⟩
theorem Cl (ex:Exs) (keep:List Nat) (hop:mA P B D0 c.dl (c.dr P ex).1 (c.dr P ex).2 c.s ex)
  (hk:Go P R B D0 Q (c.drawn P ex keep))
  (hm:P.follows .mixedOrders=true:=by kernel_rfl) (hr:(yW P c.dl.toArray ex c.s c.dl [] []).isSome=true:=by kernel_rfl) (hB:drB c.dl.toArray (c.dr P ex).2 c.s.nx c.s.n=true:=by kernel_rfl) (hnx:nxB (c.dr P ex).2 c.s.nx (nxF (c.dr P ex).2 c.s.nx)=true:=by kernel_rfl) (hc:(match c.m with| .code (.region _ _ true)=>true|_=>false)=true:=by kernel_rfl):Go P R B D0 Q c:=by
 obtain⟨m,k,s⟩:=c
 split at hc
 rename_i id a hmm
 cases hmm
 obtain⟨l⟩:=a
 exact⟨nU (ApZ ex keep _ hop hk.m hm hr hB hnx)⟩
 cases hc
def Ke (keep:List Nat) (s:St):St:=⟨keep.map λt=>(t,Bz s.t t),s.h,s.nx,s.n⟩
theorem Gr (keep:List Nat) (s:St):Ho B D0 s (Ke keep s):=λE a hs=>Aid keep _ rfl E a hs
def Bu.lb (c:Bu):Code:=match c.m with| .code (.loop b)=>b|_=> .skip
def Bu.isL (c:Bu):Bool:=match c.m with| .code (.loop _)=>true|_=>false
def Bu.round (c:Bu) (J:St->Prop) (s:St):Bu:=⟨.code c.lb,.lp J::c.k,s⟩
theorem vlp (keep:List Nat) (I:Nat->St->Prop) (m:Nat) (h0:I m (Ke keep c.s)) (h:∀m s,I m s->∀J:St->Prop,(∀m' s',m'<m->I m' s'->J s')->Go P R B D0 Q (c.round J s)) (hl:c.isL=true:=by kernel_rfl):Go P R B D0 Q c:=by
 refine Fu _ (Gr keep c.s) ?_
 obtain⟨md,k,s⟩:=c
 unfold Bu.isL at hl
 split at hl
 rename_i b hm
 cases hm
 exact⟨rH I m h0 λm s hI=>(h m s hI _ λm' s' h1 h2=>⟨m',h1,h2⟩).m⟩
 cases hl
theorem Vc (keep:List Nat) (n:Nat) (F:Nat->Prop) (st:Nat->St) (h0:F 0) (h:∀i,i<=n->F i->∀J:St->Prop,(i<n->F (i+1)->J (st (i+1)))->Go P R B D0 Q (c.round J (st i))) (hs:Ke keep c.s=st 0:=by kernel_rfl) (hl:c.isL=true:=by kernel_rfl):Go P R B D0 Q c:=
 vlp keep (λm s=>∃i,i<=n/\m=n-i/\F i/\s=st i) n ⟨0,Nat.zero_le _,rfl,h0,hs⟩ (λm s ⟨i,h1,h2,h3,h4⟩ J hJ=>by
  subst h4
  exact h i h1 h3 J λg1 g2=>hJ (n-(i+1)) _ ω ⟨i+1,g1,rfl,g2,rfl⟩) hl
def Bu.J (c:Bu):St->Prop:=match c.k with| .lp J::_=>J|_=>λ_=>False
def Bu.isN (c:Bu):Bool:=match c.m with| .out .normal=>true|_=>false
theorem Aqy {J:St->Prop} (s':St) (hw:Ho B D0 c.s s') (h:J s') (hT:c.J=J:=by kernel_rfl) (hn:c.isN=true:=by kernel_rfl):Go P R B D0 Q c:=by
 obtain⟨m,k,s⟩:=c
 unfold Bu.isN at hn
 split at hn
 rename_i hm
 cases hm
 subst hT
 cases k with
 |nil=>exact h.elim
 |cons i k=>cases i with
  |lp J=>exact⟨⟨s',hw,h⟩⟩
  |_=>exact h.elim
 cases hn
theorem rE {J:St->Prop} (keep:List Nat) {s':St} (h:J s') (hs:Ke keep c.s=s':=by kernel_rfl) (hT:c.J=J:=by kernel_rfl) (hn:c.isN=true:=by kernel_rfl):Go P R B D0 Q c:=Aqy _ (Gr keep c.s) (hs▸h) hT hn
abbrev yH:=List (TypeId×Nat×Nat×(Nat->AV))
def cO:Dt->yH
 |[]=>[]
 |(_,.vec t e n f)::h=>(t,e,n,f)::cO h
 |(_,.box _ _)::h=>cO h
 |(_,.loop ..)::h=>cO h
def mE:yH->Prop
 |[]=>True
 |(_,e,n,f)::l=>(∀i,i<n->∀j,j<e->((f i).cell j).flat=true)/\mE l
theorem Ns:∀{h:Dt} {l:yH},cO h=l->mE l->mD h
 |[],_,_,_=>trivial
 |(_,.vec _ _ _ _)::h,_,rfl,hl=>⟨hl.1,Ns (h:=h) rfl hl.2⟩
 |(_,.box _ _)::h,_,hv,hl=>Ns (h:=h) hv hl
 |(_,.loop ..)::h,_,hv,hl=>Ns (h:=h) hv hl
theorem Tf {J:St->Prop} (keep:List Nat) (ρ:List (Nat×Nat)) (nx k0:Nat) (hA0:∀id,D0.A id->id<k0) (L:yH) (hfl:mE L) {s':St} (h:J s') (hv:cO c.s.h=L:=by kernel_rfl) (hs:(⟨mapT (Vx ρ) (Ke keep c.s).t,Aar ρ c.s.h,nx,c.s.n⟩:St)=s':=by kernel_rfl) (hd:Km (ρ.map (·.2))=true:=by kernel_rfl) (hd1:Km (ρ.map (·.1))=true:=by kernel_rfl) (hl:(ρ.all λp=>(Aq c.s.h p.1).isSome&&Nat.blt p.2 nx)=true:=by kernel_rfl) (hk0:(Nat.ble k0 nx&&ρ.all λp=>Nat.beq p.1 p.2||Nat.ble k0 p.2)=true:=by kernel_rfl) (hT:c.J=J:=by kernel_rfl) (hn:c.isN=true:=by kernel_rfl):Go P R B D0 Q c:=
 Aqy s' (Ho.trans (Gr keep c.s) λE a hs'=>eB ρ nx k0 hA0 s' hs hd hd1 hl hk0 (Ns hv hfl) E a hs') h hT hn
def Bu.frzS (c:Bu) (id:Nat) (ds:List Nat) (V:AV):Bu:=⟨c.m,c.k,⟨ds.map (λd=>(d,V))++c.s.t,Gx c.s.h id,c.s.nx,c.s.n⟩⟩
theorem rD (id:Nat) (ds:List Nat) (t:TypeId) (e n:Nat) (f:Nat->AV) (hf:∀i,i<n->∀j,j<e->((f i).cell j).flat=true) (hk:Go P R B D0 Q (c.frzS id ds (.sl e n f))) (hd:ds.map (Bz c.s.t)=ds.map λ_=> .osl id e n:=by kernel_rfl) (hc:Aq c.s.h id=some (.vec t e n f):=by kernel_rfl):Go P R B D0 Q c:=
 Fu _ (λE a hs=>tJ id ds t e n f hd hc hf E a hs) hk
theorem AmN (id:Nat) (ds:List Nat) (t:TypeId) (e n:Nat) (f:Nat->AV) (hf:∀i,i<n->∀j,j<e->((f i).cell j).flat=true) (hk:Go P R B D0 Q (c.frzS id ds (.slc e n f))) (hd:ds.map (Bz c.s.t)=ds.map λ_=> .osl id e n:=by kernel_rfl) (hc:Aq c.s.h id=some (.vec t e n f):=by kernel_rfl):Go P R B D0 Q c:=
 Fu _ (λE a hs=>pL id ds t e n f hd hc hf E a hs) hk
def Bu.box (c:Bu) (id:Nat):List AV:=match Aq c.s.h id with|some (.box _ cs)=>cs|_=>[]
def Bu.boxT (c:Bu) (id:Nat):TypeId:=match Aq c.s.h id with|some (.box t _)=>t|_=>0
def Bu.frzB (c:Bu) (id:Nat):Bu:=⟨c.m,c.k,⟨mapT (YtkpjchfniejdoaaGreatDoor.frzB id (c.box id)) c.s.t,(Gx c.s.h id).map λp=>(p.1,p.2.mapB (YtkpjchfniejdoaaGreatDoor.frzB id (c.box id))),c.s.nx,c.s.n⟩⟩
theorem Vz (id:Nat) (hk:Go P R B D0 Q (c.frzB id)) (hc:Aq c.s.h id=some (.box (c.boxT id) (c.box id)):=by kernel_rfl) (hf:(c.box id).all AV.free=true:=by kernel_rfl):Go P R B D0 Q c:=
 Fu _ (λE a hs=>pK id _ _ _ hc rfl hf E a hs) hk
def Bu.setB (c:Bu) (id:Nat) (b:Aw):Bu:=⟨c.m,c.k,⟨c.s.t,hset c.s.h id b,c.s.nx,c.s.n⟩⟩
theorem kM (id:Nat) (t:TypeId) (e n:Nat) (f g:Nat->AV) (hfg:∀i,i<n->f i=g i) (hk:Go P R B D0 Q (c.setB id (.vec t e n g))) (hc:Aq c.s.h id=some (.vec t e n f):=by kernel_rfl):Go P R B D0 Q c:=
 Fu _ (λE a hs=>Ajg id t e n f g hc hfg E a hs) hk
def Ia (P:Program) (s:St):ResultVar->Option AV
 | .tmp t=>bif (Bz s.t t).free then some (Bz s.t t) else none
 | .cell q T=>match Bz s.t q with
  | .ptr id off=>match Aq s.h id with
   |some (.box _ cs)=>match cM P T with
    |some false=>bif Nat.blt off cs.length&&(cs.getD off .top).free then some (cs.getD off .top) else none
    |some true=>match Iy P T with
     |some n=>bif Nat.ble (off+n) cs.length&&(mkAgg ((cs.drop off).take n)).free then some (mkAgg ((cs.drop off).take n)) else none
     |none=>none
    |none=>none
   |_=>none
  |_=>none
theorem En {s:St} {rv:ResultVar} {x:AV} (h:Ia P s rv=some x):Rv P B D0 s rv x:=by
 unfold Ia at h
 split at h
 rename_i t
 cases hb:(Bz s.t t).free with
 |false=>rw[hb] at h;cases h
 |true=>rw[hb] at h;cases h;exact Ai8 rfl hb
 rename_i q T
 split at h
 rename_i id off hq
 split at h
 rename_i t cs hc
 split at h
 rename_i ha
 cases hb:Nat.blt off cs.length&&(cs.getD off .top).free with
 |false=>rw[hb] at h;cases h
 |true=>
  rw[hb] at h;cases h
  have hb2:=Bool.and_eq_true_iff.1 hb
  exact Aau id (Gc ha) off cs hq t hc (by simpa [Nat.blt_eq] using hb2.1) rfl hb2.2
 rename_i ha
 split at h
 rename_i n hn
 cases hb:Nat.ble (off+n) cs.length&&(mkAgg ((cs.drop off).take n)).free with
 |false=>rw[hb] at h;cases h
 |true=>
  rw[hb] at h;cases h
  have hb2:=Bool.and_eq_true_iff.1 hb
  exact Aei id (Gc ha) n (Cw hn) off cs hq t hc (Nat.le_of_ble_eq_true hb2.1) rfl hb2.2
 cases h
 cases h
 cases h
 cases h
theorem Ao4 {s:St} {fn:Func} {r1 r2 r3 r4:ResultVar} {x y z u:AV} (hr:fn.results=#[r1,r2,r3,r4]) (h1:Rv P B D0 s r1 x) (h2:Rv P B D0 s r2 y) (h3:Rv P B D0 s r3 z) (h4:Rv P B D0 s r4 u):Oq P B D0 fn s (mkTup [x,y,z,u]):=λE a hs=>by
 obtain⟨v1,e1,f1⟩:=h1 E a hs
 obtain⟨v2,e2,f2⟩:=h2 E a hs
 obtain⟨v3,e3,f3⟩:=h3 E a hs
 obtain⟨v4,e4,f4⟩:=h4 E a hs
 refine⟨.tuple #[v1,v2,v3,v4],by simp[Ig,hr,e1,e2,e3,e4],VR.tupl [x,y,z,u] _ rfl (λi hi=>?_) _ rfl⟩
 match i with
 |0=>exact f1
 |1=>exact f2
 |2=>exact f3
 |3=>exact f4
def Tb (P:Program) (fn:Func) (s:St):Option AV:=match fn.results.toList with
 |[]=>some (.lit (.tuple #[]))
 |[r]=>Ia P s r
 |[r1,r2]=>match Ia P s r1,Ia P s r2 with
  |some x,some y=>some (mkTup [x,y])
  |_,_=>none
 |[r1,r2,r3]=>match Ia P s r1,Ia P s r2,Ia P s r3 with
  |some x,some y,some z=>some (mkTup [x,y,z])
  |_,_,_=>none
 |[r1,r2,r3,r4]=>match Ia P s r1,Ia P s r2,Ia P s r3,Ia P s r4 with
  |some x,some y,some z,some u=>some (mkTup [x,y,z,u])
  |_,_,_,_=>none
 |[r1,r2,r3,r4,r5]=>match Ia P s r1,Ia P s r2,Ia P s r3,Ia P s r4,Ia P s r5 with
  |some x,some y,some z,some u,some t=>some (mkTup [x,y,z,u,t])
  |_,_,_,_,_=>none
 |_=>none
theorem fY {fn:Func} {s:St} {V:AV} (h:Tb P fn s=some V):Oq P B D0 fn s V:=by
 have key:∀l,fn.results.toList=l->fn.results=l.toArray:=λl h=>by rw[<-h]
 unfold Tb at h
 split at h
 rename_i hr;cases h;exact Aas (key _ hr)
 rename_i hr;exact Ao1 (key _ hr) (En h)
 rename_i hr
 split at h
 rename_i h1 h2;cases h;exact Ao2 (key _ hr) (En h1) (En h2)
 cases h
 rename_i hr
 split at h
 rename_i h1 h2 h3;cases h;exact Ao3 (key _ hr) (En h1) (En h2) (En h3)
 cases h
 rename_i hr
 split at h
 rename_i h1 h2 h3 h4;cases h;exact Ao4 (key _ hr) (En h1) (En h2) (En h3) (En h4)
 cases h
 rename_i hr
 split at h
 rename_i h1 h2 h3 h4 h5;cases h;exact Ao5 (key _ hr) (En h1) (En h2) (En h3) (En h4) (En h5)
 cases h
 cases h
def QF (P:Program) (B:Nat) (D0:As) (fn:Func) (r:AV):Exit->St->Prop:=λe s=>(e= .ret\/e= .normal)/\Oq P B D0 fn s r
def Bu.isE (c:Bu):Bool:=match c.m,c.k with| .out .normal,[]=>true| .out .ret,[]=>true|_,_=>false
theorem Eb {fn:Func} {r:AV} (V:AV) (h:V=r) (hv:Tb P fn c.s=some V:=by kernel_rfl) (hn:c.isE=true:=by kernel_rfl):Go P R B D0 (QF P B D0 fn r) c:=by
 subst h
 have hr:=fY (B:=B) (D0:=D0) hv
 obtain⟨m,k,s⟩:=c
 unfold Bu.isE at hn
 split at hn
 rename_i h1 h2
 cases h1;cases h2
 exact⟨⟨s,Ho.refl s,.inr rfl,hr⟩⟩
 rename_i h1 h2
 cases h1;cases h2
 exact⟨⟨s,Ho.refl s,.inl rfl,hr⟩⟩
 cases hn
theorem Cm {fn:Func} {r:AV} (hv:Tb P fn c.s=some r:=by kernel_rfl) (hn:c.isE=true:=by kernel_rfl):Go P R B D0 (QF P B D0 fn r) c:=Eb r rfl hv hn
theorem Au {f:FuncId} {fn:Func} {args:List AV} {r:AV} (hf:Tryz.prog.funcs[f]?=some fn) {x:Code} (hc:fn.body=some x:=by rfl) (h:∀B D0,(∀id,D0.A id->id<0)->Go Tryz.prog none B D0 (QF Tryz.prog B D0 fn r) ⟨.code x,[],⟨Cy args 0,[],0,fn.ntmps⟩⟩) (hle:Nat.ble args.length fn.ntmps=true:=by kernel_rfl):AF Tryz.prog f args r:=
 Aps _ hf hc fn.ntmps rfl hle rfl λB D0 hA=>(h B D0 hA).m
end Go.Proofs.YtkpjchfniejdoaaGreatDoor
namespace Go.Proofs.YtkpjchfniejdoaaGreatDoor
open Go.RowKit
variable {P:Program} {R:Option Nat} {B:Nat} {D0:As} {Q:Exit->St->Prop} {c:Bu}
def Bu.unr (c:Bu) (n:Nat):Bu:=⟨.code c.lb,.un n c.lb::c.k,c.s⟩
theorem Mg (n:Nat) (h:Go P R B D0 Q (c.unr n)) (hl:c.isL=true:=by kernel_rfl):Go P R B D0 Q c:=by
 obtain⟨m,k,s⟩:=c
 unfold Bu.isL at hl
 split at hl
 rename_i b hm
 cases hm
 exact⟨nT (n+1) h.m⟩
 cases hl
def Bu.back (c:Bu) (r:AV) (h:Dt) (nx:Nat):Bu:=⟨.ops c.a c.l.tail,c.k,⟨Lv c.s.t c.o.dst r,h,nx,c.s.n⟩⟩
def sF (P:Program) (B:Nat) (D1:As) (fn:Func) (K:AV->Dt->Nat->Prop):Exit->St->Prop:=AfX P B D1 fn K
theorem Abn {f:FuncId} {fn:Func} {x:Code} {args:List AV} (hf:Tryz.prog.funcs[f]?=some fn) (hc:fn.body=some x)
  (hrun:∀(E:As) (a:Act),(∀x,VR E (c.s.ev x) (a.eval x))->∃vs:Array Value,(∀w,(execOp a.eval c.o).run Tryz.prog w= .ok (.enter f vs) w)/\vs.size=args.length/\∀i,i<args.length->VR E (args.getD i .top) (vs.getD i undef))
  (h:∀D1,(∀id,D1.A id->id<c.s.nx)->Go Tryz.prog none B D1 (sF Tryz.prog B D1 fn λr h nx=>Go Tryz.prog R B D0 Q (c.back r h nx)) ⟨.code x,[],⟨Cy args 0,c.s.h,c.s.nx,fn.ntmps⟩⟩)
  (hle:Nat.ble args.length fn.ntmps=true) (hok:c.ok=true) (hg:c.o.guard=none):Go Tryz.prog R B D0 Q c:=by
 obtain⟨m,k,s⟩:=c
 cases m with
 |code x=>cases hok
 |out e=>cases hok
 |ops a l=>
  cases l with
  |nil=>cases hok
  |cons o l=>
   have hok:(cT a s o==some true&&Mn o s.n)=true:=hok
   exact⟨Ac1 f args fn.ntmps hg (Bool.and_eq_true_iff.1 hok).2 hrun hf hc rfl hle λD1 hD=>dF (h D1 hD).m λe s ⟨h1,r,h2,h3⟩=>⟨h1,r,h2,h3.m⟩⟩
theorem Amp {f:FuncId} {fn:Func} {x:Code} (nx0:Nat) (hf:Tryz.prog.funcs[f]?=some fn)
  (h:∀D1,(∀id,D1.A id->id<nx0)->Go Tryz.prog none B D1 (sF Tryz.prog B D1 fn λr h nx=>Go Tryz.prog R B D0 Q (c.back r h nx)) ⟨.code x,[],⟨Cy (c.xs.toList.map c.s.ev) 0,c.s.h,c.s.nx,fn.ntmps⟩⟩)
  (hc:fn.body=some x:=by rfl) (ho:c.o.op= .call { callee:= .value (.func f),args:=c.xs,argTypes:=c.ts }:=by kernel_rfl) (hcall:∀(vs:Array Value) w,(callFunc f vs).run Tryz.prog w= .ok (.enter f vs) w:=by intro _ _;kernel_rfl)
  (hle:Nat.ble (c.xs.toList.map c.s.ev).length fn.ntmps=true:=by kernel_rfl) (hok:c.ok=true:=by kernel_rfl) (hg:c.o.guard=none:=by kernel_rfl) (hnx:c.s.nx=nx0:=by kernel_rfl):Go Tryz.prog R B D0 Q c:=
 Abn hf hc (λE a hv=>AlG f c.xs c.ts ho hcall _ rfl E a hv) (hnx▸h) hle hok hg
theorem nR {f:FuncId} {fn:Func} {x:Code} (nx0:Nat) (hf:Tryz.prog.funcs[f]?=some fn)
  (h:∀D1,(∀id,D1.A id->id<nx0)->Go Tryz.prog none B D1 (sF Tryz.prog B D1 fn λr h nx=>Go Tryz.prog R B D0 Q (c.back r h nx)) ⟨.code x,[],⟨Cy (c.xs.toList.map c.s.ev++c.cps) 0,c.s.h,c.s.nx,fn.ntmps⟩⟩)
  (hc:fn.body=some x:=by rfl) (ho:c.o.op= .call { callee:= .value c.fx,args:=c.xs,argTypes:=c.ts }:=by kernel_rfl) (hx:c.s.ev c.fx= .fn f c.cps:=by kernel_rfl) (hcall:∀(vs:Array Value) w,(callFunc f vs).run Tryz.prog w= .ok (.enter f vs) w:=by intro _ _;kernel_rfl)
  (hle:Nat.ble (c.xs.toList.map c.s.ev++c.cps).length fn.ntmps=true:=by kernel_rfl) (hok:c.ok=true:=by kernel_rfl) (hg:c.o.guard=none:=by kernel_rfl) (hnx:c.s.nx=nx0:=by kernel_rfl):Go Tryz.prog R B D0 Q c:=
 Abn hf hc (λE a hv=>AiD c.fx f c.xs c.ts ho c.cps hx hcall _ rfl E a hv) (hnx▸h) hle hok hg
def Oz (P:Program) (s:St):ResultVar->Option AV
 | .tmp t=>some (Bz s.t t)
 | .cell q T=>match Bz s.t q with
  | .ptr id off=>match Aq s.h id with
   |some (.box _ cs)=>match cM P T with
    |some false=>bif Nat.blt off cs.length then some (cs.getD off .top) else none
    |some true=>match Iy P T with
     |some n=>bif Nat.ble (off+n) cs.length then some (mkAgg ((cs.drop off).take n)) else none
     |none=>none
    |none=>none
   |_=>none
  |_=>none
theorem Kr {s:St} {rv:ResultVar} {x:AV} (h:Oz P s rv=some x):We P B D0 s rv x:=by
 unfold Oz at h
 split at h
 cases h;exact Aeh rfl
 rename_i q T
 split at h
 rename_i id off hq
 split at h
 rename_i t cs hc
 split at h
 rename_i ha
 cases hb:Nat.blt off cs.length with
 |false=>rw[hb] at h;cases h
 |true=>rw[hb] at h;cases h;exact vG id (Gc ha) off cs hq t hc (by simpa [Nat.blt_eq] using hb) rfl
 rename_i ha
 split at h
 rename_i n hn
 cases hb:Nat.ble (off+n) cs.length with
 |false=>rw[hb] at h;cases h
 |true=>rw[hb] at h;cases h;exact Aat id (Gc ha) n (Cw hn) off cs hq t hc (Nat.le_of_ble_eq_true hb) rfl
 cases h
 cases h
 cases h
 cases h
def Tw (P:Program) (fn:Func) (s:St):Option AV:=match fn.results.toList with
 |[]=>some (.lit (.tuple #[]))
 |[r]=>Oz P s r
 |[r1,r2]=>match Oz P s r1,Oz P s r2 with
  |some x,some y=>some (mkTup [x,y])
  |_,_=>none
 |[r1,r2,r3]=>match Oz P s r1,Oz P s r2,Oz P s r3 with
  |some x,some y,some z=>some (mkTup [x,y,z])
  |_,_,_=>none
 |_=>none
theorem Adk {fn:Func} {s:St} {V:AV} (h:Tw P fn s=some V):Ac8 P B D0 fn s V:=by
 have key:∀l,fn.results.toList=l->fn.results=l.toArray:=λl h=>by rw[<-h]
 unfold Tw at h
 split at h
 rename_i hr;cases h;exact Aeg (key _ hr)
 rename_i hr;exact Aqc (key _ hr) (Kr h)
 rename_i hr
 split at h
 rename_i h1 h2;cases h;exact Aqd (key _ hr) (Kr h1) (Kr h2)
 cases h
 rename_i hr
 split at h
 rename_i h1 h2 h3;cases h;exact Aqe (key _ hr) (Kr h1) (Kr h2) (Kr h3)
 cases h
 cases h
def Bu.rI (P:Program) (fn:Func) (c:Bu):AV:=(Tw P fn c.s).getD .top
theorem vrI {D1:As} {fn:Func} {K:AV->Dt->Nat->Prop} (hk:K (c.rI P fn) c.s.h c.s.nx) (hv:(Tw P fn c.s).isSome=true:=by kernel_rfl) (hn:c.isE=true:=by kernel_rfl):Go P R B D1 (sF P B D1 fn K) c:=by
 unfold Bu.rI at hk
 cases he:Tw P fn c.s with
 |none=>rw[he] at hv;cases hv
 |some V=>
  rw[he] at hk
  have hr:=Adk (B:=B) (D0:=D1) he
  obtain⟨m,k,s⟩:=c
  unfold Bu.isE at hn
  split at hn
  rename_i h1 h2
  cases h1;cases h2
  exact⟨⟨s,Ho.refl s,.inr rfl,V,hr,hk⟩⟩
  rename_i h1 h2
  cases h1;cases h2
  exact⟨⟨s,Ho.refl s,.inl rfl,V,hr,hk⟩⟩
  cases hn
def Oper.enX (o:Oper):Operand:=match o.op with| .binOp _ _ x _ _=>x|_=>default
def enB (P:Program) (o:Oper):Bool:=match o.op with
 | .binOp .eql T _ (.const (.slice none 0 0)) _=>match P.underlying T with
  |some (.slice _)=>true
  |_=>false
 |_=>false
theorem ApC {o:Oper} {ev:Operand->AV} {pre:Nat->Option Aw} (hb:enB P o=true) {e n:Nat} {f:Nat->AV} (hx:ev (Oper.enX o)= .sl e n f) (h0:0<n):Dl P B D0 o ev pre (.bool false) .none:=by
 unfold enB at hb
 split at hb
 rename_i T x t' ho
 have ex:Oper.enX o=x:=by unfold Oper.enX;rw[ho]
 rw[ex] at hx
 split at hb
 rename_i el hu
 exact AdS T t' x ho hu e n f hx h0
 cases hb
 cases hb
def slE:AV->Nat| .sl e _ _=>e|_=>0
def slF:AV->Nat->AV| .sl _ _ f=>f|_=>λ_=> .top
theorem ven (n:Nat) (hk:Go P R B D0 Q (c.put (.bool false) .none)) (h0:0<n:=by omega) (hb:enB P c.o=true:=by kernel_rfl) (hx:c.s.ev (Oper.enX c.o)= .sl (slE (c.s.ev (Oper.enX c.o))) n (slF (c.s.ev (Oper.enX c.o))):=by kernel_rfl) (hok:c.ok=true:=by kernel_rfl):Go P R B D0 Q c:=Pc _ .none (ApC hb hx h0) hk hok rfl
def Oper.cxs (o:Oper):Array Operand:=match o.op with| .call cl=>cl.args|_=>#[]
def Oper.cts (o:Oper):Array TypeId:=match o.op with| .call cl=>cl.argTypes|_=>#[]
def Oper.cfx (o:Oper):Operand:=match o.op with| .call cl=>(match cl.callee with| .value x=>x|_=>default)|_=>default
def Ag5:AV->List AV| .fn _ l=>l|_=>[]
theorem Be {o:Oper} {ev:Operand->AV} {pre:Nat->Option Aw} {f:FuncId} {args:List AV} {r:AV} (hf:AF P f args r) (ho:o.op= .call { callee:= .value (.func f),args:=Oper.cxs o,argTypes:=Oper.cts o }:=by kernel_rfl) (hargs:(Oper.cxs o).toList.map ev=args:=by kernel_rfl) (hfree:args.all AV.free=true:=by kernel_rfl) (hcall:∀(vs:Array Value) w,(callFunc f vs).run P w= .ok (.enter f vs) w:=by intro _ _;kernel_rfl):Dl P B D0 o ev pre r .none:=uP f _ _ ho hcall args hargs hfree r hf
theorem Ll {o:Oper} {ev:Operand->AV} {pre:Nat->Option Aw} {f:FuncId} {args:List AV} {r:AV} (hf:AF P f args r) (ho:o.op= .call { callee:= .value (Oper.cfx o),args:=Oper.cxs o,argTypes:=Oper.cts o }:=by kernel_rfl) (hx:ev (Oper.cfx o)= .fn f (Ag5 (ev (Oper.cfx o))):=by kernel_rfl) (hargs:(Oper.cxs o).toList.map ev++Ag5 (ev (Oper.cfx o))=args:=by kernel_rfl) (hfree:args.all AV.free=true:=by kernel_rfl) (hcall:∀(vs:Array Value) w,(callFunc f vs).run P w= .ok (.enter f vs) w:=by intro _ _;kernel_rfl):Dl P B D0 o ev pre r .none:=mW _ f _ _ ho _ hx hcall args hargs hfree r hf
theorem rG {o:Oper} {ev:Operand->AV} {pre:Nat->Option Aw} {b v:Bool} (hb:b=v) (h:evG P o ev pre 0=some (.bool b,.none):=by kernel_rfl):Dl P B D0 o ev pre (.bool v) .none:=hb▸Xb h
theorem aO {o:Oper} {ev:Operand->AV} {pre:Nat->Option Aw} {b v:Bool} (hb:b=v) (h:Dl P B D0 o ev pre (.bool b) .none):Dl P B D0 o ev pre (.bool v) .none:=hb▸h
theorem Df {e n:Nat} {f:Nat->AV} (h:∀i,i<n->((List.range e).all λj=>((f i).cell j).flat)=true):∀i,i<n->∀j,j<e->((f i).cell j).flat=true:=λi hi j hj=>List.all_eq_true.1 (h i hi) j (List.mem_range.2 hj)
theorem AoL {keep:List Nat} (n:Nat) (st:Nat->St) (h:∀i,i<n->∀J:St->Prop,J (st (i+1))->Go P R B D0 Q (c.round J (st i))) (hl:Go P R B D0 Q (c.round (λ_=>False) (st n))) (hs:Ke keep c.s=st 0:=by kernel_rfl) (hL:c.isL=true:=by kernel_rfl):Go P R B D0 Q c:=by
 refine Fu _ (Gr keep c.s) ?_
 rw[hs]
 obtain⟨md,k,s⟩:=c
 unfold Bu.isL at hL
 split at hL
 rename_i b hm
 cases hm
 exact⟨rJ st n rfl (λi hi K hK=>(h i hi K hK).m) hl.m⟩
 cases hL
def QM (P:Program) (B:Nat) (D0:As) (fn:Func) (r:Value) (t:TypeId) (us:List Value):Exit->St->Prop:=λe s=>(e= .ret\/e= .normal)/\Oq P B D0 fn s (.lit r)/\Aq s.h 0=some (.box t (us.map .lit))
theorem AoO {fn:Func} {r:Value} {t:TypeId} {us:List Value} (V:AV) (h:V= .lit r) (hv:Tb P fn c.s=some V:=by kernel_rfl) (hb:Aq c.s.h 0=some (.box t (us.map .lit)):=by kernel_rfl) (hn:c.isE=true:=by kernel_rfl):Go P R B D0 (QM P B D0 fn r t us) c:=by
 subst h
 have hr:=fY (B:=B) (D0:=D0) hv
 obtain⟨m,k,s⟩:=c
 unfold Bu.isE at hn
 split at hn
 rename_i h1 h2
 cases h1;cases h2
 exact⟨⟨s,Ho.refl s,.inr rfl,hr,hb⟩⟩
 rename_i h1 h2
 cases h1;cases h2
 exact⟨⟨s,Ho.refl s,.inl rfl,hr,hb⟩⟩
 cases hn
theorem AnM {f:FuncId} {fn:Func} {t:TypeId} {us us':List Value} {args:List AV} {r:Value} (hf:Tryz.prog.funcs[f]?=some fn) {x:Code} (hc:fn.body=some x:=by rfl) (h:∀B D0,(∀id,D0.A id->id<1)->Go Tryz.prog none B D0 (QM Tryz.prog B D0 fn r t us') ⟨.code x,[],⟨Cy (.ptr 0 0::args) 0,[(0,.box t (us.map .lit))],1,fn.ntmps⟩⟩) (hle:Nat.ble (args.length+1) fn.ntmps=true:=by kernel_rfl):AFN Tryz.prog f t us us' args r:=
 AmT _ hf hc fn.ntmps rfl hle rfl λB D0 hA=>(h B D0 hA).m
theorem zI {f:FuncId} {fn:Func} {t:TypeId} {us:List Value} {args:List AV} {r:Value} (hf:Tryz.prog.funcs[f]?=some fn) {x:Code} (hc:fn.body=some x:=by rfl) (h:∀B D0,(∀id,D0.A id->id<1)->Go Tryz.prog none B D0 (QM Tryz.prog B D0 fn r t us) ⟨.code x,[],⟨Cy (.ptr 0 0::args) 0,[(0,.box t (us.map .lit))],1,fn.ntmps⟩⟩) (hle:Nat.ble (args.length+1) fn.ntmps=true:=by kernel_rfl):AFM Tryz.prog f t us args r:=
 AnM hf hc h hle
def Bu.frzC (c:Bu) (id b off:Nat) (V:AV):Bu:=⟨c.m,c.k,⟨c.s.t,hset (Gx c.s.h id) b (.box (c.boxT b) ((c.box b).set off V)),c.s.nx,c.s.n⟩⟩
theorem Amo (id b off:Nat) (t:TypeId) (e n:Nat) (f:Nat->AV) (hf:∀i,i<n->∀j,j<e->((f i).cell j).flat=true) (hk:Go P R B D0 Q (c.frzC id b off (.sl e n f))) (hb:Aq c.s.h b=some (.box (c.boxT b) (c.box b)):=by kernel_rfl) (ho:(c.box b).getD off .top= .osl id e n:=by kernel_rfl) (hne:Nat.beq id b=false:=by kernel_rfl) (hc:Aq c.s.h id=some (.vec t e n f):=by kernel_rfl):Go P R B D0 Q c:=
 Fu _ (λE a hs=>tI id b off t e n f (c.boxT b) (c.box b) _ hb ho rfl hne hc hf E a hs) hk
def Aqo:AV->Nat| .slc e _ _=>e|_=>0
def Aqq:AV->Nat| .slc _ n _=>n|_=>0
def Aqp:AV->Nat->AV| .slc _ _ f=>f|_=>λ_=> .top
def Bu.wkS (c:Bu) (d:Nat):Bu:=⟨c.m,c.k,⟨(d,(Bz c.s.t d).wk)::c.s.t,c.s.h,c.s.nx,c.s.n⟩⟩
theorem vwk (d:Nat) (hk:Go P R B D0 Q (c.wkS d)) (hd:Bz c.s.t d= .slc (Aqo (Bz c.s.t d)) (Aqq (Bz c.s.t d)) (Aqp (Bz c.s.t d)):=by kernel_rfl):Go P R B D0 Q c:=
 Fu _ (λE a hs=>Ajp d _ _ _ hd E a hs) (by
  have e:(Bz c.s.t d).wk= .sl (Aqo (Bz c.s.t d)) (Aqq (Bz c.s.t d)) (Aqp (Bz c.s.t d)):=by rw[hd];rfl
  unfold Bu.wkS at hk
  rw[e] at hk
  exact hk)
def oX (o:Oper):Operand:=match o.op with| .call cl=>cl.args.getD 0 default|_=>default
def oY (o:Oper):Operand:=match o.op with| .call cl=>cl.args.getD 1 default|_=>default
def oT (o:Oper):TypeId:=match o.op with| .call cl=>cl.argTypes.getD 0 0| .buildSlice T _ _=>T|_=>0
def oPs (o:Oper):Array (Nat×Operand):=match o.op with| .buildSlice _ _ ps=>ps|_=>#[]
def zT (P:Program) (el:TypeId):Value:=(bD P el).getD undef
def Agz (P:Program) (o:Oper) (ev:Operand->AV) (el:TypeId) (e len:Nat):Option (List AV):=Wg (λi=>some (i*e,e)) ((List.range (len*e)).map λi=> .lit ((zT P el).cells.toList.getD (i%e) undef)) ((oPs o).toList.map λp=>(p.1,ev p.2))
theorem Oh (nid:Nat) (el:TypeId) (e len:Nat) (F:Nat->AV) (hk:Go P R B D0 Q (c.put (.osl nid e len) (.new nid (.vec el e len F)))) (ho:c.o.op= .buildSlice (oT c.o) len (oPs c.o):=by kernel_rfl) (hu:P.underlying (oT c.o)=some (.slice el):=by kernel_rfl) (he:Iy P el=some e:=by kernel_rfl) (hz:bD P el=some (zT P el):=by kernel_rfl) (hb:(Nat.beq (zT P el).cells.size e&&(Nat.blt 0 e&&(Nat.blt 0 len&&Nat.ble (len*e) 16777216)))=true:=by kernel_rfl) (hf:Agz P c.o c.s.ev el e len=some ((Agz P c.o c.s.ev el e len).getD []):=by kernel_rfl) (hfo:(List.range (len*e)).map (λq=>(F (q/e)).cell (q%e))=(Agz P c.o c.s.ev el e len).getD []:=by kernel_rfl) (hok:c.ok=true:=by kernel_rfl) (hlow:Bl.low (.new nid (.vec el e len F)) c.s.nx=true:=by kernel_rfl):Go P R B D0 Q c:=by
 simp only[Bool.and_eq_true] at hb
 obtain⟨b1,b2,b3,b4⟩:=hb
 exact Pc _ _ (Db (oT c.o) len (oPs c.o) ho hu e (Cw he) _ (Su hz) (Nat.eq_of_beq_eq_true b1) (by simpa [Nat.blt_eq] using b2) (by simpa [Nat.blt_eq] using b3) (Nat.le_of_ble_eq_true b4) nid _ hf F hfo) hk hok hlow
theorem ApQ {e m:Nat} {g:Nat->AV} (h:∀i,((List.range e).all λj=>((g i).cell j).one1)=true):∀i,i<m->∀j,j<e->((g i).cell j).one1=true:=λi _ j hj=>List.all_eq_true.1 (h i) j (List.mem_range.2 hj)
theorem rC (bytes:Nat) (el t2:TypeId) (e m id2 nid:Nat) (g F:Nat->AV) (hF:∀i,i<m->F i=g i) (hk:Go P R B D0 Q (c.put (.osl nid e m) (.newr id2 nid (.vec el e m F)))) (ho:c.o.op= .call { callee:= .builtin .append,args:=#[oX c.o,oY c.o],argTypes:=#[oT c.o,oT c.o] }:=by kernel_rfl) (hu:P.underlying (oT c.o)=some (.slice el):=by kernel_rfl) (hi:(P.info? el).map (λi=>(i.zero,i.size,i.bytes))=some (some (zT P el),e,bytes):=by kernel_rfl) (hze:(zT P el).cells.size=e:=by kernel_rfl) (he:0<e:=by decide) (hm:0<m:=by omega) (hb:m*bytes<=140737488355328:=by omega) (h63:m<=maxLen:=by unfold maxLen;omega) (hone:∀i,((List.range e).all λj=>((g i).cell j).one1)=true:=by intro _;kernel_rfl) (hx:c.s.ev (oX c.o)= .lit (.slice none 0 0):=by kernel_rfl) (hy:c.s.ev (oY c.o)= .osl id2 e m:=by kernel_rfl) (hp:Aq c.s.h id2=some (.vec t2 e m g):=by kernel_rfl) (hok:c.ok=true:=by kernel_rfl) (hlow:Bl.low (.newr id2 nid (.vec el e m F)) c.s.nx=true:=by kernel_rfl):Go P R B D0 Q c:=
 Pc _ _ (Xk (oX c.o) (oY c.o) (oT c.o) ho hu e bytes _ hi hze he m hm g F nid hF (ApQ hone) h63 hb hx id2 t2 hy hp) hk hok hlow
theorem Xo (bytes:Nat) (el t2:TypeId) (e n m id id2 nid:Nat) (f g F:Nat->AV) (hF1:∀i,i<n->F i=f i) (hF2:∀i,i<m->F (n+i)=g i) (hk:Go P R B D0 Q (c.put (.osl nid e (n+m)) (.grow2 id id2 nid (.vec el e (n+m) F)))) (ho:c.o.op= .call { callee:= .builtin .append,args:=#[oX c.o,oY c.o],argTypes:=#[oT c.o,oT c.o] }:=by kernel_rfl) (hu:P.underlying (oT c.o)=some (.slice el):=by kernel_rfl) (hi:(P.info? el).map (λi=>(i.zero,i.size,i.bytes))=some (some (zT P el),e,bytes):=by kernel_rfl) (hze:(zT P el).cells.size=e:=by kernel_rfl) (he:0<e:=by decide) (hm:0<m:=by omega) (hbytes:(n+m)*bytes<=140737488355328:=by omega) (h63:n+m<=maxLen:=by unfold maxLen;omega) (hone:∀i,((List.range e).all λj=>((g i).cell j).one1)=true:=by intro _;kernel_rfl) (hx:c.s.ev (oX c.o)= .osl id e n:=by kernel_rfl) (hp:Aq c.s.h id=some (.vec el e n f):=by kernel_rfl) (hy:c.s.ev (oY c.o)= .osl id2 e m:=by kernel_rfl) (hp2:Aq c.s.h id2=some (.vec t2 e m g):=by kernel_rfl) (hok:c.ok=true:=by kernel_rfl) (hlow:Bl.low (.grow2 id id2 nid (.vec el e (n+m) F)) c.s.nx=true:=by kernel_rfl):Go P R B D0 Q c:=
 Pc _ _ (iC (oX c.o) (oY c.o) (oT c.o) ho hu e bytes _ hi hze he n m hm f g F nid hbytes h63 hF1 hF2 (ApQ hone) id hx hp id2 t2 hy hp2) hk hok hlow
theorem Bk {B:Nat} {D0:As} {P:Program} {o:Oper} {ev:Operand->AV} {pre:Nat->Option Aw} (v:Value) {v':Value} (hv:v=v') (hx:(o.op.operands.toList.all λx=>(ev x).isLit)=true:=by kernel_rfl) (hs:mS o=true:=by kernel_rfl) (hrun:∀w,(execOp (λx=>(ev x).val) o).run P w= .ok (.value v) w:=by intro w;kernel_rfl):Dl P B D0 o ev pre (.lit v') .none:=iG _ hx rfl hs hrun hv
end Go.Proofs.YtkpjchfniejdoaaGreatDoor
namespace Go.Proofs.YtkpjchfniejdoaaGreatDoor
open Go.RowKit
def Bu.setT (c:Bu) (d:Nat) (V:AV):Bu:=⟨c.m,c.k,⟨(d,V)::c.s.t,c.s.h,c.s.nx,c.s.n⟩⟩
theorem wI {P:Program} {R:Option Nat} {B:Nat} {D0:As} {Q:Exit->St->Prop} {c:Bu} (d:Nat) (V0 V:AV) (h:∀(E:As) (v:Value),VR E V0 v->VR E V v) (hk:Go P R B D0 Q (c.setT d V)) (hd:Bz c.s.t d=V0:=by kernel_rfl):Go P R B D0 Q c:=
 Fu ⟨(d,V)::c.s.t,c.s.h,c.s.nx,c.s.n⟩ (λE a hs=>⟨E,rfl,hs.size,hs.df,λi=>by
  show VR E (Bz ((d,V)::c.s.t) i) _
  rw[Hn]
  by_cases hi:d=i
  subst hi
  rw[if_pos rfl]
  have h1:=hs.t d
  rw[hd] at h1
  exact h _ _ h1
  rw[if_neg hi];exact hs.t i,hs.h,hs.A⟩) hk
structure Lz (T:As->Prop):Prop where
 up:∀{E E':As},E.le E'->T E->T E'
 fz:∀{E:As},T E->T E.fz
 un:∀{E:As},T E.fz->T E
def Vf (T:As->Prop) (P:Program) (f:FuncId) (args:List AV) (r:AV):Prop:=
 ∀(E:As) (vs:Array Value),T E->(∀b,E.D b->b<E.w.heap.size)->vs.size=args.length->(∀i,i<args.length->VR E.fz (args.getD i .top) (vs.getD i undef))->
  Calls P f vs E.w λe w'=>∃v D',e= .returned v/\VR { E with D:=D',w:=w' } r v/\Below E.w.heap.size E.w w'/\(∀b,E.D b->D' b)/\(∀b,D' b->E.D b\/E.w.heap.size<=b)/\(∀b,D' b->b<w'.heap.size)
theorem mV {P:Program} {B:Nat} {D0:As} {o:Oper} {ev:Operand->AV} {pre:Nat->Option Aw} {T:As->Prop} (hs:Lz T) (hT:T D0) (f:FuncId) (xs:Array Operand) (ts:Array TypeId) (ho:o.op= .call { callee:= .value (.func f),args:=xs,argTypes:=ts }) (hcall:∀(vs:Array Value) w,(callFunc f vs).run P w= .ok (.enter f vs) w) (args:List AV) (hargs:xs.toList.map ev=args) (hfree:args.all AV.free=true) (r:AV) (hf:Vf T P f args r):Dl P B D0 o ev pre r .none:=by
 subst hargs
 refine⟨?_⟩
 intro E a c K Q _ hh _ _ hv k
 unfold Oper.wp
 rw[show (execOp a.eval o).run P E.w=(callFunc f (xs.map a.eval)).run P E.w by simp[execOp,ho,resolve,Deferred.ofValue,Act.eval,invoke],hcall]
 show Calls P f _ E.w _
 refine(hf E (xs.map a.eval) (hs.up hh.le0 hT) hh.bnd (by simp) λi hi=>?_).mono ?_
 have hi2:i<xs.size:=by simpa using hi
 have e1:(xs.toList.map ev).getD i .top=ev xs[i]:=by simp[hi2]
 have e2:(xs.map a.eval).getD i undef=a.eval xs[i]:=by simp[hi2]
 rw[e1,e2]
 refine(hv _ (by simp[ho,Op.operands,Call.operands])).free ?_
 have:=List.all_eq_true.1 hfree _ (List.getElem_mem (l:=xs.toList.map ev) hi)
 simpa using this
 rintro e w' ⟨v,D',rfl,hr,hb,hd1,hd2,hd3⟩
 have hle:E.le { E with D:=D',w:=w' }:=⟨λ_ h=>h,λ_ _=>rfl,hd1,λb hb'=>hb.block b (hh.bnd b hb'),λ_ _=>rfl⟩
 refine k v { E with D:=D',w:=w' } hle (hb.mono hh.B) hr ⟨λi x hx=>?_,hh.inj,hd3,λi hi=>Nat.lt_of_lt_of_le (hh.abd i hi) hb.size,hh.le0.trans hle,λb hb'=>?_,Nat.le_trans hh.B hb.size⟩ λi hi=> .inl hi
 obtain⟨j1,j2,j3,j4⟩:=hh.live i x hx
 refine⟨j1,j2.up hle (hb.block _ j2.lt),λh=>?_,j4⟩
 rcases hd2 _ h with h|h
 exact j3 h
 have k1:E.π i<E.w.heap.size:=j2.lt
 have k2:E.w.heap.size<=E.π i:=h
 omega
 rcases hd2 b hb' with h|h
 exact hh.new b h
 have:=hh.B
 exact .inr ω
section
variable {P:Program} {R:Option Nat} {B:Nat} {D0:As} {Q:Exit->St->Prop} {c:Bu} {T:As->Prop}
theorem Gu (hT:Lz T/\T D0) {f:FuncId} {args:List AV} {r:AV} (hf:Vf T P f args r) (hk:Go P R B D0 Q (c.put r .none)) (ho:c.o.op= .call { callee:= .value (.func f),args:=c.xs,argTypes:=c.ts }:=by kernel_rfl) (hargs:c.xs.toList.map c.s.ev=args:=by kernel_rfl) (hfree:args.all AV.free=true:=by kernel_rfl) (hok:c.ok=true:=by kernel_rfl) (hcall:∀(vs:Array Value) w,(callFunc f vs).run P w= .ok (.enter f vs) w:=by intro _ _;kernel_rfl):Go P R B D0 Q c:=
 Ci r .none (mV hT.1 hT.2 f c.xs c.ts ho hcall args hargs hfree r hf) hk hok rfl rfl rfl
theorem fQ {o:Oper} {ev:Operand->AV} {pre:Nat->Option Aw} (hT:Lz T/\T D0) {f:FuncId} {args:List AV} {r:AV} (hf:Vf T P f args r) (ho:o.op= .call { callee:= .value (.func f),args:=Oper.cxs o,argTypes:=Oper.cts o }:=by kernel_rfl) (hargs:(Oper.cxs o).toList.map ev=args:=by kernel_rfl) (hfree:args.all AV.free=true:=by kernel_rfl) (hcall:∀(vs:Array Value) w,(callFunc f vs).run P w= .ok (.enter f vs) w:=by intro _ _;kernel_rfl):Dl P B D0 o ev pre r .none:=mV hT.1 hT.2 f _ _ ho hcall args hargs hfree r hf
end
theorem Afi {T:As->Prop} {P:Program} {f:FuncId} {args:List AV} {r:AV} (h:∀(E:As) (vs:Array Value),T E->(∀b,E.D b->b<E.w.heap.size)->vs.size=args.length->(∀i,i<args.length->VR E.fz (args.getD i .top) (vs.getD i undef))->
  Calls P f vs E.w λe w'=>∃v,e= .returned v/\Below E.w.heap.size E.w w'/\∀E':As,E'.w=w'->(∀b,E.D b->E'.D b)->(∀b,E.w.heap.size<=b->b<w'.heap.size->E'.D b)->VR E' r v):Vf T P f args r:=by
 intro E vs hT hD hn hv
 refine(h E vs hT hD hn hv).mono ?_
 rintro e w' ⟨v,rfl,hb,hr⟩
 refine⟨v,λb=>E.D b\/(E.w.heap.size<=b/\b<w'.heap.size),rfl,hr _ rfl (λb hb=> .inl hb) (λb h1 h2=> .inr ⟨h1,h2⟩),hb,λb hb=> .inl hb,λb hb=>?_,λb hb'=>?_⟩
 rcases hb with hb|hb
 exact .inl hb
 exact .inr hb.1
 rcases hb' with hb'|hb'
 exact Nat.lt_of_lt_of_le (hD b hb') hb.size
 exact hb'.2
theorem AmU {T:As->Prop} (hst:Lz T) {f:FuncId} {fn:Func} {c:Code} {args:List AV} {r:AV} (s0:St) (hf:Tryz.prog.funcs[f]?=some fn) (hc:fn.body=some c) (n:Nat) (hn:fn.ntmps=n) (hle:Nat.ble args.length n=true) (hs:(⟨Cy args 0,[],0,n⟩:St)=s0)
  (h:∀B D0,(∀id,D0.A id->id<0)->Lz T/\T D0->AC Tryz.prog none B D0 c s0 (λe s=>(e= .ret\/e= .normal)/\Oq Tryz.prog B D0 fn s r)):Vf T Tryz.prog f args r:=by
 subst hs
 subst hn
 intro E vs hT hD hsz hv
 have hle':args.length<=fn.ntmps:=by simpa using hle
 have hsim:Ij E.w.heap.size E.fz E.fz ⟨Cy args 0,[],0,fn.ntmps⟩ { tmps:=vs++Array.replicate (fn.ntmps-vs.size) undef,defers:=[] }:=by
  have hB:∀b,E.D b->b<E.w.heap.size:=hD
  refine⟨by simp[hsz];omega,Oo.nil _ _ _,λi=>?_,⟨λid b h=>by simp[Aq] at h,λi j x y h=>by simp[Aq] at h,hB,λ_ h=>h.elim,As.le.refl _,λ_ h=> .inl h,Nat.le_refl _⟩,λ_ h=>h.elim⟩
  have e0:=Ky args 0 i
  rw[Nat.zero_add] at e0
  show VR E.fz (Bz (Cy args 0) i) _
  rw[e0]
  by_cases hi:i<args.length
  have h2:(vs++Array.replicate (fn.ntmps-vs.size) undef).getD i undef=vs.getD i undef:=by
   simp only[Array.getD_eq_getD_getElem?,Array.getElem?_append_left (show i<vs.size by omega)]
  rw[h2]
  exact(hv i hi)
  rw[Γ,List.getElem?_eq_none ω]
  exact .top _ _
 refine Gy hf hc (wpIn_wide.1 (De ?_ ((h E.w.heap.size E.fz (λ_ h=>h.elim) ⟨hst,hst.fz hT⟩).run E.fz _ hsim)))
 rintro e a' w' ⟨s',E',rfl,⟨he,hr⟩,hs,hb⟩
 obtain⟨ms,m1,m2,m3⟩:=hs.df
 have fin:bodyPostM Fence.wide 0 Tryz.prog fn (λe w'=>∃v D',e= .returned v/\VR { E with D:=D',w:=w' } r v/\Below E.w.heap.size E.w w'/\(∀b,E.D b->D' b)/\(∀b,D' b->E.D b\/E.w.heap.size<=b)/\(∀b,D' b->b<w'.heap.size)) .ret a' E'.w:=by
  refine Jr ms m1 m2 (λm hm=>(m3 m hm).2.2.2) λW hk hz=>?_
  obtain⟨k1,k2⟩:=hs.unmark m3 hk hz
  obtain⟨v,hv,hrv⟩:=hr _ _ k1
  exact⟨v,hv,v,E'.D,rfl,hrv.up (As.fz_le_of (E:={ E' with w:=W }) (E':={ E with D:=E'.D,w:=W }) (λ_ h=>h) λ_ _=>rfl),hb.trans k2,hs.h.le0.D,hs.h.new,k1.h.bnd⟩
 rcases he with rfl|rfl
 exact fin
 exact fin
theorem Kc {T:As->Prop} (hst:Lz T) {f:FuncId} {fn:Func} {args:List AV} {r:AV} (hf:Tryz.prog.funcs[f]?=some fn) {x:Code} (hc:fn.body=some x:=by rfl) (h:∀B D0,(∀id,D0.A id->id<0)->Lz T/\T D0->Go Tryz.prog none B D0 (QF Tryz.prog B D0 fn r) ⟨.code x,[],⟨Cy args 0,[],0,fn.ntmps⟩⟩) (hle:Nat.ble args.length fn.ntmps=true:=by kernel_rfl):Vf T Tryz.prog f args r:=
 AmU hst _ hf hc fn.ntmps rfl hle rfl λB D0 hA hT=>(h B D0 hA hT).m
variable {R:Option Nat} {B:Nat} {D0:As} {Q:Exit->St->Prop} {c:Bu}
def Bu.rg (c:Bu):Operand:=match c.m with| .code (.rangeFunc g _ _ _)=>g|_=>default
def Bu.rp (c:Bu):Array Tmp:=match c.m with| .code (.rangeFunc _ p _ _)=>p|_=>#[]
def Bu.ra (c:Bu):Code:=match c.m with| .code (.rangeFunc _ _ a _)=>a|_=> .skip
def Bu.rb (c:Bu):Code:=match c.m with| .code (.rangeFunc _ _ _ b)=>b|_=> .skip
def Bu.isR (c:Bu):Bool:=match c.m with| .code (.rangeFunc ..)=>true|_=>false
def Bu.rc (c:Bu):List AV:=Ag5 (c.s.ev c.rg)
def Bu.lt (c:Bu) (l:Nat):Fz:=match Aq c.s.h l with|some (.loop _ _ _ t _)=>t|_=>[]
def Bu.ln (c:Bu) (l:Nat):Nat:=match Aq c.s.h l with|some (.loop _ _ _ _ n)=>n|_=>0
def Bu.lst (c:Bu) (l:Nat):LoopState:=match Aq c.s.h l with|some (.loop s _ _ _ _)=>s|_=> .busy
def Bu.lpe (c:Bu) (l:Nat):Option Code:=match Aq c.s.h l with|some (.loop _ p _ _ _)=>p|_=>none
theorem vnm {P:Program} (keep:List Nat) (h:Go P R B D0 Q ⟨c.m,c.k,Ke keep c.s⟩):Go P R B D0 Q c:=Fu _ (Gr keep c.s) h
def Bu.af (c0 c:Bu):Bu:=⟨match c.lpe c0.s.nx with|some x=> .code x|none=> .out .normal,c0.k,⟨c0.s.t,Gx c.s.h c0.s.nx,c.s.nx,c0.s.n⟩⟩
def Ab5:LoopState->Bool| .busy=>false|_=>true
def Bu.yl (c:Bu):Nat:=match c.s.ev c.fx with| .yld l=>l|_=>0
def QR (R:Option Nat) (B:Nat) (D0:As) (Q:Exit->St->Prop) (c0:Bu) (sp:Fx):Exit->St->Prop:=fB Tryz.prog R B D0 c0.a c0.l.tail c0.o c0.s (KQ Tryz.prog R B D0 Q c0.k) c0.yl sp (c0.ln c0.yl)
def QY (l0 B:Nat) (D1:As) (bd:Code) (l:Nat) (_:Fx) (n:Nat) (QA:Exit->St->Prop):Exit->St->Prop:=yG (λs1=>∃sp1 t1,Aq s1.h l=some (.loop .ready none sp1 t1 n)/\AC Tryz.prog (some l0) B D1 bd ⟨s1.t,hset s1.h l (.loop .busy none sp1 t1 n),s1.nx,s1.n⟩ QA) λ_ _=>False
theorem tM {B:Nat} {D0 E:As} {s:St} {a:Act} {ops:Array Oper} {o:Oper} (hs:Ij B D0 E s a) (h:cT ops s o=some true):Region.wanted o (yielded ops a.tmps)=true:=by
 unfold cT at h
 split at h
 rename_i hg;simp[Region.wanted,hg]
 rename_i j b hg
 split at h
 rename_i d hj
 split at h
 rename_i b' hv
 split at h
 simp[Region.wanted,hg,Ta hs hj hv]
 simp[Region.wanted,hg,Ta hs hj hv]
 cases h
 split at h<;>cases h
 cases h
 cases h
theorem vyl {sp:Fx} {ps:Array Tmp} {asg bd:Code} (nx0:Nat) (hps:sp.params=ps) (has:sp.assign=asg) (hbd:sp.body=bd)
  (h:∀l0 D1,(∀id,D1.A id->id<nx0)->(D1.A c.yl/\D1.π c.yl=l0)->Go Tryz.prog (some l0) B D1 (QY l0 B D1 bd c.yl sp (c.ln c.yl) (QR R B D0 Q c sp)) ⟨.code asg,[],⟨kP ps.toList (c.xs.toList.map c.s.ev) (c.lt c.yl),c.s.h,c.s.nx,c.ln c.yl⟩⟩)
  (ho:c.o.op= .call { callee:= .value c.fx,args:=c.xs,argTypes:=c.ts }:=by kernel_rfl) (hx:c.s.ev c.fx= .yld c.yl:=by kernel_rfl) (hl:Aq c.s.h c.yl=some (.loop .ready none sp (c.lt c.yl) (c.ln c.yl)):=by kernel_rfl) (hpb:psB ps (c.xs.toList.map c.s.ev).length (c.ln c.yl)=true:=by kernel_rfl) (hok:c.ok=true:=by kernel_rfl) (hnx:c.s.nx=nx0:=by kernel_rfl):Go Tryz.prog R B D0 Q c:=by
 obtain⟨m,k,s⟩:=c
 cases m with
 |code x=>cases hok
 |out e=>cases hok
 |ops a l=>
  cases l with
  |nil=>cases hok
  |cons o l=>
   have hok:(cT a s o==some true&&Mn o s.n)=true:=hok
   exact⟨AfU _ _ _ _ _ _ _ hps has hbd (λE a' hs=>tM hs (by simpa using (Bool.and_eq_true_iff.1 hok).1)) (Bool.and_eq_true_iff.1 hok).2 ho hx hl rfl hpb _ rfl λl0 D1 hD hl0=>(h l0 D1 (hnx▸hD) hl0).m⟩
def Bu.isNil (c:Bu):Bool:=match c.k with|[]=>true|_=>false
theorem vrb {l0:Nat} {D1:As} {bd:Code} {l:Nat} {sp:Fx} {n:Nat} {QA:Exit->St->Prop} (h:Go Tryz.prog (some l0) B D1 QA ⟨.code bd,[],⟨c.s.t,hset c.s.h l (.loop .busy none sp (c.lt l) n),c.s.nx,c.s.n⟩⟩) (hl:Aq c.s.h l=some (.loop .ready none sp (c.lt l) n):=by kernel_rfl) (hn:c.isN=true:=by kernel_rfl) (hk:c.isNil=true:=by kernel_rfl):Go Tryz.prog (some l0) B D1 (QY l0 B D1 bd l sp n QA) c:=by
 obtain⟨m,k,s⟩:=c
 unfold Bu.isN at hn
 split at hn
 rename_i hm
 cases hm
 cases k with
 |nil=>exact⟨⟨s,Ho.refl s,_,_,hl,h.m⟩⟩
 |cons i k=>cases hk
 cases hn
def Bu.e (c:Bu):Exit:=match c.m with| .out e=>e|_=> .normal
def rdB:Exit->Bool| .normal=>true|_=>false
def rdS:Exit->LoopState| .normal=> .ready|_=> .done
def rdC:Exit->Option Code| .ret=>some .ret| .exit id=>some (.exit id)|_=>none
def Bu.isX (c:Bu):Bool:=match c.m with| .out .normal=>true| .out .ret=>true| .out (.exit _)=>true|_=>false
theorem vre {R1:Option Nat} {D1:As} {c0:Bu} {sp:Fx} (h:Go Tryz.prog R B D0 Q ⟨.ops c0.a c0.l.tail,c0.k,⟨Lv c0.s.t c0.o.dst (.bool (rdB c.e)),hset c.s.h c0.yl (.loop (rdS c.e) (rdC c.e) sp (c.lt c0.yl) (c0.ln c0.yl)),c.s.nx,c0.s.n⟩⟩) (hl:Aq c.s.h c0.yl=some (.loop .busy none sp (c.lt c0.yl) (c0.ln c0.yl)):=by kernel_rfl) (hX:c.isX=true:=by kernel_rfl) (hk:c.isNil=true:=by kernel_rfl):Go Tryz.prog R1 B D1 (QR R B D0 Q c0 sp) c:=by
 obtain⟨m,k,s⟩:=c
 cases k with
 |cons i k=>cases hk
 |nil=>
  unfold Bu.isX at hX
  split at hX
  rename_i hm;cases hm;exact⟨⟨s,Ho.refl s,_,_,hl,h.m⟩⟩
  rename_i hm;cases hm;exact⟨⟨s,Ho.refl s,_,_,hl,h.m⟩⟩
  rename_i hm;cases hm;exact⟨⟨s,Ho.refl s,_,_,hl,h.m⟩⟩
  cases hX
end Go.Proofs.YtkpjchfniejdoaaGreatDoor
namespace Go.Proofs.YtkpjchfniejdoaaGreatDoor
open Go.RowKit
def cC (w:World) (bt:Nat->Nat) (k:Nat):As:={ π:=bt,cap:=λ_=>0,A:=λid=>id<k,D:=λb=>b<w.heap.size/\∀i,i<k->b≠bt i,w:=w }
abbrev Td:=List (TypeId×List AV)
def Aip:Td->Nat->Dt
 |[],_=>[]
 |p::l,i=>(i,.box p.1 p.2)::Aip l (i+1)
theorem mN:∀(l:Td) (k id:Nat) (b:Aw),Aq (Aip l k) id=some b->∃i,i<l.length/\id=k+i/\b= .box (l.getD i (0,[])).1 (l.getD i (0,[])).2
 |[],k,id,b,h=>by cases h
 |p::l,k,id,b,h=>by
  have h:(if k=id then some (Aw.box p.1 p.2) else Aq (Aip l (k+1)) id)=some b:=h
  by_cases e:k=id
  rw[if_pos e] at h;cases h
  exact⟨0,by simp,ω,rfl⟩
  rw[if_neg e] at h
  obtain⟨i,h1,h2,h3⟩:=mN l (k+1) id b h
  exact⟨i+1,by simp;omega,ω,by simpa using h3⟩
def Abq (t:TypeId) (us:List Value) (hs:Td):Dt:=(0,.box t (us.map .lit))::Aip hs 1
def kU (P:Program) (f:FuncId) (t:TypeId) (us us':List Value) (hs:Td) (args:List AV) (r:Value):Prop:=
 ∀(w:World) (vs:Array Value) (bt:Nat->Nat),(∀i j,i<hs.length+1->j<hs.length+1->bt i=bt j->i=j)->w.heap[bt 0]?=some (.cells us.toArray t (0,0))->(∀i,i<hs.length->BR (cC w bt (hs.length+1)) (.box (hs.getD i (0,[])).1 (hs.getD i (0,[])).2) (bt (i+1)) 0)->
  vs.size=args.length->(∀i,i<args.length->VR (cC w bt (hs.length+1)) (args.getD i .top) (vs.getD i undef))->
  Calls P f vs w λe w'=>e= .returned r/\w'.heap[bt 0]?=some (.cells us'.toArray t (0,0))/\(∀k,k≠bt 0->k<w.heap.size->w'.heap[k]?=w.heap[k]?)/\Below 0 w w'
def AV.det0:AV->Bool| .lit _=>true| .ptr .. =>true|_=>false
def AV.det:AV->Bool| .lit _=>true| .ptr .. =>true| .fn _ l=>l.all AV.det0| .agg l=>l.all AV.det0|_=>false
theorem VR.det0 {E E':As} (hπ:∀id,E.A id->E.π id=E'.π id) {x:AV} {v v':Value} (h:VR E x v) (h':VR E' x v') (hd:x.det0=true):v=v':=by
 cases x with
 |lit u=>rw[h.lit_inv,h'.lit_inv]
 |ptr id off=>
  cases h with
  |ptr _ _ _ hA=>cases h' with|ptr=>rw[hπ id hA]
 |_=>cases hd
theorem An4 {E E':As} {l:List AV} {vs vs':Array Value} (hn:vs.size=l.length) (hn':vs'.size=l.length) (h:∀i,i<l.length->VR E (l.getD i .top) (vs.getD i undef)) (h':∀i,i<l.length->VR E' (l.getD i .top) (vs'.getD i undef)) (hd:∀i,i<l.length->∀{v v':Value},VR E (l.getD i .top) v->VR E' (l.getD i .top) v'->v=v'):vs=vs':=by
 apply Array.ext
 omega
 intro i h1 h2
 have:=hd i ω (h i ω) (h' i ω)
 simpa [Array.getD,h1,h2] using this
theorem VR.det {E E':As} (hπ:∀id,E.A id->E.π id=E'.π id) {x:AV} {v v':Value} (h:VR E x v) (h':VR E' x v') (hd:x.det=true):v=v':=by
 have at0:∀{l:List AV},l.all AV.det0=true->∀i,i<l.length->(l.getD i .top).det0=true:=λh i hi=>by
  have:=List.all_eq_true.1 h _ (List.getElem_mem hi)
  simpa [Γ,hi] using this
 cases x with
 |lit u=>exact VR.det0 hπ h h' rfl
 |ptr id off=>exact VR.det0 hπ h h' rfl
 |fn g l=>
  cases h with
  |fn _ _ _ vs hn hr=>cases h' with
   |fn _ _ _ vs' hn' hr'=>rw[An4 hn hn' hr hr' λi hi _ _ g1 g2=>VR.det0 hπ g1 g2 (at0 hd i hi)]
 |agg l=>
  cases h with
  |agg _ _ vs hn hr=>cases h' with
   |agg _ _ vs' hn' hr'=>rw[An4 hn hn' hr hr' λi hi _ _ g1 g2=>VR.det0 hπ g1 g2 (at0 hd i hi)]
 |_=>cases hd
def ApB (hs:Td):Bool:=hs.all λp=>p.2.all AV.det
theorem AmV {f:FuncId} {fn:Func} {c:Code} {t:TypeId} {us us':List Value} {hs:Td} {args:List AV} {r:Value} (hf:Tryz.prog.funcs[f]?=some fn) (hc:fn.body=some c) (hle:Nat.ble args.length fn.ntmps=true) (hdt:ApB hs=true)
  (h:∀B D0,(∀id,D0.A id->id<hs.length+1)->AC Tryz.prog none B D0 c ⟨Cy args 0,Abq t us hs,hs.length+1,fn.ntmps⟩ (λe s=>(e= .ret\/e= .normal)/\Oq Tryz.prog B D0 fn s (.lit r)/\Aq s.h 0=some (.box t (us'.map .lit))/\∀i,i<hs.length->Aq s.h (i+1)=some (.box (hs.getD i (0,[])).1 (hs.getD i (0,[])).2))):kU Tryz.prog f t us us' hs args r:=by
 intro w vs bt hinj hu hoth hsz hv
 have hle':args.length<=fn.ntmps:=by simpa using hle
 obtain⟨D0,hD0⟩:∃D0:As,D0=cC w bt (hs.length+1):=⟨_,rfl⟩
 rw[<-hD0] at hv hoth
 have dA:∀id,D0.A id↔id<hs.length+1:=λid=>by rw[hD0];rfl
 have dD:∀k,D0.D k↔k<w.heap.size/\∀i,i<hs.length+1->k≠bt i:=λid=>by rw[hD0];rfl
 have dw:D0.w=w:=by rw[hD0];rfl
 have dp:∀id,D0.π id=bt id:=λid=>by rw[hD0];rfl
 have dc:∀id,D0.cap id=0:=λid=>by rw[hD0];rfl
 have hblt:∀i,i<hs.length+1->bt i<w.heap.size:=λi hi=>by
  cases i with
  |zero=>exact(Ξ hu).1
  |succ i=>have:=(hoth i ω).lt;rwa [dw] at this
 have hbr:BR D0 (.box t (us.map .lit)) (bt 0) 0:=by
  refine .box _ _ _ _ us.toArray (by rw[dw];exact hu) (by simp) λi hi=>?_
  have h2:i<us.length:=by simpa using hi
  have e1:(us.map AV.lit).getD i .top= .lit (us.toArray.getD i undef):=by simp[h2]
  rw[e1];exact .lit _ _
 have hget0:∀id b,Aq (Abq t us hs) id=some b->id<hs.length+1/\BR D0 b (bt id) 0:=λid b hb=>by
  have hb:(if 0=id then some (Aw.box t (us.map .lit)) else Aq (Aip hs 1) id)=some b:=hb
  by_cases e:0=id
  rw[if_pos e] at hb;cases hb;subst e;exact⟨ω,hbr⟩
  rw[if_neg e] at hb
  obtain⟨i,h1,h2,rfl⟩:=mN hs 1 id b hb
  have:id=i+1:=by omega
  subst this
  exact⟨ω,hoth i h1⟩
 have hsim:Ij 0 D0 D0 ⟨Cy args 0,Abq t us hs,hs.length+1,fn.ntmps⟩ { tmps:=vs++Array.replicate (fn.ntmps-vs.size) undef,defers:=[] }:=by
  refine⟨by simp[hsz];omega,Oo.nil _ _ _,λi=>?_,⟨λid x hx=>?_,λi j x y hx hy hne=>?_,λk hk=>by rw[dw];exact((dD k).1 hk).1,λid hi=>by rw[dp,dw];exact hblt id ((dA id).1 hi),As.le.refl _,λ_ h=> .inl h,Nat.zero_le _⟩,λid hi=>(dA id).1 hi⟩
  have e0:=Ky args 0 i
  rw[Nat.zero_add] at e0
  show VR D0 (Bz (Cy args 0) i) _
  rw[e0]
  by_cases hi:i<args.length
  have h2:(vs++Array.replicate (fn.ntmps-vs.size) undef).getD i undef=vs.getD i undef:=by
   simp only[Array.getD_eq_getD_getElem?,Array.getElem?_append_left (show i<vs.size by omega)]
  rw[h2]
  exact hv i hi
  have:args.getD i .top= .top:=by rw[Γ,List.getElem?_eq_none ω];rfl
  rw[this]
  exact .top _ _
  obtain⟨h1,h2⟩:=hget0 id x hx
  refine⟨(dA id).2 h1,by rw[dp,dc];exact h2,λhk=>?_,Nat.zero_le _⟩
  rw[dp] at hk
  exact((dD _).1 hk).2 id h1 rfl
  rw[dp,dp]
  intro e
  exact hne (hinj i j (hget0 i x hx).1 (hget0 j y hy).1 e)
 have hrun:=(h 0 D0 (λid hi=>(dA id).1 hi)).run D0 _ hsim
 rw[dw] at hrun
 refine Gy hf hc (wpIn_wide.1 (De ?_ hrun))
 rintro e a' w' ⟨s',E',rfl,⟨he,hr,hk,hko⟩,hs',hbl⟩
 obtain⟨ms,m1,m2,m3⟩:=hs'.df
 have fin:bodyPostM Fence.wide 0 Tryz.prog fn (λe w'=>e= .returned r/\w'.heap[bt 0]?=some (.cells us'.toArray t (0,0))/\(∀k,k≠bt 0->k<w.heap.size->w'.heap[k]?=w.heap[k]?)/\Below 0 w w') .ret a' E'.w:=by
  refine Jr ms m1 m2 (λm hm=>(m3 m hm).2.2.2) λW hk2 hz=>?_
  obtain⟨k1,k2⟩:=hs'.unmark m3 hk2 hz
  obtain⟨v,hv,hrv⟩:=hr _ _ k1
  have hp:∀id,id<hs.length+1->E'.π id=bt id:=λid hi=>by rw[hs'.h.le0.π id ((dA id).2 hi),dp]
  obtain⟨arr,ha1,ha2⟩:=k1.h.box hk
  have ha3:W.heap[bt 0]?=some (.cells arr t (0,0)):=by rw[<-hp 0 ω];exact ha1
  have ha4:arr=us'.toArray:=VR.lits (E:={ E' with w:=W }) (by have:=ha2.1;simpa using this) ha2.2
  have hl:=k1.h.le0
  refine⟨v,hv,⟨by rw[hrv.lit_inv],by rw[ha3,ha4],λk hkb hkl=>?_,?_⟩⟩
  by_cases hin:∃i,i<hs.length/\k=bt (i+1)
  obtain⟨i,hi,rfl⟩:=hin
  obtain⟨arr2,hb1,hb2⟩:=k1.h.box (hko i hi)
  have hb3:W.heap[bt (i+1)]?=some (.cells arr2 (hs.getD i (0,[])).1 (0,0)):=by rw[<-hp (i+1) ω];exact hb1
  have ho:=hoth i hi
  generalize hbb:bt (i+1)=bb at ho hb3 hkl
  cases ho with
  |box _ _ _ _ arr3 g1 g2 g3=>
   rw[dw] at g1
   have hdet:∀j,j<(hs.getD i (0,[])).2.length->((hs.getD i (0,[])).2.getD j .top).det=true:=λj hj=>by
    have h1:=List.all_eq_true.1 hdt _ (List.getElem_mem hi)
    have e1:hs.getD i (0,[])=hs[i]:=by simp[hi]
    rw[e1] at hj ⊢
    have h2:=List.all_eq_true.1 h1 _ (List.getElem_mem hj)
    have e2:hs[i].2.getD j .top=hs[i].2[j]:=by simp[hj]
    rw[e2];exact h2
   have e9:arr3=arr2:=An4 (E:=D0) (E':={ E' with w:=W }) g2 hb2.1 g3 (λj _=>hb2.2 j) λj hj v v' q1 q2=>VR.det (E:=D0) (E':={ E' with w:=W }) (λid hA=>(hl.π id hA).symm) q1 q2 (hdet j hj)
   rw[hb3,g1,e9]
  have:=hl.blk k ((dD k).2 ⟨hkl,λi hi e=>by
   cases i with
   |zero=>exact hkb e
   |succ i=>exact hin ⟨i,ω,e⟩⟩)
  rw[dw] at this
  exact this
  exact(hbl.trans k2).mono Ω
 rcases he with rfl|rfl
 exact fin
 exact fin
def Adz:List Nat->Nat->Nat->Option Nat
 |[],_,_=>none
 |a::l,id,k=>if a=id then some k else Adz l id (k+1)
theorem Abm:∀(l:List Nat) (id k j:Nat),Adz l id k=some j->∃i,i<l.length/\j=k+i/\l.getD i 0=id
 |[],_,_,_,h=>by cases h
 |a::l,id,k,j,h=>by
  unfold Adz at h
  by_cases e:a=id
  rw[if_pos e] at h;cases h
  exact⟨0,by simp,ω,by simpa using e⟩
  rw[if_neg e] at h
  obtain⟨i,h1,h2,h3⟩:=Abm l id (k+1) j h
  exact⟨i+1,by simp;omega,ω,by simpa using h3⟩
def AqX (L:List Nat):AV->AV
 | .ptr i off=>match Adz L i 0 with|some j=> .ptr j off|none=> .top
 |x=>if x.flat then x else .top
def gV (L:List Nat) (x:AV):AV:=x.map1 (AqX L)
def uG (L:List Nat) (hs:Td):Td:=hs.map λp=>(p.1,p.2.map (gV L))
theorem AhJ {E:As} {L:List Nat} (hb:∀k,E.D k->k<E.w.heap.size) (hn:∀i,i<L.length->¬E.D (E.π (L.getD i 0))) {x:AV} {v:Value} (h:VR E x v):VR (cC E.w (λj=>E.π (L.getD j 0)) L.length) (gV L x) v:=by
 have hl:E.fz.le (cC E.w (λj=>E.π (L.getD j 0)) L.length):=As.fz_le_of (λk hk=>⟨hb k hk,λi hi e=>hn i hi (by have e:k=E.π (L.getD i 0):=e;rw[<-e];exact hk)⟩) λk _=>rfl
 refine VR.map1 (λy u hy=>?_) h
 have hfl:VR (cC E.w (λj=>E.π (L.getD j 0)) L.length) (if y.flat then y else .top) u:=by
  by_cases hf:y.flat=true
  rw[if_pos hf];exact(hy.flat hf).up hl
  rw[if_neg hf];exact .top _ _
 cases hy with
 |ptr _ i off hA=>
  show VR _ (match Adz L i 0 with|some j=>AV.ptr j off|none=> .top) _
  cases hj:Adz L i 0 with
  |none=>exact .top _ _
  |some j=>
   obtain⟨q,h1,h2,h3⟩:=Abm L i 0 j hj
   have h2:j=q:=by omega
   subst h2
   have:=VR.ptr (cC E.w (λj=>E.π (L.getD j 0)) L.length) j off h1
   have e:(cC E.w (λj=>E.π (L.getD j 0)) L.length).π j=E.π i:=by show E.π (L.getD j 0)=_;rw[h3]
   rw[e] at this
   exact this
 |_=>exact hfl
theorem fT:∀{L:List Nat},Km L=true->∀i j,i<L.length->j<L.length->L.getD i 0=L.getD j 0->i=j
 |[],_,i,_,hi,_,_=>absurd hi (Nat.not_lt_zero i)
 |a::l,h,i,j,hi,hj,e=>by
  have h2:=Bool.and_eq_true_iff.1 h
  have key:∀q,q<l.length->a≠l.getD q 0:=λq hq e=>by
   have:=List.all_eq_true.1 h2.1 _ (List.getElem_mem hq)
   have e2:l.getD q 0=l[q]:=by simp[hq]
   rw[<-e2,<-e,Nat.beq_refl] at this
   cases this
  cases i with
  |zero=>cases j with
   |zero=>rfl
   |succ j=>exact absurd (by simpa using e) (key j (by simpa using hj))
  |succ i=>cases j with
   |zero=>exact absurd (by simpa using e.symm) (key i (by simpa using hi))
   |succ j=>rw[fT h2.2 i j (by simpa using hi) (by simpa using hj) (by simpa using e)]
variable {P:Program} {R:Option Nat} {B:Nat} {D0:As} {s:St} {Q:Exit->St->Prop} {o:Oper} {ev:Operand->AV} {pre:Nat->Option Aw}
theorem mY (x:Operand) (f:FuncId) (xs:Array Operand) (ts:Array TypeId) (ho:o.op= .call { callee:= .value x,args:=xs,argTypes:=ts }) (caps:List AV) (hx:ev x= .fn f caps) (hcall:∀(vs:Array Value) w,(callFunc f vs).run P w= .ok (.enter f vs) w) (id:Nat) (ids:List Nat) (hdi:Km (id::ids)=true) (t:TypeId) (us us':List Value) (hp:pre id=some (.box t (us.map .lit))) (ps:Td) (hps:ids.map pre=ps.map λp=>some (.box p.1 p.2)) (hs:Td) (hhs:uG (id::ids) ps=hs) (args:List AV) (hargs:(xs.toList.map ev++caps).map (gV (id::ids))=args) (r:Value) (hf:kU P f t us us' hs args r):Dl P B D0 o ev pre (.lit r) (.setr ids id (.box t (us'.map .lit))):=by
 subst hargs
 subst hhs
 refine⟨?_⟩
 intro E a c K Q _ hh htch _ hv k
 have hc:=(htch id (by simp[Bl.touch])).trans hp
 obtain⟨arr,ha1,ha2⟩:=hh.box hc
 have ha4:arr=us.toArray:=VR.lits (E:=E) (by have:=ha2.1;simpa using this) ha2.2
 subst ha4
 obtain⟨l1,l2,l3,l4⟩:=hh.live id _ hc
 have hlen:ids.length=ps.length:=by have:=congrArg List.length hps;simpa using this
 have hci:∀i,i<ids.length->c (ids.getD i 0)=some (.box (ps.getD i (0,[])).1 (ps.getD i (0,[])).2):=λi hi=>by
  have hi2:i<ps.length:=by omega
  have e1:ids.getD i 0=ids[i]:=by simp[hi]
  have e2:ps.getD i (0,[])=ps[i]:=by simp[hi2]
  have h1:(ids.map pre)[i]?=(ps.map λp=>some (Aw.box p.1 p.2))[i]?:=by rw[hps]
  simp only[List.getElem?_map,List.getElem?_eq_getElem hi,List.getElem?_eq_getElem hi2,Option.map_some,Option.some.injEq] at h1
  rw[e1,e2,<-h1]
  exact htch _ (by simp[Bl.touch])
 have hLs:∀j,j<(id::ids).length->∃b,c ((id::ids).getD j 0)=some b:=λj hj=>by
  cases j with
  |zero=>exact⟨_,hc⟩
  |succ j=>exact⟨_,hci j (by simpa using hj)⟩
 have hnD:∀i,i<(id::ids).length->¬E.D (E.π ((id::ids).getD i 0)):=λi hi=>by
  obtain⟨b,hb⟩:=hLs i hi
  exact(hh.live _ b hb).2.2.1
 have hfv:=hv x (by simp[ho,Op.operands,Call.operands])
 rw[hx] at hfv
 generalize hz:a.eval x=z at hfv
 cases hfv with
 |fn _ _ _ vs hn hr=>
 have hrun:(execOp a.eval o).run P E.w=(callFunc f (xs.map a.eval++vs)).run P E.w:=by simp[execOp,ho,resolve,Deferred.ofValue,hz,invoke]
 have hk1:(uG (id::ids) ps).length+1=(id::ids).length:=by simp[uG,hlen]
 unfold Oper.wp
 rw[hrun,hcall]
 show Calls P f _ E.w _
 refine(hf E.w (xs.map a.eval++vs) (λj=>E.π ((id::ids).getD j 0)) (λi j hi hj e=>?_) ha1 (λi hi=>?_) (by simp[hn]) λi hi=>?_).mono ?_
 rw[hk1] at hi hj
 obtain⟨bi,hbi⟩:=hLs i hi
 obtain⟨bj,hbj⟩:=hLs j hj
 by_cases hij:(id::ids).getD i 0=(id::ids).getD j 0
 exact fT hdi i j hi hj hij
 exact absurd e (hh.inj _ _ bi bj hbi hbj hij)
 have hi2:i<ps.length:=by simpa [uG] using hi
 rw[hk1]
 have e2:(uG (id::ids) ps).getD i (0,[])=((ps.getD i (0,[])).1,(ps.getD i (0,[])).2.map (gV (id::ids))):=by simp[uG,hi2]
 rw[e2]
 have hb:=(hh.live _ _ (hci i ω)).2.1
 show BR _ _ (E.π ((id::ids).getD (i+1) 0)) 0
 rw[show (id::ids).getD (i+1) 0=ids.getD i 0 by simp]
 cases hb with
 |box _ _ _ _ arr2 g1 g2 g3=>
  refine .box _ _ _ _ arr2 g1 (by simpa using g2) λj hj=>?_
  have hj2:j<(ps.getD i (0,[])).2.length:=by simpa using hj
  have e3:((ps.getD i (0,[])).2.map (gV (id::ids))).getD j .top=gV (id::ids) ((ps.getD i (0,[])).2.getD j .top):=by
   simp only[Γ,List.getElem?_map]
   simp only[Γ] at hj2
   rw[List.getElem?_eq_getElem hj2];rfl
  show VR _ (((ps.getD i (0,[])).2.map (gV (id::ids))).getD j .top) _
  rw[e3]
  exact AhJ hh.bnd hnD (g3 j hj2)
 rw[hk1]
 have hlen2:i<xs.size+caps.length:=by simpa using hi
 have e0:((xs.toList.map ev++caps).map (gV (id::ids))).getD i .top=gV (id::ids) ((xs.toList.map ev++caps).getD i .top):=by
  have:i<(xs.toList.map ev++caps).length:=by simpa using hi
  simp only[Γ,List.getElem?_map,List.getElem?_eq_getElem this,Option.map_some,Option.getD_some]
 rw[e0]
 refine AhJ hh.bnd hnD ?_
 by_cases hi1:i<xs.size
 have e1:(xs.toList.map ev++caps).getD i .top=ev xs[i]:=by simp[List.getElem?_append,hi1]
 have e2:(xs.map a.eval++vs).getD i undef=a.eval xs[i]:=by simp[Array.getD_eq_getD_getElem?,Array.getElem?_append,hi1]
 rw[e1,e2]
 exact hv _ (by simp[ho,Op.operands,Call.operands])
 have hi3:i-xs.size<caps.length:=by omega
 have e1:(xs.toList.map ev++caps).getD i .top=caps.getD (i-xs.size) .top:=by simp[List.getElem?_append,hi1]
 have e2:(xs.map a.eval++vs).getD i undef=vs.getD (i-xs.size) undef:=by simp[Array.getD_eq_getD_getElem?,Array.getElem?_append,hi1]
 rw[e1,e2]
 exact hr _ hi3
 rintro e w' ⟨rfl,hb1,hb2,hb3⟩
 have hb1:w'.heap[E.π id]?=some (.cells us'.toArray t (0,0)):=hb1
 have hb2:∀k,k≠E.π id->k<E.w.heap.size->w'.heap[k]?=E.w.heap[k]?:=hb2
 have hle:E.le { E with w:=w' }:=⟨λ_ h=>h,λ_ _=>rfl,λ_ h=>h,λb hb'=>hb2 b (λe=>l3 (e▸hb')) (hh.bnd b hb'),λ_ _=>rfl⟩
 refine k r { E with w:=w' } hle ⟨hb3.os,hb3.tape,hb3.output,hb3.size,λb hb'=>hb2 b ω (by have:=hh.B;omega)⟩ (.lit _ _) ⟨λi x hx=>?_,λi j x y hx hy hne=>?_,λb hb'=>Nat.lt_of_lt_of_le (hh.bnd b hb') hb3.size,λi hi=>Nat.lt_of_lt_of_le (hh.abd i hi) hb3.size,hh.le0.trans hle,hh.new,Nat.le_trans hh.B hb3.size⟩ λi hi=> .inl hi
 have hx2:(if id=i then some (Aw.box t (us'.map .lit)) else c i)=some x:=hx
 by_cases e1:id=i
 subst e1
 rw[if_pos rfl] at hx2
 cases hx2
 refine⟨l1,.box _ _ _ _ us'.toArray hb1 (by simp) λq hq=>?_,l3,l4⟩
 have h2:q<us'.length:=by simpa using hq
 have e3:(us'.map AV.lit).getD q .top= .lit (us'.toArray.getD q undef):=by simp[h2]
 rw[e3];exact .lit _ _
 rw[if_neg e1] at hx2
 obtain⟨j1,j2,j3,j4⟩:=hh.live i x hx2
 exact⟨j1,j2.up hle (hb2 _ (hh.inj i id x _ hx2 hc (λe=>e1 e.symm)) j2.lt),j3,j4⟩
 have real:∀q z,(if id=q then some (Aw.box t (us'.map .lit)) else c q)=some z->∃z',c q=some z':=λq z hz=>by
  by_cases e:id=q
  subst e;exact⟨_,hc⟩
  rw[if_neg e] at hz;exact⟨z,hz⟩
 obtain⟨x',hx'⟩:=real i x hx
 obtain⟨y',hy'⟩:=real j y hy
 exact hh.inj i j x' y' hx' hy' hne
end Go.Proofs.YtkpjchfniejdoaaGreatDoor