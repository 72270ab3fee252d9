/- Part 15 of the proof of IB.row_holds: no condition beyond the row's. -/
import Derived.Test.YtbggmndaahbojaaGreatIb14
import Derived.LoopNIn
import Derived.LoopN
set_option maxRecDepth 100000
set_option maxHeartbeats 40000000
namespace Go.Proofs.YtbggmndaahbojaaGreat
open Go.RowKit
inductive AV where
 |lit (v:Value)
 |agg (l:List AV)
 |tup (l:List AV)
 |sl (e n:Nat) (f:Nat->AV)
 |elt (n:Nat) (f:Nat->AV)
 |ptr (id off:Nat)
 |osl (id e n:Nat)
 |fn (g:FuncId) (caps:List AV)
 |yld (id:Nat)
 |slc (e n:Nat) (f:Nat->AV)
 |osw (id e o n:Nat)
 |top
abbrev AV.int (n:Int):AV:= .lit (.int .i64 n)
abbrev AV.bool (b:Bool):AV:= .lit (.bool b)
abbrev AV.undef:AV:= .lit Go.undef
def AV.cells:AV->List AV
 | .lit v=>v.cells.toList.map .lit
 | .agg l=>l
 |x=>[x]
def AV.cell (x:AV) (j:Nat):AV:=x.cells.getD j .top
def Sc:List AV->Option (List Value)
 |[]=>some []
 | .lit v::l=>(Sc l).map (v::·)
 |_::_=>none
def mkAgg (l:List AV):AV:=match Sc l with|some vs=> .lit (.agg vs.toArray)|none=> .agg l
def mkTup (l:List AV):AV:=match Sc l with|some vs=> .lit (.tuple vs.toArray)|none=> .tup l
structure Ap where
 π:Nat->Nat
 cap:Nat->Nat
 A:Nat->Prop
 D:Nat->Prop
 w:World
def Ap.fz (E:Ap):Ap:={ E with A:=λ_=>False }
inductive VR:Ap->AV->Value->Prop
 |lit (E:Ap) (v:Value):VR E (.lit v) v
 |agg (E:Ap) (l:List AV) (vs:Array Value) (hn:vs.size=l.length) (h:∀i,i<l.length->VR E (l.getD i .top) (vs.getD i undef)):VR E (.agg l) (.agg vs)
 |tup (E:Ap) (l:List AV) (vs:Array Value) (hn:vs.size=l.length) (h:∀i,i<l.length->VR E (l.getD i .top) (vs.getD i undef)):VR E (.tup l) (.tuple vs)
 |sl0 (E:Ap) (e:Nat) (f:Nat->AV) (a:Option Addr) (c:Nat):VR E (.sl e 0 f) (.slice a 0 c)
 |sl (E:Ap) (e n:Nat) (f:Nat->AV) (b q c:Nat) (us:Nat->Nat->Value) (hn:0<n) (hD:E.D b) (hc:∀i j,i<n->j<e->E.w.cell? ⟨b,q+i*e+j,none⟩=some (us i j))
  (hr:∀i j,i<n->j<e->VR E.fz ((f i).cell j) (us i j)):VR E (.sl e n f) (.slice (some ⟨b,q,none⟩) n c)
 |slc (E:Ap) (e n:Nat) (f:Nat->AV) (a:Option Addr) (c:Nat) (hnc:n<=c) (h:VR E (.sl e n f) (.slice a n c)):VR E (.slc e n f) (.slice a n c)
 |elt (E:Ap) (n:Nat) (f:Nat->AV) (b q:Nat) (us:Nat->Value) (hD:E.D b) (hc:∀j,j<n->E.w.cell? ⟨b,q+j,none⟩=some (us j)) (hr:∀j,j<n->VR E.fz (f j) (us j)):VR E (.elt n f) (.pointer (some ⟨b,q,none⟩))
 |ptr (E:Ap) (id off:Nat) (hA:E.A id):VR E (.ptr id off) (.pointer (some ⟨E.π id,off,none⟩))
 |osl (E:Ap) (id e n:Nat) (hA:E.A id):VR E (.osl id e n) (.slice (some ⟨E.π id,0,none⟩) n (E.cap id))
 |osw (E:Ap) (id e o n a c:Nat) (hA:E.A id) (ha:0<n->a=o*e):VR E (.osw id e o n) (.slice (some ⟨E.π id,a,none⟩) n c)
 |fn (E:Ap) (g:FuncId) (l:List AV) (vs:Array Value) (hn:vs.size=l.length) (h:∀i,i<l.length->VR E (l.getD i .top) (vs.getD i undef)):VR E (.fn g l) (.func (.func g) #[] vs)
 |yld (E:Ap) (id:Nat) (hA:E.A id):VR E (.yld id) (.func (.yield (E.π id)) #[] #[])
 |top (E:Ap) (v:Value):VR E .top v
structure Ap.le (E E':Ap):Prop where
 A:∀id,E.A id->E'.A id
 π:∀id,E.A id->E'.π id=E.π id
 D:∀b,E.D b->E'.D b
 blk:∀b,E.D b->E'.w.heap[b]?=E.w.heap[b]?
 cap:∀id,E.A id->E'.cap id=E.cap id
theorem Ap.le.refl (E:Ap):E.le E:=⟨λ_ h=>h,λ_ _=>rfl,λ_ h=>h,λ_ _=>rfl,λ_ _=>rfl⟩
theorem Ap.le.trans {a b c:Ap} (h:a.le b) (k:b.le c):a.le c:=
 ⟨λi hi=>k.A i (h.A i hi),λi hi=>(k.π i (h.A i hi)).trans (h.π i hi),λi hi=>k.D i (h.D i hi),λi hi=>(k.blk i (h.D i hi)).trans (h.blk i hi),λi hi=>(k.cap i (h.A i hi)).trans (h.cap i hi)⟩
theorem Ap.le.fz {E E':Ap} (h:E.le E'):E.fz.le E'.fz:=⟨λ_ h=>h.elim,λ_ h=>h.elim,h.D,h.blk,λ_ h=>h.elim⟩
theorem Ap.fz_le (E:Ap):E.fz.le E:=⟨λ_ h=>h.elim,λ_ h=>h.elim,λ_ h=>h,λ_ _=>rfl,λ_ h=>h.elim⟩
theorem Ap.fz_le_of {E E':Ap} (hD:∀b,E.D b->E'.D b) (hb:∀b,E.D b->E'.w.heap[b]?=E.w.heap[b]?):E.fz.le E':=⟨λ_ h=>h.elim,λ_ h=>h.elim,hD,hb,λ_ h=>h.elim⟩
theorem VR.up {E:Ap} {x:AV} {v:Value} (h:VR E x v):∀{E':Ap},E.le E'->VR E' x v:=by
 induction h with
 |lit E v=>intro E' _;exact .lit _ _
 |agg E l vs hn h ih=>intro E' hE;exact .agg _ _ _ hn λi hi=>ih i hi hE
 |tup E l vs hn h ih=>intro E' hE;exact .tup _ _ _ hn λi hi=>ih i hi hE
 |sl0 E e f a c=>intro E' _;exact .sl0 _ _ _ _ _
 |slc E e n f a c hnc h ih=>intro E' hE;exact .slc _ _ _ _ _ _ hnc (ih hE)
 |sl E e n f b q c us hn hD hc hr ih=>
  intro E' hE
  exact .sl _ _ _ _ _ _ _ us hn (hE.D b hD) (λi j hi hj=>(World.cell?_of_block (w:=E.w) (hE.blk b hD)).trans (hc i j hi hj)) λi j hi hj=>ih i j hi hj hE.fz
 |elt E n f b q us hD hc hr ih=>
  intro E' hE
  exact .elt _ _ _ _ _ us (hE.D b hD) (λj hj=>(World.cell?_of_block (w:=E.w) (hE.blk b hD)).trans (hc j hj)) λj hj=>ih j hj hE.fz
 |ptr E id off hA=>
  intro E' hE
  rw[<-hE.π id hA]
  exact .ptr _ _ _ (hE.A id hA)
 |osl E id e n hA=>
  intro E' hE
  rw[<-hE.π id hA,<-hE.cap id hA]
  exact .osl _ _ _ _ (hE.A id hA)
 |osw E id e o n a c hA ha=>
  intro E' hE
  rw[<-hE.π id hA]
  exact .osw _ _ _ _ _ _ _ (hE.A id hA) ha
 |fn E g l vs hn h ih=>intro E' hE;exact .fn _ _ _ _ hn λi hi=>ih i hi hE
 |yld E id hA=>
  intro E' hE
  rw[<-hE.π id hA]
  exact .yld _ _ (hE.A id hA)
 |top E v=>intro E' _;exact .top _ _
abbrev Fd:=List (Nat×AV)
def Bl:Fd->Nat->AV
 |[],_=> .top
 |(i,x)::t,k=>bif Nat.beq i k then x else Bl t k
structure Fa where
 params:Array Tmp
 assign:Code
 body:Code
inductive Ar where
 |box (t:TypeId) (cs:List AV)
 |vec (t:TypeId) (e n:Nat) (f:Nat->AV)
 |loop (st:LoopState) (pe:Option Code) (sp:Fa) (t:Fd) (n:Nat)
inductive BR (E:Ap):Ar->Nat->Nat->Prop
 |box (t:TypeId) (cs:List AV) (b cap:Nat) (arr:Array Value) (hb:E.w.heap[b]?=some (.cells arr t (0,0))) (hn:arr.size=cs.length) (h:∀i,i<cs.length->VR E (cs.getD i .top) (arr.getD i undef)):BR E (.box t cs) b cap
 |vec (t:TypeId) (e n:Nat) (f:Nat->AV) (b cap:Nat) (arr:Array Value) (hb:E.w.heap[b]?=some (.cells arr t (0,0))) (hn:arr.size=cap*e) (hc:n<=cap) (hm:cap<=maxLen) (h:∀i j,i<n->j<e->VR E ((f i).cell j) (arr.getD (i*e+j) undef)):BR E (.vec t e n f) b cap
 |loop (st:LoopState) (pe:Option Code) (sp:Fa) (t:Fd) (n:Nat) (b cap m:Nat) (fid:FuncId) (tm:Array Value) (hb:E.w.heap[b]?=some (.loop { state:=st,pending:=pe,fn:=fid,tmps:=tm,params:=sp.params,assign:=sp.assign,body:=sp.body,defers:=m })) (hn:tm.size=n) (h:∀i,VR E (Bl t i) (tm.getD i undef)):BR E (.loop st pe sp t n) b cap
theorem BR.up {E E':Ap} {x:Ar} {b cap:Nat} (h:BR E x b cap) (hE:E.le E') (hb:E'.w.heap[b]?=E.w.heap[b]?):BR E' x b cap:=by
 cases h with
 |box t cs b cap arr h1 hn h=>exact .box _ _ _ _ arr (hb.trans h1) hn λi hi=>(h i hi).up hE
 |vec t e n f b cap arr h1 hn hc hm h=>exact .vec _ _ _ _ _ _ arr (hb.trans h1) hn hc hm λi j hi hj=>(h i j hi hj).up hE
 |loop st pe sp t n _ _ m fid tm h1 hn h=>exact .loop _ _ _ _ _ _ _ m fid tm (hb.trans h1) hn λi=>(h i).up hE
abbrev Cx:=List (Nat×Ar)
def Ak:Cx->Nat->Option Ar
 |[],_=>none
 |(i,b)::h,id=>if i=id then some b else Ak h id
structure HR (B:Nat) (D0:Ap) (E:Ap) (c:Nat->Option Ar):Prop where
 live:∀id b,c id=some b->E.A id/\BR E b (E.π id) (E.cap id)/\¬E.D (E.π id)/\B<=E.π id
 inj:∀i j x y,c i=some x->c j=some y->i≠j->E.π i≠E.π j
 bnd:∀b,E.D b->b<E.w.heap.size
 abd:∀id,E.A id->E.π id<E.w.heap.size
 le0:D0.le E
 new:∀b,E.D b->D0.D b\/B<=b
 B:B<=E.w.heap.size
theorem BR.lt {E:Ap} {x:Ar} {b cap:Nat} (h:BR E x b cap):b<E.w.heap.size:=by
 cases h with
 |box t cs b cap arr h1 hn h=>exact(Ξ h1).1
 |vec t e n f b cap arr h1 hn hc hm h=>exact(Ξ h1).1
 |loop st pe sp t n b cap m fid tm h1 hn h=>exact(Ξ h1).1
structure St where
 t:Fd
 h:Cx
 nx:Nat
 n:Nat
theorem Gr (i:Nat) (x:AV) (t:Fd) (k:Nat):Bl ((i,x)::t) k=if i=k then x else Bl t k:=by
 show (bif Nat.beq i k then x else Bl t k)=_
 by_cases h:i=k
 subst h;rw[Nat.beq_refl,if_pos rfl];rfl
 rw[if_neg h]
 have:Nat.beq i k=false:=by
  cases hb:Nat.beq i k with
  |false=>rfl
  |true=>exact absurd (Nat.eq_of_beq_eq_true hb) h
 rw[this];rfl
def Da:List AV->Nat->Fd
 |[],_=>[]
 |x::l,k=>(k,x)::Da l (k+1)
theorem Lv:∀(l:List AV) (k i:Nat),Bl (Da l k) (k+i)=l.getD i .top
 |[],k,i=>by simp[Da,Bl]
 |x::l,k,i=>by
  rw[Da,Gr]
  cases i with
  |zero=>simp
  |succ i=>
   rw[if_neg ω,show k+(i+1)=(k+1)+i by omega,Lv l (k+1) i]
   simp
def St.ev (s:St):Operand->AV
 | .tmp t=>Bl s.t t
 | .const v=> .lit v
 | .global g=> .lit (.pointer (some ⟨g,0,none⟩))
 | .func f=> .fn f []
def Nk (B:Nat) (D0:Ap) (E:Ap) (ds:List Deferred):Prop:=∃ms:List Nat,Vh ms ds/\ms.Nodup/\∀m∈ms,E.D m/\¬D0.D m/\B<=m/\E.w.heap[m]?=some (.deferred (some []))
theorem Nk.nil (B:Nat) (D0:Ap) (E:Ap):Nk B D0 E []:=⟨[],.nil,List.nodup_nil,λ_ h=>absurd h (by simp)⟩
theorem Nk.up {B:Nat} {D0:Ap} {E E':Ap} {ds:List Deferred} (h:Nk B D0 E ds) (hD:∀b,E.D b->E'.D b) (hb:∀b,E.D b->E'.w.heap[b]?=E.w.heap[b]?):Nk B D0 E' ds:=by
 obtain⟨ms,h1,h2,h3⟩:=h
 exact⟨ms,h1,h2,λm hm=>by obtain⟨a,b,c,d⟩:=h3 m hm;exact⟨hD m a,b,c,(hb m a).trans d⟩⟩
structure Hv (B:Nat) (D0:Ap) (E:Ap) (s:St) (a:Act):Prop where
 size:a.tmps.size=s.n
 df:Nk B D0 E a.defers
 t:∀i,VR E (Bl s.t i) (a.tmps.getD i undef)
 h:HR B D0 E (Ak s.h)
 A:∀id,E.A id->id<s.nx
theorem Hv.ev {B:Nat} {D0:Ap} {E:Ap} {s:St} {a:Act} (h:Hv B D0 E s a) (x:Operand):VR E (s.ev x) (a.eval x):=by
 cases x with
 |tmp t=>exact h.t t
 |const v=>exact .lit _ _
 |global g=>exact .lit _ _
 |func f=>exact .fn _ _ _ _ rfl λi hi=>absurd hi (Nat.not_lt_zero i)
def Ph (R:Option Nat):Fence:={ Fence.wide with round:=R }
structure AC (P:Program) (R:Option Nat) (B:Nat) (D0:Ap) (c:Code) (s:St) (Q:Exit->St->Prop):Prop where
 run:∀(E:Ap) (a:Act),Hv B D0 E s a->c.wpIn (Ph R) 0 P (λe a' w'=>∃s' E',E'.w=w'/\Q e s'/\Hv B D0 E' s' a'/\Below B E.w w') a E.w
def oB (K:St->Prop) (Q:Exit->St->Prop):Exit->St->Prop
 | .normal,s=>K s
 |e,s=>Q e s
variable {P:Program} {R:Option Nat} {B:Nat} {D0:Ap} {s:St} {Q:Exit->St->Prop}
theorem Cq {P:Program} {F:Fence} {n:Nat} {c:Code} {Q Q':Exit->Act->World->Prop} {a:Act} {w:World} (hq:∀e a w,Q e a w->Q' e a w) (h:c.wpIn F n P Q a w):c.wpIn F n P Q' a w:=wpIn_mono h hq
theorem Wi {c:Code} {Q':Exit->St->Prop} (h:AC P R B D0 c s Q) (hq:∀e s,Q e s->Q' e s):AC P R B D0 c s Q':=⟨λE a hs=>
 Cq (λ_ _ _ ⟨s',E',h1,h2,h3,h4⟩=>⟨s',E',h1,hq _ _ h2,h3,h4⟩) (h.run E a hs)⟩
theorem qT {c:Code} {s':St} (hw:∀E a,Hv B D0 E s a->∃E',E'.w=E.w/\Hv B D0 E' s' a) (h:AC P R B D0 c s' Q):AC P R B D0 c s Q:=by
 refine⟨λE a hs=>?_⟩
 obtain⟨E',he,hs'⟩:=hw E a hs
 have:=h.run E' a hs'
 rw[he] at this
 exact this
theorem Aet (h:Q .normal s):AC P R B D0 .skip s Q:=⟨λE _ hs=>wpIn_skip ⟨s,E,rfl,h,hs,Below.refl _ _⟩⟩
theorem zD {l:Nat} (h:Q .normal s):AC P R B D0 (.label l) s Q:=⟨λE _ hs=>wpIn_label ⟨s,E,rfl,h,hs,Below.refl _ _⟩⟩
theorem Aer {id:Nat} (h:Q (.exit id) s):AC P R B D0 (.exit id) s Q:=⟨λE _ hs=>wpIn_exit ⟨s,E,rfl,h,hs,Below.refl _ _⟩⟩
theorem Ahj (h:Q .ret s):AC P R B D0 .ret s Q:=⟨λE _ hs=>wpIn_ret ⟨s,E,rfl,h,hs,Below.refl _ _⟩⟩
theorem Ahk {x y:Code} (h:AC P R B D0 x s (oB (λs1=>AC P R B D0 y s1 Q) Q)):AC P R B D0 (.seq x y) s Q:=⟨λE a hs=>
 wpIn_seq (Cq (λe a' w' ⟨s',E',h1,h2,h3,h4⟩=>by
  subst h1
  cases e with
  |normal=>exact Cq (λe a2 w2 ⟨s2,E2,k1,k2,k3,k4⟩=>⟨s2,E2,k1,k2,k3,h4.trans k4⟩) (h2.run E' a' h3)
  |_=>exact⟨s',E',rfl,h2,h3,h4⟩) (h.run E a hs))⟩
theorem VR.lit_inv {E:Ap} {u v:Value} (h:VR E (.lit u) v):v=u:=by cases h;rfl
theorem qS {c:Operand} {x y:Code} (b:Bool) (hc:s.ev c= .bool b) (h:AC P R B D0 (if b then x else y) s Q):AC P R B D0 (.cond c x y) s Q:=by
 refine⟨λE a hs=>?_⟩
 have h1:=hs.ev c
 rw[hc] at h1
 have:a.eval c= .bool b:=h1.lit_inv
 exact wpIn_cond this (h.run E a hs)
theorem Aeu {c:Operand} {x y:Code} {b:Bool} (hc:s.ev c= .bool b) (hb:b=true) (h:AC P R B D0 x s Q):AC P R B D0 (.cond c x y) s Q:=qS b hc (by rw[hb];exact h)
theorem zC {c:Operand} {x y:Code} {b:Bool} (hc:s.ev c= .bool b) (hb:b=false) (h:AC P R B D0 y s Q):AC P R B D0 (.cond c x y) s Q:=qS b hc (by rw[hb];exact h)
def rH (id:Nat) (Q:Exit->St->Prop):Exit->St->Prop
 | .exit id',s=>bif Nat.beq id' id then Q .normal s else Q (.exit id') s
 |e,s=>Q e s
theorem zB {id:Nat} {c:Code} (h:AC P R B D0 c s (rH id Q)):AC P R B D0 (.block id c) s Q:=⟨λE a hs=>
 wpIn_block (Cq (λe a' w' ⟨s',E',h1,h2,h3,h4⟩=>by
  cases e with
  |exit id'=>
   show if id'=id then _ else _
   by_cases e:id'=id
   rw[if_pos e];rw[rH,e,Nat.beq_refl] at h2;exact⟨s',E',h1,h2,h3,h4⟩
   have hb:Nat.beq id' id=false:=by
    cases hb:Nat.beq id' id with
    |false=>rfl
    |true=>exact absurd (Nat.eq_of_beq_eq_true hb) e
   rw[if_neg e];rw[rH,hb] at h2;exact⟨s',E',h1,h2,h3,h4⟩
  |_=>exact⟨s',E',h1,h2,h3,h4⟩) (h.run E a hs))⟩
def Qu (P:Program) (R:Option Nat) (B:Nat) (D0:Ap) (c:Code) (Q:Exit->St->Prop):Nat->St->Prop
 |0,_=>False
 |n+1,s=>AC P R B D0 c s (oB (Qu P R B D0 c Q n) Q)
theorem eD {c:Code}:∀(n:Nat) (s:St),Qu P R B D0 c Q n s->∀(w0:World) (E:Ap) (a:Act),Hv B D0 E s a->Below B w0 E.w->
  Code.roundsIn (Ph R) 0 P c (λe a' w'=>∃s' E',E'.w=w'/\Q e s'/\Hv B D0 E' s' a'/\Below B w0 w') n a E.w
 |0,_,h,_,_,_,_,_=>h.elim
 |n+1,s,h,w0,E,a,hs,hb=>Cq (λe a' w' ⟨s',E',h1,h2,h3,h4⟩=>by
   subst h1
   cases e with
   |normal=>exact eD n s' h2 w0 E' a' h3 (hb.trans h4)
   |_=>exact⟨s',E',rfl,h2,h3,hb.trans h4⟩) (h.run E a hs)
theorem eL {c:Code} (n:Nat) (h:Qu P R B D0 c Q n s):AC P R B D0 (.loop c) s Q:=⟨λE a hs=>wpIn_loop_rounds n (eD n s h E.w E a hs Ψ)⟩
theorem Zy {c:Code} (st:Nat->St) (n:Nat) (h:∀k,k<n->∀K:St->Prop,K (st (k+1))->AC P R B D0 c (st k) (oB K Q)) (hl:AC P R B D0 c (st n) (oB (λ_=>False) Q)):∀m k,k+m=n->Qu P R B D0 c Q (m+1) (st k)
 |0,k,hk=>by
  obtain rfl:k=n:=by omega
  exact hl
 |m+1,k,hk=>h k ω _ (Zy st n h hl m (k+1) ω)
theorem iU {c:Code} (st:Nat->St) (n:Nat) (h0:s=st 0) (h:∀k,k<n->∀K:St->Prop,K (st (k+1))->AC P R B D0 c (st k) (oB K Q)) (hl:AC P R B D0 c (st n) (oB (λ_=>False) Q)):AC P R B D0 (.loop c) s Q:=by
 rw[h0]
 exact eL (n+1) (Zy st n h hl n 0 ω)
theorem Zx {c:Code} (I:Nat->St->Prop) (h:∀m s,I m s->AC P R B D0 c s (oB (λs'=>∃m',m'<m/\I m' s') Q)):∀N m s,m<N->I m s->Qu P R B D0 c Q N s
 |0,m,_,hm,_=>absurd hm (Nat.not_lt_zero m)
 |N+1,m,s,hm,hI=>Wi (h m s hI) λe s' hq=>by
  cases e with
  |normal=>
   obtain⟨m',h1,h2⟩:=hq
   exact Zx I h N m' s' ω h2
  |_=>exact hq
theorem iT {c:Code} (I:Nat->St->Prop) (m:Nat) (h0:I m s) (h:∀m s,I m s->AC P R B D0 c s (oB (λs'=>∃m',m'<m/\I m' s') Q)):AC P R B D0 (.loop c) s Q:=
 eL (m+1) (Zx I h (m+1) m s (Nat.lt_succ_self m) h0)
def AF (P:Program) (f:FuncId) (args:List AV) (r:AV):Prop:=
 ∀(E:Ap) (vs:Array Value),(∀b,E.D b->b<E.w.heap.size)->vs.size=args.length->(∀i,i<args.length->VR E.fz (args.getD i .top) (vs.getD i undef))->
  Calls P f vs E.w λe w'=>∃v D',e= .returned v/\VR { E with D:=D',w:=w' } r v/\Below E.w.heap.size E.w w'/\(∀b,E.D b->D' b)/\(∀b,D' b->E.D b\/E.w.heap.size<=b)/\(∀b,D' b->b<w'.heap.size)
def Nl (P:Program) (B:Nat) (D0:Ap) (fn:Func) (s:St) (r:AV):Prop:=
 ∀E a,Hv B D0 E s a->∃v,(results fn a.tmps).run P E.w= .ok v E.w/\VR E.fz r v
theorem VR.tops {E:Ap} {l:List AV} {vs:Array Value} (h:∀i,i<l.length->VR E (l.getD i .top) (vs.getD i undef)) (i:Nat):VR E (l.getD i .top) (vs.getD i undef):=by
 by_cases hi:i<l.length
 exact h i hi
 rw[Γ,List.getElem?_eq_none ω]
 exact .top _ _
theorem VR.keepC {E:Ap} {x:AV} {v:Value} (h:VR E x v):∀{w':World},(∀b o u,E.D b->E.w.cell? ⟨b,o,none⟩=some u->w'.cell? ⟨b,o,none⟩=some u)->VR { E with w:=w' } x v:=by
 induction h with
 |lit E v=>intro w' _;exact .lit _ _
 |agg E l vs hn h ih=>intro w' hE;exact .agg _ _ _ hn λi hi=>ih i hi hE
 |tup E l vs hn h ih=>intro w' hE;exact .tup _ _ _ hn λi hi=>ih i hi hE
 |sl0 E e f a c=>intro w' _;exact .sl0 _ _ _ _ _
 |slc E e n f a c hnc h ih=>intro w' hE;exact .slc _ _ _ _ _ _ hnc (ih hE)
 |sl E e n f b q c us hn hD hc hr ih=>intro w' hE;exact .sl _ _ _ _ _ _ _ us hn hD (λi j hi hj=>hE _ _ _ hD (hc i j hi hj)) λi j hi hj=>ih i j hi hj hE
 |elt E n f b q us hD hc hr ih=>intro w' hE;exact .elt _ _ _ _ _ us hD (λj hj=>hE _ _ _ hD (hc j hj)) λj hj=>ih j hj hE
 |ptr E id off hA=>intro w' _;exact .ptr { E with w:=w' } _ _ hA
 |osl E id e n hA=>intro w' _;exact .osl { E with w:=w' } _ _ _ hA
 |osw E id e o n a c hA ha=>intro w' _;exact .osw { E with w:=w' } _ _ _ _ _ _ hA ha
 |fn E g l vs hn h ih=>intro w' hE;exact .fn _ _ _ _ hn λi hi=>ih i hi hE
 |yld E id hA=>intro w' _;exact .yld { E with w:=w' } _ hA
 |top E v=>intro w' _;exact .top _ _
theorem BR.keepC {E:Ap} {x:Ar} {b cap:Nat} (h:BR E x b cap) {w':World} (hc:∀b o u,E.D b->E.w.cell? ⟨b,o,none⟩=some u->w'.cell? ⟨b,o,none⟩=some u) (hb:w'.heap[b]?=E.w.heap[b]?):BR { E with w:=w' } x b cap:=by
 cases h with
 |box t cs b cap arr h1 hn h=>exact .box (E:={ E with w:=w' }) _ _ _ _ arr (hb.trans h1) hn λi hi=>(h i hi).keepC hc
 |vec t e n f b cap arr h1 hn hk hm h=>exact .vec (E:={ E with w:=w' }) _ _ _ _ _ _ arr (hb.trans h1) hn hk hm λi j hi hj=>(h i j hi hj).keepC hc
 |loop st pe sp t n _ _ m fid tm h1 hn h=>exact .loop (E:={ E with w:=w' }) _ _ _ _ _ _ _ m fid tm (hb.trans h1) hn λi=>(h i).keepC hc
theorem Hv.unmark {B:Nat} {D0:Ap} {E:Ap} {s:St} {a:Act} (h:Hv B D0 E s a) {ms:List Nat} (h3:∀m∈ms,E.D m/\¬D0.D m/\B<=m/\E.w.heap[m]?=some (.deferred (some []))) {w':World} (hk:Jm (·∈ms) E.w w') (hz:w'.heap.size=E.w.heap.size):
  Hv B D0 { E with w:=w' } s { a with defers:=[] }/\Below B E.w w':=by
 have hc:∀b o u,E.D b->E.w.cell? ⟨b,o,none⟩=some u->w'.cell? ⟨b,o,none⟩=some u:=λb o u hD hu=>by
  by_cases hm:b∈ms
  have:=(h3 b hm).2.2.2
  simp[World.cell?,this] at hu
  exact(hk.cell (h.h.bnd b hD) hm).trans hu
 have hlt:∀{b:Nat} {o:Obj},E.w.heap[b]?=some o->b<E.w.heap.size:=λh=>(Ξ h).1
 refine⟨⟨h.size,Nk.nil _ _ _,λi=>(h.t i).keepC hc,⟨λid b hb=>?_,h.h.inj,λb hb=>by show b<w'.heap.size;rw[hz];exact h.h.bnd b hb,λid hi=>by show _<w'.heap.size;rw[hz];exact h.h.abd id hi,?_,h.h.new,by show B<=w'.heap.size;rw[hz];exact h.h.B⟩,h.A⟩,⟨hk.os,hk.tape,hk.output,hk.size,λb hb=>hk.block b (by have:=h.h.B;omega) λhm=>by have:=(h3 b hm).2.2.1;omega⟩⟩
 obtain⟨k1,k2,k3,k4⟩:=h.h.live id b hb
 exact⟨k1,k2.keepC hc (hk.block _ k2.lt λhm=>k3 (h3 _ hm).1),k3,k4⟩
 have:=h.h.le0
 exact⟨this.A,this.π,this.D,λb hb=>(hk.block b (h.h.bnd b (this.D b hb)) λhm=>(h3 b hm).2.1 hb).trans (this.blk b hb),this.cap⟩
theorem Aji {f:FuncId} {fn:Func} {c:Code} {args:List AV} {r:AV} (s0:St) (hf:Tryz.prog.funcs[f]?=some fn) (hc:fn.body=some c) (n:Nat) (hn:fn.ntmps=n) (hle:Nat.ble args.length n=true) (hs:(⟨Da args 0,[],0,n⟩:St)=s0)
  (h:∀B D0,(∀id,D0.A id->id<0)->AC Tryz.prog none B D0 c s0 (λe s=>(e= .ret\/e= .normal)/\Nl Tryz.prog B D0 fn s r)):AF Tryz.prog f args r:=by
 subst hs
 subst hn
 intro E vs hD hsz hv
 have hle':args.length<=fn.ntmps:=by simpa using hle
 have hsim:Hv E.w.heap.size E.fz E.fz ⟨Da args 0,[],0,fn.ntmps⟩ { tmps:=vs++Array.replicate (fn.ntmps-vs.size) undef,defers:=[] }:=by
  have hB:∀b,E.D b->b<E.w.heap.size:=hD
  refine⟨by simp[hsz];omega,Nk.nil _ _ _,λi=>?_,⟨λid b h=>by simp[Ak] at h,λi j x y h=>by simp[Ak] at h,hB,λ_ h=>h.elim,Ap.le.refl _,λ_ h=> .inl h,Nat.le_refl _⟩,λ_ h=>h.elim⟩
  have e0:=Lv args 0 i
  rw[Nat.zero_add] at e0
  show VR E.fz (Bl (Da args 0) i) _
  rw[e0]
  by_cases hi:i<args.length
  have h2:(vs++Array.replicate (fn.ntmps-vs.size) undef).getD i undef=vs.getD i undef:=by
   simp only[Array.getD_eq_getD_getElem?,Array.getElem?_append_left (show i<vs.size by omega)]
  rw[h2]
  exact(hv i hi)
  rw[Γ,List.getElem?_eq_none ω]
  exact .top _ _
 refine Mh hf hc (wpIn_wide.1 (Cq ?_ ((h E.w.heap.size E.fz (λ_ h=>h.elim)).run E.fz _ hsim)))
 rintro e a' w' ⟨s',E',rfl,⟨he,hr⟩,hs,hb⟩
 obtain⟨ms,m1,m2,m3⟩:=hs.df
 have fin:bodyPostM Fence.wide 0 Tryz.prog fn (λe w'=>∃v D',e= .returned v/\VR { E with D:=D',w:=w' } r v/\Below E.w.heap.size E.w w'/\(∀b,E.D b->D' b)/\(∀b,D' b->E.D b\/E.w.heap.size<=b)/\(∀b,D' b->b<w'.heap.size)) .ret a' E'.w:=by
  refine Qz ms m1 m2 (λm hm=>(m3 m hm).2.2.2) λW hk hz=>?_
  obtain⟨k1,k2⟩:=hs.unmark m3 hk hz
  obtain⟨v,hv,hrv⟩:=hr _ _ k1
  exact⟨v,hv,v,E'.D,rfl,hrv.up (Ap.fz_le_of (E:={ E' with w:=W }) (E':={ E with D:=E'.D,w:=W }) (λ_ h=>h) λ_ _=>rfl),hb.trans k2,hs.h.le0.D,hs.h.new,k1.h.bnd⟩
 rcases he with rfl|rfl
 exact fin
 exact fin
end Go.Proofs.YtbggmndaahbojaaGreat
namespace Go.Proofs.YtbggmndaahbojaaGreat
open Go.RowKit
inductive Ba where
 |none
 |read (id:Nat)
 |set (id:Nat) (b:Ar)
 |new (id:Nat) (b:Ar)
 |grow (id nid:Nat) (b:Ar)
 |grow2 (id id2 nid:Nat) (b:Ar)
 |newr (id2 nid:Nat) (b:Ar)
 |drop (id:Nat)
 |setr (ls:List Nat) (id:Nat) (b:Ar)
def Ba.on:Ba->Nat->Option Ar->Option Ar
 | .set i b,id,c=>if i=id then some b else c
 | .new i b,id,c=>if i=id then some b else c
 | .grow i n b,id,c=>if n=id then some b else if i=id then Option.none else c
 | .grow2 i _ n b,id,c=>if n=id then some b else if i=id then Option.none else c
 | .newr _ n b,id,c=>if n=id then some b else c
 | .drop i,id,c=>if i=id then Option.none else c
 | .setr _ i b,id,c=>if i=id then some b else c
 |_,_,c=>c
def Ba.touch:Ba->Nat->Bool
 | .none,_=>false
 | .read i,id=>i==id
 | .set i _,id=>i==id
 | .new i _,id=>i==id
 | .grow i n _,id=>i==id||n==id
 | .grow2 i j n _,id=>i==id||j==id||n==id
 | .newr j n _,id=>j==id||n==id
 | .drop i,id=>i==id
 | .setr ls i _,id=>i==id||ls.contains id
def Ba.writes:Ba->Nat->Bool
 | .set i _,id=>i==id
 | .new i _,id=>i==id
 | .grow i n _,id=>i==id||n==id
 | .grow2 i _ n _,id=>i==id||n==id
 | .newr _ n _,id=>n==id
 | .drop i,id=>i==id
 | .setr _ i _,id=>i==id
 |_,_=>false
def Ba.news:Ba->Nat->Bool
 | .new i _,id=>i==id
 | .grow _ n _,id=>n==id
 | .grow2 _ _ n _,id=>n==id
 | .newr _ n _,id=>n==id
 |_,_=>false
def Ba.ids:Ba->List Nat
 | .none=>[]
 | .read i=>[i]
 | .set i _=>[i]
 | .new i _=>[i]
 | .grow i n _=>[i,n]
 | .grow2 i j n _=>[i,j,n]
 | .newr j n _=>[j,n]
 | .drop i=>[i]
 | .setr ls i _=>i::ls
def Ba.nx:Ba->Nat->Nat
 | .new i _,k=>max k (i+1)
 | .grow _ n _,k=>max k (n+1)
 | .grow2 _ _ n _,k=>max k (n+1)
 | .newr _ n _,k=>max k (n+1)
 |_,k=>k
def Ba.low:Ba->Nat->Bool
 | .new i _,k=>Nat.ble k i
 | .grow _ n _,k=>Nat.ble k n
 | .grow2 _ _ n _,k=>Nat.ble k n
 | .newr _ n _,k=>Nat.ble k n
 |_,_=>true
def hset:Cx->Nat->Ar->Cx
 |[],i,b=>[(i,b)]
 |(j,c)::h,i,b=>if j=i then (i,b)::h else (j,c)::hset h i b
def Hx:Cx->Nat->Cx
 |[],_=>[]
 |(j,c)::h,i=>if j=i then Hx h i else (j,c)::Hx h i
def Ba.ap:Ba->Cx->Cx
 | .set i b,h=>hset h i b
 | .new i b,h=>hset h i b
 | .grow i n b,h=>hset (Hx h i) n b
 | .grow2 i _ n b,h=>hset (Hx h i) n b
 | .newr _ n b,h=>hset h n b
 | .drop i,h=>Hx h i
 | .setr _ i b,h=>hset h i b
 |_,h=>h
theorem Dw:∀(h:Cx) (i:Nat) (b:Ar) (id:Nat),Ak (hset h i b) id=if i=id then some b else Ak h id
 |[],i,b,id=>by simp[hset,Ak]
 |(j,c)::h,i,b,id=>by
  by_cases hj:j=i
  subst hj
  by_cases hi:j=id<;>simp[hset,Ak,hi]
  simp only[hset,hj,if_false,Ak,Dw h i b id]
  by_cases hi:j=id
  subst hi;simp[show ¬i=j by omega]
  simp[hi]
theorem Ft:∀(h:Cx) (i:Nat) (id:Nat),Ak (Hx h i) id=if i=id then Option.none else Ak h id
 |[],i,id=>by simp[Hx,Ak]
 |(j,c)::h,i,id=>by
  by_cases hj:j=i
  subst hj
  rw[show Hx ((j,c)::h) j=Hx h j from by simp[Hx],Ft h j id]
  by_cases hi:j=id<;>simp[Ak,hi]
  simp only[Hx,hj,if_false,Ak,Ft h i id]
  by_cases hi:j=id
  subst hi;simp[show ¬i=j by omega]
  simp[hi]
theorem sH (f:Ba) (h:Cx) (id:Nat):Ak (f.ap h) id=f.on id (Ak h id):=by
 cases f with
 |none=>rfl
 |read i=>rfl
 |set i b=>simp[Ba.ap,Ba.on,Dw]
 |new i b=>simp[Ba.ap,Ba.on,Dw]
 |grow i n b=>simp[Ba.ap,Ba.on,Dw,Ft]
 |grow2 i j n b=>simp[Ba.ap,Ba.on,Dw,Ft]
 |newr j n b=>simp[Ba.ap,Ba.on,Dw]
 |drop i=>simp[Ba.ap,Ba.on,Ft]
 |setr ls i b=>simp[Ba.ap,Ba.on,Dw]
theorem Ba.on_untouched {f:Ba} {id:Nat} (h:f.writes id=false) (c:Option Ar):f.on id c=c:=by
 cases f<;>simp_all [Ba.writes,Ba.on]
theorem Ba.touch_writes {f:Ba} {id:Nat} (h:f.writes id=true):f.touch id=true:=by
 cases f<;>simp_all [Ba.writes,Ba.touch]
 rcases h with h|h<;>simp[h]
theorem Ba.news_writes {f:Ba} {id:Nat} (h:f.news id=true):f.writes id=true:=by
 cases f<;>simp_all [Ba.writes,Ba.news]
theorem Ba.touch_ids {f:Ba} {id:Nat} (h:f.touch id=true):id∈f.ids:=by
 cases f<;>simp_all [Ba.touch,Ba.ids]
 all_goals first|omega|(rename_i h9;rcases h with h|h;exact .inl h.symm;exact .inr h)|(rcases h with h|h;exact .inl h.symm;exact .inr h)
structure Cw (P:Program) (B:Nat) (D0:Ap) (o:Oper) (ev:Operand->AV) (pre:Nat->Option Ar) (V:AV) (f:Ba):Prop where
 h:∀(E:Ap) (a:Act) (c:Nat->Option Ar) (K:Act->World->Prop) (Q:Exit->Act->World->Prop),
  True->HR B D0 E c->(∀id,f.touch id=true->c id=pre id)->(∀id,f.news id=true->¬E.A id)->(∀x,x∈o.op.operands->VR E (ev x) (a.eval x))->
  (∀v E',E.le E'->Below B E.w E'.w->VR E' V v->HR B D0 E' (λid=>f.on id (c id))->(∀id,E'.A id->E.A id\/f.news id=true)->K (a.put o.dst v) E'.w)->
  o.wp P a E.w K Q
def Zk (o:Oper):Bool:=match o.op with| .defer _=>false|_=>true
theorem Zl {o:Oper} (h:Zk o=true):∀c,o.op≠.defer c:=λc e=>by rw[Zk,e] at h;cases h
theorem Ug {P:Program} {R:Option Nat} {o:Oper} {a:Act} {w:World} {K:Act->World->Prop} {Q:Exit->Act->World->Prop} (hd:Zk o=true) (h:o.wp P a w K Q):o.wpIn (Ph R) 0 P a w K Q:=by
 refine⟨λ_ _=>trivial,?_⟩
 rw[Oper.semAt_eq _ _ _ (Zl hd)]
 unfold Oper.wp at h
 generalize (execOp a.eval o).run P w=r at h
 cases r with
 |ok x w'=>
  cases x with
  |value v=>exact h
  |skip=>exact h
  |defer d=>exact h
  |enter f args=>exact⟨λhf=>by simp[Ph,Fence.wide] at hf,callsIn_wide.2 h⟩
  |row row args=>exact⟨λhf=>by simp[Ph,Fence.wide] at hf,λc cs _=>let ⟨v,w',r,s⟩:=h c cs;⟨v,w',r,stepsIn_wide.2 s⟩⟩
  |_=>exact h.elim
 |halt x w'=>cases x<;>exact h
variable {P:Program} {R:Option Nat} {B:Nat} {D0:Ap} {s:St} {Q:Exit->St->Prop}
theorem Zr (a:Act) (d:Option Tmp) (v:Value):(a.put d v).tmps.size=a.tmps.size:=by unfold Act.put;split<;>simp
theorem Sh (a:Act) (d:Option Tmp) (v:Value):(a.put d v).defers=a.defers:=by unfold Act.put;split<;>rfl
def Lc (t:Fd):Option Tmp->AV->Fd
 |some d,V=>(d,V)::t
 |none,_=>t
def AL (P:Program) (R:Option Nat) (B:Nat) (D0:Ap) (ops:Array Oper) (l:List Oper) (s:St) (Q:Exit->St->Prop):Prop:=
 ∀(E:Ap) (a:Act) (w0:World),Hv B D0 E s a->Below B w0 E.w->wpListIn (Ph R) 0 P ops (λe a' w'=>∃s' E',E'.w=w'/\Q e s'/\Hv B D0 E' s' a'/\Below B w0 w') l a E.w
theorem Aes {id:Nat} {l:List Oper} (h:AL P R B D0 l.toArray l s Q):AC P R B D0 (.region id l.toArray false) s Q:=⟨λE a hs=>wpIn_region_lit (h E a E.w hs Ψ)⟩
theorem Ahs {ops:Array Oper} (h:Q .normal s):AL P R B D0 ops [] s Q:=λE _ _ hs hb=>wpListIn_nil ⟨s,E,rfl,h,hs,hb⟩
theorem Hv.put {E E':Ap} {a:Act} (hs:Hv B D0 E s a) {f:Ba} {V:AV} {v:Value} {d:Option Tmp} (hle:E.le E') (hv:VR E' V v) (hh:HR B D0 E' (λid=>f.on id (Ak s.h id))) (hA:∀id,E'.A id->E.A id\/f.news id=true) (hlow:f.low s.nx=true) (hdn:∀k,d=some k->k<s.n):
  Hv B D0 E' ⟨Lc s.t d V,f.ap s.h,f.nx s.nx,s.n⟩ (a.put d v):=by
 refine⟨by rw[Zr];exact hs.size,by rw[Sh];exact hs.df.up hle.D hle.blk,λi=>?_,?_,λid h=>?_⟩
 ·
  cases d with
  |none=>exact(hs.t i).up hle
  |some d=>
   show VR E' (Bl ((d,V)::s.t) i) _
   rw[Gr]
   by_cases hd:d<s.n
   ·
    rw[Zq _ d i _ (by rw[hs.size];exact hd)]
    by_cases e:d=i
    · rw[if_pos e,if_pos e];exact hv
    · rw[if_neg e,if_neg e];exact(hs.t i).up hle
   · exact absurd (hdn d rfl) hd
 ·
  have:(λid=>Ak (f.ap s.h) id)=λid=>f.on id (Ak s.h id):=funext λid=>sH f s.h id
  show HR B D0 E' (λid=>Ak (f.ap s.h) id)
  rw[this];exact hh
 ·
  rcases hA id h with h|h
  ·
   have:=hs.A id h
   cases f<;>simp[Ba.nx]<;>omega
  ·
   cases f<;>simp[Ba.news] at h
   all_goals subst h;simp[Ba.nx];omega
def Ly (o:Oper) (n:Nat):Bool:=Zk o&&match o.dst with|some d=>Nat.blt d n|none=>true
theorem Wq {o:Oper} {n:Nat} (h:Ly o n=true):Zk o=true:=(Bool.and_eq_true_iff.1 h).1
theorem Qy {o:Oper} {n:Nat} (h:Ly o n=true):∀k,o.dst=some k->k<n:=λk hk=>by
 have h:=(Bool.and_eq_true_iff.1 h).2
 rw[hk] at h
 simpa [Nat.blt_eq] using h
theorem Ajk {ops:Array Oper} {o:Oper} {rest:List Oper} (V:AV) (f:Ba) (hg:o.guard=none) (hlow:f.low s.nx=true) (hdn:Ly o s.n=true) (h:Cw P B D0 o s.ev (Ak s.h) V f) (hk:AL P R B D0 ops rest ⟨Lc s.t o.dst V,f.ap s.h,f.nx s.nx,s.n⟩ Q):AL P R B D0 ops (o::rest) s Q:=by
 intro E a w0 hs hb
 refine wpListIn_plain hg λK hK=>Ug (Wq hdn) ?_
 refine h.h E a (Ak s.h) K _ trivial hs.h (λ_ _=>rfl) (λid hn hA=>?_) (λx _=>hs.ev x) λv E' hle hbl hv hh hA=>?_
 ·
  have:=hs.A id hA
  cases f<;>simp[Ba.news,Ba.low] at hn hlow
  all_goals omega
 · exact hK _ _ (hk E' _ w0 (hs.put hle hv hh hA hlow (Qy hdn)) (hb.trans hbl))
theorem Pf {ops:Array Oper} {E:Ap} {a:Act} (hs:Hv B D0 E s a) {j d:Nat} {b:Bool} (hj:(ops[j]?).bind (·.dst)=some d) (hv:Bl s.t d= .bool b):yielded ops a.tmps j=some b:=by
 have h1:=hs.t d
 rw[hv] at h1
 have h2:a.tmps.getD d undef= .bool b:=h1.lit_inv
 have hdz:d<a.tmps.size:=by
  rcases Nat.lt_or_ge d a.tmps.size with h|h
  exact h
  rw[Array.getD,dif_neg ω] at h2;cases h2
 have h3:a.tmps[d]?=some (.bool b):=by
  rw[Array.getElem?_eq_getElem hdz]
  rw[Array.getD,dif_pos hdz] at h2
  exact congrArg some h2
 simp[yielded,hj,h3]
theorem qR {ops:Array Oper} {E:Ap} {a:Act} (hs:Hv B D0 E s a) {j d:Nat} (hj:(ops[j]?).bind (·.dst)=some d) (hv:Bl s.t d= .undef):yielded ops a.tmps j=none:=by
 have h1:=hs.t d
 rw[hv] at h1
 have h2:a.tmps.getD d undef=undef:=h1.lit_inv
 cases h3:a.tmps[d]? with
 |none=>simp[yielded,hj,h3]
 |some x=>
  have:x=undef:=by
   have h4:a.tmps.getD d undef=x:=by simp[h3]
   rw[<-h4];exact h2
  subst this
  simp[yielded,hj,h3,undef]
theorem Aa8 {ops:Array Oper} {o:Oper} {rest:List Oper} (V:AV) (f:Ba) {j d:Nat} {b:Bool} (hg:o.guard=some (j,b)) (hj:(ops[j]?).bind (·.dst)=some d) (hv:Bl s.t d= .bool b) (hlow:f.low s.nx=true) (hdn:Ly o s.n=true) (h:Cw P B D0 o s.ev (Ak s.h) V f)
  (hk:AL P R B D0 ops rest ⟨Lc s.t o.dst V,f.ap s.h,f.nx s.nx,s.n⟩ Q):AL P R B D0 ops (o::rest) s Q:=by
 intro E a w0 hs hb
 have hw:Region.wanted o (yielded ops a.tmps)=true:=by simp[Region.wanted,hg,Pf hs hj hv]
 unfold wpListIn
 rw[if_pos hw]
 refine Ug (Wq hdn) (h.h E a (Ak s.h) _ _ trivial hs.h (λ_ _=>rfl) (λid hn hA=>?_) (λx _=>hs.ev x) λv E' hle hbl hv hh hA=>?_)
 ·
  have:=hs.A id hA
  cases f<;>simp[Ba.news,Ba.low] at hn hlow
  all_goals omega
 · exact hk E' _ w0 (hs.put hle hv hh hA hlow (Qy hdn)) (hb.trans hbl)
theorem Hv.put0 {E:Ap} {a:Act} (hs:Hv B D0 E s a) {V:AV} {v:Value} {d:Option Tmp} (hv:VR E V v) (hdn:∀k,d=some k->k<s.n):Hv B D0 E ⟨Lc s.t d V,s.h,s.nx,s.n⟩ (a.put d v):=
 Hv.put (f:= .none) hs (Ap.le.refl E) hv hs.h (λ_ h=> .inl h) rfl hdn
theorem AeL {ops:Array Oper} {o:Oper} {rest:List Oper} {j d:Nat} {b b':Bool} (hg:o.guard=some (j,b)) (hj:(ops[j]?).bind (·.dst)=some d) (hv:Bl s.t d= .bool b') (hb:b'= !b) (hdn:Ly o s.n=true) (hk:AL P R B D0 ops rest ⟨Lc s.t o.dst .undef,s.h,s.nx,s.n⟩ Q):AL P R B D0 ops (o::rest) s Q:=by
 intro E a w0 hs hbl
 have hw:¬Region.wanted o (yielded ops a.tmps)=true:=by subst hb;cases b<;>simp[Region.wanted,hg,Pf hs hj hv]
 unfold wpListIn
 rw[if_neg hw]
 exact⟨λ_ _=>trivial,hk E _ w0 (hs.put0 (.lit _ _) (Qy hdn)) hbl⟩
theorem Aa9 {ops:Array Oper} {o:Oper} {rest:List Oper} {j d:Nat} {b:Bool} (hg:o.guard=some (j,b)) (hj:(ops[j]?).bind (·.dst)=some d) (hv:Bl s.t d= .undef) (hdn:Ly o s.n=true) (hk:AL P R B D0 ops rest ⟨Lc s.t o.dst .undef,s.h,s.nx,s.n⟩ Q):AL P R B D0 ops (o::rest) s Q:=by
 intro E a w0 hs hbl
 have hw:¬Region.wanted o (yielded ops a.tmps)=true:=by simp[Region.wanted,hg,qR hs hj hv]
 unfold wpListIn
 rw[if_neg hw]
 exact⟨λ_ _=>trivial,hk E _ w0 (hs.put0 (.lit _ _) (Qy hdn)) hbl⟩
def tcB (ops:Array Oper):Nat->Nat->Nat->Bool
 |0,_,_=>false
 |k+1,j,i=>Region.waitsFor .any ops j i||(List.range j).any λm=>Region.waitsFor .any ops j m&&tcB ops k m i
theorem Lu {ops:Array Oper} {L:Nat->Prop} (hcl:∀j k,L j->Region.waitsFor .any ops j k=true->L k):∀(n j i:Nat),tcB ops n j i=true->L j->L i
 |0,_,_,h,_=>by simp[tcB] at h
 |n+1,j,i,h,hj=>by
  simp only[tcB,Bool.or_eq_true,List.any_eq_true,Bool.and_eq_true] at h
  rcases h with h|⟨m,_,h1,h2⟩
  exact hcl j i hj h
  exact Lu hcl n m i h2 (hcl j m hj h1)
theorem yQ {ops:Array Oper} {L:Nat->Prop} (hcl:∀j k,L j->Region.waitsFor .any ops j k=true->L k) {j:Nat} (hw:∀k,Region.waitsFor .any ops j k=true->L k):∀(n i:Nat),tcB ops n j i=true->L i
 |0,_,h=>by simp[tcB] at h
 |n+1,i,h=>by
  simp only[tcB,Bool.or_eq_true,List.any_eq_true,Bool.and_eq_true] at h
  rcases h with h|⟨m,_,h1,h2⟩
  exact hw i h
  exact Lu hcl n m i h2 (hw m h1)
def Ba.clash (f g:Ba):Bool:=f.ids.any λid=>(f.touch id&&g.writes id)||(f.writes id&&g.touch id)
theorem Pt {f g:Ba} {id:Nat} (h:(f.touch id=true/\g.writes id=true)\/(f.writes id=true/\g.touch id=true)):f.clash g=true:=by
 unfold Ba.clash
 rw[List.any_eq_true]
 rcases h with⟨h1,h2⟩|⟨h1,h2⟩
 exact⟨id,Ba.touch_ids h1,by simp[h1,h2]⟩
 exact⟨id,Ba.touch_ids (Ba.touch_writes h1),by simp[h1,h2]⟩
def gK (n:Nat) (p:Nat->Bool):Bool:=(List.range n).all p
theorem To {n:Nat} {p:Nat->Bool} (h:gK n p=true) {i:Nat} (hi:i<n):p i=true:=List.all_eq_true.1 h i (List.mem_range.2 hi)
def drB (ops:Array Oper) (Fs:List Ba) (nx N:Nat):Bool:=
 gK ops.size λi=>match ops[i]? with
  |none=>false
  |some o=>
   ((o.after.all λe=> !Region.binds .any e||decide (e.on<i))&&Zk o)&&
   (match o.dst with|some d=>Ej ops ops.size d==some i&&decide (d<N)|none=>true)&&
   (o.op.operands.all λx=>match x with| .tmp t=>(match Ej ops ops.size t with|some j=>if j<i then Region.waitsFor .any ops i j else decide (j=i)||tcB ops ops.size j i|none=>true)|_=>true)&&
   (match o.guard with|none=>true|some (j,_)=>decide (j<i)&&Region.waitsFor .any ops i j&&(match ops[j]? with|some oj=>(match oj.dst with|some d=>Ej ops ops.size d==some j|none=>false)|none=>false))&&
   (Fs.getD i .none).low nx&&
   gK i λj=> !(Fs.getD j .none).clash (Fs.getD i .none)||(tcB ops ops.size i j&&(Fs.getD i .none).ids.all λid=> !((Fs.getD i .none).news id&&(Fs.getD j .none).touch id))
structure DrS (ops:Array Oper) (Fs:List Ba) (nx N:Nat):Prop where
 low:∀i o,ops[i]?=some o->∀e∈o.after,Region.binds .any e=true->e.on<i
 nd:∀(i:Nat) (o:Oper),ops[i]?=some o->Zk o=true
 dst:∀i o d,ops[i]?=some o->o.dst=some d->Ej ops ops.size d=some i/\d<N
 opd:∀i o t j,ops[i]?=some o->Operand.tmp t∈o.op.operands->Ej ops ops.size t=some j->(j<i/\Region.waitsFor .any ops i j=true)\/(¬j<i/\(j=i\/tcB ops ops.size j i=true))
 grd:∀i o j b,ops[i]?=some o->o.guard=some (j,b)->j<i/\Region.waitsFor .any ops i j=true/\∃oj d,ops[j]?=some oj/\oj.dst=some d/\Ej ops ops.size d=some j
 nlow:∀i,i<ops.size->(Fs.getD i .none).low nx=true
 cla:∀i j,j<i->i<ops.size->(Fs.getD j .none).clash (Fs.getD i .none)=true->tcB ops ops.size i j=true/\∀id,(Fs.getD i .none).news id=true->(Fs.getD j .none).touch id=false
theorem drS {ops:Array Oper} {Fs:List Ba} {nx N:Nat} (h:drB ops Fs nx N=true):DrS ops Fs nx N:=by
 have hh:∀i o,ops[i]?=some o->_:=λi o ho=>by
  have:=To h (Ξ ho).1
  simp only[ho,Bool.and_eq_true] at this
  exact this
 refine⟨λi o ho e he hb=>?_,λi o ho=>?_,λi o d ho hd=>?_,λi o t j ho ht hs=>?_,λi o j b ho hg=>?_,λi hi=>?_,λi j hj hi hc=>?_⟩
 obtain⟨⟨⟨⟨⟨h1,_⟩,_⟩,_⟩,_⟩,_⟩:=hh i o ho
 have:=Array.all_eq_true_iff_forall_mem.1 h1.1 e he
 simpa [hb] using this
 obtain⟨⟨⟨⟨⟨h1,_⟩,_⟩,_⟩,_⟩,_⟩:=hh i o ho
 exact h1.2
 obtain⟨⟨⟨⟨⟨_,h1⟩,_⟩,_⟩,_⟩,_⟩:=hh i o ho
 simpa [hd] using h1
 obtain⟨⟨⟨⟨⟨_,_⟩,h1⟩,_⟩,_⟩,_⟩:=hh i o ho
 have:=Array.all_eq_true_iff_forall_mem.1 h1 _ ht
 simp only[hs] at this
 by_cases hji:j<i
 rw[if_pos hji] at this;exact .inl ⟨hji,this⟩
 rw[if_neg hji] at this;exact .inr ⟨hji,by simpa using this⟩
 obtain⟨⟨⟨⟨⟨_,_⟩,_⟩,h1⟩,_⟩,_⟩:=hh i o ho
 rw[hg] at h1
 simp only[Bool.and_eq_true,decide_eq_true_eq] at h1
 obtain⟨⟨b1,b2⟩,b3⟩:=h1
 refine⟨b1,b2,?_⟩
 cases hoj:ops[j]? with
 |none=>rw[hoj] at b3;cases b3
 |some oj=>
  rw[hoj] at b3
  cases hd:oj.dst with
  |none=>simp only[hd] at b3;cases b3
  |some d=>simp only[hd] at b3;exact⟨oj,d,rfl,hd,by simpa using b3⟩
 obtain⟨o,ho⟩:∃o,ops[i]?=some o:=⟨ops[i],by simp[hi]⟩
 obtain⟨⟨_,h1⟩,_⟩:=hh i o ho
 exact h1
 obtain⟨o,ho⟩:∃o,ops[i]?=some o:=⟨ops[i],by simp[hi]⟩
 obtain⟨_,h1⟩:=hh i o ho
 have:=To h1 hj
 rw[hc] at this
 simp only[Bool.not_true,Bool.false_or,Bool.and_eq_true] at this
 refine⟨this.1,λid hn=>?_⟩
 have h2:=List.all_eq_true.1 this.2 id (Ba.touch_ids (Ba.touch_writes (Ba.news_writes hn)))
 rw[hn] at h2
 simpa using h2
def cont (Fs:List Ba) (h:Cx) (L:Nat->Bool) (n:Nat) (id:Nat):Option Ar:=(List.range n).foldl (λc i=>if L i then (Fs.getD i .none).on id c else c) (Ak h id)
theorem Jp (Fs:List Ba) (h:Cx) (L:Nat->Bool) (n id:Nat):cont Fs h L (n+1) id=if L n then (Fs.getD n .none).on id (cont Fs h L n id) else cont Fs h L n id:=by
 unfold cont
 rw[List.range_succ,List.foldl_append]
 rfl
theorem Oo {Fs:List Ba} {h:Cx} {L L':Nat->Bool} {id:Nat}:∀n,(∀i,i<n->(Fs.getD i .none).writes id=true->L i=L' i)->cont Fs h L n id=cont Fs h L' n id
 |0,_=>rfl
 |n+1,hn=>by
  rw[Jp,Jp,Oo n (λi hi hw=>hn i ω hw)]
  by_cases hw:(Fs.getD n .none).writes id=true
  rw[hn n ω hw]
  have hw':(Fs.getD n .none).writes id=false:=by simpa using hw
  rw[Ba.on_untouched hw']
  simp
def Gx (Fs:List Ba) (h:Cx) (k:Nat):Cx:=(List.range k).foldl (λh i=>(Fs.getD i .none).ap h) h
theorem Sa (Fs:List Ba) (h:Cx) (k:Nat):Gx Fs h (k+1)=(Fs.getD k .none).ap (Gx Fs h k):=by unfold Gx;rw[List.range_succ,List.foldl_append];rfl
theorem Sb (Fs:List Ba) (h:Cx) (id:Nat):∀k,Ak (Gx Fs h k) id=cont Fs h (λ_=>true) k id
 |0=>rfl
 |k+1=>by rw[Sa,sH,Jp,Sb Fs h id k];rfl
theorem Yi {Fs:List Ba} {h:Cx} {i id:Nat}:∀n,i<=n->cont Fs h (λj=>decide (j<i)) n id=cont Fs h (λ_=>true) i id
 |0,hi=>by
  obtain rfl:i=0:=by omega
  rfl
 |n+1,hi=>by
  by_cases he:i=n+1
  subst he
  exact Oo (n+1) λj hj _=>by simp[hj]
  rw[Jp,Yi n ω]
  simp[show ¬n<i by omega]
theorem Abv {ops:Array Oper} {Fs:List Ba} {nx N:Nat} (hS:DrS ops Fs nx N) {L:Nat->Bool} (hcl:∀j k,L j=true->Region.waitsFor .any ops j k=true->L k=true) {i:Nat} (hi:i<ops.size) (hw:∀k,Region.waitsFor .any ops i k=true->L k=true) (hL:L i=false) {h:Cx} {id:Nat}
  (ht:(Fs.getD i .none).touch id=true):cont Fs h L ops.size id=Ak (Gx Fs h i) id:=by
 rw[Sb,<-Yi (n:=ops.size) ω]
 refine Oo _ λj hj hwj=>?_
 by_cases hji:j<i
 have:=(hS.cla i j hji hi (Pt (id:=id) (.inr ⟨hwj,ht⟩))).1
 rw[yQ (L:=λk=>L k=true) hcl hw _ _ this]
 simp[hji]
 by_cases e:j=i
 subst e;rw[hL];simp
 have:=(hS.cla j i ω hj (Pt (id:=id) (.inl ⟨ht,hwj⟩))).1
 have h2:L j=false:=by
  cases hLj:L j with
  |false=>rfl
  |true=>rw[Lu (L:=λk=>L k=true) hcl _ _ _ this hLj] at hL;cases hL
 rw[h2];simp[hji]
theorem cY {ops:Array Oper} {Fs:List Ba} {nx N:Nat} (hS:DrS ops Fs nx N) {L:Nat->Bool} (hcl:∀j k,L j=true->Region.waitsFor .any ops j k=true->L k=true) {i:Nat} (hi:i<ops.size) (hL:L i=false) {h:Cx} (id:Nat):
  ∀n,n<=ops.size->cont Fs h (λj=>if j=i then true else L j) n id=if i<n then (Fs.getD i .none).on id (cont Fs h L n id) else cont Fs h L n id
 |0,_=>rfl
 |n+1,hn=>by
  rw[Jp,Jp,cY hS hcl hi hL id n ω]
  by_cases e:n=i
  subst e
  simp[hL]
  rw[if_neg e]
  by_cases hin:i<n
  rw[if_pos hin,if_pos (show i<n+1 by omega)]
  cases hLn:L n with
  |false=>simp
  |true=>
   simp only[if_true]
   by_cases hwn:(Fs.getD n .none).writes id=true
   by_cases hwi:(Fs.getD i .none).writes id=true
   have:=(hS.cla n i hin ω (Pt (id:=id) (.inr ⟨hwi,Ba.touch_writes hwn⟩))).1
   rw[Lu (L:=λk=>L k=true) hcl _ _ _ this hLn] at hL
   cases hL
   rw[Ba.on_untouched (f:=Fs.getD i .none) (by simpa using hwi),Ba.on_untouched (f:=Fs.getD i .none) (by simpa using hwi)]
   rw[Ba.on_untouched (f:=Fs.getD n .none) (by simpa using hwn),Ba.on_untouched (f:=Fs.getD n .none) (by simpa using hwn)]
  rw[if_neg hin,if_neg (show ¬i<n+1 by omega)]
def avT (ops:Array Oper) (V:List AV) (s:St) (L:Nat->Bool) (t:Nat):AV:=match Ej ops ops.size t with|some j=>if L j then V.getD j .top else Bl s.t t|none=>Bl s.t t
def mU (ops:Array Oper) (V:List AV) (s:St) (i:Nat):Operand->AV
 | .tmp t=>match Ej ops ops.size t with|some j=>if Nat.blt j i then V.getD j .top else Bl s.t t|none=>Bl s.t t
 |x=>s.ev x
structure Dr (B:Nat) (D0:Ap) (ops:Array Oper) (V:List AV) (Fs:List Ba) (s:St) (w0:World) (listed:Array Bool) (E:Ap) (a:Act):Prop where
 df:Nk B D0 E a.defers
 z:a.tmps.size=s.n
 t:∀t,VR E (avT ops V s (λj=>listed.getD j false) t) (a.tmps.getD t undef)
 cl:∀j k,listed.getD j false=true->Region.waitsFor .any ops j k=true->listed.getD k false=true
 h:HR B D0 E (cont Fs s.h (λj=>listed.getD j false) ops.size)
 A:∀id,E.A id->id<s.nx\/∃j,listed.getD j false=true/\(Fs.getD j .none).news id=true
 b:Below B w0 E.w
def yY (P:Program) (B:Nat) (D0:Ap) (ops:Array Oper) (V:List AV) (Fs:List Ba) (s:St) (i:Nat) (o:Oper):Prop:=
 match o.guard with
 |none=>Cw P B D0 o (mU ops V s i) (Ak (Gx Fs s.h i)) (V.getD i .top) (Fs.getD i .none)
 |some (j,want)=>(V.getD j .top= .bool want/\Cw P B D0 o (mU ops V s i) (Ak (Gx Fs s.h i)) (V.getD i .top) (Fs.getD i .none))\/((V.getD j .top= .bool (!want)\/V.getD j .top= .undef)/\V.getD i .top= .undef/\Fs.getD i .none= .none)
theorem xG {ops:Array Oper} {V:List AV} {Fs:List Ba} {i:Nat} {o:Oper} (hg:o.guard=none) (h:Cw P B D0 o (mU ops V s i) (Ak (Gx Fs s.h i)) (V.getD i .top) (Fs.getD i .none)):yY P B D0 ops V Fs s i o:=by unfold yY;rw[hg];exact h
theorem tG {ops:Array Oper} {V:List AV} {Fs:List Ba} {i j:Nat} {b:Bool} {o:Oper} (hg:o.guard=some (j,b)) (hj:V.getD j .top= .bool b) (h:Cw P B D0 o (mU ops V s i) (Ak (Gx Fs s.h i)) (V.getD i .top) (Fs.getD i .none)):yY P B D0 ops V Fs s i o:=by unfold yY;rw[hg];exact .inl ⟨hj,h⟩
theorem AcY {ops:Array Oper} {V:List AV} {Fs:List Ba} {i j:Nat} {b:Bool} {o:Oper} (hg:o.guard=some (j,b)) (hj:V.getD j .top= .bool (!b)) (hi:V.getD i .top= .undef) (hf:Fs.getD i .none= .none):yY P B D0 ops V Fs s i o:=by unfold yY;rw[hg];exact .inr ⟨.inl hj,hi,hf⟩
theorem xH {ops:Array Oper} {V:List AV} {Fs:List Ba} {i j:Nat} {b:Bool} {o:Oper} (hg:o.guard=some (j,b)) (hj:V.getD j .top= .undef) (hi:V.getD i .top= .undef) (hf:Fs.getD i .none= .none):yY P B D0 ops V Fs s i o:=by unfold yY;rw[hg];exact .inr ⟨.inr hj,hi,hf⟩
section
variable {ops:Array Oper} {V:List AV} {Fs:List Ba} {w0:World} {listed:Array Bool} {E:Ap} {a:Act}
theorem pC {i:Nat} (hi:i<listed.size):(λj=>(listed.setIfInBounds i true).getD j false)=λj=>if j=i then true else listed.getD j false:=funext λj=>by
 by_cases h:j=i
 subst h;simp[hi]
 rw[getD_set_ne false (Ne.symm h),if_neg h]
theorem Dr.put (hS:DrS ops Fs s.nx s.n) (hsz:listed.size=ops.size) (h:Dr B D0 ops V Fs s w0 listed E a) {i:Nat} {o:Oper} (ho:ops[i]?=some o) (hw:∀k,Region.waitsFor .any ops i k=true->listed.getD k false=true) (hun:listed.getD i false=false) {E':Ap} {v:Value}
  (hle:E.le E') (hb:Below B E.w E'.w) (hv:VR E' (V.getD i .top) v) (hh:HR B D0 E' (λid=>(Fs.getD i .none).on id (cont Fs s.h (λj=>listed.getD j false) ops.size id))) (hA:∀id,E'.A id->E.A id\/(Fs.getD i .none).news id=true):
  Dr B D0 ops V Fs s w0 (listed.setIfInBounds i true) E' (a.put o.dst v):=by
 have hi:i<ops.size:=(Ξ ho).1
 have hset:=pC (listed:=listed) (i:=i) ω
 have Ak:∀j,(listed.setIfInBounds i true).getD j false=if j=i then true else listed.getD j false:=λj=>congrFun hset j
 refine⟨by rw[Sh];exact h.df.up hle.D hle.blk,by rw[Zr];exact h.z,λt=>?_,λj k hj hk=>?_,?_,λid hid=>?_,h.b.trans hb⟩
 rw[hset]
 have ht:=(h.t t).up hle
 have other:(∀j,Ej ops ops.size t=some j->j≠i)->avT ops V s (λj=>if j=i then true else listed.getD j false) t=avT ops V s (λj=>listed.getD j false) t:=λhne=>by
  unfold avT
  cases hs:Ej ops ops.size t with
  |none=>rfl
  |some j=>simp only[if_neg (hne j hs)]
 cases hd:o.dst with
 |none=>
  rw[other λj hs e=>?_]
  exact ht
  subst e
  obtain⟨_,o',ho',hd'⟩:=Gj hs
  rw[ho] at ho';cases ho';rw[hd] at hd';cases hd'
 |some d=>
  obtain⟨hsd,hdN⟩:=hS.dst i o d ho hd
  rw[Zq _ d t _ (by rw[h.z];exact hdN)]
  by_cases e:d=t
  subst e
  rw[if_pos rfl]
  unfold avT
  rw[hsd]
  simpa using hv
  rw[if_neg e,other λj hs e2=>?_]
  exact ht
  subst e2
  obtain⟨_,o',ho',hd'⟩:=Gj hs
  rw[ho] at ho';cases ho';rw[hd] at hd';cases hd';exact e rfl
 rw[Ak] at hj ⊢
 by_cases e:j=i
 subst e
 rw[hw k hk];simp
 rw[if_neg e] at hj
 rw[h.cl j k hj hk];simp
 rw[hset]
 have:cont Fs s.h (λj=>if j=i then true else listed.getD j false) ops.size=λid=>(Fs.getD i .none).on id (cont Fs s.h (λj=>listed.getD j false) ops.size id):=funext λid=>by
  rw[cY hS h.cl hi hun id ops.size ζ,if_pos hi]
 rw[this];exact hh
 rcases hA id hid with h1|h1
 rcases h.A id h1 with h2|⟨j,h2,h3⟩
 exact .inl h2
 exact .inr ⟨j,by rw[Ak,h2];simp,h3⟩
 exact .inr ⟨i,by rw[Ak,if_pos rfl],h1⟩
theorem Dr.ev (hS:DrS ops Fs s.nx s.n) (h:Dr B D0 ops V Fs s w0 listed E a) {i:Nat} {o:Oper} (ho:ops[i]?=some o) (hw:∀k,Region.waitsFor .any ops i k=true->listed.getD k false=true) (hun:listed.getD i false=false) (x:Operand) (hx:x∈o.op.operands):VR E (mU ops V s i x) (a.eval x):=by
 cases x with
 |tmp t=>
  have ht:=h.t t
  show VR E (mU ops V s i (.tmp t)) (a.tmps.getD t undef)
  unfold mU
  unfold avT at ht
  cases hs:Ej ops ops.size t with
  |none=>simp only[hs] at ht ⊢;exact ht
  |some j=>
   simp only[hs] at ht ⊢
   rcases hS.opd i o t j ho hx hs with⟨h1,h2⟩|⟨h1,h2⟩
   have h4:Nat.blt j i=true:=by simpa [Nat.blt_eq] using h1
   have h5:=hw j h2
   simp only[h4,h5,if_true] at ht ⊢
   exact ht
   have h4:Nat.blt j i=false:=by
    cases hb:Nat.blt j i with
    |false=>rfl
    |true=>exact absurd (by simpa [Nat.blt_eq] using hb) h1
   have h3:listed.getD j false=false:=by
    rcases h2 with h2|h2
    rw[h2];exact hun
    cases hj:listed.getD j false with
    |false=>rfl
    |true=>rw[Lu (L:=λk=>listed.getD k false=true) h.cl _ _ _ h2 hj] at hun;cases hun
   simp only[h3,h4,Bool.false_eq_true,if_false] at ht ⊢
   exact ht
 |const v=>exact .lit _ _
 |global g=>exact .lit _ _
 |func f=>exact .fn _ _ _ _ rfl λi hi=>absurd hi (Nat.not_lt_zero i)
theorem Dr.step (hS:DrS ops Fs s.nx s.n) (hsz:listed.size=ops.size) (h:Dr B D0 ops V Fs s w0 listed E a) {i:Nat} (hi:i∈Region.ready .any ops listed) {o:Oper} (ho:ops[i]?=some o) (hop:yY P B D0 ops V Fs s i o) {Q:Exit->Act->World->Prop}:
  wpOpIn (Ph R) 0 P ops Q i (λa' w'=>(listed.setIfInBounds i true).size=ops.size/\∃E',E'.w=w'/\Dr B D0 ops V Fs s w0 (listed.setIfInBounds i true) E' a') a E.w:=by
 obtain⟨hun',oj0,hoj0,hall⟩:=mem_ready.1 hi
 obtain rfl:o=oj0:=Option.some.inj (ho.symm.trans hoj0)
 have hun:=getD_both hun'
 have hio:i<ops.size:=(Ξ ho).1
 have hw:∀k,Region.waitsFor .any ops i k=true->listed.getD k false=true:=λk hk=>by
  obtain⟨ok,hok,e,he,hb,hon⟩:=Region.waitsFor_spec hk
  have:ok=o:=Option.some.inj (hok.symm.trans ho)
  rw[<-hon];exact hall e (by rw[<-this];exact he) hb
 have run:Cw P B D0 o (mU ops V s i) (Ak (Gx Fs s.h i)) (V.getD i .top) (Fs.getD i .none)->o.wpIn (Ph R) 0 P a E.w (λa' w'=>(listed.setIfInBounds i true).size=ops.size/\∃E',E'.w=w'/\Dr B D0 ops V Fs s w0 (listed.setIfInBounds i true) E' a') Q:=λhok=>by
  refine Ug (hS.nd i o ho) ?_
  refine hok.h E a _ _ Q trivial h.h (λid ht=>Abv hS h.cl hio hw hun ht) (λid hn hA=>?_) (h.ev hS ho hw hun) λv E' hle hb hv hh hA=>⟨by simp[hsz],E',rfl,h.put hS hsz ho hw hun hle hb hv hh hA⟩
  rcases h.A id hA with h1|⟨j,h1,h2⟩
  have:=hS.nlow i hio
  revert hn this
  cases Fs.getD i .none<;>simp[Ba.news,Ba.low]<;>omega
  have hne:j≠i:=λe=>by rw[e,hun] at h1;cases h1
  have hjs:j<ops.size:=by
   rcases Nat.lt_or_ge j listed.size with h3|h3
   omega
   rw[Array.getD,dif_neg ω] at h1;cases h1
  rcases Nat.lt_or_ge j i with hji|hji
  have:=(hS.cla i j hji hio (Pt (id:=id) (.inr ⟨Ba.news_writes h2,Ba.touch_writes (Ba.news_writes hn)⟩))).2 id hn
  rw[Ba.touch_writes (Ba.news_writes h2)] at this
  cases this
  have:=(hS.cla j i ω hjs (Pt (id:=id) (.inr ⟨Ba.news_writes hn,Ba.touch_writes (Ba.news_writes h2)⟩))).2 id h2
  rw[Ba.touch_writes (Ba.news_writes hn)] at this
  cases this
 have skip:V.getD i .top= .undef->Fs.getD i .none= .none->Dr B D0 ops V Fs s w0 (listed.setIfInBounds i true) E (a.put o.dst undef):=λhV hF=>by
  refine h.put hS hsz ho hw hun (Ap.le.refl E) Ψ (by rw[hV];exact .lit _ _) ?_ (λ_ h=> .inl h)
  rw[hF];exact h.h
 unfold yY at hop
 unfold wpOpIn
 simp only[ho]
 cases hgd:o.guard with
 |none=>
  rw[hgd] at hop
  have hwt:Region.wanted o (yielded ops a.tmps)=true:=by simp[Region.wanted,hgd]
  simp only[hwt,if_true]
  exact run hop
 |some jw=>
  obtain⟨j,want⟩:=jw
  rw[hgd] at hop
  obtain⟨hji,hwt,oj,d,hoj,hdj,hsd⟩:=hS.grd i o j want ho hgd
  have hl:=hw j hwt
  have ht:=h.t d
  unfold avT at ht
  rw[hsd] at ht
  simp only[hl,if_true] at ht
  have hb:(ops[j]?).bind (·.dst)=some d:=by rw[hoj];exact hdj
  have yb:∀b,V.getD j .top= .bool b->yielded ops a.tmps j=some b:=λb hV=>by
   rw[hV] at ht
   have h2:a.tmps.getD d undef= .bool b:=ht.lit_inv
   have hdz:d<a.tmps.size:=by
    rcases Nat.lt_or_ge d a.tmps.size with h|h
    exact h
    rw[Array.getD,dif_neg ω] at h2;cases h2
   have h3:a.tmps[d]?=some (.bool b):=by
    rw[Array.getElem?_eq_getElem hdz]
    rw[Array.getD,dif_pos hdz] at h2
    exact congrArg some h2
   simp[yielded,hb,h3]
  rcases hop with⟨hV,hop⟩|⟨hV,hop⟩
  have hwn:Region.wanted o (yielded ops a.tmps)=true:=by simp[Region.wanted,hgd,yb want hV]
  simp only[hwn,if_true]
  exact run hop
  have hwn:Region.wanted o (yielded ops a.tmps)=false:=by
   rcases hV with hV|hV
   cases want<;>simp[Region.wanted,hgd,yb _ hV]
   rw[hV] at ht
   have h2:a.tmps.getD d undef=undef:=ht.lit_inv
   have hy:yielded ops a.tmps j=none:=by
    cases h3:a.tmps[d]? with
    |none=>simp[yielded,hb,h3]
    |some x=>
     have:x=undef:=by
      have h4:a.tmps.getD d undef=x:=by simp[h3]
      rw[<-h4];exact h2
     subst this
     simp[yielded,hb,h3,undef]
   simp[Region.wanted,hgd,hy]
  simp only[hwn,Bool.false_eq_true,if_false]
  exact⟨λ_ _=>trivial,by simp[hsz],E,rfl,skip hop.1 hop.2⟩
end
def AeN (P:Program) (B:Nat) (D0:Ap) (ops:Array Oper) (V:List AV) (Fs:List Ba) (s:St):Nat->List Oper->Prop
 |_,[]=>True
 |i,o::l=>yY P B D0 ops V Fs s i o/\AeN P B D0 ops V Fs s (i+1) l
theorem tH {ops:Array Oper} {V:List AV} {Fs:List Ba}:∀(i:Nat) (l:List Oper),AeN P B D0 ops V Fs s i l->∀j o,l[j]?=some o->yY P B D0 ops V Fs s (i+j) o
 |i,[],_,j,o,h=>by simp at h
 |i,o'::l,h,0,o,hl=>by
  have:o'=o:=by simpa using hl
  rw[<-this]
  exact h.1
 |i,o'::l,h,j+1,o,hl=>by
  have:=tH (i+1) l h.2 j o (by simpa using hl)
  rwa [show i+1+j=i+(j+1) by omega] at this
def xQ (ops:Array Oper) (V:List AV) (s:St) (keep:List Nat):Fd:=keep.map λt=>(t,match Ej ops ops.size t with|some j=>V.getD j .top|none=>Bl s.t t)
theorem aJ (g:Nat->AV):∀(ks:List Nat) (t:Nat),Bl (ks.map λk=>(k,g k)) t=g t\/Bl (ks.map λk=>(k,g k)) t= .top
 |[],t=> .inr rfl
 |k::ks,t=>by
  rw[List.map_cons,Gr]
  by_cases h:k=t
  subst h;rw[if_pos rfl];exact .inl rfl
  rw[if_neg h];exact aJ g ks t
def nxB (Fs:List Ba) (nx nx':Nat):Bool:=Nat.ble nx nx'&&Fs.all λf=>Nat.ble (f.nx nx) nx'
theorem jO {ops:Array Oper} {Q:Exit->Act->World->Prop} {F:Fence} {n:Nat} (I:Array Bool->Act->World->Prop) (hsz:∀listed a w,I listed a w->listed.size=ops.size) (hlow:∀(i:Nat) (o:Oper),ops[i]?=some o->∀e∈o.after,Region.binds .any e=true->e.on<i)
  (hstep:∀(listed:Array Bool) (a:Act) (w:World) (i:Nat) (o:Oper),I listed a w->i∈Region.ready .any ops listed->ops[i]?=some o->wpOpIn F n P ops Q i (λa' w'=>I (listed.setIfInBounds i true) a' w') a w)
  (hend:∀listed a w,I listed a w->(∀i,i<ops.size->listed.getD i false=true)->Q .normal a w):
  ∀(c:Nat) (listed:Array Bool) (a:Act) (w:World),left ops.size listed=c->I listed a w->wpAnyIn F n P .any ops Q c listed a w
 |0,listed,a,w,hl,h=>by
  have hall:=Us hl
  refine⟨?_,hend listed a w h hall⟩
  rw[List.eq_nil_iff_forall_not_mem]
  intro i hi
  obtain⟨hun,o,ho,_⟩:=mem_ready.1 hi
  have h1:=hall i (Ξ ho).1
  rw[getD_both hun] at h1
  cases h1
 |c+1,listed,a,w,hl,h=>by
  have hs:=hsz listed a w h
  obtain⟨i0,hi0,hf0,hlow0⟩:=kS (n:=ops.size) (listed:=listed) ω
  have hr0:i0∈Region.ready .any ops listed:=mem_ready.2 ⟨getD_in ω hf0,ops[i0],by simp[hi0],λe he hb=>hlow0 _ (hlow i0 _ (by simp[hi0]) e he hb)⟩
  refine⟨λh0=>absurd hr0 (by rw[h0];simp),λi hi=>?_⟩
  obtain⟨hun,o,ho,_⟩:=mem_ready.1 hi
  have hio:=(Ξ ho).1
  refine wpOpIn_mono (λa' w' h'=>?_) (hstep listed a w i o h hi ho)
  exact jO I hsz hlow hstep hend c _ a' w' (by have:=kT (n:=ops.size) (listed:=listed) (i:=i) hio ω (getD_both hun);omega) h'
theorem Aeq {id:Nat} {l:List Oper} (V:List AV) (Fs:List Ba) (keep:List Nat) (nx':Nat) (s':St) (hm:P.follows .mixedOrders=true) (hB:drB l.toArray Fs s.nx s.n=true) (hnx:nxB Fs s.nx nx'=true) (hs':(⟨xQ l.toArray V s keep,Gx Fs s.h l.toArray.size,nx',s.n⟩:St)=s')
  (hop:AeN P B D0 l.toArray V Fs s 0 l) (hQ:Q .normal s'):AC P R B D0 (.region id l.toArray true) s Q:=by
 refine⟨λE0 a0 hs=>?_⟩
 have hS:=drS hB
 refine wpIn_region_any hm ?_
 have hl:left l.toArray.size (Array.replicate l.toArray.size false)=l.toArray.size:=by
  unfold left
  rw[List.filter_eq_self.2 (λi _=>by rw[getD_replicate_false];rfl),List.length_range]
 refine jO (λlisted a w=>listed.size=l.toArray.size/\∃E,E.w=w/\Dr B D0 l.toArray V Fs s E0.w listed E a) (λ_ _ _ h=>h.1) (λi o ho=>hS.low i o ho) ?_ ?_ _ _ a0 E0.w.drew hl ?_
 rintro listed a w i o ⟨hsz,E,rfl,hd⟩ hi ho
 have:=tH 0 l hop i o (by simpa using ho)
 rw[Nat.zero_add] at this
 exact hd.step hS hsz hi ho this
 rintro listed a w ⟨hsz,E,rfl,hd⟩ hfull
 refine⟨s',E,rfl,hQ,?_,hd.b⟩
 rw[<-hs']
 refine⟨hd.z,hd.df,λt=>?_,?_,λid hid=>?_⟩
 show VR E (Bl (xQ l.toArray V s keep) t) _
 rcases aJ (λt=>match Ej l.toArray l.toArray.size t with|some j=>V.getD j .top|none=>Bl s.t t) keep t with e|e
 unfold xQ
 rw[e]
 have:=hd.t t
 unfold avT at this
 cases hsr:Ej l.toArray l.toArray.size t with
 |none=>simp only[hsr] at this ⊢;exact this
 |some j=>
  simp only[hsr] at this ⊢
  simp only[hfull j (Gj hsr).1,if_true] at this
  exact this
 unfold xQ
 rw[e];exact .top _ _
 have:(Ak (Gx Fs s.h l.toArray.size))=cont Fs s.h (λj=>listed.getD j false) l.toArray.size:=funext λid=>by
  rw[Sb]
  exact Oo _ λi hi _=>(hfull i hi).symm
 show HR B D0 E (Ak (Gx Fs s.h l.toArray.size))
 rw[this];exact hd.h
 have hnx2:s.nx<=nx'/\∀f∈Fs,f.nx s.nx<=nx':=by
  unfold nxB at hnx
  simpa using hnx
 show id<nx'
 rcases hd.A id hid with h1|⟨j,_,h2⟩
 omega
 have hmem:Fs.getD j .none∈Fs:=by
  rw[Γ]
  cases hj:Fs[j]? with
  |none=>rw[Γ,hj] at h2;simp[Ba.news] at h2
  |some f=>exact List.mem_of_getElem? hj
 have h3:=hnx2.2 _ hmem
 revert h2 h3
 cases Fs.getD j .none<;>simp[Ba.news,Ba.nx]<;>omega
 refine⟨by simp,{ E0 with w:=E0.w.drew },rfl,?_⟩
 have hle:E0.le { E0 with w:=E0.w.drew }:=⟨λ_ h=>h,λ_ _=>rfl,λ_ h=>h,λ_ _=>rfl,λ_ _=>rfl⟩
 refine⟨hs.df.up hle.D hle.blk,hs.size,λt=>?_,λj k hj=>absurd hj (by rw[getD_replicate_false];decide),?_,λid h=> .inl (hs.A id h),Ψ.drew⟩
 have:avT l.toArray V s (λj=>(Array.replicate l.toArray.size false).getD j false) t=Bl s.t t:=by
  unfold avT
  cases Ej l.toArray l.toArray.size t with
  |none=>rfl
  |some j=>simp only[getD_replicate_false,Bool.false_eq_true,if_false]
 rw[this]
 exact(hs.t t).up hle
 have:cont Fs s.h (λj=>(Array.replicate l.toArray.size false).getD j false) l.toArray.size=Ak s.h:=funext λid=>by
  have:∀n,cont Fs s.h (λj=>(Array.replicate l.toArray.size false).getD j false) n id=Ak s.h id:=λn=>by
   induction n with
   |zero=>rfl
   |succ n ih=>rw[Jp,ih,getD_replicate_false];rfl
  exact this _
 rw[this]
 exact⟨λid b hb=>by obtain⟨h1,h2,h3,h4⟩:=hs.h.live id b hb;exact⟨h1,h2.up hle rfl,h3,h4⟩,hs.h.inj,hs.h.bnd,hs.h.abd,hs.h.le0.trans hle,hs.h.new,hs.h.B⟩
theorem Cw.cast {o:Oper} {ev:Operand->AV} {pre:Nat->Option Ar} {V V0:AV} {f f0:Ba} (h:Cw P B D0 o ev pre V0 f0) (hV:V0=V) (hf:f0=f):Cw P B D0 o ev pre V f:=by
 subst hV;subst hf;exact h
end Go.Proofs.YtbggmndaahbojaaGreat
namespace Go.Proofs.YtbggmndaahbojaaGreat
open Go.RowKit
variable {P:Program} {R:Option Nat} {B:Nat} {D0:Ap} {o:Oper} {ev:Operand->AV} {pre:Nat->Option Ar}
def AV.isLit:AV->Bool| .lit _=>true|_=>false
def AV.val:AV->Value| .lit v=>v|_=>Go.undef
theorem AV.lit_val {x:AV} (h:x.isLit=true):x= .lit x.val:=by cases x<;>simp_all [AV.isLit,AV.val]
def AV.notTop:AV->Bool| .top=>false|_=>true
def dU (o:Oper):Bool:=match o.op with| .select .. =>false|_=>true
theorem Bc {V:AV} {f:Ba} (hf:f= .none\/∃id,f= .read id) (h:∀(E:Ap) (a:Act) (c:Nat->Option Ar),HR B D0 E c->(∀id,f.touch id=true->c id=pre id)->(∀x,x∈o.op.operands->VR E (ev x) (a.eval x))->∃v,(execOp a.eval o).run P E.w= .ok (.value v) E.w/\VR E V v):Cw P B D0 o ev pre V f:=by
 refine⟨?_⟩
 intro E a c K Q _ hh ht _ hv k
 obtain⟨v,hrun,hV⟩:=h E a c hh ht hv
 unfold Oper.wp
 rw[hrun]
 have e:(λid=>f.on id (c id))=c:=by rcases hf with rfl|⟨id,rfl⟩<;>rfl
 have h2:∀id,f.news id=false:=by rcases hf with rfl|⟨id,rfl⟩<;>intro _<;>rfl
 exact k v E (Ap.le.refl E) Ψ hV (by rw[e];exact hh) (λid h=> .inl h)
theorem AfP {v:Value} (us:Operand->Value) (hx:(o.op.operands.toList.all λx=>(ev x).isLit)=true) (hu:us=λx=>(ev x).val) (hs:dU o=true) (hrun:∀w,(execOp us o).run P w= .ok (.value v) w):Cw P B D0 o ev pre (.lit v) .none:=by
 subst hu
 refine Bc (.inl rfl) λE a c _ _ hv=>⟨v,?_,.lit _ _⟩
 have:execOp a.eval o=execOp (λx=>(ev x).val) o:=execOp_congr o (λcs b h=>by rw[dU,h] at hs;cases hs) λx hx'=>by
  have h1:=hv x hx'
  have h2:=List.all_eq_true.1 hx x (by simpa using hx')
  rw[AV.lit_val h2] at h1
  exact h1.lit_inv
 rw[this,hrun]
theorem Zo {v v':Value} (us:Operand->Value) (hx:(o.op.operands.toList.all λx=>(ev x).isLit)=true) (hu:us=λx=>(ev x).val) (hs:dU o=true) (hrun:∀w,(execOp us o).run P w= .ok (.value v) w) (hv:v=v'):Cw P B D0 o ev pre (.lit v') .none:=by
 subst hv;exact AfP us hx hu hs hrun
theorem lI (x:Operand) (ho:o.op= .move x\/o.op= .assign x):Cw P B D0 o ev pre (ev x) .none:=
 Bc (.inl rfl) λE a c _ _ hv=>⟨a.eval x,by rcases ho with ho|ho<;>simp[execOp,ho],hv x (by rcases ho with ho|ho<;>simp[ho,Op.operands])⟩
theorem lF (x:Operand) (k:Nat) (ho:o.op= .extract x k) (l:List AV) (hx:ev x= .tup l) (hk:k<l.length):Cw P B D0 o ev pre (l.getD k .top) .none:=by
 refine Bc (.inl rfl) λE a c _ _ hv=>?_
 have h:=hv x (by simp[ho,Op.operands])
 rw[hx] at h
 generalize hy:a.eval x=y at h
 cases h with
 |tup _ _ vs hn h=>
  refine⟨vs.getD k undef,?_,h k hk⟩
  simp[execOp,ho,hy,Instr.extract,Array.getD,show k<vs.size by omega]
theorem VR.cells {E:Ap} {x:AV} {v:Value} (h:VR E x v) (ht:x.notTop=true):v.cells.size=x.cells.length/\∀i,VR E (x.cells.getD i .top) (v.cells.getD i undef):=by
 have one:∀(x:AV) (v:Value),VR E x v->v.cells=#[v]->x.cells=[x]->v.cells.size=x.cells.length/\∀i,VR E (x.cells.getD i .top) (v.cells.getD i undef):=λx v h h1 h2=>by
  rw[h1,h2]
  refine⟨rfl,λi=>?_⟩
  match i with
  |0=>exact h
  |i+1=>exact .top _ _
 cases h with
 |lit _ v=>
  refine⟨by simp[AV.cells],λi=>?_⟩
  simp only[AV.cells,Γ,List.getElem?_map,Array.getD_eq_getD_getElem?,<-Array.getElem?_toList]
  cases v.cells.toList[i]? with
  |none=>exact .top _ _
  |some u=>exact .lit _ _
 |agg _ l vs hn h=>exact⟨hn,λi=>VR.tops h i⟩
 |tup _ l vs hn h=>exact one _ _ (.tup _ _ _ hn h) rfl rfl
 |sl0 _ e f a c=>exact one _ _ (.sl0 ..) rfl rfl
 |slc _ e n f a c hnc h=>exact one _ _ (.slc _ _ _ _ _ _ hnc h) rfl rfl
 |sl _ e n f b q c us hn hD hc hr=>exact one _ _ (.sl _ _ _ _ _ _ _ us hn hD hc hr) rfl rfl
 |elt _ n f b q us hD hc hr=>exact one _ _ (.elt _ _ _ _ _ us hD hc hr) rfl rfl
 |ptr _ id off hA=>exact one _ _ (.ptr _ _ _ hA) rfl rfl
 |osl _ id e n hA=>exact one _ _ (.osl _ _ _ _ hA) rfl rfl
 |osw _ id e o n a c hA ha=>exact one _ _ (.osw _ _ _ _ _ _ _ hA ha) rfl rfl
 |fn _ g l vs hn h=>exact one _ _ (.fn _ _ _ _ hn h) rfl rfl
 |yld _ id hA=>exact one _ _ (.yld _ _ hA) rfl rfl
 |top _ v=>cases ht
theorem Qd:∀{l:List AV} {vs:List Value},Sc l=some vs->l=vs.map .lit
 |[],vs,h=>by simp[Sc] at h;subst h;rfl
 | .lit v::l,vs,h=>by
  simp only[Sc,Option.map_eq_some_iff] at h
  obtain⟨vs',h1,rfl⟩:=h
  rw[Qd h1];rfl
 | .agg _::_,_,h| .tup _::_,_,h| .sl .. ::_,_,h| .elt .. ::_,_,h| .ptr .. ::_,_,h| .osl .. ::_,_,h| .fn .. ::_,_,h| .top::_,_,h=>by simp[Sc] at h
theorem VR.lits {E:Ap} {l:List Value} {vs:Array Value} (hn:vs.size=l.length) (h:∀i,VR E ((l.map AV.lit).getD i .top) (vs.getD i undef)):vs=l.toArray:=by
 apply Array.ext
 simpa using hn
 intro i h1 h2
 have:=h i
 simp only[Γ,List.getElem?_map,Array.getD_eq_getD_getElem?] at this
 rw[Array.getElem?_eq_getElem h1,List.getElem?_eq_getElem ω] at this
 have:=this.lit_inv
 simpa using this
theorem VR.mkAgg {E:Ap} {l:List AV} {vs:Array Value} (hn:vs.size=l.length) (h:∀i,VR E (l.getD i .top) (vs.getD i undef)):VR E (mkAgg l) (.agg vs):=by
 unfold YtbggmndaahbojaaGreat.mkAgg
 split
 rename_i us hu
 rw[Qd hu] at hn h
 rw[VR.lits (by simpa using hn) h]
 exact .lit _ _
 exact .agg _ _ _ hn λi _=>h i
theorem VR.mkTup {E:Ap} {l:List AV} {vs:Array Value} (hn:vs.size=l.length) (h:∀i,VR E (l.getD i .top) (vs.getD i undef)):VR E (mkTup l) (.tuple vs):=by
 unfold YtbggmndaahbojaaGreat.mkTup
 split
 rename_i us hu
 rw[Qd hu] at hn h
 rw[VR.lits (by simpa using hn) h]
 exact .lit _ _
 exact .tup _ _ _ hn λi _=>h i
def putL (l:List AV) (off:Nat):List AV->List AV
 |[]=>l
 |x::xs=>putL (l.set off x) (off+1) xs
def Rg (place:Nat->Option (Nat×Nat)) (cells:List AV):List (Nat×AV)->Option (List AV)
 |[]=>some cells
 |(i,x)::rest=>
  match place i with
  |none=>none
  |some (off,size)=>if x.notTop&&Nat.beq x.cells.length size&&Nat.ble (off+size) cells.length then Rg place (putL cells off x.cells) rest else none
def Vj (E:Ap) (l:List AV) (vs:Array Value):Prop:=vs.size=l.length/\∀i,VR E (l.getD i .top) (vs.getD i undef)
theorem Vj.set {E:Ap} {l:List AV} {vs:Array Value} (h:Vj E l vs) (k:Nat) {x:AV} {v:Value} (hv:VR E x v):Vj E (l.set k x) (vs.setIfInBounds k v):=by
 refine⟨by simp[h.1],λi=>?_⟩
 have:=h.2 i
 simp only[Γ,Array.getD_eq_getD_getElem?,List.getElem?_set,Array.getElem?_setIfInBounds] at this ⊢
 by_cases hk:k=i
 subst hk
 simp only[if_true]
 by_cases hl:k<l.length
 rw[if_pos hl,if_pos (by rw[h.1];exact hl)];exact hv
 rw[if_neg hl];exact .top _ _
 simp only[if_neg hk];exact this
theorem Vj.putL {E:Ap}:∀(xs:List AV) (us:List Value) (l:List AV) (vs:Array Value) (off:Nat),Vj E l vs->us.length=xs.length->(∀i,VR E (xs.getD i .top) (us.getD i undef))->Vj E (putL l off xs) ((us.zipIdx off).foldl (λcs (c,j)=>cs.setIfInBounds j c) vs)
 |[],[],l,vs,off,h,_,_=>h
 |x::xs,u::us,l,vs,off,h,hn,hv=>by
  show Vj E (YtbggmndaahbojaaGreat.putL (l.set off x) (off+1) xs) ((us.zipIdx (off+1)).foldl _ (vs.setIfInBounds off u))
  exact Vj.putL xs us _ _ (off+1) (h.set off (hv 0)) (by simpa using hn) λi=>by simpa using hv (i+1)
theorem Nr:∀(us:List Value) (off k:Nat) (vs:Array Value),(us.zipIdx k).foldl (λcs (c,j)=>cs.setIfInBounds (off+j) c) vs=(us.zipIdx (off+k)).foldl (λcs (c,j)=>cs.setIfInBounds j c) vs
 |[],_,_,_=>rfl
 |u::us,off,k,vs=>by
  simp only[List.zipIdx_cons,List.foldl_cons]
  exact Nr us off (k+1) _
theorem Wr {E:Ap} (place:Nat->Option (Nat×Nat)):∀(ps:List (Nat×AV)) (qs:List (Nat×Value)) (l:List AV) (vs:Array Value) (out:List AV),Vj E l vs->qs.length=ps.length->(∀(i:Nat) (p:Nat×AV) (q:Nat×Value),ps[i]?=some p->qs[i]?=some q->p.1=q.1/\VR E p.2 q.2)->Rg place l ps=some out->∃arr,Instr.fill place vs qs=some arr/\Vj E out arr
 |[],[],l,vs,out,h,_,_,ho=>by
  simp only[Rg,Option.some.injEq] at ho
  subst ho
  exact⟨vs,rfl,h⟩
 |(i,x)::ps,(j,v)::qs,l,vs,out,h,hn,hp,ho=>by
  obtain⟨h1,h2⟩:=hp 0 _ _ rfl rfl
  simp only at h1 h2
  subst h1
  simp only[Rg] at ho
  cases hpl:place i with
  |none=>rw[hpl] at ho;cases ho
  |some os=>
   obtain⟨off,size⟩:=os
   rw[hpl] at ho
   simp only at ho
   by_cases hc:(x.notTop&&Nat.beq x.cells.length size&&Nat.ble (off+size) l.length)=true
   rw[if_pos hc] at ho
   simp only[Bool.and_eq_true,Nat.ble_eq] at hc
   obtain⟨⟨c1,c2⟩,c3⟩:=hc
   have c2:x.cells.length=size:=Nat.eq_of_beq_eq_true c2
   obtain⟨k1,k2⟩:=h2.cells c1
   have h3:Vj E (YtbggmndaahbojaaGreat.putL l off x.cells) ((v.cells.toList.zipIdx off).foldl (λcs (c,j)=>cs.setIfInBounds j c) vs):=Vj.putL _ _ _ _ _ h (by simpa using k1) λi=>by
    have:=k2 i
    simpa [Γ,Array.getD_eq_getD_getElem?] using this
   obtain⟨arr,h4,h5⟩:=Wr place ps qs _ _ out h3 (by simpa using hn) (λi p q h1 h2=>hp (i+1) p q (by simpa using h1) (by simpa using h2)) ho
   refine⟨arr,?_,h5⟩
   have n1:¬(v.cells.size≠size||off+v.cells.size>vs.size)=true:=by
    rw[k1,h.1,c2];simp;omega
   simp only[Instr.fill,hpl,if_neg n1]
   rw[<-h4]
   have e:=Nr v.cells.toList off 0 vs
   rw[Nat.add_zero] at e
   rw[<-e]
   congr 1
   rw[<-Array.foldl_toList,Array.toList_zipIdx]
   rw[if_neg hc] at ho;cases ho
theorem aU (E:Ap) (cs:Array Value):Vj E (cs.toList.map .lit) cs:=by
 refine⟨by simp,λi=>?_⟩
 simp only[Γ,List.getElem?_map,Array.getD_eq_getD_getElem?,<-Array.getElem?_toList]
 cases cs.toList[i]? with
 |none=>exact .top _ _
 |some u=>exact .lit _ _
theorem Ux (t:TypeId) (ps:Array (Nat×Operand)) (ho:o.op= .build t ps) (z:Value) (hz:∀w,(zeroValue t).run P w= .ok z w) {fields:Array Field} (hu:P.underlying t=some (.struct fields)) (pl:Array (Nat×Nat))
  (hpl:∀w,Sem.run P (Array.mapM (λf=>Prod.mk f.offset<$>sizeOf f.type) fields) w= .ok pl w) (out:List AV) (hf:Rg (pl[·]?) (z.cells.toList.map .lit) (ps.toList.map λp=>(p.1,ev p.2))=some out):Cw P B D0 o ev pre (mkAgg out) .none:=by
 refine Bc (.inl rfl) λE a c _ _ hv=>?_
 obtain⟨arr,h1,h2⟩:=Wr (pl[·]?) _ (ps.toList.map λp=>(p.1,a.eval p.2)) _ _ out (aU E z.cells) (by simp) (λi p q hp hq=>by
  simp only[List.getElem?_map,Option.map_eq_some_iff] at hp hq
  obtain⟨x,hx,rfl⟩:=hp
  obtain⟨y,hy,rfl⟩:=hq
  rw[hx] at hy
  cases hy
  exact⟨rfl,hv _ (by simp only[ho,Op.operands];exact List.mem_toArray.2 (List.mem_map.2 ⟨x,List.mem_of_getElem? hx,rfl⟩))⟩) hf
 refine⟨.agg arr,?_,VR.mkAgg h2.1 h2.2⟩
 have e:(ps.map λ(i,x)=>(i,a.eval x)).toList=ps.toList.map λp=>(p.1,a.eval p.2):=by simp
 simp[execOp,ho,Instr.build,hz,run_underlying hu,hpl]
 rw[h1]
 rfl
theorem Wc (t:TypeId) (ps:Array (Nat×Operand)) (ho:o.op= .build t ps) (z:Value) (hz:∀w,(zeroValue t).run P w= .ok z w) {n:Nat} {e:TypeId} (hu:P.underlying t=some (.array n e)) (size:Nat) (hsz:∀w,(sizeOf e).run P w= .ok size w)
  (out:List AV) (hf:Rg (λi=>some (i*size,size)) (z.cells.toList.map .lit) (ps.toList.map λp=>(p.1,ev p.2))=some out):Cw P B D0 o ev pre (mkAgg out) .none:=by
 refine Bc (.inl rfl) λE a c _ _ hv=>?_
 obtain⟨arr,h1,h2⟩:=Wr (λi=>some (i*size,size)) _ (ps.toList.map λp=>(p.1,a.eval p.2)) _ _ out (aU E z.cells) (by simp) (λi p q hp hq=>by
  simp only[List.getElem?_map,Option.map_eq_some_iff] at hp hq
  obtain⟨x,hx,rfl⟩:=hp
  obtain⟨y,hy,rfl⟩:=hq
  rw[hx] at hy
  cases hy
  exact⟨rfl,hv _ (by simp only[ho,Op.operands];exact List.mem_toArray.2 (List.mem_map.2 ⟨x,List.mem_of_getElem? hx,rfl⟩))⟩) hf
 refine⟨.agg arr,?_,VR.mkAgg h2.1 h2.2⟩
 simp[execOp,ho,Instr.build,hz,run_underlying hu,hsz]
 rw[h1]
 rfl
theorem Vj.drop {E:Ap} {l:List AV} {vs:Array Value} (h:Vj E l vs) (off n:Nat) (hn:off+n<=l.length):Vj E ((l.drop off).take n) (vs.extract off (off+n)):=by
 refine⟨by have:=h.1;simp;omega,λi=>?_⟩
 have:=h.2 (off+i)
 simp only[Γ,Array.getD_eq_getD_getElem?,List.getElem?_take,List.getElem?_drop,Array.getElem?_extract] at this ⊢
 by_cases hi:i<n
 have h1:=h.1
 rw[if_pos hi,if_pos ω]
 exact this
 rw[if_neg hi];exact .top _ _
theorem eA (T:TypeId) (x:Operand) (k:Nat) (ho:o.op= .field T x k) {fields:Array Field} (hu:P.underlying T=some (.struct fields)) {f:Field} (hf:fields[k]?=some f) (off:Nat) (hoff:f.offset=off) (l:List AV) (hx:ev x= .agg l) (n:Nat) (b:Bool) (hb:∀w,(isAgg f.type).run P w= .ok b w) (hn:∀w,(sizeOf f.type).run P w= .ok n w) (hl:off+n<=l.length) (h1:b=false->n=1) (V:AV) (hV:V=if b then mkAgg ((l.drop off).take n) else l.getD off .top):
  Cw P B D0 o ev pre V .none:=by
 refine Bc (.inl rfl) λE a c _ _ hv=>?_
 have h:=hv x (by simp[ho,Op.operands])
 rw[hx] at h
 generalize hy:a.eval x=y at h
 cases h with
 |agg _ _ vs hs hr=>
  have hvs:Vj E l vs:=⟨hs,λi=>VR.tops hr i⟩
  cases b with
  |true=>
   refine⟨.agg (vs.extract off (off+n)),?_,?_⟩
   simp[execOp,ho,hy,Instr.field,run_underlying hu,hf,asAgg,part,hb,hn,hoff]
   rw[hV];exact VR.mkAgg (hvs.drop off n hl).1 (hvs.drop off n hl).2
  |false=>
   have:=h1 rfl
   subst this
   refine⟨vs.getD off undef,?_,by rw[hV];exact hvs.2 off⟩
   have h3:off<vs.size:=by omega
   simp[execOp,ho,hy,Instr.field,run_underlying hu,hf,asAgg,part,hb,hoff,h3]
theorem gP (x:Operand) (t:TypeId) (ts:Array TypeId) (ho:o.op= .call { callee:= .builtin .len,args:=#[x],argTypes:=ts }) (ht:ts[0]?=some t) {e:TypeId} (hu:P.underlying t=some (.slice e)) (n:Nat) (hx:(∃e f,ev x= .sl e n f)\/∃id e,ev x= .osl id e n):Cw P B D0 o ev pre (.lit (.int .i64 (n:Int))) .none:=by
 refine Bc (.inl rfl) λE a c _ _ hv=>?_
 have h:=hv x (by simp[ho,Op.operands,Call.operands])
 have:∃A c,a.eval x= .slice A n c:=by
  rcases hx with⟨e,f,hx⟩|⟨id,e,hx⟩
  rw[hx] at h
  generalize hy:a.eval x=y at h
  cases h with
  |sl0=>exact⟨_,_,rfl⟩
  |sl=>exact⟨_,_,rfl⟩
  rw[hx] at h
  generalize hy:a.eval x=y at h
  cases h with
  |osl=>exact⟨_,_,rfl⟩
 obtain⟨A,cp,hy⟩:=this
 refine⟨_,?_,.lit _ _⟩
 simp[execOp,ho,resolve,invoke,builtin,hy,Builtin.len_,ht,run_underlying hu,goInt]
theorem Tq (T:TypeId) (x y:Operand) (ho:o.op= .indexAddr T x y) {el:TypeId} (hu:P.underlying T=some (.slice el)) (e n k:Nat) (f:Nat->AV) (j:Int) (hx:ev x= .sl e n f) (hy:ev y= .int j) (hsz:∀w,(sizeOf el).run P w= .ok e w) (hj:j=(k:Int)) (hk:k<n):
  Cw P B D0 o ev pre (.elt e λq=>(f k).cell q) .none:=by
 refine Bc (.inl rfl) λE a c _ _ hv=>?_
 have h:=hv x (by simp[ho,Op.operands])
 have h2:=hv y (by simp[ho,Op.operands])
 rw[hx] at h
 rw[hy] at h2
 have e2:=h2.lit_inv
 generalize hz:a.eval x=z at h
 cases h with
 |sl0=>omega
 |sl _ _ _ _ b q cp us hn hD hc hr=>
  refine⟨.pointer (some ⟨b,q+k*e,none⟩),?_,.elt _ _ _ _ _ (us k) hD (λi hi=>hc k i hk hi) λi hi=>hr k i hk hi⟩
  have hj2:(0:Int)<=j/\j<(n:Int):=by omega
  have hj3:j.toNat=k:=by omega
  simp[execOp,ho,hz,e2,Instr.indexAt,asIntOf,run_underlying hu,hj2,hj3,hsz,Ff]
theorem bG (T:TypeId) (x y:Operand) (ho:o.op= .indexAddr T x y) {el:TypeId} (hu:P.underlying T=some (.slice el)) (id e n k:Nat) (j:Int) (hx:ev x= .osl id e n) (hy:ev y= .int j) (hsz:∀w,(sizeOf el).run P w= .ok e w) (hj:j=(k:Int)) (hk:k<n):
  Cw P B D0 o ev pre (.ptr id (k*e)) .none:=by
 refine Bc (.inl rfl) λE a c _ _ hv=>?_
 have h:=hv x (by simp[ho,Op.operands])
 have h2:=hv y (by simp[ho,Op.operands])
 rw[hx] at h
 rw[hy] at h2
 have e2:=h2.lit_inv
 generalize hz:a.eval x=z at h
 cases h with
 |osl _ _ _ _ hA=>
  refine⟨.pointer (some ⟨E.π id,k*e,none⟩),?_,.ptr _ _ _ hA⟩
  have hj2:(0:Int)<=j/\j<(n:Int):=by omega
  have hj3:j.toNat=k:=by omega
  simp[execOp,ho,hz,e2,Instr.indexAt,asIntOf,run_underlying hu,hj2,hj3,hsz,Ff]
theorem lG (x:Operand) (t:TypeId) (ts:Array TypeId) (ho:o.op= .call { callee:= .builtin .len,args:=#[x],argTypes:=ts }) (ht:ts[0]?=some t) {el:TypeId} (hu:P.underlying t=some (.slice el)) (id e q n:Nat) (hx:ev x= .osw id e q n):Cw P B D0 o ev pre (.lit (.int .i64 (n:Int))) .none:=by
 refine Bc (.inl rfl) λE a c _ _ hv=>?_
 have h:=hv x (by simp[ho,Op.operands,Call.operands])
 rw[hx] at h
 generalize hy:a.eval x=y at h
 cases h with
 |osw _ _ _ _ _ A cp hA ha=>
  refine⟨_,?_,.lit _ _⟩
  simp[execOp,ho,resolve,invoke,builtin,hy,Builtin.len_,ht,run_underlying hu,goInt]
theorem bH (T:TypeId) (x y:Operand) (ho:o.op= .indexAddr T x y) {el:TypeId} (hu:P.underlying T=some (.slice el)) (id e q n k:Nat) (j:Int) (hx:ev x= .osw id e q n) (hy:ev y= .int j) (hsz:∀w,(sizeOf el).run P w= .ok e w) (hj:j=(k:Int)) (hk:k<n):
  Cw P B D0 o ev pre (.ptr id ((q+k)*e)) .none:=by
 refine Bc (.inl rfl) λE a c _ _ hv=>?_
 have h:=hv x (by simp[ho,Op.operands])
 have h2:=hv y (by simp[ho,Op.operands])
 rw[hx] at h
 rw[hy] at h2
 have e2:=h2.lit_inv
 generalize hz:a.eval x=z at h
 cases h with
 |osw _ _ _ _ _ A cp hA ha=>
  refine⟨.pointer (some ⟨E.π id,(q+k)*e,none⟩),?_,.ptr _ _ _ hA⟩
  have hj2:(0:Int)<=j/\j<(n:Int):=by omega
  have hj3:j.toNat=k:=by omega
  have hA2:A+k*e=(q+k)*e:=by rw[ha ω,Nat.add_mul]
  simp[execOp,ho,hz,e2,Instr.indexAt,asIntOf,run_underlying hu,hj2,hj3,hsz,Ff,hA2]
theorem Zz {T e:TypeId} {len:Nat} (hu:P.underlying T=some (.array len e)) (size:Nat) (hsz:∀w,(sizeOf e).run P w= .ok size w) (b off k:Nat) (j:Int) (h1:1<len) (hj:j=(k:Int)) (hk:k<len) (w:World):(Instr.indexAt T (.pointer (some ⟨b,off,none⟩)) (.int .i64 j)).run P w= .ok (.pointer (some ⟨b,off+k*size,none⟩)) w:=by
 have hj2:(0:Int)<=j/\j<(len:Int):=by omega
 have hj3:j.toNat=k:=by omega
 have hl:¬len<=1:=by omega
 simp[Instr.indexAt,Instr.sureAddr,asIntOf,run_underlying hu,hj2,hj3,hsz,Ff]
theorem bI (T:TypeId) (x y:Operand) (ho:o.op= .indexAddr T x y) {el:TypeId} {len:Nat} (hu:P.underlying T=some (.array len el)) (id off e k:Nat) (j:Int) (hx:ev x= .ptr id off) (hy:ev y= .int j) (hsz:∀w,(sizeOf el).run P w= .ok e w) (h1:1<len) (hj:j=(k:Int)) (hk:k<len):
  Cw P B D0 o ev pre (.ptr id (off+k*e)) .none:=by
 refine Bc (.inl rfl) λE a c _ _ hv=>?_
 have h:=hv x (by simp[ho,Op.operands])
 have h2:=hv y (by simp[ho,Op.operands])
 rw[hx] at h
 rw[hy] at h2
 have e2:=h2.lit_inv
 generalize hz:a.eval x=z at h
 cases h with
 |ptr _ _ _ hA=>
  refine⟨_,?_,.ptr _ _ _ hA⟩
  simp[execOp,ho,hz,e2,Zz hu e hsz (E.π id) off k j h1 hj hk]
theorem VR.elt_part {E:Ap} {n:Nat} {f:Nat->AV} {b q:Nat} (h:VR E (.elt n f) (.pointer (some ⟨b,q,none⟩))) (m d:Nat) (hm:d+m<=n):VR E (.elt m λi=>f (d+i)) (.pointer (some ⟨b,q+d,none⟩)):=by
 cases h with
 |elt _ _ _ _ _ us hD hc hr=>
  exact .elt _ _ _ _ _ (λi=>us (d+i)) hD (λi hi=>by rw[Nat.add_assoc];exact hc (d+i) ω) λi hi=>hr (d+i) ω
theorem Jx (T:TypeId) (x y:Operand) (ho:o.op= .indexAddr T x y) {el:TypeId} {len:Nat} (hu:P.underlying T=some (.array len el)) (n:Nat) (f:Nat->AV) (e k:Nat) (j:Int) (hx:ev x= .elt n f) (hy:ev y= .int j) (hsz:∀w,(sizeOf el).run P w= .ok e w) (h1:1<len) (hj:j=(k:Int)) (hk:k<len) (hn:k*e+e<=n):
  Cw P B D0 o ev pre (.elt e λi=>f (k*e+i)) .none:=by
 refine Bc (.inl rfl) λE a c _ _ hv=>?_
 have h:=hv x (by simp[ho,Op.operands])
 have h2:=hv y (by simp[ho,Op.operands])
 rw[hx] at h
 rw[hy] at h2
 have e2:=h2.lit_inv
 generalize hz:a.eval x=z at h
 cases h with
 |elt _ _ _ b q us hD hc hr=>
  refine⟨_,?_,VR.elt_part (.elt _ _ _ b q us hD hc hr) e (k*e) hn⟩
  simp[execOp,ho,hz,e2,Zz hu e hsz b q k j h1 hj hk]
theorem Vx {T:TypeId} {fields:Array Field} (hu:P.underlying T=some (.struct fields)) {k:Nat} {f:Field} (hf:fields[k]?=some f) (hz:∀w,∃n,(sizeOf f.type).run P w= .ok (n+1) w) (b off:Nat) (w:World):(Instr.fieldAt T (.pointer (some ⟨b,off,none⟩)) k).run P w= .ok (.pointer (some ⟨b,off+f.offset,none⟩)) w:=by
 obtain⟨n,hn⟩:=hz w
 simp[Instr.fieldAt,Instr.sureAddr,run_underlying hu,hf,fieldPlace,hn,Ff]
theorem Zn (T:TypeId) (x:Operand) (k:Nat) (ho:o.op= .fieldAddr T x k) {fields:Array Field} (hu:P.underlying T=some (.struct fields)) {f:Field} (hf:fields[k]?=some f) (hz:∀w,∃n,(sizeOf f.type).run P w= .ok (n+1) w) (d:Nat) (hd:f.offset=d) (id off:Nat) (hx:ev x= .ptr id off):Cw P B D0 o ev pre (.ptr id (off+d)) .none:=by
 refine Bc (.inl rfl) λE a c _ _ hv=>?_
 have h:=hv x (by simp[ho,Op.operands])
 rw[hx] at h
 generalize hy:a.eval x=y at h
 cases h with
 |ptr _ _ _ hA=>
  refine⟨_,?_,.ptr _ _ _ hA⟩
  simp[execOp,ho,hy,Vx hu hf hz,hd]
theorem Zm (T:TypeId) (x:Operand) (k:Nat) (ho:o.op= .fieldAddr T x k) {fields:Array Field} (hu:P.underlying T=some (.struct fields)) {f:Field} (hf:fields[k]?=some f) (hz:∀w,∃n,(sizeOf f.type).run P w= .ok (n+1) w) (d:Nat) (hd:f.offset=d) (n m:Nat) (g:Nat->AV) (hx:ev x= .elt n g) (hm:d+m<=n):Cw P B D0 o ev pre (.elt m λi=>g (d+i)) .none:=by
 refine Bc (.inl rfl) λE a c _ _ hv=>?_
 have h:=hv x (by simp[ho,Op.operands])
 rw[hx] at h
 generalize hy:a.eval x=y at h
 cases h with
 |elt _ _ _ b q us hD hc hr=>
  refine⟨_,?_,VR.elt_part (.elt _ _ _ b q us hD hc hr) m d hm⟩
  simp[execOp,ho,hy,Vx hu hf hz,hd]
theorem bK (T:TypeId) (x:Operand) (ho:o.op= .load T x) (hT:∀w,(isAgg T).run P w= .ok false w) (n:Nat) (f:Nat->AV) (hx:ev x= .elt (n+1) f):Cw P B D0 o ev pre (f 0) .none:=by
 refine Bc (.inl rfl) λE a c _ _ hv=>?_
 have h:=hv x (by simp[ho,Op.operands])
 rw[hx] at h
 generalize hy:a.eval x=y at h
 cases h with
 |elt _ _ _ b q us hD hc hr=>
  refine⟨us 0,?_,(hr 0 ω).up E.fz_le⟩
  have h1:=Li (P:=P) (T:=T) E.w (hT _) (hc 0 ω)
  rw[Nat.add_zero] at h1
  simp[execOp,ho,hy,h1]
theorem gR (T:TypeId) (x:Operand) (ho:o.op= .load T x) (hT:∀w,(isAgg T).run P w= .ok true w) (n:Nat) (hn:∀w,(sizeOf T).run P w= .ok n w) (m:Nat) (f:Nat->AV) (hx:ev x= .elt m f) (hm:n<=m):Cw P B D0 o ev pre (mkAgg ((List.range n).map f)) .none:=by
 refine Bc (.inl rfl) λE a c _ _ hv=>?_
 have h:=hv x (by simp[ho,Op.operands])
 rw[hx] at h
 generalize hy:a.eval x=y at h
 cases h with
 |elt _ _ _ b q us hD hc hr=>
  have h1:=eE (P:=P) (T:=T) (b:=b) (o:=q) ((List.range n).map us) E.w (hT _) (by simpa using hn E.w) (λj u hu=>by
   simp only[List.getElem?_map,Option.map_eq_some_iff] at hu
   obtain⟨i,hi,rfl⟩:=hu
   have hjn:j<n:=by
    rcases Nat.lt_or_ge j n with h|h
    exact h
    rw[List.getElem?_eq_none (by simpa using h)] at hi;cases hi
   have:i=j:=by simpa [hjn] using hi.symm
   subst this
   exact hc i ω)
  refine⟨.agg ((List.range n).map us).toArray,?_,VR.mkAgg (by simp) λi=>?_⟩
  simp[execOp,ho,hy,h1]
  by_cases hi:i<n
  have e1:((List.range n).map f).getD i .top=f i:=by simp[hi]
  have e2:((List.range n).map us).toArray.getD i undef=us i:=by simp[hi]
  rw[e1,e2]
  exact(hr i ω).up E.fz_le
  have e1:((List.range n).map f).getD i .top= .top:=by rw[Γ,List.getElem?_eq_none (by simpa using hi)];rfl
  rw[e1];exact .top _ _
end Go.Proofs.YtbggmndaahbojaaGreat
namespace Go.Proofs.YtbggmndaahbojaaGreat
open Go.RowKit
variable {P:Program} {R:Option Nat} {B:Nat} {D0:Ap} {o:Oper} {ev:Operand->AV} {pre:Nat->Option Ar}
def Ap.more (E:Ap) (id cp:Nat) (ob:Obj):Ap:={ cap:=λi=>if i=id then cp else E.cap i,π:=λi=>if i=id then E.w.heap.size else E.π i,A:=λi=>E.A i\/i=id,D:=E.D,w:=E.w.alloc ob }
theorem HR.more {E:Ap} {c:Nat->Option Ar} (h:HR B D0 E c) {id:Nat} (hid:¬E.A id) (cp:Nat) (ob:Obj):E.le (E.more id cp ob)/\Below B E.w (E.more id cp ob).w/\(∀blk,BR (E.more id cp ob) blk E.w.heap.size cp->HR B D0 (E.more id cp ob) (λi=>if id=i then some blk else c i)):=by
 have old:∀b,b<E.w.heap.size->(E.w.alloc ob).heap[b]?=E.w.heap[b]?:=λb hb=>Below.heap_alloc _ _ _ hb
 have hπ:∀i,E.A i->(E.more id cp ob).π i=E.π i:=λi hi=>by
  show (if i=id then _ else _)=_
  rw[if_neg (λe:i=id=>hid (e▸hi))]
 have hcap:∀i,E.A i->(E.more id cp ob).cap i=E.cap i:=λi hi=>by
  show (if i=id then _ else _)=_
  rw[if_neg (λe:i=id=>hid (e▸hi))]
 have hcapn:(E.more id cp ob).cap id=cp:=by show (if id=id then _ else _)=_;rw[if_pos rfl]
 have hπn:(E.more id cp ob).π id=E.w.heap.size:=by show (if id=id then _ else _)=_;rw[if_pos rfl]
 have hle:E.le (E.more id cp ob):=⟨λi hi=> .inl hi,hπ,λb hb=>hb,λb hb=>old b (h.bnd b hb),hcap⟩
 have hbl:Below B E.w (E.more id cp ob).w:=(Below.refl B E.w).alloc h.B ob
 refine⟨hle,hbl,λblk hb=>⟨λi x hx=>?_,λi j x y hx hy hne=>?_,λb hb=>?_,λi hi=>?_,h.le0.trans hle,h.new,?_⟩⟩
 by_cases e:id=i
 subst e
 rw[if_pos rfl] at hx
 cases hx
 rw[hπn,hcapn]
 exact⟨.inr rfl,hb,λhd=>absurd (h.bnd _ hd) (Nat.lt_irrefl _),h.B⟩
 rw[if_neg e] at hx
 obtain⟨h1,h2,h3,h4⟩:=h.live i x hx
 rw[hπ i h1,hcap i h1]
 exact⟨.inl h1,h2.up hle (old _ h2.lt),h3,h4⟩
 by_cases e:id=i
 subst e
 have hj:¬id=j:=hne
 rw[if_neg hj] at hy
 have h1:=(h.live j y hy).1
 rw[hπn,hπ j h1]
 have:=h.abd j h1
 omega
 rw[if_neg e] at hx
 have h1:=(h.live i x hx).1
 have k1:=h.abd i h1
 by_cases e2:id=j
 subst e2
 rw[hπn,hπ i h1]
 omega
 rw[if_neg e2] at hy
 rw[hπ i h1,hπ j (h.live j y hy).1]
 exact h.inj i j x y hx hy hne
 have:=h.bnd b hb
 show b<(E.w.alloc ob).heap.size
 simp;omega
 show _<(E.w.alloc ob).heap.size
 rcases hi with hi|hi
 have k1:=h.abd i hi
 rw[hπ i hi];simp;omega
 subst hi;rw[hπn];simp
 show B<=(E.w.alloc ob).heap.size
 have:=h.B
 simp;omega
theorem Tr (id:Nat) (V:AV) (blk:Ar) (hrun:∀(E:Ap) (a:Act) (c:Nat->Option Ar),HR B D0 E c->¬E.A id->(∀x,x∈o.op.operands->VR E (ev x) (a.eval x))->∃v cp ob w1,(execOp a.eval o).run P E.w= .ok (.value v) w1/\w1=E.w.alloc ob/\BR (E.more id cp ob) blk E.w.heap.size cp/\VR (E.more id cp ob) V v):Cw P B D0 o ev pre V (.new id blk):=by
 refine⟨?_⟩
 intro E a c K Q _ hh _ hn hv k
 have hid:¬E.A id:=hn id (by simp[Ba.news])
 obtain⟨v,cp,ob,w1,hr,rfl,hb,hV⟩:=hrun E a c hh hid hv
 obtain⟨h1,h2,h3⟩:=hh.more hid cp ob
 unfold Oper.wp
 rw[hr]
 refine k v (E.more id cp ob) h1 h2 hV (h3 blk hb) λi hi=>?_
 rcases hi with hi|hi
 exact .inl hi
 exact .inr (by simp[Ba.news,hi])
theorem BR.ofCells {E:Ap} {id:Nat} {cs:List AV} {vs:Array Value} {t:TypeId} (h:Vj E cs vs) (hle:E.le (E.more id 0 (.cells vs t))):BR (E.more id 0 (.cells vs t)) (.box t cs) E.w.heap.size 0:=
 .box _ _ _ _ vs (heap_alloc_new E.w _) h.1 λi _=>(h.2 i).up hle
theorem AfO (T:TypeId) (x:Operand) (ho:o.op= .box T x) (id:Nat) (hx:(ev x).notTop=true) (cs:List AV) (hcs:cs=(ev x).cells):Cw P B D0 o ev pre (.ptr id 0) (.new id (.box T cs)):=by
 subst hcs
 refine Tr id _ _ λE a c hh hid hv=>?_
 have hc:=(hv x (by simp[ho,Op.operands])).cells hx
 refine⟨.pointer (some ⟨E.w.heap.size,0,none⟩),0,.cells (a.eval x).cells T,_,?_,rfl,BR.ofCells hc (hh.more hid _ _).1,?_⟩
 simp[execOp,ho,Instr.box,newVar,newRow,newObj];rfl
 have:(E.more id 0 (.cells (a.eval x).cells T)).π id=E.w.heap.size:=by show (if id=id then _ else _)=_;rw[if_pos rfl]
 rw[<-this]
 exact .ptr _ _ _ (.inr rfl)
theorem xI (T:TypeId) (ho:o.op= .alloc T) (id:Nat) (z:Value) (hz:∀w,(zeroValue T).run P w= .ok z w) (cs:List AV) (hcs:cs=z.cells.toList.map .lit):Cw P B D0 o ev pre (.ptr id 0) (.new id (.box T cs)):=by
 subst hcs
 refine Tr id _ _ λE a c hh hid hv=>?_
 refine⟨.pointer (some ⟨E.w.heap.size,0,none⟩),0,.cells z.cells T,_,?_,rfl,BR.ofCells (aU E z.cells) (hh.more hid _ _).1,?_⟩
 simp[execOp,ho,Instr.alloc,hz,newVar,newRow,newObj];rfl
 have:(E.more id 0 (.cells z.cells T)).π id=E.w.heap.size:=by show (if id=id then _ else _)=_;rw[if_pos rfl]
 rw[<-this]
 exact .ptr _ _ _ (.inr rfl)
theorem HR.box {E:Ap} {c:Nat->Option Ar} (h:HR B D0 E c) {id:Nat} {t:TypeId} {cs:List AV} (hc:c id=some (.box t cs)):∃arr,E.w.heap[E.π id]?=some (.cells arr t (0,0))/\Vj E cs arr:=by
 obtain⟨h1,h2,h3,h4⟩:=h.live id _ hc
 cases h2 with
 |box _ _ _ _ arr hb hn hr=>exact⟨arr,hb,hn,λi=>VR.tops hr i⟩
theorem HR.vec {E:Ap} {c:Nat->Option Ar} (h:HR B D0 E c) {id:Nat} {t:TypeId} {e n:Nat} {f:Nat->AV} (hc:c id=some (.vec t e n f)):∃arr,E.w.heap[E.π id]?=some (.cells arr t (0,0))/\n*e<=arr.size/\(arr.size=E.cap id*e/\n<=E.cap id/\E.cap id<=maxLen)/\∀i j,i<n->j<e->VR E ((f i).cell j) (arr.getD (i*e+j) undef):=by
 obtain⟨h1,h2,h3,h4⟩:=h.live id _ hc
 cases h2 with
 |vec _ _ _ _ _ _ arr hb hn hc hm hr=>exact⟨arr,hb,by rw[hn];exact Nat.mul_le_mul_right e hc,⟨hn,hc,hm⟩,hr⟩
theorem Ii {w:World} {b:Nat} {arr:Array Value} {t:TypeId} {fr:Nat×Nat} (h:w.heap[b]?=some (.cells arr t fr)) {i:Nat} (hi:i<arr.size):w.cell? ⟨b,i,none⟩=some (arr.getD i undef):=by
 simp[World.cell?,h,hi]
theorem bJ (T:TypeId) (x:Operand) (ho:o.op= .load T x) (hT:∀w,(isAgg T).run P w= .ok false w) (id off:Nat) (hx:ev x= .ptr id off) (t:TypeId) (cs:List AV) (hp:pre id=some (.box t cs)) (hl:off<cs.length):Cw P B D0 o ev pre (cs.getD off .top) (.read id):=by
 refine Bc (.inr ⟨id,rfl⟩) λE a c hh ht hv=>?_
 have h:=hv x (by simp[ho,Op.operands])
 rw[hx] at h
 generalize hy:a.eval x=y at h
 obtain⟨arr,hb,hvs⟩:=hh.box ((ht id (by simp[Ba.touch])).trans hp)
 cases h with
 |ptr _ _ _ hA=>
  refine⟨arr.getD off undef,?_,hvs.2 off⟩
  have h1:=Li (P:=P) (T:=T) E.w (hT _) (Ii hb (i:=off) (by rw[hvs.1];exact hl))
  simp[execOp,ho,hy,h1]
theorem Mr {T:TypeId} {w:World} {b off n:Nat} {arr:Array Value} {t:TypeId} {fr:Nat×Nat} (hT:(isAgg T).run P w= .ok true w) (hn:(sizeOf T).run P w= .ok n w) (hb:w.heap[b]?=some (.cells arr t fr)) (hl:off+n<=arr.size):(Instr.loadAt T (.pointer (some ⟨b,off,none⟩))).run P w= .ok (.agg (arr.extract off (off+n))) w:=by
 have:=eE (P:=P) (T:=T) (b:=b) (o:=off) (arr.extract off (off+n)).toList w hT (by rw[hn];congr 1;simp;omega) (λj u hu=>by
  rw[Array.getElem?_toList,Array.getElem?_extract] at hu
  by_cases hj:j<min (off+n) arr.size-off
  rw[if_pos hj] at hu
  simp[World.cell?,hb,hu]
  rw[if_neg hj] at hu;cases hu)
 rw[this]
theorem gQ (T:TypeId) (x:Operand) (ho:o.op= .load T x) (hT:∀w,(isAgg T).run P w= .ok true w) (n:Nat) (hn:∀w,(sizeOf T).run P w= .ok n w) (id off:Nat) (hx:ev x= .ptr id off) (t:TypeId) (cs:List AV) (hp:pre id=some (.box t cs)) (hl:off+n<=cs.length):Cw P B D0 o ev pre (mkAgg ((cs.drop off).take n)) (.read id):=by
 refine Bc (.inr ⟨id,rfl⟩) λE a c hh ht hv=>?_
 have h:=hv x (by simp[ho,Op.operands])
 rw[hx] at h
 generalize hy:a.eval x=y at h
 obtain⟨arr,hb,hvs⟩:=hh.box ((ht id (by simp[Ba.touch])).trans hp)
 cases h with
 |ptr _ _ _ hA=>
  have h2:=hvs.drop off n hl
  refine⟨_,?_,VR.mkAgg h2.1 h2.2⟩
  have h1:=Mr (P:=P) (T:=T) (hT E.w) (hn E.w) hb (by rw[hvs.1];exact hl)
  simp[execOp,ho,hy,h1]
theorem El (T:TypeId) (x:Operand) (ho:o.op= .load T x) (hT:∀w,(isAgg T).run P w= .ok false w) (id i j e:Nat) (hx:ev x= .ptr id (i*e+j)) (t:TypeId) (n:Nat) (f:Nat->AV) (hp:pre id=some (.vec t e n f)) (hi:i<n) (hj:j<e):Cw P B D0 o ev pre ((f i).cell j) (.read id):=by
 refine Bc (.inr ⟨id,rfl⟩) λE a c hh ht hv=>?_
 have h:=hv x (by simp[ho,Op.operands])
 rw[hx] at h
 generalize hy:a.eval x=y at h
 obtain⟨arr,hb,hn,_,hr⟩:=hh.vec ((ht id (by simp[Ba.touch])).trans hp)
 cases h with
 |ptr _ _ _ hA=>
  have hlt:i*e+j<arr.size:=by
   have:=Nat.mul_le_mul_right e (show i+1<=n from hi)
   rw[Nat.succ_mul] at this
   omega
  refine⟨arr.getD (i*e+j) undef,?_,hr i j hi hj⟩
  have h1:=Li (P:=P) (T:=T) E.w (hT _) (Ii hb hlt)
  simp[execOp,ho,hy,h1]
theorem Az (T:TypeId) (x:Operand) (ho:o.op= .load T x) (hT:∀w,(isAgg T).run P w= .ok true w) (e:Nat) (he:∀w,(sizeOf T).run P w= .ok e w) (id i:Nat) (hx:ev x= .ptr id (i*e)) (t:TypeId) (n:Nat) (f:Nat->AV) (hp:pre id=some (.vec t e n f)) (hi:i<n):Cw P B D0 o ev pre (mkAgg ((List.range e).map λj=>(f i).cell j)) (.read id):=by
 refine Bc (.inr ⟨id,rfl⟩) λE a c hh ht hv=>?_
 have h:=hv x (by simp[ho,Op.operands])
 rw[hx] at h
 generalize hy:a.eval x=y at h
 obtain⟨arr,hb,hn,_,hr⟩:=hh.vec ((ht id (by simp[Ba.touch])).trans hp)
 cases h with
 |ptr _ _ _ hA=>
  have hlt:i*e+e<=arr.size:=by
   have:=Nat.mul_le_mul_right e (show i+1<=n from hi)
   rw[Nat.succ_mul] at this
   omega
  refine⟨_,?_,VR.mkAgg (vs:=arr.extract (i*e) (i*e+e)) (by simp;omega) λj=>?_⟩
  have h1:=Mr (P:=P) (T:=T) (hT E.w) (he E.w) hb hlt
  simp[execOp,ho,hy,h1]
  by_cases hj:j<e
  have e1:((List.range e).map λj=>(f i).cell j).getD j .top=(f i).cell j:=by simp[hj]
  have e2:(arr.extract (i*e) (i*e+e)).getD j undef=arr.getD (i*e+j) undef:=by
   simp only[Array.getD_eq_getD_getElem?,Array.getElem?_extract]
   rw[if_pos ω]
  rw[e1,e2]
  exact hr i j hi hj
  have e1:((List.range e).map λj=>(f i).cell j).getD j .top= .top:=by rw[Γ,List.getElem?_eq_none (by simpa using hj)];rfl
  rw[e1];exact .top _ _
theorem HR.set {E:Ap} {c:Nat->Option Ar} (h:HR B D0 E c) {id:Nat} {blk0 blk:Ar} (hc:c id=some blk0) {w':World} (hb:∀k,k≠E.π id->w'.heap[k]?=E.w.heap[k]?) (hsz:w'.heap.size=E.w.heap.size) (h1:w'.os=E.w.os) (h2:w'.tape=E.w.tape) (h3:w'.output=E.w.output)
  (hbr:E.le { E with w:=w' }->BR { E with w:=w' } blk (E.π id) (E.cap id)):E.le { E with w:=w' }/\Below B E.w w'/\HR B D0 { E with w:=w' } (λi=>if id=i then some blk else c i):=by
 obtain⟨k1,k2,k3,k4⟩:=h.live id _ hc
 have hle:E.le { E with w:=w' }:=⟨λ_ h=>h,λ_ _=>rfl,λ_ h=>h,λb hb'=>hb b (λe=>k3 (e▸hb')),λ_ _=>rfl⟩
 refine⟨hle,⟨h1,h2,h3,ω,λk hk=>hb k ω⟩,⟨λi x hx=>?_,λi j x y hx hy hne=>?_,λb hb=>by show b<w'.heap.size;rw[hsz];exact h.bnd b hb,λi hi=>by show _<w'.heap.size;rw[hsz];exact h.abd i hi,h.le0.trans hle,h.new,by show B<=w'.heap.size;rw[hsz];exact h.B⟩⟩
 by_cases e:id=i
 subst e
 rw[if_pos rfl] at hx
 cases hx
 exact⟨k1,hbr hle,k3,k4⟩
 rw[if_neg e] at hx
 obtain⟨j1,j2,j3,j4⟩:=h.live i x hx
 exact⟨j1,j2.up hle (hb _ (h.inj i id x blk0 hx hc (λe2=>e e2.symm))),j3,j4⟩
 have real:∀k z,(if id=k then some blk else c k)=some z->∃z',c k=some z':=λk z hz=>by
  by_cases e:id=k
  subst e;exact⟨_,hc⟩
  rw[if_neg e] at hz;exact⟨z,hz⟩
 obtain⟨x',hx'⟩:=real i x hx
 obtain⟨y',hy'⟩:=real j y hy
 exact h.inj i j x' y' hx' hy' hne
theorem Mt (b:Nat) {t:TypeId}:∀(us:List Value) (off:Nat) (w:World) (arr:Array Value),w.heap[b]?=some (.cells arr t (0,0))->(w.setCells b off us).heap[b]?=some (.cells ((us.zipIdx off).foldl (λcs (c,j)=>cs.setIfInBounds j c) arr) t (0,0))
 |[],_,_,_,h=>h
 |u::us,off,w,arr,h=>by
  rw[World.setCells]
  refine Mt b us (off+1) _ _ ?_
  simp[World.setCell,Array.getElem?_modify,h]
theorem Ka (b:Nat):∀(us:List Value) (off:Nat) (w:World),(∀k,k≠b->(w.setCells b off us).heap[k]?=w.heap[k]?)/\(w.setCells b off us).heap.size=w.heap.size/\(w.setCells b off us).os=w.os/\(w.setCells b off us).tape=w.tape/\(w.setCells b off us).output=w.output
 |[],_,_=>⟨λ_ _=>rfl,rfl,rfl,rfl,rfl⟩
 |u::us,off,w=>by
  rw[World.setCells]
  obtain⟨h1,h2,h3,h4,h5⟩:=Ka b us (off+1) (w.setCell ⟨b,off,none⟩ u)
  exact⟨λk hk=>(h1 k hk).trans (Below.heap_setCell w ⟨b,off,none⟩ u k hk),h2.trans (by simp[World.setCell]),h3,h4,h5⟩
def AV.one1:AV->Bool
 | .lit v=>v.oneCell'
 | .agg _| .tup _| .top=>false
 |_=>true
theorem VR.one1 {E:Ap} {x:AV} {v:Value} (h:VR E x v) (h1:x.one1=true):v.oneCell'=true:=by
 cases h<;>first|exact h1|rfl|cases h1
theorem Vj.one1 {E:Ap} {l:List AV} {vs:Array Value} (h:Vj E l vs) (h1:l.all AV.one1=true):∀v∈vs.toList,v.oneCell'=true:=by
 intro v hv
 obtain⟨i,hi,rfl⟩:=List.getElem_of_mem hv
 have hi2:i<l.length:=by rw[<-h.1];simpa using hi
 have h2:=h.2 i
 have e1:l.getD i .top=l[i]:=by simp[hi2]
 have e2:vs.getD i undef=vs.toList[i]:=by simp at hi;simp[hi]
 rw[e1,e2] at h2
 exact h2.one1 (List.all_eq_true.1 h1 _ (List.getElem_mem _))
theorem Ty {T:TypeId} {w:World} {b off:Nat} {t:TypeId} {arr:Array Value} {v:Value} (hn:(sizeOf T).run P w= .ok v.cells.size w) (hb:w.heap[b]?=some (.cells arr t (0,0))) (hl:off+v.cells.size<=arr.size) (h1:∀u∈v.cells.toList,u.oneCell'=true):(Instr.storeAt T (.pointer (some ⟨b,off,none⟩)) v).run P w= .ok () (w.setCells b off v.cells.toList):=by
 have hs:=run_storeCells_cells (P:=P) b off v.cells.toList 0 w (λj hj=>by
  have:off+0+j<arr.size:=by simp at hj;omega
  rw[Ii hb this];rfl) (λj hj=>by simp[World.frozen?,hb]) h1
 simp[Instr.storeAt,Instr.sureAddr,storeVar,hn,hs]
theorem bL (T:TypeId) (x y:Operand) (ho:o.op= .store T x y) (n:Nat) (hn:∀w,(sizeOf T).run P w= .ok n w) (id off:Nat) (hx:ev x= .ptr id off) (t:TypeId) (cs ys cs':List AV) (hp:pre id=some (.box t cs)) (hy:(ev y).cells=ys) (ht:(ev y).notTop=true) (hk:ys.length=n) (hl:off+n<=cs.length) (h1:ys.all AV.one1=true) (hcs:putL cs off ys=cs'):
  Cw P B D0 o ev pre .undef (.set id (.box t cs')):=by
 subst hcs
 refine⟨?_⟩
 intro E a c K Q _ hh htch _ hv k
 have hx2:=hv x (by simp[ho,Op.operands])
 have hy2:=(hv y (by simp[ho,Op.operands])).cells ht
 rw[hy] at hy2
 rw[hx] at hx2
 have hc:=(htch id (by simp[Ba.touch])).trans hp
 obtain⟨arr,hb,hvs⟩:=hh.box hc
 generalize hz:a.eval x=z at hx2
 cases hx2 with
 |ptr _ _ _ hA=>
  have hsz:off+(a.eval y).cells.size<=arr.size:=by rw[hy2.1,hk,hvs.1];exact hl
  have hrun:=Ty (P:=P) (T:=T) (v:=a.eval y) (by rw[hn];congr 1;rw[hy2.1,hk]) hb hsz (Vj.one1 hy2 h1)
  obtain⟨e1,e2,e3,e4,e5⟩:=Ka (E.π id) (a.eval y).cells.toList off E.w
  obtain⟨r1,r2,r3⟩:=hh.set (blk:= .box t (putL cs off ys)) hc e1 e2 e3 e4 e5 (λhle=>by
   have h3:Vj E (putL cs off ys) (((a.eval y).cells.toList.zipIdx off).foldl (λcs (c,j)=>cs.setIfInBounds j c) arr):=Vj.putL _ _ _ _ _ hvs (by simpa using hy2.1) λi=>by
    have:=hy2.2 i
    simpa [Γ,Array.getD_eq_getD_getElem?] using this
   exact .box _ _ _ _ _ (Mt _ _ _ _ _ hb) h3.1 λi _=>(h3.2 i).up hle)
  unfold Oper.wp
  have hexec:(execOp a.eval o).run P E.w= .ok .skip (E.w.setCells (E.π id) off (a.eval y).cells.toList):=by simp[execOp,ho,hz,hrun]
  rw[hexec]
  exact k undef { E with w:=_ } r1 r2 (.lit _ _) r3 λi hi=> .inl hi
theorem Ln:∀(us:List Value) (off:Nat) (arr:Array Value) (q:Nat),off+us.length<=arr.size->((us.zipIdx off).foldl (λcs (c,j)=>cs.setIfInBounds j c) arr).getD q undef=if off<=q/\q<off+us.length then us.getD (q-off) undef else arr.getD q undef
 |[],off,arr,q,_=>by
  rw[if_neg (by simp only[List.length_nil];omega)];rfl
 |u::us,off,arr,q,h=>by
  simp only[List.length_cons] at h
  simp only[List.zipIdx_cons,List.foldl_cons]
  rw[Ln us (off+1) _ q (by simp;omega)]
  by_cases hq:off=q
  subst hq
  rw[if_neg ω,if_pos (by simp)]
  simp[show off<arr.size by omega]
  by_cases h2:off+1<=q/\q<off+1+us.length
  rw[if_pos h2,if_pos (by simp;omega)]
  rw[show q-off=(q-(off+1))+1 by omega]
  rfl
  rw[if_neg h2,if_neg (by simp;omega)]
  simp only[Array.getD_eq_getD_getElem?,Array.getElem?_setIfInBounds,if_neg hq]
theorem Lo:∀(us:List Value) (off:Nat) (arr:Array Value),((us.zipIdx off).foldl (λcs (c,j)=>cs.setIfInBounds j c) arr).size=arr.size
 |[],_,_=>rfl
 |u::us,off,arr=>by
  simp only[List.zipIdx_cons,List.foldl_cons]
  rw[Lo us (off+1)];simp
theorem wH {i k e j:Nat} (hj:j<e):(i*e<=k*e+j/\k*e+j<i*e+e)↔k=i:=by
 constructor
 rintro⟨h1,h2⟩
 rcases Nat.lt_trichotomy k i with h|h|h
 have:=Nat.mul_le_mul_right e (show k+1<=i from h)
 rw[Nat.succ_mul] at this;omega
 exact h
 have:=Nat.mul_le_mul_right e (show i+1<=k from h)
 rw[Nat.succ_mul] at this;omega
 rintro rfl;omega
theorem Eb (T:TypeId) (x y:Operand) (ho:o.op= .store T x y) (e:Nat) (hn:∀w,(sizeOf T).run P w= .ok e w) (id i:Nat) (hx:ev x= .ptr id (i*e)) (t:TypeId) (n:Nat) (f:Nat->AV) (hp:pre id=some (.vec t e n f)) (hi:i<n) (hk:(ev y).cells.length=e) (ht:(ev y).notTop=true) (h1:(ev y).cells.all AV.one1=true) (V:AV) (hV:ev y=V):
  Cw P B D0 o ev pre .undef (.set id (.vec t e n λk=>if k=i then V else f k)):=by
 subst hV
 refine⟨?_⟩
 intro E a c K Q _ hh htch _ hv kc
 have hx2:=hv x (by simp[ho,Op.operands])
 have hy2:=(hv y (by simp[ho,Op.operands])).cells ht
 rw[hx] at hx2
 have hc:=(htch id (by simp[Ba.touch])).trans hp
 obtain⟨arr,hb,hna,hcp,hr⟩:=hh.vec hc
 generalize hz:a.eval x=z at hx2
 cases hx2 with
 |ptr _ _ _ hA=>
  have hin:i*e+e<=n*e:=by
   have:=Nat.mul_le_mul_right e (show i+1<=n from hi)
   rw[Nat.succ_mul] at this;exact this
  have hcs:(a.eval y).cells.size=e:=hy2.1.trans hk
  have hrun:=Ty (P:=P) (T:=T) (v:=a.eval y) (by rw[hn];congr 1;rw[hcs]) hb (off:=i*e) (by rw[hcs];omega) (Vj.one1 hy2 h1)
  obtain⟨e1,e2,e3,e4,e5⟩:=Ka (E.π id) (a.eval y).cells.toList (i*e) E.w
  obtain⟨r1,r2,r3⟩:=hh.set (blk:= .vec t e n λk=>if k=i then ev y else f k) hc e1 e2 e3 e4 e5 (λhle=>by
   refine .vec _ _ _ _ _ _ _ (Mt _ _ _ _ _ hb) (by rw[Lo];exact hcp.1) hcp.2.1 hcp.2.2 λk j hkn hj=>?_
   rw[Ln _ _ _ _ (by simp[hcs];omega)]
   have hlen:(a.eval y).cells.toList.length=e:=by simp[hcs]
   rw[hlen]
   by_cases hki:k=i
   subst hki
   rw[if_pos rfl,if_pos (show k*e<=k*e+j/\k*e+j<k*e+e by omega)]
   have:=hy2.2 j
   rw[show k*e+j-k*e=j by omega]
   have e9:(a.eval y).cells.toList.getD j undef=(a.eval y).cells.getD j undef:=by simp[Array.getD_eq_getD_getElem?]
   rw[e9]
   exact this.up hle
   rw[if_neg (λh=>hki ((wH hj).1 h)),if_neg hki]
   exact(hr k j hkn hj).up hle)
  unfold Oper.wp
  have hexec:(execOp a.eval o).run P E.w= .ok .skip (E.w.setCells (E.π id) (i*e) (a.eval y).cells.toList):=by simp[execOp,ho,hz,hrun]
  rw[hexec]
  exact kc undef { E with w:=_ } r1 r2 (.lit _ _) r3 λi hi=> .inl hi
theorem Ada (g:FuncId) (xs:Array Operand) (ho:o.op= .makeFunc (.func g) #[] xs) (l:List AV) (hl:xs.toList.map ev=l):Cw P B D0 o ev pre (.fn g l) .none:=by
 subst hl
 refine Bc (.inl rfl) λE a c _ _ hv=>⟨.func (.func g) #[] (xs.map a.eval),by simp[execOp,ho,Instr.makeFunc],.fn _ _ _ _ (by simp) λi hi=>?_⟩
 have hi2:i<xs.size:=by simpa using hi
 have e1:(xs.toList.map ev).getD i .top=ev xs[i]:=by simp[hi2]
 have e2:(xs.map a.eval).getD i undef=a.eval xs[i]:=by simp[hi2]
 rw[e1,e2]
 exact hv _ (by simp[ho,Op.operands])
def AV.flat:AV->Bool
 | .lit _| .sl .. | .slc .. | .elt .. | .top=>true
 |_=>false
def AV.free:AV->Bool
 | .agg l| .tup l| .fn _ l=>l.all AV.flat
 |x=>x.flat
theorem VR.flat {E:Ap} {x:AV} {v:Value} (h:VR E x v) (hf:x.flat=true):VR E.fz x v:=by
 cases h with
 |lit=>exact .lit _ _
 |sl0=>exact .sl0 _ _ _ _ _
 |slc _ e n f a c hnc h=>exact .slc _ _ _ _ _ _ hnc (by cases h with
  |sl0=>exact .sl0 _ _ _ _ _
  |sl _ _ _ _ _ _ _ us hn hD hc hr=>exact .sl _ _ _ _ _ _ _ us hn hD hc hr)
 |sl _ _ _ _ _ _ _ us hn hD hc hr=>exact .sl _ _ _ _ _ _ _ us hn hD hc hr
 |elt _ _ _ _ _ us hD hc hr=>exact .elt _ _ _ _ _ us hD hc hr
 |top=>exact .top _ _
 |_=>cases hf
theorem Xy {l:List AV} (h:l.all AV.flat=true) {i:Nat} (hi:i<l.length):(l.getD i .top).flat=true:=by
 have e1:l.getD i .top=l[i]:=by simp[hi]
 rw[e1]
 exact List.all_eq_true.1 h _ (List.getElem_mem _)
theorem VR.free {E:Ap} {x:AV} {v:Value} (h:VR E x v) (hf:x.free=true):VR E.fz x v:=by
 cases h with
 |agg _ l vs hn h=>exact .agg _ _ _ hn λi hi=>(h i hi).flat (Xy hf hi)
 |tup _ l vs hn h=>exact .tup _ _ _ hn λi hi=>(h i hi).flat (Xy hf hi)
 |fn _ g l vs hn h=>exact .fn _ _ _ _ hn λi hi=>(h i hi).flat (Xy hf hi)
 |lit=>exact .lit _ _
 |sl0=>exact .sl0 _ _ _ _ _
 |slc _ e n f a c hnc h=>exact .slc _ _ _ _ _ _ hnc (by cases h with
  |sl0=>exact .sl0 _ _ _ _ _
  |sl _ _ _ _ _ _ _ us hn hD hc hr=>exact .sl _ _ _ _ _ _ _ us hn hD hc hr)
 |sl _ _ _ _ _ _ _ us hn hD hc hr=>exact .sl _ _ _ _ _ _ _ us hn hD hc hr
 |elt _ _ _ _ _ us hD hc hr=>exact .elt _ _ _ _ _ us hD hc hr
 |top=>exact .top _ _
 |_=>cases hf
theorem Uy {f:FuncId} {args:List AV} {r:AV} (hf:AF P f args r) (hcall:∀(vs:Array Value) w,(callFunc f vs).run P w= .ok (.enter f vs) w) (hrun:∀(E:Ap) (a:Act),(∀x,x∈o.op.operands->VR E (ev x) (a.eval x))->∃vs:Array Value,(∀w,(execOp a.eval o).run P w=(callFunc f vs).run P w)/\vs.size=args.length/\∀i,i<args.length->VR E.fz (args.getD i .top) (vs.getD i undef)):Cw P B D0 o ev pre r .none:=by
 refine⟨?_⟩
 intro E a c K Q _ hh _ _ hv k
 obtain⟨vs,h1,h2,h3⟩:=hrun E a hv
 unfold Oper.wp
 rw[h1,hcall]
 show Calls P f vs E.w _
 refine(hf E vs hh.bnd h2 h3).mono ?_
 rintro e w' ⟨v,D',rfl,hr,hb,hd1,hd2,hd3⟩
 have hle:E.le { E with D:=D',w:=w' }:=⟨λ_ h=>h,λ_ _=>rfl,hd1,λb hb'=>hb.block b (hh.bnd b hb'),λ_ _=>rfl⟩
 refine k v { E with D:=D',w:=w' } hle (hb.mono hh.B) hr ⟨λi x hx=>?_,hh.inj,hd3,λi hi=>Nat.lt_of_lt_of_le (hh.abd i hi) hb.size,hh.le0.trans hle,λb hb'=>?_,Nat.le_trans hh.B hb.size⟩ λi hi=> .inl hi
 obtain⟨j1,j2,j3,j4⟩:=hh.live i x hx
 refine⟨j1,j2.up hle (hb.block _ j2.lt),λh=>?_,j4⟩
 rcases hd2 _ h with h|h
 exact j3 h
 have k1:E.π i<E.w.heap.size:=j2.lt
 have k2:E.w.heap.size<=E.π i:=h
 omega
 rcases hd2 b hb' with h|h
 exact hh.new b h
 have:=hh.B
 exact .inr ω
theorem lE (f:FuncId) (xs:Array Operand) (ts:Array TypeId) (ho:o.op= .call { callee:= .value (.func f),args:=xs,argTypes:=ts }) (hcall:∀(vs:Array Value) w,(callFunc f vs).run P w= .ok (.enter f vs) w) (args:List AV) (hargs:xs.toList.map ev=args) (hfree:args.all AV.free=true) (r:AV) (hf:AF P f args r):Cw P B D0 o ev pre r .none:=by
 subst hargs
 refine Uy hf hcall λE a hv=>⟨xs.map a.eval,λw=>by simp[execOp,ho,resolve,Deferred.ofValue,Act.eval,invoke],by simp,λi hi=>?_⟩
 have hi2:i<xs.size:=by simpa using hi
 have e1:(xs.toList.map ev).getD i .top=ev xs[i]:=by simp[hi2]
 have e2:(xs.map a.eval).getD i undef=a.eval xs[i]:=by simp[hi2]
 rw[e1,e2]
 refine(hv _ (by simp[ho,Op.operands,Call.operands])).free ?_
 have:=List.all_eq_true.1 hfree _ (List.getElem_mem (l:=xs.toList.map ev) hi)
 simpa using this
theorem dX (x:Operand) (f:FuncId) (xs:Array Operand) (ts:Array TypeId) (ho:o.op= .call { callee:= .value x,args:=xs,argTypes:=ts }) (caps:List AV) (hx:ev x= .fn f caps) (hcall:∀(vs:Array Value) w,(callFunc f vs).run P w= .ok (.enter f vs) w) (args:List AV) (hargs:xs.toList.map ev++caps=args) (hfree:args.all AV.free=true) (r:AV) (hf:AF P f args r):Cw P B D0 o ev pre r .none:=by
 subst hargs
 refine Uy hf hcall λE a hv=>?_
 have h:=hv x (by simp[ho,Op.operands,Call.operands])
 rw[hx] at h
 generalize hz:a.eval x=z at h
 cases h with
 |fn _ _ _ vs hn hr=>
  refine⟨xs.map a.eval++vs,λw=>by simp[execOp,ho,resolve,Deferred.ofValue,hz,invoke],by simp[hn],λi hi=>?_⟩
  by_cases hi1:i<xs.size
  have e1:(xs.toList.map ev++caps).getD i .top=ev xs[i]:=by simp[List.getElem?_append,hi1]
  have e2:(xs.map a.eval++vs).getD i undef=a.eval xs[i]:=by simp[Array.getD_eq_getD_getElem?,Array.getElem?_append,hi1]
  rw[e1,e2]
  refine(hv _ (by simp[ho,Op.operands,Call.operands])).free ?_
  have:=List.all_eq_true.1 hfree (ev xs[i]) (List.mem_append_left _ (List.mem_map.2 ⟨xs[i],by simp,rfl⟩))
  exact this
  have hi3:i-xs.size<caps.length:=by simp at hi;omega
  have e1:(xs.toList.map ev++caps).getD i .top=caps.getD (i-xs.size) .top:=by simp[List.getElem?_append,hi1]
  have e2:(xs.map a.eval++vs).getD i undef=vs.getD (i-xs.size) undef:=by simp[Array.getD_eq_getD_getElem?,Array.getElem?_append,hi1]
  rw[e1,e2]
  refine(hr _ hi3).free ?_
  have e3:caps.getD (i-xs.size) .top=caps[i-xs.size]:=by simp[hi3]
  rw[e3]
  exact List.all_eq_true.1 hfree _ (List.mem_append_right _ (List.getElem_mem _))
end Go.Proofs.YtbggmndaahbojaaGreat
namespace Go.Proofs.YtbggmndaahbojaaGreat
open Go.RowKit
def rJ (F:Fence) (n:Nat) (P:Program) (c:Code) (Q:Exit->Act->World->Prop) (a:Act) (w:World):Prop:=
 ∀(b:Frame) (k:List Item) (cs:List Frame),b.roundOf=F.round->F.fn b.fn->F.room (cs.length+1+n)->
  ∃e a' w',Q e a' w'/\ArrivesIn (Machine.fenced P F) P (lone (b.atR a (.code c:: .inLoop c::k)) cs w) b k cs e a' w'
theorem kZ {F:Fence} {n:Nat} {P:Program} {Q:Exit->Act->World->Prop} {a:Act} {w:World} {c:Code} (h:rJ F n P c Q a w):(Code.loop c).wpIn F n P Q a w:=by
 intro b k cs hro hb hr
 obtain⟨e,a',w',hq,harr⟩:=h b k cs hro hb hr
 exact⟨e,a',w',hq,.of_steps (.one (fenced_calm hb hr rfl) stepR_loop) harr⟩
theorem lA {F:Fence} {n:Nat} {P:Program} {Q:Exit->Act->World->Prop} {a:Act} {w:World} {c:Code} (h:c.wpIn F n P (Exit.then (rJ F n P c Q) Q) a w):rJ F n P c Q a w:=by
 intro b k cs hro hb hr
 obtain⟨e,a₁,w₁,hq,harr⟩:=h b (.inLoop c::k) cs hro hb hr
 cases e with
 |normal=>
  obtain⟨e₂,a₂,w₂,hq₂,harr₂⟩:=hq b k cs hro hb hr
  exact⟨e₂,a₂,w₂,hq₂,.of_steps (StepsIn.trans harr (.one (fenced_calm hb hr rfl) stepR_inLoop)) harr₂⟩
 |exit id=>exact⟨_,a₁,w₁,hq,.pass (x:= .inLoop c) rfl (λ_ _=> .inl (by simp)) harr⟩
 |goto l=>exact⟨_,a₁,w₁,hq,.pass (x:= .inLoop c) rfl (λ_ _=> .inl (by simp)) harr⟩
 |ret=>exact⟨_,a₁,w₁,hq,.pass (x:= .inLoop c) rfl (λ_ _=> .inl (by simp)) harr⟩
 |panic ch=>exact⟨_,a₁,w₁,hq,.pass (x:= .inLoop c) rfl (λ_ _=> .inl (by simp)) harr⟩
 |outgrown=>exact⟨_,a₁,w₁,hq,.pass (x:= .inLoop c) rfl (λ_ _=> .inl (by simp)) harr⟩
structure ALW (P:Program) (R:Option Nat) (B:Nat) (D0:Ap) (c:Code) (s:St) (Q:Exit->St->Prop):Prop where
 run:∀(E:Ap) (a:Act) (w0:World),Hv B D0 E s a->Below B w0 E.w->rJ (Ph R) 0 P c (λe a' w'=>∃s' E',E'.w=w'/\Q e s'/\Hv B D0 E' s' a'/\Below B w0 w') a E.w
variable {P:Program} {R:Option Nat} {B:Nat} {D0:Ap} {s:St} {Q:Exit->St->Prop} {c:Code}
theorem zE (h:ALW P R B D0 c s Q):AC P R B D0 (.loop c) s Q:=⟨λE a hs=>kZ (h.run E a E.w hs Ψ)⟩
theorem cO (h:AC P R B D0 c s (oB (λs1=>ALW P R B D0 c s1 Q) Q)):ALW P R B D0 c s Q:=⟨λE a w0 hs hb=>lA (Cq (λe a' w' ⟨s',E',h1,h2,h3,h4⟩=>by
 subst h1
 cases e with
 |normal=>exact h2.run E' a' w0 h3 (hb.trans h4)
 |_=>exact⟨s',E',rfl,h2,h3,hb.trans h4⟩) (h.run E a hs))⟩
end Go.Proofs.YtbggmndaahbojaaGreat