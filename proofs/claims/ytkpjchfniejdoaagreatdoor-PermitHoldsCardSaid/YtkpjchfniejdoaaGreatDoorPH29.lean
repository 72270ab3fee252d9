/- Part 29 of the proof of PH.card_holds: no condition beyond the row's. -/
import Derived.Test.YtkpjchfniejdoaaGreatDoorPH28
import Derived.Laws.Concat
import Derived.Laws.Strings2
set_option maxRecDepth 100000
set_option maxHeartbeats 40000000
namespace Go.Proofs.YtkpjchfniejdoaaGreatDoor
open Go.RowKit
abbrev BS (l:List UInt8):ByteArray:=⟨l.toArray⟩
abbrev SA (l:List UInt8):AV:= .lit (.string (BS l))
section
variable {P:Program} {R:Option Nat} {B:Nat} {D0:As} {o:Oper} {ev:Operand->AV} {pre:Nat->Option Aw}
theorem Dg (T T':TypeId) (x y:Operand) (a b:List UInt8) (ho:o.op= .binOp .add T x y T') (hx:ev x=SA a) (hy:ev y=SA b) (hs:a.length+b.length<=8388608):Dl P B D0 o ev pre (SA (a++b)) .none:=by
 refine Bj (.inl rfl) λE ac c _ _ hv=>⟨.string (BS (a++b)),?_,.lit _ _⟩
 have h1:=hv x (by simp[ho,Op.operands])
 have h2:=hv y (by simp[ho,Op.operands])
 rw[hx] at h1
 rw[hy] at h2
 have h1:=h1.lit_inv
 have h2:=h2.lit_inv
 have h3:=run_string_add_lists (P:=P) E.w a b ω ω
 simp[execOp,ho,h1,h2,binOp,eqGuard,h3]
theorem dX (T:TypeId) (x y z:Operand) (s:ByteArray) (a b:Nat) (i j:Int) (ho:o.op= .slice T x (some y) (some z) none) (hu:P.underlying T=some .string) (hx:ev x= .lit (.string s)) (hy:ev y= .int i) (hz:ev z= .int j) (hi:i=(a:Int)) (hj:j=(b:Int)) (h1:a<=b) (h2:b<=s.size):Dl P B D0 o ev pre (.lit (.string (s.extract a b))) .none:=by
 subst hi hj
 refine Bj (.inl rfl) λE ac c _ _ hv=>⟨.string (s.extract a b),?_,.lit _ _⟩
 have e1:=hv x (by simp[ho,Op.operands])
 have e2:=hv y (by simp[ho,Op.operands])
 have e3:=hv z (by simp[ho,Op.operands])
 rw[hx] at e1
 rw[hy] at e2
 rw[hz] at e3
 have e1:=e1.lit_inv
 have e2:=e2.lit_inv
 have e3:=e3.lit_inv
 have h:=run_slice_string (P:=P) E.w T s .i64 .i64 (a:Int) (b:Int) hu ω ω ω
 simp[execOp,ho,e1,e2,e3,run_sliceAt_string _ _ _ _ _ _ hu,h]
end
def AFE {ι:Type} (T:As->Prop) (P:Program) (f:FuncId) (args:List AV) (V:ι->AV):Prop:=
 ∀(E:As) (vs:Array Value),T E->(∀b,E.D b->b<E.w.heap.size)->vs.size=args.length->(∀i,i<args.length->VR E.fz (args.getD i .top) (vs.getD i undef))->
  Calls P f vs E.w λe w'=>∃j v D',e= .returned v/\VR { E with D:=D',w:=w' } (V j) v/\Below E.w.heap.size E.w w'/\(∀b,E.D b->D' b)/\(∀b,D' b->E.D b\/E.w.heap.size<=b)/\(∀b,D' b->b<w'.heap.size)
theorem AfQ {P:Program} {R:Option Nat} {B:Nat} {D0:As} {Q:Exit->St->Prop} {s:St} {ops:Array Oper} {o:Oper} {rest:List Oper} {ι:Type} {T:As->Prop} (hs:Lz T) (hT:T D0) (hg:o.guard=none) (hdn:Mn o s.n=true) (f:FuncId) (xs:Array Operand) (ts:Array TypeId) (ho:o.op= .call { callee:= .value (.func f),args:=xs,argTypes:=ts }) (hcall:∀(vs:Array Value) w,(callFunc f vs).run P w= .ok (.enter f vs) w) (args:List AV) (hargs:xs.toList.map s.ev=args) (hfree:args.all AV.free=true) (V:ι->AV) (hf:AFE T P f args V) (hk:∀j,AL P R B D0 ops rest ⟨Lv s.t o.dst (V j),s.h,s.nx,s.n⟩ Q):AL P R B D0 ops (o::rest) s Q:=by
 subst hargs
 intro E a w0 hs0 hb
 refine wpListIn_plain hg λK hK=>Rk (Yo hdn) ?_
 have hh:=hs0.h
 unfold Oper.wp
 rw[show (execOp a.eval o).run P E.w=(callFunc f (xs.map a.eval)).run P E.w by simp[execOp,ho,resolve,Deferred.ofValue,Act.eval,invoke],hcall]
 show Calls P f _ E.w _
 refine(hf E (xs.map a.eval) (hs.up hh.le0 hT) hh.bnd (by simp) λi hi=>?_).mono ?_
 have hi2:i<xs.size:=by simpa using hi
 have e1:(xs.toList.map s.ev).getD i .top=s.ev xs[i]:=by simp[hi2]
 have e2:(xs.map a.eval).getD i undef=a.eval xs[i]:=by simp[hi2]
 rw[e1,e2]
 refine(hs0.ev _).free ?_
 have:=List.all_eq_true.1 hfree _ (List.getElem_mem (l:=xs.toList.map s.ev) hi)
 simpa using this
 rintro e w' ⟨j,v,D',rfl,hr,hbl,hd1,hd2,hd3⟩
 have hle:E.le { E with D:=D',w:=w' }:=⟨λ_ h=>h,λ_ _=>rfl,hd1,λb hb'=>hbl.block b (hh.bnd b hb'),λ_ _=>rfl⟩
 have hbl':Below B E.w w':=hbl.mono hh.B
 refine hK _ _ (hk j { E with D:=D',w:=w' } _ w0 (hs0.put (f:= .none) hle hr ⟨λi x hx=>?_,hh.inj,hd3,λi hi=>Nat.lt_of_lt_of_le (hh.abd i hi) hbl.size,hh.le0.trans hle,λb hb'=>?_,Nat.le_trans hh.B hbl.size⟩ (λi hi=> .inl hi) rfl (Sf hdn)) (hb.trans hbl'))
 obtain⟨j1,j2,j3,j4⟩:=hh.live i x hx
 refine⟨j1,j2.up hle (hbl.block _ j2.lt),λh=>?_,j4⟩
 rcases hd2 _ h with h|h
 exact j3 h
 have k1:E.π i<E.w.heap.size:=j2.lt
 have k2:E.w.heap.size<=E.π i:=h
 omega
 rcases hd2 b hb' with h|h
 exact hh.new b h
 have:=hh.B
 exact .inr ω
theorem Arn {P:Program} {R:Option Nat} {B:Nat} {D0:As} {Q:Exit->St->Prop} {c:Bu} {T:As->Prop} {ι:Type} (hT:Lz T/\T D0) {f:FuncId} {args:List AV} {V:ι->AV} (hf:AFE T P f args V) (hk:∀j,Go P R B D0 Q (c.put (V j) .none)) (ho:c.o.op= .call { callee:= .value (.func f),args:=c.xs,argTypes:=c.ts }) (hargs:c.xs.toList.map c.s.ev=args) (hfree:args.all AV.free=true) (hok:c.ok=true) (hg:c.o.guard=none) (hcall:∀(vs:Array Value) w,(callFunc f vs).run P w= .ok (.enter f vs) w):Go P R B D0 Q c:=by
 obtain⟨m,k,s⟩:=c
 cases m with
 |code x=>cases hok
 |out e=>cases hok
 |ops a l=>
  cases l with
  |nil=>cases hok
  |cons o l=>
   have hok:(cT a s o==some true&&Mn o s.n)=true:=hok
   obtain⟨h1,h2⟩:=Bool.and_eq_true_iff.1 hok
   exact⟨AfQ hT.1 hT.2 hg h2 f _ _ ho hcall args hargs hfree V hf λj=>(hk j).m⟩
end Go.Proofs.YtkpjchfniejdoaaGreatDoor