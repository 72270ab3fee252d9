/- Part 24 of the proof of PH.card_holds: no condition beyond the row's. -/
import Derived.Test.YtkpjchfniejdoaaGreatDoorPH23
import Derived.RecoverIn
set_option maxRecDepth 100000
set_option maxHeartbeats 40000000
namespace Go.Proofs.YtkpjchfniejdoaaGreatDoor
open Go.Proofs.Tryz
open Go.RowKit
theorem AfR {B:Nat} {D0:As} {Q:Exit->St->Prop} {s:St} {ops:Array Oper} {o:Oper} {rest:List Oper} (hg:o.guard=none) (hd:o.dst=none) (f:FuncId) (l:List AV) (x:Operand) (ho:o.op= .defer { callee:= .value x,args:=#[],argTypes:=#[] }) (hx:s.ev x= .fn f l) (hi:∀vs:Array Value,vs.size=l.length->Akf ⟨.fn (.func f) vs,#[]⟩) (hk:AL Tryz.prog none B D0 ops rest s Q):AL Tryz.prog none B D0 ops (o::rest) s Q:=by
 intro E a w0 hs hb
 have hv:=hs.ev x
 rw[hx] at hv
 generalize hz:a.eval x=z at hv
 cases hv with
 |fn _ _ _ vs hn h=>
  obtain⟨ms,m1,m2,m3⟩:=hs.df
  refine wpListIn_plain hg λK hK=>⟨λ_ _=>trivial,?_⟩
  rw[show (Pa none).round=none from rfl,Oper.semAt_none,show (execOp a.eval o).run Tryz.prog E.w= .ok (.defer ⟨.fn (.func f) vs,#[]⟩) E.w by simp[execOp,ho,resolve,Deferred.ofValue,hz],Oper.uponIn_defer,hd]
  exact hK _ _ (hk E { a with defers:=_::a.defers } w0 ⟨hs.size,⟨ms,.idle (hi vs hn) m1,m2,m3⟩,hs.t,hs.h,hs.A⟩ hb)
def Bu.okD (c:Bu):Bool:=match c.m with| .ops _ (o::_)=>o.guard.isNone&&o.dst.isNone|_=>false
def Bu.dx (c:Bu):Operand:=match c.o.op with| .defer cl=>(match cl.callee with| .value x=>x|_=>default)|_=>default
theorem Aro {B:Nat} {D0:As} {Q:Exit->St->Prop} {c:Bu} (f:FuncId) (l:List AV) (hi:∀vs:Array Value,vs.size=l.length->Akf ⟨.fn (.func f) vs,#[]⟩) (hk:Go Tryz.prog none B D0 Q (c.put .undef .none)) (ho:c.o.op= .defer { callee:= .value c.dx,args:=#[],argTypes:=#[] }:=by kernel_rfl) (hx:c.s.ev c.dx= .fn f l:=by kernel_rfl) (hok:c.okD=true:=by kernel_rfl):Go Tryz.prog none B D0 Q c:=by
 obtain⟨m,k,s⟩:=c
 cases m with
 |code x=>cases hok
 |out e=>cases hok
 |ops a l=>
  cases l with
  |nil=>cases hok
  |cons o l=>
   have hok:(o.guard.isNone&&o.dst.isNone)=true:=hok
   obtain⟨h1,h2⟩:=Bool.and_eq_true_iff.1 hok
   have hd:o.dst=none:=by simpa using h2
   refine⟨AfR (by simpa using h1) hd f _ _ ho hx hi ?_⟩
   have hm:=hk.m
   have e:(⟨Lv s.t o.dst .undef,s.h,s.nx,s.n⟩:St)=s:=by rw[hd];rfl
   show AL Tryz.prog none B D0 a l s _
   rw[<-e]
   exact hm
theorem Ku {P:Program} {B:Nat} {D0:As} {o:Oper} {ev:Operand->AV} {pre:Nat->Option Aw} {T:As->Prop} (hT:Lz T/\T D0) (f:FuncId) (xs:Array Operand) (ts:Array TypeId) (ho:o.op= .call { callee:= .value (.func f),args:=xs,argTypes:=ts }) (hcall:∀(vs:Array Value) w,(callFunc f vs).run P w= .ok (.enter f vs) w) (id:Nat) (blk:Aw) (hp:pre id=some blk) (hfl:∀t e n f,blk= .vec t e n f->∀i,i<n->∀j,j<e->((f i).cell j).flat=true) (Cy:List AV) (hargs0:xs.toList.map ev=Cy) (args:List AV) (hargs:Cy.map (oM id blk)=args) (r:Value) (hf:Vf T P f args (.lit r)):Dl P B D0 o ev pre (.lit r) (.read id):=by
 subst hargs
 subst hargs0
 refine⟨?_⟩
 intro E a c K Q _ hh htch _ hv k
 have hc:=(htch id (by simp[Bl.touch])).trans hp
 unfold Oper.wp
 rw[show (execOp a.eval o).run P E.w=(callFunc f (xs.map a.eval)).run P E.w by simp[execOp,ho,resolve,Deferred.ofValue,Act.eval,invoke],hcall]
 show Calls P f _ E.w _
 refine(hf (E.fr id) (xs.map a.eval) (hT.1.up (hh.le0.trans (E.le_fr id)) hT.2) (λb hb=>?_) (by simp) λi hi=>?_).mono ?_
 rcases hb with hb|hb
 exact hh.bnd b hb
 rw[hb];exact(hh.live id _ hc).2.1.lt
 have hi2:i<xs.size:=by simpa using hi
 have e1:((xs.toList.map ev).map (oM id blk)).getD i .top=oM id blk (ev xs[i]):=by simp[hi2]
 have e2:(xs.map a.eval).getD i undef=a.eval xs[i]:=by simp[hi2]
 rw[e1,e2]
 exact oN hh hc hfl (hv _ (by simp[ho,Op.operands,Call.operands]))
 rintro e w' ⟨v,D',rfl,hr,hb,hd1,hd2,hd3⟩
 have hz:(E.fr id).w=E.w:=rfl
 rw[hz] at hb
 have hle:E.le { E with w:=w' }:=⟨λ_ h=>h,λ_ _=>rfl,λ_ h=>h,λb hb'=>hb.block b (hh.bnd b hb'),λ_ _=>rfl⟩
 have hV:VR { E with w:=w' } (.lit r) v:=by
  have:=hr.lit_inv
  rw[this];exact .lit _ _
 refine k v { E with w:=w' } hle (hb.mono hh.B) hV ⟨λi x hx=>?_,hh.inj,λb hb'=>Nat.lt_of_lt_of_le (hh.bnd b hb') hb.size,λi hi=>Nat.lt_of_lt_of_le (hh.abd i hi) hb.size,hh.le0.trans hle,hh.new,Nat.le_trans hh.B hb.size⟩ λi hi=> .inl hi
 obtain⟨j1,j2,j3,j4⟩:=hh.live i x hx
 exact⟨j1,j2.up hle (hb.block _ j2.lt),j3,j4⟩
theorem zM (vs:Array Value) (hn:vs.size=2):Akf ⟨.fn (.func 20) vs,#[]⟩:=by
 obtain⟨p,q,rfl⟩:∃p q,vs=#[p,q]:=by
  obtain⟨l⟩:=vs
  match l,hn with
  |[p,q],_=>exact⟨p,q,rfl⟩
 refine⟨_,_,20,#[p,q],rfl,λw=>⟨by simp[go_sem],?_⟩⟩
 refine callsDIn_of_wpSIn func20 rfl trivial λc₀ cs hu=>?_
 apply wpSIn_seq
 apply wpSIn_region
 simp[wpOpsSIn,go_sem,recoverD,hu,ntmps20,Exit.thenS]
 refine wpSIn_of_wpIn rfl ?_
 simp only[Array.replicate_succ,Array.replicate_zero,List.push_toArray,List.append_toArray,List.nil_append,List.cons_append,List.setIfInBounds_toArray,List.set_cons_succ,List.set_cons_zero]
 gi_wp2
 cases c₀
 simp_all [bodyPostS,results,results20]
end Go.Proofs.YtkpjchfniejdoaaGreatDoor