/- Part 20 of the proof of IB.row_holds: no condition beyond the row's. -/
import Derived.Test.YtbggmndaahbojaaGreatIb19
import Derived.Shelf.GgSortFunc.RowK
import Derived.Sort.Grow
import Derived.Test.YtbggmndaahbojaaGreatRows
import Derived.LaidMore
import Derived.OpenShut
import Derived.ShutString
import Derived.ChangeOld
import Derived.Lib.LaidTab
import Derived.Stop.Joined
import Derived.HandedShaped
import Derived.Deep.Fields
set_option maxRecDepth 100000
set_option maxHeartbeats 40000000
namespace Go.Proofs.YtbggmndaahbojaaGreat
open Go.Proofs.Tryz
open Go.RowKit
open Go.Sort hiding Below
def AFW {α:Type} [Inhabited α] (P:Program) (f:FuncId) (k:Nat) (enc:α->List Value) (d d':Array α) (ys:List Value):Prop:=
 ∀(blk off cap:Nat) (w:World),HoldsK enc k w blk off d->blk<w.heap.size->
  Calls P f (#[.slice (some ⟨blk,off,none⟩) d.size cap]++ys.toArray) w λe w'=>e= .returned (.tuple #[])/\∃q os,w'=grow (putRowK enc k (Sort.ahead w q) blk off d') os
theorem AbS {α:Type} [Inhabited α] (enc:α->List Value) (k:Nat) (d:Array α) (i j:Nat) (hi:i<d.size) (hj:j<k):(flatK enc k d)[i*k+j]! =(enc d[i]!)[j]! :=by
 have h1:i*k+j<d.size*k:=by
  have:=Nat.mul_le_mul_right k (show i+1<=d.size from hi)
  rw[Nat.succ_mul] at this;omega
 rw[get_flatK enc k d _ h1]
 have e1:(i*k+j)/k=i:=by rw[Nat.mul_comm,Nat.mul_add_div ω,Nat.div_eq_of_lt hj,Nat.add_zero]
 have e2:(i*k+j)%k=j:=by rw[Nat.mul_comm,Nat.mul_add_mod,Nat.mod_eq_of_lt hj]
 rw[e1,e2]
theorem Yw {w:World} {os:Array Obj} {b:Nat} (h:b<w.heap.size):(grow w os).heap[b]?=w.heap[b]?:=by
 show (w.heap++os)[b]?=_
 rw[Array.getElem?_append_left h]
theorem hP {α:Type} [Inhabited α] {enc:α->Value} {w:World} {blk off:Nat} {d:Array α} {c:Array Value} {t:TypeId} {fr:Nat×Nat} (h:w.heap[blk]?=some (.cells c t fr)):(putRow enc w blk off d).heap[blk]?=some (.cells (putCells enc off d c) t fr):=by
 simp[putRow,mapBlock,Array.getElem?_modify,h,onCells]
theorem hZ {α:Type} [Inhabited α] {enc:α->Value} {w:World} {blk off b:Nat} {d:Array α} (h:b≠blk):(putRow enc w blk off d).heap[b]?=w.heap[b]?:=by
 simp[putRow,mapBlock,Array.getElem?_modify,Ne.symm h]
theorem lN {enc:Value->Value} {off:Nat} {d c:Array Value} {k:Nat} (hk:k<c.size):(putCells enc off d c).getD k undef=if off<=k/\k<off+d.size then enc d[k-off]!else c.getD k undef:=by
 simp[putCells,Array.getD_eq_getD_getElem?,hk]
theorem bQ {enc:Value->Value} {off:Nat} {d c:Array Value}:(putCells enc off d c).size=c.size:=by simp[putCells]
def AV.isWin (id e q n:Nat):AV->Prop
 | .osl i e' n'=>i=id/\e'=e/\q=0/\n'=n
 | .osw i e' o n'=>i=id/\e'=e/\o=q/\n'=n/\0<n
 |_=>False
theorem AfU {E:Ap} {x:AV} {v:Value} {id e q n:Nat} (hx:x.isWin id e q n) (h:VR E x v):∃c,v= .slice (some ⟨E.π id,q*e,none⟩) n c:=by
 cases x with
 |osl i e' n'=>
  obtain⟨rfl,rfl,rfl,rfl⟩:=hx
  cases h with
  |osl=>exact⟨E.cap i,by rw[Nat.zero_mul]⟩
 |osw i e' o n'=>
  obtain⟨rfl,rfl,rfl,rfl,h0⟩:=hx
  cases h with
  |osw _ _ _ _ _ a c hA ha=>exact⟨c,by rw[ha h0]⟩
 |_=>exact hx.elim
theorem dY {α:Type} [Inhabited α] {P:Program} {B:Nat} {D0:Ap} {o:Oper} {ev:Operand->AV} {pre:Nat->Option Ar} (f:FuncId) (xs:Array Operand) (ts:Array TypeId) (ho:o.op= .call { callee:= .value (.func f),args:=xs,argTypes:=ts }) (hcall:∀(vs:Array Value) w,(callFunc f vs).run P w= .ok (.enter f vs) w) (id e q m:Nat) (t:TypeId) (F F':Nat->AV) (hp:pre id=some (.vec t e m F)) (enc:α->List Value) (d d':Array α) (hds:d'.size=d.size) (hqm:q+d.size<=m) (X:AV) (hX:X.isWin id e q d.size) (ys:List AV) (vs:List Value) (hargs:xs.toList.map ev=X::ys) (hlen:vs.length=ys.length) (has:∀i,i<ys.length->∀E v,VR E (ys.getD i .top) v->v=vs.getD i undef)
  (hF:∀i j,i<d.size->j<e->(F (q+i)).cell j= .lit ((enc d[i]!)[j]!)) (hF1:∀i,i<m->(i<q\/q+d.size<=i)->F' i=F i) (hF2:∀i j,i<d.size->j<e->(F' (q+i)).cell j= .lit ((enc d'[i]!)[j]!)) (hf:AFW P f e enc d d' vs):Cw P B D0 o ev pre (.lit (.tuple #[])) (.set id (.vec t e m F')):=by
 refine⟨?_⟩
 intro E a c K Q _ hh htch _ hv k
 have hc:=(htch id (by simp[Ba.touch])).trans hp
 obtain⟨l1,l2,l3,l4⟩:=hh.live id _ hc
 generalize hbe:E.π id=b at l2 l3 l4
 generalize hcpe:E.cap id=cp at l2
 cases l2 with
 |vec _ _ _ _ _ _ arr ha hn hcp hmx hr=>
 have hblt:b<E.w.heap.size:=(Ξ ha).1
 have hqe:∀i j,i<d.size->j<e->q*e+(i*e+j)=(q+i)*e+j/\(q+i)*e+j<arr.size:=λi j hi hj=>by
  have h1:=Nat.mul_le_mul_right e (show q+i+1<=cp by omega)
  rw[Nat.succ_mul] at h1
  rw[Nat.add_mul] at h1 ⊢
  omega
 have hH:HoldsK enc e E.w b (q*e) d:=λs hs=>by
  rw[size_flatK] at hs
  by_cases he:e=0
  subst he;simp at hs
  have hi:s/e<d.size:=Nat.div_lt_of_lt_mul (by rw[Nat.mul_comm];exact hs)
  have hj:s%e<e:=Nat.mod_lt _ ω
  have hsd:s/e*e+s%e=s:=by rw[Nat.mul_comm];exact Nat.div_add_mod s e
  obtain⟨k1,k2⟩:=hqe (s/e) (s%e) hi hj
  rw[hsd] at k1
  have h3:=hr (q+s/e) (s%e) ω hj
  rw[hF _ _ hi hj] at h3
  have h4:=h3.lit_inv
  have h5:(flatK enc e d)[s]! =(enc d[s/e]!)[s%e]! :=get_flatK enc e d s hs
  refine⟨?_,by unfold World.frozen?;rw[ha];simp⟩
  rw[show (_root_.id (flatK enc e d)[s]! :Value)=(flatK enc e d)[s]!from rfl,h5,<-h4,k1]
  exact Ii ha (by exact k2)
 have hat:∀i (hi:i<xs.size),VR E ((X::ys).getD i .top) (a.eval xs[i]):=λi hi=>by
  rw[<-hargs]
  have e1:(xs.toList.map ev).getD i .top=ev xs[i]:=by simp[hi]
  rw[e1]
  exact hv _ (by simp[ho,Op.operands,Call.operands])
 have hxn:xs.size=ys.length+1:=by have:=congrArg List.length hargs;simpa using this
 obtain⟨cx,hcx⟩:=AfU hX (hat 0 ω)
 rw[hbe] at hcx
 have hargv:xs.map a.eval=#[.slice (some ⟨b,q*e,none⟩) d.size cx]++vs.toArray:=by
  apply Array.ext
  simp[hxn,hlen]
  intro i h1 h2
  have h1:i<xs.size:=by simpa using h1
  cases i with
  |zero=>simp[hcx]
  |succ i=>
   have h3:=has i ω E _ (hat (i+1) h1)
   have h4:i<vs.length:=by omega
   simp[h3,h4]
 unfold Oper.wp
 rw[show (execOp a.eval o).run P E.w=(callFunc f (xs.map a.eval)).run P E.w by simp[execOp,ho,resolve,Deferred.ofValue,Act.eval,invoke],hcall,hargv]
 show Calls P f _ E.w _
 refine(hf b (q*e) cx E.w hH hblt).mono ?_
 rintro r w' ⟨rfl,qd,os,rfl⟩
 have hz:(putRowK enc e (Sort.ahead E.w qd) b (q*e) d').heap.size=E.w.heap.size:=by simp[putRowK,putRow,mapBlock,Sort.ahead]
 have hoth:∀i,i≠b->i<E.w.heap.size->(grow (putRowK enc e (Sort.ahead E.w qd) b (q*e) d') os).heap[i]?=E.w.heap[i]?:=λi hi hlt=>by
  rw[Yw (by rw[hz];exact hlt)]
  exact hZ hi
 have hown:(grow (putRowK enc e (Sort.ahead E.w qd) b (q*e) d') os).heap[b]?=some (.cells (putCells _root_.id (q*e) (flatK enc e d') arr) t (0,0)):=by
  rw[Yw (by rw[hz];exact hblt)]
  exact hP (w:=Sort.ahead E.w qd) ha
 have hsz:E.w.heap.size<=(grow (putRowK enc e (Sort.ahead E.w qd) b (q*e) d') os).heap.size:=by
  show _<=((putRowK enc e (Sort.ahead E.w qd) b (q*e) d').heap++os).size
  rw[Array.size_append,hz];omega
 generalize hW:grow (putRowK enc e (Sort.ahead E.w qd) b (q*e) d') os=W at hoth hown hsz
 have h0:W.os=E.w.os/\W.tape=E.w.tape/\W.output=E.w.output:=by rw[<-hW];exact⟨rfl,rfl,rfl⟩
 have hle:E.le { E with w:=W }:=⟨λ_ h=>h,λ_ _=>rfl,λ_ h=>h,λi hb'=>hoth i (λe1=>l3 (e1▸hb')) (hh.bnd i hb'),λ_ _=>rfl⟩
 refine k (.tuple #[]) { E with w:=W } hle ⟨h0.1,h0.2.1,h0.2.2,hsz,λi hb'=>hoth i ω (by have:=hh.B;omega)⟩ (.lit _ _) ⟨λi x hx=>?_,λi j x y hx hy hne=>?_,λi hb'=>Nat.lt_of_lt_of_le (hh.bnd i hb') hsz,λi hi=>Nat.lt_of_lt_of_le (hh.abd i hi) hsz,hh.le0.trans hle,hh.new,Nat.le_trans hh.B hsz⟩ λi hi=> .inl hi
 have hx2:(if id=i then some (Ar.vec t e m F') else c i)=some x:=hx
 by_cases e1:id=i
 subst e1
 rw[if_pos rfl] at hx2
 cases hx2
 refine⟨l1,?_,by show ¬E.D (E.π id);rw[hbe];exact l3,by show B<=E.π id;rw[hbe];exact l4⟩
 show BR { E with w:=W } _ (E.π id) (E.cap id)
 rw[hbe,hcpe]
 refine .vec _ _ _ _ _ _ (putCells _root_.id (q*e) (flatK enc e d') arr) hown (by rw[bQ];exact hn) hcp hmx λi j hi hj=>?_
 have hlt:i*e+j<arr.size:=by
  have h1:=Nat.mul_le_mul_right e (show i+1<=cp by omega)
  rw[Nat.succ_mul] at h1
  omega
 rw[lN hlt,size_flatK,hds]
 by_cases hin:q<=i/\i<q+d.size
 obtain⟨s,rfl⟩:∃s,i=q+s:=⟨i-q,ω⟩
 have hs:s<d.size:=by omega
 obtain⟨k1,k2⟩:=hqe s j hs hj
 have h6:s*e+j<d.size*e:=by
  have h1:=Nat.mul_le_mul_right e (show s+1<=d.size by omega)
  rw[Nat.succ_mul] at h1;omega
 rw[if_pos ⟨ω,ω⟩,<-k1,Nat.add_sub_cancel_left,hF2 s j hs hj]
 rw[show (_root_.id (flatK enc e d')[s*e+j]! :Value)=(flatK enc e d')[s*e+j]!from rfl,AbS enc e d' s j ω hj]
 exact .lit _ _
 have h7:¬(q*e<=i*e+j/\i*e+j<q*e+d.size*e):=by
  rintro⟨g1,g2⟩
  apply hin
  constructor
  refine Nat.le_of_not_lt λg3=>?_
  have h1:=Nat.mul_le_mul_right e (show i+1<=q by omega)
  rw[Nat.succ_mul] at h1;omega
  refine Nat.lt_of_not_le λg3=>?_
  have h1:=Nat.mul_le_mul_right e g3
  rw[Nat.add_mul] at h1;omega
 rw[if_neg h7,hF1 i hi ω]
 exact(hr i j hi hj).up hle
 rw[if_neg e1] at hx2
 obtain⟨j1,j2,j3,j4⟩:=hh.live i x hx2
 exact⟨j1,j2.up hle (hoth _ (by rw[<-hbe];exact hh.inj i id x _ hx2 hc (λe=>e1 e.symm)) j2.lt),j3,j4⟩
 have real:∀q' z,(if id=q' then some (Ar.vec t e m F') else c q')=some z->∃z',c q'=some z':=λq' z hz=>by
  by_cases e:id=q'
  subst e;exact⟨_,hc⟩
  rw[if_neg e] at hz;exact⟨z,hz⟩
 obtain⟨x',hx'⟩:=real i x hx
 obtain⟨y',hy'⟩:=real j y hy
 exact hh.inj i j x' y' hx' hy' hne
theorem xM {P:Program} {B:Nat} {D0:Ap} {o:Oper} {ev:Operand->AV} {pre:Nat->Option Ar} {id nid e n n':Nat} {t:TypeId} {F:Nat->AV} (h:Cw P B D0 o ev pre (.osl nid e n) (.grow id nid (.vec t e n F))) (hn:n=n'):Cw P B D0 o ev pre (.osl nid e n') (.grow id nid (.vec t e n' F)):=hn▸h
theorem pK {P:Program} {B:Nat} {D0:Ap} {o:Oper} {ev:Operand->AV} {pre:Nat->Option Ar} (x:Operand) (T:TypeId) (ts:Array TypeId) (ho:o.op= .call { callee:= .builtin .clear,args:=#[x],argTypes:=ts }) (hts:ts=#[T]) (id e q n m:Nat) (t el:TypeId) (F:Nat->AV) (hu:P.underlying T=some (.slice el)) (z:Value) (hz:∀w,(zeroValue el).run P w= .ok z w) (hze:z.cells.size=e) (hz1:z.cells.toList.all (·.oneCell')=true) (hp:pre id=some (.vec t e m F)) (hx:ev x= .osw id e q n) (hqm:q+n<=m):Cw P B D0 o ev pre (.lit (.tuple #[])) (.set id (.vec t e m λi=>if i<q then F i else .top)):=by
 refine⟨?_⟩
 intro E a c K Q _ hh htch _ hv kc
 have hx2:=hv x (by simp[ho,Op.operands,Call.operands])
 rw[hx] at hx2
 have hc:=(htch id (by simp[Ba.touch])).trans hp
 obtain⟨arr,hb,hna,hcp,hr⟩:=hh.vec hc
 generalize hzz:a.eval x=zv at hx2
 cases hx2 with
 |osw _ _ _ _ _ A cp hA ha=>
  have hqn:(q+n)*e<=m*e:=Nat.mul_le_mul_right e hqm
  rw[Nat.add_mul] at hqn
  obtain⟨zs,hzs⟩:∃zs,zs=(Builtin.zeroCells z.cells n).toList:=⟨_,rfl⟩
  have hzl:zs.length=n*e:=by rw[hzs];simp[Builtin.zeroCells,hze]
  have hz2:∀v∈zs,v.oneCell'=true:=λv hv=>by
   rw[hzs] at hv
   simp only[Builtin.zeroCells,Array.toList_map,Array.toList_range,List.mem_map,List.mem_range] at hv
   obtain⟨i,hi,rfl⟩:=hv
   rw[hze] at hi
   have he:0<z.cells.size:=by rw[hze];exact Nat.pos_of_ne_zero λh=>by subst h;simp at hi
   have hlt:i%z.cells.size<z.cells.size:=Nat.mod_lt _ he
   rw[getElem!_pos z.cells _ hlt]
   exact List.all_eq_true.1 hz1 _ (by simp)
  obtain⟨e1,e2,e3,e4,e5⟩:=Ka (E.π id) zs (q*e) E.w
  obtain⟨r1,r2,r3⟩:=hh.set (blk:= .vec t e m λi=>if i<q then F i else .top) hc e1 e2 e3 e4 e5 (λhle=>by
   refine .vec _ _ _ _ _ _ _ (Mt _ _ _ _ _ hb) (by rw[Lo];exact hcp.1) hcp.2.1 hcp.2.2 λk j hkn hj=>?_
   by_cases hki:k<q
   rw[if_pos hki,Ln _ _ _ _ (by rw[hzl];omega),if_neg (by
    have:=Nat.mul_le_mul_right e (show k+1<=q from hki)
    rw[Nat.succ_mul] at this;omega)]
   exact(hr k j hkn hj).up hle
   rw[if_neg hki]
   cases j with
   |zero=>exact .top _ _
   |succ j=>exact .top _ _)
  have hexec:(execOp a.eval o).run P E.w= .ok (.value (.tuple #[])) (E.w.setCells (E.π id) (q*e) zs):=by
   by_cases hn:n=0
   subst hn
   have:zs=[]:=List.eq_nil_of_length_eq_zero (by rw[hzl];simp)
   subst hts
   rw[this]
   simp[execOp,ho,hzz,resolve,invoke,builtin,Builtin.clear_,run_underlying hu,World.setCells]
   rw[ha ω] at hzz
   obtain⟨n',rfl⟩:∃n',n=n'+1:=⟨n-1,ω⟩
   have hst:=run_storeCells_cells (P:=P) (E.π id) (q*e) zs 0 E.w (λj hj=>by rw[Nat.add_zero,Ii hb ω];rfl) (λj hj=>by unfold World.frozen?;rw[hb];simp) hz2
   rw[Nat.add_zero,hzs] at hst
   subst hts
   simp[execOp,ho,hzz,resolve,invoke,builtin,Builtin.clear_,run_underlying hu,hz,hst,hzs]
  unfold Oper.wp
  rw[hexec]
  exact kc _ { E with w:=_ } r1 r2 (.lit _ _) r3 λi hi=> .inl hi
theorem Wa {P:Program} {B:Nat} {D0:Ap} {o:Oper} {ev:Operand->AV} {pre:Nat->Option Ar} (x y:Operand) (t:TypeId) (ho:o.op= .call { callee:= .builtin .append,args:=#[x,y],argTypes:=#[t,t] }) {el:TypeId} (ht:P.underlying t=some (.slice el)) (e:Nat) (hse:∀w,(sizeOf el).run P w= .ok e w) (n m:Nat) (hm:m=0) (f g:Nat->AV) (id:Nat) (t':TypeId) (hp:pre id=some (.vec t' e n f)) (hx:ev x= .osl id e n) (hy:ev y= .sl e m g):Cw P B D0 o ev pre (.osl id e n) (.read id):=by
 subst hm
 refine Bc (.inr ⟨id,rfl⟩) λE a c hr htch hv=>?_
 have hc:=(htch id (by simp[Ba.touch])).trans hp
 obtain⟨arr,hb,hn,hcp,hrr⟩:=hr.vec hc
 have h1:=hv x (by simp[ho,Op.operands,Call.operands])
 have h2:=hv y (by simp[ho,Op.operands,Call.operands])
 rw[hx] at h1
 rw[hy] at h2
 generalize hz1:a.eval x=v1 at h1
 generalize hz2:a.eval y=v2 at h2
 cases h1 with
 |osl _ _ _ _ hA=>
  have hs:∃A cp,v2= .slice A 0 cp:=by
   cases h2 with
   |sl0=>exact⟨_,_,rfl⟩
   |sl _ _ _ _ _ _ _ _ hn0=>omega
  obtain⟨A,cp,rfl⟩:=hs
  refine⟨_,?_,.osl _ _ _ _ hA⟩
  cases A<;>simp[execOp,ho,resolve,invoke,builtin,hz1,hz2,Builtin.append_,run_underlying ht,hse,Builtin.lenOf,Builtin.firstCells,hcp.2.1,loadCells,loadCellsFrom,storeCells]
theorem Wb {P:Program} {B:Nat} {D0:Ap} {o:Oper} {ev:Operand->AV} {pre:Nat->Option Ar} (T:TypeId) (ho:o.op= .buildSlice T 0 #[]) {el:TypeId} (hu:P.underlying T=some (.slice el)) (e:Nat) (hsz:∀w,(sizeOf el).run P w= .ok e w) (id:Nat) (f:Nat->AV):Cw P B D0 o ev pre (.osl id e 0) (.new id (.vec el e 0 f)):=by
 refine Tr id _ _ λE a c hh hid hv=>?_
 obtain⟨r1,r2⟩:=Zh (t:=el) e 0 f (hh.more hid 0 (.cells #[] el)).1 (by simp) ζ δ λi j hi=>absurd hi (Nat.not_lt_zero i)
 refine⟨_,0,.cells #[] el,_,?_,rfl,r1,r2⟩
 have n1:¬(0:Nat)>2^24:=by decide
 simp only[execOp,ho,Instr.buildSlice,run_underlying hu,Sem.run_bind,Sem.run_pure,Result.andThen_ok,hsz,Nat.zero_mul,if_neg n1,if_true]
 have e9:Instr.fill (λi=>some (i*e,e)) (Array.map (λx=>(#[]:Array Value)[x%(#[]:Array Value).size]!) (Array.range 0)) (Array.map (λx:Nat×Operand=>(x.fst,a.eval x.snd)) #[]).toList=some #[]:=by simp[Instr.fill]
 rw[e9]
 rfl
def Ap.also (E:Ap) (id nid:Nat):Ap:={ E with A:=λi=>E.A i\/i=nid,π:=λi=>if i=nid then E.π id else E.π i,cap:=λi=>if i=nid then E.cap id else E.cap i }
theorem Xz (E:Ap) (id nid:Nat):(E.also id nid).π nid=E.π id:=if_pos rfl
theorem jN (E:Ap) (id nid:Nat):(E.also id nid).cap nid=E.cap id:=if_pos rfl
theorem Ok (E:Ap) {id nid i:Nat} (h:nid≠i):(E.also id nid).π i=E.π i/\(E.also id nid).cap i=E.cap i:=⟨if_neg (Ne.symm h),if_neg (Ne.symm h)⟩
theorem Qi {P:Program} {B:Nat} {D0:Ap} {o:Oper} {ev:Operand->AV} {pre:Nat->Option Ar} (x y:Operand) (t:TypeId) (ho:o.op= .call { callee:= .builtin .append,args:=#[x,y],argTypes:=#[t,t] }) {el:TypeId} (ht:P.underlying t=some (.slice el)) (e bytes:Nat) (z:Value) (hi:(P.info? el).map (λi=>(i.zero,i.size,i.bytes))=some (some z,e,bytes)) (hze:z.cells.size=e) (he:0<e) (hse:∀w,(sizeOf el).run P w= .ok e w)
  (n m:Nat) (f g F:Nat->AV) (nid:Nat) (hbytes:(n+m)*bytes<=140737488355328) (h63:n+m<=maxLen) (hF1:∀i,i<n->F i=f i) (hF2:∀i,i<m->F (n+i)=g i) (hone:∀i,i<m->∀j,j<e->((g i).cell j).one1=true) (id:Nat) (hx:ev x= .osl id e n) (hp:pre id=some (.vec el e n f)) (hy:ev y= .sl e m g):Cw P B D0 o ev pre (.osl nid e (n+m)) (.grow id nid (.vec el e (n+m) F)):=by
 rcases Nat.eq_zero_or_pos m with rfl|hm
 refine⟨λE a c K Q _ hh htch hnew hv k=>?_⟩
 have hnA:¬E.A nid:=hnew nid (by simp[Ba.news])
 have hc:c id=some (.vec el e n f):=(htch id (by simp[Ba.touch])).trans hp
 refine(Wa (B:=B) (D0:=D0) x y t ho ht e hse n 0 rfl f g id el hp hx hy).h E a c K Q trivial hh (λi hi=>htch i (by simp[Ba.touch] at hi ⊢;exact .inl hi)) (λi hi=>by simp[Ba.news] at hi) hv λv E' hle hbl hvr hhr hA=>?_
 have hA':∀i,E'.A i->E.A i:=λi hi=>(hA i hi).elim (λh=>h) λh=>by simp[Ba.news] at h
 have hne:∀i,E'.A i->i≠nid:=λi hi e=>hnA (e▸hA' i hi)
 have hhr:HR B D0 E' c:=by
  have:(λi=>(Ba.read id).on i (c i))=c:=rfl
  rwa [this] at hhr
 have hle2:E'.le (E'.also id nid):=⟨λi hi=> .inl hi,λi hi=>if_neg (hne i hi),λ_ h=>h,λ_ _=>rfl,λi hi=>if_neg (hne i hi)⟩
 refine k v (E'.also id nid) (hle.trans hle2) hbl ?_ ?_ λi hi=>?_
 cases hvr with
 |osl _ _ _ _ h1=>
  have:=VR.osl (E'.also id nid) nid e n (.inr rfl)
  rwa [Xz,jN] at this
 have old:∀i y,(Ba.grow id nid (.vec el e (n+0) F)).on i (c i)=some y->nid≠i->id≠i/\c i=some y:=λi y h1 h2=>by
  have h1:(if nid=i then some (Ar.vec el e (n+0) F) else if id=i then none else c i)=some y:=h1
  rw[if_neg h2] at h1
  by_cases h3:id=i
  rw[if_pos h3] at h1;cases h1
  rw[if_neg h3] at h1;exact⟨h3,h1⟩
 obtain⟨l1,l2,l3,l4⟩:=hhr.live id _ hc
 refine⟨λi b hb=>?_,λi j y y' hy hy' hij=>?_,hhr.bnd,λi hi=>?_,hhr.le0.trans hle2,hhr.new,hhr.B⟩
 by_cases h2:nid=i
 subst h2
 have hb:(if nid=nid then some (Ar.vec el e (n+0) F) else if id=nid then none else c nid)=some b:=hb
 rw[if_pos rfl] at hb
 cases hb
 rw[Xz,jN]
 refine⟨.inr rfl,?_,l3,l4⟩
 have l5:=l2.up hle2 rfl
 cases l5 with
 |vec _ _ _ _ b cap arr h1 hn1 hc2 hm2 hr=>exact .vec _ _ _ _ _ _ arr h1 hn1 ω hm2 λi j hi hj=>by rw[hF1 i ω];exact hr i j ω hj
 obtain⟨h3,h4⟩:=old i b hb h2
 obtain⟨m1,m2,m3,m4⟩:=hhr.live i _ h4
 rw[(Ok E' h2).1,(Ok E' h2).2]
 exact⟨.inl m1,m2.up hle2 rfl,m3,m4⟩
 by_cases h2:nid=i
 subst h2
 obtain⟨h4,h5⟩:=old j y' hy' hij
 rw[Xz,(Ok E' hij).1]
 exact hhr.inj id j _ _ hc h5 h4
 obtain⟨h4,h5⟩:=old i y hy h2
 by_cases h3:nid=j
 subst h3
 rw[Xz,(Ok E' h2).1]
 exact hhr.inj i id _ _ h5 hc (Ne.symm h4)
 obtain⟨h6,h7⟩:=old j y' hy' h3
 rw[(Ok E' h2).1,(Ok E' h3).1]
 exact hhr.inj i j _ _ h5 h7 hij
 rcases hi with hi|rfl
 rw[(Ok E' (Ne.symm (hne i hi))).1]
 exact hhr.abd i hi
 rw[Xz]
 exact hhr.abd id l1
 rcases hi with hi|rfl
 exact .inl (hA' i hi)
 exact .inr (by simp[Ba.news])
 exact Rh x y t ho ht e bytes z hi hze he n m hm f g F nid hbytes h63 hF1 hF2 hone id hx hp hy
theorem pG (x y:Nat):nB (x*y)<=nB x+nB y:=Gy (by
 rw[Nat.pow_add]
 rcases Nat.eq_zero_or_pos x with h|h
 subst h;rw[Nat.zero_mul];exact Nat.mul_pos (Ep _) (Ep _)
 exact Nat.mul_lt_mul_of_lt_of_le (Ki x) (Nat.le_of_lt (Ki y)) (Ep _))
theorem Tn {x y:Nat} (h:x<=y):nB x<=nB y:=Gy (Nat.lt_of_le_of_lt h (Ki y))
theorem AcC {n:Nat} (h:n<1000000000):nB n<=1:=Gy (by rw[Nat.pow_one];exact h)
theorem AcE {n:Nat} (h0:0<n) (h:n<1000000000):nB n=1:=AgN (by rw[Nat.pow_one];exact h) (.inr (by rw[Nat.pow_zero];exact h0))
theorem Ah9 {n:Nat} (h:n<1000000000):n=dB n 0:=by
 unfold dB
 rw[Nat.pow_zero,Nat.div_one]
 exact(Nat.mod_eq_of_lt h).symm
theorem vC (x n:Nat) (h0:0<n) (h:n<1000000000) (hx:nB x<=999):AF Tryz.prog 38 [Dz x,.slc 1 1 λk=> .int (dB n k:Int)] (Dz (x*n)):=by
 have e:AF Tryz.prog 38 [Dz x,.slc 1 (nB n) λk=> .int (dB n k:Int)] (Dz (x*n)):=cL x n ω (by rw[AcE h0 h];decide)
 rwa [AcE h0 h] at e
theorem cK (x n:Nat) (hn:n<1000000000) (hx:nB x<=999):AF Tryz.prog 73 [Dz x,.int (n:Int)] (Dz (x*n)):=by
 refine Ai func73 rfl λB D0 hA0=>?_
 refine Aa 12 (Cu 6 ((n:Int)=0) (λhx1 hx1d=>?_) (λhx1 hx1d=>?_))
 ·
  refine Aa 8 (Ee 4 (.lit (.slice none 0 0)) (.slc 1 0 λk=> .int (dB (x*n) k:Int)) mP ?_)
  exact Ch (.slc 1 0 (λi0=> .int ((dB (x*n) i0:Nat):Int))) (congrArg (λq=>AV.slc 1 q λk=> .int (dB (x*n) k:Int)) (show 0=nB (x*n) by rw[show n=0 by omega,Nat.mul_zero,Vz]))
 ·
  refine Aa 7 (Iu 0 3 1 1 (λ_=> .int (n:Int)) ?_)
  exact Sp 0 3 1 1 (λ_=> .int (n:Int)) (λi0=> .int ((dB n i0:Nat):Int)) (λx9 hx9=>(by(obtain rfl:x9=0:=(ω));exact congrArg (λq:Nat=>AV.int (q:Int)) (Ah9 hn))) (Cc (Dz (x*n)) (.drop 0) (Js 38 #[.tmp 7,.tmp 9] #[22,22] κ (λ_ _=>by kernel_rfl) 0 (.vec 3 1 1 (λi0=> .int ((dB n i0:Nat):Int))) κ (λ_ _ _ _ h=>by cases h;exact(Bi λ_ _=>rfl)) [Dz x,.osl 0 1 1] κ [Dz x,.slc 1 1 (λi0=> .int ((dB n i0:Nat):Int))] κ (Dz (x*n)) (vC x n ω hn hx)) (Aa 4 (Br)))
def bM (x y j p:Nat):Nat:=if j<=p then dB (x/y) p else 0
theorem Ais (x y p:Nat):0=bM x y (nB x) p:=by
 unfold bM
 split
 rename_i h
 exact(Te (Nat.le_trans (Gy (Adu x y)) h)).symm
 rfl
theorem Air (x y p:Nat):bM x y 0 p=dB (x/y) p:=if_pos Ω
theorem AfR {x y j p:Nat} (hj:0<j) (h0:dB (x/y) (j-1)=0):bM x y j p=bM x y (j-1) p:=by
 unfold bM
 by_cases h:j<=p
 rw[if_pos h,if_pos ω]
 rw[if_neg h]
 by_cases g:j-1<=p
 rw[if_pos g,show p=j-1 by omega,h0]
 rw[if_neg g]
theorem AfS {x y j p l:Nat} (hj:0<j) (hl:l=dB (x/y) (j-1)):(if p=j-1 then AV.int (l:Int) else AV.int (bM x y j p:Int))=AV.int (bM x y (j-1) p:Int):=by
 subst hl
 unfold bM
 by_cases h:p=j-1
 rw[if_pos h,if_pos ω,h]
 rw[if_neg h]
 by_cases g:j<=p
 rw[if_pos g,if_pos ω]
 rw[if_neg g,if_neg ω]
theorem Agh {x y i:Nat} (hy:0<y) (h:He x y i<y):dB (x/y) i=0/\He x y i=Hd x y i:=by
 rw[tM hy,lP,Nat.div_eq_of_lt h,Nat.mod_eq_of_lt h]
 exact⟨rfl,rfl⟩
theorem Ad2 (x y i:Nat):dB x i=dB (He x y i) 0:=by
 unfold He
 rw[dB,dB,Nat.pow_zero,Nat.div_one]
 have h:dB x i<bB:=Ic x i
 unfold dB at h
 rw[Nat.mul_comm,Nat.mul_add_mod,Nat.mod_eq_of_lt h]
theorem Ad3 (x y i k:Nat):dB (Hd x y (i+1)) k=dB (He x y i) (1+k):=by
 unfold He
 have e:(Hd x y (i+1)*bB+dB x i)/bB=Hd x y (i+1):=by rw[Nat.mul_comm,Nat.mul_add_div δ,Nat.div_eq_of_lt (Ic x i),Nat.add_zero]
 rw[dB,dB,Nat.add_comm 1 k,Nat.pow_succ,Nat.mul_comm (bB^k) bB,<-Nat.div_div_eq_div_mul,e]
theorem xZ {x y i:Nat}:He x y i<bB^(1+nB (Hd x y (i+1))):=by
 have h1:=Ki (Hd x y (i+1))
 have h2:=Ic x i
 have e:bB^(1+nB (Hd x y (i+1)))=bB*bB^nB (Hd x y (i+1)):=by rw[Nat.pow_add,Nat.pow_one]
 rw[e]
 unfold He
 have h3:bB*(Hd x y (i+1)+1)<=bB*bB^nB (Hd x y (i+1)):=Nat.mul_le_mul_left _ h1
 rw[Nat.mul_add,Nat.mul_one,Nat.mul_comm] at h3
 omega
theorem Agc {x y:Nat} (hy:0<y) (i:Nat):Hd x y i<y:=Nat.mod_lt _ hy
theorem Akd {x y:Nat} (E:Ap) (v:Value) (h:VR E (.lit (.slice none 0 0)) v):VR E (Dz (Hd x y (nB x))) v:=by
 have e:nB (Hd x y (nB x))=0:=by rw[Agf,Vz]
 show VR E (.slc 1 (nB (Hd x y (nB x))) _) v
 rw[e]
 exact mP E v h
theorem rT {x y:Nat}:Tc x y<0↔x<y:=by
 unfold Tc
 split
 rename_i h;exact⟨λ_=>h,λ_=>by decide⟩
 rename_i h
 split
 exact⟨λg=>absurd g δ,λg=>absurd g h⟩
 exact⟨λg=>absurd g δ,λg=>absurd g h⟩
theorem Abq {x y:Nat}:Tc x y<=0↔x<=y:=by
 unfold Tc
 split
 rename_i h;exact⟨λ_=>Nat.le_of_lt h,λ_=>by decide⟩
 rename_i h
 split
 rename_i g;exact⟨λk=>absurd k δ,λk=>absurd g ω⟩
 exact⟨λ_=>by omega,λ_=>by decide⟩
theorem fF {x y:Nat}:0<=Tc x y↔y<=x:=by
 rw[<-Int.not_lt,rT]
 omega
theorem Adj {x y j l h:Nat} (hy:0<y) (h1:y*l<=He x y (j-1)) (h2:He x y (j-1)<y*(h+1)) (e:¬l<h) (hle:l<=h):l=dB (x/y) (j-1)/\He x y (j-1)-y*l=Hd x y (j-1):=by
 rw[tM hy,lP]
 exact pW hy h1 h2 e hle
theorem Ad5 {x y:Nat} (hy:0<y) (i:Nat):He x y i<y*(999999999+1):=pU hy i
theorem Ai8 {x y:Nat} (hy:0<y) (i:Nat):nB (He x y i)<=nB y+1:=
 Gy (Nat.lt_of_lt_of_le (pU (x:=x) hy i) (by
  rw[Nat.pow_succ]
  exact Nat.mul_le_mul_right _ (Nat.le_of_lt (Ki y))))
theorem jH (x y:Nat) (hy:0<y) (hx:nB x<=900) (hn:nB y<=900):AF Tryz.prog 41 [Dz x,Dz y] (.tup [Dz (x/y),Dz (x%y)]):=by
 refine Ai func41 rfl λB D0 hA0=>?_
 refine Aa 10 (Cc (.osl 0 1 (nB x)) (.new 0 (.vec 3 1 (nB x) (λ_=> .int 0))) (Jy 22 (.tmp 13) (.tmp 13) κ underlying22 1 8 (.int .i64 0) κ κ δ (nB x:Int) (nB x) ω κ κ ω ω ω 0 (.int 0) κ) (Aa 13 (Ao ((nB x:Int)-1) ((nB x:Int)-1) (Aa 4 (Sp 0 3 1 (nB x) (λ_=> .int 0) (λi0=> .int ((bM x y (nB x) i0:Nat):Int)) (λx9 hx9=>congrArg (λq:Nat=>AV.int (q:Int)) (Ais x y x9)) (Ee 7 (.lit (.slice none 0 0)) (Dz (Hd x y (nB x))) Akd ?_))))))
 refine Wg [0,1,6,7,8] (λm s=>∃j,m=j+1/\(j<=nB x)/\s=⟨[(0,Dz x),(1,Dz y),(6,.osl 0 1 (nB x)),(7,Dz (Hd x y j)),(8,.int ((j:Int)-1))],[(0,.vec 3 1 (nB x) (λi0=> .int ((bM x y j i0:Nat):Int)))],1,63⟩) (nB x+1) ⟨nB x,rfl,Nat.le_refl _,κ⟩ ?_
 rintro _ _ ⟨j,rfl,hF,rfl⟩ J1 hJ1
 have hF0:=hF
 refine Aa 7 (Cu 19 ((0:Int)<=(j:Int)-1) (λhx1 hx1d=>?_) (λhx1 hx1d=>?_))
 ·
  refine Aa 5 (Ee 8 (.int ((j:Int)-1)) (.int ((j-1:Nat):Int)) (Rl (congrArg AV.int ω)) ?_)
  have hj:0<j:=by omega
  have hr1:=Ad5 (x:=x) hy (j-1)
  have hr2:=Ai8 (x:=x) hy (j-1)
  have hr3:=Tn (Nat.le_of_lt (Agc (x:=x) hy j))
  refine Aa 4 (Dm (j-1) (nB x) (Aa 1 (Iu 1 3 1 1 (λ_=> .int (dB x (j-1):Int)) ?_)))
  refine Aa 1 (Cc (.osl 2 1 (1+nB (Hd x y j))) (.grow 1 2 (.vec 3 1 (1+nB (Hd x y j)) (λi0=> .int ((dB (He x y (j-1)) i0:Nat):Int)))) (Cw.wk (Qi (.tmp 26) (.tmp 27) 22 κ underlying22 1 8 (.int .i64 0) κ κ δ sizeOf3 1 (nB (Hd x y j)) (λ_=> .int (dB x (j-1):Int)) (λi0=> .int ((dB (Hd x y j) i0:Nat):Int)) (λi0=> .int ((dB (He x y (j-1)) i0:Nat):Int)) 2 ω (by unfold maxLen;omega) (λi hi=>by(obtain rfl:i=0:=(ω));exact congrArg (λq:Nat=>AV.int (q:Int)) (Ad2 x y (j-1)).symm) (λi hi=>by exact congrArg (λq:Nat=>AV.int (q:Int)) (show dB (He x y (j-1)) (1+i)=dB (Hd x y j) i by have h9:=Ad3 x y (j-1) i;rw[show j-1+1=j by omega] at h9;exact h9.symm)) (λi hi j hj=>by obtain rfl:j=0:=(ω);rfl) 1 κ κ κ)) (Jg 2 [28] 3 1 (1+nB (Hd x y j)) (λi0=> .int ((dB (He x y (j-1)) i0:Nat):Int)) (Bi λ_ _=>rfl) (Aj (Ll (He x y (j-1)) (1+nB (Hd x y j)) (by have h9:=@xZ x y (j-1);rwa [show j-1+1=j by omega] at h9) ω) (Aa 8 (Aj (Uk (He x y (j-1)) y ω ω) (Aa 3 (Cu 33 ((Tc (He x y (j-1)) y)<0) (λhx2 hx2d=>?_) (λhx2 hx2d=>?_))))))))
  ·
   refine Aa 7 (Ao (((j-1:Nat):Int)-1) (((j-1:Nat):Int)-1) (Aa 2 ?_))
   have hq:=Agh (x:=x) (i:=j-1) hy (rT.1 ω)
   refine Sp 0 3 1 (nB x) (λi0=> .int ((bM x y j i0:Nat):Int)) (λi0=> .int ((bM x y (j-1) i0:Nat):Int)) (λx9 hx9=>congrArg (λq:Nat=>AV.int (q:Int)) (AfR hj hq.1)) (Ee 7 (Dz (He x y (j-1))) (Dz (Hd x y (j-1))) (Rl (congrArg Dz hq.2)) ?_)
   exact Ew [0,1,6,7,8] [(0,0)] 1 0 hA0 [(3,1,nB x,(λi0=> .int ((bM x y (j-1) i0:Nat):Int)))] ⟨(Bi λ_ _=>rfl),trivial⟩ (hJ1 _ _ (by omega:j-1+1<j+1) ⟨j-1,rfl,ω,rfl⟩)
  ·
   refine Aa 11 (Wg [0,1,6,7,8,9,10] (λm s=>∃l h,m=h-l/\(l<=h/\h<=999999999/\y*l<=He x y (j-1)/\He x y (j-1)<y*(h+1))/\s=⟨[(0,Dz x),(1,Dz y),(6,.osl 0 1 (nB x)),(7,Dz (He x y (j-1))),(8,.int ((j-1:Nat):Int)),(9,.int (l:Int)),(10,.int (h:Int))],[(0,.vec 3 1 (nB x) (λi0=> .int ((bM x y j i0:Nat):Int)))],3,63⟩) (999999999-0) ⟨0,999999999,rfl,⟨ω,ω,by rw[Nat.mul_zero];exact Nat.zero_le _,hr1⟩,κ⟩ ?_)
   rintro _ _ ⟨l,h,rfl,hF,rfl⟩ J2 hJ2
   have hm1:nB (y*((l+h+1)/2))<=nB y+1:=Nat.le_trans (pG _ _) (Nat.add_le_add_left (AcC ω) _)
   have hm2:nB (y*l)<=nB y+1:=Nat.le_trans (pG _ _) (Nat.add_le_add_left (AcC ω) _)
   refine Aa 8 (Cu 36 ((l:Int)<(h:Int)) (λhx3 hx3d=>?_) (λhx3 hx3d=>?_))
   ·
    refine Aa 8 (Ao ((l:Int)+(h:Int)) ((l+h:Nat):Int) (Ao (((l+h:Nat):Int)+1) ((l+h+1:Nat):Int) (Dx (.int .i64 (IntKind.wrap .i64 (Int.tdiv ((l+h+1:Nat):Int) 2))) (.int .i64 (((l+h+1)/2:Nat):Int)) ?_ (congrArg (Value.int .i64) (by rw[Int.tdiv_eq_ediv_of_nonneg ω];exact(IntWalk.i64_in _ ω).trans ω)))))
    refine Aa 7 (Aj (cK y ((l+h+1)/2) ω ω) (Aa 1 (Aj (Uk (y*((l+h+1)/2)) (He x y (j-1)) ω ω) (Aa 3 (Cu 47 ((Tc (y*((l+h+1)/2)) (He x y (j-1)))<=0) (λhx4 hx4d=>?_) (λhx4 hx4d=>?_))))))
    ·
     exact Aa 6 (Pe [0,1,6,7,8,9,10] (hJ2 _ _ (by omega:h-((l+h+1)/2)<h-l) ⟨((l+h+1)/2),h,rfl,⟨ω,ω,Abq.1 ω,hF.2.2.2⟩,rfl⟩))
    ·
     exact Aa 3 (Ao ((((l+h+1)/2:Nat):Int)-1) (((l+h+1)/2-1:Nat):Int) (Aa 3 (Pe [0,1,6,7,8,9,10] (hJ2 _ _ (by omega:((l+h+1)/2-1)-l<h-l) ⟨l,((l+h+1)/2-1),rfl,⟨ω,ω,hF.2.2.1,by rw[show (l+h+1)/2-1+1=(l+h+1)/2 by omega];exact Nat.lt_of_not_le λh9=>absurd (Abq.2 h9) ω⟩,rfl⟩))))
   ·
    refine Aa 11 (Dm (j-1) (nB x) (Cc (.lit Go.undef) (.set 0 (.vec 3 1 (nB x) (λxi=>if xi=j-1 then .int (l:Int) else (λi0=> .int ((bM x y j i0:Nat):Int)) xi))) (Eb 3 (.tmp 54) (.tmp 53) κ 1 sizeOf3 0 (j-1) κ 3 (nB x) (λi0=> .int ((bM x y j i0:Nat):Int)) κ ω κ κ κ (.int (l:Int)) κ) (Aa 6 (Aj (cK y l ω ω) (Aj (Ui (He x y (j-1)) (y*l) hF.2.2.1 ω (by have:=Tn hF.2.2.1;omega)) (Aa 6 (Ao (((j-1:Nat):Int)-1) (((j-1:Nat):Int)-1) (Aa 2 ?_))))))))
    have hq:=Adj (x:=x) (j:=j) hy hF.2.2.1 hF.2.2.2 ω hF.1
    refine Sp 0 3 1 (nB x) (λxi=>if xi=j-1 then .int (l:Int) else (λi0=> .int ((bM x y j i0:Nat):Int)) xi) (λi0=> .int ((bM x y (j-1) i0:Nat):Int)) (λx9 hx9=>AfS hj hq.1) (Ee 7 (Dz ((He x y (j-1))-(y*l))) (Dz (Hd x y (j-1))) (Rl (congrArg Dz hq.2)) ?_)
    exact Ew [0,1,6,7,8] [(0,0)] 1 0 hA0 [(3,1,nB x,(λi0=> .int ((bM x y (j-1) i0:Nat):Int)))] ⟨(Bi λ_ _=>rfl),trivial⟩ (hJ1 _ _ (by omega:j-1+1<j+1) ⟨j-1,rfl,ω,rfl⟩)
 ·
  refine Aa 6 (Sp 0 3 1 (nB x) (λi0=> .int ((bM x y j i0:Nat):Int)) (λi0=> .int ((dB (x/y) i0:Nat):Int)) (λx9 hx9=>congrArg (λq:Nat=>AV.int (q:Int)) (by rw[show j=0 by omega];exact Air x y x9)) (Jg 0 [6] 3 1 (nB x) (λi0=> .int ((dB (x/y) i0:Nat):Int)) (Bi λ_ _=>rfl) (Ee 7 (Dz (Hd x y j)) (Dz (x%y)) (Rl (congrArg Dz (by rw[show j=0 by omega];exact Age x y))) ?_)))
  exact Aa 3 (Aj (Ll (x/y) (nB x) (Adu x y) ω) (Aa 6 (Br)))
theorem Zi {n:Nat}:0<nB n↔0<n:=by
 constructor
 intro h
 refine Nat.pos_of_ne_zero λe=>?_
 rw[e,Vz] at h
 omega
 intro h
 exact AcD (by rw[Nat.pow_zero];exact h)
theorem AcB (x y:Nat):nB (x+y)<=max (nB x) (nB y)+1:=Gy (by
 have h1:=Nat.lt_of_lt_of_le (Ki x) (Nat.pow_le_pow_right (show 0<bB by decide) (Nat.le_max_left (nB x) (nB y)))
 have h2:=Nat.lt_of_lt_of_le (Ki y) (Nat.pow_le_pow_right (show 0<bB by decide) (Nat.le_max_right (nB x) (nB y)))
 rw[Nat.pow_succ]
 have h3:bB^max (nB x) (nB y)*2<=bB^max (nB x) (nB y)*bB:=Nat.mul_le_mul_left _ δ
 omega)
abbrev nZ (z:Int):Nat:=nB z.natAbs
theorem Aif (x y:Int):nZ (x+y)<=max (nZ x) (nZ y)+1:=Nat.le_trans (Tn (Int.natAbs_add_le x y)) (AcB _ _)
theorem Qe (x:Int):nZ (-x)=nZ x:=congrArg nB (Int.natAbs_neg x)
theorem Aih (x y:Int):nZ (x-y)<=max (nZ x) (nZ y)+1:=by
 have:=Aif x (-y)
 rw[Qe] at this
 exact this
theorem Hy (x y:Int):nZ (x*y)<=nZ x+nZ y:=by
 show nB (x*y).natAbs<=_
 rw[Int.natAbs_mul]
 exact pG _ _
theorem Fh {x:Int} (h:Bg x):nZ x<=3:=Gy (by
 have:(x.natAbs:Nat)<27000000000000000000000000:=by
  obtain⟨h1,h2⟩:=h
  omega
 exact Nat.lt_of_lt_of_le this δ)
def Uh (b:Bool) (n:Nat):Int:=if b=true then -(n:Int) else n
theorem AiG (b:Bool) (n:Nat):(Uh b n).natAbs=n:=by
 unfold Uh
 split<;>omega
theorem Ags (b:Bool) (n:Nat):AV.agg [.bool (b&&decide (0<nB n)),Dz n]=iA (Uh b n):=by
 have d:decide (Uh b n<0)=(b&&decide (0<nB n)):=by
  by_cases h:0<n
  have h2:=Zi.2 h
  cases b
  simp[Uh]
  simp[Uh,h,h2]
  obtain rfl:n=0:=by omega
  cases b<;>simp[Uh,Vz]
 show _=AV.agg [.bool (decide (Uh b n<0)),Dz (Uh b n).natAbs]
 rw[AiG,d]
theorem mC {b v:Bool} {n:Nat} (h:v=(b&&decide (0<nB n))):AV.agg [.bool v,Dz n]=iA (Uh b n):=by
 subst h
 exact Ags b n
theorem Agu {x y:Int} (h:decide (x<0)=decide (y<0)):Uh (decide (x<0)) (x.natAbs+y.natAbs)=x+y:=by
 have h2:x<0↔y<0:=decide_eq_decide.1 h
 unfold Uh
 by_cases g:x<0
 have g2:=h2.1 g
 rw[if_pos (decide_eq_true g)];omega
 have g2:¬y<0:=λk=>g (h2.2 k)
 rw[if_neg (by simp[g])];omega
theorem tW {x y:Int} (h:¬decide (x<0)=decide (y<0)) (hc:y.natAbs<=x.natAbs):Uh (decide (x<0)) (x.natAbs-y.natAbs)=x+y:=by
 have h2:¬(x<0↔y<0):=λk=>h (decide_eq_decide.2 k)
 unfold Uh
 by_cases g:x<0
 rw[if_pos (decide_eq_true g)];omega
 rw[if_neg (by simp[g])];omega
theorem AdK {x y:Int} (h:¬decide (x<0)=decide (y<0)) (hc:x.natAbs<=y.natAbs):Uh (decide (y<0)) (y.natAbs-x.natAbs)=x+y:=by
 rw[Int.add_comm]
 exact tW (λk=>h k.symm) hc
theorem AiI (x:Int):Uh (!decide (x<0)) x.natAbs= -x:=by
 unfold Uh
 by_cases g:x<0
 rw[if_neg (by simp[g])];omega
 rw[if_pos (by simp[g])];omega
theorem AiH (x y:Int):Uh (!decide (decide (x<0)=decide (y<0))) (x.natAbs*y.natAbs)=x*y:=by
 unfold Uh
 rw[Int.natCast_mul]
 by_cases g:x<0
 obtain⟨a,rfl⟩:∃a:Nat,x= -(a:Int):=⟨x.natAbs,ω⟩
 by_cases k:y<0
 obtain⟨b,rfl⟩:∃b:Nat,y= -(b:Int):=⟨y.natAbs,ω⟩
 rw[decide_eq_true g,decide_eq_true k,if_neg δ,Int.natAbs_neg,Int.natAbs_neg,Int.neg_mul_neg]
 rfl
 obtain⟨b,rfl⟩:∃b:Nat,y=(b:Int):=⟨y.natAbs,ω⟩
 rw[decide_eq_true g,decide_eq_false k,if_pos δ,Int.natAbs_neg,Int.neg_mul]
 rfl
 obtain⟨a,rfl⟩:∃a:Nat,x=(a:Int):=⟨x.natAbs,ω⟩
 by_cases k:y<0
 obtain⟨b,rfl⟩:∃b:Nat,y= -(b:Int):=⟨y.natAbs,ω⟩
 rw[decide_eq_false g,decide_eq_true k,if_pos δ,Int.natAbs_neg,Int.mul_neg]
 rfl
 obtain⟨b,rfl⟩:∃b:Nat,y=(b:Int):=⟨y.natAbs,ω⟩
 rw[decide_eq_false g,decide_eq_false k,if_neg δ]
 rfl
theorem AiK {x y:Int} (hy:0<y):Uh (!decide (decide (x<0)=decide (y<0))) (x.natAbs/y.natAbs)=Int.tdiv x y:=by
 obtain⟨b,rfl⟩:∃b:Nat,y=(b:Int):=⟨y.natAbs,ω⟩
 have k:¬(b:Int)<0:=by omega
 unfold Uh
 by_cases g:x<0
 obtain⟨a,rfl⟩:∃a:Nat,x= -(a:Int):=⟨x.natAbs,ω⟩
 rw[decide_eq_true g,decide_eq_false k,if_pos δ,Int.natAbs_neg,Int.neg_tdiv]
 rfl
 obtain⟨a,rfl⟩:∃a:Nat,x=(a:Int):=⟨x.natAbs,ω⟩
 rw[decide_eq_false g,decide_eq_false k,if_neg δ]
 rfl
theorem Ads {x y:Int} (hy:0<y): -y<x-Int.tdiv x y*y/\x-Int.tdiv x y*y<y:=by
 have e:=Int.tdiv_mul_add_tmod x y
 have hm:=Int.tmod_lt_of_pos x hy
 have hm2:=Int.tmod_lt_of_pos (-x) hy
 rw[Int.neg_tmod] at hm2
 omega
theorem Adr {x y q:Int} (hy:0<y) (h0:0<=x-q*y) (h:x-q*y<y):q=x/y/\x-q*y=x%y:=by
 have e:=(Int.ediv_emod_unique (a:=x) (q:=q) (r:=x-q*y) hy).2 ⟨by rw[Int.mul_comm y q];omega,h0,h⟩
 exact⟨e.1.symm,e.2.symm⟩
theorem Aga {x y:Int} (hy:0<y) (h:x-Int.tdiv x y*y<0):Int.tdiv x y-1=x/y/\x-(Int.tdiv x y-1)*y=x%y:=by
 have b:=Ads (x:=x) hy
 have e:(Int.tdiv x y-1)*y=Int.tdiv x y*y-y:=by rw[Int.sub_mul,Int.one_mul]
 exact Adr hy ω ω
theorem Adt {x y:Int} (hy:0<y) (h:¬x-Int.tdiv x y*y<0):Int.tdiv x y=x/y/\x-Int.tdiv x y*y=x%y:=Adr hy ω (Ads hy).2
theorem AiR (E:Ap) (v:Value) (h:VR E (.agg [.bool false,.lit (.slice none 0 0)]) v):VR E (iA 0) v:=by
 have e:iA 0= .agg [.bool false,.slc 1 0 λk=> .int ((dB 0 k:Nat):Int)]:=by
  show AV.agg [.bool (decide ((0:Int)<0)),.slc 1 (nB 0) _]=_
  rw[Vz]
  rfl
 rw[e]
 cases h with
 |agg _ _ vs hn h=>
  refine .agg _ _ _ hn λi hi=>?_
  match i,hi with
  |0,_=>exact h 0 δ
  |1,_=>exact mP E _ (h 1 δ)
theorem zZ (b:Bool) (n:Nat):AF Tryz.prog 35 [.bool b,Dz n] (iA (Uh b n)):=by
 refine Ai func35 rfl λB D0 hA0=>?_
 refine Aa 9 (vsb 6 b (λhx1=>?_) (λhx1=>?_))
 ·
  exact Aa 10 (Ch (.agg [.bool (decide ((0:Int)<(nB n:Int))),Dz n]) (mC (by simp[hx1])))
 ·
  exact Aa 10 (Ch (.agg [.bool false,Dz n]) (mC (by simp[hx1])))
theorem Iv (b:Bool) (n:Nat) (z:Int) (h:Uh b n=z):AF Tryz.prog 35 [.bool b,Dz n] (iA z):=h▸zZ b n
theorem AjV {z:Int} (h:nB z.natAbs=0):0=z.sign:=by
 have:¬0<z.natAbs:=λg=>by have:=Zi.2 g;omega
 have e:z=0:=by omega
 rw[e];rfl
theorem AjT {z:Int} (h:decide (z<0)=true): -1=z.sign:=(Int.sign_eq_neg_one_of_neg (of_decide_eq_true h)).symm
theorem AjU {z:Int} (h0:¬nB z.natAbs=0) (h:decide (z<0)=false):1=z.sign:=by
 have h1:¬z<0:=of_decide_eq_false h
 have h2:0<z.natAbs:=Zi.1 ω
 exact(Int.sign_eq_one_of_pos ω).symm
theorem AgP (m:Nat):Int.tmod (m:Int) 1000000000=((dB m 0:Nat):Int):=by
 rw[dB,Nat.pow_zero,Nat.div_one]
 rfl
theorem AgQ (m:Nat):Int.tmod ((m/1000000000:Nat):Int) 1000000000=((dB m 1:Nat):Int):=by
 rw[dB,Nat.pow_one]
 rfl
theorem AgR {m:Nat} (h:m<=9223372036854775808):Int.tdiv ((m/1000000000:Nat):Int) 1000000000=((dB m 2:Nat):Int):=by
 have e:dB m 2=m/1000000000/1000000000:=by
  rw[dB,Nat.pow_succ,Nat.pow_one,<-Nat.div_div_eq_div_mul]
  exact Nat.mod_eq_of_lt (by show m/1000000000/1000000000<1000000000;omega)
 rw[e]
 rfl
theorem AjE (m:Nat):Int.tdiv (m:Int) 1000000000=((m/1000000000:Nat):Int):=rfl
theorem AcR {m:Nat} (h:m<=9223372036854775808):m<bB^3:=Nat.lt_of_le_of_lt h δ
theorem Sw (z:Int):AF Tryz.prog 42 [iA z] (.int z.sign):=by
 refine Ai func42 rfl λB D0 hA0=>?_
 refine Aa 15 (Cu 6 ((nB z.natAbs:Int)=0) (λhx1 hx1d=>?_) (λhx1 hx1d=>?_))
 ·
  exact Aa 8 (Ch (.int 0) (congrArg AV.int (AjV ω)))
 ·
  refine Aa 10 (Cu 8 (z<0) (λhx2 hx2d=>?_) (λhx2 hx2d=>?_))
  ·
   exact Aa 8 (Ch (.int (-1)) (congrArg AV.int (AjT hx2)))
  ·
   exact Aa 9 (Ch (.int 1) (congrArg AV.int (AjU ω hx2)))
theorem Od (x:Int):AF Tryz.prog 23 [iA x] (iA (-x)):=by
 refine Ai func23 rfl λB D0 hA0=>?_
 exact Aa 13 (Aj (Iv _ _ (-x) (AiI x)) (Aa 4 (Br)))
theorem Ob (x y:Int) (hx:nZ x<=900) (hy:nZ y<=900):AF Tryz.prog 39 [iA x,iA y] (iA (x+y)):=by
 have kx:nB x.natAbs<=900:=hx
 have ky:nB y.natAbs<=900:=hy
 refine Ai func39 rfl λB D0 hA0=>?_
 refine Aa 14 (Dx (.bool (decide (decide (x<0)=decide (y<0)))) (.bool (decide (decide (x<0)=decide (y<0)))) (Aa 2 (Cu 9 (decide (x<0)=decide (y<0)) (λhx1 hx1d=>?_) (λhx1 hx1d=>?_))))
 ·
  exact Aa 2 (Be [(6,_,.none),(7,_,.none)] [4] ⟨Am (Aan x.natAbs y.natAbs ω ω (by have:=AcB x.natAbs y.natAbs;omega)),Am (Iv _ _ (x+y) (Agu (of_decide_eq_true hx1))),trivial⟩ (Aa 3 (Br)))
 ·
  refine Aa 10 (Aj (Uk x.natAbs y.natAbs ω ω) (Aa 3 (Cu 23 ((0:Int)<=(Tc x.natAbs y.natAbs)) (λhx2 hx2d=>?_) (λhx2 hx2d=>?_))))
  ·
   exact Aa 2 (Be [(6,_,.none),(7,_,.none)] [4] ⟨Am (Ui x.natAbs y.natAbs (fF.1 ω) ω ω),Am (Iv _ _ (x+y) (tW (of_decide_eq_false hx1) (fF.1 ω))),trivial⟩ (Aa 3 (Br)))
  ·
   exact Aa 4 (Be [(6,_,.none),(7,_,.none)] [4] ⟨Am (Ui y.natAbs x.natAbs (Nat.le_of_lt (Nat.lt_of_not_le λh9=>absurd (fF.2 h9) ω)) ω ω),Am (Iv _ _ (x+y) (AdK (of_decide_eq_false hx1) (Nat.le_of_lt (Nat.lt_of_not_le λh9=>absurd (fF.2 h9) ω)))),trivial⟩ (Aa 2 (Br)))
theorem Sx (x y:Int) (hx:nZ x<=900) (hy:nZ y<=900):AF Tryz.prog 37 [iA x,iA y] (iA (x-y)):=by
 refine Ai func37 rfl λB D0 hA0=>?_
 exact Aa 8 (Be [(2,_,.none),(3,_,.none)] [4] ⟨Am (Od y),Am (Ob x (-y) hx (by rw[Qe];exact hy)),trivial⟩ (Aa 2 (Br)))
theorem Fn (x y:Int) (h:nZ x+nZ y<=900):AF Tryz.prog 18 [iA x,iA y] (iA (x*y)):=by
 have kx:nB x.natAbs+nB y.natAbs<=900:=h
 refine Ai func18 rfl λB D0 hA0=>?_
 exact Aa 8 (Be [(4,.bool (!decide (decide (x<0)=decide (y<0))),.none),(9,_,.none),(10,_,.none)] [4] ⟨As (.bool (!decide (decide (x<0)=decide (y<0)))) rfl,Am (cL x.natAbs y.natAbs ω ω),Am (Iv _ _ (x*y) (AiH x y)),trivial⟩ (Aa 2 (Br)))
theorem Oc (x y:Int) (hx:nZ x<=900) (hy:nZ y<=900):AF Tryz.prog 22 [iA x,iA y] (.int (x-y).sign):=by
 refine Ai func22 rfl λB D0 hA0=>?_
 exact Aa 11 (Aj (Sx x y hx hy) (Aj (Sw (x-y)) (Aa 4 (Br))))
theorem Ail {n:Int} (h:0<=n):Int.tmod n 1000000000=((dB n.natAbs 0:Nat):Int):=by
 have:=AgP n.natAbs
 rwa [Int.natAbs_of_nonneg h] at this
theorem AcT {n:Int} (h:0<=n):Int.tdiv n 1000000000=((n.natAbs/1000000000:Nat):Int):=by
 have:=AjE n.natAbs
 rwa [Int.natAbs_of_nonneg h] at this
theorem Aik {n:Int} (h:n<0):Int.tmod n 1000000000= -((dB n.natAbs 0:Nat):Int):=by
 obtain⟨m,rfl⟩:∃m:Nat,n= -(m:Int):=⟨n.natAbs,ω⟩
 rw[Int.neg_tmod,Int.natAbs_neg]
 exact congrArg (-·) (AgP m)
theorem AcS {n:Int} (h:n<0):Int.tdiv n 1000000000= -((n.natAbs/1000000000:Nat):Int):=by
 obtain⟨m,rfl⟩:∃m:Nat,n= -(m:Int):=⟨n.natAbs,ω⟩
 rw[Int.neg_tdiv,Int.natAbs_neg]
 rfl
theorem Aim (m:Nat):Int.tmod (-((m/1000000000:Nat):Int)) 1000000000= -((dB m 1:Nat):Int):=by
 rw[Int.neg_tmod]
 exact congrArg (-·) (AgQ m)
theorem AcQ {m:Nat} (h:m<=9223372036854775808):Int.tdiv (-((m/1000000000:Nat):Int)) 1000000000= -((dB m 2:Nat):Int):=by
 rw[Int.neg_tdiv]
 exact congrArg (-·) (AgR h)
theorem Yj (m k:Nat):dB m k<=999999999:=Nat.le_of_lt_succ (Ic m k)
theorem AiJ {n:Int} (h:0<=n):Uh false n.natAbs=n:=by
 unfold Uh
 rw[if_neg δ]
 omega
theorem Agt {n:Int} (h:n<0):Uh true n.natAbs=n:=by
 unfold Uh
 rw[if_pos rfl]
 omega
theorem Jh (E:Ap) (v:Value) (h:VR E (.lit (.agg #[.bool false,.slice none 0 0])) v):VR E (iA 0) v:=by
 cases h with
 |lit=>exact AiR E _ (.agg _ _ _ rfl λi hi=>match i,hi with
  |0,_=> .lit _ _
  |1,_=> .lit _ _)
theorem Ck (n:Int) (h:Bg n):AF Tryz.prog 17 [.int n] (iA n):=by
 obtain⟨h1,h2⟩:=id h
 refine Ai func17 rfl λB D0 hA0=>?_
 refine Aa 12 (Cu 4 ((0:Int)<=n) (λhx1 hx1d=>?_) (λhx1 hx1d=>?_))
 ·
  refine Aa 4 (Dx (.int .i64 (Int.tmod n 1000000000)) (.int .i64 ((dB n.natAbs 0:Nat):Int)) ?_ (congrArg (Value.int .i64) (Ail ω)))
  refine Aa 1 (Dx (.int .i64 (IntKind.wrap .i64 (Int.tdiv n 1000000000))) (.int .i64 ((n.natAbs/1000000000:Nat):Int)) ?_ (congrArg (Value.int .i64) (by rw[AcT ω];exact IntWalk.i64_in _ ω)))
  refine Dx (.int .i64 (Int.tmod ((n.natAbs/1000000000:Nat):Int) 1000000000)) (.int .i64 ((dB n.natAbs 1:Nat):Int)) ?_ (congrArg (Value.int .i64) (AgQ _))
  refine Aa 1 (Dx (.int .i64 (IntKind.wrap .i64 (Int.tdiv n 1000000000))) (.int .i64 ((n.natAbs/1000000000:Nat):Int)) ?_ (congrArg (Value.int .i64) (by rw[AcT ω];exact IntWalk.i64_in _ ω)))
  refine Dx (.int .i64 (IntKind.wrap .i64 (Int.tdiv ((n.natAbs/1000000000:Nat):Int) 1000000000))) (.int .i64 ((dB n.natAbs 2:Nat):Int)) ?_ (congrArg (Value.int .i64) (by rw[AgR ω];exact IntWalk.i64_in _ (by have:=Yj n.natAbs 2;omega)))
  refine Iu 1 3 1 3 (λxi=>[.int ((dB n.natAbs 0:Nat):Int),.int ((dB n.natAbs 1:Nat):Int),.int ((dB n.natAbs 2:Nat):Int)].getD xi .top) ?_
  exact Sp 1 3 1 3 (λxi=>[.int ((dB n.natAbs 0:Nat):Int),.int ((dB n.natAbs 1:Nat):Int),.int ((dB n.natAbs 2:Nat):Int)].getD xi .top) (λi0=> .int ((dB n.natAbs i0:Nat):Int)) (λx9 hx9=>(by match x9,hx9 with|0,_=>rfl|1,_=>rfl|2,_=>rfl|_+3,h=>exact absurd h ω)) (Jg 1 [13] 3 1 3 (λi0=> .int ((dB n.natAbs i0:Nat):Int)) (Bi λ_ _=>rfl) (Aj (Ll n.natAbs 3 (AcR ω) ω) (Aj (Iv false n.natAbs n (AiJ ω)) (Aa 5 (Br)))))
 ·
  refine Aa 6 (Dx (.int .i64 (Int.tmod n 1000000000)) (.int .i64 (Int.tmod n 1000000000)) (Dx (.int .i64 (IntKind.wrap .i64 (0-(Int.tmod n 1000000000)))) (.int .i64 ((dB n.natAbs 0:Nat):Int)) ?_ (congrArg (Value.int .i64) (by rw[Aik ω,Int.zero_sub,Int.neg_neg];exact IntWalk.i64_in _ (by have:=Yj n.natAbs 0;omega)))))
  refine Aa 1 (Dx (.int .i64 (IntKind.wrap .i64 (Int.tdiv n 1000000000))) (.int .i64 (-((n.natAbs/1000000000:Nat):Int))) ?_ (congrArg (Value.int .i64) (by rw[AcS ω];exact IntWalk.i64_in _ ω)))
  refine Dx (.int .i64 (Int.tmod (-((n.natAbs/1000000000:Nat):Int)) 1000000000)) (.int .i64 (Int.tmod (-((n.natAbs/1000000000:Nat):Int)) 1000000000)) (Dx (.int .i64 (IntKind.wrap .i64 (0-(Int.tmod (-((n.natAbs/1000000000:Nat):Int)) 1000000000)))) (.int .i64 ((dB n.natAbs 1:Nat):Int)) ?_ (congrArg (Value.int .i64) (by rw[Aim,Int.zero_sub,Int.neg_neg];exact IntWalk.i64_in _ (by have:=Yj n.natAbs 1;omega))))
  refine Aa 1 (Dx (.int .i64 (IntKind.wrap .i64 (Int.tdiv n 1000000000))) (.int .i64 (-((n.natAbs/1000000000:Nat):Int))) ?_ (congrArg (Value.int .i64) (by rw[AcS ω];exact IntWalk.i64_in _ ω)))
  refine Dx (.int .i64 (IntKind.wrap .i64 (Int.tdiv (-((n.natAbs/1000000000:Nat):Int)) 1000000000))) (.int .i64 (Int.tdiv (-((n.natAbs/1000000000:Nat):Int)) 1000000000)) ?_ (congrArg (Value.int .i64) (by refine IntWalk.i64_in _ ?_;rw[AcQ ω];have:=Yj n.natAbs 2;omega))
  refine Dx (.int .i64 (IntKind.wrap .i64 (0-(Int.tdiv (-((n.natAbs/1000000000:Nat):Int)) 1000000000)))) (.int .i64 ((dB n.natAbs 2:Nat):Int)) ?_ (congrArg (Value.int .i64) (by rw[AcQ ω,Int.zero_sub,Int.neg_neg];exact IntWalk.i64_in _ (by have:=Yj n.natAbs 2;omega)))
  refine Iu 1 3 1 3 (λxi=>[.int ((dB n.natAbs 0:Nat):Int),.int ((dB n.natAbs 1:Nat):Int),.int ((dB n.natAbs 2:Nat):Int)].getD xi .top) ?_
  refine Sp 1 3 1 3 (λxi=>[.int ((dB n.natAbs 0:Nat):Int),.int ((dB n.natAbs 1:Nat):Int),.int ((dB n.natAbs 2:Nat):Int)].getD xi .top) (λi0=> .int ((dB n.natAbs i0:Nat):Int)) (λx9 hx9=>(by match x9,hx9 with|0,_=>rfl|1,_=>rfl|2,_=>rfl|_+3,h=>exact absurd h ω)) (Jg 1 [27] 3 1 3 (λi0=> .int ((dB n.natAbs i0:Nat):Int)) (Bi λ_ _=>rfl) (Aj (Ll n.natAbs 3 (AcR ω) ω) (Aj (Iv true n.natAbs n (Agt ω)) (Aa 1 (Ee 30 (.lit (.agg #[.bool false,.slice none 0 0])) (iA 0) Jh ?_)))))
  exact Aj (by have h9:=Sx n 0 (by have:=Fh h;omega) (by have:nZ 0=0:=Vz;omega);rwa [Int.sub_zero] at h9) (Aa 4 (Br))
theorem aB {z:Int}:z.sign<0↔z<0:=by
 constructor
 intro h
 refine Int.lt_of_not_ge λg=>?_
 have:=Int.sign_nonneg_iff.2 g
 omega
 intro h
 rw[Int.sign_eq_neg_one_of_neg h]
 decide
theorem AfE {x y:Int}:nZ (Int.tdiv x y)<=nZ x:=Tn (by
 rw[Int.natAbs_tdiv]
 exact Nat.div_le_self _ _)
theorem tN {x y q r:Int} (h:q=x/y/\r=x%y):AV.tup [iA q,iA r]=AV.tup [iA (x/y),iA (x%y)]:=by rw[h.1,h.2]
theorem pH:nZ 1<=1:=Gy δ
theorem AbY {a b g:Nat} (h:Nat.gcd a b=g):Nat.gcd b (a%b)=g:=by
 rw[<-h,Nat.gcd_comm a b,Nat.gcd_rec b a,Nat.gcd_comm]
theorem Afm {a b g:Nat} (h0:¬0<nB b) (h:Nat.gcd a b=g):Uh false a=(g:Int):=by
 have e:b=0:=Nat.eq_zero_of_not_pos λk=>h0 (Zi.2 k)
 rw[<-h,e,Nat.gcd_zero_right]
 rfl
theorem AeF (x y:Int) (hy:0<y) (hx:nZ x<=400) (hn:nZ y<=400):AF Tryz.prog 47 [iA x,iA y] (.tup [iA (x/y),iA (x%y)]):=by
 have k1:nB x.natAbs<=400:=hx
 have k2:nB y.natAbs<=400:=hn
 have k3:=AfE (x:=x) (y:=y)
 have k4:=Hy (Int.tdiv x y) y
 have k5:=Aih (Int.tdiv x y) 1
 have k6:=Hy (Int.tdiv x y-1) y
 have k7:=pH
 refine Ai func47 rfl λB D0 hA0=>?_
 refine Aa 14 (Aj (jH x.natAbs y.natAbs ω ω ω) (Aa 13 (Dx (.bool (!decide (decide (x<0)=decide (y<0)))) (.bool (!decide (decide (x<0)=decide (y<0)))) (Aa 1 (Aj (Iv _ _ (Int.tdiv x y) (AiK hy)) (Aa 5 (Be [(3,_,.none),(4,_,.none)] [2,3,4,5,7,8,9] ⟨Am (Fn (Int.tdiv x y) y ω),Am (Sx x ((Int.tdiv x y)*y) ω ω),trivial⟩ (Aa 5 (Aj (Sw (x-((Int.tdiv x y)*y))) (Aa 3 (Cu 32 ((x-((Int.tdiv x y)*y)).sign<0) (λhx1 hx1d=>?_) (λhx1 hx1d=>?_))))))))))))
 ·
  exact Aa 5 (Aj (Sw y) (Aa 1 (Ev 35 (decide ((0:Int)<y.sign)) true (decide_eq_true (by rw[Int.sign_eq_one_of_pos hy];decide)) (Aa 3 (Be [(1,_,.none),(2,_,.none)] [2,3,4,5,7,8,9] ⟨Am (Ck 1 δ),Am (Sx (Int.tdiv x y) (1:Int) ω ω),trivial⟩ (Aa 1 (Be [(3,_,.none),(4,_,.none)] [4,5,7,8,9] ⟨Am (Fn ((Int.tdiv x y)-(1:Int)) y ω),Am (Sx x (((Int.tdiv x y)-(1:Int))*y) ω ω),trivial⟩ (Aa 7 (Be [] [4,5] trivial (Aa 2 (Ch (.tup [iA ((Int.tdiv x y)-(1:Int)),iA (x-(((Int.tdiv x y)-(1:Int))*y))]) (tN (Aga hy (aB.1 ω))))))))))))))
 ·
  exact Aa 9 (Be [] [4,5] trivial (Aa 2 (Ch (.tup [iA (Int.tdiv x y),iA (x-((Int.tdiv x y)*y))]) (tN (Adt hy (λh9=>absurd (aB.2 h9) ω))))))
theorem Ae1 (x y:Int) (hx:nZ x<=900) (hy:nZ y<=900):AF Tryz.prog 21 [iA x,iA y] (iA (Nat.gcd x.natAbs y.natAbs:Int)):=by
 refine Ai func21 rfl λB D0 hA0=>?_
 refine Aa 8 (Be [] [4,5,6] trivial (Aa 3 (Wg [4,5,6] (λm s=>∃a b,m=b+1/\(Nat.gcd a b=Nat.gcd x.natAbs y.natAbs/\nB a<=900/\nB b<=900)/\s=⟨[(4,.ptr 2 0),(5,Dz a),(6,Dz b)],[(0,.box 47 [.bool (decide (x<0)),Dz x.natAbs]),(1,.box 47 [.bool (decide (y<0)),Dz y.natAbs]),(2,.box 47 [.bool false,.lit (.slice none 0 0)])],3,26⟩) (y.natAbs+1) ⟨x.natAbs,y.natAbs,rfl,⟨rfl,hx,hy⟩,κ⟩ ?_)))
 rintro _ _ ⟨a,b,rfl,hF,rfl⟩ J1 hJ1
 refine Aa 8 (Cu 15 ((0:Int)<(nB b:Int)) (λhx1 hx1d=>?_) (λhx1 hx1d=>?_))
 ·
  refine Aa 4 ?_
  have hb:=Zi.1 (show 0<nB b by omega)
  have hlt:=Nat.mod_lt a hb
  have hle:=Tn (Nat.le_of_lt hlt)
  exact Aa 4 (Aj (jH a b ω ω ω) (Aa 14 (Pe [4,5,6] (hJ1 _ _ (by omega:(a%b)+1<b+1) ⟨b,(a%b),rfl,⟨AbY hF.1,hF.2.2,ω⟩,rfl⟩))))
 ·
  exact Aa 9 (Aj (Iv false a _ (Afm ω hF.1)) (Aa 4 (Br)))
theorem gJ {k:Nat} (h:k<=60):nZ ((2:Int)^k)<=3:=Gy (by
 rw[Int.natAbs_pow]
 exact Nat.lt_of_le_of_lt (Nat.pow_le_pow_right δ h) δ)
theorem Aiy {n m:Nat} (h:20<=m) (hm:m<=n):(2:Int)^(n-m)*1048576=(2:Int)^(n-(m-20)):=by
 rw[show n-(m-20)=n-m+20 by omega,Int.pow_add]
 rfl
theorem AjJ {n m:Nat} (h:0<m) (hm:m<=n):(2:Int)^(n-m)+(2:Int)^(n-m)=(2:Int)^(n-(m-1)):=by
 rw[show n-(m-1)=n-m+1 by omega,Int.pow_succ]
 omega
theorem AfH (n:Nat):AF Tryz.prog 17 [.int 1] (iA ((2:Int)^(n-n))):=by
 have e:(2:Int)^(n-n)=1:=by rw[Nat.sub_self];rfl
 rw[e]
 exact Ck 1 δ
theorem AeE (n:Nat) (hn:n<=60):AF Tryz.prog 45 [.int (n:Int)] (iA ((2:Int)^n)):=by
 refine Ai func45 rfl λB D0 hA0=>?_
 refine Aa 7 (Aj (AfH n) (Aa 6 (Wg [0,2,3] (λm s=>∃k,m=k+1/\(k<=n)/\s=⟨[(0,.int (k:Int)),(2,.ptr 0 0),(3,.ptr 1 0)],[(0,.box 47 [.bool false,.lit (.slice none 0 0)]),(1,.box 47 [.bool (decide (((2:Int)^(n-k))<0)),Dz (((2:Int)^(n-k)).natAbs)])],2,20⟩) (n+1) ⟨n,rfl,Nat.le_refl _,κ⟩ ?_)))
 rintro _ _ ⟨k,rfl,hF,rfl⟩ J1 hJ1
 refine Aa 7 (Cu 6 ((20:Int)<=(k:Int)) (λhx1 hx1d=>?_) (λhx1 hx1d=>?_))
 ·
  exact Aa 5 (Be [(1,_,.none),(2,_,.none)] [0,2,3] ⟨Am (Ck 1048576 δ),Am (Aiy (n:=n) (m:=k) ω hF▸Fn ((2:Int)^(n-k)) 1048576 (by have:=gJ (k:=n-k) ω;have:nZ 1048576<=1:=Gy δ;omega)),trivial⟩ (Aa 4 (Ao ((k:Int)-20) ((k-20:Nat):Int) (Aa 2 (Pe [0,2,3] (hJ1 _ _ (by omega:(k-20)+1<k+1) ⟨(k-20),rfl,ω,rfl⟩))))))
 ·
  refine Aa 8 (Wg [0,2,3,6] (λm s=>∃q,m=q+1/\(q<=n)/\s=⟨[(0,.int (q:Int)),(2,.ptr 0 0),(3,.ptr 1 0),(6,.bool false)],[(0,.box 47 [.bool false,.lit (.slice none 0 0)]),(1,.box 47 [.bool (decide (((2:Int)^(n-q))<0)),Dz (((2:Int)^(n-q)).natAbs)])],2,20⟩) (k+1) ⟨k,rfl,hF,κ⟩ ?_)
  rintro _ _ ⟨q,rfl,hF,rfl⟩ J2 hJ2
  refine Aa 7 (Cu 13 ((0:Int)<(q:Int)) (λhx2 hx2d=>?_) (λhx2 hx2d=>?_))
  ·
   exact Aa 8 (Aj (AjJ (n:=n) (m:=q) ω hF▸Ob ((2:Int)^(n-q)) ((2:Int)^(n-q)) (by have:=gJ (k:=n-q) ω;omega) (by have:=gJ (k:=n-q) ω;omega)) (Aa 6 (Ao ((q:Int)-1) ((q-1:Nat):Int) (Aa 2 (Pe [0,2,3,6] (hJ2 _ _ (by omega:(q-1)+1<q+1) ⟨(q-1),rfl,ω,rfl⟩))))))
  ·
   exact Aa 13 (Ch (iA ((2:Int)^(n-q))) (congrArg (λz:Nat=>iA ((2:Int)^z)) ω))
theorem Ajj {f:FuncId} {args args':List AV} {r r':AV} (h:AF Tryz.prog f args r) (hl:args'.length=args.length) (ha:∀i,i<args.length->∀E v,VR E (args'.getD i .top) v->VR E (args.getD i .top) v) (hr:∀E v,VR E r v->VR E r' v):AF Tryz.prog f args' r':=λE vs hD hn hv=>by
 refine Calls.mono (h E vs hD ω λi hi=>ha i hi _ _ (hv i ω)) ?_
 rintro e w' ⟨v,D',h1,h2,h3⟩
 exact⟨v,D',h1,hr _ _ h2,h3⟩
abbrev Afc (p:Nat->Int) (m:Nat) (a b d:Int):Nat->Int:=cN p m a b d (m-1)
theorem iW (p:Nat->Int) (a b d:Int) (ha:Bg a) (hb:Bg b) (hd:Bg d) (hdp:0<d):AF Tryz.prog 62 [Cr 0 p,WA a,WA b,WA d] (.lit (.tuple #[.slice none 0 0,.int .i64 0])):=by
 refine Ai func62 rfl λB D0 hA0=>?_
 exact Aa 13 (Aj (Oe 0 p ω (λi hi=>absurd hi (Nat.not_lt_zero i)) (.inl rfl)) (Aa 3 (Aj (Du _ (Io ha)) (Aa 4 (Aj (Du _ (Io hb)) (Aa 4 (Aj (Du _ (Io hd)) (Aa 11 (Aj (Eo d (Io hd)) (Aa 3 (Ev 37 (decide (d.sign<=0)) false (decide_eq_false (by rw[Int.sign_eq_one_of_pos hdp];decide)) (Aa 20 (Br)))))))))))))
theorem VR.nil_poly {E:Ap} {v:Value} {c:Nat->Int} {e:Int} (h:VR E (.lit (.tuple #[.slice none 0 0,.int .i64 e])) v):VR E (.tup [Cr 0 c,.int e]) v:=by
 have:=h.lit_inv
 subst this
 refine .tup _ _ _ rfl λi hi=>?_
 match i,hi with
 |0,_=>exact .sl0 _ _ _ _ _
 |1,_=>exact .lit _ _
theorem nD (m:Nat) (p:Nat->Int) (a b d:Int) (hm:m<=6) (hp:∀i,Bg (p i)) (hl:m=0\/p (m-1)≠0) (ha:Bg a) (hb:Bg b) (hd:Bg d) (hdp:0<d):AF Tryz.prog 62 [Cr m p,WA a,WA b,WA d] (.tup [Cr (Ay (Afc p m a b d) m) (Afc p m a b d),.int 0]):=by
 cases m with
 |zero=>exact Ajj (iW p a b d ha hb hd hdp) rfl (λ_ _ _ _ h=>h) λE v hv=>hv.nil_poly
 |succ k=>exact iX k p a b d ω hp (hl.resolve_left ω) ha hb hd hdp
abbrev Tp (l:List Int):Nat:=Ay (Sn l) l.length
abbrev oc1 (l:List Int) (a b d:Int):Nat->Int:=Afc (Sn l) (Tp l) a b d
theorem Aio {l:List Int} (h:∀i,Bg (l.getD i 0)) (hn:l.length<=6) {a b d:Int} (ha:Bg a) (hb:Bg b) (hd:Bg d) (i:Nat):Bd 500 (oc1 l a b d i):=by
 have:Tp l<=l.length:=Fw (Sn l) l.length
 exact(jW h ha hb hd _ i).mono ω
structure Rr where
 num:Rw
 den:Rw
abbrev Dq (r:Rr):AV:= .lit (.agg #[.bool r.num.neg,.string r.num.mag,.bool r.den.neg,.string r.den.mag])
abbrev Df (x y:Int):AV:= .lit (.agg #[.bool (decide (x<0)),.string (Bq x.natAbs),.bool (decide (y<0)),.string (Bq y.natAbs)])
def cV (r:Rr):Prop:=∃x y,Bm x/\Bm y/\0<y/\Dq r=Df x y
noncomputable def xF (r:Rr):Bool:=bP (cV r)
theorem AdG {y:Int} (h:0<y):decide ((0:Int)<y.sign)=true:=decide_eq_true (by rw[Int.sign_eq_one_of_pos h];decide)
theorem yG {y:Int} (h:¬0<y):decide ((0:Int)<y.sign)=false:=decide_eq_false λg=>by
 by_cases h0:y=0
 subst h0;exact absurd g δ
 rw[Int.sign_eq_neg_one_of_neg ω] at g;exact absurd g δ
theorem Of (x y:Int) (hx:Bm x) (hy:Bm y) (hp:0<y):AF Tryz.prog 161 [Df x y] (.bool true):=by
 have hz:=AdG hp
 refine Ai func161 rfl λB D0 hA0=>?_
 exact Aa 12 (Aj (Hf x y θ θ) (Aa 3 (Aj (Eo y θ) (Aa 6 (Ch (.bool (decide ((0:Int)<(y).sign))) (congrArg AV.bool hz))))))
theorem nR (x y:Int) (hx:Bm x) (hy:Bm y) (hp:¬0<y):AF Tryz.prog 161 [Df x y] (.bool false):=by
 have hz:=yG hp
 refine Ai func161 rfl λB D0 hA0=>?_
 exact Aa 12 (Aj (Hf x y θ θ) (Aa 3 (Aj (Eo y θ) (Aa 6 (Ch (.bool (decide ((0:Int)<(y).sign))) (congrArg AV.bool hz))))))
theorem nQ (r:Rr) (h:(dV r.num&&dV r.den)=false):AF Tryz.prog 161 [Dq r] (.bool false):=by
 refine Ai func161 rfl λB D0 hA0=>?_
 exact Aa 12 (Aj (zN r.num r.den) (Aa 1 (Ev 8 (dV r.num&&dV r.den) false h (Aa 9 (Br)))))
theorem AjP {r:Rr} {x y:Int} (h1:rwA r.num=WA x) (h2:rwA r.den=WA y):Dq r=Df x y:=by
 have e1:Value.agg #[.bool r.num.neg,.string r.num.mag]=Ah x:=AV.lit.inj h1
 have e2:Value.agg #[.bool r.den.neg,.string r.den.mag]=Ah y:=AV.lit.inj h2
 unfold Ah at e1 e2
 simp only[Value.agg.injEq,Array.mk.injEq,List.cons.injEq,Value.bool.injEq,Value.string.injEq,and_true] at e1 e2
 unfold Dq Df
 rw[e1.1,e1.2,e2.1,e2.2]
theorem Xo (r:Rr):AF Tryz.prog 161 [Dq r] (.bool (xF r)):=by
 by_cases hr:cV r
 have e:xF r=true:=fA hr
 rw[e]
 obtain⟨x,y,hx,hy,hp,e⟩:=hr
 rw[e]
 exact Of x y hx hy hp
 have e:xF r=false:=Kd hr
 rw[e]
 cases h:(dV r.num&&dV r.den) with
 |false=>exact nQ r h
 |true=>
  obtain⟨h1,h2⟩:=Bool.and_eq_true_iff.1 h
  obtain⟨x,hx,ex⟩:=Ahb h1
  obtain⟨y,hy,ey⟩:=Ahb h2
  have e2:=AjP ex ey
  rw[e2]
  exact nR x y hx hy λhp=>hr ⟨x,y,hx,hy,hp,e2⟩
theorem Aal (a b:Rr):AF Tryz.prog 170 [Dq a,Dq b] (.bool (xF a&&xF b)):=by
 refine Ai func170 rfl λB D0 hA0=>?_
 refine Aa 10 (Aj (Xo a) (Aa 1 (vsb 7 (xF a) (λhx1=>?_) (λhx1=>?_))))
 ·
  exact Aa 1 (Aj (Xo b) (Aa 5 (Ch (.bool (xF b)) (congrArg AV.bool (by rw[hx1];rfl)))))
 ·
  exact Aa 7 (Ch (.bool false) (congrArg AV.bool (by rw[hx1];rfl)))
theorem Su (x y u v:Int) (hx:Bm x) (hy:Bm y) (hu:Bm u) (hv:Bm v) (hyp:0<y) (hvp:0<v):AF Tryz.prog 170 [Df x y,Df u v] (.bool true):=by
 refine Ai func170 rfl λB D0 hA0=>?_
 exact Aa 10 (Aj (Of x y θ θ θ) (Aa 2 (Aj (Of u v θ θ θ) (Aa 5 (Br)))))
theorem Pq (x y u v:Int) (hx:Bm x) (hy:Bm y) (hu:Bm u) (hv:Bm v):AF Tryz.prog 171 [Df x y,Df u v] (.tup [Ed (!decide (decide (x<0)=decide (v<0))) (x.natAbs*v.natAbs),Ed (!decide (decide (u<0)=decide (y<0))) (u.natAbs*y.natAbs),Ed (!decide (decide (y<0)=decide (v<0))) (y.natAbs*v.natAbs)]):=by
 have d1:=hx.digits
 have d2:=hy.digits
 have d3:=hu.digits
 have d4:=hv.digits
 refine Ai func171 rfl λB D0 hA0=>?_
 exact Aa 10 (Be [(2,_,.none),(5,_,.none),(6,_,.none),(9,_,.none),(12,_,.none),(13,_,.none),(16,_,.none),(19,_,.none),(20,_,.none)] [4,5,6] ⟨Am (Db x θ),Am (Db v θ),Am (Nj (decide (x<0)) x.natAbs (decide (v<0)) v.natAbs ω ω),Am (Db u θ),Am (Db y θ),Am (Nj (decide (u<0)) u.natAbs (decide (y<0)) y.natAbs ω ω),Am (Db y θ),Am (Db v θ),Am (Nj (decide (y<0)) y.natAbs (decide (v<0)) v.natAbs ω ω),trivial⟩ (Aa 2 (Br)))
def Cy (x y:Int):Int:=(Nat.gcd x.natAbs y.natAbs:Int)
theorem Tj {x y:Int} (h:0<y):0<Nat.gcd x.natAbs y.natAbs:=Nat.gcd_pos_of_pos_right _ ω
theorem AdE (x:Int) {g:Nat} (hg:0<g):Cn (!decide (decide (x<0)=false)) (Ga (decide (x<0)) x.natAbs g)=x/(g:Int):=by
 have:=(Qm x (g:Int) ω).1
 rwa [show decide ((g:Int)<0)=false from decide_eq_false ω,Int.natAbs_natCast] at this
theorem AdD {y:Int} (hy:0<y) {g:Nat} (hg:0<g):Cn (!decide (false=false)) (Ga false y.natAbs g)=y/(g:Int):=by
 have:=(Qm y (g:Int) ω).1
 rwa [show decide ((g:Int)<0)=false from decide_eq_false ω,show decide (y<0)=false from decide_eq_false ω,Int.natAbs_natCast] at this
abbrev lB (x y:Int):Value:= .tuple #[.agg #[.bool (decide (x/Cy x y<0)),.string (Bq (x/Cy x y).natAbs),.bool (decide (y/Cy x y<0)),.string (Bq (y/Cy x y).natAbs)],.int .i64 0]
theorem nI (x y:Int) (hx:Bm x) (hy:Bm y) (hp:0<y):AF Tryz.prog 118 [Ed (decide (x<0)) x.natAbs,Ed false y.natAbs] (.lit (lB x y)):=by
 have hd:=hx.digits
 have he:=hy.digits
 have hg:=Tj (x:=x) hp
 have h1:=Za x.natAbs y.natAbs
 have h2:=Nt (decide (x<0)) x.natAbs (Nat.gcd x.natAbs y.natAbs)
 have h3:=Nt false y.natAbs (Nat.gcd x.natAbs y.natAbs)
 have z1:Cn (!decide ((decide (x<0))=false)) (Ga (decide (x<0)) x.natAbs (Nat.gcd x.natAbs y.natAbs))=x/Cy x y:=AdE x hg
 have z2:Cn (!decide (false=false)) (Ga false y.natAbs (Nat.gcd x.natAbs y.natAbs))=y/Cy x y:=AdD hp hg
 have f1:Bm (x/Cy x y):=Kx hx
 have f2:Bm (y/Cy x y):=Kx hy
 have e1:decide ((Gd (Cn (!decide ((decide (x<0))=false)) (Ga (decide (x<0)) x.natAbs (Nat.gcd x.natAbs y.natAbs))))=0)=true:=decide_eq_true (by rw[z1];exact Fx f1)
 have e2:decide ((Gd (Cn (!decide (false=false)) (Ga false y.natAbs (Nat.gcd x.natAbs y.natAbs))))=0)=true:=decide_eq_true (by rw[z2];exact Fx f2)
 refine Ai func118 rfl λB D0 hA0=>?_
 exact Aa 9 (Be [(6,_,.none)] [2,3,4,6] ⟨Am (eR x.natAbs y.natAbs ω ω),trivial⟩ (Aa 5 (Aj (Ni (decide (x<0)) x.natAbs false (Nat.gcd x.natAbs y.natAbs) ω ω ω) (Aa 10 (Aj (Ni false y.natAbs false (Nat.gcd x.natAbs y.natAbs) ω ω ω) (Aa 9 (Aj (Ds (!decide ((decide (x<0))=false)) (Ga (decide (x<0)) x.natAbs (Nat.gcd x.natAbs y.natAbs)) ω) (Aa 11 (Aj (Ds (!decide (false=false)) (Ga false y.natAbs (Nat.gcd x.natAbs y.natAbs)) ω) (Aa 14 (Ev 43 (!decide (Gd (Cn (!decide ((decide (x<0))=false)) (Ga (decide (x<0)) x.natAbs (Nat.gcd x.natAbs y.natAbs)))=0)) false (by rw[e1];rfl) (Aa 5 (Ev 46 (!decide (Gd (Cn (!decide (false=false)) (Ga false y.natAbs (Nat.gcd x.natAbs y.natAbs)))=0)) false (by rw[e2];rfl) (Aa 13 (Ch (.lit (.tuple #[.agg #[.bool (decide (Fc (Cn (!decide ((decide (x<0))=false)) (Ga (decide (x<0)) x.natAbs (Nat.gcd x.natAbs y.natAbs)))<0)),.string (Bq (Fc (Cn (!decide ((decide (x<0))=false)) (Ga (decide (x<0)) x.natAbs (Nat.gcd x.natAbs y.natAbs)))).natAbs),.bool (decide (Fc (Cn (!decide (false=false)) (Ga false y.natAbs (Nat.gcd x.natAbs y.natAbs)))<0)),.string (Bq (Fc (Cn (!decide (false=false)) (Ga false y.natAbs (Nat.gcd x.natAbs y.natAbs)))).natAbs)],.int .i64 0])) (by rw[z1,z2,Dy f1,Dy f2]))))))))))))))))
theorem Rm (x y:Int) (hx:Bm x) (hy:Bm y) (hp:0<y):AF Tryz.prog 118 [Ed (decide (x<0)) x.natAbs,Ed (decide (y<0)) y.natAbs] (.lit (lB x y)):=by
 have h:=nI x y hx hy hp
 rw[show decide (y<0)=false from decide_eq_false ω]
 exact h
theorem Og (x y:Int) (hx:Bm x) (hy:Bm y) (hp:0<y):AF Tryz.prog 67 [WA x,WA y] (.lit (lB x y)):=by
 have hb:((Bq y.natAbs).toList==(⟨#[]⟩:ByteArray).toList)=false:=fB ω
 refine Ai func67 rfl λB D0 hA0=>?_
 refine Aa 13 (Aj (Hf x y θ θ) (Aa 11 (Dx (.bool ((Bq y.natAbs).toList==(⟨#[]⟩:ByteArray).toList)) (.bool false) ?_ (congrArg Value.bool hb))))
 exact Aa 6 (Be [(1,_,.none),(3,_,.none),(4,_,.none)] [4,5] ⟨Am (Db x θ),Am (Db y θ),Am (Rm x y hx hy hp),trivial⟩ (Aa 2 (Br)))
theorem Agm (b:Bool) (n:Nat):Cn (!b) n= -Cn b n:=by unfold Cn;cases b<;>simp
theorem Aas (x y u v:Int) (hx:Bm x) (hy:Bm y) (hu:Bm u) (hv:Bm v) (hyp:0<y) (hvp:0<v):AF Tryz.prog 135 [Df x y,Df u v] (.lit (.tuple #[.int .i64 (x*v-u*y).sign,.int .i64 0])):=by
 have d1:=hx.digits
 have d2:=hy.digits
 have d3:=hu.digits
 have d4:=hv.digits
 have p1:=Fp x.natAbs v.natAbs
 have p2:=Fp u.natAbs y.natAbs
 have p5:=Qb (!decide (decide (x<0)=decide (v<0))) (x.natAbs*v.natAbs) (!(!decide (decide (u<0)=decide (y<0)))) (u.natAbs*y.natAbs)
 have z:Cn (Kv (!decide (decide (x<0)=decide (v<0))) (x.natAbs*v.natAbs) (!(!decide (decide (u<0)=decide (y<0)))) (u.natAbs*y.natAbs)) (Kc (!decide (decide (x<0)=decide (v<0))) (x.natAbs*v.natAbs) (!(!decide (decide (u<0)=decide (y<0)))) (u.natAbs*y.natAbs))=x*v-u*y:=by rw[iG,aC,Agm,aC];omega
 refine Ai func135 rfl λB D0 hA0=>?_
 exact Aa 13 (Aj (Su x y u v hx hy hu hv hyp hvp) (Aa 10 (Aj (Pq x y u v hx hy hu hv) (Aa 13 (Be [(2,_,.none),(3,_,.none),(4,_,.none)] [4,5] ⟨Am (Ss (!decide (decide (u<0)=decide (y<0))) (u.natAbs*y.natAbs)),Am (Nh (!decide (decide (x<0)=decide (v<0))) (x.natAbs*v.natAbs) (!(!decide (decide (u<0)=decide (y<0)))) (u.natAbs*y.natAbs) ω ω),Am (Uj (Kv (!decide (decide (x<0)=decide (v<0))) (x.natAbs*v.natAbs) (!(!decide (decide (u<0)=decide (y<0)))) (u.natAbs*y.natAbs)) (Kc (!decide (decide (x<0)=decide (v<0))) (x.natAbs*v.natAbs) (!(!decide (decide (u<0)=decide (y<0)))) (u.natAbs*y.natAbs)) ω),trivial⟩ (Aa 2 (Ch (.lit (.tuple #[.int .i64 ((Cn (Kv (!decide (decide (x<0)=decide (v<0))) (x.natAbs*v.natAbs) (!(!decide (decide (u<0)=decide (y<0)))) (u.natAbs*y.natAbs)) (Kc (!decide (decide (x<0)=decide (v<0))) (x.natAbs*v.natAbs) (!(!decide (decide (u<0)=decide (y<0)))) (u.natAbs*y.natAbs))).sign),.int .i64 0])) (by rw[z]))))))))
theorem nL (x y:Int) (hx:Bm x) (hy:Bm y) (hp:0<y):AF Tryz.prog 119 [Df x y] (.lit (.tuple #[Ah (x/y),.int .i64 0])):=by
 have hd:=hx.digits
 have he:=hy.digits
 have hm0:0<y.natAbs:=by omega
 have h1:=Nt (decide (x<0)) x.natAbs y.natAbs
 have z:=(Qm x y ω).1
 have f1:Bm (x/y):=Kx hx
 refine Ai func119 rfl λB D0 hA0=>?_
 exact Aa 11 (Aj (Of x y hx hy hp) (Aa 7 (Be [(2,_,.none),(5,_,.none),(6,_,.none)] [2,4] ⟨Am (Db x θ),Am (Db y θ),Am (Ni (decide (x<0)) x.natAbs (decide (y<0)) y.natAbs ω ω ω),trivial⟩ (Aa 4 (Aj (Ds (!decide ((decide (x<0))=(decide (y<0)))) (Ga (decide (x<0)) x.natAbs y.natAbs) ω) (Aa 7 (Ch (.lit (.tuple #[Ah (Fc (Cn (!decide ((decide (x<0))=(decide (y<0)))) (Ga (decide (x<0)) x.natAbs y.natAbs))),.int .i64 (Gd (Cn (!decide ((decide (x<0))=(decide (y<0)))) (Ga (decide (x<0)) x.natAbs y.natAbs)))])) (by rw[z,Dy f1,Fx f1]))))))))
theorem Agn (x:Int) (k:Nat):Cn (decide (x<0)) (x.natAbs*2^k)=x*((2^k:Nat):Int):=by
 have h:=Je x
 unfold Cn at h ⊢
 by_cases hx:x<0
 rw[if_pos (by simpa using hx)] at h ⊢
 rw[Int.natCast_mul,<-Int.neg_mul,h]
 rw[if_neg (by simpa using hx)] at h ⊢
 rw[Int.natCast_mul,h]
theorem Xp (x:Int) (k:Nat) (hx:Bm x) (hk:k<=60000) (hf:Bm (x*((2^k:Nat):Int))):AF Tryz.prog 65 [WA x,.int (k:Int)] (.lit (.tuple #[Ah (x*((2^k:Nat):Int)),.int .i64 0])):=by
 have hd:=hx.digits
 have h1:=Af6 x.natAbs k
 refine Ai func65 rfl λB D0 hA0=>?_
 exact Aa 11 (Aj (Du x θ) (Aa 12 (Ev 15 (decide ((k:Int)< -65536)) false (decide_eq_false ω) (Aa 5 (Ev 18 (decide ((65536:Int)<(k:Int))) false (decide_eq_false ω) (Aa 6 (Aj (Db x θ) (Aa 11 (Ev 23 (decide ((0:Int)<=(k:Int))) true (decide_eq_true ω) (Aa 2 (Be [(5,_,.none),(7,_,.none)] [4,5] ⟨Am (Aai x.natAbs k (k:Int) rfl ω ω),Am (Ds (decide (x<0)) (x.natAbs*2^k) ω),trivial⟩ (Aa 3 (Ch (.lit (.tuple #[Ah (Fc (Cn (decide (x<0)) (x.natAbs*2^k))),.int .i64 (Gd (Cn (decide (x<0)) (x.natAbs*2^k)))])) (by rw[Agn,Dy hf,Fx hf]))))))))))))))
def Sj (b:Bool) (n:Nat):Int:=if b=true then -(n:Int) else n
def sgZ (b:Bool) (n:Nat):Int:=if n=0 then 0 else if b=true then -1 else 1
theorem Ad9 (b:Bool) (n:Nat):sgZ b n=(Sj b n).sign:=by
 unfold sgZ Sj
 by_cases h:n=0
 subst h;cases b<;>rfl
 rw[if_neg h]
 cases b with
 |true=>rw[if_pos rfl,if_pos rfl];exact(Int.sign_eq_neg_one_of_neg ω).symm
 |false=>rw[if_neg δ,if_neg δ];exact(Int.sign_eq_one_of_pos ω).symm
theorem Aea (b:Bool) (n:Nat):Sj (!b) n= -Sj b n:=by cases b<;>simp[Sj]
theorem AdZ (b:Bool) (n:Nat) (c:Bool) (m:Nat):Sj (Kv b n c m) (Kc b n c m)=Sj b n+Sj c m:=by
 unfold Kv Kc Sj
 by_cases h:b=c
 subst h
 rw[if_pos rfl,if_pos rfl]
 cases b<;>simp<;>omega
 rw[if_neg h,if_neg h]
 by_cases hm:m<=n
 rw[if_pos hm,if_pos hm]
 cases b<;>cases c<;>first|exact absurd rfl h|(simp;omega)
 rw[if_neg hm,if_neg hm]
 cases b<;>cases c<;>first|exact absurd rfl h|(simp;omega)
theorem Xd (x:Int):Sj (decide (x<0)) x.natAbs=x:=by
 unfold Sj
 by_cases h:x<0
 rw[if_pos (decide_eq_true h)];omega
 rw[if_neg (by simpa using h)];omega
theorem eH (b c:Bool) (n m:Nat):Sj (!decide (b=c)) (n*m)=Sj b n*Sj c m:=by
 cases b<;>cases c<;>simp[Sj,Int.neg_mul,Int.mul_neg]
theorem Ae9 (b:Bool) (n:Nat) (h:decide (((Ae n).length:Int)=0)=true):AF Tryz.prog 101 [Ed b n] (.int 0):=by
 refine Ai func101 rfl λB D0 hA0=>?_
 exact Aa 17 (Ev 3 (decide (((Ae n).length:Int)=0)) true h (Aa 9 (Br)))
theorem AeA (n:Nat) (h:decide (((Ae n).length:Int)=0)=false):AF Tryz.prog 101 [Ed true n] (.int (-1)):=by
 refine Ai func101 rfl λB D0 hA0=>?_
 exact Aa 17 (Ev 3 (decide (((Ae n).length:Int)=0)) false h (Aa 17 (Br)))
theorem AeB (n:Nat) (h:decide (((Ae n).length:Int)=0)=false):AF Tryz.prog 101 [Ed false n] (.int 1):=by
 refine Ai func101 rfl λB D0 hA0=>?_
 exact Aa 17 (Ev 3 (decide (((Ae n).length:Int)=0)) false h (Aa 18 (Br)))
theorem AeC (b:Bool) (n:Nat):AF Tryz.prog 101 [Ed b n] (.int (sgZ b n)):=by
 unfold sgZ
 by_cases h:n=0
 rw[if_pos h]
 exact Ae9 b n (decide_eq_true (by rw[h,Cf];rfl))
 have hl:=Zc (Nat.pos_of_ne_zero h)
 rw[if_neg h]
 cases b with
 |true=>exact AeA n (decide_eq_false ω)
 |false=>exact AeB n (decide_eq_false ω)
theorem Aat (x y u v:Int) (hx:Bm x) (hy:Bm y) (hu:Bm u) (hv:Bm v) (hyp:0<y) (hvp:0<v):AF Tryz.prog 135 [Df x y,Df u v] (.lit (.tuple #[.int .i64 (sgZ (Kv (!decide (decide (x<0)=decide (v<0))) (x.natAbs*v.natAbs) (!(!decide (decide (u<0)=decide (y<0)))) (u.natAbs*y.natAbs)) (Kc (!decide (decide (x<0)=decide (v<0))) (x.natAbs*v.natAbs) (!(!decide (decide (u<0)=decide (y<0)))) (u.natAbs*y.natAbs))),.int .i64 0])):=by
 have d1:=hx.digits
 have d2:=hy.digits
 have d3:=hu.digits
 have d4:=hv.digits
 have p1:=Fp x.natAbs v.natAbs
 have p2:=Fp u.natAbs y.natAbs
 have p3:=Fp y.natAbs v.natAbs
 have p4:=Fp x.natAbs u.natAbs
 have p6:=Qb (!decide (decide (x<0)=decide (v<0))) (x.natAbs*v.natAbs) (!!decide (decide (u<0)=decide (y<0))) (u.natAbs*y.natAbs)
 refine Ai func135 rfl λB D0 hA0=>?_
 exact Aa 13 (Aj (Su x y u v θ θ θ θ θ θ) (Aa 10 (Aj (Pq x y u v θ θ θ θ) (Aa 13 (Be [(2,_,.none),(3,_,.none),(4,_,.none)] [4,5] ⟨Am (Ss (!decide (decide (u<0)=decide (y<0))) (u.natAbs*y.natAbs)),Am (Nh (!decide (decide (x<0)=decide (v<0))) (x.natAbs*v.natAbs) (!(!decide (decide (u<0)=decide (y<0)))) (u.natAbs*y.natAbs) ω ω),Am (AeC (Kv (!decide (decide (x<0)=decide (v<0))) (x.natAbs*v.natAbs) (!(!decide (decide (u<0)=decide (y<0)))) (u.natAbs*y.natAbs)) (Kc (!decide (decide (x<0)=decide (v<0))) (x.natAbs*v.natAbs) (!(!decide (decide (u<0)=decide (y<0)))) (u.natAbs*y.natAbs))),trivial⟩ (Aa 2 (Br)))))))
theorem Aau (x y u v:Int) (hx:Bm x) (hy:Bm y) (hu:Bm u) (hv:Bm v) (hyp:0<y) (hvp:0<v):AF Tryz.prog 135 [Df x y,Df u v] (.lit (.tuple #[.int .i64 (x*v-u*y).sign,.int .i64 0])):=by
 have h:=Aat x y u v hx hy hu hv hyp hvp
 rw[Ad9,AdZ,Aea (!decide (decide (u<0)=decide (y<0))),eH,eH,Xd,Xd,Xd,Xd,<-Int.sub_eq_add_neg] at h
 exact h
theorem qP {w w':World} (hb:Below w.heap.size w w') (hd:w.drawn<=w'.drawn):∃q os',w'=grow (w.drewN q) os':=by
 refine⟨w'.drawn-w.drawn,w'.heap.extract w.heap.size w'.heap.size,?_⟩
 have e:w'.heap=w.heap++w'.heap.extract w.heap.size w'.heap.size:=by
  apply Array.ext
  have:=hb.size
  simp;omega
  intro i h1 h2
  by_cases hi:i<w.heap.size
  rw[Array.getElem_append_left hi]
  have:=hb.block i hi
  rw[Array.getElem?_eq_getElem h1,Array.getElem?_eq_getElem hi] at this
  exact Option.some.inj this
  rw[Array.getElem_append_right ω]
  simp[show w.heap.size+(i-w.heap.size)=i by omega]
 obtain⟨h1,h2,h3,h4,h5⟩:=w'
 have g1:=hb.os;have g2:=hb.tape;have g3:=hb.output
 simp only at e g1 g2 g3 hd
 show _=World.mk _ _ _ _ _
 simp only[World.drewN]
 rw[<-e,g1,g2,g3,show w.drawn+(h3-w.drawn)=h3 by omega]
theorem jX {f:FuncId} {l:List Value} {r:Value} (h:AF Tryz.prog f (l.map .lit) (.lit r)) (w:World):Calls Tryz.prog f l.toArray w λe w'=>e= .returned r/\∃q os',w'=grow (w.drewN q) os':=by
 refine(Drw.calls_drawn (h { π:=λ_=>0,cap:=λ_=>0,A:=λ_=>False,D:=λ_=>False,w:=w } l.toArray (λ_ h=>h.elim) (by simp) λi hi=>?_)).mono ?_
 have h2:i<l.length:=by simpa using hi
 have e1:(l.map AV.lit).getD i .top= .lit (l.toArray.getD i undef):=by simp[h2]
 rw[e1];exact .lit _ _
 rintro e w' ⟨⟨v,D',rfl,hr,hb,_,_,_⟩,hd⟩
 exact⟨by rw[hr.lit_inv],qP hb (hd (by simp))⟩
abbrev RQ:={r:Rr//cV r}
theorem Zt:cV ⟨⟨false,⟨#[]⟩⟩,⟨decide ((1:Int)<0),Bq 1⟩⟩:=⟨0,1,Di δ δ,Di δ δ,δ,by
 have e:Bq (0:Int).natAbs=⟨#[]⟩:=Nm
 show AV.lit (Value.agg #[.bool false,.string ⟨#[]⟩,.bool (decide ((1:Int)<0)),.string (Bq 1)])=AV.lit (Value.agg #[.bool (decide ((0:Int)<0)),.string (Bq (0:Int).natAbs),.bool (decide ((1:Int)<0)),.string (Bq (1:Int).natAbs)])
 rw[e];rfl⟩
noncomputable instance:Inhabited RQ:=⟨⟨_,Zt⟩⟩
def kD (r:RQ):List Value:=[.bool r.1.num.neg,.string r.1.num.mag,.bool r.1.den.neg,.string r.1.den.mag]
noncomputable def lS (r:RQ):Int:=r.2.choose
noncomputable def lT (r:RQ):Int:=r.2.choose_spec.choose
theorem Jd (r:RQ):Bm (lS r)/\Bm (lT r)/\0<lT r/\Dq r.1=Df (lS r) (lT r):=r.2.choose_spec.choose_spec
noncomputable def cfQ (a b:RQ):Int:=(lS a*lT b-lS b*lT a).sign
theorem Om {a b:RQ}:cfQ a b<0↔lS a*lT b<lS b*lT a:=by
 unfold cfQ
 constructor
 intro h
 refine Int.not_le.1 λh2=>?_
 have:0<=(lS a*lT b-lS b*lT a).sign:=Int.sign_nonneg_iff.2 ω
 omega
 intro h
 rw[Int.sign_eq_neg_one_of_neg ω]
 decide
theorem Abx {a b c d e f:Int} (hb:0<b) (hd:0<d) (hf:0<f) (h1:a*d<c*b) (h2:c*f<e*d):a*f<e*b:=by
 have g1:a*d*f<c*b*f:=Int.mul_lt_mul_of_pos_right h1 hf
 have g2:c*f*b<e*d*b:=Int.mul_lt_mul_of_pos_right h2 hb
 have e1:c*b*f=c*f*b:=by rw[Int.mul_assoc,Int.mul_comm b f,<-Int.mul_assoc]
 have e2:a*d*f=a*f*d:=by rw[Int.mul_assoc,Int.mul_comm d f,<-Int.mul_assoc]
 have e3:e*d*b=e*b*d:=by rw[Int.mul_assoc,Int.mul_comm d b,<-Int.mul_assoc]
 have g3:a*f*d<e*b*d:=by rw[<-e2,<-e3];rw[e1] at g1;exact Int.lt_trans g1 g2
 exact Int.lt_of_mul_lt_mul_right g3 (Int.le_of_lt hd)
theorem Abw {a b c d e f:Int} (hb:0<b) (hd:0<d) (hf:0<f) (h1:a*d<=c*b) (h2:c*f<=e*d):a*f<=e*b:=by
 have g1:a*d*f<=c*b*f:=Int.mul_le_mul_of_nonneg_right h1 (Int.le_of_lt hf)
 have g2:c*f*b<=e*d*b:=Int.mul_le_mul_of_nonneg_right h2 (Int.le_of_lt hb)
 have e1:c*b*f=c*f*b:=by rw[Int.mul_assoc,Int.mul_comm b f,<-Int.mul_assoc]
 have e2:a*d*f=a*f*d:=by rw[Int.mul_assoc,Int.mul_comm d f,<-Int.mul_assoc]
 have e3:e*d*b=e*b*d:=by rw[Int.mul_assoc,Int.mul_comm d b,<-Int.mul_assoc]
 have g3:a*f*d<=e*b*d:=by rw[<-e2,<-e3];rw[e1] at g1;exact Int.le_trans g1 g2
 exact Int.le_of_mul_le_mul_right g3 hd
theorem AiN:SWO (ltOf cfQ) where
 irrefl x:=decide_eq_false λh=>by have:=Om.1 h;omega
 trans x y z h1 h2:=decide_eq_true (Om.2 (Abx (Jd x).2.2.1 (Jd y).2.2.1 (Jd z).2.2.1 (Om.1 (of_decide_eq_true h1)) (Om.1 (of_decide_eq_true h2))))
 ntrans x y z h1 h2:=decide_eq_false λh=>by
  have k1:¬(lS x*lT y<lS y*lT x):=λg=>of_decide_eq_false h1 (Om.2 g)
  have k2:¬(lS y*lT z<lS z*lT y):=λg=>of_decide_eq_false h2 (Om.2 g)
  have k3:=Om.1 h
  have:=Abw (Jd z).2.2.1 (Jd y).2.2.1 (Jd x).2.2.1 (Int.not_lt.1 k2) (Int.not_lt.1 k1)
  omega
theorem Aez (a b:RQ):AF Tryz.prog 135 [Dq a.1,Dq b.1] (.lit (.tuple #[.int .i64 (cfQ a b),.int .i64 0])):=by
 obtain⟨h1,h2,h3,h4⟩:=Jd a
 obtain⟨k1,k2,k3,k4⟩:=Jd b
 rw[h4,k4]
 exact Aau _ _ _ _ h1 h2 k1 k2 h3 k3
theorem uP (a b:RQ):AF Tryz.prog 134 [Dq a.1,Dq b.1] (.lit (.int .i64 (cfQ a b))):=by
 refine Ai func134 rfl λB D0 hA0=>?_
 exact Aa 11 (Aj (Aez a b) (Aa 14 (Br)))
theorem Abo (blk off size:Nat) (w:World):CmpLays Tryz.prog 134 #[] kD 4 cfQ blk off size w:=λ_ _ _ _ x y=>jX (l:=[.agg (kD x).toArray,.agg (kD y).toArray]) (uP x y) _
noncomputable def Qn (d:Array RQ):Array RQ:=pdq (ltOf cfQ) d 0 d.size (Lib.bitLen d.size) true true
theorem aE (d:Array RQ):(Qn d).size=d.size:=(pdq_sorts (ltOf cfQ) AiN d 0 d.size (Lib.bitLen d.size) true true Ω ζ (Or.inl rfl)).1.1
theorem uI (d:Array RQ) (hd:d.size<4611686018427387904):AFW Tryz.prog 136 4 kD d (Qn d) [.func (.func 134) #[] #[]]:=λblk off cap w hH hb=>by
 have h:=AnyQ.slices_SortFunc_eq Tryz.laysSort 4 (λw=>by kernel_rfl) (λw=>by kernel_rfl) kD (λ_=>rfl) (λx v hv=>by
  unfold kD at hv
  simp at hv
  rcases hv with rfl|rfl|rfl|rfl<;>rfl) cfQ AiN 134 #[] blk off cap d w (λargs w=>by kernel_rfl) (Abo blk off d.size w) hH hb hd
 refine h.mono ?_
 rintro e w' ⟨rfl,n,os,rfl⟩
 exact⟨rfl,n,os,rfl⟩
theorem AaO (l:Vs) (h0:l.n<=64):∃r,Shd [.one .i] r/\AF Tryz.prog 165 [Bs l] r:=by
 refine Bz func165 rfl ?_
 refine Ab 15 (aI func81 (Ab 13 (Ha (Ab 3 (gs (vnm [2,3,7] ·) (bV func124 λsp2 sp2p sp2a sp2b=>(Ab 8 (mI [0,1,6,7,8] (λm s=>∃i iw,m=l.n-i/\(i<=l.n)/\s=⟨[(0,.yld 2),(1,.ptr 1 0),(6,Bs l),(7,.int (l.n:Int)),(8,.int (i:Int))],[(0,.box 3 [.int iw]),(1,.box 61 [Bs l]),(2,.loop .ready none sp2 [(2,.int 0),(3,.ptr 0 0),(7,.fn 124 [.ptr 1 0])] 24)],3,35⟩) (l.n-0) ⟨0,0,rfl,Nat.zero_le _,κ⟩ ?_))))))))
 rintro _ _ ⟨i,iw,rfl,hF,rfl⟩ hJ1
 refine Ab 6 (De 9 ((i:Int)<(l.n:Int)) (λhx4 hx4d=>?_) (λhx4 hx4d=>?_))
 refine Ab 8 (gs (Dm i l.n ·) (Ab 7 ?_))
 have hm4:=Nat.mod_lt (i+1) (by omega:0<l.n)
 refine gs (Be [(2,.int ((i+1:Nat):Int),.none),(5,.int (((i+1)%l.n:Nat):Int),.none),(6,Ax (Bs l) ((i+1)%l.n),.none)] [0,1,4,5,6,7,8] ⟨As (.int .i64 (IntKind.wrap .i64 ((i:Int)+1))) η,Agd ((i+1:Nat):Int) (l.n:Int) (((i+1)%l.n:Nat):Int) ω rfl,Eg ((i+1)%l.n) l.n,trivial⟩ ·) (Ab 14 (Kn sp2p sp2a (Ab 10 (Km sp2b ?_))))
 exact Ab 18 (Cj (Ab 8 (gs (Ao ((i:Int)+1) ((i+1:Nat):Int) ·) (Ab 2 (Bb [0,1,6,7,8] [(0,0),(1,1),(2,2)] 3 [] trivial (hJ1 _ _ (by omega:l.n-(i+1)<l.n-i) ⟨i+1,(Ac (iw+Ac (Ac (((l.f i).x)*((l.f ((i+1)%l.n)).y))-Ac (((l.f i).y)*((l.f ((i+1)%l.n)).x))))),rfl,ω,rfl⟩))))))
 exact Ab 5 (We (Ab 9 (iN)))
noncomputable def Ahu (l:Vs):Value:=chV 165 [.one .i] [Bs l]
theorem zI (l:Vs) (h0:l.n<=64):AF Tryz.prog 165 [Bs l] (.lit (noV [.one .i] (Ahu l))):=fC (AaO l h0)
theorem Bd.neg {e:Nat} {x:Int} (h:Bd e x):Bd e (-x):=⟨by rw[Int.natAbs_neg];exact h.le⟩
theorem Bd.sub {e:Nat} {x y:Int} (h:Bd e x) (k:Bd e y):Bd (e+1) (x-y):=by rw[Int.sub_eq_add_neg];exact h.add k.neg
theorem lX (x:Int) {g:Nat} (hg:0<g):Cn (!decide (decide (x<0)=true)) (Ga (decide (x<0)) x.natAbs g)= -(x/(g:Int)):=by
 have:=(Qm x (-(g:Int)) ω).1
 rwa [show decide (-(g:Int)<0)=true from decide_eq_true ω,Int.natAbs_neg,Int.natAbs_natCast,Int.ediv_neg] at this
theorem yF {y:Int} (hy:y<0) {g:Nat} (hg:0<g):Cn (!decide (true=true)) (Ga true y.natAbs g)= -(y/(g:Int)):=by
 have:=lX y hg
 rwa [show decide (y<0)=true from decide_eq_true hy] at this
abbrev zA (x y:Int):Value:= .agg #[.bool (decide (x<0)),.string (Bq x.natAbs),.bool (decide (y<0)),.string (Bq y.natAbs)]
theorem rt0:Value.agg #[.bool false,.string ⟨#[]⟩,.bool false,.string ⟨#[]⟩]=zA 0 0:=by
 have h0:Bq (0:Int).natAbs=⟨#[]⟩:=Nm
 unfold zA
 rw[h0]
 rfl
theorem nK (x y:Int) (hx:Bm x) (hy:Bm y) (hp:y<0):AF Tryz.prog 118 [Ed (decide (x<0)) x.natAbs,Ed true y.natAbs] (.lit (.tuple #[zA (-(x/Cy x y)) (-(y/Cy x y)),.int .i64 0])):=by
 have hd:=hx.digits
 have he:=hy.digits
 have hg:0<Nat.gcd x.natAbs y.natAbs:=Nat.gcd_pos_of_pos_right _ ω
 have h1:=Za x.natAbs y.natAbs
 have h2:=Nt (decide (x<0)) x.natAbs (Nat.gcd x.natAbs y.natAbs)
 have h3:=Nt true y.natAbs (Nat.gcd x.natAbs y.natAbs)
 have z1:Cn (!decide ((decide (x<0))=true)) (Ga (decide (x<0)) x.natAbs (Nat.gcd x.natAbs y.natAbs))= -(x/Cy x y):=lX x hg
 have z2:Cn (!decide (true=true)) (Ga true y.natAbs (Nat.gcd x.natAbs y.natAbs))= -(y/Cy x y):=yF hp hg
 have f1:Bm (-(x/Cy x y)):=by unfold Bm;rw[Int.natAbs_neg];exact Kx hx
 have f2:Bm (-(y/Cy x y)):=by unfold Bm;rw[Int.natAbs_neg];exact Kx hy
 have e1:decide ((Gd (Cn (!decide ((decide (x<0))=true)) (Ga (decide (x<0)) x.natAbs (Nat.gcd x.natAbs y.natAbs))))=0)=true:=decide_eq_true (by rw[z1];exact Fx f1)
 have e2:decide ((Gd (Cn (!decide (true=true)) (Ga true y.natAbs (Nat.gcd x.natAbs y.natAbs))))=0)=true:=decide_eq_true (by rw[z2];exact Fx f2)
 refine Ai func118 rfl λB D0 hA0=>?_
 exact Aa 9 (Be [(6,_,.none)] [2,3,4,6] ⟨Am (eR x.natAbs y.natAbs ω ω),trivial⟩ (Aa 5 (Aj (Ni (decide (x<0)) x.natAbs true (Nat.gcd x.natAbs y.natAbs) ω ω ω) (Aa 10 (Aj (Ni true y.natAbs true (Nat.gcd x.natAbs y.natAbs) ω ω ω) (Aa 9 (Aj (Ds (!decide ((decide (x<0))=true)) (Ga (decide (x<0)) x.natAbs (Nat.gcd x.natAbs y.natAbs)) ω) (Aa 11 (Aj (Ds (!decide (true=true)) (Ga true y.natAbs (Nat.gcd x.natAbs y.natAbs)) ω) (Aa 14 (Ev 43 (!decide (Gd (Cn (!decide ((decide (x<0))=true)) (Ga (decide (x<0)) x.natAbs (Nat.gcd x.natAbs y.natAbs)))=0)) false (by rw[e1];rfl) (Aa 5 (Ev 46 (!decide (Gd (Cn (!decide (true=true)) (Ga true y.natAbs (Nat.gcd x.natAbs y.natAbs)))=0)) false (by rw[e2];rfl) (Aa 13 (Ch (.lit (.tuple #[.agg #[.bool (decide (Fc (Cn (!decide ((decide (x<0))=true)) (Ga (decide (x<0)) x.natAbs (Nat.gcd x.natAbs y.natAbs)))<0)),.string (Bq (Fc (Cn (!decide ((decide (x<0))=true)) (Ga (decide (x<0)) x.natAbs (Nat.gcd x.natAbs y.natAbs)))).natAbs),.bool (decide (Fc (Cn (!decide (true=true)) (Ga true y.natAbs (Nat.gcd x.natAbs y.natAbs)))<0)),.string (Bq (Fc (Cn (!decide (true=true)) (Ga true y.natAbs (Nat.gcd x.natAbs y.natAbs)))).natAbs)],.int .i64 0])) (by rw[z1,z2,Dy f1,Dy f2]))))))))))))))))
theorem nJ (x y:Int) (hx:Bm x) (hy:Bm y) (hp:y<0):AF Tryz.prog 118 [Ed (decide (x<0)) x.natAbs,Ed (decide (y<0)) y.natAbs] (.lit (.tuple #[zA (-(x/Cy x y)) (-(y/Cy x y)),.int .i64 0])):=by
 have h:=nK x y hx hy hp
 rw[show decide (y<0)=true from decide_eq_true hp]
 exact h
theorem nT (x y:Int) (hx:Bm x) (hy:Bm y) (hp:y<0):AF Tryz.prog 67 [WA x,WA y] (.lit (.tuple #[zA (-(x/Cy x y)) (-(y/Cy x y)),.int .i64 0])):=by
 have hb:((Bq y.natAbs).toList==(⟨#[]⟩:ByteArray).toList)=false:=fB ω
 refine Ai func67 rfl λB D0 hA0=>?_
 refine Aa 13 (Aj (Hf x y θ θ) (Aa 11 (Dx (.bool ((Bq y.natAbs).toList==(⟨#[]⟩:ByteArray).toList)) (.bool false) ?_ (congrArg Value.bool hb))))
 exact Aa 6 (Be [(1,_,.none),(3,_,.none),(4,_,.none)] [4,5] ⟨Am (Db x θ),Am (Db y θ),Am (nJ x y hx hy hp),trivial⟩ (Aa 2 (Br)))
theorem nS (x y:Int) (hx:Bm x) (hy:Bm y) (hp:y=0):AF Tryz.prog 67 [WA x,WA y] (.lit (.tuple #[zA 0 0,.int .i64 3])):=by
 have h0:Bq (0:Int).natAbs=⟨#[]⟩:=Nm
 have hb:((Bq y.natAbs).toList==(⟨#[]⟩:ByteArray).toList)=true:=by rw[hp,h0];exact beq_self_eq_true _
 refine Ai func67 rfl λB D0 hA0=>?_
 refine Aa 13 (Aj (Hf x y θ θ) (Aa 11 (Dx (.bool ((Bq y.natAbs).toList==(⟨#[]⟩:ByteArray).toList)) (.bool true) ?_ (congrArg Value.bool hb))))
 exact Aa 12 (Ch (.lit (.tuple #[.agg #[.bool false,.string ⟨#[]⟩,.bool false,.string ⟨#[]⟩],.int .i64 3])) (by rw[rt0]))
theorem Zu (x y n d e:Int) (hx:Bg x) (hy:Bg y) (h:AF Tryz.prog 67 [WA x,WA y] (.lit (.tuple #[zA n d,.int .i64 e]))):AF Tryz.prog 169 [.int x,.int y] (.lit (.tuple #[zA n d,.int .i64 e])):=by
 refine Ai func169 rfl λB D0 hA0=>?_
 exact Aa 9 (Aj (Cg x hx.1 hx.2) (Aa 1 (Aj (Cg y hy.1 hy.2) (Aj h (Aa 7 (Br))))))
theorem Va (x y:Int) (hx:Bg x) (hy:Bg y):∃v:Int×Int×Int,((v.2.2=0->0<v.2.1)/\Bd 64 v.1/\Bd 64 v.2.1)/\AF Tryz.prog 169 [.int x,.int y] (.lit (.tuple #[zA v.1 v.2.1,.int .i64 v.2.2])):=by
 have fx:=Di hx.1 hx.2
 have fy:=Di hy.1 hy.2
 have bx:=(Bd.int hx.1 hx.2).mono (show 63<=64 by decide)
 have bz:=(Bd.int hy.1 hy.2).mono (show 63<=64 by decide)
 have dv:Cy x y∣y:=by
  unfold Cy
  exact Int.natAbs_dvd_natAbs.1 (by rw[Int.natAbs_natCast];exact Nat.gcd_dvd_right _ _)
 rcases Int.lt_trichotomy y 0 with h|h|h
 refine⟨(-(x/Cy x y),-(y/Cy x y),0),⟨λ_=>?_,(bx.div _).neg,(bz.div _).neg⟩,Zu x y _ _ _ hx hy (nT x y fx fy h)⟩
 have hg:0<Cy x y:=by unfold Cy;have:=Nat.gcd_pos_of_pos_right x.natAbs (show 0<y.natAbs by omega);omega
 show 0< -(y/Cy x y)
 have:=Int.ediv_neg_of_neg_of_pos h hg
 omega
 exact⟨(0,0,3),⟨λe=>absurd e δ,Bd.zero _,Bd.zero _⟩,Zu x y _ _ _ hx hy (nS x y fx fy h)⟩
 refine⟨(x/Cy x y,y/Cy x y,0),⟨λ_=>?_,bx.div _,bz.div _⟩,Zu x y _ _ _ hx hy (Og x y fx fy h)⟩
 have hg:0<Cy x y:=by unfold Cy;have:=Tj (x:=x) h;omega
 exact Int.ediv_pos_of_pos_of_dvd h (Int.le_of_lt hg) dv
theorem Zj {x y:Int} (hx:0<=x) (hy:0<=y):(!decide (decide (x<0)=decide (y<0)))=false/\decide (x*y<0)=false:=by
 rw[decide_eq_false (show ¬x<0 by omega),decide_eq_false (show ¬y<0 by omega)]
 have:=Int.mul_nonneg hx hy
 exact⟨rfl,decide_eq_false ω⟩
theorem AcI (n m:Nat):Kv false n false m=false/\Kc false n false m=n+m:=by
 unfold Kv Kc
 exact⟨by simp,by simp⟩
theorem Aii {x y:Int} (hx:0<=x) (hy:0<=y):(x+y).natAbs=x.natAbs+y.natAbs:=by omega
theorem Aar (x y u v:Int) (hx:Bm x) (hy:Bm y) (hu:Bm u) (hv:Bm v) (hyp:0<y) (hvp:0<v) (hx0:0<=x) (hu0:0<=u) (h1:Bm (x*v+u*y)) (h2:Bm (y*v)):AF Tryz.prog 141 [Df x y,Df u v] (.lit (lB (x*v+u*y) (y*v))):=by
 have d1:=hx.digits
 have d2:=hy.digits
 have d3:=hu.digits
 have d4:=hv.digits
 have p1:=Fp x.natAbs v.natAbs
 have p2:=Fp u.natAbs y.natAbs
 have p3:=Fp y.natAbs v.natAbs
 have p4:=Fp x.natAbs u.natAbs
 have hl:=Rm (x*v+u*y) (y*v) h1 h2 (Int.mul_pos hyp hvp)
 have n1:=Zj hx0 (Int.le_of_lt hvp)
 have n2:=Zj hu0 (Int.le_of_lt hyp)
 have n3:=Zj (Int.le_of_lt hyp) (Int.le_of_lt hvp)
 have e1:decide (x*v+u*y<0)=Kv (!decide (decide (x<0)=decide (v<0))) (x.natAbs*v.natAbs) (!decide (decide (u<0)=decide (y<0))) (u.natAbs*y.natAbs):=by
  rw[n1.1,n2.1,(AcI _ _).1]
  exact decide_eq_false (by have:=Int.mul_nonneg hx0 (Int.le_of_lt hvp);have:=Int.mul_nonneg hu0 (Int.le_of_lt hyp);omega)
 have e2:(x*v+u*y).natAbs=Kc (!decide (decide (x<0)=decide (v<0))) (x.natAbs*v.natAbs) (!decide (decide (u<0)=decide (y<0))) (u.natAbs*y.natAbs):=by
  rw[n1.1,n2.1,(AcI _ _).2,Aii (Int.mul_nonneg hx0 (Int.le_of_lt hvp)) (Int.mul_nonneg hu0 (Int.le_of_lt hyp)),Int.natAbs_mul,Int.natAbs_mul]
 have e3:decide (y*v<0)=(!decide (decide (y<0)=decide (v<0))):=by rw[n3.1,n3.2]
 rw[e1,e2,e3,Int.natAbs_mul y v] at hl
 refine Ai func141 rfl λB D0 hA0=>?_
 exact Aa 13 (Aj (Su x y u v hx hy hu hv hyp hvp) (Aa 10 (Aj (Pq x y u v hx hy hu hv) (Aa 13 (Be [(2,_,.none),(4,_,.none)] [4,5] ⟨Am (Nh (!decide (decide (x<0)=decide (v<0))) (x.natAbs*v.natAbs) (!decide (decide (u<0)=decide (y<0))) (u.natAbs*y.natAbs) ω ω),Am hl,trivial⟩ (Aa 2 (Br)))))))
theorem Aav (x y u v:Int) (hx:Bm x) (hy:Bm y) (hu:Bm u) (hv:Bm v) (hyp:0<y) (hvp:0<v) (hx0:0<=x) (hu0:0<=u) (h1:Bm (x*u)) (h2:Bm (y*v)):AF Tryz.prog 142 [Df x y,Df u v] (.lit (lB (x*u) (y*v))):=by
 have d1:=hx.digits
 have d2:=hy.digits
 have d3:=hu.digits
 have d4:=hv.digits
 have p1:=Fp x.natAbs v.natAbs
 have p2:=Fp u.natAbs y.natAbs
 have p3:=Fp y.natAbs v.natAbs
 have p4:=Fp x.natAbs u.natAbs
 have hl:=Rm (x*u) (y*v) h1 h2 (Int.mul_pos hyp hvp)
 have n1:=Zj hx0 hu0
 have n3:=Zj (Int.le_of_lt hyp) (Int.le_of_lt hvp)
 have e1:decide (x*u<0)=(!decide (decide (x<0)=decide (u<0))):=by rw[n1.1,n1.2]
 have e3:decide (y*v<0)=(!decide (decide (y<0)=decide (v<0))):=by rw[n3.1,n3.2]
 rw[e1,Int.natAbs_mul x u,e3,Int.natAbs_mul y v] at hl
 refine Ai func142 rfl λB D0 hA0=>?_
 exact Aa 13 (Aj (Su x y u v hx hy hu hv hyp hvp) (Aa 7 (Be [(2,_,.none),(5,_,.none),(6,_,.none),(9,_,.none),(12,_,.none),(13,_,.none),(14,_,.none)] [4,5] ⟨Am (Db x θ),Am (Db u θ),Am (Nj (decide (x<0)) x.natAbs (decide (u<0)) u.natAbs ω ω),Am (Db y θ),Am (Db v θ),Am (Nj (decide (y<0)) y.natAbs (decide (v<0)) v.natAbs ω ω),Am hl,trivial⟩ (Aa 2 (Br)))))
def Dg (n:Nat):Nat->Int
 |0=>1
 |i+1=>(Dg n i*((n:Int)-i)).tdiv (i+1)
theorem Xf:∀n,n<25->∀i,i<26->0<=Dg n i/\Dg n i<=3000000:=by decide+kernel
theorem aW {n i:Nat} {w:Int} (hn:n<=24) (hi:i<n) (hw:w=Dg n i):Ac (Int.tdiv (Ac (w*((n-i:Nat):Int))) ((i+1:Nat):Int))=Dg n (i+1):=by
 subst hw
 have h1:=Xf n ω i ω
 have h2:=Xf n ω (i+1) ω
 have e1:((n-i:Nat):Int)=(n:Int)-i:=by omega
 have e2:((i+1:Nat):Int)=(i:Int)+1:=by omega
 have h3:0<=Dg n i*((n:Int)-i):=Int.mul_nonneg h1.1 ω
 have h4:Dg n i*((n:Int)-i)<=3000000*24:=Int.mul_le_mul h1.2 ω ω δ
 have h5:Dg n (i+1)=(Dg n i*((n:Int)-i)).tdiv (i+1):=rfl
 rw[e1,e2,show Ac (Dg n i*((n:Int)-i))=_ from IntWalk.i64_in _ ω,<-h5]
 exact IntWalk.i64_in _ ω
theorem AiW (n k:Nat) (hn:n<=24) (hk:k<=n):∃r,r=AV.int (Dg n k)/\AF Tryz.prog 158 [.int (n:Int),.int (k:Int)] r:=by
 refine Bz func158 rfl ?_
 refine Ab 18 (mI [0,5,7,8] (λm s=>∃(i:Nat) (w:Int),m=k-i/\(w=Dg n i/\i<=k)/\s=⟨[(0,.int (n:Int)),(5,.int w),(7,.int (k:Int)),(8,.int (i:Int))],[],0,21⟩) (k-0) ⟨0,1,rfl,⟨rfl,Nat.zero_le _⟩,κ⟩ ?_)
 rintro _ _ ⟨i,w,rfl,hF,rfl⟩ hJ1
 refine Ab 6 (De 9 ((i:Int)<(k:Int)) (λhx1 hx1d=>?_) (λhx1 hx1d=>?_))
 exact Ab 15 (gs (Ao ((n:Int)-(i:Int)) ((n-i:Nat):Int) ·) (Ab 2 (gs (Ao ((i:Int)+1) ((i+1:Nat):Int) ·) (gs (AkP (Ac (w*((n-i:Nat):Int))) ((i+1:Nat):Int) ω ·) (Ab 5 (gs (Ao ((i:Int)+1) ((i+1:Nat):Int) ·) (Ab 2 (trd [0,5,7,8] (hJ1 _ _ (by omega:k-(i+1)<k-i) ⟨i+1,(Ac (Int.tdiv (Ac (w*((n-i:Nat):Int))) ((i+1:Nat):Int))),rfl,⟨aW hn ω hF.1,ω⟩,rfl⟩)))))))))
 exact Ab 13 (Jl (r:=AV.int w) (by rw[hF.1,show i=k by omega]))
theorem Aao (s w k:Int) (hs:Bm s) (hw:Bm w) (hk:Bg k) (h1:Bm (w*k)) (h2:Bm (s+w*k)):AF Tryz.prog 157 [WA s,WA w,.int k] (WA (s+w*k)):=by
 refine Ai func157 rfl λB D0 hA0=>?_
 exact Aa 8 (Be [(2,_,.none),(3,_,.none)] [3,4,6] ⟨Am (Cg k hk.1 hk.2),Am (Sy w k hw (Di hk.1 hk.2) h1),trivial⟩ (Aa 5 (Aj (Wo s (w*k) hs h1 h2) (Aa 13 (Br)))))
theorem jJ (n k:Nat) (hn:n<=24) (hk:k<=n):AF Tryz.prog 158 [.int (n:Int),.int (k:Int)] (.int (Dg n k)):=by
 obtain⟨r,rfl,h⟩:=AiW n k hn hk
 exact h
theorem Sl {n k:Nat} (hn:n<=24) (hk:k<=n):Bg (Dg n k):=by
 have:=Xf n ω k ω
 exact⟨ω,ω⟩
theorem Xe {n k:Nat} (hn:n<=24) (hk:k<=n):0<Dg n k:=by
 have:∀n,n<25->∀k,k<n+1->0<Dg n k:=by decide+kernel
 exact this n ω k ω
def pI (p:Nat->Int) (d j:Nat):Nat->Int
 |0=>0
 |i+1=>pI p d j i+p i*Dg (d-i) (j-i)
def ofC (p:Nat->Int) (m d j:Nat):Int:=pI p d j (min (j+1) m)
theorem gO {p:Nat->Int} {d j:Nat} (hp:∀i,Bd 1000 (p i)) (hd:d<=24) (hj:j<=d):∀i,i<=j+1->Bd (1063+i) (pI p d j i)
 |0,_=>Bd.zero _
 |i+1,h=>by
  have w:=Sl (n:=d-i) (k:=j-i) ω ω
  exact(gO hp hd hj i ω).add (((hp i).mul (Bd.int w.1 w.2)).mono ω)
def Pa (g:Nat->Int) (j:Nat) (z:Int):Nat->Int:=λk=>if k=j then z else g k
theorem Ag6 (g:Nat->Int) (j:Nat) (y z:Int) (k:Nat):(if k=j then WA z else WA (Pa g j y k))=WA (Pa g j z k):=by unfold Pa;by_cases h:k=j<;>simp[h]
theorem Ag7 (g:Nat->Int) (j:Nat) (k:Nat) (h:g j=0):WA (g k)=WA (Pa g j 0 k):=by unfold Pa;by_cases e:k=j<;>simp[e,h]
def OfJ (p:Nat->Int) (m d j:Nat) (g:Nat->Int):Prop:=∀q,g q=if q<j then ofC p m d q else 0
theorem OfJ.step {p:Nat->Int} {m d j:Nat} {g:Nat->Int} {z:Int} (h:OfJ p m d j g) (hz:z=ofC p m d j):OfJ p m d (j+1) (Pa g j z):=λq=>by
 unfold Pa
 by_cases e:q=j
 subst e;rw[if_pos rfl,if_pos (Nat.lt_succ_self _)];exact hz
 rw[if_neg e,h q]
 by_cases h2:q<j
 rw[if_pos h2,if_pos ω]
 rw[if_neg h2,if_neg ω]
theorem OfJ.zero {p:Nat->Int} {m d j:Nat} {g:Nat->Int} (h:OfJ p m d j g):g j=0:=by rw[h j,if_neg ω]
theorem AjF (p:Nat->Int) (m d:Nat):OfJ p m d 0 (λ_=>0):=λq=>(if_neg (Nat.not_lt_zero q)).symm
theorem AiQ (g:Nat->Int) (j:Nat) (z:Int):Pa g j z j=z:=if_pos rfl
theorem Aap (g:Nat->Int) (p:Nat->Int) {d j i:Nat} {z:Int} (hp:∀i,Bd 1000 (p i)) (hd:d<=24) (hj:j<=d) (hi:i<=j) (hz:z=pI p d j i):AF Tryz.prog 157 [WA (Pa g j z j),WA (p i),.int (Dg (d-i) (j-i))] (WA (z+p i*Dg (d-i) (j-i))):=by
 rw[AiQ]
 have w:=Sl (n:=d-i) (k:=j-i) ω ω
 have b1:=gO hp hd hj i ω
 have b2:=gO hp hd hj (i+1) ω
 have e:pI p d j (i+1)=pI p d j i+p i*Dg (d-i) (j-i):=rfl
 rw[e] at b2
 subst hz
 exact Aao _ _ _ (b1.fit ω) ((hp i).fit ω) w (((hp i).mul (Bd.int w.1 w.2)).fit ω) (b2.fit ω)
theorem AkF (L:Nat) (p:Nat->Int) (d:Nat) (hm:L<=25) (hp:∀i,Bd 1000 (p i)) (hd:d<=24):∃r,(∃g,OfJ p L d (d+1) g/\r= .sl 2 (d+1) λi=>WA (g i))/\AF Tryz.prog 113 [Cr L p,.int (d:Int)] r:=by
 refine Bz func113 rfl ?_
 refine Ab 8 (gs (Ao ((d:Int)+1) ((d+1:Nat):Int) ·) (gs (Cc (.osl 0 2 (d+1)) (.new 0 (.vec 68 2 (d+1) (λ_=> .lit (Ah 0)))) (Jy 160 (.tmp 9) (.tmp 9) κ underlying160 2 24 (.agg #[.bool false,.string ⟨#[]⟩]) κ κ δ ((d+1:Nat):Int) (d+1) ω κ κ ω ω ω 0 (.lit (Ah 0)) κ) ·) (Ab 12 (gs (Sp 0 68 2 (d+1) (λ_=> .lit (Ah 0)) (λxi=>WA ((λ_=>0) xi)) (λx9 hx9=>rfl) ·) (mI [0,1,5,12,13] (λm s=>∃(j:Nat) (g:Nat->Int),m=d+1-j/\(OfJ p L d j g/\j<=d+1)/\s=⟨[(0,Cr L p),(1,.int (d:Int)),(5,.osl 0 2 (d+1)),(12,.int ((d+1:Nat):Int)),(13,.int (j:Int))],[(0,.vec 68 2 (d+1) (λxi=>WA (g xi)))],1,48⟩) (d+1-0) ⟨0,(λ_=>0),rfl,⟨AjF p L d,Nat.zero_le _⟩,κ⟩ ?_)))))
 rintro _ _ ⟨j,g,rfl,hF,rfl⟩ hJ1
 have hO:=hF
 refine Ab 6 (De 14 ((j:Int)<((d+1:Nat):Int)) (λhx1 hx1d=>?_) (λhx1 hx1d=>?_))
 refine Ab 17 (gs (Sp 0 68 2 (d+1) (λxi=>WA (g xi)) (λxi=>WA (Pa g j 0 xi)) (λx9 hx9=>Ag7 g j x9 hF.1.zero) ·) (mI [0,1,5,6,7,12,13] (λm s=>∃(i:Nat) (z:Int),m=j+1-i/\(z=pI p d j i/\i<=j+1/\i<=L)/\s=⟨[(0,Cr L p),(1,.int (d:Int)),(5,.osl 0 2 (d+1)),(6,.int (j:Int)),(7,.int (i:Int)),(12,.int ((d+1:Nat):Int)),(13,.int (j:Int))],[(0,.vec 68 2 (d+1) (λxi=>WA (Pa g j z xi)))],1,48⟩) (j+1-0) ⟨0,0,rfl,⟨rfl,Nat.zero_le _,Nat.zero_le _⟩,κ⟩ ?_))
 rintro _ _ ⟨i,z,rfl,hF,rfl⟩ hJ2
 refine Ab 7 (De 19 ((i:Int)<=(j:Int)) (λhx2 hx2d=>?_) (λhx2 hx2d=>?_))
 refine Ab 7 (De 24 ((i:Int)<(L:Int)) (λhx3 hx3d=>?_) (λhx3 hx3d=>?_))
 exact Ab 5 (gs (Be [(4,Ax (.osl 0 2 (d+1)) j,.none),(5,.lit (Ah (Pa g j z j)),(.read 0)),(8,Ax (Cr L p) i,.none),(12,.int ((d-i:Nat):Int),.none),(15,.int ((j-i:Nat):Int),.none),(16,_,.none),(17,_,.none),(18,Ax (.osl 0 2 (d+1)) j,.none),(19,.lit Go.undef,(.set 0 (.vec 68 2 (d+1) (λxi=>if xi=j then .lit (Ah (z+p i*Dg (d-i) (j-i))) else (λxi=>WA (Pa g j z xi)) xi))))] [0,1,5,6,7,12,13] ⟨Eg j (d+1),Bo (Az 68 (.tmp 31) κ isAgg68 2 sizeOf68 0 j κ 68 (d+1) (λxi=>WA (Pa g j z xi)) κ ω),Eg i L,As (.int .i64 (IntKind.wrap .i64 ((d:Int)-(i:Int)))) η,As (.int .i64 (IntKind.wrap .i64 ((j:Int)-(i:Int)))) η,Am (jJ (d-i) (j-i) ω ω),Am (Aap g p (d:=d) (j:=j) (i:=i) (z:=z) hp hd ω ω hF.1),Eg j (d+1),Bo (Eb 68 (.tmp 45) (.tmp 44) κ 2 sizeOf68 0 j κ 68 (d+1) (λxi=>WA (Pa g j z xi)) κ ω κ κ κ (.lit (Ah (z+p i*Dg (d-i) (j-i)))) κ),trivial⟩ ·) (Ab 4 (gs (Ao ((i:Int)+1) ((i+1:Nat):Int) ·) (Ab 2 (gs (Sp 0 68 2 (d+1) (λxi=>if xi=j then .lit (Ah (z+p i*Dg (d-i) (j-i))) else (λxi=>WA (Pa g j z xi)) xi) (λxi=>WA (Pa g j (z+p i*Dg (d-i) (j-i)) xi)) (λx9 hx9=>Ag6 g j z (z+p i*Dg (d-i) (j-i)) x9) ·) (trd [0,1,5,6,7,12,13] (hJ2 _ _ (by omega:j+1-(i+1)<j+1-i) ⟨i+1,z+p i*Dg (d-i) (j-i),rfl,⟨by rw[hF.1];rfl,ω,ω⟩,rfl⟩)))))))
 exact Ab 8 (gs (Ao ((j:Int)+1) ((j+1:Nat):Int) ·) (Ab 2 (trd [0,1,5,12,13] (hJ1 _ _ (by omega:d+1-(j+1)<d+1-j) ⟨j+1,Pa g j z,rfl,⟨hO.1.step (z:=z) (by rw[hF.1];unfold ofC;congr 1;omega),ω⟩,rfl⟩))))
 exact Ab 15 (gs (Ao ((j:Int)+1) ((j+1:Nat):Int) ·) (Ab 2 (trd [0,1,5,12,13] (hJ1 _ _ (by omega:d+1-(j+1)<d+1-j) ⟨j+1,Pa g j z,rfl,⟨hO.1.step (z:=z) (by rw[hF.1];unfold ofC;congr 1;omega),ω⟩,rfl⟩))))
 exact Ab 12 (gs (mO 0 [4] 68 2 (d+1) (λxi=>WA (g xi)) (Bi λ_ _=>rfl) ·) (Ab 1 (Jl (r:= .sl 2 (d+1) λi=>WA (g i)) ⟨g,by rw[show d+1=j by omega];exact hF.1,rfl⟩)))
def Zf (x y:Int):Int×Int:=(x/Cy x y,y/Cy x y)
def gV (b r:Int×Int):Int:=(r.1*b.2-b.1*r.2).sign
def Cs (c:Nat->Int) (n j:Nat):Int×Int:=Zf (c j) (Dg (n-1) j)
def Ip (g:Bool) (c:Nat->Int) (n:Nat):Nat->Int×Int
 |0=>(0,0)
 |j+1=>if j=0 then Cs c n j else if decide (gV (Ip g c n j) (Cs c n j)<0)=g then Ip g c n j else if gV (Ip g c n j) (Cs c n j)=0 then Ip g c n j else Cs c n j
def Tt (g:Bool) (c:Nat->Int) (n j:Nat):Int:=if j=0 then 0 else gV (Ip g c n j) (Cs c n j)
def uF:Rr:=⟨⟨false,⟨#[]⟩⟩,⟨false,⟨#[]⟩⟩⟩
def cP (g:Bool) (c:Nat->Int) (n j:Nat) (b:Rr):Prop:=(j=0/\b=uF)\/(0<j/\Dq b=Df (Ip g c n j).1 (Ip g c n j).2)
theorem jR {g:Bool} {c:Nat->Int} {n j:Nat} (h:Ip g c n (j+1)=Cs c n j):cP g c n (j+1) ⟨⟨decide ((Cs c n j).1<0),Bq (Cs c n j).1.natAbs⟩,⟨decide ((Cs c n j).2<0),Bq (Cs c n j).2.natAbs⟩⟩:= .inr ⟨Nat.succ_pos _,by rw[h]⟩
theorem jS {g:Bool} {c:Nat->Int} {n j:Nat} {b:Rr} (hb:cP g c n j b) (hj:¬j=0) (h:Ip g c n (j+1)=Ip g c n j):cP g c n (j+1) b:=by
 rcases hb with⟨h0,_⟩|⟨_,h2⟩
 exact absurd h0 hj
 exact .inr ⟨Nat.succ_pos _,by rw[h];exact h2⟩
theorem Ac4 {g:Bool} {c:Nat->Int} {n j:Nat} (h:j=0):Ip g c n (j+1)=Cs c n j:=by unfold Ip;rw[if_pos h]
theorem Ak8 {g:Bool} {c:Nat->Int} {n j:Nat} (h:¬j=0) (ha:decide (Tt g c n j<0)=g):Ip g c n (j+1)=Ip g c n j:=by
 unfold Tt at ha;rw[if_neg h] at ha
 rw[Ip,if_neg h,if_pos ha]
theorem Ak9 {g:Bool} {c:Nat->Int} {n j:Nat} (h:¬j=0) (ha:Tt g c n j=0):Ip g c n (j+1)=Ip g c n j:=by
 unfold Tt at ha;rw[if_neg h] at ha
 rw[Ip,if_neg h,if_pos ha,ite_self]
theorem AkA {g:Bool} {c:Nat->Int} {n j:Nat} (h:¬j=0) (ha:¬decide (Tt g c n j<0)=g) (hb:¬Tt g c n j=0):Ip g c n (j+1)=Cs c n j:=by
 unfold Tt at ha hb;rw[if_neg h] at ha hb
 rw[Ip,if_neg h,if_neg ha,if_neg hb]
theorem Sf {x y:Int} (hx:Bm x) (hy:Bm y) (hp:0<y):Bm (Zf x y).1/\Bm (Zf x y).2/\0<(Zf x y).2:=by
 have hd:Cy x y∣y:=by
  have h1:(Nat.gcd x.natAbs y.natAbs)∣y.natAbs:=Nat.gcd_dvd_right _ _
  exact Int.ofNat_dvd_left.2 h1
 exact⟨Kx hx,Kx hy,Int.ediv_pos_of_pos_of_dvd hp (Int.natCast_nonneg _) hd⟩
theorem uA {c:Nat->Int} {n j:Nat} (hc:∀q,Bm (c q)) (hn:n<=25) (hj:j<n):Bm (Cs c n j).1/\Bm (Cs c n j).2/\0<(Cs c n j).2:=by
 have w:=Sl (n:=n-1) (k:=j) ω ω
 exact Sf (hc j) (Di w.1 w.2) (Xe ω ω)
theorem sS {g:Bool} {c:Nat->Int} {n:Nat} (hc:∀q,Bm (c q)) (hn:n<=25):∀j,0<j->j<=n->Bm (Ip g c n j).1/\Bm (Ip g c n j).2/\0<(Ip g c n j).2
 |0,h,_=>absurd h (Nat.lt_irrefl 0)
 |j+1,_,h=>by
  have ht:=uA hc hn (j:=j) ω
  by_cases h0:j=0
  rw[Ac4 h0];exact ht
  have ih:=sS (g:=g) hc hn j ω ω
  rw[Ip,if_neg h0]
  split
  exact ih
  split
  exact ih
  exact ht
theorem xU (x y:Int) (b:Rr) (hb:xF b=false):∃r,r=AV.lit (.tuple #[.int .i64 0,.int .i64 2])/\AF Tryz.prog 135 [Df x y,Dq b] r:=by
 have hq:(xF ⟨⟨decide (x<0),Bq x.natAbs⟩,⟨decide (y<0),Bq y.natAbs⟩⟩&&xF b)=false:=by rw[hb,Bool.and_false]
 refine Bz func135 rfl ?_
 exact Ab 13 (gs (Aj (Aal ⟨⟨decide (x<0),Bq x.natAbs⟩,⟨decide (y<0),Bq y.natAbs⟩⟩ b) ·) (Ab 3 (qI 12 (!(xF ⟨⟨decide (x<0),Bq x.natAbs⟩,⟨decide (y<0),Bq y.natAbs⟩⟩&&xF b)) true (by rw[hq];rfl) (Ab 9 (Jl (r:= .lit (.tuple #[.int .i64 0,.int .i64 2])) rfl)))))
theorem AcU:xF uF=false:=Kd λ⟨x,y,_,_,hp,e⟩=>by
 have h:=AV.lit.inj e
 unfold uF at h
 simp only[Value.agg.injEq,Array.mk.injEq,List.cons.injEq,Value.bool.injEq,Value.string.injEq,and_true] at h
 have h3:=fB (n:=y.natAbs) ω
 rw[<-h.2.2.2] at h3
 exact absurd h3 (by simp)
theorem Aey (g:Bool) (c:Nat->Int) (n j:Nat) (b:Rr) (hc:∀q,Bm (c q)) (hn:n<=25) (hj:j<n) (hb:cP g c n j b):AF Tryz.prog 135 [Df (Cs c n j).1 (Cs c n j).2,Dq b] (.lit (.tuple #[.int .i64 (Tt g c n j),.int .i64 (if j=0 then 2 else 0)])):=by
 have ht:=uA hc hn hj
 rcases hb with⟨h0,rfl⟩|⟨h0,h1⟩
 obtain⟨r,rfl,h⟩:=xU (Cs c n j).1 (Cs c n j).2 uF AcU
 unfold Tt
 rw[if_pos h0,if_pos h0]
 exact h
 have hl:=sS (g:=g) hc hn j h0 ω
 unfold Tt
 rw[h1,if_neg ω,if_neg ω]
 exact Aas _ _ _ _ ht.1 ht.2.1 hl.1 hl.2.1 ht.2.2 hl.2.2
theorem Af2 (n:Nat) (c:Nat->Int) (g:Bool) (hn:n<=25) (hc:∀q,Bm (c q)):∃r,(∃b,cP g c n n b/\r=Dq b)/\AF Tryz.prog 115 [.slc 1 1 λ_=>Cr n c,.bool g] r:=by
 refine Bz func115 rfl ?_
 refine Ab 19 (gs (Kt 1 ·) (Ab 14 (gs (Dm 0 1 ·) (Ab 13 (mI [1,4,5,6,7,14,15,16,21,22,23] (λm s=>∃(j:Nat) (b:Rr),m=n-j/\(cP g c n j b/\j<=n)/\s=⟨[(1,.bool g),(4,.ptr 0 0),(5,.ptr 1 0),(6,.int 0),(7,Cr n c),(14,.slc 1 1 (λi0=>Cr n c)),(15,.int 1),(16,.int 0),(21,Cr n c),(22,.int (n:Int)),(23,.int (j:Int))],[(0,.box 113 [.bool false,.lit (.string ⟨#[]⟩),.bool false,.lit (.string ⟨#[]⟩)]),(1,.box 113 [.bool b.num.neg,.lit (.string b.num.mag),.bool b.den.neg,.lit (.string b.den.mag)])],2,63⟩) (n-0) ⟨0,⟨⟨false,⟨#[]⟩⟩,⟨false,⟨#[]⟩⟩⟩,rfl,⟨.inl ⟨rfl,rfl⟩,Nat.zero_le _⟩,κ⟩ ?_)))))
 rintro _ _ ⟨j,b,rfl,hF,rfl⟩ hJ1
 refine Ab 6 (De 24 ((j:Int)<(n:Int)) (λhx1 hx1d=>?_) (λhx1 hx1d=>?_))
 refine Ab 8 (gs (Dm j n ·) (Ab 7 (gs (Be [(3,.int ((n-1:Nat):Int),.none),(5,_,.none),(6,_,.none),(7,_,.none)] [1,4,5,6,7,8,10,14,15,16,21,22,23] ⟨As (.int .i64 (IntKind.wrap .i64 ((n:Int)-1))) η,Am (jJ (n-1) j ω ω),Am (Cg (Dg (n-1) j) (Sl ω ω).1 (Sl ω ω).2),Am (Og (c j) (Dg (n-1) j) (hc j) (Di (Sl ω ω).1 (Sl ω ω).2) (Xe ω ω)),trivial⟩ ·) (Ab 5 (gs (Aj (Aey g c n j b hc hn ω hF.1) ·) (Ab 11 (gs (Ao ((0:Int)+(j:Int)) ((0+j:Nat):Int) ·) (Ab 2 (De 49 (((0+j:Nat):Int)=0) (λhx2 hx2d=>?_) (λhx2 hx2d=>?_))))))))))
 exact Ab 19 (gs (Ao ((j:Int)+1) ((j+1:Nat):Int) ·) (Ab 2 (Bb [1,4,5,6,7,14,15,16,21,22,23] [(0,0),(1,1)] 2 [] trivial (hJ1 _ _ (by omega:n-(j+1)<n-j) ⟨j+1,⟨⟨decide ((Cs c n j).1<0),Bq ((Cs c n j).1).natAbs⟩,⟨decide ((Cs c n j).2<0),Bq ((Cs c n j).2).natAbs⟩⟩,rfl,⟨jR (Ac4 ω),ω⟩,rfl⟩))))
 refine Ab 3 (gs (Dx (.bool (!decide (decide ((Tt g c n j)<0)=g))) (.bool (!decide (decide ((Tt g c n j)<0)=g))) ·) (Ab 1 (yU 54 (decide ((Tt g c n j)<0)=g) (λhx3 hx3d=>?_) (λhx3 hx3d=>?_))))
 exact Ab 11 (gs (Ao ((j:Int)+1) ((j+1:Nat):Int) ·) (Ab 2 (Bb [1,4,5,6,7,14,15,16,21,22,23] [(0,0),(1,1)] 2 [] trivial (hJ1 _ _ (by omega:n-(j+1)<n-j) ⟨j+1,b,rfl,⟨jS hF.1 ω (Ak8 ω hx3d),ω⟩,rfl⟩))))
 refine Ab 6 (yU 58 ((Tt g c n j)=0) (λhx4 hx4d=>?_) (λhx4 hx4d=>?_))
 exact Ab 5 (gs (Ao ((j:Int)+1) ((j+1:Nat):Int) ·) (Ab 2 (Bb [1,4,5,6,7,14,15,16,21,22,23] [(0,0),(1,1)] 2 [] trivial (hJ1 _ _ (by omega:n-(j+1)<n-j) ⟨j+1,b,rfl,⟨jS hF.1 ω (Ak9 ω hx4d),ω⟩,rfl⟩))))
 exact Ab 8 (gs (Ao ((j:Int)+1) ((j+1:Nat):Int) ·) (Ab 2 (Bb [1,4,5,6,7,14,15,16,21,22,23] [(0,0),(1,1)] 2 [] trivial (hJ1 _ _ (by omega:n-(j+1)<n-j) ⟨j+1,⟨⟨decide ((Cs c n j).1<0),Bq ((Cs c n j).1).natAbs⟩,⟨decide ((Cs c n j).2<0),Bq ((Cs c n j).2).natAbs⟩⟩,rfl,⟨jR (AkA ω hx3d hx4d),ω⟩,rfl⟩))))
 exact Ab 31 (Jl (r:=Dq b) ⟨b,(show j=n by omega)▸hF.1,rfl⟩)
def ofZ (p:Nat->Int) (L d:Nat):Nat->Int:=λq=>if q<d+1 then ofC p L d q else 0
theorem Ahq (L:Nat) (p:Nat->Int) (d:Nat) (hm:L<=25) (hp:∀i,Bd 1000 (p i)) (hd:d<=24):AF Tryz.prog 113 [Cr L p,.int (d:Int)] (Cr (d+1) (ofZ p L d)):=by
 obtain⟨r,⟨g,h1,rfl⟩,h⟩:=AkF L p d hm hp hd
 have e:g=ofZ p L d:=funext h1
 rw[e] at h
 exact h
theorem Aip {p:Nat->Int} {L d:Nat} (hp:∀i,Bd 1000 (p i)) (hd:d<=24) (q:Nat):Bd 1100 (ofZ p L d q):=by
 unfold ofZ
 split
 exact(gO hp hd ω _ (Nat.min_le_left _ _)).mono (by have:=Nat.min_le_left (q+1) L;omega)
 exact Bd.zero _
theorem cG (n:Nat) (c:Nat->Int) (g:Bool) (hn:n<=25) (h0:0<n) (hc:∀q,Bm (c q)):AF Tryz.prog 115 [.slc 1 1 λ_=>Cr n c,.bool g] (Df (Ip g c n n).1 (Ip g c n n).2):=by
 obtain⟨r,⟨b,h1,rfl⟩,h⟩:=Af2 n c g hn hc
 rcases h1 with⟨h2,_⟩|⟨_,h2⟩
 omega
 rw[h2] at h;exact h
abbrev Aha (x y:Int):Value:= .agg #[.bool (decide (x<0)),.string (Bq x.natAbs),.bool (decide (y<0)),.string (Bq y.natAbs)]
theorem AaP {e:Nat} {z:Int} (h:Bd e z):bitLen z.natAbs<=e+1:=Em.2 (Nat.lt_of_le_of_lt h.le (Nat.pow_lt_pow_right δ (Nat.lt_succ_self e)))
theorem mZ (n:Nat) (c:Nat->Int) (hn:n<=25) (hc:∀q,Bm (c q)):AF Tryz.prog 159 [Cr n c,.fn 160 []] (.bool false):=by
 refine Ai func159 rfl λB D0 hA0=>?_
 refine Aa 9 (Aee 0 func188 (λ_ hD1=>?_))
 refine Aa 14 (Po [0,1,7,8] n (λq=>True) (λq=>⟨[(0,Cr n c),(1,.fn 160 []),(7,.int (n:Int)),(8,.int (q:Int))],[],0,19⟩) trivial (λq hqn hFq J1 hJ1=>?_))
 refine Aa 6 (Cu 9 ((q:Int)<(n:Int)) (λhx2 hx2d=>?_) (λhx2 hx2d=>?_))
 ·
  refine Aa 16 (Dm q n (Aa 1 (Rk 0 func160 (λ_ hD3=>?_))))
  exact Aa 9 (Aj (Du (c q) (hc q)) (Aa 5 (qM (Aa 7 (Ao ((q:Int)+1) ((q+1:Nat):Int) (Aa 2 (Ew [0,1,7,8] [] 0 0 hD1 [] trivial (hJ1 ω trivial))))))))
 ·
  exact Aa 12 (qM (Aa 5 (Br)))
theorem nA (n:Nat) (c:Nat->Int) (hn:n<=25) (h0:0<n) (hc:∀q,Bm (c q)):AF Tryz.prog 114 [Cr n c] (.bool true):=by
 refine Ai func114 rfl λB D0 hA0=>?_
 exact Aa 11 (Ev 6 (decide ((1:Int)<=(n:Int))) true (decide_eq_true ω) (Aa 5 (Ev 11 (decide ((n:Int)<=25)) true (decide_eq_true ω) (Aa 1 (Aj (mZ n c hn hc) (Aa 6 (Br)))))))
theorem cD (n:Nat) (c:Nat->Int) (hn:n<=1000000) (hc:∀i,i<n->Bm (c i)):AF Tryz.prog 112 [Cr n c] (.int (Cv c n)):=by
 refine Ai func112 rfl λB D0 hA0=>?_
 refine Aa 19 (Po [3,6,7,8] n (λi=>True) (λi=>⟨[(3,.int (Cv c i)),(6,Cr n c),(7,.int (n:Int)),(8,.int (i:Int))],[],0,18⟩) trivial (λi hin hFi J1 hJ1=>?_))
 refine Aa 6 (Cu 9 ((i:Int)<(n:Int)) (λhx1 hx1d=>?_) (λhx1 hx1d=>?_))
 ·
  exact Aa 7 (Dm i n (Aa 8 (Aj (rE (c i) (hc i ω)) (Cc (.int (max (Cv c i) (bitLen (c i).natAbs:Int))) .none (Ja (.tmp 12) (.tmp 14) #[3,3] κ (Cv c i) (bitLen (c i).natAbs:Int) κ κ) (Aa 5 (Ao ((i:Int)+1) ((i+1:Nat):Int) (Aa 2 (Ew [3,6,7,8] [] 0 0 hA0 [] trivial (hJ1 ω trivial)))))))))
 ·
  exact Aa 13 (Ch (.int (Cv c i)) (congrArg (λz=>AV.int (Cv c z)) (show _=n by omega)))
theorem zU (L:Nat) (p:Nat->Int) (d:Nat) (hp:∀i,Bd 1000 (p i)) (hl:L=0\/p (L-1)≠0) (hL:L<=d+1) (hd:d<=24):AF Tryz.prog 63 [Cr L p,.int (d:Int)] (.tup [Cr (d+1) (ofZ p L d),.int 0]):=by
 have hs:=Ua (c:=p) (k:=1001) L (λi _=>AaP (hp i))
 refine Ai func63 rfl λB D0 hA0=>?_
 exact Aa 11 (Aj (Oe L p ω (λi _=>(hp i).fit δ) hl) (Aa 6 (Ev 14 (decide ((d:Int)<0)) false (decide_eq_false ω) (Aa 6 (Ev 6 (decide ((24:Int)<(d:Int))) false (decide_eq_false ω) (Aa 6 (Ao ((L:Int)-1) ((L:Int)-1) (Aa 4 (Ev 18 (decide ((d:Int)<(L:Int)-1)) false (decide_eq_false ω) (Aa 4 (Aj (cD L p ω (λi _=>(hp i).fit δ)) (Ao ((Cv p L)+30) ((Cv p L)+30) (Aa 4 (Ev 24 (decide ((65536:Int)<(Cv p L)+30)) false (decide_eq_false ω) (Aa 8 (Aj (Ahq L p d ω hp hd) (Aa 5 (Br))))))))))))))))))
theorem mY (n:Nat) (c:Nat->Int) (hn:n<=25) (h0:0<n) (hc:∀q,Bd 1100 (c q)):AF Tryz.prog 64 [Cr n c] (.lit (.tuple #[Aha (Ip false c n n).1 (Ip false c n n).2,Aha (Ip true c n n).1 (Ip true c n n).2,.int .i64 0])):=by
 have hs:=Ua (c:=c) (k:=1101) n (λi _=>AaP (hc i))
 refine Ai func64 rfl λB D0 hA0=>?_
 refine Aa 18 (Aj (nA n c hn h0 (λq=>(hc q).fit δ)) (Aa 8 (Aj (cD n c ω (λi _=>(hc i).fit δ)) (Ao ((Cv c n)+30) ((Cv c n)+30) (Aa 4 (Ev 13 (decide ((65536:Int)<(Cv c n)+30)) false (decide_eq_false ω) (Aa 7 (Iu 2 160 1 1 (λ_=>Cr n c) ?_))))))))
 refine Cc (Df ((Ip false c n n).1) ((Ip false c n n).2)) (.drop 2) (Js 115 #[.tmp 21,(.const (.bool false))] #[163,4] κ (λ_ _=>by kernel_rfl) 2 (.vec 160 1 1 (λ_=>Cr n c)) κ (λ_ _ _ _ h=>by cases h;exact(Bi λ_ _=>rfl)) [.osl 2 1 1,.bool false] κ [.slc 1 1 (λ_=>Cr n c),.bool false] κ (Df ((Ip false c n n).1) ((Ip false c n n).2)) (cG n c false hn h0 (λq=>(hc q).fit δ))) (Aa 1 (Iu 3 160 1 1 (λ_=>Cr n c) ?_))
 exact Cc (Df ((Ip true c n n).1) ((Ip true c n n).2)) (.drop 3) (Js 115 #[.tmp 24,(.const (.bool true))] #[163,4] κ (λ_ _=>by kernel_rfl) 3 (.vec 160 1 1 (λ_=>Cr n c)) κ (λ_ _ _ _ h=>by cases h;exact(Bi λ_ _=>rfl)) [.osl 3 1 1,.bool true] κ [.slc 1 1 (λ_=>Cr n c),.bool true] κ (Df ((Ip true c n n).1) ((Ip true c n n).2)) (cG n c true hn h0 (λq=>(hc q).fit δ))) (Aa 6 (Br))
def Ajq (l:List Int) (d k:Nat):Prop:=0<l.length/\l.length<=6/\(∀i,Bg (l.getD i 0))/\d<=8/\k<2^d
theorem AkH {d:Nat} (h:d<=8):2^d<=256:=Nat.le_trans (Nat.pow_le_pow_right δ h) δ
theorem AiB {d:Nat} (h:d<=8):IntKind.wrap .i64 (1*2^min (d:Int).toNat 64)=((2^d:Nat):Int):=by
 match d,h with
 |0,_|1,_|2,_|3,_|4,_|5,_|6,_|7,_|8,_=>decide
theorem zX (s:Sg):AF Tryz.prog 33 [Dp s] (.agg [Af s.x,Af s.y,Af s.z]):=by
 refine Ai func33 rfl λB D0 hA0=>?_
 exact Aa 19 (Br)
theorem qH {c:Nat->Int} {n j:Nat} (hc:∀q,Bd 1100 (c q)) (hn:n<=25) (hj:j<n):Bd 1100 (Cs c n j).1/\(Cs c n j).2<=3000000:=by
 have w:=Xf (n-1) ω j ω
 exact⟨(hc j).div _,Int.le_trans (Int.ediv_le_self _ w.1) w.2⟩
theorem Zg {g:Bool} {c:Nat->Int} {n:Nat} (hc:∀q,Bd 1100 (c q)) (hn:n<=25):∀j,0<j->j<=n->Bd 1100 (Ip g c n j).1/\(Ip g c n j).2<=3000000
 |0,h,_=>absurd h (Nat.lt_irrefl 0)
 |j+1,_,h=>by
  have ht:=qH hc hn (j:=j) ω
  by_cases h0:j=0
  rw[Ac4 h0];exact ht
  have ih:=Zg (g:=g) hc hn j ω ω
  rw[Ip,if_neg h0]
  split
  exact ih
  split
  exact ih
  exact ht
abbrev spP (l:List Int) (d k:Nat):Nat->Int:=oc1 l (k:Int) 1 ((2^d:Nat):Int)
abbrev spN (l:List Int) (d k:Nat):Nat:=Ay (spP l d k) (Tp l)
abbrev spC (l:List Int) (d k:Nat):Nat->Int:=ofZ (spP l d k) (spN l d k) (l.length-1)
abbrev iL (g:Bool) (l:List Int) (d k:Nat):Int×Int:=Ip g (spC l d k) (l.length-1+1) (l.length-1+1)
abbrev mV (g:Bool) (l:List Int) (o:Int) (d k:Nat):Int:=o*((2^(d*(l.length-1)):Nat):Int)*(iL g l d k).2
def flI (x y:Int):Int:=iR (x/Cy x y/(y/Cy x y))
def Gi (l:List Int) (o:Int) (d k:Nat):Int:=flI (iL false l d k).1 (mV false l o d k)
def Eh (l:List Int) (o:Int) (d k:Nat):Int:=flI (-(iL true l d k).1) (mV true l o d k)
theorem Xm (n x y:Int) (hn:Bm n) (hy:Bm y) (hf:Bm (n*y)):AF Tryz.prog 66 [WA n,Df x y] (WA (n*y)):=by
 refine Ai func66 rfl λB D0 hA0=>?_
 exact Aa 12 (Aj (Sy n y hn hy hf) (Aa 15 (Br)))
theorem Xi (x y:Int) (hx:Bm x) (hy:Bm y) (hp:0<y):AF Tryz.prog 68 [Df x y] (.int (iR (x/y))):=by
 refine Ai func68 rfl λB D0 hA0=>?_
 exact Aa 9 (Aj (nL x y hx hy hp) (Aa 11 (Aj (Aa3 (x/y) (Kx hx)) (Aa 14 (Br)))))
theorem Aa5 (x:Int) (hx:Bm x) (hn:Bm (-x)):AF Tryz.prog 69 [WA x] (.lit (.tuple #[Ah (-x),.int .i64 0])):=by
 have:=Aa6 x hx
 rwa [Dy hn,Fx hn] at this
theorem AeU (k:Nat):Bd k ((2^k:Nat):Int):=⟨by rw[Int.natAbs_natCast];exact Nat.le_refl _⟩
theorem Xn (l:List Int) (o:Int) (d k:Nat) (h0:Ajq l d k) (h1:0<o/\o<=9223372036854775807) (h2: -9223372036854775807<=Eh l o d k/\Eh l o d k<=9223372036854775807):AF Tryz.prog 34 [Af l,.int o,.int (d:Int),.int (k:Int)] (.lit (.tuple #[.int .i64 (Gi l o d k),.int .i64 (-Eh l o d k)])):=by
 have hn1:=h0.1
 have hn2:=h0.2.1
 have hd8:=h0.2.2.2.1
 have hk:=h0.2.2.2.2
 have hp:=AkH hd8
 have hp0:=Nat.two_pow_pos d
 have ho:Tp l<=l.length:=Fw (Sn l) l.length
 have ho2:spN l d k<=Tp l:=Fw _ _
 have hdk:(d:Int)*((l.length-1:Nat):Int)=((d*(l.length-1):Nat):Int):=(Int.natCast_mul _ _).symm
 have hd40:d*(l.length-1)<=8*5:=Nat.mul_le_mul hd8 ω
 have hbd:∀i,Bd 1000 (spP l d k i):=λi=>(Aio h0.2.2.1 ω ⟨ω,ω⟩ ⟨δ,δ⟩ ⟨ω,ω⟩ i).mono δ
 have hcb:∀q,Bd 1100 (spC l d k q):=Aip hbd ω
 have hcf:∀q,Bm (spC l d k q):=λq=>(hcb q).fit δ
 have hL:=sS (g:=false) hcf (by omega:l.length-1+1<=25) (l.length-1+1) ω ζ
 have hU:=sS (g:=true) hcf (by omega:l.length-1+1<=25) (l.length-1+1) ω ζ
 have sL:=Zg (g:=false) hcb (by omega:l.length-1+1<=25) (l.length-1+1) ω ζ
 have sU:=Zg (g:=true) hcb (by omega:l.length-1+1<=25) (l.length-1+1) ω ζ
 have hsh:Bd 200 (o*((2^(d*(l.length-1)):Nat):Int)):=((Bd.int (by omega: -9223372036854775808<=o) ω).mul (AeU _)).mono ω
 have hbl:Bm (mV false l o d k):=(hsh.mul (Bd.int (x:=(iL false l d k).2) (Int.le_trans δ (Int.le_of_lt hL.2.2)) (Int.le_trans sL.2 δ))).fit δ
 have hbu:Bm (mV true l o d k):=(hsh.mul (Bd.int (x:=(iL true l d k).2) (Int.le_trans δ (Int.le_of_lt hU.2.2)) (Int.le_trans sU.2 δ))).fit δ
 have hsp:0<o*((2^(d*(l.length-1)):Nat):Int):=Int.mul_pos h1.1 (by have:=Nat.two_pow_pos (d*(l.length-1));omega)
 have hpl:0<mV false l o d k:=Int.mul_pos hsp hL.2.2
 have hpu:0<mV true l o d k:=Int.mul_pos hsp hU.2.2
 have hN:Bm (-(iL true l d k).1):=sU.1.neg.fit δ
 refine Ai func34 rfl λB D0 hA0=>?_
 refine Aa 9 (Aj (uX l h0.1 ω h0.2.2.1) (Aa 8 (Be [(2,_,.none),(3,_,.none),(5,.int ((2^d:Nat):Int),.none),(6,_,.none),(7,_,.none)] [0,1,2,10] ⟨Am (Cg (k:Int) ω ω),Am (Cg 1 ω ω),As (.int .i64 (IntKind.wrap .i64 (1*2^min (d:Int).toNat 64))) (congrArg (Value.int .i64) (AiB h0.2.2.2.1)),Am (Cg ((2^d:Nat):Int) ω ω),Am (nD (Tp l) (Sn l) (k:Int) 1 ((2^d:Nat):Int) ω h0.2.2.1 (Ox _ _) ⟨ω,ω⟩ ⟨δ,δ⟩ ⟨ω,ω⟩ ω),trivial⟩ (Aa 6 (Ao ((l.length:Int)-1) ((l.length-1:Nat):Int) (Aj (zU (spN l d k) (spP l d k) (l.length-1) hbd (Ox _ _) ω ω) (Aa 10 (Aj (mY (l.length-1+1) (spC l d k) ω ω hcb) (Aa 14 (Aj (Cg o ω ω) (Aa 3 (Ao ((l.length:Int)-1) ((l.length-1:Nat):Int) (Dx (.int .i64 (IntKind.wrap .i64 ((d:Int)*((l.length-1:Nat):Int)))) (.int .i64 ((d*(l.length-1):Nat):Int)) ?_ (congrArg (Value.int .i64) ((IntWalk.i64_in _ ω).trans (by rw[Int.natCast_mul]))))))))))))))))
 exact Aj (Xp o (d*(l.length-1)) (Di ω ω) ω (hsh.fit δ)) (Aa 12 (Aj (Xm (o*((2^(d*(l.length-1)):Nat):Int)) ((iL false l d k).1) ((iL false l d k).2) (hsh.fit δ) hL.2.1 hbl) (Aa 8 (Aj (Og ((iL false l d k).1) (mV false l o d k) hL.1 hbl hpl) (Aa 11 (Aj (Xi (((iL false l d k).1)/Cy ((iL false l d k).1) (mV false l o d k)) ((mV false l o d k)/Cy ((iL false l d k).1) (mV false l o d k)) (Sf hL.1 hbl hpl).1 (Sf hL.1 hbl hpl).2.1 (Sf hL.1 hbl hpl).2.2) (Aa 7 (Aj (Aa5 (iL true l d k).1 hU.1 hN) (Aa 11 (Aj (Cg o ω ω) (Aa 3 (Ao ((l.length:Int)-1) ((l.length-1:Nat):Int) (Ao ((d:Int)*((l.length-1:Nat):Int)) ((d:Int)*((l.length-1:Nat):Int)) (Aj (Xp o (d*(l.length-1)) (Di ω ω) ω (hsh.fit δ)) (Aa 10 (Aj (Xm (o*((2^(d*(l.length-1)):Nat):Int)) ((iL true l d k).1) ((iL true l d k).2) (hsh.fit δ) hU.2.1 hbu) (Aa 7 (Aj (Og (-(iL true l d k).1) (mV true l o d k) hN hbu hpu) (Aa 12 (Aj (Xi ((-(iL true l d k).1)/Cy (-(iL true l d k).1) (mV true l o d k)) ((mV true l o d k)/Cy (-(iL true l d k).1) (mV true l o d k)) (Sf hN hbu hpu).1 (Sf hN hbu hpu).2.1 (Sf hN hbu hpu).2.2) (Ao (0-(Eh l o d k)) (-Eh l o d k) (Aa 5 (Br)))))))))))))))))))))))
structure Bx where
 lo:V3
 hi:V3
abbrev bxV (b:Bx):Value:= .agg #[.int .i64 b.lo.x,.int .i64 b.lo.y,.int .i64 b.lo.z,.int .i64 b.hi.x,.int .i64 b.hi.y,.int .i64 b.hi.z]
abbrev Yf (b:Bx):AV:= .lit (bxV b)
theorem nE (b:Bx):AF Tryz.prog 87 [Yf b] (.lit (.agg #[.int .i64 b.lo.x,.int .i64 b.lo.y,.int .i64 b.lo.z,.int .i64 b.hi.x,.int .i64 b.lo.y,.int .i64 b.lo.z,.int .i64 b.hi.x,.int .i64 b.hi.y,.int .i64 b.lo.z,.int .i64 b.lo.x,.int .i64 b.hi.y,.int .i64 b.lo.z])):=by
 refine Ai func87 rfl λB D0 hA0=>?_
 exact Aa 7 (Be [] [2,3,4] trivial (Aa 30 (Br)))
def AgT:Nat->Nat
 |0=>0
 |_+1=>1
def AgU (g:FuncId) (x y:AV):Nat->AV
 |0=> .top
 |m+1=> .fn g [x,y,.elt (AgT m) λ_=>AgU g x y m]
abbrev lL (g:FuncId) (x y:AV) (m:Nat):AV:= .elt (AgT m) λ_=>AgU g x y m
theorem AhD {E:Ap} {g:FuncId} {l:List AV} {v:Value} (h:VR E (.fn g l) v):∃vs,v= .func (.func g) #[] vs/\vs.size=l.length/\∀i,i<l.length->VR E (l.getD i .top) (vs.getD i undef):=by
 cases h with
 |fn _ _ _ vs hn h=>exact⟨vs,rfl,hn,h⟩
theorem Adk {B:Nat} {D0 E:Ap} {c:Nat->Option Ar} (hh:HR B D0 E c) {id:Nat} {t:TypeId} {g:FuncId} {x y:AV} (hx:x.flat=true) (hy:y.flat=true) (hc:c id=some (.box t [.fn g [x,y,.ptr id 0]])):∀(m:Nat) (v:Value),VR E (.ptr id 0) v->VR (E.fr id).fz (lL g x y m) v:=by
 obtain⟨arr,hb,hvs⟩:=hh.box hc
 obtain⟨vs,e1,e2,e3⟩:=AhD (hvs.2 0)
 have h0:=e3 0 (by simp)
 have h1:=e3 1 (by simp)
 have h2:=e3 2 (by simp)
 intro m
 induction m with
 |zero=>
  intro v hv
  cases hv with
  |ptr _ _ _ hA=>exact .elt _ _ _ _ _ (λ_=>undef) (.inr rfl) (λj hj=>absurd hj (Nat.not_lt_zero j)) λj hj=>absurd hj (Nat.not_lt_zero j)
 |succ m ih=>
  intro v hv
  have hsz:0<arr.size:=by rw[hvs.1];simp
  cases hv with
  |ptr _ _ _ hA=>
   refine .elt _ _ _ _ _ (λj=>arr.getD j undef) (.inr rfl) (λj hj=>?_) λj hj=>?_
   obtain rfl:j=0:=by have:j<1:=hj;omega
   exact Ii hb hsz
   obtain rfl:j=0:=by have:j<1:=hj;omega
   show VR _ (.fn g [x,y,lL g x y m]) (arr.getD 0 undef)
   rw[e1]
   refine .fn _ _ _ _ (by rw[e2];rfl) λi hi=>?_
   match i,hi with
   |0,_=>exact(h0.flat hx).up (E.le_fr id).fz
   |1,_=>exact(h1.flat hy).up (E.le_fr id).fz
   |2,_=>exact ih _ h2
def frzP (id:Nat) (V:AV):AV->AV
 | .ptr id' off=>if id'=id then (if off=0 then V else .top) else .ptr id' off
 |x=>x
def Bn.frzP (c:Bn) (id:Nat) (V:AV):Bn:=⟨c.m,c.k,⟨mapT (YtbggmndaahbojaaGreat.frzP id V) c.s.t,(Hx c.s.h id).map λp=>(p.1,p.2.mapB (YtbggmndaahbojaaGreat.frzP id V)),c.s.nx,c.s.n⟩⟩
theorem Akc {P:Program} {R:Option Nat} {B:Nat} {D0:Ap} {Q:Exit->St->Prop} {c:Bn} (id:Nat) (g:FuncId) (x y:AV) (m:Nat) (hk:Go P R B D0 Q (c.frzP id (lL g x y m))) (hc:Ak c.s.h id=some (.box (c.boxT id) [.fn g [x,y,.ptr id 0]]):=by kernel_rfl) (hf:(x.flat&&y.flat)=true:=by kernel_rfl):Go P R B D0 Q c:=by
 obtain⟨hx,hy⟩:=Bool.and_eq_true_iff.1 hf
 refine Fo _ (λE a hs=>Pz id (YtbggmndaahbojaaGreat.frzP id (lL g x y m)) _ rfl hc (λE z v hh hv=>?_) E a hs) hk
 have up:=hv.up (E.le_fr id)
 unfold YtbggmndaahbojaaGreat.frzP
 split
 rename_i id' off
 by_cases e1:id'=id
 subst e1
 rw[if_pos rfl]
 by_cases e2:off=0
 subst e2
 rw[if_pos rfl]
 exact(Adk hh hx hy hc m v hv).up (Ap.fz_le _)
 rw[if_neg e2];exact .top _ _
 rw[if_neg e1];exact up
 exact up
abbrev Ez (s:Sg):AV:= .elt 6 λxi=>[AV.int s.f,AV.int s.t,AV.int s.o,Af s.x,Af s.y,Af s.z].getD (0+xi) .top
abbrev Lx (f:cQ):AV:= .elt 4 λxi=>[Bs f.o,dQ f,AV.int f.low,AV.int f.high].getD (0+xi) .top
abbrev Nc (s:Sg) (f:cQ):Nat->AV:=lL 148 (Ez s) (Lx f)
def jM (l:List Int) (o:Int) (d k:Nat):Prop:=Ajq l d k/\-9223372036854775807<=Eh l o d k/\Eh l o d k<=9223372036854775807
def Mx (s:Sg) (d k:Nat):Bx:=⟨⟨Gi s.x s.o d k,Gi s.y s.o d k,Gi s.z s.o d k⟩,⟨-Eh s.x s.o d k,-Eh s.y s.o d k,-Eh s.z s.o d k⟩⟩
theorem cC (s:Sg) (d k:Nat) (h1:0<s.o/\s.o<=9223372036854775807) (hx:jM s.x s.o d k) (hy:jM s.y s.o d k) (hz:jM s.z s.o d k):AF Tryz.prog 16 [Dp s,.int (d:Int),.int (k:Int)] (Yf (Mx s d k)):=by
 refine Ai func16 rfl λB D0 hA0=>?_
 exact Aa 16 (Aj (zX s) (Aa 4 (Kt 3 (Aa 14 (Cc (Af s.x) .none (Fl 70 (.tmp 12) (.tmp 13) κ underlying70 1 sizeOf22 0 false isAgg22 [Af s.x,Af s.y,Af s.z] 0 κ κ ω δ β δ (Af s.x) κ) (Aa 12 (Aj (Xn s.x s.o d k hx.1 h1 hx.2) (Aa 11 (Dx (.int .i64 1) (.int .i64 1) (Aa 17 (Cc (Af s.y) .none (Fl 70 (.tmp 12) (.tmp 13) κ underlying70 1 sizeOf22 1 false isAgg22 [Af s.x,Af s.y,Af s.z] 1 κ κ ω δ β δ (Af s.y) κ) (Aa 12 (Aj (Xn s.y s.o d k hy.1 h1 hy.2) (Aa 11 (Dx (.int .i64 2) (.int .i64 2) (Aa 17 (Cc (Af s.z) .none (Fl 70 (.tmp 12) (.tmp 13) κ underlying70 1 sizeOf22 2 false isAgg22 [Af s.x,Af s.y,Af s.z] 2 κ κ ω δ β δ (Af s.z) κ) (Aa 12 (Aj (Xn s.z s.o d k hz.1 h1 hz.2) (Aa 11 (Dx (.int .i64 3) (.int .i64 3) (Aa 36 (Br)))))))))))))))))))))))
def Ca (v:V3):Prop:=(-2097152<=v.x/\v.x<=2097152)/\(-2097152<=v.y/\v.y<=2097152)/\(-2097152<=v.z/\v.z<=2097152)
instance (v:V3):Decidable (Ca v):=by unfold Ca;exact inferInstance
theorem Ca.val {v:V3} (h:Ca v):Gg 16777216 [v.x,v.y,v.z]=true:=by
 obtain⟨h1,h2,h3⟩:=h
 unfold Gg
 simp
 omega
theorem Ac9 {u v:Int} (h1: -4194304<=u/\u<=4194304) (h2: -4194304<=v/\v<=4194304): -17592186044416<=u*v/\u*v<=17592186044416:=by
 have h:(u*v).natAbs<=4194304*4194304:=by rw[Int.natAbs_mul];exact Nat.mul_le_mul ω ω
 omega
def iF (n:Int):Int:=if n<0 then -1 else if 0<n then 1 else 0
def Eu (a b c:V3):Int:=iF ((b.x-a.x)*(c.y-a.y)-(b.y-a.y)*(c.x-a.x))
theorem vE (n:Int):AF Tryz.prog 190 [.int n] (.int (iF n)):=by
 refine Ai func190 rfl λB D0 hA0=>?_
 refine Aa 14 (Cu 3 (n<0) (λhx1 hx1d=>?_) (λhx1 hx1d=>?_))
 ·
  exact Aa 9 (Ch (.int (-1)) (congrArg AV.int (by unfold iF;rw[if_pos hx1d])))
 ·
  refine Aa 8 (Cu 6 ((0:Int)<n) (λhx2 hx2d=>?_) (λhx2 hx2d=>?_))
  ·
   exact Aa 9 (Ch (.int 1) (congrArg AV.int (by unfold iF;rw[if_neg hx1d,if_pos hx2d])))
  ·
   exact Aa 10 (Ch (.int 0) (congrArg AV.int (by unfold iF;rw[if_neg hx1d,if_neg hx2d])))
theorem nO (v:V3) (h:Ca v):AF Tryz.prog 189 [Bj v] (.bool true):=by
 have:=Qt v
 rwa [h.val] at this
theorem vF (a b c:V3) (ha:Ca a) (hb:Ca b) (hc:Ca c):AF Tryz.prog 162 [Bj a,Bj b,Bj c] (.lit (.tuple #[.int .i64 (Eu a b c),.int .i64 0])):=by
 obtain⟨a1,a2,a3⟩:=id ha
 obtain⟨b1,b2,b3⟩:=id hb
 obtain⟨c1,c2,c3⟩:=id hc
 have m1:=Ac9 (u:=b.x-a.x) (v:=c.y-a.y) ⟨ω,ω⟩ ⟨ω,ω⟩
 have m2:=Ac9 (u:=b.y-a.y) (v:=c.x-a.x) ⟨ω,ω⟩ ⟨ω,ω⟩
 refine Ai func162 rfl λB D0 hA0=>?_
 exact Aa 13 (Aj (nO a ha) (Aa 3 (Aj (nO b hb) (Aa 4 (Aj (nO c hc) (Aa 13 (Ao (b.x-a.x) (b.x-a.x) (Aa 4 (Ao (c.y-a.y) (c.y-a.y) (Ao ((b.x-a.x)*(c.y-a.y)) ((b.x-a.x)*(c.y-a.y)) (Aa 4 (Ao (b.y-a.y) (b.y-a.y) (Aa 4 (Ao (c.x-a.x) (c.x-a.x) (Ao ((b.y-a.y)*(c.x-a.x)) ((b.y-a.y)*(c.x-a.x)) (Ao ((b.x-a.x)*(c.y-a.y)-(b.y-a.y)*(c.x-a.x)) ((b.x-a.x)*(c.y-a.y)-(b.y-a.y)*(c.x-a.x)) (Aj (vE ((b.x-a.x)*(c.y-a.y)-(b.y-a.y)*(c.x-a.x))) (Aa 5 (Ch (.lit (.tuple #[.int .i64 (iF ((b.x-a.x)*(c.y-a.y)-(b.y-a.y)*(c.x-a.x))),.int .i64 0])) (by unfold Eu;rfl))))))))))))))))))))
theorem Kb (a b c:V3) (ha:Ca a) (hb:Ca b) (hc:Ca c):AF Tryz.prog 127 [Bj a,Bj b,Bj c] (.int (Eu a b c)):=by
 refine Ai func127 rfl λB D0 hA0=>?_
 exact Aa 13 (Aj (vF a b c ha hb hc) (Aa 14 (Br)))
theorem Dt (v:V3) (h:Gg 1048576 [v.x,v.y,v.z]=true):AF Tryz.prog 51 [Bj v] (.bool true):=by
 have:=Aaq v
 rwa [h] at this
def pJ (a b p:V3):Bool:=decide (Eu a b p=0)&&(decide (min a.x b.x<=p.x)&&(decide (p.x<=max a.x b.x)&&(decide (min a.y b.y<=p.y)&&decide (p.y<=max a.y b.y))))
theorem Ge (a b p:V3) (ha:Ca a) (hb:Ca b) (hp:Ca p):AF Tryz.prog 123 [Bj a,Bj b,Bj p] (.bool (pJ a b p)):=by
 refine Ai func123 rfl λB D0 hA0=>?_
 refine Aa 13 (Aj (Kb a b p ha hb hp) (Aa 2 (Cu 12 ((Eu a b p)=0) (λhx1 hx1d=>?_) (λhx1 hx1d=>?_))))
 ·
  refine Aa 6 (Cc (.int (min a.x b.x)) .none (Rb (.tmp 16) (.tmp 18) #[3,3] κ a.x b.x κ κ) (Aa 3 (Cu 22 (min a.x b.x<=p.x) (λhx2 hx2d=>?_) (λhx2 hx2d=>?_))))
  ·
   refine Aa 6 (Cc (.int (max a.x b.x)) .none (Ja (.tmp 26) (.tmp 28) #[3,3] κ a.x b.x κ κ) (Aa 3 (Cu 32 (p.x<=max a.x b.x) (λhx3 hx3d=>?_) (λhx3 hx3d=>?_))))
   ·
    refine Aa 6 (Cc (.int (min a.y b.y)) .none (Rb (.tmp 36) (.tmp 38) #[3,3] κ a.y b.y κ κ) (Aa 3 (Cu 42 (min a.y b.y<=p.y) (λhx4 hx4d=>?_) (λhx4 hx4d=>?_))))
    ·
     exact Aa 6 (Cc (.int (max a.y b.y)) .none (Ja (.tmp 46) (.tmp 48) #[3,3] κ a.y b.y κ κ) (Aa 6 (Ch (.bool (decide (p.y<=max a.y b.y))) (congrArg AV.bool (by simp only[pJ,hx1,hx2,hx3,hx4,Bool.true_and])))))
    ·
     exact Aa 13 (Ch (.bool false) (congrArg AV.bool (by simp only[pJ,hx1,hx2,hx3,hx4,Bool.and_false,Bool.false_and])))
   ·
    exact Aa 23 (Ch (.bool false) (congrArg AV.bool (by simp only[pJ,hx1,hx2,hx3,Bool.and_false,Bool.false_and])))
  ·
   exact Aa 33 (Ch (.bool false) (congrArg AV.bool (by simp only[pJ,hx1,hx2,Bool.and_false,Bool.false_and])))
 ·
  exact Aa 43 (Ch (.bool false) (congrArg AV.bool (by simp only[pJ,hx1,Bool.false_and])))
theorem Hu (a b p:V3) (v:Bool) (h:Ca a/\Ca b/\Ca p/\pJ a b p=v):AF Tryz.prog 123 [Bj a,Bj b,Bj p] (.bool v):=by
 rw[<-h.2.2.2]
 exact Ge a b p h.1 h.2.1 h.2.2.1
theorem Mo {f:FuncId} {t:TypeId} {us us2:List Value} {hs:Pk} {args:List AV} {r:Value} (h:∃V us',(V=r/\us'=us2)/\aY Tryz.prog f t us us' hs args V):aY Tryz.prog f t us us2 hs args r:=by
 obtain⟨_,_,⟨rfl,rfl⟩,h⟩:=h
 exact h
theorem AeK (x y:Int) (hx:Bm x) (hy:Bm y) (hz:Bm (x-y)):AF Tryz.prog 201 [WA x,WA y] (.lit (.tuple #[Ah (x-y),.int .i64 0])):=by
 have:=Aa7 x y hx hy
 rwa [Dy hz,Fx hz] at this
theorem fG (z:Int):aY Tryz.prog 140 189 [.int .i64 0] [.int .i64 0] [] [.ptr 0 0,.lit (Ah z),.lit (.int .i64 0)] (Ah z):=by
 refine Mo (Jf func140 rfl ?_)
 exact Ab 32 (Re (Ah z) [.int .i64 0] ⟨rfl,rfl⟩)
theorem On (x y:Int) {a b:Nat} (hx:Bd a x) (hy:Bd b y) (h:a+b<=50000):aY Tryz.prog 139 189 [.int .i64 0] [.int .i64 0] [] [.ptr 0 0,.lit (Ah x),.lit (Ah y)] (Ah (x*y)):=by
 refine Mo (Jf func139 rfl ?_)
 exact Ab 12 (gs (Aj (Sy x y (hx.fit ω) (hy.fit ω) ((hx.mul hy).fit ω)) ·) (Ab 2 (gs (uD 0 [] (fG (x*y)) ·) (Ab 4 (Re (Ah (x*y)) [.int .i64 0] ⟨rfl,rfl⟩)))))
theorem oE (x y:Int) {a b:Nat} (hx:Bd a x) (hy:Bd b y) (h:a+b<=50000):aY Tryz.prog 177 189 [.int .i64 0] [.int .i64 0] [] [.ptr 0 0,.lit (Ah x),.lit (Ah y)] (Ah (x-y)):=by
 refine Mo (Jf func177 rfl ?_)
 exact Ab 12 (gs (Aj (AeK x y (hx.fit ω) (hy.fit ω) (((hx.mono (Nat.le_add_right a b)).sub (hy.mono (Nat.le_add_left b a))).fit ω)) ·) (Ab 2 (gs (uD 0 [] (fG (x-y)) ·) (Ab 4 (Re (Ah (x-y)) [.int .i64 0] ⟨rfl,rfl⟩)))))
abbrev sqV (u v w:Int):Value:= .agg #[.bool (decide (u<0)),.string (Bq u.natAbs),.bool (decide (v<0)),.string (Bq v.natAbs),.bool (decide (w<0)),.string (Bq w.natAbs)]
def Ms (a b:V3) (u v w:Int):Int:=((b.x-a.x)*(v-a.y*w)-(b.y-a.y)*(u-a.x*w)).sign
def bC (a:V3) (u w:Int):Int:= -(u-a.x*w).sign
def Ey (a:V3) (v w:Int):Int:= -(v-a.y*w).sign
theorem Rc (z:Int): -1<=z.sign/\z.sign<=1:=by
 rcases Int.lt_trichotomy z 0 with h|h|h
 rw[Int.sign_eq_neg_one_of_neg h];decide
 rw[h];decide
 rw[Int.sign_eq_one_of_pos h];decide
theorem Abt (p q r s:Int) (hp:Bd 400 p) (hq:Bd 400 q) (hr:Bd 400 r) (hs:Bd 400 s):aY Tryz.prog 143 189 [.int .i64 0] [.int .i64 0] [] [.ptr 0 0,Df p q,Df r s] (sqV (p*s) (r*q) (q*s)):=by
 refine Mo (Jf func143 rfl ?_)
 exact Ab 8 (gs (Be [(5,_,_),(11,_,_),(17,_,_)] [6] ⟨Vm 0 [] (On p s hp hs δ),Vm 0 [] (On r q hr hq δ),Vm 0 [] (On q s hq hs δ),trivial⟩ ·) (Ab 2 (Re (.agg #[.bool (decide (p*s<0)),.string (Bq (p*s).natAbs),.bool (decide (r*q<0)),.string (Bq (r*q).natAbs),.bool (decide (q*s<0)),.string (Bq (q*s).natAbs)]) [.int .i64 0] ⟨rfl,rfl⟩)))
theorem Qx (n m p q:Int) (hn: -10000000<=n/\n<=10000000) (hm: -10000000<=m/\m<=10000000) (hp:Bd 300 p) (hq:Bd 300 q):aY Tryz.prog 138 189 [.int .i64 0] [.int .i64 0] [] [.lit (.int .i64 n),.lit (.int .i64 m),Df p q,.ptr 0 0] (zA (m*p+n*q) q):=by
 refine Mo (Jf func138 rfl ?_)
 exact Ab 7 (gs (Be [(1,_,.none),(4,_,_)] [0,3,6,7,8] ⟨Am (Cg m ω ω),Vm 0 [] (On m p (Bd.int (x:=m) ω ω) hp δ),trivial⟩ ·) (Ab 2 (gs (Be [(2,_,.none),(5,_,_),(6,_,.none),(9,_,_)] [7] ⟨Am (Cg n ω ω),Vm 0 [] (On n q (Bd.int (x:=n) ω ω) hq δ),Am (Wo (m*p) (n*q) (Bd.fit (Bd.mul (Bd.int (x:=m) ω ω) hp) δ) (Bd.fit (Bd.mul (Bd.int (x:=n) ω ω) hq) δ) (Bd.fit (Bd.add (Bd.mono (Bd.mul (Bd.int (x:=m) ω ω) hp) (show _<=363 by decide)) (Bd.mono (Bd.mul (Bd.int (x:=n) ω ω) hq) (show _<=363 by decide))) δ)),Vm 0 [] (fG ((m*p)+(n*q))),trivial⟩ ·) (Ab 2 (Re (.agg #[.bool (decide ((m*p)+(n*q)<0)),.string (Bq ((m*p)+(n*q)).natAbs),.bool (decide (q<0)),.string (Bq (q).natAbs)]) [.int .i64 0] ⟨rfl,rfl⟩)))))
theorem oF (a:V3) (ha:Ca a) (u v w:Int) (hu:Bd 1000 u) (hv:Bd 1000 v) (hw:Bd 1000 w):aY Tryz.prog 176 189 [.int .i64 0] [.int .i64 0] [(222,[.ptr 0 0]),(194,[.lit (.bool (decide (u<0))),.lit (.string (Bq (u).natAbs)),.lit (.bool (decide (v<0))),.lit (.string (Bq (v).natAbs)),.lit (.bool (decide (w<0))),.lit (.string (Bq (w).natAbs))])] [Bj a,.ptr 1 0,.ptr 2 0] (.tuple #[Ah (u-a.x*w),Ah (v-a.y*w)]):=by
 obtain⟨a1,a2,a3⟩:=id ha
 refine Mo (Jf func176 rfl ?_)
 exact Ab 8 (gs (Be [(6,_,.none),(9,_,_),(10,_,_),(17,_,.none),(20,_,_),(21,_,_)] [4,5] ⟨Am (Cg a.x ω ω),Vm 0 [] (On a.x w (Bd.int (x:=a.x) ω ω) hw δ),Vm 0 [] (oE u (a.x*w) hu (Bd.mul (Bd.int (x:=a.x) ω ω) hw) δ),Am (Cg a.y ω ω),Vm 0 [] (On a.y w (Bd.int (x:=a.y) ω ω) hw δ),Vm 0 [] (oE v (a.y*w) hv (Bd.mul (Bd.int (x:=a.y) ω ω) hw) δ),trivial⟩ ·) (Ab 2 (Re (.tuple #[Ah (u-(a.x*w)),Ah (v-(a.y*w))]) [.int .i64 0] ⟨rfl,rfl⟩)))
theorem Ah8 (a b:V3) (ha:Ca a) (hb:Ca b) (u v w:Int) (hu:Bd 1000 u) (hv:Bd 1000 v) (hw:Bd 1000 w):aY Tryz.prog 178 189 [.int .i64 0] [.int .i64 0] [(222,[.ptr 0 0]),(194,[.lit (.bool (decide (u<0))),.lit (.string (Bq (u).natAbs)),.lit (.bool (decide (v<0))),.lit (.string (Bq (v).natAbs)),.lit (.bool (decide (w<0))),.lit (.string (Bq (w).natAbs))]),(224,[.fn 176 [.ptr 1 0,.ptr 2 0]])] [Bj a,Bj b,.ptr 3 0,.ptr 1 0] (.int .i64 (Ms a b u v w)):=by
 obtain⟨a1,a2,a3⟩:=id ha
 obtain⟨b1,b2,b3⟩:=id hb
 refine Mo (Jf func178 rfl ?_)
 exact Ab 11 (gs (uD 0 [1,2] (oF a ha u v w hu hv hw) ·) (Ab 10 (gs (Be [(6,.int (b.x-a.x),.none),(7,_,.none),(9,_,_),(15,.int (b.y-a.y),.none),(16,_,.none),(18,_,_),(19,_,_),(20,_,.none)] [6] ⟨As (.int .i64 (IntKind.wrap .i64 (b.x-a.x))) η,Am (Cg (b.x-a.x) ω ω),Vm 0 [] (On (b.x-a.x) (v-a.y*w) (Bd.int (x:=b.x-a.x) ω ω) (Bd.sub (Bd.mono hv (show _<=1063 by decide)) (Bd.mul (Bd.int (x:=a.y) ω ω) hw |>.mono (show _<=1063 by decide))) δ),As (.int .i64 (IntKind.wrap .i64 (b.y-a.y))) η,Am (Cg (b.y-a.y) ω ω),Vm 0 [] (On (b.y-a.y) (u-a.x*w) (Bd.int (x:=b.y-a.y) ω ω) (Bd.sub (Bd.mono hu (show _<=1063 by decide)) (Bd.mul (Bd.int (x:=a.x) ω ω) hw |>.mono (show _<=1063 by decide))) δ),Vm 0 [] (oE ((b.x-a.x)*(v-a.y*w)) ((b.y-a.y)*(u-a.x*w)) (Bd.mul (Bd.int (x:=b.x-a.x) ω ω) (Bd.sub (Bd.mono hv (show _<=1063 by decide)) (Bd.mul (Bd.int (x:=a.y) ω ω) hw |>.mono (show _<=1063 by decide)))) (Bd.mul (Bd.int (x:=b.y-a.y) ω ω) (Bd.sub (Bd.mono hu (show _<=1063 by decide)) (Bd.mul (Bd.int (x:=a.x) ω ω) hw |>.mono (show _<=1063 by decide)))) δ),Am (Eo (((b.x-a.x)*(v-a.y*w))-((b.y-a.y)*(u-a.x*w))) (Bd.fit (Bd.sub (Bd.mono (Bd.mul (Bd.int (x:=b.x-a.x) ω ω) (Bd.sub (Bd.mono hv (show _<=1063 by decide)) (Bd.mul (Bd.int (x:=a.y) ω ω) hw |>.mono (show _<=1063 by decide)))) (show _<=1127 by decide)) (Bd.mono (Bd.mul (Bd.int (x:=b.y-a.y) ω ω) (Bd.sub (Bd.mono hu (show _<=1063 by decide)) (Bd.mul (Bd.int (x:=a.x) ω ω) hw |>.mono (show _<=1063 by decide)))) (show _<=1127 by decide))) δ)),trivial⟩ ·) (Ab 2 (Re (.int .i64 ((((b.x-a.x)*(v-a.y*w))-((b.y-a.y)*(u-a.x*w))).sign)) [.int .i64 0] ⟨rfl,rfl⟩)))))
theorem Abz (a:V3) (ha:Ca a) (u v w:Int) (hu:Bd 1000 u) (hv:Bd 1000 v) (hw:Bd 1000 w):aY Tryz.prog 179 189 [.int .i64 0] [.int .i64 0] [(222,[.ptr 0 0]),(194,[.lit (.bool (decide (u<0))),.lit (.string (Bq (u).natAbs)),.lit (.bool (decide (v<0))),.lit (.string (Bq (v).natAbs)),.lit (.bool (decide (w<0))),.lit (.string (Bq (w).natAbs))]),(224,[.fn 176 [.ptr 1 0,.ptr 2 0]])] [Bj a,.lit (.int .i64 0),.ptr 3 0] (.int .i64 (bC a u w)):=by
 obtain⟨a1,a2,a3⟩:=id ha
 have s1:=Rc (u-a.x*w)
 have s2:=Rc (v-a.y*w)
 refine Mo (Jf func179 rfl ?_)
 exact Ab 10 (gs (uD 0 [1,2] (oF a ha u v w hu hv hw) ·) (Ab 20 (gs (Aj (Eo (u-a.x*w) (Bd.fit (Bd.sub (Bd.mono hu (show _<=1063 by decide)) (Bd.mul (Bd.int (x:=a.x) ω ω) hw |>.mono (show _<=1063 by decide))) δ)) ·) (gs (Ao (0-(u-a.x*w).sign) (-(u-a.x*w).sign) ·) (Ab 5 (Re (.int .i64 (-(u-a.x*w).sign)) [.int .i64 0] ⟨rfl,rfl⟩))))))
theorem Ab0 (a:V3) (ha:Ca a) (u v w:Int) (hu:Bd 1000 u) (hv:Bd 1000 v) (hw:Bd 1000 w):aY Tryz.prog 179 189 [.int .i64 0] [.int .i64 0] [(222,[.ptr 0 0]),(194,[.lit (.bool (decide (u<0))),.lit (.string (Bq (u).natAbs)),.lit (.bool (decide (v<0))),.lit (.string (Bq (v).natAbs)),.lit (.bool (decide (w<0))),.lit (.string (Bq (w).natAbs))]),(224,[.fn 176 [.ptr 1 0,.ptr 2 0]])] [Bj a,.lit (.int .i64 1),.ptr 3 0] (.int .i64 (Ey a v w)):=by
 obtain⟨a1,a2,a3⟩:=id ha
 have s1:=Rc (u-a.x*w)
 have s2:=Rc (v-a.y*w)
 refine Mo (Jf func179 rfl ?_)
 exact Ab 10 (gs (uD 0 [1,2] (oF a ha u v w hu hv hw) ·) (Ab 22 (gs (Aj (Eo (v-a.y*w) (Bd.fit (Bd.sub (Bd.mono hv (show _<=1063 by decide)) (Bd.mul (Bd.int (x:=a.y) ω ω) hw |>.mono (show _<=1063 by decide))) δ)) ·) (gs (Ao (0-(v-a.y*w).sign) (-(v-a.y*w).sign) ·) (Ab 4 (Re (.int .i64 (-(v-a.y*w).sign)) [.int .i64 0] ⟨rfl,rfl⟩))))))
end Go.Proofs.YtbggmndaahbojaaGreat