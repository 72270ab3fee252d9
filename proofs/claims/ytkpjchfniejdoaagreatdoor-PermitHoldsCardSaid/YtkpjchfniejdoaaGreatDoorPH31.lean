/- Part 31 of the proof of PH.card_holds: no condition beyond the row's. -/
import Derived.Test.YtkpjchfniejdoaaGreatDoorPH30
import Derived.Shelf.GgSortFunc.RowK
import Derived.Sort.Grow
set_option maxRecDepth 100000
set_option maxHeartbeats 40000000
namespace Go.Proofs.YtkpjchfniejdoaaGreatDoor
open Go.RowKit
open Go.Sort hiding Below
def AFW {α:Type} [Inhabited α] (P:Program) (f:FuncId) (k:Nat) (enc:α->List Value) (d d':Array α) (ys:List Value):Prop:=
 ∀(blk off cap:Nat) (w:World),HoldsK enc k w blk off d->blk<w.heap.size->
  Calls P f (#[.slice (some ⟨blk,off,none⟩) d.size cap]++ys.toArray) w λe w'=>e= .returned (.tuple #[])/\∃q os,w'=grow (putRowK enc k (Sort.ahead w q) blk off d') os
theorem Ahj {α:Type} [Inhabited α] (enc:α->List Value) (k:Nat) (d:Array α) (i j:Nat) (hi:i<d.size) (hj:j<k):(flatK enc k d)[i*k+j]! =(enc d[i]!)[j]! :=by
 have h1:i*k+j<d.size*k:=by
  have:=Nat.mul_le_mul_right k (show i+1<=d.size from hi)
  rw[Nat.succ_mul] at this;omega
 rw[get_flatK enc k d _ h1]
 have e1:(i*k+j)/k=i:=by rw[Nat.mul_comm,Nat.mul_add_div ω,Nat.div_eq_of_lt hj,Nat.add_zero]
 have e2:(i*k+j)%k=j:=by rw[Nat.mul_comm,Nat.mul_add_mod,Nat.mod_eq_of_lt hj]
 rw[e1,e2]
theorem gG {w:World} {os:Array Obj} {b:Nat} (h:b<w.heap.size):(grow w os).heap[b]?=w.heap[b]?:=by
 show (w.heap++os)[b]?=_
 rw[Array.getElem?_append_left h]
theorem qN {α:Type} [Inhabited α] {enc:α->Value} {w:World} {blk off:Nat} {d:Array α} {c:Array Value} {t:TypeId} {fr:Nat×Nat} (h:w.heap[blk]?=some (.cells c t fr)):(putRow enc w blk off d).heap[blk]?=some (.cells (putCells enc off d c) t fr):=by
 simp[putRow,mapBlock,Array.getElem?_modify,h,onCells]
theorem qO {α:Type} [Inhabited α] {enc:α->Value} {w:World} {blk off b:Nat} {d:Array α} (h:b≠blk):(putRow enc w blk off d).heap[b]?=w.heap[b]?:=by
 simp[putRow,mapBlock,Array.getElem?_modify,Ne.symm h]
theorem vB {enc:Value->Value} {off:Nat} {d c:Array Value} {k:Nat} (hk:k<c.size):(putCells enc off d c).getD k undef=if off<=k/\k<off+d.size then enc d[k-off]!else c.getD k undef:=by
 simp[putCells,Array.getD_eq_getD_getElem?,hk]
theorem kI {enc:Value->Value} {off:Nat} {d c:Array Value}:(putCells enc off d c).size=c.size:=by simp[putCells]
def AV.isWin (id e q n:Nat):AV->Prop
 | .osl i e' n'=>i=id/\e'=e/\q=0/\n'=n
 | .osw i e' o n'=>i=id/\e'=e/\o=q/\n'=n/\0<n
 |_=>False
theorem Alt {E:As} {x:AV} {v:Value} {id e q n:Nat} (hx:x.isWin id e q n) (h:VR E x v):∃c,v= .slice (some ⟨E.π id,q*e,none⟩) n c:=by
 cases x with
 |osl i e' n'=>
  obtain⟨rfl,rfl,rfl,rfl⟩:=hx
  cases h with
  |osl=>exact⟨E.cap i,by rw[Nat.zero_mul]⟩
 |osw i e' o n'=>
  obtain⟨rfl,rfl,rfl,rfl,h0⟩:=hx
  cases h with
  |osw _ _ _ _ _ a c hA ha=>exact⟨c,by rw[ha h0]⟩
 |_=>exact hx.elim
theorem mX {α:Type} [Inhabited α] {P:Program} {B:Nat} {D0:As} {o:Oper} {ev:Operand->AV} {pre:Nat->Option Aw} (f:FuncId) (xs:Array Operand) (ts:Array TypeId) (ho:o.op= .call { callee:= .value (.func f),args:=xs,argTypes:=ts }) (hcall:∀(vs:Array Value) w,(callFunc f vs).run P w= .ok (.enter f vs) w) (id e q m:Nat) (t:TypeId) (F F':Nat->AV) (hp:pre id=some (.vec t e m F)) (enc:α->List Value) (d d':Array α) (hds:d'.size=d.size) (hqm:q+d.size<=m) (X:AV) (hX:X.isWin id e q d.size) (ys:List AV) (vs:List Value) (hargs:xs.toList.map ev=X::ys) (hlen:vs.length=ys.length) (has:∀i,i<ys.length->∀E v,VR E (ys.getD i .top) v->v=vs.getD i undef)
  (hF:∀i j,i<d.size->j<e->(F (q+i)).cell j= .lit ((enc d[i]!)[j]!)) (hF1:∀i,i<m->(i<q\/q+d.size<=i)->F' i=F i) (hF2:∀i j,i<d.size->j<e->(F' (q+i)).cell j= .lit ((enc d'[i]!)[j]!)) (hf:AFW P f e enc d d' vs):Dl P B D0 o ev pre (.lit (.tuple #[])) (.set id (.vec t e m F')):=by
 refine⟨?_⟩
 intro E a c K Q _ hh htch _ hv k
 have hc:=(htch id (by simp[Bl.touch])).trans hp
 obtain⟨l1,l2,l3,l4⟩:=hh.live id _ hc
 generalize hbe:E.π id=b at l2 l3 l4
 generalize hcpe:E.cap id=cp at l2
 cases l2 with
 |vec _ _ _ _ _ _ arr ha hn hcp hmx hr=>
 have hblt:b<E.w.heap.size:=(Ξ ha).1
 have hqe:∀i j,i<d.size->j<e->q*e+(i*e+j)=(q+i)*e+j/\(q+i)*e+j<arr.size:=λi j hi hj=>by
  have h1:=Nat.mul_le_mul_right e (show q+i+1<=cp by omega)
  rw[Nat.succ_mul] at h1
  rw[Nat.add_mul] at h1 ⊢
  omega
 have hH:HoldsK enc e E.w b (q*e) d:=λs hs=>by
  rw[size_flatK] at hs
  by_cases he:e=0
  subst he;simp at hs
  have hi:s/e<d.size:=Nat.div_lt_of_lt_mul (by rw[Nat.mul_comm];exact hs)
  have hj:s%e<e:=Nat.mod_lt _ ω
  have hsd:s/e*e+s%e=s:=by rw[Nat.mul_comm];exact Nat.div_add_mod s e
  obtain⟨k1,k2⟩:=hqe (s/e) (s%e) hi hj
  rw[hsd] at k1
  have h3:=hr (q+s/e) (s%e) ω hj
  rw[hF _ _ hi hj] at h3
  have h4:=h3.lit_inv
  have h5:(flatK enc e d)[s]! =(enc d[s/e]!)[s%e]! :=get_flatK enc e d s hs
  refine⟨?_,by unfold World.frozen?;rw[ha];simp⟩
  rw[show (_root_.id (flatK enc e d)[s]! :Value)=(flatK enc e d)[s]!from rfl,h5,<-h4,k1]
  exact Jf ha (by exact k2)
 have hat:∀i (hi:i<xs.size),VR E ((X::ys).getD i .top) (a.eval xs[i]):=λi hi=>by
  rw[<-hargs]
  have e1:(xs.toList.map ev).getD i .top=ev xs[i]:=by simp[hi]
  rw[e1]
  exact hv _ (by simp[ho,Op.operands,Call.operands])
 have hxn:xs.size=ys.length+1:=by have:=congrArg List.length hargs;simpa using this
 obtain⟨cx,hcx⟩:=Alt hX (hat 0 ω)
 rw[hbe] at hcx
 have hargv:xs.map a.eval=#[.slice (some ⟨b,q*e,none⟩) d.size cx]++vs.toArray:=by
  apply Array.ext
  simp[hxn,hlen]
  intro i h1 h2
  have h1:i<xs.size:=by simpa using h1
  cases i with
  |zero=>simp[hcx]
  |succ i=>
   have h3:=has i ω E _ (hat (i+1) h1)
   have h4:i<vs.length:=by omega
   simp[h3,h4]
 unfold Oper.wp
 rw[show (execOp a.eval o).run P E.w=(callFunc f (xs.map a.eval)).run P E.w by simp[execOp,ho,resolve,Deferred.ofValue,Act.eval,invoke],hcall,hargv]
 show Calls P f _ E.w _
 refine(hf b (q*e) cx E.w hH hblt).mono ?_
 rintro r w' ⟨rfl,qd,os,rfl⟩
 have hz:(putRowK enc e (Sort.ahead E.w qd) b (q*e) d').heap.size=E.w.heap.size:=by simp[putRowK,putRow,mapBlock,Sort.ahead]
 have hoth:∀i,i≠b->i<E.w.heap.size->(grow (putRowK enc e (Sort.ahead E.w qd) b (q*e) d') os).heap[i]?=E.w.heap[i]?:=λi hi hlt=>by
  rw[gG (by rw[hz];exact hlt)]
  exact qO hi
 have hown:(grow (putRowK enc e (Sort.ahead E.w qd) b (q*e) d') os).heap[b]?=some (.cells (putCells _root_.id (q*e) (flatK enc e d') arr) t (0,0)):=by
  rw[gG (by rw[hz];exact hblt)]
  exact qN (w:=Sort.ahead E.w qd) ha
 have hsz:E.w.heap.size<=(grow (putRowK enc e (Sort.ahead E.w qd) b (q*e) d') os).heap.size:=by
  show _<=((putRowK enc e (Sort.ahead E.w qd) b (q*e) d').heap++os).size
  rw[Array.size_append,hz];omega
 generalize hW:grow (putRowK enc e (Sort.ahead E.w qd) b (q*e) d') os=W at hoth hown hsz
 have h0:W.os=E.w.os/\W.tape=E.w.tape/\W.output=E.w.output:=by rw[<-hW];exact⟨rfl,rfl,rfl⟩
 have hle:E.le { E with w:=W }:=⟨λ_ h=>h,λ_ _=>rfl,λ_ h=>h,λi hb'=>hoth i (λe1=>l3 (e1▸hb')) (hh.bnd i hb'),λ_ _=>rfl⟩
 refine k (.tuple #[]) { E with w:=W } hle ⟨h0.1,h0.2.1,h0.2.2,hsz,λi hb'=>hoth i ω (by have:=hh.B;omega)⟩ (.lit _ _) ⟨λi x hx=>?_,λi j x y hx hy hne=>?_,λi hb'=>Nat.lt_of_lt_of_le (hh.bnd i hb') hsz,λi hi=>Nat.lt_of_lt_of_le (hh.abd i hi) hsz,hh.le0.trans hle,hh.new,Nat.le_trans hh.B hsz⟩ λi hi=> .inl hi
 have hx2:(if id=i then some (Aw.vec t e m F') else c i)=some x:=hx
 by_cases e1:id=i
 subst e1
 rw[if_pos rfl] at hx2
 cases hx2
 refine⟨l1,?_,by show ¬E.D (E.π id);rw[hbe];exact l3,by show B<=E.π id;rw[hbe];exact l4⟩
 show BR { E with w:=W } _ (E.π id) (E.cap id)
 rw[hbe,hcpe]
 refine .vec _ _ _ _ _ _ (putCells _root_.id (q*e) (flatK enc e d') arr) hown (by rw[kI];exact hn) hcp hmx λi j hi hj=>?_
 have hlt:i*e+j<arr.size:=by
  have h1:=Nat.mul_le_mul_right e (show i+1<=cp by omega)
  rw[Nat.succ_mul] at h1
  omega
 rw[vB hlt,size_flatK,hds]
 by_cases hin:q<=i/\i<q+d.size
 obtain⟨s,rfl⟩:∃s,i=q+s:=⟨i-q,ω⟩
 have hs:s<d.size:=by omega
 obtain⟨k1,k2⟩:=hqe s j hs hj
 have h6:s*e+j<d.size*e:=by
  have h1:=Nat.mul_le_mul_right e (show s+1<=d.size by omega)
  rw[Nat.succ_mul] at h1;omega
 rw[if_pos ⟨ω,ω⟩,<-k1,Nat.add_sub_cancel_left,hF2 s j hs hj]
 rw[show (_root_.id (flatK enc e d')[s*e+j]! :Value)=(flatK enc e d')[s*e+j]!from rfl,Ahj enc e d' s j ω hj]
 exact .lit _ _
 have h7:¬(q*e<=i*e+j/\i*e+j<q*e+d.size*e):=by
  rintro⟨g1,g2⟩
  apply hin
  constructor
  refine Nat.le_of_not_lt λg3=>?_
  have h1:=Nat.mul_le_mul_right e (show i+1<=q by omega)
  rw[Nat.succ_mul] at h1;omega
  refine Nat.lt_of_not_le λg3=>?_
  have h1:=Nat.mul_le_mul_right e g3
  rw[Nat.add_mul] at h1;omega
 rw[if_neg h7,hF1 i hi ω]
 exact(hr i j hi hj).up hle
 rw[if_neg e1] at hx2
 obtain⟨j1,j2,j3,j4⟩:=hh.live i x hx2
 exact⟨j1,j2.up hle (hoth _ (by rw[<-hbe];exact hh.inj i id x _ hx2 hc (λe=>e1 e.symm)) j2.lt),j3,j4⟩
 have real:∀q' z,(if id=q' then some (Aw.vec t e m F') else c q')=some z->∃z',c q'=some z':=λq' z hz=>by
  by_cases e:id=q'
  subst e;exact⟨_,hc⟩
  rw[if_neg e] at hz;exact⟨z,hz⟩
 obtain⟨x',hx'⟩:=real i x hx
 obtain⟨y',hy'⟩:=real j y hy
 exact hh.inj i j x' y' hx' hy' hne
theorem AdR {P:Program} {B:Nat} {D0:As} {o:Oper} {ev:Operand->AV} {pre:Nat->Option Aw} {id nid e n n':Nat} {t:TypeId} {F:Nat->AV} (h:Dl P B D0 o ev pre (.osl nid e n) (.grow id nid (.vec t e n F))) (hn:n=n'):Dl P B D0 o ev pre (.osl nid e n') (.grow id nid (.vec t e n' F)):=hn▸h
theorem Aaj {P:Program} {B:Nat} {D0:As} {o:Oper} {ev:Operand->AV} {pre:Nat->Option Aw} (x:Operand) (T:TypeId) (ts:Array TypeId) (ho:o.op= .call { callee:= .builtin .clear,args:=#[x],argTypes:=ts }) (hts:ts=#[T]) (id e q n m:Nat) (t el:TypeId) (F:Nat->AV) (hu:P.underlying T=some (.slice el)) (z:Value) (hz:∀w,(zeroValue el).run P w= .ok z w) (hze:z.cells.size=e) (hz1:z.cells.toList.all (·.oneCell')=true) (hp:pre id=some (.vec t e m F)) (hx:ev x= .osw id e q n) (hqm:q+n<=m):Dl P B D0 o ev pre (.lit (.tuple #[])) (.set id (.vec t e m λi=>if i<q then F i else .top)):=by
 refine⟨?_⟩
 intro E a c K Q _ hh htch _ hv kc
 have hx2:=hv x (by simp[ho,Op.operands,Call.operands])
 rw[hx] at hx2
 have hc:=(htch id (by simp[Bl.touch])).trans hp
 obtain⟨arr,hb,hna,hcp,hr⟩:=hh.vec hc
 generalize hzz:a.eval x=zv at hx2
 cases hx2 with
 |osw _ _ _ _ _ A cp hA ha=>
  have hqn:(q+n)*e<=m*e:=Nat.mul_le_mul_right e hqm
  rw[Nat.add_mul] at hqn
  obtain⟨zs,hzs⟩:∃zs,zs=(Builtin.zeroCells z.cells n).toList:=⟨_,rfl⟩
  have hzl:zs.length=n*e:=by rw[hzs];simp[Builtin.zeroCells,hze]
  have hz2:∀v∈zs,v.oneCell'=true:=λv hv=>by
   rw[hzs] at hv
   simp only[Builtin.zeroCells,Array.toList_map,Array.toList_range,List.mem_map,List.mem_range] at hv
   obtain⟨i,hi,rfl⟩:=hv
   rw[hze] at hi
   have he:0<z.cells.size:=by rw[hze];exact Nat.pos_of_ne_zero λh=>by subst h;simp at hi
   have hlt:i%z.cells.size<z.cells.size:=Nat.mod_lt _ he
   rw[getElem!_pos z.cells _ hlt]
   exact List.all_eq_true.1 hz1 _ (by simp)
  obtain⟨e1,e2,e3,e4,e5⟩:=Lf (E.π id) zs (q*e) E.w
  obtain⟨r1,r2,r3⟩:=hh.set (blk:= .vec t e m λi=>if i<q then F i else .top) hc e1 e2 e3 e4 e5 (λhle=>by
   refine .vec _ _ _ _ _ _ _ (Ps _ _ _ _ _ hb) (by rw[Nu];exact hcp.1) hcp.2.1 hcp.2.2 λk j hkn hj=>?_
   by_cases hki:k<q
   rw[if_pos hki,Nt _ _ _ _ (by rw[hzl];omega),if_neg (by
    have:=Nat.mul_le_mul_right e (show k+1<=q from hki)
    rw[Nat.succ_mul] at this;omega)]
   exact(hr k j hkn hj).up hle
   rw[if_neg hki]
   cases j with
   |zero=>exact .top _ _
   |succ j=>exact .top _ _)
  have hexec:(execOp a.eval o).run P E.w= .ok (.value (.tuple #[])) (E.w.setCells (E.π id) (q*e) zs):=by
   by_cases hn:n=0
   subst hn
   have:zs=[]:=List.eq_nil_of_length_eq_zero (by rw[hzl];simp)
   subst hts
   rw[this]
   simp[execOp,ho,hzz,resolve,invoke,builtin,Builtin.clear_,run_underlying hu,World.setCells]
   rw[ha ω] at hzz
   obtain⟨n',rfl⟩:∃n',n=n'+1:=⟨n-1,ω⟩
   have hst:=run_storeCells_cells (P:=P) (E.π id) (q*e) zs 0 E.w (λj hj=>by rw[Nat.add_zero,Jf hb ω];rfl) (λj hj=>by unfold World.frozen?;rw[hb];simp) hz2
   rw[Nat.add_zero,hzs] at hst
   subst hts
   simp[execOp,ho,hzz,resolve,invoke,builtin,Builtin.clear_,run_underlying hu,hz,hst,hzs]
  unfold Oper.wp
  rw[hexec]
  exact kc _ { E with w:=_ } r1 r2 (.lit _ _) r3 λi hi=> .inl hi
theorem cU {P:Program} {B:Nat} {D0:As} {o:Oper} {ev:Operand->AV} {pre:Nat->Option Aw} (x y:Operand) (t:TypeId) (ho:o.op= .call { callee:= .builtin .append,args:=#[x,y],argTypes:=#[t,t] }) {el:TypeId} (ht:P.underlying t=some (.slice el)) (e:Nat) (hse:∀w,(sizeOf el).run P w= .ok e w) (n m:Nat) (hm:m=0) (f g:Nat->AV) (id:Nat) (t':TypeId) (hp:pre id=some (.vec t' e n f)) (hx:ev x= .osl id e n) (hy:ev y= .sl e m g):Dl P B D0 o ev pre (.osl id e n) (.read id):=by
 subst hm
 refine Bj (.inr ⟨id,rfl⟩) λE a c hr htch hv=>?_
 have hc:=(htch id (by simp[Bl.touch])).trans hp
 obtain⟨arr,hb,hn,hcp,hrr⟩:=hr.vec hc
 have h1:=hv x (by simp[ho,Op.operands,Call.operands])
 have h2:=hv y (by simp[ho,Op.operands,Call.operands])
 rw[hx] at h1
 rw[hy] at h2
 generalize hz1:a.eval x=v1 at h1
 generalize hz2:a.eval y=v2 at h2
 cases h1 with
 |osl _ _ _ _ hA=>
  have hs:∃A cp,v2= .slice A 0 cp:=by
   cases h2 with
   |sl0=>exact⟨_,_,rfl⟩
   |sl _ _ _ _ _ _ _ _ hn0=>omega
  obtain⟨A,cp,rfl⟩:=hs
  refine⟨_,?_,.osl _ _ _ _ hA⟩
  cases A<;>simp[execOp,ho,resolve,invoke,builtin,hz1,hz2,Builtin.append_,run_underlying ht,hse,Builtin.lenOf,Builtin.firstCells,hcp.2.1,loadCells,loadCellsFrom,storeCells]
theorem cV {P:Program} {B:Nat} {D0:As} {o:Oper} {ev:Operand->AV} {pre:Nat->Option Aw} (T:TypeId) (ho:o.op= .buildSlice T 0 #[]) {el:TypeId} (hu:P.underlying T=some (.slice el)) (e:Nat) (hsz:∀w,(sizeOf el).run P w= .ok e w) (id:Nat) (f:Nat->AV):Dl P B D0 o ev pre (.osl id e 0) (.new id (.vec el e 0 f)):=by
 refine Ze id _ _ λE a c hh hid hv=>?_
 obtain⟨r1,r2⟩:=hZ (t:=el) e 0 f (hh.more hid 0 (.cells #[] el)).1 (by simp) ζ δ λi j hi=>absurd hi (Nat.not_lt_zero i)
 refine⟨_,0,.cells #[] el,_,?_,rfl,r1,r2⟩
 have n1:¬(0:Nat)>2^24:=by decide
 simp only[execOp,ho,Instr.buildSlice,run_underlying hu,Sem.run_bind,Sem.run_pure,Result.andThen_ok,hsz,Nat.zero_mul,if_neg n1,if_true]
 have e9:Instr.fill (λi=>some (i*e,e)) (Array.map (λx=>(#[]:Array Value)[x%(#[]:Array Value).size]!) (Array.range 0)) (Array.map (λx:Nat×Operand=>(x.fst,a.eval x.snd)) #[]).toList=some #[]:=by simp[Instr.fill]
 rw[e9]
 rfl
def As.also (E:As) (id nid:Nat):As:={ E with A:=λi=>E.A i\/i=nid,π:=λi=>if i=nid then E.π id else E.π i,cap:=λi=>if i=nid then E.cap id else E.cap i }
theorem fL (E:As) (id nid:Nat):(E.also id nid).π nid=E.π id:=if_pos rfl
theorem sK (E:As) (id nid:Nat):(E.also id nid).cap nid=E.cap id:=if_pos rfl
theorem Rx (E:As) {id nid i:Nat} (h:nid≠i):(E.also id nid).π i=E.π i/\(E.also id nid).cap i=E.cap i:=⟨if_neg (Ne.symm h),if_neg (Ne.symm h)⟩
theorem iB {P:Program} {B:Nat} {D0:As} {o:Oper} {ev:Operand->AV} {pre:Nat->Option Aw} (x y:Operand) (t:TypeId) (ho:o.op= .call { callee:= .builtin .append,args:=#[x,y],argTypes:=#[t,t] }) {el:TypeId} (ht:P.underlying t=some (.slice el)) (e bytes:Nat) (z:Value) (hi:(P.info? el).map (λi=>(i.zero,i.size,i.bytes))=some (some z,e,bytes)) (hze:z.cells.size=e) (he:0<e) (hse:∀w,(sizeOf el).run P w= .ok e w)
  (n m:Nat) (f g F:Nat->AV) (nid:Nat) (hbytes:(n+m)*bytes<=140737488355328) (h63:n+m<=maxLen) (hF1:∀i,i<n->F i=f i) (hF2:∀i,i<m->F (n+i)=g i) (hone:∀i,i<m->∀j,j<e->((g i).cell j).one1=true) (id:Nat) (hx:ev x= .osl id e n) (hp:pre id=some (.vec el e n f)) (hy:ev y= .sl e m g):Dl P B D0 o ev pre (.osl nid e (n+m)) (.grow id nid (.vec el e (n+m) F)):=by
 rcases Nat.eq_zero_or_pos m with rfl|hm
 refine⟨λE a c K Q _ hh htch hnew hv k=>?_⟩
 have hnA:¬E.A nid:=hnew nid (by simp[Bl.news])
 have hc:c id=some (.vec el e n f):=(htch id (by simp[Bl.touch])).trans hp
 refine(cU (B:=B) (D0:=D0) x y t ho ht e hse n 0 rfl f g id el hp hx hy).h E a c K Q trivial hh (λi hi=>htch i (by simp[Bl.touch] at hi ⊢;exact .inl hi)) (λi hi=>by simp[Bl.news] at hi) hv λv E' hle hbl hvr hhr hA=>?_
 have hA':∀i,E'.A i->E.A i:=λi hi=>(hA i hi).elim (λh=>h) λh=>by simp[Bl.news] at h
 have hne:∀i,E'.A i->i≠nid:=λi hi e=>hnA (e▸hA' i hi)
 have hhr:HR B D0 E' c:=by
  have:(λi=>(Bl.read id).on i (c i))=c:=rfl
  rwa [this] at hhr
 have hle2:E'.le (E'.also id nid):=⟨λi hi=> .inl hi,λi hi=>if_neg (hne i hi),λ_ h=>h,λ_ _=>rfl,λi hi=>if_neg (hne i hi)⟩
 refine k v (E'.also id nid) (hle.trans hle2) hbl ?_ ?_ λi hi=>?_
 cases hvr with
 |osl _ _ _ _ h1=>
  have:=VR.osl (E'.also id nid) nid e n (.inr rfl)
  rwa [fL,sK] at this
 have old:∀i y,(Bl.grow id nid (.vec el e (n+0) F)).on i (c i)=some y->nid≠i->id≠i/\c i=some y:=λi y h1 h2=>by
  have h1:(if nid=i then some (Aw.vec el e (n+0) F) else if id=i then none else c i)=some y:=h1
  rw[if_neg h2] at h1
  by_cases h3:id=i
  rw[if_pos h3] at h1;cases h1
  rw[if_neg h3] at h1;exact⟨h3,h1⟩
 obtain⟨l1,l2,l3,l4⟩:=hhr.live id _ hc
 refine⟨λi b hb=>?_,λi j y y' hy hy' hij=>?_,hhr.bnd,λi hi=>?_,hhr.le0.trans hle2,hhr.new,hhr.B⟩
 by_cases h2:nid=i
 subst h2
 have hb:(if nid=nid then some (Aw.vec el e (n+0) F) else if id=nid then none else c nid)=some b:=hb
 rw[if_pos rfl] at hb
 cases hb
 rw[fL,sK]
 refine⟨.inr rfl,?_,l3,l4⟩
 have l5:=l2.up hle2 rfl
 cases l5 with
 |vec _ _ _ _ b cap arr h1 hn1 hc2 hm2 hr=>exact .vec _ _ _ _ _ _ arr h1 hn1 ω hm2 λi j hi hj=>by rw[hF1 i ω];exact hr i j ω hj
 obtain⟨h3,h4⟩:=old i b hb h2
 obtain⟨m1,m2,m3,m4⟩:=hhr.live i _ h4
 rw[(Rx E' h2).1,(Rx E' h2).2]
 exact⟨.inl m1,m2.up hle2 rfl,m3,m4⟩
 by_cases h2:nid=i
 subst h2
 obtain⟨h4,h5⟩:=old j y' hy' hij
 rw[fL,(Rx E' hij).1]
 exact hhr.inj id j _ _ hc h5 h4
 obtain⟨h4,h5⟩:=old i y hy h2
 by_cases h3:nid=j
 subst h3
 rw[fL,(Rx E' h2).1]
 exact hhr.inj i id _ _ h5 hc (Ne.symm h4)
 obtain⟨h6,h7⟩:=old j y' hy' h3
 rw[(Rx E' h2).1,(Rx E' h3).1]
 exact hhr.inj i j _ _ h5 h7 hij
 rcases hi with hi|rfl
 rw[(Rx E' (Ne.symm (hne i hi))).1]
 exact hhr.abd i hi
 rw[fL]
 exact hhr.abd id l1
 rcases hi with hi|rfl
 exact .inl (hA' i hi)
 exact .inr (by simp[Bl.news])
 exact Wi x y t ho ht e bytes z hi hze he n m hm f g F nid hbytes h63 hF1 hF2 hone id hx hp hy
end Go.Proofs.YtkpjchfniejdoaaGreatDoor