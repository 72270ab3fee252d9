/- Part 9 of the proof of PH.card_holds: no condition beyond the row's. -/
import Derived.Test.YtkpjchfniejdoaaGreatDoorPH8
import Derived.MapKept
import Derived.WideKeyRuns
import Derived.Laws.StructEq
set_option maxRecDepth 100000
set_option maxHeartbeats 40000000
namespace Go.Proofs.YtkpjchfniejdoaaGreatDoor
open Go.Proofs.Tryz
open Go.RowKit Go.MapKept
def vec (x y z:Int):Value:= .agg #[.int .i64 x,.int .i64 y,.int .i64 z]
theorem AeH (x y z x' y' z':Int) (w:World):(Op.equal 33 (.agg #[.int .i64 x,.int .i64 y,.int .i64 z]) (.agg #[.int .i64 x',.int .i64 y',.int .i64 z'])).run Tryz.prog w= .ok (x==x'&&(y==y'&&z==z')) w:=by
 unfold Op.equal Op.maxDepth
 rw[run_equalIn_struct w 9999 33 _ _ κ κ]
 have hf:(Tryz.prog.fieldsOf 33).toList.map (λf=>(f.name,f.type,f.offset))=[("X",3,0),("Y",3,1),("Z",3,2)]:=κ
 generalize (Tryz.prog.fieldsOf 33).toList=l at hf
 have hl:l.length=3:=by have:=congrArg List.length hf;simpa using this
 obtain⟨f1,f2,f3,rfl⟩:∃f1 f2 f3,l=[f1,f2,f3]:=by
  match l,hl with
  |[f1,f2,f3],_=>exact⟨f1,f2,f3,rfl⟩
 simp only[List.map_cons,List.map_nil,List.cons.injEq,Prod.mk.injEq,and_true] at hf
 obtain⟨⟨a1,a2,a3⟩,⟨b1,b2,b3⟩,c1,c2,c3⟩:=hf
 have hp:∀(xs:Array Value) (o:Nat) (v:Value),xs[o]?=some v->(part 3 xs o).run Tryz.prog w= .ok v w:=λxs o v h=>run_part_plain w κ h
 have p1:=hp #[.int .i64 x,.int .i64 y,.int .i64 z] 0 (.int .i64 x) rfl
 have p2:=hp #[.int .i64 x,.int .i64 y,.int .i64 z] 1 (.int .i64 y) rfl
 have p3:=hp #[.int .i64 x,.int .i64 y,.int .i64 z] 2 (.int .i64 z) rfl
 have q1:=hp #[.int .i64 x',.int .i64 y',.int .i64 z'] 0 (.int .i64 x') rfl
 have q2:=hp #[.int .i64 x',.int .i64 y',.int .i64 z'] 1 (.int .i64 y') rfl
 have q3:=hp #[.int .i64 x',.int .i64 y',.int .i64 z'] 2 (.int .i64 z') rfl
 have he:∀a b:Int,(Op.equalIn 9999 3 (.int .i64 a) (.int .i64 b)).run Tryz.prog w= .ok (a==b) w:=λa b=>run_equalIn_int w 9998 3 .i64 .i64 a b underlying3
 simp only[Op.eqFields,a1,a2,a3,b1,b2,b3,c1,c2,c3,Sem.run_bind,Sem.run_ite,p1,p2,p3,q1,q2,q3,he,Result.andThen_ok]
 cases h1:(x==x')<;>cases h2:(y==y')<;>cases h3:(z==z')<;>simp
def Tx (eqv:Value->Value->Bool) (k:Value):List MapEntry->Nat->Option (Nat×Value)
 |[],_=>none
 |e::es,i=>if eqv k e.key then some (i,e.val) else Tx eqv k es (i+1)
structure Tm (kt:TypeId) (IsK:Value->Prop) (eqv:Value->Value->Bool):Prop where
 chk:∀em k w,IsK k->(Instr.checkKey em 10000 kt k).run Tryz.prog w= .ok () w
 find:∀k (es:List MapEntry) w,IsK k->(∀e∈es,IsK e.key)->(Instr.findKey kt k es).run Tryz.prog w= .ok (Tx eqv k es 0) w
 same:∀a b,IsK a->IsK b->eqv a b=true->a=b
 refl:∀a,IsK a->eqv a a=true
def Tv:Value->Value->Bool| .int _ a,.int _ b=>a==b|_,_=>false
def lY:Value->Value->Bool| .string a,.string b=>a==b|_,_=>false
def lZ:Value->Value->Bool
 | .agg xs,.agg ys=>match xs.toList,ys.toList with
  |[.int _ x,.int _ y,.int _ z],[.int _ x',.int _ y',.int _ z']=>x==x'&&(y==y'&&z==z')
  |_,_=>false
 |_,_=>false
theorem AnR (kt:TypeId) (h:Tryz.prog.underlying kt=some (.int .i64)):Tm kt (λv=>∃n,v= .int .i64 n) Tv where
 chk:=by
  rintro em k w ⟨n,rfl⟩
  exact run_checkKey h (by simp[IsKey]) em 9999
 find:=by
  rintro k es w ⟨n,rfl⟩ hes
  refine run_findKey h ?_
  generalize 0=i
  induction es generalizing i with
  |nil=>rfl
  |cons e es ih=>
   obtain⟨m,hm⟩:=hes e (by simp)
   simp only[Instr.findNow,hm,Instr.sameNow,if_true,Tx,Tv]
   cases n==m
   simpa using ih (λe he=>hes e (by simp[he])) (i+1)
   simp
 same:=by rintro _ _ ⟨n,rfl⟩ ⟨m,rfl⟩ h;simp[Tv] at h;rw[h]
 refl:=by rintro _ ⟨n,rfl⟩;simp[Tv]
theorem yM (a:ByteArray):(a==a)=true:=by rw[beq_toListBytes];simp
theorem Ag1 {a b:ByteArray} (h:(a==b)=true):a=b:=by
 rw[beq_toListBytes,ByteArray.toList_eq,ByteArray.toList_eq] at h
 obtain⟨⟨x⟩⟩:=a
 obtain⟨⟨y⟩⟩:=b
 have e:x=y:=by simpa using h
 rw[e]
theorem Ah8 (kt:TypeId) (h:Tryz.prog.underlying kt=some .string):Tm kt (λv=>∃s,v= .string s) lY where
 chk:=by
  rintro em k w ⟨n,rfl⟩
  exact run_checkKey h (by simp[IsKey]) em 9999
 find:=by
  rintro k es w ⟨n,rfl⟩ hes
  refine run_findKey h ?_
  generalize 0=i
  induction es generalizing i with
  |nil=>rfl
  |cons e es ih=>
   obtain⟨m,hm⟩:=hes e (by simp)
   simp only[Instr.findNow,hm,Instr.sameNow,Tx,lY]
   cases n==m
   simpa using ih (λe he=>hes e (by simp[he])) (i+1)
   simp
 same:=by rintro _ _ ⟨n,rfl⟩ ⟨m,rfl⟩ h;rw[Ag1 h]
 refl:=by rintro _ ⟨n,rfl⟩;exact yM n
theorem Ah9:Tm 33 (λv=>∃x y z,v=vec x y z) lZ where
 chk:=by
  rintro em k w ⟨x,y,z,rfl⟩
  unfold vec
  kernel_rfl
 find:=by
  rintro k es w ⟨x,y,z,rfl⟩ hes
  rw[run_findKey_eq w κ]
  generalize 0=i
  induction es generalizing i with
  |nil=>simp[Instr.findAsking,Tx]
  |cons e es ih=>
   obtain⟨x',y',z',hm⟩:=hes e (by simp)
   unfold vec at hm
   have hq:lZ (vec x y z) (.agg #[.int .i64 x',.int .i64 y',.int .i64 z'])=(x==x'&&(y==y'&&z==z')):=rfl
   simp only[Instr.findAsking,Sem.run_bind,hm,Tx,hq]
   have hv:(Op.equal 33 (vec x y z) (.agg #[.int .i64 x',.int .i64 y',.int .i64 z'])).run Tryz.prog w=_:=AeH x y z x' y' z' w
   simp only[hv,Result.andThen_ok]
   cases (x==x'&&(y==y'&&z==z'))
   simpa using ih (λe he=>hes e (by simp[he])) (i+1)
   simp
 same:=by
  rintro _ _ ⟨x,y,z,rfl⟩ ⟨x',y',z',rfl⟩ h
  have:(x==x'&&(y==y'&&z==z'))=true:=h
  simp at this
  rw[this.1,this.2.1,this.2.2]
 refl:=by rintro _ ⟨x,y,z,rfl⟩;show (x==x&&(y==y&&z==z))=true;simp
def Et (w:World) (b:Nat) (L:List (Value×Value)):Prop:=
 ∃es clock,w.heap[b]?=some (.map es clock)/\es.toList.map (λe=>(e.key,e.val))=L/\∀e∈es.toList,e.born<clock
theorem Xc {eqv:Value->Value->Bool} {k:Value}:∀{es:List MapEntry} {i:Nat},(∀p∈es.map (λe=>(e.key,e.val)),eqv k p.1=false)->Tx eqv k es i=none
 |[],_,_=>rfl
 |e::es,i,h=>by
  have h1:=h (e.key,e.val) (by simp)
  unfold Tx
  rw[if_neg (by rw[h1];exact Bool.false_ne_true)]
  exact Xc λp hp=>h p (by simp at hp ⊢;exact .inr hp)
theorem mC {eqv:Value->Value->Bool} {k:Value}:∀{es:List MapEntry} {i:Nat},(Tx eqv k es i).map (·.2)=((es.map (λe=>(e.key,e.val))).find? (λp=>eqv k p.1)).map (·.2)
 |[],_=>rfl
 |e::es,i=>by
  unfold Tx
  simp only[List.map_cons,List.find?_cons]
  cases h:eqv k e.key
  simpa using mC
  simp
theorem Et.new (w:World) (b:Nat) (hb:w.heap.size=b):Et (w.alloc (.map #[] 0)) b []:=by
 subst hb
 exact⟨#[],0,heap_alloc_new w _,rfl,by simp⟩
theorem Et.lt {w:World} {b:Nat} {L:List (Value×Value)} (h:Et w b L):b<w.heap.size:=by
 obtain⟨es,c,h,_⟩:=h
 exact(Ξ h).1
theorem Et.keep {w w':World} {b:Nat} {L:List (Value×Value)} (h:Et w b L) (hk:w'.heap[b]?=w.heap[b]?):Et w' b L:=by
 obtain⟨es,c,h,e,hs⟩:=h
 exact⟨es,c,hk.trans h,e,hs⟩
theorem Et.below {w w':World} {b B:Nat} {L:List (Value×Value)} (h:Et w b L) (hb:Below B w w') (hB:b<B):Et w' b L:=h.keep (hb.block b hB)
theorem Et.alloc {w:World} {b:Nat} {L:List (Value×Value)} (h:Et w b L) (o:Obj):Et (w.alloc o) b L:=h.keep (Below.heap_alloc w o b h.lt)
theorem Et.look {w:World} {b:Nat} {L:List (Value×Value)} {t kt et:TypeId} {IsK:Value->Prop} {eqv:Value->Value->Bool} (h:Et w b L) (ht:Tryz.prog.underlying t=some (.map kt et)) (K:Tm kt IsK eqv)
  (hL:∀p∈L,IsK p.1) (k:Value) (hk:IsK k) (z:Value) (hz:(zeroValue et).run Tryz.prog w= .ok z w):
  (Instr.lookup t (.map (some b)) k false).run Tryz.prog w= .ok (((L.find? (λp=>eqv k p.1)).map (·.2)).getD z) w:=by
 obtain⟨es,c,hb,rfl,hst⟩:=h
 have hes:∀e∈es.toList,IsK e.key:=λe he=>hL (e.key,e.val) (List.mem_map.2 ⟨e,he,rfl⟩)
 rw[<-mC (i:=0)]
 unfold Instr.lookup
 simp only[Sem.run_bind,run_underlying ht,Result.andThen_ok,Go.MapKept.run_getObj_map hb,Sem.run_pure,K.chk _ k _ hk,K.find k es.toList w hk hes]
 cases Tx eqv k es.toList 0 with
 |none=>simp[hz]
 |some p=>simp
theorem Et.put {w:World} {b:Nat} {L:List (Value×Value)} {t kt et:TypeId} {IsK:Value->Prop} {eqv:Value->Value->Bool} (h:Et w b L) (ht:Tryz.prog.underlying t=some (.map kt et)) (K:Tm kt IsK eqv)
  (hL:∀p∈L,IsK p.1) (k v:Value) (hk:IsK k) (hn:∀p∈L,eqv k p.1=false):
  ∃w',(Instr.mapUpdate t (.map (some b)) k v).run Tryz.prog w= .ok () w'/\Et w' b (L++[(k,v)])/\w.grownBy w' (some b):=by
 obtain⟨es,c,hb,rfl,hst⟩:=h
 have hes:∀e∈es.toList,IsK e.key:=λe he=>hL (e.key,e.val) (List.mem_map.2 ⟨e,he,rfl⟩)
 refine⟨{ w with heap:=w.heap.setIfInBounds b (.map (es.push { key:=k,val:=v,born:=c }) (c+1)) },?_,⟨_,_,(heap_set hb).1,by simp,by
  intro e he
  simp at he
  rcases he with he|rfl
  have:=hst e (by simpa using he);omega
  simp⟩,⟨rfl,rfl,rfl,by simp,λi _ hne=>(heap_set hb).2 i (λe=>hne (by rw[e]))⟩⟩
 unfold Instr.mapUpdate
 simp only[Sem.run_bind,run_underlying ht,Result.andThen_ok,Go.MapKept.run_getObj_map hb,K.chk _ k _ hk,K.find k es.toList w hk hes,Xc hn]
 exact Go.MapKept.run_setObj_map _ hb
theorem Qk {w:World} {ops:Array Oper} {rest:List Oper} {o:Oper} {a:Act} {Q:Exit->Act->World->Prop} (hg:o.guard=none) (m x v:Operand) (t:TypeId) (hop:o.op=Op.insert t m x v)
  {b:Nat} {L:List (Value×Value)} {kt et:TypeId} {IsK:Value->Prop} {eqv:Value->Value->Bool} (ht:Tryz.prog.underlying t=some (.map kt et)) (K:Tm kt IsK eqv) (hm:a.eval m= .map (some b)) (h:Et w b L)
  (hL:∀p∈L,IsK p.1) (k u:Value) (hx:a.eval x=k) (hv:a.eval v=u) (hk:IsK k) (hn:∀p∈L,eqv k p.1=false)
  (hK:∀w',Et w' b (L++[(k,u)])->w.grownBy w' (some b)->wpList Tryz.prog ops Q rest (a.put o.dst undef) w'):wpList Tryz.prog ops Q (o::rest) a w:=by
 refine wpList_plain hg λK' hK'=>?_
 obtain⟨w',hrun,r1,r2⟩:=h.put ht K hL k u hk hn
 unfold Oper.wp
 simp[execOp,hop,hm,hx,hv,hrun,Result.andThen]
 exact hK' _ _ (hK w' r1 r2)
theorem kN {w:World} {ops:Array Oper} {rest:List Oper} {o:Oper} {a:Act} {Q:Exit->Act->World->Prop} (hg:o.guard=none) (m x v:Operand) (t:TypeId) (hop:o.op=Op.mapUpdate t m x v)
  {b:Nat} {L:List (Value×Value)} {kt et:TypeId} {IsK:Value->Prop} {eqv:Value->Value->Bool} (ht:Tryz.prog.underlying t=some (.map kt et)) (K:Tm kt IsK eqv) (hm:a.eval m= .map (some b)) (h:Et w b L)
  (hL:∀p∈L,IsK p.1) (k u:Value) (hx:a.eval x=k) (hv:a.eval v=u) (hk:IsK k) (hn:∀p∈L,eqv k p.1=false)
  (hK:∀w',Et w' b (L++[(k,u)])->w.grownBy w' (some b)->wpList Tryz.prog ops Q rest (a.put o.dst undef) w'):wpList Tryz.prog ops Q (o::rest) a w:=by
 refine wpList_plain hg λK' hK'=>?_
 obtain⟨w',hrun,r1,r2⟩:=h.put ht K hL k u hk hn
 unfold Oper.wp
 simp[execOp,hop,hm,hx,hv,hrun,Result.andThen]
 exact hK' _ _ (hK w' r1 r2)
theorem wK {w:World} {ops:Array Oper} {rest:List Oper} {o:Oper} {a:Act} {Q:Exit->Act->World->Prop} (hg:o.guard=none) (m x:Operand) (t:TypeId) (hop:o.op=Op.lookup t m x false)
  {b:Nat} {L:List (Value×Value)} {kt et:TypeId} {IsK:Value->Prop} {eqv:Value->Value->Bool} (ht:Tryz.prog.underlying t=some (.map kt et)) (K:Tm kt IsK eqv) (hm:a.eval m= .map (some b)) (h:Et w b L)
  (hL:∀p∈L,IsK p.1) (k:Value) (hx:a.eval x=k) (hk:IsK k) (z:Value) (hz:(zeroValue et).run Tryz.prog w= .ok z w) (r:Value) (hr:((L.find? (λp=>eqv k p.1)).map (·.2)).getD z=r)
  (hK:wpList Tryz.prog ops Q rest (a.put o.dst r) w):wpList Tryz.prog ops Q (o::rest) a w:=by
 refine wpList_plain hg λK' hK'=>?_
 have hrun:=h.look ht K hL k hk z hz
 rw[hr] at hrun
 unfold Oper.wp
 simp[execOp,hop,hm,hx,hrun,Result.andThen]
 exact hK' _ _ hK
def Agc (w:World) (b:Nat) (L:List (Value×Value)) (k:Value) (c:Nat):Prop:=
 ∃(es:Array MapEntry) (z:Value),w.heap[b]?=some (.map (es.push { key:=k,val:=z,born:=c }) (c+1))/\es.toList.map (λe=>(e.key,e.val))=L/\∀e∈es.toList,e.born<c
theorem Et.entry {w:World} {b:Nat} {L:List (Value×Value)} {t kt et:TypeId} {IsK:Value->Prop} {eqv:Value->Value->Bool} (h:Et w b L) (ht:Tryz.prog.underlying t=some (.map kt et)) (K:Tm kt IsK eqv)
  (hL:∀p∈L,IsK p.1) (k:Value) (hk:IsK k) (hn:∀p∈L,eqv k p.1=false) (z:Value) (hz:(zeroValue et).run Tryz.prog w= .ok z w):
  ∃w' c,(Instr.mapEntry t (.map (some b)) k).run Tryz.prog w= .ok (.tuple #[z,.int .i64 (c:Nat)]) w'/\Agc w' b L k c/\w.grownBy w' (some b):=by
 obtain⟨es,c,hb,rfl,hst⟩:=h
 have hes:∀e∈es.toList,IsK e.key:=λe he=>hL (e.key,e.val) (List.mem_map.2 ⟨e,he,rfl⟩)
 refine⟨{ w with heap:=w.heap.setIfInBounds b (.map (es.push { key:=k,val:=z,born:=c }) (c+1)) },c,?_,⟨es,z,(heap_set hb).1,rfl,hst⟩,⟨rfl,rfl,rfl,by simp,λi _ hne=>(heap_set hb).2 i (λe=>hne (by rw[e]))⟩⟩
 unfold Instr.mapEntry
 simp only[Sem.run_bind,run_underlying ht,Result.andThen_ok,Go.MapKept.run_getObj_map hb,K.chk _ k _ hk,K.find k es.toList w hk hes,Xc hn,hz]
 rw[Go.MapKept.run_setObj_map _ hb]
 rfl
theorem Agc.store {w:World} {b c:Nat} {L:List (Value×Value)} {k:Value} (h:Agc w b L k c) (t:TypeId) (v:Value):
  ∃w',(Instr.entryStore t (.map (some b)) (.int .i64 (c:Nat)) v).run Tryz.prog w= .ok () w'/\Et w' b (L++[(k,v)])/\w.grownBy w' (some b):=by
 obtain⟨es,z,hb,rfl,hst⟩:=h
 have hidx:(es.push { key:=k,val:=z,born:=c }).findIdx? (λe=>(e.born:Int)==(c:Int))=some es.size:=by
  rw[Array.findIdx?_eq_some_iff_getElem]
  refine⟨by simp,by simp,λj hj=>?_⟩
  have hj':j<es.size:=by simpa using hj
  rw[Array.getElem_push_lt hj']
  have:=hst es[j] (by simp)
  simp
  omega
 refine⟨{ w with heap:=w.heap.setIfInBounds b (.map ((es.push { key:=k,val:=z,born:=c }).modify es.size λe=>{ e with val:=v }) (c+1)) },?_,⟨_,_,(heap_set hb).1,?_,?_⟩,⟨rfl,rfl,rfl,by simp,λi _ hne=>(heap_set hb).2 i (λe=>hne (by rw[e]))⟩⟩
 unfold Instr.entryStore
 simp only[Sem.run_bind,Result.andThen_ok,Go.MapKept.run_getObj_map hb,asInt,asIntOf,Sem.run_pure,hidx]
 exact Go.MapKept.run_setObj_map _ hb
 have e:(es.push { key:=k,val:=z,born:=c }).modify es.size (λe=>{ e with val:=v })=es.push { key:=k,val:=v,born:=c }:=by
  apply Array.ext
  simp
  intro i h1 h2
  rw[Array.getElem_modify]
  by_cases hi:es.size=i
  subst hi;simp
  have:i<es.size:=by simp at h2;omega
  rw[if_neg hi,Array.getElem_push_lt this,Array.getElem_push_lt this]
 rw[e]
 simp
 have e:(es.push { key:=k,val:=z,born:=c }).modify es.size (λe=>{ e with val:=v })=es.push { key:=k,val:=v,born:=c }:=by
  apply Array.ext
  simp
  intro i h1 h2
  rw[Array.getElem_modify]
  by_cases hi:es.size=i
  subst hi;simp
  have:i<es.size:=by simp at h2;omega
  rw[if_neg hi,Array.getElem_push_lt this,Array.getElem_push_lt this]
 rw[e]
 intro e he
 simp at he
 rcases he with he|rfl
 have:=hst e (by simpa using he);omega
 simp
theorem rF {w:World} {ops:Array Oper} {rest:List Oper} {o:Oper} {a:Act} {Q:Exit->Act->World->Prop} (hg:o.guard=none) (m x:Operand) (t:TypeId) (hop:o.op=Op.mapEntry t m x)
  {b:Nat} {L:List (Value×Value)} {kt et:TypeId} {IsK:Value->Prop} {eqv:Value->Value->Bool} (ht:Tryz.prog.underlying t=some (.map kt et)) (K:Tm kt IsK eqv) (hm:a.eval m= .map (some b)) (h:Et w b L)
  (hL:∀p∈L,IsK p.1) (k:Value) (hx:a.eval x=k) (hk:IsK k) (hn:∀p∈L,eqv k p.1=false) (z:Value) (hz:(zeroValue et).run Tryz.prog w= .ok z w)
  (hK:∀w' c,Agc w' b L k c->w.grownBy w' (some b)->wpList Tryz.prog ops Q rest (a.put o.dst (.tuple #[z,.int .i64 (c:Nat)])) w'):wpList Tryz.prog ops Q (o::rest) a w:=by
 refine wpList_plain hg λK' hK'=>?_
 obtain⟨w',c,hrun,r1,r2⟩:=h.entry ht K hL k hk hn z hz
 unfold Oper.wp
 simp[execOp,hop,hm,hx,hrun,Result.andThen]
 exact hK' _ _ (hK w' c r1 r2)
theorem Zy {w:World} {ops:Array Oper} {rest:List Oper} {o:Oper} {a:Act} {Q:Exit->Act->World->Prop} (hg:o.guard=none) (m x v:Operand) (t:TypeId) (hop:o.op=Op.entryStore t m x v)
  {b c:Nat} {L:List (Value×Value)} {k:Value} (hm:a.eval m= .map (some b)) (h:Agc w b L k c) (hx:a.eval x= .int .i64 (c:Nat)) (u:Value) (hv:a.eval v=u)
  (hK:∀w',Et w' b (L++[(k,u)])->w.grownBy w' (some b)->wpList Tryz.prog ops Q rest (a.put o.dst undef) w'):wpList Tryz.prog ops Q (o::rest) a w:=by
 refine wpList_plain hg λK' hK'=>?_
 obtain⟨w',hrun,r1,r2⟩:=h.store t u
 unfold Oper.wp
 simp[execOp,hop,hm,hx,hv,hrun,Result.andThen]
 exact hK' _ _ (hK w' r1 r2)
open Go.RowKit
def Hh (x y z x' y' z' f t:Int):Bool:=Wk x y z&&Wk x' y' z'&&decide (0<=f)&&decide (f<t)&&decide (t<=3600000)
theorem Ua (x y z x' y' z' f t:Int) (w:World):
  Calls Tryz.prog 143 #[.agg #[.int .i64 x,.int .i64 y,.int .i64 z],.agg #[.int .i64 x',.int .i64 y',.int .i64 z'],.int .i64 f,.int .i64 t] w λe w'=>e= .returned (.bool (Hh x y z x' y' z' f t))/\Below w.heap.size w w':=by
 cases h1:Wk x y z<;>cases h2:Wk x' y' z'
 all_goals
  have HF:Hid (∀a b,a=Wk x y z->b=Wk x' y' z'->Hh x y z x' y' z' f t=(a&&b&&decide (0<=f)&&decide (f<t)&&decide (t<=3600000))):=λa b h h'=>by rw[h,h'];rfl
  have H1:=Δ h1
  have H2:=Δ h2
  clear h1 h2
  go_enter func143,ntmps143
  go_wp2_with fail
  refine(Gg _ _ _ _).mono ?_
  rintro e w1 ⟨rfl,hb⟩
  rw[H1.out]
  have hz:=hb.size
  have hB:=((Ψ.alloc ζ _).alloc (by simp) _).trans (hb.mono (show w.heap.size<=_ by simp;omega))
  obtain⟨hc,hf⟩:=Gl hb
  simp at hz hc
  go_wp2_with fail
 · go_ret;exact⟨Fh (by rw[HF.out _ _ H1.out.symm H2.out.symm];simp),hB⟩
 · go_ret;exact⟨Fh (by rw[HF.out _ _ H1.out.symm H2.out.symm];simp),hB⟩
 all_goals
  refine(Gg _ _ _ _).mono ?_
  rintro e w2 ⟨rfl,hb2⟩
  rw[H2.out]
  go_wp2
  all_goals
   go_ret
   refine⟨Fh ?_,hB.trans (hb2.mono ω)⟩
   rw[HF.out _ _ H1.out.symm H2.out.symm]
   simp
   try omega
theorem AkU {w w1 w2 w3:World} {p n1 n2 n3:Nat} {v1 v2 v3:Value} {x1 x2 x3:List Value} {f t:Int} (hG:w2.grownBy w3 (some p)) (hp:w.heap.size<=p) (hp1:p<w1.heap.size) (hb:Below w.heap.size w w1) (hC:Below w1.heap.size w1 w2)
  (h1:Bv w2 w1.heap.size w2.heap.size 1 v1 n1 x1) (h2:Bv w2 w1.heap.size w2.heap.size 1 v2 n2 x2) (h3:Bv w2 w1.heap.size w2.heap.size 1 v3 n3 x3):
  ∃vx vy vz,Ending.returned (.agg #[.int .i64 f,.int .i64 t,.int .i64 1,v1,v2,v3])= .returned (.agg #[.int .i64 f,.int .i64 t,.int .i64 1,vx,vy,vz])/\Bv w3 w.heap.size w3.heap.size 1 vx n1 x1/\Bv w3 w.heap.size w3.heap.size 1 vy n2 x2/\Bv w3 w.heap.size w3.heap.size 1 vz n3 x3/\Below w.heap.size w w3:=by
 have hr:∀b,some p=some b->b<w1.heap.size\/w2.heap.size<=b:=by rintro b ⟨rfl⟩;exact .inl hp1
 have hz:=hb.size
 have hz2:=hC.size
 exact⟨_,_,_,rfl,(h1.keepG hG ζ hr).more hz hG.size,(h2.keepG hG ζ hr).more hz hG.size,(h3.keepG hG ζ hr).more hz hG.size,
  (hb.trans (hC.mono hz)).grown hG ω (by rintro b ⟨rfl⟩;exact hp)⟩
theorem dS:Tm 221 (λv=>∃n,v= .int .i64 n) Tv:=AnR 221 κ
def Bq (k:Int):List Int:=if k=0 then [] else if k=1 then [1] else [0,0,10,-15,6]
theorem AiC (w:World):
  Calls Tryz.prog 229 #[] w λe w'=>∃b v1 v2,e= .returned (.map (some b))/\Et w' b [(.int .i64 0,.slice none 0 0),(.int .i64 1,v1),(.int .i64 2,v2)]/\Bv w' w.heap.size w'.heap.size 1 v1 1 (Ib [1])/\Bv w' w.heap.size w'.heap.size 1 v2 5 (Ib [0,0,10,-15,6])/\w.heap.size<=b/\Below w.heap.size w w':=by
 have hmm:=@run_makeMap Tryz.prog
 go_enter func229,ntmps229
 go_wp2_with (with_reducible refine Qk rfl (.tmp 1) (.const (.int .i64 0)) (.const (.slice none 0 0)) 322 rfl underlying322 dS rfl (Et.new _ _ rfl) (by simp) _ _ rfl rfl ⟨_,rfl⟩ (by simp) ?_)
 intro w1 hm1 hg1
 have hb1:Below w.heap.size w w1:=(Ψ.alloc ζ _).grown hg1 (by simp) (λk hk=>by injection hk with hk;omega)
 have hz1:w.heap.size<w1.heap.size:=hm1.lt
 go_wp2_with (with_reducible refine Qk rfl (.tmp 1) (.const (.int .i64 1)) (.tmp 2) 322 rfl underlying322 dS rfl (hm1.alloc _) (by simp) (.int .i64 1) _ rfl rfl ⟨_,rfl⟩ (by simp[Tv]) ?_)
 intro w2 hm2 hg2
 have hb2:Below w.heap.size w w2:=(hb1.alloc hb1.size _).grown hg2 (by simp;omega) (λk hk=>by injection hk with hk;omega)
 have hs2:Bv w2 w1.heap.size (w1.heap.size+1) 1 (.slice (some ⟨w1.heap.size,0,none⟩) 1 1) 1 (Ib [1]):=
  (Bv.new1 w1 (Ib [1]) 1 _ w1.heap.size (w1.heap.size+1) 1 3 rfl rfl ζ ω).keepG hg2 (by simp) (by intro b e;simp at e;omega)
 have hz2:w1.heap.size+1<=w2.heap.size:=by have:=hg2.size;simpa using this
 clear hm1 hg1 hg2
 go_wp2_with (with_reducible refine Qk rfl (.tmp 1) (.const (.int .i64 2)) (.tmp 3) 322 rfl underlying322 dS rfl (hm2.alloc _) (by simp) (.int .i64 2) _ rfl rfl ⟨_,rfl⟩ (by simp[Tv]) ?_)
 intro w3 hm3 hg3
 have hb3:Below w.heap.size w w3:=(hb2.alloc hb2.size _).grown hg3 (by simp;omega) (λk hk=>by injection hk with hk;omega)
 have hs3:Bv w3 w2.heap.size (w2.heap.size+1) 1 (.slice (some ⟨w2.heap.size,0,none⟩) 5 5) 5 (Ib [0,0,10,-15,6]):=
  (Bv.new1 w2 (Ib [0,0,10,-15,6]) 5 _ w2.heap.size (w2.heap.size+1) 1 3 rfl rfl ζ ω).keepG hg3 (by simp) (by intro b e;simp at e;omega)
 have hs4:=(hs2.new hz2 (.cells #[.int .i64 0,.int .i64 0,.int .i64 10,.int .i64 (-15),.int .i64 6] 3)).keepG hg3 (by simp;omega) (by intro b e;simp at e;omega)
 have hz3:w2.heap.size+1<=w3.heap.size:=by have:=hg3.size;simpa using this
 go_wp2
 go_ret
 exact⟨_,_,_,rfl,hm3,hs4.more ω ω,hs3.more ω ω,Nat.le_refl _,hb3⟩
def AhA (k:Int):Prop:=k=0\/k=1\/k=2
theorem Qe (k:Int):∀f∈Bq k,-100<=f/\f<=100:=by
 unfold Bq;split
 simp
 split<;>simp
theorem Uc (k:Int):(Bq k).length<=100:=by
 unfold Bq;split
 simp
 split<;>simp
theorem AhO {w:World} {v1 v2:Value} (k:Int) (hk:AhA k) (lo:Nat) (h1:Bv w lo w.heap.size 1 v1 1 (Ib [1])) (h2:Bv w lo w.heap.size 1 v2 5 (Ib [0,0,10,-15,6])):
  ∃v,(([(Value.int .i64 0,Value.slice none 0 0),(.int .i64 1,v1),(.int .i64 2,v2)].find? (λp=>Tv (.int .i64 k) p.1)).map (·.2)).getD (.slice none 0 0)=v/\Bv w lo w.heap.size 1 v (Bq k).length (Ib (Bq k)):=by
 rcases hk with rfl|rfl|rfl
 exact⟨_,rfl,by simp[Tv,Bq,Ib];exact Bv.nil none 0⟩
 exact⟨_,rfl,by simpa [Tv,Bq,Ib] using h1⟩
 exact⟨_,rfl,by simpa [Tv,Bq,Ib] using h2⟩
theorem Abp (x y z x' y' z' f t k:Int) (w:World) (hk:AhA k) (hx: -2097152<=x/\x<=2097152) (hy: -2097152<=y/\y<=2097152) (hz: -2097152<=z/\z<=2097152) (hx': -2097152<=x'/\x'<=2097152) (hy': -2097152<=y'/\y'<=2097152) (hz': -2097152<=z'/\z'<=2097152):
  Calls Tryz.prog 182 #[.agg #[.int .i64 x,.int .i64 y,.int .i64 z],.agg #[.int .i64 x',.int .i64 y',.int .i64 z'],.int .i64 f,.int .i64 t,.int .i64 k] w λe w'=>∃vx vy vz,e= .returned (.agg #[.int .i64 f,.int .i64 t,.int .i64 1,vx,vy,vz])/\Bv w' w.heap.size w'.heap.size 1 vx (Cx x x' (Bq k)).length (Ib (Cx x x' (Bq k)))/\Bv w' w.heap.size w'.heap.size 1 vy (Cx y y' (Bq k)).length (Ib (Cx y y' (Bq k)))/\Bv w' w.heap.size w'.heap.size 1 vz (Cx z z' (Bq k)).length (Ib (Cx z z' (Bq k)))/\Below w.heap.size w w':=by
 go_enter func182,ntmps182
 go_wp2_with fail
 refine(AiC _).mono ?_
 rintro e w1 ⟨b,v1,v2,rfl,hm,h1,h2,hbb,hb1⟩
 obtain⟨v,hv,hs⟩:=AhO k hk _ h1 h2
 have HK:=Δ hk
 clear hk
 go_wp2_with (with_reducible refine wK rfl (.tmp 12) (.tmp 13) 322 rfl underlying322 dS rfl hm ?_ (.int .i64 k) rfl ⟨_,rfl⟩ (.slice none 0 0) ?_ _ hv ?_)
 · intro p hp;simp at hp;rcases hp with rfl|rfl|rfl<;>exact⟨_,rfl⟩
 · kernel_rfl
 have hz1:=hb1.size
 obtain⟨hc,hf⟩:=Gl hb1
 simp at hz1
 have c1:w1.cell? ⟨w.heap.size,0,none⟩=some (.int .i64 x):=by rw[hc _ _ (by simp<;>omega)];go_simp
 have c2:w1.cell? ⟨w.heap.size,1,none⟩=some (.int .i64 y):=by rw[hc _ _ (by simp<;>omega)];go_simp
 have c3:w1.cell? ⟨w.heap.size,2,none⟩=some (.int .i64 z):=by rw[hc _ _ (by simp<;>omega)];go_simp
 have c4:w1.cell? ⟨w.heap.size+1,0,none⟩=some (.int .i64 x'):=by rw[hc _ _ (by simp<;>omega)];go_simp
 have c5:w1.cell? ⟨w.heap.size+1,1,none⟩=some (.int .i64 y'):=by rw[hc _ _ (by simp<;>omega)];go_simp
 have c6:w1.cell? ⟨w.heap.size+1,2,none⟩=some (.int .i64 z'):=by rw[hc _ _ (by simp<;>omega)];go_simp
 have c7:w1.cell? ⟨w.heap.size+2,0,none⟩=some (.int .i64 0):=by rw[hc _ _ (by simp<;>omega)];go_simp
 have c8:w1.cell? ⟨w.heap.size+2,1,none⟩=some (.int .i64 0):=by rw[hc _ _ (by simp<;>omega)];go_simp
 have c9:w1.cell? ⟨w.heap.size+2,2,none⟩=some (.int .i64 0):=by rw[hc _ _ (by simp<;>omega)];go_simp
 have c10:w1.cell? ⟨w.heap.size+2,3,none⟩=some (.slice none 0 0):=by rw[hc _ _ (by simp<;>omega)];go_simp
 have c11:w1.cell? ⟨w.heap.size+2,4,none⟩=some (.slice none 0 0):=by rw[hc _ _ (by simp<;>omega)];go_simp
 have c12:w1.cell? ⟨w.heap.size+2,5,none⟩=some (.slice none 0 0):=by rw[hc _ _ (by simp<;>omega)];go_simp
 have f0:w1.frozen? ⟨w.heap.size+2,0,none⟩=false:=by rw[hf _ _ (by simp<;>omega)];go_simp
 have f1:w1.frozen? ⟨w.heap.size+2,1,none⟩=false:=by rw[hf _ _ (by simp<;>omega)];go_simp
 have f2:w1.frozen? ⟨w.heap.size+2,2,none⟩=false:=by rw[hf _ _ (by simp<;>omega)];go_simp
 have f3:w1.frozen? ⟨w.heap.size+2,3,none⟩=false:=by rw[hf _ _ (by simp<;>omega)];go_simp
 have f4:w1.frozen? ⟨w.heap.size+2,4,none⟩=false:=by rw[hf _ _ (by simp<;>omega)];go_simp
 have f5:w1.frozen? ⟨w.heap.size+2,5,none⟩=false:=by rw[hf _ _ (by simp<;>omega)];go_simp
 have hbw:Below w.heap.size w w1:=(((Ψ.alloc ζ _).alloc (by simp) _).alloc (by simp;omega) _).trans (hb1.mono (by simp;omega))
 clear hc hf hm hv hbb hb1
 refine Up 20 36 (λw'=>Below w1.heap.size w1 w') [is (.int .i64 f),is (.int .i64 t),is (.pointer (some ⟨w.heap.size,0,none⟩)),is (.int .i64 x),is (.pointer (some ⟨w.heap.size+1,0,none⟩)),is (.int .i64 x'),is v,λv w'=>Bv w' w1.heap.size w'.heap.size 1 v (Cx x x' (Bq k)).length (Ib (Cx x x' (Bq k))),is (.pointer (some ⟨w.heap.size,1,none⟩)),is (.int .i64 y),is (.pointer (some ⟨w.heap.size+1,1,none⟩)),is (.int .i64 y'),is v,λv w'=>Bv w' w1.heap.size w'.heap.size 1 v (Cx y y' (Bq k)).length (Ib (Cx y y' (Bq k))),is (.pointer (some ⟨w.heap.size,2,none⟩)),is (.int .i64 z),is (.pointer (some ⟨w.heap.size+1,2,none⟩)),is (.int .i64 z'),is v,λv w'=>Bv w' w1.heap.size w'.heap.size 1 v (Cx z z' (Bq k)).length (Ib (Cx z z' (Bq k)))] κ κ rfl δ ?hst ?h0 ?hop ?htail
 case hop=>
  refine⟨?_,?_,?_,?_,?_,?_,?_,?_,?_,?_,?_,?_,?_,?_,?_,?_,?_,?_,?_,?_,trivial⟩
  · exact Fa (.tmp 2) (is (.int .i64 f)) rfl κ (λ_ _ _ h=>h)
  · exact Fa (.tmp 3) (is (.int .i64 t)) rfl κ (λ_ _ _ h=>h)
  · exact Lt 33 (.tmp 5) 0 (.pointer (some ⟨w.heap.size,0,none⟩)) (.pointer (some ⟨w.heap.size,0,none⟩)) rfl κ (λw=>by kernel_rfl) rfl
  · exact Ez 3 (.tmp 17) (.pointer (some ⟨w.heap.size,0,none⟩)) (.int .i64 x) rfl κ (λwa hC=>Cp wa (isAgg3 wa) (((Gl hC).1 _ _ ω).trans c1)) rfl
  · exact Lt 33 (.tmp 6) 0 (.pointer (some ⟨w.heap.size+1,0,none⟩)) (.pointer (some ⟨w.heap.size+1,0,none⟩)) rfl κ (λw=>by kernel_rfl) rfl
  · exact Ez 3 (.tmp 19) (.pointer (some ⟨w.heap.size+1,0,none⟩)) (.int .i64 x') rfl κ (λwa hC=>Cp wa (isAgg3 wa) (((Gl hC).1 _ _ ω).trans c4)) rfl
  · exact Fa (.tmp 11) (is v) rfl κ (λ_ _ _ h=>h)
  · exact Rg 230 [.tmp 18,.tmp 20,.tmp 21] _ [.int .i64 x,.int .i64 x',v] rfl (λ_ _=>by kernel_rfl) ⟨κ,κ,κ,trivial⟩ (λwa hC=>(bB _ _ (Bq k) v _ _ w1.heap.size hC.size hx hx' (Qe k) (Uc k) (hs.below hC)).mono λe w' ⟨v',he,h1,h2⟩=>⟨v',he,hC.trans (h2.mono hC.size),h2,h1.more hC.size ζ⟩)
  · exact Lt 33 (.tmp 5) 1 (.pointer (some ⟨w.heap.size,0,none⟩)) (.pointer (some ⟨w.heap.size,1,none⟩)) rfl κ (λw=>by kernel_rfl) rfl
  · exact Ez 3 (.tmp 23) (.pointer (some ⟨w.heap.size,1,none⟩)) (.int .i64 y) rfl κ (λwa hC=>Cp wa (isAgg3 wa) (((Gl hC).1 _ _ ω).trans c2)) rfl
  · exact Lt 33 (.tmp 6) 1 (.pointer (some ⟨w.heap.size+1,0,none⟩)) (.pointer (some ⟨w.heap.size+1,1,none⟩)) rfl κ (λw=>by kernel_rfl) rfl
  · exact Ez 3 (.tmp 25) (.pointer (some ⟨w.heap.size+1,1,none⟩)) (.int .i64 y') rfl κ (λwa hC=>Cp wa (isAgg3 wa) (((Gl hC).1 _ _ ω).trans c5)) rfl
  · exact Fa (.tmp 11) (is v) rfl κ (λ_ _ _ h=>h)
  · exact Rg 230 [.tmp 24,.tmp 26,.tmp 27] _ [.int .i64 y,.int .i64 y',v] rfl (λ_ _=>by kernel_rfl) ⟨κ,κ,κ,trivial⟩ (λwa hC=>(bB _ _ (Bq k) v _ _ w1.heap.size hC.size hy hy' (Qe k) (Uc k) (hs.below hC)).mono λe w' ⟨v',he,h1,h2⟩=>⟨v',he,hC.trans (h2.mono hC.size),h2,h1.more hC.size ζ⟩)
  · exact Lt 33 (.tmp 5) 2 (.pointer (some ⟨w.heap.size,0,none⟩)) (.pointer (some ⟨w.heap.size,2,none⟩)) rfl κ (λw=>by kernel_rfl) rfl
  · exact Ez 3 (.tmp 29) (.pointer (some ⟨w.heap.size,2,none⟩)) (.int .i64 z) rfl κ (λwa hC=>Cp wa (isAgg3 wa) (((Gl hC).1 _ _ ω).trans c3)) rfl
  · exact Lt 33 (.tmp 6) 2 (.pointer (some ⟨w.heap.size+1,0,none⟩)) (.pointer (some ⟨w.heap.size+1,2,none⟩)) rfl κ (λw=>by kernel_rfl) rfl
  · exact Ez 3 (.tmp 31) (.pointer (some ⟨w.heap.size+1,2,none⟩)) (.int .i64 z') rfl κ (λwa hC=>Cp wa (isAgg3 wa) (((Gl hC).1 _ _ ω).trans c6)) rfl
  · exact Fa (.tmp 11) (is v) rfl κ (λ_ _ _ h=>h)
  · exact Rg 230 [.tmp 30,.tmp 32,.tmp 33] _ [.int .i64 z,.int .i64 z',v] rfl (λ_ _=>by kernel_rfl) ⟨κ,κ,κ,trivial⟩ (λwa hC=>(bB _ _ (Bq k) v _ _ w1.heap.size hC.size hz hz' (Qe k) (Uc k) (hs.below hC)).mono λe w' ⟨v',he,h1,h2⟩=>⟨v',he,hC.trans (h2.mono hC.size),h2,h1.more hC.size ζ⟩)
 case hst=>
  simp only[List.mem_cons,List.mem_nil_iff,or_false,forall_eq_or_imp,forall_eq]
  refine⟨Ak _,Ak _,Ak _,Ak _,Ak _,Ak _,Ak _,Ur _ _ _ _,Ak _,Ak _,Ak _,Ak _,Ak _,Ur _ _ _ _,Ak _,Ak _,Ak _,Ak _,Ak _,Ur _ _ _ _⟩
 case h0=>exact Ψ.drew
 case htail=>
  intro σ w2 hC hR
  have r15:σ 0=_:=hR 0 δ
  have r16:σ 1=_:=hR 1 δ
  have r22:Bv w2 w1.heap.size w2.heap.size 1 (σ 7) _ _:=hR 7 δ
  have r28:Bv w2 w1.heap.size w2.heap.size 1 (σ 13) _ _:=hR 13 δ
  have r34:Bv w2 w1.heap.size w2.heap.size 1 (σ 19) _ _:=hR 19 δ
  obtain⟨A1,d1,e1⟩:=r22.slice
  obtain⟨A2,d2,e2⟩:=r28.slice
  obtain⟨A3,d3,e3⟩:=r34.slice
  simp only[Dk,e1,e2,e3,r15,r16]
  have hcs:=Gl hC
  have k0:w2.cell? ⟨w.heap.size+2,0,none⟩=some (.int .i64 0):=(hcs.1 _ _ ω).trans c7
  have k1:w2.cell? ⟨w.heap.size+2,1,none⟩=some (.int .i64 0):=(hcs.1 _ _ ω).trans c8
  have k2:w2.cell? ⟨w.heap.size+2,2,none⟩=some (.int .i64 0):=(hcs.1 _ _ ω).trans c9
  have k3:w2.cell? ⟨w.heap.size+2,3,none⟩=some (.slice none 0 0):=(hcs.1 _ _ ω).trans c10
  have k4:w2.cell? ⟨w.heap.size+2,4,none⟩=some (.slice none 0 0):=(hcs.1 _ _ ω).trans c11
  have k5:w2.cell? ⟨w.heap.size+2,5,none⟩=some (.slice none 0 0):=(hcs.1 _ _ ω).trans c12
  have m0:w2.frozen? ⟨w.heap.size+2,0,none⟩=false:=(hcs.2 _ _ ω).trans f0
  have m1:w2.frozen? ⟨w.heap.size+2,1,none⟩=false:=(hcs.2 _ _ ω).trans f1
  have m2:w2.frozen? ⟨w.heap.size+2,2,none⟩=false:=(hcs.2 _ _ ω).trans f2
  have m3:w2.frozen? ⟨w.heap.size+2,3,none⟩=false:=(hcs.2 _ _ ω).trans f3
  have m4:w2.frozen? ⟨w.heap.size+2,4,none⟩=false:=(hcs.2 _ _ ω).trans f4
  have m5:w2.frozen? ⟨w.heap.size+2,5,none⟩=false:=(hcs.2 _ _ ω).trans f5
  clear hcs hR c1 c2 c3 c4 c5 c6 c7 c8 c9 c10 c11 c12 f0 f1 f2 f3 f4 f5 r15 r16
  rw[e1] at r22
  rw[e2] at r28
  rw[e3] at r34
  clear e1 e2 e3
  go_wp2
  refine bodyPost_ret (v:= .agg #[.int .i64 f,.int .i64 t,.int .i64 1,.slice A1 (Cx x x' (Bq k)).length d1,.slice A2 (Cx y y' (Bq k)).length d2,.slice A3 (Cx z z' (Bq k)).length d3]) (by simp[results,results182,go_sem,k0,k1,k2,k3,k4,k5]) rfl ?_
  refine AkU (p:=w.heap.size+1+1) ?_ ω ω hbw hC r22 r28 r34
  exact Kt (Kt (Kt (Kt (Kt (Kt (World.grownBy.refl _ _) _ _) _ _) _ _) _ _) _ _) _ _
def Yw (a b:V3) (f t k:Int):Sg:=⟨f,t,1,Cx a.x b.x (Bq k),Cx a.y b.y (Bq k),Cx a.z b.z (Bq k)⟩
def V3.pt (a:V3):Bool:=Wk a.x a.y a.z
def Yq (a b:V3) (f t:Int):Bool:=Hh a.x a.y a.z b.x b.y b.z f t
def Hc (w:World) (a b:V3) (f t k:Int) (e:Ending) (w':World):Prop:=
 if Yq a b f t=true then ∃v,e= .returned (.tuple #[v,.int .i64 0])/\Cq w' w.heap.size w'.heap.size v [Yw a b f t k]/\Below w.heap.size w w'
 else e= .returned (.tuple #[.slice none 0 0,.int .i64 2])/\Below w.heap.size w w'
theorem qL {x y z:Int} (h:Wk x y z=true):(-2097152<=x/\x<=2097152)/\(-2097152<=y/\y<=2097152)/\(-2097152<=z/\z<=2097152):=by
 have:=(Mr x y z).1 h
 omega
theorem Abg (x y z x' y' z' f t k:Int) (w:World) (hk:AhA k):
  Calls Tryz.prog 142 #[.agg #[.int .i64 x,.int .i64 y,.int .i64 z],.agg #[.int .i64 x',.int .i64 y',.int .i64 z'],.int .i64 f,.int .i64 t,.int .i64 k] w (Hc w ⟨x,y,z⟩ ⟨x',y',z'⟩ f t k):=by
 have HK:=Δ hk
 clear hk
 cases hv:Hh x y z x' y' z' f t
 ·
  have HV:=Δ hv
  clear hv
  go_enter func142,ntmps142
  go_wp2_with fail
  refine(Ua _ _ _ _ _ _ _ _ _).mono ?_
  rintro e w1 ⟨rfl,hb⟩
  rw[HV.out]
  have hB:=((Ψ.alloc ζ _).alloc (by simp) _).trans (hb.mono (show w.heap.size<=_ by simp;omega))
  go_wp2
  go_ret2
  unfold Hc
  rw[if_neg (by show ¬Hh x y z x' y' z' f t=true;rw[HV.out];simp)]
  exact⟨rfl,hB⟩
 ·
  have HV:=Δ hv
  have hp:Wk x y z=true/\Wk x' y' z'=true:=by
   unfold Hh at hv;simp at hv;exact⟨hv.1.1.1.1,hv.1.1.1.2⟩
  have HP:=Δ hp
  clear hv hp
  go_enter func142,ntmps142
  go_wp2_with fail
  refine(Ua _ _ _ _ _ _ _ _ _).mono ?_
  rintro e w1 ⟨rfl,hb⟩
  rw[HV.out]
  have hz:=hb.size
  have hB:=((Ψ.alloc ζ _).alloc (by simp) _).trans (hb.mono (show w.heap.size<=_ by simp;omega))
  obtain⟨hc,hf⟩:=Gl hb
  simp at hz hc
  go_wp2_with fail
  have h1:=qL HP.out.1
  have h2:=qL HP.out.2
  refine(Abp _ _ _ _ _ _ _ _ _ _ HK.out h1.1 h1.2.1 h1.2.2 h2.1 h2.2.1 h2.2.2).mono ?_
  rintro e w2 ⟨vx,vy,vz,rfl,hx,hy,hz',hb2⟩
  clear hc hf h1 h2
  obtain⟨Ax,cx,rfl⟩:=hx.slice
  obtain⟨Ay,cy,rfl⟩:=hy.slice
  obtain⟨Az,cz,rfl⟩:=hz'.slice
  go_wp2
  go_ret2
  unfold Hc
  rw[if_pos (show Yq ⟨x,y,z⟩ ⟨x',y',z'⟩ f t=true from HV.out)]
  have hz2:=hb2.size
  have hal:Below w2.heap.size w2 (w2.alloc (.cells #[.int .i64 f,.int .i64 t,.int .i64 1,.slice Ax (Cx x x' (Bq k)).length cx,.slice Ay (Cx y y' (Bq k)).length cy,.slice Az (Cx z z' (Bq k)).length cz] 141)):=Ψ.alloc ζ _
  refine⟨_,rfl,⟨_,Bv.new1 w2 [.int .i64 f,.int .i64 t,.int .i64 1,.slice Ax (Cx x x' (Bq k)).length cx,.slice Ay (Cx y y' (Bq k)).length cy,.slice Az (Cx z z' (Bq k)).length cz] 1 _ _ _ 6 141 rfl rfl ω (by simp),?_⟩,hB.trans ((hb2.mono ω).trans (hal.mono ω))⟩
  exact Gp.one ⟨_,_,_,rfl,(hx.up hal).more ω ζ,(hy.up hal).more ω ζ,(hz'.up hal).more ω ζ⟩
theorem Hc.below {w w0:World} {a b:V3} {f t k:Int} {e:Ending} {w':World} (h:Hc w a b f t k e w') (hb:Below w0.heap.size w0 w):Hc w0 a b f t k e w':=by
 unfold Hc at*
 split at h
 rename_i hf
 obtain⟨v,he,hp,hbw⟩:=h
 rw[if_pos hf]
 exact⟨v,he,hp.more hb.size ζ,hb.trans (hbw.mono hb.size)⟩
 rename_i hf
 rw[if_neg hf]
 exact⟨h.1,hb.trans (h.2.mono hb.size)⟩
theorem Hc.out {w:World} {a b:V3} {f t k:Int} {e:Ending} {w':World} (h:Hc w a b f t k e w'):∃A n c q,e= .returned (.tuple #[.slice A n c,.int .i64 q]):=by
 unfold Hc at h
 split at h
 obtain⟨v,he,hp,_⟩:=h
 obtain⟨A,c,rfl⟩:=hp.slice
 exact⟨A,_,c,0,he⟩
 exact⟨none,0,0,2,h.1⟩
theorem mI (x y z x' y' z' f t:Int) (w:World):
  Calls Tryz.prog 121 #[.agg #[.int .i64 x,.int .i64 y,.int .i64 z],.agg #[.int .i64 x',.int .i64 y',.int .i64 z'],.int .i64 f,.int .i64 t] w (Hc w ⟨x,y,z⟩ ⟨x',y',z'⟩ f t 2):=by
 go_enter func121,ntmps121
 go_wp2_with fail
 refine(Abg _ _ _ _ _ _ _ _ _ _ (.inr (.inr rfl))).mono ?_
 intro e w1 h
 have h2:=h.below ((Ψ.alloc ζ _).alloc (by simp) _)
 obtain⟨A,n,c,q,rfl⟩:=h.out
 have H2:=Δ h2
 clear h h2
 go_wp2
 go_ret2
 exact H2.out
theorem Adx (x y z f t:Int) (w:World):
  Calls Tryz.prog 120 #[.agg #[.int .i64 x,.int .i64 y,.int .i64 z],.int .i64 f,.int .i64 t] w (Hc w ⟨x,y,z⟩ ⟨x,y,z⟩ f t 0):=by
 go_enter func120,ntmps120
 go_wp2_with fail
 refine(Abg _ _ _ _ _ _ _ _ _ _ (.inl rfl)).mono ?_
 intro e w1 h
 have h2:=h.below (Ψ.alloc ζ _)
 obtain⟨A,n,c,q,rfl⟩:=h.out
 have H2:=Δ h2
 clear h h2
 go_wp2
 go_ret2
 exact H2.out
end Go.Proofs.YtkpjchfniejdoaaGreatDoor