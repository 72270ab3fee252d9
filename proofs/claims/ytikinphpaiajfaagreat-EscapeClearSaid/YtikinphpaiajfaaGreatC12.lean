/- Part 12 of the proof of EC.row_holds, joined by program: no condition beyond the row's own. -/
import Derived.Test.YtikinphpaiajfaaGreatC11
import Derived.MapKept
import Derived.WideKeyRuns
import Derived.Laws.StructEq
set_option maxRecDepth 100000
set_option maxHeartbeats 40000000
namespace Go.Proofs.YtikinphpaiajfaaGreat
open Go.RowKit Go.MapKept
def vec (x y z:Int):Value:= .agg #[.int .i64 x,.int .i64 y,.int .i64 z]
theorem AbG (x y z x' y' z':Int) (w:World):(Op.equal 62 (.agg #[.int .i64 x,.int .i64 y,.int .i64 z]) (.agg #[.int .i64 x',.int .i64 y',.int .i64 z'])).run Tryz.prog w= .ok (x==x'&&(y==y'&&z==z')) w:=by
 unfold Op.equal Op.maxDepth
 rw[run_equalIn_struct w 9999 62 _ _ κ κ]
 have hf:(Tryz.prog.fieldsOf 62).toList.map (λf=>(f.name,f.type,f.offset))=[("X",3,0),("Y",3,1),("Z",3,2)]:=by kernel_rfl
 generalize (Tryz.prog.fieldsOf 62).toList=l at hf
 have hl:l.length=3:=by have:=congrArg List.length hf;simpa using this
 obtain⟨f1,f2,f3,rfl⟩:∃f1 f2 f3,l=[f1,f2,f3]:=by
  match l,hl with
  |[f1,f2,f3],_=>exact⟨f1,f2,f3,rfl⟩
 simp only[List.map_cons,List.map_nil,List.cons.injEq,Prod.mk.injEq,and_true] at hf
 obtain⟨⟨a1,a2,a3⟩,⟨b1,b2,b3⟩,c1,c2,c3⟩:=hf
 have hp:∀(xs:Array Value) (o:Nat) (v:Value),xs[o]?=some v->(part 3 xs o).run Tryz.prog w= .ok v w:=λxs o v h=>run_part_plain w κ h
 have p1:=hp #[.int .i64 x,.int .i64 y,.int .i64 z] 0 (.int .i64 x) rfl
 have p2:=hp #[.int .i64 x,.int .i64 y,.int .i64 z] 1 (.int .i64 y) rfl
 have p3:=hp #[.int .i64 x,.int .i64 y,.int .i64 z] 2 (.int .i64 z) rfl
 have q1:=hp #[.int .i64 x',.int .i64 y',.int .i64 z'] 0 (.int .i64 x') rfl
 have q2:=hp #[.int .i64 x',.int .i64 y',.int .i64 z'] 1 (.int .i64 y') rfl
 have q3:=hp #[.int .i64 x',.int .i64 y',.int .i64 z'] 2 (.int .i64 z') rfl
 have he:∀a b:Int,(Op.equalIn 9999 3 (.int .i64 a) (.int .i64 b)).run Tryz.prog w= .ok (a==b) w:=λa b=>run_equalIn_int w 9998 3 .i64 .i64 a b Tryz.underlying3
 simp only[Op.eqFields,a1,a2,a3,b1,b2,b3,c1,c2,c3,Sem.run_bind,Sem.run_ite,p1,p2,p3,q1,q2,q3,he,Result.andThen_ok]
 cases h1:(x==x')<;>cases h2:(y==y')<;>cases h3:(z==z')<;>simp
def Su (eqv:Value->Value->Bool) (k:Value):List MapEntry->Nat->Option (Nat×Value)
 |[],_=>none
 |e::es,i=>if eqv k e.key then some (i,e.val) else Su eqv k es (i+1)
structure Si (kt:TypeId) (IsK:Value->Prop) (eqv:Value->Value->Bool):Prop where
 chk:∀em k w,IsK k->(Instr.checkKey em 10000 kt k).run Tryz.prog w= .ok () w
 find:∀k (es:List MapEntry) w,IsK k->(∀e∈es,IsK e.key)->(Instr.findKey kt k es).run Tryz.prog w= .ok (Su eqv k es 0) w
 same:∀a b,IsK a->IsK b->eqv a b=true->a=b
 refl:∀a,IsK a->eqv a a=true
def Sr:Value->Value->Bool| .int _ a,.int _ b=>a==b|_,_=>false
def gU:Value->Value->Bool| .string a,.string b=>a==b|_,_=>false
def gV:Value->Value->Bool
 | .agg xs,.agg ys=>match xs.toList,ys.toList with
  |[.int _ x,.int _ y,.int _ z],[.int _ x',.int _ y',.int _ z']=>x==x'&&(y==y'&&z==z')
  |_,_=>false
 |_,_=>false
theorem Ajw (kt:TypeId) (h:Tryz.prog.underlying kt=some (.int .i64)):Si kt (λv=>∃n,v= .int .i64 n) Sr where
 chk:=by
  rintro em k w ⟨n,rfl⟩
  exact run_checkKey h (by simp[IsKey]) em 9999
 find:=by
  rintro k es w ⟨n,rfl⟩ hes
  refine run_findKey h ?_
  generalize 0=i
  induction es generalizing i with
  |nil=>rfl
  |cons e es ih=>
   obtain⟨m,hm⟩:=hes e (by simp)
   simp only[Instr.findNow,hm,Instr.sameNow,if_true,Su,Sr]
   cases n==m
   simpa using ih (λe he=>hes e (by simp[he])) (i+1)
   simp
 same:=by rintro _ _ ⟨n,rfl⟩ ⟨m,rfl⟩ h;simp[Sr] at h;rw[h]
 refl:=by rintro _ ⟨n,rfl⟩;simp[Sr]
theorem sK (a:ByteArray):(a==a)=true:=by rw[beq_toListBytes];simp
theorem Adj {a b:ByteArray} (h:(a==b)=true):a=b:=by
 rw[beq_toListBytes,ByteArray.toList_eq,ByteArray.toList_eq] at h
 obtain⟨⟨x⟩⟩:=a
 obtain⟨⟨y⟩⟩:=b
 have e:x=y:=by simpa using h
 rw[e]
theorem Aee (kt:TypeId) (h:Tryz.prog.underlying kt=some .string):Si kt (λv=>∃s,v= .string s) gU where
 chk:=by
  rintro em k w ⟨n,rfl⟩
  exact run_checkKey h (by simp[IsKey]) em 9999
 find:=by
  rintro k es w ⟨n,rfl⟩ hes
  refine run_findKey h ?_
  generalize 0=i
  induction es generalizing i with
  |nil=>rfl
  |cons e es ih=>
   obtain⟨m,hm⟩:=hes e (by simp)
   simp only[Instr.findNow,hm,Instr.sameNow,Su,gU]
   cases n==m
   simpa using ih (λe he=>hes e (by simp[he])) (i+1)
   simp
 same:=by rintro _ _ ⟨n,rfl⟩ ⟨m,rfl⟩ h;rw[Adj h]
 refl:=by rintro _ ⟨n,rfl⟩;exact sK n
theorem Aef:Si 62 (λv=>∃x y z,v=vec x y z) gV where
 chk:=by
  rintro em k w ⟨x,y,z,rfl⟩
  unfold vec
  kernel_rfl
 find:=by
  rintro k es w ⟨x,y,z,rfl⟩ hes
  rw[run_findKey_eq w κ]
  generalize 0=i
  induction es generalizing i with
  |nil=>simp[Instr.findAsking,Su]
  |cons e es ih=>
   obtain⟨x',y',z',hm⟩:=hes e (by simp)
   unfold vec at hm
   have hq:gV (vec x y z) (.agg #[.int .i64 x',.int .i64 y',.int .i64 z'])=(x==x'&&(y==y'&&z==z')):=rfl
   simp only[Instr.findAsking,Sem.run_bind,hm,Su,hq]
   have hv:(Op.equal 62 (vec x y z) (.agg #[.int .i64 x',.int .i64 y',.int .i64 z'])).run Tryz.prog w=_:=AbG x y z x' y' z' w
   simp only[hv,Result.andThen_ok]
   cases (x==x'&&(y==y'&&z==z'))
   simpa using ih (λe he=>hes e (by simp[he])) (i+1)
   simp
 same:=by
  rintro _ _ ⟨x,y,z,rfl⟩ ⟨x',y',z',rfl⟩ h
  have:(x==x'&&(y==y'&&z==z'))=true:=h
  simp at this
  rw[this.1,this.2.1,this.2.2]
 refl:=by rintro _ ⟨x,y,z,rfl⟩;show (x==x&&(y==y&&z==z))=true;simp
def Fc (w:World) (b:Nat) (L:List (Value×Value)):Prop:=
 ∃es clock,w.heap[b]?=some (.map es clock)/\es.toList.map (λe=>(e.key,e.val))=L/\∀e∈es.toList,e.born<clock
theorem Vh {eqv:Value->Value->Bool} {k:Value}:∀{es:List MapEntry} {i:Nat},(∀p∈es.map (λe=>(e.key,e.val)),eqv k p.1=false)->Su eqv k es i=none
 |[],_,_=>rfl
 |e::es,i,h=>by
  have h1:=h (e.key,e.val) (by simp)
  unfold Su
  rw[if_neg (by rw[h1];exact Bool.false_ne_true)]
  exact Vh λp hp=>h p (by simp at hp ⊢;exact .inr hp)
theorem gZ {eqv:Value->Value->Bool} {k:Value}:∀{es:List MapEntry} {i:Nat},(Su eqv k es i).map (·.2)=((es.map (λe=>(e.key,e.val))).find? (λp=>eqv k p.1)).map (·.2)
 |[],_=>rfl
 |e::es,i=>by
  unfold Su
  simp only[List.map_cons,List.find?_cons]
  cases h:eqv k e.key
  simpa using gZ
  simp
theorem Fc.new (w:World) (b:Nat) (hb:w.heap.size=b):Fc (w.alloc (.map #[] 0)) b []:=by
 subst hb
 exact⟨#[],0,heap_alloc_new w _,rfl,by simp⟩
theorem Fc.lt {w:World} {b:Nat} {L:List (Value×Value)} (h:Fc w b L):b<w.heap.size:=by
 obtain⟨es,c,h,_⟩:=h
 exact(Array.getElem?_eq_some_iff.1 h).1
theorem Fc.keep {w w':World} {b:Nat} {L:List (Value×Value)} (h:Fc w b L) (hk:w'.heap[b]?=w.heap[b]?):Fc w' b L:=by
 obtain⟨es,c,h,e,hs⟩:=h
 exact⟨es,c,hk.trans h,e,hs⟩
theorem Fc.below {w w':World} {b B:Nat} {L:List (Value×Value)} (h:Fc w b L) (hb:Below B w w') (hB:b<B):Fc w' b L:=h.keep (hb.block b hB)
theorem Fc.alloc {w:World} {b:Nat} {L:List (Value×Value)} (h:Fc w b L) (o:Obj):Fc (w.alloc o) b L:=h.keep (Below.heap_alloc w o b h.lt)
theorem Fc.look {w:World} {b:Nat} {L:List (Value×Value)} {t kt et:TypeId} {IsK:Value->Prop} {eqv:Value->Value->Bool} (h:Fc w b L) (ht:Tryz.prog.underlying t=some (.map kt et)) (K:Si kt IsK eqv)
  (hL:∀p∈L,IsK p.1) (k:Value) (hk:IsK k) (z:Value) (hz:(zeroValue et).run Tryz.prog w= .ok z w):
  (Instr.lookup t (.map (some b)) k false).run Tryz.prog w= .ok (((L.find? (λp=>eqv k p.1)).map (·.2)).getD z) w:=by
 obtain⟨es,c,hb,rfl,hst⟩:=h
 have hes:∀e∈es.toList,IsK e.key:=λe he=>hL (e.key,e.val) (List.mem_map.2 ⟨e,he,rfl⟩)
 rw[<-gZ (i:=0)]
 unfold Instr.lookup
 simp only[Sem.run_bind,run_underlying ht,Result.andThen_ok,Go.MapKept.run_getObj_map hb,Sem.run_pure,K.chk _ k _ hk,K.find k es.toList w hk hes]
 cases Su eqv k es.toList 0 with
 |none=>simp[hz]
 |some p=>simp
theorem Fc.put {w:World} {b:Nat} {L:List (Value×Value)} {t kt et:TypeId} {IsK:Value->Prop} {eqv:Value->Value->Bool} (h:Fc w b L) (ht:Tryz.prog.underlying t=some (.map kt et)) (K:Si kt IsK eqv)
  (hL:∀p∈L,IsK p.1) (k v:Value) (hk:IsK k) (hn:∀p∈L,eqv k p.1=false):
  ∃w',(Instr.mapUpdate t (.map (some b)) k v).run Tryz.prog w= .ok () w'/\Fc w' b (L++[(k,v)])/\w.grownBy w' (some b):=by
 obtain⟨es,c,hb,rfl,hst⟩:=h
 have hes:∀e∈es.toList,IsK e.key:=λe he=>hL (e.key,e.val) (List.mem_map.2 ⟨e,he,rfl⟩)
 refine⟨{ w with heap:=w.heap.setIfInBounds b (.map (es.push { key:=k,val:=v,born:=c }) (c+1)) },?_,⟨_,_,(heap_set hb).1,by simp,by
  intro e he
  simp at he
  rcases he with he|rfl
  have:=hst e (by simpa using he);omega
  simp⟩,⟨rfl,rfl,rfl,by simp,λi _ hne=>(heap_set hb).2 i (λe=>hne (by rw[e]))⟩⟩
 unfold Instr.mapUpdate
 simp only[Sem.run_bind,run_underlying ht,Result.andThen_ok,Go.MapKept.run_getObj_map hb,K.chk _ k _ hk,K.find k es.toList w hk hes,Vh hn]
 exact Go.MapKept.run_setObj_map _ hb
theorem Pb {w:World} {ops:Array Oper} {rest:List Oper} {o:Oper} {a:Act} {Q:Exit->Act->World->Prop} (hg:o.guard=none) (m x v:Operand) (t:TypeId) (hop:o.op=Op.insert t m x v)
  {b:Nat} {L:List (Value×Value)} {kt et:TypeId} {IsK:Value->Prop} {eqv:Value->Value->Bool} (ht:Tryz.prog.underlying t=some (.map kt et)) (K:Si kt IsK eqv) (hm:a.eval m= .map (some b)) (h:Fc w b L)
  (hL:∀p∈L,IsK p.1) (k u:Value) (hx:a.eval x=k) (hv:a.eval v=u) (hk:IsK k) (hn:∀p∈L,eqv k p.1=false)
  (hK:∀w',Fc w' b (L++[(k,u)])->w.grownBy w' (some b)->wpList Tryz.prog ops Q rest (a.put o.dst undef) w'):wpList Tryz.prog ops Q (o::rest) a w:=by
 refine wpList_plain hg λK' hK'=>?_
 obtain⟨w',hrun,r1,r2⟩:=h.put ht K hL k u hk hn
 unfold Oper.wp
 simp[execOp,hop,hm,hx,hv,hrun,Result.andThen]
 exact hK' _ _ (hK w' r1 r2)
theorem fN {w:World} {ops:Array Oper} {rest:List Oper} {o:Oper} {a:Act} {Q:Exit->Act->World->Prop} (hg:o.guard=none) (m x v:Operand) (t:TypeId) (hop:o.op=Op.mapUpdate t m x v)
  {b:Nat} {L:List (Value×Value)} {kt et:TypeId} {IsK:Value->Prop} {eqv:Value->Value->Bool} (ht:Tryz.prog.underlying t=some (.map kt et)) (K:Si kt IsK eqv) (hm:a.eval m= .map (some b)) (h:Fc w b L)
  (hL:∀p∈L,IsK p.1) (k u:Value) (hx:a.eval x=k) (hv:a.eval v=u) (hk:IsK k) (hn:∀p∈L,eqv k p.1=false)
  (hK:∀w',Fc w' b (L++[(k,u)])->w.grownBy w' (some b)->wpList Tryz.prog ops Q rest (a.put o.dst undef) w'):wpList Tryz.prog ops Q (o::rest) a w:=by
 refine wpList_plain hg λK' hK'=>?_
 obtain⟨w',hrun,r1,r2⟩:=h.put ht K hL k u hk hn
 unfold Oper.wp
 simp[execOp,hop,hm,hx,hv,hrun,Result.andThen]
 exact hK' _ _ (hK w' r1 r2)
theorem rB {w:World} {ops:Array Oper} {rest:List Oper} {o:Oper} {a:Act} {Q:Exit->Act->World->Prop} (hg:o.guard=none) (m x:Operand) (t:TypeId) (hop:o.op=Op.lookup t m x false)
  {b:Nat} {L:List (Value×Value)} {kt et:TypeId} {IsK:Value->Prop} {eqv:Value->Value->Bool} (ht:Tryz.prog.underlying t=some (.map kt et)) (K:Si kt IsK eqv) (hm:a.eval m= .map (some b)) (h:Fc w b L)
  (hL:∀p∈L,IsK p.1) (k:Value) (hx:a.eval x=k) (hk:IsK k) (z:Value) (hz:(zeroValue et).run Tryz.prog w= .ok z w) (r:Value) (hr:((L.find? (λp=>eqv k p.1)).map (·.2)).getD z=r)
  (hK:wpList Tryz.prog ops Q rest (a.put o.dst r) w):wpList Tryz.prog ops Q (o::rest) a w:=by
 refine wpList_plain hg λK' hK'=>?_
 have hrun:=h.look ht K hL k hk z hz
 rw[hr] at hrun
 unfold Oper.wp
 simp[execOp,hop,hm,hx,hrun,Result.andThen]
 exact hK' _ _ hK
def AcK (w:World) (b:Nat) (L:List (Value×Value)) (k:Value) (c:Nat):Prop:=
 ∃(es:Array MapEntry) (z:Value),w.heap[b]?=some (.map (es.push { key:=k,val:=z,born:=c }) (c+1))/\es.toList.map (λe=>(e.key,e.val))=L/\∀e∈es.toList,e.born<c
theorem Fc.entry {w:World} {b:Nat} {L:List (Value×Value)} {t kt et:TypeId} {IsK:Value->Prop} {eqv:Value->Value->Bool} (h:Fc w b L) (ht:Tryz.prog.underlying t=some (.map kt et)) (K:Si kt IsK eqv)
  (hL:∀p∈L,IsK p.1) (k:Value) (hk:IsK k) (hn:∀p∈L,eqv k p.1=false) (z:Value) (hz:(zeroValue et).run Tryz.prog w= .ok z w):
  ∃w' c,(Instr.mapEntry t (.map (some b)) k).run Tryz.prog w= .ok (.tuple #[z,.int .i64 (c:Nat)]) w'/\AcK w' b L k c/\w.grownBy w' (some b):=by
 obtain⟨es,c,hb,rfl,hst⟩:=h
 have hes:∀e∈es.toList,IsK e.key:=λe he=>hL (e.key,e.val) (List.mem_map.2 ⟨e,he,rfl⟩)
 refine⟨{ w with heap:=w.heap.setIfInBounds b (.map (es.push { key:=k,val:=z,born:=c }) (c+1)) },c,?_,⟨es,z,(heap_set hb).1,rfl,hst⟩,⟨rfl,rfl,rfl,by simp,λi _ hne=>(heap_set hb).2 i (λe=>hne (by rw[e]))⟩⟩
 unfold Instr.mapEntry
 simp only[Sem.run_bind,run_underlying ht,Result.andThen_ok,Go.MapKept.run_getObj_map hb,K.chk _ k _ hk,K.find k es.toList w hk hes,Vh hn,hz]
 rw[Go.MapKept.run_setObj_map _ hb]
 rfl
theorem AcK.store {w:World} {b c:Nat} {L:List (Value×Value)} {k:Value} (h:AcK w b L k c) (t:TypeId) (v:Value):
  ∃w',(Instr.entryStore t (.map (some b)) (.int .i64 (c:Nat)) v).run Tryz.prog w= .ok () w'/\Fc w' b (L++[(k,v)])/\w.grownBy w' (some b):=by
 obtain⟨es,z,hb,rfl,hst⟩:=h
 have hidx:(es.push { key:=k,val:=z,born:=c }).findIdx? (λe=>(e.born:Int)==(c:Int))=some es.size:=by
  rw[Array.findIdx?_eq_some_iff_getElem]
  refine⟨by simp,by simp,λj hj=>?_⟩
  have hj':j<es.size:=by simpa using hj
  rw[Array.getElem_push_lt hj']
  have:=hst es[j] (by simp)
  simp
  omega
 refine⟨{ w with heap:=w.heap.setIfInBounds b (.map ((es.push { key:=k,val:=z,born:=c }).modify es.size λe=>{ e with val:=v }) (c+1)) },?_,⟨_,_,(heap_set hb).1,?_,?_⟩,⟨rfl,rfl,rfl,by simp,λi _ hne=>(heap_set hb).2 i (λe=>hne (by rw[e]))⟩⟩
 unfold Instr.entryStore
 simp only[Sem.run_bind,Result.andThen_ok,Go.MapKept.run_getObj_map hb,asInt,asIntOf,Sem.run_pure,hidx]
 exact Go.MapKept.run_setObj_map _ hb
 have e:(es.push { key:=k,val:=z,born:=c }).modify es.size (λe=>{ e with val:=v })=es.push { key:=k,val:=v,born:=c }:=by
  apply Array.ext
  simp
  intro i h1 h2
  rw[Array.getElem_modify]
  by_cases hi:es.size=i
  subst hi;simp
  have:i<es.size:=by simp at h2;omega
  rw[if_neg hi,Array.getElem_push_lt this,Array.getElem_push_lt this]
 rw[e]
 simp
 have e:(es.push { key:=k,val:=z,born:=c }).modify es.size (λe=>{ e with val:=v })=es.push { key:=k,val:=v,born:=c }:=by
  apply Array.ext
  simp
  intro i h1 h2
  rw[Array.getElem_modify]
  by_cases hi:es.size=i
  subst hi;simp
  have:i<es.size:=by simp at h2;omega
  rw[if_neg hi,Array.getElem_push_lt this,Array.getElem_push_lt this]
 rw[e]
 intro e he
 simp at he
 rcases he with he|rfl
 have:=hst e (by simpa using he);omega
 simp
theorem mD {w:World} {ops:Array Oper} {rest:List Oper} {o:Oper} {a:Act} {Q:Exit->Act->World->Prop} (hg:o.guard=none) (m x:Operand) (t:TypeId) (hop:o.op=Op.mapEntry t m x)
  {b:Nat} {L:List (Value×Value)} {kt et:TypeId} {IsK:Value->Prop} {eqv:Value->Value->Bool} (ht:Tryz.prog.underlying t=some (.map kt et)) (K:Si kt IsK eqv) (hm:a.eval m= .map (some b)) (h:Fc w b L)
  (hL:∀p∈L,IsK p.1) (k:Value) (hx:a.eval x=k) (hk:IsK k) (hn:∀p∈L,eqv k p.1=false) (z:Value) (hz:(zeroValue et).run Tryz.prog w= .ok z w)
  (hK:∀w' c,AcK w' b L k c->w.grownBy w' (some b)->wpList Tryz.prog ops Q rest (a.put o.dst (.tuple #[z,.int .i64 (c:Nat)])) w'):wpList Tryz.prog ops Q (o::rest) a w:=by
 refine wpList_plain hg λK' hK'=>?_
 obtain⟨w',c,hrun,r1,r2⟩:=h.entry ht K hL k hk hn z hz
 unfold Oper.wp
 simp[execOp,hop,hm,hx,hrun,Result.andThen]
 exact hK' _ _ (hK w' c r1 r2)
theorem Ya {w:World} {ops:Array Oper} {rest:List Oper} {o:Oper} {a:Act} {Q:Exit->Act->World->Prop} (hg:o.guard=none) (m x v:Operand) (t:TypeId) (hop:o.op=Op.entryStore t m x v)
  {b c:Nat} {L:List (Value×Value)} {k:Value} (hm:a.eval m= .map (some b)) (h:AcK w b L k c) (hx:a.eval x= .int .i64 (c:Nat)) (u:Value) (hv:a.eval v=u)
  (hK:∀w',Fc w' b (L++[(k,u)])->w.grownBy w' (some b)->wpList Tryz.prog ops Q rest (a.put o.dst undef) w'):wpList Tryz.prog ops Q (o::rest) a w:=by
 refine wpList_plain hg λK' hK'=>?_
 obtain⟨w',hrun,r1,r2⟩:=h.store t u
 unfold Oper.wp
 simp[execOp,hop,hm,hx,hv,hrun,Result.andThen]
 exact hK' _ _ (hK w' r1 r2)
end Go.Proofs.YtikinphpaiajfaaGreat
namespace Go.Proofs.YtikinphpaiajfaaGreat
open Go.Proofs.Tryz
open Go.RowKit
def strs (l:List ByteArray):List Value:=l.map .string
theorem AhL (l:List ByteArray) (k:Nat) (h:k<l.length):(strs l)[k]?=some (.string l[k]):=by simp[strs,h]
def V3.val (v:V3):Value:= .agg #[.int .i64 v.x,.int .i64 v.y,.int .i64 v.z]
def eqV (a b:V3):Bool:=a.x==b.x&&(a.y==b.y&&a.z==b.z)
def Qr (names:List ByteArray) (homes:List V3) (k:Nat):Bool:=
 Px (names.getD k ByteArray.empty)&& !((names.take k).any λt=>names.getD k ByteArray.empty==t)&&V3.pt' (homes.getD k V3.zero)&& !((homes.take k).any λt=>eqV (homes.getD k V3.zero) t)
where V3.pt' (v:V3):Bool:=Um v.x v.y v.z
def Sn (names:List ByteArray) (homes:List V3):Bool:=
 decide (1<=names.length)&&decide (names.length<=64)&&decide (homes.length=names.length)&&(List.range names.length).all (Qr names homes)
def Ng (l:List ByteArray):List (Value×Value):=l.map λs=>(.string s,.bool true)
def Lr (l:List V3):List (Value×Value):=l.map λv=>(v.val,.bool true)
theorem tS (l:List ByteArray) (s:ByteArray):(((Ng l).find? (λp=>gU (.string s) p.1)).map (·.2)).getD (.bool false)= .bool (l.any λt=>s==t):=by
 induction l with
 |nil=>rfl
 |cons t l ih=>
  unfold Ng at*
  simp only[List.map_cons,List.find?_cons,List.any_cons]
  have e:gU (.string s) (.string t)=(s==t):=rfl
  rw[e]
  cases s==t
  simpa using ih
  rfl
theorem tR (l:List V3) (v:V3):(((Lr l).find? (λp=>gV v.val p.1)).map (·.2)).getD (.bool false)= .bool (l.any λt=>eqV v t):=by
 induction l with
 |nil=>rfl
 |cons t l ih=>
  unfold Lr at*
  simp only[List.map_cons,List.find?_cons,List.any_cons]
  have e:gV v.val t.val=eqV v t:=rfl
  rw[e]
  cases eqV v t
  simpa using ih
  rfl
theorem Zr (l:List ByteArray):∀p∈Ng l,∃s,p.1= .string s:=by
 intro p hp;unfold Ng at hp;obtain⟨s,_,rfl⟩:=List.mem_map.1 hp;exact⟨s,rfl⟩
theorem Zn (l:List V3):∀p∈Lr l,∃x y z,p.1=vec x y z:=by
 intro p hp;unfold Lr at hp;obtain⟨v,_,rfl⟩:=List.mem_map.1 hp;exact⟨v.x,v.y,v.z,rfl⟩
theorem pS (l:List ByteArray) (s:ByteArray) (h:(l.any λt=>s==t)=false):∀p∈Ng l,gU (.string s) p.1=false:=by
 intro p hp;unfold Ng at hp;obtain⟨t,ht,rfl⟩:=List.mem_map.1 hp
 rw[List.any_eq_false] at h
 have:=h t ht
 show (s==t)=false
 simpa using this
theorem pB (l:List V3) (v:V3) (h:(l.any λt=>eqV v t)=false):∀p∈Lr l,gV v.val p.1=false:=by
 intro p hp;unfold Lr at hp;obtain⟨t,ht,rfl⟩:=List.mem_map.1 hp
 rw[List.any_eq_false] at h
 have:=h t ht
 show eqV v t=false
 simpa using this
theorem Ag6 {names:List ByteArray} {homes:List V3} {k:Nat} (hk:k<names.length) (h:Qr names homes k=false):Sn names homes=false:=by
 have:(List.range names.length).all (Qr names homes)=false:=by
  rw[List.all_eq_false];exact⟨k,List.mem_range.2 hk,by rw[h];simp⟩
 unfold Sn;rw[this];simp
theorem Aaf {names:List ByteArray} {homes:List V3} {k:Nat} (h:(List.range k).all (Qr names homes)=true) (hs:Qr names homes k=true):(List.range (k+1)).all (Qr names homes)=true:=by
 rw[List.range_succ,List.all_append,h];simp[hs]
theorem Adp (names:List ByteArray) (homes:List V3) (vn vh va:Value) (w:World) (hn:Ce w 0 w.heap.size 1 vn names.length (strs names)) (hh:Ce w 0 w.heap.size 3 vh homes.length (Ic homes)) (hva:∃A n c,va= .slice A n c)
  (hsz:∀s∈names,s.size<=maxLen):
  Calls Tryz.prog 45 #[.agg #[vn,vh,va]] w λe w'=>e= .returned (.bool (Sn names homes))/\Below w.heap.size w w':=by
 obtain⟨An,cn,rfl⟩:=hn.slice
 obtain⟨Ah,ch,rfl⟩:=hh.slice
 obtain⟨Aa,na,ca,rfl⟩:=hva
 have hmm:=@run_makeMap Tryz.prog
 by_cases hpre:1<=names.length/\names.length<=64/\homes.length=names.length
 ·
  obtain⟨p1,p2,p3⟩:=hpre
  have HP3:=Lib.hid p3
  have hne:((homes.length:Int) != (names.length:Int))=false:=by simp[p3]
  clear p3
  go_enter func45,ntmps45
  go_wp2_with fail
  go_loopw [2,6,7,29] (λ_ _ _ i wr=>∃k:Nat,k<=names.length/\i= .int .i64 k/\Fc wr (w.heap.size+1) (Ng (names.take k))/\Fc wr (w.heap.size+1+1) (Lr (homes.take k))/\
   wr.heap[w.heap.size]?=some (.cells #[.slice An names.length cn,.slice Ah homes.length ch,.slice Aa na ca] 26 (0,0))/\Below w.heap.size w wr/\Hid ((List.range k).all (Qr names homes)=true)) (λ_ _ _ i _=>names.length-(intOf i).toNat)
  case atStart=>
   refine⟨0,Nat.zero_le _,rfl,?_,?_,?_,?_,rfl⟩
   · exact(Fc.new _ _ (by simp)).alloc _
   · exact Fc.new _ _ (by simp)
   · rw[Below.heap_alloc _ _ _ (by simp;omega),Below.heap_alloc _ _ _ (by simp)];exact Ll _ _ _ rfl
   · exact(((Below.refl _ _).alloc (Nat.le_refl _) _).alloc (by simp) _).alloc (by simp;omega) _
  case round=>
   obtain⟨k,hk,rfl,hmn,hmh,hbox,hbel,HA⟩:=hrel
   have c0:wr.cell? ⟨w.heap.size,0,none⟩=some (.slice An names.length cn):=by simp[World.cell?,hbox]
   have c1:wr.cell? ⟨w.heap.size,1,none⟩=some (.slice Ah homes.length ch):=by simp[World.cell?,hbox]
   have HBX:=Lib.hid hbox
   clear hbox
   by_cases hlt:k<names.length
   ·
    obtain⟨bn,on,cn',en,_,hbn,hcn⟩:=(hn.below hbel).pos ω
    obtain⟨bh,oh,ch',eh,_,hbh,hch⟩:=(hh.below hbel).pos (by have:=HP3.out;omega)
    have hlh:k<homes.length:=by have:=HP3.out;omega
    have hcell:=hcn k _ (AhL names k hlt)
    have hv0:=hch _ _ (Ml homes k hlh 0 _ rfl)
    have hv1:=hch _ _ (Ml homes k hlh 1 _ rfl)
    have hv2:=hch _ _ (Ml homes k hlh 2 _ rfl)
    have gN:names.getD k ByteArray.empty=names[k]:=by simp[hlt]
    have gH:homes.getD k V3.zero=homes[k]:=by simp[hlh]
    have hsk:=hsz _ (List.getElem_mem hlt)
    have hl1:=hmn.look underlying140 (Aee 9 underlying9) (Zr _) (.string names[k]) ⟨_,rfl⟩ (.bool false) κ
    rw[tS] at hl1
    cases en
    cases eh
    have HC:Hid (Qr names homes k=(Px names[k]&& !((names.take k).any λt=>names[k]==t)&&Um homes[k].x homes[k].y homes[k].z&& !((homes.take k).any λt=>eqV homes[k] t))):=by
     unfold Hid Qr;rw[gN,gH];rfl
    have hl2:Hid (∀W,Fc W (w.heap.size+1+1) (Lr (homes.take k))->(Instr.lookup 141 (.map (some (w.heap.size+1+1))) (.agg #[.int .i64 homes[k].x,.int .i64 homes[k].y,.int .i64 homes[k].z]) false).run Tryz.prog W= .ok (.bool ((homes.take k).any λt=>eqV homes[k] t)) W):=λW hW=>by
     have:=hW.look underlying141 Aef (Zn _) homes[k].val ⟨_,_,_,rfl⟩ (.bool false) κ
     rw[tR] at this
     exact this
    have HFN:Hid (((names.take k).any λt=>names[k]==t)=false->∀p∈Ng (names.take k),gU (.string names[k]) p.1=false):=pS _ _
    have HFH:Hid (((homes.take k).any λt=>eqV homes[k] t)=false->∀p∈Lr (homes.take k),gV homes[k].val p.1=false):=pB _ _
    have HTN:Hid (Ng (names.take k)++[(.string names[k],.bool true)]=Ng (names.take (k+1))):=by unfold Hid Ng;rw[List.take_succ_eq_append_getElem hlt];simp only[List.map_append,List.map_cons,List.map_nil]
    have HTH:Hid (Lr (homes.take k)++[(homes[k].val,.bool true)]=Lr (homes.take (k+1))):=by unfold Hid Lr;rw[List.take_succ_eq_append_getElem hlh];simp only[List.map_append,List.map_cons,List.map_nil]
    clear hcn hch hn hh gN gH hsz hmm
    generalize hs:names[k]=sk at*
    generalize hhv:homes[k]=hv at*
    generalize h1:((names.take k).any λt=>sk==t)=A1 at*
    generalize h2:((homes.take k).any λt=>eqV hv t)=A2 at*
    clear hs hhv h1 h2
    simp only[Nat.add_zero] at hv0
    rw[<-Nat.add_assoc] at hv1 hv2
    have hzr:=hmh.lt
    have hbr:bh<wr.heap.size:=by have:=hbel.size;omega
    go_wp2_with (first
     |(
      go_at_call 46
      refine(Uw _ _ hsk).mono ?_
      rintro e w' ⟨rfl,rfl⟩)
     |(
      go_at_call 30
      refine(Gx _ _ _ _).mono ?_
      rintro e w1 ⟨rfl,hb1⟩
      have hzz:=hb1.size
      have hmn1:=hmn.below hb1 hmn.lt
      have hmh1:=hmh.below hb1 hmh.lt
      have hl2':=hl2.out w1 hmh1
      have d1:=(hb1.cell (p:=⟨w.heap.size,1,none⟩) (show w.heap.size<_ by omega)).trans c1
      have e0:=(hb1.cell (p:=⟨bh,oh+k*3,none⟩) hbr).trans hv0
      have e1:=(hb1.cell (p:=⟨bh,oh+k*3+1,none⟩) hbr).trans hv1
      have e2:=(hb1.cell (p:=⟨bh,oh+k*3+2,none⟩) hbr).trans hv2)
     |(
      with_reducible refine fN rfl (.tmp 60) (.tmp 61) (.const (.bool true)) 140 rfl underlying140 (Aee 9 underlying9) rfl hmn1 (Zr _) (.string sk) (.bool true) rfl rfl ⟨_,rfl⟩ (HFN.out (by assumption)) ?_
      intro w2 hm2 hg2
      have hmh2:=hmh1.keep (hg2.block _ hmh1.lt (by simp)))
     |(
      with_reducible refine mD rfl (.tmp 62) (.tmp 67) 141 rfl underlying141 Aef rfl hmh2 (Zn _) hv.val rfl ⟨_,_,_,rfl⟩ (HFH.out (by assumption)) (.bool false) κ ?_
      intro w3 cc hE hg3
      have hm3:=hm2.keep (hg3.block _ hm2.lt (by simp)))
     |(
      with_reducible refine Ya rfl (.tmp 62) (.tmp 69) (.const (.bool true)) 141 rfl rfl hE rfl (.bool true) rfl ?_
      intro w4 hm4 hg4
      have hm5:=hm3.keep (hg4.block _ hm3.lt (by simp))))
    case roundEnd=>
     rw[HTN.out] at hm5
     rw[HTH.out] at hm4
     refine⟨⟨k+1,ω,by go_num,hm5,hm4,?_,?_,Aaf HA.out ?_⟩,by simp[intOf];omega⟩
     ·
      rw[hg4.block _ (by have:=hm3.lt;omega) (by simp;omega),hg3.block _ (by have:=hm2.lt;omega) (by simp;omega),hg2.block _ (by have:=hmn1.lt;omega) (by simp),hb1.block _ ω]
      exact HBX.out
     ·
      have q1:=hbel.trans (hb1.mono hbel.size)
      have q2:=q1.grown hg2 q1.size (by rintro j ⟨rfl⟩;omega)
      have q3:=q2.grown hg3 q2.size (by rintro j ⟨rfl⟩;omega)
      exact q3.grown hg4 q3.size (by rintro j ⟨rfl⟩;omega)
     · rw[HC.out];simp[*]
    all_goals
     go_ret
     refine⟨Fo (Ag6 hlt ?_).symm,?_⟩
     · rw[HC.out];simp[*]
     · first|exact hbel|exact hbel.trans (hb1.mono hbel.size)
   ·
    have HKN:Hid (k=names.length):=by unfold Hid;omega
    go_wp2
    go_ret
    refine⟨Fo ?_,hbel⟩
    unfold Sn
    rw[<-HKN.out,HA.out]
    have:=HP3.out
    rw[this,<-HKN.out]
    simp
    omega
 ·
  have HN:Hid (Sn names homes=false):=by
   unfold Hid Sn
   by_cases a1:1<=names.length<;>by_cases a2:names.length<=64<;>by_cases a3:homes.length=names.length<;>simp[a1,a2,a3]
   exact absurd ⟨a1,a2,a3⟩ hpre
  go_enter func45,ntmps45
  go_wp2_with fail
  all_goals first
   |(go_ret;exact⟨Fo HN.out.symm,(Below.refl _ _).alloc (Nat.le_refl _) _⟩)
   |(exfalso;apply hpre;refine⟨ω,ω,?_⟩;have h:=‹((homes.length:Int) != (names.length:Int))=false›;simp at h;omega)
structure Mv where
 to:V3
 wait:Int
 flight:Int
 rise:Int
structure Ac where
 name:ByteArray
 len:Int
 moves:List Mv
structure Pr where
 names:List ByteArray
 homes:List V3
 acts:List Ac
def Mv.cells (m:Mv):List Value:=[.int .i64 m.to.x,.int .i64 m.to.y,.int .i64 m.to.z,.int .i64 m.wait,.int .i64 m.flight,.int .i64 m.rise]
def mvs (l:List Mv):List Value:=l.flatMap Mv.cells
theorem Ti:∀(l:List Mv) (k:Nat) (h:k<l.length) (j:Nat) (u:Value),(l[k].cells)[j]?=some u->(mvs l)[k*6+j]?=some u
 |v::l,0,_,j,u,hu=>by
  show (v.cells++mvs l)[0*6+j]?=some u
  rw[Nat.zero_mul,Nat.zero_add,List.getElem?_append_left]
  exact hu
  exact(List.getElem?_eq_some_iff.1 hu).1
 |v::l,k+1,h,j,u,hu=>by
  have:=Ti l k (by simpa using h) j u hu
  show (v.cells++mvs l)[(k+1)*6+j]?=some u
  rw[List.getElem?_append_right (by simp[Mv.cells];omega),<-this]
  congr 1
  simp[Mv.cells]
  omega
def AcD (w:World) (D:Nat->Prop) (a:Ac) (cs:List Value):Prop:=∃vm,cs=[.string a.name,.int .i64 a.len,vm]/\Cy w D 6 vm a.moves.length (mvs a.moves)
def Se (w:World) (D:Nat->Prop):List Ac->List Value->Prop
 |[],cs=>cs=[]
 |s::ss,cs=>∃a b,cs=a++b/\AcD w D s a/\Se w D ss b
structure Kd (w:World) (hi:Nat) (vn vh va:Value) (p:Pr):Prop where
 names:Ce w 0 hi 1 vn p.names.length (strs p.names)
 homes:Ce w 0 hi 3 vh p.homes.length (Ic p.homes)
 acts:∃cs,Ce w 0 hi 3 va p.acts.length cs/\Se w (rg 0 hi) p.acts cs
theorem Se.keep {w w':World} {D:Nat->Prop} (hk:∀b o,D b->w'.cell? ⟨b,o,none⟩=w.cell? ⟨b,o,none⟩):∀{ss:List Ac} {cs:List Value},Se w D ss cs->Se w' D ss cs
 |[],_,h=>h
 |_::_,_,⟨a,b,e,⟨vm,e1,h1⟩,h2⟩=>⟨a,b,e,⟨vm,e1,h1.keep hk⟩,Se.keep hk h2⟩
theorem Se.more {w:World} {D D':Nat->Prop} (hD:∀b,D b->D' b):∀{ss:List Ac} {cs:List Value},Se w D ss cs->Se w D' ss cs
 |[],_,h=>h
 |_::_,_,⟨a,b,e,⟨vm,e1,h1⟩,h2⟩=>⟨a,b,e,⟨vm,e1,h1.more hD⟩,Se.more hD h2⟩
theorem Se.at_ {w:World} {D:Nat->Prop}:∀{ss:List Ac} {cs:List Value},Se w D ss cs->∀{k:Nat} (hk:k<ss.length),∃vm,Cy w D 6 vm ss[k].moves.length (mvs ss[k].moves)/\∀j u,[Value.string ss[k].name,.int .i64 ss[k].len,vm][j]?=some u->cs[k*3+j]?=some u
 |s::ss,_,⟨a,b,e,⟨vm,e1,h1⟩,h2⟩,0,_=>⟨vm,h1,λj u hu=>by
   rw[e,e1,Nat.zero_mul,Nat.zero_add,List.getElem?_append_left]
   exact hu
   exact(List.getElem?_eq_some_iff.1 hu).1⟩
 |s::ss,_,⟨a,b,e,⟨vm,e1,h1⟩,h2⟩,k+1,hk=>by
  obtain⟨c,hc,hcell⟩:=Se.at_ h2 (k:=k) (by simpa using hk)
  refine⟨c,hc,λj u hu=>?_⟩
  rw[e,List.getElem?_append_right (by rw[e1];simp;omega),<-hcell j u hu,e1]
  congr 1
  simp
  omega
theorem Kd.below {w w':World} {hi:Nat} {vn vh va:Value} {p:Pr} (h:Kd w hi vn vh va p) (hb:Below hi w w'):Kd w' hi vn vh va p:=by
 obtain⟨cs,h1,h2⟩:=h.acts
 exact⟨h.names.below hb,h.homes.below hb,cs,h1.below hb,h2.keep λb o hd=>hb.cell (p:=⟨b,o,none⟩) hd.2⟩
theorem Kd.more {w:World} {hi hi':Nat} {vn vh va:Value} {p:Pr} (h:Kd w hi vn vh va p) (hh:hi<=hi'):Kd w hi' vn vh va p:=by
 obtain⟨cs,h1,h2⟩:=h.acts
 exact⟨h.names.more (Nat.le_refl _) hh,h.homes.more (Nat.le_refl _) hh,cs,h1.more (Nat.le_refl _) hh,h2.more λb hd=>⟨hd.1,Nat.lt_of_lt_of_le hd.2 hh⟩⟩
theorem qX:(Tryz.prog.info? 62).map (λi=>(i.zero,i.size,i.bytes))=some (some (.agg #[.int .i64 0,.int .i64 0,.int .i64 0]),3,24):=by kernel_rfl
theorem Afu (l:List V3):∀u∈Ic l,u.oneCell'=true:=by
 intro u hu
 unfold Ic at hu
 obtain⟨v,_,hv⟩:=List.mem_flatMap.1 hu
 simp at hv
 rcases hv with rfl|rfl|rfl<;>rfl
theorem kA (l:List V3) (v:Value) (w:World) (h:Ce w 0 w.heap.size 3 v l.length (Ic l)) (hl:0<l.length) (hm:l.length<=1000000):
  Calls Tryz.prog 98 #[v] w λe w'=>∃v',e= .returned v'/\Ce w' w.heap.size w'.heap.size 3 v' l.length (Ic l)/\Below w.heap.size w w':=by
 obtain⟨i0,hi0,hz0,hz1,hz2⟩:=info_parts qX
 obtain⟨b,o,c,rfl,_,hb,hc⟩:=h.pos hl
 have hnil:=λW=>Lib.run_eql_slice_nil (P:=Tryz.prog) W 23 62 (some ⟨b,o,none⟩) l.length c 0 0 underlying23
 clear hc
 go_enter func98,ntmps98
 have hown:=Xh w [] 0 w.heap.size 3 62 rfl rfl δ
 have hs1:=h.up ((Below.refl w.heap.size w).alloc (Nat.le_refl _) (.cells #[] 62))
 go_wp2_with (at_builtin;refine Ex rfl (.tmp 5) (.tmp 6) 23 rfl w.heap.size 62 i0 _ 3 24 underlying23 hi0 hz0 hz1 hz2 rfl δ _ _ _ rfl hown _ _ _ _ rfl hs1 (Afu l) ?_ ?_ ?_ ?_)
 · unfold maxLen;omega
 · omega
 · simp
 intro v' w1 hown1 hg1 hat1
 go_wp2
 go_ret
 refine⟨_,rfl,Ce.own hown1,((Below.refl _ _).alloc (Nat.le_refl _) _).grown hg1 (by simp) ?_⟩
 rintro j hj
 simp[Value.ownBlock] at hj
 omega
def Hq (p:Pr) (k:Nat):List V3:=if k=0 then p.homes else (p.acts.getD (k-1) ⟨ByteArray.empty,0,[]⟩).moves.map (·.to)
def jD (l:List Mv) (k:Nat):List V3:=(l.take k).map (·.to)
theorem vB (l:List Mv) (k:Nat) (h:k<l.length):Ic (jD l k)++[.int .i64 l[k].to.x,.int .i64 l[k].to.y,.int .i64 l[k].to.z]=Ic (jD l (k+1)):=by
 unfold jD;rw[List.take_succ_eq_append_getElem h,List.map_append,<-qZ];rfl
theorem eZ (p:Pr) (k:Nat) (vn vh va:Value) (w:World) (h:Kd w w.heap.size vn vh va p) (hh:0<p.homes.length) (hm:p.homes.length<=1000000) (hk:k<=p.acts.length) (hb:p.acts.length<=1000000) (hmv:∀a∈p.acts,a.moves.length<=1000000):
  Calls Tryz.prog 76 #[.agg #[vn,vh,va],.int .i64 (k:Nat)] w λe w'=>∃v',e= .returned v'/\Ce w' w.heap.size w'.heap.size 3 v' (Hq p k).length (Ic (Hq p k))/\Below w.heap.size w w':=by
 obtain⟨An,cn,rfl⟩:=h.names.slice
 obtain⟨bh,oh,ch,rfl,_,_,_⟩:=h.homes.pos hh
 obtain⟨cs,ha,hacts⟩:=h.acts
 obtain⟨Aa,ca,rfl⟩:=ha.slice
 by_cases hk0:k=0
 ·
  subst hk0
  have HF:Hid (Hq p 0=p.homes):=by unfold Hid Hq;rw[if_pos rfl]
  go_enter func76,ntmps76
  go_wp2_with fail
  refine(kA p.homes _ _ ?_ hh hm).mono ?_
  · exact h.homes.up ((Below.refl _ _).alloc (Nat.le_refl _) _)
  rintro e w1 ⟨v',rfl,hs,hb1⟩
  go_wp2
  go_ret
  rw[HF.out]
  exact⟨_,rfl,hs.more (by simp) (Nat.le_refl _),((Below.refl _ _).alloc (Nat.le_refl _) _).trans (hb1.mono (by simp))⟩
 ·
  have hkl:k-1<p.acts.length:=by omega
  obtain⟨i0,hi0,hz0,hz1,hz2⟩:=info_parts qX
  obtain⟨ba,oa,ca',ea,_,hba,hca⟩:=ha.pos ω
  obtain⟨vm,hvm,hcm⟩:=hacts.at_ hkl
  have hc2:=hca _ _ (hcm 2 vm rfl)
  have HF:Hid (Hq p k=p.acts[k-1].moves.map (·.to)):=by unfold Hid Hq;rw[if_neg hk0];simp[hkl]
  have hmk:=hmv _ (List.getElem_mem hkl)
  generalize hM:p.acts[k-1].moves=M at*
  obtain⟨Am,cm,rfl⟩:=hvm.slice
  cases ea
  have hks:(k:Int)-1=((k-1:Nat):Int):=by omega
  have hkb:((k:Int)==0)=false:=by simp;omega
  clear hca hcm hacts hM hmv
  rw[<-Nat.add_assoc] at hc2
  go_enter func76,ntmps76
  go_wp2
  go_loopw [5,7,21] (λv _ i wr=>∃q:Nat,q<=M.length/\i= .int .i64 q/\wr.ownsRow w.heap.size 62 3 v q (Ic (jD M q))/\Below w.heap.size w wr) (λ_ _ i _=>M.length-(intOf i).toNat)
  case atStart=>exact⟨0,Nat.zero_le _,rfl,⟨rfl,.inl ⟨rfl,rfl⟩⟩,(Below.refl _ _).alloc (Nat.le_refl _) _⟩
  case round=>
   obtain⟨q,hq,rfl,hown,hbel⟩:=hrel
   by_cases hlt:q<M.length
   ·
    obtain⟨bm,om,cm',em,_,hbm,hcm⟩:=(Ce.below hvm hbel).pos ω
    have m0:=hcm _ _ (Ti M q hlt 0 _ rfl)
    have m1:=hcm _ _ (Ti M q hlt 1 _ rfl)
    have m2:=hcm _ _ (Ti M q hlt 2 _ rfl)
    have m3:=hcm _ _ (Ti M q hlt 3 _ rfl)
    have m4:=hcm _ _ (Ti M q hlt 4 _ rfl)
    have m5:=hcm _ _ (Ti M q hlt 5 _ rfl)
    rw[<-Nat.add_assoc] at m1 m2 m3 m4 m5
    simp only[Nat.add_zero] at m0
    have HT:=Lib.hid (vB M q hlt)
    cases em
    clear hcm hvm
    generalize M[q]=mv at*
    have hzr:=hbel.size
    go_wp2_with (at_builtin;refine wpList_append_own _ rfl (.tmp 25) (.tmp 28) 23 rfl w.heap.size 62 i0 _ 3 24 underlying23 hi0 hz0 hz1 hz2 rfl δ _ _ _ rfl ((hown.alloc _).alloc _) ⟨_,0,none⟩ 1 1 [.int .i64 mv.to.x,.int .i64 mv.to.y,.int .i64 mv.to.z] rfl rfl ?c1 ?c2 ?c3 ?c4 ?c5 ?_)
    case c1=>intro j u hu;rw[Et];simpa using hu
    case c2=>simp[Value.oneCell']
    case c3=>unfold maxLen;omega
    case c4=>omega
    case c5=>simp;omega
    intro v' w1 hown1 hg1 _
    rw[HT.out] at hown1
    have hb1:Below w.heap.size w w1:=((hbel.alloc hbel.size _).alloc (by simp;omega) _).grown hg1 (by simp;omega) (λj hj=>(hown.lt j hj).1)
    clear hown hbel hg1 m0 m1 m2 m3 m4 m5
    go_wp2
    go_roundw
    case rel=>exact⟨q+1,ω,by go_num,hown1,hb1⟩
    case measure=>simp[intOf];omega
   ·
    have HQ:Hid (q=M.length):=by unfold Hid;omega
    go_wp2
    go_ret
    refine⟨_,rfl,?_,hbel⟩
    rw[HF.out]
    have e1:jD M q=M.map (·.to):=by unfold jD;rw[List.take_of_length_le (by rw[HQ.out];exact Nat.le_refl _)]
    have e2:(M.map (·.to)).length=q:=by simp[HQ.out]
    rw[e2,<-e1]
    exact Ce.own hown
def Hr (x y z x' y' z' f t:Int):Bool:=Um x y z&&Um x' y' z'&&decide (0<=f)&&decide (f<t)&&decide (t<=3600000)
theorem Ta (x y z x' y' z' f t:Int) (w:World):
  Calls Tryz.prog 80 #[.agg #[.int .i64 x,.int .i64 y,.int .i64 z],.agg #[.int .i64 x',.int .i64 y',.int .i64 z'],.int .i64 f,.int .i64 t] w λe w'=>e= .returned (.bool (Hr x y z x' y' z' f t))/\Below w.heap.size w w':=by
 cases h1:Um x y z<;>cases h2:Um x' y' z'
 all_goals
  have HF:Hid (∀a b,a=Um x y z->b=Um x' y' z'->Hr x y z x' y' z' f t=(a&&b&&decide (0<=f)&&decide (f<t)&&decide (t<=3600000))):=λa b h h'=>by rw[h,h'];rfl
  have H1:=Lib.hid h1
  have H2:=Lib.hid h2
  clear h1 h2
  go_enter func80,ntmps80
  go_wp2_with fail
  refine(Gx _ _ _ _).mono ?_
  rintro e w1 ⟨rfl,hb⟩
  rw[H1.out]
  have hz:=hb.size
  have hB:=(((Below.refl _ _).alloc (Nat.le_refl _) _).alloc (by simp) _).trans (hb.mono (show w.heap.size<=_ by simp;omega))
  obtain⟨hc,hf⟩:=Hb hb
  simp at hz hc
  go_wp2_with fail
 · go_ret;exact⟨Fo (by rw[HF.out _ _ H1.out.symm H2.out.symm];simp),hB⟩
 · go_ret;exact⟨Fo (by rw[HF.out _ _ H1.out.symm H2.out.symm];simp),hB⟩
 all_goals
  refine(Gx _ _ _ _).mono ?_
  rintro e w2 ⟨rfl,hb2⟩
  rw[H2.out]
  go_wp2
  all_goals
   go_ret
   refine⟨Fo ?_,hB.trans (hb2.mono ω)⟩
   rw[HF.out _ _ H1.out.symm H2.out.symm]
   simp
   try omega
theorem AgT {w w1 w2 w3:World} {p n1 n2 n3:Nat} {v1 v2 v3:Value} {x1 x2 x3:List Value} {f t:Int} (hG:w2.grownBy w3 (some p)) (hp:w.heap.size<=p) (hp1:p<w1.heap.size) (hb:Below w.heap.size w w1) (hC:Below w1.heap.size w1 w2)
  (h1:Ce w2 w1.heap.size w2.heap.size 1 v1 n1 x1) (h2:Ce w2 w1.heap.size w2.heap.size 1 v2 n2 x2) (h3:Ce w2 w1.heap.size w2.heap.size 1 v3 n3 x3):
  ∃vx vy vz,Ending.returned (.agg #[.int .i64 f,.int .i64 t,.int .i64 1,v1,v2,v3])= .returned (.agg #[.int .i64 f,.int .i64 t,.int .i64 1,vx,vy,vz])/\Ce w3 w.heap.size w3.heap.size 1 vx n1 x1/\Ce w3 w.heap.size w3.heap.size 1 vy n2 x2/\Ce w3 w.heap.size w3.heap.size 1 vz n3 x3/\Below w.heap.size w w3:=by
 have hr:∀b,some p=some b->b<w1.heap.size\/w2.heap.size<=b:=by rintro b ⟨rfl⟩;exact .inl hp1
 have hz:=hb.size
 have hz2:=hC.size
 exact⟨_,_,_,rfl,(h1.keepG hG (Nat.le_refl _) hr).more hz hG.size,(h2.keepG hG (Nat.le_refl _) hr).more hz hG.size,(h3.keepG hG (Nat.le_refl _) hr).more hz hG.size,
  (hb.trans (hC.mono hz)).grown hG ω (by rintro b ⟨rfl⟩;exact hp)⟩
theorem aW:Si 119 (λv=>∃n,v= .int .i64 n) Sr:=Ajw 119 κ
def Cf (k:Int):List Int:=if k=0 then [] else if k=1 then [1] else [0,0,10,-15,6]
theorem AeT (w:World):
  Calls Tryz.prog 103 #[] w λe w'=>∃b v1 v2,e= .returned (.map (some b))/\Fc w' b [(.int .i64 0,.slice none 0 0),(.int .i64 1,v1),(.int .i64 2,v2)]/\Ce w' w.heap.size w'.heap.size 1 v1 1 (Di [1])/\Ce w' w.heap.size w'.heap.size 1 v2 5 (Di [0,0,10,-15,6])/\w.heap.size<=b/\Below w.heap.size w w':=by
 have hmm:=@run_makeMap Tryz.prog
 go_enter func103,ntmps103
 go_wp2_with (with_reducible refine Pb rfl (.tmp 1) (.const (.int .i64 0)) (.const (.slice none 0 0)) 169 rfl underlying169 aW rfl (Fc.new _ _ rfl) (by simp) _ _ rfl rfl ⟨_,rfl⟩ (by simp) ?_)
 intro w1 hm1 hg1
 have hb1:Below w.heap.size w w1:=((Below.refl _ _).alloc (Nat.le_refl _) _).grown hg1 (by simp) (λk hk=>by injection hk with hk;omega)
 have hz1:w.heap.size<w1.heap.size:=hm1.lt
 go_wp2_with (with_reducible refine Pb rfl (.tmp 1) (.const (.int .i64 1)) (.tmp 2) 169 rfl underlying169 aW rfl (hm1.alloc _) (by simp) (.int .i64 1) _ rfl rfl ⟨_,rfl⟩ (by simp[Sr]) ?_)
 intro w2 hm2 hg2
 have hb2:Below w.heap.size w w2:=(hb1.alloc hb1.size _).grown hg2 (by simp;omega) (λk hk=>by injection hk with hk;omega)
 have hs2:Ce w2 w1.heap.size (w1.heap.size+1) 1 (.slice (some ⟨w1.heap.size,0,none⟩) 1 1) 1 (Di [1]):=
  (Ce.new1 w1 (Di [1]) 1 _ w1.heap.size (w1.heap.size+1) 1 3 rfl rfl (Nat.le_refl _) ω).keepG hg2 (by simp) (by intro b e;simp at e;omega)
 have hz2:w1.heap.size+1<=w2.heap.size:=by have:=hg2.size;simpa using this
 clear hm1 hg1 hg2
 go_wp2_with (with_reducible refine Pb rfl (.tmp 1) (.const (.int .i64 2)) (.tmp 3) 169 rfl underlying169 aW rfl (hm2.alloc _) (by simp) (.int .i64 2) _ rfl rfl ⟨_,rfl⟩ (by simp[Sr]) ?_)
 intro w3 hm3 hg3
 have hb3:Below w.heap.size w w3:=(hb2.alloc hb2.size _).grown hg3 (by simp;omega) (λk hk=>by injection hk with hk;omega)
 have hs3:Ce w3 w2.heap.size (w2.heap.size+1) 1 (.slice (some ⟨w2.heap.size,0,none⟩) 5 5) 5 (Di [0,0,10,-15,6]):=
  (Ce.new1 w2 (Di [0,0,10,-15,6]) 5 _ w2.heap.size (w2.heap.size+1) 1 3 rfl rfl (Nat.le_refl _) ω).keepG hg3 (by simp) (by intro b e;simp at e;omega)
 have hs4:=(hs2.new hz2 (.cells #[.int .i64 0,.int .i64 0,.int .i64 10,.int .i64 (-15),.int .i64 6] 3)).keepG hg3 (by simp;omega) (by intro b e;simp at e;omega)
 have hz3:w2.heap.size+1<=w3.heap.size:=by have:=hg3.size;simpa using this
 go_wp2
 go_ret
 exact⟨_,_,_,rfl,hm3,hs4.more ω ω,hs3.more ω ω,Nat.le_refl _,hb3⟩
def Aeg (k:Int):Prop:=k=0\/k=1\/k=2
theorem Ou (k:Int):∀f∈Cf k,-100<=f/\f<=100:=by
 unfold Cf;split
 simp
 split<;>simp
theorem Tc (k:Int):(Cf k).length<=100:=by
 unfold Cf;split
 simp
 split<;>simp
theorem Aet {w:World} {v1 v2:Value} (k:Int) (hk:Aeg k) (lo:Nat) (h1:Ce w lo w.heap.size 1 v1 1 (Di [1])) (h2:Ce w lo w.heap.size 1 v2 5 (Di [0,0,10,-15,6])):
  ∃v,(([(Value.int .i64 0,Value.slice none 0 0),(.int .i64 1,v1),(.int .i64 2,v2)].find? (λp=>Sr (.int .i64 k) p.1)).map (·.2)).getD (.slice none 0 0)=v/\Ce w lo w.heap.size 1 v (Cf k).length (Di (Cf k)):=by
 rcases hk with rfl|rfl|rfl
 exact⟨_,rfl,by simp[Sr,Cf,Di];exact Ce.nil none 0⟩
 exact⟨_,rfl,by simpa [Sr,Cf,Di] using h1⟩
 exact⟨_,rfl,by simpa [Sr,Cf,Di] using h2⟩
theorem xI (x y z x' y' z' f t k:Int) (w:World) (hk:Aeg k) (hx: -2097152<=x/\x<=2097152) (hy: -2097152<=y/\y<=2097152) (hz: -2097152<=z/\z<=2097152) (hx': -2097152<=x'/\x'<=2097152) (hy': -2097152<=y'/\y'<=2097152) (hz': -2097152<=z'/\z'<=2097152):
  Calls Tryz.prog 81 #[.agg #[.int .i64 x,.int .i64 y,.int .i64 z],.agg #[.int .i64 x',.int .i64 y',.int .i64 z'],.int .i64 f,.int .i64 t,.int .i64 k] w λe w'=>∃vx vy vz,e= .returned (.agg #[.int .i64 f,.int .i64 t,.int .i64 1,vx,vy,vz])/\Ce w' w.heap.size w'.heap.size 1 vx (Ds x x' (Cf k)).length (Di (Ds x x' (Cf k)))/\Ce w' w.heap.size w'.heap.size 1 vy (Ds y y' (Cf k)).length (Di (Ds y y' (Cf k)))/\Ce w' w.heap.size w'.heap.size 1 vz (Ds z z' (Cf k)).length (Di (Ds z z' (Cf k)))/\Below w.heap.size w w':=by
 go_enter func81,ntmps81
 go_wp2_with fail
 refine(AeT _).mono ?_
 rintro e w1 ⟨b,v1,v2,rfl,hm,h1,h2,hbb,hb1⟩
 obtain⟨v,hv,hs⟩:=Aet k hk _ h1 h2
 have HK:=Lib.hid hk
 clear hk
 go_wp2_with (with_reducible refine rB rfl (.tmp 12) (.tmp 13) 169 rfl underlying169 aW rfl hm ?_ (.int .i64 k) rfl ⟨_,rfl⟩ (.slice none 0 0) ?_ _ hv ?_)
 · intro p hp;simp at hp;rcases hp with rfl|rfl|rfl<;>exact⟨_,rfl⟩
 · kernel_rfl
 have hz1:=hb1.size
 obtain⟨hc,hf⟩:=Hb hb1
 simp at hz1
 have c1:w1.cell? ⟨w.heap.size,0,none⟩=some (.int .i64 x):=by rw[hc _ _ (by simp<;>omega)];go_simp
 have c2:w1.cell? ⟨w.heap.size,1,none⟩=some (.int .i64 y):=by rw[hc _ _ (by simp<;>omega)];go_simp
 have c3:w1.cell? ⟨w.heap.size,2,none⟩=some (.int .i64 z):=by rw[hc _ _ (by simp<;>omega)];go_simp
 have c4:w1.cell? ⟨w.heap.size+1,0,none⟩=some (.int .i64 x'):=by rw[hc _ _ (by simp<;>omega)];go_simp
 have c5:w1.cell? ⟨w.heap.size+1,1,none⟩=some (.int .i64 y'):=by rw[hc _ _ (by simp<;>omega)];go_simp
 have c6:w1.cell? ⟨w.heap.size+1,2,none⟩=some (.int .i64 z'):=by rw[hc _ _ (by simp<;>omega)];go_simp
 have c7:w1.cell? ⟨w.heap.size+2,0,none⟩=some (.int .i64 0):=by rw[hc _ _ (by simp<;>omega)];go_simp
 have c8:w1.cell? ⟨w.heap.size+2,1,none⟩=some (.int .i64 0):=by rw[hc _ _ (by simp<;>omega)];go_simp
 have c9:w1.cell? ⟨w.heap.size+2,2,none⟩=some (.int .i64 0):=by rw[hc _ _ (by simp<;>omega)];go_simp
 have c10:w1.cell? ⟨w.heap.size+2,3,none⟩=some (.slice none 0 0):=by rw[hc _ _ (by simp<;>omega)];go_simp
 have c11:w1.cell? ⟨w.heap.size+2,4,none⟩=some (.slice none 0 0):=by rw[hc _ _ (by simp<;>omega)];go_simp
 have c12:w1.cell? ⟨w.heap.size+2,5,none⟩=some (.slice none 0 0):=by rw[hc _ _ (by simp<;>omega)];go_simp
 have f0:w1.frozen? ⟨w.heap.size+2,0,none⟩=false:=by rw[hf _ _ (by simp<;>omega)];go_simp
 have f1:w1.frozen? ⟨w.heap.size+2,1,none⟩=false:=by rw[hf _ _ (by simp<;>omega)];go_simp
 have f2:w1.frozen? ⟨w.heap.size+2,2,none⟩=false:=by rw[hf _ _ (by simp<;>omega)];go_simp
 have f3:w1.frozen? ⟨w.heap.size+2,3,none⟩=false:=by rw[hf _ _ (by simp<;>omega)];go_simp
 have f4:w1.frozen? ⟨w.heap.size+2,4,none⟩=false:=by rw[hf _ _ (by simp<;>omega)];go_simp
 have f5:w1.frozen? ⟨w.heap.size+2,5,none⟩=false:=by rw[hf _ _ (by simp<;>omega)];go_simp
 have hbw:Below w.heap.size w w1:=((((Below.refl _ _).alloc (Nat.le_refl _) _).alloc (by simp) _).alloc (by simp;omega) _).trans (hb1.mono (by simp;omega))
 clear hc hf hm hv hbb hb1
 refine Jw 20 36 (λw'=>Below w1.heap.size w1 w') [is (.int .i64 f),is (.int .i64 t),is (.pointer (some ⟨w.heap.size,0,none⟩)),is (.int .i64 x),is (.pointer (some ⟨w.heap.size+1,0,none⟩)),is (.int .i64 x'),is v,λv w'=>Ce w' w1.heap.size w'.heap.size 1 v (Ds x x' (Cf k)).length (Di (Ds x x' (Cf k))),is (.pointer (some ⟨w.heap.size,1,none⟩)),is (.int .i64 y),is (.pointer (some ⟨w.heap.size+1,1,none⟩)),is (.int .i64 y'),is v,λv w'=>Ce w' w1.heap.size w'.heap.size 1 v (Ds y y' (Cf k)).length (Di (Ds y y' (Cf k))),is (.pointer (some ⟨w.heap.size,2,none⟩)),is (.int .i64 z),is (.pointer (some ⟨w.heap.size+1,2,none⟩)),is (.int .i64 z'),is v,λv w'=>Ce w' w1.heap.size w'.heap.size 1 v (Ds z z' (Cf k)).length (Di (Ds z z' (Cf k)))] κ κ rfl δ ?hst ?h0 ?hop ?htail
 case hop=>
  refine⟨?_,?_,?_,?_,?_,?_,?_,?_,?_,?_,?_,?_,?_,?_,?_,?_,?_,?_,?_,?_,trivial⟩
  · exact Dq (.tmp 2) (is (.int .i64 f)) rfl κ (λ_ _ _ h=>h)
  · exact Dq (.tmp 3) (is (.int .i64 t)) rfl κ (λ_ _ _ h=>h)
  · exact Lo 62 (.tmp 5) 0 (.pointer (some ⟨w.heap.size,0,none⟩)) (.pointer (some ⟨w.heap.size,0,none⟩)) rfl κ (λw=>by kernel_rfl) rfl
  · exact Dv 3 (.tmp 17) (.pointer (some ⟨w.heap.size,0,none⟩)) (.int .i64 x) rfl κ (λwa hC=>Cq wa (isAgg3 wa) (((Hb hC).1 _ _ ω).trans c1)) rfl
  · exact Lo 62 (.tmp 6) 0 (.pointer (some ⟨w.heap.size+1,0,none⟩)) (.pointer (some ⟨w.heap.size+1,0,none⟩)) rfl κ (λw=>by kernel_rfl) rfl
  · exact Dv 3 (.tmp 19) (.pointer (some ⟨w.heap.size+1,0,none⟩)) (.int .i64 x') rfl κ (λwa hC=>Cq wa (isAgg3 wa) (((Hb hC).1 _ _ ω).trans c4)) rfl
  · exact Dq (.tmp 11) (is v) rfl κ (λ_ _ _ h=>h)
  · exact Hh 104 [.tmp 18,.tmp 20,.tmp 21] _ [.int .i64 x,.int .i64 x',v] rfl (λ_ _=>by kernel_rfl) ⟨κ,κ,κ,trivial⟩ (λwa hC=>(Za _ _ (Cf k) v _ _ w1.heap.size hC.size hx hx' (Ou k) (Tc k) (hs.below hC)).mono λe w' ⟨v',he,h1,h2⟩=>⟨v',he,hC.trans (h2.mono hC.size),h2,h1.more hC.size (Nat.le_refl _)⟩)
  · exact Lo 62 (.tmp 5) 1 (.pointer (some ⟨w.heap.size,0,none⟩)) (.pointer (some ⟨w.heap.size,1,none⟩)) rfl κ (λw=>by kernel_rfl) rfl
  · exact Dv 3 (.tmp 23) (.pointer (some ⟨w.heap.size,1,none⟩)) (.int .i64 y) rfl κ (λwa hC=>Cq wa (isAgg3 wa) (((Hb hC).1 _ _ ω).trans c2)) rfl
  · exact Lo 62 (.tmp 6) 1 (.pointer (some ⟨w.heap.size+1,0,none⟩)) (.pointer (some ⟨w.heap.size+1,1,none⟩)) rfl κ (λw=>by kernel_rfl) rfl
  · exact Dv 3 (.tmp 25) (.pointer (some ⟨w.heap.size+1,1,none⟩)) (.int .i64 y') rfl κ (λwa hC=>Cq wa (isAgg3 wa) (((Hb hC).1 _ _ ω).trans c5)) rfl
  · exact Dq (.tmp 11) (is v) rfl κ (λ_ _ _ h=>h)
  · exact Hh 104 [.tmp 24,.tmp 26,.tmp 27] _ [.int .i64 y,.int .i64 y',v] rfl (λ_ _=>by kernel_rfl) ⟨κ,κ,κ,trivial⟩ (λwa hC=>(Za _ _ (Cf k) v _ _ w1.heap.size hC.size hy hy' (Ou k) (Tc k) (hs.below hC)).mono λe w' ⟨v',he,h1,h2⟩=>⟨v',he,hC.trans (h2.mono hC.size),h2,h1.more hC.size (Nat.le_refl _)⟩)
  · exact Lo 62 (.tmp 5) 2 (.pointer (some ⟨w.heap.size,0,none⟩)) (.pointer (some ⟨w.heap.size,2,none⟩)) rfl κ (λw=>by kernel_rfl) rfl
  · exact Dv 3 (.tmp 29) (.pointer (some ⟨w.heap.size,2,none⟩)) (.int .i64 z) rfl κ (λwa hC=>Cq wa (isAgg3 wa) (((Hb hC).1 _ _ ω).trans c3)) rfl
  · exact Lo 62 (.tmp 6) 2 (.pointer (some ⟨w.heap.size+1,0,none⟩)) (.pointer (some ⟨w.heap.size+1,2,none⟩)) rfl κ (λw=>by kernel_rfl) rfl
  · exact Dv 3 (.tmp 31) (.pointer (some ⟨w.heap.size+1,2,none⟩)) (.int .i64 z') rfl κ (λwa hC=>Cq wa (isAgg3 wa) (((Hb hC).1 _ _ ω).trans c6)) rfl
  · exact Dq (.tmp 11) (is v) rfl κ (λ_ _ _ h=>h)
  · exact Hh 104 [.tmp 30,.tmp 32,.tmp 33] _ [.int .i64 z,.int .i64 z',v] rfl (λ_ _=>by kernel_rfl) ⟨κ,κ,κ,trivial⟩ (λwa hC=>(Za _ _ (Cf k) v _ _ w1.heap.size hC.size hz hz' (Ou k) (Tc k) (hs.below hC)).mono λe w' ⟨v',he,h1,h2⟩=>⟨v',he,hC.trans (h2.mono hC.size),h2,h1.more hC.size (Nat.le_refl _)⟩)
 case hst=>
  simp only[List.mem_cons,List.mem_nil_iff,or_false,forall_eq_or_imp,forall_eq]
  refine⟨Ak _,Ak _,Ak _,Ak _,Ak _,Ak _,Ak _,Tl _ _ _ _,Ak _,Ak _,Ak _,Ak _,Ak _,Tl _ _ _ _,Ak _,Ak _,Ak _,Ak _,Ak _,Tl _ _ _ _⟩
 case h0=>exact(Below.refl _ _).drew
 case htail=>
  intro σ w2 hC hR
  have r15:σ 0=_:=hR 0 δ
  have r16:σ 1=_:=hR 1 δ
  have r22:Ce w2 w1.heap.size w2.heap.size 1 (σ 7) _ _:=hR 7 δ
  have r28:Ce w2 w1.heap.size w2.heap.size 1 (σ 13) _ _:=hR 13 δ
  have r34:Ce w2 w1.heap.size w2.heap.size 1 (σ 19) _ _:=hR 19 δ
  obtain⟨A1,d1,e1⟩:=r22.slice
  obtain⟨A2,d2,e2⟩:=r28.slice
  obtain⟨A3,d3,e3⟩:=r34.slice
  simp only[En,e1,e2,e3,r15,r16]
  have hcs:=Hb hC
  have k0:w2.cell? ⟨w.heap.size+2,0,none⟩=some (.int .i64 0):=(hcs.1 _ _ ω).trans c7
  have k1:w2.cell? ⟨w.heap.size+2,1,none⟩=some (.int .i64 0):=(hcs.1 _ _ ω).trans c8
  have k2:w2.cell? ⟨w.heap.size+2,2,none⟩=some (.int .i64 0):=(hcs.1 _ _ ω).trans c9
  have k3:w2.cell? ⟨w.heap.size+2,3,none⟩=some (.slice none 0 0):=(hcs.1 _ _ ω).trans c10
  have k4:w2.cell? ⟨w.heap.size+2,4,none⟩=some (.slice none 0 0):=(hcs.1 _ _ ω).trans c11
  have k5:w2.cell? ⟨w.heap.size+2,5,none⟩=some (.slice none 0 0):=(hcs.1 _ _ ω).trans c12
  have m0:w2.frozen? ⟨w.heap.size+2,0,none⟩=false:=(hcs.2 _ _ ω).trans f0
  have m1:w2.frozen? ⟨w.heap.size+2,1,none⟩=false:=(hcs.2 _ _ ω).trans f1
  have m2:w2.frozen? ⟨w.heap.size+2,2,none⟩=false:=(hcs.2 _ _ ω).trans f2
  have m3:w2.frozen? ⟨w.heap.size+2,3,none⟩=false:=(hcs.2 _ _ ω).trans f3
  have m4:w2.frozen? ⟨w.heap.size+2,4,none⟩=false:=(hcs.2 _ _ ω).trans f4
  have m5:w2.frozen? ⟨w.heap.size+2,5,none⟩=false:=(hcs.2 _ _ ω).trans f5
  clear hcs hR c1 c2 c3 c4 c5 c6 c7 c8 c9 c10 c11 c12 f0 f1 f2 f3 f4 f5 r15 r16
  rw[e1] at r22
  rw[e2] at r28
  rw[e3] at r34
  clear e1 e2 e3
  go_wp2
  refine bodyPost_ret (v:= .agg #[.int .i64 f,.int .i64 t,.int .i64 1,.slice A1 (Ds x x' (Cf k)).length d1,.slice A2 (Ds y y' (Cf k)).length d2,.slice A3 (Ds z z' (Cf k)).length d3]) (by simp[results,results81,go_sem,k0,k1,k2,k3,k4,k5]) rfl ?_
  refine AgT (p:=w.heap.size+1+1) ?_ ω ω hbw hC r22 r28 r34
  exact Ks (Ks (Ks (Ks (Ks (Ks (World.grownBy.refl _ _) _ _) _ _) _ _) _ _) _ _) _ _
def Ov (a b:V3) (f t k:Int):Sg:=⟨f,t,1,Ds a.x b.x (Cf k),Ds a.y b.y (Cf k),Ds a.z b.z (Cf k)⟩
def V3.pt (a:V3):Bool:=Um a.x a.y a.z
def Sv (a b:V3) (f t:Int):Bool:=Hr a.x a.y a.z b.x b.y b.z f t
def Gr (w:World) (a b:V3) (f t k:Int) (e:Ending) (w':World):Prop:=
 if Sv a b f t=true then ∃v,e= .returned (.tuple #[v,.int .i64 0])/\Cw w' w.heap.size w'.heap.size v [Ov a b f t k]/\Below w.heap.size w w'
 else e= .returned (.tuple #[.slice none 0 0,.int .i64 2])/\Below w.heap.size w w'
theorem lN {x y z:Int} (h:Um x y z=true):(-2097152<=x/\x<=2097152)/\(-2097152<=y/\y<=2097152)/\(-2097152<=z/\z<=2097152):=by
 have:=(Mg x y z).1 h
 omega
theorem xA (x y z x' y' z' f t k:Int) (w:World) (hk:Aeg k):
  Calls Tryz.prog 58 #[.agg #[.int .i64 x,.int .i64 y,.int .i64 z],.agg #[.int .i64 x',.int .i64 y',.int .i64 z'],.int .i64 f,.int .i64 t,.int .i64 k] w (Gr w ⟨x,y,z⟩ ⟨x',y',z'⟩ f t k):=by
 have HK:=Lib.hid hk
 clear hk
 cases hv:Hr x y z x' y' z' f t
 ·
  have HV:=Lib.hid hv
  clear hv
  go_enter func58,ntmps58
  go_wp2_with fail
  refine(Ta _ _ _ _ _ _ _ _ _).mono ?_
  rintro e w1 ⟨rfl,hb⟩
  rw[HV.out]
  have hB:=(((Below.refl _ _).alloc (Nat.le_refl _) _).alloc (by simp) _).trans (hb.mono (show w.heap.size<=_ by simp;omega))
  go_wp2
  go_ret2
  unfold Gr
  rw[if_neg (by show ¬Hr x y z x' y' z' f t=true;rw[HV.out];simp)]
  exact⟨rfl,hB⟩
 ·
  have HV:=Lib.hid hv
  have hp:Um x y z=true/\Um x' y' z'=true:=by
   unfold Hr at hv;simp at hv;exact⟨hv.1.1.1.1,hv.1.1.1.2⟩
  have HP:=Lib.hid hp
  clear hv hp
  go_enter func58,ntmps58
  go_wp2_with fail
  refine(Ta _ _ _ _ _ _ _ _ _).mono ?_
  rintro e w1 ⟨rfl,hb⟩
  rw[HV.out]
  have hz:=hb.size
  have hB:=(((Below.refl _ _).alloc (Nat.le_refl _) _).alloc (by simp) _).trans (hb.mono (show w.heap.size<=_ by simp;omega))
  obtain⟨hc,hf⟩:=Hb hb
  simp at hz hc
  go_wp2_with fail
  have h1:=lN HP.out.1
  have h2:=lN HP.out.2
  refine(xI _ _ _ _ _ _ _ _ _ _ HK.out h1.1 h1.2.1 h1.2.2 h2.1 h2.2.1 h2.2.2).mono ?_
  rintro e w2 ⟨vx,vy,vz,rfl,hx,hy,hz',hb2⟩
  clear hc hf h1 h2
  obtain⟨Ax,cx,rfl⟩:=hx.slice
  obtain⟨Ay,cy,rfl⟩:=hy.slice
  obtain⟨Az,cz,rfl⟩:=hz'.slice
  go_wp2
  go_ret2
  unfold Gr
  rw[if_pos (show Sv ⟨x,y,z⟩ ⟨x',y',z'⟩ f t=true from HV.out)]
  have hz2:=hb2.size
  have hal:Below w2.heap.size w2 (w2.alloc (.cells #[.int .i64 f,.int .i64 t,.int .i64 1,.slice Ax (Ds x x' (Cf k)).length cx,.slice Ay (Ds y y' (Cf k)).length cy,.slice Az (Ds z z' (Cf k)).length cz] 60)):=(Below.refl _ _).alloc (Nat.le_refl _) _
  refine⟨_,rfl,⟨_,Ce.new1 w2 [.int .i64 f,.int .i64 t,.int .i64 1,.slice Ax (Ds x x' (Cf k)).length cx,.slice Ay (Ds y y' (Cf k)).length cy,.slice Az (Ds z z' (Cf k)).length cz] 1 _ _ _ 6 60 rfl rfl ω (by simp),?_⟩,hB.trans ((hb2.mono ω).trans (hal.mono ω))⟩
  exact Ih.one ⟨_,_,_,rfl,(hx.up hal).more ω (Nat.le_refl _),(hy.up hal).more ω (Nat.le_refl _),(hz'.up hal).more ω (Nat.le_refl _)⟩
theorem Gr.below {w w0:World} {a b:V3} {f t k:Int} {e:Ending} {w':World} (h:Gr w a b f t k e w') (hb:Below w0.heap.size w0 w):Gr w0 a b f t k e w':=by
 unfold Gr at*
 split at h
 rename_i hf
 obtain⟨v,he,hp,hbw⟩:=h
 rw[if_pos hf]
 exact⟨v,he,hp.more hb.size (Nat.le_refl _),hb.trans (hbw.mono hb.size)⟩
 rename_i hf
 rw[if_neg hf]
 exact⟨h.1,hb.trans (h.2.mono hb.size)⟩
theorem Gr.out {w:World} {a b:V3} {f t k:Int} {e:Ending} {w':World} (h:Gr w a b f t k e w'):∃A n c q,e= .returned (.tuple #[.slice A n c,.int .i64 q]):=by
 unfold Gr at h
 split at h
 obtain⟨v,he,hp,_⟩:=h
 obtain⟨A,c,rfl⟩:=hp.slice
 exact⟨A,_,c,0,he⟩
 exact⟨none,0,0,2,h.1⟩
theorem Ys (x y z x' y' z' f t:Int) (w:World):
  Calls Tryz.prog 31 #[.agg #[.int .i64 x,.int .i64 y,.int .i64 z],.agg #[.int .i64 x',.int .i64 y',.int .i64 z'],.int .i64 f,.int .i64 t] w (Gr w ⟨x,y,z⟩ ⟨x',y',z'⟩ f t 2):=by
 go_enter func31,ntmps31
 go_wp2_with fail
 refine(xA _ _ _ _ _ _ _ _ _ _ (.inr (.inr rfl))).mono ?_
 intro e w1 h
 have h2:=h.below (((Below.refl _ _).alloc (Nat.le_refl _) _).alloc (by simp) _)
 obtain⟨A,n,c,q,rfl⟩:=h.out
 have H2:=Lib.hid h2
 clear h h2
 go_wp2
 go_ret2
 exact H2.out
theorem iI (x y z f t:Int) (w:World):
  Calls Tryz.prog 33 #[.agg #[.int .i64 x,.int .i64 y,.int .i64 z],.int .i64 f,.int .i64 t] w (Gr w ⟨x,y,z⟩ ⟨x,y,z⟩ f t 0):=by
 go_enter func33,ntmps33
 go_wp2_with fail
 refine(xA _ _ _ _ _ _ _ _ _ _ (.inl rfl)).mono ?_
 intro e w1 h
 have h2:=h.below ((Below.refl _ _).alloc (Nat.le_refl _) _)
 obtain⟨A,n,c,q,rfl⟩:=h.out
 have H2:=Lib.hid h2
 clear h h2
 go_wp2
 go_ret2
 exact H2.out
def aE (n:Int):Bool:=decide (0<=n)&&decide (n<=3600000)
theorem Rg (n:Int):aE n=true↔0<=n/\n<=3600000:=by unfold aE;simp
def hiB (x y z r:Int):Bool:=Um x y (z+r)
theorem Xt (n:Int) (w:World):Calls Tryz.prog 99 #[.int .i64 n] w λe w'=>e= .returned (.bool (aE n))/\w=w':=by
 by_cases h1:0<=n
 ·
  go_enter func99,ntmps99
  go_wp2
  go_ret
  exact⟨Fo (by unfold aE;simp[h1]),rfl⟩
 ·
  go_enter func99,ntmps99
  go_wp2
  go_ret
  exact⟨Fo (by unfold aE;simp;omega),rfl⟩
theorem tH (x y z r:Int) (w:World) (hz: -1048576<=z/\z<=1048576) (hr:0<=r/\r<=3600000):
  Calls Tryz.prog 122 #[.agg #[.int .i64 x,.int .i64 y,.int .i64 z],.int .i64 r] w λe w'=>e= .returned (.bool (hiB x y z r))/\Below w.heap.size w w':=by
 obtain⟨z1,z2⟩:=hz
 obtain⟨r1,r2⟩:=hr
 go_enter func122,ntmps122
 go_wp2_with fail
 refine(Gx _ _ _ _).mono ?_
 rintro e w1 ⟨rfl,hb⟩
 go_wp2
 go_ret
 exact⟨rfl,((Below.refl _ _).alloc (Nat.le_refl _) _).trans (hb.mono (by simp))⟩
def tW (fx fy fz tx ty tz wait flight rise len:Int):Bool:=
 Um tx ty tz&&aE wait&&aE flight&&aE rise&&decide (wait+flight<=len)&&
  (if flight=0 then (tx==fx&&(ty==fy&&tz==fz))&&decide (rise=0) else if 0<rise then decide (flight%4=0)&&hiB fx fy fz rise&&hiB tx ty tz rise else true)
theorem Aj3 {fx fy fz tx ty tz wait flight rise len:Int} (h1:Um tx ty tz=true) (hT:(aE wait&&aE flight&&aE rise)=true):tW fx fy fz tx ty tz wait flight rise len=
  (decide (wait+flight<=len)&&(if flight=0 then (tx==fx&&(ty==fy&&tz==fz))&&decide (rise=0) else if 0<rise then decide (flight%4=0)&&hiB fx fy fz rise&&hiB tx ty tz rise else true)):=by
 simp only[Bool.and_eq_true] at hT
 unfold tW
 rw[h1,hT.1.1,hT.1.2,hT.2]
 rfl
theorem eJ (n:Int) (w:World) (h:0<=n/\n<=3600000):Calls Tryz.prog 99 #[.int .i64 n] w λe w'=>e= .returned (.bool true)/\w=w':=
 (Xt n w).mono λe w' ⟨he,hw⟩=>⟨by rw[he,(Rg n).2 h],hw⟩
theorem Th (fx fy fz tx ty tz wait flight rise len:Int) (w:World) (hf:Um fx fy fz=true):
  Calls Tryz.prog 100 #[.agg #[.int .i64 fx,.int .i64 fy,.int .i64 fz],.agg #[.int .i64 tx,.int .i64 ty,.int .i64 tz,.int .i64 wait,.int .i64 flight,.int .i64 rise],.int .i64 len] w λe w'=>e= .returned (.bool (tW fx fy fz tx ty tz wait flight rise len))/\Below w.heap.size w w':=by
 cases h1:Um tx ty tz
 ·
  have HF:Hid (tW fx fy fz tx ty tz wait flight rise len=false):=by unfold tW Hid;simp[h1]
  have H1:=Lib.hid h1
  clear h1 hf
  go_enter func100,ntmps100
  go_wp2_with fail
  refine(Gx _ _ _ _).mono ?_
  rintro e w1 ⟨rfl,hb⟩
  rw[H1.out]
  go_wp2_with fail
  go_ret
  exact⟨Fo HF.out.symm,(((Below.refl _ _).alloc (Nat.le_refl _) _).alloc (by simp) _).trans (hb.mono (by simp;omega))⟩
 ·
  have H1:=Lib.hid h1
  have HF:=Lib.hid hf
  clear h1 hf
  by_cases hT:(aE wait&&aE flight&&aE rise)=true
  ·
   have HT:=Lib.hid hT
   simp only[Bool.and_eq_true,Rg] at hT
   obtain⟨⟨⟨t1,t2⟩,t3,t4⟩,t5,t6⟩:=hT
   have B1:Hid (-1048576<=fz/\fz<=1048576):=((Mg _ _ _).1 HF.out).2.2
   have B2:Hid (-1048576<=tz/\tz<=1048576):=((Mg _ _ _).1 H1.out).2.2
   go_enter func100,ntmps100
   go_wp2_with fail
   refine(Gx _ _ _ _).mono ?_
   rintro e w1 ⟨rfl,hb⟩
   rw[H1.out]
   have hz:=hb.size
   have hB:=(((Below.refl _ _).alloc (Nat.le_refl _) _).alloc (by simp) _).trans (hb.mono (show w.heap.size<=_ by simp;omega))
   obtain⟨hc,hfz⟩:=Hb hb
   simp at hz hc
   go_wp2_with (first
    |(
     go_at_call 99
     refine(eJ _ _ ?_).mono ?_
     · omega
     rintro e w' ⟨rfl,rfl⟩)
    |(
     go_at_call 122
     refine(tH _ _ _ _ _ ?_ ?_).mono ?_
     · first|exact B1.out|exact B2.out
     · omega
     rintro e w2 ⟨rfl,hb2⟩
     have hB:=hB.trans (hb2.mono hB.size)
     have hc2:∀b o,b<w.heap.size+1+1->w2.cell? ⟨b,o,none⟩=_:=λb o h=>hb2.cell (p:=⟨b,o,none⟩) (show b<_ by omega)
     have hz:=Nat.le_trans hz hb2.size))
   all_goals
    go_ret
    refine⟨Fo ?_,by assumption⟩
    rw[Aj3 H1.out HT.out]
    clear hc
    go_light
    (try simp only[beq_iff_eq,beq_eq_false_iff_ne,ne_eq] at*)
    first
     |(simp[*];done)
     |(simp[*];omega)
     |(rw[Bool.eq_iff_iff];simp[*];omega)
  ·
   have HT:Hid (tW fx fy fz tx ty tz wait flight rise len=false):=by
    unfold tW Hid
    cases a1:aE wait<;>cases a2:aE flight<;>cases a3:aE rise<;>simp_all
   have HN:=Lib.hid hT
   clear hT
   go_enter func100,ntmps100
   go_wp2_with fail
   refine(Gx _ _ _ _).mono ?_
   rintro e w1 ⟨rfl,hb⟩
   rw[H1.out]
   have hz:=hb.size
   have hB:=(((Below.refl _ _).alloc (Nat.le_refl _) _).alloc (by simp) _).trans (hb.mono (show w.heap.size<=_ by simp;omega))
   obtain⟨hc,hfz⟩:=Hb hb
   simp at hz hc
   go_wp2_with (go_at_call 99;refine(Xt _ _).mono ?_;rintro e w' ⟨rfl,rfl⟩)
   all_goals first
    |(exfalso;apply HN.out;simp[*];done)
    |(go_ret;exact⟨Fo HT.out.symm,hB⟩)
def Ka (a b:V3) (f t k:Int):List Sg:=if Sv a b f t=true then [Ov a b f t k] else []
theorem Li (a b:V3) (f t k:Int):(Ka a b f t k).length<=1:=by unfold Ka;split<;>simp
theorem Gr.both {w:World} {a b:V3} {f t k:Int} {e:Ending} {w':World} (h:Gr w a b f t k e w'):
  ∃A c q,e= .returned (.tuple #[.slice A (Ka a b f t k).length c,.int .i64 q])/\Cw w' w.heap.size w'.heap.size (.slice A (Ka a b f t k).length c) (Ka a b f t k)/\Below w.heap.size w w'/\(q=if Sv a b f t=true then 0 else 2):=by
 unfold Gr at h
 unfold Ka
 split at h
 rename_i hf
 obtain⟨v,he,hp,hb⟩:=h
 obtain⟨A,c,rfl⟩:=hp.slice
 simp only[hf,if_true]
 exact⟨A,c,0,he,hp,hb,rfl⟩
 rename_i hf
 simp only[hf]
 exact⟨none,0,2,h.1,Cw.nil _ _,h.2,rfl⟩
theorem To (x y z f t:Int) (B base:Nat) (sv:Value) (ss:List Sg) (w:World) (hP:Cj w B base sv ss) (hB:B<base) (hbl:base<=w.heap.size) (hlen:ss.length<=1000000):
  Calls Tryz.prog 123 #[.agg #[.int .i64 x,.int .i64 y,.int .i64 z],.int .i64 f,.int .i64 t,.pointer (some ⟨B,0,none⟩)] w λe w'=>∃sv',e= .returned (.tuple #[])/\Cj w' B base sv' (ss++Ka ⟨x,y,z⟩ ⟨x,y,z⟩ f t 0)/\Below B w w':=by
 obtain⟨i0,hi0,hz0,hz1,hz2⟩:=info_parts Xp
 obtain⟨A0,c0,hsv⟩:=hP.slice
 subst hsv
 have hBlt:B<w.heap.size:=by omega
 go_enter func123,ntmps123
 go_wp2_with fail
 refine(iI _ _ _ _ _ _).mono ?_
 intro e w1 h
 obtain⟨A,c,q,rfl,hp,hb,hq⟩:=h.both
 clear h hq
 have hal:Below w.heap.size w (w.alloc (.cells #[.int .i64 x,.int .i64 y,.int .i64 z] 62)):=(Below.refl _ _).alloc (Nat.le_refl _) _
 have hP1:=(hP.up hal).up hb
 have hb1:Below w.heap.size w w1:=hal.trans (hb.mono (by simp))
 have hcell:=hP1.cell
 have hfro:=hP1.frozen 0
 have hl1:=Li ⟨x,y,z⟩ ⟨x,y,z⟩ f t 0
 obtain⟨cs,hrow,hsegs⟩:=hP1.row
 obtain⟨news,hsn,hgn⟩:=hp
 rw[World.size_alloc] at hgn hsn
 have hz:=hb.size
 simp only[World.size_alloc] at hz
 have hrl:∀g,(Value.slice A0 ss.length c0).ownBlock=some g->g<w.heap.size:=by
  intro g hg
  obtain⟨_,hr0,_⟩:=hP.row
  exact(hr0.lt g hg).2
 generalize hF:Ka ⟨x,y,z⟩ ⟨x,y,z⟩ f t 0=F at*
 have HF:=Lib.hid hF
 clear hF
 go_wp2_with (at_builtin;refine Ex rfl (.tmp 16) (.tmp 17) 45 rfl base 60 i0 _ 6 96 underlying45 hi0 hz0 hz1 hz2 rfl δ _ _ _ rfl hrow _ _ _ _ rfl hsn hgn.oneCell ?_ ?_ ?_ ?_)
 · unfold maxLen;omega
 · omega
 · omega
 intro v' w2 hown hg hat
 obtain⟨hb2,hP2,hBe⟩:=Cj.appended hP1.box hB ω hrow hsegs hgn (lo:=w.heap.size+1) ω (λg hg=>by have:=hrl g hg;omega) hown hg hat
 obtain⟨A2,c2,hv2⟩:=hP2.slice
 rw[List.length_append] at hv2
 subst hv2
 have hc2:w2.cell? ⟨B,0,none⟩=some (.slice A0 ss.length c0):=by simp[World.cell?,hb2]
 have hf2:w2.frozen? ⟨B,0,none⟩=false:=by simp[World.frozen?,hb2]
 clear hcell hfro hg hat hb2 hown
 go_wp2
 go_end0
 rw[HF.out]
 exact⟨_,rfl,hP2,(hb1.mono ω).trans hBe⟩
end Go.Proofs.YtikinphpaiajfaaGreat
namespace Go.Proofs.YtikinphpaiajfaaGreat
open Go.Proofs.Tryz
open Go.RowKit
def Zs (a b:V3) (wait flight start len:Int):List Sg:=
 if flight=0 then Ka a a start (start+len) 0
 else Ka a a start (start+wait) 0++Ka a b (start+wait) (start+wait+flight) 2++Ka b b (start+wait+flight) (start+len) 0
theorem Cj.at_ {W:World} {B base:Nat} {sv:Value} {ss:List Sg} (h:Cj W B base sv ss):Cw W base W.heap.size sv ss:=by
 obtain⟨cs,hr,hs⟩:=h.row
 exact⟨cs,Ce.own hr,hs.more λb hd=>⟨hd.1,hd.2.1⟩⟩
theorem dV {w wa:World} {B base:Nat} {sv:Value} {ss:List Sg} (h:Cw wa base wa.heap.size sv ss) (hB:B<base) (hw:w.heap.size<=B) (hb:Below w.heap.size w wa) {u:Value}:
  ∃v,Ending.returned sv= .returned v/\Cw (wa.setCell ⟨B,0,none⟩ u) w.heap.size (wa.setCell ⟨B,0,none⟩ u).heap.size v ss/\Below w.heap.size w (wa.setCell ⟨B,0,none⟩ u):=by
 have hg:wa.grownBy (wa.setCell ⟨B,0,none⟩ u) (some B):=Ks ⟨rfl,rfl,rfl,Nat.le_refl _,λ_ _ _=>rfl⟩ 0 u
 exact⟨sv,rfl,(h.keepG hg (Nat.le_refl _) (by rintro b ⟨rfl⟩;exact .inl hB)).more ω hg.size,hb.setCell hw u⟩
theorem uG (x y z x' y' z' wait flight rise start len:Int) (w:World) (hf:flight=0) (hs:0<=start/\start<=3600000) (hl:0<=len/\len<=3600000) (hw:0<=wait/\wait<=3600000):
  Calls Tryz.prog 101 #[.agg #[.int .i64 x,.int .i64 y,.int .i64 z],.agg #[.int .i64 x',.int .i64 y',.int .i64 z',.int .i64 wait,.int .i64 flight,.int .i64 rise],.int .i64 start,.int .i64 len] w λe w'=>∃v,e= .returned v/\Cw w' w.heap.size w'.heap.size v (Zs ⟨x,y,z⟩ ⟨x',y',z'⟩ wait flight start len)/\Below w.heap.size w w':=by
 have HS:Hid (Zs ⟨x,y,z⟩ ⟨x',y',z'⟩ wait flight start len=Ka ⟨x,y,z⟩ ⟨x,y,z⟩ start (start+len) 0):=by unfold Hid Zs;rw[if_pos hf]
 have hfb:(flight==0)=true:=by simp[hf]
 obtain⟨s1,s2⟩:=hs
 obtain⟨l1,l2⟩:=hl
 obtain⟨w1,w2⟩:=hw
 have f1:0<=flight:=by omega
 have f2:flight<=0:=by omega
 clear hf
 go_enter func101,ntmps101
 go_wp2_with fail
 refine(To _ _ _ _ _ _ (w.heap.size+1+1+1) _ [] _ (Cj.new _ _ _ (by simp)) ω (by simp) (by simp)).mono ?_
 rintro e wa ⟨sv,rfl,hP,hb⟩
 obtain⟨A,c,hsv⟩:=hP.slice
 subst hsv
 have hcell:=hP.cell
 have hfro:=hP.frozen 0
 have hz:=hb.size
 have hB:Below w.heap.size w wa:=((((Below.refl _ _).alloc (Nat.le_refl _) _).alloc (by simp) _).alloc (by simp;omega) _).trans (hb.mono ω)
 go_wp2
 refine bodyPost_ret (v:= .slice A ([]++Ka ⟨x,y,z⟩ ⟨x,y,z⟩ start (start+len) 0).length c) (by simp[results,results101,go_sem,hcell]) rfl ?_
 rw[HS.out]
 exact dV hP.at_ ω ω hB
theorem Aba (x y z x' y' z' wait flight rise start len:Int) (w:World) (hf:0<flight/\flight<=3600000) (hr:rise<=0) (hs:0<=start/\start<=3600000) (hl:0<=len/\len<=3600000) (hw:0<=wait/\wait<=3600000):
  Calls Tryz.prog 101 #[.agg #[.int .i64 x,.int .i64 y,.int .i64 z],.agg #[.int .i64 x',.int .i64 y',.int .i64 z',.int .i64 wait,.int .i64 flight,.int .i64 rise],.int .i64 start,.int .i64 len] w λe w'=>∃v,e= .returned v/\Cw w' w.heap.size w'.heap.size v (Zs ⟨x,y,z⟩ ⟨x',y',z'⟩ wait flight start len)/\Below w.heap.size w w':=by
 have HS:Hid (Zs ⟨x,y,z⟩ ⟨x',y',z'⟩ wait flight start len=Ka ⟨x,y,z⟩ ⟨x,y,z⟩ start (start+wait) 0++Ka ⟨x,y,z⟩ ⟨x',y',z'⟩ (start+wait) (start+wait+flight) 2++Ka ⟨x',y',z'⟩ ⟨x',y',z'⟩ (start+wait+flight) (start+len) 0):=by unfold Hid Zs;rw[if_neg ω]
 obtain⟨i0,hi0,hz0,hz1,hz2⟩:=info_parts Xp
 obtain⟨f1,f2⟩:=hf
 have hfb:(flight==0)=false:=beq_eq_false_iff_ne.2 ω
 obtain⟨s1,s2⟩:=hs
 obtain⟨l1,l2⟩:=hl
 obtain⟨w1,w2⟩:=hw
 go_enter func101,ntmps101
 go_wp2_with fail
 refine(To _ _ _ _ _ _ (w.heap.size+1+1+1) _ [] _ (Cj.new _ _ _ (by simp)) ω (by simp) (by simp)).mono ?_
 rintro e wa ⟨sv,rfl,hP,hb⟩
 obtain⟨A,c,hsv⟩:=hP.slice
 subst hsv
 have hz:=hb.size
 have hB:Below w.heap.size w wa:=((((Below.refl _ _).alloc (Nat.le_refl _) _).alloc (by simp) _).alloc (by simp;omega) _).trans (hb.mono ω)
 obtain⟨hc,hfz⟩:=Hb hb
 simp only[World.size_alloc] at hz
 go_wp2_with fail
 refine(Ys _ _ _ _ _ _ _ _ _).mono ?_
 intro e wb h
 obtain⟨A1,c1,q,rfl,hp,hb1,hq⟩:=h.both
 clear h hq
 have hPb:=hP.up hb1
 have hBb:=hB.trans (hb1.mono hB.size)
 have hc1:∀b o,b<w.heap.size+1+1->wb.cell? ⟨b,o,none⟩=_:=λb o h=>(hb1.cell (p:=⟨b,o,none⟩) (show b<_ by omega)).trans (hc b o h)
 have hcell:=hPb.cell
 have hfro:=hPb.frozen 0
 obtain⟨cs,hrow,hsegs⟩:=hPb.row
 obtain⟨news,hsn,hgn⟩:=hp
 have hl1:=Li ⟨x,y,z⟩ ⟨x,y,z⟩ start (start+wait) 0
 have hl2:=Li ⟨x,y,z⟩ ⟨x',y',z'⟩ (start+wait) (start+wait+flight) 2
 have hrl:∀g,(Value.slice A ([]++Ka ⟨x,y,z⟩ ⟨x,y,z⟩ start (start+wait) 0).length c).ownBlock=some g->g<wa.heap.size:=by
  intro g hg
  obtain⟨_,hr0,_⟩:=hP.row
  exact(hr0.lt g hg).2
 have hzb:=hb1.size
 generalize hF1:Ka ⟨x,y,z⟩ ⟨x,y,z⟩ start (start+wait) 0=L1 at*
 generalize hF2:Ka ⟨x,y,z⟩ ⟨x',y',z'⟩ (start+wait) (start+wait+flight) 2=L2 at*
 clear hF1 hF2 hc hfz
 simp only[List.nil_append] at*
 go_wp2_with (at_builtin;refine Ex rfl (.tmp 62) (.tmp 63) 45 rfl (w.heap.size+1+1+1) 60 i0 _ 6 96 underlying45 hi0 hz0 hz1 hz2 rfl δ _ _ _ rfl hrow _ _ _ _ rfl hsn hgn.oneCell ?_ ?_ ?_ ?_)
 · unfold maxLen;omega
 · omega
 · omega
 intro v' wc hown hg hat
 obtain⟨hbc,hPc,hBe⟩:=Cj.appended hPb.box ω ω hrow hsegs hgn ω hrl hown hg hat
 obtain⟨A2,c2,hv2⟩:=hPc.slice
 rw[List.length_append] at hv2
 subst hv2
 have hcc:wc.cell? ⟨w.heap.size+1+1,0,none⟩=some (.slice A L1.length c):=by simp[World.cell?,hbc]
 have hfc:wc.frozen? ⟨w.heap.size+1+1,0,none⟩=false:=by simp[World.frozen?,hbc]
 have hcs:∀b o,b<w.heap.size+1+1->(wc.setCell ⟨w.heap.size+1+1,0,none⟩ (.slice A2 (L1.length+L2.length) c2)).cell? ⟨b,o,none⟩=_:=λb o h=>(hBe.cell (p:=⟨b,o,none⟩) (show b<_ by omega)).trans (hc1 b o h)
 have hBc:=hBb.trans (hBe.mono ω)
 have hzc:=hBe.size
 clear hcell hfro hown hg hat hbc hc1
 go_wp2_with fail
 refine(To _ _ _ _ _ _ (w.heap.size+1+1+1) _ (L1++L2) _ hPc ω ω (by simp;omega)).mono ?_
 rintro e wd ⟨sv,rfl,hPd,hbd⟩
 obtain⟨A3,c3,hsv⟩:=hPd.slice
 subst hsv
 have hcell:=hPd.cell
 have hfro:=hPd.frozen 0
 have hBd:=hBc.trans (hbd.mono ω)
 clear hcs hcc hfc
 go_wp2
 refine bodyPost_ret (v:= .slice A3 (L1++L2++Ka ⟨x',y',z'⟩ ⟨x',y',z'⟩ (start+wait+flight) (start+len) 0).length c3) (by simp[results,results101,go_sem,hcell]) rfl ?_
 rw[HS.out]
 exact dV hPd.at_ ω ω hBd
end Go.Proofs.YtikinphpaiajfaaGreat