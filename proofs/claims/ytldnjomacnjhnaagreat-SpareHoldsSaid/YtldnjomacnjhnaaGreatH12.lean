/- Part 12 of the proof of SH.row_holds, joined by program: no condition beyond the row's own. -/
import Derived.Test.YtldnjomacnjhnaaGreatH11
import Derived.MapKept
import Derived.WideKeyRuns
import Derived.Laws.StructEq
set_option maxRecDepth 100000
set_option maxHeartbeats 40000000
namespace Go.Proofs.YtldnjomacnjhnaaGreat
open Go.RowKit Go.MapKept
def vec (x y z:Int):Value:= .agg #[.int .i64 x,.int .i64 y,.int .i64 z]
theorem zU (x y z x' y' z':Int) (w:World):(Op.equal 36 (.agg #[.int .i64 x,.int .i64 y,.int .i64 z]) (.agg #[.int .i64 x',.int .i64 y',.int .i64 z'])).run Tryz.prog w= .ok (x==x'&&(y==y'&&z==z')) w:=by
 unfold Op.equal Op.maxDepth
 rw[run_equalIn_struct w 9999 36 _ _ κ κ]
 have hf:(Tryz.prog.fieldsOf 36).toList.map (λf=>(f.name,f.type,f.offset))=[("X",3,0),("Y",3,1),("Z",3,2)]:=by kernel_rfl
 generalize (Tryz.prog.fieldsOf 36).toList=l at hf
 have hl:l.length=3:=by have:=congrArg List.length hf;simpa using this
 obtain⟨f1,f2,f3,rfl⟩:∃f1 f2 f3,l=[f1,f2,f3]:=by
  match l,hl with
  |[f1,f2,f3],_=>exact⟨f1,f2,f3,rfl⟩
 simp only[List.map_cons,List.map_nil,List.cons.injEq,Prod.mk.injEq,and_true] at hf
 obtain⟨⟨a1,a2,a3⟩,⟨b1,b2,b3⟩,c1,c2,c3⟩:=hf
 have hp:∀(xs:Array Value) (o:Nat) (v:Value),xs[o]?=some v->(part 3 xs o).run Tryz.prog w= .ok v w:=λxs o v h=>run_part_plain w κ h
 have p1:=hp #[.int .i64 x,.int .i64 y,.int .i64 z] 0 (.int .i64 x) rfl
 have p2:=hp #[.int .i64 x,.int .i64 y,.int .i64 z] 1 (.int .i64 y) rfl
 have p3:=hp #[.int .i64 x,.int .i64 y,.int .i64 z] 2 (.int .i64 z) rfl
 have q1:=hp #[.int .i64 x',.int .i64 y',.int .i64 z'] 0 (.int .i64 x') rfl
 have q2:=hp #[.int .i64 x',.int .i64 y',.int .i64 z'] 1 (.int .i64 y') rfl
 have q3:=hp #[.int .i64 x',.int .i64 y',.int .i64 z'] 2 (.int .i64 z') rfl
 have he:∀a b:Int,(Op.equalIn 9999 3 (.int .i64 a) (.int .i64 b)).run Tryz.prog w= .ok (a==b) w:=λa b=>run_equalIn_int w 9998 3 .i64 .i64 a b Tryz.underlying3
 simp only[Op.eqFields,a1,a2,a3,b1,b2,b3,c1,c2,c3,Sem.run_bind,Sem.run_ite,p1,p2,p3,q1,q2,q3,he,Result.andThen_ok]
 cases h1:(x==x')<;>cases h2:(y==y')<;>cases h3:(z==z')<;>simp
def Rg (eqv:Value->Value->Bool) (k:Value):List MapEntry->Nat->Option (Nat×Value)
 |[],_=>none
 |e::es,i=>if eqv k e.key then some (i,e.val) else Rg eqv k es (i+1)
structure Qw (kt:TypeId) (IsK:Value->Prop) (eqv:Value->Value->Bool):Prop where
 chk:∀em k w,IsK k->(Instr.checkKey em 10000 kt k).run Tryz.prog w= .ok () w
 find:∀k (es:List MapEntry) w,IsK k->(∀e∈es,IsK e.key)->(Instr.findKey kt k es).run Tryz.prog w= .ok (Rg eqv k es 0) w
 same:∀a b,IsK a->IsK b->eqv a b=true->a=b
 refl:∀a,IsK a->eqv a a=true
def Re:Value->Value->Bool| .int _ a,.int _ b=>a==b|_,_=>false
def eV:Value->Value->Bool| .string a,.string b=>a==b|_,_=>false
def eW:Value->Value->Bool
 | .agg xs,.agg ys=>match xs.toList,ys.toList with
  |[.int _ x,.int _ y,.int _ z],[.int _ x',.int _ y',.int _ z']=>x==x'&&(y==y'&&z==z')
  |_,_=>false
 |_,_=>false
theorem AeD (kt:TypeId) (h:Tryz.prog.underlying kt=some (.int .i64)):Qw kt (λv=>∃n,v= .int .i64 n) Re where
 chk:=by
  rintro em k w ⟨n,rfl⟩
  exact run_checkKey h (by simp[IsKey]) em 9999
 find:=by
  rintro k es w ⟨n,rfl⟩ hes
  refine run_findKey h ?_
  generalize 0=i
  induction es generalizing i with
  |nil=>rfl
  |cons e es ih=>
   obtain⟨m,hm⟩:=hes e (by simp)
   simp only[Instr.findNow,hm,Instr.sameNow,if_true,Rg,Re]
   cases n==m
   simpa using ih (λe he=>hes e (by simp[he])) (i+1)
   simp
 same:=by rintro _ _ ⟨n,rfl⟩ ⟨m,rfl⟩ h;simp[Re] at h;rw[h]
 refl:=by rintro _ ⟨n,rfl⟩;simp[Re]
theorem qK (a:ByteArray):(a==a)=true:=by rw[beq_toListBytes];simp
theorem AaM {a b:ByteArray} (h:(a==b)=true):a=b:=by
 rw[beq_toListBytes,ByteArray.toList_eq,ByteArray.toList_eq] at h
 obtain⟨⟨x⟩⟩:=a
 obtain⟨⟨y⟩⟩:=b
 have e:x=y:=by simpa using h
 rw[e]
theorem Abs (kt:TypeId) (h:Tryz.prog.underlying kt=some .string):Qw kt (λv=>∃s,v= .string s) eV where
 chk:=by
  rintro em k w ⟨n,rfl⟩
  exact run_checkKey h (by simp[IsKey]) em 9999
 find:=by
  rintro k es w ⟨n,rfl⟩ hes
  refine run_findKey h ?_
  generalize 0=i
  induction es generalizing i with
  |nil=>rfl
  |cons e es ih=>
   obtain⟨m,hm⟩:=hes e (by simp)
   simp only[Instr.findNow,hm,Instr.sameNow,Rg,eV]
   cases n==m
   simpa using ih (λe he=>hes e (by simp[he])) (i+1)
   simp
 same:=by rintro _ _ ⟨n,rfl⟩ ⟨m,rfl⟩ h;rw[AaM h]
 refl:=by rintro _ ⟨n,rfl⟩;exact qK n
theorem Abt:Qw 36 (λv=>∃x y z,v=vec x y z) eW where
 chk:=by
  rintro em k w ⟨x,y,z,rfl⟩
  unfold vec
  kernel_rfl
 find:=by
  rintro k es w ⟨x,y,z,rfl⟩ hes
  rw[run_findKey_eq w κ]
  generalize 0=i
  induction es generalizing i with
  |nil=>simp[Instr.findAsking,Rg]
  |cons e es ih=>
   obtain⟨x',y',z',hm⟩:=hes e (by simp)
   unfold vec at hm
   have hq:eW (vec x y z) (.agg #[.int .i64 x',.int .i64 y',.int .i64 z'])=(x==x'&&(y==y'&&z==z')):=rfl
   simp only[Instr.findAsking,Sem.run_bind,hm,Rg,hq]
   have hv:(Op.equal 36 (vec x y z) (.agg #[.int .i64 x',.int .i64 y',.int .i64 z'])).run Tryz.prog w=_:=zU x y z x' y' z' w
   simp only[hv,Result.andThen_ok]
   cases (x==x'&&(y==y'&&z==z'))
   simpa using ih (λe he=>hes e (by simp[he])) (i+1)
   simp
 same:=by
  rintro _ _ ⟨x,y,z,rfl⟩ ⟨x',y',z',rfl⟩ h
  have:(x==x'&&(y==y'&&z==z'))=true:=h
  simp at this
  rw[this.1,this.2.1,this.2.2]
 refl:=by rintro _ ⟨x,y,z,rfl⟩;show (x==x&&(y==y&&z==z))=true;simp
def Fa (w:World) (b:Nat) (L:List (Value×Value)):Prop:=
 ∃es clock,w.heap[b]?=some (.map es clock)/\es.toList.map (λe=>(e.key,e.val))=L/\∀e∈es.toList,e.born<clock
theorem Ud {eqv:Value->Value->Bool} {k:Value}:∀{es:List MapEntry} {i:Nat},(∀p∈es.map (λe=>(e.key,e.val)),eqv k p.1=false)->Rg eqv k es i=none
 |[],_,_=>rfl
 |e::es,i,h=>by
  have h1:=h (e.key,e.val) (by simp)
  unfold Rg
  rw[if_neg (by rw[h1];exact Bool.false_ne_true)]
  exact Ud λp hp=>h p (by simp at hp ⊢;exact .inr hp)
theorem eZ {eqv:Value->Value->Bool} {k:Value}:∀{es:List MapEntry} {i:Nat},(Rg eqv k es i).map (·.2)=((es.map (λe=>(e.key,e.val))).find? (λp=>eqv k p.1)).map (·.2)
 |[],_=>rfl
 |e::es,i=>by
  unfold Rg
  simp only[List.map_cons,List.find?_cons]
  cases h:eqv k e.key
  simpa using eZ
  simp
theorem Fa.new (w:World) (b:Nat) (hb:w.heap.size=b):Fa (w.alloc (.map #[] 0)) b []:=by
 subst hb
 exact⟨#[],0,heap_alloc_new w _,rfl,by simp⟩
theorem Fa.lt {w:World} {b:Nat} {L:List (Value×Value)} (h:Fa w b L):b<w.heap.size:=by
 obtain⟨es,c,h,_⟩:=h
 exact(Array.getElem?_eq_some_iff.1 h).1
theorem Fa.keep {w w':World} {b:Nat} {L:List (Value×Value)} (h:Fa w b L) (hk:w'.heap[b]?=w.heap[b]?):Fa w' b L:=by
 obtain⟨es,c,h,e,hs⟩:=h
 exact⟨es,c,hk.trans h,e,hs⟩
theorem Fa.below {w w':World} {b B:Nat} {L:List (Value×Value)} (h:Fa w b L) (hb:Below B w w') (hB:b<B):Fa w' b L:=h.keep (hb.block b hB)
theorem Fa.alloc {w:World} {b:Nat} {L:List (Value×Value)} (h:Fa w b L) (o:Obj):Fa (w.alloc o) b L:=h.keep (Below.heap_alloc w o b h.lt)
theorem Fa.look {w:World} {b:Nat} {L:List (Value×Value)} {t kt et:TypeId} {IsK:Value->Prop} {eqv:Value->Value->Bool} (h:Fa w b L) (ht:Tryz.prog.underlying t=some (.map kt et)) (K:Qw kt IsK eqv)
  (hL:∀p∈L,IsK p.1) (k:Value) (hk:IsK k) (z:Value) (hz:(zeroValue et).run Tryz.prog w= .ok z w):
  (Instr.lookup t (.map (some b)) k false).run Tryz.prog w= .ok (((L.find? (λp=>eqv k p.1)).map (·.2)).getD z) w:=by
 obtain⟨es,c,hb,rfl,hst⟩:=h
 have hes:∀e∈es.toList,IsK e.key:=λe he=>hL (e.key,e.val) (List.mem_map.2 ⟨e,he,rfl⟩)
 rw[<-eZ (i:=0)]
 unfold Instr.lookup
 simp only[Sem.run_bind,run_underlying ht,Result.andThen_ok,Go.MapKept.run_getObj_map hb,Sem.run_pure,K.chk _ k _ hk,K.find k es.toList w hk hes]
 cases Rg eqv k es.toList 0 with
 |none=>simp[hz]
 |some p=>simp
theorem Fa.put {w:World} {b:Nat} {L:List (Value×Value)} {t kt et:TypeId} {IsK:Value->Prop} {eqv:Value->Value->Bool} (h:Fa w b L) (ht:Tryz.prog.underlying t=some (.map kt et)) (K:Qw kt IsK eqv)
  (hL:∀p∈L,IsK p.1) (k v:Value) (hk:IsK k) (hn:∀p∈L,eqv k p.1=false):
  ∃w',(Instr.mapUpdate t (.map (some b)) k v).run Tryz.prog w= .ok () w'/\Fa w' b (L++[(k,v)])/\w.grownBy w' (some b):=by
 obtain⟨es,c,hb,rfl,hst⟩:=h
 have hes:∀e∈es.toList,IsK e.key:=λe he=>hL (e.key,e.val) (List.mem_map.2 ⟨e,he,rfl⟩)
 refine⟨{ w with heap:=w.heap.setIfInBounds b (.map (es.push { key:=k,val:=v,born:=c }) (c+1)) },?_,⟨_,_,(heap_set hb).1,by simp,by
  intro e he
  simp at he
  rcases he with he|rfl
  have:=hst e (by simpa using he);omega
  simp⟩,⟨rfl,rfl,rfl,by simp,λi _ hne=>(heap_set hb).2 i (λe=>hne (by rw[e]))⟩⟩
 unfold Instr.mapUpdate
 simp only[Sem.run_bind,run_underlying ht,Result.andThen_ok,Go.MapKept.run_getObj_map hb,K.chk _ k _ hk,K.find k es.toList w hk hes,Ud hn]
 exact Go.MapKept.run_setObj_map _ hb
theorem Ol {w:World} {ops:Array Oper} {rest:List Oper} {o:Oper} {a:Act} {Q:Exit->Act->World->Prop} (hg:o.guard=none) (m x v:Operand) (t:TypeId) (hop:o.op=Op.insert t m x v)
  {b:Nat} {L:List (Value×Value)} {kt et:TypeId} {IsK:Value->Prop} {eqv:Value->Value->Bool} (ht:Tryz.prog.underlying t=some (.map kt et)) (K:Qw kt IsK eqv) (hm:a.eval m= .map (some b)) (h:Fa w b L)
  (hL:∀p∈L,IsK p.1) (k u:Value) (hx:a.eval x=k) (hv:a.eval v=u) (hk:IsK k) (hn:∀p∈L,eqv k p.1=false)
  (hK:∀w',Fa w' b (L++[(k,u)])->w.grownBy w' (some b)->wpList Tryz.prog ops Q rest (a.put o.dst undef) w'):wpList Tryz.prog ops Q (o::rest) a w:=by
 refine wpList_plain hg λK' hK'=>?_
 obtain⟨w',hrun,r1,r2⟩:=h.put ht K hL k u hk hn
 unfold Oper.wp
 simp[execOp,hop,hm,hx,hv,hrun,Result.andThen]
 exact hK' _ _ (hK w' r1 r2)
theorem eD {w:World} {ops:Array Oper} {rest:List Oper} {o:Oper} {a:Act} {Q:Exit->Act->World->Prop} (hg:o.guard=none) (m x v:Operand) (t:TypeId) (hop:o.op=Op.mapUpdate t m x v)
  {b:Nat} {L:List (Value×Value)} {kt et:TypeId} {IsK:Value->Prop} {eqv:Value->Value->Bool} (ht:Tryz.prog.underlying t=some (.map kt et)) (K:Qw kt IsK eqv) (hm:a.eval m= .map (some b)) (h:Fa w b L)
  (hL:∀p∈L,IsK p.1) (k u:Value) (hx:a.eval x=k) (hv:a.eval v=u) (hk:IsK k) (hn:∀p∈L,eqv k p.1=false)
  (hK:∀w',Fa w' b (L++[(k,u)])->w.grownBy w' (some b)->wpList Tryz.prog ops Q rest (a.put o.dst undef) w'):wpList Tryz.prog ops Q (o::rest) a w:=by
 refine wpList_plain hg λK' hK'=>?_
 obtain⟨w',hrun,r1,r2⟩:=h.put ht K hL k u hk hn
 unfold Oper.wp
 simp[execOp,hop,hm,hx,hv,hrun,Result.andThen]
 exact hK' _ _ (hK w' r1 r2)
theorem pT {w:World} {ops:Array Oper} {rest:List Oper} {o:Oper} {a:Act} {Q:Exit->Act->World->Prop} (hg:o.guard=none) (m x:Operand) (t:TypeId) (hop:o.op=Op.lookup t m x false)
  {b:Nat} {L:List (Value×Value)} {kt et:TypeId} {IsK:Value->Prop} {eqv:Value->Value->Bool} (ht:Tryz.prog.underlying t=some (.map kt et)) (K:Qw kt IsK eqv) (hm:a.eval m= .map (some b)) (h:Fa w b L)
  (hL:∀p∈L,IsK p.1) (k:Value) (hx:a.eval x=k) (hk:IsK k) (z:Value) (hz:(zeroValue et).run Tryz.prog w= .ok z w) (r:Value) (hr:((L.find? (λp=>eqv k p.1)).map (·.2)).getD z=r)
  (hK:wpList Tryz.prog ops Q rest (a.put o.dst r) w):wpList Tryz.prog ops Q (o::rest) a w:=by
 refine wpList_plain hg λK' hK'=>?_
 have hrun:=h.look ht K hL k hk z hz
 rw[hr] at hrun
 unfold Oper.wp
 simp[execOp,hop,hm,hx,hrun,Result.andThen]
 exact hK' _ _ hK
def Aa5 (w:World) (b:Nat) (L:List (Value×Value)) (k:Value) (c:Nat):Prop:=
 ∃(es:Array MapEntry) (z:Value),w.heap[b]?=some (.map (es.push { key:=k,val:=z,born:=c }) (c+1))/\es.toList.map (λe=>(e.key,e.val))=L/\∀e∈es.toList,e.born<c
theorem Fa.entry {w:World} {b:Nat} {L:List (Value×Value)} {t kt et:TypeId} {IsK:Value->Prop} {eqv:Value->Value->Bool} (h:Fa w b L) (ht:Tryz.prog.underlying t=some (.map kt et)) (K:Qw kt IsK eqv)
  (hL:∀p∈L,IsK p.1) (k:Value) (hk:IsK k) (hn:∀p∈L,eqv k p.1=false) (z:Value) (hz:(zeroValue et).run Tryz.prog w= .ok z w):
  ∃w' c,(Instr.mapEntry t (.map (some b)) k).run Tryz.prog w= .ok (.tuple #[z,.int .i64 (c:Nat)]) w'/\Aa5 w' b L k c/\w.grownBy w' (some b):=by
 obtain⟨es,c,hb,rfl,hst⟩:=h
 have hes:∀e∈es.toList,IsK e.key:=λe he=>hL (e.key,e.val) (List.mem_map.2 ⟨e,he,rfl⟩)
 refine⟨{ w with heap:=w.heap.setIfInBounds b (.map (es.push { key:=k,val:=z,born:=c }) (c+1)) },c,?_,⟨es,z,(heap_set hb).1,rfl,hst⟩,⟨rfl,rfl,rfl,by simp,λi _ hne=>(heap_set hb).2 i (λe=>hne (by rw[e]))⟩⟩
 unfold Instr.mapEntry
 simp only[Sem.run_bind,run_underlying ht,Result.andThen_ok,Go.MapKept.run_getObj_map hb,K.chk _ k _ hk,K.find k es.toList w hk hes,Ud hn,hz]
 rw[Go.MapKept.run_setObj_map _ hb]
 rfl
theorem Aa5.store {w:World} {b c:Nat} {L:List (Value×Value)} {k:Value} (h:Aa5 w b L k c) (t:TypeId) (v:Value):
  ∃w',(Instr.entryStore t (.map (some b)) (.int .i64 (c:Nat)) v).run Tryz.prog w= .ok () w'/\Fa w' b (L++[(k,v)])/\w.grownBy w' (some b):=by
 obtain⟨es,z,hb,rfl,hst⟩:=h
 have hidx:(es.push { key:=k,val:=z,born:=c }).findIdx? (λe=>(e.born:Int)==(c:Int))=some es.size:=by
  rw[Array.findIdx?_eq_some_iff_getElem]
  refine⟨by simp,by simp,λj hj=>?_⟩
  have hj':j<es.size:=by simpa using hj
  rw[Array.getElem_push_lt hj']
  have:=hst es[j] (by simp)
  simp
  omega
 refine⟨{ w with heap:=w.heap.setIfInBounds b (.map ((es.push { key:=k,val:=z,born:=c }).modify es.size λe=>{ e with val:=v }) (c+1)) },?_,⟨_,_,(heap_set hb).1,?_,?_⟩,⟨rfl,rfl,rfl,by simp,λi _ hne=>(heap_set hb).2 i (λe=>hne (by rw[e]))⟩⟩
 unfold Instr.entryStore
 simp only[Sem.run_bind,Result.andThen_ok,Go.MapKept.run_getObj_map hb,asInt,asIntOf,Sem.run_pure,hidx]
 exact Go.MapKept.run_setObj_map _ hb
 have e:(es.push { key:=k,val:=z,born:=c }).modify es.size (λe=>{ e with val:=v })=es.push { key:=k,val:=v,born:=c }:=by
  apply Array.ext
  simp
  intro i h1 h2
  rw[Array.getElem_modify]
  by_cases hi:es.size=i
  subst hi;simp
  have:i<es.size:=by simp at h2;omega
  rw[if_neg hi,Array.getElem_push_lt this,Array.getElem_push_lt this]
 rw[e]
 simp
 have e:(es.push { key:=k,val:=z,born:=c }).modify es.size (λe=>{ e with val:=v })=es.push { key:=k,val:=v,born:=c }:=by
  apply Array.ext
  simp
  intro i h1 h2
  rw[Array.getElem_modify]
  by_cases hi:es.size=i
  subst hi;simp
  have:i<es.size:=by simp at h2;omega
  rw[if_neg hi,Array.getElem_push_lt this,Array.getElem_push_lt this]
 rw[e]
 intro e he
 simp at he
 rcases he with he|rfl
 have:=hst e (by simpa using he);omega
 simp
theorem kR {w:World} {ops:Array Oper} {rest:List Oper} {o:Oper} {a:Act} {Q:Exit->Act->World->Prop} (hg:o.guard=none) (m x:Operand) (t:TypeId) (hop:o.op=Op.mapEntry t m x)
  {b:Nat} {L:List (Value×Value)} {kt et:TypeId} {IsK:Value->Prop} {eqv:Value->Value->Bool} (ht:Tryz.prog.underlying t=some (.map kt et)) (K:Qw kt IsK eqv) (hm:a.eval m= .map (some b)) (h:Fa w b L)
  (hL:∀p∈L,IsK p.1) (k:Value) (hx:a.eval x=k) (hk:IsK k) (hn:∀p∈L,eqv k p.1=false) (z:Value) (hz:(zeroValue et).run Tryz.prog w= .ok z w)
  (hK:∀w' c,Aa5 w' b L k c->w.grownBy w' (some b)->wpList Tryz.prog ops Q rest (a.put o.dst (.tuple #[z,.int .i64 (c:Nat)])) w'):wpList Tryz.prog ops Q (o::rest) a w:=by
 refine wpList_plain hg λK' hK'=>?_
 obtain⟨w',c,hrun,r1,r2⟩:=h.entry ht K hL k hk hn z hz
 unfold Oper.wp
 simp[execOp,hop,hm,hx,hrun,Result.andThen]
 exact hK' _ _ (hK w' c r1 r2)
theorem Wu {w:World} {ops:Array Oper} {rest:List Oper} {o:Oper} {a:Act} {Q:Exit->Act->World->Prop} (hg:o.guard=none) (m x v:Operand) (t:TypeId) (hop:o.op=Op.entryStore t m x v)
  {b c:Nat} {L:List (Value×Value)} {k:Value} (hm:a.eval m= .map (some b)) (h:Aa5 w b L k c) (hx:a.eval x= .int .i64 (c:Nat)) (u:Value) (hv:a.eval v=u)
  (hK:∀w',Fa w' b (L++[(k,u)])->w.grownBy w' (some b)->wpList Tryz.prog ops Q rest (a.put o.dst undef) w'):wpList Tryz.prog ops Q (o::rest) a w:=by
 refine wpList_plain hg λK' hK'=>?_
 obtain⟨w',hrun,r1,r2⟩:=h.store t u
 unfold Oper.wp
 simp[execOp,hop,hm,hx,hv,hrun,Result.andThen]
 exact hK' _ _ (hK w' r1 r2)
end Go.Proofs.YtldnjomacnjhnaaGreat
namespace Go.Proofs.YtldnjomacnjhnaaGreat
open Go.Proofs.Tryz
open Go.RowKit
def strs (l:List ByteArray):List Value:=l.map .string
theorem AdR (l:List ByteArray) (k:Nat) (h:k<l.length):(strs l)[k]?=some (.string l[k]):=by simp[strs,h]
def V3.val (v:V3):Value:= .agg #[.int .i64 v.x,.int .i64 v.y,.int .i64 v.z]
def eqV (a b:V3):Bool:=a.x==b.x&&(a.y==b.y&&a.z==b.z)
def Pt (names:List ByteArray) (homes:List V3) (k:Nat):Bool:=
 Ox (names.getD k ByteArray.empty)&& !((names.take k).any λt=>names.getD k ByteArray.empty==t)&&V3.pt' (homes.getD k V3.zero)&& !((homes.take k).any λt=>eqV (homes.getD k V3.zero) t)
where V3.pt' (v:V3):Bool:=Th v.x v.y v.z
def Rb (names:List ByteArray) (homes:List V3):Bool:=
 decide (1<=names.length)&&decide (names.length<=64)&&decide (homes.length=names.length)&&(List.range names.length).all (Pt names homes)
def Mu (l:List ByteArray):List (Value×Value):=l.map λs=>(.string s,.bool true)
def Lp (l:List V3):List (Value×Value):=l.map λv=>(v.val,.bool true)
theorem rJ (l:List ByteArray) (s:ByteArray):(((Mu l).find? (λp=>eV (.string s) p.1)).map (·.2)).getD (.bool false)= .bool (l.any λt=>s==t):=by
 induction l with
 |nil=>rfl
 |cons t l ih=>
  unfold Mu at*
  simp only[List.map_cons,List.find?_cons,List.any_cons]
  have e:eV (.string s) (.string t)=(s==t):=rfl
  rw[e]
  cases s==t
  simpa using ih
  rfl
theorem rH (l:List V3) (v:V3):(((Lp l).find? (λp=>eW v.val p.1)).map (·.2)).getD (.bool false)= .bool (l.any λt=>eqV v t):=by
 induction l with
 |nil=>rfl
 |cons t l ih=>
  unfold Lp at*
  simp only[List.map_cons,List.find?_cons,List.any_cons]
  have e:eW v.val t.val=eqV v t:=rfl
  rw[e]
  cases eqV v t
  simpa using ih
  rfl
theorem Yi (l:List ByteArray):∀p∈Mu l,∃s,p.1= .string s:=by
 intro p hp;unfold Mu at hp;obtain⟨s,_,rfl⟩:=List.mem_map.1 hp;exact⟨s,rfl⟩
theorem Yc (l:List V3):∀p∈Lp l,∃x y z,p.1=vec x y z:=by
 intro p hp;unfold Lp at hp;obtain⟨v,_,rfl⟩:=List.mem_map.1 hp;exact⟨v.x,v.y,v.z,rfl⟩
theorem nW (l:List ByteArray) (s:ByteArray) (h:(l.any λt=>s==t)=false):∀p∈Mu l,eV (.string s) p.1=false:=by
 intro p hp;unfold Mu at hp;obtain⟨t,ht,rfl⟩:=List.mem_map.1 hp
 rw[List.any_eq_false] at h
 have:=h t ht
 show (s==t)=false
 simpa using this
theorem nH (l:List V3) (v:V3) (h:(l.any λt=>eqV v t)=false):∀p∈Lp l,eW v.val p.1=false:=by
 intro p hp;unfold Lp at hp;obtain⟨t,ht,rfl⟩:=List.mem_map.1 hp
 rw[List.any_eq_false] at h
 have:=h t ht
 show eqV v t=false
 simpa using this
theorem AcW {names:List ByteArray} {homes:List V3} {k:Nat} (hk:k<names.length) (h:Pt names homes k=false):Rb names homes=false:=by
 have:(List.range names.length).all (Pt names homes)=false:=by
  rw[List.all_eq_false];exact⟨k,List.mem_range.2 hk,by rw[h];simp⟩
 unfold Rb;rw[this];simp
theorem wY {names:List ByteArray} {homes:List V3} {k:Nat} (h:(List.range k).all (Pt names homes)=true) (hs:Pt names homes k=true):(List.range (k+1)).all (Pt names homes)=true:=by
 rw[List.range_succ,List.all_append,h];simp[hs]
theorem AaS (names:List ByteArray) (homes:List V3) (vn vh va:Value) (w:World) (hn:Cc w 0 w.heap.size 1 vn names.length (strs names)) (hh:Cc w 0 w.heap.size 3 vh homes.length (Jf homes)) (hva:∃A n c,va= .slice A n c)
  (hsz:∀s∈names,s.size<=maxLen):
  Calls Tryz.prog 59 #[.agg #[vn,vh,va]] w λe w'=>e= .returned (.bool (Rb names homes))/\Below w.heap.size w w':=by
 obtain⟨An,cn,rfl⟩:=hn.slice
 obtain⟨Ah,ch,rfl⟩:=hh.slice
 obtain⟨Aa,na,ca,rfl⟩:=hva
 have hmm:=@run_makeMap Tryz.prog
 by_cases hpre:1<=names.length/\names.length<=64/\homes.length=names.length
 ·
  obtain⟨p1,p2,p3⟩:=hpre
  have HP3:=Lib.hid p3
  have hne:((homes.length:Int) != (names.length:Int))=false:=by simp[p3]
  clear p3
  go_enter func59,ntmps59
  go_wp2_with fail
  go_loopw [2,6,7,29] (λ_ _ _ i wr=>∃k:Nat,k<=names.length/\i= .int .i64 k/\Fa wr (w.heap.size+1) (Mu (names.take k))/\Fa wr (w.heap.size+1+1) (Lp (homes.take k))/\
   wr.heap[w.heap.size]?=some (.cells #[.slice An names.length cn,.slice Ah homes.length ch,.slice Aa na ca] 31 (0,0))/\Below w.heap.size w wr/\Hid ((List.range k).all (Pt names homes)=true)) (λ_ _ _ i _=>names.length-(intOf i).toNat)
  case atStart=>
   refine⟨0,Nat.zero_le _,rfl,?_,?_,?_,?_,rfl⟩
   · exact(Fa.new _ _ (by simp)).alloc _
   · exact Fa.new _ _ (by simp)
   · rw[Below.heap_alloc _ _ _ (by simp;omega),Below.heap_alloc _ _ _ (by simp)];exact Hj _ _ _ rfl
   · exact(((Below.refl _ _).alloc (Nat.le_refl _) _).alloc (by simp) _).alloc (by simp;omega) _
  case round=>
   obtain⟨k,hk,rfl,hmn,hmh,hbox,hbel,HA⟩:=hrel
   have c0:wr.cell? ⟨w.heap.size,0,none⟩=some (.slice An names.length cn):=by simp[World.cell?,hbox]
   have c1:wr.cell? ⟨w.heap.size,1,none⟩=some (.slice Ah homes.length ch):=by simp[World.cell?,hbox]
   have HBX:=Lib.hid hbox
   clear hbox
   by_cases hlt:k<names.length
   ·
    obtain⟨bn,on,cn',en,_,hbn,hcn⟩:=(hn.below hbel).pos ω
    obtain⟨bh,oh,ch',eh,_,hbh,hch⟩:=(hh.below hbel).pos (by have:=HP3.out;omega)
    have hlh:k<homes.length:=by have:=HP3.out;omega
    have hcell:=hcn k _ (AdR names k hlt)
    have hv0:=hch _ _ (Mj homes k hlh 0 _ rfl)
    have hv1:=hch _ _ (Mj homes k hlh 1 _ rfl)
    have hv2:=hch _ _ (Mj homes k hlh 2 _ rfl)
    have gN:names.getD k ByteArray.empty=names[k]:=by simp[hlt]
    have gH:homes.getD k V3.zero=homes[k]:=by simp[hlh]
    have hsk:=hsz _ (List.getElem_mem hlt)
    have hl1:=hmn.look underlying139 (Abs 9 underlying9) (Yi _) (.string names[k]) ⟨_,rfl⟩ (.bool false) κ
    rw[rJ] at hl1
    cases en
    cases eh
    have HC:Hid (Pt names homes k=(Ox names[k]&& !((names.take k).any λt=>names[k]==t)&&Th homes[k].x homes[k].y homes[k].z&& !((homes.take k).any λt=>eqV homes[k] t))):=by
     unfold Hid Pt;rw[gN,gH];rfl
    have hl2:Hid (∀W,Fa W (w.heap.size+1+1) (Lp (homes.take k))->(Instr.lookup 140 (.map (some (w.heap.size+1+1))) (.agg #[.int .i64 homes[k].x,.int .i64 homes[k].y,.int .i64 homes[k].z]) false).run Tryz.prog W= .ok (.bool ((homes.take k).any λt=>eqV homes[k] t)) W):=λW hW=>by
     have:=hW.look underlying140 Abt (Yc _) homes[k].val ⟨_,_,_,rfl⟩ (.bool false) κ
     rw[rH] at this
     exact this
    have HFN:Hid (((names.take k).any λt=>names[k]==t)=false->∀p∈Mu (names.take k),eV (.string names[k]) p.1=false):=nW _ _
    have HFH:Hid (((homes.take k).any λt=>eqV homes[k] t)=false->∀p∈Lp (homes.take k),eW homes[k].val p.1=false):=nH _ _
    have HTN:Hid (Mu (names.take k)++[(.string names[k],.bool true)]=Mu (names.take (k+1))):=by unfold Hid Mu;rw[List.take_succ_eq_append_getElem hlt];simp only[List.map_append,List.map_cons,List.map_nil]
    have HTH:Hid (Lp (homes.take k)++[(homes[k].val,.bool true)]=Lp (homes.take (k+1))):=by unfold Hid Lp;rw[List.take_succ_eq_append_getElem hlh];simp only[List.map_append,List.map_cons,List.map_nil]
    clear hcn hch hn hh gN gH hsz hmm
    generalize hs:names[k]=sk at*
    generalize hhv:homes[k]=hv at*
    generalize h1:((names.take k).any λt=>sk==t)=A1 at*
    generalize h2:((homes.take k).any λt=>eqV hv t)=A2 at*
    clear hs hhv h1 h2
    simp only[Nat.add_zero] at hv0
    rw[<-Nat.add_assoc] at hv1 hv2
    have hzr:=hmh.lt
    have hbr:bh<wr.heap.size:=by have:=hbel.size;omega
    go_wp2_with (first
     |(
      go_at_call 60
      refine(Tt _ _ hsk).mono ?_
      rintro e w' ⟨rfl,rfl⟩)
     |(
      go_at_call 33
      refine(Gu _ _ _ _).mono ?_
      rintro e w1 ⟨rfl,hb1⟩
      have hzz:=hb1.size
      have hmn1:=hmn.below hb1 hmn.lt
      have hmh1:=hmh.below hb1 hmh.lt
      have hl2':=hl2.out w1 hmh1
      have d1:=(hb1.cell (p:=⟨w.heap.size,1,none⟩) (show w.heap.size<_ by omega)).trans c1
      have e0:=(hb1.cell (p:=⟨bh,oh+k*3,none⟩) hbr).trans hv0
      have e1:=(hb1.cell (p:=⟨bh,oh+k*3+1,none⟩) hbr).trans hv1
      have e2:=(hb1.cell (p:=⟨bh,oh+k*3+2,none⟩) hbr).trans hv2)
     |(
      with_reducible refine eD rfl (.tmp 60) (.tmp 61) (.const (.bool true)) 139 rfl underlying139 (Abs 9 underlying9) rfl hmn1 (Yi _) (.string sk) (.bool true) rfl rfl ⟨_,rfl⟩ (HFN.out (by assumption)) ?_
      intro w2 hm2 hg2
      have hmh2:=hmh1.keep (hg2.block _ hmh1.lt (by simp)))
     |(
      with_reducible refine kR rfl (.tmp 62) (.tmp 67) 140 rfl underlying140 Abt rfl hmh2 (Yc _) hv.val rfl ⟨_,_,_,rfl⟩ (HFH.out (by assumption)) (.bool false) κ ?_
      intro w3 cc hE hg3
      have hm3:=hm2.keep (hg3.block _ hm2.lt (by simp)))
     |(
      with_reducible refine Wu rfl (.tmp 62) (.tmp 69) (.const (.bool true)) 140 rfl rfl hE rfl (.bool true) rfl ?_
      intro w4 hm4 hg4
      have hm5:=hm3.keep (hg4.block _ hm3.lt (by simp))))
    case roundEnd=>
     rw[HTN.out] at hm5
     rw[HTH.out] at hm4
     refine⟨⟨k+1,ω,by go_num,hm5,hm4,?_,?_,wY HA.out ?_⟩,by simp[intOf];omega⟩
     ·
      rw[hg4.block _ (by have:=hm3.lt;omega) (by simp;omega),hg3.block _ (by have:=hm2.lt;omega) (by simp;omega),hg2.block _ (by have:=hmn1.lt;omega) (by simp),hb1.block _ ω]
      exact HBX.out
     ·
      have q1:=hbel.trans (hb1.mono hbel.size)
      have q2:=q1.grown hg2 q1.size (by rintro j ⟨rfl⟩;omega)
      have q3:=q2.grown hg3 q2.size (by rintro j ⟨rfl⟩;omega)
      exact q3.grown hg4 q3.size (by rintro j ⟨rfl⟩;omega)
     · rw[HC.out];simp[*]
    all_goals
     go_ret
     refine⟨Fv (AcW hlt ?_).symm,?_⟩
     · rw[HC.out];simp[*]
     · first|exact hbel|exact hbel.trans (hb1.mono hbel.size)
   ·
    have HKN:Hid (k=names.length):=by unfold Hid;omega
    go_wp2
    go_ret
    refine⟨Fv ?_,hbel⟩
    unfold Rb
    rw[<-HKN.out,HA.out]
    have:=HP3.out
    rw[this,<-HKN.out]
    simp
    omega
 ·
  have HN:Hid (Rb names homes=false):=by
   unfold Hid Rb
   by_cases a1:1<=names.length<;>by_cases a2:names.length<=64<;>by_cases a3:homes.length=names.length<;>simp[a1,a2,a3]
   exact absurd ⟨a1,a2,a3⟩ hpre
  go_enter func59,ntmps59
  go_wp2_with fail
  all_goals first
   |(go_ret;exact⟨Fv HN.out.symm,(Below.refl _ _).alloc (Nat.le_refl _) _⟩)
   |(exfalso;apply hpre;refine⟨ω,ω,?_⟩;have h:=‹((homes.length:Int) != (names.length:Int))=false›;simp at h;omega)
structure Mv where
 to:V3
 wait:Int
 flight:Int
 rise:Int
structure Ac where
 name:ByteArray
 len:Int
 moves:List Mv
structure Pr where
 names:List ByteArray
 homes:List V3
 acts:List Ac
def Mv.cells (m:Mv):List Value:=[.int .i64 m.to.x,.int .i64 m.to.y,.int .i64 m.to.z,.int .i64 m.wait,.int .i64 m.flight,.int .i64 m.rise]
def yB (l:List Mv):List Value:=l.flatMap Mv.cells
theorem Rq:∀(l:List Mv) (k:Nat) (h:k<l.length) (j:Nat) (u:Value),(l[k].cells)[j]?=some u->(yB l)[k*6+j]?=some u
 |v::l,0,_,j,u,hu=>by
  show (v.cells++yB l)[0*6+j]?=some u
  rw[Nat.zero_mul,Nat.zero_add,List.getElem?_append_left]
  exact hu
  exact(List.getElem?_eq_some_iff.1 hu).1
 |v::l,k+1,h,j,u,hu=>by
  have:=Rq l k (by simpa using h) j u hu
  show (v.cells++yB l)[(k+1)*6+j]?=some u
  rw[List.getElem?_append_right (by simp[Mv.cells];omega),<-this]
  congr 1
  simp[Mv.cells]
  omega
def Aaz (w:World) (D:Nat->Prop) (a:Ac) (cs:List Value):Prop:=∃vm,cs=[.string a.name,.int .i64 a.len,vm]/\Cz w D 6 vm a.moves.length (yB a.moves)
def Qt (w:World) (D:Nat->Prop):List Ac->List Value->Prop
 |[],cs=>cs=[]
 |s::ss,cs=>∃a b,cs=a++b/\Aaz w D s a/\Qt w D ss b
structure Ii (w:World) (hi:Nat) (vn vh va:Value) (p:Pr):Prop where
 names:Cc w 0 hi 1 vn p.names.length (strs p.names)
 homes:Cc w 0 hi 3 vh p.homes.length (Jf p.homes)
 acts:∃cs,Cc w 0 hi 3 va p.acts.length cs/\Qt w (rg 0 hi) p.acts cs
theorem Qt.keep {w w':World} {D:Nat->Prop} (hk:∀b o,D b->w'.cell? ⟨b,o,none⟩=w.cell? ⟨b,o,none⟩):∀{ss:List Ac} {cs:List Value},Qt w D ss cs->Qt w' D ss cs
 |[],_,h=>h
 |_::_,_,⟨a,b,e,⟨vm,e1,h1⟩,h2⟩=>⟨a,b,e,⟨vm,e1,h1.keep hk⟩,Qt.keep hk h2⟩
theorem Qt.more {w:World} {D D':Nat->Prop} (hD:∀b,D b->D' b):∀{ss:List Ac} {cs:List Value},Qt w D ss cs->Qt w D' ss cs
 |[],_,h=>h
 |_::_,_,⟨a,b,e,⟨vm,e1,h1⟩,h2⟩=>⟨a,b,e,⟨vm,e1,h1.more hD⟩,Qt.more hD h2⟩
theorem Qt.at_ {w:World} {D:Nat->Prop}:∀{ss:List Ac} {cs:List Value},Qt w D ss cs->∀{k:Nat} (hk:k<ss.length),∃vm,Cz w D 6 vm ss[k].moves.length (yB ss[k].moves)/\∀j u,[Value.string ss[k].name,.int .i64 ss[k].len,vm][j]?=some u->cs[k*3+j]?=some u
 |s::ss,_,⟨a,b,e,⟨vm,e1,h1⟩,h2⟩,0,_=>⟨vm,h1,λj u hu=>by
   rw[e,e1,Nat.zero_mul,Nat.zero_add,List.getElem?_append_left]
   exact hu
   exact(List.getElem?_eq_some_iff.1 hu).1⟩
 |s::ss,_,⟨a,b,e,⟨vm,e1,h1⟩,h2⟩,k+1,hk=>by
  obtain⟨c,hc,hcell⟩:=Qt.at_ h2 (k:=k) (by simpa using hk)
  refine⟨c,hc,λj u hu=>?_⟩
  rw[e,List.getElem?_append_right (by rw[e1];simp;omega),<-hcell j u hu,e1]
  congr 1
  simp
  omega
theorem Ii.below {w w':World} {hi:Nat} {vn vh va:Value} {p:Pr} (h:Ii w hi vn vh va p) (hb:Below hi w w'):Ii w' hi vn vh va p:=by
 obtain⟨cs,h1,h2⟩:=h.acts
 exact⟨h.names.below hb,h.homes.below hb,cs,h1.below hb,h2.keep λb o hd=>hb.cell (p:=⟨b,o,none⟩) hd.2⟩
theorem Ii.more {w:World} {hi hi':Nat} {vn vh va:Value} {p:Pr} (h:Ii w hi vn vh va p) (hh:hi<=hi'):Ii w hi' vn vh va p:=by
 obtain⟨cs,h1,h2⟩:=h.acts
 exact⟨h.names.more (Nat.le_refl _) hh,h.homes.more (Nat.le_refl _) hh,cs,h1.more (Nat.le_refl _) hh,h2.more λb hd=>⟨hd.1,Nat.lt_of_lt_of_le hd.2 hh⟩⟩
theorem pI:(Tryz.prog.info? 36).map (λi=>(i.zero,i.size,i.bytes))=some (some (.agg #[.int .i64 0,.int .i64 0,.int .i64 0]),3,24):=by kernel_rfl
theorem Acp (l:List V3):∀u∈Jf l,u.oneCell'=true:=by
 intro u hu
 unfold Jf at hu
 obtain⟨v,_,hv⟩:=List.mem_flatMap.1 hu
 simp at hv
 rcases hv with rfl|rfl|rfl<;>rfl
theorem iQ (l:List V3) (v:Value) (w:World) (h:Cc w 0 w.heap.size 3 v l.length (Jf l)) (hl:0<l.length) (hm:l.length<=1000000):
  Calls Tryz.prog 118 #[v] w λe w'=>∃v',e= .returned v'/\Cc w' w.heap.size w'.heap.size 3 v' l.length (Jf l)/\Below w.heap.size w w':=by
 obtain⟨i0,hi0,hz0,hz1,hz2⟩:=info_parts pI
 obtain⟨b,o,c,rfl,_,hb,hc⟩:=h.pos hl
 have hnil:=λW=>Lib.run_eql_slice_nil (P:=Tryz.prog) W 22 36 (some ⟨b,o,none⟩) l.length c 0 0 underlying22
 clear hc
 go_enter func118,ntmps118
 have hown:=Wd w [] 0 w.heap.size 3 36 rfl rfl δ
 have hs1:=h.up ((Below.refl w.heap.size w).alloc (Nat.le_refl _) (.cells #[] 36))
 go_wp2_with (at_builtin;refine Ew rfl (.tmp 5) (.tmp 6) 22 rfl w.heap.size 36 i0 _ 3 24 underlying22 hi0 hz0 hz1 hz2 rfl δ _ _ _ rfl hown _ _ _ _ rfl hs1 (Acp l) ?_ ?_ ?_ ?_)
 · unfold maxLen;omega
 · omega
 · simp
 intro v' w1 hown1 hg1 hat1
 go_wp2
 go_ret
 refine⟨_,rfl,Cc.own hown1,((Below.refl _ _).alloc (Nat.le_refl _) _).grown hg1 (by simp) ?_⟩
 rintro j hj
 simp[Value.ownBlock] at hj
 omega
def Ea (p:Pr) (k:Nat):List V3:=if k=0 then p.homes else (p.acts.getD (k-1) ⟨ByteArray.empty,0,[]⟩).moves.map (·.to)
def gL (l:List Mv) (k:Nat):List V3:=(l.take k).map (·.to)
theorem sL (l:List Mv) (k:Nat) (h:k<l.length):Jf (gL l k)++[.int .i64 l[k].to.x,.int .i64 l[k].to.y,.int .i64 l[k].to.z]=Jf (gL l (k+1)):=by
 unfold gL;rw[List.take_succ_eq_append_getElem h,List.map_append,<-pL];rfl
theorem dQ (p:Pr) (k:Nat) (vn vh va:Value) (w:World) (h:Ii w w.heap.size vn vh va p) (hh:0<p.homes.length) (hm:p.homes.length<=1000000) (hk:k<=p.acts.length) (hb:p.acts.length<=1000000) (hmv:∀a∈p.acts,a.moves.length<=1000000):
  Calls Tryz.prog 90 #[.agg #[vn,vh,va],.int .i64 (k:Nat)] w λe w'=>∃v',e= .returned v'/\Cc w' w.heap.size w'.heap.size 3 v' (Ea p k).length (Jf (Ea p k))/\Below w.heap.size w w':=by
 obtain⟨An,cn,rfl⟩:=h.names.slice
 obtain⟨bh,oh,ch,rfl,_,_,_⟩:=h.homes.pos hh
 obtain⟨cs,ha,hacts⟩:=h.acts
 obtain⟨Aa,ca,rfl⟩:=ha.slice
 by_cases hk0:k=0
 ·
  subst hk0
  have HF:Hid (Ea p 0=p.homes):=by unfold Hid Ea;rw[if_pos rfl]
  go_enter func90,ntmps90
  go_wp2_with fail
  refine(iQ p.homes _ _ ?_ hh hm).mono ?_
  · exact h.homes.up ((Below.refl _ _).alloc (Nat.le_refl _) _)
  rintro e w1 ⟨v',rfl,hs,hb1⟩
  go_wp2
  go_ret
  rw[HF.out]
  exact⟨_,rfl,hs.more (by simp) (Nat.le_refl _),((Below.refl _ _).alloc (Nat.le_refl _) _).trans (hb1.mono (by simp))⟩
 ·
  have hkl:k-1<p.acts.length:=by omega
  obtain⟨i0,hi0,hz0,hz1,hz2⟩:=info_parts pI
  obtain⟨ba,oa,ca',ea,_,hba,hca⟩:=ha.pos ω
  obtain⟨vm,hvm,hcm⟩:=hacts.at_ hkl
  have hc2:=hca _ _ (hcm 2 vm rfl)
  have HF:Hid (Ea p k=p.acts[k-1].moves.map (·.to)):=by unfold Hid Ea;rw[if_neg hk0];simp[hkl]
  have hmk:=hmv _ (List.getElem_mem hkl)
  generalize hM:p.acts[k-1].moves=M at*
  obtain⟨Am,cm,rfl⟩:=hvm.slice
  cases ea
  have hks:(k:Int)-1=((k-1:Nat):Int):=by omega
  have hkb:((k:Int)==0)=false:=by simp;omega
  clear hca hcm hacts hM hmv
  rw[<-Nat.add_assoc] at hc2
  go_enter func90,ntmps90
  go_wp2
  go_loopw [5,7,21] (λv _ i wr=>∃q:Nat,q<=M.length/\i= .int .i64 q/\wr.ownsRow w.heap.size 36 3 v q (Jf (gL M q))/\Below w.heap.size w wr) (λ_ _ i _=>M.length-(intOf i).toNat)
  case atStart=>exact⟨0,Nat.zero_le _,rfl,⟨rfl,.inl ⟨rfl,rfl⟩⟩,(Below.refl _ _).alloc (Nat.le_refl _) _⟩
  case round=>
   obtain⟨q,hq,rfl,hown,hbel⟩:=hrel
   by_cases hlt:q<M.length
   ·
    obtain⟨bm,om,cm',em,_,hbm,hcm⟩:=(Cc.below hvm hbel).pos ω
    have m0:=hcm _ _ (Rq M q hlt 0 _ rfl)
    have m1:=hcm _ _ (Rq M q hlt 1 _ rfl)
    have m2:=hcm _ _ (Rq M q hlt 2 _ rfl)
    have m3:=hcm _ _ (Rq M q hlt 3 _ rfl)
    have m4:=hcm _ _ (Rq M q hlt 4 _ rfl)
    have m5:=hcm _ _ (Rq M q hlt 5 _ rfl)
    rw[<-Nat.add_assoc] at m1 m2 m3 m4 m5
    simp only[Nat.add_zero] at m0
    have HT:=Lib.hid (sL M q hlt)
    cases em
    clear hcm hvm
    generalize M[q]=mv at*
    have hzr:=hbel.size
    go_wp2_with (at_builtin;refine wpList_append_own _ rfl (.tmp 25) (.tmp 28) 22 rfl w.heap.size 36 i0 _ 3 24 underlying22 hi0 hz0 hz1 hz2 rfl δ _ _ _ rfl ((hown.alloc _).alloc _) ⟨_,0,none⟩ 1 1 [.int .i64 mv.to.x,.int .i64 mv.to.y,.int .i64 mv.to.z] rfl rfl ?c1 ?c2 ?c3 ?c4 ?c5 ?_)
    case c1=>intro j u hu;rw[Fb];simpa using hu
    case c2=>simp[Value.oneCell']
    case c3=>unfold maxLen;omega
    case c4=>omega
    case c5=>simp;omega
    intro v' w1 hown1 hg1 _
    rw[HT.out] at hown1
    have hb1:Below w.heap.size w w1:=((hbel.alloc hbel.size _).alloc (by simp;omega) _).grown hg1 (by simp;omega) (λj hj=>(hown.lt j hj).1)
    clear hown hbel hg1 m0 m1 m2 m3 m4 m5
    go_wp2
    go_roundw
    case rel=>exact⟨q+1,ω,by go_num,hown1,hb1⟩
    case measure=>simp[intOf];omega
   ·
    have HQ:Hid (q=M.length):=by unfold Hid;omega
    go_wp2
    go_ret
    refine⟨_,rfl,?_,hbel⟩
    rw[HF.out]
    have e1:gL M q=M.map (·.to):=by unfold gL;rw[List.take_of_length_le (by rw[HQ.out];exact Nat.le_refl _)]
    have e2:(M.map (·.to)).length=q:=by simp[HQ.out]
    rw[e2,<-e1]
    exact Cc.own hown
def Hh (x y z x' y' z' f t:Int):Bool:=Th x y z&&Th x' y' z'&&decide (0<=f)&&decide (f<t)&&decide (t<=3600000)
theorem Rj (x y z x' y' z' f t:Int) (w:World):
  Calls Tryz.prog 85 #[.agg #[.int .i64 x,.int .i64 y,.int .i64 z],.agg #[.int .i64 x',.int .i64 y',.int .i64 z'],.int .i64 f,.int .i64 t] w λe w'=>e= .returned (.bool (Hh x y z x' y' z' f t))/\Below w.heap.size w w':=by
 cases h1:Th x y z<;>cases h2:Th x' y' z'
 all_goals
  have HF:Hid (∀a b,a=Th x y z->b=Th x' y' z'->Hh x y z x' y' z' f t=(a&&b&&decide (0<=f)&&decide (f<t)&&decide (t<=3600000))):=λa b h h'=>by rw[h,h'];rfl
  have H1:=Lib.hid h1
  have H2:=Lib.hid h2
  clear h1 h2
  go_enter func85,ntmps85
  go_wp2_with fail
  refine(Gu _ _ _ _).mono ?_
  rintro e w1 ⟨rfl,hb⟩
  rw[H1.out]
  have hz:=hb.size
  have hB:=(((Below.refl _ _).alloc (Nat.le_refl _) _).alloc (by simp) _).trans (hb.mono (show w.heap.size<=_ by simp;omega))
  obtain⟨hc,hf⟩:=Hd hb
  simp at hz hc
  go_wp2_with fail
 · go_ret;exact⟨Fv (by rw[HF.out _ _ H1.out.symm H2.out.symm];simp),hB⟩
 · go_ret;exact⟨Fv (by rw[HF.out _ _ H1.out.symm H2.out.symm];simp),hB⟩
 all_goals
  refine(Gu _ _ _ _).mono ?_
  rintro e w2 ⟨rfl,hb2⟩
  rw[H2.out]
  go_wp2
  all_goals
   go_ret
   refine⟨Fv ?_,hB.trans (hb2.mono ω)⟩
   rw[HF.out _ _ H1.out.symm H2.out.symm]
   simp
   try omega
theorem Adh {w w1 w2 w3:World} {p n1 n2 n3:Nat} {v1 v2 v3:Value} {x1 x2 x3:List Value} {f t:Int} (hG:w2.grownBy w3 (some p)) (hp:w.heap.size<=p) (hp1:p<w1.heap.size) (hb:Below w.heap.size w w1) (hC:Below w1.heap.size w1 w2)
  (h1:Cc w2 w1.heap.size w2.heap.size 1 v1 n1 x1) (h2:Cc w2 w1.heap.size w2.heap.size 1 v2 n2 x2) (h3:Cc w2 w1.heap.size w2.heap.size 1 v3 n3 x3):
  ∃vx vy vz,Ending.returned (.agg #[.int .i64 f,.int .i64 t,.int .i64 1,v1,v2,v3])= .returned (.agg #[.int .i64 f,.int .i64 t,.int .i64 1,vx,vy,vz])/\Cc w3 w.heap.size w3.heap.size 1 vx n1 x1/\Cc w3 w.heap.size w3.heap.size 1 vy n2 x2/\Cc w3 w.heap.size w3.heap.size 1 vz n3 x3/\Below w.heap.size w w3:=by
 have hr:∀b,some p=some b->b<w1.heap.size\/w2.heap.size<=b:=by rintro b ⟨rfl⟩;exact .inl hp1
 have hz:=hb.size
 have hz2:=hC.size
 exact⟨_,_,_,rfl,(h1.keepG hG (Nat.le_refl _) hr).more hz hG.size,(h2.keepG hG (Nat.le_refl _) hr).more hz hG.size,(h3.keepG hG (Nat.le_refl _) hr).more hz hG.size,
  (hb.trans (hC.mono hz)).grown hG ω (by rintro b ⟨rfl⟩;exact hp)⟩
theorem Zh:Qw 136 (λv=>∃n,v= .int .i64 n) Re:=AeD 136 κ
def Bz (k:Int):List Int:=if k=0 then [] else if k=1 then [1] else [0,0,10,-15,6]
theorem AbW (w:World):
  Calls Tryz.prog 136 #[] w λe w'=>∃b v1 v2,e= .returned (.map (some b))/\Fa w' b [(.int .i64 0,.slice none 0 0),(.int .i64 1,v1),(.int .i64 2,v2)]/\Cc w' w.heap.size w'.heap.size 1 v1 1 (Dg [1])/\Cc w' w.heap.size w'.heap.size 1 v2 5 (Dg [0,0,10,-15,6])/\w.heap.size<=b/\Below w.heap.size w w':=by
 have hmm:=@run_makeMap Tryz.prog
 go_enter func136,ntmps136
 go_wp2_with (with_reducible refine Ol rfl (.tmp 1) (.const (.int .i64 0)) (.const (.slice none 0 0)) 195 rfl underlying195 Zh rfl (Fa.new _ _ rfl) (by simp) _ _ rfl rfl ⟨_,rfl⟩ (by simp) ?_)
 intro w1 hm1 hg1
 have hb1:Below w.heap.size w w1:=((Below.refl _ _).alloc (Nat.le_refl _) _).grown hg1 (by simp) (λk hk=>by injection hk with hk;omega)
 have hz1:w.heap.size<w1.heap.size:=hm1.lt
 go_wp2_with (with_reducible refine Ol rfl (.tmp 1) (.const (.int .i64 1)) (.tmp 2) 195 rfl underlying195 Zh rfl (hm1.alloc _) (by simp) (.int .i64 1) _ rfl rfl ⟨_,rfl⟩ (by simp[Re]) ?_)
 intro w2 hm2 hg2
 have hb2:Below w.heap.size w w2:=(hb1.alloc hb1.size _).grown hg2 (by simp;omega) (λk hk=>by injection hk with hk;omega)
 have hs2:Cc w2 w1.heap.size (w1.heap.size+1) 1 (.slice (some ⟨w1.heap.size,0,none⟩) 1 1) 1 (Dg [1]):=
  (Cc.new1 w1 (Dg [1]) 1 _ w1.heap.size (w1.heap.size+1) 1 3 rfl rfl (Nat.le_refl _) ω).keepG hg2 (by simp) (by intro b e;simp at e;omega)
 have hz2:w1.heap.size+1<=w2.heap.size:=by have:=hg2.size;simpa using this
 clear hm1 hg1 hg2
 go_wp2_with (with_reducible refine Ol rfl (.tmp 1) (.const (.int .i64 2)) (.tmp 3) 195 rfl underlying195 Zh rfl (hm2.alloc _) (by simp) (.int .i64 2) _ rfl rfl ⟨_,rfl⟩ (by simp[Re]) ?_)
 intro w3 hm3 hg3
 have hb3:Below w.heap.size w w3:=(hb2.alloc hb2.size _).grown hg3 (by simp;omega) (λk hk=>by injection hk with hk;omega)
 have hs3:Cc w3 w2.heap.size (w2.heap.size+1) 1 (.slice (some ⟨w2.heap.size,0,none⟩) 5 5) 5 (Dg [0,0,10,-15,6]):=
  (Cc.new1 w2 (Dg [0,0,10,-15,6]) 5 _ w2.heap.size (w2.heap.size+1) 1 3 rfl rfl (Nat.le_refl _) ω).keepG hg3 (by simp) (by intro b e;simp at e;omega)
 have hs4:=(hs2.new hz2 (.cells #[.int .i64 0,.int .i64 0,.int .i64 10,.int .i64 (-15),.int .i64 6] 3)).keepG hg3 (by simp;omega) (by intro b e;simp at e;omega)
 have hz3:w2.heap.size+1<=w3.heap.size:=by have:=hg3.size;simpa using this
 go_wp2
 go_ret
 exact⟨_,_,_,rfl,hm3,hs4.more ω ω,hs3.more ω ω,Nat.le_refl _,hb3⟩
def Abu (k:Int):Prop:=k=0\/k=1\/k=2
theorem Oj (k:Int):∀f∈Bz k,-100<=f/\f<=100:=by
 unfold Bz;split
 simp
 split<;>simp
theorem Rk (k:Int):(Bz k).length<=100:=by
 unfold Bz;split
 simp
 split<;>simp
theorem Ab1 {w:World} {v1 v2:Value} (k:Int) (hk:Abu k) (lo:Nat) (h1:Cc w lo w.heap.size 1 v1 1 (Dg [1])) (h2:Cc w lo w.heap.size 1 v2 5 (Dg [0,0,10,-15,6])):
  ∃v,(([(Value.int .i64 0,Value.slice none 0 0),(.int .i64 1,v1),(.int .i64 2,v2)].find? (λp=>Re (.int .i64 k) p.1)).map (·.2)).getD (.slice none 0 0)=v/\Cc w lo w.heap.size 1 v (Bz k).length (Dg (Bz k)):=by
 rcases hk with rfl|rfl|rfl
 exact⟨_,rfl,by simp[Re,Bz,Dg];exact Cc.nil none 0⟩
 exact⟨_,rfl,by simpa [Re,Bz,Dg] using h1⟩
 exact⟨_,rfl,by simpa [Re,Bz,Dg] using h2⟩
theorem uM (x y z x' y' z' f t k:Int) (w:World) (hk:Abu k) (hx: -2097152<=x/\x<=2097152) (hy: -2097152<=y/\y<=2097152) (hz: -2097152<=z/\z<=2097152) (hx': -2097152<=x'/\x'<=2097152) (hy': -2097152<=y'/\y'<=2097152) (hz': -2097152<=z'/\z'<=2097152):
  Calls Tryz.prog 114 #[.agg #[.int .i64 x,.int .i64 y,.int .i64 z],.agg #[.int .i64 x',.int .i64 y',.int .i64 z'],.int .i64 f,.int .i64 t,.int .i64 k] w λe w'=>∃vx vy vz,e= .returned (.agg #[.int .i64 f,.int .i64 t,.int .i64 1,vx,vy,vz])/\Cc w' w.heap.size w'.heap.size 1 vx (Dj x x' (Bz k)).length (Dg (Dj x x' (Bz k)))/\Cc w' w.heap.size w'.heap.size 1 vy (Dj y y' (Bz k)).length (Dg (Dj y y' (Bz k)))/\Cc w' w.heap.size w'.heap.size 1 vz (Dj z z' (Bz k)).length (Dg (Dj z z' (Bz k)))/\Below w.heap.size w w':=by
 go_enter func114,ntmps114
 go_wp2_with fail
 refine(AbW _).mono ?_
 rintro e w1 ⟨b,v1,v2,rfl,hm,h1,h2,hbb,hb1⟩
 obtain⟨v,hv,hs⟩:=Ab1 k hk _ h1 h2
 have HK:=Lib.hid hk
 clear hk
 go_wp2_with (with_reducible refine pT rfl (.tmp 12) (.tmp 13) 195 rfl underlying195 Zh rfl hm ?_ (.int .i64 k) rfl ⟨_,rfl⟩ (.slice none 0 0) ?_ _ hv ?_)
 · intro p hp;simp at hp;rcases hp with rfl|rfl|rfl<;>exact⟨_,rfl⟩
 · kernel_rfl
 have hz1:=hb1.size
 obtain⟨hc,hf⟩:=Hd hb1
 simp at hz1
 have c1:w1.cell? ⟨w.heap.size,0,none⟩=some (.int .i64 x):=by rw[hc _ _ (by simp<;>omega)];go_simp
 have c2:w1.cell? ⟨w.heap.size,1,none⟩=some (.int .i64 y):=by rw[hc _ _ (by simp<;>omega)];go_simp
 have c3:w1.cell? ⟨w.heap.size,2,none⟩=some (.int .i64 z):=by rw[hc _ _ (by simp<;>omega)];go_simp
 have c4:w1.cell? ⟨w.heap.size+1,0,none⟩=some (.int .i64 x'):=by rw[hc _ _ (by simp<;>omega)];go_simp
 have c5:w1.cell? ⟨w.heap.size+1,1,none⟩=some (.int .i64 y'):=by rw[hc _ _ (by simp<;>omega)];go_simp
 have c6:w1.cell? ⟨w.heap.size+1,2,none⟩=some (.int .i64 z'):=by rw[hc _ _ (by simp<;>omega)];go_simp
 have c7:w1.cell? ⟨w.heap.size+2,0,none⟩=some (.int .i64 0):=by rw[hc _ _ (by simp<;>omega)];go_simp
 have c8:w1.cell? ⟨w.heap.size+2,1,none⟩=some (.int .i64 0):=by rw[hc _ _ (by simp<;>omega)];go_simp
 have c9:w1.cell? ⟨w.heap.size+2,2,none⟩=some (.int .i64 0):=by rw[hc _ _ (by simp<;>omega)];go_simp
 have c10:w1.cell? ⟨w.heap.size+2,3,none⟩=some (.slice none 0 0):=by rw[hc _ _ (by simp<;>omega)];go_simp
 have c11:w1.cell? ⟨w.heap.size+2,4,none⟩=some (.slice none 0 0):=by rw[hc _ _ (by simp<;>omega)];go_simp
 have c12:w1.cell? ⟨w.heap.size+2,5,none⟩=some (.slice none 0 0):=by rw[hc _ _ (by simp<;>omega)];go_simp
 have f0:w1.frozen? ⟨w.heap.size+2,0,none⟩=false:=by rw[hf _ _ (by simp<;>omega)];go_simp
 have f1:w1.frozen? ⟨w.heap.size+2,1,none⟩=false:=by rw[hf _ _ (by simp<;>omega)];go_simp
 have f2:w1.frozen? ⟨w.heap.size+2,2,none⟩=false:=by rw[hf _ _ (by simp<;>omega)];go_simp
 have f3:w1.frozen? ⟨w.heap.size+2,3,none⟩=false:=by rw[hf _ _ (by simp<;>omega)];go_simp
 have f4:w1.frozen? ⟨w.heap.size+2,4,none⟩=false:=by rw[hf _ _ (by simp<;>omega)];go_simp
 have f5:w1.frozen? ⟨w.heap.size+2,5,none⟩=false:=by rw[hf _ _ (by simp<;>omega)];go_simp
 have hbw:Below w.heap.size w w1:=((((Below.refl _ _).alloc (Nat.le_refl _) _).alloc (by simp) _).alloc (by simp;omega) _).trans (hb1.mono (by simp;omega))
 clear hc hf hm hv hbb hb1
 refine Dc 20 36 (λw'=>Below w1.heap.size w1 w') [is (.int .i64 f),is (.int .i64 t),is (.pointer (some ⟨w.heap.size,0,none⟩)),is (.int .i64 x),is (.pointer (some ⟨w.heap.size+1,0,none⟩)),is (.int .i64 x'),is v,λv w'=>Cc w' w1.heap.size w'.heap.size 1 v (Dj x x' (Bz k)).length (Dg (Dj x x' (Bz k))),is (.pointer (some ⟨w.heap.size,1,none⟩)),is (.int .i64 y),is (.pointer (some ⟨w.heap.size+1,1,none⟩)),is (.int .i64 y'),is v,λv w'=>Cc w' w1.heap.size w'.heap.size 1 v (Dj y y' (Bz k)).length (Dg (Dj y y' (Bz k))),is (.pointer (some ⟨w.heap.size,2,none⟩)),is (.int .i64 z),is (.pointer (some ⟨w.heap.size+1,2,none⟩)),is (.int .i64 z'),is v,λv w'=>Cc w' w1.heap.size w'.heap.size 1 v (Dj z z' (Bz k)).length (Dg (Dj z z' (Bz k)))] κ κ rfl δ ?hst ?h0 ?hop ?htail
 case hop=>
  refine⟨?_,?_,?_,?_,?_,?_,?_,?_,?_,?_,?_,?_,?_,?_,?_,?_,?_,?_,?_,?_,trivial⟩
  · exact Cy (.tmp 2) (is (.int .i64 f)) rfl κ (λ_ _ _ h=>h)
  · exact Cy (.tmp 3) (is (.int .i64 t)) rfl κ (λ_ _ _ h=>h)
  · exact Ch 36 (.tmp 5) 0 (.pointer (some ⟨w.heap.size,0,none⟩)) (.pointer (some ⟨w.heap.size,0,none⟩)) rfl κ (λw=>by kernel_rfl) rfl
  · exact Bb 3 (.tmp 17) (.pointer (some ⟨w.heap.size,0,none⟩)) (.int .i64 x) rfl κ (λwa hC=>As wa (isAgg3 wa) (((Hd hC).1 _ _ ω).trans c1)) rfl
  · exact Ch 36 (.tmp 6) 0 (.pointer (some ⟨w.heap.size+1,0,none⟩)) (.pointer (some ⟨w.heap.size+1,0,none⟩)) rfl κ (λw=>by kernel_rfl) rfl
  · exact Bb 3 (.tmp 19) (.pointer (some ⟨w.heap.size+1,0,none⟩)) (.int .i64 x') rfl κ (λwa hC=>As wa (isAgg3 wa) (((Hd hC).1 _ _ ω).trans c4)) rfl
  · exact Cy (.tmp 11) (is v) rfl κ (λ_ _ _ h=>h)
  · exact Cd 137 [.tmp 18,.tmp 20,.tmp 21] _ [.int .i64 x,.int .i64 x',v] rfl (λ_ _=>by kernel_rfl) ⟨κ,κ,κ,trivial⟩ (λwa hC=>(Xt _ _ (Bz k) v _ _ w1.heap.size hC.size hx hx' (Oj k) (Rk k) (hs.below hC)).mono λe w' ⟨v',he,h1,h2⟩=>⟨v',he,hC.trans (h2.mono hC.size),h2,h1.more hC.size (Nat.le_refl _)⟩)
  · exact Ch 36 (.tmp 5) 1 (.pointer (some ⟨w.heap.size,0,none⟩)) (.pointer (some ⟨w.heap.size,1,none⟩)) rfl κ (λw=>by kernel_rfl) rfl
  · exact Bb 3 (.tmp 23) (.pointer (some ⟨w.heap.size,1,none⟩)) (.int .i64 y) rfl κ (λwa hC=>As wa (isAgg3 wa) (((Hd hC).1 _ _ ω).trans c2)) rfl
  · exact Ch 36 (.tmp 6) 1 (.pointer (some ⟨w.heap.size+1,0,none⟩)) (.pointer (some ⟨w.heap.size+1,1,none⟩)) rfl κ (λw=>by kernel_rfl) rfl
  · exact Bb 3 (.tmp 25) (.pointer (some ⟨w.heap.size+1,1,none⟩)) (.int .i64 y') rfl κ (λwa hC=>As wa (isAgg3 wa) (((Hd hC).1 _ _ ω).trans c5)) rfl
  · exact Cy (.tmp 11) (is v) rfl κ (λ_ _ _ h=>h)
  · exact Cd 137 [.tmp 24,.tmp 26,.tmp 27] _ [.int .i64 y,.int .i64 y',v] rfl (λ_ _=>by kernel_rfl) ⟨κ,κ,κ,trivial⟩ (λwa hC=>(Xt _ _ (Bz k) v _ _ w1.heap.size hC.size hy hy' (Oj k) (Rk k) (hs.below hC)).mono λe w' ⟨v',he,h1,h2⟩=>⟨v',he,hC.trans (h2.mono hC.size),h2,h1.more hC.size (Nat.le_refl _)⟩)
  · exact Ch 36 (.tmp 5) 2 (.pointer (some ⟨w.heap.size,0,none⟩)) (.pointer (some ⟨w.heap.size,2,none⟩)) rfl κ (λw=>by kernel_rfl) rfl
  · exact Bb 3 (.tmp 29) (.pointer (some ⟨w.heap.size,2,none⟩)) (.int .i64 z) rfl κ (λwa hC=>As wa (isAgg3 wa) (((Hd hC).1 _ _ ω).trans c3)) rfl
  · exact Ch 36 (.tmp 6) 2 (.pointer (some ⟨w.heap.size+1,0,none⟩)) (.pointer (some ⟨w.heap.size+1,2,none⟩)) rfl κ (λw=>by kernel_rfl) rfl
  · exact Bb 3 (.tmp 31) (.pointer (some ⟨w.heap.size+1,2,none⟩)) (.int .i64 z') rfl κ (λwa hC=>As wa (isAgg3 wa) (((Hd hC).1 _ _ ω).trans c6)) rfl
  · exact Cy (.tmp 11) (is v) rfl κ (λ_ _ _ h=>h)
  · exact Cd 137 [.tmp 30,.tmp 32,.tmp 33] _ [.int .i64 z,.int .i64 z',v] rfl (λ_ _=>by kernel_rfl) ⟨κ,κ,κ,trivial⟩ (λwa hC=>(Xt _ _ (Bz k) v _ _ w1.heap.size hC.size hz hz' (Oj k) (Rk k) (hs.below hC)).mono λe w' ⟨v',he,h1,h2⟩=>⟨v',he,hC.trans (h2.mono hC.size),h2,h1.more hC.size (Nat.le_refl _)⟩)
 case hst=>
  simp only[List.mem_cons,List.mem_nil_iff,or_false,forall_eq_or_imp,forall_eq]
  refine⟨Ab _,Ab _,Ab _,Ab _,Ab _,Ab _,Ab _,Sa _ _ _ _,Ab _,Ab _,Ab _,Ab _,Ab _,Sa _ _ _ _,Ab _,Ab _,Ab _,Ab _,Ab _,Sa _ _ _ _⟩
 case h0=>exact(Below.refl _ _).drew
 case htail=>
  intro σ w2 hC hR
  have r15:σ 0=_:=hR 0 δ
  have r16:σ 1=_:=hR 1 δ
  have r22:Cc w2 w1.heap.size w2.heap.size 1 (σ 7) _ _:=hR 7 δ
  have r28:Cc w2 w1.heap.size w2.heap.size 1 (σ 13) _ _:=hR 13 δ
  have r34:Cc w2 w1.heap.size w2.heap.size 1 (σ 19) _ _:=hR 19 δ
  obtain⟨A1,d1,e1⟩:=r22.slice
  obtain⟨A2,d2,e2⟩:=r28.slice
  obtain⟨A3,d3,e3⟩:=r34.slice
  simp only[Bl,e1,e2,e3,r15,r16]
  have hcs:=Hd hC
  have k0:w2.cell? ⟨w.heap.size+2,0,none⟩=some (.int .i64 0):=(hcs.1 _ _ ω).trans c7
  have k1:w2.cell? ⟨w.heap.size+2,1,none⟩=some (.int .i64 0):=(hcs.1 _ _ ω).trans c8
  have k2:w2.cell? ⟨w.heap.size+2,2,none⟩=some (.int .i64 0):=(hcs.1 _ _ ω).trans c9
  have k3:w2.cell? ⟨w.heap.size+2,3,none⟩=some (.slice none 0 0):=(hcs.1 _ _ ω).trans c10
  have k4:w2.cell? ⟨w.heap.size+2,4,none⟩=some (.slice none 0 0):=(hcs.1 _ _ ω).trans c11
  have k5:w2.cell? ⟨w.heap.size+2,5,none⟩=some (.slice none 0 0):=(hcs.1 _ _ ω).trans c12
  have m0:w2.frozen? ⟨w.heap.size+2,0,none⟩=false:=(hcs.2 _ _ ω).trans f0
  have m1:w2.frozen? ⟨w.heap.size+2,1,none⟩=false:=(hcs.2 _ _ ω).trans f1
  have m2:w2.frozen? ⟨w.heap.size+2,2,none⟩=false:=(hcs.2 _ _ ω).trans f2
  have m3:w2.frozen? ⟨w.heap.size+2,3,none⟩=false:=(hcs.2 _ _ ω).trans f3
  have m4:w2.frozen? ⟨w.heap.size+2,4,none⟩=false:=(hcs.2 _ _ ω).trans f4
  have m5:w2.frozen? ⟨w.heap.size+2,5,none⟩=false:=(hcs.2 _ _ ω).trans f5
  clear hcs hR c1 c2 c3 c4 c5 c6 c7 c8 c9 c10 c11 c12 f0 f1 f2 f3 f4 f5 r15 r16
  rw[e1] at r22
  rw[e2] at r28
  rw[e3] at r34
  clear e1 e2 e3
  go_wp2
  refine bodyPost_ret (v:= .agg #[.int .i64 f,.int .i64 t,.int .i64 1,.slice A1 (Dj x x' (Bz k)).length d1,.slice A2 (Dj y y' (Bz k)).length d2,.slice A3 (Dj z z' (Bz k)).length d3]) (by simp[results,results114,go_sem,k0,k1,k2,k3,k4,k5]) rfl ?_
  refine Adh (p:=w.heap.size+1+1) ?_ ω ω hbw hC r22 r28 r34
  exact Kw (Kw (Kw (Kw (Kw (Kw (World.grownBy.refl _ _) _ _) _ _) _ _) _ _) _ _) _ _
def Qp (a b:V3) (f t k:Int):Sg:=⟨f,t,1,Dj a.x b.x (Bz k),Dj a.y b.y (Bz k),Dj a.z b.z (Bz k)⟩
def V3.pt (a:V3):Bool:=Th a.x a.y a.z
def Lo (a b:V3) (f t:Int):Bool:=Hh a.x a.y a.z b.x b.y b.z f t
def Gp (w:World) (a b:V3) (f t k:Int) (e:Ending) (w':World):Prop:=
 if Lo a b f t=true then ∃v,e= .returned (.tuple #[v,.int .i64 0])/\Dd w' w.heap.size w'.heap.size v [Qp a b f t k]/\Below w.heap.size w w'
 else e= .returned (.tuple #[.slice none 0 0,.int .i64 2])/\Below w.heap.size w w'
theorem kA {x y z:Int} (h:Th x y z=true):(-2097152<=x/\x<=2097152)/\(-2097152<=y/\y<=2097152)/\(-2097152<=z/\z<=2097152):=by
 have:=(Lb x y z).1 h
 omega
theorem uB (x y z x' y' z' f t k:Int) (w:World) (hk:Abu k):
  Calls Tryz.prog 84 #[.agg #[.int .i64 x,.int .i64 y,.int .i64 z],.agg #[.int .i64 x',.int .i64 y',.int .i64 z'],.int .i64 f,.int .i64 t,.int .i64 k] w (Gp w ⟨x,y,z⟩ ⟨x',y',z'⟩ f t k):=by
 have HK:=Lib.hid hk
 clear hk
 cases hv:Hh x y z x' y' z' f t
 ·
  have HV:=Lib.hid hv
  clear hv
  go_enter func84,ntmps84
  go_wp2_with fail
  refine(Rj _ _ _ _ _ _ _ _ _).mono ?_
  rintro e w1 ⟨rfl,hb⟩
  rw[HV.out]
  have hB:=(((Below.refl _ _).alloc (Nat.le_refl _) _).alloc (by simp) _).trans (hb.mono (show w.heap.size<=_ by simp;omega))
  go_wp2
  go_ret2
  unfold Gp
  rw[if_neg (by show ¬Hh x y z x' y' z' f t=true;rw[HV.out];simp)]
  exact⟨rfl,hB⟩
 ·
  have HV:=Lib.hid hv
  have hp:Th x y z=true/\Th x' y' z'=true:=by
   unfold Hh at hv;simp at hv;exact⟨hv.1.1.1.1,hv.1.1.1.2⟩
  have HP:=Lib.hid hp
  clear hv hp
  go_enter func84,ntmps84
  go_wp2_with fail
  refine(Rj _ _ _ _ _ _ _ _ _).mono ?_
  rintro e w1 ⟨rfl,hb⟩
  rw[HV.out]
  have hz:=hb.size
  have hB:=(((Below.refl _ _).alloc (Nat.le_refl _) _).alloc (by simp) _).trans (hb.mono (show w.heap.size<=_ by simp;omega))
  obtain⟨hc,hf⟩:=Hd hb
  simp at hz hc
  go_wp2_with fail
  have h1:=kA HP.out.1
  have h2:=kA HP.out.2
  refine(uM _ _ _ _ _ _ _ _ _ _ HK.out h1.1 h1.2.1 h1.2.2 h2.1 h2.2.1 h2.2.2).mono ?_
  rintro e w2 ⟨vx,vy,vz,rfl,hx,hy,hz',hb2⟩
  clear hc hf h1 h2
  obtain⟨Ax,cx,rfl⟩:=hx.slice
  obtain⟨Ay,cy,rfl⟩:=hy.slice
  obtain⟨Az,cz,rfl⟩:=hz'.slice
  go_wp2
  go_ret2
  unfold Gp
  rw[if_pos (show Lo ⟨x,y,z⟩ ⟨x',y',z'⟩ f t=true from HV.out)]
  have hz2:=hb2.size
  have hal:Below w2.heap.size w2 (w2.alloc (.cells #[.int .i64 f,.int .i64 t,.int .i64 1,.slice Ax (Dj x x' (Bz k)).length cx,.slice Ay (Dj y y' (Bz k)).length cy,.slice Az (Dj z z' (Bz k)).length cz] 81)):=(Below.refl _ _).alloc (Nat.le_refl _) _
  refine⟨_,rfl,⟨_,Cc.new1 w2 [.int .i64 f,.int .i64 t,.int .i64 1,.slice Ax (Dj x x' (Bz k)).length cx,.slice Ay (Dj y y' (Bz k)).length cy,.slice Az (Dj z z' (Bz k)).length cz] 1 _ _ _ 6 81 rfl rfl ω (by simp),?_⟩,hB.trans ((hb2.mono ω).trans (hal.mono ω))⟩
  exact Hg.one ⟨_,_,_,rfl,(hx.up hal).more ω (Nat.le_refl _),(hy.up hal).more ω (Nat.le_refl _),(hz'.up hal).more ω (Nat.le_refl _)⟩
theorem Gp.below {w w0:World} {a b:V3} {f t k:Int} {e:Ending} {w':World} (h:Gp w a b f t k e w') (hb:Below w0.heap.size w0 w):Gp w0 a b f t k e w':=by
 unfold Gp at*
 split at h
 rename_i hf
 obtain⟨v,he,hp,hbw⟩:=h
 rw[if_pos hf]
 exact⟨v,he,hp.more hb.size (Nat.le_refl _),hb.trans (hbw.mono hb.size)⟩
 rename_i hf
 rw[if_neg hf]
 exact⟨h.1,hb.trans (h.2.mono hb.size)⟩
theorem Gp.out {w:World} {a b:V3} {f t k:Int} {e:Ending} {w':World} (h:Gp w a b f t k e w'):∃A n c q,e= .returned (.tuple #[.slice A n c,.int .i64 q]):=by
 unfold Gp at h
 split at h
 obtain⟨v,he,hp,_⟩:=h
 obtain⟨A,c,rfl⟩:=hp.slice
 exact⟨A,_,c,0,he⟩
 exact⟨none,0,0,2,h.1⟩
theorem Xk (x y z x' y' z' f t:Int) (w:World):
  Calls Tryz.prog 49 #[.agg #[.int .i64 x,.int .i64 y,.int .i64 z],.agg #[.int .i64 x',.int .i64 y',.int .i64 z'],.int .i64 f,.int .i64 t] w (Gp w ⟨x,y,z⟩ ⟨x',y',z'⟩ f t 2):=by
 go_enter func49,ntmps49
 go_wp2_with fail
 refine(uB _ _ _ _ _ _ _ _ _ _ (.inr (.inr rfl))).mono ?_
 intro e w1 h
 have h2:=h.below (((Below.refl _ _).alloc (Nat.le_refl _) _).alloc (by simp) _)
 obtain⟨A,n,c,q,rfl⟩:=h.out
 have H2:=Lib.hid h2
 clear h h2
 go_wp2
 go_ret2
 exact H2.out
theorem fH (x y z f t:Int) (w:World):
  Calls Tryz.prog 62 #[.agg #[.int .i64 x,.int .i64 y,.int .i64 z],.int .i64 f,.int .i64 t] w (Gp w ⟨x,y,z⟩ ⟨x,y,z⟩ f t 0):=by
 go_enter func62,ntmps62
 go_wp2_with fail
 refine(uB _ _ _ _ _ _ _ _ _ _ (.inl rfl)).mono ?_
 intro e w1 h
 have h2:=h.below ((Below.refl _ _).alloc (Nat.le_refl _) _)
 obtain⟨A,n,c,q,rfl⟩:=h.out
 have H2:=Lib.hid h2
 clear h h2
 go_wp2
 go_ret2
 exact H2.out
def Yu (n:Int):Bool:=decide (0<=n)&&decide (n<=3600000)
theorem Oc (n:Int):Yu n=true↔0<=n/\n<=3600000:=by unfold Yu;simp
def hiB (x y z r:Int):Bool:=Th x y (z+r)
theorem Wq (n:Int) (w:World):Calls Tryz.prog 119 #[.int .i64 n] w λe w'=>e= .returned (.bool (Yu n))/\w=w':=by
 by_cases h1:0<=n
 ·
  go_enter func119,ntmps119
  go_wp2
  go_ret
  exact⟨Fv (by unfold Yu;simp[h1]),rfl⟩
 ·
  go_enter func119,ntmps119
  go_wp2
  go_ret
  exact⟨Fv (by unfold Yu;simp;omega),rfl⟩
theorem rB (x y z r:Int) (w:World) (hz: -1048576<=z/\z<=1048576) (hr:0<=r/\r<=3600000):
  Calls Tryz.prog 144 #[.agg #[.int .i64 x,.int .i64 y,.int .i64 z],.int .i64 r] w λe w'=>e= .returned (.bool (hiB x y z r))/\Below w.heap.size w w':=by
 obtain⟨z1,z2⟩:=hz
 obtain⟨r1,r2⟩:=hr
 go_enter func144,ntmps144
 go_wp2_with fail
 refine(Gu _ _ _ _).mono ?_
 rintro e w1 ⟨rfl,hb⟩
 go_wp2
 go_ret
 exact⟨rfl,((Below.refl _ _).alloc (Nat.le_refl _) _).trans (hb.mono (by simp))⟩
def qA (fx fy fz tx ty tz wait flight rise len:Int):Bool:=
 Th tx ty tz&&Yu wait&&Yu flight&&Yu rise&&decide (wait+flight<=len)&&
  (if flight=0 then (tx==fx&&(ty==fy&&tz==fz))&&decide (rise=0) else if 0<rise then decide (flight%4=0)&&hiB fx fy fz rise&&hiB tx ty tz rise else true)
theorem AeJ {fx fy fz tx ty tz wait flight rise len:Int} (h1:Th tx ty tz=true) (hT:(Yu wait&&Yu flight&&Yu rise)=true):qA fx fy fz tx ty tz wait flight rise len=
  (decide (wait+flight<=len)&&(if flight=0 then (tx==fx&&(ty==fy&&tz==fz))&&decide (rise=0) else if 0<rise then decide (flight%4=0)&&hiB fx fy fz rise&&hiB tx ty tz rise else true)):=by
 simp only[Bool.and_eq_true] at hT
 unfold qA
 rw[h1,hT.1.1,hT.1.2,hT.2]
 rfl
theorem cX (n:Int) (w:World) (h:0<=n/\n<=3600000):Calls Tryz.prog 119 #[.int .i64 n] w λe w'=>e= .returned (.bool true)/\w=w':=
 (Wq n w).mono λe w' ⟨he,hw⟩=>⟨by rw[he,(Oc n).2 h],hw⟩
theorem Rp (fx fy fz tx ty tz wait flight rise len:Int) (w:World) (hf:Th fx fy fz=true):
  Calls Tryz.prog 120 #[.agg #[.int .i64 fx,.int .i64 fy,.int .i64 fz],.agg #[.int .i64 tx,.int .i64 ty,.int .i64 tz,.int .i64 wait,.int .i64 flight,.int .i64 rise],.int .i64 len] w λe w'=>e= .returned (.bool (qA fx fy fz tx ty tz wait flight rise len))/\Below w.heap.size w w':=by
 cases h1:Th tx ty tz
 ·
  have HF:Hid (qA fx fy fz tx ty tz wait flight rise len=false):=by unfold qA Hid;simp[h1]
  have H1:=Lib.hid h1
  clear h1 hf
  go_enter func120,ntmps120
  go_wp2_with fail
  refine(Gu _ _ _ _).mono ?_
  rintro e w1 ⟨rfl,hb⟩
  rw[H1.out]
  go_wp2_with fail
  go_ret
  exact⟨Fv HF.out.symm,(((Below.refl _ _).alloc (Nat.le_refl _) _).alloc (by simp) _).trans (hb.mono (by simp;omega))⟩
 ·
  have H1:=Lib.hid h1
  have HF:=Lib.hid hf
  clear h1 hf
  by_cases hT:(Yu wait&&Yu flight&&Yu rise)=true
  ·
   have HT:=Lib.hid hT
   simp only[Bool.and_eq_true,Oc] at hT
   obtain⟨⟨⟨t1,t2⟩,t3,t4⟩,t5,t6⟩:=hT
   have B1:Hid (-1048576<=fz/\fz<=1048576):=((Lb _ _ _).1 HF.out).2.2
   have B2:Hid (-1048576<=tz/\tz<=1048576):=((Lb _ _ _).1 H1.out).2.2
   go_enter func120,ntmps120
   go_wp2_with fail
   refine(Gu _ _ _ _).mono ?_
   rintro e w1 ⟨rfl,hb⟩
   rw[H1.out]
   have hz:=hb.size
   have hB:=(((Below.refl _ _).alloc (Nat.le_refl _) _).alloc (by simp) _).trans (hb.mono (show w.heap.size<=_ by simp;omega))
   obtain⟨hc,hfz⟩:=Hd hb
   simp at hz hc
   go_wp2_with (first
    |(
     go_at_call 119
     refine(cX _ _ ?_).mono ?_
     · omega
     rintro e w' ⟨rfl,rfl⟩)
    |(
     go_at_call 144
     refine(rB _ _ _ _ _ ?_ ?_).mono ?_
     · first|exact B1.out|exact B2.out
     · omega
     rintro e w2 ⟨rfl,hb2⟩
     have hB:=hB.trans (hb2.mono hB.size)
     have hc2:∀b o,b<w.heap.size+1+1->w2.cell? ⟨b,o,none⟩=_:=λb o h=>hb2.cell (p:=⟨b,o,none⟩) (show b<_ by omega)
     have hz:=Nat.le_trans hz hb2.size))
   all_goals
    go_ret
    refine⟨Fv ?_,by assumption⟩
    rw[AeJ H1.out HT.out]
    clear hc
    go_light
    (try simp only[beq_iff_eq,beq_eq_false_iff_ne,ne_eq] at*)
    first
     |(simp[*];done)
     |(simp[*];omega)
     |(rw[Bool.eq_iff_iff];simp[*];omega)
  ·
   have HT:Hid (qA fx fy fz tx ty tz wait flight rise len=false):=by
    unfold qA Hid
    cases a1:Yu wait<;>cases a2:Yu flight<;>cases a3:Yu rise<;>simp_all
   have HN:=Lib.hid hT
   clear hT
   go_enter func120,ntmps120
   go_wp2_with fail
   refine(Gu _ _ _ _).mono ?_
   rintro e w1 ⟨rfl,hb⟩
   rw[H1.out]
   have hz:=hb.size
   have hB:=(((Below.refl _ _).alloc (Nat.le_refl _) _).alloc (by simp) _).trans (hb.mono (show w.heap.size<=_ by simp;omega))
   obtain⟨hc,hfz⟩:=Hd hb
   simp at hz hc
   go_wp2_with (go_at_call 119;refine(Wq _ _).mono ?_;rintro e w' ⟨rfl,rfl⟩)
   all_goals first
    |(exfalso;apply HN.out;simp[*];done)
    |(go_ret;exact⟨Fv HT.out.symm,hB⟩)
def Fr (a b:V3) (f t k:Int):List Sg:=if Lo a b f t=true then [Qp a b f t k] else []
theorem Il (a b:V3) (f t k:Int):(Fr a b f t k).length<=1:=by unfold Fr;split<;>simp
theorem Gp.both {w:World} {a b:V3} {f t k:Int} {e:Ending} {w':World} (h:Gp w a b f t k e w'):
  ∃A c q,e= .returned (.tuple #[.slice A (Fr a b f t k).length c,.int .i64 q])/\Dd w' w.heap.size w'.heap.size (.slice A (Fr a b f t k).length c) (Fr a b f t k)/\Below w.heap.size w w'/\(q=if Lo a b f t=true then 0 else 2):=by
 unfold Gp at h
 unfold Fr
 split at h
 rename_i hf
 obtain⟨v,he,hp,hb⟩:=h
 obtain⟨A,c,rfl⟩:=hp.slice
 simp only[hf,if_true]
 exact⟨A,c,0,he,hp,hb,rfl⟩
 rename_i hf
 simp only[hf]
 exact⟨none,0,2,h.1,Dd.nil _ _,h.2,rfl⟩
theorem Sd (x y z f t:Int) (B base:Nat) (sv:Value) (ss:List Sg) (w:World) (hP:Cl w B base sv ss) (hB:B<base) (hbl:base<=w.heap.size) (hlen:ss.length<=1000000):
  Calls Tryz.prog 145 #[.agg #[.int .i64 x,.int .i64 y,.int .i64 z],.int .i64 f,.int .i64 t,.pointer (some ⟨B,0,none⟩)] w λe w'=>∃sv',e= .returned (.tuple #[])/\Cl w' B base sv' (ss++Fr ⟨x,y,z⟩ ⟨x,y,z⟩ f t 0)/\Below B w w':=by
 obtain⟨i0,hi0,hz0,hz1,hz2⟩:=info_parts Sb
 obtain⟨A0,c0,hsv⟩:=hP.slice
 subst hsv
 have hBlt:B<w.heap.size:=by omega
 go_enter func145,ntmps145
 go_wp2_with fail
 refine(fH _ _ _ _ _ _).mono ?_
 intro e w1 h
 obtain⟨A,c,q,rfl,hp,hb,hq⟩:=h.both
 clear h hq
 have hal:Below w.heap.size w (w.alloc (.cells #[.int .i64 x,.int .i64 y,.int .i64 z] 36)):=(Below.refl _ _).alloc (Nat.le_refl _) _
 have hP1:=(hP.up hal).up hb
 have hb1:Below w.heap.size w w1:=hal.trans (hb.mono (by simp))
 have hcell:=hP1.cell
 have hfro:=hP1.frozen 0
 have hl1:=Il ⟨x,y,z⟩ ⟨x,y,z⟩ f t 0
 obtain⟨cs,hrow,hsegs⟩:=hP1.row
 obtain⟨news,hsn,hgn⟩:=hp
 rw[World.size_alloc] at hgn hsn
 have hz:=hb.size
 simp only[World.size_alloc] at hz
 have hrl:∀g,(Value.slice A0 ss.length c0).ownBlock=some g->g<w.heap.size:=by
  intro g hg
  obtain⟨_,hr0,_⟩:=hP.row
  exact(hr0.lt g hg).2
 generalize hF:Fr ⟨x,y,z⟩ ⟨x,y,z⟩ f t 0=F at*
 have HF:=Lib.hid hF
 clear hF
 go_wp2_with (at_builtin;refine Ew rfl (.tmp 16) (.tmp 17) 54 rfl base 81 i0 _ 6 96 underlying54 hi0 hz0 hz1 hz2 rfl δ _ _ _ rfl hrow _ _ _ _ rfl hsn hgn.oneCell ?_ ?_ ?_ ?_)
 · unfold maxLen;omega
 · omega
 · omega
 intro v' w2 hown hg hat
 obtain⟨hb2,hP2,hBe⟩:=Cl.appended hP1.box hB ω hrow hsegs hgn (lo:=w.heap.size+1) ω (λg hg=>by have:=hrl g hg;omega) hown hg hat
 obtain⟨A2,c2,hv2⟩:=hP2.slice
 rw[List.length_append] at hv2
 subst hv2
 have hc2:w2.cell? ⟨B,0,none⟩=some (.slice A0 ss.length c0):=by simp[World.cell?,hb2]
 have hf2:w2.frozen? ⟨B,0,none⟩=false:=by simp[World.frozen?,hb2]
 clear hcell hfro hg hat hb2 hown
 go_wp2
 go_end0
 rw[HF.out]
 exact⟨_,rfl,hP2,(hb1.mono ω).trans hBe⟩
end Go.Proofs.YtldnjomacnjhnaaGreat
namespace Go.Proofs.YtldnjomacnjhnaaGreat
open Go.Proofs.Tryz
open Go.RowKit
def Yk (a b:V3) (wait flight start len:Int):List Sg:=
 if flight=0 then Fr a a start (start+len) 0
 else Fr a a start (start+wait) 0++Fr a b (start+wait) (start+wait+flight) 2++Fr b b (start+wait+flight) (start+len) 0
theorem Cl.at_ {W:World} {B base:Nat} {sv:Value} {ss:List Sg} (h:Cl W B base sv ss):Dd W base W.heap.size sv ss:=by
 obtain⟨cs,hr,hs⟩:=h.row
 exact⟨cs,Cc.own hr,hs.more λb hd=>⟨hd.1,hd.2.1⟩⟩
theorem cC {w wa:World} {B base:Nat} {sv:Value} {ss:List Sg} (h:Dd wa base wa.heap.size sv ss) (hB:B<base) (hw:w.heap.size<=B) (hb:Below w.heap.size w wa) {u:Value}:
  ∃v,Ending.returned sv= .returned v/\Dd (wa.setCell ⟨B,0,none⟩ u) w.heap.size (wa.setCell ⟨B,0,none⟩ u).heap.size v ss/\Below w.heap.size w (wa.setCell ⟨B,0,none⟩ u):=by
 have hg:wa.grownBy (wa.setCell ⟨B,0,none⟩ u) (some B):=Kw ⟨rfl,rfl,rfl,Nat.le_refl _,λ_ _ _=>rfl⟩ 0 u
 exact⟨sv,rfl,(h.keepG hg (Nat.le_refl _) (by rintro b ⟨rfl⟩;exact .inl hB)).more ω hg.size,hb.setCell hw u⟩
theorem rT (x y z x' y' z' wait flight rise start len:Int) (w:World) (hf:flight=0) (hs:0<=start/\start<=3600000) (hl:0<=len/\len<=3600000) (hw:0<=wait/\wait<=3600000):
  Calls Tryz.prog 121 #[.agg #[.int .i64 x,.int .i64 y,.int .i64 z],.agg #[.int .i64 x',.int .i64 y',.int .i64 z',.int .i64 wait,.int .i64 flight,.int .i64 rise],.int .i64 start,.int .i64 len] w λe w'=>∃v,e= .returned v/\Dd w' w.heap.size w'.heap.size v (Yk ⟨x,y,z⟩ ⟨x',y',z'⟩ wait flight start len)/\Below w.heap.size w w':=by
 have HS:Hid (Yk ⟨x,y,z⟩ ⟨x',y',z'⟩ wait flight start len=Fr ⟨x,y,z⟩ ⟨x,y,z⟩ start (start+len) 0):=by unfold Hid Yk;rw[if_pos hf]
 have hfb:(flight==0)=true:=by simp[hf]
 obtain⟨s1,s2⟩:=hs
 obtain⟨l1,l2⟩:=hl
 obtain⟨w1,w2⟩:=hw
 have f1:0<=flight:=by omega
 have f2:flight<=0:=by omega
 clear hf
 go_enter func121,ntmps121
 go_wp2_with fail
 refine(Sd _ _ _ _ _ _ (w.heap.size+1+1+1) _ [] _ (Cl.new _ _ _ (by simp)) ω (by simp) (by simp)).mono ?_
 rintro e wa ⟨sv,rfl,hP,hb⟩
 obtain⟨A,c,hsv⟩:=hP.slice
 subst hsv
 have hcell:=hP.cell
 have hfro:=hP.frozen 0
 have hz:=hb.size
 have hB:Below w.heap.size w wa:=((((Below.refl _ _).alloc (Nat.le_refl _) _).alloc (by simp) _).alloc (by simp;omega) _).trans (hb.mono ω)
 go_wp2
 refine bodyPost_ret (v:= .slice A ([]++Fr ⟨x,y,z⟩ ⟨x,y,z⟩ start (start+len) 0).length c) (by simp[results,results121,go_sem,hcell]) rfl ?_
 rw[HS.out]
 exact cC hP.at_ ω ω hB
theorem yN (x y z x' y' z' wait flight rise start len:Int) (w:World) (hf:0<flight/\flight<=3600000) (hr:rise<=0) (hs:0<=start/\start<=3600000) (hl:0<=len/\len<=3600000) (hw:0<=wait/\wait<=3600000):
  Calls Tryz.prog 121 #[.agg #[.int .i64 x,.int .i64 y,.int .i64 z],.agg #[.int .i64 x',.int .i64 y',.int .i64 z',.int .i64 wait,.int .i64 flight,.int .i64 rise],.int .i64 start,.int .i64 len] w λe w'=>∃v,e= .returned v/\Dd w' w.heap.size w'.heap.size v (Yk ⟨x,y,z⟩ ⟨x',y',z'⟩ wait flight start len)/\Below w.heap.size w w':=by
 have HS:Hid (Yk ⟨x,y,z⟩ ⟨x',y',z'⟩ wait flight start len=Fr ⟨x,y,z⟩ ⟨x,y,z⟩ start (start+wait) 0++Fr ⟨x,y,z⟩ ⟨x',y',z'⟩ (start+wait) (start+wait+flight) 2++Fr ⟨x',y',z'⟩ ⟨x',y',z'⟩ (start+wait+flight) (start+len) 0):=by unfold Hid Yk;rw[if_neg ω]
 obtain⟨i0,hi0,hz0,hz1,hz2⟩:=info_parts Sb
 obtain⟨f1,f2⟩:=hf
 have hfb:(flight==0)=false:=beq_eq_false_iff_ne.2 ω
 obtain⟨s1,s2⟩:=hs
 obtain⟨l1,l2⟩:=hl
 obtain⟨w1,w2⟩:=hw
 go_enter func121,ntmps121
 go_wp2_with fail
 refine(Sd _ _ _ _ _ _ (w.heap.size+1+1+1) _ [] _ (Cl.new _ _ _ (by simp)) ω (by simp) (by simp)).mono ?_
 rintro e wa ⟨sv,rfl,hP,hb⟩
 obtain⟨A,c,hsv⟩:=hP.slice
 subst hsv
 have hz:=hb.size
 have hB:Below w.heap.size w wa:=((((Below.refl _ _).alloc (Nat.le_refl _) _).alloc (by simp) _).alloc (by simp;omega) _).trans (hb.mono ω)
 obtain⟨hc,hfz⟩:=Hd hb
 simp only[World.size_alloc] at hz
 go_wp2_with fail
 refine(Xk _ _ _ _ _ _ _ _ _).mono ?_
 intro e wb h
 obtain⟨A1,c1,q,rfl,hp,hb1,hq⟩:=h.both
 clear h hq
 have hPb:=hP.up hb1
 have hBb:=hB.trans (hb1.mono hB.size)
 have hc1:∀b o,b<w.heap.size+1+1->wb.cell? ⟨b,o,none⟩=_:=λb o h=>(hb1.cell (p:=⟨b,o,none⟩) (show b<_ by omega)).trans (hc b o h)
 have hcell:=hPb.cell
 have hfro:=hPb.frozen 0
 obtain⟨cs,hrow,hsegs⟩:=hPb.row
 obtain⟨news,hsn,hgn⟩:=hp
 have hl1:=Il ⟨x,y,z⟩ ⟨x,y,z⟩ start (start+wait) 0
 have hl2:=Il ⟨x,y,z⟩ ⟨x',y',z'⟩ (start+wait) (start+wait+flight) 2
 have hrl:∀g,(Value.slice A ([]++Fr ⟨x,y,z⟩ ⟨x,y,z⟩ start (start+wait) 0).length c).ownBlock=some g->g<wa.heap.size:=by
  intro g hg
  obtain⟨_,hr0,_⟩:=hP.row
  exact(hr0.lt g hg).2
 have hzb:=hb1.size
 generalize hF1:Fr ⟨x,y,z⟩ ⟨x,y,z⟩ start (start+wait) 0=L1 at*
 generalize hF2:Fr ⟨x,y,z⟩ ⟨x',y',z'⟩ (start+wait) (start+wait+flight) 2=L2 at*
 clear hF1 hF2 hc hfz
 simp only[List.nil_append] at*
 go_wp2_with (at_builtin;refine Ew rfl (.tmp 62) (.tmp 63) 54 rfl (w.heap.size+1+1+1) 81 i0 _ 6 96 underlying54 hi0 hz0 hz1 hz2 rfl δ _ _ _ rfl hrow _ _ _ _ rfl hsn hgn.oneCell ?_ ?_ ?_ ?_)
 · unfold maxLen;omega
 · omega
 · omega
 intro v' wc hown hg hat
 obtain⟨hbc,hPc,hBe⟩:=Cl.appended hPb.box ω ω hrow hsegs hgn ω hrl hown hg hat
 obtain⟨A2,c2,hv2⟩:=hPc.slice
 rw[List.length_append] at hv2
 subst hv2
 have hcc:wc.cell? ⟨w.heap.size+1+1,0,none⟩=some (.slice A L1.length c):=by simp[World.cell?,hbc]
 have hfc:wc.frozen? ⟨w.heap.size+1+1,0,none⟩=false:=by simp[World.frozen?,hbc]
 have hcs:∀b o,b<w.heap.size+1+1->(wc.setCell ⟨w.heap.size+1+1,0,none⟩ (.slice A2 (L1.length+L2.length) c2)).cell? ⟨b,o,none⟩=_:=λb o h=>(hBe.cell (p:=⟨b,o,none⟩) (show b<_ by omega)).trans (hc1 b o h)
 have hBc:=hBb.trans (hBe.mono ω)
 have hzc:=hBe.size
 clear hcell hfro hown hg hat hbc hc1
 go_wp2_with fail
 refine(Sd _ _ _ _ _ _ (w.heap.size+1+1+1) _ (L1++L2) _ hPc ω ω (by simp;omega)).mono ?_
 rintro e wd ⟨sv,rfl,hPd,hbd⟩
 obtain⟨A3,c3,hsv⟩:=hPd.slice
 subst hsv
 have hcell:=hPd.cell
 have hfro:=hPd.frozen 0
 have hBd:=hBc.trans (hbd.mono ω)
 clear hcs hcc hfc
 go_wp2
 refine bodyPost_ret (v:= .slice A3 (L1++L2++Fr ⟨x',y',z'⟩ ⟨x',y',z'⟩ (start+wait+flight) (start+len) 0).length c3) (by simp[results,results121,go_sem,hcell]) rfl ?_
 rw[HS.out]
 exact cC hPd.at_ ω ω hBd
end Go.Proofs.YtldnjomacnjhnaaGreat