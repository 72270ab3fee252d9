/- Part 6 of the proof of PH.card_holds: no condition beyond the row's. -/
import Derived.Test.YtkpjchfniejdoaaGreatDoorPH5
import Derived.Below
import Derived.Laws.OwnMore
import Derived.Deep.AppendLies
import Derived.Deep.Draws
import Derived.Laws.Rows
import Derived.Maps.AppendAt
import Derived.RegionTactic
import Derived.OwnWalk
import Derived.Deep.QuietTactic
import Derived.WalkKit
import Derived.WalkSpells
import Derived.WalkLawsBesides
import Derived.Lib.Hide
import Derived.Deep.Light
set_option maxRecDepth 100000
set_option maxHeartbeats 40000000
namespace Go.Proofs.YtkpjchfniejdoaaGreatDoor
open Go.Proofs.Tryz
open Go.RowKit
theorem Ψ {B:Nat} {w:World}:Below B w w:=Below.refl B w
theorem Δ {p:Prop} (h:p):Hid p:=h
theorem Ξ.{u} {α:Type u} {xs:Array α} {i:Nat} {b:α} (h:xs[i]?=some b):∃h:i<xs.size,xs[i]=b:=Array.getElem?_eq_some_iff.1 h
def Cs (w:World) (D:Nat->Prop) (size:Nat) (v:Value) (n:Nat) (xs:List Value):Prop:=
 xs.length=n*size/\((∃A c,v= .slice A 0 c/\n=0)\/
  ∃b o c,v= .slice (some ⟨b,o,none⟩) n c/\D b/\∀j u,xs[j]?=some u->w.cell? ⟨b,o+j,none⟩=some u)
def rg (lo hi:Nat):Nat->Prop:=λb=>lo<=b/\b<hi
def Bv (w:World) (lo hi size:Nat) (v:Value) (n:Nat) (xs:List Value):Prop:=Cs w (rg lo hi) size v n xs
section
variable {w w':World} {D D':Nat->Prop} {lo lo' hi hi' size n:Nat} {v:Value} {xs:List Value}
theorem Cs.keep (h:Cs w D size v n xs) (hk:∀b o,D b->w'.cell? ⟨b,o,none⟩=w.cell? ⟨b,o,none⟩):Cs w' D size v n xs:=by
 refine⟨h.1,?_⟩
 rcases h.2 with h0|⟨b,o,c,rfl,hd,hc⟩
 exact .inl h0
 exact .inr ⟨b,o,c,rfl,hd,λj u hu=>(hk b _ hd).trans (hc j u hu)⟩
theorem Cs.more (h:Cs w D size v n xs) (hD:∀b,D b->D' b):Cs w D' size v n xs:=by
 refine⟨h.1,?_⟩
 rcases h.2 with h0|⟨b,o,c,rfl,hd,hc⟩
 exact .inl h0
 exact .inr ⟨b,o,c,rfl,hD b hd,hc⟩
theorem Cs.slice (h:Cs w D size v n xs):∃A c,v= .slice A n c:=by
 rcases h.2 with⟨A,c,rfl,rfl⟩|⟨b,o,c,rfl,_⟩
 exact⟨A,c,rfl⟩
 exact⟨_,c,rfl⟩
theorem Cs.nil (A:Option Addr) (c:Nat):Cs w D size (.slice A 0 c) 0 []:=⟨by simp,.inl ⟨A,c,rfl,rfl⟩⟩
theorem Bv.keep (h:Bv w lo hi size v n xs) (hk:∀b o,lo<=b->b<hi->w'.cell? ⟨b,o,none⟩=w.cell? ⟨b,o,none⟩):Bv w' lo hi size v n xs:=
 Cs.keep h λb o hd=>hk b o hd.1 hd.2
theorem Bv.more (h:Bv w lo hi size v n xs) (hl:lo'<=lo) (hB:hi<=hi'):Bv w lo' hi' size v n xs:=
 Cs.more h λ_ hd=>⟨Nat.le_trans hl hd.1,Nat.lt_of_lt_of_le hd.2 hB⟩
theorem Bv.below (h:Bv w lo hi size v n xs) (hb:Below hi w w'):Bv w' lo hi size v n xs:=
 h.keep λb o _ hlt=>hb.cell (p:=⟨b,o,none⟩) hlt
theorem Bv.up (h:Bv w lo w.heap.size size v n xs) (hb:Below w.heap.size w w'):Bv w' lo w'.heap.size size v n xs:=
 (h.below hb).more ζ hb.size
theorem Bv.set (h:Bv w lo hi size v n xs) (p:Addr) (u:Value) (hp:p.block<lo\/hi<=p.block):Bv (w.setCell p u) lo hi size v n xs:=
 h.keep λb o h1 h2=>World.cell?_setCell_other w p ⟨b,o,none⟩ u (λe=>by subst e;simp at hp;omega)
theorem Bv.new (h:Bv w lo hi size v n xs) (hh:hi<=w.heap.size) (o:Obj):Bv (w.alloc o) lo hi size v n xs:=
 h.below (Ψ.alloc hh o)
theorem Bv.slice (h:Bv w lo hi size v n xs):∃A c,v= .slice A n c:=Cs.slice h
theorem Bv.pos (h:Bv w lo hi size v n xs) (hn:0<n):
  ∃b o c,v= .slice (some ⟨b,o,none⟩) n c/\lo<=b/\b<hi/\∀j u,xs[j]?=some u->w.cell? ⟨b,o+j,none⟩=some u:=by
 rcases h.2 with⟨A,c,rfl,rfl⟩|⟨b,o,c,e,hd,hc⟩
 omega
 exact⟨b,o,c,e,hd.1,hd.2,hc⟩
theorem Bv.nil (A:Option Addr) (c:Nat):Bv w lo hi size (.slice A 0 c) 0 []:=Cs.nil A c
theorem Bv.keepG {row:Option Nat} (h:Bv w lo hi size v n xs) (hg:w.grownBy w' row) (hB:hi<=w.heap.size) (hr:∀b,row=some b->b<lo\/hi<=b):Bv w' lo hi size v n xs:=
 h.keep λb o h1 h2=>World.cell?_of_block (hg.block b ω (λe=>by have:=hr b e.symm;omega))
end
theorem Fh {a b:Bool} (h:a=b):Ending.returned (.bool a)= .returned (.bool b):=by rw[h]
theorem Bv.new1 (w:World) (cs:List Value) (n b lo hi size:Nat) (t:TypeId) (hn:cs.length=n*size) (hb:w.heap.size=b) (hl:lo<=b) (hB:b<hi):
  Bv (w.alloc (.cells cs.toArray t)) lo hi size (.slice (some ⟨b,0,none⟩) n n) n cs:=by
 subst hb
 refine⟨ω,.inr ⟨w.heap.size,0,n,rfl,⟨hl,hB⟩,λj u hu=>?_⟩⟩
 simp[hu]
theorem dY (w:World) (cs:List Value) (n b size:Nat) (e:TypeId) (hn:cs.length=n*size) (hb:w.heap.size=b) (hm:n<=maxLen):
  (w.alloc (.cells cs.toArray e)).ownsRow b e size (.slice (some ⟨b,0,none⟩) n n) n cs:=by
 subst hb
 refine⟨hn,.inr ⟨w.heap.size,n,cs.toArray,rfl,Nat.le_refl _,?_,Nat.le_refl _,hm,by simpa using hn,by simp[<-hn]⟩⟩
 exact heap_alloc_new w _
theorem Bv.own {w:World} {base size:Nat} {e:TypeId} {v:Value} {n:Nat} {xs:List Value} (h:w.ownsRow base e size v n xs):Bv w base w.heap.size size v n xs:=by
 refine⟨h.1,?_⟩
 rcases h.2 with⟨rfl,rfl⟩|⟨g,cap,cur,rfl,hb,hg,hnc,hcm,hcs,htk⟩
 exact .inl ⟨none,0,rfl,rfl⟩
 refine .inr ⟨g,0,cap,rfl,⟨hb,(Ξ hg).1⟩,λj u hu=>?_⟩
 rw[Nat.zero_add,cell_of_row w g j cur e (0,0) hg,<-Array.getElem?_toList]
 rw[<-htk,List.getElem?_take] at hu
 split at hu
 exact hu
 cases hu
def Ib (xs:List Int):List Value:=xs.map (.int .i64)
theorem Yv (xs:List Int) (k:Nat) (h:k<xs.length):(Ib xs)[k]?=some (.int .i64 xs[k]):=by simp[Ib,h]
theorem tY:(Tryz.prog.info? 3).map (λi=>(i.zero,i.size,i.bytes))=some (some (.int .i64 0),1,8):=κ
theorem AlB {k:IntKind} {a b:Int} (h:a=b):Ending.returned (.int k a)= .returned (.int k b):=by rw[h]
theorem Gl {W w1:World} {B:Nat} (hb:Below B W w1):(∀b o,b<B->w1.cell? ⟨b,o,none⟩=W.cell? ⟨b,o,none⟩)/\(∀b o,b<B->w1.frozen? ⟨b,o,none⟩=W.frozen? ⟨b,o,none⟩):=
 ⟨λb o h=>hb.cell (p:=⟨b,o,none⟩) h,λb o h=>hb.frozen (p:=⟨b,o,none⟩) h⟩
theorem Gq (w:World) (o:Obj) (b:Nat) (hb:w.heap.size=b):(w.alloc o).heap[b]?=some o:=by subst hb;exact heap_alloc_new w o
theorem Ek (b o j:Nat):(⟨b,o,none⟩:Addr).add j=⟨b,o+j,none⟩:=by unfold Addr.add;split<;>simp_all
theorem Tc (w:World) (base:Nat) (t ty e:TypeId) (i:TypeInfo) (z:Value) (size bytes:Nat) (ht:Tryz.prog.underlying t=some (.slice e)) (hi:Tryz.prog.info? e=some i) (hz:i.zero=some z)
  (hsize:i.size=size) (hby:i.bytes=bytes) (hzs:z.cells.size=size) (hsz:0<size) (v:Value) (n:Nat) (xs:List Value) (hown:w.ownsRow base e size v n xs)
  (D:Nat->Prop) (x:Value) (m:Nat) (news:List Value) (hr:Cs w D size x m news) (h1:∀u∈news,u.oneCell'=true) (h63:n+m<=maxLen) (hbytes:(n+m)*bytes<=140737488355328) (hbase:base<=w.heap.size):
  ∃v' w',(Builtin.append_ #[t,t] ty #[v,x]).run Tryz.prog w= .ok v' w'/\w'.ownsRow base e size v' (n+m) (xs++news)/\w.grownBy w' v.ownBlock/\(v'.ownBlock=v.ownBlock\/v'.ownBlock=some w.heap.size):=by
 rcases hr.2 with⟨A,c,rfl,rfl⟩|⟨b,o,c,rfl,_,hc⟩
 have hn:news=[]:=List.eq_nil_of_length_eq_zero (by simpa using hr.1)
 subst hn
 cases A with
 |none=>
  refine⟨v,w,?_,by simpa using hown,⟨rfl,rfl,rfl,Nat.le_refl _,λ_ _ _=>rfl⟩,.inl rfl⟩
  rcases hown.2 with⟨rfl,rfl⟩|⟨g,cap,cur,rfl,_,_,hnc,_⟩
  simp[Builtin.append_,run_underlying ht,sizeOf,typeInfo,hi,Builtin.lenOf,Builtin.firstCells]
  simp[Builtin.append_,run_underlying ht,sizeOf,typeInfo,hi,Builtin.lenOf,Builtin.firstCells,hnc,storeCells]
 |some ad=>
  obtain⟨v',w',hrun,h2,h3,_,h5⟩:=run_append_own_at (P:=Tryz.prog) w base t ty e i z size bytes ht hi hz hsize hby hzs hsz v n xs hown ad 0 c [] (by simp) (by simp) h1 h63 hbytes hbase
  exact⟨v',w',hrun,h2,h3,h5⟩
 obtain⟨v',w',hrun,h2,h3,_,h5⟩:=run_append_own_at (P:=Tryz.prog) w base t ty e i z size bytes ht hi hz hsize hby hzs hsz v n xs hown ⟨b,o,none⟩ m c news hr.1 (λj u hu=>by rw[Ek];exact hc j u hu) h1 h63 hbytes hbase
 exact⟨v',w',hrun,h2,h3,h5⟩
theorem Fr {w:World} {ops:Array Oper} {rest:List Oper} {o:Oper} {a:Act} {Q:Exit->Act->World->Prop} (hgd:o.guard=none) (s x:Operand) (t:TypeId)
  (ho:o.op= .call { callee:= .builtin .append,args:=#[s,x],argTypes:=#[t,t] }) (base:Nat) (e:TypeId) (i:TypeInfo) (z:Value) (size bytes:Nat) (ht:Tryz.prog.underlying t=some (.slice e)) (hi:Tryz.prog.info? e=some i) (hz:i.zero=some z)
  (hsize:i.size=size) (hby:i.bytes=bytes) (hzs:z.cells.size=size) (hsz:0<size) (v:Value) (n:Nat) (xs:List Value) (hs:a.eval s=v) (hown:w.ownsRow base e size v n xs)
  (D:Nat->Prop) (u:Value) (m:Nat) (news:List Value) (hx:a.eval x=u) (hr:Cs w D size u m news) (h1:∀u∈news,u.oneCell'=true) (h63:n+m<=maxLen) (hbytes:(n+m)*bytes<=140737488355328) (hbase:base<=w.heap.size)
  (h:∀v' w',w'.ownsRow base e size v' (n+m) (xs++news)->w.grownBy w' v.ownBlock->(v'.ownBlock=v.ownBlock\/v'.ownBlock=some w.heap.size)->wpList Tryz.prog ops Q rest (a.put o.dst v') w'):wpList Tryz.prog ops Q (o::rest) a w:=by
 refine wpList_plain hgd λK hK=>?_
 obtain⟨v',w',hrun,h2,h3,h4⟩:=Tc w base t o.type e i z size bytes ht hi hz hsize hby hzs hsz v n xs hown D u m news hr h1 h63 hbytes hbase
 unfold Oper.wp
 simp[execOp,ho,resolve,invoke,builtin,hs,hx,hrun,Result.andThen]
 exact hK _ _ (h v' w' h2 h3 h4)
structure V3 where
 x:Int
 y:Int
 z:Int
deriving DecidableEq
structure Sg where
 f:Int
 t:Int
 o:Int
 x:List Int
 y:List Int
 z:List Int
deriving DecidableEq
def Mi (w:World) (D:Nat->Prop) (s:Sg) (cs:List Value):Prop:=
 ∃vx vy vz,cs=[.int .i64 s.f,.int .i64 s.t,.int .i64 s.o,vx,vy,vz]/\Cs w D 1 vx s.x.length (Ib s.x)/\Cs w D 1 vy s.y.length (Ib s.y)/\Cs w D 1 vz s.z.length (Ib s.z)
def Gp (w:World) (D:Nat->Prop):List Sg->List Value->Prop
 |[],cs=>cs=[]
 |s::ss,cs=>∃a b,cs=a++b/\Mi w D s a/\Gp w D ss b
def Age (w:World) (D:Nat->Prop) (v:Value) (ss:List Sg):Prop:=∃cs,Cs w D 6 v ss.length cs/\Gp w D ss cs
def Cq (w:World) (lo hi:Nat) (v:Value) (ss:List Sg):Prop:=Age w (rg lo hi) v ss
section
variable {w w':World} {D D':Nat->Prop} {lo lo' hi hi':Nat} {v:Value} {ss ss':List Sg} {s:Sg} {cs cs':List Value}
theorem Mi.keep (h:Mi w D s cs) (hk:∀b o,D b->w'.cell? ⟨b,o,none⟩=w.cell? ⟨b,o,none⟩):Mi w' D s cs:=by
 obtain⟨vx,vy,vz,e,h1,h2,h3⟩:=h
 exact⟨vx,vy,vz,e,h1.keep hk,h2.keep hk,h3.keep hk⟩
theorem Mi.more (h:Mi w D s cs) (hD:∀b,D b->D' b):Mi w D' s cs:=by
 obtain⟨vx,vy,vz,e,h1,h2,h3⟩:=h
 exact⟨vx,vy,vz,e,h1.more hD,h2.more hD,h3.more hD⟩
theorem Gp.keep (hk:∀b o,D b->w'.cell? ⟨b,o,none⟩=w.cell? ⟨b,o,none⟩):∀{ss:List Sg} {cs:List Value},Gp w D ss cs->Gp w' D ss cs
 |[],_,h=>h
 |_::_,_,⟨a,b,e,h1,h2⟩=>⟨a,b,e,h1.keep hk,Gp.keep hk h2⟩
theorem Gp.more (hD:∀b,D b->D' b):∀{ss:List Sg} {cs:List Value},Gp w D ss cs->Gp w D' ss cs
 |[],_,h=>h
 |_::_,_,⟨a,b,e,h1,h2⟩=>⟨a,b,e,h1.more hD,Gp.more hD h2⟩
theorem Gp.append:∀{ss ss':List Sg} {cs cs':List Value},Gp w D ss cs->Gp w D ss' cs'->Gp w D (ss++ss') (cs++cs')
 |[],_,_,_,h,h'=>by rw[h];exact h'
 |_::_,_,_,_,⟨a,b,e,h1,h2⟩,h'=>⟨a,b++_,by rw[e,List.append_assoc],h1,Gp.append h2 h'⟩
theorem Gp.one (h:Mi w D s cs):Gp w D [s] cs:=⟨cs,[],by simp,h,rfl⟩
theorem Gp.oneCell:∀{ss:List Sg} {cs:List Value},Gp w D ss cs->∀u∈cs,u.oneCell'=true
 |[],_,h,u,hu=>by rw[h] at hu;cases hu
 |_::_,_,⟨a,b,e,⟨vx,vy,vz,e1,h1,h2,h3⟩,hr⟩,u,hu=>by
  obtain⟨_,_,rfl⟩:=h1.slice
  obtain⟨_,_,rfl⟩:=h2.slice
  obtain⟨_,_,rfl⟩:=h3.slice
  rw[e,List.mem_append] at hu
  rcases hu with hu|hu
  rw[e1] at hu;simp at hu;rcases hu with rfl|rfl|rfl|rfl|rfl|rfl<;>rfl
  exact Gp.oneCell hr u hu
theorem Gp.at_:∀{ss:List Sg} {cs:List Value},Gp w D ss cs->∀{k:Nat} (hk:k<ss.length),∃a,Mi w D ss[k] a/\∀j u,a[j]?=some u->cs[k*6+j]?=some u
 |s::ss,_,⟨a,b,e,h1,h2⟩,0,_=>⟨a,h1,λj u hu=>by
   rw[e,Nat.zero_mul,Nat.zero_add,List.getElem?_append_left]
   exact hu
   exact(List.getElem?_eq_some_iff.1 hu).1⟩
 |s::ss,_,⟨a,b,e,⟨vx,vy,vz,e1,hh⟩,h2⟩,k+1,hk=>by
  obtain⟨c,hc,hcell⟩:=Gp.at_ h2 (k:=k) (by simpa using hk)
  refine⟨c,hc,λj u hu=>?_⟩
  rw[e,List.getElem?_append_right (by rw[e1];simp;omega),<-hcell j u hu,e1]
  congr 1
  simp
  omega
theorem Cq.keep (h:Cq w lo hi v ss) (hk:∀b o,lo<=b->b<hi->w'.cell? ⟨b,o,none⟩=w.cell? ⟨b,o,none⟩):Cq w' lo hi v ss:=by
 obtain⟨cs,h1,h2⟩:=h
 exact⟨cs,Cs.keep h1 λb o hd=>hk b o hd.1 hd.2,h2.keep λb o hd=>hk b o hd.1 hd.2⟩
theorem Cq.more (h:Cq w lo hi v ss) (hl:lo'<=lo) (hh:hi<=hi'):Cq w lo' hi' v ss:=by
 obtain⟨cs,h1,h2⟩:=h
 have hD:∀b,rg lo hi b->rg lo' hi' b:=λb hd=>⟨Nat.le_trans hl hd.1,Nat.lt_of_lt_of_le hd.2 hh⟩
 exact⟨cs,h1.more hD,h2.more hD⟩
theorem Cq.below (h:Cq w lo hi v ss) (hb:Below hi w w'):Cq w' lo hi v ss:=h.keep λb o _ hlt=>hb.cell (p:=⟨b,o,none⟩) hlt
theorem Cq.up (h:Cq w lo w.heap.size v ss) (hb:Below w.heap.size w w'):Cq w' lo w'.heap.size v ss:=(h.below hb).more ζ hb.size
theorem Cq.keepG {row:Option Nat} (h:Cq w lo hi v ss) (hg:w.grownBy w' row) (hB:hi<=w.heap.size) (hr:∀b,row=some b->b<lo\/hi<=b):Cq w' lo hi v ss:=
 h.keep λb o h1 h2=>World.cell?_of_block (hg.block b ω (λe=>by have:=hr b e.symm;omega))
theorem Cq.nil (A:Option Addr) (c:Nat):Cq w lo hi (.slice A 0 c) []:=⟨[],Cs.nil A c,rfl⟩
theorem Cq.slice (h:Cq w lo hi v ss):∃A c,v= .slice A ss.length c:=by
 obtain⟨cs,h1,_⟩:=h
 exact h1.slice
end
def Iz (l:List V3):List Value:=l.flatMap λv=>[.int .i64 v.x,.int .i64 v.y,.int .i64 v.z]
theorem cP:∀l:List V3,(Iz l).length=l.length*3
 |[]=>rfl
 |v::l=>by show ([Value.int .i64 v.x,.int .i64 v.y,.int .i64 v.z]++Iz l).length=_;rw[List.length_append,cP l];simp;omega
theorem Mu:∀(l:List V3) (k:Nat) (h:k<l.length) (j:Nat) (u:Value),[Value.int .i64 l[k].x,.int .i64 l[k].y,.int .i64 l[k].z][j]?=some u->(Iz l)[k*3+j]?=some u
 |v::l,0,_,j,u,hu=>by
  show ([Value.int .i64 v.x,.int .i64 v.y,.int .i64 v.z]++Iz l)[0*3+j]?=some u
  rw[Nat.zero_mul,Nat.zero_add,List.getElem?_append_left]
  exact hu
  exact(List.getElem?_eq_some_iff.1 hu).1
 |v::l,k+1,h,j,u,hu=>by
  have:=Mu l k (by simpa using h) j u hu
  show ([Value.int .i64 v.x,.int .i64 v.y,.int .i64 v.z]++Iz l)[(k+1)*3+j]?=some u
  rw[List.getElem?_append_right (by simp;omega),<-this]
  congr 1
  simp
  omega
theorem wG (a b:List V3):Iz a++Iz b=Iz (a++b):=by simp[Iz]
def V3.zero:V3:=⟨0,0,0⟩
def Ed (m:Int) (xs:List Int):Bool:=xs.all λn=>decide (-m<=n)&&decide (n<=m)
theorem Yu (m:Int) (xs:List Int) (k:Nat) (h:k<xs.length):Ed m (xs.take (k+1))=(Ed m (xs.take k)&&(decide (-m<=xs[k])&&decide (xs[k]<=m))):=by
 unfold Ed;rw[List.take_succ_eq_append_getElem h,List.all_append];simp only[List.all_cons,List.all_nil,Bool.and_true]
theorem gK (m:Int) (xs:List Int) (k:Nat) (h:k<xs.length) (hx:xs[k]< -m\/m<xs[k]):Ed m xs=false:=by
 unfold Ed
 rw[List.all_eq_false]
 exact⟨xs[k],List.getElem_mem h,by simp;omega⟩
theorem gO (m:Int) (hm0:0<=m) (hm:m<=1099511627776) (xs:List Int) (v:Value) (w:World) (hl:xs.length<=4611686018427387904)
  (h:Bv w 0 w.heap.size 1 v xs.length (Ib xs)):
  Calls Tryz.prog 33 #[.int .i64 m,v] w λe w'=>e= .returned (.bool (Ed m xs))/\w=w':=by
 obtain⟨A,c,hv⟩:=h.slice
 subst hv
 go_enter func33,ntmps33
 go_wp2
 go_loop [4,6,9] (λ_ _ i=>∃k:Nat,k<=xs.length/\i= .int .i64 k/\Ed m (xs.take k)=true) (λ_ _ i=>xs.length-(intOf i).toNat)
 case atStart=>exact⟨0,Nat.zero_le _,rfl,rfl⟩
 case round=>
  obtain⟨k,hk,rfl,hin⟩:=hrel
  have HIN:=Δ hin
  clear hin
  by_cases hlt:k<xs.length
  ·
   obtain⟨b,o,c',e,_,hb,hc⟩:=h.pos ω
   have hcell:=hc k (.int .i64 xs[k]) (Yv xs k hlt)
   cases e
   clear hc h
   go_wp2
   ·
    go_ret
    exact⟨Fh (gK m xs k hlt ‹_›).symm,rfl⟩
   · exact⟨⟨k+1,ω,by go_num,by rw[Yu m xs k hlt,HIN.out];simp;omega⟩,by simp[intOf];omega⟩
   ·
    go_ret
    exact⟨Fh (gK m xs k hlt (.inl ‹_›)).symm,rfl⟩
  ·
   go_wp2
   go_ret
   exact⟨Fh (by rw[<-HIN.out,List.take_of_length_le ω]),rfl⟩
theorem nF (x y z:Int) (w:World):
  Calls Tryz.prog 17 #[.agg #[.int .i64 x,.int .i64 y,.int .i64 z]] w λe w'=>e= .returned (.bool (Ed 1048576 [x,y,z]))/\Below w.heap.size w w':=by
 go_enter func17,ntmps17
 go_wp2_with fail
 refine(gO _ ?_ ?_ [x,y,z] _ _ ?_ ?_).mono ?_
 · omega
 · omega
 · simp
 · exact Bv.new1 _ [.int .i64 x,.int .i64 y,.int .i64 z] 3 _ _ _ 1 3 rfl (by simp) Ω (by simp)
 rintro e w' ⟨rfl,rfl⟩
 go_wp2
 go_ret
 exact⟨rfl,(Ψ.alloc ζ _).alloc (by simp) _⟩
def Wk (x y z:Int):Bool:=Ed 1048576 [x,y,z]
theorem Mr (x y z:Int):Wk x y z=true↔(-1048576<=x/\x<=1048576)/\(-1048576<=y/\y<=1048576)/\(-1048576<=z/\z<=1048576):=by
 unfold Wk Ed;simp
theorem Gg (x y z:Int) (w:World):Calls Tryz.prog 17 #[.agg #[.int .i64 x,.int .i64 y,.int .i64 z]] w λe w'=>e= .returned (.bool (Wk x y z))/\Below w.heap.size w w':=nF x y z w
def Abr (c:UInt8):Bool:=(97<=c.toNat&&c.toNat<=122)||(65<=c.toNat&&c.toNat<=90)
def Hl (i:Nat) (c:UInt8):Bool:=Abr c||(decide (0<i)&&((48<=c.toNat&&c.toNat<=57)||c.toNat==45||c.toNat==95))
def Rf (s:ByteArray):Bool:=(List.range s.size).all (λi=>Hl i (s.data.getD i 0))&&decide (1<=s.size)&&decide (s.size<=32)
theorem Wh (i:Nat) (c:UInt8):Hl i c=true↔((97<=(c.toNat:Int)/\(c.toNat:Int)<=122)\/(65<=(c.toNat:Int)/\(c.toNat:Int)<=90))\/(0<i/\((48<=(c.toNat:Int)/\(c.toNat:Int)<=57)\/(c.toNat:Int)=45\/(c.toNat:Int)=95)):=by
 unfold Hl Abr;simp;omega
theorem AdI (s:ByteArray) (k:Nat) (hlt:k<s.size) (h:(List.range k).all (λi=>Hl i (s.data.getD i 0))=true) (hc:Hl k s[k]=true):
  (List.range (k+1)).all (λi=>Hl i (s.data.getD i 0))=true:=by
 have e:s.data.getD k 0=s[k]:=by rw[Array.getD,dif_pos (show k<s.data.size from hlt)];rfl
 rw[List.range_succ,List.all_append,h];simp only[List.all_cons,List.all_nil,e,hc,Bool.and_true]
theorem Alg (s:ByteArray) (k:Nat) (hlt:k<s.size) (hc:¬Hl k s[k]=true):false=Rf s:=by
 have e:s.data.getD k 0=s[k]:=by rw[Array.getD,dif_pos (show k<s.data.size from hlt)];rfl
 have:(List.range s.size).all (λi=>Hl i (s.data.getD i 0))=false:=by
  rw[List.all_eq_false];exact⟨k,List.mem_range.2 hlt,by rw[e];exact hc⟩
 unfold Rf;rw[this];rfl
theorem AdH (s:ByteArray) (h:(List.range s.size).all (λi=>Hl i (s.data.getD i 0))=true):Rf s=(decide (1<=s.size)&&decide (s.size<=32)):=by unfold Rf;rw[h];rfl
theorem Wn (s:ByteArray) (w:World) (hs:s.size<=maxLen):
  Calls Tryz.prog 41 #[.string s] w λe w'=>e= .returned (.bool (Rf s))/\w=w':=by
 unfold maxLen at hs
 go_enter func41,ntmps41
 go_wp2
 go_loop [2,3,4,7,13,28] (λ_ _ _ i _ _=>∃k:Nat,k<=s.size/\i= .int .i64 k/\Hid ((List.range k).all (λi=>Hl i (s.data.getD i 0))=true)) (λ_ _ _ i _ _=>s.size-(intOf i).toNat)
 case atStart=>exact⟨0,Nat.zero_le _,rfl,rfl⟩
 case round=>
  obtain⟨k,hk,rfl,HIN⟩:=hrel
  by_cases hlt:k<s.size
  ·
   go_wp2
   all_goals first
    |exact⟨⟨k+1,ω,by go_num,AdI s k hlt HIN.out ((Wh _ _).2 (by clear HIN;go_light;(try simp only[beq_iff_eq] at*);omega))⟩,by simp[intOf];omega⟩
    |(go_ret;exact⟨Fh (Alg s k hlt (λh=>by clear HIN;go_light;have:=(Wh _ _).1 h;(try simp only[beq_eq_false_iff_ne,ne_eq] at*);omega)),rfl⟩)
  ·
   have e:k=s.size:=by omega
   have HE:=Δ e
   clear e
   go_wp2
   all_goals
    go_ret
    refine⟨Fh ?_,rfl⟩
    rw[AdH s (by rw[<-HE.out];exact HIN.out)]
    rw[Bool.eq_iff_iff]
    simp
    omega
def Vq (a b:Int) (row:List Int) (k:Nat):List Int:=a::(row.take k).map (·*(b-a))
theorem rA (a b:Int) (row:List Int) (k:Nat) (h:k<row.length):Ib (Vq a b row k)++[.int .i64 (row[k]*(b-a))]=Ib (Vq a b row (k+1)):=by
 unfold Vq Ib;rw[List.take_succ_eq_append_getElem h];simp only[List.map_cons,List.map_append,List.cons_append,List.map_nil]
def Cx (a b:Int) (row:List Int):List Int:=a::if a=b then [] else row.map (·*(b-a))
theorem mQ (f d:Int) (hf: -100<=f/\f<=100) (hd: -4194304<=d/\d<=4194304): -1000000000<=f*d/\f*d<=1000000000:=by
 have h1:f*d<=100*4194304:=by
  rcases Int.le_total 0 f with h|h<;>rcases Int.le_total 0 d with h'|h'
  exact Int.mul_le_mul hf.2 hd.2 h' ω
  have:=Int.mul_nonneg h (show 0<=-d by omega);rw[Int.mul_neg] at this;omega
  have:=Int.mul_nonneg (show 0<=-f by omega) h';rw[Int.neg_mul] at this;omega
  have:=Int.mul_le_mul (show -f<=100 by omega) (show -d<=4194304 by omega) ω ω;rw[Int.neg_mul_neg] at this;omega
 have h2: -(f*d)<=100*4194304:=by
  rcases Int.le_total 0 f with h|h<;>rcases Int.le_total 0 d with h'|h'
  have:=Int.mul_nonneg h h';omega
  have:=Int.mul_le_mul hf.2 (show -d<=4194304 by omega) ω ω;rw[Int.mul_neg] at this;omega
  have:=Int.mul_le_mul (show -f<=100 by omega) hd.2 h' ω;rw[Int.neg_mul] at this;omega
  have:=Int.mul_nonneg (show 0<=-f by omega) (show 0<=-d by omega);rw[Int.neg_mul_neg] at this;omega
 omega
theorem bB (a b:Int) (row:List Int) (v:Value) (w:World) (lo B:Nat) (hB:B<=w.heap.size) (ha: -2097152<=a/\a<=2097152) (hb: -2097152<=b/\b<=2097152) (hr:∀f∈row,-100<=f/\f<=100) (hl:row.length<=100)
  (h:Bv w lo B 1 v row.length (Ib row)):
  Calls Tryz.prog 230 #[.int .i64 a,.int .i64 b,v] w λe w'=>∃v',e= .returned v'/\Bv w' w.heap.size w'.heap.size 1 v' (Cx a b row).length (Ib (Cx a b row))/\Below w.heap.size w w':=by
 obtain⟨i0,hi,hz0,hz1,hz2⟩:=info_parts tY
 obtain⟨A,c,hv⟩:=h.slice
 subst hv
 obtain⟨ha1,ha2⟩:=ha
 obtain⟨hb1,hb2⟩:=hb
 by_cases hab:a=b
 ·
  have h1:(a != b)=false:=by simp[hab]
  have HT:Hid (Cx a b row=[a]):=by unfold Cx Hid;rw[if_pos hab]
  clear hab
  go_enter func230,ntmps230
  go_wp2
  go_ret
  refine⟨_,rfl,?_,Ψ.alloc ζ _⟩
  rw[HT.out]
  exact(Bv.own (dY w [.int .i64 a] 1 _ 1 3 rfl rfl δ))
 ·
  have h1:(a != b)=true:=by simp[hab]
  have HT:Hid (Cx a b row=a::row.map (·*(b-a))):=by unfold Cx Hid;rw[if_neg hab]
  clear hab
  go_enter func230,ntmps230
  go_wp2
  go_loopw [7,9,17] (λv _ i wr=>∃k:Nat,k<=row.length/\i= .int .i64 k/\wr.ownsRow w.heap.size 3 1 v (k+1) (Ib (Vq a b row k))/\Below w.heap.size w wr) (λ_ _ i _=>row.length-(intOf i).toNat)
  case atStart=>exact⟨0,Nat.zero_le _,rfl,dY w [.int .i64 a] 1 _ 1 3 rfl rfl δ,Ψ.alloc ζ _⟩
  case round=>
   obtain⟨k,hk,rfl,hown,hbel⟩:=hrel
   by_cases hlt:k<row.length
   ·
    obtain⟨b',o,c',e,_,hb',hc⟩:=(h.below (hbel.mono hB)).pos ω
    have hcell:=hc k (.int .i64 row[k]) (Yv row k hlt)
    cases e
    clear hc h
    have hm:=mQ row[k] (b-a) (hr _ (List.getElem_mem hlt)) ω
    obtain⟨hm1,hm2⟩:=hm
    clear hr
    go_wp2_with (at_builtin;refine wpList_append_own _ rfl (.tmp 21) (.tmp 27) 95 rfl w.heap.size 3 i0 (.int .i64 0) 1 8 underlying95 hi hz0 hz1 hz2 rfl δ _ _ _ rfl (hown.alloc _) ⟨_,0,none⟩ 1 1 [.int .i64 (row[k]*(b-a))] rfl rfl ?c1 ?c2 ?c3 ?c4 ?c5 ?_)
    case c1=>exact cell_one_new _ _ _
    case c2=>simp[Value.oneCell']
    case c3=>unfold maxLen;omega
    case c4=>omega
    case c5=>have:=hbel.size;simp;omega
    intro v' w1 hown1 hg1 _
    rw[rA a b row k hlt] at hown1
    have hbel1:Below w.heap.size w w1:=(hbel.alloc hbel.size _).grown hg1 (by have:=hbel.size;simp;omega) (λj hj=>(hown.lt j hj).1)
    clear hown hbel hg1
    go_wp2
    go_roundw
    case rel=>exact⟨k+1,ω,by go_num,hown1,hbel1⟩
    case measure=>simp[intOf];omega
   ·
    have hkl:Hid (k=row.length):=by unfold Hid;omega
    go_wp2
    go_ret
    refine⟨_,rfl,?_,hbel⟩
    rw[HT.out]
    have e1:Vq a b row k=a::row.map (·*(b-a)):=by unfold Vq;rw[List.take_of_length_le (by rw[hkl.out];exact Nat.le_refl _)]
    have e2:(a::row.map (·*(b-a))).length=k+1:=by simp[hkl.out]
    rw[e2,<-e1]
    exact Bv.own hown
theorem Us:(Tryz.prog.info? 141).map (λi=>(i.zero,i.size,i.bytes))=some (some (.agg #[.int .i64 0,.int .i64 0,.int .i64 0,.slice none 0 0,.slice none 0 0,.slice none 0 0]),6,96):=κ
structure Cc (W:World) (B base:Nat) (sv:Value) (ss:List Sg):Prop where
 box:W.heap[B]?=some (.cells #[sv] 89 (0,0))
 row:∃cs,W.ownsRow base 141 6 sv ss.length cs/\Gp W (λb=>base<=b/\b<W.heap.size/\sv.ownBlock≠some b) ss cs
theorem Cc.cell {W:World} {B base:Nat} {sv:Value} {ss:List Sg} (h:Cc W B base sv ss):W.cell? ⟨B,0,none⟩=some sv:=by simp[World.cell?,h.box]
theorem Cc.frozen {W:World} {B base:Nat} {sv:Value} {ss:List Sg} (h:Cc W B base sv ss) (o:Nat):W.frozen? ⟨B,o,none⟩=false:=by simp[World.frozen?,h.box]
theorem Cc.slice {W:World} {B base:Nat} {sv:Value} {ss:List Sg} (h:Cc W B base sv ss):∃A c,sv= .slice A ss.length c:=by
 obtain⟨cs,hr,_⟩:=h.row
 rcases hr.2 with⟨rfl,e⟩|⟨g,cap,cur,rfl,_⟩
 exact⟨none,0,by rw[e]⟩
 exact⟨_,cap,rfl⟩
theorem Cc.new (W:World) (B base:Nat) (hB:W.heap.size=B):Cc (W.alloc (.cells #[.slice none 0 0] 89)) B base (.slice none 0 0) []:=
 ⟨Gq _ _ _ hB,[],⟨rfl,.inl ⟨rfl,rfl⟩⟩,rfl⟩
theorem Cc.up {W W':World} {B base:Nat} {sv:Value} {ss:List Sg} (h:Cc W B base sv ss) (hb:Below W.heap.size W W'):Cc W' B base sv ss:=by
 have hBl:B<W.heap.size:=(Ξ h.box).1
 obtain⟨cs,hr,hs⟩:=h.row
 refine⟨(hb.block B hBl).trans h.box,cs,?_,?_⟩
 refine hr.kept (row:=none) ⟨hb.os,hb.tape,hb.output,hb.size,λk hk _=>hb.block k hk⟩ ?_
 cases sv.ownBlock with
 |none=>exact .inl rfl
 |some k=>exact .inr (by simp)
 have hz:=hb.size
 exact(hs.keep λb o hd=>hb.cell (p:=⟨b,o,none⟩) hd.2.1).more λb hd=>⟨hd.1,ω,hd.2.2⟩
theorem Cc.appendedD {W w1:World} {B base:Nat} {sv v':Value} {ss ss':List Sg} {cs news:List Value} (hbox:W.heap[B]?=some (.cells #[sv] 89 (0,0))) (hB:B<base) (_:base<=W.heap.size)
  (hr:W.ownsRow base 141 6 sv ss.length cs) (hs:Gp W (λb=>base<=b/\b<W.heap.size/\sv.ownBlock≠some b) ss cs)
  (hn2:Gp W (λb=>base<=b/\b<W.heap.size/\sv.ownBlock≠some b) ss' news)
  (hown:w1.ownsRow base 141 6 v' (ss.length+ss'.length) (cs++news)) (hg:W.grownBy w1 sv.ownBlock) (hat:v'.ownBlock=sv.ownBlock\/v'.ownBlock=some W.heap.size):
  w1.heap[B]?=some (.cells #[sv] 89 (0,0))/\Cc (w1.setCell ⟨B,0,none⟩ v') B base v' (ss++ss')/\Below B W (w1.setCell ⟨B,0,none⟩ v'):=by
 have hBlt:B<W.heap.size:=(Ξ hbox).1
 have hBne:some B≠sv.ownBlock:=λe=>by have:=(hr.lt B e.symm).1;omega
 have hb1:w1.heap[B]?=some (.cells #[sv] 89 (0,0)):=(hg.block B hBlt hBne).trans hbox
 have hz:=hg.size
 have hbne:∀b,base<=b->B≠b:=λb hb=>by omega
 refine⟨hb1,⟨?_,cs++news,?_,?_⟩,?_⟩
 simp[World.setCell,Array.getElem?_modify,hb1]
 have:=ownsRow_setCell_below hown (a:=⟨B,0,none⟩) hB v'
 rwa [List.length_append]
 have hcell:∀b o,base<=b->b<W.heap.size->sv.ownBlock≠some b->(w1.setCell ⟨B,0,none⟩ v').cell? ⟨b,o,none⟩=W.cell? ⟨b,o,none⟩:=λb o h1 h2 h3=>
  (World.cell?_setCell_other w1 ⟨B,0,none⟩ ⟨b,o,none⟩ v' (λe=>by injection e with e;omega)).trans (World.cell?_of_block (hg.block b h2 (λe=>h3 e.symm)))
 have hD:∀b,base<=b/\b<W.heap.size/\sv.ownBlock≠some b->base<=b/\b<(w1.setCell ⟨B,0,none⟩ v').heap.size/\v'.ownBlock≠some b:=λb hd=>by
  refine⟨hd.1,?_,?_⟩
  have:(w1.setCell ⟨B,0,none⟩ v').heap.size=w1.heap.size:=by simp[World.setCell]
  omega
  rcases hat with e|e
  rw[e];exact hd.2.2
  rw[e];intro h;injection h with h;omega
 refine Gp.append ((hs.keep λb o hd=>hcell b o hd.1 hd.2.1 hd.2.2).more hD) ?_
 exact(hn2.keep λb o hd=>hcell b o hd.1 hd.2.1 hd.2.2).more hD
 refine((Below.refl B W).grown hg ω (λk hk=>by have:=(hr.lt k hk).1;omega)).setCell ζ v'
theorem Cc.appended {W w1:World} {B base lo:Nat} {sv v':Value} {ss ss':List Sg} {cs news:List Value} (hbox:W.heap[B]?=some (.cells #[sv] 89 (0,0))) (hB:B<base) (hbl:base<=W.heap.size)
  (hr:W.ownsRow base 141 6 sv ss.length cs) (hs:Gp W (λb=>base<=b/\b<W.heap.size/\sv.ownBlock≠some b) ss cs)
  (hn:Gp W (rg lo W.heap.size) ss' news) (hlo:base<=lo) (hrow:∀g,sv.ownBlock=some g->g<lo)
  (hown:w1.ownsRow base 141 6 v' (ss.length+ss'.length) (cs++news)) (hg:W.grownBy w1 sv.ownBlock) (hat:v'.ownBlock=sv.ownBlock\/v'.ownBlock=some W.heap.size):
  w1.heap[B]?=some (.cells #[sv] 89 (0,0))/\Cc (w1.setCell ⟨B,0,none⟩ v') B base v' (ss++ss')/\Below B W (w1.setCell ⟨B,0,none⟩ v'):=
 Cc.appendedD hbox hB hbl hr hs (hn.more λb hd=>⟨Nat.le_trans hlo hd.1,hd.2,λe=>by have:=hrow b e;have:=hd.1;omega⟩) hown hg hat
end Go.Proofs.YtkpjchfniejdoaaGreatDoor