/- Part 6 of the proof of IB.row_holds: no condition beyond the row's. -/
import Derived.Test.YtbggmndaahbojaaGreatIb5
import Derived.Below
import Derived.Laws.OwnMore
import Derived.Deep.AppendLies
import Derived.Deep.Draws
import Derived.Laws.Rows
import Derived.Maps.AppendAt
import Derived.RegionTactic
import Derived.OwnWalk
import Derived.Deep.QuietTactic
import Derived.WalkKit
import Derived.WalkSpells
import Derived.WalkLawsBesides
import Derived.Lib.Hide
import Derived.Deep.Light
set_option maxRecDepth 100000
set_option maxHeartbeats 40000000
namespace Go.Proofs.YtbggmndaahbojaaGreat
open Go.Proofs.Tryz
open Go.RowKit
theorem Ψ {B:Nat} {w:World}:Below B w w:=Below.refl B w
theorem Δ {p:Prop} (h:p):Hid p:=h
def Gc (w:World) (D:Nat->Prop) (size:Nat) (v:Value) (n:Nat) (xs:List Value):Prop:=
 xs.length=n*size/\((∃A c,v= .slice A 0 c/\n=0)\/
  ∃b o c,v= .slice (some ⟨b,o,none⟩) n c/\D b/\∀j u,xs[j]?=some u->w.cell? ⟨b,o+j,none⟩=some u)
def rg (lo hi:Nat):Nat->Prop:=λb=>lo<=b/\b<hi
def Hc (w:World) (lo hi size:Nat) (v:Value) (n:Nat) (xs:List Value):Prop:=Gc w (rg lo hi) size v n xs
section
variable {w w':World} {D D':Nat->Prop} {lo lo' hi hi' size n:Nat} {v:Value} {xs:List Value}
theorem Gc.keep (h:Gc w D size v n xs) (hk:∀b o,D b->w'.cell? ⟨b,o,none⟩=w.cell? ⟨b,o,none⟩):Gc w' D size v n xs:=by
 refine⟨h.1,?_⟩
 rcases h.2 with h0|⟨b,o,c,rfl,hd,hc⟩
 exact .inl h0
 exact .inr ⟨b,o,c,rfl,hd,λj u hu=>(hk b _ hd).trans (hc j u hu)⟩
theorem Gc.more (h:Gc w D size v n xs) (hD:∀b,D b->D' b):Gc w D' size v n xs:=by
 refine⟨h.1,?_⟩
 rcases h.2 with h0|⟨b,o,c,rfl,hd,hc⟩
 exact .inl h0
 exact .inr ⟨b,o,c,rfl,hD b hd,hc⟩
theorem Gc.slice (h:Gc w D size v n xs):∃A c,v= .slice A n c:=by
 rcases h.2 with⟨A,c,rfl,rfl⟩|⟨b,o,c,rfl,_⟩
 exact⟨A,c,rfl⟩
 exact⟨_,c,rfl⟩
theorem Gc.nil (A:Option Addr) (c:Nat):Gc w D size (.slice A 0 c) 0 []:=⟨by simp,.inl ⟨A,c,rfl,rfl⟩⟩
theorem Hc.keep (h:Hc w lo hi size v n xs) (hk:∀b o,lo<=b->b<hi->w'.cell? ⟨b,o,none⟩=w.cell? ⟨b,o,none⟩):Hc w' lo hi size v n xs:=
 Gc.keep h λb o hd=>hk b o hd.1 hd.2
theorem Hc.more (h:Hc w lo hi size v n xs) (hl:lo'<=lo) (hB:hi<=hi'):Hc w lo' hi' size v n xs:=
 Gc.more h λ_ hd=>⟨Nat.le_trans hl hd.1,Nat.lt_of_lt_of_le hd.2 hB⟩
theorem Hc.below (h:Hc w lo hi size v n xs) (hb:Below hi w w'):Hc w' lo hi size v n xs:=
 h.keep λb o _ hlt=>hb.cell (p:=⟨b,o,none⟩) hlt
theorem Hc.up (h:Hc w lo w.heap.size size v n xs) (hb:Below w.heap.size w w'):Hc w' lo w'.heap.size size v n xs:=
 (h.below hb).more ζ hb.size
theorem Hc.set (h:Hc w lo hi size v n xs) (p:Addr) (u:Value) (hp:p.block<lo\/hi<=p.block):Hc (w.setCell p u) lo hi size v n xs:=
 h.keep λb o h1 h2=>World.cell?_setCell_other w p ⟨b,o,none⟩ u (λe=>by subst e;simp at hp;omega)
theorem Hc.slice (h:Hc w lo hi size v n xs):∃A c,v= .slice A n c:=Gc.slice h
theorem Hc.pos (h:Hc w lo hi size v n xs) (hn:0<n):
  ∃b o c,v= .slice (some ⟨b,o,none⟩) n c/\lo<=b/\b<hi/\∀j u,xs[j]?=some u->w.cell? ⟨b,o+j,none⟩=some u:=by
 rcases h.2 with⟨A,c,rfl,rfl⟩|⟨b,o,c,e,hd,hc⟩
 omega
 exact⟨b,o,c,e,hd.1,hd.2,hc⟩
theorem Hc.nil (A:Option Addr) (c:Nat):Hc w lo hi size (.slice A 0 c) 0 []:=Gc.nil A c
end
theorem Zw {a b:Bool} (h:a=b):Ending.returned (.bool a)= .returned (.bool b):=by rw[h]
theorem Hc.new1 (w:World) (cs:List Value) (n b lo hi size:Nat) (t:TypeId) (hn:cs.length=n*size) (hb:w.heap.size=b) (hl:lo<=b) (hB:b<hi):
  Hc (w.alloc (.cells cs.toArray t)) lo hi size (.slice (some ⟨b,0,none⟩) n n) n cs:=by
 subst hb
 refine⟨ω,.inr ⟨w.heap.size,0,n,rfl,⟨hl,hB⟩,λj u hu=>?_⟩⟩
 simp[hu]
theorem AfT (w:World) (cs:List Value) (n b size:Nat) (e:TypeId) (hn:cs.length=n*size) (hb:w.heap.size=b) (hm:n<=maxLen):
  (w.alloc (.cells cs.toArray e)).ownsRow b e size (.slice (some ⟨b,0,none⟩) n n) n cs:=by
 subst hb
 refine⟨hn,.inr ⟨w.heap.size,n,cs.toArray,rfl,Nat.le_refl _,?_,Nat.le_refl _,hm,by simpa using hn,by simp[<-hn]⟩⟩
 exact heap_alloc_new w _
def AhM (xs:List Int):List Value:=xs.map (.int .i64)
theorem Afx (xs:List Int) (k:Nat) (h:k<xs.length):(AhM xs)[k]?=some (.int .i64 xs[k]):=by simp[AhM,h]
theorem Agg {k:IntKind} {a b:Int} (h:a=b):Ending.returned (.int k a)= .returned (.int k b):=by rw[h]
theorem Ff (b o j:Nat):(⟨b,o,none⟩:Addr).add j=⟨b,o+j,none⟩:=by unfold Addr.add;split<;>simp_all
theorem Wd (w:World) (base:Nat) (t ty e:TypeId) (i:TypeInfo) (z:Value) (size bytes:Nat) (ht:Tryz.prog.underlying t=some (.slice e)) (hi:Tryz.prog.info? e=some i) (hz:i.zero=some z)
  (hsize:i.size=size) (hby:i.bytes=bytes) (hzs:z.cells.size=size) (hsz:0<size) (v:Value) (n:Nat) (xs:List Value) (hown:w.ownsRow base e size v n xs)
  (D:Nat->Prop) (x:Value) (m:Nat) (news:List Value) (hr:Gc w D size x m news) (h1:∀u∈news,u.oneCell'=true) (h63:n+m<=maxLen) (hbytes:(n+m)*bytes<=140737488355328) (hbase:base<=w.heap.size):
  ∃v' w',(Builtin.append_ #[t,t] ty #[v,x]).run Tryz.prog w= .ok v' w'/\w'.ownsRow base e size v' (n+m) (xs++news)/\w.grownBy w' v.ownBlock/\(v'.ownBlock=v.ownBlock\/v'.ownBlock=some w.heap.size):=by
 rcases hr.2 with⟨A,c,rfl,rfl⟩|⟨b,o,c,rfl,_,hc⟩
 have hn:news=[]:=List.eq_nil_of_length_eq_zero (by simpa using hr.1)
 subst hn
 cases A with
 |none=>
  refine⟨v,w,?_,by simpa using hown,⟨rfl,rfl,rfl,Nat.le_refl _,λ_ _ _=>rfl⟩,.inl rfl⟩
  rcases hown.2 with⟨rfl,rfl⟩|⟨g,cap,cur,rfl,_,_,hnc,_⟩
  simp[Builtin.append_,run_underlying ht,sizeOf,typeInfo,hi,Builtin.lenOf,Builtin.firstCells]
  simp[Builtin.append_,run_underlying ht,sizeOf,typeInfo,hi,Builtin.lenOf,Builtin.firstCells,hnc,storeCells]
 |some ad=>
  obtain⟨v',w',hrun,h2,h3,_,h5⟩:=run_append_own_at (P:=Tryz.prog) w base t ty e i z size bytes ht hi hz hsize hby hzs hsz v n xs hown ad 0 c [] (by simp) (by simp) h1 h63 hbytes hbase
  exact⟨v',w',hrun,h2,h3,h5⟩
 obtain⟨v',w',hrun,h2,h3,_,h5⟩:=run_append_own_at (P:=Tryz.prog) w base t ty e i z size bytes ht hi hz hsize hby hzs hsz v n xs hown ⟨b,o,none⟩ m c news hr.1 (λj u hu=>by rw[Ff];exact hc j u hu) h1 h63 hbytes hbase
 exact⟨v',w',hrun,h2,h3,h5⟩
theorem Sm {w:World} {ops:Array Oper} {rest:List Oper} {o:Oper} {a:Act} {Q:Exit->Act->World->Prop} (hgd:o.guard=none) (s x:Operand) (t:TypeId)
  (ho:o.op= .call { callee:= .builtin .append,args:=#[s,x],argTypes:=#[t,t] }) (base:Nat) (e:TypeId) (i:TypeInfo) (z:Value) (size bytes:Nat) (ht:Tryz.prog.underlying t=some (.slice e)) (hi:Tryz.prog.info? e=some i) (hz:i.zero=some z)
  (hsize:i.size=size) (hby:i.bytes=bytes) (hzs:z.cells.size=size) (hsz:0<size) (v:Value) (n:Nat) (xs:List Value) (hs:a.eval s=v) (hown:w.ownsRow base e size v n xs)
  (D:Nat->Prop) (u:Value) (m:Nat) (news:List Value) (hx:a.eval x=u) (hr:Gc w D size u m news) (h1:∀u∈news,u.oneCell'=true) (h63:n+m<=maxLen) (hbytes:(n+m)*bytes<=140737488355328) (hbase:base<=w.heap.size)
  (h:∀v' w',w'.ownsRow base e size v' (n+m) (xs++news)->w.grownBy w' v.ownBlock->(v'.ownBlock=v.ownBlock\/v'.ownBlock=some w.heap.size)->wpList Tryz.prog ops Q rest (a.put o.dst v') w'):wpList Tryz.prog ops Q (o::rest) a w:=by
 refine wpList_plain hgd λK hK=>?_
 obtain⟨v',w',hrun,h2,h3,h4⟩:=Wd w base t o.type e i z size bytes ht hi hz hsize hby hzs hsz v n xs hown D u m news hr h1 h63 hbytes hbase
 unfold Oper.wp
 simp[execOp,ho,resolve,invoke,builtin,hs,hx,hrun,Result.andThen]
 exact hK _ _ (h v' w' h2 h3 h4)
structure V3 where
 x:Int
 y:Int
 z:Int
deriving DecidableEq
structure Sg where
 f:Int
 t:Int
 o:Int
 x:List Int
 y:List Int
 z:List Int
deriving DecidableEq
section
variable {w w':World} {D D':Nat->Prop} {lo lo' hi hi':Nat} {v:Value} {ss ss':List Sg} {s:Sg} {cs cs':List Value}
end
def V3.zero:V3:=⟨0,0,0⟩
def Gg (m:Int) (xs:List Int):Bool:=xs.all λn=>decide (-m<=n)&&decide (n<=m)
theorem Tk (m:Int) (xs:List Int) (k:Nat) (h:k<xs.length):Gg m (xs.take (k+1))=(Gg m (xs.take k)&&(decide (-m<=xs[k])&&decide (xs[k]<=m))):=by
 unfold Gg;rw[List.take_succ_eq_append_getElem h,List.all_append];simp only[List.all_cons,List.all_nil,Bool.and_true]
theorem Yx (m:Int) (xs:List Int) (k:Nat) (h:k<xs.length) (hx:xs[k]< -m\/m<xs[k]):Gg m xs=false:=by
 unfold Gg
 rw[List.all_eq_false]
 exact⟨xs[k],List.getElem_mem h,by simp;omega⟩
theorem Yy (m:Int) (hm0:0<=m) (hm:m<=1099511627776) (xs:List Int) (v:Value) (w:World) (hl:xs.length<=4611686018427387904)
  (h:Hc w 0 w.heap.size 1 v xs.length (AhM xs)):
  Calls Tryz.prog 84 #[.int .i64 m,v] w λe w'=>e= .returned (.bool (Gg m xs))/\w=w':=by
 obtain⟨A,c,hv⟩:=h.slice
 subst hv
 go_enter func84,ntmps84
 go_wp2
 go_loop [4,6,9] (λ_ _ i=>∃k:Nat,k<=xs.length/\i= .int .i64 k/\Gg m (xs.take k)=true) (λ_ _ i=>xs.length-(intOf i).toNat)
 case atStart=>exact⟨0,Nat.zero_le _,rfl,rfl⟩
 case round=>
  obtain⟨k,hk,rfl,hin⟩:=hrel
  have HIN:=Δ hin
  clear hin
  by_cases hlt:k<xs.length
  ·
   obtain⟨b,o,c',e,_,hb,hc⟩:=h.pos ω
   have hcell:=hc k (.int .i64 xs[k]) (Afx xs k hlt)
   cases e
   clear hc h
   go_wp2
   ·
    go_ret
    exact⟨Zw (Yx m xs k hlt ‹_›).symm,rfl⟩
   · exact⟨⟨k+1,ω,by go_num,by rw[Tk m xs k hlt,HIN.out];simp;omega⟩,by simp[intOf];omega⟩
   ·
    go_ret
    exact⟨Zw (Yx m xs k hlt (.inl ‹_›)).symm,rfl⟩
  ·
   go_wp2
   go_ret
   exact⟨Zw (by rw[<-HIN.out,List.take_of_length_le ω]),rfl⟩
theorem xR (x y z:Int) (w:World):
  Calls Tryz.prog 51 #[.agg #[.int .i64 x,.int .i64 y,.int .i64 z]] w λe w'=>e= .returned (.bool (Gg 1048576 [x,y,z]))/\Below w.heap.size w w':=by
 go_enter func51,ntmps51
 go_wp2_with fail
 refine(Yy _ ?_ ?_ [x,y,z] _ _ ?_ ?_).mono ?_
 · omega
 · omega
 · simp
 · exact Hc.new1 _ [.int .i64 x,.int .i64 y,.int .i64 z] 3 _ _ _ 1 3 rfl (by simp) Ω (by simp)
 rintro e w' ⟨rfl,rfl⟩
 go_wp2
 go_ret
 exact⟨rfl,(Ψ.alloc ζ _).alloc (by simp) _⟩
end Go.Proofs.YtbggmndaahbojaaGreat