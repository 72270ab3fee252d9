/- Part 28 of the proof of PH.card_holds: no condition beyond the row's. -/
import Derived.Test.YtkpjchfniejdoaaGreatDoorPH27
import Derived.OneCell
set_option maxRecDepth 100000
set_option maxHeartbeats 40000000
namespace Go.Proofs.YtkpjchfniejdoaaGreatDoor
open Go.RowKit
section
variable {P:Program} {a0:Act} {Q:Exit->Act->World->Prop}
theorem kF {R:Option Nat} {id:Nat} {w:World} {l:List Oper} (N:Nat) (J:(Nat->Value)->(Nat->Bool)->World->Prop) (hm:P.follows .mixedOrders=true) (hB:mJ .any l.toArray l.length N=true) (hN:a0.tmps.size=N) (hnd:l.all Zb=true)
  (h0:J (λ_=>undef) (λ_=>false) w.drew) (hop:yB P l.toArray l.length J a0 Q 0 l)
  (hend:∀σ L w,(∀j,j<l.length->L j=true)->J σ L w->Q .normal (Dk l.toArray a0 σ l.length) w):(Code.region id l.toArray true).wpIn (Pa R) 0 P Q a0 w:=by
 have hS:=Ahv hB
 have hsz:l.toArray.size=l.length:=by simp
 refine wpIn_region_any hm ?_
 have hl:left l.toArray.size (Array.replicate l.toArray.size false)=l.toArray.size:=by
  unfold left
  rw[List.filter_eq_self.2 (λi _=>by rw[getD_replicate_false];rfl),List.length_range]
 refine fM (λlisted a w=>listed.size=l.toArray.size/\∃σ,Akh l.toArray l.length J a0 listed σ a w) (λ_ _ _ h=>h.1) (λi o ho e he hb=>?_) ?_ ?_ _ _ a0 w.drew hl ?_
 obtain⟨o',ho',_,_,_,h5⟩:=hS.op i (by have:=(Ξ ho).1;omega)
 rw[ho] at ho';cases ho'
 exact h5 e he hb
 rintro listed a w i o ⟨hz,σ,h⟩ hi ho
 have hin:i<l.length:=by have:=(Ξ ho).1;omega
 obtain⟨o',ho',hg,_,_,_⟩:=hS.op i hin
 rw[ho] at ho';cases ho'
 have hw:Region.wanted o (yielded l.toArray a.tmps)=true:=by simp[Region.wanted,hg]
 have hd:Zb o=true:=List.all_eq_true.1 hnd o (List.mem_of_getElem? (by simpa using ho))
 unfold wpOpIn
 simp only[ho,hw,if_true]
 exact Rk hd (Ahu hS.toGrowO hN (λi o hi ho=>by have:=nB 0 l hop i o (by simpa using ho);rwa [Nat.zero_add] at this) hz h hi hin (λσ' a' w' h'=>⟨by simp[hz],σ',h'⟩) ho)
 rintro listed a w ⟨hz,σ,h⟩ hall
 have inv:HeadInv .any l.toArray l.length listed:=⟨hz,λj oj ho hj=>by
   have:=hall j (Ξ ho).1
   intro e he hb
   exact hall e.on (by
    obtain⟨o',ho',_,_,_,h5⟩:=hS.op j (by have:=(Ξ ho).1;omega)
    rw[ho] at ho';cases ho'
    have:=h5 e he hb
    have:=(Ξ ho).1
    omega),λt h1 h2=>by omega⟩
 have hl0:left l.length listed=0:=by
  unfold left
  rw[List.length_eq_zero_iff,List.filter_eq_nil_iff]
  intro i hi
  rw[hall i (by rw[hsz];exact List.mem_range.1 hi)]
  decide
 obtain⟨_,ha⟩:=Adr hS hN ω hl0 inv h
 rw[ha]
 exact hend σ _ w (λj hj=>hall j ω) h.j
 refine⟨by simp,λ_=>undef,rfl,rfl,λt=>?_,?_⟩
 cases Dq l.toArray l.length t with
 |none=>rfl
 |some j=>simp only[getD_replicate_false,Bool.false_eq_true,if_false]
 have e:(λi=>(Array.replicate l.toArray.size false).getD i false)=λ_=>false:=funext λi=>getD_replicate_false _ _
 rw[e];exact h0
end
abbrev Jy (svs:List Value) (j:Nat):Option Nat:=(svs.getD j undef).ownBlock
abbrev vH (N:Nat->Prop) (s:List Value) (base size:Nat):Nat->Prop:=λb=>base<=b/\b<size/\(∀j,Jy s j≠some b)/\¬N b
structure Grow (W:World) (Bm base:Nat) (N:Nat->Prop) (svs:List Value) (L:List (List Sg)):Prop where
 len:svs.length=L.length
 bm:Bm<base
 box:W.heap[Bm]?=some (.cells svs.toArray 89 (0,0))
 row:∀i,i<L.length->∃cs,W.ownsRow base 141 6 (svs.getD i undef) (L.getD i []).length cs/\Gp W (vH N svs base W.heap.size) (L.getD i []) cs
 apart:∀i j,i≠j->∀g,Jy svs i=some g->Jy svs j≠some g
theorem Alr {svs:List Value} {j g:Nat} (h:Jy svs j=some g):j<svs.length:=by
 rcases Nat.lt_or_ge j svs.length with h1|h1
 exact h1
 unfold Jy at h
 rw[Γ,List.getElem?_eq_none h1] at h
 cases h
theorem Ul {svs:List Value} {i:Nat} {v:Value} (hi:i<svs.length) (j:Nat):Jy (svs.set i v) j=if j=i then v.ownBlock else Jy svs j:=by
 unfold Jy
 by_cases h:j=i
 subst h;simp[hi]
 rw[if_neg h];simp[List.getElem?_set_ne (Ne.symm h)]
theorem Wj {W:World} {base:Nat} {e:TypeId} {size n:Nat} {v:Value} {xs:List Value} (h:W.ownsRow base e size v n xs) {g:Nat} (hg:v.ownBlock=some g):∃c t z,W.heap[g]?=some (.cells c t z):=by
 rcases h.2 with⟨e,_⟩|⟨g',cap,cur,e,_,hg',_⟩
 rw[e] at hg;cases hg
 rw[e] at hg;simp[Value.ownBlock] at hg;subst hg;exact⟨_,_,_,hg'⟩
variable {W:World} {Bm base:Nat} {N:Nat->Prop} {svs:List Value} {L:List (List Sg)}
theorem Grow.at (h:Grow W Bm base N svs L) {j g:Nat} (hg:Jy svs j=some g):base<=g/\g<W.heap.size/\∃c t z,W.heap[g]?=some (.cells c t z):=by
 obtain⟨cs,hr,_⟩:=h.row j (by rw[<-h.len];exact Alr hg)
 exact⟨(hr.lt g hg).1,(hr.lt g hg).2,Wj hr hg⟩
theorem Grow.cell (h:Grow W Bm base N svs L) {i:Nat} (hi:i<svs.length):W.cell? ⟨Bm,i,none⟩=some (svs.getD i undef):=by
 simp[World.cell?,h.box,hi]
theorem Grow.kept {W':World} {row:Option Nat} (h:Grow W Bm base N svs L) (hg:W.grownBy W' row) (hr:∀r,row=some r->∃o:Obj,W.heap[r]?=some o/\o.isCells=false):Grow W' Bm base N svs L:=by
 have hnc:∀(b:Nat) (c:Array Value) (t:TypeId) (z:Nat×Nat),W.heap[b]?=some (.cells c t z)->some b≠row:=λb c t z hb e=>by
  obtain⟨o,ho,hc⟩:=hr b e.symm
  rw[hb] at ho;cases ho;simp[Obj.isCells] at hc
 refine⟨h.len,h.bm,?_,λi hi=>?_,h.apart⟩
 exact(hg.block Bm (Ξ h.box).1 (hnc _ _ _ _ h.box)).trans h.box
 obtain⟨cs,h1,h2⟩:=h.row i hi
 refine⟨cs,h1.kept hg ?_,(h2.keepS λb o u _ hu=>Pd hg hr b o u hu).more λb hd=>⟨hd.1,Nat.lt_of_lt_of_le hd.2.1 hg.size,hd.2.2⟩⟩
 cases hv:(svs.getD i undef).ownBlock with
 |none=>exact .inl rfl
 |some g=>
  obtain⟨c,t,z,hc⟩:=Wj h1 hv
  exact .inr (hnc g c t z hc)
theorem Grow.keepP {W':World} {rs:List Nat} (h:Grow W Bm base N svs L) (hk:Ce (·∈rs) W W') (hz:W.heap.size<=W'.heap.size) (hr:∀r∈rs,W.heap[r]?=some (.deferred (some []))):Grow W' Bm base N svs L:=by
 have hnc:∀(b:Nat) (c:Array Value) (t:TypeId) (z:Nat×Nat),W.heap[b]?=some (.cells c t z)->W'.heap[b]?=some (.cells c t z):=λb c t z hb=>(hk.block b (Ξ hb).1 (λe=>by rw[hr b e] at hb;cases hb)).trans hb
 have hcl:∀b o u,W.cell? ⟨b,o,none⟩=some u->W'.cell? ⟨b,o,none⟩=some u:=λb o u hu=>by
  by_cases e:b∈rs
  simp[World.cell?,hr b e] at hu
  have hb:b<W.heap.size:=by
   unfold World.cell? at hu
   cases hh:W.heap[b]? with
   |none=>simp[hh] at hu
   |some _=>exact(Ξ hh).1
  exact(World.cell?_of_block (hk.block b hb e)).trans hu
 refine⟨h.len,h.bm,hnc _ _ _ _ h.box,λi hi=>?_,h.apart⟩
 obtain⟨cs,h1,h2⟩:=h.row i hi
 refine⟨cs,⟨h1.1,?_⟩,(h2.keepS λb o u _ hu=>hcl b o u hu).more λb hd=>⟨hd.1,ω,hd.2.2⟩⟩
 rcases h1.2 with h3|⟨g,cap,cur,e1,e2,e3,e4⟩
 exact .inl h3
 exact .inr ⟨g,cap,cur,e1,e2,hnc _ _ _ _ e3,e4⟩
theorem bL {W':World} (h:Below W.heap.size W W'):W.grownBy W' none:=⟨h.os,h.tape,h.output,h.size,λk hk _=>h.block k hk⟩
theorem Grow.up {W':World} (h:Grow W Bm base N svs L) (hb:Below W.heap.size W W'):Grow W' Bm base N svs L:=h.kept (bL hb) (λr e=>by cases e)
theorem Air (n:Nat) (j:Nat):Jy (List.replicate n (.slice none 0 0)) j=none:=by
 unfold Jy
 rw[Γ,List.getElem?_replicate]
 split<;>rfl
theorem Grow.new {n:Nat} (hb:W.heap[Bm]?=some (.cells (List.replicate n (.slice none 0 0)).toArray 89 (0,0))) (hm:Bm<base):Grow W Bm base N (List.replicate n (.slice none 0 0)) (List.replicate n []):=by
 refine⟨by simp,hm,hb,λi hi=>?_,λi j _ g hg=>by rw[Air] at hg;cases hg⟩
 have hi2:i<n:=by simpa using hi
 refine⟨[],?_,?_⟩
 have e1:(List.replicate n (Value.slice none 0 0)).getD i undef= .slice none 0 0:=by simp[hi2]
 have e2:(List.replicate n ([]:List Sg)).getD i []=[]:=by simp[hi2]
 rw[e1,e2]
 exact⟨rfl,.inl ⟨rfl,rfl⟩⟩
 have e2:(List.replicate n ([]:List Sg)).getD i []=[]:=by simp[hi2]
 rw[e2];rfl
theorem Grow.append {w1:World} {i:Nat} {v':Value} {ss:List Sg} {cs news:List Value} (h:Grow W Bm base N svs L) (hi:i<L.length) (hr:W.ownsRow base 141 6 (svs.getD i undef) (L.getD i []).length cs)
  (hs:Gp W (vH N svs base W.heap.size) (L.getD i []) cs) (hn:Gp W (vH N svs base W.heap.size) ss news)
  (hown:w1.ownsRow base 141 6 v' ((L.getD i []).length+ss.length) (cs++news)) (hg:W.grownBy w1 (Jy svs i)) (hat:v'.ownBlock=Jy svs i\/v'.ownBlock=some W.heap.size):
  w1.heap[Bm]?=some (.cells svs.toArray 89 (0,0))/\Grow (w1.setCell ⟨Bm,i,none⟩ v') Bm base N (svs.set i v') (L.set i (L.getD i []++ss)):=by
 have hil:i<svs.length:=by rw[h.len];exact hi
 have hBl:=(Ξ h.box).1
 have hbm:=h.bm
 have hBne:some Bm≠Jy svs i:=λe=>by have:=(h.at e.symm).1;omega
 have hb1:w1.heap[Bm]?=some (.cells svs.toArray 89 (0,0)):=(hg.block Bm hBl hBne).trans h.box
 have hz:=hg.size
 have hz2:(w1.setCell ⟨Bm,i,none⟩ v').heap.size=w1.heap.size:=by simp[World.setCell]
 have hcell:∀b o,base<=b->b<W.heap.size->Jy svs i≠some b->(w1.setCell ⟨Bm,i,none⟩ v').cell? ⟨b,o,none⟩=W.cell? ⟨b,o,none⟩:=λb o h1 h2 h3=>
  (World.cell?_setCell_other w1 ⟨Bm,i,none⟩ ⟨b,o,none⟩ v' (λe=>by injection e with e;omega)).trans (World.cell?_of_block (hg.block b h2 (λe=>h3 e.symm)))
 have hlt:∀j g,Jy svs j=some g->g<W.heap.size:=λj g e=>(h.at e).2.1
 have hnew:∀j b,b<W.heap.size->(∀j,Jy svs j≠some b)->Jy (svs.set i v') j≠some b:=λj b hb hj=>by
  rw[Ul hil]
  split
  rcases hat with e|e
  rw[e];exact hj i
  rw[e];intro e2;injection e2 with e2;omega
  exact hj j
 refine⟨hb1,⟨by simp[h.len],hbm,?_,λj hj=>?_,λj k hjk g hg1=>?_⟩⟩
 rw[Ex _ _ _ _ _ _ _ hb1];simp
 have hj2:j<L.length:=by simpa using hj
 by_cases hji:j=i
 subst hji
 have e1:(svs.set j v').getD j undef=v':=by simp[hil]
 have e2:(L.set j (L.getD j []++ss)).getD j []=L.getD j []++ss:=by simp[hi]
 rw[e1,e2]
 refine⟨cs++news,?_,?_⟩
 rw[List.length_append];exact ownsRow_setCell_below hown (a:=⟨Bm,j,none⟩) hbm v'
 refine Gp.append ((hs.keep λb o hd=>hcell b o hd.1 hd.2.1 (hd.2.2.1 j)).more λb hd=>⟨hd.1,ω,λq=>hnew q b hd.2.1 hd.2.2.1,hd.2.2.2⟩) ?_
 exact(hn.keep λb o hd=>hcell b o hd.1 hd.2.1 (hd.2.2.1 j)).more λb hd=>⟨hd.1,ω,λq=>hnew q b hd.2.1 hd.2.2.1,hd.2.2.2⟩
 have e1:(svs.set i v').getD j undef=svs.getD j undef:=by simp[List.getElem?_set_ne (Ne.symm hji)]
 have e2:(L.set i (L.getD i []++ss)).getD j []=L.getD j []:=by simp[List.getElem?_set_ne (Ne.symm hji)]
 rw[e1,e2]
 obtain⟨cj,r1,r2⟩:=h.row j hj2
 refine⟨cj,ownsRow_setCell_below (r1.kept hg ?_) (a:=⟨Bm,i,none⟩) hbm v',(r2.keep λb o hd=>hcell b o hd.1 hd.2.1 (hd.2.2.1 i)).more λb hd=>⟨hd.1,ω,λq=>hnew q b hd.2.1 hd.2.2.1,hd.2.2.2⟩⟩
 cases hv:(svs.getD j undef).ownBlock with
 |none=>exact .inl rfl
 |some g=>exact .inr λe=>h.apart j i hji g hv e.symm
 rw[Ul hil] at hg1 ⊢
 split at hg1
 subst_vars
 rw[if_neg (Ne.symm hjk)]
 intro e
 rcases hat with e2|e2
 rw[e2] at hg1;exact h.apart _ _ hjk g hg1 e
 rw[e2] at hg1;injection hg1 with hg1;have:=hlt k g e;omega
 split
 intro e
 rcases hat with e2|e2
 rw[e2] at e;subst_vars;exact h.apart _ _ hjk g hg1 e
 rw[e2] at e;injection e with e;have:=hlt j g hg1;omega
 exact h.apart j k hjk g hg1
theorem Grow.other {N':Nat->Prop} (h:Grow W Bm base N svs L) (hN:∀b,b<W.heap.size->N' b->N b):Grow W Bm base N' svs L:=
 ⟨h.len,h.bm,h.box,λi hi=>by
  obtain⟨cs,h1,h2⟩:=h.row i hi
  exact⟨cs,h1,h2.more λb hd=>⟨hd.1,hd.2.1,hd.2.2.1,λe=>hd.2.2.2 (hN b hd.2.1 e)⟩⟩,h.apart⟩
theorem Grow.setN (h:Grow W Bm base N svs L) (a:Addr) (u:Value) (hN:N a.block) (hb:a.block≠Bm) (ho:∀j,Jy svs j≠some a.block):Grow (W.setCell a u) Bm base N svs L:=by
 have hz:(W.setCell a u).heap.size=W.heap.size:=by simp[World.setCell]
 refine⟨h.len,h.bm,(Below.heap_setCell W a u _ (Ne.symm hb)).trans h.box,λi hi=>?_,h.apart⟩
 obtain⟨cs,h1,h2⟩:=h.row i hi
 refine⟨cs,ownsRow_setCell_other h1 (λe=>ho i e) u,?_⟩
 rw[hz]
 exact h2.keep λb o hd=>World.cell?_of_block (Below.heap_setCell W a u b (λe=>hd.2.2.2 (by rw[e];exact hN)))
end Go.Proofs.YtkpjchfniejdoaaGreatDoor
namespace Go.Proofs.YtkpjchfniejdoaaGreatDoor
open Go.Proofs.Tryz
open Go.RowKit
def Hj (p:Pr):Nat->Nat->List Sg
 |0,_=>[]
 |k+1,i=>Hj p k i++Gs p k (Fo p.acts k) i
def Ob (p:Pr) (k n:Nat):List (List Sg):=(List.range n).map (Hj p k)
def Te (p:Pr) (k n i:Nat):List (List Sg):=(List.range n).map λj=>Hj p (if j<i then k+1 else k) j
theorem uW (p:Pr) (i:Nat):∀k,(Hj p k i).length<=5*k
 |0=>Nat.zero_le _
 |k+1=>by
  have h1:=uW p i k
  have h2:=aS p k (Fo p.acts k) i
  rw[Hj,List.length_append];omega
theorem AiB {p:Pr} {k n i:Nat} (hi:i<n):(Ob p k n).getD i []=Hj p k i:=by
 simp[Ob,hi]
theorem Ab1 {p:Pr} {k n i j:Nat} (hj:j<n):(Te p k n i).getD j []=Hj p (if j<i then k+1 else k) j:=by
 simp[Te,hj]
theorem Aob (p:Pr) (k n:Nat):Te p k n 0=Ob p k n:=by simp[Te,Ob]
theorem Aoc (p:Pr) (k n:Nat):Te p k n n=Ob p (k+1) n:=by
 unfold Te Ob
 refine List.map_congr_left λj hj=>?_
 rw[if_pos (List.mem_range.1 hj)]
theorem AdD {p:Pr} {k n i:Nat} (hi:i<n):(Te p k n i).set i ((Te p k n i).getD i []++Gs p k (Fo p.acts k) i)=Te p k n (i+1):=by
 rw[Ab1 hi,if_neg (Nat.lt_irrefl i)]
 refine List.ext_getElem (by simp[Te]) λj h1 h2=>?_
 have hj:j<n:=by simpa [Te] using h2
 rw[List.getElem_set]
 by_cases e:i=j
 subst e
 simp[Te,Hj]
 rw[if_neg e]
 have:(j<i)=(j<i+1):=propext ω
 simp[Te,this]
theorem AdY:(Tryz.prog.info? 89).map (λi=>(i.zero,i.size,i.bytes))=some (some (.slice none 0 0),1,24):=κ
theorem Ad9 (n:Nat):madeCells (Value.slice none 0 0).cells (n*1)=(List.replicate n (Value.slice none 0 0)).toArray:=by
 apply Array.ext
 simp[madeCells]
 intro i h1 h2
 simp[madeCells,Value.cells,Nat.mod_one]
theorem AdB (n:Nat) (hn:n<=1000000) (w:World):
  (Instr.makeSlice 85 (.int .i64 (n:Nat)) (.int .i64 (n:Nat))).run Tryz.prog w= .ok (.slice (some ⟨w.heap.size,0,none⟩) n n) (w.alloc (.cells (List.replicate n (Value.slice none 0 0)).toArray 89)):=by
 obtain⟨i0,hi0,hz0,hz1,hz2⟩:=info_parts AdY
 have:=run_makeSlice w 85 89 i0 _ underlying85 hi0 hz0 .i64 .i64 (n:Nat) (n:Nat) ω ω (by rw[hz1];simp;omega) (by rw[hz2];omega) ω
 rw[this,hz1]
 simp only[Int.toNat_natCast,Ad9]
structure Amw (p:Pr) (W0:World) (Bm:Nat) (rs:List Nat) (k:Nat) (svs:List Value) (wr:World):Prop where
 le:k<=p.acts.length
 keep:Ce (λb=>b=Bm) W0 wr
 grow:Grow wr Bm W0.heap.size (λ_=>False) svs (Ob p k p.names.length)
 nodup:rs.Nodup
 marks:∀r∈rs,W0.heap.size<=r/\wr.heap[r]?=some (.deferred (some []))
structure AIn (p:Pr) (k:Nat) (wP:World) (Bm B7 base:Nat) (s0:List Value) (s:List Value) (i:Nat) (A:World):Prop where
 keep:Ce (λb=>b=Bm\/b=B7\/∃j,Jy s0 j=some b) wP A
 grow:Grow A Bm base (λb=>b=B7) s (Te p k p.names.length i)
 own:∀j g,Jy s j=some g->Jy s0 j=some g\/wP.heap.size<=g
 cnt:A.heap[B7]?=some (.cells #[.int .i64 (i:Nat)] 3 (0,0))
theorem AIn.own_ {p:Pr} {k:Nat} {wP:World} {Bm B7 base:Nat} {s0 s:List Value} {i:Nat} (h7:B7<wP.heap.size):OwnFrom wP.heap.size (λ(_:Unit) A=>AIn p k wP Bm B7 base s0 s i A):=by
 intro _ A A' row h hg hr
 exact⟨Nv h.keep hg (λr e=>(hr r e).1),h.grow.kept hg (λr e=>(hr r e).2),h.own,Ks h.cnt hg h7 (λr e=>(hr r e).1)⟩
structure Ac2 (p:Pr) (k:Nat) (t:Int) (wP:World) (Bm B7 base:Nat) (s0 s:List Value) (i:Nat) (pv:Value) (A:World):Prop where
 tin:AIn p k wP Bm B7 base s0 s i A
 pth:∃Ap c cs,pv= .slice Ap (Gs p k t i).length c/\Cs A (vH (λb=>b=B7) s base A.heap.size) 6 pv (Gs p k t i).length cs/\Gp A (vH (λb=>b=B7) s base A.heap.size) (Gs p k t i) cs
theorem Ac2.own_ {p:Pr} {k:Nat} {t:Int} {wP:World} {Bm B7 base:Nat} {s0 s:List Value} {i:Nat} {pv:Value} (h7:B7<wP.heap.size):OwnFrom wP.heap.size (λ(_:Unit) A=>Ac2 p k t wP Bm B7 base s0 s i pv A):=by
 intro _ A A' row h hg hr
 obtain⟨Ap,c,cs,e,h1,h2⟩:=h.pth
 have hk:=Pd hg (λr e=>(hr r e).2)
 have hD:∀b,vH (λb=>b=B7) s base A.heap.size b->vH (λb=>b=B7) s base A'.heap.size b:=λb hd=>⟨hd.1,Nat.lt_of_lt_of_le hd.2.1 hg.size,hd.2.2⟩
 exact⟨AIn.own_ h7 () A A' row h.tin hg hr,Ap,c,cs,e,(Cs.keepS h1 λb o u _ hu=>hk b o u hu).more hD,(h2.keepS λb o u _ hu=>hk b o u hu).more hD⟩
section
variable {P:Program} {ops:Array Oper} {n:Nat} {a0:Act} {Q:Exit->Act->World->Prop}
theorem Lc {wd:(Nat->Bool)->World} {vals:Nat->Value} {Inv:(Nat->Bool)->Prop} {i:Nat} {o:Oper}
  (h:∀(a:Act) (L:Nat->Bool),Inv L->L i=false->(∀j,Region.waitsFor .any ops i j=true->L j=true)->(∀t j,Operand.tmp t∈o.op.operands->Dq ops n t=some j->L j=true/\a.tmps.getD t undef=vals j)->(∀t,Dq ops n t=none->a.tmps.getD t undef=a0.tmps.getD t undef)->
   ((execOp a.eval o).run P (wd L)= .ok (.value (vals i)) (wd λj=>if j=i then true else L j)\/((execOp a.eval o).run P (wd L)= .ok .skip (wd λj=>if j=i then true else L j)/\vals i=undef))/\Inv λj=>if j=i then true else L j):
  AaV P ops n (λσ L w=>Inv L/\w=wd L/\∀j,L j=true->σ j=vals j) a0 Q i o:=by
 rintro a w σ L hd ht hn hw hi ⟨hI,rfl,hv⟩
 obtain⟨h1,h2⟩:=h a L hI hi hw (λt j hx hs=>by obtain⟨e1,e2⟩:=ht t j hx hs;exact⟨e1,by rw[e2,hv j e1]⟩) hn
 have key:∀j,(if j=i then true else L j)=true->(if j=i then vals i else σ j)=vals j:=λj hj=>by
  by_cases e:j=i
  subst e;simp
  simp only[if_neg e] at hj ⊢;exact hv j hj
 unfold Oper.wp
 rcases h1 with h1|⟨h1,h3⟩
 rw[h1];exact⟨_,rfl,h2,rfl,key⟩
 rw[h1];rw[h3] at key;exact⟨undef,rfl,h2,rfl,key⟩
theorem Zk {a:Act} {w:World} {o:Oper} {v:Value} {u:Addr} (T:TypeId) (x:Operand) (ho:o.op= .load T x) (hx:a.eval x= .pointer (some u)) (hT:(isAgg T).run P w= .ok false w) (hc:w.cell? u=some v):(execOp a.eval o).run P w= .ok (.value v) w:=by
 simp[execOp,ho,hx,Cp w hT hc]
theorem AlA {a:Act} {w:World} {o:Oper} {v:Value} (x:Operand) (ho:o.op= .move x) (hx:a.eval x=v):(execOp a.eval o).run P w= .ok (.value v) w:=by
 simp[execOp,ho,hx]
theorem vC {a:Act} {w:World} {o:Oper} {b len c k:Nat} (T e:TypeId) (x y:Operand) (ho:o.op= .indexAddr T x y) (hx:a.eval x= .slice (some ⟨b,0,none⟩) len c) (hy:a.eval y= .int .i64 (k:Nat)) (hT:P.underlying T=some (.slice e)) (hsz:(sizeOf e).run P w= .ok 1 w) (hk:k<len):(execOp a.eval o).run P w= .ok (.value (.pointer (some ⟨b,k,none⟩))) w:=by
 have hj2:(0:Int)<=(k:Nat)/\(k:Int)<(len:Int):=by omega
 simp[execOp,ho,hx,hy,Instr.indexAt,asIntOf,run_underlying hT,hsz,Ek,hk,show ¬len<=k by omega]
theorem Ai6 {a:Act} {w:World} {o:Oper} {b k:Nat} {v:Value} {arr:Array Value} {t:TypeId} (T:TypeId) (x y:Operand) (ho:o.op= .store T x y) (hx:a.eval x= .pointer (some ⟨b,k,none⟩)) (hy:a.eval y=v) (hv:v.cells=#[v]) (h1:v.oneCell'=true) (hn:(sizeOf T).run P w= .ok 1 w) (hb:w.heap[b]?=some (.cells arr t (0,0))) (hk:k<arr.size):
  (execOp a.eval o).run P w= .ok .skip (w.setCell ⟨b,k,none⟩ v):=by
 have hs:=So (P:=P) (T:=T) (v:=v) (by rw[hn,hv];rfl) hb (off:=k) (by rw[hv];exact hk) (by rw[hv];simpa using h1)
 rw[hv] at hs
 simp[execOp,ho,hx,hy,hs,World.setCells]
end
def oL (A w1 w2:World) (L:Nat->Bool):World:=if L 9=true then w2 else if L 7=true then w1 else A
def Agj (L:Nat->Bool):Prop:=(L 9=true->L 7=true)/\(L 7=true->L 5=true)
theorem Li {A w1 w2:World} {L:Nat->Bool} {i:Nat} (h7:i≠7) (h9:i≠9):oL A w1 w2 (λj=>if j=i then true else L j)=oL A w1 w2 L:=by
 unfold oL;simp only[if_neg (Ne.symm h7),if_neg (Ne.symm h9)]
theorem Jp {L:Nat->Bool} {i:Nat} (h7:i≠7) (h9:i≠9) (h:Agj L):Agj (λj=>if j=i then true else L j):=by
 unfold Agj
 simp only[if_neg (Ne.symm h7),if_neg (Ne.symm h9)]
 refine⟨h.1,λe=>?_⟩
 split
 rfl
 exact h.2 e
theorem AaZ {A w1 w2:World} {L:Nat->Bool} {C:World->Prop} (h0:C A) (h1:C w1) (h2:C w2):C (oL A w1 w2 L):=by
 unfold oL
 split
 exact h2
 split
 exact h1
 exact h0
theorem Akn (p:Pr) (vn vh va:Value) (w:World) (hp:Hx w w.heap.size vn vh va p) (ho:Agf p) (hln:∀a∈p.acts,Cf a.len) (hmv:∀a∈p.acts,a.moves.length<=1000000):
  Calls Tryz.prog 43 #[.agg #[vn,vh,va]] w λe w'=>∃svs,e= .returned (.slice (some ⟨w.heap.size+1,0,none⟩) p.names.length p.names.length)/\Grow w' (w.heap.size+1) (w.heap.size+3) (λ_=>False) svs (Ob p p.acts.length p.names.length)/\Below w.heap.size w w':=by
 obtain⟨An,cn,rfl⟩:=hp.names.slice
 obtain⟨Ah,ch,rfl⟩:=hp.homes.slice
 obtain⟨csA,ha,hacts⟩:=hp.acts
 obtain⟨Aa,ca,rfl⟩:=ha.slice
 have HP:=Δ hp
 have HO:=Δ ho
 have HMV:=Δ hmv
 have HLN:=Δ hln
 have hn1:=ho.n1
 have hka:=ho.acts
 have hmk:=AdB p.names.length ω (w.alloc (.cells #[.slice An p.names.length cn,.slice Ah p.homes.length ch,.slice Aa p.acts.length ca] 31))
 rw[World.size_alloc] at hmk
 clear hp ha hacts hmv hln ho
 refine Gy func43 rfl ?_
 simp only[ntmps43,List.size_toArray,List.length_cons,List.length_nil,Nat.reduceAdd,Nat.reduceSub,Array.replicate_succ,
   Array.replicate_zero,List.push_toArray,List.append_toArray,List.nil_append,List.cons_append]
 go_wp2_with fail
 obtain⟨W0,hW0⟩:∃W0,W0=(((w.alloc (.cells #[.slice An p.names.length cn,.slice Ah p.homes.length ch,.slice Aa p.acts.length ca] 31)).alloc (.cells (List.replicate p.names.length (Value.slice none 0 0)).toArray 89)).alloc (.cells #[.slice (some ⟨w.heap.size+1,0,none⟩) p.names.length p.names.length] 85)):=⟨_,rfl⟩
 have hz0:W0.heap.size=w.heap.size+3:=by rw[hW0];simp
 have hb0:Below w.heap.size w W0:=by rw[hW0];exact((Ψ.alloc ζ _).alloc (by simp) _).alloc (by simp;omega) _
 refine wp_loop (λa' w'=>a'.tmps.size=44/\∃(rs:List Nat) (k:Nat) (svs:List Value),Amw p W0 (w.heap.size+1) rs k svs w'/\a'.defers=rs.map Xi/\a'.tmps[1]?=some (.pointer (some ⟨w.heap.size,0,none⟩))/\a'.tmps[3]?=some (.pointer (some ⟨w.heap.size+2,0,none⟩))/\a'.tmps[4]?=some (.int .i64 (Fo p.acts k))/\a'.tmps[14]?=some (.slice Aa p.acts.length ca)/\a'.tmps[15]?=some (.int .i64 (p.acts.length:Nat))/\a'.tmps[16]?=some (.int .i64 (k:Nat)))
  (λa' w'=>p.acts.length-(intOf (a'.tmps.getD 16 undef)).toNat) ?_ ?_
 ·
  refine⟨rfl,[],0,List.replicate p.names.length (.slice none 0 0),?_,rfl,rfl,rfl,rfl,rfl,rfl,rfl⟩
  have hg:Grow W0 (w.heap.size+1) (w.heap.size+3) (λ_=>False) (List.replicate p.names.length (.slice none 0 0)) (List.replicate p.names.length []):=Grow.new (by rw[hW0,Below.heap_alloc _ _ _ (by simp)];exact Gq _ _ _ (by simp)) ω
  have e1:Ob p 0 p.names.length=List.replicate p.names.length []:=by
    refine List.ext_getElem (by simp[Ob]) λi h1 h2=>by simp[Ob,Hj]
  have hA:Amw p W0 (w.heap.size+1) [] 0 (List.replicate p.names.length (.slice none 0 0)) W0:=⟨Nat.zero_le _,Ce.refl _ _,by rw[hz0,e1];exact hg,by simp,by simp⟩
  rw[hW0] at hA ⊢
  exact hA
 ·
  rintro⟨tmps,defers⟩ wr ⟨hsz,rs,k,svs,hL,hd,e1,e3,e4,e14,e15,e16⟩
  dsimp only at hsz hd e1 e3 e4 e14 e15 e16
  subst hd
  obtain⟨u,hu,htm⟩:=Uy tmps 44 hsz
  have f (i:Nat) (v:Value) (hi:i<44) (h:tmps[i]?=some v):u i=v:=by rw[hu i hi] at h;exact Option.some.inj h
  have g1:=f _ _ δ e1
  have g3:=f _ _ δ e3
  have g4:=f _ _ δ e4
  have g14:=f _ _ δ e14
  have g15:=f _ _ δ e15
  have g16:=f _ _ δ e16
  simp only[List.range,List.range.loop,List.map_cons,List.map_nil,g1,g3,g4,g14,g15,g16] at htm
  subst htm
  clear hsz e1 e3 e4 e14 e15 e16 hu f g1 g3 g4 g14 g15 g16
  have hwz:=hL.keep.size
  have hle:=hL.le
  have HL:=Δ hL
  have kb:Hid (∀b,b<W0.heap.size->b≠w.heap.size+1->wr.heap[b]?=W0.heap[b]?):=λb hb h1=>hL.keep.block b hb h1
  have k1:wr.heap[w.heap.size]?=some (.cells #[.slice An p.names.length cn,.slice Ah p.homes.length ch,.slice Aa p.acts.length ca] 31 (0,0)):=by
    rw[kb.out _ ω ω,hW0,Below.heap_alloc _ _ _ (by simp;omega),Below.heap_alloc _ _ _ (by simp)];exact Gq _ _ _ rfl
  have k3:wr.heap[w.heap.size+2]?=some (.cells #[.slice (some ⟨w.heap.size+1,0,none⟩) p.names.length p.names.length] 85 (0,0)):=by
    rw[kb.out _ ω ω,hW0];exact Gq _ _ _ (by simp)
  have HBR:Hid (Below w.heap.size w wr):=
    ⟨hL.keep.os.trans hb0.os,hL.keep.tape.trans hb0.tape,hL.keep.output.trans hb0.output,ω,λb hb=>(kb.out b ω ω).trans (hb0.block b hb)⟩
  have kp:Hid (Hx wr w.heap.size (.slice An p.names.length cn) (.slice Ah p.homes.length ch) (.slice Aa p.acts.length ca) p):=HP.out.below HBR.out
  have p0:wr.cell? ⟨w.heap.size,0,none⟩=some (.slice An p.names.length cn):=by simp[World.cell?,k1]
  have p1:wr.cell? ⟨w.heap.size,1,none⟩=some (.slice Ah p.homes.length ch):=by simp[World.cell?,k1]
  have p2:wr.cell? ⟨w.heap.size,2,none⟩=some (.slice Aa p.acts.length ca):=by simp[World.cell?,k1]
  have p3:wr.cell? ⟨w.heap.size+2,0,none⟩=some (.slice (some ⟨w.heap.size+1,0,none⟩) p.names.length p.names.length):=by simp[World.cell?,k3]
  have K1:=Δ k1
  have K3:=Δ k3
  have HW0:=Δ hW0
  have HB0:=Δ hb0
  clear k1 k3 hL hW0 hmk hb0
  by_cases hk:k<p.acts.length
  case neg=>
    have hkN:k=p.acts.length:=by omega
    have HkN:=Δ hkN
    clear hkN
    go_wp2_with fail
    refine Jr rs (.of _) HL.out.nodup (λr hr=>(HL.out.marks r hr).2) λW' hk' hz=>?_
    refine⟨_,by simp[results,results43,go_sem],svs,rfl,?_,?_⟩
    ·
     have hg:=HL.out.grow
     rw[HkN.out,hz0] at hg
     refine hg.keepP hk' ω λr hr=>?_
     exact(HL.out.marks r hr).2
    · refine⟨hk'.os.trans HBR.out.os,hk'.tape.trans HBR.out.tape,hk'.output.trans HBR.out.output,by rw[hz];exact HBR.out.size,λb hb=>(hk'.block b ω (λh=>by have:=(HL.out.marks _ h).1;omega)).trans (HBR.out.block b hb)⟩
  case pos=>
  obtain⟨csB,hsB,hactsB⟩:=kp.out.acts
  obtain⟨ba,oa,ca',ea,hba1,hba2,hcac⟩:=hsB.pos ω
  obtain⟨vm,hvm,hcm⟩:=hactsB.at_ hk
  have a0:=hcac _ _ (hcm 0 _ rfl)
  have a1:=hcac _ _ (hcm 1 _ rfl)
  have a2:=hcac _ _ (hcm 2 _ rfl)
  obtain⟨Am,cm,rfl⟩:=hvm.slice
  cases ea
  rw[<-Nat.add_assoc] at a1 a2
  simp only[Nat.add_zero] at a0
  have gA:Hid (p.acts.getD k Ac.none=p.acts[k]):=by simp[Hid,hk]
  have hen:=HO.out.ends k ω
  have hen1:=HO.out.ends (k+1) ω
  have hlk:=HO.out.len k hk
  have hes:Fo p.acts (k+1)=Fo p.acts k+(p.acts.getD k Ac.none).len:=rfl
  rw[gA.out] at hes hlk
  clear hcac hcm hactsB hsB hvm
  generalize hAC:p.acts[k]=ac at*
  generalize hT:Fo p.acts k=t at*
  generalize hT1:Fo p.acts (k+1)=t1 at*
  have HACk:=Δ hAC
  have HT:=Δ hT
  have HT1:=Δ hT1
  clear hAC hT hT1
  have y1:w.heap.size<wr.heap.size:=by omega
  have y2:w.heap.size<wr.heap.size+1:=by omega
  have y3:w.heap.size<wr.heap.size+1+1:=by omega
  go_wp2_with fail
  obtain⟨WB,hWB⟩:∃WB,WB=(wr.alloc (.cells #[.string ac.name,.int .i64 ac.len,.slice Am ac.moves.length cm] 61)).alloc (.cells #[.int .i64 0] 3):=⟨_,rfl⟩
  rw[<-hWB]
  refine(nD _ _ _ _ _ _).mono ?_
  rintro e wP ⟨Bp,Ba,Bt,rfl,hbP,q1,q2,q3,q4,q5,q6,qp,qa,qt⟩
  have hzB:WB.heap.size=wr.heap.size+2:=by rw[hWB];simp
  have hzP:=hbP.size
  have hbB:Below wr.heap.size wr WB:=by rw[hWB];exact(Ψ.alloc ζ _).alloc (by simp) _
  have hB7:WB.heap[wr.heap.size+1]?=some (.cells #[.int .i64 0] 3 (0,0)):=by rw[hWB];exact Gq _ _ _ (by simp)
  have hB6:WB.heap[wr.heap.size]?=some (.cells #[.string ac.name,.int .i64 ac.len,.slice Am ac.moves.length cm] 61 (0,0)):=by rw[hWB,Below.heap_alloc _ _ _ (by simp)];exact Gq _ _ _ rfl
  have HP7:Hid (wP.heap[wr.heap.size+1]?=some (.cells #[.int .i64 0] 3 (0,0))):=(hbP.block _ ω).trans hB7
  have HP6:Hid (wP.heap[wr.heap.size]?=some (.cells #[.string ac.name,.int .i64 ac.len,.slice Am ac.moves.length cm] 61 (0,0))):=(hbP.block _ ω).trans hB6
  have HQP:=Δ qp
  have HQA:=Δ qa
  have HQT:=Δ qt
  have hrP:Below wr.heap.size wr wP:=hbB.trans (hbP.mono ω)
  have HRP:=Δ hrP
  clear qp qa qt hWB hB7 hB6 hrP a0 a1 a2 p0 p1 p2 p3
  have hFL:Hid ((Fk p k).length=p.names.length):=by
    show (Fk p k).length=p.names.length
    unfold Fk
    split
    · exact HO.out.homes
    · rw[List.length_map];exact HO.out.mv (k-1) ω
  have hpP:Hid (Hx wP w.heap.size (.slice An p.names.length cn) (.slice Ah p.homes.length ch) (.slice (some ⟨ba,oa,none⟩) p.acts.length ca) p):=kp.out.below (HRP.out.mono HBR.out.size)
  have hhm:=HO.out.homes
  have ITER:Hid (Ac6 64 #[.pointer (some ⟨Bp,0,none⟩),.pointer (some ⟨Ba,0,none⟩),.pointer (some ⟨Bt,0,none⟩)] p.names.length (λlo=>Yc lo p k t) (λb=>b<w.heap.size\/b=Bp\/b=Ba\/b=Bt) wP):=by
    have:=iL wP Bp Ba Bt _ _ _ p k t (λb=>b<w.heap.size\/b=Bp\/b=Ba\/b=Bt) (by intro b hb;omega) w.heap.size ω (λb hb=> .inl hb) (.inr (.inl rfl)) (.inr (.inr (.inl rfl))) (.inr (.inr (.inr rfl))) HQP.out HQA.out HQT.out hpP.out hk
     ω ω ω HMV.out (by rw[hFL.out];exact HO.out.mv k hk)
    rw[hFL.out] at this
    exact this
  clear hhm
  have HGP:Hid (Grow wP (w.heap.size+1) W0.heap.size (λb=>b=wr.heap.size+1) svs (Ob p k p.names.length)):=(HL.out.grow.other (N':=λb=>b=wr.heap.size+1) (λb hb e=>by omega)).up HRP.out
  have HOW:Hid (∀j g,Jy svs j=some g->W0.heap.size<=g/\g<wr.heap.size):=λj g e=>⟨(HL.out.grow.at e).1,(HL.out.grow.at e).2.1⟩
  go_wp2_with fail
  refine aV (σ:=List Value) (w0:=wP) (gf:=64) (lb:=#[.pointer (some ⟨Bp,0,none⟩),.pointer (some ⟨Ba,0,none⟩),.pointer (some ⟨Bt,0,none⟩)]) rfl ?eg ITER.out Ψ (by intro b hb;omega) ?hps
    (λs i A=>AIn p k wP (w.heap.size+1) (wr.heap.size+1) W0.heap.size svs s i A) (λs b=>b=w.heap.size+1\/b=wr.heap.size+1\/∃j,Jy s j=some b)
    (λ_ _=>False) svs (λs i=>AIn.own_ ω) (λc=>by intro _ _ _ _ h;exact h.elim) ?hlt ?hTP ?h0
    (λs i args a' A=>a'.defers=[]/\a'.tmps.size=44/\a'.tmps[3]?=some (.pointer (some ⟨w.heap.size+2,0,none⟩))/\a'.tmps[7]?=some (.pointer (some ⟨wr.heap.size+1,0,none⟩))/\∃pv,a'.tmps[8]?=some pv/\Ac2 p k t wP (w.heap.size+1) (wr.heap.size+1) W0.heap.size svs s i pv A) ?hM ?hassign ?hbody ?hdone ?hstop
  case eg=>intro args w;kernel_rfl
  case hps=>rintro lo i A args ⟨A',c,rfl,_⟩;rfl
  case hlt=>
    rintro s i A b hi (rfl|rfl|⟨j,hb⟩)
    · have:=hi.keep.size;omega
    · have:=hi.keep.size;omega
    · exact(hi.grow.at hb).2.1
  case hTP=>
    rintro s i A b hi hT (rfl|rfl|⟨j,hb⟩)
    · omega
    · omega
    ·
     have h1:=(hi.grow.at hb).1
     rcases hi.own j b hb with h|h
     · have:=HOW.out j b h;omega
     · omega
  case h0=>exact⟨Ce.refl _ _,by rw[Aob];exact HGP.out,λj g h=> .inl h,HP7.out⟩
  case hM=>
    rintro s i args a' _ A A' row ⟨h1,h2,h3,h4,pv,h5,h6⟩ hg hr
    exact⟨h1,h2,h3,h4,pv,h5,Ac2.own_ ω () A A' row h6 hg hr⟩
  case hassign=>
    rintro l s i A0 A args hi hz00 hI0 hbA hI ⟨Ap,c,rfl,hpt⟩
    have hM:Ac2 p k t wP (w.heap.size+1) (wr.heap.size+1) W0.heap.size svs s i (.slice Ap (Gs p k t i).length c) A:=by
     obtain⟨cs,r1,r2⟩:=hpt
     have hD:∀b,rg A0.heap.size A.heap.size b->vH (λb=>b=wr.heap.size+1) s W0.heap.size A.heap.size b:=λb hd=>⟨by have:=hd.1;omega,hd.2,λj e=>by have:=(hI0.grow.at e).2.1;have:=hd.1;omega,λe=>by have:=hd.1;omega⟩
     exact⟨hI,Ap,c,cs,rfl,r1.more hD,r2.more hD⟩
    have HI:=Δ hM
    clear hI hpt hI0 hM
    simp only[List.zip_toArray,List.zip_cons_cons,List.zip_nil_right,List.foldl_toArray,List.foldl_cons,List.foldl_nil,List.setIfInBounds_toArray,List.set_cons_succ,List.set_cons_zero]
    gi_wp2_with (rw[Oper.semAt_eq _ _ _ (λc h=>by cases h)];go_simp)
    exact⟨⟨trivial,rfl,rfl,rfl,_,rfl,HI.out⟩,KeepsOthers.refl _,Ce.refl _ _⟩
  case hbody=>
    rintro l s i A args ⟨tmps',defers'⟩ size hi ⟨hd,hsz,e3,e7,pv,e8,hM⟩ hsize
    dsimp only at hd hsz e3 e7 e8
    subst hd
    obtain⟨v,hu,htm⟩:=Uy tmps' 44 hsz
    have f (i:Nat) (x:Value) (hi:i<44) (h:tmps'[i]?=some x):v i=x:=by rw[hu i hi] at h;exact Option.some.inj h
    have g3:=f _ _ δ e3
    have g7:=f _ _ δ e7
    have g8:=f _ _ δ e8
    simp only[List.range,List.range.loop,List.map_cons,List.map_nil,g3,g7,g8] at htm
    subst htm
    clear hsz e3 e7 e8 hu f g3 g7 g8
    obtain⟨AD,hAD⟩:∃AD,AD=A.drew:=⟨_,rfl⟩
    have hbD:Below A.heap.size A AD:=by rw[hAD];exact Ψ.drew
    have hzD:AD.heap.size=A.heap.size:=by rw[hAD];rfl
    have hMD:=Ac2.own_ ω () A AD none hM (bL hbD) (λr e=>by cases e)
    have hI:=hMD.tin
    obtain⟨Ap,c,cs,rfl,r1,r2⟩:=hMD.pth
    have hil:i<(Te p k p.names.length i).length:=by simp[Te];exact hi
    have hsl:i<s.length:=by rw[hI.grow.len];exact hil
    obtain⟨csi,o1,o2⟩:=hI.grow.row i hil
    obtain⟨i0,hi0,hy0,hy1,hy2⟩:=info_parts Us
    have hli:((Te p k p.names.length i).getD i []).length<=300:=by
     rw[Ab1 hi,if_neg (Nat.lt_irrefl i)]
     have:=uW p i k
     omega
    have hpl:=aS p k t i
    have hsA:=hI.keep.size
    obtain⟨v',w1,hrun,own1,hg1,hat⟩:=Tc AD W0.heap.size 89 89 141 i0 _ 6 96 underlying89 hi0 hy0 hy1 hy2 rfl δ (s.getD i undef) _ csi o1 _ (.slice Ap (Gs p k t i).length c) _ cs r1 r2.oneCell (by unfold maxLen;omega) ω ω
    obtain⟨hb1,hG⟩:=Grow.append hI.grow hil o1 o2 r2 own1 hg1 hat
    obtain⟨w2,hw2⟩:∃w2,w2=w1.setCell ⟨w.heap.size+1,i,none⟩ v':=⟨_,rfl⟩
    rw[<-hw2] at hG
    have hst:=AdD (p:=p) (k:=k) hi
    rw[HT.out] at hst
    rw[hst] at hG
    have hoi:∀g,Jy s i=some g->W0.heap.size<=g:=λg e=>(hI.grow.at e).1
    have hlo:∀b,b<W0.heap.size->b<AD.heap.size->b≠w.heap.size+1->w1.heap[b]?=AD.heap[b]?/\w2.heap[b]?=AD.heap[b]?:=λb h1 h2 h3=>by
     have e1:=hg1.block b h2 (λe=>by have:=hoi b e.symm;omega)
     exact⟨e1,by rw[hw2,Below.heap_setCell _ ⟨_,_,_⟩ _ _ h3];exact e1⟩
    have x3:AD.heap[w.heap.size+2]?=some (.cells #[.slice (some ⟨w.heap.size+1,0,none⟩) p.names.length p.names.length] 85 (0,0)):=by
     refine(hI.keep.block _ ω ?_).trans ((HRP.out.block _ ω).trans K3.out)
     rintro(h|h|⟨j,h⟩)
     · omega
     · omega
     · have:=HOW.out j _ h;omega
    have l3:=hlo (w.heap.size+2) ω ω ω
    have n7:Jy s i≠some (wr.heap.size+1):=λe=>by
     rcases hI.own i _ e with h|h
     · have:=HOW.out i _ h;omega
     · omega
    have y7:=hI.cnt
    have l7a:=hg1.block (wr.heap.size+1) ω (λe=>n7 e.symm)
    have l7b:w2.heap[wr.heap.size+1]?=AD.heap[wr.heap.size+1]?:=by rw[hw2,Below.heap_setCell _ ⟨_,_,_⟩ _ _ (by show _≠w.heap.size+1;omega)];exact l7a
    have c3:∀L,(oL AD w1 w2 L).cell? ⟨w.heap.size+2,0,none⟩=some (.slice (some ⟨w.heap.size+1,0,none⟩) p.names.length p.names.length):=λL=>AaZ (C:=λW=>W.cell? ⟨w.heap.size+2,0,none⟩=_) (by simp[World.cell?,x3]) (by simp[World.cell?,l3.1,x3]) (by simp[World.cell?,l3.2,x3])
    have c7:∀L,(oL AD w1 w2 L).cell? ⟨wr.heap.size+1,0,none⟩=some (.int .i64 (i:Nat)):=λL=>AaZ (C:=λW=>W.cell? ⟨wr.heap.size+1,0,none⟩=_) (by simp[World.cell?,y7]) (by simp[World.cell?,l7a,y7]) (by simp[World.cell?,l7b,y7])
    have cm:=hI.grow.cell hsl
    refine wpIn_block (wpIn_seq ?_)
    refine kF (R:=some l) 44 (λσ L z=>Agj L/\z=oL AD w1 w2 L/\∀j,L j=true->σ j=[Value.slice (some ⟨w.heap.size+1,0,none⟩) p.names.length p.names.length,.int .i64 (i:Nat),.slice (some ⟨w.heap.size+1,0,none⟩) p.names.length p.names.length,.int .i64 (i:Nat),.pointer (some ⟨w.heap.size+1,i,none⟩),s.getD i undef,.slice Ap (Gs p k t i).length c,v',.pointer (some ⟨w.heap.size+1,i,none⟩)].getD j undef) κ κ rfl κ ?h0 ?hop ?hend
    case h0=>
     refine⟨⟨λh=>(by cases h),λh=>(by cases h)⟩,?_,λj h=>(by cases h)⟩
     unfold oL
     rw[if_neg δ,if_neg δ]
     exact hAD.symm
    case hop=>
     have A7:∀{L:Nat->Bool},Agj L->L 7=false->oL AD w1 w2 L=AD:=λ {L} h h7=>by
      have h9:L 9=false:=by
       cases h9:L 9 with
       |false=>rfl
       |true=>have:=h.1 h9;rw[h7] at this;cases this
      unfold oL;rw[h7,h9];rfl
     refine⟨?_,?_,?_,?_,?_,?_,?_,?_,?_,?_,trivial⟩
     · exact Lc λa L hI' hi' hw ht hn=>⟨.inl (by rw[Li δ δ];exact Zk 85 (.tmp 3) rfl (hn 3 κ) κ (c3 L)),Jp δ δ hI'⟩
     · exact Lc λa L hI' hi' hw ht hn=>⟨.inl (by rw[Li δ δ];exact Zk 3 (.tmp 7) rfl (hn 7 κ) κ (c7 L)),Jp δ δ hI'⟩
     · exact Lc λa L hI' hi' hw ht hn=>⟨.inl (by rw[Li δ δ];exact Zk 85 (.tmp 3) rfl (hn 3 κ) κ (c3 L)),Jp δ δ hI'⟩
     · exact Lc λa L hI' hi' hw ht hn=>⟨.inl (by rw[Li δ δ];exact Zk 3 (.tmp 7) rfl (hn 7 κ) κ (c7 L)),Jp δ δ hI'⟩
     · exact Lc λa L hI' hi' hw ht hn=>⟨.inl (by rw[Li δ δ];exact vC 85 89 (.tmp 29) (.tmp 30) rfl (ht 29 2 (by simp[Op.operands]) κ).2 (ht 30 3 (by simp[Op.operands]) κ).2 underlying85 κ hi),Jp δ δ hI'⟩
     ·
      refine Lc λa L hI' hi' hw ht hn=>⟨.inl (by
       rw[Li δ δ]
       refine Zk 89 (.tmp 31) rfl (ht 31 4 (by simp[Op.operands]) κ).2 κ ?_
       rw[A7 hI' (by
        cases h7:L 7 with
        |false=>rfl
        |true=>have:=hI'.2 h7;rw[hi'] at this;cases this)]
       exact cm),Jp δ δ hI'⟩
     · exact Lc λa L hI' hi' hw ht hn=>⟨.inl (by rw[Li δ δ];exact AlA (.tmp 8) rfl (hn 8 κ)),Jp δ δ hI'⟩
     ·
      refine Lc λa L hI' hi' hw ht hn=>?_
      have e1:a.eval (.tmp 32)=s.getD i undef:=(ht 32 5 (by simp[Op.operands,Call.operands]) κ).2
      have e2:a.eval (.tmp 33)= .slice Ap (Gs p k t i).length c:=(ht 33 6 (by simp[Op.operands,Call.operands]) κ).2
      have h5:=(ht 32 5 (by simp[Op.operands,Call.operands]) κ).1
      have h9:L 9=false:=by
       cases h9:L 9 with
       |false=>rfl
       |true=>have:=hI'.1 h9;rw[hi'] at this;cases this
      refine⟨.inl ?_,λ_=>by simp,λ_=>by simpa using h5⟩
      rw[A7 hI' hi',show oL AD w1 w2 (λj=>if j=7 then true else L j)=w1 by unfold oL;simp[h9]]
      obtain⟨sv,hsv⟩:∃sv,sv=s.getD i undef:=⟨_,rfl⟩
      rw[<-hsv] at e1 hrun
      simp[execOp,resolve,invoke,builtin,e1,e2,hrun]
     · exact Lc λa L hI' hi' hw ht hn=>⟨.inl (by rw[Li δ δ];exact vC 85 89 (.tmp 27) (.tmp 28) rfl (ht 27 0 (by simp[Op.operands]) κ).2 (ht 28 1 (by simp[Op.operands]) κ).2 underlying85 κ hi),Jp δ δ hI'⟩
     ·
      refine Lc λa L hI' hi' hw ht hn=>?_
      have e1:a.eval (.tmp 35)= .pointer (some ⟨w.heap.size+1,i,none⟩):=(ht 35 8 (by simp[Op.operands]) κ).2
      have e2:a.eval (.tmp 34)=v':=(ht 34 7 (by simp[Op.operands]) κ).2
      have h7:=(ht 34 7 (by simp[Op.operands]) κ).1
      refine⟨.inr ⟨?_,rfl⟩,λ_=>by simpa using h7,λ_=>by simpa using hI'.2 h7⟩
      rw[show oL AD w1 w2 L=w1 by unfold oL;simp[hi',h7],show oL AD w1 w2 (λj=>if j=9 then true else L j)=w2 by unfold oL;simp,hw2]
      obtain⟨A2,c2,hv2⟩:∃A c,v'= .slice A (((Te p k p.names.length i).getD i []).length+(Gs p k t i).length) c:=by
       rcases own1.2 with⟨e,e2⟩|⟨g,cap,cur,e,_⟩
       · exact⟨none,0,by rw[e,e2]⟩
       · exact⟨_,cap,e⟩
      exact Ai6 89 (.tmp 35) (.tmp 34) rfl e1 e2 (by rw[hv2];rfl) (by rw[hv2];rfl) κ hb1 (by simpa using hsl)
    case hend=>
     rintro σ L z hall ⟨_,rfl,hv⟩
     rw[show oL AD w1 w2 L=w2 by unfold oL;rw[hall 9 δ];rfl]
     simp only[Dk,List.length_cons,List.length_nil,Nat.reduceAdd,List.getElem?_toArray,List.getElem?_cons_succ,List.getElem?_cons_zero,Option.bind_some,Act.put,List.setIfInBounds_toArray,List.set_cons_succ,List.set_cons_zero]
     show Code.wpIn _ _ _ _ _ _ _
     have d7:w2.cell? ⟨wr.heap.size+1,0,none⟩=some (.int .i64 (i:Nat)):=by simp[World.cell?,l7b,y7]
     have d7f:w2.frozen? ⟨wr.heap.size+1,0,none⟩=false:=by simp[World.frozen?,l7b,y7]
     have hi64:(i:Int)<64:=by omega
     have HWR:Hid (IntKind.i64.wrap ((i:Int)+1)=(i:Int)+1):=IntWalk.i64_in _ ω
     clear hv hall hrun
     have HW2:=Δ hw2
     have HAD:=Δ hAD
     clear hw2 hAD
     gi_wp2_with (rw[Oper.semAt_eq _ _ _ (λc h=>by cases h)];go_simp)
     (try rw[HWR.out])
     have hw2:=HW2.out
     have hAD:=HAD.out
     obtain⟨w3,hw3⟩:∃w3,w3=w2.setCell ⟨wr.heap.size+1,0,none⟩ (.int .i64 ((i:Int)+1)):=⟨_,rfl⟩
     rw[<-hw3]
     have n7':∀j,Jy (s.set i v') j≠some (wr.heap.size+1):=λj e=>by
      rw[Ul hsl] at e
      split at e
      ·
       rcases hat with e2|e2
       · rw[e2] at e;exact n7 e
       · rw[e2] at e;injection e with e;omega
      ·
       rcases hI.own j _ e with h|h
       · have:=HOW.out j _ h;omega
       · omega
     have hbl:∀b,b<AD.heap.size->b≠w.heap.size+1->b≠wr.heap.size+1->Jy s i≠some b->w3.heap[b]?=AD.heap[b]?:=λb h1 h2 h3 h4=>by
      rw[hw3,Below.heap_setCell _ ⟨_,_,_⟩ _ _ h3,hw2,Below.heap_setCell _ ⟨_,_,_⟩ _ _ h2]
      exact hg1.block b h1 (λe=>h4 e.symm)
     have hz3:w3.heap.size=w1.heap.size:=by rw[hw3,hw2];simp[World.setCell]
     have hos:w3.os=AD.os/\w3.tape=AD.tape/\w3.output=AD.output:=by rw[hw3,hw2];exact⟨hg1.os,hg1.tape,hg1.output⟩
     have hzg:=hg1.size
     refine⟨?_,?_,s.set i v',⟨?_,?_,λj g hg=>?_,?_⟩,?_⟩
     ·
      have k1:KeepsOthers A AD:=by rw[hAD];exact⟨Nat.le_refl _,λ_ _ h _=>h⟩
      have k2:KeepsOthers AD w1:=KeepsOthers.of_grownBy hg1 (λj o e ho=>by
       obtain⟨c9,t9,z9,h9⟩:=(hI.grow.at e).2.2
       rw[h9] at ho;cases ho;rfl)
      rw[hw3,hw2]
      exact((k1.trans k2).trans (KeepsOthers.setCell _ _ _)).trans (KeepsOthers.setCell _ _ _)
     ·
      refine⟨hos.1.trans hbD.os,hos.2.1.trans hbD.tape,hos.2.2.trans hbD.output,ω,λb hb hn=>?_⟩
      exact(hbl b ω (λe=>hn (.inl e)) (λe=>hn (.inr (.inl e))) (λe=>hn (.inr (.inr ⟨i,e⟩)))).trans (hbD.block b hb)
     ·
      refine⟨hos.1.trans hI.keep.os,hos.2.1.trans hI.keep.tape,hos.2.2.trans hI.keep.output,ω,λb hb hn=>?_⟩
      refine(hbl b ω (λe=>hn (.inl e)) (λe=>hn (.inr (.inl e))) (λe=>?_)).trans (hI.keep.block b hb hn)
      rcases hI.own i b e with h|h
      · exact hn (.inr (.inr ⟨i,h⟩))
      · omega
     ·
      rw[hw3]
      exact hG.setN ⟨wr.heap.size+1,0,none⟩ _ rfl (by show wr.heap.size+1≠_;omega) n7'
     ·
      rw[Ul hsl] at hg
      split at hg
      ·
       rcases hat with e2|e2
       ·
        rw[e2] at hg
        subst_vars
        exact hI.own _ g hg
       · rw[e2] at hg;injection hg with hg;exact .inr ω
      · exact hI.own j g hg
     ·
      rw[hw3,Ex _ _ _ _ _ _ _ (l7b.trans y7)]
      simp
     ·
      rintro b (rfl|rfl|⟨j,hb⟩)
      · exact .inl (.inl rfl)
      · exact .inl (.inr (.inl rfl))
      ·
       rw[Ul hsl] at hb
       split at hb
       ·
        rcases hat with e2|e2
        · rw[e2] at hb;exact .inl (.inr (.inr ⟨i,hb⟩))
        · rw[e2] at hb;injection hb with hb;exact .inr ω
       · exact .inl (.inr (.inr ⟨j,hb⟩))
  case hdone=>
    rintro D s A hD hI hdA
    have hka:=hI.keep
    have hsA:=hka.size
    have hlow:Hid (∀b,b<wP.heap.size->b≠w.heap.size+1->b≠wr.heap.size+1->(∀j,Jy svs j≠some b)->A.heap[b]?=wP.heap[b]?):=λb h1 h2 h3 h4=>hka.block b h1 (by rintro(h|h|⟨j,h⟩)<;>first|exact h2 h|exact h3 h|exact h4 j h)
    have hnd:Hid (∀b o,b<W0.heap.size\/wr.heap.size<=b\/(wr.heap[b]?=some o/\o.isCells=false)->∀j,Jy svs j≠some b):=λb o h j e=>by
     have h1:=HOW.out j b e
     rcases h with h|h|⟨h,h2⟩
     · omega
     · omega
     ·
      obtain⟨c9,t9,z9,h9⟩:=(HL.out.grow.at e).2.2
      rw[h9] at h;cases h;simp[Obj.isCells] at h2
    have b1:A.cell? ⟨wr.heap.size,1,none⟩=some (.int .i64 ac.len):=by
     have h4:=(hlow.out wr.heap.size ω ω ω (hnd.out _ (.deferred none) (.inr (.inl ζ)))).trans HP6.out
     simp[World.cell?,h4]
    have HI:=Δ hI
    have HDA:=Δ hdA
    have HES:=Δ hes
    clear hI hka hdA hes
    go_wp2_with fail
    refine⟨⟨rfl,D::rs,k+1,s,?_,rfl,rfl,rfl,?_,rfl,rfl,?_⟩,?_⟩
    ·
     have hk0:=HL.out.keep
     have hk1:=HI.out.keep
     have hk3:=HRP.out
     refine⟨hk,⟨hk1.os.trans (hk3.os.trans hk0.os),hk1.tape.trans (hk3.tape.trans hk0.tape),hk1.output.trans (hk3.output.trans hk0.output),ω,λb hb hn=>?_⟩,?_,?_,?_⟩
     · exact(hlow.out b ω hn ω (hnd.out b (.deferred none) (.inl hb))).trans ((hk3.block b ω).trans (hk0.block b hb hn))
     ·
      have hg:=HI.out.grow.other (N':=λ_=>False) (λ_ _ h=>h.elim)
      rw[Aoc] at hg
      exact hg
     ·
      refine List.nodup_cons.2 ⟨λh=>?_,HL.out.nodup⟩
      have:=(Ξ (HL.out.marks D h).2).1
      omega
     ·
      intro r hr
      rcases List.mem_cons.1 hr with rfl|hr
      · exact⟨ω,HDA.out⟩
      ·
       have h1:=HL.out.marks r hr
       have h2:=(Ξ h1.2).1
       refine⟨h1.1,(hlow.out r ω (by have:=h1.1;omega) ω (hnd.out r _ (.inr (.inr ⟨h1.2,rfl⟩)))).trans ((hk3.block r h2).trans h1.2)⟩
    ·
     have hes:=HES.out
     have hw:wrap64 (t+ac.len)=t+ac.len:=IntWalk.wrap64_in _ ω
     rw[HT1.out,hes]
     show some (Value.int .i64 (wrap64 (t+ac.len)))=some (.int .i64 (t+ac.len))
     rw[hw]
    · rfl
    · simp[intOf];omega
  case hstop=>rintro D c A _ h _;exact h.elim
theorem Ads {W:World} {Bm base:Nat} {N:Nat->Prop} {svs:List Value} {L:List (List Sg)} (h:Grow W Bm base N svs L) {i:Nat} (hi:i<L.length):Age W (λb=>base<=b/\b<W.heap.size) (svs.getD i undef) (L.getD i []):=by
 obtain⟨cs,h1,h2⟩:=h.row i hi
 exact⟨cs,Bv.own h1,h2.more λb hd=>⟨hd.1,hd.2.1⟩⟩
theorem AmW (p:Pr) (hp:fF p) (ho:Agf p):AF Tryz.prog 43 [Ie p] (.sl 1 p.names.length λi=>Gf (Hj p p.acts.length i)):=Th λE us hD hn hv=>by
 rw[Ab8 hn]
 have h0:=hv 0 (by simp)
 obtain⟨vn,vh,va,e,h1⟩:=AbE (E:=E.fz) (p:=p) h0 hD
 rw[e]
 refine(Akn p vn vh va E.w h1 ho hp.lens hp.moves).mono ?_
 rintro e w' ⟨svs,rfl,hg,hb⟩
 refine⟨_,rfl,hb,λE' hw hD1 hD2=>?_⟩
 have hl:svs.length=p.names.length:=by rw[hg.len];simp[Ob]
 have hB:=(Ξ hg.box).1
 have hz:=hb.size
 refine Ms (w:=w') (D:=λb=>E.w.heap.size<=b/\b<w'.heap.size) (cs:=svs) ⟨ω,.inr ⟨_,_,_,rfl,⟨ω,hB⟩,λj u hu=>?_⟩⟩ hw (λb hb=>hD2 b hb.1 hb.2) λi j hi hj=>?_
 have hj:=(List.getElem?_eq_some_iff.1 hu).1
 have:=hg.cell hj
 rw[Nat.zero_add,this,Γ,hu]
 rfl
 obtain rfl:j=0:=by omega
 have hi2:i<(Ob p p.acts.length p.names.length).length:=by simpa [Ob] using hi
 have:=Ads hg hi2
 rw[AiB hi] at this
 rw[Nat.mul_one,Nat.add_zero]
 exact Alu (E:=E'.fz) this hw λb hb=>hD2 b ω hb.2
def AcA (c:List Int) (a b:Int):Prop:=(a=b/\c=[a])\/(a≠b/\c=[a,0,0,10*(b-a),-15*(b-a),6*(b-a)])
theorem Xm {a b k:Int} (h:k=2\/(k=0/\a=b)):AcA (Cx a b (Bq k)) a b:=by
 unfold Cx
 by_cases e:a=b
 exact .inl ⟨e,by rw[if_pos e]⟩
 rcases h with rfl|⟨_,h⟩
 refine .inr ⟨e,?_⟩
 rw[if_neg e]
 simp[Bq]
 exact absurd h e
theorem Ahd:Qy 0 0 0=60/\(∀j,j<6->Qy 5 j 0=60)/\Qy 5 3 3=6/\Qy 5 4 3=24/\Qy 5 4 4=12/\Qy 5 5 3=60/\Qy 5 5 4=60/\Qy 5 5 5=60:=by decide
theorem qS {c:List Int} {a b:Int} (h:AcA c a b) (ha: -1048576<=a/\a<=1048576) (hb: -1048576<=b/\b<=1048576):Ko c 1:=by
 obtain⟨f0,f1,f2,f3,f4,f5,f6,f7⟩:=Ahd
 rcases h with⟨_,rfl⟩|⟨hne,rfl⟩
 refine⟨by simp,by simp,λh=>by simp at h,λj hj=>?_⟩
 obtain rfl:j=0:=by simpa using hj
 show ((0+a*((Qy 0 0 0:Nat):Int)).natAbs:Int)<=_
 rw[f0];omega
 refine⟨by simp,by simp,λ_=>by show (6:Int)*(b-a)≠0;omega,λj hj=>?_⟩
 have hj6:j<6:=by simpa using hj
 have g:=f1 j hj6
 match j,hj6 with
 |0,_=>
  show ((0+a*((Qy 5 0 0:Nat):Int)).natAbs:Int)<=_
  rw[g];omega
 |1,_=>
  show ((0+a*((Qy 5 1 0:Nat):Int)+0*((Qy 5 1 1:Nat):Int)).natAbs:Int)<=_
  rw[g,Int.zero_mul];omega
 |2,_=>
  show ((0+a*((Qy 5 2 0:Nat):Int)+0*((Qy 5 2 1:Nat):Int)+0*((Qy 5 2 2:Nat):Int)).natAbs:Int)<=_
  rw[g,Int.zero_mul,Int.zero_mul];omega
 |3,_=>
  show ((0+a*((Qy 5 3 0:Nat):Int)+0*((Qy 5 3 1:Nat):Int)+0*((Qy 5 3 2:Nat):Int)+10*(b-a)*((Qy 5 3 3:Nat):Int)).natAbs:Int)<=_
  rw[g,f2,Int.zero_mul,Int.zero_mul];omega
 |4,_=>
  show ((0+a*((Qy 5 4 0:Nat):Int)+0*((Qy 5 4 1:Nat):Int)+0*((Qy 5 4 2:Nat):Int)+10*(b-a)*((Qy 5 4 3:Nat):Int)+ -15*(b-a)*((Qy 5 4 4:Nat):Int)).natAbs:Int)<=_
  rw[g,f3,f4,Int.zero_mul,Int.zero_mul];omega
 |5,_=>
  show ((0+a*((Qy 5 5 0:Nat):Int)+0*((Qy 5 5 1:Nat):Int)+0*((Qy 5 5 2:Nat):Int)+10*(b-a)*((Qy 5 5 3:Nat):Int)+ -15*(b-a)*((Qy 5 5 4:Nat):Int)+6*(b-a)*((Qy 5 5 5:Nat):Int)).natAbs:Int)<=_
  rw[g,f5,f6,f7,Int.zero_mul,Int.zero_mul];omega
theorem Ys:∀l:List Int,aL 1 l=1
 |[]=>rfl
 |x::l=>by
  show aL (Nat.gcd 1 x.natAbs) l=1
  rw[Nat.gcd_one_left];exact Ys l
structure yA (s:Sg) (a b:V3) (f t:Int):Prop where
 k:∃k,s=Yw a b f t k/\(k=2\/(k=0/\a=b))
 pa:a.pt=true
 pb:b.pt=true
 f0:0<=f
 ft:f<t
 t0:t<=3600000
theorem yA.rows {s:Sg} {a b:V3} {f t:Int} (h:yA s a b f t):AcA s.x a.x b.x/\AcA s.y a.y b.y/\AcA s.z a.z b.z/\s.f=f/\s.t=t/\s.o=1:=by
 obtain⟨k,rfl,hk⟩:=h.k
 refine⟨Xm ?_,Xm ?_,Xm ?_,rfl,rfl,rfl⟩
 all_goals
  rcases hk with h|⟨h,e⟩
  · exact .inl h
  · exact .inr ⟨h,by rw[e]⟩
theorem yA.ok {s:Sg} {a b:V3} {f t:Int} (h:yA s a b f t):Nq s/\Yf s/\s.o=1:=by
 obtain⟨hx,hy,hz,e1,e2,e3⟩:=h.rows
 have qa:=(Mr _ _ _).1 h.pa
 have qb:=(Mr _ _ _).1 h.pb
 have h0:=h.f0
 have h1:=h.ft
 have h2:=h.t0
 refine⟨⟨?_,?_,?_,?_,?_⟩,?_,e3⟩
 unfold Np;omega
 rw[e3];exact qS hx qa.1 qb.1
 rw[e3];exact qS hy qa.2.1 qb.2.1
 rw[e3];exact qS hz qa.2.2 qb.2.2
 rw[e3,show (1:Int).natAbs=1 from rfl,Ys,Ys,Ys]
 obtain⟨k,rfl,hk⟩:=h.k
 exact⟨⟨by show (_:Int)<=f;omega,by show f<=_;omega⟩,⟨by show (_:Int)<=t;omega,by show t<=_;omega⟩,pR,λi=>iZ qa.1 qb.1 i,λi=>iZ qa.2.1 qb.2.1 i,λi=>iZ qa.2.2 qb.2.2 i⟩
theorem Nc {c:List Int} {a b:Int} (h:AcA c a b):iM c 0 1 c.length=a/\iM c 1 1 c.length=b:=by
 rcases h with⟨e,rfl⟩|⟨e,rfl⟩
 constructor
 simp[iM]
 simp[iM,e]
 constructor
 simp[iM]
 simp[iM];omega
theorem mP {s:Sg} {a b:V3} {f t:Int} (h:yA s a b f t):Id s 0 1=⟨a.x,a.y,a.z,1⟩/\Id s 1 1=⟨b.x,b.y,b.z,1⟩:=by
 obtain⟨hx,hy,hz,e1,e2,e3⟩:=h.rows
 have ho:nE s 1=1:=by unfold nE;rw[e3];decide
 have hg:∀a,plG s a 1=1:=λa=>by
  unfold plG
  rw[ho,show (1:Int).natAbs=1 from rfl,Nat.gcd_one_left,show ((1:Nat):Int).natAbs=1 from rfl,Nat.gcd_one_left,show ((1:Nat):Int).natAbs=1 from rfl,Nat.gcd_one_left];rfl
 unfold Id plX plY plZ
 rw[hg,hg,ho,(Nc hx).1,(Nc hx).2,(Nc hy).1,(Nc hy).2,(Nc hz).1,(Nc hz).2]
 simp
def El:List Sg->V3->V3->Int->Int->Prop
 |[],a,b,f,t=>a=b/\f=t
 |s::r,a,b,f,t=>∃c u,yA s a c f u/\El r c b u t
theorem El.app:∀{l r:List Sg} {a b c:V3} {f t u:Int},El l a b f t->El r b c t u->El (l++r) a c f u
 |[],_,_,_,_,_,_,_,⟨rfl,rfl⟩,h2=>h2
 |_::_,_,_,_,_,_,_,_,⟨d,v,h,h1⟩,h2=>⟨d,v,h,El.app h1 h2⟩
theorem El.one {s:Sg} {a b:V3} {f t:Int} (h:yA s a b f t):El [s] a b f t:=⟨b,t,h,rfl,rfl⟩
theorem El.seg:∀{l:List Sg} {a b:V3} {f t:Int},El l a b f t->∀i,i<l.length->Nq (l.getD i Sg.none)/\Yf (l.getD i Sg.none)/\(l.getD i Sg.none).o=1/\(0<i->bH (l.getD (i-1) Sg.none) (l.getD i Sg.none))
 |[],_,_,_,_,_,i,hi=>by simp at hi
 |s::r,a,b,f,t,⟨c,u,h,hr⟩,0,_=>⟨h.ok.1,h.ok.2.1,h.ok.2.2,λh0=>absurd h0 (Nat.lt_irrefl 0)⟩
 |s::r,a,b,f,t,⟨c,u,h,hr⟩,i+1,hi=>by
  have h1:=El.seg hr i (by simpa using hi)
  refine⟨h1.1,h1.2.1,h1.2.2.1,λ_=>?_⟩
  cases i with
  |succ i=>exact h1.2.2.2 (Nat.succ_pos _)
  |zero=>
   match r,hr with
   |s2::r2,⟨c2,u2,h2,_⟩=>
    show bH s s2
    exact⟨by rw[h.rows.2.2.2.2.1,h2.rows.2.2.2.1],by rw[(mP h).2,(mP h2).1]⟩
theorem El.first {l:List Sg} {a b:V3} {f t:Int} (h:El l a b f t) (hl:0<l.length):(l.getD 0 Sg.none).f=f:=by
 match l,h,hl with
 |s::r,⟨c,u,h,_⟩,_=>exact h.rows.2.2.2.1
theorem El.last:∀{l:List Sg} {a b:V3} {f t:Int},El l a b f t->0<l.length->(l.getD (l.length-1) Sg.none).t=t
 |[s],_,_,_,_,⟨c,u,h,_,e⟩,_=>by rw[<-e];exact h.rows.2.2.2.2.1
 |s::s2::r,_,_,_,_,⟨c,u,h,hr⟩,_=>El.last (l:=s2::r) hr (Nat.succ_pos _)
theorem El.pos {l:List Sg} {a b:V3} {f t:Int} (h:El l a b f t) (ht:f<t):0<l.length:=by
 match l,h with
 |[],⟨_,e⟩=>omega
 |_::_,_=>exact Nat.succ_pos _
theorem mF {a b:V3} {f t k:Int} (hk:k=2\/(k=0/\a=b)) (pa:a.pt=true) (pb:b.pt=true) (h0:0<=f) (h1:f<t) (h2:t<=3600000):El (Io a b f t k) a b f t:=by
 have hf:Yq a b f t=true:=by
  unfold Yq Hh
  simp only[Bool.and_eq_true,decide_eq_true_eq]
  exact⟨⟨⟨⟨pa,pb⟩,h0⟩,h1⟩,h2⟩
 unfold Io
 rw[if_pos hf]
 exact El.one ⟨⟨k,rfl,hk⟩,pa,pb,h0,h1,h2⟩
theorem Xn {a:V3} {f t:Int} (pa:a.pt=true) (h0:0<=f) (h1:f<=t) (h2:t<=3600000):El (Io a a f t 0) a a f t:=by
 by_cases h:f<t
 exact mF (.inr ⟨rfl,rfl⟩) pa pa h0 h h2
 have e:f=t:=by omega
 have hf:¬Yq a a f t=true:=by
  unfold Yq Hh
  simp only[Bool.and_eq_true,decide_eq_true_eq]
  intro g;exact h g.1.2
 unfold Io
 rw[if_neg hf]
 exact⟨rfl,e⟩
theorem AcE {a b:V3} {r f t:Int} (pa:a.pt=true) (pb:b.pt=true) (ua:(a.up r).pt=true) (ub:(b.up r).pt=true) (h0:0<=f) (h1:f<t) (h2:t<=3600000) (h4:(t-f)%4=0):El (oK a b r f t) a b f t:=by
 have e:oK a b r f t=[Yw a (a.up r) f (f+(t-f)/4) 2,Yw (a.up r) (b.up r) (f+(t-f)/4) (t-(t-f)/4) 2,Yw (b.up r) b (t-(t-f)/4) t 2]:=rfl
 rw[e]
 exact⟨_,_,⟨⟨2,rfl,.inl rfl⟩,pa,ua,h0,ω,ω⟩,_,_,⟨⟨2,rfl,.inl rfl⟩,ua,ub,ω,ω,ω⟩,_,_,⟨⟨2,rfl,.inl rfl⟩,ub,pb,ω,ω,h2⟩,rfl,rfl⟩
theorem vA {a b:V3} {wait flight rise start len:Int} (h:tpE a b wait flight rise start len=0):El (tpL a b wait flight rise start len) a b start (start+len):=by
 unfold tpL
 rw[if_pos h]
 unfold tpE at h
 split at h
 rename_i hb
 split at h
 rename_i he
 unfold tpB mvB at hb
 simp only[Bool.and_eq_true,decide_eq_true_eq,Pt] at hb he
 obtain⟨⟨⟨⟨pa,l0⟩,l1⟩,s0⟩,⟨⟨⟨⟨pb,w0⟩,f0⟩,r0⟩,hle⟩,hc⟩:=hb
 unfold Un
 by_cases hf:flight=0
 rw[if_pos hf] at hc ⊢
 simp only[Bool.and_eq_true,beq_iff_eq] at hc
 have e:b=a:=by
  obtain⟨⟨e1,e2,e3⟩,_⟩:=hc
  cases a;cases b;simp_all
 rw[e]
 exact Xn pa ω ω ω
 rw[if_neg hf] at hc ⊢
 refine El.app (El.app (Xn pa ω ω ω) ?_) (Xn pb ω ω ω)
 by_cases hr:0<rise
 rw[if_pos hr] at hc ⊢
 simp only[Bool.and_eq_true,decide_eq_true_eq] at hc
 exact AcE pa pb hc.1.2 hc.2 ω ω ω ω
 rw[if_neg hr]
 exact mF (.inl rfl) pa pb ω ω ω
 cases h
 cases h
theorem nC {p:Pr} (ho:Agf p) {i:Nat} (hi:i<p.names.length):∀k,k<=p.acts.length->El (Hj p k i) ((Fk p 0).getD i V3.zero) ((Fk p k).getD i V3.zero) 0 (Fo p.acts k)
 |0,_=>⟨rfl,rfl⟩
 |k+1,hk=>by
  have h1:=nC ho hi k ω
  have h2:=vA (ho.pe k i ω hi)
  refine El.app h1 ?_
  have e:(Fk p (k+1)).getD i V3.zero=((p.acts.getD k Ac.none).moves.getD i Mv.none).to:=by
   unfold Fk
   rw[if_neg (Nat.succ_ne_zero k),Nat.add_sub_cancel]
   show ((p.acts.getD k Ac.none).moves.map (·.to)).getD i V3.zero=_
   generalize (p.acts.getD k Ac.none).moves=ms
   rw[Γ,List.getElem?_map,Γ]
   cases ms[i]?<;>rfl
  rw[e]
  exact h2
theorem gZ {p:Pr} {k:Nat} {t:Int} {m:List Int}:∀{i:Nat} {l:List Int},i<=m.length->Dy p k t m i=some l->∀j,l.getD j 0=m.getD j 0+if j<i then ((Gs p k t j).length:Int) else 0
 |0,l,_,h,j=>by cases h;rw[if_neg (Nat.not_lt_zero j),Int.add_zero]
 |i+1,l,hi,h,j=>by
  rw[Dy] at h
  cases h1:Dy p k t m i with
  |none=>rw[h1] at h;cases h
  |some l1=>
   rw[h1] at h
   simp only at h
   have ih:=gZ ω h1
   have hlen:l1.length=m.length:=by
    clear ih h
    have key:∀{i:Nat} {l1:List Int},Dy p k t m i=some l1->l1.length=m.length:=by
     intro i
     induction i with
     |zero=>intro l1 h;cases h;rfl
     |succ i ih=>
      intro l1 h
      rw[Dy] at h
      cases h2:Dy p k t m i with
      |none=>rw[h2] at h;cases h
      |some l2=>
       rw[h2] at h
       simp only at h
       split at h
       cases h;rw[List.length_set];exact ih h2
       cases h
    exact key h1
   split at h
   cases h
   by_cases e:i=j
   subst e
   rw[if_pos (Nat.lt_succ_self i)]
   have h2:=ih i
   rw[if_neg (Nat.lt_irrefl i),Int.add_zero] at h2
   rw[<-h2]
   simp[show i<l1.length by omega]
   have h2:=ih j
   have h4:(if j<i then ((Gs p k t j).length:Int) else 0)=if j<i+1 then ((Gs p k t j).length:Int) else 0:=by
    by_cases hj:j<i
    rw[if_pos hj,if_pos ω]
    rw[if_neg hj,if_neg ω]
   rw[<-h4,<-h2]
   simp[List.getElem?_set_ne e]
   cases h
theorem wA {p:Pr}:∀{k:Nat} {t:Int} {m:List Int},Kl p k=some (t,m)->∀i,i<p.names.length->m.getD i 0=((Hj p k i).length:Int)/\((Hj p k i).length:Int)<=256
 |0,t,m,h,i,hi=>by
  simp only[Kl,Option.some.injEq,Prod.mk.injEq] at h
  obtain⟨_,rfl⟩:=h
  simp[hi,Hj]
 |k+1,t,m,h,i,hi=>by
  have hfin:=Of h
  have hm:i<m.length:=by rw[hfin.2.2.1];exact hi
  have hb:m.getD i 0<=256:=by
   have:m.getD i 0=m[i]:=by simp[hm]
   rw[this];exact(hfin.2.2.2.1 _ (List.getElem_mem hm)).2
  rw[Kl] at h
  cases h1:Kl p k with
  |none=>rw[h1] at h;cases h
  |some tm=>
   obtain⟨t1,m1⟩:=tm
   rw[h1] at h
   simp only at h
   have ih:=wA h1 i hi
   have h1f:=Of h1
   have ht:=(jL h1).1
   split at h
   cases h2:Dy p k t1 m1 p.names.length with
   |none=>rw[h2] at h;cases h
   |some m2=>
    rw[h2] at h
    simp only[Option.some.injEq,Prod.mk.injEq] at h
    obtain⟨_,rfl⟩:=h
    have h3:=gZ (by rw[h1f.2.2.1];exact Nat.le_refl _) h2 i
    rw[if_pos hi,ih.1,ht] at h3
    have h4:m2.getD i 0=((Hj p (k+1) i).length:Int):=by rw[h3,Hj,List.length_append];omega
    exact⟨h4,ω⟩
   cases h
theorem Als {p:Pr} (h:Ef p=true) {i:Nat} (hi:i<p.names.length):(Hj p p.acts.length i).length<=256:=by
 unfold Ef at h
 simp only[Bool.and_eq_true] at h
 obtain⟨tm,ht⟩:=Option.isSome_iff_exists.1 h.2
 obtain⟨t,m⟩:=tm
 have:=(wA ht i hi).2
 omega
theorem AgP {p:Pr} (ho:Agf p):∀k,k<=p.acts.length->0<k->0<Fo p.acts k
 |0,_,h=>absurd h (Nat.lt_irrefl 0)
 |k+1,hk,_=>by
  have h1:=(ho.ends k ω).1
  have h2:=ho.len k ω
  rw[Fo];omega
structure Apz (p:Pr) (i:Nat) (l:List Sg):Prop where
 ok:Wy l
 pin:Pz l
 first:(l.getD 0 Sg.none).f=0
 last:(l.getD (l.length-1) Sg.none).t=Fo p.acts p.acts.length
 one:∀i,i<l.length->(l.getD i Sg.none).o=1
theorem Aao {p:Pr} (h:Ef p=true) (h0:0<p.acts.length) {i:Nat} (hi:i<p.names.length):Apz p i (Hj p p.acts.length i):=by
 have ho:=Vb h
 have hc:=nC ho hi p.acts.length ζ
 have hp:=hc.pos (AgP ho _ ζ h0)
 have hf:=Als h hi
 refine⟨⟨λj hj=>⟨(hc.seg j hj).1,(hc.seg j hj).2.2.2⟩,hp,hf⟩,⟨ω,λj=>?_⟩,hc.first hp,hc.last hp,λj hj=>(hc.seg j hj).2.2.1⟩
 by_cases hj:j<(Hj p p.acts.length i).length
 exact(hc.seg j hj).2.1
 have e:(Hj p p.acts.length i).getD j Sg.none=Sg.none:=by rw[Γ,List.getElem?_eq_none ω];rfl
 rw[e];exact Pz.nil.2 0
end Go.Proofs.YtkpjchfniejdoaaGreatDoor