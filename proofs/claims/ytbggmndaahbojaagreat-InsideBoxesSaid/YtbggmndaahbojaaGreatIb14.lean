/- Part 14 of the proof of IB.row_holds: no condition beyond the row's. -/
import Derived.Test.YtbggmndaahbojaaGreatIb13
import Derived.ProofKit
import Derived.SliceStrings
import Derived.Deep.Slices
import Derived.Deep.Strs
import Derived.Lib.SmallJoins
set_option maxRecDepth 100000
set_option maxHeartbeats 40000000
namespace Go.Proofs.YtbggmndaahbojaaGreat.Open
open Go.ChangeShapes Go.WideShapes Go.ChangeAt Go.RowKit Go.Deep
theorem Abb {w:World} {b o:Nat} {v:Value} (h:w.cell? ⟨b,o,none⟩=some v):b<w.heap.size:=by
 unfold World.cell? at h
 cases hh:w.heap[b]? with
 |none=>simp[hh] at h
 |some _=>exact(Ξ hh).1
theorem fS (size:Nat) (hs:0<size):∀(l:List (List Value)) (_:∀cs∈l,cs.length=size),l.flatten.length=l.length*size
 |[],_=>by simp
 |cs::l,h=>by
  have h1:=h cs (by simp)
  have h2:=fS size hs l (λc hc=>h c (by simp[hc]))
  rw[List.flatten_cons,List.length_append,h1,h2,List.length_cons]
  rw[Nat.add_mul];omega
theorem tP {W:World} {b off size:Nat} {Q:List Value->Prop} (hs:0<size):∀(len:Nat),(∀i,i<len->∃cs:List Value,cs.length=size/\Q cs/\∀j u,cs[j]?=some u->W.cell? ⟨b,off+(i*size+j),none⟩=some u)->
  ∃l:List (List Value),l.length=len/\(∀cs∈l,cs.length=size/\Q cs)/\∀j u,l.flatten[j]?=some u->W.cell? ⟨b,off+j,none⟩=some u
 |0,_=>⟨[],rfl,by simp,by simp⟩
 |len+1,h=>by
  obtain⟨l,h1,h2,h3⟩:=tP hs len λi hi=>h i ω
  obtain⟨cs,hl,hq,hc⟩:=h len ω
  refine⟨l++[cs],by simp[h1],λg hg=>?_,λj u hu=>?_⟩
  rcases List.mem_append.1 hg with hg|hg
  exact h2 g hg
  have:g=cs:=by simpa using hg
  rw[this];exact⟨hl,hq⟩
  have hf:=fS size hs l (λc hc=>(h2 c hc).1)
  rw[h1] at hf
  rw[List.flatten_append,List.flatten_singleton] at hu
  by_cases hj:j<len*size
  rw[List.getElem?_append_left ω] at hu
  exact h3 j u hu
  rw[List.getElem?_append_right ω,hf] at hu
  have:=hc (j-len*size) u hu
  rwa [show len*size+(j-len*size)=j by omega] at this
theorem xP {H:Type} {enc:TypeId×Value->H} {W:World} {a0:Option Addr} {len0 cap0 fuel:Nat} {y:DataW H×List MemPlace} {t e:TypeId} {size:Nat} (ht:Tryz.prog.underlying t=some (.slice e)) (hc:Tryz.prog.cellsOf e=size) (hs:0<size)
  (h:DataW.trod enc Tryz.prog W 0 (λ_=>true) true fuel t [.slice a0 len0 cap0]=some y):
  ∃l:List (List Value),l.length=len0/\(∀cs∈l,cs.length=size/\∃n y,DataW.trod enc Tryz.prog W 0 (λ_=>true) true n e cs=some y)/\Hc W 0 W.heap.size size (.slice a0 len0 cap0) len0 l.flatten/\len0<=maxLen:=by
 rcases open_slice ht h with⟨hcs,_⟩|⟨x,n,c,m,nn,D,Pl,hcs,_,hl,hm,hmm,_,hi⟩
 simp at hcs
 obtain⟨rfl,rfl,rfl⟩:=hcs
 exact⟨[],rfl,by simp,Hc.nil _ _,δ⟩
 simp at hcs
 obtain⟨rfl,rfl,rfl⟩:=hcs
 have hmm':m=cap0:=by simpa using hmm
 by_cases hn:len0=0
 subst hn;exact⟨[],rfl,by simp,⟨by simp,.inl ⟨_,_,rfl,rfl⟩⟩,δ⟩
 rw[hc] at hi
 obtain⟨b,off,spot⟩:=x
 have hspot:spot=none:=by
  obtain⟨cs',hcc,_⟩:=hi 0 ω
  obtain⟨_,hcl,hat⟩:=World.cells?_some hcc
  have:=hat 0 ω
  rw[List.getElem?_eq_getElem ω] at this
  simpa [Addr.add] using World.cell?_spot this
 subst hspot
 obtain⟨l,h1,h2,h3⟩:=tP (W:=W) (b:=b) (off:=off) (Q:=λcs=>∃n y,DataW.trod enc Tryz.prog W 0 (λ_=>true) true n e cs=some y) hs len0 λi hlt=>by
  obtain⟨cs',hcc,htr⟩:=hi i ω
  obtain⟨_,hcl,hat⟩:=World.cells?_some hcc
  refine⟨cs',hcl,⟨_,_,htr⟩,λj u hu=>?_⟩
  have hj:j<size:=by have:=(List.getElem?_eq_some_iff.1 hu).1;omega
  have:=hat j hj
  rw[Ff,Ff,Nat.add_assoc] at this
  rw[this]
  exact hu
 have hfl:=fS size hs l (λc hc=>(h2 c hc).1)
 refine⟨l,h1,h2,⟨by rw[hfl,h1],.inr ⟨b,off,_,rfl,⟨Nat.zero_le _,?_⟩,h3⟩⟩,ω⟩
 have h0:0<l.flatten.length:=by rw[hfl,h1];exact Nat.mul_pos ω hs
 have hc0:=h3 0 l.flatten[0] (by simp)
 exact Abb hc0
theorem Aej {k:Int} (h:(Lit.int .i64 k).wf=true): -9223372036854775808<=k/\k<=9223372036854775807:=by
 have e1:IntKind.i64.min= -9223372036854775808:=rfl
 have e2:IntKind.i64.max=9223372036854775807:=rfl
 simp only[Lit.wf,Bool.and_eq_true,decide_eq_true_eq] at h
 omega
section
variable {H:Type} {enc:TypeId×Value->H} {W:World} {n:Nat} {y:DataW H×List MemPlace} {cs:List Value}
theorem Jt {t ty:TypeId} {off:Nat} {fs:Array Field} (ht:Tryz.prog.underlying t=some (.struct fs)) (h:DataW.trod enc Tryz.prog W 0 (λ_=>true) true n t cs=some y) (i:Nat) (hf:(fs[i]?).map (λf=>(f.type,f.offset))=some (ty,off)):
  ∃m z,DataW.trod enc Tryz.prog W 0 (λ_=>true) true m ty ((cs.drop off).take (Tryz.prog.cellsOf ty))=some z:=by
 obtain⟨xs,m,_,_,_,hlen,hg⟩:=DataW.trod_struct ht h
 cases hi:fs[i]? with
 |none=>rw[hi] at hf;cases hf
 |some f=>
  rw[hi] at hf
  simp only[Option.map_some,Option.some.injEq,Prod.mk.injEq] at hf
  obtain⟨rfl,rfl⟩:=hf
  have hl:=(Ξ hi).1
  have:=hg i f hi
  rw[List.getElem?_eq_getElem ω] at this
  exact⟨m,_,this⟩
theorem AgI:Tryz.prog.cellsOf 3=1:=κ
theorem Ts (h:DataW.trod enc Tryz.prog W 0 (λ_=>true) true n 3 cs=some y):∃k:Int,cs=[.int .i64 k]/\-9223372036854775808<=k/\k<=9223372036854775807:=by
 obtain⟨k,e,_,w⟩:=DataW.trod_int Tryz.underlying3 h
 exact⟨k,e,Aej w⟩
theorem sQ {α:Type} {cells:α->List Value}:∀(l:List (List Value)) (_:∀cs∈l,∃a,cs=cells a),∃L:List α,L.length=l.length/\l.flatten=L.flatMap cells
 |[],_=>⟨[],rfl,rfl⟩
 |cs::l,h=>by
  obtain⟨a,ha⟩:=h cs (by simp)
  obtain⟨L,h1,h2⟩:=sQ l (λc hc=>h c (by simp[hc]))
  exact⟨a::L,by simp[h1],by simp[ha,h2]⟩
end
end Go.Proofs.YtbggmndaahbojaaGreat.Open