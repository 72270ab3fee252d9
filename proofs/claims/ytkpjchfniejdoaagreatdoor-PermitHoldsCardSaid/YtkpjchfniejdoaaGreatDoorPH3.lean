/- Part 3 of the proof of PH.card_holds: no condition beyond the row's. -/
import Derived.Test.YtkpjchfniejdoaaGreatDoorPH2
import Derived.Lib.SplitLaws
import Derived.Lib.AtoiAllCases
set_option maxRecDepth 100000
set_option maxHeartbeats 40000000
namespace Go.Proofs.YtkpjchfniejdoaaGreatDoor
def jn (c:UInt8):List (List UInt8)->List UInt8
 |[]=>[]
 |[x]=>x
 |x::y::l=>x++c::jn c (y::l)
theorem Ai1 {c b:UInt8} {l:List UInt8} (h:c≠b):([c]:List UInt8).isPrefixOf (b::l)=false:=by simp[List.isPrefixOf,h]
theorem tV (c:UInt8):∀{x:List UInt8},c ∉ x->Lib.index x [c]= -1
 |[],_=>rfl
 |b::l,h=>by
  rw[Lib.index,Ai1 λe=>h (by simp[e]),tV c (x:=l) λe=>h (by simp[e])]
  rfl
theorem tU (c:UInt8) (r:List UInt8):∀{x:List UInt8},c ∉ x->Lib.index (x++c::r) [c]=(x.length:Int)
 |[],_=>by rw[List.nil_append,Lib.index,show ([c]:List UInt8).isPrefixOf (c::r)=true by simp[List.isPrefixOf]];rfl
 |b::l,h=>by
  rw[List.cons_append,Lib.index,Ai1 λe=>h (by simp[e]),tU c r (x:=l) λe=>h (by simp[e])]
  have:((l.length:Int)== -1)=false:=by rw[beq_eq_false_iff_ne];omega
  rw[this]
  rfl
theorem nJ (c:UInt8):∀(k:Nat) (L:List (List UInt8)),L≠[]->(∀x∈L,c ∉ x)->L.length<=k+1->Lib.splitK [c] 0 k (jn c L)=L
 |_,[],h,_,_=>absurd rfl h
 |0,[_],_,_,_=>rfl
 |0,_::_::_,_,_,hk=>absurd hk (by simp)
 |k+1,[x],_,h,_=>by
  rw[jn,Lib.splitK,tV c (h x (by simp))]
  rfl
 |k+1,x::y::l,_,h,hk=>by
  have hx:=tU c (jn c (y::l)) (h x (by simp))
  rw[jn,Lib.splitK,hx,if_neg (by rw[beq_iff_eq];omega),Int.toNat_natCast,Nat.add_zero,List.take_left' rfl]
  congr 1
  rw[show ([c]:List UInt8).length=1 from rfl,List.drop_append,List.drop_eq_nil_of_le (Nat.le_succ _),show x.length+1-x.length=1 by omega]
  exact nJ c k (y::l) (by simp) (λz hz=>h z (by simp[hz])) (by simpa using hk)
theorem sY (c:UInt8):∀(L:List (List UInt8)),L.length<=(jn c L).count c+1
 |[]=>by simp
 |[x]=>by simp
 |x::y::l=>by
  have:=sY c (y::l)
  rw[jn,List.count_append,List.count_cons_self]
  simp only[List.length_cons] at this ⊢
  omega
theorem vP (c:UInt8) (L:List (List UInt8)) (hne:L≠[]) (h:∀x∈L,c ∉ x):Lib.splitB ⟨#[c]⟩ 0 (Lib.countB ⟨(jn c L).toArray⟩ ⟨#[c]⟩) ⟨(jn c L).toArray⟩=L.map λx=>⟨x.toArray⟩:=by
 have e:=Lib.splitB_data ⟨#[c]⟩ 0 (Lib.countB ⟨(jn c L).toArray⟩ ⟨#[c]⟩) ⟨(jn c L).toArray⟩
 have hc:L.length<=Lib.countB ⟨(jn c L).toArray⟩ ⟨#[c]⟩+1:=by
  show L.length<=Lib.count (jn c L).toArray.toList [c]+1
  rw[Lib.count_one]
  exact sY c L
 have e2:Lib.splitK [c] 0 (Lib.countB ⟨(jn c L).toArray⟩ ⟨#[c]⟩) (jn c L)=L:=nJ c _ L hne h hc
 rw[show (⟨#[c]⟩:ByteArray).data.toList=[c] from rfl,show (⟨(jn c L).toArray⟩:ByteArray).data.toList=jn c L from rfl,e2] at e
 have e3:=congrArg (List.map λx:List UInt8=>(⟨x.toArray⟩:ByteArray)) e
 rw[List.map_map] at e3
 rw[<-e3]
 exact((List.map_congr_left λx _=>rfl).trans (List.map_id _)).symm
theorem dQ {d:Nat} (h:d<10):(UInt8.ofNat (48+d)).toNat=48+d:=by
 rw[UInt8.toNat_ofNat']
 omega
theorem qM:∀(l:List UInt8) (acc m d:Nat),Lib.parseUint10 acc l= .ok m->d<10->m*10+d<9223372036854775808->Lib.parseUint10 acc (l++[UInt8.ofNat (48+d)])= .ok (m*10+d)
 |[],acc,m,d,h,hd,hm=>by
  have h:acc=m:=by
   simp only[Lib.parseUint10] at h
   exact Lib.NumEnd.ok.inj h
  subst h
  rw[List.nil_append,Lib.parseUint10,dQ hd,if_pos ω,if_neg ω,if_neg ω,Lib.parseUint10]
  congr 1
  omega
 |c::r,acc,m,d,h,hd,hm=>by
  rw[List.cons_append,Lib.parseUint10]
  rw[Lib.parseUint10] at h
  split at h
  rename_i h1
  rw[if_pos h1]
  split at h
  cases h
  rename_i h2
  rw[if_neg h2]
  split at h
  cases h
  rename_i h3
  rw[if_neg h3]
  exact qM r _ m d h hd hm
  cases h
theorem Aoy (u:Nat):u<9223372036854775808->Lib.parseUint10 0 (Lib.decDigits u)= .ok u:=by
 induction u using Nat.strongRecOn with
 |ind u ih=>
  intro hu
  rw[Lib.decDigits]
  split
  rename_i h
  have:=qM [] 0 0 u rfl h ω
  rwa [Nat.zero_mul,Nat.zero_add,List.nil_append] at this
  rename_i h
  have:=qM (Lib.decDigits (u/10)) 0 (u/10) (u%10) (ih (u/10) ω ω) ω ω
  rwa [show u/10*10+u%10=u by omega] at this
theorem oU (u:Nat):∀x∈Lib.decDigits u,48<=x.toNat/\x.toNat<=57:=by
 induction u using Nat.strongRecOn with
 |ind u ih=>
  intro x hx
  rw[Lib.decDigits] at hx
  split at hx
  rename_i h
  rw[List.mem_singleton.1 hx,dQ h]
  omega
  rename_i h
  rcases List.mem_append.1 hx with hx|hx
  exact ih (u/10) ω x hx
  rw[List.mem_singleton.1 hx,dQ ω]
  omega
theorem AgH (u:Nat):Lib.decDigits u≠[]:=by
 rw[Lib.decDigits]
 split<;>simp
theorem Ai0 {u:Nat} (h:u<9223372036854775808):Lib.parseMag (Lib.decDigits u)= .ok u:=by
 rw[Lib.parseMag,if_neg (AgH u),Aoy u h]
theorem AcF {n:Int} (h0: -9223372036854775808<n) (h1:n<9223372036854775808):Lib.atoiAll (Lib.itoa n)= .ok n:=by
 rw[Lib.itoa]
 split
 rename_i h
 rw[Lib.atoiAll_minus,Ai0 ω,Lib.signed,if_neg ω]
 congr 1
 omega
 rename_i h
 have hm:=Ai0 (u:=n.toNat) ω
 have hd:=oU n.toNat
 cases hl:Lib.decDigits n.toNat with
 |nil=>exact absurd hl (AgH _)
 |cons c r=>
  rw[hl] at hm hd
  have:=hd c (by simp)
  rw[Lib.atoiAll_plain c r ω ω,hm,Lib.signless,if_neg ω]
  congr 1
  omega
def Wd (x:List UInt8):Prop:=∀b∈x,32<b.toNat
theorem Wd.no {x:List UInt8} (h:Wd x) {c:UInt8} (hc:c.toNat<=32):c ∉ x:=λhm=>by have:=h c hm;omega
theorem Pw (n:Int):Wd (Lib.itoa n):=by
 intro b hb
 rw[Lib.itoa] at hb
 split at hb
 rcases List.mem_cons.1 hb with rfl|hb
 decide
 have:=oU _ b hb;omega
 have:=oU _ b hb;omega
theorem Zx:∀(m n:Nat),Wd (Cd n m)
 |0,_,b,hb=>by cases hb
 |m+1,n,b,hb=>by
  rcases List.mem_append.1 hb with hb|hb
  exact Zx m (n/10) b hb
  rw[List.mem_singleton.1 hb,dQ ω]
  omega
theorem Wd.app {x y:List UInt8} (h1:Wd x) (h2:Wd y):Wd (x++y):=λb hb=>(List.mem_append.1 hb).elim (h1 b) (h2 b)
theorem Ly (t:Nat):Wd (Em t):=by
 have one:∀c:UInt8,32<c.toNat->Wd [c]:=λc hc b hb=>by rw[List.mem_singleton.1 hb];exact hc
 exact((((((Zx _ _).app (one _ δ)).app (Zx _ _)).app (one _ δ)).app (Zx _ _)).app (one _ δ)).app (Zx _ _)
end Go.Proofs.YtkpjchfniejdoaaGreatDoor