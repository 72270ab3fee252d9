/- Part 1 of the proof of IB.row_holds: no condition beyond the row's. -/
set_option maxRecDepth 100000
set_option maxHeartbeats 40000000
namespace Go.Proofs.YtbggmndaahbojaaGreat
theorem Ω {n:Nat}:0<=n:=Nat.zero_le n
theorem ζ {n:Nat}:n<=n:=Nat.le_refl n
theorem ω {p:Prop} (h:p:=by omega):p:=h
theorem δ {p:Prop} (h:p:=by decide):p:=h
def Bw:Nat:=18446744073709551616
theorem Ec:0<Bw:=by decide
theorem Xr:2<=Bw:=by decide
def val:List Nat->Nat
 |[]=>0
 |x::l=>x+Bw*val l
def Ae (n:Nat):List Nat:=if _h:n=0 then [] else n%Bw::Ae (n/Bw)
termination_by n
decreasing_by exact Nat.div_lt_self (Nat.pos_of_ne_zero _h) δ
def Hp (l:List Nat):Prop:=∀x∈l,x<Bw
theorem Cf:Ae 0=[]:=by unfold Ae;rfl
theorem Mk {n:Nat} (h:n≠0):Ae n=n%Bw::Ae (n/Bw):=by rw[Ae];simp[h]
theorem Ky {n:Nat}:Ae n=[]↔n=0:=by
 constructor
 intro h
 by_cases h0:n=0
 exact h0
 rw[Mk h0] at h;cases h
 rintro rfl;exact Cf
theorem Bt (n:Nat):val (Ae n)=n:=by
 induction n using Nat.strongRecOn with
 |_ n ih=>
  by_cases h:n=0
  subst h;rw[Cf];rfl
  rw[Mk h]
  show n%Bw+Bw*val (Ae (n/Bw))=n
  rw[ih _ (Nat.div_lt_self (Nat.pos_of_ne_zero h) δ)]
  exact Nat.mod_add_div n Bw
theorem Cb (n:Nat):Hp (Ae n):=by
 induction n using Nat.strongRecOn with
 |_ n ih=>
  by_cases h:n=0
  subst h;rw[Cf];intro x hx;cases hx
  rw[Mk h]
  intro x hx
  rcases List.mem_cons.1 hx with rfl|hx
  exact Nat.mod_lt _ Ec
  exact ih _ (Nat.div_lt_self (Nat.pos_of_ne_zero h) δ) x hx
theorem sO {n m:Nat} (h:Ae n=Ae m):n=m:=by rw[<-Bt n,h,Bt]
theorem Pb (a b:List Nat):val (a++b)=val a+Bw^a.length*val b:=by
 induction a with
 |nil=>simp[val]
 |cons x a ih=>simp only[List.cons_append,val,ih,List.length_cons,Nat.pow_succ];grind
theorem Aeb (a:List Nat) (x:Nat):val (a++[x])=val a+Bw^a.length*x:=by rw[Pb];simp[val]
theorem aQ {l:List Nat} (h:Hp l):val l<Bw^l.length:=by
 induction l with
 |nil=>simp[val]
 |cons x l ih=>
  have h1:=h x (by simp)
  have h2:=ih (λy hy=>h y (by simp[hy]))
  simp only[val,List.length_cons,Nat.pow_succ]
  have:Bw*(val l+1)<=Bw*Bw^l.length:=Nat.mul_le_mul_left _ h2
  rw[Nat.mul_comm (Bw^l.length)]
  rw[Nat.mul_add] at this
  omega
def Aht (l:List Nat):Prop:=∀(h:l≠[]),l.getLast h≠0
theorem Af7 {l:List Nat} (h:Hp l) (hn:Aht l):Ae (val l)=l:=by
 induction l with
 |nil=>exact Cf
 |cons x l ih=>
  have h1:=h x (by simp)
  have h2:Hp l:=λy hy=>h y (by simp[hy])
  have h3:Aht l:=λhl=>by have:=hn (by simp);rwa [List.getLast_cons hl] at this
  have ih:=ih h2 h3
  have h0:val (x::l)≠0:=by
   intro e
   simp only[val] at e
   have hv:val l=0:=by
    rcases Nat.eq_zero_or_pos (val l) with h|h
    exact h
    have:=Nat.mul_pos Ec h;omega
   rw[hv,Cf] at ih
   subst ih
   have:=hn (by simp)
   simp at this
   omega
  rw[Mk h0]
  have e1:val (x::l)%Bw=x:=by simp only[val];rw[Nat.add_mul_mod_self_left];exact Nat.mod_eq_of_lt h1
  have e2:val (x::l)/Bw=val l:=by simp only[val];rw[Nat.add_mul_div_left _ _ Ec,Nat.div_eq_of_lt h1];omega
  rw[e1,e2,ih]
theorem kV (n:Nat):Aht (Ae n):=by
 induction n using Nat.strongRecOn with
 |_ n ih=>
  intro hne
  by_cases h:n=0
  subst h;exact absurd Cf hne
  have h2:=ih _ (Nat.div_lt_self (Nat.pos_of_ne_zero h) (show 1<Bw by decide))
  have e:=Mk h
  by_cases hl:Ae (n/Bw)=[]
  have h4:=Ky.1 hl
  have h5:=Nat.mod_add_div n Bw
  rw[h4,Nat.mul_zero] at h5
  simp only[e,hl,List.getLast_singleton]
  omega
  have h3:=h2 hl
  simp only[e]
  rw[List.getLast_cons hl];exact h3
theorem wD {l:List Nat} (h:Hp l):∃k,l=Ae (val l)++List.replicate k 0:=by
 induction l with
 |nil=>exact⟨0,by simp[val,Cf]⟩
 |cons x l ih=>
  obtain⟨k,hk⟩:=ih (λy hy=>h y (by simp[hy]))
  have h1:=h x (by simp)
  by_cases h0:val (x::l)=0
  have hx:x=0:=by simp only[val] at h0;omega
  have hv:val l=0:=by
   simp only[val] at h0
   rcases Nat.eq_zero_or_pos (val l) with h|h
   exact h
   have:=Nat.mul_pos Ec h;omega
  rw[hv,Cf] at hk
  exact⟨k+1,by rw[h0,Cf,hx];simp only[List.nil_append] at hk ⊢;rw[hk];rfl⟩
  have e1:val (x::l)%Bw=x:=by simp only[val];rw[Nat.add_mul_mod_self_left];exact Nat.mod_eq_of_lt h1
  have e2:val (x::l)/Bw=val l:=by simp only[val];rw[Nat.add_mul_div_left _ _ Ec,Nat.div_eq_of_lt h1];omega
  exact⟨k,by rw[Mk h0,e1,e2,List.cons_append,<-hk]⟩
theorem Pd {l:List Nat}:val l=0↔∀x∈l,x=0:=by
 induction l with
 |nil=>simp[val]
 |cons x l ih=>
  simp only[val,List.mem_cons,forall_eq_or_imp,<-ih]
  constructor
  intro h
  refine⟨ω,?_⟩
  rcases Nat.eq_zero_or_pos (val l) with h|h
  exact h
  have:=Nat.mul_pos Ec h;omega
  rintro⟨rfl,h⟩;rw[h];rfl
theorem Co {n k:Nat} (h:n<Bw^k):(Ae n).length<=k:=by
 induction k generalizing n with
 |zero=>simp at h;subst h;rw[Cf];simp
 |succ k ih=>
  by_cases h0:n=0
  subst h0;rw[Cf];simp
  rw[Mk h0]
  have:n/Bw<Bw^k:=by rw[Nat.div_lt_iff_lt_mul Ec,<-Nat.pow_succ];exact h
  simp only[List.length_cons]
  have:=ih this
  omega
theorem pB {n k:Nat} (h:Bw^k<=n):k<(Ae n).length:=by
 rcases Nat.lt_or_ge k (Ae n).length with h1|h1
 exact h1
 have h2:=aQ (Cb n)
 rw[Bt] at h2
 have:=Nat.pow_le_pow_right Ec h1
 omega
theorem Qc {n:Nat}:n<Bw^(Ae n).length:=by have h2:=aQ (Cb n);rwa [Bt] at h2
theorem AhX {n:Nat} (h:n≠0):Bw^((Ae n).length-1)<=n:=by
 rcases Nat.lt_or_ge n (Bw^((Ae n).length-1)) with h1|h1
 have:=Co h1
 have h2:Ae n≠[]:=λe=>h (Ky.1 e)
 have:=List.length_pos_iff.2 h2
 omega
 exact h1
theorem Fg {n m:Nat} (h:n<=m):(Ae n).length<=(Ae m).length:=Co (Nat.lt_of_le_of_lt h Qc)
theorem bW (l:List Nat) (i:Nat) (h:i<l.length):val (l.take (i+1))=val (l.take i)+Bw^i*l[i]:=by
 rw[List.take_succ_eq_append_getElem h,Aeb,List.length_take_of_le ω]
def dg (l:List Nat) (i:Nat):Nat:=l.getD i 0
theorem Tf {l:List Nat} {i:Nat} (h:i<l.length):dg l i=l[i]:=by simp[dg,h]
theorem Mi {l:List Nat} {i:Nat} (h:l.length<=i):dg l i=0:=by simp[dg,h]
theorem Hj {l:List Nat} (h:Hp l) (i:Nat):dg l i<Bw:=by
 rcases Nat.lt_or_ge i l.length with h1|h1
 rw[Tf h1];exact h _ (List.getElem_mem h1)
 rw[Mi h1];decide
def lo (l:List Nat) (i:Nat):Nat:=val (l.take i)
theorem Ml (l:List Nat):lo l 0=0:=rfl
theorem Ea (l:List Nat) (i:Nat):lo l (i+1)=lo l i+Bw^i*dg l i:=by
 unfold lo
 rcases Nat.lt_or_ge i l.length with h1|h1
 rw[bW l i h1,Tf h1]
 rw[Mi h1,List.take_of_length_le h1,List.take_of_length_le ω];omega
theorem Il {l:List Nat} {i:Nat} (h:l.length<=i):lo l i=val l:=by unfold lo;rw[List.take_of_length_le h]
theorem sR {l:List Nat} (h:Hp l) (i:Nat):lo l i<Bw^i:=by
 unfold lo
 have:=aQ (l:=l.take i) (λx hx=>h x (List.mem_of_mem_take hx))
 exact Nat.lt_of_lt_of_le this (Nat.pow_le_pow_right Ec (by simp;omega))
theorem Sd {l:List Nat} {i j:Nat} {x:Nat} (h:i<=j):lo (l.set j x) i=lo l i:=by
 unfold lo;rw[List.take_set_of_le h]
theorem Mz {l:List Nat} {j:Nat} {x:Nat} (h:j<l.length):dg (l.set j x) j=x:=by simp[dg,h]
theorem Hq {l:List Nat} {i j:Nat} {x:Nat} (h:i≠j):dg (l.set j x) i=dg l i:=by simp[dg,List.getElem?_set_ne (Ne.symm h)]
theorem Hp.set {l:List Nat} (h:Hp l) {j x:Nat} (hx:x<Bw):Hp (l.set j x):=λy hy=>by
 rcases List.mem_or_eq_of_mem_set hy with h'|rfl
 exact h y h'
 exact hx
theorem Hp.zeros (n:Nat):Hp (List.replicate n 0):=λx hx=>by rw[List.eq_of_mem_replicate hx];decide
theorem AaM {a b o p x y c s c':Nat} (h:a+b=o+p*c) (hs:x+y+c=s+Bw*c'):(a+p*x)+(b+p*y)=(o+p*s)+(p*Bw)*c':=by grind
theorem AdO {a b o p x y c s c':Nat} (h:a+p*c=b+o) (hs:x+Bw*c'=y+c+s):(a+p*x)+(p*Bw)*c'=(b+p*y)+(o+p*s):=by grind
theorem Adv {u d q:Nat} (h1:q*d<=u) (h2:u<(q+1)*d):u/d=q:=by
 have hd:0<d:=by
  rcases Nat.eq_zero_or_pos d with h|h;· subst h;simp at h2
  exact h
 apply Nat.le_antisymm
 exact Nat.le_of_lt_succ (Nat.div_lt_of_lt_mul (by rw[Nat.mul_comm];exact h2))
 exact(Nat.le_div_iff_mul_le hd).2 h1
structure cS (b d1 d0 u1 x q r:Nat):Prop where
 sum:r+q*d1=u1
 ge:(u1*b+x)/(d1*b+d0)<=q
theorem kN {b d1 d0 u1 x:Nat} (h1:0<d1) (hx:x<b):cS b d1 d0 u1 x (u1/d1) (u1%d1):=by
 refine⟨by rw[Nat.mul_comm];exact Nat.mod_add_div u1 d1,?_⟩
 rw[Nat.le_div_iff_mul_le h1]
 have h:=Nat.div_mul_le_self (u1*b+x) (d1*b+d0)
 generalize (u1*b+x)/(d1*b+d0)=Q at*
 have hb:0<b:=by omega
 have h2:Q*d1*b<(u1+1)*b:=by
  have:Q*(d1*b+d0)=Q*d1*b+Q*d0:=by grind
  have:(u1+1)*b=u1*b+b:=by grind
  omega
 have:=Nat.lt_of_mul_lt_mul_right h2
 omega
theorem oU {b d1 d0 u1 x q r:Nat} (h:cS b d1 d0 u1 x q r) (hd:0<d1*b+d0) (hu:u1<d1*b+d0) (hx:x<b) (hc:b<=q\/b*r+x<q*d0):0<q/\cS b d1 d0 u1 x (q-1) (r+d1):=by
 have hlt:(u1*b+x)/(d1*b+d0)<q:=by
  rcases hc with hc|hc
  have:(u1*b+x)/(d1*b+d0)<b:=by
   apply Nat.div_lt_of_lt_mul
   have:(u1+1)*b<=(d1*b+d0)*b:=Nat.mul_le_mul_right _ hu
   have:(u1+1)*b=u1*b+b:=by grind
   omega
  omega
  rw[Nat.div_lt_iff_lt_mul hd]
  have:=h.sum
  have:u1*b=b*r+q*d1*b:=by subst this;grind
  have:q*(d1*b+d0)=q*d1*b+q*d0:=by grind
  omega
 have hq:0<q:=Nat.lt_of_le_of_lt Ω hlt
 refine⟨hq,?_,Nat.le_pred_of_lt hlt⟩
 have:=h.sum
 obtain⟨q,rfl⟩:∃q',q=q'+1:=⟨q-1,ω⟩
 simp only[Nat.add_sub_cancel]
 grind
theorem dM {b d1 d0 u1 x q r:Nat} (h:cS b d1 d0 u1 x q r) (hd:0<d1*b+d0) (hc:q*d0<=b*r+x):(u1*b+x)/(d1*b+d0)=q:=by
 apply Nat.le_antisymm h.ge
 rw[Nat.le_div_iff_mul_le hd]
 have:=h.sum
 have:u1*b=b*r+q*d1*b:=by subst this;grind
 have:q*(d1*b+d0)=q*d1*b+q*d0:=by grind
 omega
theorem kM {b d0 q r x:Nat} (hq:q<=b) (h0:d0<b) (hr:b<=r):q*d0<=b*r+x:=by
 have h1:q*d0<=b*d0:=Nat.mul_le_mul_right _ hq
 have h2:b*d0<=b*r:=Nat.mul_le_mul_left _ ω
 omega
theorem Acl {b d1 d0 u1:Nat} (hn:b<=2*d1) (h0:d0<b) (hu:u1<d1*b+d0):u1/d1<=b+1:=by
 apply Nat.le_of_lt_succ
 apply Nat.div_lt_of_lt_mul
 have:d1*(b+1).succ=d1*b+2*d1:=by grind
 omega
theorem Afg {b Y u1 x0 x1 q1 q0:Nat} (hY:0<Y) (h1:(u1*b+x1)/Y=q1) (h0:((u1*b+x1-q1*Y)*b+x0)/Y=q0) (_hx:x0<b):
  (u1*b*b+x1*b+x0)/Y=q1*b+q0/\(u1*b*b+x1*b+x0)%Y=(u1*b+x1-q1*Y)*b+x0-q0*Y:=by
 have e1:q1*Y<=u1*b+x1:=by rw[<-h1];exact Nat.div_mul_le_self _ _
 generalize hr:u1*b+x1-q1*Y=r at*
 have e2:u1*b+x1=q1*Y+r:=by omega
 have e3:u1*b*b+x1*b+x0=(r*b+x0)+Y*(q1*b):=by
  have:u1*b*b+x1*b=(u1*b+x1)*b:=by grind
  rw[this,e2];grind
 rw[e3,Nat.add_mul_div_left _ _ hY,Nat.add_mul_mod_self_left,h0]
 refine⟨ω,?_⟩
 have:=Nat.mod_add_div (r*b+x0) Y
 rw[h0,Nat.mul_comm Y q0] at this
 omega
theorem dC {u y s:Nat} (hs:0<s):(u*s)/(y*s)=u/y/\(u*s)%(y*s)/s=u%y:=by
 refine⟨Nat.mul_div_mul_right _ _ hs,?_⟩
 rw[Nat.mul_mod_mul_right,Nat.mul_div_cancel _ hs]
theorem AjA {p d1 dl top wl:Nat} (h1:0<d1) (hw:wl<p):(top*p+wl)/(d1*p+dl)<=top/d1:=by
 rw[Nat.le_div_iff_mul_le h1]
 have h:=Nat.div_mul_le_self (top*p+wl) (d1*p+dl)
 generalize (top*p+wl)/(d1*p+dl)=Q at*
 have h2:Q*d1*p<(top+1)*p:=by
  have:Q*(d1*p+dl)=Q*d1*p+Q*dl:=by grind
  have:(top+1)*p=top*p+p:=by grind
  omega
 have:=Nat.lt_of_mul_lt_mul_right h2
 omega
theorem AcA {L L0 p q r x y v o c s c':Nat} (hp:p=q*r) (h:L+p*c=L0+q*(x*v)) (hs:x*y+o+c=s+Bw*c'):(L+p*s)+(p*Bw)*c'=(L0+p*o)+q*(x*(v+r*y)):=by grind
theorem AfD {x y o c:Nat} (hx:x<Bw) (hy:y<Bw) (ho:o<Bw) (hc:c<Bw):(x*y+o+c)/Bw<Bw:=by
 apply Nat.div_lt_of_lt_mul
 have h1:x*y<=(Bw-1)*(Bw-1):=Nat.mul_le_mul ω ω
 have h2:(Bw-1)*(Bw-1)=340282366920938463426481119284349108225:=by decide
 have h3:Bw*Bw=340282366920938463463374607431768211456:=by decide
 have h4:Bw=18446744073709551616:=rfl
 omega
theorem aF {α:Type} {p:List α->Prop} (l:List α) (nil:p []) (snoc:∀l x,p l->p (l++[x])):p l:=by
 have h:∀n (l:List α),l.length=n->p l:=by
  intro n
  induction n with
  |zero=>intro l h;rw[List.eq_nil_of_length_eq_zero h];exact nil
  |succ n ih=>
   intro l h
   have hne:l≠[]:=λe=>by rw[e] at h;cases h
   rw[<-List.dropLast_concat_getLast hne]
   exact snoc _ _ (ih _ (by simp[h]))
 exact h _ l rfl
def mT:List UInt8->Nat:=List.foldl (λa x=>a*256+x.toNat) 0
theorem Nn (l:List UInt8) (x:UInt8):mT (l++[x])=mT l*256+x.toNat:=by unfold mT;rw[List.foldl_append];rfl
theorem Ahy (l:List UInt8):mT l<256^l.length:=by
 induction l using aF with
 |nil=>simp[mT]
 |snoc l x ih=>
  rw[Nn,List.length_append,List.length_singleton,Nat.pow_succ]
  have:=x.toNat_lt
  omega
theorem AaQ (x:UInt8) (l:List UInt8):mT (x::l)=x.toNat*256^l.length+mT l:=by
 induction l using aF with
 |nil=>simp[mT]
 |snoc l y ih=>
  rw[<-List.cons_append,Nn,Nn,ih,List.length_append,List.length_singleton,Nat.pow_succ];grind
def be (n:Nat):List UInt8:=if _h:n=0 then [] else be (n/256)++[UInt8.ofNat (n%256)]
termination_by n
decreasing_by exact Nat.div_lt_self (Nat.pos_of_ne_zero _h) δ
theorem Ih:be 0=[]:=by unfold be;rfl
theorem Yb {n:Nat} (h:n≠0):be n=be (n/256)++[UInt8.ofNat (n%256)]:=by rw[be];simp[h]
theorem oC (n:Nat):mT (be n)=n:=by
 induction n using Nat.strongRecOn with
 |_ n ih=>
  by_cases h:n=0
  subst h;rw[Ih];rfl
  rw[Yb h,Nn,ih _ (Nat.div_lt_self (Nat.pos_of_ne_zero h) δ)]
  have:(UInt8.ofNat (n%256)).toNat=n%256:=by simp
  rw[this];omega
theorem AaS {n m:Nat} (h:be n=be m):n=m:=by rw[<-oC n,h,oC]
theorem AaT {n:Nat}:be n=[]↔n=0:=⟨λh=>AaS (h.trans Ih.symm),λh=>by rw[h,Ih]⟩
theorem Ahz {l:List UInt8} (h:l.head?≠some 0):be (mT l)=l:=by
 induction l using aF with
 |nil=>exact Ih
 |snoc l x ih=>
  have hx:=x.toNat_lt
  have hne:mT (l++[x])≠0:=by
   rw[Nn]
   cases l with
   |nil=>
    simp at h
    intro e
    apply h
    have:x.toNat=0:=by omega
    exact UInt8.toNat_inj.1 this
   |cons y l=>
    have h':y≠0:=by simpa using h
    have hy:y.toNat≠0:=λe=>h' (UInt8.toNat_inj.1 e)
    rw[AaQ]
    have:=Nat.mul_pos (Nat.pos_of_ne_zero hy) (Nat.pow_pos (n:=l.length) (show 0<256 by decide))
    omega
  have h2:l.head?≠some 0\/l=[]:=by
   cases l with
   |nil=>exact .inr rfl
   |cons y l=>exact .inl (by simpa using h)
  have hl:be (mT l)=l:=by
   rcases h2 with h2|rfl
   exact ih h2
   exact Ih
  rw[Yb hne,Nn]
  have e1:(mT l*256+x.toNat)/256=mT l:=by omega
  have e2:(mT l*256+x.toNat)%256=x.toNat:=by omega
  rw[e1,e2,hl]
  simp
theorem AeV (n:Nat):(be n).head?≠some 0:=by
 induction n using Nat.strongRecOn with
 |_ n ih=>
  by_cases h:n=0
  subst h;rw[Ih];simp
  have:=ih _ (Nat.div_lt_self (Nat.pos_of_ne_zero h) (show 1<256 by decide))
  rw[Yb h]
  cases hb:be (n/256) with
  |nil=>
   have h0:=AaT.1 hb
   simp only[List.nil_append,List.head?_cons,ne_eq,Option.some.injEq]
   intro e
   have e2:=congrArg UInt8.toNat e
   simp at e2
   omega
  |cons y l=>rw[hb] at this;simpa using this
def bitLen (n:Nat):Nat:=if n=0 then 0 else n.log2+1
theorem jT:bitLen 0=0:=rfl
theorem Em {n k:Nat}:bitLen n<=k↔n<2^k:=by
 unfold bitLen
 split
 rename_i h;subst h;simp[Nat.two_pow_pos]
 rename_i h;rw[Nat.succ_le_iff,Nat.log2_lt h]
theorem Gf {n:Nat} (h:n≠0):bitLen n=n.log2+1:=by unfold bitLen;rw[if_neg h]
theorem Lh (n:Nat):n<2^bitLen n:=Em.1 ζ
theorem No {n:Nat} (h:n≠0):2^(bitLen n-1)<=n:=by rw[Gf h];exact Nat.log2_self_le h
theorem Un {n k:Nat} (h1:2^k<=n) (h2:n<2^(k+1)):bitLen n=k+1:=by
 apply Nat.le_antisymm (Em.2 h2)
 apply Nat.lt_of_not_le
 intro h
 have:=Em.1 h
 omega
theorem Qw (n:Nat):(be n).length=(bitLen n+7)/8:=by
 induction n using Nat.strongRecOn with
 |_ n ih=>
  by_cases h:n=0
  subst h;rw[Ih];rfl
  rw[Yb h,List.length_append,ih _ (Nat.div_lt_self (Nat.pos_of_ne_zero h) δ),List.length_singleton]
  by_cases h8:n<256
  have e:n/256=0:=by omega
  rw[e,jT]
  have h1:bitLen n<=8:=Em.2 ω
  have h2:1<=bitLen n:=by rw[Gf h];omega
  omega
  have h0:n/256≠0:=by omega
  have e:bitLen n=bitLen (n/256)+8:=by
   have h1:=No h0
   have h2:=Lh (n/256)
   have h3:1<=bitLen (n/256):=by rw[Gf h0];omega
   obtain⟨k,hk⟩:∃k,bitLen (n/256)=k+1:=⟨bitLen (n/256)-1,ω⟩
   rw[hk] at h1 h2 ⊢
   simp only[Nat.add_sub_cancel] at h1
   have e8:(2:Nat)^(k+8)=2^k*256:=by rw[Nat.pow_add]
   have e9:(2:Nat)^(k+8+1)=2^(k+1)*256:=by rw[show k+8+1=(k+1)+8 by omega,Nat.pow_add]
   exact Un (k:=k+8) (by rw[e8];omega) (by rw[e9];omega)
  rw[e];omega
theorem Ab2 {l:List Nat} (h:Hp l) (i:Nat):dg l i=val l/Bw^i%Bw:=by
 induction l generalizing i with
 |nil=>simp[dg,val]
 |cons x l ih=>
  have h1:=h x (by simp)
  have h2:Hp l:=λy hy=>h y (by simp[hy])
  cases i with
  |zero=>simp only[Nat.pow_zero,Nat.div_one,val,Nat.add_mul_mod_self_left];rw[Nat.mod_eq_of_lt h1];rfl
  |succ i=>
   have:dg (x::l) (i+1)=dg l i:=by simp[dg]
   rw[this,ih h2]
   have e:val (x::l)/Bw^(i+1)=val l/Bw^i:=by
    rw[Nat.pow_succ,Nat.mul_comm,<-Nat.div_div_eq_div_mul]
    congr 1
    simp only[val]
    rw[Nat.add_mul_div_left _ _ Ec,Nat.div_eq_of_lt h1,Nat.zero_add]
   rw[e]
theorem uC {l:List Nat} {i x:Nat} (h:i<l.length):val (l.set i x)+Bw^i*dg l i=val l+Bw^i*x:=by
 induction l generalizing i with
 |nil=>simp at h
 |cons y l ih=>
  cases i with
  |zero=>simp[dg,val];omega
  |succ i=>
   have:=ih (i:=i) (by simpa using h)
   have e:dg (y::l) (i+1)=dg l i:=by simp[dg]
   rw[e]
   simp only[List.set_cons_succ,val,Nat.pow_succ]
   grind
theorem Jv (l:List Nat) (i:Nat):val l=lo l i+Bw^i*val (l.drop i):=by
 rcases Nat.lt_or_ge i l.length with h|h
 have:=Pb (l.take i) (l.drop i)
 rw[List.take_append_drop,List.length_take_of_le ω] at this
 exact this
 rw[List.drop_of_length_le h,Il h];simp[val]
theorem Lw {l:List Nat} {i:Nat} (h:i<l.length):val (l.drop i)=dg l i+Bw*val (l.drop (i+1)):=by
 rw[List.drop_eq_getElem_cons h,Tf h];rfl
theorem Tg {a b:List Nat} (ha:Hp a) {i:Nat} (h1:i<a.length) (h2:i<b.length) (hd:a.drop (i+1)=b.drop (i+1)) (h:dg a i<dg b i):val a<val b:=by
 have e1:=Jv a i
 have e2:=Jv b i
 have l1:=sR ha i
 rw[Lw h1,hd] at e1
 rw[Lw h2] at e2
 rw[e1,e2]
 have:Bw^i*(dg a i+Bw*val (b.drop (i+1))+1)<=Bw^i*(dg b i+Bw*val (b.drop (i+1))):=Nat.mul_le_mul_left _ ω
 rw[Nat.mul_add,Nat.mul_one] at this
 omega
theorem dE {a b:List Nat} {i:Nat} (h1:i<a.length) (h2:i<b.length) (hd:a.drop (i+1)=b.drop (i+1)) (h:dg a i=dg b i):a.drop i=b.drop i:=by
 rw[List.drop_eq_getElem_cons h1,List.drop_eq_getElem_cons h2,hd,<-Tf h1,<-Tf h2,h]
theorem gC {n m:Nat} (h:(Ae n).length<(Ae m).length):n<m:=by
 rcases Nat.lt_or_ge n m with h1|h1
 exact h1
 have:=Fg h1;omega
theorem Bk:Bw=2^64:=by decide
theorem Rq (k:Nat):Bw^k=2^(64*k):=by rw[Bk,<-Nat.pow_mul]
theorem Ru {n:Nat} (h:n≠0):bitLen n=64*((Ae n).length-1)+bitLen (dg (Ae n) ((Ae n).length-1)):=by
 have hne:Ae n≠[]:=λe=>h (Ky.1 e)
 have hp:=List.length_pos_iff.2 hne
 obtain⟨k,hk⟩:∃k,(Ae n).length=k+1:=⟨(Ae n).length-1,ω⟩
 have ht:dg (Ae n) k≠0:=by
  have:=kV n hne
  rw[List.getLast_eq_getElem] at this
  rw[Tf ω]
  simpa [hk] using this
 have e:=Jv (Ae n) k
 rw[Bt,Lw ω,List.drop_of_length_le ω] at e
 have hl:=sR (Cb n) k
 simp only[val,Nat.mul_zero,Nat.add_zero] at e
 rw[hk,Nat.add_sub_cancel]
 generalize dg (Ae n) k=t at*
 have b1:=No ht
 have b2:=Lh t
 have b3:1<=bitLen t:=by rw[Gf ht];omega
 obtain⟨j,hj⟩:∃j,bitLen t=j+1:=⟨bitLen t-1,ω⟩
 rw[hj] at b1 b2 ⊢
 rw[Nat.add_sub_cancel] at b1
 have e1:(2:Nat)^(64*k+j)=Bw^k*2^j:=by rw[Nat.pow_add,Rq]
 have e2:(2:Nat)^(64*k+j+1)=Bw^k*2^(j+1):=by rw[Nat.add_assoc,Nat.pow_add,Rq]
 have m1:Bw^k*2^j<=Bw^k*t:=Nat.mul_le_mul_left _ b1
 have m2:Bw^k*(t+1)<=Bw^k*2^(j+1):=Nat.mul_le_mul_left _ b2
 rw[Nat.mul_add,Nat.mul_one] at m2
 have:=Un (n:=n) (k:=64*k+j) (by rw[e1];omega) (by rw[e2];omega)
 omega
theorem Aiq {a k b:Nat} (h:a%2^(k+8)=0) (hb:b<256):a|||(b*2^k)=a+b*2^k:=by
 obtain⟨q,rfl⟩:∃q,a=q*2^(k+8):=⟨a/2^(k+8),by have:=Nat.mod_add_div a (2^(k+8));rw[h,Nat.zero_add,Nat.mul_comm] at this;exact this.symm⟩
 have e:b*2^k<2^(k+8):=by rw[Nat.pow_add,Nat.mul_comm];exact Nat.mul_lt_mul_of_pos_left hb (Nat.two_pow_pos k)
 have:=Nat.shiftLeft_add_eq_or_of_lt e q
 rw[Nat.shiftLeft_eq] at this
 exact this.symm
theorem mA {x r:Nat} (h0:r<=64):x/2^(64-r)=x*2^r/Bw:=by
 have e:Bw=2^(64-r)*2^r:=by rw[<-Nat.pow_add,show 64-r+r=64 by omega];exact Bk
 rw[e,Nat.mul_div_mul_right _ _ (Nat.two_pow_pos r)]
theorem tU {x r:Nat} (hx:x<Bw):x*2^r/Bw<2^r:=by
 apply Nat.div_lt_of_lt_mul
 exact Nat.mul_lt_mul_of_pos_right hx (Nat.two_pow_pos r)
theorem tV {x r:Nat} (h0:r<=64):x*2^r%Bw=x%2^(64-r)*2^r:=by
 have e:Bw=2^(64-r)*2^r:=by rw[<-Nat.pow_add,show 64-r+r=64 by omega];exact Bk
 rw[e,Nat.mul_mod_mul_right]
theorem Ago {x r c:Nat} (h0:r<=64) (hc:c<2^r):c+x*2^r%Bw<Bw:=by
 rw[tV h0]
 have h1:x%2^(64-r)+1<=2^(64-r):=Nat.mod_lt _ (Nat.two_pow_pos _)
 have h2:=Nat.mul_le_mul_right (2^r) h1
 have e:Bw=2^(64-r)*2^r:=by rw[<-Nat.pow_add,show 64-r+r=64 by omega];exact Bk
 rw[Nat.add_mul] at h2
 omega
theorem Acz {l:List Nat} {i:Nat} (h:val l<Bw^i):lo l i=val l:=by
 have e:=Jv l i
 rcases Nat.eq_zero_or_pos (val (l.drop i)) with h0|h0
 rw[h0,Nat.mul_zero] at e;omega
 have:=Nat.le_mul_of_pos_right (Bw^i) h0;omega
theorem Pc {l:List Nat} (hd:Hp l) (j:Nat):val (l.drop j)=val l/Bw^j:=by
 rw[Jv l j,Nat.add_mul_div_left _ _ (Nat.pow_pos Ec),Nat.div_eq_of_lt (sR hd j),Nat.zero_add]
theorem fH (l:List Nat) (j t:Nat):dg (l.drop j) t=dg l (j+t):=by simp[dg]
theorem Hp.drop {l:List Nat} (h:Hp l) (j:Nat):Hp (l.drop j):=λx hx=>h x (List.mem_of_mem_drop hx)
theorem Hp.take {l:List Nat} (h:Hp l) (j:Nat):Hp (l.take j):=λx hx=>h x (List.mem_of_mem_take hx)
def put (ls:List Nat) (j:Nat) (xs:List Nat):List Nat:=ls.take j++xs++ls.drop (j+xs.length)
theorem Ju {ls xs:List Nat} {j:Nat} (h:j+xs.length<=ls.length):(put ls j xs).length=ls.length:=by simp[put];omega
theorem iB {ls xs:List Nat} {j:Nat} (h:Hp ls) (hx:Hp xs):Hp (put ls j xs):=by
 intro x hm
 unfold put at hm
 rcases List.mem_append.1 hm with hm|hm
 rcases List.mem_append.1 hm with hm|hm
 exact h x (List.mem_of_mem_take hm)
 exact hx x hm
 exact h x (List.mem_of_mem_drop hm)
theorem iC {ls xs:List Nat} {j:Nat} (h:j+xs.length<=ls.length):val (put ls j xs)+Bw^j*val ((ls.drop j).take xs.length)=val ls+Bw^j*val xs:=by
 have e:=Jv ls j
 have e2:=Jv (ls.drop j) xs.length
 unfold lo at e e2
 rw[List.drop_drop] at e2
 unfold put
 rw[Pb,Pb,List.length_append,List.length_take_of_le ω,Nat.pow_add]
 rw[e,e2]
 grind
theorem Adq {ls xs:List Nat} {j:Nat} (h:j+xs.length<=ls.length):(put ls j xs).drop j=xs++ls.drop (j+xs.length):=by
 unfold put
 rw[List.append_assoc,List.drop_append_of_le_length (by rw[List.length_take_of_le ω];exact Nat.le_refl _),List.drop_of_length_le (by rw[List.length_take_of_le ω];exact Nat.le_refl _),List.nil_append]
theorem Rd (n:Nat):val (List.replicate n 0)=0:=Pd.2 λ_ hx=>List.eq_of_mem_replicate hx
theorem AfZ {ls xs:List Nat} {j k:Nat} (h:j+k<=ls.length) (hx:xs.length<=k):val (put (put ls j (List.replicate k 0)) j xs)+Bw^j*val ((ls.drop j).take k)=val ls+Bw^j*val xs:=by
 have hl:(List.replicate k 0).length=k:=by simp
 have h1:=iC (ls:=ls) (xs:=List.replicate k 0) (j:=j) (by rw[hl];exact h)
 have h2:=iC (ls:=put ls j (List.replicate k 0)) (xs:=xs) (j:=j) (by rw[Ju (by rw[hl];exact h)];omega)
 rw[Adq (by rw[hl];exact h),List.take_append_of_le_length (by rw[hl];exact hx),List.take_replicate,Rd] at h2
 rw[hl,Rd] at h1
 omega
theorem Xg {ls:List Nat} {D j k:Nat} (hd:Hp ls) (h:val ls<D*Bw^(j+1)) (hD:D<Bw^k):val ((ls.drop j).take (k+1))=val ls/Bw^j/\val ls/Bw^j<D*Bw:=by
 have h1:val ls/Bw^j<D*Bw:=by
  apply Nat.div_lt_of_lt_mul
  rw[Nat.pow_succ] at h
  have:Bw^j*(D*Bw)=D*(Bw^j*Bw):=by grind
  omega
 refine⟨?_,h1⟩
 rw[<-Pc hd j] at h1 ⊢
 refine Acz ?_
 rw[Nat.pow_succ]
 exact Nat.lt_of_lt_of_le h1 (Nat.mul_le_mul_right _ (Nat.le_of_lt hD))
theorem Ag1 {v:List Nat} {k:Nat} (hk:0<k):lo v (k+1)=(dg v k*Bw+dg v (k-1))*Bw^(k-1)+lo v (k-1):=by
 obtain⟨k,rfl⟩:∃k',k=k'+1:=⟨k-1,ω⟩
 simp only[Nat.add_sub_cancel]
 rw[Ea,Ea,Nat.pow_succ]
 grind
theorem Ag0 {n k:Nat} (hk:(Ae n).length=k) (h0:0<k):n=dg (Ae n) (k-1)*Bw^(k-1)+lo (Ae n) (k-1):=by
 have:=Ea (Ae n) (k-1)
 rw[show k-1+1=k by omega,Il ω,Bt] at this
 rw[Nat.mul_comm];omega
theorem Xb {n k:Nat} (hk:(Ae n).length=k) (h0:0<k):0<dg (Ae n) (k-1):=by
 have hne:Ae n≠[]:=by intro e;rw[e] at hk;simp at hk;omega
 have:=kV n hne
 rw[List.getLast_eq_getElem] at this
 rw[Tf ω]
 simp only[hk] at this
 omega
theorem Ack {ls:List Nat} {D j k:Nat} (hd:Hp ls) (h:val ls<D*Bw^(j+1)) (hk:(Ae D).length=k) (h0:0<k):
  val ls/Bw^j/D<=(dg ls (j+k)*Bw+dg ls (j+(k-1)))/dg (Ae D) (k-1):=by
 have hD:D<Bw^k:=by rw[<-hk];exact Qc
 obtain⟨h1,h2⟩:=Xg hd h hD
 rw[<-h1]
 have e:val ((ls.drop j).take (k+1))=lo (ls.drop j) (k+1):=rfl
 rw[e,Ag1 h0,fH,fH]
 conv=>lhs;rhs;rw[Ag0 hk h0]
 exact AjA (Xb hk h0) (sR (hd.drop j) _)
theorem dN {ls:List Nat} {D j k:Nat} (hd:Hp ls) (h:val ls<D*Bw^(j+1)) (hD:D<Bw^k):val ls/Bw^j/D<=Bw-1:=by
 have:=(Xg hd h hD).2
 have:=Nat.div_lt_of_lt_mul this
 omega
theorem Uq {t u d:Nat} (h:t<d) (hu:u<Bw):(t*Bw+u)/d<Bw:=by
 apply Nat.div_lt_of_lt_mul
 have:(t+1)*Bw<=d*Bw:=Nat.mul_le_mul_right _ h
 rw[Nat.add_mul] at this
 omega
structure vL (U D i:Nat) (qs ls:List Nat):Prop where
 qdig:Hp qs
 ldig:Hp ls
 sum:val qs*D+val ls=U
 lt:val ls<D*Bw^i
 zero:∀t,t<i->dg qs t=0
theorem vL.step {U D j k g:Nat} {qs ls:List Nat} (h:vL U D (j+1) qs ls) (hD:D<Bw^k) (hq:j<qs.length) (hl:j+(k+1)<=ls.length) (hg:g=val ls/Bw^j/D):
  vL U D j (qs.set j g) (put (put ls j (List.replicate (k+1) 0)) j (Ae (val ls/Bw^j-g*D))):=by
 obtain⟨h1,h2⟩:=Xg h.ldig h.lt hD
 have hgB:g<Bw:=by rw[hg];have:=dN h.ldig h.lt hD;have:=Xr;omega
 have hle:g*D<=val ls/Bw^j:=by rw[hg];exact Nat.div_mul_le_self _ _
 have hD0:0<D:=by
  rcases Nat.eq_zero_or_pos D with h0|h0
  have:=h.lt;rw[h0] at this;simp at this
  exact h0
 have hlt:val ls/Bw^j-g*D<D:=by
  have:=Nat.mod_lt (val ls/Bw^j) hD0
  have:=Nat.div_add_mod (val ls/Bw^j) D
  rw[<-hg,Nat.mul_comm] at this
  omega
 have hlen:(Ae (val ls/Bw^j-g*D)).length<=k+1:=by
  have:=Co (Nat.lt_trans hlt hD);omega
 have hp:=AfZ (ls:=ls) (xs:=Ae (val ls/Bw^j-g*D)) hl hlen
 rw[h1,Bt] at hp
 have hs:=uC (l:=qs) (i:=j) (x:=g) hq
 rw[h.zero j ω,Nat.mul_zero,Nat.add_zero] at hs
 have hmd:=Nat.mod_add_div (val ls) (Bw^j)
 have hmlt:=Nat.mod_lt (val ls) (Nat.pow_pos (n:=j) Ec)
 refine⟨h.qdig.set hgB,iB (iB h.ldig (Hp.zeros _)) (Cb _),?_,?_,?_⟩
 rw[hs]
 have:=h.sum
 generalize val (put _ _ _)=v2 at*
 generalize val ls/Bw^j=W at*
 obtain⟨z,rfl⟩:∃z,W=g*D+z:=⟨W-g*D,ω⟩
 rw[Nat.add_sub_cancel_left] at hp
 rw[Nat.mul_add] at hp
 rw[Nat.add_mul,Nat.mul_assoc]
 omega
 generalize val (put _ _ _)=v2 at*
 generalize val ls/Bw^j=W at*
 generalize hz:W-g*D=z at*
 have e1:W=g*D+z:=by omega
 have e2:Bw^j*(z+1)<=Bw^j*D:=Nat.mul_le_mul_left _ hlt
 rw[Nat.mul_add,Nat.mul_one] at e2
 rw[Nat.mul_comm D]
 omega
 intro t ht
 rw[Hq ω]
 exact h.zero t ω
theorem vL.fin {U D:Nat} {qs ls:List Nat} (h:vL U D 0 qs ls):val qs=U/D/\val ls=U%D:=by
 have h1:=h.sum
 have h2:=h.lt
 rw[Nat.pow_zero,Nat.mul_one] at h2
 have e:U/D=val qs:=Adv ω (by rw[Nat.add_mul];omega)
 refine⟨e.symm,?_⟩
 have:=Nat.div_add_mod U D
 rw[e,Nat.mul_comm] at this
 omega
theorem yH {m M b:Nat} (hM:(Ae m).length=M) (h0:0<M) (hb:b=64-bitLen (dg (Ae m) (M-1))):(Ae (m*2^b)).length=M/\b<64:=by
 have hm:m≠0:=by intro e;rw[e,Cf] at hM;simp at hM;omega
 have ht:=Xb hM h0
 have hl:=Ru hm
 rw[hM] at hl
 have h1:1<=bitLen (dg (Ae m) (M-1)):=by rw[Gf ω];omega
 have h64:bitLen (dg (Ae m) (M-1))<=64:=Em.2 (by rw[<-Bk];exact Hj (Cb m) _)
 have h2:=Lh m
 have h3:=No hm
 refine⟨?_,ω⟩
 have hu:m*2^b<Bw^M:=by
  rw[Rq,show 64*M=bitLen m+b by omega,Nat.pow_add]
  exact Nat.mul_lt_mul_of_pos_right h2 (Nat.two_pow_pos b)
 have hlo:Bw^(M-1)<=m*2^b:=by
  refine Nat.le_trans ?_ (Nat.mul_le_mul_right _ h3)
  rw[Rq,<-Nat.pow_add]
  exact Nat.pow_le_pow_right δ ω
 have:=Co hu
 have:=pB hlo
 omega
theorem xS {n m N M b:Nat} (hM:(Ae m).length=M) (h0:0<M) (hN:(Ae n).length=N) (hle:M<=N) (hb:b<64):n*2^b<m*2^b*Bw^(N+1-M)/\(Ae (n*2^b)).length<=N+1:=by
 have hn:n<Bw^N:=by rw[<-hN];exact Qc
 have hm0:m≠0:=by intro e;rw[e,Cf] at hM;simp at hM;omega
 have hm:=AhX hm0
 rw[hM] at hm
 constructor
 have h1:Bw^N<=m*Bw^(N+1-M):=by
  have e:Bw^N=Bw^(M-1)*Bw^(N+1-M):=by rw[<-Nat.pow_add];congr 1;omega
  rw[e];exact Nat.mul_le_mul_right _ hm
 have h2:n<m*Bw^(N+1-M):=by omega
 have h3:=Nat.mul_lt_mul_of_pos_right h2 (Nat.two_pow_pos b)
 have e:m*Bw^(N+1-M)*2^b=m*2^b*Bw^(N+1-M):=by grind
 omega
 apply Co
 rw[Nat.pow_succ]
 have h1:2^b<=Bw:=by rw[Bk];exact Nat.pow_le_pow_right δ ω
 calc n*2^b<Bw^N*2^b:=Nat.mul_lt_mul_of_pos_right hn (Nat.two_pow_pos b)
  _<=Bw^N*Bw:=Nat.mul_le_mul_left _ h1
def Bh:Nat:=4294967296
theorem AaB:Bw=Bh*Bh:=by decide
theorem nU:Bh=2^32:=by decide
structure Sz (hi lo y s Y d1 d0 u t x1 x0:Nat):Prop where
 Ye:Y=y*2^s
 Yl:Y<Bw
 d1e:d1=Y/Bh
 d0e:d0=Y%Bh
 ue:u=hi*2^s+lo/2^(64-s)
 te:t=lo*2^s%Bw
 x1e:x1=t/Bh
 x0e:x0=t%Bh
 uY:u<Y
 d1b:Bh<=2*d1
 d1l:d1<Bh
 d0l:d0<Bh
 x1l:x1<Bh
 x0l:x0<Bh
 Yd:d1*Bh+d0=Y
 all:u*Bh*Bh+x1*Bh+x0=(hi*Bw+lo)*2^s
theorem wG {hi lo y s:Nat} (h1:hi<y) (hy:y<Bw) (hl:lo<Bw) (hs:s=64-bitLen y):∃Y d1 d0 u t x1 x0,Sz hi lo y s Y d1 d0 u t x1 x0:=by
 have hb:=Lh y
 have hb2:=No (n:=y) ω
 have h64:bitLen y<=64:=Em.2 (by rw[<-Bk];exact hy)
 have hb1:1<=bitLen y:=by rw[Gf ω];omega
 have h2s:=Nat.two_pow_pos s
 have hY:y*2^s<Bw:=by
  have:Bw=2^bitLen y*2^s:=by rw[<-Nat.pow_add,show bitLen y+s=64 by omega];exact Bk
  rw[this];exact Nat.mul_lt_mul_of_pos_right hb h2s
 have hY2:2^63<=y*2^s:=by
  have:2^63=2^(bitLen y-1)*2^s:=by rw[<-Nat.pow_add,show bitLen y-1+s=63 by omega]
  rw[this];exact Nat.mul_le_mul_right _ hb2
 have h64s:Bw=2^(64-s)*2^s:=by rw[<-Nat.pow_add,show 64-s+s=64 by omega];exact Bk
 have hlo:lo/2^(64-s)<2^s:=Nat.div_lt_of_lt_mul (by rw[<-h64s];exact hl)
 have hu:hi*2^s+lo/2^(64-s)<y*2^s:=by
  have:(hi+1)*2^s<=y*2^s:=Nat.mul_le_mul_right _ h1
  rw[Nat.add_mul,Nat.one_mul] at this
  omega
 have ht:lo*2^s%Bw<Bw:=Nat.mod_lt _ Ec
 have hall:(hi*2^s+lo/2^(64-s))*Bw+lo*2^s%Bw=(hi*Bw+lo)*2^s:=by
  rw[mA ω]
  have e:=Nat.mod_add_div (lo*2^s) Bw
  generalize lo*2^s/Bw=a at*
  generalize lo*2^s%Bw=b at*
  rw[Nat.add_mul,Nat.add_mul,<-e,Nat.mul_assoc,Nat.mul_comm (2^s) Bw,<-Nat.mul_assoc,Nat.mul_comm a Bw]
  omega
 generalize hYe:y*2^s=Y at*
 generalize hue:hi*2^s+lo/2^(64-s)=u at*
 generalize hte:lo*2^s%Bw=t at*
 have hq:Bw=18446744073709551616:=rfl
 have hB:Bh=4294967296:=rfl
 refine⟨Y,Y/Bh,Y%Bh,u,t,t/Bh,t%Bh,hYe.symm,hY,rfl,rfl,hue.symm,hte.symm,rfl,rfl,hu,?_,?_,?_,?_,?_,?_,?_⟩
 rw[hB];omega
 rw[hB];omega
 rw[hB];omega
 rw[hB];omega
 rw[hB];omega
 rw[hB];omega
 rw[<-hall,AaB]
 have e:=Nat.mod_add_div t Bh
 rw[Nat.mul_assoc,Nat.mul_comm (t/Bh)]
 omega
structure Fr (d1 d0 u x q r:Nat):Prop where
 g:cS Bh d1 d0 u x q r
 ql:q<=Bh+1
 rl:r<Bh
theorem Fr.start {d1 d0 u x:Nat} (hb:Bh<=2*d1) (hl:d1<Bh) (h0:d0<Bh) (hx:x<Bh) (hu:u<d1*Bh+d0):Fr d1 d0 u x (u/d1) (u%d1):=by
 have hB:Bh=4294967296:=rfl
 have hd:0<d1:=by omega
 exact⟨kN hd hx,Acl hb h0 hu,Nat.lt_trans (Nat.mod_lt _ hd) hl⟩
theorem Fr.down {d1 d0 u x q r:Nat} (h:Fr d1 d0 u x q r) (_:Bh<=2*d1) (hx:x<Bh) (hu:u<d1*Bh+d0) (hc:Bh<=q\/Bh*r+x<q*d0):0<q/\cS Bh d1 d0 u x (q-1) (r+d1):=
 oU h.g (by have hB:Bh=4294967296:=rfl;omega) hu hx hc
theorem Fr.brk {d1 d0 u x q r:Nat} (h:Fr d1 d0 u x q r) (hb:Bh<=2*d1) (h0:d0<Bh) (hx:x<Bh) (hu:u<d1*Bh+d0) (hc:Bh<=q\/Bh*r+x<q*d0) (hr:Bh<=r+d1):q-1=(u*Bh+x)/(d1*Bh+d0):=by
 have h1:=h.down hb hx hu hc
 exact(dM h1.2 (by have hB:Bh=4294967296:=rfl;omega) (kM (by have:=h.ql;omega) h0 hr)).symm
theorem Fr.done {d1 d0 u x q r:Nat} (h:Fr d1 d0 u x q r) (hb:Bh<=2*d1) (hc:q*d0<=Bh*r+x):q=(u*Bh+x)/(d1*Bh+d0):=
 (dM h.g (by have hB:Bh=4294967296:=rfl;rw[hB];omega) hc).symm
theorem Kg {q d:Nat} (hq:q<Bh) (hd:d<Bh):q*d<Bw:=by
 rw[AaB]
 exact Nat.mul_lt_mul'' hq hd
theorem Kh {r x:Nat} (hr:r<Bh) (hx:x<Bh):Bh*r+x<Bw:=by
 have:Bh*(r+1)<=Bh*Bh:=Nat.mul_le_mul_left _ hr
 rw[Nat.mul_add,Nat.mul_one] at this
 rw[AaB];omega
theorem bD {hi lo y s Y d1 d0 u t x1 x0 q1 v q0:Nat} (P:Sz hi lo y s Y d1 d0 u t x1 x0) (hv:v=u*Bh+x1-q1*Y) (h1:q1=(u*Bh+x1)/Y) (h0:q0=(v*Bh+x0)/Y):
  (hi*Bw+lo)/y=q1*Bh+q0/\(hi*Bw+lo)%y=(v*Bh+x0-q0*Y)/2^s:=by
 have hY:0<Y:=Nat.lt_of_le_of_lt Ω P.uY
 subst hv
 obtain⟨e1,e2⟩:=Afg hY h1.symm h0.symm P.x0l
 rw[P.all] at e1 e2
 have hd:=dC (u:=hi*Bw+lo) (y:=y) (Nat.two_pow_pos s)
 rw[<-P.Ye] at hd
 exact⟨by rw[<-hd.1,e1],by rw[<-hd.2,e2]⟩
theorem Adz {a Y:Nat} (hY:0<Y):a-a/Y*Y<Y:=by
 have:=Nat.mod_lt a hY
 have:=Nat.mod_add_div a Y
 rw[Nat.mul_comm] at this
 omega
theorem qL {l:List Nat} {z:Nat} (_:Hp l) (h:∀t,t<l.length->dg l t=z/Bw^t%Bw) (hz:z<Bw^l.length):val l=z:=by
 have h1:∀i,i<=l.length->lo l i=z%Bw^i:=by
  intro i
  induction i with
  |zero=>intro _;rw[Ml,Nat.pow_zero,Nat.mod_one]
  |succ i ih=>
   intro hi
   rw[Ea,ih ω,h i ω,Nat.pow_succ,Nat.mod_mul]
 have:=h1 l.length ζ
 rw[Il ζ,Nat.mod_eq_of_lt hz] at this
 exact this
theorem yI {y:List Nat} (hd:Hp y) {r i:Nat} (hr:r<=64) (hi:i<y.length):val y/2^r/Bw^i%Bw=dg y i/2^r+dg y (i+1)*2^(64-r)%Bw:=by
 have e:Bw=2^(64-r)*2^r:=by rw[<-Nat.pow_add,show 64-r+r=64 by omega];exact Bk
 rw[Nat.div_div_eq_div_mul,Nat.mul_comm,<-Nat.div_div_eq_div_mul,<-Pc hd,Lw hi]
 have h2:val (y.drop (i+1))=dg y (i+1)+Bw*val (y.drop (i+2)):=by
  rcases Nat.lt_or_ge (i+1) y.length with h|h
  exact Lw h
  rw[Mi h,List.drop_of_length_le h,List.drop_of_length_le ω];simp[val]
 rw[h2]
 have hx:=Hj hd i
 generalize dg y i=a at*
 generalize dg y (i+1)=b at*
 generalize val (y.drop (i+2))=c at*
 have h2r:=Nat.two_pow_pos r
 have h2s:=Nat.two_pow_pos (64-r)
 have e1:a+Bw*(b+Bw*c)=a+(2^(64-r)*b+Bw*(2^(64-r)*c))*2^r:=by
  conv=>lhs;rw[Nat.mul_add]
  have:Bw*b=2^(64-r)*b*2^r:=by
   conv=>lhs;rw[e]
   grind
  have h3:Bw*(Bw*c)=Bw*(2^(64-r)*c)*2^r:=by
   have:Bw*c=2^(64-r)*c*2^r:=by
    conv=>lhs;rw[e]
    grind
   rw[this];grind
  rw[this,h3];grind
 rw[e1,Nat.add_mul_div_right _ _ h2r,<-Nat.add_assoc,Nat.add_mul_mod_self_left]
 have e2:b*2^(64-r)%Bw=2^(64-r)*(b%2^r):=by
  rw[e,Nat.mul_comm b,Nat.mul_mod_mul_left]
 have e3:a/2^r<2^(64-r):=Nat.div_lt_of_lt_mul (by rw[Nat.mul_comm,<-e];exact hx)
 have e4:b%2^r+1<=2^r:=Nat.mod_lt _ h2r
 have e5:2^(64-r)*(b%2^r+1)<=Bw:=by
  have:=Nat.mul_le_mul_left (2^(64-r)) e4
  rw[<-e] at this;exact this
 rw[Nat.mul_add,Nat.mul_one] at e5
 rw[e2]
 have e6:(a/2^r+2^(64-r)*b)%Bw=(a/2^r+b*2^(64-r)%Bw)%Bw:=by rw[Nat.add_mod_mod,Nat.mul_comm b]
 rw[e6,e2,Nat.mod_eq_of_lt ω]
theorem AiD {a b r:Nat} (ha:a<Bw) (hr:r<=64):a/2^r|||b*2^(64-r)%Bw=a/2^r+b*2^(64-r)%Bw:=by
 have e:Bw=2^(64-r)*2^r:=by rw[<-Nat.pow_add,show 64-r+r=64 by omega];exact Bk
 have e3:a/2^r<2^(64-r):=Nat.div_lt_of_lt_mul (by rw[Nat.mul_comm,<-e];exact ha)
 have e2:b*2^(64-r)%Bw=(b%2^r)*2^(64-r):=by
  rw[e,Nat.mul_comm b,Nat.mul_mod_mul_left,Nat.mul_comm]
 rw[e2]
 have:=Nat.shiftLeft_add_eq_or_of_lt e3 (b%2^r)
 rw[Nat.shiftLeft_eq] at this
 rw[Nat.or_comm,<-this,Nat.add_comm]
theorem yJ {x:List Nat} (hd:Hp x) {s W r:Nat} (hs:s=64*W+r):val (x.drop W)/2^r=val x/2^s:=by
 rw[Pc hd,Nat.div_div_eq_div_mul,hs,Nat.pow_add,Rq]
theorem pO (k:Nat):256^k=Bw^(k/8)*2^(8*(k%8)):=by
 rw[Rq,<-Nat.pow_add,show (256:Nat)=2^8 by decide,<-Nat.pow_mul]
 congr 1;omega
theorem AgF (n:Nat):∀i (h:i<(be n).length),(be n)[i].toNat=n/256^((be n).length-1-i)%256:=by
 induction n using Nat.strongRecOn with
 |_ n ih=>
  intro i h
  by_cases h0:n=0
  subst h0;rw[Ih] at h;simp at h
  have ih2:=ih _ (Nat.div_lt_self (Nat.pos_of_ne_zero h0) (show 1<256 by decide))
  have e:=Yb h0
  have hl:(be n).length=(be (n/256)).length+1:=by rw[e];simp
  simp only[e,List.getElem_append]
  split
  rename_i h1
  rw[ih2 i h1]
  simp only[List.length_append,List.length_singleton]
  have e2:(be (n/256)).length+1-1-i=((be (n/256)).length-1-i)+1:=by omega
  rw[e2,Nat.pow_succ,Nat.mul_comm _ 256,<-Nat.div_div_eq_div_mul]
  rename_i h1
  have:i=(be (n/256)).length:=by omega
  subst this
  simp
theorem xA {ls:List Nat} {z k q r b:Nat} (hd:Hp ls) (hq:q=k/8) (hr:r=8*(k%8)) (hl:q<ls.length) (hv:val ls=z/256^(k+1)*256^(k+1)) (hb:b=z/256^k%256):
  dg ls q|||b*2^r=dg ls q+b*2^r/\dg ls q+b*2^r<Bw/\val (ls.set q (dg ls q+b*2^r))=z/256^k*256^k:=by
 have hr8:r+8<=64:=by omega
 have hb256:b<256:=by rw[hb];exact Nat.mod_lt _ δ
 have e1:256^(k+1)=Bw^q*2^(r+8):=by
  rw[Nat.pow_succ,pO,<-hq,<-hr,Nat.pow_add,Nat.mul_assoc]
 have e0:256^k=Bw^q*2^r:=by rw[pO,<-hq,<-hr]
 have hm:dg ls q%2^(r+8)=0:=by
  rw[Ab2 hd,hv,e1]
  have:z/(Bw^q*2^(r+8))*(Bw^q*2^(r+8))/Bw^q=z/(Bw^q*2^(r+8))*2^(r+8):=by
   rw[<-Nat.mul_assoc,Nat.mul_right_comm,Nat.mul_div_cancel _ (Nat.pow_pos Ec)]
  rw[this]
  have h64:Bw=2^(r+8)*2^(64-(r+8)):=by rw[<-Nat.pow_add,show r+8+(64-(r+8))=64 by omega];exact Bk
  rw[h64,Nat.mod_mul_right_mod,Nat.mul_mod_left]
 have hdl:=Hj hd q
 have hsum:dg ls q+b*2^r<Bw:=by
  have h64:Bw=2^(64-(r+8))*2^(r+8):=by rw[<-Nat.pow_add,show 64-(r+8)+(r+8)=64 by omega];exact Bk
  obtain⟨t,ht⟩:∃t,dg ls q=t*2^(r+8):=⟨dg ls q/2^(r+8),by have:=Nat.mod_add_div (dg ls q) (2^(r+8));rw[hm,Nat.zero_add,Nat.mul_comm] at this;exact this.symm⟩
  rw[ht,h64] at hdl
  have h1:t<2^(64-(r+8)):=Nat.lt_of_mul_lt_mul_right hdl
  have h2:(t+1)*2^(r+8)<=2^(64-(r+8))*2^(r+8):=Nat.mul_le_mul_right _ h1
  rw[<-h64,Nat.add_mul,Nat.one_mul] at h2
  have h3:b*2^r<2^(r+8):=by rw[Nat.pow_add,Nat.mul_comm];exact Nat.mul_lt_mul_of_pos_left hb256 (Nat.two_pow_pos r)
  rw[ht];omega
 refine⟨Aiq hm hb256,hsum,?_⟩
 have hs:=uC (l:=ls) (i:=q) (x:=dg ls q+b*2^r) hl
 rw[hv,Nat.mul_add] at hs
 have h1:val (ls.set q (dg ls q+b*2^r))=z/256^(k+1)*256^(k+1)+Bw^q*(b*2^r):=by omega
 rw[h1,hb]
 have e3:Bw^q*(z/256^k%256*2^r)=z/256^k%256*256^k:=by rw[e0];grind
 rw[e3,Nat.pow_succ,<-Nat.div_div_eq_div_mul,Nat.mul_comm (256^k) 256,<-Nat.mul_assoc,<-Nat.add_mul]
 have:=Nat.mod_add_div (z/256^k) 256
 rw[Nat.mul_comm _ 256,Nat.add_comm,this]
theorem Tl (z:Nat):((be z).length+7)/8=(Ae z).length:=by
 rw[Qw]
 by_cases h:z=0
 subst h;rw[Cf];rfl
 have hne:Ae z≠[]:=λe=>h (Ky.1 e)
 have hp:=List.length_pos_iff.2 hne
 have ht:=Ru h
 have h0:=Xb (n:=z) rfl hp
 have h1:1<=bitLen (dg (Ae z) ((Ae z).length-1)):=by rw[Gf ω];omega
 have h2:bitLen (dg (Ae z) ((Ae z).length-1))<=64:=Em.2 (by rw[<-Bk];exact Hj (Cb z) _)
 omega
theorem Ac2 {ls:List Nat} {z:Nat} (hd:Hp ls) (hv:val ls=z) (hl:ls.length=(Ae z).length):ls=Ae z:=by
 obtain⟨k,hk⟩:=wD hd
 rw[hv] at hk
 have:=congrArg List.length hk
 simp at this
 have:k=0:=by omega
 rw[hk,this];simp
theorem qG (z k:Nat):dg (Ae z) (k/8)/2^(8*(k%8))%256=z/256^k%256:=by
 rw[Ab2 (Cb z),Bt,pO,<-Nat.div_div_eq_div_mul]
 generalize z/Bw^(k/8)=x
 generalize hr:8*(k%8)=r
 have hr8:r+8<=64:=by omega
 have h64:Bw=2^r*2^(64-r):=by rw[<-Nat.pow_add,show r+(64-r)=64 by omega];exact Bk
 rw[h64,Nat.mod_mul_right_div_self]
 have h8:2^(64-r)=256*2^(56-r):=by rw[show (256:Nat)=2^8 by decide,<-Nat.pow_add];congr 1;omega
 rw[h8,Nat.mod_mul_right_mod]
end Go.Proofs.YtbggmndaahbojaaGreat