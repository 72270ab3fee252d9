/- Part 2 of the proof of IB.row_holds: no condition beyond the row's. -/
import Derived.Test.YtbggmndaahbojaaGreatIb1
import Derived.KernelRfl
set_option maxRecDepth 100000
set_option maxHeartbeats 40000000
namespace Go.Proofs.YtbggmndaahbojaaGreat
abbrev bB:Nat:=1000000000
def dB (x k:Nat):Nat:=x/bB^k%bB
def nB (x:Nat):Nat:=if h:x=0 then 0 else nB (x/bB)+1
termination_by x
decreasing_by exact Nat.div_lt_self ω δ
theorem Vz:nB 0=0:=by rw[nB,dif_pos rfl]
theorem sX {x:Nat} (h:x≠0):nB x=nB (x/bB)+1:=by rw[nB,dif_neg h]
theorem Ep (k:Nat):0<bB^k:=Nat.pow_pos δ
theorem Ic (x k:Nat):dB x k<bB:=Nat.mod_lt _ δ
theorem Ki (x:Nat):x<bB^nB x:=by
 induction x using Nat.strongRecOn with
 |ind x ih=>
  by_cases h:x=0
  subst h;rw[Vz];decide
  rw[sX h,Nat.pow_succ]
  exact(Nat.div_lt_iff_lt_mul (show 0<bB by decide)).1 (ih (x/bB) (Nat.div_lt_self ω δ))
theorem AcD {x:Nat}:∀{k:Nat},bB^k<=x->k<nB x:=by
 induction x using Nat.strongRecOn with
 |ind x ih=>
  intro k hk
  have h0:x≠0:=by have:=Ep k;omega
  rw[sX h0]
  cases k with
  |zero=>omega
  |succ k=>
   have h1:bB^k<=x/bB:=(Nat.le_div_iff_mul_le δ).2 (by rwa [Nat.pow_succ] at hk)
   have:=ih (x/bB) (Nat.div_lt_self ω δ) h1
   omega
theorem Gy {x n:Nat} (h:x<bB^n):nB x<=n:=by
 rcases Nat.lt_or_ge n (nB x) with g|g
 exfalso
 have h2:bB^n<=bB^(nB x-1):=Nat.pow_le_pow_right δ ω
 have h3:bB^(nB x-1)<=x:=by
  rcases Nat.lt_or_ge x (bB^(nB x-1)) with g2|g2
  exfalso
  clear h h2
  have key:∀(m x:Nat),x<bB^m->nB x<=m:=by
   intro m
   induction m with
   |zero=>
    intro x hx;have:x=0:=by simpa using hx
    subst this;rw[Vz];exact Nat.le_refl _
   |succ m ih=>
    intro x hx
    by_cases h0:x=0
    subst h0;rw[Vz];omega
    rw[sX h0]
    have:=ih (x/bB) (Nat.div_lt_of_lt_mul (by rwa [Nat.pow_succ,Nat.mul_comm] at hx))
    omega
  have:=key _ _ g2
  omega
  exact g2
 omega
 exact g
theorem Aie {x:Nat} (h:x≠0):bB^(nB x-1)<=x:=by
 rcases Nat.lt_or_ge x (bB^(nB x-1)) with g|g
 have:=Gy g
 have h2:nB x≠0:=by rw[sX h];omega
 omega
 exact g
theorem AgN {x n:Nat} (h1:x<bB^n) (h2:n=0\/bB^(n-1)<=x):nB x=n:=by
 have h3:=Gy h1
 rcases h2 with h2|h2
 omega
 have:=AcD h2
 omega
theorem Ajw {x k:Nat} (h:nB x<=k):dB x k=0:=by
 unfold dB
 rw[Nat.div_eq_of_lt (Nat.lt_of_lt_of_le (Ki x) (Nat.pow_le_pow_right δ h))]
 exact Nat.zero_mod _
theorem Uv (x k:Nat):x%bB^(k+1)=x%bB^k+bB^k*dB x k:=by
 unfold dB
 rw[Nat.pow_succ,Nat.mod_mul]
theorem Lm (x k:Nat):x/bB^k=bB*(x/bB^(k+1))+dB x k:=by
 unfold dB
 rw[Nat.pow_succ,<-Nat.div_div_eq_div_mul]
 exact(Nat.div_add_mod _ _).symm
theorem Wu {x k:Nat} (h:nB x<=k):x%bB^k=x:=Nat.mod_eq_of_lt (Nat.lt_of_lt_of_le (Ki x) (Nat.pow_le_pow_right δ h))
theorem Ag3 {x n:Nat} (h:x<bB^(n+1)) (h0:dB x n=0):x<bB^n:=by
 have h4:=Lm x n
 rw[Nat.div_eq_of_lt h,h0] at h4
 rcases Nat.lt_or_ge x (bB^n) with g|g
 exact g
 have:=Nat.div_pos g (Ep n)
 omega
theorem Ag2 {x n:Nat} (h:x<bB^(n+1)) (h0:dB x n≠0):nB x=n+1:=by
 refine AgN h (.inr ?_)
 rcases Nat.lt_or_ge x (bB^n) with g|g
 exact absurd (Ajw (Gy g)) h0
 exact g
def Cm (x y k:Nat):Nat:=(x%bB^k+y%bB^k)/bB^k
theorem AaZ (x y k:Nat):Cm x y k<=1:=by
 unfold Cm
 have h1:=Nat.mod_lt x (Ep k)
 have h2:=Nat.mod_lt y (Ep k)
 have:x%bB^k+y%bB^k<2*bB^k:=by omega
 have:=(Nat.div_lt_iff_lt_mul (Ep k)).2 this
 omega
theorem rQ (x y k:Nat):(x%bB^(k+1)+y%bB^(k+1))/bB^k=Cm x y k+dB x k+dB y k:=by
 unfold Cm
 rw[Uv,Uv,show x%bB^k+bB^k*dB x k+(y%bB^k+bB^k*dB y k)=x%bB^k+y%bB^k+bB^k*(dB x k+dB y k) by rw[Nat.mul_add];omega,Nat.add_mul_div_left _ _ (Ep k)]
 omega
theorem Aba (x y k:Nat):Cm x y (k+1)=(Cm x y k+dB x k+dB y k)/bB:=by
 rw[<-rQ,Nat.div_div_eq_div_mul,<-Nat.pow_succ]
 rfl
theorem rV (x y k:Nat):dB (x+y) k=(Cm x y k+dB x k+dB y k)%bB:=by
 rw[<-rQ]
 unfold dB
 have h:x+y=x%bB^(k+1)+y%bB^(k+1)+bB^k*(bB*(x/bB^(k+1)+y/bB^(k+1))):=by
  have h1:=Nat.div_add_mod x (bB^(k+1))
  have h2:=Nat.div_add_mod y (bB^(k+1))
  rw[<-Nat.mul_assoc,<-Nat.pow_succ,Nat.mul_add]
  generalize bB^(k+1)=Q at h1 h2 ⊢
  omega
 conv=>lhs;rw[h]
 rw[Nat.add_mul_div_left _ _ (Ep k),Nat.add_mul_mod_self_left]
theorem AeS {x y k:Nat} (hx:nB x<=k) (hy:nB y<=k) (h:Cm x y k=0):x+y<bB^k:=by
 unfold Cm at h
 rw[Wu hx,Wu hy] at h
 rcases Nat.lt_or_ge (x+y) (bB^k) with g|g
 exact g
 have:=Nat.div_pos g (Ep k)
 omega
theorem AaL {x y k:Nat} (h:k<nB x\/k<nB y\/0<Cm x y k):bB^k<=x+y:=by
 have low:∀z,k<nB z->bB^k<=z:=λz hz=>by
  have h0:z≠0:=λe=>by rw[e,Vz] at hz;omega
  exact Nat.le_trans (Nat.pow_le_pow_right δ ω) (Aie h0)
 rcases h with h|h|h
 have:=low x h;omega
 have:=low y h;omega
 unfold Cm at h
 have h1:=Nat.mod_le x (bB^k)
 have h2:=Nat.mod_le y (bB^k)
 rcases Nat.lt_or_ge (x%bB^k+y%bB^k) (bB^k) with g|g
 rw[Nat.div_eq_of_lt g] at h;omega
 omega
def En (x y k:Nat):Nat:=if x%bB^k<y%bB^k then 1 else 0
def Rx (x y k:Nat):Int:=(dB x k:Int)-(En x y k:Int)-(dB y k:Int)
theorem AgG (x y:Nat):En x y 0=0:=by
 unfold En
 rw[Nat.pow_zero,Nat.mod_one,Nat.mod_one]
 rfl
theorem Ah0 (x y k:Nat):En x y (k+1)=if Rx x y k<0 then 1 else 0:=by
 have hr:=Nat.mod_lt x (Ep k)
 have hs:=Nat.mod_lt y (Ep k)
 unfold En Rx En
 rw[Uv,Uv]
 generalize x%bB^k=r at*
 generalize y%bB^k=s at*
 generalize dB x k=a at*
 generalize dB y k=b at*
 generalize bB^k=P at*
 rcases Nat.lt_trichotomy a b with h|h|h
 have h2:P*a+P<=P*b:=by rw[<-Nat.mul_succ];exact Nat.mul_le_mul_left _ h
 rw[if_pos ω,if_pos (by split<;>omega)]
 subst h
 by_cases h2:r<s
 rw[if_pos ω,if_pos h2,if_pos ω]
 rw[if_neg ω,if_neg h2,if_neg ω]
 have h2:P*b+P<=P*a:=by rw[<-Nat.mul_succ];exact Nat.mul_le_mul_left _ h
 rw[if_neg ω,if_neg (by split<;>omega)]
theorem Afe {x y:Nat} (h:y<=x) (k:Nat):x/bB^k=y/bB^k+En x y k+(x-y)/bB^k:=by
 have hr:=Nat.mod_lt x (Ep k)
 have hs:=Nat.mod_lt y (Ep k)
 have dx:=Nat.div_add_mod x (bB^k)
 have dy:=Nat.div_add_mod y (bB^k)
 have hp:=Ep k
 unfold En
 generalize bB^k=P at*
 generalize x/P=u at*
 generalize y/P=v at*
 generalize x%P=r at*
 generalize y%P=s at*
 have key:∀w,u=v+(if r<s then 1 else 0)+w->(x-y)/P=w:=λw hw=>by
  have e:P*u=P*v+P*(if r<s then 1 else 0)+P*w:=by rw[hw,Nat.mul_add,Nat.mul_add]
  refine Nat.div_eq_of_lt_le ?_ ?_
  rw[Nat.mul_comm]
  split at e<;>omega
  rw[Nat.succ_mul,Nat.mul_comm]
  split at e<;>omega
 have hle:v+(if r<s then 1 else 0)<=u:=by
  rcases Nat.lt_trichotomy u v with g|g|g
  have:P*u+P<=P*v:=by rw[<-Nat.mul_succ];exact Nat.mul_le_mul_left _ g
  omega
  subst g
  rw[if_neg ω]
  omega
  split<;>omega
 rw[key (u-(v+(if r<s then 1 else 0))) ω]
 omega
theorem Afd {x y:Nat} (h:y<=x) (k:Nat):(dB (x-y) k:Int)=if Rx x y k<0 then Rx x y k+bB else Rx x y k:=by
 have e:=Afe h k
 have ex:=Lm x k
 have ey:=Lm y k
 have ez:=Lm (x-y) k
 have ha:=Ic x k
 have hb:=Ic y k
 have hd:=Ic (x-y) k
 have hc:En x y k<=1:=by unfold En;split<;>omega
 unfold Rx
 generalize En x y k=c at*
 generalize x/bB^(k+1)=X at*
 generalize y/bB^(k+1)=Y at*
 generalize (x-y)/bB^(k+1)=Z at*
 rw[ex,ey,ez] at e
 simp only[show bB=1000000000 from rfl] at*
 split<;>omega
theorem AdN {x y:Nat}:x-y<bB^nB x:=Nat.lt_of_le_of_lt (Nat.sub_le x y) (Ki x)
def Pn (x y i k:Nat):Nat:=x%bB^i*y+dB x i*(y%bB^k)*bB^i
theorem AgY (x y i:Nat):Pn x y i 0=x%bB^i*y:=by
 unfold Pn
 rw[Nat.pow_zero,Nat.mod_one]
 simp
theorem gZ {x y i k:Nat} (h:nB y<=k):Pn x y i k=x%bB^(i+1)*y:=by
 unfold Pn
 rw[Wu h,Uv,Nat.add_mul,Nat.mul_comm (bB^i) (dB x i),Nat.mul_right_comm (dB x i)]
theorem Adp (x y i k:Nat):Pn x y i (k+1)=Pn x y i k+dB x i*dB y k*bB^(i+k):=by
 unfold Pn
 rw[Uv y k,Nat.mul_add,Nat.add_mul,Nat.pow_add,<-Nat.add_assoc]
 congr 1
 simp only[Nat.mul_assoc,Nat.mul_comm,Nat.mul_left_comm]
def Pm (x y i k:Nat):Nat:=Pn x y i k/bB^(i+k)-x%bB^i*y/bB^(i+k)
theorem Aiz (x y i k:Nat):x%bB^i*y<=Pn x y i k:=Nat.le_add_right _ _
theorem gW (x y i k:Nat):Pn x y i k/bB^(i+k)=x%bB^i*y/bB^(i+k)+Pm x y i k:=by
 unfold Pm
 have:=Nat.div_le_div_right (c:=bB^(i+k)) (Aiz x y i k)
 omega
theorem AkG (x y i:Nat):Pm x y i 0=0:=by
 unfold Pm
 rw[AgY]
 omega
def pnB (x y i k:Nat):Nat:=dB (x%bB^i*y) (i+k)+Pm x y i k+dB x i*dB y k
theorem Adl (x y i k:Nat):Pn x y i (k+1)/bB^(i+k)=bB*(x%bB^i*y/bB^(i+k+1))+pnB x y i k:=by
 rw[Adp,Nat.add_mul_div_right _ _ (Ep _),gW,Lm (x%bB^i*y)]
 unfold pnB
 omega
theorem Aix (x y i k:Nat):dB (Pn x y i (k+1)) (i+k)=pnB x y i k%bB:=by
 unfold dB
 rw[Adl,Nat.mul_add_mod]
theorem Aiw (x y i k:Nat):Pm x y i (k+1)=pnB x y i k/bB:=by
 have h:Pn x y i (k+1)/bB^(i+(k+1))=x%bB^i*y/bB^(i+k+1)+pnB x y i k/bB:=by
  rw[<-Nat.add_assoc,Nat.pow_succ,<-Nat.div_div_eq_div_mul,Adl,<-Nat.pow_succ,Nat.mul_add_div δ]
 unfold Pm
 rw[h]
 show _+_-x%bB^i*y/bB^(i+k+1)=_
 rw[Nat.add_sub_cancel_left]
theorem AfX {x y i k j:Nat} (h:j<i+k):dB (Pn x y i (k+1)) j=dB (Pn x y i k) j:=by
 have e:bB^(i+k)=bB^j*(bB*bB^(i+k-(j+1))):=by
  rw[<-Nat.mul_assoc,<-Nat.pow_succ,<-Nat.pow_add]
  congr 1
  omega
 rw[Adp]
 generalize dB x i*dB y k=D
 have e2:D*bB^(i+k)=bB^j*(bB*(D*bB^(i+k-(j+1)))):=by rw[e];simp only[Nat.mul_left_comm]
 rw[e2]
 unfold dB
 rw[Nat.add_mul_div_left _ _ (Ep _),Nat.add_mul_mod_self_left]
theorem Adn (x y i:Nat):x%bB^i*y<bB^(i+nB y):=by
 rw[Nat.pow_add]
 exact Nat.mul_lt_mul_of_lt_of_le (Nat.mod_lt _ (Ep i)) (Nat.le_of_lt (Ki y)) (Ep _)
theorem Adm {x y i k j:Nat} (hy:nB y<=k) (hc:Pm x y i k=0) (hj:i+k<=j):dB (x%bB^(i+1)*y) j=dB (x%bB^i*y) j:=by
 have h:=gW x y i k
 rw[gZ hy,hc] at h
 obtain⟨m,rfl⟩:∃m,j=i+k+m:=⟨j-(i+k),ω⟩
 unfold dB
 rw[Nat.pow_add bB (i+k),<-Nat.div_div_eq_div_mul,<-Nat.div_div_eq_div_mul,h]
 rfl
theorem Ado {x y i k:Nat} (hi:i<nB x) (h:k<nB y\/0<Pm x y i k):i+k<nB x+nB y:=by
 rcases Nat.lt_or_ge k (nB y) with g|g
 omega
 have hc:0<Pm x y i k:=h.elim (λh=>by omega) id
 have h1:0<Pn x y i k/bB^(i+k):=by rw[gW];exact Nat.lt_of_lt_of_le hc (Nat.le_add_left _ _)
 rw[gZ g] at h1
 have h2:=Adn x y (i+1)
 have h3:bB^(i+k)<=x%bB^(i+1)*y:=by
  rcases Nat.lt_or_ge (x%bB^(i+1)*y) (bB^(i+k)) with g2|g2
  rw[Nat.div_eq_of_lt g2] at h1;omega
  exact g2
 have h4:i+k<i+1+nB y:=(Nat.pow_lt_pow_iff_right (show 1<bB by decide)).1 (Nat.lt_of_le_of_lt h3 h2)
 omega
theorem AjI (x y i k:Nat):Pm x y i k<=dB x i:=by
 have hp:=Ep i
 have hq:bB^(i+k)=bB^k*bB^i:=by rw[Nat.add_comm,Nat.pow_add]
 have hm:=Nat.mod_lt y (Ep k)
 have h:=gW x y i k
 unfold Pn at h
 by_cases h0:dB x i=0
 rw[h0,Nat.zero_mul,Nat.zero_mul,Nat.add_zero] at h
 omega
 have h1:dB x i*(y%bB^k)*bB^i<dB x i*bB^(i+k):=by
  rw[hq,Nat.mul_assoc]
  exact Nat.mul_lt_mul_of_pos_left (Nat.mul_lt_mul_of_pos_right hm hp) ω
 generalize x%bB^i*y=T at*
 generalize dB x i*(y%bB^k)*bB^i=D at*
 have hQ:=Ep (i+k)
 generalize bB^(i+k)=Q at*
 have h2:T+D<(T/Q+dB x i+1)*Q:=by
  rw[Nat.add_mul,Nat.add_mul,Nat.one_mul]
  have h4:T<T/Q*Q+Q:=by
   have:=Nat.div_add_mod T Q
   have:=Nat.mod_lt T hQ
   rw[Nat.mul_comm]
   omega
  omega
 have h5:=(Nat.div_lt_iff_lt_mul hQ).2 h2
 omega
def Hd (x y i:Nat):Nat:=x/bB^i%y
def He (x y i:Nat):Nat:=Hd x y (i+1)*bB+dB x i
theorem Agf (x y:Nat):Hd x y (nB x)=0:=by
 unfold Hd
 rw[Nat.div_eq_of_lt (Ki x),Nat.zero_mod]
theorem Age (x y:Nat):Hd x y 0=x%y:=by
 unfold Hd
 rw[Nat.pow_zero,Nat.div_one]
theorem Ad4 (x y i:Nat):x/bB^i=y*(bB*(x/bB^(i+1)/y))+He x y i:=by
 unfold He Hd
 rw[Lm]
 have h:=Nat.div_add_mod (x/bB^(i+1)) y
 generalize x/bB^(i+1)=X at*
 generalize X/y=q at*
 generalize X%y=r at*
 have e:bB*X=y*(bB*q)+r*bB:=by
  rw[<-h,Nat.mul_add,Nat.mul_left_comm,Nat.mul_comm r]
 omega
theorem lP (x y i:Nat):Hd x y i=He x y i%y:=by
 unfold Hd
 rw[Ad4 x y i,Nat.mul_add_mod]
theorem pU {x y:Nat} (hy:0<y) (i:Nat):He x y i<y*bB:=by
 unfold He Hd
 have h1:=Nat.mod_lt (x/bB^(i+1)) hy
 have h2:=Ic x i
 generalize x/bB^(i+1)%y=r at*
 have h3:(r+1)*bB<=y*bB:=Nat.mul_le_mul_right _ h1
 rw[Nat.add_mul,Nat.one_mul] at h3
 omega
theorem tM {x y:Nat} (hy:0<y) (i:Nat):dB (x/y) i=He x y i/y:=by
 have h:x/y/bB^i=bB*(x/bB^(i+1)/y)+He x y i/y:=by
  rw[Nat.div_div_eq_div_mul,Nat.mul_comm y,<-Nat.div_div_eq_div_mul,Ad4 x y i,Nat.mul_add_div hy]
 have h2:He x y i/y<bB:=(Nat.div_lt_iff_lt_mul hy).2 (by rw[Nat.mul_comm];exact pU hy i)
 show x/y/bB^i%bB=_
 rw[h,Nat.mul_add_mod,Nat.mod_eq_of_lt h2]
theorem Adu (x y:Nat):x/y<bB^nB x:=Nat.lt_of_le_of_lt (Nat.div_le_self x y) (Ki x)
theorem pW {r y l h:Nat} (_:0<y) (h1:y*l<=r) (h2:r<y*(h+1)) (e:¬l<h) (hle:l<=h):l=r/y/\r-y*l=r%y:=by
 obtain rfl:l=h:=by omega
 have e1:r/y=l:=Nat.div_eq_of_lt_le (by rwa [Nat.mul_comm]) (by rwa [Nat.mul_comm])
 have:=Nat.div_add_mod r y
 rw[e1] at this
 exact⟨e1.symm,ω⟩
end Go.Proofs.YtbggmndaahbojaaGreat