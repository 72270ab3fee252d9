/- Part 23 of the proof of ST.row_holds, joined by program: no condition beyond the row's own. -/
import Derived.Test.YtldnjomacnjhnaaGreatT22
set_option maxRecDepth 100000
set_option maxHeartbeats 40000000
namespace Go.Proofs.YtldnjomacnjhnaaGreat
open Go.RowKit
abbrev Gu (r:Rv) (x:Rl):V3:=r.homes.getD x.spare.toNat V3.zero
abbrev Pk (p:Pr) (r:Rv) (c:Cs) (x:Rl):Nat:=Gc p c (Em p r c x.wait)
abbrev atR (p:Pr) (r:Rv) (c:Cs) (x:Rl):V3:=Ko p c (Pk p r c x)
structure AdZ (p:Pr) (r:Rv) (c:Cs) (x:Rl):Prop where
 sp:0<=x.spare/\x.spare<r.homes.length
 wait:∃k,k<r.waits.length/\x.wait=r.waits.getD k 0
 act:Pk p r c x<p.acts.length
 rise:∃u,u<r.rises.length/\x.rise=r.rises.getD u 0
 l1:Kj (Gu r x) x.rise=true
 l2:Kj (atR p r c x) x.rise=true
theorem pE {r:Rv} {w:Int} {v:V3} {i:Nat} {x:Rl}:∀q,x∈eF r w v i q↔∃u,u<q/\x=⟨(i:Int),w,r.rises.getD u 0⟩/\Kj (r.homes.getD i V3.zero) (r.rises.getD u 0)=true/\Kj v (r.rises.getD u 0)=true
 |0=>⟨λh=>(by cases h),λ⟨u,h,_⟩=>absurd h (Nat.not_lt_zero u)⟩
 |q+1=>by
  rw[eF,List.mem_append,pE q]
  constructor
  rintro(⟨u,h1,h2⟩|h)
  exact⟨u,by omega,h2⟩
  split at h
  rename_i hl
  rw[Bool.and_eq_true] at hl
  exact⟨q,Nat.lt_succ_self q,List.mem_singleton.1 h,hl.1,hl.2⟩
  cases h
  rintro⟨u,h1,h2,h3,h4⟩
  by_cases e:u=q
  subst e
  rw[h3,h4]
  exact .inr (List.mem_singleton.2 h2)
  exact .inl ⟨u,by omega,h2,h3,h4⟩
theorem oZ {r:Rv} {w:Int} {v:V3} {o:List Nat} {x:Rl}:∀n,x∈kT r w v o n↔∃m,m<n/\x∈eF r w v (o.getD m 0) r.rises.length
 |0=>⟨λh=>(by cases h),λ⟨u,h,_⟩=>absurd h (Nat.not_lt_zero u)⟩
 |n+1=>by
  rw[kT,List.mem_append,oZ n]
  constructor
  rintro(⟨u,h1,h2⟩|h)
  exact⟨u,by omega,h2⟩
  exact⟨n,Nat.lt_succ_self n,h⟩
  rintro⟨u,h1,h2⟩
  by_cases e:u=n
  subst e;exact .inr h2
  exact .inl ⟨u,by omega,h2⟩
theorem pH {p:Pr} {r:Rv} {c:Cs} {x:Rl}:∀n,x∈Jl p r c n↔∃k,k<n/\kS p r c k=true/\x∈kT r (r.waits.getD k 0) (Bk p r c k) (Ee r (Bk p r c k)) r.homes.length
 |0=>⟨λh=>(by cases h),λ⟨u,h,_⟩=>absurd h (Nat.not_lt_zero u)⟩
 |n+1=>by
  rw[Jl,List.mem_append,pH n]
  constructor
  rintro(⟨u,h1,h2⟩|h)
  exact⟨u,by omega,h2⟩
  split at h
  rename_i hl;exact⟨n,Nat.lt_succ_self n,hl,h⟩
  cases h
  rintro⟨u,h1,h2,h3⟩
  by_cases e:u=n
  subst e;rw[if_pos h2];exact .inr h3
  exact .inl ⟨u,by omega,h2,h3⟩
theorem Ad6 {p:Pr} {r:Rv} {c:Cs} {x:Rl} (h:x∈Pc p r c):AdZ p r c x:=by
 obtain⟨k,hk,hb,h⟩:=(pH _).1 h
 obtain⟨m,hm,h⟩:=(oZ _).1 h
 obtain⟨u,hu,rfl,h1,h2⟩:=(pE _).1 h
 have ho:=Wg r (Bk p r c k) hm
 exact⟨⟨Int.natCast_nonneg _,by show ((_:Nat):Int)<_;omega⟩,⟨k,hk,rfl⟩,of_decide_eq_true hb,⟨u,hu,rfl⟩,h1,h2⟩
abbrev Ej (p:Pr) (c:Cs) (x:Rl):Int:=Bj p c+x.wait
abbrev Ja (p:Pr) (r:Rv) (c:Cs) (x:Rl):Int:=Bj p c+x.wait+r.flight
abbrev Id (p:Pr) (r:Rv) (c:Cs) (x:Rl):Int:=Bn p.acts (Pk p r c x+1)
def Iv (p:Pr) (r:Rv) (c:Cs) (x:Rl):List Sg:=if 0<x.rise then aV (Gu r x) (atR p r c x) x.rise (Ej p c x) (Ja p r c x) else Gj (Gu r x) (atR p r c x) (Ej p c x) (Ja p r c x) 2
def Eg (r:Rv) (p:Pr) (c:Cs) (x:Rl):List Sg:=Gj (Gu r x) (Gu r x) 0 (Ej p c x) 0
def Gm (p:Pr) (r:Rv) (c:Cs) (x:Rl):List Sg:=Gj (atR p r c x) (atR p r c x) (Ja p r c x) (Id p r c x) 0
abbrev Ge (p:Pr) (r:Rv) (c:Cs) (x:Rl):List Sg:=AbR p c.craft.toNat (Pk p r c x+1)
def relP (p:Pr) (r:Rv) (c:Cs) (x:Rl):List Sg:=Eg r p c x++Iv p r c x++Gm p r c x++Ge p r c x
structure Nl (p:Pr) (r:Rv) (c:Cs) (x:Rl):Prop where
 s0:0<Ej p c x/\Ej p c x<Ja p r c x/\Ja p r c x<=Id p r c x/\Id p r c x<=Bn p.acts p.acts.length/\Bn p.acts p.acts.length<=3600000
 q4:(Ja p r c x-Ej p c x)%4=0
 sp:0<=x.spare/\x.spare<r.homes.length
 wait:0<=x.wait/\x.wait<=3600000
 rise:0<=x.rise/\x.rise<=1048576
 act:c.act.toNat+1<=Pk p r c x/\Pk p r c x<p.acts.length
 hp:(Gu r x).pt=true
 ap:(atR p r c x).pt=true
 hu:((Gu r x).up x.rise).pt=true
 au:((atR p r c x).up x.rise).pt=true
 hov:Bs (Eg r p c x) (Gu r x) (Gu r x) 0 (Ej p c x)/\(Eg r p c x).length=1
 go:Bs (Iv p r c x) (Gu r x) (atR p r c x) (Ej p c x) (Ja p r c x)/\1<=(Iv p r c x).length/\(Iv p r c x).length<=3
 stay:Bs (Gm p r c x) (atR p r c x) (atR p r c x) (Ja p r c x) (Id p r c x)/\(Gm p r c x).length<=1
 tail:Bs (Ge p r c x) (atR p r c x) ((Ea p p.acts.length).getD c.craft.toNat V3.zero) (Id p r c x) (Bn p.acts p.acts.length)/\(Ge p r c x).length<=5*p.acts.length
 own:Bs (Ir p (Pk p r c x+1) c.craft.toNat) ((Ea p 0).getD c.craft.toNat V3.zero) (atR p r c x) 0 (Id p r c x)
 app:Ir p p.acts.length c.craft.toNat=Ir p (Pk p r c x+1) c.craft.toNat++Ge p r c x
theorem wJ {l:List Ac} {a:Int}:∀k i,Xx l a k i<i+k->a<=Bn l (Xx l a k i+1)
 |0,i,h=>by rw[Xx] at h;omega
 |k+1,i,h=>by
  rw[Xx] at h ⊢
  split
  assumption
  rename_i hn
  rw[if_neg hn] at h
  exact wJ k (i+1) (by omega)
theorem fF {p:Pr} (ho:Za p) {j:Nat}:∀m,j+m<=p.acts.length->Bn p.acts j<=Bn p.acts (j+m)
 |0,_=>Int.le_refl _
 |m+1,h=>by
  have h1:=fF ho (j:=j) m (by omega)
  have h2:=ho.len (j+m) (by omega)
  rw[show j+(m+1)=j+m+1 from rfl,Bn];omega
theorem AeI {p:Pr} {r:Rv} {c:Cs} {x:Rl} (hc:Fx p c) (hr:Ng r) (h:AdZ p r c x):Nl p r c x:=by
 have ho:=Kl hc.1
 obtain⟨_,c1,c2,c3,c4⟩:=hc
 obtain⟨⟨n1,n2,f1,f2,f4⟩,hh,hw,hs⟩:=hr
 obtain⟨k,hk,ek⟩:=h.wait
 obtain⟨u,hu,eu⟩:=h.rise
 have wk:=hw.2.2 k hk
 have wu:=hs.2.2 u hu
 have act:=h.act
 have hlo:c.act.toNat+1<=Pk p r c x:=(wK _ _).1
 have hge:Ja p r c x<=Id p r c x:=wJ _ _ (by have:=h.act;show Pk p r c x<_;omega)
 have hcr:c.craft.toNat<p.names.length:=by omega
 have e0:0<Bj p c:=nE ho (c.act.toNat+1) (by omega) (Nat.succ_pos _)
 have e1:=(ho.ends p.acts.length (Nat.le_refl _)).2
 have e2:Id p r c x<=Bn p.acts p.acts.length:=by
  have:=fF ho (j:=Pk p r c x+1) (p.acts.length-(Pk p r c x+1)) (by omega)
  rwa [show Pk p r c x+1+(p.acts.length-(Pk p r c x+1))=p.acts.length by omega] at this
 have hp:(Gu r x).pt=true:=(hh x.spare.toNat (by have:=h.sp;omega)).1
 have ap:(atR p r c x).pt=true:=ho.to (by omega) hcr
 have q4:(Ja p r c x-Ej p c x)%4=0:=by
  have:Int.tmod r.flight 4=0:=f4
  rw[Int.tmod_eq_emod_of_nonneg (by omega)] at this
  show (Bj p c+x.wait+r.flight-(Bj p c+x.wait))%4=0
  omega
 have s1:0<Ej p c x:=by show 0<Bj p c+x.wait;omega
 have s2:Ej p c x<Ja p r c x:=by show Bj p c+x.wait<Bj p c+x.wait+r.flight;omega
 have ef:(Ea p (Pk p r c x+1)).getD c.craft.toNat V3.zero=atR p r c x:=uS p _ _
 have hov:=Mz (a:=Gu r x) (f:=0) (t:=Ej p c x) hp (Int.le_refl 0) (by omega) (by omega)
 have stay:=Mz (a:=atR p r c x) (f:=Ja p r c x) (t:=Id p r c x) ap (by omega) hge (by omega)
 have tail:=pJ ho hcr (k:=Pk p r c x+1) (by omega)
 rw[ef] at tail
 have own:=Xq ho hcr (Pk p r c x+1) (by omega)
 rw[ef] at own
 have go:Bs (Iv p r c x) (Gu r x) (atR p r c x) (Ej p c x) (Ja p r c x)/\(Iv p r c x).length<=3:=by
  unfold Iv
  split
  exact⟨eY hp ap h.l1 h.l2 (by omega) s2 (by omega) q4,by rw[aW];exact Nat.le_refl _⟩
  exact⟨Xl (.inl rfl) hp ap (by omega) s2 (by omega),by have:=Ig (Gu r x) (atR p r c x) (Ej p c x) (Ja p r c x) 2;omega⟩
 refine⟨⟨s1,s2,hge,e2,e1⟩,q4,h.sp,by omega,by omega,⟨hlo,act⟩,hp,ap,h.l1,h.l2,⟨hov,?_⟩,⟨go.1,go.1.pos s2,go.2⟩,⟨stay,Ig _ _ _ _ _⟩,⟨tail,?_⟩,own,zE _ (by omega)⟩
 have h1:=hov.pos s1
 have h2:=Ig (Gu r x) (Gu r x) 0 (Ej p c x) 0
 show (Gj _ _ _ _ _).length=1
 omega
 have:=oV p c.craft.toNat (Pk p r c x+1) (p.acts.length-(Pk p r c x+1))
 show (sK _ _ _ _).length<=_
 omega
end Go.Proofs.YtldnjomacnjhnaaGreat
namespace Go.Proofs.YtldnjomacnjhnaaGreat
open Go.Proofs.Tryz
open Go.RowKit
theorem Ac7 (l:List Sg) (f t:Int) (hl:Dj l) (hok:Fm l) (hf:0<=f/\f<=3600000) (ht:0<=t/\t<=3600000) (hpos:0<(Hz l f t l.length).length):AF Tryz.prog 87 [Ai l,.int f,.int t] (kV (nA l f t)):=by
 have hln:=hok.2
 refine AdW ⟨[(0,Ai l),(1,.int f),(2,.int t)],[],0,23⟩ func87 rfl 23 ntmps87 (by kernel_rfl) (by kernel_rfl) λB D0 hA0=>?_
 refine kP 2 [0,1,2,6,7] ?_
 refine Jg (Cj ?_)
 refine It 3 ?_
 refine eU 116 [Ai l,.int f,.int t] 8 rfl (by kernel_rfl) (vX 116 #[.tmp 10,.tmp 11,.tmp 12] #[54,3,3] (by kernel_rfl) (λ_ _=>by kernel_rfl) _ (by kernel_rfl)) func116 rfl ntmps116 (by kernel_rfl) λ_ hD1=>?_
 refine kP 4 [3,4,5] ?_
 refine Cj (Ad4 (.fn 139 [.ptr 2 0,.ptr 3 0,.ptr 4 0]) (Af1 139 #[.tmp 3,.tmp 4,.tmp 5] [.ptr 2 0,.ptr 3 0,.ptr 4 0]) ?_)
 refine It 1 ?_
 refine Pa [6] ?_
 refine Pu ?_
 refine⟨.inl rfl,.fn 139 [.ptr 2 0,.ptr 3 0,.ptr 4 0],(Aei results116 (gR (x:= .fn 139 [.ptr 2 0,.ptr 3 0,.ptr 4 0]) (by kernel_rfl))).castI (by kernel_rfl),?_⟩
 refine Pa [6,7,13] ?_
 refine Kd (Aao 139 [.ptr 2 0,.ptr 3 0,.ptr 4 0] 62 (by kernel_rfl) (λ_ _=>by kernel_rfl) func139 rfl ntmps139 (by kernel_rfl) λsp2 sp2p sp2a sp2b _ hD3=>?_)
 refine Cj (It 1 ?_)
 refine Ad4 (.int ((l).length:Int)) (AfN (.tmp 12) 54 #[54] underlying54 ((l).length) (.inl ⟨6,(λi0=>Bq ((l).getD i0 Sg.none)),by kernel_rfl⟩)) ?_
 refine It 1 ?_
 refine Pa [0,2,3,12,13,14] ?_
 refine Kd (Xz (λm s=>∃r n,r<=l.length/\m=l.length-r/\(n=(Hz l f t r).length/\Yi l f t r/\n<=r)/\(((n=0)/\s=⟨[(0,.yld 5),(2,.ptr 3 0),(3,.ptr 4 0),(12,Ai l),(13,.int ((l).length:Int)),(14,.int (r:Int))],[(0,.box 54 [.lit (.slice none 0 0)]),(1,.box 37 [.int 0]),(2,.box 54 [Ai l]),(3,.box 3 [.int f]),(4,.box 3 [.int t]),(5,.loop .ready none sp2 [(6,.ptr 0 0),(7,.ptr 1 0),(13,.fn 139 [.ptr 2 0,.ptr 3 0,.ptr 4 0])] 23)],6,62⟩)\/((0<n)/\s=⟨[(0,.yld 5),(2,.ptr 3 0),(3,.ptr 4 0),(12,Ai l),(13,.int ((l).length:Int)),(14,.int (r:Int))],[(0,.box 54 [.osl 50 6 n]),(1,.box 37 [.int 0]),(2,.box 54 [Ai l]),(3,.box 3 [.int f]),(4,.box 3 [.int t]),(5,.loop .ready none sp2 [(6,.ptr 0 0),(7,.ptr 1 0),(13,.fn 139 [.ptr 2 0,.ptr 3 0,.ptr 4 0])] 23),(50,.vec 81 6 n (λxi=>Bq ((Hz l f t r).getD xi Sg.none)))],51,62⟩))) l.length ⟨0,0,Nat.zero_le _,rfl,⟨rfl,λj hj=>absurd hj (Nat.not_lt_zero j),Nat.le_refl _⟩,(.inl ⟨rfl,(by kernel_rfl)⟩)⟩ ?_)
 rintro _ _ ⟨r,n,hrn,rfl,hFr,(⟨hr0,rfl⟩|⟨hr0,rfl⟩)⟩
 refine Cj (qb (decide ((r:Int)<((l).length:Int))) ?_)
 refine Pa [0,2,3,12,13,14,15] ?_
 refine Jg ?_
 refine Dx (decide ((r:Int)<((l).length:Int))) (λhx4=>?_) (λhx4=>?_)
 have hx4d:=of_decide_eq_true hx4
 refine qT hx4 ?_
 refine Lr (Jg ?_)
 refine Kd ?_
 have hso:=(hok.1 r (by omega)).1
 have hs:=hl.2 r
 have hh:=hso.1
 unfold Kh at hh
 have hA:pA l f r=max f ((l).getD r Sg.none).f:=rfl
 have hB:pB l t r=min t ((l).getD r Sg.none).t:=rfl
 have hD:pD ((l).getD r Sg.none)=((l).getD r Sg.none).t-((l).getD r Sg.none).f:=rfl
 refine Cj (Ad4 (.elt 6 (λq=>AV.cell (Bq ((l).getD r Sg.none)) q)) (gQ 54 (.tmp 12) (.tmp 14) underlying54 6 ((l).length) r (λi0=>Bq ((l).getD i0 Sg.none)) (r:Int) sizeOf81) ?_)
 refine It 3 ?_
 refine Pa [0,2,3,6,12,13,14] ?_
 refine Xt [(3,.int (max f (((l).getD r Sg.none).f)),.none),(7,.int (min t (((l).getD r Sg.none).t)),.none)] [0,2,3,6,7,8,12,13,14] 7 ⟨?_,?_,trivial⟩ ?_
 exact Av (kE (.tmp 18) (.tmp 20) #[3,3] (by kernel_rfl) f (((l).getD r Sg.none).f) (by kernel_rfl) (by kernel_rfl))
 exact Av (vM (.tmp 22) (.tmp 24) #[3,3] (by kernel_rfl) t (((l).getD r Sg.none).t) (by kernel_rfl) (by kernel_rfl))
 refine Jg (Cj ?_)
 refine It 2 ?_
 refine qb (decide (min t (((l).getD r Sg.none).t)<=max f (((l).getD r Sg.none).f))) ?_
 refine Pa [0,2,3,6,7,8,12,13,14,28] ?_
 refine Dx (decide (min t (((l).getD r Sg.none).t)<=max f (((l).getD r Sg.none).f))) (λhx5=>?_) (λhx5=>?_)
 have hx5d:=of_decide_eq_true hx5
 refine qT hx5 ?_
 refine Ut (kN [0,2,3,6,7,8,12,13,14,28] ⟨[(0,.yld 5),(2,.ptr 3 0),(3,.ptr 4 0),(6,.ptr 6 0),(7,.int (max f (((l).getD r Sg.none).f))),(8,.int (min t (((l).getD r Sg.none).t))),(12,Ai l),(13,.int ((l).length:Int)),(14,.int (r:Int)),(28,.bool true)],[(0,.box 54 [.lit (.slice none 0 0)]),(1,.box 37 [.int 0]),(2,.box 54 [Ai l]),(3,.box 3 [.int f]),(4,.box 3 [.int t]),(5,.loop .ready none sp2 [(6,.ptr 0 0),(7,.ptr 1 0),(13,.fn 139 [.ptr 2 0,.ptr 3 0,.ptr 4 0])] 23),(6,.box 81 [.int (((l).getD r Sg.none).f),.int (((l).getD r Sg.none).t),.int (((l).getD r Sg.none).o),Ao (((l).getD r Sg.none).x),Ao (((l).getD r Sg.none).y),Ao (((l).getD r Sg.none).z)])],7,62⟩ ?_)
 refine vQ [(0,0),(1,1),(2,2),(3,3),(4,4),(5,5)] 6 6 hD3 _ (Cd (Cd (Cd (Cd (Cd (Qh (Cd Sy))))))) ?_
 refine Je (qw ((r:Int)+1) ((r+1:Nat):Int) ?_)
 refine It 1 ?_
 refine Tw [0,2,3,12,13,14] ?_
 exact⟨_,(by omega:l.length-(r+1)<l.length-r),r+1,0,(by omega),rfl,⟨by rw[Ou (by omega)];omega,aZ (by omega) hFr.2.1,by omega⟩,(.inl ⟨by omega,(by kernel_rfl)⟩)⟩
 have hx5d:=of_decide_eq_false hx5
 refine qF hx5 ?_
 refine Lr ?_
 have hlt:pA l f r<pB l t r:=by omega
 refine Cj (It 4 ?_)
 refine qv (((l).getD r Sg.none).t-((l).getD r Sg.none).f) ?_
 refine It 1 ?_
 refine Pa [0,2,3,6,7,8,9,12,13,14] ?_
 refine Dx (Wj ((l).getD r Sg.none) (pA l f r) (pB l t r)) (λhx6=>?_) (λhx6=>?_)
 refine Xt [(6,.int (max f (((l).getD r Sg.none).f)-((l).getD r Sg.none).f),.none),(9,.int (min t (((l).getD r Sg.none).t)-max f (((l).getD r Sg.none).f)),.none),(11,.agg [Fe ((l).getD r Sg.none).x (pA l f r-((l).getD r Sg.none).f) (pB l t r-pA l f r) (pD ((l).getD r Sg.none)),Fe ((l).getD r Sg.none).y (pA l f r-((l).getD r Sg.none).f) (pB l t r-pA l f r) (pD ((l).getD r Sg.none)),Fe ((l).getD r Sg.none).z (pA l f r-((l).getD r Sg.none).f) (pB l t r-pA l f r) (pD ((l).getD r Sg.none))],.none),(14,.lit (Aj (((l).getD r Sg.none).o)),.none),(16,.lit (Aj (pD ((l).getD r Sg.none)^5)),.none),(17,.lit (Aj (((l).getD r Sg.none).o*pD ((l).getD r Sg.none)^5)),.none),(18,.lit (.tuple #[.agg #[.int .i64 (pA l f r),.int .i64 (pB l t r),.int .i64 0,.slice none 0 0,.slice none 0 0,.slice none 0 0],.bool false]),.none),(20,.lit (.agg #[.int .i64 (pA l f r),.int .i64 (pB l t r),.int .i64 0,.slice none 0 0,.slice none 0 0,.slice none 0 0]),.none),(21,.bool false,.none)] [0,2,3,10,11,12,13,14] 8 ⟨?_,?_,?_,?_,?_,?_,?_,?_,?_,trivial⟩ ?_
 exact qwD (max f (((l).getD r Sg.none).f)-((l).getD r Sg.none).f)
 exact qwD (min t (((l).getD r Sg.none).t)-max f (((l).getD r Sg.none).f))
 exact Av (Lp 141 #[.tmp 37,.tmp 41,.tmp 44,.tmp 45] #[81,3,3,3] [Bq ((l).getD r Sg.none),.int (max f (((l).getD r Sg.none).f)-((l).getD r Sg.none).f),.int (min t (((l).getD r Sg.none).t)-max f (((l).getD r Sg.none).f)),.int (((l).getD r Sg.none).t-((l).getD r Sg.none).f)] (.agg [Fe ((l).getD r Sg.none).x (pA l f r-((l).getD r Sg.none).f) (pB l t r-pA l f r) (pD ((l).getD r Sg.none)),Fe ((l).getD r Sg.none).y (pA l f r-((l).getD r Sg.none).f) (pB l t r-pA l f r) (pD ((l).getD r Sg.none)),Fe ((l).getD r Sg.none).z (pA l f r-((l).getD r Sg.none).f) (pB l t r-pA l f r) (pD ((l).getD r Sg.none))]) (Ls ((l).getD r Sg.none) _ _ _ hs hso (Bo (by omega)) (Bo (by omega)) (Bo (by omega)) (by omega)))
 exact Av (Lp 95 #[.tmp 48] #[3] [.int (((l).getD r Sg.none).o)] (.lit (Aj (((l).getD r Sg.none).o))) (Gp _ hs.o.1 hs.o.2))
 exact Ad3 (Gh (pD ((l).getD r Sg.none)) 5 (Bo (by omega)).1 (Bo (by omega)).2 (by omega) (λj hj=>El (Bo (by omega)) (by omega)))
 exact Av (Lp 94 #[.tmp 49,.tmp 51] #[70,70] [.lit (Aj (((l).getD r Sg.none).o)),.lit (Aj (pD ((l).getD r Sg.none)^5))] (.lit (Aj (((l).getD r Sg.none).o*pD ((l).getD r Sg.none)^5))) (Ke _ _ (Hx hs.o) (El (Bo (by omega)) (by omega)) ((Xr hs (Bo (by omega))).fit (by omega))))
 exact Av (Lp 140 #[.tmp 35,.tmp 36,.tmp 46,.tmp 52] #[3,3,203,70] [.int (max f (((l).getD r Sg.none).f)),.int (min t (((l).getD r Sg.none).t)),.agg [Fe ((l).getD r Sg.none).x (pA l f r-((l).getD r Sg.none).f) (pB l t r-pA l f r) (pD ((l).getD r Sg.none)),Fe ((l).getD r Sg.none).y (pA l f r-((l).getD r Sg.none).f) (pB l t r-pA l f r) (pD ((l).getD r Sg.none)),Fe ((l).getD r Sg.none).z (pA l f r-((l).getD r Sg.none).f) (pB l t r-pA l f r) (pD ((l).getD r Sg.none))],.lit (Aj (((l).getD r Sg.none).o*pD ((l).getD r Sg.none)^5))] (.lit (.tuple #[.agg #[.int .i64 (pA l f r),.int .i64 (pB l t r),.int .i64 0,.slice none 0 0,.slice none 0 0,.slice none 0 0],.bool false])) (aG ((l).getD r Sg.none) _ _ hs hso (by omega) (by omega) hx6))
 exact Av (Af2 (v:= .agg #[.int .i64 (pA l f r),.int .i64 (pB l t r),.int .i64 0,.slice none 0 0,.slice none 0 0,.slice none 0 0]) (v':= .agg #[.int .i64 (pA l f r),.int .i64 (pB l t r),.int .i64 0,.slice none 0 0,.slice none 0 0,.slice none 0 0]) rfl _)
 exact qbD
 refine Cj (It 3 ?_)
 refine Vd (.tmp 56) #[.tmp 57,.tmp 58] #[81,4] 5 [(6,.ptr 0 0),(7,.ptr 1 0),(13,.fn 139 [.ptr 2 0,.ptr 3 0,.ptr 4 0])] 23 [.lit (.agg #[.int .i64 (pA l f r),.int .i64 (pB l t r),.int .i64 0,.slice none 0 0,.slice none 0 0,.slice none 0 0]),.bool false] sp2p sp2a sp2b rfl (by kernel_rfl) rfl (by kernel_rfl) (by kernel_rfl) (by kernel_rfl) (by kernel_rfl) ⟨[(15,.bool false),(14,.lit (.agg #[.int .i64 (pA l f r),.int .i64 (pB l t r),.int .i64 0,.slice none 0 0,.slice none 0 0,.slice none 0 0])),(6,.ptr 0 0),(7,.ptr 1 0),(13,.fn 139 [.ptr 2 0,.ptr 3 0,.ptr 4 0])],[(0,.box 54 [.lit (.slice none 0 0)]),(1,.box 37 [.int 0]),(2,.box 54 [Ai l]),(3,.box 3 [.int f]),(4,.box 3 [.int t]),(5,.loop .ready none sp2 [(6,.ptr 0 0),(7,.ptr 1 0),(13,.fn 139 [.ptr 2 0,.ptr 3 0,.ptr 4 0])] 23),(6,.box 81 [.int (((l).getD r Sg.none).f),.int (((l).getD r Sg.none).t),.int (((l).getD r Sg.none).o),Ao (((l).getD r Sg.none).x),Ao (((l).getD r Sg.none).y),Ao (((l).getD r Sg.none).z)]),(7,.box 81 [.int (pA l f r),.int (pB l t r),.int 0,.lit (.slice none 0 0),.lit (.slice none 0 0),.lit (.slice none 0 0)])],8,23⟩ (by kernel_rfl) λ_ _ hD7=>?_
 refine kP 2 [6,7,8,15] ?_
 refine Je (It 1 ?_)
 refine Tw [6,7,8,9] ?_
 refine⟨[(6,.ptr 0 0),(7,.ptr 1 0),(13,.fn 139 [.ptr 2 0,.ptr 3 0,.ptr 4 0])],(by kernel_rfl),?_⟩
 refine Kd (Jg ?_)
 refine Cj (It 1 ?_)
 refine qb true ?_
 refine Pa [6,7,8,17] ?_
 refine kO (kP 2 [6,7] ?_)
 refine Pu ?_
 refine⟨[(6,.ptr 0 0),(7,.ptr 1 0),(13,.fn 139 [.ptr 2 0,.ptr 3 0,.ptr 4 0])],(by kernel_rfl),?_⟩
 refine qb true ?_
 refine Pa [0,2,3,12,13,14,60] ?_
 refine kO (Pu ?_)
 refine⟨.inl rfl,.lit (.tuple #[]),(Pe results139).castI (by kernel_rfl),.done,(some .ret),[(6,.ptr 0 0),(7,.ptr 1 0),(13,.fn 139 [.ptr 2 0,.ptr 3 0,.ptr 4 0])],23,(by kernel_rfl),(λh=>by cases h),?_⟩
 refine Pu ?_
 exact⟨.inl rfl,(kW results87 (Jm (x:= .lit (.slice none 0 0)) 0 isAgg54 0 [.lit (.slice none 0 0)] (by kernel_rfl) 54 (by kernel_rfl) (Nat.le_of_ble_eq_true (by kernel_rfl)) (by kernel_rfl) (by kernel_rfl)) (Jm (x:= .int 7) 1 isAgg37 0 [.int 7] (by kernel_rfl) 37 (by kernel_rfl) (Nat.le_of_ble_eq_true (by kernel_rfl)) (by kernel_rfl) (by kernel_rfl))).cast (Pd (uI (j:=r) (by omega) hlt hx6) (by decide)).symm⟩
 refine Xt [(6,.int (max f (((l).getD r Sg.none).f)-((l).getD r Sg.none).f),.none),(9,.int (min t (((l).getD r Sg.none).t)-max f (((l).getD r Sg.none).f)),.none),(11,.agg [Fe ((l).getD r Sg.none).x (pA l f r-((l).getD r Sg.none).f) (pB l t r-pA l f r) (pD ((l).getD r Sg.none)),Fe ((l).getD r Sg.none).y (pA l f r-((l).getD r Sg.none).f) (pB l t r-pA l f r) (pD ((l).getD r Sg.none)),Fe ((l).getD r Sg.none).z (pA l f r-((l).getD r Sg.none).f) (pB l t r-pA l f r) (pD ((l).getD r Sg.none))],.none),(14,.lit (Aj (((l).getD r Sg.none).o)),.none),(16,.lit (Aj (pD ((l).getD r Sg.none)^5)),.none),(17,.lit (Aj (((l).getD r Sg.none).o*pD ((l).getD r Sg.none)^5)),.none),(18,.tup [Bq (Bu ((l).getD r Sg.none) (pA l f r) (pB l t r)),.bool true],.none)] [0,2,3,10,11,12,13,14] 8 ⟨?_,?_,?_,?_,?_,?_,?_,trivial⟩ ?_
 exact qwD (max f (((l).getD r Sg.none).f)-((l).getD r Sg.none).f)
 exact qwD (min t (((l).getD r Sg.none).t)-max f (((l).getD r Sg.none).f))
 exact Av (Lp 141 #[.tmp 37,.tmp 41,.tmp 44,.tmp 45] #[81,3,3,3] [Bq ((l).getD r Sg.none),.int (max f (((l).getD r Sg.none).f)-((l).getD r Sg.none).f),.int (min t (((l).getD r Sg.none).t)-max f (((l).getD r Sg.none).f)),.int (((l).getD r Sg.none).t-((l).getD r Sg.none).f)] (.agg [Fe ((l).getD r Sg.none).x (pA l f r-((l).getD r Sg.none).f) (pB l t r-pA l f r) (pD ((l).getD r Sg.none)),Fe ((l).getD r Sg.none).y (pA l f r-((l).getD r Sg.none).f) (pB l t r-pA l f r) (pD ((l).getD r Sg.none)),Fe ((l).getD r Sg.none).z (pA l f r-((l).getD r Sg.none).f) (pB l t r-pA l f r) (pD ((l).getD r Sg.none))]) (Ls ((l).getD r Sg.none) _ _ _ hs hso (Bo (by omega)) (Bo (by omega)) (Bo (by omega)) (by omega)))
 exact Av (Lp 95 #[.tmp 48] #[3] [.int (((l).getD r Sg.none).o)] (.lit (Aj (((l).getD r Sg.none).o))) (Gp _ hs.o.1 hs.o.2))
 exact Ad3 (Gh (pD ((l).getD r Sg.none)) 5 (Bo (by omega)).1 (Bo (by omega)).2 (by omega) (λj hj=>El (Bo (by omega)) (by omega)))
 exact Av (Lp 94 #[.tmp 49,.tmp 51] #[70,70] [.lit (Aj (((l).getD r Sg.none).o)),.lit (Aj (pD ((l).getD r Sg.none)^5))] (.lit (Aj (((l).getD r Sg.none).o*pD ((l).getD r Sg.none)^5))) (Ke _ _ (Hx hs.o) (El (Bo (by omega)) (by omega)) ((Xr hs (Bo (by omega))).fit (by omega))))
 exact Av (Lp 140 #[.tmp 35,.tmp 36,.tmp 46,.tmp 52] #[3,3,203,70] [.int (max f (((l).getD r Sg.none).f)),.int (min t (((l).getD r Sg.none).t)),.agg [Fe ((l).getD r Sg.none).x (pA l f r-((l).getD r Sg.none).f) (pB l t r-pA l f r) (pD ((l).getD r Sg.none)),Fe ((l).getD r Sg.none).y (pA l f r-((l).getD r Sg.none).f) (pB l t r-pA l f r) (pD ((l).getD r Sg.none)),Fe ((l).getD r Sg.none).z (pA l f r-((l).getD r Sg.none).f) (pB l t r-pA l f r) (pD ((l).getD r Sg.none))],.lit (Aj (((l).getD r Sg.none).o*pD ((l).getD r Sg.none)^5))] (.tup [Bq (Bu ((l).getD r Sg.none) (pA l f r) (pB l t r)),.bool true]) (aH ((l).getD r Sg.none) _ _ hs hso (by omega) (by omega) hx6))
 refine Cj (It 3 ?_)
 refine Vd (.tmp 56) #[.tmp 57,.tmp 58] #[81,4] 5 [(6,.ptr 0 0),(7,.ptr 1 0),(13,.fn 139 [.ptr 2 0,.ptr 3 0,.ptr 4 0])] 23 [Bq (Bu ((l).getD r Sg.none) (pA l f r) (pB l t r)),.bool true] sp2p sp2a sp2b rfl (by kernel_rfl) rfl (by kernel_rfl) (by kernel_rfl) (by kernel_rfl) (by kernel_rfl) ⟨[(15,.bool true),(14,Bq (Bu ((l).getD r Sg.none) (pA l f r) (pB l t r))),(6,.ptr 0 0),(7,.ptr 1 0),(13,.fn 139 [.ptr 2 0,.ptr 3 0,.ptr 4 0])],[(0,.box 54 [.lit (.slice none 0 0)]),(1,.box 37 [.int 0]),(2,.box 54 [Ai l]),(3,.box 3 [.int f]),(4,.box 3 [.int t]),(5,.loop .ready none sp2 [(6,.ptr 0 0),(7,.ptr 1 0),(13,.fn 139 [.ptr 2 0,.ptr 3 0,.ptr 4 0])] 23),(6,.box 81 [.int (((l).getD r Sg.none).f),.int (((l).getD r Sg.none).t),.int (((l).getD r Sg.none).o),Ao (((l).getD r Sg.none).x),Ao (((l).getD r Sg.none).y),Ao (((l).getD r Sg.none).z)]),(7,.box 81 [.int ((Bu ((l).getD r Sg.none) (pA l f r) (pB l t r)).f),.int ((Bu ((l).getD r Sg.none) (pA l f r) (pB l t r)).t),.int ((Bu ((l).getD r Sg.none) (pA l f r) (pB l t r)).o),Ao ((Bu ((l).getD r Sg.none) (pA l f r) (pB l t r)).x),Ao ((Bu ((l).getD r Sg.none) (pA l f r) (pB l t r)).y),Ao ((Bu ((l).getD r Sg.none) (pA l f r) (pB l t r)).z)])],8,23⟩ (by kernel_rfl) λ_ _ hD8=>?_
 refine kP 2 [6,7,8,15] ?_
 refine Je (It 1 ?_)
 refine Tw [6,7,8,9] ?_
 refine⟨[(6,.ptr 0 0),(7,.ptr 1 0),(13,.fn 139 [.ptr 2 0,.ptr 3 0,.ptr 4 0])],(by kernel_rfl),?_⟩
 refine Kd (Jg ?_)
 refine Cj (It 1 ?_)
 refine qb false ?_
 refine Pa [6,7,8,17] ?_
 refine Zv (Lr ?_)
 refine Je (It 2 ?_)
 refine qop (.osl 9 6 1) (.new 9 (.vec 81 6 1 (λ_=>Bq (Bu ((l).getD r Sg.none) (pA l f r) (pB l t r))))) (Yv 54 1 #[(0,(.tmp 19))] underlying54 6 sizeOf81 _ zeroValue81 9 [.int ((Bu ((l).getD r Sg.none) (pA l f r) (pB l t r)).f),.int ((Bu ((l).getD r Sg.none) (pA l f r) (pB l t r)).t),.int ((Bu ((l).getD r Sg.none) (pA l f r) (pB l t r)).o),Ao ((Bu ((l).getD r Sg.none) (pA l f r) (pB l t r)).x),Ao ((Bu ((l).getD r Sg.none) (pA l f r) (pB l t r)).y),Ao ((Bu ((l).getD r Sg.none) (pA l f r) (pB l t r)).z)] (λ_=>Bq (Bu ((l).getD r Sg.none) (pA l f r) (pB l t r)))) ?_
 refine qop (.osl 10 6 1) (.newr 9 10 (.vec 81 6 1 (λxi=>Bq ((Hz l f t (r+1)).getD xi Sg.none)))) (Cr (.tmp 18) (.tmp 20) 54 (by kernel_rfl) underlying54 6 96 (.agg #[.int .i64 0,.int .i64 0,.int .i64 0,.slice none 0 0,.slice none 0 0,.slice none 0 0]) (by kernel_rfl) (by kernel_rfl) (by decide) 1 (by omega) (λ_=>Bq (Bu ((l).getD r Sg.none) (pA l f r) (pB l t r))) (λxi=>Bq ((Hz l f t (r+1)).getD xi Sg.none)) 10 (λi hi=>by(obtain rfl:i=0:=(by omega));show Bq _=Bq _;rw[Mq hlt,List.eq_nil_of_length_eq_zero (by omega:(Hz l f t r).length=0)];rfl) (λi hi j hj=>match j,hj with|0,_=>rfl|1,_=>rfl|2,_=>rfl|3,_=>rfl|4,_=>rfl|5,_=>rfl|_+6,h=>absurd h (by omega)) (by unfold maxLen;omega) (by omega) (by kernel_rfl) 9 81 (by kernel_rfl) (by kernel_rfl)) ?_
 refine It 1 ?_
 refine Tw [] ?_
 refine⟨[(6,.ptr 0 0),(7,.ptr 1 0),(13,.fn 139 [.ptr 2 0,.ptr 3 0,.ptr 4 0])],(by kernel_rfl),?_⟩
 refine qb false ?_
 refine Pa [0,2,3,12,13,14,60] ?_
 refine Zv (Lr ?_)
 refine kN [0,2,3,12,13,14,60] ⟨[(0,.yld 5),(2,.ptr 3 0),(3,.ptr 4 0),(12,Ai l),(13,.int ((l).length:Int)),(14,.int (r:Int)),(60,.bool false)],[(0,.box 54 [.osl 10 6 1]),(1,.box 37 [.int 0]),(2,.box 54 [Ai l]),(3,.box 3 [.int f]),(4,.box 3 [.int t]),(5,.loop .ready none sp2 [(6,.ptr 0 0),(7,.ptr 1 0),(13,.fn 139 [.ptr 2 0,.ptr 3 0,.ptr 4 0])] 23),(6,.box 81 [.int (((l).getD r Sg.none).f),.int (((l).getD r Sg.none).t),.int (((l).getD r Sg.none).o),Ao (((l).getD r Sg.none).x),Ao (((l).getD r Sg.none).y),Ao (((l).getD r Sg.none).z)]),(7,.box 81 [.int ((Bu ((l).getD r Sg.none) (pA l f r) (pB l t r)).f),.int ((Bu ((l).getD r Sg.none) (pA l f r) (pB l t r)).t),.int ((Bu ((l).getD r Sg.none) (pA l f r) (pB l t r)).o),Ao ((Bu ((l).getD r Sg.none) (pA l f r) (pB l t r)).x),Ao ((Bu ((l).getD r Sg.none) (pA l f r) (pB l t r)).y),Ao ((Bu ((l).getD r Sg.none) (pA l f r) (pB l t r)).z)]),(8,.box 81 [.int ((Bu ((l).getD r Sg.none) (pA l f r) (pB l t r)).f),.int ((Bu ((l).getD r Sg.none) (pA l f r) (pB l t r)).t),.int ((Bu ((l).getD r Sg.none) (pA l f r) (pB l t r)).o),Ao ((Bu ((l).getD r Sg.none) (pA l f r) (pB l t r)).x),Ao ((Bu ((l).getD r Sg.none) (pA l f r) (pB l t r)).y),Ao ((Bu ((l).getD r Sg.none) (pA l f r) (pB l t r)).z)]),(9,.vec 81 6 1 (λ_=>Bq (Bu ((l).getD r Sg.none) (pA l f r) (pB l t r)))),(10,.vec 81 6 1 (λxi=>Bq ((Hz l f t (r+1)).getD xi Sg.none)))],11,62⟩ ?_
 refine vQ [(0,0),(1,1),(2,2),(3,3),(4,4),(5,5),(10,50)] 51 6 hD3 _ (Cd (Cd (Cd (Cd (Cd (Qh (Cd (Cd (Cd (Ov (λi _ j hj=>match j,hj with|0,_=>rfl|1,_=>rfl|2,_=>rfl|3,_=>rfl|4,_=>rfl|5,_=>rfl|_+6,h=>absurd h (by omega)) (Ov (λi _ j hj=>match j,hj with|0,_=>rfl|1,_=>rfl|2,_=>rfl|3,_=>rfl|4,_=>rfl|5,_=>rfl|_+6,h=>absurd h (by omega)) Sy))))))))))) ?_
 refine Je (qw ((r:Int)+1) ((r+1:Nat):Int) ?_)
 refine It 1 ?_
 refine Tw [0,2,3,12,13,14] ?_
 exact⟨_,(by omega:l.length-(r+1)<l.length-r),r+1,1,(by omega),rfl,⟨by rw[Mq hlt,List.length_append,List.length_singleton];omega,fC hx6 hFr.2.1,by omega⟩,(.inr ⟨by omega,(by kernel_rfl)⟩)⟩
 have hx4d:=of_decide_eq_false hx4
 refine qF hx4 ?_
 refine Ut ?_
 refine⟨.inr rfl,.lit (.tuple #[]),(Pe results139).castI (by kernel_rfl),.ready,none,[(6,.ptr 0 0),(7,.ptr 1 0),(13,.fn 139 [.ptr 2 0,.ptr 3 0,.ptr 4 0])],23,(by kernel_rfl),(λh=>by cases h),?_⟩
 exfalso;have hql:r=l.length:=(by omega);subst hql;omega
 refine Cj (qb (decide ((r:Int)<((l).length:Int))) ?_)
 refine Pa [0,2,3,12,13,14,15] ?_
 refine Jg ?_
 refine Dx (decide ((r:Int)<((l).length:Int))) (λhx9=>?_) (λhx9=>?_)
 have hx9d:=of_decide_eq_true hx9
 refine qT hx9 ?_
 refine Lr (Jg ?_)
 refine Kd ?_
 have hso:=(hok.1 r (by omega)).1
 have hs:=hl.2 r
 have hh:=hso.1
 unfold Kh at hh
 have hA:pA l f r=max f ((l).getD r Sg.none).f:=rfl
 have hB:pB l t r=min t ((l).getD r Sg.none).t:=rfl
 have hD:pD ((l).getD r Sg.none)=((l).getD r Sg.none).t-((l).getD r Sg.none).f:=rfl
 refine Cj (Ad4 (.elt 6 (λq=>AV.cell (Bq ((l).getD r Sg.none)) q)) (gQ 54 (.tmp 12) (.tmp 14) underlying54 6 ((l).length) r (λi0=>Bq ((l).getD i0 Sg.none)) (r:Int) sizeOf81) ?_)
 refine It 3 ?_
 refine Pa [0,2,3,6,12,13,14] ?_
 refine Xt [(3,.int (max f (((l).getD r Sg.none).f)),.none),(7,.int (min t (((l).getD r Sg.none).t)),.none)] [0,2,3,6,7,8,12,13,14] 52 ⟨?_,?_,trivial⟩ ?_
 exact Av (kE (.tmp 18) (.tmp 20) #[3,3] (by kernel_rfl) f (((l).getD r Sg.none).f) (by kernel_rfl) (by kernel_rfl))
 exact Av (vM (.tmp 22) (.tmp 24) #[3,3] (by kernel_rfl) t (((l).getD r Sg.none).t) (by kernel_rfl) (by kernel_rfl))
 refine Jg (Cj ?_)
 refine It 2 ?_
 refine qb (decide (min t (((l).getD r Sg.none).t)<=max f (((l).getD r Sg.none).f))) ?_
 refine Pa [0,2,3,6,7,8,12,13,14,28] ?_
 refine Dx (decide (min t (((l).getD r Sg.none).t)<=max f (((l).getD r Sg.none).f))) (λhx10=>?_) (λhx10=>?_)
 have hx10d:=of_decide_eq_true hx10
 refine qT hx10 ?_
 refine Ut (Ac4 50 81 6 n (λxi=>Bq ((Hz l f t r).getD xi Sg.none)) (λxi=>Bq ((Hz l f t (r+1)).getD xi Sg.none)) (by kernel_rfl) (λx9 hx9=>by rw[Ou (by omega)]) ?_)
 refine kN [0,2,3,6,7,8,12,13,14,28] ⟨[(0,.yld 5),(2,.ptr 3 0),(3,.ptr 4 0),(6,.ptr 51 0),(7,.int (max f (((l).getD r Sg.none).f))),(8,.int (min t (((l).getD r Sg.none).t))),(12,Ai l),(13,.int ((l).length:Int)),(14,.int (r:Int)),(28,.bool true)],[(0,.box 54 [.osl 50 6 n]),(1,.box 37 [.int 0]),(2,.box 54 [Ai l]),(3,.box 3 [.int f]),(4,.box 3 [.int t]),(5,.loop .ready none sp2 [(6,.ptr 0 0),(7,.ptr 1 0),(13,.fn 139 [.ptr 2 0,.ptr 3 0,.ptr 4 0])] 23),(50,.vec 81 6 n (λxi=>Bq ((Hz l f t (r+1)).getD xi Sg.none))),(51,.box 81 [.int (((l).getD r Sg.none).f),.int (((l).getD r Sg.none).t),.int (((l).getD r Sg.none).o),Ao (((l).getD r Sg.none).x),Ao (((l).getD r Sg.none).y),Ao (((l).getD r Sg.none).z)])],52,62⟩ ?_
 refine vQ [(0,0),(1,1),(2,2),(3,3),(4,4),(5,5),(50,50)] 51 6 hD3 _ (Cd (Cd (Cd (Cd (Cd (Qh (Ov (λi _ j hj=>match j,hj with|0,_=>rfl|1,_=>rfl|2,_=>rfl|3,_=>rfl|4,_=>rfl|5,_=>rfl|_+6,h=>absurd h (by omega)) (Cd Sy)))))))) ?_
 refine Je (qw ((r:Int)+1) ((r+1:Nat):Int) ?_)
 refine It 1 ?_
 refine Tw [0,2,3,12,13,14] ?_
 exact⟨_,(by omega:l.length-(r+1)<l.length-r),r+1,n,(by omega),rfl,⟨by rw[Ou (by omega)];omega,aZ (by omega) hFr.2.1,by omega⟩,(.inr ⟨by omega,(by kernel_rfl)⟩)⟩
 have hx10d:=of_decide_eq_false hx10
 refine qF hx10 ?_
 refine Lr ?_
 have hlt:pA l f r<pB l t r:=by omega
 refine Cj (It 4 ?_)
 refine qv (((l).getD r Sg.none).t-((l).getD r Sg.none).f) ?_
 refine It 1 ?_
 refine Pa [0,2,3,6,7,8,9,12,13,14] ?_
 refine Dx (Wj ((l).getD r Sg.none) (pA l f r) (pB l t r)) (λhx11=>?_) (λhx11=>?_)
 refine Xt [(6,.int (max f (((l).getD r Sg.none).f)-((l).getD r Sg.none).f),.none),(9,.int (min t (((l).getD r Sg.none).t)-max f (((l).getD r Sg.none).f)),.none),(11,.agg [Fe ((l).getD r Sg.none).x (pA l f r-((l).getD r Sg.none).f) (pB l t r-pA l f r) (pD ((l).getD r Sg.none)),Fe ((l).getD r Sg.none).y (pA l f r-((l).getD r Sg.none).f) (pB l t r-pA l f r) (pD ((l).getD r Sg.none)),Fe ((l).getD r Sg.none).z (pA l f r-((l).getD r Sg.none).f) (pB l t r-pA l f r) (pD ((l).getD r Sg.none))],.none),(14,.lit (Aj (((l).getD r Sg.none).o)),.none),(16,.lit (Aj (pD ((l).getD r Sg.none)^5)),.none),(17,.lit (Aj (((l).getD r Sg.none).o*pD ((l).getD r Sg.none)^5)),.none),(18,.lit (.tuple #[.agg #[.int .i64 (pA l f r),.int .i64 (pB l t r),.int .i64 0,.slice none 0 0,.slice none 0 0,.slice none 0 0],.bool false]),.none),(20,.lit (.agg #[.int .i64 (pA l f r),.int .i64 (pB l t r),.int .i64 0,.slice none 0 0,.slice none 0 0,.slice none 0 0]),.none),(21,.bool false,.none)] [0,2,3,10,11,12,13,14] 53 ⟨?_,?_,?_,?_,?_,?_,?_,?_,?_,trivial⟩ ?_
 exact qwD (max f (((l).getD r Sg.none).f)-((l).getD r Sg.none).f)
 exact qwD (min t (((l).getD r Sg.none).t)-max f (((l).getD r Sg.none).f))
 exact Av (Lp 141 #[.tmp 37,.tmp 41,.tmp 44,.tmp 45] #[81,3,3,3] [Bq ((l).getD r Sg.none),.int (max f (((l).getD r Sg.none).f)-((l).getD r Sg.none).f),.int (min t (((l).getD r Sg.none).t)-max f (((l).getD r Sg.none).f)),.int (((l).getD r Sg.none).t-((l).getD r Sg.none).f)] (.agg [Fe ((l).getD r Sg.none).x (pA l f r-((l).getD r Sg.none).f) (pB l t r-pA l f r) (pD ((l).getD r Sg.none)),Fe ((l).getD r Sg.none).y (pA l f r-((l).getD r Sg.none).f) (pB l t r-pA l f r) (pD ((l).getD r Sg.none)),Fe ((l).getD r Sg.none).z (pA l f r-((l).getD r Sg.none).f) (pB l t r-pA l f r) (pD ((l).getD r Sg.none))]) (Ls ((l).getD r Sg.none) _ _ _ hs hso (Bo (by omega)) (Bo (by omega)) (Bo (by omega)) (by omega)))
 exact Av (Lp 95 #[.tmp 48] #[3] [.int (((l).getD r Sg.none).o)] (.lit (Aj (((l).getD r Sg.none).o))) (Gp _ hs.o.1 hs.o.2))
 exact Ad3 (Gh (pD ((l).getD r Sg.none)) 5 (Bo (by omega)).1 (Bo (by omega)).2 (by omega) (λj hj=>El (Bo (by omega)) (by omega)))
 exact Av (Lp 94 #[.tmp 49,.tmp 51] #[70,70] [.lit (Aj (((l).getD r Sg.none).o)),.lit (Aj (pD ((l).getD r Sg.none)^5))] (.lit (Aj (((l).getD r Sg.none).o*pD ((l).getD r Sg.none)^5))) (Ke _ _ (Hx hs.o) (El (Bo (by omega)) (by omega)) ((Xr hs (Bo (by omega))).fit (by omega))))
 exact Av (Lp 140 #[.tmp 35,.tmp 36,.tmp 46,.tmp 52] #[3,3,203,70] [.int (max f (((l).getD r Sg.none).f)),.int (min t (((l).getD r Sg.none).t)),.agg [Fe ((l).getD r Sg.none).x (pA l f r-((l).getD r Sg.none).f) (pB l t r-pA l f r) (pD ((l).getD r Sg.none)),Fe ((l).getD r Sg.none).y (pA l f r-((l).getD r Sg.none).f) (pB l t r-pA l f r) (pD ((l).getD r Sg.none)),Fe ((l).getD r Sg.none).z (pA l f r-((l).getD r Sg.none).f) (pB l t r-pA l f r) (pD ((l).getD r Sg.none))],.lit (Aj (((l).getD r Sg.none).o*pD ((l).getD r Sg.none)^5))] (.lit (.tuple #[.agg #[.int .i64 (pA l f r),.int .i64 (pB l t r),.int .i64 0,.slice none 0 0,.slice none 0 0,.slice none 0 0],.bool false])) (aG ((l).getD r Sg.none) _ _ hs hso (by omega) (by omega) hx11))
 exact Av (Af2 (v:= .agg #[.int .i64 (pA l f r),.int .i64 (pB l t r),.int .i64 0,.slice none 0 0,.slice none 0 0,.slice none 0 0]) (v':= .agg #[.int .i64 (pA l f r),.int .i64 (pB l t r),.int .i64 0,.slice none 0 0,.slice none 0 0,.slice none 0 0]) rfl _)
 exact qbD
 refine Cj (It 3 ?_)
 refine Vd (.tmp 56) #[.tmp 57,.tmp 58] #[81,4] 5 [(6,.ptr 0 0),(7,.ptr 1 0),(13,.fn 139 [.ptr 2 0,.ptr 3 0,.ptr 4 0])] 23 [.lit (.agg #[.int .i64 (pA l f r),.int .i64 (pB l t r),.int .i64 0,.slice none 0 0,.slice none 0 0,.slice none 0 0]),.bool false] sp2p sp2a sp2b rfl (by kernel_rfl) rfl (by kernel_rfl) (by kernel_rfl) (by kernel_rfl) (by kernel_rfl) ⟨[(15,.bool false),(14,.lit (.agg #[.int .i64 (pA l f r),.int .i64 (pB l t r),.int .i64 0,.slice none 0 0,.slice none 0 0,.slice none 0 0])),(6,.ptr 0 0),(7,.ptr 1 0),(13,.fn 139 [.ptr 2 0,.ptr 3 0,.ptr 4 0])],[(0,.box 54 [.osl 50 6 n]),(1,.box 37 [.int 0]),(2,.box 54 [Ai l]),(3,.box 3 [.int f]),(4,.box 3 [.int t]),(5,.loop .ready none sp2 [(6,.ptr 0 0),(7,.ptr 1 0),(13,.fn 139 [.ptr 2 0,.ptr 3 0,.ptr 4 0])] 23),(50,.vec 81 6 n (λxi=>Bq ((Hz l f t r).getD xi Sg.none))),(51,.box 81 [.int (((l).getD r Sg.none).f),.int (((l).getD r Sg.none).t),.int (((l).getD r Sg.none).o),Ao (((l).getD r Sg.none).x),Ao (((l).getD r Sg.none).y),Ao (((l).getD r Sg.none).z)]),(52,.box 81 [.int (pA l f r),.int (pB l t r),.int 0,.lit (.slice none 0 0),.lit (.slice none 0 0),.lit (.slice none 0 0)])],53,23⟩ (by kernel_rfl) λ_ _ hD12=>?_
 refine kP 2 [6,7,8,15] ?_
 refine Je (It 1 ?_)
 refine Tw [6,7,8,9] ?_
 refine⟨[(6,.ptr 0 0),(7,.ptr 1 0),(13,.fn 139 [.ptr 2 0,.ptr 3 0,.ptr 4 0])],(by kernel_rfl),?_⟩
 refine Kd (Jg ?_)
 refine Cj (It 1 ?_)
 refine qb true ?_
 refine Pa [6,7,8,17] ?_
 refine kO (kP 2 [6,7] ?_)
 refine Pu ?_
 refine⟨[(6,.ptr 0 0),(7,.ptr 1 0),(13,.fn 139 [.ptr 2 0,.ptr 3 0,.ptr 4 0])],(by kernel_rfl),?_⟩
 refine qb true ?_
 refine Pa [0,2,3,12,13,14,60] ?_
 refine kO (Pu ?_)
 refine⟨.inl rfl,.lit (.tuple #[]),(Pe results139).castI (by kernel_rfl),.done,(some .ret),[(6,.ptr 0 0),(7,.ptr 1 0),(13,.fn 139 [.ptr 2 0,.ptr 3 0,.ptr 4 0])],23,(by kernel_rfl),(λh=>by cases h),?_⟩
 refine Pu ?_
 exact⟨.inl rfl,(kW results87 (Jm (x:= .lit (.slice none 0 0)) 0 isAgg54 0 [.lit (.slice none 0 0)] (by kernel_rfl) 54 (by kernel_rfl) (Nat.le_of_ble_eq_true (by kernel_rfl)) (by kernel_rfl) (by kernel_rfl)) (Jm (x:= .int 7) 1 isAgg37 0 [.int 7] (by kernel_rfl) 37 (by kernel_rfl) (Nat.le_of_ble_eq_true (by kernel_rfl)) (by kernel_rfl) (by kernel_rfl))).cast (Pd (uI (j:=r) (by omega) hlt hx11) (by decide)).symm⟩
 refine Xt [(6,.int (max f (((l).getD r Sg.none).f)-((l).getD r Sg.none).f),.none),(9,.int (min t (((l).getD r Sg.none).t)-max f (((l).getD r Sg.none).f)),.none),(11,.agg [Fe ((l).getD r Sg.none).x (pA l f r-((l).getD r Sg.none).f) (pB l t r-pA l f r) (pD ((l).getD r Sg.none)),Fe ((l).getD r Sg.none).y (pA l f r-((l).getD r Sg.none).f) (pB l t r-pA l f r) (pD ((l).getD r Sg.none)),Fe ((l).getD r Sg.none).z (pA l f r-((l).getD r Sg.none).f) (pB l t r-pA l f r) (pD ((l).getD r Sg.none))],.none),(14,.lit (Aj (((l).getD r Sg.none).o)),.none),(16,.lit (Aj (pD ((l).getD r Sg.none)^5)),.none),(17,.lit (Aj (((l).getD r Sg.none).o*pD ((l).getD r Sg.none)^5)),.none),(18,.tup [Bq (Bu ((l).getD r Sg.none) (pA l f r) (pB l t r)),.bool true],.none)] [0,2,3,10,11,12,13,14] 53 ⟨?_,?_,?_,?_,?_,?_,?_,trivial⟩ ?_
 exact qwD (max f (((l).getD r Sg.none).f)-((l).getD r Sg.none).f)
 exact qwD (min t (((l).getD r Sg.none).t)-max f (((l).getD r Sg.none).f))
 exact Av (Lp 141 #[.tmp 37,.tmp 41,.tmp 44,.tmp 45] #[81,3,3,3] [Bq ((l).getD r Sg.none),.int (max f (((l).getD r Sg.none).f)-((l).getD r Sg.none).f),.int (min t (((l).getD r Sg.none).t)-max f (((l).getD r Sg.none).f)),.int (((l).getD r Sg.none).t-((l).getD r Sg.none).f)] (.agg [Fe ((l).getD r Sg.none).x (pA l f r-((l).getD r Sg.none).f) (pB l t r-pA l f r) (pD ((l).getD r Sg.none)),Fe ((l).getD r Sg.none).y (pA l f r-((l).getD r Sg.none).f) (pB l t r-pA l f r) (pD ((l).getD r Sg.none)),Fe ((l).getD r Sg.none).z (pA l f r-((l).getD r Sg.none).f) (pB l t r-pA l f r) (pD ((l).getD r Sg.none))]) (Ls ((l).getD r Sg.none) _ _ _ hs hso (Bo (by omega)) (Bo (by omega)) (Bo (by omega)) (by omega)))
 exact Av (Lp 95 #[.tmp 48] #[3] [.int (((l).getD r Sg.none).o)] (.lit (Aj (((l).getD r Sg.none).o))) (Gp _ hs.o.1 hs.o.2))
 exact Ad3 (Gh (pD ((l).getD r Sg.none)) 5 (Bo (by omega)).1 (Bo (by omega)).2 (by omega) (λj hj=>El (Bo (by omega)) (by omega)))
 exact Av (Lp 94 #[.tmp 49,.tmp 51] #[70,70] [.lit (Aj (((l).getD r Sg.none).o)),.lit (Aj (pD ((l).getD r Sg.none)^5))] (.lit (Aj (((l).getD r Sg.none).o*pD ((l).getD r Sg.none)^5))) (Ke _ _ (Hx hs.o) (El (Bo (by omega)) (by omega)) ((Xr hs (Bo (by omega))).fit (by omega))))
 exact Av (Lp 140 #[.tmp 35,.tmp 36,.tmp 46,.tmp 52] #[3,3,203,70] [.int (max f (((l).getD r Sg.none).f)),.int (min t (((l).getD r Sg.none).t)),.agg [Fe ((l).getD r Sg.none).x (pA l f r-((l).getD r Sg.none).f) (pB l t r-pA l f r) (pD ((l).getD r Sg.none)),Fe ((l).getD r Sg.none).y (pA l f r-((l).getD r Sg.none).f) (pB l t r-pA l f r) (pD ((l).getD r Sg.none)),Fe ((l).getD r Sg.none).z (pA l f r-((l).getD r Sg.none).f) (pB l t r-pA l f r) (pD ((l).getD r Sg.none))],.lit (Aj (((l).getD r Sg.none).o*pD ((l).getD r Sg.none)^5))] (.tup [Bq (Bu ((l).getD r Sg.none) (pA l f r) (pB l t r)),.bool true]) (aH ((l).getD r Sg.none) _ _ hs hso (by omega) (by omega) hx11))
 refine Cj (It 3 ?_)
 refine Vd (.tmp 56) #[.tmp 57,.tmp 58] #[81,4] 5 [(6,.ptr 0 0),(7,.ptr 1 0),(13,.fn 139 [.ptr 2 0,.ptr 3 0,.ptr 4 0])] 23 [Bq (Bu ((l).getD r Sg.none) (pA l f r) (pB l t r)),.bool true] sp2p sp2a sp2b rfl (by kernel_rfl) rfl (by kernel_rfl) (by kernel_rfl) (by kernel_rfl) (by kernel_rfl) ⟨[(15,.bool true),(14,Bq (Bu ((l).getD r Sg.none) (pA l f r) (pB l t r))),(6,.ptr 0 0),(7,.ptr 1 0),(13,.fn 139 [.ptr 2 0,.ptr 3 0,.ptr 4 0])],[(0,.box 54 [.osl 50 6 n]),(1,.box 37 [.int 0]),(2,.box 54 [Ai l]),(3,.box 3 [.int f]),(4,.box 3 [.int t]),(5,.loop .ready none sp2 [(6,.ptr 0 0),(7,.ptr 1 0),(13,.fn 139 [.ptr 2 0,.ptr 3 0,.ptr 4 0])] 23),(50,.vec 81 6 n (λxi=>Bq ((Hz l f t r).getD xi Sg.none))),(51,.box 81 [.int (((l).getD r Sg.none).f),.int (((l).getD r Sg.none).t),.int (((l).getD r Sg.none).o),Ao (((l).getD r Sg.none).x),Ao (((l).getD r Sg.none).y),Ao (((l).getD r Sg.none).z)]),(52,.box 81 [.int ((Bu ((l).getD r Sg.none) (pA l f r) (pB l t r)).f),.int ((Bu ((l).getD r Sg.none) (pA l f r) (pB l t r)).t),.int ((Bu ((l).getD r Sg.none) (pA l f r) (pB l t r)).o),Ao ((Bu ((l).getD r Sg.none) (pA l f r) (pB l t r)).x),Ao ((Bu ((l).getD r Sg.none) (pA l f r) (pB l t r)).y),Ao ((Bu ((l).getD r Sg.none) (pA l f r) (pB l t r)).z)])],53,23⟩ (by kernel_rfl) λ_ _ hD13=>?_
 refine kP 2 [6,7,8,15] ?_
 refine Je (It 1 ?_)
 refine Tw [6,7,8,9] ?_
 refine⟨[(6,.ptr 0 0),(7,.ptr 1 0),(13,.fn 139 [.ptr 2 0,.ptr 3 0,.ptr 4 0])],(by kernel_rfl),?_⟩
 refine Kd (Jg ?_)
 refine Cj (It 1 ?_)
 refine qb false ?_
 refine Pa [6,7,8,17] ?_
 refine Zv (Lr ?_)
 refine Je (It 2 ?_)
 refine qop (.osl 54 6 1) (.new 54 (.vec 81 6 1 (λ_=>Bq (Bu ((l).getD r Sg.none) (pA l f r) (pB l t r))))) (Yv 54 1 #[(0,(.tmp 19))] underlying54 6 sizeOf81 _ zeroValue81 54 [.int ((Bu ((l).getD r Sg.none) (pA l f r) (pB l t r)).f),.int ((Bu ((l).getD r Sg.none) (pA l f r) (pB l t r)).t),.int ((Bu ((l).getD r Sg.none) (pA l f r) (pB l t r)).o),Ao ((Bu ((l).getD r Sg.none) (pA l f r) (pB l t r)).x),Ao ((Bu ((l).getD r Sg.none) (pA l f r) (pB l t r)).y),Ao ((Bu ((l).getD r Sg.none) (pA l f r) (pB l t r)).z)] (λ_=>Bq (Bu ((l).getD r Sg.none) (pA l f r) (pB l t r)))) ?_
 refine qop (.osl 55 6 (n+1)) (.grow2 50 54 55 (.vec 81 6 (n+1) (λxi=>Bq ((Hz l f t (r+1)).getD xi Sg.none)))) (Db (.tmp 18) (.tmp 20) 54 (by kernel_rfl) underlying54 6 96 (.agg #[.int .i64 0,.int .i64 0,.int .i64 0,.slice none 0 0,.slice none 0 0,.slice none 0 0]) (by kernel_rfl) (by kernel_rfl) (by decide) n 1 (by omega) (λxi=>Bq ((Hz l f t r).getD xi Sg.none)) (λ_=>Bq (Bu ((l).getD r Sg.none) (pA l f r) (pB l t r))) (λxi=>Bq ((Hz l f t (r+1)).getD xi Sg.none)) 55 (by omega) (by unfold maxLen;omega) (λi hi=>by show Bq _=Bq _;rw[Mq hlt,Ld,if_pos (by omega)]) (λi hi=>by(obtain rfl:i=0:=(by omega));show Bq _=Bq _;rw[Mq hlt,Ld,if_neg (by omega),show n+0-(Hz l f t r).length=0 by omega];rfl) (λi hi j hj=>match j,hj with|0,_=>rfl|1,_=>rfl|2,_=>rfl|3,_=>rfl|4,_=>rfl|5,_=>rfl|_+6,h=>absurd h (by omega)) 50 (by kernel_rfl) (by kernel_rfl) 54 81 (by kernel_rfl) (by kernel_rfl)) ?_
 refine It 1 ?_
 refine Tw [] ?_
 refine⟨[(6,.ptr 0 0),(7,.ptr 1 0),(13,.fn 139 [.ptr 2 0,.ptr 3 0,.ptr 4 0])],(by kernel_rfl),?_⟩
 refine qb false ?_
 refine Pa [0,2,3,12,13,14,60] ?_
 refine Zv (Lr ?_)
 refine kN [0,2,3,12,13,14,60] ⟨[(0,.yld 5),(2,.ptr 3 0),(3,.ptr 4 0),(12,Ai l),(13,.int ((l).length:Int)),(14,.int (r:Int)),(60,.bool false)],[(0,.box 54 [.osl 55 6 (n+1)]),(1,.box 37 [.int 0]),(2,.box 54 [Ai l]),(3,.box 3 [.int f]),(4,.box 3 [.int t]),(5,.loop .ready none sp2 [(6,.ptr 0 0),(7,.ptr 1 0),(13,.fn 139 [.ptr 2 0,.ptr 3 0,.ptr 4 0])] 23),(51,.box 81 [.int (((l).getD r Sg.none).f),.int (((l).getD r Sg.none).t),.int (((l).getD r Sg.none).o),Ao (((l).getD r Sg.none).x),Ao (((l).getD r Sg.none).y),Ao (((l).getD r Sg.none).z)]),(52,.box 81 [.int ((Bu ((l).getD r Sg.none) (pA l f r) (pB l t r)).f),.int ((Bu ((l).getD r Sg.none) (pA l f r) (pB l t r)).t),.int ((Bu ((l).getD r Sg.none) (pA l f r) (pB l t r)).o),Ao ((Bu ((l).getD r Sg.none) (pA l f r) (pB l t r)).x),Ao ((Bu ((l).getD r Sg.none) (pA l f r) (pB l t r)).y),Ao ((Bu ((l).getD r Sg.none) (pA l f r) (pB l t r)).z)]),(53,.box 81 [.int ((Bu ((l).getD r Sg.none) (pA l f r) (pB l t r)).f),.int ((Bu ((l).getD r Sg.none) (pA l f r) (pB l t r)).t),.int ((Bu ((l).getD r Sg.none) (pA l f r) (pB l t r)).o),Ao ((Bu ((l).getD r Sg.none) (pA l f r) (pB l t r)).x),Ao ((Bu ((l).getD r Sg.none) (pA l f r) (pB l t r)).y),Ao ((Bu ((l).getD r Sg.none) (pA l f r) (pB l t r)).z)]),(54,.vec 81 6 1 (λ_=>Bq (Bu ((l).getD r Sg.none) (pA l f r) (pB l t r)))),(55,.vec 81 6 (n+1) (λxi=>Bq ((Hz l f t (r+1)).getD xi Sg.none)))],56,62⟩ ?_
 refine vQ [(0,0),(1,1),(2,2),(3,3),(4,4),(5,5),(55,50)] 51 6 hD3 _ (Cd (Cd (Cd (Cd (Cd (Qh (Cd (Cd (Cd (Ov (λi _ j hj=>match j,hj with|0,_=>rfl|1,_=>rfl|2,_=>rfl|3,_=>rfl|4,_=>rfl|5,_=>rfl|_+6,h=>absurd h (by omega)) (Ov (λi _ j hj=>match j,hj with|0,_=>rfl|1,_=>rfl|2,_=>rfl|3,_=>rfl|4,_=>rfl|5,_=>rfl|_+6,h=>absurd h (by omega)) Sy))))))))))) ?_
 refine Je (qw ((r:Int)+1) ((r+1:Nat):Int) ?_)
 refine It 1 ?_
 refine Tw [0,2,3,12,13,14] ?_
 exact⟨_,(by omega:l.length-(r+1)<l.length-r),r+1,n+1,(by omega),rfl,⟨by rw[Mq hlt,List.length_append,List.length_singleton];omega,fC hx11 hFr.2.1,by omega⟩,(.inr ⟨by omega,(by kernel_rfl)⟩)⟩
 have hx9d:=of_decide_eq_false hx9
 refine qF hx9 ?_
 refine Ut ?_
 refine⟨.inr rfl,.lit (.tuple #[]),(Pe results139).castI (by kernel_rfl),.ready,none,[(6,.ptr 0 0),(7,.ptr 1 0),(13,.fn 139 [.ptr 2 0,.ptr 3 0,.ptr 4 0])],23,(by kernel_rfl),(λh=>by cases h),?_⟩
 refine kP 3 [6,7] ?_
 refine qO 50 0 0 81 6 n (λxi=>Bq ((Hz l f t r).getD xi Sg.none)) 54 [.osl 50 6 n] [.sl 6 n (λxi=>Bq ((Hz l f t r).getD xi Sg.none))] (by kernel_rfl) (by kernel_rfl) (by kernel_rfl) (by kernel_rfl) (by kernel_rfl) (λi _ j hj=>match j,hj with|0,_=>rfl|1,_=>rfl|2,_=>rfl|3,_=>rfl|4,_=>rfl|5,_=>rfl|_+6,h=>absurd h (by omega)) ?_
 refine Pu ?_
 exact⟨.inl rfl,(kW results87 (Jm (x:= .sl 6 n (λxi=>Bq ((Hz l f t r).getD xi Sg.none))) 0 isAgg54 0 [.sl 6 n (λxi=>Bq ((Hz l f t r).getD xi Sg.none))] (by kernel_rfl) 54 (by kernel_rfl) (Nat.le_of_ble_eq_true (by kernel_rfl)) (by kernel_rfl) (by kernel_rfl)) (Jm (x:= .int 0) 1 isAgg37 0 [.int 0] (by kernel_rfl) 37 (by kernel_rfl) (Nat.le_of_ble_eq_true (by kernel_rfl)) (by kernel_rfl) (by kernel_rfl))).cast (by have hql:r=l.length:=(by omega);subst hql;rw[vT (uJ hFr.2.1),hFr.1];rfl)⟩
theorem Aep (l:List Sg) (f t:Int) (hl:Dj l) (hok:Fm l) (hf:(l.getD 0 Sg.none).f<=f) (hft:f<t) (ht:t<=(l.getD (l.length-1) Sg.none).t):AF Tryz.prog 87 [Ai l,.int f,.int t] (kV (nA l f t)):=by
 have h0:=(hok.1 0 (by have:=hok.2;omega)).1.1
 have h1:=(hok.1 (l.length-1) (by have:=hok.2;omega)).1.1
 unfold Kh at h0 h1
 exact Ac7 l f t hl hok (by omega) (by omega) (AcU hok hf hft ht)
theorem wQ (l:List Sg) (f t:Int) (hl:Dj l) (hok:Fm l) (hf:(l.getD 0 Sg.none).f<=f) (hft:f<t) (ht:t<=(l.getD (l.length-1) Sg.none).t) (h:(nA l f t).2=0):AF Tryz.prog 52 [Ai l,.int f,.int t] (.tup [Ai (nA l f t).1,.int 0]):=by
 refine Cq func52 rfl λB D0 hA0=>?_
 refine Ae 9 ?_
 refine Cz (Ac9 l hl hok) ?_
 refine Ae 24 ?_
 refine Iw 24 (decide (f<(l.getD 0 Sg.none).f)) false (decide_eq_false (by omega)) ?_
 refine Ae 4 ?_
 refine Iw 28 (decide (t<=f)) false (decide_eq_false (by omega)) ?_
 refine Ae 5 ?_
 refine Iw 33 (decide ((l.getD (l.length-1) Sg.none).t<t)) false (decide_eq_false (by omega)) ?_
 refine Ae 13 ?_
 refine Cz (by have:=Aep l f t hl hok hf hft ht;unfold kV at this;rwa [if_pos h] at this) ?_
 refine Ae 7 ?_
 exact Gx
theorem Ac5 (a b:V3) (r f t:Int) (hv:Lv a b f t=true) (hq:(t-f)%4=0) (hr: -2097152<=r/\r<=2097152) (h1:(a.up r).pt=true) (h2:(b.up r).pt=true):AF Tryz.prog 50 [Hf a,Hf b,.int r,.int f,.int t] (.tup [Ai (aV a b r f t),.int 0]):=
 iH (vs:=[_,_,_,_,_]) λw=>(uB a.x a.y a.z b.x b.y b.z r f t w hv hq hr h1 h2).mono λ_ _ ⟨_,_,he,hp,hb⟩=>⟨_,he,hb,λ_ g1 g2=>AeV (kH hp g1 λb hb=>g2 b hb.1 hb.2) (.lit _ _)⟩
theorem uP (a b:V3) (f t k:Int):(bH a b f t k).1=Gj a b f t k:=by unfold bH Gj;split<;>rfl
theorem Ms {a b:V3} {f t:Int} (pa:a.pt=true) (pb:b.pt=true) (h0:0<=f) (h1:f<t) (h2:t<=3600000):Lv a b f t=true:=by
 unfold Lv Hb
 simp only[Bool.and_eq_true,decide_eq_true_eq]
 exact⟨⟨⟨⟨pa,pb⟩,h0⟩,h1⟩,h2⟩
theorem Abk {a b:V3} {f t:Int} (k:Int) (h:Lv a b f t=true):(bH a b f t k).2=0:=by unfold bH;rw[if_pos h]
theorem wT {a:V3} {f t:Int} (h:Lv a a f t=true):AF Tryz.prog 62 [Hf a,.int f,.int t] (.tup [Ai (Gj a a f t 0),.int 0]):=by
 have:=wU a f t
 rwa [uP,Abk 0 h] at this
theorem eR {a b:V3} {f t:Int} (h:Lv a b f t=true):AF Tryz.prog 49 [Hf a,Hf b,.int f,.int t] (.tup [Ai (Gj a b f t 2),.int 0]):=by
 have:=wS a b f t
 rwa [uP,Abk 2 h] at this
theorem Ni {a b:List Sg} (ha:Dj a) (hb:Dj b) (h:Oh a b=(a++b,0)):AF Tryz.prog 88 [Ai a,Ai b] (.tup [Ai (a++b),.int 0]):=by
 have h2:=iC a b ha hb (by rw[h])
 rwa [h] at h2
theorem uM (x y z x' y' z':Int) (w:World):(Op.equal 52 (.agg #[.int .i64 x,.int .i64 y,.int .i64 z]) (.agg #[.int .i64 x',.int .i64 y',.int .i64 z'])).run Tryz.prog w= .ok (decide (x=x'/\y=y'/\z=z')) w:=by
 have h55:=Tryz.runUnderlying52
 have h3:=Tryz.runUnderlying3
 have ha:=isAgg3
 have hin:Tryz.prog.stoodInHeld 52=false:=by kernel_rfl
 unfold Op.equal
 rw[show Op.maxDepth=9998+1+1 from rfl]
 unfold Op.equalIn
 simp[h55,part,ha,hin]
 unfold Op.equalIn
 simp[h3]
 by_cases h1:x=x'<;>by_cases h2:y=y'<;>by_cases h3:z=z'<;>simp[h1,h2,h3]
def Ae5 (l:List Rl) (x:Rl) (n:Nat):Prop:=∃q,q<n/\(l.getD q Rl.none).spare=x.spare/\(l.getD q Rl.none).wait=x.wait/\(l.getD q Rl.none).rise=x.rise
theorem Abo {l:List Rl} {x:Rl}:Ae5 l x l.length↔x∈l:=by
 constructor
 rintro⟨q,hq,h1,h2,h3⟩
 have e:l.getD q Rl.none=x:=by
  cases hx:l.getD q Rl.none;cases x;rw[hx] at h1 h2 h3;simp_all
 rw[<-e,List.getD_eq_getElem?_getD,List.getElem?_eq_getElem hq]
 exact List.getElem_mem hq
 intro h
 obtain⟨q,hq,rfl⟩:=List.getElem_of_mem h
 refine⟨q,hq,?_⟩
 simp[List.getD_eq_getElem?_getD,hq]
theorem mD (a:V3) (t:Int):AF Tryz.prog 54 [Hf a,.int t,.int t] (.lit (.slice none 0 0)):=by
 refine Cq func54 rfl λB D0 hA0=>?_
 refine Ae 12 ?_
 refine Iw 11 (decide (t=t)) true (decide_eq_true rfl) ?_
 refine Ae 10 ?_
 exact Gx
theorem Ei (a:V3) (f t:Int) (h:¬f=t) (hb:Lv a a f t=true):AF Tryz.prog 54 [Hf a,.int f,.int t] (Ai (Gj a a f t 0)):=by
 refine Cq func54 rfl λB D0 hA0=>?_
 refine Ae 12 ?_
 refine Iw 11 (decide (f=t)) false (decide_eq_false h) ?_
 refine Ae 10 ?_
 refine Cz (wT hb) ?_
 refine Ae 14 ?_
 exact Gx
theorem lO (a b:List Sg) (pa:Dj a) (pb:Dj b) (na:0<a.length) (nb:0<b.length) (e1:Oh a b=(a++b,0)):AF Tryz.prog 53 [.sl 1 4 λxi=>[Ai a,Ai b,.lit (.slice none 0 0),.lit (.slice none 0 0)].getD xi .top] (.tup [Ai (a++b),.int 0]):=by
 have ln0:0<(a++b).length:=by simp only[List.length_append];omega
 refine Cq func53 rfl λB D0 hA0=>?_
 refine Ae 20 ?_
 refine vul 4 ?_
 refine Ae 13 ?_
 refine Gn 0 4 ?_
 refine Ae 8 ?_
 refine gZ ((a).length) ?_
 refine Ae 9 ?_
 refine qA (Ae 14 ?_)
 refine Nd (.int .i64 1) (.int .i64 1) ?_
 refine Ae 16 ?_
 refine Gn 1 4 ?_
 refine Ae 8 ?_
 refine gZ ((b).length) ?_
 refine Ae 9 ?_
 refine gZ ((a).length) ?_
 refine Ae 9 ?_
 refine Cz (Ni pa pb e1) ?_
 refine Ae 24 ?_
 refine Nd (.int .i64 2) (.int .i64 2) ?_
 refine Ae 16 ?_
 refine Gn 2 4 ?_
 refine Ae 8 ?_
 refine qA (Ae 8 ?_)
 refine Nd (.int .i64 3) (.int .i64 3) ?_
 refine Ae 16 ?_
 refine Gn 3 4 ?_
 refine Ae 8 ?_
 refine qA (Ae 8 ?_)
 refine Nd (.int .i64 4) (.int .i64 4) ?_
 refine Ae 23 ?_
 exact Gx
theorem lP (a b d:List Sg) (pa:Dj a) (pb:Dj b) (na:0<a.length) (nb:0<b.length) (e1:Oh a b=(a++b,0)) (pd:Dj d) (nd:0<d.length) (qd:Dj (a++b)) (e3:Oh (a++b) d=(a++b++d,0)):AF Tryz.prog 53 [.sl 1 4 λxi=>[Ai a,Ai b,.lit (.slice none 0 0),Ai d].getD xi .top] (.tup [Ai (a++b++d),.int 0]):=by
 have ln0:0<(a++b).length:=by simp only[List.length_append];omega
 have ln1:0<(a++b++d).length:=by simp only[List.length_append];omega
 refine Cq func53 rfl λB D0 hA0=>?_
 refine Ae 20 ?_
 refine vul 4 ?_
 refine Ae 13 ?_
 refine Gn 0 4 ?_
 refine Ae 8 ?_
 refine gZ ((a).length) ?_
 refine Ae 9 ?_
 refine qA (Ae 14 ?_)
 refine Nd (.int .i64 1) (.int .i64 1) ?_
 refine Ae 16 ?_
 refine Gn 1 4 ?_
 refine Ae 8 ?_
 refine gZ ((b).length) ?_
 refine Ae 9 ?_
 refine gZ ((a).length) ?_
 refine Ae 9 ?_
 refine Cz (Ni pa pb e1) ?_
 refine Ae 24 ?_
 refine Nd (.int .i64 2) (.int .i64 2) ?_
 refine Ae 16 ?_
 refine Gn 2 4 ?_
 refine Ae 8 ?_
 refine qA (Ae 8 ?_)
 refine Nd (.int .i64 3) (.int .i64 3) ?_
 refine Ae 16 ?_
 refine Gn 3 4 ?_
 refine Ae 8 ?_
 refine gZ ((d).length) ?_
 refine Ae 9 ?_
 refine gZ ((a++b).length) ?_
 refine Ae 9 ?_
 refine Cz (Ni qd pd e3) ?_
 refine Ae 24 ?_
 refine Nd (.int .i64 4) (.int .i64 4) ?_
 refine Ae 23 ?_
 exact Gx
theorem lQ (a b c:List Sg) (pa:Dj a) (pb:Dj b) (na:0<a.length) (nb:0<b.length) (e1:Oh a b=(a++b,0)) (pc:Dj c) (nc:0<c.length) (qc:Dj (a++b)) (e2:Oh (a++b) c=(a++b++c,0)):AF Tryz.prog 53 [.sl 1 4 λxi=>[Ai a,Ai b,Ai c,.lit (.slice none 0 0)].getD xi .top] (.tup [Ai (a++b++c),.int 0]):=by
 have ln0:0<(a++b).length:=by simp only[List.length_append];omega
 have ln1:0<(a++b++c).length:=by simp only[List.length_append];omega
 refine Cq func53 rfl λB D0 hA0=>?_
 refine Ae 20 ?_
 refine vul 4 ?_
 refine Ae 13 ?_
 refine Gn 0 4 ?_
 refine Ae 8 ?_
 refine gZ ((a).length) ?_
 refine Ae 9 ?_
 refine qA (Ae 14 ?_)
 refine Nd (.int .i64 1) (.int .i64 1) ?_
 refine Ae 16 ?_
 refine Gn 1 4 ?_
 refine Ae 8 ?_
 refine gZ ((b).length) ?_
 refine Ae 9 ?_
 refine gZ ((a).length) ?_
 refine Ae 9 ?_
 refine Cz (Ni pa pb e1) ?_
 refine Ae 24 ?_
 refine Nd (.int .i64 2) (.int .i64 2) ?_
 refine Ae 16 ?_
 refine Gn 2 4 ?_
 refine Ae 8 ?_
 refine gZ ((c).length) ?_
 refine Ae 9 ?_
 refine gZ ((a++b).length) ?_
 refine Ae 9 ?_
 refine Cz (Ni qc pc e2) ?_
 refine Ae 24 ?_
 refine Nd (.int .i64 3) (.int .i64 3) ?_
 refine Ae 16 ?_
 refine Gn 3 4 ?_
 refine Ae 8 ?_
 refine qA (Ae 8 ?_)
 refine Nd (.int .i64 4) (.int .i64 4) ?_
 refine Ae 23 ?_
 exact Gx
theorem lR (a b c d:List Sg) (pa:Dj a) (pb:Dj b) (na:0<a.length) (nb:0<b.length) (e1:Oh a b=(a++b,0)) (pc:Dj c) (nc:0<c.length) (qc:Dj (a++b)) (e2:Oh (a++b) c=(a++b++c,0)) (pd:Dj d) (nd:0<d.length) (qd:Dj (a++b++c)) (e3:Oh (a++b++c) d=(a++b++c++d,0)):AF Tryz.prog 53 [.sl 1 4 λxi=>[Ai a,Ai b,Ai c,Ai d].getD xi .top] (.tup [Ai (a++b++c++d),.int 0]):=by
 have ln0:0<(a++b).length:=by simp only[List.length_append];omega
 have ln1:0<(a++b++c).length:=by simp only[List.length_append];omega
 have ln2:0<(a++b++c++d).length:=by simp only[List.length_append];omega
 refine Cq func53 rfl λB D0 hA0=>?_
 refine Ae 20 ?_
 refine vul 4 ?_
 refine Ae 13 ?_
 refine Gn 0 4 ?_
 refine Ae 8 ?_
 refine gZ ((a).length) ?_
 refine Ae 9 ?_
 refine qA (Ae 14 ?_)
 refine Nd (.int .i64 1) (.int .i64 1) ?_
 refine Ae 16 ?_
 refine Gn 1 4 ?_
 refine Ae 8 ?_
 refine gZ ((b).length) ?_
 refine Ae 9 ?_
 refine gZ ((a).length) ?_
 refine Ae 9 ?_
 refine Cz (Ni pa pb e1) ?_
 refine Ae 24 ?_
 refine Nd (.int .i64 2) (.int .i64 2) ?_
 refine Ae 16 ?_
 refine Gn 2 4 ?_
 refine Ae 8 ?_
 refine gZ ((c).length) ?_
 refine Ae 9 ?_
 refine gZ ((a++b).length) ?_
 refine Ae 9 ?_
 refine Cz (Ni qc pc e2) ?_
 refine Ae 24 ?_
 refine Nd (.int .i64 3) (.int .i64 3) ?_
 refine Ae 16 ?_
 refine Gn 3 4 ?_
 refine Ae 8 ?_
 refine gZ ((d).length) ?_
 refine Ae 9 ?_
 refine gZ ((a++b++c).length) ?_
 refine Ae 9 ?_
 refine Cz (Ni qd pd e3) ?_
 refine Ae 24 ?_
 refine Nd (.int .i64 4) (.int .i64 4) ?_
 refine Ae 23 ?_
 exact Gx
theorem iF (l:List Rl) (x:Rl) (n:Nat) (hn:n<=1000000):AF Tryz.prog 48 [.sl 3 n λi=>Cu (l.getD i Rl.none),Cu x] (.bool (bP (Ae5 l x n))):=by
 refine Cq func48 rfl λB D0 hA0=>?_
 refine Ae 10 ?_
 refine dM 1 func83 (λ_ hD1=>?_)
 refine Ae 15 ?_
 refine Mf [0,3,7,8] n (λi=>∀q,q<i->¬((l.getD q Rl.none).spare=x.spare/\(l.getD q Rl.none).wait=x.wait/\(l.getD q Rl.none).rise=x.rise)) (λi=>⟨[(0,.sl 3 n (λxi=>Cu ((l).getD xi Rl.none))),(3,.ptr 1 0),(7,.int (n:Int)),(8,.int (i:Int))],[(0,.box 52 [.int x.spare,.int x.wait,.int x.rise]),(1,.box 52 [.int x.spare,.int x.wait,.int x.rise])],2,19⟩) (λq hq=>absurd hq (Nat.not_lt_zero q)) (λi hin hFi J1 hJ1=>?_)
 refine Ae 6 ?_
 refine Ft 9 ((i:Int)<(n:Int)) (λhx2 hx2d=>?_) (λhx2 hx2d=>?_)
 ·
  refine Ae 12 ?_
  refine Kq [(3,Fv (.sl 3 n (λxi=>Cu ((l).getD xi Rl.none))) i,.none),(5,.bool (decide (x.spare=((l).getD i Rl.none).spare/\x.wait=((l).getD i Rl.none).wait/\x.rise=((l).getD i Rl.none).rise)),.none)] [0,3,5,7,8,16] ⟨Ox i n,Av (Lx 52 52 (.tmp 11) (.tmp 15) (by kernel_rfl) _ _ (by kernel_rfl) (by kernel_rfl) (by kernel_rfl) (decide (x.spare=((l).getD i Rl.none).spare/\x.wait=((l).getD i Rl.none).wait/\x.rise=((l).getD i Rl.none).rise)) (uM _ _ _ _ _ _)),trivial⟩ ?_
  refine Ae 1 ?_
  refine Ft 16 (x.spare=((l).getD i Rl.none).spare/\x.wait=((l).getD i Rl.none).wait/\x.rise=((l).getD i Rl.none).rise) (λhx3 hx3d=>?_) (λhx3 hx3d=>?_)
  ·
   refine Ae 13 ?_
   refine vrI (Ae 1 ?_)
   refine Iw 8 (decide ((0:Int)<=(i:Int))) true (decide_eq_true (by omega)) ?_
   refine Ae 4 ?_
   exact Fw (.bool true) (congrArg AV.bool (Dw ⟨i,by omega,by omega⟩).symm)
  ·
   refine Ae 5 ?_
   refine Fr ((i:Int)+1) ((i+1:Nat):Int) ?_
   refine Ae 2 ?_
   exact Om [0,3,7,8] (hJ1 (by omega) (λq hq=>(Nat.lt_or_ge q i).elim (λg=>hFi q g) λg=>by have e:q=i:=(by omega);subst e;omega))
 ·
  refine Ae 12 ?_
  refine vrI (Ae 5 ?_)
  exact Fw (.bool false) (congrArg AV.bool (As λ⟨q,hq,h9⟩=>hFi q (by omega) h9).symm)
theorem Nl.stay0 {p:Pr} {r:Rv} {c:Cs} {x:Rl} (h:Nl p r c x) (e:Ja p r c x=Id p r c x):Gm p r c x=[]:=by
 have:=h.stay.1
 rw[<-e] at this
 exact this.nil_of
theorem Nl.tail0 {p:Pr} {r:Rv} {c:Cs} {x:Rl} (h:Nl p r c x) (e:¬Id p r c x<Bn p.acts p.acts.length):Ge p r c x=[]:=by
 have h1:=h.tail.1
 have h2:=h.s0
 rw[show Bn p.acts p.acts.length=Id p r c x by omega] at h1
 exact h1.nil_of
theorem Fh {l:List Sg} {a b:V3} {f t:Int} (h:Bs l a b f t) (hn:l.length<=256):Dj l:=by
 by_cases h0:0<l.length
 exact(h.okP h0 hn).2
 rw[show l=[] from List.eq_nil_of_length_eq_zero (by omega)];exact Dj.nil
theorem eQ (p:Pr) (r:Rv) (c:Cs) (x:Rl) (h:Nl p r c x) (hn:p.acts.length<=5) (hs:¬Ja p r c x=Id p r c x) (ht:Id p r c x<Bn p.acts p.acts.length):AF Tryz.prog 53 [.sl 1 4 λxi=>[Ai (Eg r p c x),Ai (Iv p r c x),Ai (Gm p r c x),Ai (Ge p r c x)].getD xi .top] (.tup [Ai (relP p r c x),.int 0]):=by
 have h0:=h.s0
 have l1:=h.hov.2
 have l2:=h.go.2
 have l3:=h.stay.2
 have l4:=h.tail.2
 have n3:=h.stay.1.pos (by omega)
 have n4:=h.tail.1.pos ht
 have g1:=h.hov.1.app h.go.1
 have g2:=g1.app h.stay.1
 have m1:(Eg r p c x++Iv p r c x).length<=4:=by rw[List.length_append];omega
 have m2:(Eg r p c x++Iv p r c x++Gm p r c x).length<=5:=by rw[List.length_append];omega
 have m3:0<(Eg r p c x++Iv p r c x).length:=by rw[List.length_append];omega
 have m4:0<(Eg r p c x++Iv p r c x++Gm p r c x).length:=by rw[List.length_append];omega
 exact lR _ _ _ _ (Fh h.hov.1 (by omega)) (Fh h.go.1 (by omega)) (by omega) (by omega) (Jt h.hov.1 h.go.1 (by omega) (by omega) (by omega)) (Fh h.stay.1 (by omega)) n3 (Fh g1 (by omega)) (Jt g1 h.stay.1 m3 n3 (by omega)) (Fh h.tail.1 (by omega)) n4 (Fh g2 (by omega)) (Jt g2 h.tail.1 m4 n4 (by omega))
theorem eO (p:Pr) (r:Rv) (c:Cs) (x:Rl) (h:Nl p r c x) (hn:p.acts.length<=5) (hs:Ja p r c x=Id p r c x) (ht:Id p r c x<Bn p.acts p.acts.length):AF Tryz.prog 53 [.sl 1 4 λxi=>[Ai (Eg r p c x),Ai (Iv p r c x),.lit (.slice none 0 0),Ai (Ge p r c x)].getD xi .top] (.tup [Ai (relP p r c x),.int 0]):=by
 have h0:=h.s0
 have l1:=h.hov.2
 have l2:=h.go.2
 have l4:=h.tail.2
 have n4:=h.tail.1.pos ht
 have g1:=h.hov.1.app h.go.1
 have m1:(Eg r p c x++Iv p r c x).length<=4:=by rw[List.length_append];omega
 have m3:0<(Eg r p c x++Iv p r c x).length:=by rw[List.length_append];omega
 have e:relP p r c x=Eg r p c x++Iv p r c x++Ge p r c x:=by rw[relP,h.stay0 hs,List.append_nil]
 have g4:=h.tail.1
 rw[<-hs] at g4
 rw[e]
 exact lP _ _ _ (Fh h.hov.1 (by omega)) (Fh h.go.1 (by omega)) (by omega) (by omega) (Jt h.hov.1 h.go.1 (by omega) (by omega) (by omega)) (Fh h.tail.1 (by omega)) n4 (Fh g1 (by omega)) (Jt g1 g4 m3 n4 (by omega))
theorem eP (p:Pr) (r:Rv) (c:Cs) (x:Rl) (h:Nl p r c x) (hs:¬Ja p r c x=Id p r c x) (ht:¬Id p r c x<Bn p.acts p.acts.length):AF Tryz.prog 53 [.sl 1 4 λxi=>[Ai (Eg r p c x),Ai (Iv p r c x),Ai (Gm p r c x),.lit (.slice none 0 0)].getD xi .top] (.tup [Ai (relP p r c x),.int 0]):=by
 have h0:=h.s0
 have l1:=h.hov.2
 have l2:=h.go.2
 have l3:=h.stay.2
 have n3:=h.stay.1.pos (by omega)
 have g1:=h.hov.1.app h.go.1
 have m1:(Eg r p c x++Iv p r c x).length<=4:=by rw[List.length_append];omega
 have m3:0<(Eg r p c x++Iv p r c x).length:=by rw[List.length_append];omega
 have e:relP p r c x=Eg r p c x++Iv p r c x++Gm p r c x:=by rw[relP,h.tail0 ht,List.append_nil]
 rw[e]
 exact lQ _ _ _ (Fh h.hov.1 (by omega)) (Fh h.go.1 (by omega)) (by omega) (by omega) (Jt h.hov.1 h.go.1 (by omega) (by omega) (by omega)) (Fh h.stay.1 (by omega)) n3 (Fh g1 (by omega)) (Jt g1 h.stay.1 m3 n3 (by omega))
theorem eN (p:Pr) (r:Rv) (c:Cs) (x:Rl) (h:Nl p r c x) (hs:Ja p r c x=Id p r c x) (ht:¬Id p r c x<Bn p.acts p.acts.length):AF Tryz.prog 53 [.sl 1 4 λxi=>[Ai (Eg r p c x),Ai (Iv p r c x),.lit (.slice none 0 0),.lit (.slice none 0 0)].getD xi .top] (.tup [Ai (relP p r c x),.int 0]):=by
 have l1:=h.hov.2
 have l2:=h.go.2
 have e:relP p r c x=Eg r p c x++Iv p r c x:=by rw[relP,h.tail0 ht,h.stay0 hs,List.append_nil,List.append_nil]
 rw[e]
 exact lO _ _ (Fh h.hov.1 (by omega)) (Fh h.go.1 (by omega)) (by omega) (by omega) (Jt h.hov.1 h.go.1 (by omega) (by omega) (by omega))
theorem Aau (p:Pr) (r:Rv) (c:Cs) (x:Rl) (h:Nl p r c x) (h0:0<x.rise):AF Tryz.prog 50 [Hf (Gu r x),Hf (atR p r c x),.int x.rise,.int (Ej p c x),.int (Ja p r c x)] (.tup [Ai (Iv p r c x),.int 0]):=by
 have h1:=h.s0
 have h2:=h.rise
 rw[Iv,if_pos h0]
 exact Ac5 _ _ _ _ _ (Ms h.hp h.ap (by omega) (by omega) (by omega)) h.q4 (by omega) h.hu h.au
theorem qQ (p:Pr) (r:Rv) (c:Cs) (x:Rl) (h:Nl p r c x) (h0:¬0<x.rise):AF Tryz.prog 49 [Hf (Gu r x),Hf (atR p r c x),.int (Ej p c x),.int (Ja p r c x)] (.tup [Ai (Iv p r c x),.int 0]):=by
 have h1:=h.s0
 rw[Iv,if_neg h0]
 exact eR (Ms h.hp h.ap (by omega) (by omega) (by omega))
theorem lX (p:Pr) (r:Rv) (c:Cs) (x:Rl) (h:Nl p r c x):AF Tryz.prog 49 [Hf (Gu r x),Hf (atR p r c x),.int (Ej p c x),.int (Ja p r c x)] (.tup [Ai (Gj (Gu r x) (atR p r c x) (Ej p c x) (Ja p r c x) 2),.int 0]):=by
 have h1:=h.s0
 exact eR (Ms h.hp h.ap (by omega) (by omega) (by omega))
theorem aF (p:Pr) (r:Rv) (c:Cs) (x:Rl) (hc:Fx p c) (h:Nl p r c x) (ht:Id p r c x<Bn p.acts p.acts.length):AF Tryz.prog 52 [Ai (Ir p p.acts.length c.craft.toNat),.int (Id p r c x),.int (Bn p.acts p.acts.length)] (.tup [Ai (Ge p r c x),.int 0]):=by
 have h0:=h.s0
 have h1:=hc.2
 have ho:=AeG hc.1 (by omega) (i:=c.craft.toNat) (by omega)
 have hcut:nA (Ir p p.acts.length c.craft.toNat) (Id p r c x) (Bn p.acts p.acts.length)=(Ge p r c x,0):=by
  rw[h.app];exact AaU h.own h.tail.1
 have:=wQ (Ir p p.acts.length c.craft.toNat) (Id p r c x) (Bn p.acts p.acts.length) ho.pin ho.ok (by rw[ho.first];omega) ht (by rw[ho.last];exact Int.le_refl _) (by rw[hcut])
 rwa [hcut] at this
theorem Uz (p:Pr) (c:Cs) (hp:Km p) (hc:Fx p c):AF Tryz.prog 28 [Ey p,.int c.craft] (.tup [Ai (Ir p p.acts.length c.craft.toNat),.int 0]):=by
 have h1:=hc.2
 have:=mB p c.craft.toNat hp hc.1 (by omega) (by omega)
 rwa [show (c.craft.toNat:Int)=c.craft by omega] at this
theorem Nj (a:V3) (f t:Int) (h:f=t):AF Tryz.prog 54 [Hf a,.int f,.int t] (.lit (.slice none 0 0)):=by
 subst h;exact mD a f
theorem dX (p:Pr) (r:Rv) (c:Cs) (x:Rl) (hp:Km p) (hc:Fx p c) (hcs:Qa c) (hr:Ng r) (h:Nl p r c x):AF Tryz.prog 39 [Ey p,Hg r,Hv c,.int x.wait] (.lit (.tuple #[.int .i64 (Ej p c x),.int .i64 (Ja p r c x),.int .i64 (Pk p r c x:Int),.int .i64 (Id p r c x),eJ (atR p r c x)])):=by
 have:=Oo p r c x.wait hp hc hcs hr h.wait
 unfold eG at this
 rwa [if_pos h.act.2] at this
theorem VR.relP {E:Bl} {v:Value} {l:List Rl} (h:VR E (vV l) v):VR E (.tup [AbM l,.int 0]) v:=by
 unfold vV at h
 split at h
 rename_i h0
 have:=h.lit_inv
 subst this
 rw[List.eq_nil_of_length_eq_zero h0]
 exact .tup _ _ _ rfl λi hi=>by
  match i,hi with
  |0,_=>exact .sl0 _ _ _ _ _
  |1,_=>exact .lit _ _
 exact h
theorem Ya (p:Pr) (r:Rv) (c:Cs) (hp:Km p) (hr:aO r) (hcs:Qa c) (hg:Nt p r c):AF Tryz.prog 18 [Ey p,Hg r,Hv c] (.tup [AbM (Pc p r c),.int 0]):=
 Aaz (mC p r c hp hr hcs hg) rfl (λ_ _ _ _ h=>h) λ_ _ h=>h.relP
theorem pC (r:Rv) (w:Int) (v:V3) (i:Nat):∀q,(eF r w v i q).length<=q
 |0=>Nat.zero_le _
 |q+1=>by
  have:=pC r w v i q
  rw[eF,List.length_append]
  split<;>simp<;>omega
theorem oY (r:Rv) (w:Int) (v:V3) (o:List Nat):∀m,(kT r w v o m).length<=m*r.rises.length
 |0=>Nat.zero_le _
 |m+1=>by
  have h1:=oY r w v o m
  have h2:=pC r w v (o.getD m 0) r.rises.length
  rw[kT,List.length_append,Nat.succ_mul];omega
theorem pF {p:Pr} {r:Rv} (hr:Ng r) (c:Cs):∀k,(Jl p r c k).length<=k*128
 |0=>Nat.zero_le _
 |k+1=>by
  have h1:=pF (p:=p) hr c k
  rw[Jl,List.length_append,Nat.succ_mul]
  split
  have h2:=oY r (r.waits.getD k 0) (Bk p r c k) (Ee r (Bk p r c k)) r.homes.length
  have h3:=Nat.mul_le_mul hr.1.2.1 hr.2.2.2.2.1
  omega
  simp;omega
theorem AbN {p:Pr} {r:Rv} (hr:Ng r) (c:Cs):(Pc p r c).length<=2048:=by
 have h1:=pF (p:=p) hr c r.waits.length
 have h2:=hr.2.2.1.2.1
 have:(Pc p r c).length<=r.waits.length*128:=h1
 omega
theorem qR (p:Pr) (r:Rv) (c:Cs) (x:Rl) (hp:Km p) (hr:aO r) (hcs:Qa c) (hg:Nt p r c) (hn:p.acts.length<=5) (hx:x∈Pc p r c):AF Tryz.prog 21 [Ey p,Hg r,Hv c,Cu x] (.tup [Ai (relP p r c x),.int 0]):=by
 have h:=AeI hg.1 hg.2 (Ad6 hx)
 have h0:=h.s0
 have h1:=h.sp
 have h2:=hg.2.1
 have lo:=h.go.2
 have lt:=h.tail.2
 have rl:=AbN (p:=p) hg.2 c
 have lr:=h.rise
 refine Cq func21 rfl λB D0 hA0=>?_
 refine Ae 15 ?_
 refine Cz (Ya p r c hp hr hcs hg) ?_
 refine Ae 22 ?_
 refine Cz (iF (Pc p r c) x (Pc p r c).length (by omega)) ?_
 refine Ae 3 ?_
 refine Iw 36 (!bP (Ae5 (Pc p r c) x (Pc p r c).length)) false (by rw[(Dw (Abo.2 hx))];rfl) ?_
 refine Ae 10 ?_
 refine Cz (dX p r c x hp hg.1 hcs hg.2 h) ?_
 refine Ae 20 ?_
 refine AfP x.spare (x.spare).toNat r.homes.length ?_
 refine Ae 11 ?_
 refine vsp ((0:Int)<x.rise) (λhx1 hx1d=>?_) (λhx1 hx1d=>?_)
 ·
  refine Cz (lX p r c x h) ?_
  refine Ae 15 ?_
  refine Iw 65 (decide ((0:Int)<x.rise)) true hx1 ?_
  refine Ae 8 ?_
  refine Cz (Aau p r c x h hx1d) ?_
  refine Ae 22 ?_
  refine Cz (Uz p c hp hg.1) ?_
  refine Ae 20 ?_
  refine Cz (eS p hp hg.1.1) ?_
  refine Ae 20 ?_
  refine Ft 96 (Id p r c x<Bn p.acts p.acts.length) (λhx2 hx2d=>?_) (λhx2 hx2d=>?_)
  ·
   refine Ae 6 ?_
   refine Cz (aF p r c x hg.1 h hx2d) ?_
   refine Ae 17 ?_
   refine vsp (Ja p r c x=Id p r c x) (λhx3 hx3d=>?_) (λhx3 hx3d=>?_)
   ·
    refine Kq [(2,_,.none),(7,_,.none),(9,.osl 6 1 4,(.new 6 (.vec 54 1 4 (λxi=>[Ai (Eg r p c x),Ai (Iv p r c x),.lit (.slice none 0 0),Ai (Ge p r c x)].getD xi .top)))),(10,.tup [Ai (relP p r c x),.int 0],(.drop 6))] [8,9] ⟨Hw (Ei (Gu r x) 0 (Ej p c x) (by omega) (Ms h.hp h.hp (by omega) (by omega) (by omega))),Hw (Nj (atR p r c x) _ _ hx3d),Av (Ak 59 4 #[(0,(.tmp 109)),(1,(.tmp 110)),(2,(.tmp 114)),(3,(.tmp 115))] (by kernel_rfl) underlying59 1 sizeOf54 _ zeroValue54 (by kernel_rfl) (Nat.le_of_ble_eq_true (by kernel_rfl)) (Nat.le_of_ble_eq_true (by kernel_rfl)) (Nat.le_of_ble_eq_true (by kernel_rfl)) 6 [Ai (Eg r p c x),Ai (Iv p r c x),.lit (.slice none 0 0),Ai (Ge p r c x)] (by kernel_rfl) (λxi=>[Ai (Eg r p c x),Ai (Iv p r c x),.lit (.slice none 0 0),Ai (Ge p r c x)].getD xi .top) (by kernel_rfl)),Av (Jy 53 #[.tmp 116] #[59] (by kernel_rfl) (λ_ _=>by kernel_rfl) 6 (.vec 54 1 4 (λxi=>[Ai (Eg r p c x),Ai (Iv p r c x),.lit (.slice none 0 0),Ai (Ge p r c x)].getD xi .top)) (by kernel_rfl) (λ_ _ _ _ h=>by cases h;exact(λi hi j hj=>by obtain rfl:j=0:=(by omega);exact match i,hi with|0,_=>rfl|1,_=>rfl|2,_=>rfl|3,_=>rfl|i+4,h=>absurd h (by omega))) [.osl 6 1 4] (by kernel_rfl) [.sl 1 4 (λxi=>[Ai (Eg r p c x),Ai (Iv p r c x),.lit (.slice none 0 0),Ai (Ge p r c x)].getD xi .top)] (by kernel_rfl) (.tup [Ai (relP p r c x),.int 0]) (eO p r c x h hn hx3d hx2d)),trivial⟩ ?_
    refine Ae 2 ?_
    exact Gx
   ·
    refine Kq [(2,_,.none),(7,_,.none),(9,.osl 6 1 4,(.new 6 (.vec 54 1 4 (λxi=>[Ai (Eg r p c x),Ai (Iv p r c x),Ai (Gm p r c x),Ai (Ge p r c x)].getD xi .top)))),(10,.tup [Ai (relP p r c x),.int 0],(.drop 6))] [8,9] ⟨Hw (Ei (Gu r x) 0 (Ej p c x) (by omega) (Ms h.hp h.hp (by omega) (by omega) (by omega))),Hw (Ei (atR p r c x) (Ja p r c x) (Id p r c x) hx3d (Ms h.ap h.ap (by omega) (by omega) (by omega))),Av (Ak 59 4 #[(0,(.tmp 109)),(1,(.tmp 110)),(2,(.tmp 114)),(3,(.tmp 115))] (by kernel_rfl) underlying59 1 sizeOf54 _ zeroValue54 (by kernel_rfl) (Nat.le_of_ble_eq_true (by kernel_rfl)) (Nat.le_of_ble_eq_true (by kernel_rfl)) (Nat.le_of_ble_eq_true (by kernel_rfl)) 6 [Ai (Eg r p c x),Ai (Iv p r c x),Ai (Gm p r c x),Ai (Ge p r c x)] (by kernel_rfl) (λxi=>[Ai (Eg r p c x),Ai (Iv p r c x),Ai (Gm p r c x),Ai (Ge p r c x)].getD xi .top) (by kernel_rfl)),Av (Jy 53 #[.tmp 116] #[59] (by kernel_rfl) (λ_ _=>by kernel_rfl) 6 (.vec 54 1 4 (λxi=>[Ai (Eg r p c x),Ai (Iv p r c x),Ai (Gm p r c x),Ai (Ge p r c x)].getD xi .top)) (by kernel_rfl) (λ_ _ _ _ h=>by cases h;exact(λi hi j hj=>by obtain rfl:j=0:=(by omega);exact match i,hi with|0,_=>rfl|1,_=>rfl|2,_=>rfl|3,_=>rfl|i+4,h=>absurd h (by omega))) [.osl 6 1 4] (by kernel_rfl) [.sl 1 4 (λxi=>[Ai (Eg r p c x),Ai (Iv p r c x),Ai (Gm p r c x),Ai (Ge p r c x)].getD xi .top)] (by kernel_rfl) (.tup [Ai (relP p r c x),.int 0]) (eQ p r c x h hn hx3d hx2d)),trivial⟩ ?_
    refine Ae 2 ?_
    exact Gx
  ·
   refine Ae 4 ?_
   refine vsp (Ja p r c x=Id p r c x) (λhx4 hx4d=>?_) (λhx4 hx4d=>?_)
   ·
    refine Kq [(2,_,.none),(7,_,.none),(9,.osl 6 1 4,(.new 6 (.vec 54 1 4 (λxi=>[Ai (Eg r p c x),Ai (Iv p r c x),.lit (.slice none 0 0),.lit (.slice none 0 0)].getD xi .top)))),(10,.tup [Ai (relP p r c x),.int 0],(.drop 6))] [8,9] ⟨Hw (Ei (Gu r x) 0 (Ej p c x) (by omega) (Ms h.hp h.hp (by omega) (by omega) (by omega))),Hw (Nj (atR p r c x) _ _ hx4d),Av (Ak 59 4 #[(0,(.tmp 109)),(1,(.tmp 110)),(2,(.tmp 114)),(3,(.tmp 115))] (by kernel_rfl) underlying59 1 sizeOf54 _ zeroValue54 (by kernel_rfl) (Nat.le_of_ble_eq_true (by kernel_rfl)) (Nat.le_of_ble_eq_true (by kernel_rfl)) (Nat.le_of_ble_eq_true (by kernel_rfl)) 6 [Ai (Eg r p c x),Ai (Iv p r c x),.lit (.slice none 0 0),.lit (.slice none 0 0)] (by kernel_rfl) (λxi=>[Ai (Eg r p c x),Ai (Iv p r c x),.lit (.slice none 0 0),.lit (.slice none 0 0)].getD xi .top) (by kernel_rfl)),Av (Jy 53 #[.tmp 116] #[59] (by kernel_rfl) (λ_ _=>by kernel_rfl) 6 (.vec 54 1 4 (λxi=>[Ai (Eg r p c x),Ai (Iv p r c x),.lit (.slice none 0 0),.lit (.slice none 0 0)].getD xi .top)) (by kernel_rfl) (λ_ _ _ _ h=>by cases h;exact(λi hi j hj=>by obtain rfl:j=0:=(by omega);exact match i,hi with|0,_=>rfl|1,_=>rfl|2,_=>rfl|3,_=>rfl|i+4,h=>absurd h (by omega))) [.osl 6 1 4] (by kernel_rfl) [.sl 1 4 (λxi=>[Ai (Eg r p c x),Ai (Iv p r c x),.lit (.slice none 0 0),.lit (.slice none 0 0)].getD xi .top)] (by kernel_rfl) (.tup [Ai (relP p r c x),.int 0]) (eN p r c x h hx4d hx2d)),trivial⟩ ?_
    refine Ae 2 ?_
    exact Gx
   ·
    refine Kq [(2,_,.none),(7,_,.none),(9,.osl 6 1 4,(.new 6 (.vec 54 1 4 (λxi=>[Ai (Eg r p c x),Ai (Iv p r c x),Ai (Gm p r c x),.lit (.slice none 0 0)].getD xi .top)))),(10,.tup [Ai (relP p r c x),.int 0],(.drop 6))] [8,9] ⟨Hw (Ei (Gu r x) 0 (Ej p c x) (by omega) (Ms h.hp h.hp (by omega) (by omega) (by omega))),Hw (Ei (atR p r c x) (Ja p r c x) (Id p r c x) hx4d (Ms h.ap h.ap (by omega) (by omega) (by omega))),Av (Ak 59 4 #[(0,(.tmp 109)),(1,(.tmp 110)),(2,(.tmp 114)),(3,(.tmp 115))] (by kernel_rfl) underlying59 1 sizeOf54 _ zeroValue54 (by kernel_rfl) (Nat.le_of_ble_eq_true (by kernel_rfl)) (Nat.le_of_ble_eq_true (by kernel_rfl)) (Nat.le_of_ble_eq_true (by kernel_rfl)) 6 [Ai (Eg r p c x),Ai (Iv p r c x),Ai (Gm p r c x),.lit (.slice none 0 0)] (by kernel_rfl) (λxi=>[Ai (Eg r p c x),Ai (Iv p r c x),Ai (Gm p r c x),.lit (.slice none 0 0)].getD xi .top) (by kernel_rfl)),Av (Jy 53 #[.tmp 116] #[59] (by kernel_rfl) (λ_ _=>by kernel_rfl) 6 (.vec 54 1 4 (λxi=>[Ai (Eg r p c x),Ai (Iv p r c x),Ai (Gm p r c x),.lit (.slice none 0 0)].getD xi .top)) (by kernel_rfl) (λ_ _ _ _ h=>by cases h;exact(λi hi j hj=>by obtain rfl:j=0:=(by omega);exact match i,hi with|0,_=>rfl|1,_=>rfl|2,_=>rfl|3,_=>rfl|i+4,h=>absurd h (by omega))) [.osl 6 1 4] (by kernel_rfl) [.sl 1 4 (λxi=>[Ai (Eg r p c x),Ai (Iv p r c x),Ai (Gm p r c x),.lit (.slice none 0 0)].getD xi .top)] (by kernel_rfl) (.tup [Ai (relP p r c x),.int 0]) (eP p r c x h hx4d hx2d)),trivial⟩ ?_
    refine Ae 2 ?_
    exact Gx
 ·
  refine Cz (qQ p r c x h hx1d) ?_
  refine Ae 15 ?_
  refine Iw 65 (decide ((0:Int)<x.rise)) false hx1 ?_
  refine Ae 18 ?_
  refine Cz (Uz p c hp hg.1) ?_
  refine Ae 20 ?_
  refine Cz (eS p hp hg.1.1) ?_
  refine Ae 20 ?_
  refine Ft 96 (Id p r c x<Bn p.acts p.acts.length) (λhx5 hx5d=>?_) (λhx5 hx5d=>?_)
  ·
   refine Ae 6 ?_
   refine Cz (aF p r c x hg.1 h hx5d) ?_
   refine Ae 17 ?_
   refine vsp (Ja p r c x=Id p r c x) (λhx6 hx6d=>?_) (λhx6 hx6d=>?_)
   ·
    refine Kq [(2,_,.none),(7,_,.none),(9,.osl 6 1 4,(.new 6 (.vec 54 1 4 (λxi=>[Ai (Eg r p c x),Ai (Iv p r c x),.lit (.slice none 0 0),Ai (Ge p r c x)].getD xi .top)))),(10,.tup [Ai (relP p r c x),.int 0],(.drop 6))] [8,9] ⟨Hw (Ei (Gu r x) 0 (Ej p c x) (by omega) (Ms h.hp h.hp (by omega) (by omega) (by omega))),Hw (Nj (atR p r c x) _ _ hx6d),Av (Ak 59 4 #[(0,(.tmp 109)),(1,(.tmp 110)),(2,(.tmp 114)),(3,(.tmp 115))] (by kernel_rfl) underlying59 1 sizeOf54 _ zeroValue54 (by kernel_rfl) (Nat.le_of_ble_eq_true (by kernel_rfl)) (Nat.le_of_ble_eq_true (by kernel_rfl)) (Nat.le_of_ble_eq_true (by kernel_rfl)) 6 [Ai (Eg r p c x),Ai (Iv p r c x),.lit (.slice none 0 0),Ai (Ge p r c x)] (by kernel_rfl) (λxi=>[Ai (Eg r p c x),Ai (Iv p r c x),.lit (.slice none 0 0),Ai (Ge p r c x)].getD xi .top) (by kernel_rfl)),Av (Jy 53 #[.tmp 116] #[59] (by kernel_rfl) (λ_ _=>by kernel_rfl) 6 (.vec 54 1 4 (λxi=>[Ai (Eg r p c x),Ai (Iv p r c x),.lit (.slice none 0 0),Ai (Ge p r c x)].getD xi .top)) (by kernel_rfl) (λ_ _ _ _ h=>by cases h;exact(λi hi j hj=>by obtain rfl:j=0:=(by omega);exact match i,hi with|0,_=>rfl|1,_=>rfl|2,_=>rfl|3,_=>rfl|i+4,h=>absurd h (by omega))) [.osl 6 1 4] (by kernel_rfl) [.sl 1 4 (λxi=>[Ai (Eg r p c x),Ai (Iv p r c x),.lit (.slice none 0 0),Ai (Ge p r c x)].getD xi .top)] (by kernel_rfl) (.tup [Ai (relP p r c x),.int 0]) (eO p r c x h hn hx6d hx5d)),trivial⟩ ?_
    refine Ae 2 ?_
    exact Gx
   ·
    refine Kq [(2,_,.none),(7,_,.none),(9,.osl 6 1 4,(.new 6 (.vec 54 1 4 (λxi=>[Ai (Eg r p c x),Ai (Iv p r c x),Ai (Gm p r c x),Ai (Ge p r c x)].getD xi .top)))),(10,.tup [Ai (relP p r c x),.int 0],(.drop 6))] [8,9] ⟨Hw (Ei (Gu r x) 0 (Ej p c x) (by omega) (Ms h.hp h.hp (by omega) (by omega) (by omega))),Hw (Ei (atR p r c x) (Ja p r c x) (Id p r c x) hx6d (Ms h.ap h.ap (by omega) (by omega) (by omega))),Av (Ak 59 4 #[(0,(.tmp 109)),(1,(.tmp 110)),(2,(.tmp 114)),(3,(.tmp 115))] (by kernel_rfl) underlying59 1 sizeOf54 _ zeroValue54 (by kernel_rfl) (Nat.le_of_ble_eq_true (by kernel_rfl)) (Nat.le_of_ble_eq_true (by kernel_rfl)) (Nat.le_of_ble_eq_true (by kernel_rfl)) 6 [Ai (Eg r p c x),Ai (Iv p r c x),Ai (Gm p r c x),Ai (Ge p r c x)] (by kernel_rfl) (λxi=>[Ai (Eg r p c x),Ai (Iv p r c x),Ai (Gm p r c x),Ai (Ge p r c x)].getD xi .top) (by kernel_rfl)),Av (Jy 53 #[.tmp 116] #[59] (by kernel_rfl) (λ_ _=>by kernel_rfl) 6 (.vec 54 1 4 (λxi=>[Ai (Eg r p c x),Ai (Iv p r c x),Ai (Gm p r c x),Ai (Ge p r c x)].getD xi .top)) (by kernel_rfl) (λ_ _ _ _ h=>by cases h;exact(λi hi j hj=>by obtain rfl:j=0:=(by omega);exact match i,hi with|0,_=>rfl|1,_=>rfl|2,_=>rfl|3,_=>rfl|i+4,h=>absurd h (by omega))) [.osl 6 1 4] (by kernel_rfl) [.sl 1 4 (λxi=>[Ai (Eg r p c x),Ai (Iv p r c x),Ai (Gm p r c x),Ai (Ge p r c x)].getD xi .top)] (by kernel_rfl) (.tup [Ai (relP p r c x),.int 0]) (eQ p r c x h hn hx6d hx5d)),trivial⟩ ?_
    refine Ae 2 ?_
    exact Gx
  ·
   refine Ae 4 ?_
   refine vsp (Ja p r c x=Id p r c x) (λhx7 hx7d=>?_) (λhx7 hx7d=>?_)
   ·
    refine Kq [(2,_,.none),(7,_,.none),(9,.osl 6 1 4,(.new 6 (.vec 54 1 4 (λxi=>[Ai (Eg r p c x),Ai (Iv p r c x),.lit (.slice none 0 0),.lit (.slice none 0 0)].getD xi .top)))),(10,.tup [Ai (relP p r c x),.int 0],(.drop 6))] [8,9] ⟨Hw (Ei (Gu r x) 0 (Ej p c x) (by omega) (Ms h.hp h.hp (by omega) (by omega) (by omega))),Hw (Nj (atR p r c x) _ _ hx7d),Av (Ak 59 4 #[(0,(.tmp 109)),(1,(.tmp 110)),(2,(.tmp 114)),(3,(.tmp 115))] (by kernel_rfl) underlying59 1 sizeOf54 _ zeroValue54 (by kernel_rfl) (Nat.le_of_ble_eq_true (by kernel_rfl)) (Nat.le_of_ble_eq_true (by kernel_rfl)) (Nat.le_of_ble_eq_true (by kernel_rfl)) 6 [Ai (Eg r p c x),Ai (Iv p r c x),.lit (.slice none 0 0),.lit (.slice none 0 0)] (by kernel_rfl) (λxi=>[Ai (Eg r p c x),Ai (Iv p r c x),.lit (.slice none 0 0),.lit (.slice none 0 0)].getD xi .top) (by kernel_rfl)),Av (Jy 53 #[.tmp 116] #[59] (by kernel_rfl) (λ_ _=>by kernel_rfl) 6 (.vec 54 1 4 (λxi=>[Ai (Eg r p c x),Ai (Iv p r c x),.lit (.slice none 0 0),.lit (.slice none 0 0)].getD xi .top)) (by kernel_rfl) (λ_ _ _ _ h=>by cases h;exact(λi hi j hj=>by obtain rfl:j=0:=(by omega);exact match i,hi with|0,_=>rfl|1,_=>rfl|2,_=>rfl|3,_=>rfl|i+4,h=>absurd h (by omega))) [.osl 6 1 4] (by kernel_rfl) [.sl 1 4 (λxi=>[Ai (Eg r p c x),Ai (Iv p r c x),.lit (.slice none 0 0),.lit (.slice none 0 0)].getD xi .top)] (by kernel_rfl) (.tup [Ai (relP p r c x),.int 0]) (eN p r c x h hx7d hx5d)),trivial⟩ ?_
    refine Ae 2 ?_
    exact Gx
   ·
    refine Kq [(2,_,.none),(7,_,.none),(9,.osl 6 1 4,(.new 6 (.vec 54 1 4 (λxi=>[Ai (Eg r p c x),Ai (Iv p r c x),Ai (Gm p r c x),.lit (.slice none 0 0)].getD xi .top)))),(10,.tup [Ai (relP p r c x),.int 0],(.drop 6))] [8,9] ⟨Hw (Ei (Gu r x) 0 (Ej p c x) (by omega) (Ms h.hp h.hp (by omega) (by omega) (by omega))),Hw (Ei (atR p r c x) (Ja p r c x) (Id p r c x) hx7d (Ms h.ap h.ap (by omega) (by omega) (by omega))),Av (Ak 59 4 #[(0,(.tmp 109)),(1,(.tmp 110)),(2,(.tmp 114)),(3,(.tmp 115))] (by kernel_rfl) underlying59 1 sizeOf54 _ zeroValue54 (by kernel_rfl) (Nat.le_of_ble_eq_true (by kernel_rfl)) (Nat.le_of_ble_eq_true (by kernel_rfl)) (Nat.le_of_ble_eq_true (by kernel_rfl)) 6 [Ai (Eg r p c x),Ai (Iv p r c x),Ai (Gm p r c x),.lit (.slice none 0 0)] (by kernel_rfl) (λxi=>[Ai (Eg r p c x),Ai (Iv p r c x),Ai (Gm p r c x),.lit (.slice none 0 0)].getD xi .top) (by kernel_rfl)),Av (Jy 53 #[.tmp 116] #[59] (by kernel_rfl) (λ_ _=>by kernel_rfl) 6 (.vec 54 1 4 (λxi=>[Ai (Eg r p c x),Ai (Iv p r c x),Ai (Gm p r c x),.lit (.slice none 0 0)].getD xi .top)) (by kernel_rfl) (λ_ _ _ _ h=>by cases h;exact(λi hi j hj=>by obtain rfl:j=0:=(by omega);exact match i,hi with|0,_=>rfl|1,_=>rfl|2,_=>rfl|3,_=>rfl|i+4,h=>absurd h (by omega))) [.osl 6 1 4] (by kernel_rfl) [.sl 1 4 (λxi=>[Ai (Eg r p c x),Ai (Iv p r c x),Ai (Gm p r c x),.lit (.slice none 0 0)].getD xi .top)] (by kernel_rfl) (.tup [Ai (relP p r c x),.int 0]) (eP p r c x h hx7d hx5d)),trivial⟩ ?_
    refine Ae 2 ?_
    exact Gx
def bM (l:List Int) (x:Int):Prop:=∃q,q<l.length/\l.getD q 0=x
def Xd (r:Rv):Prop:=r.homes.length<=9/\r.waits.length<=17/\r.rises.length<=17
theorem Xd.inn {r:Rv} (h:Xd r) (hf:Ct r.flight):aO r:=⟨by have:=h.1;omega,by have:=h.2.1;omega,by have:=h.2.2;omega,hf⟩
def dB (p:Pr) (r:Rv) (c:Cs) (w:Int):Prop:=bM r.waits w/\Gc p c (Em p r c w)<p.acts.length
theorem jS {r:Rv} {w:Int} (hr:Ng r) (h:bM r.waits w):0<=w/\w<=3600000:=by
 obtain⟨q,hq,rfl⟩:=h
 have:=hr.2.2.1.2.2 q hq
 exact⟨this.1,this.2.1⟩
theorem mF (p:Pr) (r:Rv) (c:Cs) (w:Int) (hp:Km p) (hc:Fx p c) (hcs:Qa c) (hr:Ng r) (h:dB p r c w):AF Tryz.prog 39 [Ey p,Hg r,Hv c,.int w] (.lit (.tuple #[.int .i64 (Bj p c+w),.int .i64 (Bj p c+w+r.flight),.int .i64 (Gc p c (Em p r c w):Int),.int .i64 (Bn p.acts (Gc p c (Em p r c w)+1)),eJ (Ko p c (Gc p c (Em p r c w)))])):=by
 have:=Oo p r c w hp hc hcs hr (jS hr h.1)
 unfold eG at this
 rwa [if_pos h.2] at this
theorem mE (p:Pr) (r:Rv) (c:Cs) (w:Int) (hp:Km p) (hc:Fx p c) (hcs:Qa c) (hr:Ng r) (h1:bM r.waits w) (h:¬dB p r c w):AF Tryz.prog 39 [Ey p,Hg r,Hv c,.int w] (.lit (.tuple #[.int .i64 (Bj p c+w),.int .i64 (Bj p c+w+r.flight),.int .i64 (-1),.int .i64 (Bn p.acts p.acts.length),.agg #[.int .i64 0,.int .i64 0,.int .i64 0]])):=by
 have:=Oo p r c w hp hc hcs hr (jS hr h1)
 unfold eG at this
 rwa [if_neg (λg=>h ⟨h1,g⟩)] at this
theorem Ux (l:List Int) (x:Int) (hn:l.length<=1000000):AF Tryz.prog 38 [Dg l,.int x] (.bool (bP (bM l x))):=by
 refine Cq func38 rfl λB D0 hA0=>?_
 refine Ae 9 ?_
 refine dM 0 func74 (λ_ hD1=>?_)
 refine Ae 14 ?_
 refine Mf [0,1,7,8] l.length (λi=>∀q,q<i->¬(l.getD q 0=x)) (λi=>⟨[(0,Dg l),(1,.int x),(7,.int (l.length:Int)),(8,.int (i:Int))],[],0,19⟩) (λq hq=>absurd hq (Nat.not_lt_zero q)) (λi hin hFi J1 hJ1=>?_)
 refine Ae 6 ?_
 refine Ft 9 ((i:Int)<(l.length:Int)) (λhx2 hx2d=>?_) (λhx2 hx2d=>?_)
 ·
  refine Ae 16 ?_
  refine Gn i l.length ?_
  refine Ae 4 ?_
  refine Ft 16 (x=(l).getD i 0) (λhx3 hx3d=>?_) (λhx3 hx3d=>?_)
  ·
   refine Ae 13 ?_
   refine vrI (Ae 1 ?_)
   refine Iw 8 (decide ((0:Int)<=(i:Int))) true (decide_eq_true (by omega)) ?_
   refine Ae 4 ?_
   exact Fw (.bool true) (congrArg AV.bool (Dw ⟨i,by omega,by omega⟩).symm)
  ·
   refine Ae 5 ?_
   refine Fr ((i:Int)+1) ((i+1:Nat):Int) ?_
   refine Ae 2 ?_
   exact Om [0,1,7,8] (hJ1 (by omega) (λq hq=>(Nat.lt_or_ge q i).elim (λg=>hFi q g) λg=>by have e:q=i:=(by omega);subst e;omega))
 ·
  refine Ae 12 ?_
  refine vrI (Ae 5 ?_)
  exact Fw (.bool false) (congrArg AV.bool (As λ⟨q,hq,h9⟩=>hFi q (by omega) h9).symm)
theorem lY (l:List Int) (x:Int) (hn:l.length<=1000000):AF Tryz.prog 16 [Dg l,.int x] (.bool (bP (bM l x))):=by
 refine Cq func16 rfl λB D0 hA0=>?_
 refine Ae 12 ?_
 refine Mf [0,1,5] l.length (λi=>∀q,q<i->¬(l.getD q 0=x)) (λi=>⟨[(0,Dg l),(1,.int x),(5,.int (i:Int))],[],0,18⟩) (λq hq=>absurd hq (Nat.not_lt_zero q)) (λi hin hFi J1 hJ1=>?_)
 refine Ae 9 ?_
 refine Ft 9 ((i:Int)<(l.length:Int)) (λhx1 hx1d=>?_) (λhx1 hx1d=>?_)
 ·
  refine Ae 9 ?_
  refine Gn i l.length ?_
  refine Ae 5 ?_
  refine Ft 17 ((l).getD i 0=x) (λhx2 hx2d=>?_) (λhx2 hx2d=>?_)
  ·
   refine Ae 12 ?_
   exact Fw (.bool true) (congrArg AV.bool (Dw ⟨i,by omega,by omega⟩).symm)
  ·
   refine Ae 6 ?_
   refine Fr ((i:Int)+1) ((i+1:Nat):Int) ?_
   refine Ae 2 ?_
   exact Om [0,1,5] (hJ1 (by omega) (λq hq=>(Nat.lt_or_ge q i).elim (λg=>hFi q g) λg=>by have e:q=i:=(by omega);subst e;omega))
 ·
  refine Ae 12 ?_
  exact Fw (.bool false) (congrArg AV.bool (As λ⟨q,hq,h9⟩=>hFi q (by omega) h9).symm)
theorem Aas (r:Rv):AF Tryz.prog 9 [Hg r] (.bool (bP (Xd r))):=by
 refine Cq func9 rfl λB D0 hA0=>?_
 refine Ae 13 ?_
 refine Ft 7 ((r.homes.length:Int)<=9) (λhx1 hx1d=>?_) (λhx1 hx1d=>?_)
 ·
  refine Ae 6 ?_
  refine Ft 13 ((r.waits.length:Int)<=17) (λhx2 hx2d=>?_) (λhx2 hx2d=>?_)
  ·
   refine Ae 9 ?_
   exact Fw (.bool (decide ((r.rises.length:Int)<=17))) (congrArg AV.bool (if hz:r.rises.length<=17 then (decide_eq_true (by omega)).trans (Dw ⟨by omega,by omega,hz⟩).symm else (decide_eq_false (by omega)).trans (As (λg=>hz g.2.2)).symm))
  ·
   refine Ae 9 ?_
   exact Fw (.bool false) (congrArg AV.bool (As λg=>by have g1:=g.1;have g2:=g.2.1;have g3:=g.2.2;omega).symm)
 ·
  refine Ae 15 ?_
  exact Fw (.bool false) (congrArg AV.bool (As λg=>by have g1:=g.1;have g2:=g.2.1;have g3:=g.2.2;omega).symm)
theorem Tn (p:Pr) (r:Rv) (c:Cs) (w:Int) (hp:Km p) (hr:aO r) (hcs:Qa c) (h:¬Nt p r c):AF Tryz.prog 14 [Ey p,Hg r,Hv c,.int w] (.lit (.tuple #[.int .i64 0,.agg #[.int .i64 0,.int .i64 0,.int .i64 0],.int .i64 2])):=by
 refine Cq func14 rfl λB D0 hA0=>?_
 refine Ae 16 ?_
 refine Cz (Zi p r c hp hr hcs) ?_
 refine Ae 3 ?_
 refine Iw 15 (!bP (Nt p r c)) true (by rw[(As h)];rfl) ?_
 refine Ae 11 ?_
 exact Gx
theorem Uv (p:Pr) (r:Rv) (c:Cs) (w:Int) (hp:Km p) (hr:aO r) (hcs:Qa c) (hg:Nt p r c) (h:¬dB p r c w):AF Tryz.prog 14 [Ey p,Hg r,Hv c,.int w] (.lit (.tuple #[.int .i64 0,.agg #[.int .i64 0,.int .i64 0,.int .i64 0],.int .i64 9])):=by
 refine Cq func14 rfl λB D0 hA0=>?_
 refine Ae 16 ?_
 refine Cz (Zi p r c hp hr hcs) ?_
 refine Ae 3 ?_
 refine Iw 15 (!bP (Nt p r c)) false (by rw[(Dw hg)];rfl) ?_
 refine Ae 9 ?_
 refine Cz (Ux _ w hr.w) ?_
 refine Ae 3 ?_
 refine lG 21 (bP (bM r.waits w)) (λhx1=>?_) (λhx1=>?_)
 ·
  refine Ae 9 ?_
  refine Cz (mE p r c w hp hg.1 hcs hg.2 (Dv hx1) h) ?_
  refine Ae 28 ?_
  exact Gx
 ·
  refine Ae 11 ?_
  exact Gx
theorem Uw (p:Pr) (r:Rv) (c:Cs) (w:Int) (hp:Km p) (hr:aO r) (hcs:Qa c) (hg:Nt p r c) (h:dB p r c w):AF Tryz.prog 14 [Ey p,Hg r,Hv c,.int w] (.lit (.tuple #[.int .i64 (Gc p c (Em p r c w):Int),eJ (Ko p c (Gc p c (Em p r c w))),.int .i64 0])):=by
 refine Cq func14 rfl λB D0 hA0=>?_
 refine Ae 16 ?_
 refine Cz (Zi p r c hp hr hcs) ?_
 refine Ae 3 ?_
 refine Iw 15 (!bP (Nt p r c)) false (by rw[(Dw hg)];rfl) ?_
 refine Ae 9 ?_
 refine Cz (Ux _ w hr.w) ?_
 refine Ae 3 ?_
 refine Iw 21 (!bP (bM r.waits w)) false (by rw[(Dw h.1)];rfl) ?_
 refine Ae 9 ?_
 refine Cz (mF p r c w hp hg.1 hcs hg.2 h) ?_
 refine Ae 15 ?_
 refine Iw 35 (decide (((Gc p c (Em p r c w)):Int)<0)) false (decide_eq_false (by omega)) ?_
 refine Ae 6 ?_
 refine Kq [] [8,9,10] trivial ?_
 refine Ae 2 ?_
 exact Gx
def Acc:List Mv:=[⟨⟨0,0,1000⟩,0,1000,0⟩,⟨⟨1000,0,1000⟩,0,1000,0⟩]
def Acd:List Mv:=[⟨⟨0,0,1000⟩,0,0,0⟩,⟨⟨1000,0,1000⟩,0,0,0⟩]
def Ace:List Mv:=[⟨⟨0,500,1000⟩,0,1000,0⟩,⟨⟨1000,500,1000⟩,0,1000,0⟩]
def Xa:Pr:=⟨[⟨#[97]⟩,⟨#[98]⟩],[⟨0,0,0⟩,⟨1000,0,0⟩],[⟨⟨#[117,112]⟩,2000,Acc⟩,⟨⟨#[115,116,97,121]⟩,2000,Acd⟩,⟨⟨#[110,111,114,116,104]⟩,2000,Ace⟩]⟩
def Yx:Rv:=⟨[⟨0,-500,0⟩,⟨1000,-500,0⟩],1200,[0,1000],[0,300]⟩
theorem iG:AF Tryz.prog 32 [] (.tup [Ey Xa,Hg Yx]):=by
 refine Cq func32 rfl λB D0 hA0=>?_
 refine Ae 22 ?_
 refine Ce (.osl 4 6 2) (.new 4 (.vec 91 6 2 (λxi=>yG (Acc.getD xi Mv.none)))) (Ak 85 2 #[(0,(.tmp 10)),(1,(.tmp 12))] (by kernel_rfl) underlying85 6 sizeOf91 _ zeroValue91 (by kernel_rfl) (Nat.le_of_ble_eq_true (by kernel_rfl)) (Nat.le_of_ble_eq_true (by kernel_rfl)) (Nat.le_of_ble_eq_true (by kernel_rfl)) 4 [.int 0,.int 0,.int 1000,.int 0,.int 1000,.int 0,.int 1000,.int 0,.int 1000,.int 0,.int 1000,.int 0] (by kernel_rfl) (λxi=>yG (Acc.getD xi Mv.none)) (by kernel_rfl)) ?_
 refine Ae 9 ?_
 refine Ce (.osl 5 6 2) (.new 5 (.vec 91 6 2 (λxi=>yG (Ace.getD xi Mv.none)))) (Ak 85 2 #[(0,(.tmp 15)),(1,(.tmp 17))] (by kernel_rfl) underlying85 6 sizeOf91 _ zeroValue91 (by kernel_rfl) (Nat.le_of_ble_eq_true (by kernel_rfl)) (Nat.le_of_ble_eq_true (by kernel_rfl)) (Nat.le_of_ble_eq_true (by kernel_rfl)) 5 [.int 0,.int 500,.int 1000,.int 0,.int 1000,.int 0,.int 1000,.int 500,.int 1000,.int 0,.int 1000,.int 0] (by kernel_rfl) (λxi=>yG (Ace.getD xi Mv.none)) (by kernel_rfl)) ?_
 refine Ae 3 ?_
 refine dL 4 [4] 91 6 2 (λxi=>yG (Acc.getD xi Mv.none)) (Hq λ_ _=>rfl) ?_
 refine dL 5 [5] 91 6 2 (λxi=>yG (Ace.getD xi Mv.none)) (Hq λ_ _=>rfl) ?_
 refine Ae 2 ?_
 refine Ce (.osl 6 1 2) (.new 6 (.vec 9 1 2 (λxi=> .lit (.string (Xa.names.getD xi ByteArray.empty))))) (Ak 28 2 #[(0,(.const (.string ⟨#[97]⟩))),(1,(.const (.string ⟨#[98]⟩)))] (by kernel_rfl) underlying28 1 sizeOf9 _ zeroValue9 (by kernel_rfl) (Nat.le_of_ble_eq_true (by kernel_rfl)) (Nat.le_of_ble_eq_true (by kernel_rfl)) (Nat.le_of_ble_eq_true (by kernel_rfl)) 6 [.lit (.string ⟨#[97]⟩),.lit (.string ⟨#[98]⟩)] (by kernel_rfl) (λxi=> .lit (.string (Xa.names.getD xi ByteArray.empty))) (by kernel_rfl)) ?_
 refine Ae 2 ?_
 refine Ce (.osl 7 3 2) (.new 7 (.vec 36 3 2 (λxi=>Hf (Xa.homes.getD xi V3.zero)))) (Ak 22 2 #[(0,(.tmp 20)),(1,(.tmp 21))] (by kernel_rfl) underlying22 3 sizeOf36 _ zeroValue36 (by kernel_rfl) (Nat.le_of_ble_eq_true (by kernel_rfl)) (Nat.le_of_ble_eq_true (by kernel_rfl)) (Nat.le_of_ble_eq_true (by kernel_rfl)) 7 [.int 0,.int 0,.int 0,.int 1000,.int 0,.int 0] (by kernel_rfl) (λxi=>Hf (Xa.homes.getD xi V3.zero)) (by kernel_rfl)) ?_
 refine Ae 6 ?_
 refine Ce (.osl 8 6 2) (.new 8 (.vec 91 6 2 (λxi=>yG (Acd.getD xi Mv.none)))) (Ak 85 2 #[(0,(.tmp 26)),(1,(.tmp 28))] (by kernel_rfl) underlying85 6 sizeOf91 _ zeroValue91 (by kernel_rfl) (Nat.le_of_ble_eq_true (by kernel_rfl)) (Nat.le_of_ble_eq_true (by kernel_rfl)) (Nat.le_of_ble_eq_true (by kernel_rfl)) 8 [.int 0,.int 0,.int 1000,.int 0,.int 0,.int 0,.int 1000,.int 0,.int 1000,.int 0,.int 0,.int 0] (by kernel_rfl) (λxi=>yG (Acd.getD xi Mv.none)) (by kernel_rfl)) ?_
 refine dL 8 [29] 91 6 2 (λxi=>yG (Acd.getD xi Mv.none)) (Hq λ_ _=>rfl) ?_
 refine Ae 3 ?_
 refine Ce (.osl 9 3 3) (.new 9 (.vec 87 3 3 (λxi=>AcJ (Xa.acts.getD xi Ac.none)))) (Ak 29 3 #[(0,(.tmp 24)),(1,(.tmp 30)),(2,(.tmp 32))] (by kernel_rfl) underlying29 3 sizeOf87 _ zeroValue87 (by kernel_rfl) (Nat.le_of_ble_eq_true (by kernel_rfl)) (Nat.le_of_ble_eq_true (by kernel_rfl)) (Nat.le_of_ble_eq_true (by kernel_rfl)) 9 [.lit (.string ⟨#[117,112]⟩),.int 2000,.sl 6 2 (λxi=>yG (Acc.getD xi Mv.none)),.lit (.string ⟨#[115,116,97,121]⟩),.int 2000,.sl 6 2 (λxi=>yG (Acd.getD xi Mv.none)),.lit (.string ⟨#[110,111,114,116,104]⟩),.int 2000,.sl 6 2 (λxi=>yG (Ace.getD xi Mv.none))] (by kernel_rfl) (λxi=>AcJ (Xa.acts.getD xi Ac.none)) (by kernel_rfl)) ?_
 refine Ae 5 ?_
 refine Aab 6 10 0 9 1 2 (λxi=> .lit (.string (Xa.names.getD xi ByteArray.empty))) (Hq λ_ _=>rfl) ?_
 refine Aab 7 10 1 36 3 2 (λxi=>Hf (Xa.homes.getD xi V3.zero)) (Hq λ_ _=>rfl) ?_
 refine Aab 9 10 2 87 3 3 (λxi=>AcJ (Xa.acts.getD xi Ac.none)) (Hq λ_ _=>rfl) ?_
 refine Ae 5 ?_
 refine Ce (.osl 11 3 2) (.new 11 (.vec 36 3 2 (λxi=>Hf (Yx.homes.getD xi V3.zero)))) (Ak 22 2 #[(0,(.tmp 36)),(1,(.tmp 37))] (by kernel_rfl) underlying22 3 sizeOf36 _ zeroValue36 (by kernel_rfl) (Nat.le_of_ble_eq_true (by kernel_rfl)) (Nat.le_of_ble_eq_true (by kernel_rfl)) (Nat.le_of_ble_eq_true (by kernel_rfl)) 11 [.int 0,.int (-500),.int 0,.int 1000,.int (-500),.int 0] (by kernel_rfl) (λxi=>Hf (Yx.homes.getD xi V3.zero)) (by kernel_rfl)) ?_
 refine Ce (.osl 12 1 2) (.new 12 (.vec 3 1 2 (λxi=> .int (Yx.waits.getD xi 0)))) (Ak 23 2 #[(0,(.const (.int .i64 0))),(1,(.const (.int .i64 1000)))] (by kernel_rfl) underlying23 1 sizeOf3 _ zeroValue3 (by kernel_rfl) (Nat.le_of_ble_eq_true (by kernel_rfl)) (Nat.le_of_ble_eq_true (by kernel_rfl)) (Nat.le_of_ble_eq_true (by kernel_rfl)) 12 [.int 0,.int 1000] (by kernel_rfl) (λxi=> .int (Yx.waits.getD xi 0)) (by kernel_rfl)) ?_
 refine Ce (.osl 13 1 2) (.new 13 (.vec 3 1 2 (λxi=> .int (Yx.rises.getD xi 0)))) (Ak 23 2 #[(0,(.const (.int .i64 0))),(1,(.const (.int .i64 300)))] (by kernel_rfl) underlying23 1 sizeOf3 _ zeroValue3 (by kernel_rfl) (Nat.le_of_ble_eq_true (by kernel_rfl)) (Nat.le_of_ble_eq_true (by kernel_rfl)) (Nat.le_of_ble_eq_true (by kernel_rfl)) 13 [.int 0,.int 300] (by kernel_rfl) (λxi=> .int (Yx.rises.getD xi 0)) (by kernel_rfl)) ?_
 refine Ae 5 ?_
 refine Aco 11 1 0 36 3 2 (λxi=>Hf (Yx.homes.getD xi V3.zero)) (Hq λ_ _=>rfl) ?_
 refine Aco 12 1 2 3 1 2 (λxi=> .int (Yx.waits.getD xi 0)) (Hq λ_ _=>rfl) ?_
 refine Aco 13 1 3 3 1 2 (λxi=> .int (Yx.rises.getD xi 0)) (Hq λ_ _=>rfl) ?_
 refine Ae 1 ?_
 exact Gx
theorem lC:Km Xa:=⟨by decide,by decide,by decide,by decide,by decide⟩
theorem lD:aO Yx:=⟨by decide,by decide,by decide,⟨by decide,by decide⟩⟩
theorem zR:Fa Xa=true:=by kernel_rfl
theorem Aej {a b m:Int} (h:0<=a/\a<b/\b<=m):Of [a,b] m:=⟨by simp,by simp,λi hi=>by
 have:i<2:=hi
 match i,this with
 |0,_=>exact⟨h.1,by show a<=m;omega,λh0=>absurd h0 (Nat.lt_irrefl 0)⟩
 |1,_=>exact⟨by show 0<=b;omega,h.2.2,λ_=>h.2.1⟩⟩
theorem AeU:Ng Yx:=⟨⟨by decide,by decide,by decide,by decide,by decide⟩,λi hi=>by
 have:i<2:=hi
 match i,this with
 |0,_=>exact⟨rfl,λj hj=>absurd hj (Nat.not_lt_zero j)⟩
 |1,_=>exact⟨rfl,λj hj=>by
  obtain rfl:j=0:=by omega
  decide⟩,Aej (by decide),Aej (by decide)⟩
theorem AeS (k:Int) (h:k=0\/k=2):Fx Xa ⟨0,k⟩:=⟨zR,by show (0:Int)<=0;decide,by show (0:Int)<2;decide,by show (0:Int)<=k;omega,by show k<(3:Int);omega⟩
theorem lB (k:Int) (h:k=0\/k=2):Nt Xa Yx ⟨0,k⟩:=⟨AeS k h,AeU⟩
theorem AdO (k:Int) (h:k=0\/k=2):Qa ⟨0,k⟩:=by rcases h with rfl|rfl<;>exact⟨Qi,⟨by decide,by decide⟩⟩
def sxL:List Rl:=[⟨0,0,0⟩,⟨0,0,300⟩,⟨1,0,0⟩,⟨1,0,300⟩,⟨0,1000,0⟩,⟨0,1000,300⟩,⟨1,1000,0⟩,⟨1,1000,300⟩]
theorem Acb:Pc Xa Yx ⟨0,0⟩=sxL:=by kernel_rfl
def tA:List Sg:=relP Xa Yx ⟨0,0⟩ Rl.none
theorem Af8:tA.length=5:=by kernel_rfl
theorem Ady {l:List Sg} {n:Nat} (h:l.length=n):Ai l= .sl 6 n λxi=>Bq (l.getD xi Sg.none):=by subst h;rfl
theorem Aek (w:Int) (i:Nat) (hw:bM Yx.waits w) (h:Gc Xa ⟨0,0⟩ (Em Xa Yx ⟨0,0⟩ w)=i) (hi:i<3):AF Tryz.prog 14 [Ey Xa,Hg Yx,Hv ⟨0,0⟩,.int w] (.lit (.tuple #[.int .i64 (i:Int),eJ (Ko Xa ⟨0,0⟩ i),.int .i64 0])):=by
 subst h
 exact Uw Xa Yx ⟨0,0⟩ w lC lD (AdO 0 (.inl rfl)) (lB 0 (.inl rfl)) ⟨hw,hi⟩
theorem AeT:AF Tryz.prog 14 [Ey Xa,Hg Yx,Hv ⟨0,2⟩,.int 0] (.lit (.tuple #[.int .i64 0,.agg #[.int .i64 0,.int .i64 0,.int .i64 0],.int .i64 9])):=
 Uv Xa Yx ⟨0,2⟩ 0 lC lD (AdO 2 (.inr rfl)) (lB 2 (.inr rfl)) λg=>absurd g.2 (by decide)
theorem Af9:AF Tryz.prog 18 [Ey Xa,Hg Yx,Hv ⟨0,0⟩] (.tup [.sl 3 8 λxi=>Cu (sxL.getD xi Rl.none),.int 0]):=by
 have h:=Ya Xa Yx ⟨0,0⟩ lC lD (AdO 0 (.inl rfl)) (lB 0 (.inl rfl))
 rwa [Acb] at h
theorem AfA:AF Tryz.prog 21 [Ey Xa,Hg Yx,Hv ⟨0,0⟩,Cu Rl.none] (.tup [.sl 6 5 λxi=>Bq (tA.getD xi Sg.none),.int 0]):=by
 have h:=qR Xa Yx ⟨0,0⟩ Rl.none lC lD (AdO 0 (.inl rfl)) (lB 0 (.inl rfl)) (by decide) (by rw[Acb];exact List.mem_cons_self)
 rwa [show relP Xa Yx ⟨0,0⟩ Rl.none=tA from rfl,Ady Af8] at h
theorem Jh:AF Tryz.prog 10 [] (.bool true):=by
 refine Cq func10 rfl λB D0 hA0=>?_
 refine Ae 7 ?_
 refine Cz iG ?_
 refine Ae 14 ?_
 refine Cz (Aek 0 1 ⟨0,by decide,rfl⟩ (by decide) (by decide)) ?_
 refine Ae 15 ?_
 refine Cz (Aek 1000 2 ⟨1,by decide,rfl⟩ (by decide) (by decide)) ?_
 refine Ae 15 ?_
 refine Cz AeT ?_
 refine Ae 15 ?_
 refine Cz Af9 ?_
 refine Ae 15 ?_
 refine Ce (.bool false) .none (Jc (Wf 36 36 (.tmp 56) (.tmp 57) (by kernel_rfl) _ _ (by kernel_rfl) (by kernel_rfl) (by kernel_rfl) (decide ((0:Int)=0/\(0:Int)=0/\(1000:Int)=1000)) (Qf _ _ _ _ _ _)) (show (!(decide ((0:Int)=0/\(0:Int)=0/\(1000:Int)=1000)):Bool)=false from by decide)) ?_
 refine Ae 12 ?_
 refine Ce (.bool false) .none (Jc (Wf 36 36 (.tmp 69) (.tmp 70) (by kernel_rfl) _ _ (by kernel_rfl) (by kernel_rfl) (by kernel_rfl) (decide ((0:Int)=0/\(500:Int)=500/\(1000:Int)=1000)) (Qf _ _ _ _ _ _)) (show (!(decide ((0:Int)=0/\(500:Int)=500/\(1000:Int)=1000)):Bool)=false from by decide)) ?_
 refine Ae 20 ?_
 refine Gn 0 8 ?_
 refine Ae 2 ?_
 refine Ce (.bool false) .none (Jc (Wf 52 52 (.tmp 93) (.tmp 94) (by kernel_rfl) _ _ (by kernel_rfl) (by kernel_rfl) (by kernel_rfl) (decide ((0:Int)=0/\(0:Int)=0/\(0:Int)=0)) (uM _ _ _ _ _ _)) (show (!(decide ((0:Int)=0/\(0:Int)=0/\(0:Int)=0)):Bool)=false from by decide)) ?_
 refine Ae 3 ?_
 refine Gn 1 8 ?_
 refine Ae 2 ?_
 refine Ce (.bool false) .none (Jc (Wf 52 52 (.tmp 100) (.tmp 101) (by kernel_rfl) _ _ (by kernel_rfl) (by kernel_rfl) (by kernel_rfl) (decide ((0:Int)=0/\(0:Int)=0/\(300:Int)=300)) (uM _ _ _ _ _ _)) (show (!(decide ((0:Int)=0/\(0:Int)=0/\(300:Int)=300)):Bool)=false from by decide)) ?_
 refine Ae 3 ?_
 refine Gn 2 8 ?_
 refine Ae 2 ?_
 refine Ce (.bool false) .none (Jc (Wf 52 52 (.tmp 107) (.tmp 108) (by kernel_rfl) _ _ (by kernel_rfl) (by kernel_rfl) (by kernel_rfl) (decide ((1:Int)=1/\(0:Int)=0/\(0:Int)=0)) (uM _ _ _ _ _ _)) (show (!(decide ((1:Int)=1/\(0:Int)=0/\(0:Int)=0)):Bool)=false from by decide)) ?_
 refine Ae 7 ?_
 refine Kq [(4,Fv (.sl 3 8 (λxi=>Cu (sxL.getD xi Rl.none))) 0,.none),(6,_,.none)] [14,15] ⟨Ox 0 8,Hw AfA,trivial⟩ ?_
 refine Ae 13 ?_
 refine Gn 0 5 ?_
 refine Ae 12 ?_
 refine Ce (.osl 5 1 5) (.new 5 (.vec 3 1 5 (λxi=>[AV.int 2000,AV.int 3200,AV.int 4000,AV.int 5000,AV.int 6000].getD xi .top))) (Ak 23 5 #[(0,(.const (.int .i64 2000))),(1,(.const (.int .i64 3200))),(2,(.const (.int .i64 4000))),(3,(.const (.int .i64 5000))),(4,(.const (.int .i64 6000)))] (by kernel_rfl) underlying23 1 sizeOf3 _ zeroValue3 (by kernel_rfl) (Nat.le_of_ble_eq_true (by kernel_rfl)) (Nat.le_of_ble_eq_true (by kernel_rfl)) (Nat.le_of_ble_eq_true (by kernel_rfl)) 5 [.int 2000,.int 3200,.int 4000,.int 5000,.int 6000] (by kernel_rfl) (λxi=>[AV.int 2000,AV.int 3200,AV.int 4000,AV.int 5000,AV.int 6000].getD xi .top) (by kernel_rfl)) ?_
 refine Ae 5 ?_
 refine vul 5 ?_
 refine Ae 14 ?_
 refine Gn 0 5 ?_
 refine Ce (.int 2000) (.read 5) (De 3 (.tmp 140) (by kernel_rfl) isAgg3 5 0 0 1 (by kernel_rfl) 3 5 (λxi=>[AV.int 2000,AV.int 3200,AV.int 4000,AV.int 5000,AV.int 6000].getD xi .top) (by kernel_rfl) (by omega) (by decide)) ?_
 refine Ae 8 ?_
 refine Gn 0 5 ?_
 refine Ae 11 ?_
 refine Nd (.int .i64 1) (.int .i64 1) ?_
 refine Ae 17 ?_
 refine Gn 1 5 ?_
 refine Ce (.int 3200) (.read 5) (De 3 (.tmp 140) (by kernel_rfl) isAgg3 5 1 0 1 (by kernel_rfl) 3 5 (λxi=>[AV.int 2000,AV.int 3200,AV.int 4000,AV.int 5000,AV.int 6000].getD xi .top) (by kernel_rfl) (by omega) (by decide)) ?_
 refine Ae 8 ?_
 refine Gn 1 5 ?_
 refine Ae 11 ?_
 refine Nd (.int .i64 2) (.int .i64 2) ?_
 refine Ae 17 ?_
 refine Gn 2 5 ?_
 refine Ce (.int 4000) (.read 5) (De 3 (.tmp 140) (by kernel_rfl) isAgg3 5 2 0 1 (by kernel_rfl) 3 5 (λxi=>[AV.int 2000,AV.int 3200,AV.int 4000,AV.int 5000,AV.int 6000].getD xi .top) (by kernel_rfl) (by omega) (by decide)) ?_
 refine Ae 8 ?_
 refine Gn 2 5 ?_
 refine Ae 11 ?_
 refine Nd (.int .i64 3) (.int .i64 3) ?_
 refine Ae 17 ?_
 refine Gn 3 5 ?_
 refine Ce (.int 5000) (.read 5) (De 3 (.tmp 140) (by kernel_rfl) isAgg3 5 3 0 1 (by kernel_rfl) 3 5 (λxi=>[AV.int 2000,AV.int 3200,AV.int 4000,AV.int 5000,AV.int 6000].getD xi .top) (by kernel_rfl) (by omega) (by decide)) ?_
 refine Ae 8 ?_
 refine Gn 3 5 ?_
 refine Ae 11 ?_
 refine Nd (.int .i64 4) (.int .i64 4) ?_
 refine Ae 17 ?_
 refine Gn 4 5 ?_
 refine Ce (.int 6000) (.read 5) (De 3 (.tmp 140) (by kernel_rfl) isAgg3 5 4 0 1 (by kernel_rfl) 3 5 (λxi=>[AV.int 2000,AV.int 3200,AV.int 4000,AV.int 5000,AV.int 6000].getD xi .top) (by kernel_rfl) (by omega) (by decide)) ?_
 refine Ae 8 ?_
 refine Gn 4 5 ?_
 refine Ae 11 ?_
 refine Nd (.int .i64 5) (.int .i64 5) ?_
 refine Ae 21 ?_
 exact Gx
end Go.Proofs.YtldnjomacnjhnaaGreat
namespace Go.Proofs.YtldnjomacnjhnaaGreat
open Go.RowKit
theorem dW (p:Pr) (r:Rv) (c:Cs) (w:Int) (hp:Km p) (hg:Nt p r c) (h:dB p r c w):AF Tryz.prog 17 [Ey p,Hg r,Hv c,.int w] (.lit (.tuple #[.int .i64 (Gc p c (Em p r c w):Int),eJ (Ko p c (Gc p c (Em p r c w)))])):=by
 have:=Yc p r c w hp hg.1 hg.2 (jS hg.2 h.1)
 unfold sQ at this
 rwa [if_pos h.2] at this
theorem dV (p:Pr) (r:Rv) (c:Cs) (w:Int) (hp:Km p) (hg:Nt p r c) (h1:bM r.waits w) (h:¬dB p r c w):AF Tryz.prog 17 [Ey p,Hg r,Hv c,.int w] (.lit (.tuple #[.int .i64 (-1),.agg #[.int .i64 0,.int .i64 0,.int .i64 0]])):=by
 have:=Yc p r c w hp hg.1 hg.2 (jS hg.2 h1)
 unfold sQ at this
 rwa [if_neg (λg=>h ⟨h1,g⟩)] at this
theorem Yz (p:Pr) (r:Rv) (c:Cs) (w:Int) (hl:∀a∈p.acts,Ct a.len) (hf:Ct r.flight) (hcs:Qa c):AF Tryz.prog 4 [Ey p,Hg r,Hv c,.int w] (.bool true):=by
 refine Cq Tryz.func4 rfl λB D0 hA0=>?_
 refine Ae 12 ?_
 refine Cz (Aar p 4 5 ⟨by decide,by decide⟩ ⟨by decide,by decide⟩) ?_
 refine Ae 2 ?_
 refine lG 17 (bP (Aes p 4 5)) (λhx1=>?_) (λhx1=>?_)
 ·
  refine Ae 1 ?_
  refine Cz (Aas r) ?_
  refine Ae 4 ?_
  refine lG 21 (bP (Xd r)) (λhx2=>?_) (λhx2=>?_)
  ·
   refine Ae 9 ?_
   refine Dx (bP (Fx p c)) (λhx3=>?_) (λhx3=>?_)
   ·
    refine Dx (bP (Ng r)) (λhx4=>?_) (λhx4=>?_)
    ·
     refine Dx (bP (dB p r c w)) (λhx5=>?_) (λhx5=>?_)
     ·
      refine Cz (Uw p r c w (Oj (Dv hx1) (by decide) (by decide) hl) (Xd.inn (Dv hx2) hf) hcs ⟨Dv hx3,Dv hx4⟩ (Dv hx5)) ?_
      refine Ae 15 ?_
      refine Cz (Px p c (Oj (Dv hx1) (by decide) (by decide) hl) hcs) ?_
      refine Ae 2 ?_
      refine Iw 36 (!bP (Fx p c)) false (nt hx3) ?_
      refine Ae 1 ?_
      refine Cz (Od r (Xd.inn (Dv hx2) hf)) ?_
      refine Ae 4 ?_
      refine Iw 40 (!bP (Ng r)) false (nt hx4) ?_
      refine Ae 17 ?_
      refine Cz (lY _ w (Xd.inn (Dv hx2) hf).w) ?_
      refine Ae 2 ?_
      refine Iw 59 (bP (bM r.waits w)) true (Dw (Dv hx5).1) ?_
      refine Ae 6 ?_
      refine Cz (dW p r c w (Oj (Dv hx1) (by decide) (by decide) hl) ⟨Dv hx3,Dv hx4⟩ (Dv hx5)) ?_
      refine Ae 14 ?_
      refine Iw 69 (decide (((Gc p c (Em p r c w)):Int)<0)) false (decide_eq_false (by omega)) ?_
      refine Ae 9 ?_
      refine Iw 87 (decide (((Gc p c (Em p r c w)):Int)=((Gc p c (Em p r c w)):Int))) true (decide_eq_true rfl) ?_
      refine Ae 2 ?_
      refine Ce (.bool (decide ((Ko p c (Gc p c (Em p r c w))).x=(Ko p c (Gc p c (Em p r c w))).x/\(Ko p c (Gc p c (Em p r c w))).y=(Ko p c (Gc p c (Em p r c w))).y/\(Ko p c (Gc p c (Em p r c w))).z=(Ko p c (Gc p c (Em p r c w))).z))) .none (Lx 36 36 (.tmp 88) (.tmp 89) (by kernel_rfl) _ _ (by kernel_rfl) (by kernel_rfl) (by kernel_rfl) (decide ((Ko p c (Gc p c (Em p r c w))).x=(Ko p c (Gc p c (Em p r c w))).x/\(Ko p c (Gc p c (Em p r c w))).y=(Ko p c (Gc p c (Em p r c w))).y/\(Ko p c (Gc p c (Em p r c w))).z=(Ko p c (Gc p c (Em p r c w))).z)) (Qf _ _ _ _ _ _)) ?_
      refine Ae 2 ?_
      refine Iw 92 (decide ((Ko p c (Gc p c (Em p r c w))).x=(Ko p c (Gc p c (Em p r c w))).x/\(Ko p c (Gc p c (Em p r c w))).y=(Ko p c (Gc p c (Em p r c w))).y/\(Ko p c (Gc p c (Em p r c w))).z=(Ko p c (Gc p c (Em p r c w))).z)) true (decide_eq_true ⟨rfl,rfl,rfl⟩) ?_
      refine Ae 4 ?_
      refine Cz Jh ?_
      refine Ae 5 ?_
      exact Gx
     ·
      refine Cz (Uv p r c w (Oj (Dv hx1) (by decide) (by decide) hl) (Xd.inn (Dv hx2) hf) hcs ⟨Dv hx3,Dv hx4⟩ (Qc hx5)) ?_
      refine Ae 15 ?_
      refine Cz (Px p c (Oj (Dv hx1) (by decide) (by decide) hl) hcs) ?_
      refine Ae 2 ?_
      refine Iw 36 (!bP (Fx p c)) false (nt hx3) ?_
      refine Ae 1 ?_
      refine Cz (Od r (Xd.inn (Dv hx2) hf)) ?_
      refine Ae 4 ?_
      refine Iw 40 (!bP (Ng r)) false (nt hx4) ?_
      refine Ae 17 ?_
      refine Cz (lY _ w (Xd.inn (Dv hx2) hf).w) ?_
      refine Ae 2 ?_
      refine qN 59 (bP (bM r.waits w)) (λhx6=>?_) (λhx6=>?_)
      ·
       refine Ae 6 ?_
       refine Cz (dV p r c w (Oj (Dv hx1) (by decide) (by decide) hl) ⟨Dv hx3,Dv hx4⟩ (Dv hx6) (Qc hx5)) ?_
       refine Ae 22 ?_
       refine Ce (.bool (decide ((0:Int)=0/\(0:Int)=0/\(0:Int)=0))) .none (Lx 36 36 (.tmp 73) (.tmp 74) (by kernel_rfl) _ _ (by kernel_rfl) (by kernel_rfl) (by kernel_rfl) (decide ((0:Int)=0/\(0:Int)=0/\(0:Int)=0)) (Qf _ _ _ _ _ _)) ?_
       refine Ae 2 ?_
       refine Iw 77 (decide ((0:Int)=0/\(0:Int)=0/\(0:Int)=0)) true (decide_eq_true (by trivial)) ?_
       refine Ae 4 ?_
       refine Cz Jh ?_
       refine Ae 6 ?_
       exact Gx
      ·
       refine Ae 18 ?_
       refine Ce (.bool (decide ((0:Int)=0/\(0:Int)=0/\(0:Int)=0))) .none (Lx 36 36 (.tmp 73) (.tmp 74) (by kernel_rfl) _ _ (by kernel_rfl) (by kernel_rfl) (by kernel_rfl) (decide ((0:Int)=0/\(0:Int)=0/\(0:Int)=0)) (Qf _ _ _ _ _ _)) ?_
       refine Ae 2 ?_
       refine Iw 77 (decide ((0:Int)=0/\(0:Int)=0/\(0:Int)=0)) true (decide_eq_true (by trivial)) ?_
       refine Ae 4 ?_
       refine Cz Jh ?_
       refine Ae 6 ?_
       exact Gx
    ·
     refine Cz (Tn p r c w (Oj (Dv hx1) (by decide) (by decide) hl) (Xd.inn (Dv hx2) hf) hcs λg=>Qc hx4 g.2) ?_
     refine Ae 15 ?_
     refine Cz (Px p c (Oj (Dv hx1) (by decide) (by decide) hl) hcs) ?_
     refine Ae 2 ?_
     refine Iw 36 (!bP (Fx p c)) false (nt hx3) ?_
     refine Ae 1 ?_
     refine Cz (Od r (Xd.inn (Dv hx2) hf)) ?_
     refine Ae 4 ?_
     refine Iw 40 (!bP (Ng r)) true (nf hx4) ?_
     refine Ae 8 ?_
     refine Ce (.bool (decide ((0:Int)=0/\(0:Int)=0/\(0:Int)=0))) .none (Lx 36 36 (.tmp 44) (.tmp 45) (by kernel_rfl) _ _ (by kernel_rfl) (by kernel_rfl) (by kernel_rfl) (decide ((0:Int)=0/\(0:Int)=0/\(0:Int)=0)) (Qf _ _ _ _ _ _)) ?_
     refine Ae 2 ?_
     refine Iw 48 (decide ((0:Int)=0/\(0:Int)=0/\(0:Int)=0)) true (decide_eq_true (by trivial)) ?_
     refine Ae 4 ?_
     refine Cz Jh ?_
     refine Ae 6 ?_
     exact Gx
   ·
    refine Cz (Tn p r c w (Oj (Dv hx1) (by decide) (by decide) hl) (Xd.inn (Dv hx2) hf) hcs λg=>Qc hx3 g.1) ?_
    refine Ae 15 ?_
    refine Cz (Px p c (Oj (Dv hx1) (by decide) (by decide) hl) hcs) ?_
    refine Ae 2 ?_
    refine Iw 36 (!bP (Fx p c)) true (nf hx3) ?_
    refine Ae 14 ?_
    refine Ce (.bool (decide ((0:Int)=0/\(0:Int)=0/\(0:Int)=0))) .none (Lx 36 36 (.tmp 44) (.tmp 45) (by kernel_rfl) _ _ (by kernel_rfl) (by kernel_rfl) (by kernel_rfl) (decide ((0:Int)=0/\(0:Int)=0/\(0:Int)=0)) (Qf _ _ _ _ _ _)) ?_
    refine Ae 2 ?_
    refine Iw 48 (decide ((0:Int)=0/\(0:Int)=0/\(0:Int)=0)) true (decide_eq_true (by trivial)) ?_
    refine Ae 4 ?_
    refine Cz Jh ?_
    refine Ae 6 ?_
    exact Gx
  ·
   refine Ae 3 ?_
   refine Cz Jh ?_
   refine Ae 5 ?_
   exact Gx
 ·
  refine Ae 9 ?_
  refine Cz Jh ?_
  refine Ae 5 ?_
  exact Gx
end Go.Proofs.YtldnjomacnjhnaaGreat
namespace Go.Proofs.YtldnjomacnjhnaaGreat.Open
open Go.ChangeShapes Go.WideShapes Go.ChangeAt Go.RowKit Go.Deep
section
variable {H:Type} {enc:TypeId×Value->H} {W:World}
theorem Ae0:Tryz.prog.cellsOf 3=1:=by kernel_rfl
theorem gJ {a0:Option Addr} {l0 c0 fuel:Nat} {y:DataW H×List MemPlace} (h:DataW.trod enc Tryz.prog W 0 (λ_=>true) true fuel 23 [.slice a0 l0 c0]=some y):∃l:List Int,l.length=l0/\Cb W 0 W.heap.size 1 (.slice a0 l0 c0) l0 (l.flatMap λx=>[.int .i64 x])/\l0<=c0:=by
 have hc:=oS Tryz.underlying23 h
 obtain⟨lh,g1,g2,g3,_⟩:=Ml Tryz.underlying23 Ae0 (by decide) h
 obtain⟨Hm,H1,H2⟩:=Vv (cells:=λv:Int=>[.int .i64 v]) lh (λcs hc=>by obtain⟨hl,n,y,ht⟩:=g2 cs hc;obtain⟨k,e,_⟩:=Ho ht;exact⟨k,e⟩)
 exact⟨Hm,by omega,by rw[<-H2];exact g3,hc⟩
theorem open_resv {v:Value} {d:DataW H} {p:List MemPlace} {base:Nat} (hv:Value.okWide Tryz.prog W .any base 25 v) (h:DataW.Trod enc Tryz.prog W 0 (λ_=>true) true 25 v d p):
  ∃r:Rv,Ct r.flight/\∀E:Bl,E.w=W->(∀b,b<W.heap.size->E.D b)->VR E (Hg r) v:=by
 obtain⟨v0,v1,v2,v3,y0,y1,y2,y3,n,rfl,_,_,h0,h1,h2,h3⟩:=Go.Joins.open_agg4 Tryz.underlying25 (by kernel_rfl) (by kernel_rfl) hv h
 obtain⟨a0,l0,c0,e0⟩:=Go.Joins.slice_form Tryz.underlying22 h0
 obtain rfl:v0= .slice a0 l0 c0:=by simpa using e0
 obtain⟨k1,e1,f1⟩:=Ho h1
 obtain⟨a2,l2,c2,e2⟩:=Go.Joins.slice_form Tryz.underlying23 h2
 obtain rfl:v2= .slice a2 l2 c2:=by simpa using e2
 obtain⟨a3,l3,c3,e3⟩:=Go.Joins.slice_form Tryz.underlying23 h3
 obtain rfl:v3= .slice a3 l3 c3:=by simpa using e3
 have hc:=oS Tryz.underlying22 h0
 obtain⟨lh,g1,g2,g3,_⟩:=Ml Tryz.underlying22 AaQ (by decide) h0
 obtain⟨Hm,H1,H2⟩:=Vv (cells:=λv:V3=>[.int .i64 v.x,.int .i64 v.y,.int .i64 v.z]) lh (λcs hc=>by obtain⟨hl,n,y,ht⟩:=g2 cs hc;exact cF hl ht)
 have hL:Hm.length=l0:=by omega
 subst hL
 obtain⟨wl,rfl,w1,w2⟩:=gJ h2
 obtain⟨rl,rfl,r1,r2⟩:=gJ h3
 obtain rfl:v1= .int .i64 k1:=by simpa using e1
 have g3':Cb W 0 W.heap.size 3 (.slice a0 Hm.length c0) Hm.length (Iu Hm):=by unfold Iu;rw[<-H2];exact g3
 have Dd:∀{a:Option Addr} {c:Nat} {l:List Int} {E:Bl},Cb W 0 W.heap.size 1 (.slice a l.length c) l.length (l.flatMap λx=>[.int .i64 x])->l.length<=c->E.w=W->(∀b,b<W.heap.size->E.D b)->VR E (Dg l) (.slice a l.length c):=λ {a c l E} hs hc hw hD=> .slc _ _ _ _ _ _ hc (Oa hs hw (λb hb=>hD b hb.2) λi j hi hj=>by
  obtain rfl:j=0:=by omega
  have:=Mh (λx:Int=>[Value.int .i64 x]) 1 (λ_=>rfl) l i 0 0 hi (by omega)
  rw[this]
  exact .lit _ _)
 refine⟨⟨Hm,k1,wl,rl⟩,f1,λE hw hD=> .agg _ _ _ rfl λi hi=>?_⟩
 have h3:i<4:=hi
 match i,h3 with
 |0,_=>exact .slc _ _ _ _ _ _ hc (wN g3' hw λb hb=>hD b hb.2)
 |1,_=>exact .lit _ _
 |2,_=>exact Dd w1 w2 hw hD
 |3,_=>exact Dd r1 r2 hw hD
end
end Go.Proofs.YtldnjomacnjhnaaGreat.Open
namespace Go.Proofs.YtldnjomacnjhnaaGreat
end Go.Proofs.YtldnjomacnjhnaaGreat
namespace Go.Proofs.YtldnjomacnjhnaaGreat.ST
open Go.ChangeShapes Go.WideShapes Go.ChangeAt Go.RowKit Go.Deep
theorem own:ownKnob Tryz.prog.godebug=none:=by kernel_rfl
theorem jU:laidOutB Tryz.prog=true:=by kernel_rfl
theorem Ae8 (os:Os) (started:os.Started) (H:Type) (enc:TypeId×Value->H):
  ReturnsInHanded {} Tryz.checked os 4 .any (λw args=>Rows.spareTargetsSpec.pre enc Tryz.prog Tryz.f4 [] false w args/\sizedMet enc Tryz.prog Tryz.f4 (OpenSpec.ofChange Rows.spareTargetsSpec) false w args)
   (Rows.spareTargetsSpec.post enc Tryz.prog Tryz.f4 false true false false):=by
 refine returnsInHanded_of_change (C:=Tryz.checked) own started (by kernel_rfl) Tryz.func4
  (by
   obtain⟨w,tape,i,h1,h2,h3,h4,⟨⟨hp,_⟩,hs⟩,h5⟩:=ChangeSpec.witness_shaped (enc:=enc) (C:=Tryz.checked) (os:=os) (f:=4) (fn:=Tryz.f4) (s:=Rows.spareTargetsSpec) (conds:=[]) (apart:=false) (X:=λ_ _=>True) false (World.doorLaid Tryz.prog 400 os) #[.agg #[.slice none 0 0,.slice none 0 0,.slice none 0 0],.agg #[.slice none 0 0,.int .i64 0,.slice none 0 0,.slice none 0 0],.agg #[.int .i64 0,.int .i64 0],.int .i64 0] 8 rfl (World.shaped_of_RefB (by kernel_rfl) (by kernel_rfl)) (by kernel_rfl) (by kernel_rfl) (by kernel_rfl) trivial
   exact⟨w,tape,i,h1,h2,h3,h4,⟨hp,hs⟩,h5⟩) ?_
 intro W base args ds gs before hval0 hW _ _
 have hval:∀(j:Nat) t v,Tryz.f4.params[j]?=some t->args[j]?=some v->Value.okWide Tryz.prog W .any base t v:=hval0
 have hW':=hW
 obtain⟨p,q,hA0,hV,rfl,hfz,hnd⟩:=hW
 have hA:DataW.TrodAll enc Tryz.prog W 0 (λ_=>true) true Tryz.f4.params.toList args.toList ds p:=hA0
 rw[Tryz.params4] at hA hval
 obtain⟨v0,vs0,d0,ds0,p0,q0,hargs,rfl,rfl,h0,r0⟩:=trodAll_cons hA
 obtain⟨v1,vs1,d1,ds1,p1,q1,rfl,rfl,rfl,h1,r1⟩:=trodAll_cons r0
 obtain⟨v2,vs2,d2,ds2,p2,q2,rfl,rfl,rfl,h2,r2⟩:=trodAll_cons r1
 obtain⟨v3,vs3,d3,ds3,p3,q3,rfl,rfl,rfl,h3,r3⟩:=trodAll_cons r2
 obtain⟨rfl,rfl,rfl⟩:=trodAll_nil r3
 obtain rfl:args=#[v0,v1,v2,v3]:=by cases args;simp_all
 obtain⟨rfl,rfl⟩:=trodVars_none hV
 have k0:=h0
 have k1:=h1
 have k2:=h2
 have lt0:∀x∈p0,x.block<W.heap.size:=by obtain⟨m,hm⟩:=k0;exact DataW.trod_lt m _ _ _ hm
 have lt1:∀x∈p1,x.block<W.heap.size:=by obtain⟨m,hm⟩:=k1;exact DataW.trod_lt m _ _ _ hm
 have lt2:∀x∈p2,x.block<W.heap.size:=by obtain⟨m,hm⟩:=k2;exact DataW.trod_lt m _ _ _ hm
 obtain⟨vn0,vh0,va0,pr,rfl,hp0,hsn0,hsa_pr⟩:=Open.open_prog2 (hval 0 31 v0 rfl rfl) h0
 obtain⟨rv,f_rv,hr1⟩:=Open.open_resv (hval 1 25 v1 rfl rfl) h1
 obtain⟨cs,rfl,hcs_cs⟩:=Open.open_case (hval 2 33 v2 rfl rfl) h2
 obtain⟨k,rfl,rfl,rfl,g_k⟩:=open_int Tryz.underlying3 (hval 3 3 v3 rfl rfl) h3
 clear hA0 hval0
 refine((Yz pr rv cs k (λa ha=>(hsa_pr a ha).2) f_rv hcs_cs).call W #[.agg #[vn0,vh0,va0],v1,.agg #[.int .i64 cs.craft,.int .i64 cs.act],.int .i64 k] rfl (λE hw hD i hi=>?_)).mono λe W' ⟨he,bel⟩=>?_
 have hn:i<4:=hi
 match i,hn with
 |0,_=>exact Ad1 hp0 hw hD
 |1,_=>exact hr1 E hw hD
 |2,_=>exact .lit _ _
 |3,_=>exact .lit _ _
 subst he
 exact⟨_,rfl,_,_,_,[],_,[],hW',trodAll_mk1 (shut_bool Tryz.underlying4 _),(trodAll_cons_mk (Below.trod jU (by kernel_rfl) (of_decide_eq_true (by kernel_rfl)) k0 bel lt0) (trodAll_cons_mk (Below.trod jU (by kernel_rfl) (of_decide_eq_true (by kernel_rfl)) k1 bel lt1) (trodAll_cons_mk (Below.trod jU (by kernel_rfl) (of_decide_eq_true (by kernel_rfl)) k2 bel lt2) (trodAll_cons_mk (shut_int Tryz.underlying3 g_k) trodAll_mk0)))),rfl,bel.frame _,λh=>by cases h⟩
theorem row_holds:Rows.SpareTargetsSaid:=
 OpenClaim.holds_of_wide 4 Tryz.f4 rfl rfl rfl rfl rfl rfl rfl ⟨rfl,rfl,rfl,rfl,rfl⟩ rfl rfl rfl rfl rfl (by kernel_rfl) Tryz.func4 (by kernel_rfl)
  (of_decide_eq_true (by kernel_rfl)) (by unfold Func.isWrapper;first|(rw[if_pos (by decide+kernel)];kernel_rfl)|(rw[if_neg (by decide+kernel)];exact⟨rfl,rfl⟩))
  (λos started H enc _=>Ae8 os started H enc)
end Go.Proofs.YtldnjomacnjhnaaGreat.ST