/- Part 24 of the proof of SR.row_holds, joined by program: no condition beyond the row's own. -/
import Derived.Test.YtldnjomacnjhnaaGreatR23
set_option maxRecDepth 100000
set_option maxHeartbeats 40000000
namespace Go.Proofs.YtldnjomacnjhnaaGreat
open Go.Proofs.Tryz
open Go.RowKit
abbrev Ha (r:Rv) (x:Rl):V3:=r.homes.getD x.spare.toNat V3.zero
abbrev Pn (p:Pr) (r:Rv) (c:Cs) (x:Rl):Nat:=Kx p c (Ic p r c x.wait)
abbrev atR (p:Pr) (r:Rv) (c:Cs) (x:Rl):V3:=kI p c (Pn p r c x)
structure AdS (p:Pr) (r:Rv) (c:Cs) (x:Rl):Prop where
 sp:0<=x.spare/\x.spare<r.homes.length
 wait:∃k,k<r.waits.length/\x.wait=r.waits.getD k 0
 act:Pn p r c x<p.acts.length
 rise:∃u,u<r.rises.length/\x.rise=r.rises.getD u 0
 l1:Hk (Ha r x) x.rise=true
 l2:Hk (atR p r c x) x.rise=true
theorem oD {r:Rv} {w:Int} {v:V3} {i:Nat} {x:Rl}:∀q,x∈dN r w v i q↔∃u,u<q/\x=⟨(i:Int),w,r.rises.getD u 0⟩/\Hk (r.homes.getD i V3.zero) (r.rises.getD u 0)=true/\Hk v (r.rises.getD u 0)=true
 |0=>⟨λh=>(by cases h),λ⟨u,h,_⟩=>absurd h (Nat.not_lt_zero u)⟩
 |q+1=>by
  rw[dN,List.mem_append,oD q]
  constructor
  rintro(⟨u,h1,h2⟩|h)
  exact⟨u,ω,h2⟩
  split at h
  rename_i hl
  rw[Bool.and_eq_true] at hl
  exact⟨q,Nat.lt_succ_self q,List.mem_singleton.1 h,hl.1,hl.2⟩
  cases h
  rintro⟨u,h1,h2,h3,h4⟩
  by_cases e:u=q
  subst e
  rw[h3,h4]
  exact .inr (List.mem_singleton.2 h2)
  exact .inl ⟨u,ω,h2,h3,h4⟩
theorem oB {r:Rv} {w:Int} {v:V3} {o:List Nat} {x:Rl}:∀n,x∈jY r w v o n↔∃m,m<n/\x∈dN r w v (o.getD m 0) r.rises.length
 |0=>⟨λh=>(by cases h),λ⟨u,h,_⟩=>absurd h (Nat.not_lt_zero u)⟩
 |n+1=>by
  rw[jY,List.mem_append,oB n]
  constructor
  rintro(⟨u,h1,h2⟩|h)
  exact⟨u,ω,h2⟩
  exact⟨n,Nat.lt_succ_self n,h⟩
  rintro⟨u,h1,h2⟩
  by_cases e:u=n
  subst e;exact .inr h2
  exact .inl ⟨u,ω,h2⟩
theorem oF {p:Pr} {r:Rv} {c:Cs} {x:Rl}:∀n,x∈Gx p r c n↔∃k,k<n/\Xk p r c k=true/\x∈jY r (r.waits.getD k 0) (Aj p r c k) (Av r (Aj p r c k)) r.homes.length
 |0=>⟨λh=>(by cases h),λ⟨u,h,_⟩=>absurd h (Nat.not_lt_zero u)⟩
 |n+1=>by
  rw[Gx,List.mem_append,oF n]
  constructor
  rintro(⟨u,h1,h2⟩|h)
  exact⟨u,ω,h2⟩
  split at h
  rename_i hl;exact⟨n,Nat.lt_succ_self n,hl,h⟩
  cases h
  rintro⟨u,h1,h2,h3⟩
  by_cases e:u=n
  subst e;rw[if_pos h2];exact .inr h3
  exact .inl ⟨u,ω,h2,h3⟩
theorem Adw {p:Pr} {r:Rv} {c:Cs} {x:Rl} (h:x∈Kq p r c):AdS p r c x:=by
 obtain⟨k,hk,hb,h⟩:=(oF _).1 h
 obtain⟨m,hm,h⟩:=(oB _).1 h
 obtain⟨u,hu,rfl,h1,h2⟩:=(oD _).1 h
 have ho:=Lk r (Aj p r c k) hm
 exact⟨⟨Int.natCast_nonneg _,by show ((_:Nat):Int)<_;omega⟩,⟨k,hk,rfl⟩,of_decide_eq_true hb,⟨u,hu,rfl⟩,h1,h2⟩
abbrev Et (p:Pr) (c:Cs) (x:Rl):Int:=Bl p c+x.wait
abbrev Jf (p:Pr) (r:Rv) (c:Cs) (x:Rl):Int:=Bl p c+x.wait+r.flight
abbrev Ih (p:Pr) (r:Rv) (c:Cs) (x:Rl):Int:=Br p.acts (Pn p r c x+1)
def Jb (p:Pr) (r:Rv) (c:Cs) (x:Rl):List Sg:=if 0<x.rise then aN (Ha r x) (atR p r c x) x.rise (Et p c x) (Jf p r c x) else Gp (Ha r x) (atR p r c x) (Et p c x) (Jf p r c x) 2
def En (r:Rv) (p:Pr) (c:Cs) (x:Rl):List Sg:=Gp (Ha r x) (Ha r x) 0 (Et p c x) 0
def Gs (p:Pr) (r:Rv) (c:Cs) (x:Rl):List Sg:=Gp (atR p r c x) (atR p r c x) (Jf p r c x) (Ih p r c x) 0
abbrev Gj (p:Pr) (r:Rv) (c:Cs) (x:Rl):List Sg:=AbE p c.craft.toNat (Pn p r c x+1)
def relP (p:Pr) (r:Rv) (c:Cs) (x:Rl):List Sg:=En r p c x++Jb p r c x++Gs p r c x++Gj p r c x
structure Nt (p:Pr) (r:Rv) (c:Cs) (x:Rl):Prop where
 s0:0<Et p c x/\Et p c x<Jf p r c x/\Jf p r c x<=Ih p r c x/\Ih p r c x<=Br p.acts p.acts.length/\Br p.acts p.acts.length<=3600000
 q4:(Jf p r c x-Et p c x)%4=0
 sp:0<=x.spare/\x.spare<r.homes.length
 wait:0<=x.wait/\x.wait<=3600000
 rise:0<=x.rise/\x.rise<=1048576
 act:c.act.toNat+1<=Pn p r c x/\Pn p r c x<p.acts.length
 hp:(Ha r x).pt=true
 ap:(atR p r c x).pt=true
 hu:((Ha r x).up x.rise).pt=true
 au:((atR p r c x).up x.rise).pt=true
 hov:Bv (En r p c x) (Ha r x) (Ha r x) 0 (Et p c x)/\(En r p c x).length=1
 go:Bv (Jb p r c x) (Ha r x) (atR p r c x) (Et p c x) (Jf p r c x)/\1<=(Jb p r c x).length/\(Jb p r c x).length<=3
 stay:Bv (Gs p r c x) (atR p r c x) (atR p r c x) (Jf p r c x) (Ih p r c x)/\(Gs p r c x).length<=1
 tail:Bv (Gj p r c x) (atR p r c x) ((Eh p p.acts.length).getD c.craft.toNat V3.zero) (Ih p r c x) (Br p.acts p.acts.length)/\(Gj p r c x).length<=5*p.acts.length
 own:Bv (Iy p (Pn p r c x+1) c.craft.toNat) ((Eh p 0).getD c.craft.toNat V3.zero) (atR p r c x) 0 (Ih p r c x)
 app:Iy p p.acts.length c.craft.toNat=Iy p (Pn p r c x+1) c.craft.toNat++Gj p r c x
theorem vE {l:List Ac} {a:Int}:∀k i,Xq l a k i<i+k->a<=Br l (Xq l a k i+1)
 |0,i,h=>by rw[Xq] at h;omega
 |k+1,i,h=>by
  rw[Xq] at h ⊢
  split
  assumption
  rename_i hn
  rw[if_neg hn] at h
  exact vE k (i+1) ω
theorem eK {p:Pr} (ho:Yp p) {j:Nat}:∀m,j+m<=p.acts.length->Br p.acts j<=Br p.acts (j+m)
 |0,_=>Int.le_refl _
 |m+1,h=>by
  have h1:=eK ho (j:=j) m ω
  have h2:=ho.len (j+m) ω
  rw[show j+(m+1)=j+m+1 from rfl,Br];omega
theorem Ae9 {p:Pr} {r:Rv} {c:Cs} {x:Rl} (hc:Fv p c) (hr:Mw r) (h:AdS p r c x):Nt p r c x:=by
 have ho:=Km hc.1
 obtain⟨_,c1,c2,c3,c4⟩:=hc
 obtain⟨⟨n1,n2,f1,f2,f4⟩,hh,hw,hs⟩:=hr
 obtain⟨k,hk,ek⟩:=h.wait
 obtain⟨u,hu,eu⟩:=h.rise
 have wk:=hw.2.2 k hk
 have wu:=hs.2.2 u hu
 have act:=h.act
 have hlo:c.act.toNat+1<=Pn p r c x:=(vF _ _).1
 have hge:Jf p r c x<=Ih p r c x:=vE _ _ (by have:=h.act;show Pn p r c x<_;omega)
 have hcr:c.craft.toNat<p.names.length:=by omega
 have e0:0<Bl p c:=mF ho (c.act.toNat+1) ω (Nat.succ_pos _)
 have e1:=(ho.ends p.acts.length (Nat.le_refl _)).2
 have e2:Ih p r c x<=Br p.acts p.acts.length:=by
  have:=eK ho (j:=Pn p r c x+1) (p.acts.length-(Pn p r c x+1)) ω
  rwa [show Pn p r c x+1+(p.acts.length-(Pn p r c x+1))=p.acts.length by omega] at this
 have hp:(Ha r x).pt=true:=(hh x.spare.toNat (by have:=h.sp;omega)).1
 have ap:(atR p r c x).pt=true:=ho.to ω hcr
 have q4:(Jf p r c x-Et p c x)%4=0:=by
  have:Int.tmod r.flight 4=0:=f4
  rw[Int.tmod_eq_emod_of_nonneg ω] at this
  show (Bl p c+x.wait+r.flight-(Bl p c+x.wait))%4=0
  omega
 have s1:0<Et p c x:=by show 0<Bl p c+x.wait;omega
 have s2:Et p c x<Jf p r c x:=by show Bl p c+x.wait<Bl p c+x.wait+r.flight;omega
 have ef:(Eh p (Pn p r c x+1)).getD c.craft.toNat V3.zero=atR p r c x:=tR p _ _
 have hov:=Nh (a:=Ha r x) (f:=0) (t:=Et p c x) hp (Int.le_refl 0) ω ω
 have stay:=Nh (a:=atR p r c x) (f:=Jf p r c x) (t:=Ih p r c x) ap ω hge ω
 have tail:=oI ho hcr (k:=Pn p r c x+1) ω
 rw[ef] at tail
 have own:=Xg ho hcr (Pn p r c x+1) ω
 rw[ef] at own
 have go:Bv (Jb p r c x) (Ha r x) (atR p r c x) (Et p c x) (Jf p r c x)/\(Jb p r c x).length<=3:=by
  unfold Jb
  split
  exact⟨eD hp ap h.l1 h.l2 ω s2 ω q4,by rw[aO];exact Nat.le_refl _⟩
  exact⟨Xb (.inl rfl) hp ap ω s2 ω,by have:=Ij (Ha r x) (atR p r c x) (Et p c x) (Jf p r c x) 2;omega⟩
 refine⟨⟨s1,s2,hge,e2,e1⟩,q4,h.sp,ω,ω,⟨hlo,act⟩,hp,ap,h.l1,h.l2,⟨hov,?_⟩,⟨go.1,go.1.pos s2,go.2⟩,⟨stay,Ij _ _ _ _ _⟩,⟨tail,?_⟩,own,yL _ ω⟩
 have h1:=hov.pos s1
 have h2:=Ij (Ha r x) (Ha r x) 0 (Et p c x) 0
 show (Gp _ _ _ _ _).length=1
 omega
 have:=nX p c.craft.toNat (Pn p r c x+1) (p.acts.length-(Pn p r c x+1))
 show (rG _ _ _ _).length<=_
 omega
theorem Acv (l:List Sg) (f t:Int) (hl:Dn l) (hok:Fx l) (hf:0<=f/\f<=3600000) (ht:0<=t/\t<=3600000) (hpos:0<(Jg l f t l.length).length):AF Tryz.prog 87 [Ai l,.int f,.int t] (jZ (mB l f t)):=by
 have hln:=hok.2
 refine Ch func87 rfl λB D0 hA0=>?_
 refine Ae 12 (Wi 2 func116 (λ_ hD1=>?_))
 refine Ae 15 (pE (Ae 3 (vnm [6,7,13] ?_)))
 refine vrg 5 func139 (λsp2 sp2p sp2a sp2b _ hD3=>?_)
 refine Ae 8 (Wn [0,2,3,12,13,14] (λm s=>∃r n,r<=l.length/\m=l.length-r/\(n=(Jg l f t r).length/\Xw l f t r/\n<=r)/\(((n=0)/\s=⟨[(0,.yld 5),(2,.ptr 3 0),(3,.ptr 4 0),(12,Ai l),(13,.int ((l).length:Int)),(14,.int (r:Int))],[(0,.box 54 [.lit (.slice none 0 0)]),(1,.box 37 [.int 0]),(2,.box 54 [Ai l]),(3,.box 3 [.int f]),(4,.box 3 [.int t]),(5,.loop .ready none sp2 [(6,.ptr 0 0),(7,.ptr 1 0),(13,.fn 139 [.ptr 2 0,.ptr 3 0,.ptr 4 0])] 23)],6,62⟩)\/((0<n)/\s=⟨[(0,.yld 5),(2,.ptr 3 0),(3,.ptr 4 0),(12,Ai l),(13,.int ((l).length:Int)),(14,.int (r:Int))],[(0,.box 54 [.osl 50 6 n]),(1,.box 37 [.int 0]),(2,.box 54 [Ai l]),(3,.box 3 [.int f]),(4,.box 3 [.int t]),(5,.loop .ready none sp2 [(6,.ptr 0 0),(7,.ptr 1 0),(13,.fn 139 [.ptr 2 0,.ptr 3 0,.ptr 4 0])] 23),(50,.vec 81 6 n (λxi=>Cw ((Jg l f t r).getD xi Sg.none)))],51,62⟩))) l.length ⟨0,0,Nat.zero_le _,rfl,⟨rfl,λj hj=>absurd hj (Nat.not_lt_zero j),Nat.le_refl _⟩,(.inl ⟨rfl,κ⟩)⟩ ?_)
 rintro _ _ ⟨r,n,hrn,rfl,hFr,(⟨hr0,rfl⟩|⟨hr0,rfl⟩)⟩ J1 hJ1
 ·
  refine Ae 6 (Em 15 ((r:Int)<((l).length:Int)) (λhx4 hx4d=>?_) (λhx4 hx4d=>?_))
  ·
   refine Ae 5 ?_
   have hso:=(hok.1 r ω).1
   have hs:=hl.2 r
   have hh:=hso.1
   unfold Ki at hh
   have hA:pA l f r=max f ((l).getD r Sg.none).f:=rfl
   have hB:pB l t r=min t ((l).getD r Sg.none).t:=rfl
   have hD:pD ((l).getD r Sg.none)=((l).getD r Sg.none).t-((l).getD r Sg.none).f:=rfl
   refine Ae 2 (Gg r ((l).length) (Ae 6 (He [(3,.int (max f (((l).getD r Sg.none).f)),.none),(7,.int (min t (((l).getD r Sg.none).t)),.none)] [0,2,3,6,7,8,12,13,14] ⟨Bb (jN (.tmp 18) (.tmp 20) #[3,3] κ f (((l).getD r Sg.none).f) κ κ),Bb (uM (.tmp 22) (.tmp 24) #[3,3] κ t (((l).getD r Sg.none).t) κ κ),trivial⟩ (Ae 9 (Em 28 (min t (((l).getD r Sg.none).t)<=max f (((l).getD r Sg.none).f)) (λhx5 hx5d=>?_) (λhx5 hx5d=>?_))))))
   ·
    exact Ae 6 (Dm ((r:Int)+1) ((r+1:Nat):Int) (Ae 2 (Fu [0,2,3,12,13,14] [(0,0),(1,1),(2,2),(3,3),(4,4),(5,5)] 6 6 hD3 [] trivial (hJ1 _ _ (by omega:l.length-(r+1)<l.length-r) ⟨r+1,0,ω,rfl,⟨by rw[Oz ω];omega,aR ω hFr.2.1,ω⟩,(.inl ⟨ω,rfl⟩)⟩))))
   ·
    refine Ae 3 ?_
    have hlt:pA l f r<pB l t r:=by omega
    refine Ae 6 (Dm (((l).getD r Sg.none).t-((l).getD r Sg.none).f) (((l).getD r Sg.none).t-((l).getD r Sg.none).f) (Ae 4 ?_))
    refine Ea (Vx ((l).getD r Sg.none) (pA l f r) (pB l t r)) (λhx6=>?_) (λhx6=>?_)
    ·
     refine He [(6,.int (max f (((l).getD r Sg.none).f)-((l).getD r Sg.none).f),.none),(9,.int (min t (((l).getD r Sg.none).t)-max f (((l).getD r Sg.none).f)),.none),(11,_,.none),(14,_,.none),(16,_,.none),(17,_,.none),(18,_,.none)] [0,2,3,10,11,12,13,14] ⟨Bb (Bz (v:= .int .i64 (IntKind.wrap .i64 (max f (((l).getD r Sg.none).f)-((l).getD r Sg.none).f))) (v':= .int .i64 (max f (((l).getD r Sg.none).f)-((l).getD r Sg.none).f)) _ κ rfl κ (λw=>by kernel_rfl) (congrArg (Value.int .i64) ((IntWalk.i64_in _ ω).trans ω))),Bb (Bz (v:= .int .i64 (IntKind.wrap .i64 (min t (((l).getD r Sg.none).t)-max f (((l).getD r Sg.none).f)))) (v':= .int .i64 (min t (((l).getD r Sg.none).t)-max f (((l).getD r Sg.none).f))) _ κ rfl κ (λw=>by kernel_rfl) (congrArg (Value.int .i64) ((IntWalk.i64_in _ ω).trans ω))),Eg (Lx ((l).getD r Sg.none) (pA l f r-((l).getD r Sg.none).f) (pB l t r-pA l f r) (pD ((l).getD r Sg.none)) hs hso (Bs ω) (Bs ω) (Bs ω) ω),Eg (Gu _ hs.o.1 hs.o.2),Eg (Gm (pD ((l).getD r Sg.none)) 5 (Bs ω).1 (Bs ω).2 ω (λj hj=>Eu (Bs ω) ω)),Eg (Kg ((l).getD r Sg.none).o (pD ((l).getD r Sg.none)^5) (Hy hs.o) (Eu (Bs ω) ω) ((Xh hs (Bs ω)).fit ω)),Eg (Zx ((l).getD r Sg.none) (pA l f r) (pB l t r) hs hso ω ω hx6),trivial⟩ (Ae 6 (vyl 8 sp2p sp2a sp2b (λ_ _ hD7=>?_)))
     refine Ae 9 (vrb (Ae 18 (vre ?_)))
     refine Ae 9 (vrl ?_)
     exact Ae 3 (Fz (.lit (.tuple #[.slice none 0 0,.int .i64 7])) (Pf (tI (j:=r) ω hlt hx6) δ).symm)
    ·
     refine He [(6,.int (max f (((l).getD r Sg.none).f)-((l).getD r Sg.none).f),.none),(9,.int (min t (((l).getD r Sg.none).t)-max f (((l).getD r Sg.none).f)),.none),(11,_,.none),(14,_,.none),(16,_,.none),(17,_,.none),(18,_,.none)] [0,2,3,10,11,12,13,14] ⟨Bb (Bz (v:= .int .i64 (IntKind.wrap .i64 (max f (((l).getD r Sg.none).f)-((l).getD r Sg.none).f))) (v':= .int .i64 (max f (((l).getD r Sg.none).f)-((l).getD r Sg.none).f)) _ κ rfl κ (λw=>by kernel_rfl) (congrArg (Value.int .i64) ((IntWalk.i64_in _ ω).trans ω))),Bb (Bz (v:= .int .i64 (IntKind.wrap .i64 (min t (((l).getD r Sg.none).t)-max f (((l).getD r Sg.none).f)))) (v':= .int .i64 (min t (((l).getD r Sg.none).t)-max f (((l).getD r Sg.none).f))) _ κ rfl κ (λw=>by kernel_rfl) (congrArg (Value.int .i64) ((IntWalk.i64_in _ ω).trans ω))),Eg (Lx ((l).getD r Sg.none) (pA l f r-((l).getD r Sg.none).f) (pB l t r-pA l f r) (pD ((l).getD r Sg.none)) hs hso (Bs ω) (Bs ω) (Bs ω) ω),Eg (Gu _ hs.o.1 hs.o.2),Eg (Gm (pD ((l).getD r Sg.none)) 5 (Bs ω).1 (Bs ω).2 ω (λj hj=>Eu (Bs ω) ω)),Eg (Kg ((l).getD r Sg.none).o (pD ((l).getD r Sg.none)^5) (Hy hs.o) (Eu (Bs ω) ω) ((Xh hs (Bs ω)).fit ω)),Eg (Zy ((l).getD r Sg.none) (pA l f r) (pB l t r) hs hso ω ω hx6),trivial⟩ (Ae 6 (vyl 8 sp2p sp2a sp2b (λ_ _ hD8=>?_)))
     refine Ae 9 (vrb (Ae 14 (Bx (.osl 9 6 1) (.new 9 (.vec 81 6 1 (λ_=>Cw (Ht ((l).getD r Sg.none) (pA l f r) (pB l t r))))) (Ak 54 1 #[(0,(.tmp 19))] κ underlying54 6 sizeOf81 _ zeroValue81 κ β β β 9 [.int ((Ht ((l).getD r Sg.none) (pA l f r) (pB l t r)).f),.int ((Ht ((l).getD r Sg.none) (pA l f r) (pB l t r)).t),.int ((Ht ((l).getD r Sg.none) (pA l f r) (pB l t r)).o),Bn ((Ht ((l).getD r Sg.none) (pA l f r) (pB l t r)).x),Bn ((Ht ((l).getD r Sg.none) (pA l f r) (pB l t r)).y),Bn ((Ht ((l).getD r Sg.none) (pA l f r) (pB l t r)).z)] κ (λ_=>Cw (Ht ((l).getD r Sg.none) (pA l f r) (pB l t r))) κ) (Bx (.osl 10 6 1) (.newr 9 10 (.vec 81 6 1 (λxi=>Cw ((Jg l f t (r+1)).getD xi Sg.none)))) (Cj (.tmp 18) (.tmp 20) 54 κ underlying54 6 96 (.agg #[.int .i64 0,.int .i64 0,.int .i64 0,.slice none 0 0,.slice none 0 0,.slice none 0 0]) κ κ δ 1 ω (λ_=>Cw (Ht ((l).getD r Sg.none) (pA l f r) (pB l t r))) (λxi=>Cw ((Jg l f t (r+1)).getD xi Sg.none)) 10 (λi hi=>by(obtain rfl:i=0:=(ω));show Cw _=Cw _;rw[Mx hlt,List.eq_nil_of_length_eq_zero (by omega:(Jg l f t r).length=0)];rfl) (λi hi j hj=>match j,hj with|0,_=>rfl|1,_=>rfl|2,_=>rfl|3,_=>rfl|4,_=>rfl|5,_=>rfl|_+6,h=>absurd h ω) (by unfold maxLen;omega) ω κ 9 81 κ κ) (Ae 3 (vre ?_))))))
     exact Ae 8 (Dm ((r:Int)+1) ((r+1:Nat):Int) (Ae 2 (Fu [0,2,3,12,13,14] [(0,0),(1,1),(2,2),(3,3),(4,4),(5,5),(10,50)] 51 6 hD3 [(81,6,1,(λ_=>Cw (Ht ((l).getD r Sg.none) (pA l f r) (pB l t r)))),(81,6,1,(λxi=>Cw ((Jg l f t (r+1)).getD xi Sg.none)))] ⟨(Fp λ_ _=>rfl),(Fp λ_ _=>rfl),trivial⟩ (hJ1 _ _ (by omega:l.length-(r+1)<l.length-r) ⟨r+1,1,ω,rfl,⟨by rw[Mx hlt,List.length_append,List.length_singleton];omega,eH hx6 hFr.2.1,ω⟩,(.inr ⟨ω,rfl⟩)⟩))))
  ·
   refine Ae 5 (vrl ?_)
   refine Ae 2 ?_
   exfalso;have hql:r=l.length:=(ω);subst hql;omega
 ·
  refine Ae 6 (Em 15 ((r:Int)<((l).length:Int)) (λhx9 hx9d=>?_) (λhx9 hx9d=>?_))
  ·
   refine Ae 5 ?_
   have hso:=(hok.1 r ω).1
   have hs:=hl.2 r
   have hh:=hso.1
   unfold Ki at hh
   have hA:pA l f r=max f ((l).getD r Sg.none).f:=rfl
   have hB:pB l t r=min t ((l).getD r Sg.none).t:=rfl
   have hD:pD ((l).getD r Sg.none)=((l).getD r Sg.none).t-((l).getD r Sg.none).f:=rfl
   refine Ae 2 (Gg r ((l).length) (Ae 6 (He [(3,.int (max f (((l).getD r Sg.none).f)),.none),(7,.int (min t (((l).getD r Sg.none).t)),.none)] [0,2,3,6,7,8,12,13,14] ⟨Bb (jN (.tmp 18) (.tmp 20) #[3,3] κ f (((l).getD r Sg.none).f) κ κ),Bb (uM (.tmp 22) (.tmp 24) #[3,3] κ t (((l).getD r Sg.none).t) κ κ),trivial⟩ (Ae 9 (Em 28 (min t (((l).getD r Sg.none).t)<=max f (((l).getD r Sg.none).f)) (λhx10 hx10d=>?_) (λhx10 hx10d=>?_))))))
   ·
    exact Ae 6 (Dm ((r:Int)+1) ((r+1:Nat):Int) (Ae 2 (Mr 50 81 6 n (λxi=>Cw ((Jg l f t r).getD xi Sg.none)) (λxi=>Cw ((Jg l f t (r+1)).getD xi Sg.none)) (λx9 hx9=>by rw[Oz ω]) (Fu [0,2,3,12,13,14] [(0,0),(1,1),(2,2),(3,3),(4,4),(5,5),(50,50)] 51 6 hD3 [(81,6,n,(λxi=>Cw ((Jg l f t (r+1)).getD xi Sg.none)))] ⟨(Fp λ_ _=>rfl),trivial⟩ (hJ1 _ _ (by omega:l.length-(r+1)<l.length-r) ⟨r+1,n,ω,rfl,⟨by rw[Oz ω];omega,aR ω hFr.2.1,ω⟩,(.inr ⟨ω,rfl⟩)⟩)))))
   ·
    refine Ae 3 ?_
    have hlt:pA l f r<pB l t r:=by omega
    refine Ae 6 (Dm (((l).getD r Sg.none).t-((l).getD r Sg.none).f) (((l).getD r Sg.none).t-((l).getD r Sg.none).f) (Ae 4 ?_))
    refine Ea (Vx ((l).getD r Sg.none) (pA l f r) (pB l t r)) (λhx11=>?_) (λhx11=>?_)
    ·
     refine He [(6,.int (max f (((l).getD r Sg.none).f)-((l).getD r Sg.none).f),.none),(9,.int (min t (((l).getD r Sg.none).t)-max f (((l).getD r Sg.none).f)),.none),(11,_,.none),(14,_,.none),(16,_,.none),(17,_,.none),(18,_,.none)] [0,2,3,10,11,12,13,14] ⟨Bb (Bz (v:= .int .i64 (IntKind.wrap .i64 (max f (((l).getD r Sg.none).f)-((l).getD r Sg.none).f))) (v':= .int .i64 (max f (((l).getD r Sg.none).f)-((l).getD r Sg.none).f)) _ κ rfl κ (λw=>by kernel_rfl) (congrArg (Value.int .i64) ((IntWalk.i64_in _ ω).trans ω))),Bb (Bz (v:= .int .i64 (IntKind.wrap .i64 (min t (((l).getD r Sg.none).t)-max f (((l).getD r Sg.none).f)))) (v':= .int .i64 (min t (((l).getD r Sg.none).t)-max f (((l).getD r Sg.none).f))) _ κ rfl κ (λw=>by kernel_rfl) (congrArg (Value.int .i64) ((IntWalk.i64_in _ ω).trans ω))),Eg (Lx ((l).getD r Sg.none) (pA l f r-((l).getD r Sg.none).f) (pB l t r-pA l f r) (pD ((l).getD r Sg.none)) hs hso (Bs ω) (Bs ω) (Bs ω) ω),Eg (Gu _ hs.o.1 hs.o.2),Eg (Gm (pD ((l).getD r Sg.none)) 5 (Bs ω).1 (Bs ω).2 ω (λj hj=>Eu (Bs ω) ω)),Eg (Kg ((l).getD r Sg.none).o (pD ((l).getD r Sg.none)^5) (Hy hs.o) (Eu (Bs ω) ω) ((Xh hs (Bs ω)).fit ω)),Eg (Zx ((l).getD r Sg.none) (pA l f r) (pB l t r) hs hso ω ω hx11),trivial⟩ (Ae 6 (vyl 53 sp2p sp2a sp2b (λ_ _ hD12=>?_)))
     refine Ae 9 (vrb (Ae 18 (vre ?_)))
     refine Ae 9 (vrl ?_)
     exact Ae 3 (Fz (.lit (.tuple #[.slice none 0 0,.int .i64 7])) (Pf (tI (j:=r) ω hlt hx11) δ).symm)
    ·
     refine He [(6,.int (max f (((l).getD r Sg.none).f)-((l).getD r Sg.none).f),.none),(9,.int (min t (((l).getD r Sg.none).t)-max f (((l).getD r Sg.none).f)),.none),(11,_,.none),(14,_,.none),(16,_,.none),(17,_,.none),(18,_,.none)] [0,2,3,10,11,12,13,14] ⟨Bb (Bz (v:= .int .i64 (IntKind.wrap .i64 (max f (((l).getD r Sg.none).f)-((l).getD r Sg.none).f))) (v':= .int .i64 (max f (((l).getD r Sg.none).f)-((l).getD r Sg.none).f)) _ κ rfl κ (λw=>by kernel_rfl) (congrArg (Value.int .i64) ((IntWalk.i64_in _ ω).trans ω))),Bb (Bz (v:= .int .i64 (IntKind.wrap .i64 (min t (((l).getD r Sg.none).t)-max f (((l).getD r Sg.none).f)))) (v':= .int .i64 (min t (((l).getD r Sg.none).t)-max f (((l).getD r Sg.none).f))) _ κ rfl κ (λw=>by kernel_rfl) (congrArg (Value.int .i64) ((IntWalk.i64_in _ ω).trans ω))),Eg (Lx ((l).getD r Sg.none) (pA l f r-((l).getD r Sg.none).f) (pB l t r-pA l f r) (pD ((l).getD r Sg.none)) hs hso (Bs ω) (Bs ω) (Bs ω) ω),Eg (Gu _ hs.o.1 hs.o.2),Eg (Gm (pD ((l).getD r Sg.none)) 5 (Bs ω).1 (Bs ω).2 ω (λj hj=>Eu (Bs ω) ω)),Eg (Kg ((l).getD r Sg.none).o (pD ((l).getD r Sg.none)^5) (Hy hs.o) (Eu (Bs ω) ω) ((Xh hs (Bs ω)).fit ω)),Eg (Zy ((l).getD r Sg.none) (pA l f r) (pB l t r) hs hso ω ω hx11),trivial⟩ (Ae 6 (vyl 53 sp2p sp2a sp2b (λ_ _ hD13=>?_)))
     refine Ae 9 (vrb (Ae 14 (Bx (.osl 54 6 1) (.new 54 (.vec 81 6 1 (λ_=>Cw (Ht ((l).getD r Sg.none) (pA l f r) (pB l t r))))) (Ak 54 1 #[(0,(.tmp 19))] κ underlying54 6 sizeOf81 _ zeroValue81 κ β β β 54 [.int ((Ht ((l).getD r Sg.none) (pA l f r) (pB l t r)).f),.int ((Ht ((l).getD r Sg.none) (pA l f r) (pB l t r)).t),.int ((Ht ((l).getD r Sg.none) (pA l f r) (pB l t r)).o),Bn ((Ht ((l).getD r Sg.none) (pA l f r) (pB l t r)).x),Bn ((Ht ((l).getD r Sg.none) (pA l f r) (pB l t r)).y),Bn ((Ht ((l).getD r Sg.none) (pA l f r) (pB l t r)).z)] κ (λ_=>Cw (Ht ((l).getD r Sg.none) (pA l f r) (pB l t r))) κ) (Bx (.osl 55 6 (n+1)) (.grow2 50 54 55 (.vec 81 6 (n+1) (λxi=>Cw ((Jg l f t (r+1)).getD xi Sg.none)))) (Ck (.tmp 18) (.tmp 20) 54 κ underlying54 6 96 (.agg #[.int .i64 0,.int .i64 0,.int .i64 0,.slice none 0 0,.slice none 0 0,.slice none 0 0]) κ κ δ n 1 ω (λxi=>Cw ((Jg l f t r).getD xi Sg.none)) (λ_=>Cw (Ht ((l).getD r Sg.none) (pA l f r) (pB l t r))) (λxi=>Cw ((Jg l f t (r+1)).getD xi Sg.none)) 55 ω (by unfold maxLen;omega) (λi hi=>by show Cw _=Cw _;rw[Mx hlt,Lg,if_pos ω]) (λi hi=>by(obtain rfl:i=0:=(ω));show Cw _=Cw _;rw[Mx hlt,Lg,if_neg ω,show n+0-(Jg l f t r).length=0 by omega];rfl) (λi hi j hj=>match j,hj with|0,_=>rfl|1,_=>rfl|2,_=>rfl|3,_=>rfl|4,_=>rfl|5,_=>rfl|_+6,h=>absurd h ω) 50 κ κ 54 81 κ κ) (Ae 3 (vre ?_))))))
     exact Ae 8 (Dm ((r:Int)+1) ((r+1:Nat):Int) (Ae 2 (Fu [0,2,3,12,13,14] [(0,0),(1,1),(2,2),(3,3),(4,4),(5,5),(55,50)] 51 6 hD3 [(81,6,1,(λ_=>Cw (Ht ((l).getD r Sg.none) (pA l f r) (pB l t r)))),(81,6,n+1,(λxi=>Cw ((Jg l f t (r+1)).getD xi Sg.none)))] ⟨(Fp λ_ _=>rfl),(Fp λ_ _=>rfl),trivial⟩ (hJ1 _ _ (by omega:l.length-(r+1)<l.length-r) ⟨r+1,n+1,ω,rfl,⟨by rw[Mx hlt,List.length_append,List.length_singleton];omega,eH hx11 hFr.2.1,ω⟩,(.inr ⟨ω,rfl⟩)⟩))))
  ·
   refine Ae 5 (vrl ?_)
   exact Ae 9 (sD 50 0 0 81 6 n (λxi=>Cw ((Jg l f t r).getD xi Sg.none)) (Fp λ_ _=>rfl) (Ae 1 (Fz (.tup [.sl 6 n (λxi=>Cw ((Jg l f t r).getD xi Sg.none)),.int 0]) (by have hql:r=l.length:=(ω);subst hql;rw[uR (tJ hFr.2.1),hFr.1]))))
theorem Aed (l:List Sg) (f t:Int) (hl:Dn l) (hok:Fx l) (hf:(l.getD 0 Sg.none).f<=f) (hft:f<t) (ht:t<=(l.getD (l.length-1) Sg.none).t):AF Tryz.prog 87 [Ai l,.int f,.int t] (jZ (mB l f t)):=by
 have h0:=(hok.1 0 (by have:=hok.2;omega)).1.1
 have h1:=(hok.1 (l.length-1) (by have:=hok.2;omega)).1.1
 unfold Ki at h0 h1
 exact Acv l f t hl hok ω ω (AcI hok hf hft ht)
theorem vK (l:List Sg) (f t:Int) (hl:Dn l) (hok:Fx l) (hf:(l.getD 0 Sg.none).f<=f) (hft:f<t) (ht:t<=(l.getD (l.length-1) Sg.none).t) (h:(mB l f t).2=0):AF Tryz.prog 52 [Ai l,.int f,.int t] (.tup [Ai (mB l f t).1,.int 0]):=by
 refine Ch func52 rfl λB D0 hA0=>?_
 exact Ae 9 (Df (Acx l hl hok) (Ae 24 (Kf 24 (decide (f<(l.getD 0 Sg.none).f)) false (decide_eq_false ω) (Ae 4 (Kf 28 (decide (t<=f)) false (decide_eq_false ω) (Ae 5 (Kf 33 (decide ((l.getD (l.length-1) Sg.none).t<t)) false (decide_eq_false ω) (Ae 13 (Df (by have:=Aed l f t hl hok hf hft ht;unfold jZ at this;rwa [if_pos h] at this) (Ae 7 (Gt)))))))))))
theorem Acs (a b:V3) (r f t:Int) (hv:Ma a b f t=true) (hq:(t-f)%4=0) (hr: -2097152<=r/\r<=2097152) (h1:(a.up r).pt=true) (h2:(b.up r).pt=true):AF Tryz.prog 50 [Gh a,Gh b,.int r,.int f,.int t] (.tup [Ai (aN a b r f t),.int 0]):=
 gQ (vs:=[_,_,_,_,_]) λw=>(tA a.x a.y a.z b.x b.y b.z r f t w hv hq hr h1 h2).mono λ_ _ ⟨_,_,he,hp,hb⟩=>⟨_,he,hb,λ_ g1 g2=>AeN (jQ hp g1 λb hb=>g2 b hb.1 hb.2) (.lit _ _)⟩
theorem tO (a b:V3) (f t k:Int):(aU a b f t k).1=Gp a b f t k:=by unfold aU Gp;split<;>rfl
theorem Mz {a b:V3} {f t:Int} (pa:a.pt=true) (pb:b.pt=true) (h0:0<=f) (h1:f<t) (h2:t<=3600000):Ma a b f t=true:=by
 unfold Ma Hh
 simp only[Bool.and_eq_true,decide_eq_true_eq]
 exact⟨⟨⟨⟨pa,pb⟩,h0⟩,h1⟩,h2⟩
theorem AaW {a b:V3} {f t:Int} (k:Int) (h:Ma a b f t=true):(aU a b f t k).2=0:=by unfold aU;rw[if_pos h]
theorem vN {a:V3} {f t:Int} (h:Ma a a f t=true):AF Tryz.prog 62 [Gh a,.int f,.int t] (.tup [Ai (Gp a a f t 0),.int 0]):=by
 have:=vO a f t
 rwa [tO,AaW 0 h] at this
theorem dY {a b:V3} {f t:Int} (h:Ma a b f t=true):AF Tryz.prog 49 [Gh a,Gh b,.int f,.int t] (.tup [Ai (Gp a b f t 2),.int 0]):=by
 have:=vM a b f t
 rwa [tO,AaW 2 h] at this
theorem Nq {a b:List Sg} (ha:Dn a) (hb:Dn b) (h:Om a b=(a++b,0)):AF Tryz.prog 88 [Ai a,Ai b] (.tup [Ai (a++b),.int 0]):=by
 have h2:=gG a b ha hb (by rw[h])
 rwa [h] at h2
theorem mG (x y z x' y' z':Int) (w:World):(Op.equal 52 (.agg #[.int .i64 x,.int .i64 y,.int .i64 z]) (.agg #[.int .i64 x',.int .i64 y',.int .i64 z'])).run Tryz.prog w= .ok (decide (x=x'/\y=y'/\z=z')) w:=by
 have h55:=Tryz.runUnderlying52
 have h3:=Tryz.runUnderlying3
 have ha:=isAgg3
 have hin:Tryz.prog.stoodInHeld 52=false:=by kernel_rfl
 unfold Op.equal
 rw[show Op.maxDepth=9998+1+1 from rfl]
 unfold Op.equalIn
 simp[h55,part,ha,hin]
 unfold Op.equalIn
 simp[h3]
 by_cases h1:x=x'<;>by_cases h2:y=y'<;>by_cases h3:z=z'<;>simp[h1,h2,h3]
def Aeu (l:List Rl) (x:Rl) (n:Nat):Prop:=∃q,q<n/\(l.getD q Rl.none).spare=x.spare/\(l.getD q Rl.none).wait=x.wait/\(l.getD q Rl.none).rise=x.rise
theorem Aba {l:List Rl} {x:Rl}:Aeu l x l.length↔x∈l:=by
 constructor
 rintro⟨q,hq,h1,h2,h3⟩
 have e:l.getD q Rl.none=x:=by
  cases hx:l.getD q Rl.none;cases x;rw[hx] at h1 h2 h3;simp_all
 rw[<-e,List.getD_eq_getElem?_getD,List.getElem?_eq_getElem hq]
 exact List.getElem_mem hq
 intro h
 obtain⟨q,hq,rfl⟩:=List.getElem_of_mem h
 refine⟨q,hq,?_⟩
 simp[List.getD_eq_getElem?_getD,hq]
theorem lG (a:V3) (t:Int):AF Tryz.prog 54 [Gh a,.int t,.int t] (.lit (.slice none 0 0)):=by
 refine Ch func54 rfl λB D0 hA0=>?_
 exact Ae 12 (Kf 11 (decide (t=t)) true (decide_eq_true rfl) (Ae 10 (Gt)))
theorem Er (a:V3) (f t:Int) (h:¬f=t) (hb:Ma a a f t=true):AF Tryz.prog 54 [Gh a,.int f,.int t] (Ai (Gp a a f t 0)):=by
 refine Ch func54 rfl λB D0 hA0=>?_
 exact Ae 12 (Kf 11 (decide (f=t)) false (decide_eq_false h) (Ae 10 (Df (vN hb) (Ae 14 (Gt)))))
theorem kR (a b:List Sg) (pa:Dn a) (pb:Dn b) (na:0<a.length) (nb:0<b.length) (e1:Om a b=(a++b,0)):AF Tryz.prog 53 [.sl 1 4 λxi=>[Ai a,Ai b,.lit (.slice none 0 0),.lit (.slice none 0 0)].getD xi .top] (.tup [Ai (a++b),.int 0]):=by
 have ln0:0<(a++b).length:=by simp only[List.length_append];omega
 refine Ch func53 rfl λB D0 hA0=>?_
 exact Ae 20 (zT 4 (Ae 13 (Gg 0 4 (Ae 8 (fW ((a).length) (Ae 9 (pC (Ae 14 (Nn (.int .i64 1) (.int .i64 1) (Ae 16 (Gg 1 4 (Ae 8 (fW ((b).length) (Ae 9 (fW ((a).length) (Ae 9 (Df (Nq pa pb e1) (Ae 24 (Nn (.int .i64 2) (.int .i64 2) (Ae 16 (Gg 2 4 (Ae 8 (pC (Ae 8 (Nn (.int .i64 3) (.int .i64 3) (Ae 16 (Gg 3 4 (Ae 8 (pC (Ae 8 (Nn (.int .i64 4) (.int .i64 4) (Ae 23 (Gt)))))))))))))))))))))))))))))))))
theorem kS (a b d:List Sg) (pa:Dn a) (pb:Dn b) (na:0<a.length) (nb:0<b.length) (e1:Om a b=(a++b,0)) (pd:Dn d) (nd:0<d.length) (qd:Dn (a++b)) (e3:Om (a++b) d=(a++b++d,0)):AF Tryz.prog 53 [.sl 1 4 λxi=>[Ai a,Ai b,.lit (.slice none 0 0),Ai d].getD xi .top] (.tup [Ai (a++b++d),.int 0]):=by
 have ln0:0<(a++b).length:=by simp only[List.length_append];omega
 have ln1:0<(a++b++d).length:=by simp only[List.length_append];omega
 refine Ch func53 rfl λB D0 hA0=>?_
 exact Ae 20 (zT 4 (Ae 13 (Gg 0 4 (Ae 8 (fW ((a).length) (Ae 9 (pC (Ae 14 (Nn (.int .i64 1) (.int .i64 1) (Ae 16 (Gg 1 4 (Ae 8 (fW ((b).length) (Ae 9 (fW ((a).length) (Ae 9 (Df (Nq pa pb e1) (Ae 24 (Nn (.int .i64 2) (.int .i64 2) (Ae 16 (Gg 2 4 (Ae 8 (pC (Ae 8 (Nn (.int .i64 3) (.int .i64 3) (Ae 16 (Gg 3 4 (Ae 8 (fW ((d).length) (Ae 9 (fW ((a++b).length) (Ae 9 (Df (Nq qd pd e3) (Ae 24 (Nn (.int .i64 4) (.int .i64 4) (Ae 23 (Gt)))))))))))))))))))))))))))))))))))))
theorem kT (a b c:List Sg) (pa:Dn a) (pb:Dn b) (na:0<a.length) (nb:0<b.length) (e1:Om a b=(a++b,0)) (pc:Dn c) (nc:0<c.length) (qc:Dn (a++b)) (e2:Om (a++b) c=(a++b++c,0)):AF Tryz.prog 53 [.sl 1 4 λxi=>[Ai a,Ai b,Ai c,.lit (.slice none 0 0)].getD xi .top] (.tup [Ai (a++b++c),.int 0]):=by
 have ln0:0<(a++b).length:=by simp only[List.length_append];omega
 have ln1:0<(a++b++c).length:=by simp only[List.length_append];omega
 refine Ch func53 rfl λB D0 hA0=>?_
 exact Ae 20 (zT 4 (Ae 13 (Gg 0 4 (Ae 8 (fW ((a).length) (Ae 9 (pC (Ae 14 (Nn (.int .i64 1) (.int .i64 1) (Ae 16 (Gg 1 4 (Ae 8 (fW ((b).length) (Ae 9 (fW ((a).length) (Ae 9 (Df (Nq pa pb e1) (Ae 24 (Nn (.int .i64 2) (.int .i64 2) (Ae 16 (Gg 2 4 (Ae 8 (fW ((c).length) (Ae 9 (fW ((a++b).length) (Ae 9 (Df (Nq qc pc e2) (Ae 24 (Nn (.int .i64 3) (.int .i64 3) (Ae 16 (Gg 3 4 (Ae 8 (pC (Ae 8 (Nn (.int .i64 4) (.int .i64 4) (Ae 23 (Gt)))))))))))))))))))))))))))))))))))))
theorem kU (a b c d:List Sg) (pa:Dn a) (pb:Dn b) (na:0<a.length) (nb:0<b.length) (e1:Om a b=(a++b,0)) (pc:Dn c) (nc:0<c.length) (qc:Dn (a++b)) (e2:Om (a++b) c=(a++b++c,0)) (pd:Dn d) (nd:0<d.length) (qd:Dn (a++b++c)) (e3:Om (a++b++c) d=(a++b++c++d,0)):AF Tryz.prog 53 [.sl 1 4 λxi=>[Ai a,Ai b,Ai c,Ai d].getD xi .top] (.tup [Ai (a++b++c++d),.int 0]):=by
 have ln0:0<(a++b).length:=by simp only[List.length_append];omega
 have ln1:0<(a++b++c).length:=by simp only[List.length_append];omega
 have ln2:0<(a++b++c++d).length:=by simp only[List.length_append];omega
 refine Ch func53 rfl λB D0 hA0=>?_
 exact Ae 20 (zT 4 (Ae 13 (Gg 0 4 (Ae 8 (fW ((a).length) (Ae 9 (pC (Ae 14 (Nn (.int .i64 1) (.int .i64 1) (Ae 16 (Gg 1 4 (Ae 8 (fW ((b).length) (Ae 9 (fW ((a).length) (Ae 9 (Df (Nq pa pb e1) (Ae 24 (Nn (.int .i64 2) (.int .i64 2) (Ae 16 (Gg 2 4 (Ae 8 (fW ((c).length) (Ae 9 (fW ((a++b).length) (Ae 9 (Df (Nq qc pc e2) (Ae 24 (Nn (.int .i64 3) (.int .i64 3) (Ae 16 (Gg 3 4 (Ae 8 (fW ((d).length) (Ae 9 (fW ((a++b++c).length) (Ae 9 (Df (Nq qd pd e3) (Ae 24 (Nn (.int .i64 4) (.int .i64 4) (Ae 23 (Gt)))))))))))))))))))))))))))))))))))))))))
theorem gJ (l:List Rl) (x:Rl) (n:Nat) (hn:n<=1000000):AF Tryz.prog 48 [.sl 3 n λi=>Bc (l.getD i Rl.none),Bc x] (.bool (bP (Aeu l x n))):=by
 refine Ch func48 rfl λB D0 hA0=>?_
 refine Ae 10 (Wi 1 func83 (λ_ hD1=>?_))
 refine Ae 15 (Mi [0,3,7,8] n (λi=>∀q,q<i->¬((l.getD q Rl.none).spare=x.spare/\(l.getD q Rl.none).wait=x.wait/\(l.getD q Rl.none).rise=x.rise)) (λi=>⟨[(0,.sl 3 n (λxi=>Bc ((l).getD xi Rl.none))),(3,.ptr 1 0),(7,.int (n:Int)),(8,.int (i:Int))],[(0,.box 52 [.int x.spare,.int x.wait,.int x.rise]),(1,.box 52 [.int x.spare,.int x.wait,.int x.rise])],2,19⟩) (λq hq=>absurd hq (Nat.not_lt_zero q)) (λi hin hFi J1 hJ1=>?_))
 refine Ae 6 (Em 9 ((i:Int)<(n:Int)) (λhx2 hx2d=>?_) (λhx2 hx2d=>?_))
 ·
  refine Ae 12 (He [(3,Cy (.sl 3 n (λxi=>Bc ((l).getD xi Rl.none))) i,.none),(5,.bool (decide (x.spare=((l).getD i Rl.none).spare/\x.wait=((l).getD i Rl.none).wait/\x.rise=((l).getD i Rl.none).rise)),.none)] [0,3,5,7,8,16] ⟨Hs i n,Bb (Zj 52 52 (.tmp 11) (.tmp 15) κ _ _ κ κ κ (decide (x.spare=((l).getD i Rl.none).spare/\x.wait=((l).getD i Rl.none).wait/\x.rise=((l).getD i Rl.none).rise)) (mG _ _ _ _ _ _)),trivial⟩ (Ae 1 (Em 16 (x.spare=((l).getD i Rl.none).spare/\x.wait=((l).getD i Rl.none).wait/\x.rise=((l).getD i Rl.none).rise) (λhx3 hx3d=>?_) (λhx3 hx3d=>?_))))
  ·
   exact Ae 13 (pE (Ae 1 (Kf 8 (decide ((0:Int)<=(i:Int))) true (decide_eq_true ω) (Ae 4 (Fz (.bool true) (congrArg AV.bool (Ee ⟨i,ω,ω⟩).symm))))))
  ·
   exact Ae 5 (Dm ((i:Int)+1) ((i+1:Nat):Int) (Ae 2 (Ja [0,3,7,8] (hJ1 ω (λq hq=>(Nat.lt_or_ge q i).elim (λg=>hFi q g) λg=>by have e:q=i:=(ω);subst e;omega)))))
 ·
  exact Ae 12 (pE (Ae 5 (Fz (.bool false) (congrArg AV.bool (As λ⟨q,hq,h9⟩=>hFi q ω h9).symm))))
theorem Nt.stay0 {p:Pr} {r:Rv} {c:Cs} {x:Rl} (h:Nt p r c x) (e:Jf p r c x=Ih p r c x):Gs p r c x=[]:=by
 have:=h.stay.1
 rw[<-e] at this
 exact this.nil_of
theorem Nt.tail0 {p:Pr} {r:Rv} {c:Cs} {x:Rl} (h:Nt p r c x) (e:¬Ih p r c x<Br p.acts p.acts.length):Gj p r c x=[]:=by
 have h1:=h.tail.1
 have h2:=h.s0
 rw[show Br p.acts p.acts.length=Ih p r c x by omega] at h1
 exact h1.nil_of
theorem Fo {l:List Sg} {a b:V3} {f t:Int} (h:Bv l a b f t) (hn:l.length<=256):Dn l:=by
 by_cases h0:0<l.length
 exact(h.okP h0 hn).2
 rw[show l=[] from List.eq_nil_of_length_eq_zero ω];exact Dn.nil
theorem dX (p:Pr) (r:Rv) (c:Cs) (x:Rl) (h:Nt p r c x) (hn:p.acts.length<=5) (hs:¬Jf p r c x=Ih p r c x) (ht:Ih p r c x<Br p.acts p.acts.length):AF Tryz.prog 53 [.sl 1 4 λxi=>[Ai (En r p c x),Ai (Jb p r c x),Ai (Gs p r c x),Ai (Gj p r c x)].getD xi .top] (.tup [Ai (relP p r c x),.int 0]):=by
 have h0:=h.s0
 have l1:=h.hov.2
 have l2:=h.go.2
 have l3:=h.stay.2
 have l4:=h.tail.2
 have n3:=h.stay.1.pos ω
 have n4:=h.tail.1.pos ht
 have g1:=h.hov.1.app h.go.1
 have g2:=g1.app h.stay.1
 have m1:(En r p c x++Jb p r c x).length<=4:=by rw[List.length_append];omega
 have m2:(En r p c x++Jb p r c x++Gs p r c x).length<=5:=by rw[List.length_append];omega
 have m3:0<(En r p c x++Jb p r c x).length:=by rw[List.length_append];omega
 have m4:0<(En r p c x++Jb p r c x++Gs p r c x).length:=by rw[List.length_append];omega
 exact kU _ _ _ _ (Fo h.hov.1 ω) (Fo h.go.1 ω) ω ω (Jt h.hov.1 h.go.1 ω ω ω) (Fo h.stay.1 ω) n3 (Fo g1 ω) (Jt g1 h.stay.1 m3 n3 ω) (Fo h.tail.1 ω) n4 (Fo g2 ω) (Jt g2 h.tail.1 m4 n4 ω)
theorem dV (p:Pr) (r:Rv) (c:Cs) (x:Rl) (h:Nt p r c x) (hn:p.acts.length<=5) (hs:Jf p r c x=Ih p r c x) (ht:Ih p r c x<Br p.acts p.acts.length):AF Tryz.prog 53 [.sl 1 4 λxi=>[Ai (En r p c x),Ai (Jb p r c x),.lit (.slice none 0 0),Ai (Gj p r c x)].getD xi .top] (.tup [Ai (relP p r c x),.int 0]):=by
 have h0:=h.s0
 have l1:=h.hov.2
 have l2:=h.go.2
 have l4:=h.tail.2
 have n4:=h.tail.1.pos ht
 have g1:=h.hov.1.app h.go.1
 have m1:(En r p c x++Jb p r c x).length<=4:=by rw[List.length_append];omega
 have m3:0<(En r p c x++Jb p r c x).length:=by rw[List.length_append];omega
 have e:relP p r c x=En r p c x++Jb p r c x++Gj p r c x:=by rw[relP,h.stay0 hs,List.append_nil]
 have g4:=h.tail.1
 rw[<-hs] at g4
 rw[e]
 exact kS _ _ _ (Fo h.hov.1 ω) (Fo h.go.1 ω) ω ω (Jt h.hov.1 h.go.1 ω ω ω) (Fo h.tail.1 ω) n4 (Fo g1 ω) (Jt g1 g4 m3 n4 ω)
theorem dW (p:Pr) (r:Rv) (c:Cs) (x:Rl) (h:Nt p r c x) (hs:¬Jf p r c x=Ih p r c x) (ht:¬Ih p r c x<Br p.acts p.acts.length):AF Tryz.prog 53 [.sl 1 4 λxi=>[Ai (En r p c x),Ai (Jb p r c x),Ai (Gs p r c x),.lit (.slice none 0 0)].getD xi .top] (.tup [Ai (relP p r c x),.int 0]):=by
 have h0:=h.s0
 have l1:=h.hov.2
 have l2:=h.go.2
 have l3:=h.stay.2
 have n3:=h.stay.1.pos ω
 have g1:=h.hov.1.app h.go.1
 have m1:(En r p c x++Jb p r c x).length<=4:=by rw[List.length_append];omega
 have m3:0<(En r p c x++Jb p r c x).length:=by rw[List.length_append];omega
 have e:relP p r c x=En r p c x++Jb p r c x++Gs p r c x:=by rw[relP,h.tail0 ht,List.append_nil]
 rw[e]
 exact kT _ _ _ (Fo h.hov.1 ω) (Fo h.go.1 ω) ω ω (Jt h.hov.1 h.go.1 ω ω ω) (Fo h.stay.1 ω) n3 (Fo g1 ω) (Jt g1 h.stay.1 m3 n3 ω)
theorem dU (p:Pr) (r:Rv) (c:Cs) (x:Rl) (h:Nt p r c x) (hs:Jf p r c x=Ih p r c x) (ht:¬Ih p r c x<Br p.acts p.acts.length):AF Tryz.prog 53 [.sl 1 4 λxi=>[Ai (En r p c x),Ai (Jb p r c x),.lit (.slice none 0 0),.lit (.slice none 0 0)].getD xi .top] (.tup [Ai (relP p r c x),.int 0]):=by
 have l1:=h.hov.2
 have l2:=h.go.2
 have e:relP p r c x=En r p c x++Jb p r c x:=by rw[relP,h.tail0 ht,h.stay0 hs,List.append_nil,List.append_nil]
 rw[e]
 exact kR _ _ (Fo h.hov.1 ω) (Fo h.go.1 ω) ω ω (Jt h.hov.1 h.go.1 ω ω ω)
theorem Aae (p:Pr) (r:Rv) (c:Cs) (x:Rl) (h:Nt p r c x) (h0:0<x.rise):AF Tryz.prog 50 [Gh (Ha r x),Gh (atR p r c x),.int x.rise,.int (Et p c x),.int (Jf p r c x)] (.tup [Ai (Jb p r c x),.int 0]):=by
 have h1:=h.s0
 have h2:=h.rise
 rw[Jb,if_pos h0]
 exact Acs _ _ _ _ _ (Mz h.hp h.ap ω ω ω) h.q4 ω h.hu h.au
theorem pS (p:Pr) (r:Rv) (c:Cs) (x:Rl) (h:Nt p r c x) (h0:¬0<x.rise):AF Tryz.prog 49 [Gh (Ha r x),Gh (atR p r c x),.int (Et p c x),.int (Jf p r c x)] (.tup [Ai (Jb p r c x),.int 0]):=by
 have h1:=h.s0
 rw[Jb,if_neg h0]
 exact dY (Mz h.hp h.ap ω ω ω)
theorem lB (p:Pr) (r:Rv) (c:Cs) (x:Rl) (h:Nt p r c x):AF Tryz.prog 49 [Gh (Ha r x),Gh (atR p r c x),.int (Et p c x),.int (Jf p r c x)] (.tup [Ai (Gp (Ha r x) (atR p r c x) (Et p c x) (Jf p r c x) 2),.int 0]):=by
 have h1:=h.s0
 exact dY (Mz h.hp h.ap ω ω ω)
theorem Zv (p:Pr) (r:Rv) (c:Cs) (x:Rl) (hc:Fv p c) (h:Nt p r c x) (ht:Ih p r c x<Br p.acts p.acts.length):AF Tryz.prog 52 [Ai (Iy p p.acts.length c.craft.toNat),.int (Ih p r c x),.int (Br p.acts p.acts.length)] (.tup [Ai (Gj p r c x),.int 0]):=by
 have h0:=h.s0
 have h1:=hc.2
 have ho:=Ae7 hc.1 ω (i:=c.craft.toNat) ω
 have hcut:mB (Iy p p.acts.length c.craft.toNat) (Ih p r c x) (Br p.acts p.acts.length)=(Gj p r c x,0):=by
  rw[h.app];exact AaG h.own h.tail.1
 have:=vK (Iy p p.acts.length c.craft.toNat) (Ih p r c x) (Br p.acts p.acts.length) ho.pin ho.ok (by rw[ho.first];omega) ht (by rw[ho.last];exact Int.le_refl _) (by rw[hcut])
 rwa [hcut] at this
theorem Ur (p:Pr) (c:Cs) (hp:Kd p) (hc:Fv p c):AF Tryz.prog 28 [Ev p,.int c.craft] (.tup [Ai (Iy p p.acts.length c.craft.toNat),.int 0]):=by
 have h1:=hc.2
 have:=lE p c.craft.toNat hp hc.1 ω ω
 rwa [show (c.craft.toNat:Int)=c.craft by omega] at this
theorem Nr (a:V3) (f t:Int) (h:f=t):AF Tryz.prog 54 [Gh a,.int f,.int t] (.lit (.slice none 0 0)):=by
 subst h;exact lG a f
theorem dE (p:Pr) (r:Rv) (c:Cs) (x:Rl) (hp:Kd p) (hc:Fv p c) (hcs:Py c) (hr:Mw r) (h:Nt p r c x):AF Tryz.prog 39 [Ev p,Hd r,Ho c,.int x.wait] (.lit (.tuple #[.int .i64 (Et p c x),.int .i64 (Jf p r c x),.int .i64 (Pn p r c x:Int),.int .i64 (Ih p r c x),dR (atR p r c x)])):=by
 have:=Ow p r c x.wait hp hc hcs hr h.wait
 unfold dO at this
 rwa [if_pos h.act.2] at this
theorem VR.relP {E:Bo} {v:Value} {l:List Rl} (h:VR E (uS l) v):VR E (.tup [Qu l,.int 0]) v:=by
 unfold uS at h
 split at h
 rename_i h0
 have:=h.lit_inv
 subst this
 rw[List.eq_nil_of_length_eq_zero h0]
 exact .tup _ _ _ rfl λi hi=>by
  match i,hi with
  |0,_=>exact .sl0 _ _ _ _ _
  |1,_=>exact .lit _ _
 exact h
theorem Qy (p:Pr) (r:Rv) (c:Cs) (hp:Kd p) (hr:Wr r) (hcs:Py c) (hg:Nz p r c):AF Tryz.prog 18 [Ev p,Hd r,Ho c] (.tup [Qu (Kq p r c),.int 0]):=
 sR (lF p r c hp hr hcs hg) rfl (λ_ _ _ _ h=>h) λ_ _ h=>h.relP
theorem oC (r:Rv) (w:Int) (v:V3) (i:Nat):∀q,(dN r w v i q).length<=q
 |0=>Nat.zero_le _
 |q+1=>by
  have:=oC r w v i q
  rw[dN,List.length_append]
  split<;>simp<;>omega
theorem oA (r:Rv) (w:Int) (v:V3) (o:List Nat):∀m,(jY r w v o m).length<=m*r.rises.length
 |0=>Nat.zero_le _
 |m+1=>by
  have h1:=oA r w v o m
  have h2:=oC r w v (o.getD m 0) r.rises.length
  rw[jY,List.length_append,Nat.succ_mul];omega
theorem oE {p:Pr} {r:Rv} (hr:Mw r) (c:Cs):∀k,(Gx p r c k).length<=k*128
 |0=>Nat.zero_le _
 |k+1=>by
  have h1:=oE (p:=p) hr c k
  rw[Gx,List.length_append,Nat.succ_mul]
  split
  have h2:=oA r (r.waits.getD k 0) (Aj p r c k) (Av r (Aj p r c k)) r.homes.length
  have h3:=Nat.mul_le_mul hr.1.2.1 hr.2.2.2.2.1
  omega
  simp;omega
theorem oG {p:Pr} {r:Rv} (hr:Mw r) (c:Cs):(Kq p r c).length<=2048:=by
 have h1:=oE (p:=p) hr c r.waits.length
 have h2:=hr.2.2.1.2.1
 have:(Kq p r c).length<=r.waits.length*128:=h1
 omega
theorem pT (p:Pr) (r:Rv) (c:Cs) (x:Rl) (hp:Kd p) (hr:Wr r) (hcs:Py c) (hg:Nz p r c) (hn:p.acts.length<=5) (hx:x∈Kq p r c):AF Tryz.prog 21 [Ev p,Hd r,Ho c,Bc x] (.tup [Ai (relP p r c x),.int 0]):=by
 have h:=Ae9 hg.1 hg.2 (Adw hx)
 have h0:=h.s0
 have h1:=h.sp
 have h2:=hg.2.1
 have lo:=h.go.2
 have lt:=h.tail.2
 have rl:=oG (p:=p) hg.2 c
 have lr:=h.rise
 refine Ch func21 rfl λB D0 hA0=>?_
 refine Ae 15 (Df (Qy p r c hp hr hcs hg) (Ae 22 (Df (gJ (Kq p r c) x (Kq p r c).length ω) (Ae 3 (Kf 36 (!bP (Aeu (Kq p r c) x (Kq p r c).length)) false (by rw[(Ee (Aba.2 hx))];rfl) (Ae 10 (Df (dE p r c x hp hg.1 hcs hg.2 h) (Ae 20 (AfJ x.spare (x.spare).toNat r.homes.length (Ae 11 (zK ((0:Int)<x.rise) (λhx1 hx1d=>?_) (λhx1 hx1d=>?_))))))))))))
 ·
  refine Df (lB p r c x h) (Ae 15 (Kf 65 (decide ((0:Int)<x.rise)) true hx1 (Ae 8 (Df (Aae p r c x h hx1d) (Ae 22 (Df (Ur p c hp hg.1) (Ae 20 (Df (dZ p hp hg.1.1) (Ae 20 (Em 96 (Ih p r c x<Br p.acts p.acts.length) (λhx2 hx2d=>?_) (λhx2 hx2d=>?_)))))))))))
  ·
   refine Ae 6 (Df (Zv p r c x hg.1 h hx2d) (Ae 17 (zK (Jf p r c x=Ih p r c x) (λhx3 hx3d=>?_) (λhx3 hx3d=>?_))))
   ·
    exact He [(2,_,.none),(7,_,.none),(9,.osl 6 1 4,(.new 6 (.vec 54 1 4 (λxi=>[Ai (En r p c x),Ai (Jb p r c x),.lit (.slice none 0 0),Ai (Gj p r c x)].getD xi .top)))),(10,.tup [Ai (relP p r c x),.int 0],(.drop 6))] [8,9] ⟨Eg (Er (Ha r x) 0 (Et p c x) ω (Mz h.hp h.hp ω ω ω)),Eg (Nr (atR p r c x) _ _ hx3d),Bb (Ak 59 4 #[(0,(.tmp 109)),(1,(.tmp 110)),(2,(.tmp 114)),(3,(.tmp 115))] κ underlying59 1 sizeOf54 _ zeroValue54 κ β β β 6 [Ai (En r p c x),Ai (Jb p r c x),.lit (.slice none 0 0),Ai (Gj p r c x)] κ (λxi=>[Ai (En r p c x),Ai (Jb p r c x),.lit (.slice none 0 0),Ai (Gj p r c x)].getD xi .top) κ),Bb (Jy 53 #[.tmp 116] #[59] κ (λ_ _=>by kernel_rfl) 6 (.vec 54 1 4 (λxi=>[Ai (En r p c x),Ai (Jb p r c x),.lit (.slice none 0 0),Ai (Gj p r c x)].getD xi .top)) κ (λ_ _ _ _ h=>by cases h;exact(λi hi j hj=>by obtain rfl:j=0:=(ω);exact match i,hi with|0,_=>rfl|1,_=>rfl|2,_=>rfl|3,_=>rfl|i+4,h=>absurd h ω)) [.osl 6 1 4] κ [.sl 1 4 (λxi=>[Ai (En r p c x),Ai (Jb p r c x),.lit (.slice none 0 0),Ai (Gj p r c x)].getD xi .top)] κ (.tup [Ai (relP p r c x),.int 0]) (dV p r c x h hn hx3d hx2d)),trivial⟩ (Ae 2 (Gt))
   ·
    exact He [(2,_,.none),(7,_,.none),(9,.osl 6 1 4,(.new 6 (.vec 54 1 4 (λxi=>[Ai (En r p c x),Ai (Jb p r c x),Ai (Gs p r c x),Ai (Gj p r c x)].getD xi .top)))),(10,.tup [Ai (relP p r c x),.int 0],(.drop 6))] [8,9] ⟨Eg (Er (Ha r x) 0 (Et p c x) ω (Mz h.hp h.hp ω ω ω)),Eg (Er (atR p r c x) (Jf p r c x) (Ih p r c x) hx3d (Mz h.ap h.ap ω ω ω)),Bb (Ak 59 4 #[(0,(.tmp 109)),(1,(.tmp 110)),(2,(.tmp 114)),(3,(.tmp 115))] κ underlying59 1 sizeOf54 _ zeroValue54 κ β β β 6 [Ai (En r p c x),Ai (Jb p r c x),Ai (Gs p r c x),Ai (Gj p r c x)] κ (λxi=>[Ai (En r p c x),Ai (Jb p r c x),Ai (Gs p r c x),Ai (Gj p r c x)].getD xi .top) κ),Bb (Jy 53 #[.tmp 116] #[59] κ (λ_ _=>by kernel_rfl) 6 (.vec 54 1 4 (λxi=>[Ai (En r p c x),Ai (Jb p r c x),Ai (Gs p r c x),Ai (Gj p r c x)].getD xi .top)) κ (λ_ _ _ _ h=>by cases h;exact(λi hi j hj=>by obtain rfl:j=0:=(ω);exact match i,hi with|0,_=>rfl|1,_=>rfl|2,_=>rfl|3,_=>rfl|i+4,h=>absurd h ω)) [.osl 6 1 4] κ [.sl 1 4 (λxi=>[Ai (En r p c x),Ai (Jb p r c x),Ai (Gs p r c x),Ai (Gj p r c x)].getD xi .top)] κ (.tup [Ai (relP p r c x),.int 0]) (dX p r c x h hn hx3d hx2d)),trivial⟩ (Ae 2 (Gt))
  ·
   refine Ae 4 (zK (Jf p r c x=Ih p r c x) (λhx4 hx4d=>?_) (λhx4 hx4d=>?_))
   ·
    exact He [(2,_,.none),(7,_,.none),(9,.osl 6 1 4,(.new 6 (.vec 54 1 4 (λxi=>[Ai (En r p c x),Ai (Jb p r c x),.lit (.slice none 0 0),.lit (.slice none 0 0)].getD xi .top)))),(10,.tup [Ai (relP p r c x),.int 0],(.drop 6))] [8,9] ⟨Eg (Er (Ha r x) 0 (Et p c x) ω (Mz h.hp h.hp ω ω ω)),Eg (Nr (atR p r c x) _ _ hx4d),Bb (Ak 59 4 #[(0,(.tmp 109)),(1,(.tmp 110)),(2,(.tmp 114)),(3,(.tmp 115))] κ underlying59 1 sizeOf54 _ zeroValue54 κ β β β 6 [Ai (En r p c x),Ai (Jb p r c x),.lit (.slice none 0 0),.lit (.slice none 0 0)] κ (λxi=>[Ai (En r p c x),Ai (Jb p r c x),.lit (.slice none 0 0),.lit (.slice none 0 0)].getD xi .top) κ),Bb (Jy 53 #[.tmp 116] #[59] κ (λ_ _=>by kernel_rfl) 6 (.vec 54 1 4 (λxi=>[Ai (En r p c x),Ai (Jb p r c x),.lit (.slice none 0 0),.lit (.slice none 0 0)].getD xi .top)) κ (λ_ _ _ _ h=>by cases h;exact(λi hi j hj=>by obtain rfl:j=0:=(ω);exact match i,hi with|0,_=>rfl|1,_=>rfl|2,_=>rfl|3,_=>rfl|i+4,h=>absurd h ω)) [.osl 6 1 4] κ [.sl 1 4 (λxi=>[Ai (En r p c x),Ai (Jb p r c x),.lit (.slice none 0 0),.lit (.slice none 0 0)].getD xi .top)] κ (.tup [Ai (relP p r c x),.int 0]) (dU p r c x h hx4d hx2d)),trivial⟩ (Ae 2 (Gt))
   ·
    exact He [(2,_,.none),(7,_,.none),(9,.osl 6 1 4,(.new 6 (.vec 54 1 4 (λxi=>[Ai (En r p c x),Ai (Jb p r c x),Ai (Gs p r c x),.lit (.slice none 0 0)].getD xi .top)))),(10,.tup [Ai (relP p r c x),.int 0],(.drop 6))] [8,9] ⟨Eg (Er (Ha r x) 0 (Et p c x) ω (Mz h.hp h.hp ω ω ω)),Eg (Er (atR p r c x) (Jf p r c x) (Ih p r c x) hx4d (Mz h.ap h.ap ω ω ω)),Bb (Ak 59 4 #[(0,(.tmp 109)),(1,(.tmp 110)),(2,(.tmp 114)),(3,(.tmp 115))] κ underlying59 1 sizeOf54 _ zeroValue54 κ β β β 6 [Ai (En r p c x),Ai (Jb p r c x),Ai (Gs p r c x),.lit (.slice none 0 0)] κ (λxi=>[Ai (En r p c x),Ai (Jb p r c x),Ai (Gs p r c x),.lit (.slice none 0 0)].getD xi .top) κ),Bb (Jy 53 #[.tmp 116] #[59] κ (λ_ _=>by kernel_rfl) 6 (.vec 54 1 4 (λxi=>[Ai (En r p c x),Ai (Jb p r c x),Ai (Gs p r c x),.lit (.slice none 0 0)].getD xi .top)) κ (λ_ _ _ _ h=>by cases h;exact(λi hi j hj=>by obtain rfl:j=0:=(ω);exact match i,hi with|0,_=>rfl|1,_=>rfl|2,_=>rfl|3,_=>rfl|i+4,h=>absurd h ω)) [.osl 6 1 4] κ [.sl 1 4 (λxi=>[Ai (En r p c x),Ai (Jb p r c x),Ai (Gs p r c x),.lit (.slice none 0 0)].getD xi .top)] κ (.tup [Ai (relP p r c x),.int 0]) (dW p r c x h hx4d hx2d)),trivial⟩ (Ae 2 (Gt))
 ·
  refine Df (pS p r c x h hx1d) (Ae 15 (Kf 65 (decide ((0:Int)<x.rise)) false hx1 (Ae 18 (Df (Ur p c hp hg.1) (Ae 20 (Df (dZ p hp hg.1.1) (Ae 20 (Em 96 (Ih p r c x<Br p.acts p.acts.length) (λhx5 hx5d=>?_) (λhx5 hx5d=>?_)))))))))
  ·
   refine Ae 6 (Df (Zv p r c x hg.1 h hx5d) (Ae 17 (zK (Jf p r c x=Ih p r c x) (λhx6 hx6d=>?_) (λhx6 hx6d=>?_))))
   ·
    exact He [(2,_,.none),(7,_,.none),(9,.osl 6 1 4,(.new 6 (.vec 54 1 4 (λxi=>[Ai (En r p c x),Ai (Jb p r c x),.lit (.slice none 0 0),Ai (Gj p r c x)].getD xi .top)))),(10,.tup [Ai (relP p r c x),.int 0],(.drop 6))] [8,9] ⟨Eg (Er (Ha r x) 0 (Et p c x) ω (Mz h.hp h.hp ω ω ω)),Eg (Nr (atR p r c x) _ _ hx6d),Bb (Ak 59 4 #[(0,(.tmp 109)),(1,(.tmp 110)),(2,(.tmp 114)),(3,(.tmp 115))] κ underlying59 1 sizeOf54 _ zeroValue54 κ β β β 6 [Ai (En r p c x),Ai (Jb p r c x),.lit (.slice none 0 0),Ai (Gj p r c x)] κ (λxi=>[Ai (En r p c x),Ai (Jb p r c x),.lit (.slice none 0 0),Ai (Gj p r c x)].getD xi .top) κ),Bb (Jy 53 #[.tmp 116] #[59] κ (λ_ _=>by kernel_rfl) 6 (.vec 54 1 4 (λxi=>[Ai (En r p c x),Ai (Jb p r c x),.lit (.slice none 0 0),Ai (Gj p r c x)].getD xi .top)) κ (λ_ _ _ _ h=>by cases h;exact(λi hi j hj=>by obtain rfl:j=0:=(ω);exact match i,hi with|0,_=>rfl|1,_=>rfl|2,_=>rfl|3,_=>rfl|i+4,h=>absurd h ω)) [.osl 6 1 4] κ [.sl 1 4 (λxi=>[Ai (En r p c x),Ai (Jb p r c x),.lit (.slice none 0 0),Ai (Gj p r c x)].getD xi .top)] κ (.tup [Ai (relP p r c x),.int 0]) (dV p r c x h hn hx6d hx5d)),trivial⟩ (Ae 2 (Gt))
   ·
    exact He [(2,_,.none),(7,_,.none),(9,.osl 6 1 4,(.new 6 (.vec 54 1 4 (λxi=>[Ai (En r p c x),Ai (Jb p r c x),Ai (Gs p r c x),Ai (Gj p r c x)].getD xi .top)))),(10,.tup [Ai (relP p r c x),.int 0],(.drop 6))] [8,9] ⟨Eg (Er (Ha r x) 0 (Et p c x) ω (Mz h.hp h.hp ω ω ω)),Eg (Er (atR p r c x) (Jf p r c x) (Ih p r c x) hx6d (Mz h.ap h.ap ω ω ω)),Bb (Ak 59 4 #[(0,(.tmp 109)),(1,(.tmp 110)),(2,(.tmp 114)),(3,(.tmp 115))] κ underlying59 1 sizeOf54 _ zeroValue54 κ β β β 6 [Ai (En r p c x),Ai (Jb p r c x),Ai (Gs p r c x),Ai (Gj p r c x)] κ (λxi=>[Ai (En r p c x),Ai (Jb p r c x),Ai (Gs p r c x),Ai (Gj p r c x)].getD xi .top) κ),Bb (Jy 53 #[.tmp 116] #[59] κ (λ_ _=>by kernel_rfl) 6 (.vec 54 1 4 (λxi=>[Ai (En r p c x),Ai (Jb p r c x),Ai (Gs p r c x),Ai (Gj p r c x)].getD xi .top)) κ (λ_ _ _ _ h=>by cases h;exact(λi hi j hj=>by obtain rfl:j=0:=(ω);exact match i,hi with|0,_=>rfl|1,_=>rfl|2,_=>rfl|3,_=>rfl|i+4,h=>absurd h ω)) [.osl 6 1 4] κ [.sl 1 4 (λxi=>[Ai (En r p c x),Ai (Jb p r c x),Ai (Gs p r c x),Ai (Gj p r c x)].getD xi .top)] κ (.tup [Ai (relP p r c x),.int 0]) (dX p r c x h hn hx6d hx5d)),trivial⟩ (Ae 2 (Gt))
  ·
   refine Ae 4 (zK (Jf p r c x=Ih p r c x) (λhx7 hx7d=>?_) (λhx7 hx7d=>?_))
   ·
    exact He [(2,_,.none),(7,_,.none),(9,.osl 6 1 4,(.new 6 (.vec 54 1 4 (λxi=>[Ai (En r p c x),Ai (Jb p r c x),.lit (.slice none 0 0),.lit (.slice none 0 0)].getD xi .top)))),(10,.tup [Ai (relP p r c x),.int 0],(.drop 6))] [8,9] ⟨Eg (Er (Ha r x) 0 (Et p c x) ω (Mz h.hp h.hp ω ω ω)),Eg (Nr (atR p r c x) _ _ hx7d),Bb (Ak 59 4 #[(0,(.tmp 109)),(1,(.tmp 110)),(2,(.tmp 114)),(3,(.tmp 115))] κ underlying59 1 sizeOf54 _ zeroValue54 κ β β β 6 [Ai (En r p c x),Ai (Jb p r c x),.lit (.slice none 0 0),.lit (.slice none 0 0)] κ (λxi=>[Ai (En r p c x),Ai (Jb p r c x),.lit (.slice none 0 0),.lit (.slice none 0 0)].getD xi .top) κ),Bb (Jy 53 #[.tmp 116] #[59] κ (λ_ _=>by kernel_rfl) 6 (.vec 54 1 4 (λxi=>[Ai (En r p c x),Ai (Jb p r c x),.lit (.slice none 0 0),.lit (.slice none 0 0)].getD xi .top)) κ (λ_ _ _ _ h=>by cases h;exact(λi hi j hj=>by obtain rfl:j=0:=(ω);exact match i,hi with|0,_=>rfl|1,_=>rfl|2,_=>rfl|3,_=>rfl|i+4,h=>absurd h ω)) [.osl 6 1 4] κ [.sl 1 4 (λxi=>[Ai (En r p c x),Ai (Jb p r c x),.lit (.slice none 0 0),.lit (.slice none 0 0)].getD xi .top)] κ (.tup [Ai (relP p r c x),.int 0]) (dU p r c x h hx7d hx5d)),trivial⟩ (Ae 2 (Gt))
   ·
    exact He [(2,_,.none),(7,_,.none),(9,.osl 6 1 4,(.new 6 (.vec 54 1 4 (λxi=>[Ai (En r p c x),Ai (Jb p r c x),Ai (Gs p r c x),.lit (.slice none 0 0)].getD xi .top)))),(10,.tup [Ai (relP p r c x),.int 0],(.drop 6))] [8,9] ⟨Eg (Er (Ha r x) 0 (Et p c x) ω (Mz h.hp h.hp ω ω ω)),Eg (Er (atR p r c x) (Jf p r c x) (Ih p r c x) hx7d (Mz h.ap h.ap ω ω ω)),Bb (Ak 59 4 #[(0,(.tmp 109)),(1,(.tmp 110)),(2,(.tmp 114)),(3,(.tmp 115))] κ underlying59 1 sizeOf54 _ zeroValue54 κ β β β 6 [Ai (En r p c x),Ai (Jb p r c x),Ai (Gs p r c x),.lit (.slice none 0 0)] κ (λxi=>[Ai (En r p c x),Ai (Jb p r c x),Ai (Gs p r c x),.lit (.slice none 0 0)].getD xi .top) κ),Bb (Jy 53 #[.tmp 116] #[59] κ (λ_ _=>by kernel_rfl) 6 (.vec 54 1 4 (λxi=>[Ai (En r p c x),Ai (Jb p r c x),Ai (Gs p r c x),.lit (.slice none 0 0)].getD xi .top)) κ (λ_ _ _ _ h=>by cases h;exact(λi hi j hj=>by obtain rfl:j=0:=(ω);exact match i,hi with|0,_=>rfl|1,_=>rfl|2,_=>rfl|3,_=>rfl|i+4,h=>absurd h ω)) [.osl 6 1 4] κ [.sl 1 4 (λxi=>[Ai (En r p c x),Ai (Jb p r c x),Ai (Gs p r c x),.lit (.slice none 0 0)].getD xi .top)] κ (.tup [Ai (relP p r c x),.int 0]) (dW p r c x h hx7d hx5d)),trivial⟩ (Ae 2 (Gt))
def qR (l:List Int) (x:Int):Prop:=∃q,q<l.length/\l.getD q 0=x
def dF (r:Rv):Prop:=r.homes.length<=9/\r.waits.length<=17/\r.rises.length<=17
theorem dF.inn {r:Rv} (h:dF r) (hf:Cv r.flight):Wr r:=⟨by have:=h.1;omega,by have:=h.2.1;omega,by have:=h.2.2;omega,hf⟩
def vG (p:Pr) (r:Rv) (c:Cs) (w:Int):Prop:=qR r.waits w/\Kx p c (Ic p r c w)<p.acts.length
theorem Abb {r:Rv} {w:Int} (hr:Mw r) (h:qR r.waits w):0<=w/\w<=3600000:=by
 obtain⟨q,hq,rfl⟩:=h
 have:=hr.2.2.1.2.2 q hq
 exact⟨this.1,this.2.1⟩
theorem lI (p:Pr) (r:Rv) (c:Cs) (w:Int) (hp:Kd p) (hc:Fv p c) (hcs:Py c) (hr:Mw r) (h:vG p r c w):AF Tryz.prog 39 [Ev p,Hd r,Ho c,.int w] (.lit (.tuple #[.int .i64 (Bl p c+w),.int .i64 (Bl p c+w+r.flight),.int .i64 (Kx p c (Ic p r c w):Int),.int .i64 (Br p.acts (Kx p c (Ic p r c w)+1)),dR (kI p c (Kx p c (Ic p r c w)))])):=by
 have:=Ow p r c w hp hc hcs hr (Abb hr h.1)
 unfold dO at this
 rwa [if_pos h.2] at this
theorem lH (p:Pr) (r:Rv) (c:Cs) (w:Int) (hp:Kd p) (hc:Fv p c) (hcs:Py c) (hr:Mw r) (h1:qR r.waits w) (h:¬vG p r c w):AF Tryz.prog 39 [Ev p,Hd r,Ho c,.int w] (.lit (.tuple #[.int .i64 (Bl p c+w),.int .i64 (Bl p c+w+r.flight),.int .i64 (-1),.int .i64 (Br p.acts p.acts.length),.agg #[.int .i64 0,.int .i64 0,.int .i64 0]])):=by
 have:=Ow p r c w hp hc hcs hr (Abb hr h1)
 unfold dO at this
 rwa [if_neg (λg=>h ⟨h1,g⟩)] at this
theorem Uq (l:List Int) (x:Int) (hn:l.length<=1000000):AF Tryz.prog 38 [Bq l,.int x] (.bool (bP (qR l x))):=by
 refine Ch func38 rfl λB D0 hA0=>?_
 refine Ae 9 (Wi 0 func74 (λ_ hD1=>?_))
 refine Ae 14 (Mi [0,1,7,8] l.length (λi=>∀q,q<i->¬(l.getD q 0=x)) (λi=>⟨[(0,Bq l),(1,.int x),(7,.int (l.length:Int)),(8,.int (i:Int))],[],0,19⟩) (λq hq=>absurd hq (Nat.not_lt_zero q)) (λi hin hFi J1 hJ1=>?_))
 refine Ae 6 (Em 9 ((i:Int)<(l.length:Int)) (λhx2 hx2d=>?_) (λhx2 hx2d=>?_))
 ·
  refine Ae 16 (Gg i l.length (Ae 4 (Em 16 (x=(l).getD i 0) (λhx3 hx3d=>?_) (λhx3 hx3d=>?_))))
  ·
   exact Ae 13 (pE (Ae 1 (Kf 8 (decide ((0:Int)<=(i:Int))) true (decide_eq_true ω) (Ae 4 (Fz (.bool true) (congrArg AV.bool (Ee ⟨i,ω,ω⟩).symm))))))
  ·
   exact Ae 5 (Dm ((i:Int)+1) ((i+1:Nat):Int) (Ae 2 (Ja [0,1,7,8] (hJ1 ω (λq hq=>(Nat.lt_or_ge q i).elim (λg=>hFi q g) λg=>by have e:q=i:=(ω);subst e;omega)))))
 ·
  exact Ae 12 (pE (Ae 5 (Fz (.bool false) (congrArg AV.bool (As λ⟨q,hq,h9⟩=>hFi q ω h9).symm))))
theorem Aac (r:Rv):AF Tryz.prog 9 [Hd r] (.bool (bP (dF r))):=by
 refine Ch func9 rfl λB D0 hA0=>?_
 refine Ae 13 (Em 7 ((r.homes.length:Int)<=9) (λhx1 hx1d=>?_) (λhx1 hx1d=>?_))
 ·
  refine Ae 6 (Em 13 ((r.waits.length:Int)<=17) (λhx2 hx2d=>?_) (λhx2 hx2d=>?_))
  ·
   exact Ae 9 (Fz (.bool (decide ((r.rises.length:Int)<=17))) (congrArg AV.bool (if hz:r.rises.length<=17 then (decide_eq_true ω).trans (Ee ⟨ω,ω,hz⟩).symm else (decide_eq_false ω).trans (As (λg=>hz g.2.2)).symm)))
  ·
   exact Ae 9 (Fz (.bool false) (congrArg AV.bool (As λg=>by have g1:=g.1;have g2:=g.2.1;have g3:=g.2.2;omega).symm))
 ·
  exact Ae 15 (Fz (.bool false) (congrArg AV.bool (As λg=>by have g1:=g.1;have g2:=g.2.1;have g3:=g.2.2;omega).symm))
theorem gC (p:Pr) (r:Rv) (c:Cs) (w:Int) (hp:Kd p) (hr:Wr r) (hcs:Py c) (hg:Nz p r c) (h:¬vG p r c w):AF Tryz.prog 14 [Ev p,Hd r,Ho c,.int w] (.lit (.tuple #[.int .i64 0,.agg #[.int .i64 0,.int .i64 0,.int .i64 0],.int .i64 9])):=by
 refine Ch func14 rfl λB D0 hA0=>?_
 refine Ae 16 (Df (Za p r c hp hr hcs) (Ae 3 (Kf 15 (!bP (Nz p r c)) false (by rw[(Ee hg)];rfl) (Ae 9 (Df (Uq _ w hr.w) (Ae 3 (Yx 21 (bP (qR r.waits w)) (λhx1=>?_) (λhx1=>?_))))))))
 ·
  exact Ae 9 (Df (lH p r c w hp hg.1 hcs hg.2 (Gi hx1) h) (Ae 28 (Gt)))
 ·
  exact Ae 11 (Gt)
theorem gE (p:Pr) (r:Rv) (c:Cs) (w:Int) (hp:Kd p) (hr:Wr r) (hcs:Py c) (hg:Nz p r c) (h:vG p r c w):AF Tryz.prog 14 [Ev p,Hd r,Ho c,.int w] (.lit (.tuple #[.int .i64 (Kx p c (Ic p r c w):Int),dR (kI p c (Kx p c (Ic p r c w))),.int .i64 0])):=by
 refine Ch func14 rfl λB D0 hA0=>?_
 exact Ae 16 (Df (Za p r c hp hr hcs) (Ae 3 (Kf 15 (!bP (Nz p r c)) false (by rw[(Ee hg)];rfl) (Ae 9 (Df (Uq _ w hr.w) (Ae 3 (Kf 21 (!bP (qR r.waits w)) false (by rw[(Ee h.1)];rfl) (Ae 9 (Df (lI p r c w hp hg.1 hcs hg.2 h) (Ae 15 (Kf 35 (decide (((Kx p c (Ic p r c w)):Int)<0)) false (decide_eq_false ω) (Ae 6 (He [] [8,9,10] trivial (Ae 2 (Gt)))))))))))))))
def AbO:List Mv:=[⟨⟨0,0,1000⟩,0,1000,0⟩,⟨⟨1000,0,1000⟩,0,1000,0⟩]
def AbP:List Mv:=[⟨⟨0,0,1000⟩,0,0,0⟩,⟨⟨1000,0,1000⟩,0,0,0⟩]
def AbQ:List Mv:=[⟨⟨0,500,1000⟩,0,1000,0⟩,⟨⟨1000,500,1000⟩,0,1000,0⟩]
def Wm:Pr:=⟨[⟨#[97]⟩,⟨#[98]⟩],[⟨0,0,0⟩,⟨1000,0,0⟩],[⟨⟨#[117,112]⟩,2000,AbO⟩,⟨⟨#[115,116,97,121]⟩,2000,AbP⟩,⟨⟨#[110,111,114,116,104]⟩,2000,AbQ⟩]⟩
def Ym:Rv:=⟨[⟨0,-500,0⟩,⟨1000,-500,0⟩],1200,[0,1000],[0,300]⟩
theorem gP:AF Tryz.prog 32 [] (.tup [Ev Wm,Hd Ym]):=by
 refine Ch func32 rfl λB D0 hA0=>?_
 exact Ae 22 (Bx (.osl 4 6 2) (.new 4 (.vec 91 6 2 (λxi=>xN (AbO.getD xi Mv.none)))) (Ak 85 2 #[(0,(.tmp 10)),(1,(.tmp 12))] κ underlying85 6 sizeOf91 _ zeroValue91 κ β β β 4 [.int 0,.int 0,.int 1000,.int 0,.int 1000,.int 0,.int 1000,.int 0,.int 1000,.int 0,.int 1000,.int 0] κ (λxi=>xN (AbO.getD xi Mv.none)) κ) (Ae 9 (Bx (.osl 5 6 2) (.new 5 (.vec 91 6 2 (λxi=>xN (AbQ.getD xi Mv.none)))) (Ak 85 2 #[(0,(.tmp 15)),(1,(.tmp 17))] κ underlying85 6 sizeOf91 _ zeroValue91 κ β β β 5 [.int 0,.int 500,.int 1000,.int 0,.int 1000,.int 0,.int 1000,.int 500,.int 1000,.int 0,.int 1000,.int 0] κ (λxi=>xN (AbQ.getD xi Mv.none)) κ) (Ae 3 (Yw 4 [4] 91 6 2 (λxi=>xN (AbO.getD xi Mv.none)) (Fp λ_ _=>rfl) (Yw 5 [5] 91 6 2 (λxi=>xN (AbQ.getD xi Mv.none)) (Fp λ_ _=>rfl) (Ae 2 (Bx (.osl 6 1 2) (.new 6 (.vec 9 1 2 (λxi=> .lit (.string (Wm.names.getD xi ByteArray.empty))))) (Ak 28 2 #[(0,(.const (.string ⟨#[97]⟩))),(1,(.const (.string ⟨#[98]⟩)))] κ underlying28 1 sizeOf9 _ zeroValue9 κ β β β 6 [.lit (.string ⟨#[97]⟩),.lit (.string ⟨#[98]⟩)] κ (λxi=> .lit (.string (Wm.names.getD xi ByteArray.empty))) κ) (Ae 2 (Bx (.osl 7 3 2) (.new 7 (.vec 36 3 2 (λxi=>Gh (Wm.homes.getD xi V3.zero)))) (Ak 22 2 #[(0,(.tmp 20)),(1,(.tmp 21))] κ underlying22 3 sizeOf36 _ zeroValue36 κ β β β 7 [.int 0,.int 0,.int 0,.int 1000,.int 0,.int 0] κ (λxi=>Gh (Wm.homes.getD xi V3.zero)) κ) (Ae 6 (Bx (.osl 8 6 2) (.new 8 (.vec 91 6 2 (λxi=>xN (AbP.getD xi Mv.none)))) (Ak 85 2 #[(0,(.tmp 26)),(1,(.tmp 28))] κ underlying85 6 sizeOf91 _ zeroValue91 κ β β β 8 [.int 0,.int 0,.int 1000,.int 0,.int 0,.int 0,.int 1000,.int 0,.int 1000,.int 0,.int 0,.int 0] κ (λxi=>xN (AbP.getD xi Mv.none)) κ) (Yw 8 [29] 91 6 2 (λxi=>xN (AbP.getD xi Mv.none)) (Fp λ_ _=>rfl) (Ae 3 (Bx (.osl 9 3 3) (.new 9 (.vec 87 3 3 (λxi=>Ac8 (Wm.acts.getD xi Ac.none)))) (Ak 29 3 #[(0,(.tmp 24)),(1,(.tmp 30)),(2,(.tmp 32))] κ underlying29 3 sizeOf87 _ zeroValue87 κ β β β 9 [.lit (.string ⟨#[117,112]⟩),.int 2000,.sl 6 2 (λxi=>xN (AbO.getD xi Mv.none)),.lit (.string ⟨#[115,116,97,121]⟩),.int 2000,.sl 6 2 (λxi=>xN (AbP.getD xi Mv.none)),.lit (.string ⟨#[110,111,114,116,104]⟩),.int 2000,.sl 6 2 (λxi=>xN (AbQ.getD xi Mv.none))] κ (λxi=>Ac8 (Wm.acts.getD xi Ac.none)) κ) (Ae 5 (sD 6 10 0 9 1 2 (λxi=> .lit (.string (Wm.names.getD xi ByteArray.empty))) (Fp λ_ _=>rfl) (sD 7 10 1 36 3 2 (λxi=>Gh (Wm.homes.getD xi V3.zero)) (Fp λ_ _=>rfl) (sD 9 10 2 87 3 3 (λxi=>Ac8 (Wm.acts.getD xi Ac.none)) (Fp λ_ _=>rfl) (Ae 5 (Bx (.osl 11 3 2) (.new 11 (.vec 36 3 2 (λxi=>Gh (Ym.homes.getD xi V3.zero)))) (Ak 22 2 #[(0,(.tmp 36)),(1,(.tmp 37))] κ underlying22 3 sizeOf36 _ zeroValue36 κ β β β 11 [.int 0,.int (-500),.int 0,.int 1000,.int (-500),.int 0] κ (λxi=>Gh (Ym.homes.getD xi V3.zero)) κ) (Bx (.osl 12 1 2) (.new 12 (.vec 3 1 2 (λxi=> .int (Ym.waits.getD xi 0)))) (Ak 23 2 #[(0,(.const (.int .i64 0))),(1,(.const (.int .i64 1000)))] κ underlying23 1 sizeOf3 _ zeroValue3 κ β β β 12 [.int 0,.int 1000] κ (λxi=> .int (Ym.waits.getD xi 0)) κ) (Bx (.osl 13 1 2) (.new 13 (.vec 3 1 2 (λxi=> .int (Ym.rises.getD xi 0)))) (Ak 23 2 #[(0,(.const (.int .i64 0))),(1,(.const (.int .i64 300)))] κ underlying23 1 sizeOf3 _ zeroValue3 κ β β β 13 [.int 0,.int 300] κ (λxi=> .int (Ym.rises.getD xi 0)) κ) (Ae 5 (Acb 11 1 0 36 3 2 (λxi=>Gh (Ym.homes.getD xi V3.zero)) (Fp λ_ _=>rfl) (Acb 12 1 2 3 1 2 (λxi=> .int (Ym.waits.getD xi 0)) (Fp λ_ _=>rfl) (Acb 13 1 3 3 1 2 (λxi=> .int (Ym.rises.getD xi 0)) (Fp λ_ _=>rfl) (Ae 1 (Gt)))))))))))))))))))))))))))))
theorem kF:Kd Wm:=⟨δ,δ,δ,δ,δ⟩
theorem kG:Wr Ym:=⟨δ,δ,δ,⟨δ,δ⟩⟩
theorem yX:Fg Wm=true:=by kernel_rfl
theorem AdX {a b m:Int} (h:0<=a/\a<b/\b<=m):Ok [a,b] m:=⟨by simp,by simp,λi hi=>by
 have:i<2:=hi
 match i,this with
 |0,_=>exact⟨h.1,by show a<=m;omega,λh0=>absurd h0 (Nat.lt_irrefl 0)⟩
 |1,_=>exact⟨by show 0<=b;omega,h.2.2,λ_=>h.2.1⟩⟩
theorem AeM:Mw Ym:=⟨⟨δ,δ,δ,δ,δ⟩,λi hi=>by
 have:i<2:=hi
 match i,this with
 |0,_=>exact⟨rfl,λj hj=>absurd hj (Nat.not_lt_zero j)⟩
 |1,_=>exact⟨rfl,λj hj=>by
  obtain rfl:j=0:=by omega
  decide⟩,AdX δ,AdX δ⟩
theorem AeK (k:Int) (h:k=0\/k=2):Fv Wm ⟨0,k⟩:=⟨yX,by show (0:Int)<=0;decide,by show (0:Int)<2;decide,by show (0:Int)<=k;omega,by show k<(3:Int);omega⟩
theorem kE (k:Int) (h:k=0\/k=2):Nz Wm Ym ⟨0,k⟩:=⟨AeK k h,AeM⟩
theorem AdH (k:Int) (h:k=0\/k=2):Py ⟨0,k⟩:=by rcases h with rfl|rfl<;>exact⟨Qd,⟨δ,δ⟩⟩
def sxL:List Rl:=[⟨0,0,0⟩,⟨0,0,300⟩,⟨1,0,0⟩,⟨1,0,300⟩,⟨0,1000,0⟩,⟨0,1000,300⟩,⟨1,1000,0⟩,⟨1,1000,300⟩]
theorem AbN:Kq Wm Ym ⟨0,0⟩=sxL:=by kernel_rfl
def rW:List Sg:=relP Wm Ym ⟨0,0⟩ Rl.none
theorem Afy:rW.length=5:=by kernel_rfl
theorem Adq {l:List Sg} {n:Nat} (h:l.length=n):Ai l= .sl 6 n λxi=>Cw (l.getD xi Sg.none):=by subst h;rfl
theorem AdY (w:Int) (i:Nat) (hw:qR Ym.waits w) (h:Kx Wm ⟨0,0⟩ (Ic Wm Ym ⟨0,0⟩ w)=i) (hi:i<3):AF Tryz.prog 14 [Ev Wm,Hd Ym,Ho ⟨0,0⟩,.int w] (.lit (.tuple #[.int .i64 (i:Int),dR (kI Wm ⟨0,0⟩ i),.int .i64 0])):=by
 subst h
 exact gE Wm Ym ⟨0,0⟩ w kF kG (AdH 0 (.inl rfl)) (kE 0 (.inl rfl)) ⟨hw,hi⟩
theorem AeL:AF Tryz.prog 14 [Ev Wm,Hd Ym,Ho ⟨0,2⟩,.int 0] (.lit (.tuple #[.int .i64 0,.agg #[.int .i64 0,.int .i64 0,.int .i64 0],.int .i64 9])):=
 gC Wm Ym ⟨0,2⟩ 0 kF kG (AdH 2 (.inr rfl)) (kE 2 (.inr rfl)) λg=>absurd g.2 δ
theorem Afz:AF Tryz.prog 18 [Ev Wm,Hd Ym,Ho ⟨0,0⟩] (.tup [.sl 3 8 λxi=>Bc (sxL.getD xi Rl.none),.int 0]):=by
 have h:=Qy Wm Ym ⟨0,0⟩ kF kG (AdH 0 (.inl rfl)) (kE 0 (.inl rfl))
 rwa [AbN] at h
theorem Af0:AF Tryz.prog 21 [Ev Wm,Hd Ym,Ho ⟨0,0⟩,Bc Rl.none] (.tup [.sl 6 5 λxi=>Cw (rW.getD xi Sg.none),.int 0]):=by
 have h:=pT Wm Ym ⟨0,0⟩ Rl.none kF kG (AdH 0 (.inl rfl)) (kE 0 (.inl rfl)) δ (by rw[AbN];exact List.mem_cons_self)
 rwa [show relP Wm Ym ⟨0,0⟩ Rl.none=rW from rfl,Adq Afy] at h
theorem Mt:AF Tryz.prog 10 [] (.bool true):=by
 refine Ch func10 rfl λB D0 hA0=>?_
 exact Ae 7 (Df gP (Ae 14 (Df (AdY 0 1 ⟨0,δ,rfl⟩ δ δ) (Ae 15 (Df (AdY 1000 2 ⟨1,δ,rfl⟩ δ δ) (Ae 15 (Df AeL (Ae 15 (Df Afz (Ae 15 (Bx (.bool false) .none (Jh (Sz 36 36 (.tmp 56) (.tmp 57) κ _ _ κ κ κ (decide ((0:Int)=0/\(0:Int)=0/\(1000:Int)=1000)) (iL _ _ _ _ _ _)) (show (!(decide ((0:Int)=0/\(0:Int)=0/\(1000:Int)=1000)):Bool)=false from by decide)) (Ae 12 (Bx (.bool false) .none (Jh (Sz 36 36 (.tmp 69) (.tmp 70) κ _ _ κ κ κ (decide ((0:Int)=0/\(500:Int)=500/\(1000:Int)=1000)) (iL _ _ _ _ _ _)) (show (!(decide ((0:Int)=0/\(500:Int)=500/\(1000:Int)=1000)):Bool)=false from by decide)) (Ae 20 (Gg 0 8 (Ae 2 (Bx (.bool false) .none (Jh (Sz 52 52 (.tmp 93) (.tmp 94) κ _ _ κ κ κ (decide ((0:Int)=0/\(0:Int)=0/\(0:Int)=0)) (mG _ _ _ _ _ _)) (show (!(decide ((0:Int)=0/\(0:Int)=0/\(0:Int)=0)):Bool)=false from by decide)) (Ae 3 (Gg 1 8 (Ae 2 (Bx (.bool false) .none (Jh (Sz 52 52 (.tmp 100) (.tmp 101) κ _ _ κ κ κ (decide ((0:Int)=0/\(0:Int)=0/\(300:Int)=300)) (mG _ _ _ _ _ _)) (show (!(decide ((0:Int)=0/\(0:Int)=0/\(300:Int)=300)):Bool)=false from by decide)) (Ae 3 (Gg 2 8 (Ae 2 (Bx (.bool false) .none (Jh (Sz 52 52 (.tmp 107) (.tmp 108) κ _ _ κ κ κ (decide ((1:Int)=1/\(0:Int)=0/\(0:Int)=0)) (mG _ _ _ _ _ _)) (show (!(decide ((1:Int)=1/\(0:Int)=0/\(0:Int)=0)):Bool)=false from by decide)) (Ae 7 (He [(4,Cy (.sl 3 8 (λxi=>Bc (sxL.getD xi Rl.none))) 0,.none),(6,_,.none)] [14,15] ⟨Hs 0 8,Eg Af0,trivial⟩ (Ae 13 (Gg 0 5 (Ae 12 (Bx (.osl 5 1 5) (.new 5 (.vec 3 1 5 (λxi=>[AV.int 2000,AV.int 3200,AV.int 4000,AV.int 5000,AV.int 6000].getD xi .top))) (Ak 23 5 #[(0,(.const (.int .i64 2000))),(1,(.const (.int .i64 3200))),(2,(.const (.int .i64 4000))),(3,(.const (.int .i64 5000))),(4,(.const (.int .i64 6000)))] κ underlying23 1 sizeOf3 _ zeroValue3 κ β β β 5 [.int 2000,.int 3200,.int 4000,.int 5000,.int 6000] κ (λxi=>[AV.int 2000,AV.int 3200,AV.int 4000,AV.int 5000,AV.int 6000].getD xi .top) κ) (Ae 5 (zT 5 (Ae 14 (Gg 0 5 (Bx (.int 2000) (.read 5) (Co 3 (.tmp 140) κ isAgg3 5 0 0 1 κ 3 5 (λxi=>[AV.int 2000,AV.int 3200,AV.int 4000,AV.int 5000,AV.int 6000].getD xi .top) κ ω δ) (Ae 8 (Gg 0 5 (Ae 11 (Nn (.int .i64 1) (.int .i64 1) (Ae 17 (Gg 1 5 (Bx (.int 3200) (.read 5) (Co 3 (.tmp 140) κ isAgg3 5 1 0 1 κ 3 5 (λxi=>[AV.int 2000,AV.int 3200,AV.int 4000,AV.int 5000,AV.int 6000].getD xi .top) κ ω δ) (Ae 8 (Gg 1 5 (Ae 11 (Nn (.int .i64 2) (.int .i64 2) (Ae 17 (Gg 2 5 (Bx (.int 4000) (.read 5) (Co 3 (.tmp 140) κ isAgg3 5 2 0 1 κ 3 5 (λxi=>[AV.int 2000,AV.int 3200,AV.int 4000,AV.int 5000,AV.int 6000].getD xi .top) κ ω δ) (Ae 8 (Gg 2 5 (Ae 11 (Nn (.int .i64 3) (.int .i64 3) (Ae 17 (Gg 3 5 (Bx (.int 5000) (.read 5) (Co 3 (.tmp 140) κ isAgg3 5 3 0 1 κ 3 5 (λxi=>[AV.int 2000,AV.int 3200,AV.int 4000,AV.int 5000,AV.int 6000].getD xi .top) κ ω δ) (Ae 8 (Gg 3 5 (Ae 11 (Nn (.int .i64 4) (.int .i64 4) (Ae 17 (Gg 4 5 (Bx (.int 6000) (.read 5) (Co 3 (.tmp 140) κ isAgg3 5 4 0 1 κ 3 5 (λxi=>[AV.int 2000,AV.int 3200,AV.int 4000,AV.int 5000,AV.int 6000].getD xi .top) κ ω δ) (Ae 8 (Gg 4 5 (Ae 11 (Nn (.int .i64 5) (.int .i64 5) (Ae 21 (Gt))))))))))))))))))))))))))))))))))))))))))))))))))))))))))))))))))))))
theorem Qq {p:Pr} {r:Rv} {c:Cs} {k:Nat} (hp:Kd p) (hc:Fv p c) (hr:Mw r) (hk:k<r.waits.length) (h:Xk p r c k=true):AF Tryz.prog 17 [Ev p,Hd r,Ho c,.int (r.waits.getD k 0)] (.lit (.tuple #[.int .i64 (Kx p c (Ic p r c (r.waits.getD k 0)):Int),dR (Aj p r c k)])):=by
 have hw:=hr.2.2.1.2.2 k hk
 have:=Xs p r c (r.waits.getD k 0) hp hc hr ⟨hw.1,hw.2.1⟩
 unfold rL at this
 rwa [if_pos (of_decide_eq_true h)] at this
theorem Ra {p:Pr} {r:Rv} {c:Cs} {k:Nat} (hp:Kd p) (hc:Fv p c) (hr:Mw r) (hk:k<r.waits.length) (h:Xk p r c k=false):AF Tryz.prog 17 [Ev p,Hd r,Ho c,.int (r.waits.getD k 0)] (.lit (.tuple #[.int .i64 (-1),.agg #[.int .i64 0,.int .i64 0,.int .i64 0]])):=by
 have hw:=hr.2.2.1.2.2 k hk
 have:=Xs p r c (r.waits.getD k 0) hp hc hr ⟨hw.1,hw.2.1⟩
 unfold rL at this
 rwa [if_neg (of_decide_eq_false h)] at this
def uQ (l:List Rl):AV:=if l.length=0 then .lit (.slice none 0 0) else Qu l
theorem VR.relO {E:Bo} {v:Value} {l:List Rl} (h:VR E (uQ l) v):VR E (Qu l) v:=by
 unfold uQ at h
 split at h
 rename_i h0
 have:=h.lit_inv
 subst this
 rw[List.eq_nil_of_length_eq_zero h0]
 exact .sl0 _ _ _ _ _
 exact h
theorem aB (v:V3) (h:De 1048576 [v.x,v.y,v.z]=true):AF Tryz.prog 79 [Gh v] (.bool true):=by
 have hb:=tX h
 have:=vQ v
 rwa [show De 16777216 [v.x,v.y,v.z]=true by unfold De;simp;omega] at this
theorem gO (x y:Int) (h: -9223372036854775808<=x-y/\x-y<=9223372036854775807):AF Tryz.prog 81 [.int x,.int y] (.int (x-y)):=by
 refine Ch func81 rfl λB D0 hA0=>?_
 exact Ae 9 (Dm (x-y) (x-y) (Ae 4 (Gt)))
theorem gL (u v:V3) (hu:De 1048576 [u.x,u.y,u.z]=true) (hv:De 1048576 [v.x,v.y,v.z]=true):AF Tryz.prog 46 [Gh u,Gh v] (.lit (.tuple #[.int .i64 ((u.x-v.x)*(u.x-v.x)+(u.y-v.y)*(u.y-v.y)+(u.z-v.z)*(u.z-v.z)),.int .i64 0])):=by
 have hb:=tX hu
 have hw:=tX hv
 have hqx:=fR (d:=u.x-v.x) ω
 have hqy:=fR (d:=u.y-v.y) ω
 have hqz:=fR (d:=u.z-v.z) ω
 refine Ch func46 rfl λB D0 hA0=>?_
 refine Ae 12 (Df (aB u hu) (Ae 3 (Df (aB v hv) (Ae 11 (Wi 2 func80 (λ_ hD1=>?_))))))
 refine Ae 8 (He [(5,_,.none),(11,_,.none),(17,_,.none)] [6] ⟨qE (gO u.x v.x ω),qE (gO u.y v.y ω),qE (gO u.z v.z ω),trivial⟩ (Ae 2 (pE (Ae 8 (Wi 6 func82 (λ_ hD2=>?_))))))
 exact Ae 13 (Dm ((u.x-v.x)*(u.x-v.x)) ((u.x-v.x)*(u.x-v.x)) (Ae 4 (Dm ((u.y-v.y)*(u.y-v.y)) ((u.y-v.y)*(u.y-v.y)) (Dm ((u.x-v.x)*(u.x-v.x)+(u.y-v.y)*(u.y-v.y)) ((u.x-v.x)*(u.x-v.x)+(u.y-v.y)*(u.y-v.y)) (Ae 4 (Dm ((u.z-v.z)*(u.z-v.z)) ((u.z-v.z)*(u.z-v.z)) (Dm ((u.x-v.x)*(u.x-v.x)+(u.y-v.y)*(u.y-v.y)+(u.z-v.z)*(u.z-v.z)) ((u.x-v.x)*(u.x-v.x)+(u.y-v.y)*(u.y-v.y)+(u.z-v.z)*(u.z-v.z)) (Ae 4 (pE (Ae 5 (Gt)))))))))))
theorem Ep (v:V3) (z:Int) (h: -9223372036854775808<=v.z+z/\v.z+z<=9223372036854775807):AF Tryz.prog 47 [Gh v,.int z] (Gh ⟨v.x,v.y,v.z+z⟩):=by
 refine Ch func47 rfl λB D0 hA0=>?_
 exact Ae 11 (Dm (v.z+z) (v.z+z) (Ae 11 (Gt)))
theorem Zw (p:Pr) (r:Rv) (c:Cs) (hp:Kd p) (hr:Wr r) (hg:Nz p r c):AF Tryz.prog 20 [Ev p,Hd r,Ho c] (uQ (Kq p r c)):=by
 have hi1:=hr.n
 have hn1:=hg.2.1.1
 have hn2:=hg.2.1.2.1
 have hw1:=hg.2.2.2.1.1
 have hw2:=hg.2.2.2.1.2.1
 have hs1:=hg.2.2.2.2.1
 have hs2:=hg.2.2.2.2.2.1
 refine Ch func20 rfl λB D0 hA0=>?_
 refine Ae 14 (Yv 0 (Yv 1 (Yv 2 (Ae 6 (Wn [3,4,5,7,8] (λm s=>∃k n,k<=r.waits.length/\m=r.waits.length-k/\(n=(Gx p r c k).length/\n<=k*128)/\(((n=0)/\s=⟨[(3,.elt 3 (λxi=>[Dp p.names,Fh p.homes,Ek p.acts].getD (0+xi) .top)),(4,Kt r),(5,.elt 2 (λxi=>[.int c.craft,.int c.act].getD (0+xi) .top)),(7,.lit (.slice none 0 0)),(8,.int (k:Int))],[],3,132⟩)\/((0<n)/\s=⟨[(3,.elt 3 (λxi=>[Dp p.names,Fh p.homes,Ek p.acts].getD (0+xi) .top)),(4,Kt r),(5,.elt 2 (λxi=>[.int c.craft,.int c.act].getD (0+xi) .top)),(7,.osl 50 3 n),(8,.int (k:Int))],[(50,.vec 52 3 n (λxi=>Bc ((Gx p r c k).getD xi Rl.none)))],51,132⟩))) r.waits.length ⟨0,0,Nat.zero_le _,rfl,⟨rfl,Nat.zero_le _⟩,(.inl ⟨rfl,κ⟩)⟩ ?_)))))
 rintro _ _ ⟨k,n,hkn,rfl,hFk,(⟨hk0,rfl⟩|⟨hk0,rfl⟩)⟩ J1 hJ1
 ·
  refine Ae 10 (Em 23 ((k:Int)<(r.waits.length:Int)) (λhx1 hx1d=>?_) (λhx1 hx1d=>?_))
  ·
   refine Ae 6 ?_
   refine Ea (Xk p r c k) (λhx2=>?_) (λhx2=>?_)
   ·
    refine He [(6,Cy (Bq r.waits) k,.none),(8,_,.none)] [3,4,5,7,8,9,10] ⟨Hs k r.waits.length,Eg (Qq hp hg.1 hg.2 ω hx2),trivial⟩ (Ae 8 (Kf 39 (decide ((((Kx p c (Ic p r c (r.waits.getD k 0))):Nat):Int)<0)) false (decide_eq_false ω) (Ae 3 ?_)))
    have hV:=Zm hg.1 hx2
    refine Yv 3 (Ae 5 (Bx (.osl 4 1 r.homes.length) (.new 4 (.vec 4 1 r.homes.length (λ_=> .bool false))) (Lb 97 (.tmp 42) (.tmp 42) κ underlying97 1 1 (.bool false) κ κ δ (r.homes.length:Int) r.homes.length ω κ κ ω ω ω 4 (.bool false) κ) (Ae 3 (Mr 4 4 1 r.homes.length (λ_=> .bool false) (λxi=>AV.bool (Di r (Aj p r c k) 0 xi)) (λx9 hx9=>congrArg AV.bool (AaI r (Aj p r c k) x9).symm) (Ae 6 (Wn [3,4,5,7,8,10,11,12] (λm s=>∃y n2,y<=r.homes.length/\m=r.homes.length-y/\(n2=(It p r c k y).length/\n2<=k*128+y*16)/\(((n2=0)/\s=⟨[(3,.elt 3 (λxi=>[Dp p.names,Fh p.homes,Ek p.acts].getD (0+xi) .top)),(4,Kt r),(5,.elt 2 (λxi=>[.int c.craft,.int c.act].getD (0+xi) .top)),(7,.lit (.slice none 0 0)),(8,.int (k:Int)),(10,My (Aj p r c k)),(11,.osl 4 1 r.homes.length),(12,.int (y:Int))],[(4,.vec 4 1 r.homes.length (λxi=>AV.bool (Di r (Aj p r c k) y xi)))],5,132⟩)\/((0<n2)/\s=⟨[(3,.elt 3 (λxi=>[Dp p.names,Fh p.homes,Ek p.acts].getD (0+xi) .top)),(4,Kt r),(5,.elt 2 (λxi=>[.int c.craft,.int c.act].getD (0+xi) .top)),(7,.osl 50 3 n2),(8,.int (k:Int)),(10,My (Aj p r c k)),(11,.osl 4 1 r.homes.length),(12,.int (y:Int))],[(4,.vec 4 1 r.homes.length (λxi=>AV.bool (Di r (Aj p r c k) y xi))),(50,.vec 52 3 n2 (λxi=>Bc ((It p r c k y).getD xi Rl.none)))],51,132⟩))) r.homes.length ⟨0,n,Nat.zero_le _,rfl,⟨by rw[Xl];omega,ω⟩,(.inl ⟨hk0,κ⟩)⟩ ?_))))))
    rintro _ _ ⟨y,n2,hyn,rfl,hFy,(⟨hy0,rfl⟩|⟨hy0,rfl⟩)⟩ J2 hJ2
    ·
     refine Ae 10 (Em 48 ((y:Int)<(r.homes.length:Int)) (λhx3 hx3d=>?_) (λhx3 hx3d=>?_))
     ·
      refine Ae 18 (Wn [3,4,5,7,8,10,11,12,13,14,15] (λm s=>∃k1 b f,m=r.homes.length-k1/\(Tj (Di r (Aj p r c k) y) (Mk r (Aj p r c k)) k1=(b,f)/\k1<=r.homes.length)/\s=⟨[(3,.elt 3 (λxi=>[Dp p.names,Fh p.homes,Ek p.acts].getD (0+xi) .top)),(4,Kt r),(5,.elt 2 (λxi=>[.int c.craft,.int c.act].getD (0+xi) .top)),(7,.lit (.slice none 0 0)),(8,.int (k:Int)),(10,My (Aj p r c k)),(11,.osl 4 1 r.homes.length),(12,.int (y:Int)),(13,.int b),(14,.int f),(15,.int ((k1:Nat):Int))],[(4,.vec 4 1 r.homes.length (λxi=>AV.bool (Di r (Aj p r c k) y xi)))],5,132⟩) (r.homes.length-0) ⟨0,(-1),0,rfl,⟨rfl,Nat.zero_le _⟩,κ⟩ ?_)
      rintro _ _ ⟨k1,b,f,rfl,hF,rfl⟩ J3 hJ3
      refine Ae 10 (Em 55 (((k1:Nat):Int)<(r.homes.length:Int)) (λhx4 hx4d=>?_) (λhx4 hx4d=>?_))
      ·
       refine Ae 6 (He [(3,Cy (Ib r.homes) k1,.none),(6,_,.none)] [3,4,5,7,8,10,11,12,13,14,15,16] ⟨Hs k1 r.homes.length,Eg (gL (r.homes.getD k1 V3.zero) (Aj p r c k) (hg.2.2.1 k1 ω).1 hV),trivial⟩ (Ae 5 (Gg k1 r.homes.length (Bx (.bool (Di r (Aj p r c k) y k1)) (.read 4) (Co 4 (.tmp 70) κ isAgg4 4 k1 0 1 κ 4 r.homes.length (λxi=>AV.bool (Di r (Aj p r c k) y xi)) κ ω δ) (Ae 2 (Yx 73 (Di r (Aj p r c k) y k1) (λhx5=>?_) (λhx5=>?_)))))))
       ·
        exact Ae 16 (Dm (((k1:Nat):Int)+1) ((k1+1:Nat):Int) (Ae 2 (Ja [3,4,5,7,8,10,11,12,13,14,15] (hJ3 _ _ (by omega:r.homes.length-(k1+1)<r.homes.length-k1) ⟨k1+1,b,f,rfl,⟨Ph hF.1 (.inl hx5),ω⟩,rfl⟩))))
       ·
        refine Ae 3 (Em 76 (b<0) (λhx6 hx6d=>?_) (λhx6 hx6d=>?_))
        ·
         exact Ae 18 (Dm (((k1:Nat):Int)+1) ((k1+1:Nat):Int) (Ae 2 (Ja [3,4,5,7,8,10,11,12,13,14,15] (hJ3 _ _ (by omega:r.homes.length-(k1+1)<r.homes.length-k1) ⟨k1+1,((k1:Nat):Int),Mk r (Aj p r c k) k1,rfl,⟨Pj hF.1 hx5 ω,ω⟩,rfl⟩))))
        ·
         refine Ae 7 (Em 81 (Mk r (Aj p r c k) k1<f) (λhx7 hx7d=>?_) (λhx7 hx7d=>?_))
         ·
          exact Ae 11 (Dm (((k1:Nat):Int)+1) ((k1+1:Nat):Int) (Ae 2 (Ja [3,4,5,7,8,10,11,12,13,14,15] (hJ3 _ _ (by omega:r.homes.length-(k1+1)<r.homes.length-k1) ⟨k1+1,((k1:Nat):Int),Mk r (Aj p r c k) k1,rfl,⟨Pj hF.1 hx5 ω,ω⟩,rfl⟩))))
         ·
          exact Ae 6 (Dm (((k1:Nat):Int)+1) ((k1+1:Nat):Int) (Ae 2 (Ja [3,4,5,7,8,10,11,12,13,14,15] (hJ3 _ _ (by omega:r.homes.length-(k1+1)<r.homes.length-k1) ⟨k1+1,b,f,rfl,⟨Ph hF.1 (.inr ω),ω⟩,rfl⟩))))
      ·
       refine Ae 6 ?_
       have hke:k1=r.homes.length:=by omega
       subst hke
       have hb:=congrArg Prod.fst ((kC r (Aj p r c k) (y:=y) ω).symm.trans hF.1)
       have hb:(((Av r (Aj p r c k)).getD y 0:Nat):Int)=b:=hb
       subst hb
       have hom:=Lk r (Aj p r c k) (x:=y) ω
       refine Ae 4 (Gg ((Av r (Aj p r c k)).getD y 0) r.homes.length (Bx (.lit Go.undef) (.set 4 (.vec 4 1 r.homes.length (λxi=>if xi=(Av r (Aj p r c k)).getD y 0 then .bool true else (λxi=>AV.bool (Di r (Aj p r c k) y xi)) xi))) (Ed 4 (.tmp 86) (.const (.bool true)) κ 1 sizeOf4 4 ((Av r (Aj p r c k)).getD y 0) κ 4 r.homes.length (λxi=>AV.bool (Di r (Aj p r c k) y xi)) κ ω κ κ κ (.bool true) κ) (Ae 2 (Mr 4 4 1 r.homes.length (λxi=>if xi=(Av r (Aj p r c k)).getD y 0 then .bool true else (λxi=>AV.bool (Di r (Aj p r c k) y xi)) xi) (λxi=>AV.bool (Di r (Aj p r c k) (y+1) xi)) (λx9 hx9=>by rw[Wy];split<;>rfl) (Ae 6 (Wn [3,4,5,7,8,10,11,12,13,18] (λm s=>∃u n3,u<=r.rises.length/\m=r.rises.length-u/\(n3=(Cl p r c k y u).length/\n3<=k*128+y*16+u)/\(((n3=0)/\s=⟨[(3,.elt 3 (λxi=>[Dp p.names,Fh p.homes,Ek p.acts].getD (0+xi) .top)),(4,Kt r),(5,.elt 2 (λxi=>[.int c.craft,.int c.act].getD (0+xi) .top)),(7,.lit (.slice none 0 0)),(8,.int (k:Int)),(10,My (Aj p r c k)),(11,.osl 4 1 r.homes.length),(12,.int (y:Int)),(13,.int (((Av r (Aj p r c k)).getD y 0:Nat):Int)),(18,.int (u:Int))],[(4,.vec 4 1 r.homes.length (λxi=>AV.bool (Di r (Aj p r c k) (y+1) xi)))],5,132⟩)\/((0<n3)/\s=⟨[(3,.elt 3 (λxi=>[Dp p.names,Fh p.homes,Ek p.acts].getD (0+xi) .top)),(4,Kt r),(5,.elt 2 (λxi=>[.int c.craft,.int c.act].getD (0+xi) .top)),(7,.osl 50 3 n3),(8,.int (k:Int)),(10,My (Aj p r c k)),(11,.osl 4 1 r.homes.length),(12,.int (y:Int)),(13,.int (((Av r (Aj p r c k)).getD y 0:Nat):Int)),(18,.int (u:Int))],[(4,.vec 4 1 r.homes.length (λxi=>AV.bool (Di r (Aj p r c k) (y+1) xi))),(50,.vec 52 3 n3 (λxi=>Bc ((Cl p r c k y u).getD xi Rl.none)))],51,132⟩))) r.rises.length ⟨0,n2,Nat.zero_le _,rfl,⟨by rw[Oq];omega,ω⟩,(.inl ⟨hy0,κ⟩)⟩ ?_))))))
       rintro _ _ ⟨u,n3,hun,rfl,hFu,(⟨hu0,rfl⟩|⟨hu0,rfl⟩)⟩ J4 hJ4
       ·
        refine Ae 10 (Em 91 ((u:Int)<(r.rises.length:Int)) (λhx8 hx8d=>?_) (λhx8 hx8d=>?_))
        ·
         refine Ae 5 ?_
         have hris:=hg.2.2.2.2.2.2 u ω
         have hm3:=tX (hg.2.2.1 _ hom).1
         have hV3:=tX hV
         refine Ae 1 ?_
         refine Ea (Hk (r.homes.getD ((Av r (Aj p r c k)).getD y 0) V3.zero) (r.rises.getD u 0)) (λhx9=>?_) (λhx9=>?_)
         ·
          refine He [(3,Cy (Ib r.homes) ((Av r (Aj p r c k)).getD y 0),.none),(8,Cy (Bq r.rises) u,.none),(10,_,.none),(11,.bool true,.none),(17,Cy (Bq r.rises) u,.none),(19,_,.none),(20,_,.none)] [3,4,5,7,8,10,11,12,13,18,115] ⟨Hs ((Av r (Aj p r c k)).getD y 0) r.homes.length,Hs u r.rises.length,Eg (Ep (r.homes.getD ((Av r (Aj p r c k)).getD y 0) V3.zero) (r.rises.getD u 0) ω),xA hx9 (Eg (Fl ⟨(r.homes.getD ((Av r (Aj p r c k)).getD y 0) V3.zero).x,(r.homes.getD ((Av r (Aj p r c k)).getD y 0) V3.zero).y,(r.homes.getD ((Av r (Aj p r c k)).getD y 0) V3.zero).z+r.rises.getD u 0⟩)),Hs u r.rises.length,Eg (Ep (Aj p r c k) (r.rises.getD u 0) ω),Eg (Fl ⟨(Aj p r c k).x,(Aj p r c k).y,(Aj p r c k).z+r.rises.getD u 0⟩),trivial⟩ (Ae 1 (kK 115 (Hk (Aj p r c k) (r.rises.getD u 0)) (λhx10=>?_) (λhx10=>?_)))
          ·
           exact Ae 1 (He [(5,Cy (Bq r.waits) k,.none),(10,Cy (Bq r.rises) u,.none),(13,.osl 5 3 1,(.new 5 (.vec 52 3 1 (λ_=> .lit (.agg #[.int .i64 (((Av r (Aj p r c k)).getD y 0:Nat):Int),.int .i64 ((r.waits).getD k 0),.int .i64 ((r.rises).getD u 0)]))))),(14,.osl 6 3 1,(.newr 5 6 (.vec 52 3 1 (λxi=>Bc ((Cl p r c k y (u+1)).getD xi Rl.none)))))] [3,4,5,7,8,10,11,12,13,18] ⟨Hs k r.waits.length,Hs u r.rises.length,Bb (Ak 45 1 #[(0,(.tmp 128))] κ underlying45 3 sizeOf52 _ zeroValue52 κ β β β 5 [.int (((Av r (Aj p r c k)).getD y 0:Nat):Int),.int ((r.waits).getD k 0),.int ((r.rises).getD u 0)] κ (λ_=> .lit (.agg #[.int .i64 (((Av r (Aj p r c k)).getD y 0:Nat):Int),.int .i64 ((r.waits).getD k 0),.int .i64 ((r.rises).getD u 0)])) κ),Bb (Cj (.tmp 116) (.tmp 129) 45 κ underlying45 3 24 (.agg #[.int .i64 0,.int .i64 0,.int .i64 0]) κ κ δ 1 ω (λ_=> .lit (.agg #[.int .i64 (((Av r (Aj p r c k)).getD y 0:Nat):Int),.int .i64 ((r.waits).getD k 0),.int .i64 ((r.rises).getD u 0)])) (λxi=>Bc ((Cl p r c k y (u+1)).getD xi Rl.none)) 6 (λi hi=>by(obtain rfl:i=0:=(ω));show Bc _=Bc ⟨(((Av r (Aj p r c k)).getD y 0:Nat):Int),r.waits.getD k 0,r.rises.getD u 0⟩;rw[Dy hx9 hx10,List.eq_nil_of_length_eq_zero (by omega:(Cl p r c k y u).length=0)];rfl) (λi hi j hj=>match j,hj with|0,_=>rfl|1,_=>rfl|2,_=>rfl|_+3,h=>absurd h ω) (by unfold maxLen;omega) ω κ 5 52 κ κ),trivial⟩ (Ae 4 (Dm ((u:Int)+1) ((u+1:Nat):Int) (Ae 2 (Fu [3,4,5,7,8,10,11,12,13,18] [(4,4),(6,50)] 51 0 hA0 [(4,1,r.homes.length,(λxi=>AV.bool (Di r (Aj p r c k) (y+1) xi))),(52,3,1,(λ_=> .lit (.agg #[.int .i64 (((Av r (Aj p r c k)).getD y 0:Nat):Int),.int .i64 ((r.waits).getD k 0),.int .i64 ((r.rises).getD u 0)]))),(52,3,1,(λxi=>Bc ((Cl p r c k y (u+1)).getD xi Rl.none)))] ⟨(Fp λ_ _=>rfl),(Fp λ_ _=>rfl),(Fp λ_ _=>rfl),trivial⟩ (hJ4 _ _ (by omega:r.rises.length-(u+1)<r.rises.length-u) ⟨u+1,1,ω,rfl,⟨by rw[Dy hx9 hx10,List.length_append,List.length_singleton];omega,ω⟩,(.inr ⟨ω,rfl⟩)⟩))))))
          ·
           exact Ae 6 (Dm ((u:Int)+1) ((u+1:Nat):Int) (Ae 2 (Ja [3,4,5,7,8,10,11,12,13,18] (hJ4 _ _ (by omega:r.rises.length-(u+1)<r.rises.length-u) ⟨u+1,0,ω,rfl,⟨by rw[Cf (.inr hx10)];omega,ω⟩,(.inl ⟨ω,rfl⟩)⟩))))
         ·
          exact He [(3,Cy (Ib r.homes) ((Av r (Aj p r c k)).getD y 0),.none),(8,Cy (Bq r.rises) u,.none),(10,_,.none),(11,.bool false,.none)] [3,4,5,7,8,10,11,12,13,18,115] ⟨Hs ((Av r (Aj p r c k)).getD y 0) r.homes.length,Hs u r.rises.length,Eg (Ep (r.homes.getD ((Av r (Aj p r c k)).getD y 0) V3.zero) (r.rises.getD u 0) ω),xA hx9 (Eg (Fl ⟨(r.homes.getD ((Av r (Aj p r c k)).getD y 0) V3.zero).x,(r.homes.getD ((Av r (Aj p r c k)).getD y 0) V3.zero).y,(r.homes.getD ((Av r (Aj p r c k)).getD y 0) V3.zero).z+r.rises.getD u 0⟩)),trivial⟩ (Ae 7 (Dm ((u:Int)+1) ((u+1:Nat):Int) (Ae 2 (Ja [3,4,5,7,8,10,11,12,13,18] (hJ4 _ _ (by omega:r.rises.length-(u+1)<r.rises.length-u) ⟨u+1,0,ω,rfl,⟨by rw[Cf (.inl hx9)];omega,ω⟩,(.inl ⟨ω,rfl⟩)⟩)))))
        ·
         exact Ae 9 (Dm ((y:Int)+1) ((y+1:Nat):Int) (Ae 2 (Ja [3,4,5,7,8,10,11,12] (hJ2 _ _ (by omega:r.homes.length-(y+1)<r.homes.length-y) ⟨y+1,0,ω,rfl,⟨by rw[<-Kl,show r.rises.length=u by omega];omega,ω⟩,(.inl ⟨ω,rfl⟩)⟩))))
       ·
        refine Ae 10 (Em 91 ((u:Int)<(r.rises.length:Int)) (λhx11 hx11d=>?_) (λhx11 hx11d=>?_))
        ·
         refine Ae 5 ?_
         have hris:=hg.2.2.2.2.2.2 u ω
         have hm3:=tX (hg.2.2.1 _ hom).1
         have hV3:=tX hV
         refine Ae 1 ?_
         refine Ea (Hk (r.homes.getD ((Av r (Aj p r c k)).getD y 0) V3.zero) (r.rises.getD u 0)) (λhx12=>?_) (λhx12=>?_)
         ·
          refine He [(3,Cy (Ib r.homes) ((Av r (Aj p r c k)).getD y 0),.none),(8,Cy (Bq r.rises) u,.none),(10,_,.none),(11,.bool true,.none),(17,Cy (Bq r.rises) u,.none),(19,_,.none),(20,_,.none)] [3,4,5,7,8,10,11,12,13,18,115] ⟨Hs ((Av r (Aj p r c k)).getD y 0) r.homes.length,Hs u r.rises.length,Eg (Ep (r.homes.getD ((Av r (Aj p r c k)).getD y 0) V3.zero) (r.rises.getD u 0) ω),xA hx12 (Eg (Fl ⟨(r.homes.getD ((Av r (Aj p r c k)).getD y 0) V3.zero).x,(r.homes.getD ((Av r (Aj p r c k)).getD y 0) V3.zero).y,(r.homes.getD ((Av r (Aj p r c k)).getD y 0) V3.zero).z+r.rises.getD u 0⟩)),Hs u r.rises.length,Eg (Ep (Aj p r c k) (r.rises.getD u 0) ω),Eg (Fl ⟨(Aj p r c k).x,(Aj p r c k).y,(Aj p r c k).z+r.rises.getD u 0⟩),trivial⟩ (Ae 1 (kK 115 (Hk (Aj p r c k) (r.rises.getD u 0)) (λhx13=>?_) (λhx13=>?_)))
          ·
           exact Ae 1 (He [(5,Cy (Bq r.waits) k,.none),(10,Cy (Bq r.rises) u,.none),(13,.osl 51 3 1,(.new 51 (.vec 52 3 1 (λ_=> .lit (.agg #[.int .i64 (((Av r (Aj p r c k)).getD y 0:Nat):Int),.int .i64 ((r.waits).getD k 0),.int .i64 ((r.rises).getD u 0)]))))),(14,.osl 52 3 (n3+1),(.grow2 50 51 52 (.vec 52 3 (n3+1) (λxi=>Bc ((Cl p r c k y (u+1)).getD xi Rl.none)))))] [3,4,5,7,8,10,11,12,13,18] ⟨Hs k r.waits.length,Hs u r.rises.length,Bb (Ak 45 1 #[(0,(.tmp 128))] κ underlying45 3 sizeOf52 _ zeroValue52 κ β β β 51 [.int (((Av r (Aj p r c k)).getD y 0:Nat):Int),.int ((r.waits).getD k 0),.int ((r.rises).getD u 0)] κ (λ_=> .lit (.agg #[.int .i64 (((Av r (Aj p r c k)).getD y 0:Nat):Int),.int .i64 ((r.waits).getD k 0),.int .i64 ((r.rises).getD u 0)])) κ),Bb (Ck (.tmp 116) (.tmp 129) 45 κ underlying45 3 24 (.agg #[.int .i64 0,.int .i64 0,.int .i64 0]) κ κ δ n3 1 ω (λxi=>Bc ((Cl p r c k y u).getD xi Rl.none)) (λ_=> .lit (.agg #[.int .i64 (((Av r (Aj p r c k)).getD y 0:Nat):Int),.int .i64 ((r.waits).getD k 0),.int .i64 ((r.rises).getD u 0)])) (λxi=>Bc ((Cl p r c k y (u+1)).getD xi Rl.none)) 52 ω (by unfold maxLen;omega) (λi hi=>by show Bc _=Bc _;rw[Dy hx12 hx13,Jl,if_pos ω]) (λi hi=>by(obtain rfl:i=0:=(ω));show Bc _=Bc ⟨(((Av r (Aj p r c k)).getD y 0:Nat):Int),r.waits.getD k 0,r.rises.getD u 0⟩;rw[Dy hx12 hx13,Jl,if_neg ω,show n3+0-(Cl p r c k y u).length=0 by omega];rfl) (λi hi j hj=>match j,hj with|0,_=>rfl|1,_=>rfl|2,_=>rfl|_+3,h=>absurd h ω) 50 κ κ 51 52 κ κ),trivial⟩ (Ae 4 (Dm ((u:Int)+1) ((u+1:Nat):Int) (Ae 2 (Fu [3,4,5,7,8,10,11,12,13,18] [(4,4),(52,50)] 51 0 hA0 [(4,1,r.homes.length,(λxi=>AV.bool (Di r (Aj p r c k) (y+1) xi))),(52,3,1,(λ_=> .lit (.agg #[.int .i64 (((Av r (Aj p r c k)).getD y 0:Nat):Int),.int .i64 ((r.waits).getD k 0),.int .i64 ((r.rises).getD u 0)]))),(52,3,n3+1,(λxi=>Bc ((Cl p r c k y (u+1)).getD xi Rl.none)))] ⟨(Fp λ_ _=>rfl),(Fp λ_ _=>rfl),(Fp λ_ _=>rfl),trivial⟩ (hJ4 _ _ (by omega:r.rises.length-(u+1)<r.rises.length-u) ⟨u+1,n3+1,ω,rfl,⟨by rw[Dy hx12 hx13,List.length_append,List.length_singleton];omega,ω⟩,(.inr ⟨ω,rfl⟩)⟩))))))
          ·
           exact Ae 6 (Dm ((u:Int)+1) ((u+1:Nat):Int) (Ae 2 (Mr 50 52 3 n3 (λxi=>Bc ((Cl p r c k y u).getD xi Rl.none)) (λxi=>Bc ((Cl p r c k y (u+1)).getD xi Rl.none)) (λx9 hx9=>by rw[Cf (.inr hx13)]) (Ja [3,4,5,7,8,10,11,12,13,18] (hJ4 _ _ (by omega:r.rises.length-(u+1)<r.rises.length-u) ⟨u+1,n3,ω,rfl,⟨by rw[Cf (.inr hx13)];omega,ω⟩,(.inr ⟨ω,rfl⟩)⟩)))))
         ·
          exact He [(3,Cy (Ib r.homes) ((Av r (Aj p r c k)).getD y 0),.none),(8,Cy (Bq r.rises) u,.none),(10,_,.none),(11,.bool false,.none)] [3,4,5,7,8,10,11,12,13,18,115] ⟨Hs ((Av r (Aj p r c k)).getD y 0) r.homes.length,Hs u r.rises.length,Eg (Ep (r.homes.getD ((Av r (Aj p r c k)).getD y 0) V3.zero) (r.rises.getD u 0) ω),xA hx12 (Eg (Fl ⟨(r.homes.getD ((Av r (Aj p r c k)).getD y 0) V3.zero).x,(r.homes.getD ((Av r (Aj p r c k)).getD y 0) V3.zero).y,(r.homes.getD ((Av r (Aj p r c k)).getD y 0) V3.zero).z+r.rises.getD u 0⟩)),trivial⟩ (Ae 7 (Dm ((u:Int)+1) ((u+1:Nat):Int) (Ae 2 (Mr 50 52 3 n3 (λxi=>Bc ((Cl p r c k y u).getD xi Rl.none)) (λxi=>Bc ((Cl p r c k y (u+1)).getD xi Rl.none)) (λx9 hx9=>by rw[Cf (.inl hx12)]) (Ja [3,4,5,7,8,10,11,12,13,18] (hJ4 _ _ (by omega:r.rises.length-(u+1)<r.rises.length-u) ⟨u+1,n3,ω,rfl,⟨by rw[Cf (.inl hx12)];omega,ω⟩,(.inr ⟨ω,rfl⟩)⟩))))))
        ·
         exact Ae 9 (Dm ((y:Int)+1) ((y+1:Nat):Int) (Ae 2 (Mr 50 52 3 n3 (λxi=>Bc ((Cl p r c k y u).getD xi Rl.none)) (λxi=>Bc ((It p r c k (y+1)).getD xi Rl.none)) (λx9 hx9=>by rw[<-Kl,show r.rises.length=u by omega]) (Ja [3,4,5,7,8,10,11,12] (hJ2 _ _ (by omega:r.homes.length-(y+1)<r.homes.length-y) ⟨y+1,n3,ω,rfl,⟨by rw[<-Kl,show r.rises.length=u by omega];omega,ω⟩,(.inr ⟨ω,rfl⟩)⟩)))))
     ·
      exact Ae 9 (Dm ((k:Int)+1) ((k+1:Nat):Int) (Ae 2 (Fu [3,4,5,7,8] [] 3 0 hA0 [(4,1,r.homes.length,(λxi=>AV.bool (Di r (Aj p r c k) y xi)))] ⟨(Fp λ_ _=>rfl),trivial⟩ (hJ1 _ _ (by omega:r.waits.length-(k+1)<r.waits.length-k) ⟨k+1,0,ω,rfl,⟨by rw[<-Ot hx2,show r.homes.length=y by omega];omega,ω⟩,(.inl ⟨ω,rfl⟩)⟩))))
    ·
     refine Ae 10 (Em 48 ((y:Int)<(r.homes.length:Int)) (λhx14 hx14d=>?_) (λhx14 hx14d=>?_))
     ·
      refine Ae 18 (Wn [3,4,5,7,8,10,11,12,13,14,15] (λm s=>∃k1 b f,m=r.homes.length-k1/\(Tj (Di r (Aj p r c k) y) (Mk r (Aj p r c k)) k1=(b,f)/\k1<=r.homes.length)/\s=⟨[(3,.elt 3 (λxi=>[Dp p.names,Fh p.homes,Ek p.acts].getD (0+xi) .top)),(4,Kt r),(5,.elt 2 (λxi=>[.int c.craft,.int c.act].getD (0+xi) .top)),(7,.osl 50 3 n2),(8,.int (k:Int)),(10,My (Aj p r c k)),(11,.osl 4 1 r.homes.length),(12,.int (y:Int)),(13,.int b),(14,.int f),(15,.int ((k1:Nat):Int))],[(4,.vec 4 1 r.homes.length (λxi=>AV.bool (Di r (Aj p r c k) y xi))),(50,.vec 52 3 n2 (λxi=>Bc ((It p r c k y).getD xi Rl.none)))],51,132⟩) (r.homes.length-0) ⟨0,(-1),0,rfl,⟨rfl,Nat.zero_le _⟩,κ⟩ ?_)
      rintro _ _ ⟨k1,b,f,rfl,hF,rfl⟩ J5 hJ5
      refine Ae 10 (Em 55 (((k1:Nat):Int)<(r.homes.length:Int)) (λhx15 hx15d=>?_) (λhx15 hx15d=>?_))
      ·
       refine Ae 6 (He [(3,Cy (Ib r.homes) k1,.none),(6,_,.none)] [3,4,5,7,8,10,11,12,13,14,15,16] ⟨Hs k1 r.homes.length,Eg (gL (r.homes.getD k1 V3.zero) (Aj p r c k) (hg.2.2.1 k1 ω).1 hV),trivial⟩ (Ae 5 (Gg k1 r.homes.length (Bx (.bool (Di r (Aj p r c k) y k1)) (.read 4) (Co 4 (.tmp 70) κ isAgg4 4 k1 0 1 κ 4 r.homes.length (λxi=>AV.bool (Di r (Aj p r c k) y xi)) κ ω δ) (Ae 2 (Yx 73 (Di r (Aj p r c k) y k1) (λhx16=>?_) (λhx16=>?_)))))))
       ·
        exact Ae 16 (Dm (((k1:Nat):Int)+1) ((k1+1:Nat):Int) (Ae 2 (Ja [3,4,5,7,8,10,11,12,13,14,15] (hJ5 _ _ (by omega:r.homes.length-(k1+1)<r.homes.length-k1) ⟨k1+1,b,f,rfl,⟨Ph hF.1 (.inl hx16),ω⟩,rfl⟩))))
       ·
        refine Ae 3 (Em 76 (b<0) (λhx17 hx17d=>?_) (λhx17 hx17d=>?_))
        ·
         exact Ae 18 (Dm (((k1:Nat):Int)+1) ((k1+1:Nat):Int) (Ae 2 (Ja [3,4,5,7,8,10,11,12,13,14,15] (hJ5 _ _ (by omega:r.homes.length-(k1+1)<r.homes.length-k1) ⟨k1+1,((k1:Nat):Int),Mk r (Aj p r c k) k1,rfl,⟨Pj hF.1 hx16 ω,ω⟩,rfl⟩))))
        ·
         refine Ae 7 (Em 81 (Mk r (Aj p r c k) k1<f) (λhx18 hx18d=>?_) (λhx18 hx18d=>?_))
         ·
          exact Ae 11 (Dm (((k1:Nat):Int)+1) ((k1+1:Nat):Int) (Ae 2 (Ja [3,4,5,7,8,10,11,12,13,14,15] (hJ5 _ _ (by omega:r.homes.length-(k1+1)<r.homes.length-k1) ⟨k1+1,((k1:Nat):Int),Mk r (Aj p r c k) k1,rfl,⟨Pj hF.1 hx16 ω,ω⟩,rfl⟩))))
         ·
          exact Ae 6 (Dm (((k1:Nat):Int)+1) ((k1+1:Nat):Int) (Ae 2 (Ja [3,4,5,7,8,10,11,12,13,14,15] (hJ5 _ _ (by omega:r.homes.length-(k1+1)<r.homes.length-k1) ⟨k1+1,b,f,rfl,⟨Ph hF.1 (.inr ω),ω⟩,rfl⟩))))
      ·
       refine Ae 6 ?_
       have hke:k1=r.homes.length:=by omega
       subst hke
       have hb:=congrArg Prod.fst ((kC r (Aj p r c k) (y:=y) ω).symm.trans hF.1)
       have hb:(((Av r (Aj p r c k)).getD y 0:Nat):Int)=b:=hb
       subst hb
       have hom:=Lk r (Aj p r c k) (x:=y) ω
       refine Ae 4 (Gg ((Av r (Aj p r c k)).getD y 0) r.homes.length (Bx (.lit Go.undef) (.set 4 (.vec 4 1 r.homes.length (λxi=>if xi=(Av r (Aj p r c k)).getD y 0 then .bool true else (λxi=>AV.bool (Di r (Aj p r c k) y xi)) xi))) (Ed 4 (.tmp 86) (.const (.bool true)) κ 1 sizeOf4 4 ((Av r (Aj p r c k)).getD y 0) κ 4 r.homes.length (λxi=>AV.bool (Di r (Aj p r c k) y xi)) κ ω κ κ κ (.bool true) κ) (Ae 2 (Mr 4 4 1 r.homes.length (λxi=>if xi=(Av r (Aj p r c k)).getD y 0 then .bool true else (λxi=>AV.bool (Di r (Aj p r c k) y xi)) xi) (λxi=>AV.bool (Di r (Aj p r c k) (y+1) xi)) (λx9 hx9=>by rw[Wy];split<;>rfl) (Mr 50 52 3 n2 (λxi=>Bc ((It p r c k y).getD xi Rl.none)) (λxi=>Bc ((Cl p r c k y 0).getD xi Rl.none)) (λx9 hx9=>by rw[Oq]) (Ae 6 (Wn [3,4,5,7,8,10,11,12,13,18] (λm s=>∃u n3,u<=r.rises.length/\m=r.rises.length-u/\(n3=(Cl p r c k y u).length/\n3<=k*128+y*16+u)/\((0<n3)/\s=⟨[(3,.elt 3 (λxi=>[Dp p.names,Fh p.homes,Ek p.acts].getD (0+xi) .top)),(4,Kt r),(5,.elt 2 (λxi=>[.int c.craft,.int c.act].getD (0+xi) .top)),(7,.osl 50 3 n3),(8,.int (k:Int)),(10,My (Aj p r c k)),(11,.osl 4 1 r.homes.length),(12,.int (y:Int)),(13,.int (((Av r (Aj p r c k)).getD y 0:Nat):Int)),(18,.int (u:Int))],[(4,.vec 4 1 r.homes.length (λxi=>AV.bool (Di r (Aj p r c k) (y+1) xi))),(50,.vec 52 3 n3 (λxi=>Bc ((Cl p r c k y u).getD xi Rl.none)))],51,132⟩)) r.rises.length ⟨0,n2,Nat.zero_le _,rfl,⟨by rw[Oq];omega,ω⟩,⟨hy0,κ⟩⟩ ?_)))))))
       rintro _ _ ⟨u,n3,hun,rfl,hFu,(⟨hu0,rfl⟩)⟩ J6 hJ6
       ·
        refine Ae 10 (Em 91 ((u:Int)<(r.rises.length:Int)) (λhx19 hx19d=>?_) (λhx19 hx19d=>?_))
        ·
         refine Ae 5 ?_
         have hris:=hg.2.2.2.2.2.2 u ω
         have hm3:=tX (hg.2.2.1 _ hom).1
         have hV3:=tX hV
         refine Ae 1 ?_
         refine Ea (Hk (r.homes.getD ((Av r (Aj p r c k)).getD y 0) V3.zero) (r.rises.getD u 0)) (λhx20=>?_) (λhx20=>?_)
         ·
          refine He [(3,Cy (Ib r.homes) ((Av r (Aj p r c k)).getD y 0),.none),(8,Cy (Bq r.rises) u,.none),(10,_,.none),(11,.bool true,.none),(17,Cy (Bq r.rises) u,.none),(19,_,.none),(20,_,.none)] [3,4,5,7,8,10,11,12,13,18,115] ⟨Hs ((Av r (Aj p r c k)).getD y 0) r.homes.length,Hs u r.rises.length,Eg (Ep (r.homes.getD ((Av r (Aj p r c k)).getD y 0) V3.zero) (r.rises.getD u 0) ω),xA hx20 (Eg (Fl ⟨(r.homes.getD ((Av r (Aj p r c k)).getD y 0) V3.zero).x,(r.homes.getD ((Av r (Aj p r c k)).getD y 0) V3.zero).y,(r.homes.getD ((Av r (Aj p r c k)).getD y 0) V3.zero).z+r.rises.getD u 0⟩)),Hs u r.rises.length,Eg (Ep (Aj p r c k) (r.rises.getD u 0) ω),Eg (Fl ⟨(Aj p r c k).x,(Aj p r c k).y,(Aj p r c k).z+r.rises.getD u 0⟩),trivial⟩ (Ae 1 (kK 115 (Hk (Aj p r c k) (r.rises.getD u 0)) (λhx21=>?_) (λhx21=>?_)))
          ·
           exact Ae 1 (He [(5,Cy (Bq r.waits) k,.none),(10,Cy (Bq r.rises) u,.none),(13,.osl 51 3 1,(.new 51 (.vec 52 3 1 (λ_=> .lit (.agg #[.int .i64 (((Av r (Aj p r c k)).getD y 0:Nat):Int),.int .i64 ((r.waits).getD k 0),.int .i64 ((r.rises).getD u 0)]))))),(14,.osl 52 3 (n3+1),(.grow2 50 51 52 (.vec 52 3 (n3+1) (λxi=>Bc ((Cl p r c k y (u+1)).getD xi Rl.none)))))] [3,4,5,7,8,10,11,12,13,18] ⟨Hs k r.waits.length,Hs u r.rises.length,Bb (Ak 45 1 #[(0,(.tmp 128))] κ underlying45 3 sizeOf52 _ zeroValue52 κ β β β 51 [.int (((Av r (Aj p r c k)).getD y 0:Nat):Int),.int ((r.waits).getD k 0),.int ((r.rises).getD u 0)] κ (λ_=> .lit (.agg #[.int .i64 (((Av r (Aj p r c k)).getD y 0:Nat):Int),.int .i64 ((r.waits).getD k 0),.int .i64 ((r.rises).getD u 0)])) κ),Bb (Ck (.tmp 116) (.tmp 129) 45 κ underlying45 3 24 (.agg #[.int .i64 0,.int .i64 0,.int .i64 0]) κ κ δ n3 1 ω (λxi=>Bc ((Cl p r c k y u).getD xi Rl.none)) (λ_=> .lit (.agg #[.int .i64 (((Av r (Aj p r c k)).getD y 0:Nat):Int),.int .i64 ((r.waits).getD k 0),.int .i64 ((r.rises).getD u 0)])) (λxi=>Bc ((Cl p r c k y (u+1)).getD xi Rl.none)) 52 ω (by unfold maxLen;omega) (λi hi=>by show Bc _=Bc _;rw[Dy hx20 hx21,Jl,if_pos ω]) (λi hi=>by(obtain rfl:i=0:=(ω));show Bc _=Bc ⟨(((Av r (Aj p r c k)).getD y 0:Nat):Int),r.waits.getD k 0,r.rises.getD u 0⟩;rw[Dy hx20 hx21,Jl,if_neg ω,show n3+0-(Cl p r c k y u).length=0 by omega];rfl) (λi hi j hj=>match j,hj with|0,_=>rfl|1,_=>rfl|2,_=>rfl|_+3,h=>absurd h ω) 50 κ κ 51 52 κ κ),trivial⟩ (Ae 4 (Dm ((u:Int)+1) ((u+1:Nat):Int) (Ae 2 (Fu [3,4,5,7,8,10,11,12,13,18] [(4,4),(52,50)] 51 0 hA0 [(4,1,r.homes.length,(λxi=>AV.bool (Di r (Aj p r c k) (y+1) xi))),(52,3,1,(λ_=> .lit (.agg #[.int .i64 (((Av r (Aj p r c k)).getD y 0:Nat):Int),.int .i64 ((r.waits).getD k 0),.int .i64 ((r.rises).getD u 0)]))),(52,3,n3+1,(λxi=>Bc ((Cl p r c k y (u+1)).getD xi Rl.none)))] ⟨(Fp λ_ _=>rfl),(Fp λ_ _=>rfl),(Fp λ_ _=>rfl),trivial⟩ (hJ6 _ _ (by omega:r.rises.length-(u+1)<r.rises.length-u) ⟨u+1,n3+1,ω,rfl,⟨by rw[Dy hx20 hx21,List.length_append,List.length_singleton];omega,ω⟩,⟨ω,rfl⟩⟩))))))
          ·
           exact Ae 6 (Dm ((u:Int)+1) ((u+1:Nat):Int) (Ae 2 (Mr 50 52 3 n3 (λxi=>Bc ((Cl p r c k y u).getD xi Rl.none)) (λxi=>Bc ((Cl p r c k y (u+1)).getD xi Rl.none)) (λx9 hx9=>by rw[Cf (.inr hx21)]) (Ja [3,4,5,7,8,10,11,12,13,18] (hJ6 _ _ (by omega:r.rises.length-(u+1)<r.rises.length-u) ⟨u+1,n3,ω,rfl,⟨by rw[Cf (.inr hx21)];omega,ω⟩,⟨ω,rfl⟩⟩)))))
         ·
          exact He [(3,Cy (Ib r.homes) ((Av r (Aj p r c k)).getD y 0),.none),(8,Cy (Bq r.rises) u,.none),(10,_,.none),(11,.bool false,.none)] [3,4,5,7,8,10,11,12,13,18,115] ⟨Hs ((Av r (Aj p r c k)).getD y 0) r.homes.length,Hs u r.rises.length,Eg (Ep (r.homes.getD ((Av r (Aj p r c k)).getD y 0) V3.zero) (r.rises.getD u 0) ω),xA hx20 (Eg (Fl ⟨(r.homes.getD ((Av r (Aj p r c k)).getD y 0) V3.zero).x,(r.homes.getD ((Av r (Aj p r c k)).getD y 0) V3.zero).y,(r.homes.getD ((Av r (Aj p r c k)).getD y 0) V3.zero).z+r.rises.getD u 0⟩)),trivial⟩ (Ae 7 (Dm ((u:Int)+1) ((u+1:Nat):Int) (Ae 2 (Mr 50 52 3 n3 (λxi=>Bc ((Cl p r c k y u).getD xi Rl.none)) (λxi=>Bc ((Cl p r c k y (u+1)).getD xi Rl.none)) (λx9 hx9=>by rw[Cf (.inl hx20)]) (Ja [3,4,5,7,8,10,11,12,13,18] (hJ6 _ _ (by omega:r.rises.length-(u+1)<r.rises.length-u) ⟨u+1,n3,ω,rfl,⟨by rw[Cf (.inl hx20)];omega,ω⟩,⟨ω,rfl⟩⟩))))))
        ·
         exact Ae 9 (Dm ((y:Int)+1) ((y+1:Nat):Int) (Ae 2 (Mr 50 52 3 n3 (λxi=>Bc ((Cl p r c k y u).getD xi Rl.none)) (λxi=>Bc ((It p r c k (y+1)).getD xi Rl.none)) (λx9 hx9=>by rw[<-Kl,show r.rises.length=u by omega]) (Ja [3,4,5,7,8,10,11,12] (hJ2 _ _ (by omega:r.homes.length-(y+1)<r.homes.length-y) ⟨y+1,n3,ω,rfl,⟨by rw[<-Kl,show r.rises.length=u by omega];omega,ω⟩,(.inr ⟨ω,rfl⟩)⟩)))))
     ·
      exact Ae 9 (Dm ((k:Int)+1) ((k+1:Nat):Int) (Ae 2 (Mr 50 52 3 n2 (λxi=>Bc ((It p r c k y).getD xi Rl.none)) (λxi=>Bc ((Gx p r c (k+1)).getD xi Rl.none)) (λx9 hx9=>by rw[<-Ot hx2,show r.homes.length=y by omega]) (Fu [3,4,5,7,8] [(50,50)] 51 0 hA0 [(4,1,r.homes.length,(λxi=>AV.bool (Di r (Aj p r c k) y xi))),(52,3,n2,(λxi=>Bc ((Gx p r c (k+1)).getD xi Rl.none)))] ⟨(Fp λ_ _=>rfl),(Fp λ_ _=>rfl),trivial⟩ (hJ1 _ _ (by omega:r.waits.length-(k+1)<r.waits.length-k) ⟨k+1,n2,ω,rfl,⟨by rw[<-Ot hx2,show r.homes.length=y by omega];omega,ω⟩,(.inr ⟨ω,rfl⟩)⟩)))))
   ·
    exact He [(6,Cy (Bq r.waits) k,.none),(8,_,.none)] [3,4,5,7,8,9,10] ⟨Hs k r.waits.length,Eg (Ra hp hg.1 hg.2 ω hx2),trivial⟩ (Ae 15 (Dm ((k:Int)+1) ((k+1:Nat):Int) (Ae 2 (Fu [3,4,5,7,8] [] 3 0 hA0 [] trivial (hJ1 _ _ (by omega:r.waits.length-(k+1)<r.waits.length-k) ⟨k+1,0,ω,rfl,⟨by rw[Tb hx2];omega,ω⟩,(.inl ⟨ω,rfl⟩)⟩)))))
  ·
   exact Ae 13 (Fz (.lit (.slice none 0 0)) (by have hke:k=r.waits.length:=(ω);subst hke;exact(if_pos (by rw[Kq];omega)).symm))
 ·
  refine Ae 10 (Em 23 ((k:Int)<(r.waits.length:Int)) (λhx22 hx22d=>?_) (λhx22 hx22d=>?_))
  ·
   refine Ae 6 ?_
   refine Ea (Xk p r c k) (λhx23=>?_) (λhx23=>?_)
   ·
    refine He [(6,Cy (Bq r.waits) k,.none),(8,_,.none)] [3,4,5,7,8,9,10] ⟨Hs k r.waits.length,Eg (Qq hp hg.1 hg.2 ω hx23),trivial⟩ (Ae 8 (Kf 39 (decide ((((Kx p c (Ic p r c (r.waits.getD k 0))):Nat):Int)<0)) false (decide_eq_false ω) (Ae 3 ?_)))
    have hV:=Zm hg.1 hx23
    refine Yv 51 (Ae 5 (Bx (.osl 52 1 r.homes.length) (.new 52 (.vec 4 1 r.homes.length (λ_=> .bool false))) (Lb 97 (.tmp 42) (.tmp 42) κ underlying97 1 1 (.bool false) κ κ δ (r.homes.length:Int) r.homes.length ω κ κ ω ω ω 52 (.bool false) κ) (Ae 3 (Mr 52 4 1 r.homes.length (λ_=> .bool false) (λxi=>AV.bool (Di r (Aj p r c k) 0 xi)) (λx9 hx9=>congrArg AV.bool (AaI r (Aj p r c k) x9).symm) (Mr 50 52 3 n (λxi=>Bc ((Gx p r c k).getD xi Rl.none)) (λxi=>Bc ((It p r c k 0).getD xi Rl.none)) (λx9 hx9=>by rw[Xl]) (Ae 6 (Wn [3,4,5,7,8,10,11,12] (λm s=>∃y n2,y<=r.homes.length/\m=r.homes.length-y/\(n2=(It p r c k y).length/\n2<=k*128+y*16)/\((0<n2)/\s=⟨[(3,.elt 3 (λxi=>[Dp p.names,Fh p.homes,Ek p.acts].getD (0+xi) .top)),(4,Kt r),(5,.elt 2 (λxi=>[.int c.craft,.int c.act].getD (0+xi) .top)),(7,.osl 50 3 n2),(8,.int (k:Int)),(10,My (Aj p r c k)),(11,.osl 52 1 r.homes.length),(12,.int (y:Int))],[(50,.vec 52 3 n2 (λxi=>Bc ((It p r c k y).getD xi Rl.none))),(52,.vec 4 1 r.homes.length (λxi=>AV.bool (Di r (Aj p r c k) y xi)))],53,132⟩)) r.homes.length ⟨0,n,Nat.zero_le _,rfl,⟨by rw[Xl];omega,ω⟩,⟨hk0,κ⟩⟩ ?_)))))))
    rintro _ _ ⟨y,n2,hyn,rfl,hFy,(⟨hy0,rfl⟩)⟩ J7 hJ7
    ·
     refine Ae 10 (Em 48 ((y:Int)<(r.homes.length:Int)) (λhx24 hx24d=>?_) (λhx24 hx24d=>?_))
     ·
      refine Ae 18 (Wn [3,4,5,7,8,10,11,12,13,14,15] (λm s=>∃k1 b f,m=r.homes.length-k1/\(Tj (Di r (Aj p r c k) y) (Mk r (Aj p r c k)) k1=(b,f)/\k1<=r.homes.length)/\s=⟨[(3,.elt 3 (λxi=>[Dp p.names,Fh p.homes,Ek p.acts].getD (0+xi) .top)),(4,Kt r),(5,.elt 2 (λxi=>[.int c.craft,.int c.act].getD (0+xi) .top)),(7,.osl 50 3 n2),(8,.int (k:Int)),(10,My (Aj p r c k)),(11,.osl 52 1 r.homes.length),(12,.int (y:Int)),(13,.int b),(14,.int f),(15,.int ((k1:Nat):Int))],[(50,.vec 52 3 n2 (λxi=>Bc ((It p r c k y).getD xi Rl.none))),(52,.vec 4 1 r.homes.length (λxi=>AV.bool (Di r (Aj p r c k) y xi)))],53,132⟩) (r.homes.length-0) ⟨0,(-1),0,rfl,⟨rfl,Nat.zero_le _⟩,κ⟩ ?_)
      rintro _ _ ⟨k1,b,f,rfl,hF,rfl⟩ J8 hJ8
      refine Ae 10 (Em 55 (((k1:Nat):Int)<(r.homes.length:Int)) (λhx25 hx25d=>?_) (λhx25 hx25d=>?_))
      ·
       refine Ae 6 (He [(3,Cy (Ib r.homes) k1,.none),(6,_,.none)] [3,4,5,7,8,10,11,12,13,14,15,16] ⟨Hs k1 r.homes.length,Eg (gL (r.homes.getD k1 V3.zero) (Aj p r c k) (hg.2.2.1 k1 ω).1 hV),trivial⟩ (Ae 5 (Gg k1 r.homes.length (Bx (.bool (Di r (Aj p r c k) y k1)) (.read 52) (Co 4 (.tmp 70) κ isAgg4 52 k1 0 1 κ 4 r.homes.length (λxi=>AV.bool (Di r (Aj p r c k) y xi)) κ ω δ) (Ae 2 (Yx 73 (Di r (Aj p r c k) y k1) (λhx26=>?_) (λhx26=>?_)))))))
       ·
        exact Ae 16 (Dm (((k1:Nat):Int)+1) ((k1+1:Nat):Int) (Ae 2 (Ja [3,4,5,7,8,10,11,12,13,14,15] (hJ8 _ _ (by omega:r.homes.length-(k1+1)<r.homes.length-k1) ⟨k1+1,b,f,rfl,⟨Ph hF.1 (.inl hx26),ω⟩,rfl⟩))))
       ·
        refine Ae 3 (Em 76 (b<0) (λhx27 hx27d=>?_) (λhx27 hx27d=>?_))
        ·
         exact Ae 18 (Dm (((k1:Nat):Int)+1) ((k1+1:Nat):Int) (Ae 2 (Ja [3,4,5,7,8,10,11,12,13,14,15] (hJ8 _ _ (by omega:r.homes.length-(k1+1)<r.homes.length-k1) ⟨k1+1,((k1:Nat):Int),Mk r (Aj p r c k) k1,rfl,⟨Pj hF.1 hx26 ω,ω⟩,rfl⟩))))
        ·
         refine Ae 7 (Em 81 (Mk r (Aj p r c k) k1<f) (λhx28 hx28d=>?_) (λhx28 hx28d=>?_))
         ·
          exact Ae 11 (Dm (((k1:Nat):Int)+1) ((k1+1:Nat):Int) (Ae 2 (Ja [3,4,5,7,8,10,11,12,13,14,15] (hJ8 _ _ (by omega:r.homes.length-(k1+1)<r.homes.length-k1) ⟨k1+1,((k1:Nat):Int),Mk r (Aj p r c k) k1,rfl,⟨Pj hF.1 hx26 ω,ω⟩,rfl⟩))))
         ·
          exact Ae 6 (Dm (((k1:Nat):Int)+1) ((k1+1:Nat):Int) (Ae 2 (Ja [3,4,5,7,8,10,11,12,13,14,15] (hJ8 _ _ (by omega:r.homes.length-(k1+1)<r.homes.length-k1) ⟨k1+1,b,f,rfl,⟨Ph hF.1 (.inr ω),ω⟩,rfl⟩))))
      ·
       refine Ae 6 ?_
       have hke:k1=r.homes.length:=by omega
       subst hke
       have hb:=congrArg Prod.fst ((kC r (Aj p r c k) (y:=y) ω).symm.trans hF.1)
       have hb:(((Av r (Aj p r c k)).getD y 0:Nat):Int)=b:=hb
       subst hb
       have hom:=Lk r (Aj p r c k) (x:=y) ω
       refine Ae 4 (Gg ((Av r (Aj p r c k)).getD y 0) r.homes.length (Bx (.lit Go.undef) (.set 52 (.vec 4 1 r.homes.length (λxi=>if xi=(Av r (Aj p r c k)).getD y 0 then .bool true else (λxi=>AV.bool (Di r (Aj p r c k) y xi)) xi))) (Ed 4 (.tmp 86) (.const (.bool true)) κ 1 sizeOf4 52 ((Av r (Aj p r c k)).getD y 0) κ 4 r.homes.length (λxi=>AV.bool (Di r (Aj p r c k) y xi)) κ ω κ κ κ (.bool true) κ) (Ae 2 (Mr 52 4 1 r.homes.length (λxi=>if xi=(Av r (Aj p r c k)).getD y 0 then .bool true else (λxi=>AV.bool (Di r (Aj p r c k) y xi)) xi) (λxi=>AV.bool (Di r (Aj p r c k) (y+1) xi)) (λx9 hx9=>by rw[Wy];split<;>rfl) (Mr 50 52 3 n2 (λxi=>Bc ((It p r c k y).getD xi Rl.none)) (λxi=>Bc ((Cl p r c k y 0).getD xi Rl.none)) (λx9 hx9=>by rw[Oq]) (Ae 6 (Wn [3,4,5,7,8,10,11,12,13,18] (λm s=>∃u n3,u<=r.rises.length/\m=r.rises.length-u/\(n3=(Cl p r c k y u).length/\n3<=k*128+y*16+u)/\((0<n3)/\s=⟨[(3,.elt 3 (λxi=>[Dp p.names,Fh p.homes,Ek p.acts].getD (0+xi) .top)),(4,Kt r),(5,.elt 2 (λxi=>[.int c.craft,.int c.act].getD (0+xi) .top)),(7,.osl 50 3 n3),(8,.int (k:Int)),(10,My (Aj p r c k)),(11,.osl 52 1 r.homes.length),(12,.int (y:Int)),(13,.int (((Av r (Aj p r c k)).getD y 0:Nat):Int)),(18,.int (u:Int))],[(50,.vec 52 3 n3 (λxi=>Bc ((Cl p r c k y u).getD xi Rl.none))),(52,.vec 4 1 r.homes.length (λxi=>AV.bool (Di r (Aj p r c k) (y+1) xi)))],53,132⟩)) r.rises.length ⟨0,n2,Nat.zero_le _,rfl,⟨by rw[Oq];omega,ω⟩,⟨hy0,κ⟩⟩ ?_)))))))
       rintro _ _ ⟨u,n3,hun,rfl,hFu,(⟨hu0,rfl⟩)⟩ J9 hJ9
       ·
        refine Ae 10 (Em 91 ((u:Int)<(r.rises.length:Int)) (λhx29 hx29d=>?_) (λhx29 hx29d=>?_))
        ·
         refine Ae 5 ?_
         have hris:=hg.2.2.2.2.2.2 u ω
         have hm3:=tX (hg.2.2.1 _ hom).1
         have hV3:=tX hV
         refine Ae 1 ?_
         refine Ea (Hk (r.homes.getD ((Av r (Aj p r c k)).getD y 0) V3.zero) (r.rises.getD u 0)) (λhx30=>?_) (λhx30=>?_)
         ·
          refine He [(3,Cy (Ib r.homes) ((Av r (Aj p r c k)).getD y 0),.none),(8,Cy (Bq r.rises) u,.none),(10,_,.none),(11,.bool true,.none),(17,Cy (Bq r.rises) u,.none),(19,_,.none),(20,_,.none)] [3,4,5,7,8,10,11,12,13,18,115] ⟨Hs ((Av r (Aj p r c k)).getD y 0) r.homes.length,Hs u r.rises.length,Eg (Ep (r.homes.getD ((Av r (Aj p r c k)).getD y 0) V3.zero) (r.rises.getD u 0) ω),xA hx30 (Eg (Fl ⟨(r.homes.getD ((Av r (Aj p r c k)).getD y 0) V3.zero).x,(r.homes.getD ((Av r (Aj p r c k)).getD y 0) V3.zero).y,(r.homes.getD ((Av r (Aj p r c k)).getD y 0) V3.zero).z+r.rises.getD u 0⟩)),Hs u r.rises.length,Eg (Ep (Aj p r c k) (r.rises.getD u 0) ω),Eg (Fl ⟨(Aj p r c k).x,(Aj p r c k).y,(Aj p r c k).z+r.rises.getD u 0⟩),trivial⟩ (Ae 1 (kK 115 (Hk (Aj p r c k) (r.rises.getD u 0)) (λhx31=>?_) (λhx31=>?_)))
          ·
           exact Ae 1 (He [(5,Cy (Bq r.waits) k,.none),(10,Cy (Bq r.rises) u,.none),(13,.osl 53 3 1,(.new 53 (.vec 52 3 1 (λ_=> .lit (.agg #[.int .i64 (((Av r (Aj p r c k)).getD y 0:Nat):Int),.int .i64 ((r.waits).getD k 0),.int .i64 ((r.rises).getD u 0)]))))),(14,.osl 54 3 (n3+1),(.grow2 50 53 54 (.vec 52 3 (n3+1) (λxi=>Bc ((Cl p r c k y (u+1)).getD xi Rl.none)))))] [3,4,5,7,8,10,11,12,13,18] ⟨Hs k r.waits.length,Hs u r.rises.length,Bb (Ak 45 1 #[(0,(.tmp 128))] κ underlying45 3 sizeOf52 _ zeroValue52 κ β β β 53 [.int (((Av r (Aj p r c k)).getD y 0:Nat):Int),.int ((r.waits).getD k 0),.int ((r.rises).getD u 0)] κ (λ_=> .lit (.agg #[.int .i64 (((Av r (Aj p r c k)).getD y 0:Nat):Int),.int .i64 ((r.waits).getD k 0),.int .i64 ((r.rises).getD u 0)])) κ),Bb (Ck (.tmp 116) (.tmp 129) 45 κ underlying45 3 24 (.agg #[.int .i64 0,.int .i64 0,.int .i64 0]) κ κ δ n3 1 ω (λxi=>Bc ((Cl p r c k y u).getD xi Rl.none)) (λ_=> .lit (.agg #[.int .i64 (((Av r (Aj p r c k)).getD y 0:Nat):Int),.int .i64 ((r.waits).getD k 0),.int .i64 ((r.rises).getD u 0)])) (λxi=>Bc ((Cl p r c k y (u+1)).getD xi Rl.none)) 54 ω (by unfold maxLen;omega) (λi hi=>by show Bc _=Bc _;rw[Dy hx30 hx31,Jl,if_pos ω]) (λi hi=>by(obtain rfl:i=0:=(ω));show Bc _=Bc ⟨(((Av r (Aj p r c k)).getD y 0:Nat):Int),r.waits.getD k 0,r.rises.getD u 0⟩;rw[Dy hx30 hx31,Jl,if_neg ω,show n3+0-(Cl p r c k y u).length=0 by omega];rfl) (λi hi j hj=>match j,hj with|0,_=>rfl|1,_=>rfl|2,_=>rfl|_+3,h=>absurd h ω) 50 κ κ 53 52 κ κ),trivial⟩ (Ae 4 (Dm ((u:Int)+1) ((u+1:Nat):Int) (Ae 2 (Fu [3,4,5,7,8,10,11,12,13,18] [(54,50),(52,52)] 53 0 hA0 [(4,1,r.homes.length,(λxi=>AV.bool (Di r (Aj p r c k) (y+1) xi))),(52,3,1,(λ_=> .lit (.agg #[.int .i64 (((Av r (Aj p r c k)).getD y 0:Nat):Int),.int .i64 ((r.waits).getD k 0),.int .i64 ((r.rises).getD u 0)]))),(52,3,n3+1,(λxi=>Bc ((Cl p r c k y (u+1)).getD xi Rl.none)))] ⟨(Fp λ_ _=>rfl),(Fp λ_ _=>rfl),(Fp λ_ _=>rfl),trivial⟩ (hJ9 _ _ (by omega:r.rises.length-(u+1)<r.rises.length-u) ⟨u+1,n3+1,ω,rfl,⟨by rw[Dy hx30 hx31,List.length_append,List.length_singleton];omega,ω⟩,⟨ω,rfl⟩⟩))))))
          ·
           exact Ae 6 (Dm ((u:Int)+1) ((u+1:Nat):Int) (Ae 2 (Mr 50 52 3 n3 (λxi=>Bc ((Cl p r c k y u).getD xi Rl.none)) (λxi=>Bc ((Cl p r c k y (u+1)).getD xi Rl.none)) (λx9 hx9=>by rw[Cf (.inr hx31)]) (Ja [3,4,5,7,8,10,11,12,13,18] (hJ9 _ _ (by omega:r.rises.length-(u+1)<r.rises.length-u) ⟨u+1,n3,ω,rfl,⟨by rw[Cf (.inr hx31)];omega,ω⟩,⟨ω,rfl⟩⟩)))))
         ·
          exact He [(3,Cy (Ib r.homes) ((Av r (Aj p r c k)).getD y 0),.none),(8,Cy (Bq r.rises) u,.none),(10,_,.none),(11,.bool false,.none)] [3,4,5,7,8,10,11,12,13,18,115] ⟨Hs ((Av r (Aj p r c k)).getD y 0) r.homes.length,Hs u r.rises.length,Eg (Ep (r.homes.getD ((Av r (Aj p r c k)).getD y 0) V3.zero) (r.rises.getD u 0) ω),xA hx30 (Eg (Fl ⟨(r.homes.getD ((Av r (Aj p r c k)).getD y 0) V3.zero).x,(r.homes.getD ((Av r (Aj p r c k)).getD y 0) V3.zero).y,(r.homes.getD ((Av r (Aj p r c k)).getD y 0) V3.zero).z+r.rises.getD u 0⟩)),trivial⟩ (Ae 7 (Dm ((u:Int)+1) ((u+1:Nat):Int) (Ae 2 (Mr 50 52 3 n3 (λxi=>Bc ((Cl p r c k y u).getD xi Rl.none)) (λxi=>Bc ((Cl p r c k y (u+1)).getD xi Rl.none)) (λx9 hx9=>by rw[Cf (.inl hx30)]) (Ja [3,4,5,7,8,10,11,12,13,18] (hJ9 _ _ (by omega:r.rises.length-(u+1)<r.rises.length-u) ⟨u+1,n3,ω,rfl,⟨by rw[Cf (.inl hx30)];omega,ω⟩,⟨ω,rfl⟩⟩))))))
        ·
         exact Ae 9 (Dm ((y:Int)+1) ((y+1:Nat):Int) (Ae 2 (Mr 50 52 3 n3 (λxi=>Bc ((Cl p r c k y u).getD xi Rl.none)) (λxi=>Bc ((It p r c k (y+1)).getD xi Rl.none)) (λx9 hx9=>by rw[<-Kl,show r.rises.length=u by omega]) (Ja [3,4,5,7,8,10,11,12] (hJ7 _ _ (by omega:r.homes.length-(y+1)<r.homes.length-y) ⟨y+1,n3,ω,rfl,⟨by rw[<-Kl,show r.rises.length=u by omega];omega,ω⟩,⟨ω,rfl⟩⟩)))))
     ·
      exact Ae 9 (Dm ((k:Int)+1) ((k+1:Nat):Int) (Ae 2 (Mr 50 52 3 n2 (λxi=>Bc ((It p r c k y).getD xi Rl.none)) (λxi=>Bc ((Gx p r c (k+1)).getD xi Rl.none)) (λx9 hx9=>by rw[<-Ot hx23,show r.homes.length=y by omega]) (Fu [3,4,5,7,8] [(50,50)] 51 0 hA0 [(52,3,n2,(λxi=>Bc ((Gx p r c (k+1)).getD xi Rl.none))),(4,1,r.homes.length,(λxi=>AV.bool (Di r (Aj p r c k) y xi)))] ⟨(Fp λ_ _=>rfl),(Fp λ_ _=>rfl),trivial⟩ (hJ1 _ _ (by omega:r.waits.length-(k+1)<r.waits.length-k) ⟨k+1,n2,ω,rfl,⟨by rw[<-Ot hx23,show r.homes.length=y by omega];omega,ω⟩,(.inr ⟨ω,rfl⟩)⟩)))))
   ·
    exact He [(6,Cy (Bq r.waits) k,.none),(8,_,.none)] [3,4,5,7,8,9,10] ⟨Hs k r.waits.length,Eg (Ra hp hg.1 hg.2 ω hx23),trivial⟩ (Ae 15 (Dm ((k:Int)+1) ((k+1:Nat):Int) (Ae 2 (Mr 50 52 3 n (λxi=>Bc ((Gx p r c k).getD xi Rl.none)) (λxi=>Bc ((Gx p r c (k+1)).getD xi Rl.none)) (λx9 hx9=>by rw[Tb hx23]) (Fu [3,4,5,7,8] [(50,50)] 51 0 hA0 [(52,3,n,(λxi=>Bc ((Gx p r c (k+1)).getD xi Rl.none)))] ⟨(Fp λ_ _=>rfl),trivial⟩ (hJ1 _ _ (by omega:r.waits.length-(k+1)<r.waits.length-k) ⟨k+1,n,ω,rfl,⟨by rw[Tb hx23];omega,ω⟩,(.inr ⟨ω,rfl⟩)⟩))))))
  ·
   exact Ae 12 (Yw 50 [6] 52 3 n (λxi=>Bc ((Gx p r c k).getD xi Rl.none)) (Fp λ_ _=>rfl) (Ae 1 (Fz (.sl 3 n (λxi=>Bc ((Gx p r c k).getD xi Rl.none))) (by have hke:k=r.waits.length:=(ω);subst hke;rw[uQ,if_neg (by rw[Kq];omega),hFk.1];rfl))))
theorem dB (p:Pr) (r:Rv) (c:Cs) (hp:Kd p) (hr:Wr r) (hg:Nz p r c):AF Tryz.prog 20 [Ev p,Hd r,Ho c] (Qu (Kq p r c)):=
 sR (Zw p r c hp hr hg) rfl (λ_ _ _ _ h=>h) λ_ _ h=>h.relO
end Go.Proofs.YtldnjomacnjhnaaGreat
namespace Go.Proofs.YtldnjomacnjhnaaGreat
open Go.RowKit
theorem vP (l:List Rl) (hn:l.length<=1000000):AF Tryz.prog 19 [Qu l,Qu l] (.bool true):=by
 refine Ch Tryz.func19 rfl λB D0 hA0=>?_
 refine Ae 15 (Kf 10 (!decide (((l).length:Int)=((l).length:Int))) false (congrArg (!·) (decide_eq_true rfl)) (Ae 10 (Mi [0,1,5] l.length (λi=>True) (λi=>⟨[(0,Qu l),(1,Qu l),(5,.int (i:Int))],[],0,26⟩) trivial (λi hin hFi J1 hJ1=>?_))))
 refine Ae 9 (Em 14 ((i:Int)<((l).length:Int)) (λhx1 hx1d=>?_) (λhx1 hx1d=>?_))
 ·
  exact Ae 6 (He [(2,Cy (Qu l) i,.none),(6,Cy (Qu l) i,.none),(8,.bool (!(decide (((l).getD i Rl.none).spare=((l).getD i Rl.none).spare/\((l).getD i Rl.none).wait=((l).getD i Rl.none).wait/\((l).getD i Rl.none).rise=((l).getD i Rl.none).rise))),.none)] [0,1,5,25] ⟨Hs i ((l).length),Hs i ((l).length),Bb (Sz 52 52 (.tmp 20) (.tmp 24) κ _ _ κ κ κ (decide (((l).getD i Rl.none).spare=((l).getD i Rl.none).spare/\((l).getD i Rl.none).wait=((l).getD i Rl.none).wait/\((l).getD i Rl.none).rise=((l).getD i Rl.none).rise)) (mG _ _ _ _ _ _)),trivial⟩ (Ae 1 (Kf 25 (!(decide (((l).getD i Rl.none).spare=((l).getD i Rl.none).spare/\((l).getD i Rl.none).wait=((l).getD i Rl.none).wait/\((l).getD i Rl.none).rise=((l).getD i Rl.none).rise))) false (congrArg (!·) (decide_eq_true ⟨rfl,rfl,rfl⟩)) (Ae 6 (Dm ((i:Int)+1) ((i+1:Nat):Int) (Ae 2 (Ja [0,1,5] (hJ1 ω trivial))))))))
 ·
  exact Ae 12 (Gt)
theorem Yo (p:Pr) (r:Rv) (c:Cs) (hl:∀a∈p.acts,Cv a.len) (hf:Cv r.flight) (hcs:Py c):AF Tryz.prog 5 [Ev p,Hd r,Ho c] (.bool true):=by
 refine Ch Tryz.func5 rfl λB D0 hA0=>?_
 refine Ae 12 (Df (Aab p 4 5 ⟨δ,δ⟩ ⟨δ,δ⟩) (Ae 2 (Yx 12 (bP (Aeg p 4 5)) (λhx1=>?_) (λhx1=>?_))))
 ·
  refine Ae 1 (Df (Aac r) (Ae 4 (Yx 16 (bP (dF r)) (λhx2=>?_) (λhx2=>?_))))
  ·
   refine Ae 8 ?_
   refine Ea (bP (Fv p c)) (λhx3=>?_) (λhx3=>?_)
   ·
    refine Ea (bP (Mw r)) (λhx4=>?_) (λhx4=>?_)
    ·
     exact Df (Qy p r c (Uc (Gi hx1) δ δ hl) (dF.inn (Gi hx2) hf) hcs ⟨Gi hx3,Gi hx4⟩) (Ae 12 (Df (Tw p c (Uc (Gi hx1) δ δ hl) hcs) (Ae 2 (Kf 29 (!bP (Fv p c)) false (nt hx3) (Ae 1 (Df (Tk r (dF.inn (Gi hx2) hf)) (Ae 4 (Kf 33 (!bP (Mw r)) false (nt hx4) (Ae 12 (Df (dB p r c (Uc (Gi hx1) δ δ hl) (dF.inn (Gi hx2) hf) ⟨Gi hx3,Gi hx4⟩) (Df (vP (Kq p r c) (Nat.le_trans (oG (Gi hx4) c) δ)) (Ae 2 (Df Mt (Ae 5 (Gt)))))))))))))))
    ·
     exact Df (Tl p r c (Uc (Gi hx1) δ δ hl) (dF.inn (Gi hx2) hf) hcs λg=>Tz hx4 g.2) (Ae 12 (Df (Tw p c (Uc (Gi hx1) δ δ hl) hcs) (Ae 2 (Kf 29 (!bP (Fv p c)) false (nt hx3) (Ae 1 (Df (Tk r (dF.inn (Gi hx2) hf)) (Ae 4 (Kf 33 (!bP (Mw r)) true (nf hx4) (Ae 11 (Df Mt (Ae 6 (Gt))))))))))))
   ·
    exact Df (Tl p r c (Uc (Gi hx1) δ δ hl) (dF.inn (Gi hx2) hf) hcs λg=>Tz hx3 g.1) (Ae 12 (Df (Tw p c (Uc (Gi hx1) δ δ hl) hcs) (Ae 2 (Kf 29 (!bP (Fv p c)) true (nf hx3) (Ae 17 (Df Mt (Ae 6 (Gt))))))))
  ·
   exact Ae 3 (Df Mt (Ae 5 (Gt)))
 ·
  exact Ae 9 (Df Mt (Ae 5 (Gt)))
end Go.Proofs.YtldnjomacnjhnaaGreat
namespace Go.Proofs.YtldnjomacnjhnaaGreat.Open
open Go.ChangeShapes Go.WideShapes Go.ChangeAt Go.RowKit Go.Deep
section
variable {H:Type} {enc:TypeId×Value->H} {W:World}
theorem Aep:Tryz.prog.cellsOf 3=1:=by kernel_rfl
theorem fK {a0:Option Addr} {l0 c0 fuel:Nat} {y:DataW H×List MemPlace} (h:DataW.trod enc Tryz.prog W 0 (λ_=>true) true fuel 23 [.slice a0 l0 c0]=some y):∃l:List Int,l.length=l0/\Cc W 0 W.heap.size 1 (.slice a0 l0 c0) l0 (l.flatMap λx=>[.int .i64 x])/\l0<=c0:=by
 have hc:=nU Tryz.underlying23 h
 obtain⟨lh,g1,g2,g3,_⟩:=Mp Tryz.underlying23 Aep δ h
 obtain⟨Hm,H1,H2⟩:=Vl (cells:=λv:Int=>[.int .i64 v]) lh (λcs hc=>by obtain⟨hl,n,y,ht⟩:=g2 cs hc;obtain⟨k,e,_⟩:=Il ht;exact⟨k,e⟩)
 exact⟨Hm,ω,by rw[<-H2];exact g3,hc⟩
theorem open_resv {v:Value} {d:DataW H} {p:List MemPlace} {base:Nat} (hv:Value.okWide Tryz.prog W .any base 25 v) (h:DataW.Trod enc Tryz.prog W 0 (λ_=>true) true 25 v d p):
  ∃r:Rv,Cv r.flight/\∀E:Bo,E.w=W->(∀b,b<W.heap.size->E.D b)->VR E (Hd r) v:=by
 obtain⟨v0,v1,v2,v3,y0,y1,y2,y3,n,rfl,_,_,h0,h1,h2,h3⟩:=Go.Joins.open_agg4 Tryz.underlying25 κ κ hv h
 obtain⟨a0,l0,c0,e0⟩:=Go.Joins.slice_form Tryz.underlying22 h0
 obtain rfl:v0= .slice a0 l0 c0:=by simpa using e0
 obtain⟨k1,e1,f1⟩:=Il h1
 obtain⟨a2,l2,c2,e2⟩:=Go.Joins.slice_form Tryz.underlying23 h2
 obtain rfl:v2= .slice a2 l2 c2:=by simpa using e2
 obtain⟨a3,l3,c3,e3⟩:=Go.Joins.slice_form Tryz.underlying23 h3
 obtain rfl:v3= .slice a3 l3 c3:=by simpa using e3
 have hc:=nU Tryz.underlying22 h0
 obtain⟨lh,g1,g2,g3,_⟩:=Mp Tryz.underlying22 AaB δ h0
 obtain⟨Hm,H1,H2⟩:=Vl (cells:=λv:V3=>[.int .i64 v.x,.int .i64 v.y,.int .i64 v.z]) lh (λcs hc=>by obtain⟨hl,n,y,ht⟩:=g2 cs hc;exact bR hl ht)
 have hL:Hm.length=l0:=by omega
 subst hL
 obtain⟨wl,rfl,w1,w2⟩:=fK h2
 obtain⟨rl,rfl,r1,r2⟩:=fK h3
 obtain rfl:v1= .int .i64 k1:=by simpa using e1
 have g3':Cc W 0 W.heap.size 3 (.slice a0 Hm.length c0) Hm.length (Iz Hm):=by unfold Iz;rw[<-H2];exact g3
 have Dh:∀{a:Option Addr} {c:Nat} {l:List Int} {E:Bo},Cc W 0 W.heap.size 1 (.slice a l.length c) l.length (l.flatMap λx=>[.int .i64 x])->l.length<=c->E.w=W->(∀b,b<W.heap.size->E.D b)->VR E (Bq l) (.slice a l.length c):=λ {a c l E} hs hc hw hD=> .slc _ _ _ _ _ _ hc (Og hs hw (λb hb=>hD b hb.2) λi j hi hj=>by
  obtain rfl:j=0:=by omega
  have:=Ml (λx:Int=>[Value.int .i64 x]) 1 (λ_=>rfl) l i 0 0 hi ω
  rw[this]
  exact .lit _ _)
 refine⟨⟨Hm,k1,wl,rl⟩,f1,λE hw hD=> .agg _ _ _ rfl λi hi=>?_⟩
 have h3:i<4:=hi
 match i,h3 with
 |0,_=>exact .slc _ _ _ _ _ _ hc (vI g3' hw λb hb=>hD b hb.2)
 |1,_=>exact .lit _ _
 |2,_=>exact Dh w1 w2 hw hD
 |3,_=>exact Dh r1 r2 hw hD
end
end Go.Proofs.YtldnjomacnjhnaaGreat.Open
namespace Go.Proofs.YtldnjomacnjhnaaGreat
end Go.Proofs.YtldnjomacnjhnaaGreat
namespace Go.Proofs.YtldnjomacnjhnaaGreat.SR
open Go.ChangeShapes Go.WideShapes Go.ChangeAt Go.RowKit Go.Deep
theorem own:ownKnob Tryz.prog.godebug=none:=by kernel_rfl
theorem jD:laidOutB Tryz.prog=true:=by kernel_rfl
theorem Aex (os:Os) (started:os.Started) (H:Type) (enc:TypeId×Value->H):
  ReturnsInHanded {} Tryz.checked os 5 .any (λw args=>Rows.spareReliefsSpec.pre enc Tryz.prog Tryz.f5 [] false w args/\sizedMet enc Tryz.prog Tryz.f5 (OpenSpec.ofChange Rows.spareReliefsSpec) false w args)
   (Rows.spareReliefsSpec.post enc Tryz.prog Tryz.f5 false true false false):=by
 refine returnsInHanded_of_change (C:=Tryz.checked) own started κ Tryz.func5
  (by
   obtain⟨w,tape,i,h1,h2,h3,h4,⟨⟨hp,_⟩,hs⟩,h5⟩:=ChangeSpec.witness_shaped (enc:=enc) (C:=Tryz.checked) (os:=os) (f:=5) (fn:=Tryz.f5) (s:=Rows.spareReliefsSpec) (conds:=[]) (apart:=false) (X:=λ_ _=>True) false (World.doorLaid Tryz.prog 400 os) #[.agg #[.slice none 0 0,.slice none 0 0,.slice none 0 0],.agg #[.slice none 0 0,.int .i64 0,.slice none 0 0,.slice none 0 0],.agg #[.int .i64 0,.int .i64 0]] 8 rfl (World.shaped_of_RefB κ κ) κ κ κ trivial
   exact⟨w,tape,i,h1,h2,h3,h4,⟨hp,hs⟩,h5⟩) ?_
 intro W base args ds gs before hval0 hW _ _
 have hval:∀(j:Nat) t v,Tryz.f5.params[j]?=some t->args[j]?=some v->Value.okWide Tryz.prog W .any base t v:=hval0
 have hW':=hW
 obtain⟨p,q,hA0,hV,rfl,hfz,hnd⟩:=hW
 have hA:DataW.TrodAll enc Tryz.prog W 0 (λ_=>true) true Tryz.f5.params.toList args.toList ds p:=hA0
 rw[Tryz.params5] at hA hval
 obtain⟨v0,vs0,d0,ds0,p0,q0,hargs,rfl,rfl,h0,r0⟩:=trodAll_cons hA
 obtain⟨v1,vs1,d1,ds1,p1,q1,rfl,rfl,rfl,h1,r1⟩:=trodAll_cons r0
 obtain⟨v2,vs2,d2,ds2,p2,q2,rfl,rfl,rfl,h2,r2⟩:=trodAll_cons r1
 obtain⟨rfl,rfl,rfl⟩:=trodAll_nil r2
 obtain rfl:args=#[v0,v1,v2]:=by cases args;simp_all
 obtain⟨rfl,rfl⟩:=trodVars_none hV
 have k0:=h0
 have k1:=h1
 have k2:=h2
 have lt0:∀x∈p0,x.block<W.heap.size:=by obtain⟨m,hm⟩:=k0;exact DataW.trod_lt m _ _ _ hm
 have lt1:∀x∈p1,x.block<W.heap.size:=by obtain⟨m,hm⟩:=k1;exact DataW.trod_lt m _ _ _ hm
 have lt2:∀x∈p2,x.block<W.heap.size:=by obtain⟨m,hm⟩:=k2;exact DataW.trod_lt m _ _ _ hm
 obtain⟨vn0,vh0,va0,pr,rfl,hp0,hsn0,hsa_pr⟩:=Open.open_prog2 (hval 0 31 v0 rfl rfl) h0
 obtain⟨rv,f_rv,hr1⟩:=Open.open_resv (hval 1 25 v1 rfl rfl) h1
 obtain⟨cs,rfl,hcs_cs⟩:=Open.open_case (hval 2 33 v2 rfl rfl) h2
 clear hA0 hval0
 refine((Yo pr rv cs (λa ha=>(hsa_pr a ha).2) f_rv hcs_cs).call W #[.agg #[vn0,vh0,va0],v1,.agg #[.int .i64 cs.craft,.int .i64 cs.act]] rfl (λE hw hD i hi=>?_)).mono λe W' ⟨he,bel⟩=>?_
 have hn:i<3:=hi
 match i,hn with
 |0,_=>exact Adt hp0 hw hD
 |1,_=>exact hr1 E hw hD
 |2,_=>exact .lit _ _
 subst he
 exact⟨_,rfl,_,_,_,[],_,[],hW',trodAll_mk1 (shut_bool Tryz.underlying4 _),(trodAll_cons_mk (Below.trod jD κ (of_decide_eq_true κ) k0 bel lt0) (trodAll_cons_mk (Below.trod jD κ (of_decide_eq_true κ) k1 bel lt1) (trodAll_cons_mk (Below.trod jD κ (of_decide_eq_true κ) k2 bel lt2) trodAll_mk0))),rfl,bel.frame _,λh=>by cases h⟩
theorem row_holds:Rows.SpareReliefsSaid:=
 OpenClaim.holds_of_wide 5 Tryz.f5 rfl rfl rfl rfl rfl rfl rfl ⟨rfl,rfl,rfl,rfl,rfl⟩ rfl rfl rfl rfl rfl κ Tryz.func5 κ
  (of_decide_eq_true κ) (by unfold Func.isWrapper;first|(rw[if_pos (by decide+kernel)];kernel_rfl)|(rw[if_neg (by decide+kernel)];exact⟨rfl,rfl⟩))
  (λos started H enc _=>Aex os started H enc)
end Go.Proofs.YtldnjomacnjhnaaGreat.SR