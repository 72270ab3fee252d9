/- Part 24 of the proof of SP.row_holds, joined by program: no condition beyond the row's own. -/
import Derived.Test.YtldnjomacnjhnaaGreatQ23
set_option maxRecDepth 100000
set_option maxHeartbeats 40000000
namespace Go.Proofs.YtldnjomacnjhnaaGreat
open Go.Proofs.Tryz
open Go.RowKit
abbrev Gc (r:Rv) (x:Rl):V3:=r.homes.getD x.spare.toNat V3.zero
abbrev Oc (p:Pr) (r:Rv) (c:Cs) (x:Rl):Nat:=Ld p c (Io p r c x.wait)
abbrev atR (p:Pr) (r:Rv) (c:Cs) (x:Rl):V3:=lM p c (Oc p r c x)
structure Aev (p:Pr) (r:Rv) (c:Cs) (x:Rl):Prop where
 sp:0<=x.spare/\x.spare<r.homes.length
 wait:∃k,k<r.waits.length/\x.wait=r.waits.getD k 0
 act:Oc p r c x<p.acts.length
 rise:∃u,u<r.rises.length/\x.rise=r.rises.getD u 0
 l1:Hs (Gc r x) x.rise=true
 l2:Hs (atR p r c x) x.rise=true
theorem pH {r:Rv} {w:Int} {v:V3} {i:Nat} {x:Rl}:∀q,x∈eP r w v i q↔∃u,u<q/\x=⟨(i:Int),w,r.rises.getD u 0⟩/\Hs (r.homes.getD i V3.zero) (r.rises.getD u 0)=true/\Hs v (r.rises.getD u 0)=true
 |0=>⟨λh=>(by cases h),λ⟨u,h,_⟩=>absurd h (Nat.not_lt_zero u)⟩
 |q+1=>by
  rw[eP,List.mem_append,pH q]
  constructor
  rintro(⟨u,h1,h2⟩|h)
  exact⟨u,ω,h2⟩
  split at h
  rename_i hl
  rw[Bool.and_eq_true] at hl
  exact⟨q,Nat.lt_succ_self q,List.mem_singleton.1 h,hl.1,hl.2⟩
  cases h
  rintro⟨u,h1,h2,h3,h4⟩
  by_cases e:u=q
  subst e
  rw[h3,h4]
  exact .inr (List.mem_singleton.2 h2)
  exact .inl ⟨u,ω,h2,h3,h4⟩
theorem pE {r:Rv} {w:Int} {v:V3} {o:List Nat} {x:Rl}:∀n,x∈lC r w v o n↔∃m,m<n/\x∈eP r w v (o.getD m 0) r.rises.length
 |0=>⟨λh=>(by cases h),λ⟨u,h,_⟩=>absurd h (Nat.not_lt_zero u)⟩
 |n+1=>by
  rw[lC,List.mem_append,pE n]
  constructor
  rintro(⟨u,h1,h2⟩|h)
  exact⟨u,ω,h2⟩
  exact⟨n,Nat.lt_succ_self n,h⟩
  rintro⟨u,h1,h2⟩
  by_cases e:u=n
  subst e;exact .inr h2
  exact .inl ⟨u,ω,h2⟩
theorem pJ {p:Pr} {r:Rv} {c:Cs} {x:Rl}:∀n,x∈Hh p r c n↔∃k,k<n/\Yk p r c k=true/\x∈lC r (r.waits.getD k 0) (Aj p r c k) (Aw r (Aj p r c k)) r.homes.length
 |0=>⟨λh=>(by cases h),λ⟨u,h,_⟩=>absurd h (Nat.not_lt_zero u)⟩
 |n+1=>by
  rw[Hh,List.mem_append,pJ n]
  constructor
  rintro(⟨u,h1,h2⟩|h)
  exact⟨u,ω,h2⟩
  split at h
  rename_i hl;exact⟨n,Nat.lt_succ_self n,hl,h⟩
  cases h
  rintro⟨u,h1,h2,h3⟩
  by_cases e:u=n
  subst e;rw[if_pos h2];exact .inr h3
  exact .inl ⟨u,ω,h2,h3⟩
theorem Qt {p:Pr} {r:Rv} {c:Cs} {x:Rl} (h:x∈Be p r c):Aev p r c x:=by
 obtain⟨k,hk,hb,h⟩:=(pJ _).1 h
 obtain⟨m,hm,h⟩:=(pE _).1 h
 obtain⟨u,hu,rfl,h1,h2⟩:=(pH _).1 h
 have ho:=Lw r (Aj p r c k) hm
 exact⟨⟨Int.natCast_nonneg _,by show ((_:Nat):Int)<_;omega⟩,⟨k,hk,rfl⟩,of_decide_eq_true hb,⟨u,hu,rfl⟩,h1,h2⟩
abbrev Ei (p:Pr) (c:Cs) (x:Rl):Int:=Bf p c+x.wait
abbrev Gu (p:Pr) (r:Rv) (c:Cs) (x:Rl):Int:=Bf p c+x.wait+r.flight
abbrev Gi (p:Pr) (r:Rv) (c:Cs) (x:Rl):Int:=Bz p.acts (Oc p r c x+1)
def Fr (p:Pr) (r:Rv) (c:Cs) (x:Rl):List Sg:=if 0<x.rise then bL (Gc r x) (atR p r c x) x.rise (Ei p c x) (Gu p r c x) else Gv (Gc r x) (atR p r c x) (Ei p c x) (Gu p r c x) 2
def Ck (r:Rv) (p:Pr) (c:Cs) (x:Rl):List Sg:=Gv (Gc r x) (Gc r x) 0 (Ei p c x) 0
def Dv (p:Pr) (r:Rv) (c:Cs) (x:Rl):List Sg:=Gv (atR p r c x) (atR p r c x) (Gu p r c x) (Gi p r c x) 0
abbrev Fa (p:Pr) (r:Rv) (c:Cs) (x:Rl):List Sg:=Ach p c.craft.toNat (Oc p r c x+1)
def relP (p:Pr) (r:Rv) (c:Cs) (x:Rl):List Sg:=Ck r p c x++Fr p r c x++Dv p r c x++Fa p r c x
structure Kb (p:Pr) (r:Rv) (c:Cs) (x:Rl):Prop where
 s0:0<Ei p c x/\Ei p c x<Gu p r c x/\Gu p r c x<=Gi p r c x/\Gi p r c x<=Bz p.acts p.acts.length/\Bz p.acts p.acts.length<=3600000
 q4:(Gu p r c x-Ei p c x)%4=0
 sp:0<=x.spare/\x.spare<r.homes.length
 wait:0<=x.wait/\x.wait<=3600000
 rise:0<=x.rise/\x.rise<=1048576
 act:c.act.toNat+1<=Oc p r c x/\Oc p r c x<p.acts.length
 hp:(Gc r x).pt=true
 ap:(atR p r c x).pt=true
 hu:((Gc r x).up x.rise).pt=true
 au:((atR p r c x).up x.rise).pt=true
 hov:Cb (Ck r p c x) (Gc r x) (Gc r x) 0 (Ei p c x)/\(Ck r p c x).length=1
 go:Cb (Fr p r c x) (Gc r x) (atR p r c x) (Ei p c x) (Gu p r c x)/\1<=(Fr p r c x).length/\(Fr p r c x).length<=3
 stay:Cb (Dv p r c x) (atR p r c x) (atR p r c x) (Gu p r c x) (Gi p r c x)/\(Dv p r c x).length<=1
 tail:Cb (Fa p r c x) (atR p r c x) ((Eo p p.acts.length).getD c.craft.toNat V3.zero) (Gi p r c x) (Bz p.acts p.acts.length)/\(Fa p r c x).length<=5*p.acts.length
 own:Cb (Jj p (Oc p r c x+1) c.craft.toNat) ((Eo p 0).getD c.craft.toNat V3.zero) (atR p r c x) 0 (Gi p r c x)
 app:Jj p p.acts.length c.craft.toNat=Jj p (Oc p r c x+1) c.craft.toNat++Fa p r c x
theorem wG {l:List Ac} {a:Int}:∀k i,Yr l a k i<i+k->a<=Bz l (Yr l a k i+1)
 |0,i,h=>by rw[Yr] at h;omega
 |k+1,i,h=>by
  rw[Yr] at h ⊢
  split
  assumption
  rename_i hn
  rw[if_neg hn] at h
  exact wG k (i+1) ω
theorem fO {p:Pr} (ho:Zn p) {j:Nat}:∀m,j+m<=p.acts.length->Bz p.acts j<=Bz p.acts (j+m)
 |0,_=>Int.le_refl _
 |m+1,h=>by
  have h1:=fO ho (j:=j) m ω
  have h2:=ho.len (j+m) ω
  rw[show j+(m+1)=j+m+1 from rfl,Bz];omega
theorem Vd {p:Pr} {r:Rv} {c:Cs} {x:Rl} (hc:Fb p c) (hr:Lo r) (h:Aev p r c x):Kb p r c x:=by
 have ho:=Ie hc.1
 obtain⟨_,c1,c2,c3,c4⟩:=hc
 obtain⟨⟨n1,n2,f1,f2,f4⟩,hh,hw,hs⟩:=hr
 obtain⟨k,hk,ek⟩:=h.wait
 obtain⟨u,hu,eu⟩:=h.rise
 have wk:=hw.2.2 k hk
 have wu:=hs.2.2 u hu
 have act:=h.act
 have hlo:c.act.toNat+1<=Oc p r c x:=(wH _ _).1
 have hge:Gu p r c x<=Gi p r c x:=wG _ _ (by have:=h.act;show Oc p r c x<_;omega)
 have hcr:c.craft.toNat<p.names.length:=by omega
 have e0:0<Bf p c:=nG ho (c.act.toNat+1) ω (Nat.succ_pos _)
 have e1:=(ho.ends p.acts.length (Nat.le_refl _)).2
 have e2:Gi p r c x<=Bz p.acts p.acts.length:=by
  have:=fO ho (j:=Oc p r c x+1) (p.acts.length-(Oc p r c x+1)) ω
  rwa [show Oc p r c x+1+(p.acts.length-(Oc p r c x+1))=p.acts.length by omega] at this
 have hp:(Gc r x).pt=true:=(hh x.spare.toNat (by have:=h.sp;omega)).1
 have ap:(atR p r c x).pt=true:=ho.to ω hcr
 have q4:(Gu p r c x-Ei p c x)%4=0:=by
  have:Int.tmod r.flight 4=0:=f4
  rw[Int.tmod_eq_emod_of_nonneg ω] at this
  show (Bf p c+x.wait+r.flight-(Bf p c+x.wait))%4=0
  omega
 have s1:0<Ei p c x:=by show 0<Bf p c+x.wait;omega
 have s2:Ei p c x<Gu p r c x:=by show Bf p c+x.wait<Bf p c+x.wait+r.flight;omega
 have ef:(Eo p (Oc p r c x+1)).getD c.craft.toNat V3.zero=atR p r c x:=uP p _ _
 have hov:=Nu (a:=Gc r x) (f:=0) (t:=Ei p c x) hp (Int.le_refl 0) ω ω
 have stay:=Nu (a:=atR p r c x) (f:=Gu p r c x) (t:=Gi p r c x) ap ω hge ω
 have tail:=pN ho hcr (k:=Oc p r c x+1) ω
 rw[ef] at tail
 have own:=Yg ho hcr (Oc p r c x+1) ω
 rw[ef] at own
 have go:Cb (Fr p r c x) (Gc r x) (atR p r c x) (Ei p c x) (Gu p r c x)/\(Fr p r c x).length<=3:=by
  unfold Fr
  split
  exact⟨fH hp ap h.l1 h.l2 ω s2 ω q4,by rw[bM];exact Nat.le_refl _⟩
  exact⟨Xy (.inl rfl) hp ap ω s2 ω,by have:=Iw (Gc r x) (atR p r c x) (Ei p c x) (Gu p r c x) 2;omega⟩
 refine⟨⟨s1,s2,hge,e2,e1⟩,q4,h.sp,ω,ω,⟨hlo,act⟩,hp,ap,h.l1,h.l2,⟨hov,?_⟩,⟨go.1,go.1.pos s2,go.2⟩,⟨stay,Iw _ _ _ _ _⟩,⟨tail,?_⟩,own,zM _ ω⟩
 have h1:=hov.pos s1
 have h2:=Iw (Gc r x) (Gc r x) 0 (Ei p c x) 0
 show (Gv _ _ _ _ _).length=1
 omega
 have:=oX p c.craft.toNat (Oc p r c x+1) (p.acts.length-(Oc p r c x+1))
 show (sI _ _ _ _).length<=_
 omega
theorem Kb.chain {p:Pr} {r:Rv} {c:Cs} {x:Rl} (h:Kb p r c x):Cb (relP p r c x) (Gc r x) ((Eo p p.acts.length).getD c.craft.toNat V3.zero) 0 (Bz p.acts p.acts.length):=
 ((h.hov.1.app h.go.1).app h.stay.1).app h.tail.1
theorem Kb.len {p:Pr} {r:Rv} {c:Cs} {x:Rl} (h:Kb p r c x) (hn:p.acts.length<=5):2<=(relP p r c x).length/\(relP p r c x).length<=30:=by
 have h1:=h.hov.2
 have h2:=h.go.2
 have h3:=h.stay.2
 have h4:=h.tail.2
 unfold relP
 simp only[List.length_append]
 omega
theorem AcP (l:List Sg) (f t:Int) (hl:Dp l) (hok:Fu l) (hf:0<=f/\f<=3600000) (ht:0<=t/\t<=3600000) (hpos:0<(Jo l f t l.length).length):AF Tryz.prog 87 [Ai l,.int f,.int t] (lD (nC l f t)):=by
 have hln:=hok.2
 refine Bv func87 rfl λB D0 hA0=>?_
 refine Ab 12 (Xi 2 func116 (λ_ hD1=>?_))
 refine Ab 15 (qG (Ab 3 (vnm [6,7,13] ?_)))
 refine vrg 5 func139 (λsp2 sp2p sp2a sp2b _ hD3=>?_)
 refine Ab 8 (Vh [0,2,3,12,13,14] (λm s=>∃r n,r<=l.length/\m=l.length-r/\(n=(Jo l f t r).length/\Yy l f t r/\n<=r)/\(((n=0)/\s=⟨[(0,.yld 5),(2,.ptr 3 0),(3,.ptr 4 0),(12,Ai l),(13,.int ((l).length:Int)),(14,.int (r:Int))],[(0,.box 54 [.lit (.slice none 0 0)]),(1,.box 37 [.int 0]),(2,.box 54 [Ai l]),(3,.box 3 [.int f]),(4,.box 3 [.int t]),(5,.loop .ready none sp2 [(6,.ptr 0 0),(7,.ptr 1 0),(13,.fn 139 [.ptr 2 0,.ptr 3 0,.ptr 4 0])] 23)],6,62⟩)\/((0<n)/\s=⟨[(0,.yld 5),(2,.ptr 3 0),(3,.ptr 4 0),(12,Ai l),(13,.int ((l).length:Int)),(14,.int (r:Int))],[(0,.box 54 [.osl 50 6 n]),(1,.box 37 [.int 0]),(2,.box 54 [Ai l]),(3,.box 3 [.int f]),(4,.box 3 [.int t]),(5,.loop .ready none sp2 [(6,.ptr 0 0),(7,.ptr 1 0),(13,.fn 139 [.ptr 2 0,.ptr 3 0,.ptr 4 0])] 23),(50,.vec 81 6 n (λxi=>Db ((Jo l f t r).getD xi Sg.none)))],51,62⟩))) l.length ⟨0,0,Nat.zero_le _,rfl,⟨rfl,λj hj=>absurd hj (Nat.not_lt_zero j),Nat.le_refl _⟩,(.inl ⟨rfl,κ⟩)⟩ ?_)
 rintro _ _ ⟨r,n,hrn,rfl,hFr,(⟨hr0,rfl⟩|⟨hr0,rfl⟩)⟩ J1 hJ1
 ·
  refine Ab 6 (Em 15 ((r:Int)<((l).length:Int)) (λhx4 hx4d=>?_) (λhx4 hx4d=>?_))
  ·
   refine Ab 5 ?_
   have hso:=(hok.1 r ω).1
   have hs:=hl.2 r
   have hh:=hso.1
   unfold Ko at hh
   have hA:pA l f r=max f ((l).getD r Sg.none).f:=rfl
   have hB:pB l t r=min t ((l).getD r Sg.none).t:=rfl
   have hD:pD ((l).getD r Sg.none)=((l).getD r Sg.none).t-((l).getD r Sg.none).f:=rfl
   refine Ab 2 (Gk r ((l).length) (Ab 6 (Gw [(3,.int (max f (((l).getD r Sg.none).f)),.none),(7,.int (min t (((l).getD r Sg.none).t)),.none)] [0,2,3,6,7,8,12,13,14] ⟨Bb (kQ (.tmp 18) (.tmp 20) #[3,3] κ f (((l).getD r Sg.none).f) κ κ),Bb (vK (.tmp 22) (.tmp 24) #[3,3] κ t (((l).getD r Sg.none).t) κ κ),trivial⟩ (Ab 9 (Em 28 (min t (((l).getD r Sg.none).t)<=max f (((l).getD r Sg.none).f)) (λhx5 hx5d=>?_) (λhx5 hx5d=>?_))))))
   ·
    exact Ab 6 (Dt ((r:Int)+1) ((r+1:Nat):Int) (Ab 2 (Fx [0,2,3,12,13,14] [(0,0),(1,1),(2,2),(3,3),(4,4),(5,5)] 6 6 hD3 [] trivial (hJ1 _ _ (by omega:l.length-(r+1)<l.length-r) ⟨r+1,0,ω,rfl,⟨by rw[Pn ω];omega,bR ω hFr.2.1,ω⟩,(.inl ⟨ω,rfl⟩)⟩))))
   ·
    refine Ab 3 ?_
    have hlt:pA l f r<pB l t r:=by omega
    refine Ab 6 (Dt (((l).getD r Sg.none).t-((l).getD r Sg.none).f) (((l).getD r Sg.none).t-((l).getD r Sg.none).f) (Ab 4 ?_))
    refine Dj (Ww ((l).getD r Sg.none) (pA l f r) (pB l t r)) (λhx6=>?_) (λhx6=>?_)
    ·
     refine Gw [(6,.int (max f (((l).getD r Sg.none).f)-((l).getD r Sg.none).f),.none),(9,.int (min t (((l).getD r Sg.none).t)-max f (((l).getD r Sg.none).f)),.none),(11,_,.none),(14,_,.none),(16,_,.none),(17,_,.none),(18,_,.none)] [0,2,3,10,11,12,13,14] ⟨Bb (Br (v:= .int .i64 (IntKind.wrap .i64 (max f (((l).getD r Sg.none).f)-((l).getD r Sg.none).f))) (v':= .int .i64 (max f (((l).getD r Sg.none).f)-((l).getD r Sg.none).f)) _ κ rfl κ (λw=>by kernel_rfl) (congrArg (Value.int .i64) ((IntWalk.i64_in _ ω).trans ω))),Bb (Br (v:= .int .i64 (IntKind.wrap .i64 (min t (((l).getD r Sg.none).t)-max f (((l).getD r Sg.none).f)))) (v':= .int .i64 (min t (((l).getD r Sg.none).t)-max f (((l).getD r Sg.none).f))) _ κ rfl κ (λw=>by kernel_rfl) (congrArg (Value.int .i64) ((IntWalk.i64_in _ ω).trans ω))),En (Mm ((l).getD r Sg.none) (pA l f r-((l).getD r Sg.none).f) (pB l t r-pA l f r) (pD ((l).getD r Sg.none)) hs hso (Cc ω) (Cc ω) (Cc ω) ω),En (He _ hs.o.1 hs.o.2),En (Gz (pD ((l).getD r Sg.none)) 5 (Cc ω).1 (Cc ω).2 ω (λj hj=>Fc (Cc ω) ω)),En (Km ((l).getD r Sg.none).o (pD ((l).getD r Sg.none)^5) (Ij hs.o) (Fc (Cc ω) ω) ((Yh hs (Cc ω)).fit ω)),En (aT ((l).getD r Sg.none) (pA l f r) (pB l t r) hs hso ω ω hx6),trivial⟩ (Ab 6 (vyl 8 sp2p sp2a sp2b (λ_ _ hD7=>?_)))
     refine Ab 9 (vrb (Ab 18 (vre ?_)))
     refine Ab 9 (vrl ?_)
     exact Ab 3 (Ev (.lit (.tuple #[.slice none 0 0,.int .i64 7])) (Pu (uG (j:=r) ω hlt hx6) δ).symm)
    ·
     refine Gw [(6,.int (max f (((l).getD r Sg.none).f)-((l).getD r Sg.none).f),.none),(9,.int (min t (((l).getD r Sg.none).t)-max f (((l).getD r Sg.none).f)),.none),(11,_,.none),(14,_,.none),(16,_,.none),(17,_,.none),(18,_,.none)] [0,2,3,10,11,12,13,14] ⟨Bb (Br (v:= .int .i64 (IntKind.wrap .i64 (max f (((l).getD r Sg.none).f)-((l).getD r Sg.none).f))) (v':= .int .i64 (max f (((l).getD r Sg.none).f)-((l).getD r Sg.none).f)) _ κ rfl κ (λw=>by kernel_rfl) (congrArg (Value.int .i64) ((IntWalk.i64_in _ ω).trans ω))),Bb (Br (v:= .int .i64 (IntKind.wrap .i64 (min t (((l).getD r Sg.none).t)-max f (((l).getD r Sg.none).f)))) (v':= .int .i64 (min t (((l).getD r Sg.none).t)-max f (((l).getD r Sg.none).f))) _ κ rfl κ (λw=>by kernel_rfl) (congrArg (Value.int .i64) ((IntWalk.i64_in _ ω).trans ω))),En (Mm ((l).getD r Sg.none) (pA l f r-((l).getD r Sg.none).f) (pB l t r-pA l f r) (pD ((l).getD r Sg.none)) hs hso (Cc ω) (Cc ω) (Cc ω) ω),En (He _ hs.o.1 hs.o.2),En (Gz (pD ((l).getD r Sg.none)) 5 (Cc ω).1 (Cc ω).2 ω (λj hj=>Fc (Cc ω) ω)),En (Km ((l).getD r Sg.none).o (pD ((l).getD r Sg.none)^5) (Ij hs.o) (Fc (Cc ω) ω) ((Yh hs (Cc ω)).fit ω)),En (aU ((l).getD r Sg.none) (pA l f r) (pB l t r) hs hso ω ω hx6),trivial⟩ (Ab 6 (vyl 8 sp2p sp2a sp2b (λ_ _ hD8=>?_)))
     refine Ab 9 (vrb (Ab 14 (Ca (.osl 9 6 1) (.new 9 (.vec 81 6 1 (λ_=>Db (Ic ((l).getD r Sg.none) (pA l f r) (pB l t r))))) (Ak 54 1 #[(0,(.tmp 19))] κ underlying54 6 sizeOf81 _ zeroValue81 κ β β β 9 [.int ((Ic ((l).getD r Sg.none) (pA l f r) (pB l t r)).f),.int ((Ic ((l).getD r Sg.none) (pA l f r) (pB l t r)).t),.int ((Ic ((l).getD r Sg.none) (pA l f r) (pB l t r)).o),Bl ((Ic ((l).getD r Sg.none) (pA l f r) (pB l t r)).x),Bl ((Ic ((l).getD r Sg.none) (pA l f r) (pB l t r)).y),Bl ((Ic ((l).getD r Sg.none) (pA l f r) (pB l t r)).z)] κ (λ_=>Db (Ic ((l).getD r Sg.none) (pA l f r) (pB l t r))) κ) (Ca (.osl 10 6 1) (.newr 9 10 (.vec 81 6 1 (λxi=>Db ((Jo l f t (r+1)).getD xi Sg.none)))) (Cn (.tmp 18) (.tmp 20) 54 κ underlying54 6 96 (.agg #[.int .i64 0,.int .i64 0,.int .i64 0,.slice none 0 0,.slice none 0 0,.slice none 0 0]) κ κ δ 1 ω (λ_=>Db (Ic ((l).getD r Sg.none) (pA l f r) (pB l t r))) (λxi=>Db ((Jo l f t (r+1)).getD xi Sg.none)) 10 (λi hi=>by(obtain rfl:i=0:=(ω));show Db _=Db _;rw[Nl hlt,List.eq_nil_of_length_eq_zero (by omega:(Jo l f t r).length=0)];rfl) (λi hi j hj=>match j,hj with|0,_=>rfl|1,_=>rfl|2,_=>rfl|3,_=>rfl|4,_=>rfl|5,_=>rfl|_+6,h=>absurd h ω) (by unfold maxLen;omega) ω κ 9 81 κ κ) (Ab 3 (vre ?_))))))
     exact Ab 8 (Dt ((r:Int)+1) ((r+1:Nat):Int) (Ab 2 (Fx [0,2,3,12,13,14] [(0,0),(1,1),(2,2),(3,3),(4,4),(5,5),(10,50)] 51 6 hD3 [(81,6,1,(λ_=>Db (Ic ((l).getD r Sg.none) (pA l f r) (pB l t r)))),(81,6,1,(λxi=>Db ((Jo l f t (r+1)).getD xi Sg.none)))] ⟨(Fv λ_ _=>rfl),(Fv λ_ _=>rfl),trivial⟩ (hJ1 _ _ (by omega:l.length-(r+1)<l.length-r) ⟨r+1,1,ω,rfl,⟨by rw[Nl hlt,List.length_append,List.length_singleton];omega,fL hx6 hFr.2.1,ω⟩,(.inr ⟨ω,rfl⟩)⟩))))
  ·
   refine Ab 5 (vrl ?_)
   refine Ab 2 ?_
   exfalso;have hql:r=l.length:=(ω);subst hql;omega
 ·
  refine Ab 6 (Em 15 ((r:Int)<((l).length:Int)) (λhx9 hx9d=>?_) (λhx9 hx9d=>?_))
  ·
   refine Ab 5 ?_
   have hso:=(hok.1 r ω).1
   have hs:=hl.2 r
   have hh:=hso.1
   unfold Ko at hh
   have hA:pA l f r=max f ((l).getD r Sg.none).f:=rfl
   have hB:pB l t r=min t ((l).getD r Sg.none).t:=rfl
   have hD:pD ((l).getD r Sg.none)=((l).getD r Sg.none).t-((l).getD r Sg.none).f:=rfl
   refine Ab 2 (Gk r ((l).length) (Ab 6 (Gw [(3,.int (max f (((l).getD r Sg.none).f)),.none),(7,.int (min t (((l).getD r Sg.none).t)),.none)] [0,2,3,6,7,8,12,13,14] ⟨Bb (kQ (.tmp 18) (.tmp 20) #[3,3] κ f (((l).getD r Sg.none).f) κ κ),Bb (vK (.tmp 22) (.tmp 24) #[3,3] κ t (((l).getD r Sg.none).t) κ κ),trivial⟩ (Ab 9 (Em 28 (min t (((l).getD r Sg.none).t)<=max f (((l).getD r Sg.none).f)) (λhx10 hx10d=>?_) (λhx10 hx10d=>?_))))))
   ·
    exact Ab 6 (Dt ((r:Int)+1) ((r+1:Nat):Int) (Ab 2 (Nh 50 81 6 n (λxi=>Db ((Jo l f t r).getD xi Sg.none)) (λxi=>Db ((Jo l f t (r+1)).getD xi Sg.none)) (λx9 hx9=>by rw[Pn ω]) (Fx [0,2,3,12,13,14] [(0,0),(1,1),(2,2),(3,3),(4,4),(5,5),(50,50)] 51 6 hD3 [(81,6,n,(λxi=>Db ((Jo l f t (r+1)).getD xi Sg.none)))] ⟨(Fv λ_ _=>rfl),trivial⟩ (hJ1 _ _ (by omega:l.length-(r+1)<l.length-r) ⟨r+1,n,ω,rfl,⟨by rw[Pn ω];omega,bR ω hFr.2.1,ω⟩,(.inr ⟨ω,rfl⟩)⟩)))))
   ·
    refine Ab 3 ?_
    have hlt:pA l f r<pB l t r:=by omega
    refine Ab 6 (Dt (((l).getD r Sg.none).t-((l).getD r Sg.none).f) (((l).getD r Sg.none).t-((l).getD r Sg.none).f) (Ab 4 ?_))
    refine Dj (Ww ((l).getD r Sg.none) (pA l f r) (pB l t r)) (λhx11=>?_) (λhx11=>?_)
    ·
     refine Gw [(6,.int (max f (((l).getD r Sg.none).f)-((l).getD r Sg.none).f),.none),(9,.int (min t (((l).getD r Sg.none).t)-max f (((l).getD r Sg.none).f)),.none),(11,_,.none),(14,_,.none),(16,_,.none),(17,_,.none),(18,_,.none)] [0,2,3,10,11,12,13,14] ⟨Bb (Br (v:= .int .i64 (IntKind.wrap .i64 (max f (((l).getD r Sg.none).f)-((l).getD r Sg.none).f))) (v':= .int .i64 (max f (((l).getD r Sg.none).f)-((l).getD r Sg.none).f)) _ κ rfl κ (λw=>by kernel_rfl) (congrArg (Value.int .i64) ((IntWalk.i64_in _ ω).trans ω))),Bb (Br (v:= .int .i64 (IntKind.wrap .i64 (min t (((l).getD r Sg.none).t)-max f (((l).getD r Sg.none).f)))) (v':= .int .i64 (min t (((l).getD r Sg.none).t)-max f (((l).getD r Sg.none).f))) _ κ rfl κ (λw=>by kernel_rfl) (congrArg (Value.int .i64) ((IntWalk.i64_in _ ω).trans ω))),En (Mm ((l).getD r Sg.none) (pA l f r-((l).getD r Sg.none).f) (pB l t r-pA l f r) (pD ((l).getD r Sg.none)) hs hso (Cc ω) (Cc ω) (Cc ω) ω),En (He _ hs.o.1 hs.o.2),En (Gz (pD ((l).getD r Sg.none)) 5 (Cc ω).1 (Cc ω).2 ω (λj hj=>Fc (Cc ω) ω)),En (Km ((l).getD r Sg.none).o (pD ((l).getD r Sg.none)^5) (Ij hs.o) (Fc (Cc ω) ω) ((Yh hs (Cc ω)).fit ω)),En (aT ((l).getD r Sg.none) (pA l f r) (pB l t r) hs hso ω ω hx11),trivial⟩ (Ab 6 (vyl 53 sp2p sp2a sp2b (λ_ _ hD12=>?_)))
     refine Ab 9 (vrb (Ab 18 (vre ?_)))
     refine Ab 9 (vrl ?_)
     exact Ab 3 (Ev (.lit (.tuple #[.slice none 0 0,.int .i64 7])) (Pu (uG (j:=r) ω hlt hx11) δ).symm)
    ·
     refine Gw [(6,.int (max f (((l).getD r Sg.none).f)-((l).getD r Sg.none).f),.none),(9,.int (min t (((l).getD r Sg.none).t)-max f (((l).getD r Sg.none).f)),.none),(11,_,.none),(14,_,.none),(16,_,.none),(17,_,.none),(18,_,.none)] [0,2,3,10,11,12,13,14] ⟨Bb (Br (v:= .int .i64 (IntKind.wrap .i64 (max f (((l).getD r Sg.none).f)-((l).getD r Sg.none).f))) (v':= .int .i64 (max f (((l).getD r Sg.none).f)-((l).getD r Sg.none).f)) _ κ rfl κ (λw=>by kernel_rfl) (congrArg (Value.int .i64) ((IntWalk.i64_in _ ω).trans ω))),Bb (Br (v:= .int .i64 (IntKind.wrap .i64 (min t (((l).getD r Sg.none).t)-max f (((l).getD r Sg.none).f)))) (v':= .int .i64 (min t (((l).getD r Sg.none).t)-max f (((l).getD r Sg.none).f))) _ κ rfl κ (λw=>by kernel_rfl) (congrArg (Value.int .i64) ((IntWalk.i64_in _ ω).trans ω))),En (Mm ((l).getD r Sg.none) (pA l f r-((l).getD r Sg.none).f) (pB l t r-pA l f r) (pD ((l).getD r Sg.none)) hs hso (Cc ω) (Cc ω) (Cc ω) ω),En (He _ hs.o.1 hs.o.2),En (Gz (pD ((l).getD r Sg.none)) 5 (Cc ω).1 (Cc ω).2 ω (λj hj=>Fc (Cc ω) ω)),En (Km ((l).getD r Sg.none).o (pD ((l).getD r Sg.none)^5) (Ij hs.o) (Fc (Cc ω) ω) ((Yh hs (Cc ω)).fit ω)),En (aU ((l).getD r Sg.none) (pA l f r) (pB l t r) hs hso ω ω hx11),trivial⟩ (Ab 6 (vyl 53 sp2p sp2a sp2b (λ_ _ hD13=>?_)))
     refine Ab 9 (vrb (Ab 14 (Ca (.osl 54 6 1) (.new 54 (.vec 81 6 1 (λ_=>Db (Ic ((l).getD r Sg.none) (pA l f r) (pB l t r))))) (Ak 54 1 #[(0,(.tmp 19))] κ underlying54 6 sizeOf81 _ zeroValue81 κ β β β 54 [.int ((Ic ((l).getD r Sg.none) (pA l f r) (pB l t r)).f),.int ((Ic ((l).getD r Sg.none) (pA l f r) (pB l t r)).t),.int ((Ic ((l).getD r Sg.none) (pA l f r) (pB l t r)).o),Bl ((Ic ((l).getD r Sg.none) (pA l f r) (pB l t r)).x),Bl ((Ic ((l).getD r Sg.none) (pA l f r) (pB l t r)).y),Bl ((Ic ((l).getD r Sg.none) (pA l f r) (pB l t r)).z)] κ (λ_=>Db (Ic ((l).getD r Sg.none) (pA l f r) (pB l t r))) κ) (Ca (.osl 55 6 (n+1)) (.grow2 50 54 55 (.vec 81 6 (n+1) (λxi=>Db ((Jo l f t (r+1)).getD xi Sg.none)))) (Co (.tmp 18) (.tmp 20) 54 κ underlying54 6 96 (.agg #[.int .i64 0,.int .i64 0,.int .i64 0,.slice none 0 0,.slice none 0 0,.slice none 0 0]) κ κ δ n 1 ω (λxi=>Db ((Jo l f t r).getD xi Sg.none)) (λ_=>Db (Ic ((l).getD r Sg.none) (pA l f r) (pB l t r))) (λxi=>Db ((Jo l f t (r+1)).getD xi Sg.none)) 55 ω (by unfold maxLen;omega) (λi hi=>by show Db _=Db _;rw[Nl hlt,Ls,if_pos ω]) (λi hi=>by(obtain rfl:i=0:=(ω));show Db _=Db _;rw[Nl hlt,Ls,if_neg ω,show n+0-(Jo l f t r).length=0 by omega];rfl) (λi hi j hj=>match j,hj with|0,_=>rfl|1,_=>rfl|2,_=>rfl|3,_=>rfl|4,_=>rfl|5,_=>rfl|_+6,h=>absurd h ω) 50 κ κ 54 81 κ κ) (Ab 3 (vre ?_))))))
     exact Ab 8 (Dt ((r:Int)+1) ((r+1:Nat):Int) (Ab 2 (Fx [0,2,3,12,13,14] [(0,0),(1,1),(2,2),(3,3),(4,4),(5,5),(55,50)] 51 6 hD3 [(81,6,1,(λ_=>Db (Ic ((l).getD r Sg.none) (pA l f r) (pB l t r)))),(81,6,n+1,(λxi=>Db ((Jo l f t (r+1)).getD xi Sg.none)))] ⟨(Fv λ_ _=>rfl),(Fv λ_ _=>rfl),trivial⟩ (hJ1 _ _ (by omega:l.length-(r+1)<l.length-r) ⟨r+1,n+1,ω,rfl,⟨by rw[Nl hlt,List.length_append,List.length_singleton];omega,fL hx11 hFr.2.1,ω⟩,(.inr ⟨ω,rfl⟩)⟩))))
  ·
   refine Ab 5 (vrl ?_)
   exact Ab 9 (tC 50 0 0 81 6 n (λxi=>Db ((Jo l f t r).getD xi Sg.none)) (Fv λ_ _=>rfl) (Ab 1 (Ev (.tup [.sl 6 n (λxi=>Db ((Jo l f t r).getD xi Sg.none)),.int 0]) (by have hql:r=l.length:=(ω);subst hql;rw[vP (uH hFr.2.1),hFr.1]))))
theorem Ae6 (l:List Sg) (f t:Int) (hl:Dp l) (hok:Fu l) (hf:(l.getD 0 Sg.none).f<=f) (hft:f<t) (ht:t<=(l.getD (l.length-1) Sg.none).t):AF Tryz.prog 87 [Ai l,.int f,.int t] (lD (nC l f t)):=by
 have h0:=(hok.1 0 (by have:=hok.2;omega)).1.1
 have h1:=(hok.1 (l.length-1) (by have:=hok.2;omega)).1.1
 unfold Ko at h0 h1
 exact AcP l f t hl hok ω ω (Adn hok hf hft ht)
theorem wQ (l:List Sg) (f t:Int) (hl:Dp l) (hok:Fu l) (hf:(l.getD 0 Sg.none).f<=f) (hft:f<t) (ht:t<=(l.getD (l.length-1) Sg.none).t) (h:(nC l f t).2=0):AF Tryz.prog 52 [Ai l,.int f,.int t] (.tup [Ai (nC l f t).1,.int 0]):=by
 refine Bv func52 rfl λB D0 hA0=>?_
 exact Ab 9 (Bx (AcR l hl hok) (Ab 24 (Ip 24 (decide (f<(l.getD 0 Sg.none).f)) false (decide_eq_false ω) (Ab 4 (Ip 28 (decide (t<=f)) false (decide_eq_false ω) (Ab 5 (Ip 33 (decide ((l.getD (l.length-1) Sg.none).t<t)) false (decide_eq_false ω) (Ab 13 (Bx (by have:=Ae6 l f t hl hok hf hft ht;unfold lD at this;rwa [if_pos h] at this) (Ab 7 (Ff)))))))))))
theorem xG {s:Sg} (h:s.x.length<=6/\s.y.length<=6/\s.z.length<=6):RowsIn s:=⟨ω,ω,ω⟩
theorem AcN (a b:V3) (r f t:Int) (hv:Mb a b f t=true) (hq:(t-f)%4=0) (hr: -2097152<=r/\r<=2097152) (h1:(a.up r).pt=true) (h2:(b.up r).pt=true):AF Tryz.prog 50 [Gp a,Gp b,.int r,.int f,.int t] (.tup [Ai (bL a b r f t),.int 0]):=
 iV (vs:=[_,_,_,_,_]) λw=>(tY a.x a.y a.z b.x b.y b.z r f t w hv hq hr h1 h2).mono λ_ _ ⟨_,_,he,hp,hb⟩=>⟨_,he,hb,λ_ g1 g2=>Afp (kT hp g1 λb hb=>g2 b hb.1 hb.2) (.lit _ _)⟩
theorem uM (a b:V3) (f t k:Int):(bV a b f t k).1=Gv a b f t k:=by unfold bV Gv;split<;>rfl
theorem Ix {a b:V3} {f t:Int} (pa:a.pt=true) (pb:b.pt=true) (h0:0<=f) (h1:f<t) (h2:t<=3600000):Mb a b f t=true:=by
 unfold Mb Hp
 simp only[Bool.and_eq_true,decide_eq_true_eq]
 exact⟨⟨⟨⟨pa,pb⟩,h0⟩,h1⟩,h2⟩
theorem Abx {a b:V3} {f t:Int} (k:Int) (h:Mb a b f t=true):(bV a b f t k).2=0:=by unfold bV;rw[if_pos h]
theorem fB {a:V3} {f t:Int} (h:Mb a a f t=true):AF Tryz.prog 62 [Gp a,.int f,.int t] (.tup [Ai (Gv a a f t 0),.int 0]):=by
 have:=wV a f t
 rwa [uM,Abx 0 h] at this
theorem fA {a b:V3} {f t:Int} (h:Mb a b f t=true):AF Tryz.prog 49 [Gp a,Gp b,.int f,.int t] (.tup [Ai (Gv a b f t 2),.int 0]):=by
 have:=wU a b f t
 rwa [uM,Abx 2 h] at this
theorem Ml {a b:List Sg} (ha:Dp a) (hb:Dp b) (h:Nz a b=(a++b,0)):AF Tryz.prog 88 [Ai a,Ai b] (.tup [Ai (a++b),.int 0]):=by
 have h2:=iP a b ha hb (by rw[h])
 rwa [h] at h2
theorem bT (x y z x' y' z':Int) (w:World):(Op.equal 52 (.agg #[.int .i64 x,.int .i64 y,.int .i64 z]) (.agg #[.int .i64 x',.int .i64 y',.int .i64 z'])).run Tryz.prog w= .ok (decide (x=x'/\y=y'/\z=z')) w:=by
 have h55:=Tryz.runUnderlying52
 have h3:=Tryz.runUnderlying3
 have ha:=isAgg3
 have hin:Tryz.prog.stoodInHeld 52=false:=by kernel_rfl
 unfold Op.equal
 rw[show Op.maxDepth=9998+1+1 from rfl]
 unfold Op.equalIn
 simp[h55,part,ha,hin]
 unfold Op.equalIn
 simp[h3]
 by_cases h1:x=x'<;>by_cases h2:y=y'<;>by_cases h3:z=z'<;>simp[h1,h2,h3]
def Ya (l:List Rl) (x:Rl) (n:Nat):Prop:=∃q,q<n/\(l.getD q Rl.none).spare=x.spare/\(l.getD q Rl.none).wait=x.wait/\(l.getD q Rl.none).rise=x.rise
theorem We {l:List Rl} {x:Rl}:Ya l x l.length↔x∈l:=by
 constructor
 rintro⟨q,hq,h1,h2,h3⟩
 have e:l.getD q Rl.none=x:=by
  cases hx:l.getD q Rl.none;cases x;rw[hx] at h1 h2 h3;simp_all
 rw[<-e,List.getD_eq_getElem?_getD,List.getElem?_eq_getElem hq]
 exact List.getElem_mem hq
 intro h
 obtain⟨q,hq,rfl⟩:=List.getElem_of_mem h
 refine⟨q,hq,?_⟩
 simp[List.getD_eq_getElem?_getD,hq]
theorem mH (a:V3) (t:Int):AF Tryz.prog 54 [Gp a,.int t,.int t] (.lit (.slice none 0 0)):=by
 refine Bv func54 rfl λB D0 hA0=>?_
 exact Ab 12 (Ip 11 (decide (t=t)) true (decide_eq_true rfl) (Ab 10 (Ff)))
theorem Ey (a:V3) (f t:Int) (h:¬f=t) (hb:Mb a a f t=true):AF Tryz.prog 54 [Gp a,.int f,.int t] (Ai (Gv a a f t 0)):=by
 refine Bv func54 rfl λB D0 hA0=>?_
 exact Ab 12 (Ip 11 (decide (f=t)) false (decide_eq_false h) (Ab 10 (Bx (fB hb) (Ab 14 (Ff)))))
theorem lU (a b:List Sg) (pa:Dp a) (pb:Dp b) (na:0<a.length) (nb:0<b.length) (e1:Nz a b=(a++b,0)):AF Tryz.prog 53 [.sl 1 4 λxi=>[Ai a,Ai b,.lit (.slice none 0 0),.lit (.slice none 0 0)].getD xi .top] (.tup [Ai (a++b),.int 0]):=by
 have ln0:0<(a++b).length:=by simp only[List.length_append];omega
 refine Bv func53 rfl λB D0 hA0=>?_
 exact Ab 20 (wN 4 (Ab 13 (Gk 0 4 (Ab 8 (iJ ((a).length) (Ab 9 (qF (Ab 14 (Mx (.int .i64 1) (.int .i64 1) (Ab 16 (Gk 1 4 (Ab 8 (iJ ((b).length) (Ab 9 (iJ ((a).length) (Ab 9 (Bx (Ml pa pb e1) (Ab 24 (Mx (.int .i64 2) (.int .i64 2) (Ab 16 (Gk 2 4 (Ab 8 (qF (Ab 8 (Mx (.int .i64 3) (.int .i64 3) (Ab 16 (Gk 3 4 (Ab 8 (qF (Ab 8 (Mx (.int .i64 4) (.int .i64 4) (Ab 23 (Ff)))))))))))))))))))))))))))))))))
theorem lV (a b d:List Sg) (pa:Dp a) (pb:Dp b) (na:0<a.length) (nb:0<b.length) (e1:Nz a b=(a++b,0)) (pd:Dp d) (nd:0<d.length) (qd:Dp (a++b)) (e3:Nz (a++b) d=(a++b++d,0)):AF Tryz.prog 53 [.sl 1 4 λxi=>[Ai a,Ai b,.lit (.slice none 0 0),Ai d].getD xi .top] (.tup [Ai (a++b++d),.int 0]):=by
 have ln0:0<(a++b).length:=by simp only[List.length_append];omega
 have ln1:0<(a++b++d).length:=by simp only[List.length_append];omega
 refine Bv func53 rfl λB D0 hA0=>?_
 exact Ab 20 (wN 4 (Ab 13 (Gk 0 4 (Ab 8 (iJ ((a).length) (Ab 9 (qF (Ab 14 (Mx (.int .i64 1) (.int .i64 1) (Ab 16 (Gk 1 4 (Ab 8 (iJ ((b).length) (Ab 9 (iJ ((a).length) (Ab 9 (Bx (Ml pa pb e1) (Ab 24 (Mx (.int .i64 2) (.int .i64 2) (Ab 16 (Gk 2 4 (Ab 8 (qF (Ab 8 (Mx (.int .i64 3) (.int .i64 3) (Ab 16 (Gk 3 4 (Ab 8 (iJ ((d).length) (Ab 9 (iJ ((a++b).length) (Ab 9 (Bx (Ml qd pd e3) (Ab 24 (Mx (.int .i64 4) (.int .i64 4) (Ab 23 (Ff)))))))))))))))))))))))))))))))))))))
theorem lW (a b c:List Sg) (pa:Dp a) (pb:Dp b) (na:0<a.length) (nb:0<b.length) (e1:Nz a b=(a++b,0)) (pc:Dp c) (nc:0<c.length) (qc:Dp (a++b)) (e2:Nz (a++b) c=(a++b++c,0)):AF Tryz.prog 53 [.sl 1 4 λxi=>[Ai a,Ai b,Ai c,.lit (.slice none 0 0)].getD xi .top] (.tup [Ai (a++b++c),.int 0]):=by
 have ln0:0<(a++b).length:=by simp only[List.length_append];omega
 have ln1:0<(a++b++c).length:=by simp only[List.length_append];omega
 refine Bv func53 rfl λB D0 hA0=>?_
 exact Ab 20 (wN 4 (Ab 13 (Gk 0 4 (Ab 8 (iJ ((a).length) (Ab 9 (qF (Ab 14 (Mx (.int .i64 1) (.int .i64 1) (Ab 16 (Gk 1 4 (Ab 8 (iJ ((b).length) (Ab 9 (iJ ((a).length) (Ab 9 (Bx (Ml pa pb e1) (Ab 24 (Mx (.int .i64 2) (.int .i64 2) (Ab 16 (Gk 2 4 (Ab 8 (iJ ((c).length) (Ab 9 (iJ ((a++b).length) (Ab 9 (Bx (Ml qc pc e2) (Ab 24 (Mx (.int .i64 3) (.int .i64 3) (Ab 16 (Gk 3 4 (Ab 8 (qF (Ab 8 (Mx (.int .i64 4) (.int .i64 4) (Ab 23 (Ff)))))))))))))))))))))))))))))))))))))
theorem lX (a b c d:List Sg) (pa:Dp a) (pb:Dp b) (na:0<a.length) (nb:0<b.length) (e1:Nz a b=(a++b,0)) (pc:Dp c) (nc:0<c.length) (qc:Dp (a++b)) (e2:Nz (a++b) c=(a++b++c,0)) (pd:Dp d) (nd:0<d.length) (qd:Dp (a++b++c)) (e3:Nz (a++b++c) d=(a++b++c++d,0)):AF Tryz.prog 53 [.sl 1 4 λxi=>[Ai a,Ai b,Ai c,Ai d].getD xi .top] (.tup [Ai (a++b++c++d),.int 0]):=by
 have ln0:0<(a++b).length:=by simp only[List.length_append];omega
 have ln1:0<(a++b++c).length:=by simp only[List.length_append];omega
 have ln2:0<(a++b++c++d).length:=by simp only[List.length_append];omega
 refine Bv func53 rfl λB D0 hA0=>?_
 exact Ab 20 (wN 4 (Ab 13 (Gk 0 4 (Ab 8 (iJ ((a).length) (Ab 9 (qF (Ab 14 (Mx (.int .i64 1) (.int .i64 1) (Ab 16 (Gk 1 4 (Ab 8 (iJ ((b).length) (Ab 9 (iJ ((a).length) (Ab 9 (Bx (Ml pa pb e1) (Ab 24 (Mx (.int .i64 2) (.int .i64 2) (Ab 16 (Gk 2 4 (Ab 8 (iJ ((c).length) (Ab 9 (iJ ((a++b).length) (Ab 9 (Bx (Ml qc pc e2) (Ab 24 (Mx (.int .i64 3) (.int .i64 3) (Ab 16 (Gk 3 4 (Ab 8 (iJ ((d).length) (Ab 9 (iJ ((a++b++c).length) (Ab 9 (Bx (Ml qd pd e3) (Ab 24 (Mx (.int .i64 4) (.int .i64 4) (Ab 23 (Ff)))))))))))))))))))))))))))))))))))))))))
theorem Vk (l:List Rl) (x:Rl) (n:Nat) (hn:n<=1000000):AF Tryz.prog 48 [.sl 3 n λi=>Av (l.getD i Rl.none),Av x] (.bool (bP (Ya l x n))):=by
 refine Bv func48 rfl λB D0 hA0=>?_
 refine Ab 10 (Xi 1 func83 (λ_ hD1=>?_))
 refine Ab 15 (Lz [0,3,7,8] n (λi=>∀q,q<i->¬((l.getD q Rl.none).spare=x.spare/\(l.getD q Rl.none).wait=x.wait/\(l.getD q Rl.none).rise=x.rise)) (λi=>⟨[(0,.sl 3 n (λxi=>Av ((l).getD xi Rl.none))),(3,.ptr 1 0),(7,.int (n:Int)),(8,.int (i:Int))],[(0,.box 52 [.int x.spare,.int x.wait,.int x.rise]),(1,.box 52 [.int x.spare,.int x.wait,.int x.rise])],2,19⟩) (λq hq=>absurd hq (Nat.not_lt_zero q)) (λi hin hFi J1 hJ1=>?_))
 refine Ab 6 (Em 9 ((i:Int)<(n:Int)) (λhx2 hx2d=>?_) (λhx2 hx2d=>?_))
 ·
  refine Ab 12 (Gw [(3,Cz (.sl 3 n (λxi=>Av ((l).getD xi Rl.none))) i,.none),(5,.bool (decide (x.spare=((l).getD i Rl.none).spare/\x.wait=((l).getD i Rl.none).wait/\x.rise=((l).getD i Rl.none).rise)),.none)] [0,3,5,7,8,16] ⟨Ht i n,Bb (Tq 52 52 (.tmp 11) (.tmp 15) κ _ _ κ κ κ (decide (x.spare=((l).getD i Rl.none).spare/\x.wait=((l).getD i Rl.none).wait/\x.rise=((l).getD i Rl.none).rise)) (bT _ _ _ _ _ _)),trivial⟩ (Ab 1 (Em 16 (x.spare=((l).getD i Rl.none).spare/\x.wait=((l).getD i Rl.none).wait/\x.rise=((l).getD i Rl.none).rise) (λhx3 hx3d=>?_) (λhx3 hx3d=>?_))))
  ·
   exact Ab 13 (qG (Ab 1 (Ip 8 (decide ((0:Int)<=(i:Int))) true (decide_eq_true ω) (Ab 4 (Ev (.bool true) (congrArg AV.bool (Di ⟨i,ω,ω⟩).symm))))))
  ·
   exact Ab 5 (Dt ((i:Int)+1) ((i+1:Nat):Int) (Ab 2 (Iq [0,3,7,8] (hJ1 ω (λq hq=>(Nat.lt_or_ge q i).elim (λg=>hFi q g) λg=>by have e:q=i:=(ω);subst e;omega)))))
 ·
  exact Ab 12 (qG (Ab 5 (Ev (.bool false) (congrArg AV.bool (As λ⟨q,hq,h9⟩=>hFi q ω h9).symm))))
theorem Kb.stay0 {p:Pr} {r:Rv} {c:Cs} {x:Rl} (h:Kb p r c x) (e:Gu p r c x=Gi p r c x):Dv p r c x=[]:=by
 have:=h.stay.1
 rw[<-e] at this
 exact this.nil_of
theorem Kb.tail0 {p:Pr} {r:Rv} {c:Cs} {x:Rl} (h:Kb p r c x) (e:¬Gi p r c x<Bz p.acts p.acts.length):Fa p r c x=[]:=by
 have h1:=h.tail.1
 have h2:=h.s0
 rw[show Bz p.acts p.acts.length=Gi p r c x by omega] at h1
 exact h1.nil_of
theorem Bq {l:List Sg} {a b:V3} {f t:Int} (h:Cb l a b f t) (hn:l.length<=256):Dp l:=by
 by_cases h0:0<l.length
 exact(h.okP h0 hn).2
 rw[show l=[] from List.eq_nil_of_length_eq_zero ω];exact Dp.nil
theorem eZ (p:Pr) (r:Rv) (c:Cs) (x:Rl) (h:Kb p r c x) (hn:p.acts.length<=5) (hs:¬Gu p r c x=Gi p r c x) (ht:Gi p r c x<Bz p.acts p.acts.length):AF Tryz.prog 53 [.sl 1 4 λxi=>[Ai (Ck r p c x),Ai (Fr p r c x),Ai (Dv p r c x),Ai (Fa p r c x)].getD xi .top] (.tup [Ai (relP p r c x),.int 0]):=by
 have h0:=h.s0
 have l1:=h.hov.2
 have l2:=h.go.2
 have l3:=h.stay.2
 have l4:=h.tail.2
 have n3:=h.stay.1.pos ω
 have n4:=h.tail.1.pos ht
 have g1:=h.hov.1.app h.go.1
 have g2:=g1.app h.stay.1
 have m1:(Ck r p c x++Fr p r c x).length<=4:=by rw[List.length_append];omega
 have m2:(Ck r p c x++Fr p r c x++Dv p r c x).length<=5:=by rw[List.length_append];omega
 have m3:0<(Ck r p c x++Fr p r c x).length:=by rw[List.length_append];omega
 have m4:0<(Ck r p c x++Fr p r c x++Dv p r c x).length:=by rw[List.length_append];omega
 exact lX _ _ _ _ (Bq h.hov.1 ω) (Bq h.go.1 ω) ω ω (Dx h.hov.1 h.go.1 ω ω ω) (Bq h.stay.1 ω) n3 (Bq g1 ω) (Dx g1 h.stay.1 m3 n3 ω) (Bq h.tail.1 ω) n4 (Bq g2 ω) (Dx g2 h.tail.1 m4 n4 ω)
theorem eX (p:Pr) (r:Rv) (c:Cs) (x:Rl) (h:Kb p r c x) (hn:p.acts.length<=5) (hs:Gu p r c x=Gi p r c x) (ht:Gi p r c x<Bz p.acts p.acts.length):AF Tryz.prog 53 [.sl 1 4 λxi=>[Ai (Ck r p c x),Ai (Fr p r c x),.lit (.slice none 0 0),Ai (Fa p r c x)].getD xi .top] (.tup [Ai (relP p r c x),.int 0]):=by
 have h0:=h.s0
 have l1:=h.hov.2
 have l2:=h.go.2
 have l4:=h.tail.2
 have n4:=h.tail.1.pos ht
 have g1:=h.hov.1.app h.go.1
 have m1:(Ck r p c x++Fr p r c x).length<=4:=by rw[List.length_append];omega
 have m3:0<(Ck r p c x++Fr p r c x).length:=by rw[List.length_append];omega
 have e:relP p r c x=Ck r p c x++Fr p r c x++Fa p r c x:=by rw[relP,h.stay0 hs,List.append_nil]
 have g4:=h.tail.1
 rw[<-hs] at g4
 rw[e]
 exact lV _ _ _ (Bq h.hov.1 ω) (Bq h.go.1 ω) ω ω (Dx h.hov.1 h.go.1 ω ω ω) (Bq h.tail.1 ω) n4 (Bq g1 ω) (Dx g1 g4 m3 n4 ω)
theorem eY (p:Pr) (r:Rv) (c:Cs) (x:Rl) (h:Kb p r c x) (hs:¬Gu p r c x=Gi p r c x) (ht:¬Gi p r c x<Bz p.acts p.acts.length):AF Tryz.prog 53 [.sl 1 4 λxi=>[Ai (Ck r p c x),Ai (Fr p r c x),Ai (Dv p r c x),.lit (.slice none 0 0)].getD xi .top] (.tup [Ai (relP p r c x),.int 0]):=by
 have h0:=h.s0
 have l1:=h.hov.2
 have l2:=h.go.2
 have l3:=h.stay.2
 have n3:=h.stay.1.pos ω
 have g1:=h.hov.1.app h.go.1
 have m1:(Ck r p c x++Fr p r c x).length<=4:=by rw[List.length_append];omega
 have m3:0<(Ck r p c x++Fr p r c x).length:=by rw[List.length_append];omega
 have e:relP p r c x=Ck r p c x++Fr p r c x++Dv p r c x:=by rw[relP,h.tail0 ht,List.append_nil]
 rw[e]
 exact lW _ _ _ (Bq h.hov.1 ω) (Bq h.go.1 ω) ω ω (Dx h.hov.1 h.go.1 ω ω ω) (Bq h.stay.1 ω) n3 (Bq g1 ω) (Dx g1 h.stay.1 m3 n3 ω)
theorem eW (p:Pr) (r:Rv) (c:Cs) (x:Rl) (h:Kb p r c x) (hs:Gu p r c x=Gi p r c x) (ht:¬Gi p r c x<Bz p.acts p.acts.length):AF Tryz.prog 53 [.sl 1 4 λxi=>[Ai (Ck r p c x),Ai (Fr p r c x),.lit (.slice none 0 0),.lit (.slice none 0 0)].getD xi .top] (.tup [Ai (relP p r c x),.int 0]):=by
 have l1:=h.hov.2
 have l2:=h.go.2
 have e:relP p r c x=Ck r p c x++Fr p r c x:=by rw[relP,h.tail0 ht,h.stay0 hs,List.append_nil,List.append_nil]
 rw[e]
 exact lU _ _ (Bq h.hov.1 ω) (Bq h.go.1 ω) ω ω (Dx h.hov.1 h.go.1 ω ω ω)
theorem mC (p:Pr) (r:Rv) (c:Cs) (x:Rl) (h:Kb p r c x) (h0:0<x.rise):AF Tryz.prog 50 [Gp (Gc r x),Gp (atR p r c x),.int x.rise,.int (Ei p c x),.int (Gu p r c x)] (.tup [Ai (Fr p r c x),.int 0]):=by
 have h1:=h.s0
 have h2:=h.rise
 rw[Fr,if_pos h0]
 exact AcN _ _ _ _ _ (Ix h.hp h.ap ω ω ω) h.q4 ω h.hu h.au
theorem aR (p:Pr) (r:Rv) (c:Cs) (x:Rl) (h:Kb p r c x) (h0:¬0<x.rise):AF Tryz.prog 49 [Gp (Gc r x),Gp (atR p r c x),.int (Ei p c x),.int (Gu p r c x)] (.tup [Ai (Fr p r c x),.int 0]):=by
 have h1:=h.s0
 rw[Fr,if_neg h0]
 exact fA (Ix h.hp h.ap ω ω ω)
theorem Yt (p:Pr) (r:Rv) (c:Cs) (x:Rl) (h:Kb p r c x):AF Tryz.prog 49 [Gp (Gc r x),Gp (atR p r c x),.int (Ei p c x),.int (Gu p r c x)] (.tup [Ai (Gv (Gc r x) (atR p r c x) (Ei p c x) (Gu p r c x) 2),.int 0]):=by
 have h1:=h.s0
 exact fA (Ix h.hp h.ap ω ω ω)
theorem Qf (p:Pr) (r:Rv) (c:Cs) (x:Rl) (hc:Fb p c) (h:Kb p r c x) (ht:Gi p r c x<Bz p.acts p.acts.length):AF Tryz.prog 52 [Ai (Jj p p.acts.length c.craft.toNat),.int (Gi p r c x),.int (Bz p.acts p.acts.length)] (.tup [Ai (Fa p r c x),.int 0]):=by
 have h0:=h.s0
 have h1:=hc.2
 have ho:=Afb hc.1 ω (i:=c.craft.toNat) ω
 have hcut:nC (Jj p p.acts.length c.craft.toNat) (Gi p r c x) (Bz p.acts p.acts.length)=(Fa p r c x,0):=by
  rw[h.app];exact Abh h.own h.tail.1
 have:=wQ (Jj p p.acts.length c.craft.toNat) (Gi p r c x) (Bz p.acts p.acts.length) ho.pin ho.ok (by rw[ho.first];omega) ht (by rw[ho.last];exact Int.le_refl _) (by rw[hcut])
 rwa [hcut] at this
theorem Mn (p:Pr) (c:Cs) (hp:Im p) (hc:Fb p c):AF Tryz.prog 28 [El p,.int c.craft] (.tup [Ai (Jj p p.acts.length c.craft.toNat),.int 0]):=by
 have h1:=hc.2
 have:=mF p c.craft.toNat hp hc.1 ω ω
 rwa [show (c.craft.toNat:Int)=c.craft by omega] at this
theorem Od (a:V3) (f t:Int) (h:f=t):AF Tryz.prog 54 [Gp a,.int f,.int t] (.lit (.slice none 0 0)):=by
 subst h;exact mH a f
theorem eG (p:Pr) (r:Rv) (c:Cs) (x:Rl) (hp:Im p) (hc:Fb p c) (hcs:Oy c) (hr:Lo r) (h:Kb p r c x):AF Tryz.prog 39 [El p,Ge r,Gr c,.int x.wait] (.lit (.tuple #[.int .i64 (Ei p c x),.int .i64 (Gu p r c x),.int .i64 (Oc p r c x:Int),.int .i64 (Gi p r c x),dW (atR p r c x)])):=by
 have:=Ph p r c x.wait hp hc hcs hr h.wait
 unfold eQ at this
 rwa [if_pos h.act.2] at this
theorem VR.relP {E:Bs} {v:Value} {l:List Rl} (h:VR E (vQ l) v):VR E (.tup [Mk l,.int 0]) v:=by
 unfold vQ at h
 split at h
 rename_i h0
 have:=h.lit_inv
 subst this
 rw[List.eq_nil_of_length_eq_zero h0]
 exact .tup _ _ _ rfl λi hi=>by
  match i,hi with
  |0,_=>exact .sl0 _ _ _ _ _
  |1,_=>exact .lit _ _
 exact h
theorem Rn (p:Pr) (r:Rv) (c:Cs) (hp:Im p) (hr:Tz r) (hcs:Oy c) (hg:Kq p r c):AF Tryz.prog 18 [El p,Ge r,Gr c] (.tup [Mk (Be p r c),.int 0]):=
 tP (mG p r c hp hr hcs hg) rfl (λ_ _ _ _ h=>h) λ_ _ h=>h.relP
theorem pF (r:Rv) (w:Int) (v:V3) (i:Nat):∀q,(eP r w v i q).length<=q
 |0=>Nat.zero_le _
 |q+1=>by
  have:=pF r w v i q
  rw[eP,List.length_append]
  split<;>simp<;>omega
theorem pC (r:Rv) (w:Int) (v:V3) (o:List Nat):∀m,(lC r w v o m).length<=m*r.rises.length
 |0=>Nat.zero_le _
 |m+1=>by
  have h1:=pC r w v o m
  have h2:=pF r w v (o.getD m 0) r.rises.length
  rw[lC,List.length_append,Nat.succ_mul];omega
theorem pI {p:Pr} {r:Rv} (hr:Lo r) (c:Cs):∀k,(Hh p r c k).length<=k*128
 |0=>Nat.zero_le _
 |k+1=>by
  have h1:=pI (p:=p) hr c k
  rw[Hh,List.length_append,Nat.succ_mul]
  split
  have h2:=pC r (r.waits.getD k 0) (Aj p r c k) (Aw r (Aj p r c k)) r.homes.length
  have h3:=Nat.mul_le_mul hr.1.2.1 hr.2.2.2.2.1
  omega
  simp;omega
theorem dF {p:Pr} {r:Rv} (hr:Lo r) (c:Cs):(Be p r c).length<=2048:=by
 have h1:=pI (p:=p) hr c r.waits.length
 have h2:=hr.2.2.1.2.1
 have:(Be p r c).length<=r.waits.length*128:=h1
 omega
theorem Qh (p:Pr) (r:Rv) (c:Cs) (x:Rl) (hp:Im p) (hr:Tz r) (hcs:Oy c) (hg:Kq p r c) (hn:p.acts.length<=5) (hx:x∈Be p r c):AF Tryz.prog 21 [El p,Ge r,Gr c,Av x] (.tup [Ai (relP p r c x),.int 0]):=by
 have h:=Vd hg.1 hg.2 (Qt hx)
 have h0:=h.s0
 have h1:=h.sp
 have h2:=hg.2.1
 have lo:=h.go.2
 have lt:=h.tail.2
 have rl:=dF (p:=p) hg.2 c
 have lr:=h.rise
 refine Bv func21 rfl λB D0 hA0=>?_
 refine Ab 15 (Bx (Rn p r c hp hr hcs hg) (Ab 22 (Bx (Vk (Be p r c) x (Be p r c).length ω) (Ab 3 (Ip 36 (!bP (Ya (Be p r c) x (Be p r c).length)) false (by rw[(Di (We.2 hx))];rfl) (Ab 10 (Bx (eG p r c x hp hg.1 hcs hg.2 h) (Ab 20 (AfU x.spare (x.spare).toNat r.homes.length (Ab 11 (lO ((0:Int)<x.rise) (λhx1 hx1d=>?_) (λhx1 hx1d=>?_))))))))))))
 ·
  refine Bx (Yt p r c x h) (Ab 15 (Ip 65 (decide ((0:Int)<x.rise)) true hx1 (Ab 8 (Bx (mC p r c x h hx1d) (Ab 22 (Bx (Mn p c hp hg.1) (Ab 20 (Bx (fC p hp hg.1.1) (Ab 20 (Em 96 (Gi p r c x<Bz p.acts p.acts.length) (λhx2 hx2d=>?_) (λhx2 hx2d=>?_)))))))))))
  ·
   refine Ab 6 (Bx (Qf p r c x hg.1 h hx2d) (Ab 17 (lO (Gu p r c x=Gi p r c x) (λhx3 hx3d=>?_) (λhx3 hx3d=>?_))))
   ·
    exact Gw [(2,_,.none),(7,_,.none),(9,.osl 6 1 4,(.new 6 (.vec 54 1 4 (λxi=>[Ai (Ck r p c x),Ai (Fr p r c x),.lit (.slice none 0 0),Ai (Fa p r c x)].getD xi .top)))),(10,.tup [Ai (relP p r c x),.int 0],(.drop 6))] [8,9] ⟨En (Ey (Gc r x) 0 (Ei p c x) ω (Ix h.hp h.hp ω ω ω)),En (Od (atR p r c x) _ _ hx3d),Bb (Ak 59 4 #[(0,(.tmp 109)),(1,(.tmp 110)),(2,(.tmp 114)),(3,(.tmp 115))] κ underlying59 1 sizeOf54 _ zeroValue54 κ β β β 6 [Ai (Ck r p c x),Ai (Fr p r c x),.lit (.slice none 0 0),Ai (Fa p r c x)] κ (λxi=>[Ai (Ck r p c x),Ai (Fr p r c x),.lit (.slice none 0 0),Ai (Fa p r c x)].getD xi .top) κ),Bb (Kg 53 #[.tmp 116] #[59] κ (λ_ _=>by kernel_rfl) 6 (.vec 54 1 4 (λxi=>[Ai (Ck r p c x),Ai (Fr p r c x),.lit (.slice none 0 0),Ai (Fa p r c x)].getD xi .top)) κ (λ_ _ _ _ h=>by cases h;exact(λi hi j hj=>by obtain rfl:j=0:=(ω);exact match i,hi with|0,_=>rfl|1,_=>rfl|2,_=>rfl|3,_=>rfl|i+4,h=>absurd h ω)) [.osl 6 1 4] κ [.sl 1 4 (λxi=>[Ai (Ck r p c x),Ai (Fr p r c x),.lit (.slice none 0 0),Ai (Fa p r c x)].getD xi .top)] κ (.tup [Ai (relP p r c x),.int 0]) (eX p r c x h hn hx3d hx2d)),trivial⟩ (Ab 2 (Ff))
   ·
    exact Gw [(2,_,.none),(7,_,.none),(9,.osl 6 1 4,(.new 6 (.vec 54 1 4 (λxi=>[Ai (Ck r p c x),Ai (Fr p r c x),Ai (Dv p r c x),Ai (Fa p r c x)].getD xi .top)))),(10,.tup [Ai (relP p r c x),.int 0],(.drop 6))] [8,9] ⟨En (Ey (Gc r x) 0 (Ei p c x) ω (Ix h.hp h.hp ω ω ω)),En (Ey (atR p r c x) (Gu p r c x) (Gi p r c x) hx3d (Ix h.ap h.ap ω ω ω)),Bb (Ak 59 4 #[(0,(.tmp 109)),(1,(.tmp 110)),(2,(.tmp 114)),(3,(.tmp 115))] κ underlying59 1 sizeOf54 _ zeroValue54 κ β β β 6 [Ai (Ck r p c x),Ai (Fr p r c x),Ai (Dv p r c x),Ai (Fa p r c x)] κ (λxi=>[Ai (Ck r p c x),Ai (Fr p r c x),Ai (Dv p r c x),Ai (Fa p r c x)].getD xi .top) κ),Bb (Kg 53 #[.tmp 116] #[59] κ (λ_ _=>by kernel_rfl) 6 (.vec 54 1 4 (λxi=>[Ai (Ck r p c x),Ai (Fr p r c x),Ai (Dv p r c x),Ai (Fa p r c x)].getD xi .top)) κ (λ_ _ _ _ h=>by cases h;exact(λi hi j hj=>by obtain rfl:j=0:=(ω);exact match i,hi with|0,_=>rfl|1,_=>rfl|2,_=>rfl|3,_=>rfl|i+4,h=>absurd h ω)) [.osl 6 1 4] κ [.sl 1 4 (λxi=>[Ai (Ck r p c x),Ai (Fr p r c x),Ai (Dv p r c x),Ai (Fa p r c x)].getD xi .top)] κ (.tup [Ai (relP p r c x),.int 0]) (eZ p r c x h hn hx3d hx2d)),trivial⟩ (Ab 2 (Ff))
  ·
   refine Ab 4 (lO (Gu p r c x=Gi p r c x) (λhx4 hx4d=>?_) (λhx4 hx4d=>?_))
   ·
    exact Gw [(2,_,.none),(7,_,.none),(9,.osl 6 1 4,(.new 6 (.vec 54 1 4 (λxi=>[Ai (Ck r p c x),Ai (Fr p r c x),.lit (.slice none 0 0),.lit (.slice none 0 0)].getD xi .top)))),(10,.tup [Ai (relP p r c x),.int 0],(.drop 6))] [8,9] ⟨En (Ey (Gc r x) 0 (Ei p c x) ω (Ix h.hp h.hp ω ω ω)),En (Od (atR p r c x) _ _ hx4d),Bb (Ak 59 4 #[(0,(.tmp 109)),(1,(.tmp 110)),(2,(.tmp 114)),(3,(.tmp 115))] κ underlying59 1 sizeOf54 _ zeroValue54 κ β β β 6 [Ai (Ck r p c x),Ai (Fr p r c x),.lit (.slice none 0 0),.lit (.slice none 0 0)] κ (λxi=>[Ai (Ck r p c x),Ai (Fr p r c x),.lit (.slice none 0 0),.lit (.slice none 0 0)].getD xi .top) κ),Bb (Kg 53 #[.tmp 116] #[59] κ (λ_ _=>by kernel_rfl) 6 (.vec 54 1 4 (λxi=>[Ai (Ck r p c x),Ai (Fr p r c x),.lit (.slice none 0 0),.lit (.slice none 0 0)].getD xi .top)) κ (λ_ _ _ _ h=>by cases h;exact(λi hi j hj=>by obtain rfl:j=0:=(ω);exact match i,hi with|0,_=>rfl|1,_=>rfl|2,_=>rfl|3,_=>rfl|i+4,h=>absurd h ω)) [.osl 6 1 4] κ [.sl 1 4 (λxi=>[Ai (Ck r p c x),Ai (Fr p r c x),.lit (.slice none 0 0),.lit (.slice none 0 0)].getD xi .top)] κ (.tup [Ai (relP p r c x),.int 0]) (eW p r c x h hx4d hx2d)),trivial⟩ (Ab 2 (Ff))
   ·
    exact Gw [(2,_,.none),(7,_,.none),(9,.osl 6 1 4,(.new 6 (.vec 54 1 4 (λxi=>[Ai (Ck r p c x),Ai (Fr p r c x),Ai (Dv p r c x),.lit (.slice none 0 0)].getD xi .top)))),(10,.tup [Ai (relP p r c x),.int 0],(.drop 6))] [8,9] ⟨En (Ey (Gc r x) 0 (Ei p c x) ω (Ix h.hp h.hp ω ω ω)),En (Ey (atR p r c x) (Gu p r c x) (Gi p r c x) hx4d (Ix h.ap h.ap ω ω ω)),Bb (Ak 59 4 #[(0,(.tmp 109)),(1,(.tmp 110)),(2,(.tmp 114)),(3,(.tmp 115))] κ underlying59 1 sizeOf54 _ zeroValue54 κ β β β 6 [Ai (Ck r p c x),Ai (Fr p r c x),Ai (Dv p r c x),.lit (.slice none 0 0)] κ (λxi=>[Ai (Ck r p c x),Ai (Fr p r c x),Ai (Dv p r c x),.lit (.slice none 0 0)].getD xi .top) κ),Bb (Kg 53 #[.tmp 116] #[59] κ (λ_ _=>by kernel_rfl) 6 (.vec 54 1 4 (λxi=>[Ai (Ck r p c x),Ai (Fr p r c x),Ai (Dv p r c x),.lit (.slice none 0 0)].getD xi .top)) κ (λ_ _ _ _ h=>by cases h;exact(λi hi j hj=>by obtain rfl:j=0:=(ω);exact match i,hi with|0,_=>rfl|1,_=>rfl|2,_=>rfl|3,_=>rfl|i+4,h=>absurd h ω)) [.osl 6 1 4] κ [.sl 1 4 (λxi=>[Ai (Ck r p c x),Ai (Fr p r c x),Ai (Dv p r c x),.lit (.slice none 0 0)].getD xi .top)] κ (.tup [Ai (relP p r c x),.int 0]) (eY p r c x h hx4d hx2d)),trivial⟩ (Ab 2 (Ff))
 ·
  refine Bx (aR p r c x h hx1d) (Ab 15 (Ip 65 (decide ((0:Int)<x.rise)) false hx1 (Ab 18 (Bx (Mn p c hp hg.1) (Ab 20 (Bx (fC p hp hg.1.1) (Ab 20 (Em 96 (Gi p r c x<Bz p.acts p.acts.length) (λhx5 hx5d=>?_) (λhx5 hx5d=>?_)))))))))
  ·
   refine Ab 6 (Bx (Qf p r c x hg.1 h hx5d) (Ab 17 (lO (Gu p r c x=Gi p r c x) (λhx6 hx6d=>?_) (λhx6 hx6d=>?_))))
   ·
    exact Gw [(2,_,.none),(7,_,.none),(9,.osl 6 1 4,(.new 6 (.vec 54 1 4 (λxi=>[Ai (Ck r p c x),Ai (Fr p r c x),.lit (.slice none 0 0),Ai (Fa p r c x)].getD xi .top)))),(10,.tup [Ai (relP p r c x),.int 0],(.drop 6))] [8,9] ⟨En (Ey (Gc r x) 0 (Ei p c x) ω (Ix h.hp h.hp ω ω ω)),En (Od (atR p r c x) _ _ hx6d),Bb (Ak 59 4 #[(0,(.tmp 109)),(1,(.tmp 110)),(2,(.tmp 114)),(3,(.tmp 115))] κ underlying59 1 sizeOf54 _ zeroValue54 κ β β β 6 [Ai (Ck r p c x),Ai (Fr p r c x),.lit (.slice none 0 0),Ai (Fa p r c x)] κ (λxi=>[Ai (Ck r p c x),Ai (Fr p r c x),.lit (.slice none 0 0),Ai (Fa p r c x)].getD xi .top) κ),Bb (Kg 53 #[.tmp 116] #[59] κ (λ_ _=>by kernel_rfl) 6 (.vec 54 1 4 (λxi=>[Ai (Ck r p c x),Ai (Fr p r c x),.lit (.slice none 0 0),Ai (Fa p r c x)].getD xi .top)) κ (λ_ _ _ _ h=>by cases h;exact(λi hi j hj=>by obtain rfl:j=0:=(ω);exact match i,hi with|0,_=>rfl|1,_=>rfl|2,_=>rfl|3,_=>rfl|i+4,h=>absurd h ω)) [.osl 6 1 4] κ [.sl 1 4 (λxi=>[Ai (Ck r p c x),Ai (Fr p r c x),.lit (.slice none 0 0),Ai (Fa p r c x)].getD xi .top)] κ (.tup [Ai (relP p r c x),.int 0]) (eX p r c x h hn hx6d hx5d)),trivial⟩ (Ab 2 (Ff))
   ·
    exact Gw [(2,_,.none),(7,_,.none),(9,.osl 6 1 4,(.new 6 (.vec 54 1 4 (λxi=>[Ai (Ck r p c x),Ai (Fr p r c x),Ai (Dv p r c x),Ai (Fa p r c x)].getD xi .top)))),(10,.tup [Ai (relP p r c x),.int 0],(.drop 6))] [8,9] ⟨En (Ey (Gc r x) 0 (Ei p c x) ω (Ix h.hp h.hp ω ω ω)),En (Ey (atR p r c x) (Gu p r c x) (Gi p r c x) hx6d (Ix h.ap h.ap ω ω ω)),Bb (Ak 59 4 #[(0,(.tmp 109)),(1,(.tmp 110)),(2,(.tmp 114)),(3,(.tmp 115))] κ underlying59 1 sizeOf54 _ zeroValue54 κ β β β 6 [Ai (Ck r p c x),Ai (Fr p r c x),Ai (Dv p r c x),Ai (Fa p r c x)] κ (λxi=>[Ai (Ck r p c x),Ai (Fr p r c x),Ai (Dv p r c x),Ai (Fa p r c x)].getD xi .top) κ),Bb (Kg 53 #[.tmp 116] #[59] κ (λ_ _=>by kernel_rfl) 6 (.vec 54 1 4 (λxi=>[Ai (Ck r p c x),Ai (Fr p r c x),Ai (Dv p r c x),Ai (Fa p r c x)].getD xi .top)) κ (λ_ _ _ _ h=>by cases h;exact(λi hi j hj=>by obtain rfl:j=0:=(ω);exact match i,hi with|0,_=>rfl|1,_=>rfl|2,_=>rfl|3,_=>rfl|i+4,h=>absurd h ω)) [.osl 6 1 4] κ [.sl 1 4 (λxi=>[Ai (Ck r p c x),Ai (Fr p r c x),Ai (Dv p r c x),Ai (Fa p r c x)].getD xi .top)] κ (.tup [Ai (relP p r c x),.int 0]) (eZ p r c x h hn hx6d hx5d)),trivial⟩ (Ab 2 (Ff))
  ·
   refine Ab 4 (lO (Gu p r c x=Gi p r c x) (λhx7 hx7d=>?_) (λhx7 hx7d=>?_))
   ·
    exact Gw [(2,_,.none),(7,_,.none),(9,.osl 6 1 4,(.new 6 (.vec 54 1 4 (λxi=>[Ai (Ck r p c x),Ai (Fr p r c x),.lit (.slice none 0 0),.lit (.slice none 0 0)].getD xi .top)))),(10,.tup [Ai (relP p r c x),.int 0],(.drop 6))] [8,9] ⟨En (Ey (Gc r x) 0 (Ei p c x) ω (Ix h.hp h.hp ω ω ω)),En (Od (atR p r c x) _ _ hx7d),Bb (Ak 59 4 #[(0,(.tmp 109)),(1,(.tmp 110)),(2,(.tmp 114)),(3,(.tmp 115))] κ underlying59 1 sizeOf54 _ zeroValue54 κ β β β 6 [Ai (Ck r p c x),Ai (Fr p r c x),.lit (.slice none 0 0),.lit (.slice none 0 0)] κ (λxi=>[Ai (Ck r p c x),Ai (Fr p r c x),.lit (.slice none 0 0),.lit (.slice none 0 0)].getD xi .top) κ),Bb (Kg 53 #[.tmp 116] #[59] κ (λ_ _=>by kernel_rfl) 6 (.vec 54 1 4 (λxi=>[Ai (Ck r p c x),Ai (Fr p r c x),.lit (.slice none 0 0),.lit (.slice none 0 0)].getD xi .top)) κ (λ_ _ _ _ h=>by cases h;exact(λi hi j hj=>by obtain rfl:j=0:=(ω);exact match i,hi with|0,_=>rfl|1,_=>rfl|2,_=>rfl|3,_=>rfl|i+4,h=>absurd h ω)) [.osl 6 1 4] κ [.sl 1 4 (λxi=>[Ai (Ck r p c x),Ai (Fr p r c x),.lit (.slice none 0 0),.lit (.slice none 0 0)].getD xi .top)] κ (.tup [Ai (relP p r c x),.int 0]) (eW p r c x h hx7d hx5d)),trivial⟩ (Ab 2 (Ff))
   ·
    exact Gw [(2,_,.none),(7,_,.none),(9,.osl 6 1 4,(.new 6 (.vec 54 1 4 (λxi=>[Ai (Ck r p c x),Ai (Fr p r c x),Ai (Dv p r c x),.lit (.slice none 0 0)].getD xi .top)))),(10,.tup [Ai (relP p r c x),.int 0],(.drop 6))] [8,9] ⟨En (Ey (Gc r x) 0 (Ei p c x) ω (Ix h.hp h.hp ω ω ω)),En (Ey (atR p r c x) (Gu p r c x) (Gi p r c x) hx7d (Ix h.ap h.ap ω ω ω)),Bb (Ak 59 4 #[(0,(.tmp 109)),(1,(.tmp 110)),(2,(.tmp 114)),(3,(.tmp 115))] κ underlying59 1 sizeOf54 _ zeroValue54 κ β β β 6 [Ai (Ck r p c x),Ai (Fr p r c x),Ai (Dv p r c x),.lit (.slice none 0 0)] κ (λxi=>[Ai (Ck r p c x),Ai (Fr p r c x),Ai (Dv p r c x),.lit (.slice none 0 0)].getD xi .top) κ),Bb (Kg 53 #[.tmp 116] #[59] κ (λ_ _=>by kernel_rfl) 6 (.vec 54 1 4 (λxi=>[Ai (Ck r p c x),Ai (Fr p r c x),Ai (Dv p r c x),.lit (.slice none 0 0)].getD xi .top)) κ (λ_ _ _ _ h=>by cases h;exact(λi hi j hj=>by obtain rfl:j=0:=(ω);exact match i,hi with|0,_=>rfl|1,_=>rfl|2,_=>rfl|3,_=>rfl|i+4,h=>absurd h ω)) [.osl 6 1 4] κ [.sl 1 4 (λxi=>[Ai (Ck r p c x),Ai (Fr p r c x),Ai (Dv p r c x),.lit (.slice none 0 0)].getD xi .top)] κ (.tup [Ai (relP p r c x),.int 0]) (eY p r c x h hx7d hx5d)),trivial⟩ (Ab 2 (Ff))
theorem Uf (p:Pr) (r:Rv) (c:Cs) (x:Rl) (hp:Im p) (hr:Tz r) (hcs:Oy c) (hg:Kq p r c) (hx:¬x∈Be p r c):AF Tryz.prog 21 [El p,Ge r,Gr c,Av x] (.lit (.tuple #[.slice none 0 0,.int .i64 9])):=by
 have rl:=dF (p:=p) hg.2 c
 refine Bv func21 rfl λB D0 hA0=>?_
 exact Ab 15 (Bx (Rn p r c hp hr hcs hg) (Ab 22 (Bx (Vk (Be p r c) x (Be p r c).length ω) (Ab 3 (Ip 36 (!bP (Ya (Be p r c) x (Be p r c).length)) true (by rw[(As λg=>hx (We.1 g))];rfl) (Ab 9 (Ff)))))))
theorem Ro (p:Pr) (r:Rv) (c:Cs) (x:Rl) (hp:Im p) (hr:Tz r) (hcs:Oy c) (hg:¬Kq p r c):AF Tryz.prog 21 [El p,Ge r,Gr c,Av x] (.lit (.tuple #[.slice none 0 0,.int .i64 2])):=by
 refine Bv func21 rfl λB D0 hA0=>?_
 exact Ab 15 (Bx (eE p r c hp hr hcs hg) (Ab 24 (Ff)))
def rR (l:List Int) (x:Int):Prop:=∃q,q<l.length/\l.getD q 0=x
def bA (r:Rv):Prop:=r.homes.length<=9/\r.waits.length<=17/\r.rises.length<=17
theorem bA.inn {r:Rv} (h:bA r) (hf:Cy r.flight):Tz r:=⟨by have:=h.1;omega,by have:=h.2.1;omega,by have:=h.2.2;omega,hf⟩
def wI (p:Pr) (r:Rv) (c:Cs) (w:Int):Prop:=rR r.waits w/\Ld p c (Io p r c w)<p.acts.length
theorem Ab3 {r:Rv} {w:Int} (hr:Lo r) (h:rR r.waits w):0<=w/\w<=3600000:=by
 obtain⟨q,hq,rfl⟩:=h
 have:=hr.2.2.1.2.2 q hq
 exact⟨this.1,this.2.1⟩
theorem mJ (p:Pr) (r:Rv) (c:Cs) (w:Int) (hp:Im p) (hc:Fb p c) (hcs:Oy c) (hr:Lo r) (h:wI p r c w):AF Tryz.prog 39 [El p,Ge r,Gr c,.int w] (.lit (.tuple #[.int .i64 (Bf p c+w),.int .i64 (Bf p c+w+r.flight),.int .i64 (Ld p c (Io p r c w):Int),.int .i64 (Bz p.acts (Ld p c (Io p r c w)+1)),dW (lM p c (Ld p c (Io p r c w)))])):=by
 have:=Ph p r c w hp hc hcs hr (Ab3 hr h.1)
 unfold eQ at this
 rwa [if_pos h.2] at this
theorem mI (p:Pr) (r:Rv) (c:Cs) (w:Int) (hp:Im p) (hc:Fb p c) (hcs:Oy c) (hr:Lo r) (h1:rR r.waits w) (h:¬wI p r c w):AF Tryz.prog 39 [El p,Ge r,Gr c,.int w] (.lit (.tuple #[.int .i64 (Bf p c+w),.int .i64 (Bf p c+w+r.flight),.int .i64 (-1),.int .i64 (Bz p.acts p.acts.length),.agg #[.int .i64 0,.int .i64 0,.int .i64 0]])):=by
 have:=Ph p r c w hp hc hcs hr (Ab3 hr h1)
 unfold eQ at this
 rwa [if_neg (λg=>h ⟨h1,g⟩)] at this
theorem Vj (l:List Int) (x:Int) (hn:l.length<=1000000):AF Tryz.prog 38 [Bu l,.int x] (.bool (bP (rR l x))):=by
 refine Bv func38 rfl λB D0 hA0=>?_
 refine Ab 9 (Xi 0 func74 (λ_ hD1=>?_))
 refine Ab 14 (Lz [0,1,7,8] l.length (λi=>∀q,q<i->¬(l.getD q 0=x)) (λi=>⟨[(0,Bu l),(1,.int x),(7,.int (l.length:Int)),(8,.int (i:Int))],[],0,19⟩) (λq hq=>absurd hq (Nat.not_lt_zero q)) (λi hin hFi J1 hJ1=>?_))
 refine Ab 6 (Em 9 ((i:Int)<(l.length:Int)) (λhx2 hx2d=>?_) (λhx2 hx2d=>?_))
 ·
  refine Ab 16 (Gk i l.length (Ab 4 (Em 16 (x=(l).getD i 0) (λhx3 hx3d=>?_) (λhx3 hx3d=>?_))))
  ·
   exact Ab 13 (qG (Ab 1 (Ip 8 (decide ((0:Int)<=(i:Int))) true (decide_eq_true ω) (Ab 4 (Ev (.bool true) (congrArg AV.bool (Di ⟨i,ω,ω⟩).symm))))))
  ·
   exact Ab 5 (Dt ((i:Int)+1) ((i+1:Nat):Int) (Ab 2 (Iq [0,1,7,8] (hJ1 ω (λq hq=>(Nat.lt_or_ge q i).elim (λg=>hFi q g) λg=>by have e:q=i:=(ω);subst e;omega)))))
 ·
  exact Ab 12 (qG (Ab 5 (Ev (.bool false) (congrArg AV.bool (As λ⟨q,hq,h9⟩=>hFi q ω h9).symm))))
theorem Aa2 (r:Rv):AF Tryz.prog 9 [Ge r] (.bool (bP (bA r))):=by
 refine Bv func9 rfl λB D0 hA0=>?_
 refine Ab 13 (Em 7 ((r.homes.length:Int)<=9) (λhx1 hx1d=>?_) (λhx1 hx1d=>?_))
 ·
  refine Ab 6 (Em 13 ((r.waits.length:Int)<=17) (λhx2 hx2d=>?_) (λhx2 hx2d=>?_))
  ·
   exact Ab 9 (Ev (.bool (decide ((r.rises.length:Int)<=17))) (congrArg AV.bool (if hz:r.rises.length<=17 then (decide_eq_true ω).trans (Di ⟨ω,ω,hz⟩).symm else (decide_eq_false ω).trans (As (λg=>hz g.2.2)).symm)))
  ·
   exact Ab 9 (Ev (.bool false) (congrArg AV.bool (As λg=>by have g1:=g.1;have g2:=g.2.1;have g3:=g.2.2;omega).symm))
 ·
  exact Ab 15 (Ev (.bool false) (congrArg AV.bool (As λg=>by have g1:=g.1;have g2:=g.2.1;have g3:=g.2.2;omega).symm))
theorem iN (p:Pr) (r:Rv) (c:Cs) (w:Int) (hp:Im p) (hr:Tz r) (hcs:Oy c) (hg:Kq p r c) (h:¬wI p r c w):AF Tryz.prog 14 [El p,Ge r,Gr c,.int w] (.lit (.tuple #[.int .i64 0,.agg #[.int .i64 0,.int .i64 0,.int .i64 0],.int .i64 9])):=by
 refine Bv func14 rfl λB D0 hA0=>?_
 refine Ab 16 (Bx (Zw p r c hp hr hcs) (Ab 3 (Ip 15 (!bP (Kq p r c)) false (by rw[(Di hg)];rfl) (Ab 9 (Bx (Vj _ w hr.w) (Ab 3 (Ys 21 (bP (rR r.waits w)) (λhx1=>?_) (λhx1=>?_))))))))
 ·
  exact Ab 9 (Bx (mI p r c w hp hg.1 hcs hg.2 (Fk hx1) h) (Ab 28 (Ff)))
 ·
  exact Ab 11 (Ff)
theorem iO (p:Pr) (r:Rv) (c:Cs) (w:Int) (hp:Im p) (hr:Tz r) (hcs:Oy c) (hg:Kq p r c) (h:wI p r c w):AF Tryz.prog 14 [El p,Ge r,Gr c,.int w] (.lit (.tuple #[.int .i64 (Ld p c (Io p r c w):Int),dW (lM p c (Ld p c (Io p r c w))),.int .i64 0])):=by
 refine Bv func14 rfl λB D0 hA0=>?_
 exact Ab 16 (Bx (Zw p r c hp hr hcs) (Ab 3 (Ip 15 (!bP (Kq p r c)) false (by rw[(Di hg)];rfl) (Ab 9 (Bx (Vj _ w hr.w) (Ab 3 (Ip 21 (!bP (rR r.waits w)) false (by rw[(Di h.1)];rfl) (Ab 9 (Bx (mJ p r c w hp hg.1 hcs hg.2 h) (Ab 15 (Ip 35 (decide (((Ld p c (Io p r c w)):Int)<0)) false (decide_eq_false ω) (Ab 6 (Gw [] [8,9,10] trivial (Ab 2 (Ff)))))))))))))))
def Acs:List Mv:=[⟨⟨0,0,1000⟩,0,1000,0⟩,⟨⟨1000,0,1000⟩,0,1000,0⟩]
def Acu:List Mv:=[⟨⟨0,0,1000⟩,0,0,0⟩,⟨⟨1000,0,1000⟩,0,0,0⟩]
def Acv:List Mv:=[⟨⟨0,500,1000⟩,0,1000,0⟩,⟨⟨1000,500,1000⟩,0,1000,0⟩]
def Xm:Pr:=⟨[⟨#[97]⟩,⟨#[98]⟩],[⟨0,0,0⟩,⟨1000,0,0⟩],[⟨⟨#[117,112]⟩,2000,Acs⟩,⟨⟨#[115,116,97,121]⟩,2000,Acu⟩,⟨⟨#[110,111,114,116,104]⟩,2000,Acv⟩]⟩
def Zk:Rv:=⟨[⟨0,-500,0⟩,⟨1000,-500,0⟩],1200,[0,1000],[0,300]⟩
theorem iU:AF Tryz.prog 32 [] (.tup [El Xm,Ge Zk]):=by
 refine Bv func32 rfl λB D0 hA0=>?_
 exact Ab 22 (Ca (.osl 4 6 2) (.new 4 (.vec 91 6 2 (λxi=>yN (Acs.getD xi Mv.none)))) (Ak 85 2 #[(0,(.tmp 10)),(1,(.tmp 12))] κ underlying85 6 sizeOf91 _ zeroValue91 κ β β β 4 [.int 0,.int 0,.int 1000,.int 0,.int 1000,.int 0,.int 1000,.int 0,.int 1000,.int 0,.int 1000,.int 0] κ (λxi=>yN (Acs.getD xi Mv.none)) κ) (Ab 9 (Ca (.osl 5 6 2) (.new 5 (.vec 91 6 2 (λxi=>yN (Acv.getD xi Mv.none)))) (Ak 85 2 #[(0,(.tmp 15)),(1,(.tmp 17))] κ underlying85 6 sizeOf91 _ zeroValue91 κ β β β 5 [.int 0,.int 500,.int 1000,.int 0,.int 1000,.int 0,.int 1000,.int 500,.int 1000,.int 0,.int 1000,.int 0] κ (λxi=>yN (Acv.getD xi Mv.none)) κ) (Ab 3 (Xh 4 [4] 91 6 2 (λxi=>yN (Acs.getD xi Mv.none)) (Fv λ_ _=>rfl) (Xh 5 [5] 91 6 2 (λxi=>yN (Acv.getD xi Mv.none)) (Fv λ_ _=>rfl) (Ab 2 (Ca (.osl 6 1 2) (.new 6 (.vec 9 1 2 (λxi=> .lit (.string (Xm.names.getD xi ByteArray.empty))))) (Ak 28 2 #[(0,(.const (.string ⟨#[97]⟩))),(1,(.const (.string ⟨#[98]⟩)))] κ underlying28 1 sizeOf9 _ zeroValue9 κ β β β 6 [.lit (.string ⟨#[97]⟩),.lit (.string ⟨#[98]⟩)] κ (λxi=> .lit (.string (Xm.names.getD xi ByteArray.empty))) κ) (Ab 2 (Ca (.osl 7 3 2) (.new 7 (.vec 36 3 2 (λxi=>Gp (Xm.homes.getD xi V3.zero)))) (Ak 22 2 #[(0,(.tmp 20)),(1,(.tmp 21))] κ underlying22 3 sizeOf36 _ zeroValue36 κ β β β 7 [.int 0,.int 0,.int 0,.int 1000,.int 0,.int 0] κ (λxi=>Gp (Xm.homes.getD xi V3.zero)) κ) (Ab 6 (Ca (.osl 8 6 2) (.new 8 (.vec 91 6 2 (λxi=>yN (Acu.getD xi Mv.none)))) (Ak 85 2 #[(0,(.tmp 26)),(1,(.tmp 28))] κ underlying85 6 sizeOf91 _ zeroValue91 κ β β β 8 [.int 0,.int 0,.int 1000,.int 0,.int 0,.int 0,.int 1000,.int 0,.int 1000,.int 0,.int 0,.int 0] κ (λxi=>yN (Acu.getD xi Mv.none)) κ) (Xh 8 [29] 91 6 2 (λxi=>yN (Acu.getD xi Mv.none)) (Fv λ_ _=>rfl) (Ab 3 (Ca (.osl 9 3 3) (.new 9 (.vec 87 3 3 (λxi=>Adc (Xm.acts.getD xi Ac.none)))) (Ak 29 3 #[(0,(.tmp 24)),(1,(.tmp 30)),(2,(.tmp 32))] κ underlying29 3 sizeOf87 _ zeroValue87 κ β β β 9 [.lit (.string ⟨#[117,112]⟩),.int 2000,.sl 6 2 (λxi=>yN (Acs.getD xi Mv.none)),.lit (.string ⟨#[115,116,97,121]⟩),.int 2000,.sl 6 2 (λxi=>yN (Acu.getD xi Mv.none)),.lit (.string ⟨#[110,111,114,116,104]⟩),.int 2000,.sl 6 2 (λxi=>yN (Acv.getD xi Mv.none))] κ (λxi=>Adc (Xm.acts.getD xi Ac.none)) κ) (Ab 5 (tC 6 10 0 9 1 2 (λxi=> .lit (.string (Xm.names.getD xi ByteArray.empty))) (Fv λ_ _=>rfl) (tC 7 10 1 36 3 2 (λxi=>Gp (Xm.homes.getD xi V3.zero)) (Fv λ_ _=>rfl) (tC 9 10 2 87 3 3 (λxi=>Adc (Xm.acts.getD xi Ac.none)) (Fv λ_ _=>rfl) (Ab 5 (Ca (.osl 11 3 2) (.new 11 (.vec 36 3 2 (λxi=>Gp (Zk.homes.getD xi V3.zero)))) (Ak 22 2 #[(0,(.tmp 36)),(1,(.tmp 37))] κ underlying22 3 sizeOf36 _ zeroValue36 κ β β β 11 [.int 0,.int (-500),.int 0,.int 1000,.int (-500),.int 0] κ (λxi=>Gp (Zk.homes.getD xi V3.zero)) κ) (Ca (.osl 12 1 2) (.new 12 (.vec 3 1 2 (λxi=> .int (Zk.waits.getD xi 0)))) (Ak 23 2 #[(0,(.const (.int .i64 0))),(1,(.const (.int .i64 1000)))] κ underlying23 1 sizeOf3 _ zeroValue3 κ β β β 12 [.int 0,.int 1000] κ (λxi=> .int (Zk.waits.getD xi 0)) κ) (Ca (.osl 13 1 2) (.new 13 (.vec 3 1 2 (λxi=> .int (Zk.rises.getD xi 0)))) (Ak 23 2 #[(0,(.const (.int .i64 0))),(1,(.const (.int .i64 300)))] κ underlying23 1 sizeOf3 _ zeroValue3 κ β β β 13 [.int 0,.int 300] κ (λxi=> .int (Zk.rises.getD xi 0)) κ) (Ab 5 (Ac6 11 1 0 36 3 2 (λxi=>Gp (Zk.homes.getD xi V3.zero)) (Fv λ_ _=>rfl) (Ac6 12 1 2 3 1 2 (λxi=> .int (Zk.waits.getD xi 0)) (Fv λ_ _=>rfl) (Ac6 13 1 3 3 1 2 (λxi=> .int (Zk.rises.getD xi 0)) (Fv λ_ _=>rfl) (Ab 1 (Ff)))))))))))))))))))))))))))))
theorem lJ:Im Xm:=⟨δ,δ,δ,δ,δ⟩
theorem lK:Tz Zk:=⟨δ,δ,δ,⟨δ,δ⟩⟩
theorem zZ:Fq Xm=true:=by kernel_rfl
theorem Ae0 {a b m:Int} (h:0<=a/\a<b/\b<=m):Oz [a,b] m:=⟨by simp,by simp,λi hi=>by
 have:i<2:=hi
 match i,this with
 |0,_=>exact⟨h.1,by show a<=m;omega,λh0=>absurd h0 (Nat.lt_irrefl 0)⟩
 |1,_=>exact⟨by show 0<=b;omega,h.2.2,λ_=>h.2.1⟩⟩
theorem Afo:Lo Zk:=⟨⟨δ,δ,δ,δ,δ⟩,λi hi=>by
 have:i<2:=hi
 match i,this with
 |0,_=>exact⟨rfl,λj hj=>absurd hj (Nat.not_lt_zero j)⟩
 |1,_=>exact⟨rfl,λj hj=>by
  obtain rfl:j=0:=by omega
  decide⟩,Ae0 δ,Ae0 δ⟩
theorem Afm (k:Int) (h:k=0\/k=2):Fb Xm ⟨0,k⟩:=⟨zZ,by show (0:Int)<=0;decide,by show (0:Int)<2;decide,by show (0:Int)<=k;omega,by show k<(3:Int);omega⟩
theorem lI (k:Int) (h:k=0\/k=2):Kq Xm Zk ⟨0,k⟩:=⟨Afm k h,Afo⟩
theorem Aek (k:Int) (h:k=0\/k=2):Oy ⟨0,k⟩:=by rcases h with rfl|rfl<;>exact⟨Qo,⟨δ,δ⟩⟩
def sxL:List Rl:=[⟨0,0,0⟩,⟨0,0,300⟩,⟨1,0,0⟩,⟨1,0,300⟩,⟨0,1000,0⟩,⟨0,1000,300⟩,⟨1,1000,0⟩,⟨1,1000,300⟩]
theorem Acr:Be Xm Zk ⟨0,0⟩=sxL:=by kernel_rfl
def sX:List Sg:=relP Xm Zk ⟨0,0⟩ Rl.none
theorem AfP:sX.length=5:=by kernel_rfl
theorem AdK {l:List Sg} {n:Nat} (h:l.length=n):Ai l= .sl 6 n λxi=>Db (l.getD xi Sg.none):=by subst h;rfl
theorem Ae1 (w:Int) (i:Nat) (hw:rR Zk.waits w) (h:Ld Xm ⟨0,0⟩ (Io Xm Zk ⟨0,0⟩ w)=i) (hi:i<3):AF Tryz.prog 14 [El Xm,Ge Zk,Gr ⟨0,0⟩,.int w] (.lit (.tuple #[.int .i64 (i:Int),dW (lM Xm ⟨0,0⟩ i),.int .i64 0])):=by
 subst h
 exact iO Xm Zk ⟨0,0⟩ w lJ lK (Aek 0 (.inl rfl)) (lI 0 (.inl rfl)) ⟨hw,hi⟩
theorem Afn:AF Tryz.prog 14 [El Xm,Ge Zk,Gr ⟨0,2⟩,.int 0] (.lit (.tuple #[.int .i64 0,.agg #[.int .i64 0,.int .i64 0,.int .i64 0],.int .i64 9])):=
 iN Xm Zk ⟨0,2⟩ 0 lJ lK (Aek 2 (.inr rfl)) (lI 2 (.inr rfl)) λg=>absurd g.2 δ
theorem AfQ:AF Tryz.prog 18 [El Xm,Ge Zk,Gr ⟨0,0⟩] (.tup [.sl 3 8 λxi=>Av (sxL.getD xi Rl.none),.int 0]):=by
 have h:=Rn Xm Zk ⟨0,0⟩ lJ lK (Aek 0 (.inl rfl)) (lI 0 (.inl rfl))
 rwa [Acr] at h
theorem AfR:AF Tryz.prog 21 [El Xm,Ge Zk,Gr ⟨0,0⟩,Av Rl.none] (.tup [.sl 6 5 λxi=>Db (sX.getD xi Sg.none),.int 0]):=by
 have h:=Qh Xm Zk ⟨0,0⟩ Rl.none lJ lK (Aek 0 (.inl rfl)) (lI 0 (.inl rfl)) δ (by rw[Acr];exact List.mem_cons_self)
 rwa [show relP Xm Zk ⟨0,0⟩ Rl.none=sX from rfl,AdK AfP] at h
theorem Hx:AF Tryz.prog 10 [] (.bool true):=by
 refine Bv func10 rfl λB D0 hA0=>?_
 exact Ab 7 (Bx iU (Ab 14 (Bx (Ae1 0 1 ⟨0,δ,rfl⟩ δ δ) (Ab 15 (Bx (Ae1 1000 2 ⟨1,δ,rfl⟩ δ δ) (Ab 15 (Bx Afn (Ab 15 (Bx AfQ (Ab 15 (Ca (.bool false) .none (Jp (Tr 36 36 (.tmp 56) (.tmp 57) κ _ _ κ κ κ (decide ((0:Int)=0/\(0:Int)=0/\(1000:Int)=1000)) (jQ _ _ _ _ _ _)) (show (!(decide ((0:Int)=0/\(0:Int)=0/\(1000:Int)=1000)):Bool)=false from by decide)) (Ab 12 (Ca (.bool false) .none (Jp (Tr 36 36 (.tmp 69) (.tmp 70) κ _ _ κ κ κ (decide ((0:Int)=0/\(500:Int)=500/\(1000:Int)=1000)) (jQ _ _ _ _ _ _)) (show (!(decide ((0:Int)=0/\(500:Int)=500/\(1000:Int)=1000)):Bool)=false from by decide)) (Ab 20 (Gk 0 8 (Ab 2 (Ca (.bool false) .none (Jp (Tr 52 52 (.tmp 93) (.tmp 94) κ _ _ κ κ κ (decide ((0:Int)=0/\(0:Int)=0/\(0:Int)=0)) (bT _ _ _ _ _ _)) (show (!(decide ((0:Int)=0/\(0:Int)=0/\(0:Int)=0)):Bool)=false from by decide)) (Ab 3 (Gk 1 8 (Ab 2 (Ca (.bool false) .none (Jp (Tr 52 52 (.tmp 100) (.tmp 101) κ _ _ κ κ κ (decide ((0:Int)=0/\(0:Int)=0/\(300:Int)=300)) (bT _ _ _ _ _ _)) (show (!(decide ((0:Int)=0/\(0:Int)=0/\(300:Int)=300)):Bool)=false from by decide)) (Ab 3 (Gk 2 8 (Ab 2 (Ca (.bool false) .none (Jp (Tr 52 52 (.tmp 107) (.tmp 108) κ _ _ κ κ κ (decide ((1:Int)=1/\(0:Int)=0/\(0:Int)=0)) (bT _ _ _ _ _ _)) (show (!(decide ((1:Int)=1/\(0:Int)=0/\(0:Int)=0)):Bool)=false from by decide)) (Ab 7 (Gw [(4,Cz (.sl 3 8 (λxi=>Av (sxL.getD xi Rl.none))) 0,.none),(6,_,.none)] [14,15] ⟨Ht 0 8,En AfR,trivial⟩ (Ab 13 (Gk 0 5 (Ab 12 (Ca (.osl 5 1 5) (.new 5 (.vec 3 1 5 (λxi=>[AV.int 2000,AV.int 3200,AV.int 4000,AV.int 5000,AV.int 6000].getD xi .top))) (Ak 23 5 #[(0,(.const (.int .i64 2000))),(1,(.const (.int .i64 3200))),(2,(.const (.int .i64 4000))),(3,(.const (.int .i64 5000))),(4,(.const (.int .i64 6000)))] κ underlying23 1 sizeOf3 _ zeroValue3 κ β β β 5 [.int 2000,.int 3200,.int 4000,.int 5000,.int 6000] κ (λxi=>[AV.int 2000,AV.int 3200,AV.int 4000,AV.int 5000,AV.int 6000].getD xi .top) κ) (Ab 5 (wN 5 (Ab 14 (Gk 0 5 (Ca (.int 2000) (.read 5) (Ct 3 (.tmp 140) κ isAgg3 5 0 0 1 κ 3 5 (λxi=>[AV.int 2000,AV.int 3200,AV.int 4000,AV.int 5000,AV.int 6000].getD xi .top) κ ω δ) (Ab 8 (Gk 0 5 (Ab 11 (Mx (.int .i64 1) (.int .i64 1) (Ab 17 (Gk 1 5 (Ca (.int 3200) (.read 5) (Ct 3 (.tmp 140) κ isAgg3 5 1 0 1 κ 3 5 (λxi=>[AV.int 2000,AV.int 3200,AV.int 4000,AV.int 5000,AV.int 6000].getD xi .top) κ ω δ) (Ab 8 (Gk 1 5 (Ab 11 (Mx (.int .i64 2) (.int .i64 2) (Ab 17 (Gk 2 5 (Ca (.int 4000) (.read 5) (Ct 3 (.tmp 140) κ isAgg3 5 2 0 1 κ 3 5 (λxi=>[AV.int 2000,AV.int 3200,AV.int 4000,AV.int 5000,AV.int 6000].getD xi .top) κ ω δ) (Ab 8 (Gk 2 5 (Ab 11 (Mx (.int .i64 3) (.int .i64 3) (Ab 17 (Gk 3 5 (Ca (.int 5000) (.read 5) (Ct 3 (.tmp 140) κ isAgg3 5 3 0 1 κ 3 5 (λxi=>[AV.int 2000,AV.int 3200,AV.int 4000,AV.int 5000,AV.int 6000].getD xi .top) κ ω δ) (Ab 8 (Gk 3 5 (Ab 11 (Mx (.int .i64 4) (.int .i64 4) (Ab 17 (Gk 4 5 (Ca (.int 6000) (.read 5) (Ct 3 (.tmp 140) κ isAgg3 5 4 0 1 κ 3 5 (λxi=>[AV.int 2000,AV.int 3200,AV.int 4000,AV.int 5000,AV.int 6000].getD xi .top) κ ω δ) (Ab 8 (Gk 4 5 (Ab 11 (Mx (.int .i64 5) (.int .i64 5) (Ab 21 (Ff))))))))))))))))))))))))))))))))))))))))))))))))))))))))))))))))))))))
theorem Rd {p:Pr} {r:Rv} {c:Cs} {k:Nat} (hp:Im p) (hc:Fb p c) (hr:Lo r) (hk:k<r.waits.length) (h:Yk p r c k=true):AF Tryz.prog 17 [El p,Ge r,Gr c,.int (r.waits.getD k 0)] (.lit (.tuple #[.int .i64 (Ld p c (Io p r c (r.waits.getD k 0)):Int),dW (Aj p r c k)])):=by
 have hw:=hr.2.2.1.2.2 k hk
 have:=Rq p r c (r.waits.getD k 0) hp hc hr ⟨hw.1,hw.2.1⟩
 unfold pL at this
 rwa [if_pos (of_decide_eq_true h)] at this
theorem Rr {p:Pr} {r:Rv} {c:Cs} {k:Nat} (hp:Im p) (hc:Fb p c) (hr:Lo r) (hk:k<r.waits.length) (h:Yk p r c k=false):AF Tryz.prog 17 [El p,Ge r,Gr c,.int (r.waits.getD k 0)] (.lit (.tuple #[.int .i64 (-1),.agg #[.int .i64 0,.int .i64 0,.int .i64 0]])):=by
 have hw:=hr.2.2.1.2.2 k hk
 have:=Rq p r c (r.waits.getD k 0) hp hc hr ⟨hw.1,hw.2.1⟩
 unfold pL at this
 rwa [if_neg (of_decide_eq_false h)] at this
def pK (l:List Rl):AV:=if l.length=0 then .lit (.slice none 0 0) else Mk l
theorem VR.relO {E:Bs} {v:Value} {l:List Rl} (h:VR E (pK l) v):VR E (Mk l) v:=by
 unfold pK at h
 split at h
 rename_i h0
 have:=h.lit_inv
 subst this
 rw[List.eq_nil_of_length_eq_zero h0]
 exact .sl0 _ _ _ _ _
 exact h
theorem aX (v:V3) (h:Dk 1048576 [v.x,v.y,v.z]=true):AF Tryz.prog 79 [Gp v] (.bool true):=by
 have hb:=uV h
 have:=wW v
 rwa [show Dk 16777216 [v.x,v.y,v.z]=true by unfold Dk;simp;omega] at this
theorem iT (x y:Int) (h: -9223372036854775808<=x-y/\x-y<=9223372036854775807):AF Tryz.prog 81 [.int x,.int y] (.int (x-y)):=by
 refine Bv func81 rfl λB D0 hA0=>?_
 exact Ab 9 (Dt (x-y) (x-y) (Ab 4 (Ff)))
theorem iS (u v:V3) (hu:Dk 1048576 [u.x,u.y,u.z]=true) (hv:Dk 1048576 [v.x,v.y,v.z]=true):AF Tryz.prog 46 [Gp u,Gp v] (.lit (.tuple #[.int .i64 ((u.x-v.x)*(u.x-v.x)+(u.y-v.y)*(u.y-v.y)+(u.z-v.z)*(u.z-v.z)),.int .i64 0])):=by
 have hb:=uV hu
 have hw:=uV hv
 have hqx:=iD (d:=u.x-v.x) ω
 have hqy:=iD (d:=u.y-v.y) ω
 have hqz:=iD (d:=u.z-v.z) ω
 refine Bv func46 rfl λB D0 hA0=>?_
 refine Ab 12 (Bx (aX u hu) (Ab 3 (Bx (aX v hv) (Ab 11 (Xi 2 func80 (λ_ hD1=>?_))))))
 refine Ab 8 (Gw [(5,_,.none),(11,_,.none),(17,_,.none)] [6] ⟨rD (iT u.x v.x ω),rD (iT u.y v.y ω),rD (iT u.z v.z ω),trivial⟩ (Ab 2 (qG (Ab 8 (Xi 6 func82 (λ_ hD2=>?_))))))
 exact Ab 13 (Dt ((u.x-v.x)*(u.x-v.x)) ((u.x-v.x)*(u.x-v.x)) (Ab 4 (Dt ((u.y-v.y)*(u.y-v.y)) ((u.y-v.y)*(u.y-v.y)) (Dt ((u.x-v.x)*(u.x-v.x)+(u.y-v.y)*(u.y-v.y)) ((u.x-v.x)*(u.x-v.x)+(u.y-v.y)*(u.y-v.y)) (Ab 4 (Dt ((u.z-v.z)*(u.z-v.z)) ((u.z-v.z)*(u.z-v.z)) (Dt ((u.x-v.x)*(u.x-v.x)+(u.y-v.y)*(u.y-v.y)+(u.z-v.z)*(u.z-v.z)) ((u.x-v.x)*(u.x-v.x)+(u.y-v.y)*(u.y-v.y)+(u.z-v.z)*(u.z-v.z)) (Ab 4 (qG (Ab 5 (Ff)))))))))))
theorem Ex (v:V3) (z:Int) (h: -9223372036854775808<=v.z+z/\v.z+z<=9223372036854775807):AF Tryz.prog 47 [Gp v,.int z] (Gp ⟨v.x,v.y,v.z+z⟩):=by
 refine Bv func47 rfl λB D0 hA0=>?_
 exact Ab 11 (Dt (v.z+z) (v.z+z) (Ab 11 (Ff)))
theorem Rm (p:Pr) (r:Rv) (c:Cs) (hp:Im p) (hr:Tz r) (hg:Kq p r c):AF Tryz.prog 20 [El p,Ge r,Gr c] (pK (Be p r c)):=by
 have hi1:=hr.n
 have hn1:=hg.2.1.1
 have hn2:=hg.2.1.2.1
 have hw1:=hg.2.2.2.1.1
 have hw2:=hg.2.2.2.1.2.1
 have hs1:=hg.2.2.2.2.1
 have hs2:=hg.2.2.2.2.2.1
 refine Bv func20 rfl λB D0 hA0=>?_
 refine Ab 14 (Zt 0 (Zt 1 (Zt 2 (Ab 6 (Vh [3,4,5,7,8] (λm s=>∃k n,k<=r.waits.length/\m=r.waits.length-k/\(n=(Hh p r c k).length/\n<=k*128)/\(((n=0)/\s=⟨[(3,.elt 3 (λxi=>[Dq p.names,Fe p.homes,Er p.acts].getD (0+xi) .top)),(4,Kz r),(5,.elt 2 (λxi=>[.int c.craft,.int c.act].getD (0+xi) .top)),(7,.lit (.slice none 0 0)),(8,.int (k:Int))],[],3,132⟩)\/((0<n)/\s=⟨[(3,.elt 3 (λxi=>[Dq p.names,Fe p.homes,Er p.acts].getD (0+xi) .top)),(4,Kz r),(5,.elt 2 (λxi=>[.int c.craft,.int c.act].getD (0+xi) .top)),(7,.osl 50 3 n),(8,.int (k:Int))],[(50,.vec 52 3 n (λxi=>Av ((Hh p r c k).getD xi Rl.none)))],51,132⟩))) r.waits.length ⟨0,0,Nat.zero_le _,rfl,⟨rfl,Nat.zero_le _⟩,(.inl ⟨rfl,κ⟩)⟩ ?_)))))
 rintro _ _ ⟨k,n,hkn,rfl,hFk,(⟨hk0,rfl⟩|⟨hk0,rfl⟩)⟩ J1 hJ1
 ·
  refine Ab 10 (Em 23 ((k:Int)<(r.waits.length:Int)) (λhx1 hx1d=>?_) (λhx1 hx1d=>?_))
  ·
   refine Ab 6 ?_
   refine Dj (Yk p r c k) (λhx2=>?_) (λhx2=>?_)
   ·
    refine Gw [(6,Cz (Bu r.waits) k,.none),(8,_,.none)] [3,4,5,7,8,9,10] ⟨Ht k r.waits.length,En (Rd hp hg.1 hg.2 ω hx2),trivial⟩ (Ab 8 (Ip 39 (decide ((((Ld p c (Io p r c (r.waits.getD k 0))):Nat):Int)<0)) false (decide_eq_false ω) (Ab 3 ?_)))
    have hV:=aI hg.1 hx2
    refine Zt 3 (Ab 5 (Ca (.osl 4 1 r.homes.length) (.new 4 (.vec 4 1 r.homes.length (λ_=> .bool false))) (Li 97 (.tmp 42) (.tmp 42) κ underlying97 1 1 (.bool false) κ κ δ (r.homes.length:Int) r.homes.length ω κ κ ω ω ω 4 (.bool false) κ) (Ab 3 (Nh 4 4 1 r.homes.length (λ_=> .bool false) (λxi=>AV.bool (Dn r (Aj p r c k) 0 xi)) (λx9 hx9=>congrArg AV.bool (Abj r (Aj p r c k) x9).symm) (Ab 6 (Vh [3,4,5,7,8,10,11,12] (λm s=>∃y n2,y<=r.homes.length/\m=r.homes.length-y/\(n2=(Je p r c k y).length/\n2<=k*128+y*16)/\(((n2=0)/\s=⟨[(3,.elt 3 (λxi=>[Dq p.names,Fe p.homes,Er p.acts].getD (0+xi) .top)),(4,Kz r),(5,.elt 2 (λxi=>[.int c.craft,.int c.act].getD (0+xi) .top)),(7,.lit (.slice none 0 0)),(8,.int (k:Int)),(10,Nn (Aj p r c k)),(11,.osl 4 1 r.homes.length),(12,.int (y:Int))],[(4,.vec 4 1 r.homes.length (λxi=>AV.bool (Dn r (Aj p r c k) y xi)))],5,132⟩)\/((0<n2)/\s=⟨[(3,.elt 3 (λxi=>[Dq p.names,Fe p.homes,Er p.acts].getD (0+xi) .top)),(4,Kz r),(5,.elt 2 (λxi=>[.int c.craft,.int c.act].getD (0+xi) .top)),(7,.osl 50 3 n2),(8,.int (k:Int)),(10,Nn (Aj p r c k)),(11,.osl 4 1 r.homes.length),(12,.int (y:Int))],[(4,.vec 4 1 r.homes.length (λxi=>AV.bool (Dn r (Aj p r c k) y xi))),(50,.vec 52 3 n2 (λxi=>Av ((Je p r c k y).getD xi Rl.none)))],51,132⟩))) r.homes.length ⟨0,n,Nat.zero_le _,rfl,⟨by rw[Ym];omega,ω⟩,(.inl ⟨hk0,κ⟩)⟩ ?_))))))
    rintro _ _ ⟨y,n2,hyn,rfl,hFy,(⟨hy0,rfl⟩|⟨hy0,rfl⟩)⟩ J2 hJ2
    ·
     refine Ab 10 (Em 48 ((y:Int)<(r.homes.length:Int)) (λhx3 hx3d=>?_) (λhx3 hx3d=>?_))
     ·
      refine Ab 18 (Vh [3,4,5,7,8,10,11,12,13,14,15] (λm s=>∃k1 b f,m=r.homes.length-k1/\(Uc (Dn r (Aj p r c k) y) (Mz r (Aj p r c k)) k1=(b,f)/\k1<=r.homes.length)/\s=⟨[(3,.elt 3 (λxi=>[Dq p.names,Fe p.homes,Er p.acts].getD (0+xi) .top)),(4,Kz r),(5,.elt 2 (λxi=>[.int c.craft,.int c.act].getD (0+xi) .top)),(7,.lit (.slice none 0 0)),(8,.int (k:Int)),(10,Nn (Aj p r c k)),(11,.osl 4 1 r.homes.length),(12,.int (y:Int)),(13,.int b),(14,.int f),(15,.int ((k1:Nat):Int))],[(4,.vec 4 1 r.homes.length (λxi=>AV.bool (Dn r (Aj p r c k) y xi)))],5,132⟩) (r.homes.length-0) ⟨0,(-1),0,rfl,⟨rfl,Nat.zero_le _⟩,κ⟩ ?_)
      rintro _ _ ⟨k1,b,f,rfl,hF,rfl⟩ J3 hJ3
      refine Ab 10 (Em 55 (((k1:Nat):Int)<(r.homes.length:Int)) (λhx4 hx4d=>?_) (λhx4 hx4d=>?_))
      ·
       refine Ab 6 (Gw [(3,Cz (Hw r.homes) k1,.none),(6,_,.none)] [3,4,5,7,8,10,11,12,13,14,15,16] ⟨Ht k1 r.homes.length,En (iS (r.homes.getD k1 V3.zero) (Aj p r c k) (hg.2.2.1 k1 ω).1 hV),trivial⟩ (Ab 5 (Gk k1 r.homes.length (Ca (.bool (Dn r (Aj p r c k) y k1)) (.read 4) (Ct 4 (.tmp 70) κ isAgg4 4 k1 0 1 κ 4 r.homes.length (λxi=>AV.bool (Dn r (Aj p r c k) y xi)) κ ω δ) (Ab 2 (Ys 73 (Dn r (Aj p r c k) y k1) (λhx5=>?_) (λhx5=>?_)))))))
       ·
        exact Ab 16 (Dt (((k1:Nat):Int)+1) ((k1+1:Nat):Int) (Ab 2 (Iq [3,4,5,7,8,10,11,12,13,14,15] (hJ3 _ _ (by omega:r.homes.length-(k1+1)<r.homes.length-k1) ⟨k1+1,b,f,rfl,⟨Px hF.1 (.inl hx5),ω⟩,rfl⟩))))
       ·
        refine Ab 3 (Em 76 (b<0) (λhx6 hx6d=>?_) (λhx6 hx6d=>?_))
        ·
         exact Ab 18 (Dt (((k1:Nat):Int)+1) ((k1+1:Nat):Int) (Ab 2 (Iq [3,4,5,7,8,10,11,12,13,14,15] (hJ3 _ _ (by omega:r.homes.length-(k1+1)<r.homes.length-k1) ⟨k1+1,((k1:Nat):Int),Mz r (Aj p r c k) k1,rfl,⟨Py hF.1 hx5 ω,ω⟩,rfl⟩))))
        ·
         refine Ab 7 (Em 81 (Mz r (Aj p r c k) k1<f) (λhx7 hx7d=>?_) (λhx7 hx7d=>?_))
         ·
          exact Ab 11 (Dt (((k1:Nat):Int)+1) ((k1+1:Nat):Int) (Ab 2 (Iq [3,4,5,7,8,10,11,12,13,14,15] (hJ3 _ _ (by omega:r.homes.length-(k1+1)<r.homes.length-k1) ⟨k1+1,((k1:Nat):Int),Mz r (Aj p r c k) k1,rfl,⟨Py hF.1 hx5 ω,ω⟩,rfl⟩))))
         ·
          exact Ab 6 (Dt (((k1:Nat):Int)+1) ((k1+1:Nat):Int) (Ab 2 (Iq [3,4,5,7,8,10,11,12,13,14,15] (hJ3 _ _ (by omega:r.homes.length-(k1+1)<r.homes.length-k1) ⟨k1+1,b,f,rfl,⟨Px hF.1 (.inr ω),ω⟩,rfl⟩))))
      ·
       refine Ab 6 ?_
       have hke:k1=r.homes.length:=by omega
       subst hke
       have hb:=congrArg Prod.fst ((lG r (Aj p r c k) (y:=y) ω).symm.trans hF.1)
       have hb:(((Aw r (Aj p r c k)).getD y 0:Nat):Int)=b:=hb
       subst hb
       have hom:=Lw r (Aj p r c k) (x:=y) ω
       refine Ab 4 (Gk ((Aw r (Aj p r c k)).getD y 0) r.homes.length (Ca (.lit Go.undef) (.set 4 (.vec 4 1 r.homes.length (λxi=>if xi=(Aw r (Aj p r c k)).getD y 0 then .bool true else (λxi=>AV.bool (Dn r (Aj p r c k) y xi)) xi))) (Ek 4 (.tmp 86) (.const (.bool true)) κ 1 sizeOf4 4 ((Aw r (Aj p r c k)).getD y 0) κ 4 r.homes.length (λxi=>AV.bool (Dn r (Aj p r c k) y xi)) κ ω κ κ κ (.bool true) κ) (Ab 2 (Nh 4 4 1 r.homes.length (λxi=>if xi=(Aw r (Aj p r c k)).getD y 0 then .bool true else (λxi=>AV.bool (Dn r (Aj p r c k) y xi)) xi) (λxi=>AV.bool (Dn r (Aj p r c k) (y+1) xi)) (λx9 hx9=>by rw[Xv];split<;>rfl) (Ab 6 (Vh [3,4,5,7,8,10,11,12,13,18] (λm s=>∃u n3,u<=r.rises.length/\m=r.rises.length-u/\(n3=(Cp p r c k y u).length/\n3<=k*128+y*16+u)/\(((n3=0)/\s=⟨[(3,.elt 3 (λxi=>[Dq p.names,Fe p.homes,Er p.acts].getD (0+xi) .top)),(4,Kz r),(5,.elt 2 (λxi=>[.int c.craft,.int c.act].getD (0+xi) .top)),(7,.lit (.slice none 0 0)),(8,.int (k:Int)),(10,Nn (Aj p r c k)),(11,.osl 4 1 r.homes.length),(12,.int (y:Int)),(13,.int (((Aw r (Aj p r c k)).getD y 0:Nat):Int)),(18,.int (u:Int))],[(4,.vec 4 1 r.homes.length (λxi=>AV.bool (Dn r (Aj p r c k) (y+1) xi)))],5,132⟩)\/((0<n3)/\s=⟨[(3,.elt 3 (λxi=>[Dq p.names,Fe p.homes,Er p.acts].getD (0+xi) .top)),(4,Kz r),(5,.elt 2 (λxi=>[.int c.craft,.int c.act].getD (0+xi) .top)),(7,.osl 50 3 n3),(8,.int (k:Int)),(10,Nn (Aj p r c k)),(11,.osl 4 1 r.homes.length),(12,.int (y:Int)),(13,.int (((Aw r (Aj p r c k)).getD y 0:Nat):Int)),(18,.int (u:Int))],[(4,.vec 4 1 r.homes.length (λxi=>AV.bool (Dn r (Aj p r c k) (y+1) xi))),(50,.vec 52 3 n3 (λxi=>Av ((Cp p r c k y u).getD xi Rl.none)))],51,132⟩))) r.rises.length ⟨0,n2,Nat.zero_le _,rfl,⟨by rw[Pd];omega,ω⟩,(.inl ⟨hy0,κ⟩)⟩ ?_))))))
       rintro _ _ ⟨u,n3,hun,rfl,hFu,(⟨hu0,rfl⟩|⟨hu0,rfl⟩)⟩ J4 hJ4
       ·
        refine Ab 10 (Em 91 ((u:Int)<(r.rises.length:Int)) (λhx8 hx8d=>?_) (λhx8 hx8d=>?_))
        ·
         refine Ab 5 ?_
         have hris:=hg.2.2.2.2.2.2 u ω
         have hm3:=uV (hg.2.2.1 _ hom).1
         have hV3:=uV hV
         refine Ab 1 ?_
         refine Dj (Hs (r.homes.getD ((Aw r (Aj p r c k)).getD y 0) V3.zero) (r.rises.getD u 0)) (λhx9=>?_) (λhx9=>?_)
         ·
          refine Gw [(3,Cz (Hw r.homes) ((Aw r (Aj p r c k)).getD y 0),.none),(8,Cz (Bu r.rises) u,.none),(10,_,.none),(11,.bool true,.none),(17,Cz (Bu r.rises) u,.none),(19,_,.none),(20,_,.none)] [3,4,5,7,8,10,11,12,13,18,115] ⟨Ht ((Aw r (Aj p r c k)).getD y 0) r.homes.length,Ht u r.rises.length,En (Ex (r.homes.getD ((Aw r (Aj p r c k)).getD y 0) V3.zero) (r.rises.getD u 0) ω),yB hx9 (En (Ga ⟨(r.homes.getD ((Aw r (Aj p r c k)).getD y 0) V3.zero).x,(r.homes.getD ((Aw r (Aj p r c k)).getD y 0) V3.zero).y,(r.homes.getD ((Aw r (Aj p r c k)).getD y 0) V3.zero).z+r.rises.getD u 0⟩)),Ht u r.rises.length,En (Ex (Aj p r c k) (r.rises.getD u 0) ω),En (Ga ⟨(Aj p r c k).x,(Aj p r c k).y,(Aj p r c k).z+r.rises.getD u 0⟩),trivial⟩ (Ab 1 (eT 115 (Hs (Aj p r c k) (r.rises.getD u 0)) (λhx10=>?_) (λhx10=>?_)))
          ·
           exact Ab 1 (Gw [(5,Cz (Bu r.waits) k,.none),(10,Cz (Bu r.rises) u,.none),(13,.osl 5 3 1,(.new 5 (.vec 52 3 1 (λ_=> .lit (.agg #[.int .i64 (((Aw r (Aj p r c k)).getD y 0:Nat):Int),.int .i64 ((r.waits).getD k 0),.int .i64 ((r.rises).getD u 0)]))))),(14,.osl 6 3 1,(.newr 5 6 (.vec 52 3 1 (λxi=>Av ((Cp p r c k y (u+1)).getD xi Rl.none)))))] [3,4,5,7,8,10,11,12,13,18] ⟨Ht k r.waits.length,Ht u r.rises.length,Bb (Ak 45 1 #[(0,(.tmp 128))] κ underlying45 3 sizeOf52 _ zeroValue52 κ β β β 5 [.int (((Aw r (Aj p r c k)).getD y 0:Nat):Int),.int ((r.waits).getD k 0),.int ((r.rises).getD u 0)] κ (λ_=> .lit (.agg #[.int .i64 (((Aw r (Aj p r c k)).getD y 0:Nat):Int),.int .i64 ((r.waits).getD k 0),.int .i64 ((r.rises).getD u 0)])) κ),Bb (Cn (.tmp 116) (.tmp 129) 45 κ underlying45 3 24 (.agg #[.int .i64 0,.int .i64 0,.int .i64 0]) κ κ δ 1 ω (λ_=> .lit (.agg #[.int .i64 (((Aw r (Aj p r c k)).getD y 0:Nat):Int),.int .i64 ((r.waits).getD k 0),.int .i64 ((r.rises).getD u 0)])) (λxi=>Av ((Cp p r c k y (u+1)).getD xi Rl.none)) 6 (λi hi=>by(obtain rfl:i=0:=(ω));show Av _=Av ⟨(((Aw r (Aj p r c k)).getD y 0:Nat):Int),r.waits.getD k 0,r.rises.getD u 0⟩;rw[Eg hx9 hx10,List.eq_nil_of_length_eq_zero (by omega:(Cp p r c k y u).length=0)];rfl) (λi hi j hj=>match j,hj with|0,_=>rfl|1,_=>rfl|2,_=>rfl|_+3,h=>absurd h ω) (by unfold maxLen;omega) ω κ 5 52 κ κ),trivial⟩ (Ab 4 (Dt ((u:Int)+1) ((u+1:Nat):Int) (Ab 2 (Fx [3,4,5,7,8,10,11,12,13,18] [(4,4),(6,50)] 51 0 hA0 [(4,1,r.homes.length,(λxi=>AV.bool (Dn r (Aj p r c k) (y+1) xi))),(52,3,1,(λ_=> .lit (.agg #[.int .i64 (((Aw r (Aj p r c k)).getD y 0:Nat):Int),.int .i64 ((r.waits).getD k 0),.int .i64 ((r.rises).getD u 0)]))),(52,3,1,(λxi=>Av ((Cp p r c k y (u+1)).getD xi Rl.none)))] ⟨(Fv λ_ _=>rfl),(Fv λ_ _=>rfl),(Fv λ_ _=>rfl),trivial⟩ (hJ4 _ _ (by omega:r.rises.length-(u+1)<r.rises.length-u) ⟨u+1,1,ω,rfl,⟨by rw[Eg hx9 hx10,List.length_append,List.length_singleton];omega,ω⟩,(.inr ⟨ω,rfl⟩)⟩))))))
          ·
           exact Ab 6 (Dt ((u:Int)+1) ((u+1:Nat):Int) (Ab 2 (Iq [3,4,5,7,8,10,11,12,13,18] (hJ4 _ _ (by omega:r.rises.length-(u+1)<r.rises.length-u) ⟨u+1,0,ω,rfl,⟨by rw[Cj (.inr hx10)];omega,ω⟩,(.inl ⟨ω,rfl⟩)⟩))))
         ·
          exact Gw [(3,Cz (Hw r.homes) ((Aw r (Aj p r c k)).getD y 0),.none),(8,Cz (Bu r.rises) u,.none),(10,_,.none),(11,.bool false,.none)] [3,4,5,7,8,10,11,12,13,18,115] ⟨Ht ((Aw r (Aj p r c k)).getD y 0) r.homes.length,Ht u r.rises.length,En (Ex (r.homes.getD ((Aw r (Aj p r c k)).getD y 0) V3.zero) (r.rises.getD u 0) ω),yB hx9 (En (Ga ⟨(r.homes.getD ((Aw r (Aj p r c k)).getD y 0) V3.zero).x,(r.homes.getD ((Aw r (Aj p r c k)).getD y 0) V3.zero).y,(r.homes.getD ((Aw r (Aj p r c k)).getD y 0) V3.zero).z+r.rises.getD u 0⟩)),trivial⟩ (Ab 7 (Dt ((u:Int)+1) ((u+1:Nat):Int) (Ab 2 (Iq [3,4,5,7,8,10,11,12,13,18] (hJ4 _ _ (by omega:r.rises.length-(u+1)<r.rises.length-u) ⟨u+1,0,ω,rfl,⟨by rw[Cj (.inl hx9)];omega,ω⟩,(.inl ⟨ω,rfl⟩)⟩)))))
        ·
         exact Ab 9 (Dt ((y:Int)+1) ((y+1:Nat):Int) (Ab 2 (Iq [3,4,5,7,8,10,11,12] (hJ2 _ _ (by omega:r.homes.length-(y+1)<r.homes.length-y) ⟨y+1,0,ω,rfl,⟨by rw[<-Ks,show r.rises.length=u by omega];omega,ω⟩,(.inl ⟨ω,rfl⟩)⟩))))
       ·
        refine Ab 10 (Em 91 ((u:Int)<(r.rises.length:Int)) (λhx11 hx11d=>?_) (λhx11 hx11d=>?_))
        ·
         refine Ab 5 ?_
         have hris:=hg.2.2.2.2.2.2 u ω
         have hm3:=uV (hg.2.2.1 _ hom).1
         have hV3:=uV hV
         refine Ab 1 ?_
         refine Dj (Hs (r.homes.getD ((Aw r (Aj p r c k)).getD y 0) V3.zero) (r.rises.getD u 0)) (λhx12=>?_) (λhx12=>?_)
         ·
          refine Gw [(3,Cz (Hw r.homes) ((Aw r (Aj p r c k)).getD y 0),.none),(8,Cz (Bu r.rises) u,.none),(10,_,.none),(11,.bool true,.none),(17,Cz (Bu r.rises) u,.none),(19,_,.none),(20,_,.none)] [3,4,5,7,8,10,11,12,13,18,115] ⟨Ht ((Aw r (Aj p r c k)).getD y 0) r.homes.length,Ht u r.rises.length,En (Ex (r.homes.getD ((Aw r (Aj p r c k)).getD y 0) V3.zero) (r.rises.getD u 0) ω),yB hx12 (En (Ga ⟨(r.homes.getD ((Aw r (Aj p r c k)).getD y 0) V3.zero).x,(r.homes.getD ((Aw r (Aj p r c k)).getD y 0) V3.zero).y,(r.homes.getD ((Aw r (Aj p r c k)).getD y 0) V3.zero).z+r.rises.getD u 0⟩)),Ht u r.rises.length,En (Ex (Aj p r c k) (r.rises.getD u 0) ω),En (Ga ⟨(Aj p r c k).x,(Aj p r c k).y,(Aj p r c k).z+r.rises.getD u 0⟩),trivial⟩ (Ab 1 (eT 115 (Hs (Aj p r c k) (r.rises.getD u 0)) (λhx13=>?_) (λhx13=>?_)))
          ·
           exact Ab 1 (Gw [(5,Cz (Bu r.waits) k,.none),(10,Cz (Bu r.rises) u,.none),(13,.osl 51 3 1,(.new 51 (.vec 52 3 1 (λ_=> .lit (.agg #[.int .i64 (((Aw r (Aj p r c k)).getD y 0:Nat):Int),.int .i64 ((r.waits).getD k 0),.int .i64 ((r.rises).getD u 0)]))))),(14,.osl 52 3 (n3+1),(.grow2 50 51 52 (.vec 52 3 (n3+1) (λxi=>Av ((Cp p r c k y (u+1)).getD xi Rl.none)))))] [3,4,5,7,8,10,11,12,13,18] ⟨Ht k r.waits.length,Ht u r.rises.length,Bb (Ak 45 1 #[(0,(.tmp 128))] κ underlying45 3 sizeOf52 _ zeroValue52 κ β β β 51 [.int (((Aw r (Aj p r c k)).getD y 0:Nat):Int),.int ((r.waits).getD k 0),.int ((r.rises).getD u 0)] κ (λ_=> .lit (.agg #[.int .i64 (((Aw r (Aj p r c k)).getD y 0:Nat):Int),.int .i64 ((r.waits).getD k 0),.int .i64 ((r.rises).getD u 0)])) κ),Bb (Co (.tmp 116) (.tmp 129) 45 κ underlying45 3 24 (.agg #[.int .i64 0,.int .i64 0,.int .i64 0]) κ κ δ n3 1 ω (λxi=>Av ((Cp p r c k y u).getD xi Rl.none)) (λ_=> .lit (.agg #[.int .i64 (((Aw r (Aj p r c k)).getD y 0:Nat):Int),.int .i64 ((r.waits).getD k 0),.int .i64 ((r.rises).getD u 0)])) (λxi=>Av ((Cp p r c k y (u+1)).getD xi Rl.none)) 52 ω (by unfold maxLen;omega) (λi hi=>by show Av _=Av _;rw[Eg hx12 hx13,Jt,if_pos ω]) (λi hi=>by(obtain rfl:i=0:=(ω));show Av _=Av ⟨(((Aw r (Aj p r c k)).getD y 0:Nat):Int),r.waits.getD k 0,r.rises.getD u 0⟩;rw[Eg hx12 hx13,Jt,if_neg ω,show n3+0-(Cp p r c k y u).length=0 by omega];rfl) (λi hi j hj=>match j,hj with|0,_=>rfl|1,_=>rfl|2,_=>rfl|_+3,h=>absurd h ω) 50 κ κ 51 52 κ κ),trivial⟩ (Ab 4 (Dt ((u:Int)+1) ((u+1:Nat):Int) (Ab 2 (Fx [3,4,5,7,8,10,11,12,13,18] [(4,4),(52,50)] 51 0 hA0 [(4,1,r.homes.length,(λxi=>AV.bool (Dn r (Aj p r c k) (y+1) xi))),(52,3,1,(λ_=> .lit (.agg #[.int .i64 (((Aw r (Aj p r c k)).getD y 0:Nat):Int),.int .i64 ((r.waits).getD k 0),.int .i64 ((r.rises).getD u 0)]))),(52,3,n3+1,(λxi=>Av ((Cp p r c k y (u+1)).getD xi Rl.none)))] ⟨(Fv λ_ _=>rfl),(Fv λ_ _=>rfl),(Fv λ_ _=>rfl),trivial⟩ (hJ4 _ _ (by omega:r.rises.length-(u+1)<r.rises.length-u) ⟨u+1,n3+1,ω,rfl,⟨by rw[Eg hx12 hx13,List.length_append,List.length_singleton];omega,ω⟩,(.inr ⟨ω,rfl⟩)⟩))))))
          ·
           exact Ab 6 (Dt ((u:Int)+1) ((u+1:Nat):Int) (Ab 2 (Nh 50 52 3 n3 (λxi=>Av ((Cp p r c k y u).getD xi Rl.none)) (λxi=>Av ((Cp p r c k y (u+1)).getD xi Rl.none)) (λx9 hx9=>by rw[Cj (.inr hx13)]) (Iq [3,4,5,7,8,10,11,12,13,18] (hJ4 _ _ (by omega:r.rises.length-(u+1)<r.rises.length-u) ⟨u+1,n3,ω,rfl,⟨by rw[Cj (.inr hx13)];omega,ω⟩,(.inr ⟨ω,rfl⟩)⟩)))))
         ·
          exact Gw [(3,Cz (Hw r.homes) ((Aw r (Aj p r c k)).getD y 0),.none),(8,Cz (Bu r.rises) u,.none),(10,_,.none),(11,.bool false,.none)] [3,4,5,7,8,10,11,12,13,18,115] ⟨Ht ((Aw r (Aj p r c k)).getD y 0) r.homes.length,Ht u r.rises.length,En (Ex (r.homes.getD ((Aw r (Aj p r c k)).getD y 0) V3.zero) (r.rises.getD u 0) ω),yB hx12 (En (Ga ⟨(r.homes.getD ((Aw r (Aj p r c k)).getD y 0) V3.zero).x,(r.homes.getD ((Aw r (Aj p r c k)).getD y 0) V3.zero).y,(r.homes.getD ((Aw r (Aj p r c k)).getD y 0) V3.zero).z+r.rises.getD u 0⟩)),trivial⟩ (Ab 7 (Dt ((u:Int)+1) ((u+1:Nat):Int) (Ab 2 (Nh 50 52 3 n3 (λxi=>Av ((Cp p r c k y u).getD xi Rl.none)) (λxi=>Av ((Cp p r c k y (u+1)).getD xi Rl.none)) (λx9 hx9=>by rw[Cj (.inl hx12)]) (Iq [3,4,5,7,8,10,11,12,13,18] (hJ4 _ _ (by omega:r.rises.length-(u+1)<r.rises.length-u) ⟨u+1,n3,ω,rfl,⟨by rw[Cj (.inl hx12)];omega,ω⟩,(.inr ⟨ω,rfl⟩)⟩))))))
        ·
         exact Ab 9 (Dt ((y:Int)+1) ((y+1:Nat):Int) (Ab 2 (Nh 50 52 3 n3 (λxi=>Av ((Cp p r c k y u).getD xi Rl.none)) (λxi=>Av ((Je p r c k (y+1)).getD xi Rl.none)) (λx9 hx9=>by rw[<-Ks,show r.rises.length=u by omega]) (Iq [3,4,5,7,8,10,11,12] (hJ2 _ _ (by omega:r.homes.length-(y+1)<r.homes.length-y) ⟨y+1,n3,ω,rfl,⟨by rw[<-Ks,show r.rises.length=u by omega];omega,ω⟩,(.inr ⟨ω,rfl⟩)⟩)))))
     ·
      exact Ab 9 (Dt ((k:Int)+1) ((k+1:Nat):Int) (Ab 2 (Fx [3,4,5,7,8] [] 3 0 hA0 [(4,1,r.homes.length,(λxi=>AV.bool (Dn r (Aj p r c k) y xi)))] ⟨(Fv λ_ _=>rfl),trivial⟩ (hJ1 _ _ (by omega:r.waits.length-(k+1)<r.waits.length-k) ⟨k+1,0,ω,rfl,⟨by rw[<-Pe hx2,show r.homes.length=y by omega];omega,ω⟩,(.inl ⟨ω,rfl⟩)⟩))))
    ·
     refine Ab 10 (Em 48 ((y:Int)<(r.homes.length:Int)) (λhx14 hx14d=>?_) (λhx14 hx14d=>?_))
     ·
      refine Ab 18 (Vh [3,4,5,7,8,10,11,12,13,14,15] (λm s=>∃k1 b f,m=r.homes.length-k1/\(Uc (Dn r (Aj p r c k) y) (Mz r (Aj p r c k)) k1=(b,f)/\k1<=r.homes.length)/\s=⟨[(3,.elt 3 (λxi=>[Dq p.names,Fe p.homes,Er p.acts].getD (0+xi) .top)),(4,Kz r),(5,.elt 2 (λxi=>[.int c.craft,.int c.act].getD (0+xi) .top)),(7,.osl 50 3 n2),(8,.int (k:Int)),(10,Nn (Aj p r c k)),(11,.osl 4 1 r.homes.length),(12,.int (y:Int)),(13,.int b),(14,.int f),(15,.int ((k1:Nat):Int))],[(4,.vec 4 1 r.homes.length (λxi=>AV.bool (Dn r (Aj p r c k) y xi))),(50,.vec 52 3 n2 (λxi=>Av ((Je p r c k y).getD xi Rl.none)))],51,132⟩) (r.homes.length-0) ⟨0,(-1),0,rfl,⟨rfl,Nat.zero_le _⟩,κ⟩ ?_)
      rintro _ _ ⟨k1,b,f,rfl,hF,rfl⟩ J5 hJ5
      refine Ab 10 (Em 55 (((k1:Nat):Int)<(r.homes.length:Int)) (λhx15 hx15d=>?_) (λhx15 hx15d=>?_))
      ·
       refine Ab 6 (Gw [(3,Cz (Hw r.homes) k1,.none),(6,_,.none)] [3,4,5,7,8,10,11,12,13,14,15,16] ⟨Ht k1 r.homes.length,En (iS (r.homes.getD k1 V3.zero) (Aj p r c k) (hg.2.2.1 k1 ω).1 hV),trivial⟩ (Ab 5 (Gk k1 r.homes.length (Ca (.bool (Dn r (Aj p r c k) y k1)) (.read 4) (Ct 4 (.tmp 70) κ isAgg4 4 k1 0 1 κ 4 r.homes.length (λxi=>AV.bool (Dn r (Aj p r c k) y xi)) κ ω δ) (Ab 2 (Ys 73 (Dn r (Aj p r c k) y k1) (λhx16=>?_) (λhx16=>?_)))))))
       ·
        exact Ab 16 (Dt (((k1:Nat):Int)+1) ((k1+1:Nat):Int) (Ab 2 (Iq [3,4,5,7,8,10,11,12,13,14,15] (hJ5 _ _ (by omega:r.homes.length-(k1+1)<r.homes.length-k1) ⟨k1+1,b,f,rfl,⟨Px hF.1 (.inl hx16),ω⟩,rfl⟩))))
       ·
        refine Ab 3 (Em 76 (b<0) (λhx17 hx17d=>?_) (λhx17 hx17d=>?_))
        ·
         exact Ab 18 (Dt (((k1:Nat):Int)+1) ((k1+1:Nat):Int) (Ab 2 (Iq [3,4,5,7,8,10,11,12,13,14,15] (hJ5 _ _ (by omega:r.homes.length-(k1+1)<r.homes.length-k1) ⟨k1+1,((k1:Nat):Int),Mz r (Aj p r c k) k1,rfl,⟨Py hF.1 hx16 ω,ω⟩,rfl⟩))))
        ·
         refine Ab 7 (Em 81 (Mz r (Aj p r c k) k1<f) (λhx18 hx18d=>?_) (λhx18 hx18d=>?_))
         ·
          exact Ab 11 (Dt (((k1:Nat):Int)+1) ((k1+1:Nat):Int) (Ab 2 (Iq [3,4,5,7,8,10,11,12,13,14,15] (hJ5 _ _ (by omega:r.homes.length-(k1+1)<r.homes.length-k1) ⟨k1+1,((k1:Nat):Int),Mz r (Aj p r c k) k1,rfl,⟨Py hF.1 hx16 ω,ω⟩,rfl⟩))))
         ·
          exact Ab 6 (Dt (((k1:Nat):Int)+1) ((k1+1:Nat):Int) (Ab 2 (Iq [3,4,5,7,8,10,11,12,13,14,15] (hJ5 _ _ (by omega:r.homes.length-(k1+1)<r.homes.length-k1) ⟨k1+1,b,f,rfl,⟨Px hF.1 (.inr ω),ω⟩,rfl⟩))))
      ·
       refine Ab 6 ?_
       have hke:k1=r.homes.length:=by omega
       subst hke
       have hb:=congrArg Prod.fst ((lG r (Aj p r c k) (y:=y) ω).symm.trans hF.1)
       have hb:(((Aw r (Aj p r c k)).getD y 0:Nat):Int)=b:=hb
       subst hb
       have hom:=Lw r (Aj p r c k) (x:=y) ω
       refine Ab 4 (Gk ((Aw r (Aj p r c k)).getD y 0) r.homes.length (Ca (.lit Go.undef) (.set 4 (.vec 4 1 r.homes.length (λxi=>if xi=(Aw r (Aj p r c k)).getD y 0 then .bool true else (λxi=>AV.bool (Dn r (Aj p r c k) y xi)) xi))) (Ek 4 (.tmp 86) (.const (.bool true)) κ 1 sizeOf4 4 ((Aw r (Aj p r c k)).getD y 0) κ 4 r.homes.length (λxi=>AV.bool (Dn r (Aj p r c k) y xi)) κ ω κ κ κ (.bool true) κ) (Ab 2 (Nh 4 4 1 r.homes.length (λxi=>if xi=(Aw r (Aj p r c k)).getD y 0 then .bool true else (λxi=>AV.bool (Dn r (Aj p r c k) y xi)) xi) (λxi=>AV.bool (Dn r (Aj p r c k) (y+1) xi)) (λx9 hx9=>by rw[Xv];split<;>rfl) (Nh 50 52 3 n2 (λxi=>Av ((Je p r c k y).getD xi Rl.none)) (λxi=>Av ((Cp p r c k y 0).getD xi Rl.none)) (λx9 hx9=>by rw[Pd]) (Ab 6 (Vh [3,4,5,7,8,10,11,12,13,18] (λm s=>∃u n3,u<=r.rises.length/\m=r.rises.length-u/\(n3=(Cp p r c k y u).length/\n3<=k*128+y*16+u)/\((0<n3)/\s=⟨[(3,.elt 3 (λxi=>[Dq p.names,Fe p.homes,Er p.acts].getD (0+xi) .top)),(4,Kz r),(5,.elt 2 (λxi=>[.int c.craft,.int c.act].getD (0+xi) .top)),(7,.osl 50 3 n3),(8,.int (k:Int)),(10,Nn (Aj p r c k)),(11,.osl 4 1 r.homes.length),(12,.int (y:Int)),(13,.int (((Aw r (Aj p r c k)).getD y 0:Nat):Int)),(18,.int (u:Int))],[(4,.vec 4 1 r.homes.length (λxi=>AV.bool (Dn r (Aj p r c k) (y+1) xi))),(50,.vec 52 3 n3 (λxi=>Av ((Cp p r c k y u).getD xi Rl.none)))],51,132⟩)) r.rises.length ⟨0,n2,Nat.zero_le _,rfl,⟨by rw[Pd];omega,ω⟩,⟨hy0,κ⟩⟩ ?_)))))))
       rintro _ _ ⟨u,n3,hun,rfl,hFu,(⟨hu0,rfl⟩)⟩ J6 hJ6
       ·
        refine Ab 10 (Em 91 ((u:Int)<(r.rises.length:Int)) (λhx19 hx19d=>?_) (λhx19 hx19d=>?_))
        ·
         refine Ab 5 ?_
         have hris:=hg.2.2.2.2.2.2 u ω
         have hm3:=uV (hg.2.2.1 _ hom).1
         have hV3:=uV hV
         refine Ab 1 ?_
         refine Dj (Hs (r.homes.getD ((Aw r (Aj p r c k)).getD y 0) V3.zero) (r.rises.getD u 0)) (λhx20=>?_) (λhx20=>?_)
         ·
          refine Gw [(3,Cz (Hw r.homes) ((Aw r (Aj p r c k)).getD y 0),.none),(8,Cz (Bu r.rises) u,.none),(10,_,.none),(11,.bool true,.none),(17,Cz (Bu r.rises) u,.none),(19,_,.none),(20,_,.none)] [3,4,5,7,8,10,11,12,13,18,115] ⟨Ht ((Aw r (Aj p r c k)).getD y 0) r.homes.length,Ht u r.rises.length,En (Ex (r.homes.getD ((Aw r (Aj p r c k)).getD y 0) V3.zero) (r.rises.getD u 0) ω),yB hx20 (En (Ga ⟨(r.homes.getD ((Aw r (Aj p r c k)).getD y 0) V3.zero).x,(r.homes.getD ((Aw r (Aj p r c k)).getD y 0) V3.zero).y,(r.homes.getD ((Aw r (Aj p r c k)).getD y 0) V3.zero).z+r.rises.getD u 0⟩)),Ht u r.rises.length,En (Ex (Aj p r c k) (r.rises.getD u 0) ω),En (Ga ⟨(Aj p r c k).x,(Aj p r c k).y,(Aj p r c k).z+r.rises.getD u 0⟩),trivial⟩ (Ab 1 (eT 115 (Hs (Aj p r c k) (r.rises.getD u 0)) (λhx21=>?_) (λhx21=>?_)))
          ·
           exact Ab 1 (Gw [(5,Cz (Bu r.waits) k,.none),(10,Cz (Bu r.rises) u,.none),(13,.osl 51 3 1,(.new 51 (.vec 52 3 1 (λ_=> .lit (.agg #[.int .i64 (((Aw r (Aj p r c k)).getD y 0:Nat):Int),.int .i64 ((r.waits).getD k 0),.int .i64 ((r.rises).getD u 0)]))))),(14,.osl 52 3 (n3+1),(.grow2 50 51 52 (.vec 52 3 (n3+1) (λxi=>Av ((Cp p r c k y (u+1)).getD xi Rl.none)))))] [3,4,5,7,8,10,11,12,13,18] ⟨Ht k r.waits.length,Ht u r.rises.length,Bb (Ak 45 1 #[(0,(.tmp 128))] κ underlying45 3 sizeOf52 _ zeroValue52 κ β β β 51 [.int (((Aw r (Aj p r c k)).getD y 0:Nat):Int),.int ((r.waits).getD k 0),.int ((r.rises).getD u 0)] κ (λ_=> .lit (.agg #[.int .i64 (((Aw r (Aj p r c k)).getD y 0:Nat):Int),.int .i64 ((r.waits).getD k 0),.int .i64 ((r.rises).getD u 0)])) κ),Bb (Co (.tmp 116) (.tmp 129) 45 κ underlying45 3 24 (.agg #[.int .i64 0,.int .i64 0,.int .i64 0]) κ κ δ n3 1 ω (λxi=>Av ((Cp p r c k y u).getD xi Rl.none)) (λ_=> .lit (.agg #[.int .i64 (((Aw r (Aj p r c k)).getD y 0:Nat):Int),.int .i64 ((r.waits).getD k 0),.int .i64 ((r.rises).getD u 0)])) (λxi=>Av ((Cp p r c k y (u+1)).getD xi Rl.none)) 52 ω (by unfold maxLen;omega) (λi hi=>by show Av _=Av _;rw[Eg hx20 hx21,Jt,if_pos ω]) (λi hi=>by(obtain rfl:i=0:=(ω));show Av _=Av ⟨(((Aw r (Aj p r c k)).getD y 0:Nat):Int),r.waits.getD k 0,r.rises.getD u 0⟩;rw[Eg hx20 hx21,Jt,if_neg ω,show n3+0-(Cp p r c k y u).length=0 by omega];rfl) (λi hi j hj=>match j,hj with|0,_=>rfl|1,_=>rfl|2,_=>rfl|_+3,h=>absurd h ω) 50 κ κ 51 52 κ κ),trivial⟩ (Ab 4 (Dt ((u:Int)+1) ((u+1:Nat):Int) (Ab 2 (Fx [3,4,5,7,8,10,11,12,13,18] [(4,4),(52,50)] 51 0 hA0 [(4,1,r.homes.length,(λxi=>AV.bool (Dn r (Aj p r c k) (y+1) xi))),(52,3,1,(λ_=> .lit (.agg #[.int .i64 (((Aw r (Aj p r c k)).getD y 0:Nat):Int),.int .i64 ((r.waits).getD k 0),.int .i64 ((r.rises).getD u 0)]))),(52,3,n3+1,(λxi=>Av ((Cp p r c k y (u+1)).getD xi Rl.none)))] ⟨(Fv λ_ _=>rfl),(Fv λ_ _=>rfl),(Fv λ_ _=>rfl),trivial⟩ (hJ6 _ _ (by omega:r.rises.length-(u+1)<r.rises.length-u) ⟨u+1,n3+1,ω,rfl,⟨by rw[Eg hx20 hx21,List.length_append,List.length_singleton];omega,ω⟩,⟨ω,rfl⟩⟩))))))
          ·
           exact Ab 6 (Dt ((u:Int)+1) ((u+1:Nat):Int) (Ab 2 (Nh 50 52 3 n3 (λxi=>Av ((Cp p r c k y u).getD xi Rl.none)) (λxi=>Av ((Cp p r c k y (u+1)).getD xi Rl.none)) (λx9 hx9=>by rw[Cj (.inr hx21)]) (Iq [3,4,5,7,8,10,11,12,13,18] (hJ6 _ _ (by omega:r.rises.length-(u+1)<r.rises.length-u) ⟨u+1,n3,ω,rfl,⟨by rw[Cj (.inr hx21)];omega,ω⟩,⟨ω,rfl⟩⟩)))))
         ·
          exact Gw [(3,Cz (Hw r.homes) ((Aw r (Aj p r c k)).getD y 0),.none),(8,Cz (Bu r.rises) u,.none),(10,_,.none),(11,.bool false,.none)] [3,4,5,7,8,10,11,12,13,18,115] ⟨Ht ((Aw r (Aj p r c k)).getD y 0) r.homes.length,Ht u r.rises.length,En (Ex (r.homes.getD ((Aw r (Aj p r c k)).getD y 0) V3.zero) (r.rises.getD u 0) ω),yB hx20 (En (Ga ⟨(r.homes.getD ((Aw r (Aj p r c k)).getD y 0) V3.zero).x,(r.homes.getD ((Aw r (Aj p r c k)).getD y 0) V3.zero).y,(r.homes.getD ((Aw r (Aj p r c k)).getD y 0) V3.zero).z+r.rises.getD u 0⟩)),trivial⟩ (Ab 7 (Dt ((u:Int)+1) ((u+1:Nat):Int) (Ab 2 (Nh 50 52 3 n3 (λxi=>Av ((Cp p r c k y u).getD xi Rl.none)) (λxi=>Av ((Cp p r c k y (u+1)).getD xi Rl.none)) (λx9 hx9=>by rw[Cj (.inl hx20)]) (Iq [3,4,5,7,8,10,11,12,13,18] (hJ6 _ _ (by omega:r.rises.length-(u+1)<r.rises.length-u) ⟨u+1,n3,ω,rfl,⟨by rw[Cj (.inl hx20)];omega,ω⟩,⟨ω,rfl⟩⟩))))))
        ·
         exact Ab 9 (Dt ((y:Int)+1) ((y+1:Nat):Int) (Ab 2 (Nh 50 52 3 n3 (λxi=>Av ((Cp p r c k y u).getD xi Rl.none)) (λxi=>Av ((Je p r c k (y+1)).getD xi Rl.none)) (λx9 hx9=>by rw[<-Ks,show r.rises.length=u by omega]) (Iq [3,4,5,7,8,10,11,12] (hJ2 _ _ (by omega:r.homes.length-(y+1)<r.homes.length-y) ⟨y+1,n3,ω,rfl,⟨by rw[<-Ks,show r.rises.length=u by omega];omega,ω⟩,(.inr ⟨ω,rfl⟩)⟩)))))
     ·
      exact Ab 9 (Dt ((k:Int)+1) ((k+1:Nat):Int) (Ab 2 (Nh 50 52 3 n2 (λxi=>Av ((Je p r c k y).getD xi Rl.none)) (λxi=>Av ((Hh p r c (k+1)).getD xi Rl.none)) (λx9 hx9=>by rw[<-Pe hx2,show r.homes.length=y by omega]) (Fx [3,4,5,7,8] [(50,50)] 51 0 hA0 [(4,1,r.homes.length,(λxi=>AV.bool (Dn r (Aj p r c k) y xi))),(52,3,n2,(λxi=>Av ((Hh p r c (k+1)).getD xi Rl.none)))] ⟨(Fv λ_ _=>rfl),(Fv λ_ _=>rfl),trivial⟩ (hJ1 _ _ (by omega:r.waits.length-(k+1)<r.waits.length-k) ⟨k+1,n2,ω,rfl,⟨by rw[<-Pe hx2,show r.homes.length=y by omega];omega,ω⟩,(.inr ⟨ω,rfl⟩)⟩)))))
   ·
    exact Gw [(6,Cz (Bu r.waits) k,.none),(8,_,.none)] [3,4,5,7,8,9,10] ⟨Ht k r.waits.length,En (Rr hp hg.1 hg.2 ω hx2),trivial⟩ (Ab 15 (Dt ((k:Int)+1) ((k+1:Nat):Int) (Ab 2 (Fx [3,4,5,7,8] [] 3 0 hA0 [] trivial (hJ1 _ _ (by omega:r.waits.length-(k+1)<r.waits.length-k) ⟨k+1,0,ω,rfl,⟨by rw[Tt hx2];omega,ω⟩,(.inl ⟨ω,rfl⟩)⟩)))))
  ·
   exact Ab 13 (Ev (.lit (.slice none 0 0)) (by have hke:k=r.waits.length:=(ω);subst hke;exact(if_pos (by rw[Be];omega)).symm))
 ·
  refine Ab 10 (Em 23 ((k:Int)<(r.waits.length:Int)) (λhx22 hx22d=>?_) (λhx22 hx22d=>?_))
  ·
   refine Ab 6 ?_
   refine Dj (Yk p r c k) (λhx23=>?_) (λhx23=>?_)
   ·
    refine Gw [(6,Cz (Bu r.waits) k,.none),(8,_,.none)] [3,4,5,7,8,9,10] ⟨Ht k r.waits.length,En (Rd hp hg.1 hg.2 ω hx23),trivial⟩ (Ab 8 (Ip 39 (decide ((((Ld p c (Io p r c (r.waits.getD k 0))):Nat):Int)<0)) false (decide_eq_false ω) (Ab 3 ?_)))
    have hV:=aI hg.1 hx23
    refine Zt 51 (Ab 5 (Ca (.osl 52 1 r.homes.length) (.new 52 (.vec 4 1 r.homes.length (λ_=> .bool false))) (Li 97 (.tmp 42) (.tmp 42) κ underlying97 1 1 (.bool false) κ κ δ (r.homes.length:Int) r.homes.length ω κ κ ω ω ω 52 (.bool false) κ) (Ab 3 (Nh 52 4 1 r.homes.length (λ_=> .bool false) (λxi=>AV.bool (Dn r (Aj p r c k) 0 xi)) (λx9 hx9=>congrArg AV.bool (Abj r (Aj p r c k) x9).symm) (Nh 50 52 3 n (λxi=>Av ((Hh p r c k).getD xi Rl.none)) (λxi=>Av ((Je p r c k 0).getD xi Rl.none)) (λx9 hx9=>by rw[Ym]) (Ab 6 (Vh [3,4,5,7,8,10,11,12] (λm s=>∃y n2,y<=r.homes.length/\m=r.homes.length-y/\(n2=(Je p r c k y).length/\n2<=k*128+y*16)/\((0<n2)/\s=⟨[(3,.elt 3 (λxi=>[Dq p.names,Fe p.homes,Er p.acts].getD (0+xi) .top)),(4,Kz r),(5,.elt 2 (λxi=>[.int c.craft,.int c.act].getD (0+xi) .top)),(7,.osl 50 3 n2),(8,.int (k:Int)),(10,Nn (Aj p r c k)),(11,.osl 52 1 r.homes.length),(12,.int (y:Int))],[(50,.vec 52 3 n2 (λxi=>Av ((Je p r c k y).getD xi Rl.none))),(52,.vec 4 1 r.homes.length (λxi=>AV.bool (Dn r (Aj p r c k) y xi)))],53,132⟩)) r.homes.length ⟨0,n,Nat.zero_le _,rfl,⟨by rw[Ym];omega,ω⟩,⟨hk0,κ⟩⟩ ?_)))))))
    rintro _ _ ⟨y,n2,hyn,rfl,hFy,(⟨hy0,rfl⟩)⟩ J7 hJ7
    ·
     refine Ab 10 (Em 48 ((y:Int)<(r.homes.length:Int)) (λhx24 hx24d=>?_) (λhx24 hx24d=>?_))
     ·
      refine Ab 18 (Vh [3,4,5,7,8,10,11,12,13,14,15] (λm s=>∃k1 b f,m=r.homes.length-k1/\(Uc (Dn r (Aj p r c k) y) (Mz r (Aj p r c k)) k1=(b,f)/\k1<=r.homes.length)/\s=⟨[(3,.elt 3 (λxi=>[Dq p.names,Fe p.homes,Er p.acts].getD (0+xi) .top)),(4,Kz r),(5,.elt 2 (λxi=>[.int c.craft,.int c.act].getD (0+xi) .top)),(7,.osl 50 3 n2),(8,.int (k:Int)),(10,Nn (Aj p r c k)),(11,.osl 52 1 r.homes.length),(12,.int (y:Int)),(13,.int b),(14,.int f),(15,.int ((k1:Nat):Int))],[(50,.vec 52 3 n2 (λxi=>Av ((Je p r c k y).getD xi Rl.none))),(52,.vec 4 1 r.homes.length (λxi=>AV.bool (Dn r (Aj p r c k) y xi)))],53,132⟩) (r.homes.length-0) ⟨0,(-1),0,rfl,⟨rfl,Nat.zero_le _⟩,κ⟩ ?_)
      rintro _ _ ⟨k1,b,f,rfl,hF,rfl⟩ J8 hJ8
      refine Ab 10 (Em 55 (((k1:Nat):Int)<(r.homes.length:Int)) (λhx25 hx25d=>?_) (λhx25 hx25d=>?_))
      ·
       refine Ab 6 (Gw [(3,Cz (Hw r.homes) k1,.none),(6,_,.none)] [3,4,5,7,8,10,11,12,13,14,15,16] ⟨Ht k1 r.homes.length,En (iS (r.homes.getD k1 V3.zero) (Aj p r c k) (hg.2.2.1 k1 ω).1 hV),trivial⟩ (Ab 5 (Gk k1 r.homes.length (Ca (.bool (Dn r (Aj p r c k) y k1)) (.read 52) (Ct 4 (.tmp 70) κ isAgg4 52 k1 0 1 κ 4 r.homes.length (λxi=>AV.bool (Dn r (Aj p r c k) y xi)) κ ω δ) (Ab 2 (Ys 73 (Dn r (Aj p r c k) y k1) (λhx26=>?_) (λhx26=>?_)))))))
       ·
        exact Ab 16 (Dt (((k1:Nat):Int)+1) ((k1+1:Nat):Int) (Ab 2 (Iq [3,4,5,7,8,10,11,12,13,14,15] (hJ8 _ _ (by omega:r.homes.length-(k1+1)<r.homes.length-k1) ⟨k1+1,b,f,rfl,⟨Px hF.1 (.inl hx26),ω⟩,rfl⟩))))
       ·
        refine Ab 3 (Em 76 (b<0) (λhx27 hx27d=>?_) (λhx27 hx27d=>?_))
        ·
         exact Ab 18 (Dt (((k1:Nat):Int)+1) ((k1+1:Nat):Int) (Ab 2 (Iq [3,4,5,7,8,10,11,12,13,14,15] (hJ8 _ _ (by omega:r.homes.length-(k1+1)<r.homes.length-k1) ⟨k1+1,((k1:Nat):Int),Mz r (Aj p r c k) k1,rfl,⟨Py hF.1 hx26 ω,ω⟩,rfl⟩))))
        ·
         refine Ab 7 (Em 81 (Mz r (Aj p r c k) k1<f) (λhx28 hx28d=>?_) (λhx28 hx28d=>?_))
         ·
          exact Ab 11 (Dt (((k1:Nat):Int)+1) ((k1+1:Nat):Int) (Ab 2 (Iq [3,4,5,7,8,10,11,12,13,14,15] (hJ8 _ _ (by omega:r.homes.length-(k1+1)<r.homes.length-k1) ⟨k1+1,((k1:Nat):Int),Mz r (Aj p r c k) k1,rfl,⟨Py hF.1 hx26 ω,ω⟩,rfl⟩))))
         ·
          exact Ab 6 (Dt (((k1:Nat):Int)+1) ((k1+1:Nat):Int) (Ab 2 (Iq [3,4,5,7,8,10,11,12,13,14,15] (hJ8 _ _ (by omega:r.homes.length-(k1+1)<r.homes.length-k1) ⟨k1+1,b,f,rfl,⟨Px hF.1 (.inr ω),ω⟩,rfl⟩))))
      ·
       refine Ab 6 ?_
       have hke:k1=r.homes.length:=by omega
       subst hke
       have hb:=congrArg Prod.fst ((lG r (Aj p r c k) (y:=y) ω).symm.trans hF.1)
       have hb:(((Aw r (Aj p r c k)).getD y 0:Nat):Int)=b:=hb
       subst hb
       have hom:=Lw r (Aj p r c k) (x:=y) ω
       refine Ab 4 (Gk ((Aw r (Aj p r c k)).getD y 0) r.homes.length (Ca (.lit Go.undef) (.set 52 (.vec 4 1 r.homes.length (λxi=>if xi=(Aw r (Aj p r c k)).getD y 0 then .bool true else (λxi=>AV.bool (Dn r (Aj p r c k) y xi)) xi))) (Ek 4 (.tmp 86) (.const (.bool true)) κ 1 sizeOf4 52 ((Aw r (Aj p r c k)).getD y 0) κ 4 r.homes.length (λxi=>AV.bool (Dn r (Aj p r c k) y xi)) κ ω κ κ κ (.bool true) κ) (Ab 2 (Nh 52 4 1 r.homes.length (λxi=>if xi=(Aw r (Aj p r c k)).getD y 0 then .bool true else (λxi=>AV.bool (Dn r (Aj p r c k) y xi)) xi) (λxi=>AV.bool (Dn r (Aj p r c k) (y+1) xi)) (λx9 hx9=>by rw[Xv];split<;>rfl) (Nh 50 52 3 n2 (λxi=>Av ((Je p r c k y).getD xi Rl.none)) (λxi=>Av ((Cp p r c k y 0).getD xi Rl.none)) (λx9 hx9=>by rw[Pd]) (Ab 6 (Vh [3,4,5,7,8,10,11,12,13,18] (λm s=>∃u n3,u<=r.rises.length/\m=r.rises.length-u/\(n3=(Cp p r c k y u).length/\n3<=k*128+y*16+u)/\((0<n3)/\s=⟨[(3,.elt 3 (λxi=>[Dq p.names,Fe p.homes,Er p.acts].getD (0+xi) .top)),(4,Kz r),(5,.elt 2 (λxi=>[.int c.craft,.int c.act].getD (0+xi) .top)),(7,.osl 50 3 n3),(8,.int (k:Int)),(10,Nn (Aj p r c k)),(11,.osl 52 1 r.homes.length),(12,.int (y:Int)),(13,.int (((Aw r (Aj p r c k)).getD y 0:Nat):Int)),(18,.int (u:Int))],[(50,.vec 52 3 n3 (λxi=>Av ((Cp p r c k y u).getD xi Rl.none))),(52,.vec 4 1 r.homes.length (λxi=>AV.bool (Dn r (Aj p r c k) (y+1) xi)))],53,132⟩)) r.rises.length ⟨0,n2,Nat.zero_le _,rfl,⟨by rw[Pd];omega,ω⟩,⟨hy0,κ⟩⟩ ?_)))))))
       rintro _ _ ⟨u,n3,hun,rfl,hFu,(⟨hu0,rfl⟩)⟩ J9 hJ9
       ·
        refine Ab 10 (Em 91 ((u:Int)<(r.rises.length:Int)) (λhx29 hx29d=>?_) (λhx29 hx29d=>?_))
        ·
         refine Ab 5 ?_
         have hris:=hg.2.2.2.2.2.2 u ω
         have hm3:=uV (hg.2.2.1 _ hom).1
         have hV3:=uV hV
         refine Ab 1 ?_
         refine Dj (Hs (r.homes.getD ((Aw r (Aj p r c k)).getD y 0) V3.zero) (r.rises.getD u 0)) (λhx30=>?_) (λhx30=>?_)
         ·
          refine Gw [(3,Cz (Hw r.homes) ((Aw r (Aj p r c k)).getD y 0),.none),(8,Cz (Bu r.rises) u,.none),(10,_,.none),(11,.bool true,.none),(17,Cz (Bu r.rises) u,.none),(19,_,.none),(20,_,.none)] [3,4,5,7,8,10,11,12,13,18,115] ⟨Ht ((Aw r (Aj p r c k)).getD y 0) r.homes.length,Ht u r.rises.length,En (Ex (r.homes.getD ((Aw r (Aj p r c k)).getD y 0) V3.zero) (r.rises.getD u 0) ω),yB hx30 (En (Ga ⟨(r.homes.getD ((Aw r (Aj p r c k)).getD y 0) V3.zero).x,(r.homes.getD ((Aw r (Aj p r c k)).getD y 0) V3.zero).y,(r.homes.getD ((Aw r (Aj p r c k)).getD y 0) V3.zero).z+r.rises.getD u 0⟩)),Ht u r.rises.length,En (Ex (Aj p r c k) (r.rises.getD u 0) ω),En (Ga ⟨(Aj p r c k).x,(Aj p r c k).y,(Aj p r c k).z+r.rises.getD u 0⟩),trivial⟩ (Ab 1 (eT 115 (Hs (Aj p r c k) (r.rises.getD u 0)) (λhx31=>?_) (λhx31=>?_)))
          ·
           exact Ab 1 (Gw [(5,Cz (Bu r.waits) k,.none),(10,Cz (Bu r.rises) u,.none),(13,.osl 53 3 1,(.new 53 (.vec 52 3 1 (λ_=> .lit (.agg #[.int .i64 (((Aw r (Aj p r c k)).getD y 0:Nat):Int),.int .i64 ((r.waits).getD k 0),.int .i64 ((r.rises).getD u 0)]))))),(14,.osl 54 3 (n3+1),(.grow2 50 53 54 (.vec 52 3 (n3+1) (λxi=>Av ((Cp p r c k y (u+1)).getD xi Rl.none)))))] [3,4,5,7,8,10,11,12,13,18] ⟨Ht k r.waits.length,Ht u r.rises.length,Bb (Ak 45 1 #[(0,(.tmp 128))] κ underlying45 3 sizeOf52 _ zeroValue52 κ β β β 53 [.int (((Aw r (Aj p r c k)).getD y 0:Nat):Int),.int ((r.waits).getD k 0),.int ((r.rises).getD u 0)] κ (λ_=> .lit (.agg #[.int .i64 (((Aw r (Aj p r c k)).getD y 0:Nat):Int),.int .i64 ((r.waits).getD k 0),.int .i64 ((r.rises).getD u 0)])) κ),Bb (Co (.tmp 116) (.tmp 129) 45 κ underlying45 3 24 (.agg #[.int .i64 0,.int .i64 0,.int .i64 0]) κ κ δ n3 1 ω (λxi=>Av ((Cp p r c k y u).getD xi Rl.none)) (λ_=> .lit (.agg #[.int .i64 (((Aw r (Aj p r c k)).getD y 0:Nat):Int),.int .i64 ((r.waits).getD k 0),.int .i64 ((r.rises).getD u 0)])) (λxi=>Av ((Cp p r c k y (u+1)).getD xi Rl.none)) 54 ω (by unfold maxLen;omega) (λi hi=>by show Av _=Av _;rw[Eg hx30 hx31,Jt,if_pos ω]) (λi hi=>by(obtain rfl:i=0:=(ω));show Av _=Av ⟨(((Aw r (Aj p r c k)).getD y 0:Nat):Int),r.waits.getD k 0,r.rises.getD u 0⟩;rw[Eg hx30 hx31,Jt,if_neg ω,show n3+0-(Cp p r c k y u).length=0 by omega];rfl) (λi hi j hj=>match j,hj with|0,_=>rfl|1,_=>rfl|2,_=>rfl|_+3,h=>absurd h ω) 50 κ κ 53 52 κ κ),trivial⟩ (Ab 4 (Dt ((u:Int)+1) ((u+1:Nat):Int) (Ab 2 (Fx [3,4,5,7,8,10,11,12,13,18] [(54,50),(52,52)] 53 0 hA0 [(4,1,r.homes.length,(λxi=>AV.bool (Dn r (Aj p r c k) (y+1) xi))),(52,3,1,(λ_=> .lit (.agg #[.int .i64 (((Aw r (Aj p r c k)).getD y 0:Nat):Int),.int .i64 ((r.waits).getD k 0),.int .i64 ((r.rises).getD u 0)]))),(52,3,n3+1,(λxi=>Av ((Cp p r c k y (u+1)).getD xi Rl.none)))] ⟨(Fv λ_ _=>rfl),(Fv λ_ _=>rfl),(Fv λ_ _=>rfl),trivial⟩ (hJ9 _ _ (by omega:r.rises.length-(u+1)<r.rises.length-u) ⟨u+1,n3+1,ω,rfl,⟨by rw[Eg hx30 hx31,List.length_append,List.length_singleton];omega,ω⟩,⟨ω,rfl⟩⟩))))))
          ·
           exact Ab 6 (Dt ((u:Int)+1) ((u+1:Nat):Int) (Ab 2 (Nh 50 52 3 n3 (λxi=>Av ((Cp p r c k y u).getD xi Rl.none)) (λxi=>Av ((Cp p r c k y (u+1)).getD xi Rl.none)) (λx9 hx9=>by rw[Cj (.inr hx31)]) (Iq [3,4,5,7,8,10,11,12,13,18] (hJ9 _ _ (by omega:r.rises.length-(u+1)<r.rises.length-u) ⟨u+1,n3,ω,rfl,⟨by rw[Cj (.inr hx31)];omega,ω⟩,⟨ω,rfl⟩⟩)))))
         ·
          exact Gw [(3,Cz (Hw r.homes) ((Aw r (Aj p r c k)).getD y 0),.none),(8,Cz (Bu r.rises) u,.none),(10,_,.none),(11,.bool false,.none)] [3,4,5,7,8,10,11,12,13,18,115] ⟨Ht ((Aw r (Aj p r c k)).getD y 0) r.homes.length,Ht u r.rises.length,En (Ex (r.homes.getD ((Aw r (Aj p r c k)).getD y 0) V3.zero) (r.rises.getD u 0) ω),yB hx30 (En (Ga ⟨(r.homes.getD ((Aw r (Aj p r c k)).getD y 0) V3.zero).x,(r.homes.getD ((Aw r (Aj p r c k)).getD y 0) V3.zero).y,(r.homes.getD ((Aw r (Aj p r c k)).getD y 0) V3.zero).z+r.rises.getD u 0⟩)),trivial⟩ (Ab 7 (Dt ((u:Int)+1) ((u+1:Nat):Int) (Ab 2 (Nh 50 52 3 n3 (λxi=>Av ((Cp p r c k y u).getD xi Rl.none)) (λxi=>Av ((Cp p r c k y (u+1)).getD xi Rl.none)) (λx9 hx9=>by rw[Cj (.inl hx30)]) (Iq [3,4,5,7,8,10,11,12,13,18] (hJ9 _ _ (by omega:r.rises.length-(u+1)<r.rises.length-u) ⟨u+1,n3,ω,rfl,⟨by rw[Cj (.inl hx30)];omega,ω⟩,⟨ω,rfl⟩⟩))))))
        ·
         exact Ab 9 (Dt ((y:Int)+1) ((y+1:Nat):Int) (Ab 2 (Nh 50 52 3 n3 (λxi=>Av ((Cp p r c k y u).getD xi Rl.none)) (λxi=>Av ((Je p r c k (y+1)).getD xi Rl.none)) (λx9 hx9=>by rw[<-Ks,show r.rises.length=u by omega]) (Iq [3,4,5,7,8,10,11,12] (hJ7 _ _ (by omega:r.homes.length-(y+1)<r.homes.length-y) ⟨y+1,n3,ω,rfl,⟨by rw[<-Ks,show r.rises.length=u by omega];omega,ω⟩,⟨ω,rfl⟩⟩)))))
     ·
      exact Ab 9 (Dt ((k:Int)+1) ((k+1:Nat):Int) (Ab 2 (Nh 50 52 3 n2 (λxi=>Av ((Je p r c k y).getD xi Rl.none)) (λxi=>Av ((Hh p r c (k+1)).getD xi Rl.none)) (λx9 hx9=>by rw[<-Pe hx23,show r.homes.length=y by omega]) (Fx [3,4,5,7,8] [(50,50)] 51 0 hA0 [(52,3,n2,(λxi=>Av ((Hh p r c (k+1)).getD xi Rl.none))),(4,1,r.homes.length,(λxi=>AV.bool (Dn r (Aj p r c k) y xi)))] ⟨(Fv λ_ _=>rfl),(Fv λ_ _=>rfl),trivial⟩ (hJ1 _ _ (by omega:r.waits.length-(k+1)<r.waits.length-k) ⟨k+1,n2,ω,rfl,⟨by rw[<-Pe hx23,show r.homes.length=y by omega];omega,ω⟩,(.inr ⟨ω,rfl⟩)⟩)))))
   ·
    exact Gw [(6,Cz (Bu r.waits) k,.none),(8,_,.none)] [3,4,5,7,8,9,10] ⟨Ht k r.waits.length,En (Rr hp hg.1 hg.2 ω hx23),trivial⟩ (Ab 15 (Dt ((k:Int)+1) ((k+1:Nat):Int) (Ab 2 (Nh 50 52 3 n (λxi=>Av ((Hh p r c k).getD xi Rl.none)) (λxi=>Av ((Hh p r c (k+1)).getD xi Rl.none)) (λx9 hx9=>by rw[Tt hx23]) (Fx [3,4,5,7,8] [(50,50)] 51 0 hA0 [(52,3,n,(λxi=>Av ((Hh p r c (k+1)).getD xi Rl.none)))] ⟨(Fv λ_ _=>rfl),trivial⟩ (hJ1 _ _ (by omega:r.waits.length-(k+1)<r.waits.length-k) ⟨k+1,n,ω,rfl,⟨by rw[Tt hx23];omega,ω⟩,(.inr ⟨ω,rfl⟩)⟩))))))
  ·
   exact Ab 12 (Xh 50 [6] 52 3 n (λxi=>Av ((Hh p r c k).getD xi Rl.none)) (Fv λ_ _=>rfl) (Ab 1 (Ev (.sl 3 n (λxi=>Av ((Hh p r c k).getD xi Rl.none))) (by have hke:k=r.waits.length:=(ω);subst hke;rw[pK,if_neg (by rw[Be];omega),hFk.1];rfl))))
theorem Ue (p:Pr) (r:Rv) (c:Cs) (hp:Im p) (hr:Tz r) (hg:Kq p r c):AF Tryz.prog 20 [El p,Ge r,Gr c] (Mk (Be p r c)):=
 tP (Rm p r c hp hr hg) rfl (λ_ _ _ _ h=>h) λ_ _ h=>h.relO
theorem fE (l:List Rl) (hn:l.length<=1000000):AF Tryz.prog 19 [Mk l,Mk l] (.bool true):=by
 refine Bv func19 rfl λB D0 hA0=>?_
 refine Ab 15 (Ip 10 (!decide (((l).length:Int)=((l).length:Int))) false (congrArg (!·) (decide_eq_true rfl)) (Ab 10 (Lz [0,1,5] l.length (λi=>True) (λi=>⟨[(0,Mk l),(1,Mk l),(5,.int (i:Int))],[],0,26⟩) trivial (λi hin hFi J1 hJ1=>?_))))
 refine Ab 9 (Em 14 ((i:Int)<((l).length:Int)) (λhx1 hx1d=>?_) (λhx1 hx1d=>?_))
 ·
  exact Ab 6 (Gw [(2,Cz (Mk l) i,.none),(6,Cz (Mk l) i,.none),(8,.bool (!(decide (((l).getD i Rl.none).spare=((l).getD i Rl.none).spare/\((l).getD i Rl.none).wait=((l).getD i Rl.none).wait/\((l).getD i Rl.none).rise=((l).getD i Rl.none).rise))),.none)] [0,1,5,25] ⟨Ht i ((l).length),Ht i ((l).length),Bb (Tr 52 52 (.tmp 20) (.tmp 24) κ _ _ κ κ κ (decide (((l).getD i Rl.none).spare=((l).getD i Rl.none).spare/\((l).getD i Rl.none).wait=((l).getD i Rl.none).wait/\((l).getD i Rl.none).rise=((l).getD i Rl.none).rise)) (bT _ _ _ _ _ _)),trivial⟩ (Ab 1 (Ip 25 (!(decide (((l).getD i Rl.none).spare=((l).getD i Rl.none).spare/\((l).getD i Rl.none).wait=((l).getD i Rl.none).wait/\((l).getD i Rl.none).rise=((l).getD i Rl.none).rise))) false (congrArg (!·) (decide_eq_true ⟨rfl,rfl,rfl⟩)) (Ab 6 (Dt ((i:Int)+1) ((i+1:Nat):Int) (Ab 2 (Iq [0,1,5] (hJ1 ω trivial))))))))
 ·
  exact Ab 12 (Ff)
theorem vS {l:List Sg} (h:Fu l):Vr l:=⟨by have:=h.2;omega,λi=>by
 rcases Nat.lt_or_ge i l.length with g|g
 have c:=Qs h i g;exact xG ⟨c.1.2,c.2.1.2,c.2.2.2⟩
 rw[List.getD_eq_getElem?_getD,List.getElem?_eq_none g];exact Vr.nil.2 0⟩
theorem Lm {a:V3} {f t:Int} (h:f<t) (hb:Mb a a f t=true):AF Tryz.prog 26 [Gp a,.int f,.int t] (Ai (Gv a a f t 0)):=by
 refine Bv func26 rfl λB D0 hA0=>?_
 exact Ab 14 (Ip 11 (decide (t<=f)) false (decide_eq_false ω) (Ab 8 (Bx (fB hb) (Ab 14 (Ff)))))
theorem Vm {a:V3} {f t:Int} (h:t<=f):AF Tryz.prog 26 [Gp a,.int f,.int t] (.lit (.slice none 0 0)):=by
 refine Bv func26 rfl λB D0 hA0=>?_
 exact Ab 14 (Ip 11 (decide (t<=f)) true (decide_eq_true h) (Ab 8 (Ff)))
theorem Ib {a b:List Sg} (na:0<a.length) (nb:0<b.length) (ha:Dp a) (hb:Dp b) (h:Nz a b=(a++b,0)):AF Tryz.prog 55 [Ai a,Ai b] (.tup [Ai (a++b),.int 0]):=by
 refine Bv func55 rfl λB D0 hA0=>?_
 exact Ab 12 (Ip 8 (decide (((b).length:Int)=0)) false (decide_eq_false ω) (Ab 11 (Ip 12 (decide (((a).length:Int)=0)) false (decide_eq_false ω) (Ab 9 (Bx (Ml ha hb h) (Ab 7 (Ff)))))))
theorem Ll (a:List Sg):AF Tryz.prog 55 [Ai a,.lit (.slice none 0 0)] (.tup [Ai a,.int 0]):=by
 refine Bv func55 rfl λB D0 hA0=>?_
 exact Ab 24 (Ff)
theorem Zm (p:Pr) (r:Rv) (c:Cs) (x:Rl) (hp:Im p) (hc:Fb p c) (hr:Lo r) (h:Kb p r c x):AF Tryz.prog 17 [El p,Ge r,Gr c,.int x.wait] (.lit (.tuple #[.int .i64 (Oc p r c x:Int),dW (atR p r c x)])):=by
 have:=Rq p r c x.wait hp hc hr h.wait
 unfold pL at this
 rwa [if_pos h.act.2] at this
theorem wS (p:Pr) (c:Cs) (hp:Im p) (hc:Fb p c):AF Tryz.prog 27 [El p,.int c.act] (.int (Bf p c)):=by
 have h1:=hc.2.2.2
 have:=Rk p hp (Ie hc.1) c.act.toNat ω
 rwa [show (c.act.toNat:Int)=c.act by omega] at this
theorem Vl (p:Pr) (r:Rv) (c:Cs) (x:Rl) (hp:Im p) (hg:Kq p r c) (hn:p.acts.length<=5) (h:Kb p r c x):AF Tryz.prog 22 [El p,Ge r,Gr c,Av x] (.tup [Ai (relP p r c x),.int 0]):=by
 have h0:=h.s0
 have hs0:Ei p c x=Bf p c+x.wait:=rfl
 have ha0:Gu p r c x=Bf p c+x.wait+r.flight:=rfl
 have h1:=h.sp
 have h2:=hg.2.1
 have lo:=h.go.2
 have lt:=h.tail.2
 have lh:=h.hov.2
 have ls:=h.stay.2
 have lr:=h.rise
 have hac:=h.act
 have g1:=h.hov.1.app h.go.1
 have m1:(Ck r p c x++Fr p r c x).length<=4:=by rw[List.length_append];omega
 have m3:0<(Ck r p c x++Fr p r c x).length:=by rw[List.length_append];omega
 refine Bv func22 rfl λB D0 hA0=>?_
 refine Ab 17 (Bx (Zm p r c x hp hg.1 hg.2 h) (Ab 14 (AfU x.spare (x.spare).toNat r.homes.length (Ab 6 (Gw [(3,_,.none),(6,.int (Bf p c+x.wait),.none)] [4,5,6,7,10,11,12,13] ⟨En (wS p c hp hg.1),Bb (Br (v:= .int .i64 (IntKind.wrap .i64 (Bf p c+x.wait))) (v':= .int .i64 (Bf p c+x.wait)) _ κ rfl κ (λw=>by kernel_rfl) (congrArg (Value.int .i64) ((IntWalk.i64_in _ ω).trans ω))),trivial⟩ (Ab 2 (Gw [(3,.int (Bf p c+x.wait+r.flight),.none),(6,_,.none),(11,.int ((p.acts.length-1:Nat):Int),.none),(12,_,.none)] [4,6,7,11,12,13,14,15,16] ⟨Bb (Br (v:= .int .i64 (IntKind.wrap .i64 (Bf p c+x.wait+r.flight))) (v':= .int .i64 (Bf p c+x.wait+r.flight)) _ κ rfl κ (λw=>by kernel_rfl) (congrArg (Value.int .i64) ((IntWalk.i64_in _ ω).trans ω))),En (Rk p hp (Ie hg.1.1) (Oc p r c x) h.act.2),Bb (Br (v:= .int .i64 (IntKind.wrap .i64 ((p.acts.length:Int)-1))) (v':= .int .i64 ((p.acts.length-1:Nat):Int)) _ κ rfl κ (λw=>by kernel_rfl) (congrArg (Value.int .i64) ((IntWalk.i64_in _ ω).trans ω))),En (by have:=Rk p hp (Ie hg.1.1) (p.acts.length-1) ω;rwa [show p.acts.length-1+1=p.acts.length by omega] at this),trivial⟩ (Ab 7 (lO ((0:Int)<x.rise) (λhx1 hx1d=>?_) (λhx1 hx1d=>?_))))))))))
 ·
  refine Bx (Yt p r c x h) (Ab 15 (Ip 71 (decide ((0:Int)<x.rise)) true hx1 (Ab 8 (Bx (mC p r c x h hx1d) (Ab 12 (Bx (Mn p c hp hg.1) (Ab 34 (Em 100 (Gi p r c x<Bz p.acts p.acts.length) (λhx2 hx2d=>?_) (λhx2 hx2d=>?_)))))))))
  ·
   have n4:=h.tail.1.pos hx2d
   refine Ab 5 (Bx (Qf p r c x hg.1 h hx2d) (Ab 11 (Bx (Lm (a:=(Gc r x)) (f:=0) (t:=Ei p c x) ω (Ix h.hp h.hp ω ω ω)) (Ab 1 (Bx (Ib (a:=Ck r p c x) (b:=Fr p r c x) ω ω (Bq h.hov.1 ω) (Bq h.go.1 ω) (Dx h.hov.1 h.go.1 ω ω ω)) (Ab 13 (lO (Gu p r c x=Gi p r c x) (λhx3 hx3d=>?_) (λhx3 hx3d=>?_))))))))
   ·
    have g4:=h.tail.1
    rw[<-hx3d] at g4
    exact Bx (Vm (a:=(atR p r c x)) (f:=Gu p r c x) (t:=Gi p r c x) ω) (Bx (Ll (Ck r p c x++Fr p r c x)) (Ab 11 (Bx (Ib (a:=Ck r p c x++Fr p r c x) (b:=Fa p r c x) m3 n4 (Bq g1 ω) (Bq h.tail.1 ω) (Dx g1 g4 m3 n4 ω)) (Ab 37 (Ev (.tup [Ai (Ck r p c x++Fr p r c x++Fa p r c x),.int 0]) (by rw[relP,h.stay0 hx3d,List.append_nil]))))))
   ·
    have n3:=h.stay.1.pos ω
    have g2:=g1.app h.stay.1
    have m2:(Ck r p c x++Fr p r c x++Dv p r c x).length<=5:=by rw[List.length_append];omega
    have m4:0<(Ck r p c x++Fr p r c x++Dv p r c x).length:=by rw[List.length_append];omega
    exact Bx (Lm (a:=(atR p r c x)) (f:=Gu p r c x) (t:=Gi p r c x) ω (Ix h.ap h.ap ω ω ω)) (Bx (Ib (a:=Ck r p c x++Fr p r c x) (b:=Dv p r c x) ω n3 (Bq g1 ω) (Bq h.stay.1 ω) (Dx g1 h.stay.1 m3 n3 ω)) (Ab 11 (Bx (Ib (a:=Ck r p c x++Fr p r c x++Dv p r c x) (b:=Fa p r c x) m4 n4 (Bq g2 ω) (Bq h.tail.1 ω) (Dx g2 h.tail.1 m4 n4 ω)) (Ab 37 (Ev (.tup [Ai (Ck r p c x++Fr p r c x++Dv p r c x++Fa p r c x),.int 0]) (by rw[relP]))))))
  ·
   refine Ab 7 (Bx (Lm (a:=(Gc r x)) (f:=0) (t:=Ei p c x) ω (Ix h.hp h.hp ω ω ω)) (Ab 1 (Bx (Ib (a:=Ck r p c x) (b:=Fr p r c x) ω ω (Bq h.hov.1 ω) (Bq h.go.1 ω) (Dx h.hov.1 h.go.1 ω ω ω)) (Ab 13 (lO (Gu p r c x=Gi p r c x) (λhx4 hx4d=>?_) (λhx4 hx4d=>?_))))))
   ·
    have g4:=h.tail.1
    rw[<-hx4d] at g4
    exact Bx (Vm (a:=(atR p r c x)) (f:=Gu p r c x) (t:=Gi p r c x) ω) (Bx (Ll (Ck r p c x++Fr p r c x)) (Ab 11 (Bx (Ll (Ck r p c x++Fr p r c x)) (Ab 37 (Ev (.tup [Ai (Ck r p c x++Fr p r c x),.int 0]) (by rw[relP,h.tail0 hx2d,h.stay0 hx4d,List.append_nil,List.append_nil]))))))
   ·
    have n3:=h.stay.1.pos ω
    have g2:=g1.app h.stay.1
    have m2:(Ck r p c x++Fr p r c x++Dv p r c x).length<=5:=by rw[List.length_append];omega
    have m4:0<(Ck r p c x++Fr p r c x++Dv p r c x).length:=by rw[List.length_append];omega
    exact Bx (Lm (a:=(atR p r c x)) (f:=Gu p r c x) (t:=Gi p r c x) ω (Ix h.ap h.ap ω ω ω)) (Bx (Ib (a:=Ck r p c x++Fr p r c x) (b:=Dv p r c x) ω n3 (Bq g1 ω) (Bq h.stay.1 ω) (Dx g1 h.stay.1 m3 n3 ω)) (Ab 11 (Bx (Ll (Ck r p c x++Fr p r c x++Dv p r c x)) (Ab 37 (Ev (.tup [Ai (Ck r p c x++Fr p r c x++Dv p r c x),.int 0]) (by rw[relP,h.tail0 hx2d,List.append_nil]))))))
 ·
  refine Bx (aR p r c x h hx1d) (Ab 15 (Ip 71 (decide ((0:Int)<x.rise)) false hx1 (Ab 8 (Bx (Mn p c hp hg.1) (Ab 34 (Em 100 (Gi p r c x<Bz p.acts p.acts.length) (λhx5 hx5d=>?_) (λhx5 hx5d=>?_)))))))
  ·
   have n4:=h.tail.1.pos hx5d
   refine Ab 5 (Bx (Qf p r c x hg.1 h hx5d) (Ab 11 (Bx (Lm (a:=(Gc r x)) (f:=0) (t:=Ei p c x) ω (Ix h.hp h.hp ω ω ω)) (Ab 1 (Bx (Ib (a:=Ck r p c x) (b:=Fr p r c x) ω ω (Bq h.hov.1 ω) (Bq h.go.1 ω) (Dx h.hov.1 h.go.1 ω ω ω)) (Ab 13 (lO (Gu p r c x=Gi p r c x) (λhx6 hx6d=>?_) (λhx6 hx6d=>?_))))))))
   ·
    have g4:=h.tail.1
    rw[<-hx6d] at g4
    exact Bx (Vm (a:=(atR p r c x)) (f:=Gu p r c x) (t:=Gi p r c x) ω) (Bx (Ll (Ck r p c x++Fr p r c x)) (Ab 11 (Bx (Ib (a:=Ck r p c x++Fr p r c x) (b:=Fa p r c x) m3 n4 (Bq g1 ω) (Bq h.tail.1 ω) (Dx g1 g4 m3 n4 ω)) (Ab 37 (Ev (.tup [Ai (Ck r p c x++Fr p r c x++Fa p r c x),.int 0]) (by rw[relP,h.stay0 hx6d,List.append_nil]))))))
   ·
    have n3:=h.stay.1.pos ω
    have g2:=g1.app h.stay.1
    have m2:(Ck r p c x++Fr p r c x++Dv p r c x).length<=5:=by rw[List.length_append];omega
    have m4:0<(Ck r p c x++Fr p r c x++Dv p r c x).length:=by rw[List.length_append];omega
    exact Bx (Lm (a:=(atR p r c x)) (f:=Gu p r c x) (t:=Gi p r c x) ω (Ix h.ap h.ap ω ω ω)) (Bx (Ib (a:=Ck r p c x++Fr p r c x) (b:=Dv p r c x) ω n3 (Bq g1 ω) (Bq h.stay.1 ω) (Dx g1 h.stay.1 m3 n3 ω)) (Ab 11 (Bx (Ib (a:=Ck r p c x++Fr p r c x++Dv p r c x) (b:=Fa p r c x) m4 n4 (Bq g2 ω) (Bq h.tail.1 ω) (Dx g2 h.tail.1 m4 n4 ω)) (Ab 37 (Ev (.tup [Ai (Ck r p c x++Fr p r c x++Dv p r c x++Fa p r c x),.int 0]) (by rw[relP]))))))
  ·
   refine Ab 7 (Bx (Lm (a:=(Gc r x)) (f:=0) (t:=Ei p c x) ω (Ix h.hp h.hp ω ω ω)) (Ab 1 (Bx (Ib (a:=Ck r p c x) (b:=Fr p r c x) ω ω (Bq h.hov.1 ω) (Bq h.go.1 ω) (Dx h.hov.1 h.go.1 ω ω ω)) (Ab 13 (lO (Gu p r c x=Gi p r c x) (λhx7 hx7d=>?_) (λhx7 hx7d=>?_))))))
   ·
    have g4:=h.tail.1
    rw[<-hx7d] at g4
    exact Bx (Vm (a:=(atR p r c x)) (f:=Gu p r c x) (t:=Gi p r c x) ω) (Bx (Ll (Ck r p c x++Fr p r c x)) (Ab 11 (Bx (Ll (Ck r p c x++Fr p r c x)) (Ab 37 (Ev (.tup [Ai (Ck r p c x++Fr p r c x),.int 0]) (by rw[relP,h.tail0 hx5d,h.stay0 hx7d,List.append_nil,List.append_nil]))))))
   ·
    have n3:=h.stay.1.pos ω
    have g2:=g1.app h.stay.1
    have m2:(Ck r p c x++Fr p r c x++Dv p r c x).length<=5:=by rw[List.length_append];omega
    have m4:0<(Ck r p c x++Fr p r c x++Dv p r c x).length:=by rw[List.length_append];omega
    exact Bx (Lm (a:=(atR p r c x)) (f:=Gu p r c x) (t:=Gi p r c x) ω (Ix h.ap h.ap ω ω ω)) (Bx (Ib (a:=Ck r p c x++Fr p r c x) (b:=Dv p r c x) ω n3 (Bq g1 ω) (Bq h.stay.1 ω) (Dx g1 h.stay.1 m3 n3 ω)) (Ab 11 (Bx (Ll (Ck r p c x++Fr p r c x++Dv p r c x)) (Ab 37 (Ev (.tup [Ai (Ck r p c x++Fr p r c x++Dv p r c x),.int 0]) (by rw[relP,h.tail0 hx5d,List.append_nil]))))))
end Go.Proofs.YtldnjomacnjhnaaGreat
namespace Go.Proofs.YtldnjomacnjhnaaGreat
open Go.Proofs.Tryz
open Go.RowKit
theorem vL {P:Program} {B:Nat} {D0:Bs} {o:Oper} {ev:Operand->AV} {pre:Nat->Option Cu} (T T':TypeId) (x y:Operand) (ho:o.op= .binOp .rem T x y T') (a b r:Int) (hx:ev x= .int a) (hy:ev y= .int b) (hb:b≠0) (hr:a.tmod b=r):Fz P B D0 o ev pre (.int r) .none:=by
 refine Cv (.inl rfl) λE a' c _ _ hv=>⟨.int .i64 r,?_,.lit _ _⟩
 have h1:=hv x (by simp[ho,Op.operands])
 have h2:=hv y (by simp[ho,Op.operands])
 rw[hx] at h1
 rw[hy] at h2
 simp only[execOp,ho]
 rw[h1.lit_inv,h2.lit_inv,<-hr]
 simp[eqGuard,binOp,Op.intDiv,hb]
theorem wJ {k:Int} {n:Nat} (hk:0<=k) (hn:0<n):∃j:Nat,j<n/\k.tmod (n:Int)=(j:Int):=by
 obtain⟨m,rfl⟩:=Int.eq_ofNat_of_zero_le hk
 exact⟨m%n,Nat.mod_lt _ hn,rfl⟩
theorem Ab2 {l:List Rl} {x:Rl} {i:Nat} {b:Bool} (h:b=bP (Ya l x i)) (hb:b=true):true=bP (Ya l x (i+1)):=by
 obtain⟨q,h1,h2⟩:=Fk (h.symm.trans hb)
 exact(Di ⟨q,ω,h2⟩).symm
theorem AeN {l:List Rl} {x:Rl} {i:Nat} (h:(l.getD i Rl.none).spare=x.spare/\(l.getD i Rl.none).wait=x.wait/\(l.getD i Rl.none).rise=x.rise):true=bP (Ya l x (i+1)):=(Di ⟨i,ω,h⟩).symm
theorem AeO {l:List Rl} {x:Rl} {i:Nat} {b:Bool} (h:b=bP (Ya l x i)) (hb:b=false) (hn:¬((l.getD i Rl.none).spare=x.spare/\(l.getD i Rl.none).wait=x.wait/\(l.getD i Rl.none).rise=x.rise)):false=bP (Ya l x (i+1)):=by
 refine(As λ⟨q,h1,h2⟩=>?_).symm
 rcases Nat.lt_or_ge q i with g|g
 exact Kx (h.symm.trans hb) ⟨q,g,h2⟩
 obtain rfl:q=i:=by omega
 exact hn h2
theorem Ab1 {l:List Rl} {x:Rl} {i:Nat} {b:Bool} (h:b=bP (Ya l x i)) (hb:b=false):decide ((l.getD i Rl.none).spare=x.spare/\(l.getD i Rl.none).wait=x.wait/\(l.getD i Rl.none).rise=x.rise)=bP (Ya l x (i+1)):=by
 by_cases e:(l.getD i Rl.none).spare=x.spare/\(l.getD i Rl.none).wait=x.wait/\(l.getD i Rl.none).rise=x.rise
 rw[decide_eq_true e];exact AeN e
 rw[decide_eq_false e];exact AeO h hb e
theorem aS (p:Pr) (r:Rv) (c:Cs) (hp:Im p) (hr:Tz r) (hg:Kq p r c) (h:(Be p r c).length=0):AF Tryz.prog 20 [El p,Ge r,Gr c] (.lit (.slice none 0 0)):=by
 have:=Rm p r c hp hr hg
 rwa [pK,if_pos h] at this
theorem Aa8:AF Tryz.prog 19 [.lit (.slice none 0 0),.lit (.slice none 0 0)] (.bool true):=by
 refine Bv func19 rfl λB D0 hA0=>?_
 exact Ab 25 (wN 0 (Ab 21 (Ff)))
theorem eD (p:Pr) (r:Rv) (c:Cs) (k:Int) (o:Rl) (hl:∀a∈p.acts,Cy a.len) (hf:Cy r.flight) (hcs:Oy c) (hk:0<=k/\k<=255):AF Tryz.prog 6 [El p,Ge r,Gr c,.lit (.int .u8 k),Av o] (.bool true):=by
 refine Bv func6 rfl λB D0 hA0=>?_
 refine Ab 13 (Bx (Aa1 p 4 5 ⟨δ,δ⟩ ⟨δ,δ⟩) (Ab 2 (Ys 24 (bP (Ae9 p 4 5)) (λhx1=>?_) (λhx1=>?_))))
 ·
  refine Ab 1 (Bx (Aa2 r) (Ab 4 (Ys 28 (bP (bA r)) (λhx2=>?_) (λhx2=>?_))))
  ·
   refine Ab 9 ?_
   refine Dj (bP (Fb p c)) (λhx3=>?_) (λhx3=>?_)
   ·
    refine Dj (bP (Lo r)) (λhx4=>?_) (λhx4=>?_)
    ·
     have hp:=(Sf (Fk hx1) δ δ hl)
     have hr:=(bA.inn (Fk hx2) hf)
     have hg:Kq p r c:=⟨Fk hx3,Fk hx4⟩
     have hp5:p.acts.length<=5:=by have:=(Fk hx1).2.2.1;omega
     have hrl:=dF (p:=p) hg.2 c
     refine lO ((Be p r c).length=0) (λhx5 hx5d=>?_) (λhx5 hx5d=>?_)
     ·
      exact Bx (Uf p r c o hp hr hcs hg λg=>by rw[List.eq_nil_of_length_eq_zero hx5d] at g;cases g) (Ab 12 (Bx (Nj p c (Sf (Fk hx1) δ δ hl) hcs) (Ab 2 (Ip 42 (!bP (Fb p c)) false (nt hx3) (Ab 1 (Bx (Lf r (bA.inn (Fk hx2) hf)) (Ab 4 (Ip 46 (!bP (Lo r)) false (nt hx4) (Ab 8 (Bx (aS p r c hp hr hg hx5d) (Ab 8 (Ca (.lit (.slice none 0 0)) .none (Br (v:= .slice none 0 0) (v':= .slice none 0 0) _ κ rfl κ (λw=>by kernel_rfl) rfl) (Bx Aa8 (Ab 18 (wN 0 (Ab 40 (Bx Hx (Ab 5 (Ff)))))))))))))))))))
     ·
      refine Dj (bP (o∈Be p r c)) (λhx6=>?_) (λhx6=>?_)
      ·
       refine Bx (Qh p r c o hp hr hcs hg hp5 (Fk hx6)) (Ab 12 (Bx (Nj p c (Sf (Fk hx1) δ δ hl) hcs) (Ab 2 (Ip 42 (!bP (Fb p c)) false (nt hx3) (Ab 1 (Bx (Lf r (bA.inn (Fk hx2) hf)) (Ab 4 (Ip 46 (!bP (Lo r)) false (nt hx4) (Ab 8 (Bx (Ue p r c hp hr hg) (Ab 8 (Ca (.osl 4 3 ((Be p r c).length)) (.new 4 (.vec 52 3 ((Be p r c).length) (λxi=>Av ((Be p r c).getD xi Rl.none)))) (Oq (.const (.slice none 0 0)) (.tmp 57) 45 κ underlying45 3 24 (.agg #[.int .i64 0,.int .i64 0,.int .i64 0]) κ κ δ ((Be p r c).length) ω (λxi=>Av ((Be p r c).getD xi Rl.none)) (λxi=>Av ((Be p r c).getD xi Rl.none)) 4 (λi hi=>rfl) (λi hi j hj=>match j,hj with|0,_=>rfl|1,_=>rfl|2,_=>rfl|_+3,h=>absurd h ω) (by unfold maxLen;omega) ω κ κ) (Xh 4 [58] 52 3 ((Be p r c).length) (λxi=>Av ((Be p r c).getD xi Rl.none)) (Fv λ_ _=>rfl) (Bx (fE (Be p r c) ω) (Ab 18 (Vh [3,5,6,7,9,12,13,14,15] (λm s=>∃i b,m=(Be p r c).length-i/\(b=bP (Ya (Be p r c) o i)/\i<=(Be p r c).length)/\s=⟨[(3,.lit (.int .u8 k)),(5,.ptr 0 0),(6,.ptr 1 0),(7,.ptr 2 0),(9,.ptr 3 0),(12,.int 0),(13,Mk (Be p r c)),(14,.bool b),(15,.int (i:Int))],[(0,.box 31 [Dq p.names,Fe p.homes,Er p.acts]),(1,.box 25 [Hw r.homes,.int r.flight,Bu r.waits,Bu r.rises]),(2,.box 33 [.int c.craft,.int c.act]),(3,.box 52 [.int o.spare,.int o.wait,.int o.rise])],5,121⟩) ((Be p r c).length-0) ⟨0,false,rfl,⟨(As λ⟨q,h,_⟩=>absurd h (Nat.not_lt_zero q)).symm,Nat.zero_le _⟩,κ⟩ ?_))))))))))))))))
       rintro _ _ ⟨i,b,rfl,hF,rfl⟩ J1 hJ1
       refine Ab 9 (Em 64 ((i:Int)<((Be p r c).length:Int)) (λhx7 hx7d=>?_) (λhx7 hx7d=>?_))
       ·
        refine Ab 5 ?_
        refine Dj b (λhx8=>?_) (λhx8=>?_)
        ·
         exact Gw [(0,.bool true,.none)] [3,5,6,7,9,12,13,14,15] ⟨eB hx8,trivial⟩ (Ab 4 (Dt ((i:Int)+1) ((i+1:Nat):Int) (Ab 2 (Iq [3,5,6,7,9,12,13,14,15] (hJ1 _ _ (by omega:(Be p r c).length-(i+1)<(Be p r c).length-i) ⟨i+1,true,rfl,⟨Ab2 hF.1 hx8,ω⟩,rfl⟩)))))
        ·
         exact Gw [(0,.bool false,.none),(4,Cz (Mk (Be p r c)) i,.none),(7,.bool (decide (((Be p r c).getD i Rl.none).spare=o.spare/\((Be p r c).getD i Rl.none).wait=o.wait/\((Be p r c).getD i Rl.none).rise=o.rise)),.none)] [3,5,6,7,9,12,13,14,15] ⟨eB hx8,Ht i ((Be p r c).length),Bb (Tq 52 52 (.tmp 72) (.tmp 73) κ _ _ κ κ κ (decide (((Be p r c).getD i Rl.none).spare=o.spare/\((Be p r c).getD i Rl.none).wait=o.wait/\((Be p r c).getD i Rl.none).rise=o.rise)) (bT _ _ _ _ _ _)),trivial⟩ (Ab 4 (Dt ((i:Int)+1) ((i+1:Nat):Int) (Ab 2 (Iq [3,5,6,7,9,12,13,14,15] (hJ1 _ _ (by omega:(Be p r c).length-(i+1)<(Be p r c).length-i) ⟨i+1,decide (((Be p r c).getD i Rl.none).spare=o.spare/\((Be p r c).getD i Rl.none).wait=o.wait/\((Be p r c).getD i Rl.none).rise=o.rise),rfl,⟨Ab1 hF.1 hx8,ω⟩,rfl⟩)))))
       ·
        refine Ab 7 ?_
        have hie:i=(Be p r c).length:=by omega
        subst hie
        have hb:b=true:=hF.1.trans (Di (We.2 (Fk hx6)))
        refine Ab 5 (Ip 78 (!b) false (by rw[hb];rfl) (Ab 16 (Em 84 (((Be p r c).length:Int)=0) (λhx9 hx9d=>?_) (λhx9 hx9d=>?_))))
        ·
         exact Ab 3 (Bx Hx (Ab 5 (Ff)))
        ·
         refine Ab 3 ?_
         obtain⟨j,hj,hjt⟩:=wJ (k:=k) (n:=(Be p r c).length) ω ω
         have hmem:((Be p r c).getD j Rl.none)∈Be p r c:=by rw[List.getD_eq_getElem?_getD,List.getElem?_eq_getElem hj];exact List.getElem_mem hj
         have hrp:=(Vd hg.1 hg.2 (Qt hmem)).len hp5
         refine Ab 4 (Mx (.int .i64 (IntKind.wrap .i64 k)) (.int .i64 k) ?_ (congrArg (Value.int .i64) (IntWalk.i64_in _ ω)))
         exact Ab 2 (Ca (.int (j:Int)) .none (vL 3 3 (.tmp 88) (.tmp 90) κ k ((Be p r c).length:Int) (j:Int) κ κ ω hjt) (Gk j ((Be p r c).length) (Ab 11 (Bx (Qh p r c ((Be p r c).getD j Rl.none) hp hr hcs hg hp5 hmem) (Ab 13 (Bx (Vl p r c ((Be p r c).getD j Rl.none) hp hg hp5 (Vd hg.1 hg.2 (Qt hmem))) (Ab 15 (Bx (Ud (relP p r c ((Be p r c).getD j Rl.none)) (vS ((Vd hg.1 hg.2 (Qt hmem)).chain.okP ω ω).1)) (Ab 2 (Bx Hx (Ab 5 (Ff))))))))))))
      ·
       refine Bx (Uf p r c o hp hr hcs hg (Kx hx6)) (Ab 12 (Bx (Nj p c (Sf (Fk hx1) δ δ hl) hcs) (Ab 2 (Ip 42 (!bP (Fb p c)) false (nt hx3) (Ab 1 (Bx (Lf r (bA.inn (Fk hx2) hf)) (Ab 4 (Ip 46 (!bP (Lo r)) false (nt hx4) (Ab 8 (Bx (Ue p r c hp hr hg) (Ab 8 (Ca (.osl 4 3 ((Be p r c).length)) (.new 4 (.vec 52 3 ((Be p r c).length) (λxi=>Av ((Be p r c).getD xi Rl.none)))) (Oq (.const (.slice none 0 0)) (.tmp 57) 45 κ underlying45 3 24 (.agg #[.int .i64 0,.int .i64 0,.int .i64 0]) κ κ δ ((Be p r c).length) ω (λxi=>Av ((Be p r c).getD xi Rl.none)) (λxi=>Av ((Be p r c).getD xi Rl.none)) 4 (λi hi=>rfl) (λi hi j hj=>match j,hj with|0,_=>rfl|1,_=>rfl|2,_=>rfl|_+3,h=>absurd h ω) (by unfold maxLen;omega) ω κ κ) (Xh 4 [58] 52 3 ((Be p r c).length) (λxi=>Av ((Be p r c).getD xi Rl.none)) (Fv λ_ _=>rfl) (Bx (fE (Be p r c) ω) (Ab 18 (Vh [3,5,6,7,9,12,13,14,15] (λm s=>∃i b,m=(Be p r c).length-i/\(b=bP (Ya (Be p r c) o i)/\i<=(Be p r c).length)/\s=⟨[(3,.lit (.int .u8 k)),(5,.ptr 0 0),(6,.ptr 1 0),(7,.ptr 2 0),(9,.ptr 3 0),(12,.int 9),(13,Mk (Be p r c)),(14,.bool b),(15,.int (i:Int))],[(0,.box 31 [Dq p.names,Fe p.homes,Er p.acts]),(1,.box 25 [Hw r.homes,.int r.flight,Bu r.waits,Bu r.rises]),(2,.box 33 [.int c.craft,.int c.act]),(3,.box 52 [.int o.spare,.int o.wait,.int o.rise])],5,121⟩) ((Be p r c).length-0) ⟨0,false,rfl,⟨(As λ⟨q,h,_⟩=>absurd h (Nat.not_lt_zero q)).symm,Nat.zero_le _⟩,κ⟩ ?_))))))))))))))))
       rintro _ _ ⟨i,b,rfl,hF,rfl⟩ J2 hJ2
       refine Ab 9 (Em 64 ((i:Int)<((Be p r c).length:Int)) (λhx10 hx10d=>?_) (λhx10 hx10d=>?_))
       ·
        refine Ab 5 ?_
        refine Dj b (λhx11=>?_) (λhx11=>?_)
        ·
         exact Gw [(0,.bool true,.none)] [3,5,6,7,9,12,13,14,15] ⟨eB hx11,trivial⟩ (Ab 4 (Dt ((i:Int)+1) ((i+1:Nat):Int) (Ab 2 (Iq [3,5,6,7,9,12,13,14,15] (hJ2 _ _ (by omega:(Be p r c).length-(i+1)<(Be p r c).length-i) ⟨i+1,true,rfl,⟨Ab2 hF.1 hx11,ω⟩,rfl⟩)))))
        ·
         exact Gw [(0,.bool false,.none),(4,Cz (Mk (Be p r c)) i,.none),(7,.bool (decide (((Be p r c).getD i Rl.none).spare=o.spare/\((Be p r c).getD i Rl.none).wait=o.wait/\((Be p r c).getD i Rl.none).rise=o.rise)),.none)] [3,5,6,7,9,12,13,14,15] ⟨eB hx11,Ht i ((Be p r c).length),Bb (Tq 52 52 (.tmp 72) (.tmp 73) κ _ _ κ κ κ (decide (((Be p r c).getD i Rl.none).spare=o.spare/\((Be p r c).getD i Rl.none).wait=o.wait/\((Be p r c).getD i Rl.none).rise=o.rise)) (bT _ _ _ _ _ _)),trivial⟩ (Ab 4 (Dt ((i:Int)+1) ((i+1:Nat):Int) (Ab 2 (Iq [3,5,6,7,9,12,13,14,15] (hJ2 _ _ (by omega:(Be p r c).length-(i+1)<(Be p r c).length-i) ⟨i+1,decide (((Be p r c).getD i Rl.none).spare=o.spare/\((Be p r c).getD i Rl.none).wait=o.wait/\((Be p r c).getD i Rl.none).rise=o.rise),rfl,⟨Ab1 hF.1 hx11,ω⟩,rfl⟩)))))
       ·
        refine Ab 7 ?_
        have hie:i=(Be p r c).length:=by omega
        subst hie
        have hb:b=false:=hF.1.trans (As λg=>Kx hx6 (We.1 g))
        refine Ab 5 (Ip 78 (!b) true (by rw[hb];rfl) (Ab 16 (Em 84 (((Be p r c).length:Int)=0) (λhx12 hx12d=>?_) (λhx12 hx12d=>?_))))
        ·
         exact Ab 3 (Bx Hx (Ab 5 (Ff)))
        ·
         refine Ab 3 ?_
         obtain⟨j,hj,hjt⟩:=wJ (k:=k) (n:=(Be p r c).length) ω ω
         have hmem:((Be p r c).getD j Rl.none)∈Be p r c:=by rw[List.getD_eq_getElem?_getD,List.getElem?_eq_getElem hj];exact List.getElem_mem hj
         have hrp:=(Vd hg.1 hg.2 (Qt hmem)).len hp5
         refine Ab 4 (Mx (.int .i64 (IntKind.wrap .i64 k)) (.int .i64 k) ?_ (congrArg (Value.int .i64) (IntWalk.i64_in _ ω)))
         exact Ab 2 (Ca (.int (j:Int)) .none (vL 3 3 (.tmp 88) (.tmp 90) κ k ((Be p r c).length:Int) (j:Int) κ κ ω hjt) (Gk j ((Be p r c).length) (Ab 11 (Bx (Qh p r c ((Be p r c).getD j Rl.none) hp hr hcs hg hp5 hmem) (Ab 13 (Bx (Vl p r c ((Be p r c).getD j Rl.none) hp hg hp5 (Vd hg.1 hg.2 (Qt hmem))) (Ab 15 (Bx (Ud (relP p r c ((Be p r c).getD j Rl.none)) (vS ((Vd hg.1 hg.2 (Qt hmem)).chain.okP ω ω).1)) (Ab 2 (Bx Hx (Ab 5 (Ff))))))))))))
    ·
     exact Bx (Ro p r c o (Sf (Fk hx1) δ δ hl) (bA.inn (Fk hx2) hf) hcs λg=>Kx hx4 g.2) (Ab 12 (Bx (Nj p c (Sf (Fk hx1) δ δ hl) hcs) (Ab 2 (Ip 42 (!bP (Fb p c)) false (nt hx3) (Ab 1 (Bx (Lf r (bA.inn (Fk hx2) hf)) (Ab 4 (Ip 46 (!bP (Lo r)) true (nf hx4) (Ab 6 (Bx Hx (Ab 6 (Ff))))))))))))
   ·
    exact Bx (Ro p r c o (Sf (Fk hx1) δ δ hl) (bA.inn (Fk hx2) hf) hcs λg=>Kx hx3 g.1) (Ab 12 (Bx (Nj p c (Sf (Fk hx1) δ δ hl) hcs) (Ab 2 (Ip 42 (!bP (Fb p c)) true (nf hx3) (Ab 12 (Bx Hx (Ab 6 (Ff))))))))
  ·
   exact Ab 3 (Bx Hx (Ab 5 (Ff)))
 ·
  exact Ab 9 (Bx Hx (Ab 5 (Ff)))
end Go.Proofs.YtldnjomacnjhnaaGreat
namespace Go.Proofs.YtldnjomacnjhnaaGreat.Open
open Go.ChangeShapes Go.WideShapes Go.ChangeAt Go.RowKit Go.Deep
section
variable {H:Type} {enc:TypeId×Value->H} {W:World}
theorem AeI:Tryz.prog.cellsOf 3=1:=by kernel_rfl
theorem gX {a0:Option Addr} {l0 c0 fuel:Nat} {y:DataW H×List MemPlace} (h:DataW.trod enc Tryz.prog W 0 (λ_=>true) true fuel 23 [.slice a0 l0 c0]=some y):∃l:List Int,l.length=l0/\Cg W 0 W.heap.size 1 (.slice a0 l0 c0) l0 (l.flatMap λx=>[.int .i64 x])/\l0<=c0:=by
 have hc:=oU Tryz.underlying23 h
 obtain⟨lh,g1,g2,g3,_⟩:=Nf Tryz.underlying23 AeI δ h
 obtain⟨Hm,H1,H2⟩:=Wj (cells:=λv:Int=>[.int .i64 v]) lh (λcs hc=>by obtain⟨hl,n,y,ht⟩:=g2 cs hc;obtain⟨k,e,_⟩:=Hc ht;exact⟨k,e⟩)
 exact⟨Hm,ω,by rw[<-H2];exact g3,hc⟩
theorem open_resv {v:Value} {d:DataW H} {p:List MemPlace} {base:Nat} (hv:Value.okWide Tryz.prog W .any base 25 v) (h:DataW.Trod enc Tryz.prog W 0 (λ_=>true) true 25 v d p):
  ∃r:Rv,Cy r.flight/\∀E:Bs,E.w=W->(∀b,b<W.heap.size->E.D b)->VR E (Ge r) v:=by
 obtain⟨v0,v1,v2,v3,y0,y1,y2,y3,n,rfl,_,_,h0,h1,h2,h3⟩:=Go.Joins.open_agg4 Tryz.underlying25 κ κ hv h
 obtain⟨a0,l0,c0,e0⟩:=Go.Joins.slice_form Tryz.underlying22 h0
 obtain rfl:v0= .slice a0 l0 c0:=by simpa using e0
 obtain⟨k1,e1,f1⟩:=Hc h1
 obtain⟨a2,l2,c2,e2⟩:=Go.Joins.slice_form Tryz.underlying23 h2
 obtain rfl:v2= .slice a2 l2 c2:=by simpa using e2
 obtain⟨a3,l3,c3,e3⟩:=Go.Joins.slice_form Tryz.underlying23 h3
 obtain rfl:v3= .slice a3 l3 c3:=by simpa using e3
 have hc:=oU Tryz.underlying22 h0
 obtain⟨lh,g1,g2,g3,_⟩:=Nf Tryz.underlying22 Abc δ h0
 obtain⟨Hm,H1,H2⟩:=Wj (cells:=λv:V3=>[.int .i64 v.x,.int .i64 v.y,.int .i64 v.z]) lh (λcs hc=>by obtain⟨hl,n,y,ht⟩:=g2 cs hc;exact cT hl ht)
 have hL:Hm.length=l0:=by omega
 subst hL
 obtain⟨wl,rfl,w1,w2⟩:=gX h2
 obtain⟨rl,rfl,r1,r2⟩:=gX h3
 obtain rfl:v1= .int .i64 k1:=by simpa using e1
 have g3':Cg W 0 W.heap.size 3 (.slice a0 Hm.length c0) Hm.length (Jk Hm):=by unfold Jk;rw[<-H2];exact g3
 have Dm:∀{a:Option Addr} {c:Nat} {l:List Int} {E:Bs},Cg W 0 W.heap.size 1 (.slice a l.length c) l.length (l.flatMap λx=>[.int .i64 x])->l.length<=c->E.w=W->(∀b,b<W.heap.size->E.D b)->VR E (Bu l) (.slice a l.length c):=λ {a c l E} hs hc hw hD=> .slc _ _ _ _ _ _ hc (Ou hs hw (λb hb=>hD b hb.2) λi j hi hj=>by
  obtain rfl:j=0:=by omega
  have:=Na (λx:Int=>[Value.int .i64 x]) 1 (λ_=>rfl) l i 0 0 hi ω
  rw[this]
  exact .lit _ _)
 refine⟨⟨Hm,k1,wl,rl⟩,f1,λE hw hD=> .agg _ _ _ rfl λi hi=>?_⟩
 have h3:i<4:=hi
 match i,h3 with
 |0,_=>exact .slc _ _ _ _ _ _ hc (wM g3' hw λb hb=>hD b hb.2)
 |1,_=>exact .lit _ _
 |2,_=>exact Dm w1 w2 hw hD
 |3,_=>exact Dm r1 r2 hw hD
theorem open_rel {v:Value} {d:DataW H} {p:List MemPlace} {base:Nat} (hv:Value.okWide Tryz.prog W .any base 52 v) (h:DataW.Trod enc Tryz.prog W 0 (λ_=>true) true 52 v d p):
  ∃x:Rl,v= .agg #[.int .i64 x.spare,.int .i64 x.wait,.int .i64 x.rise]/\Cy x.spare/\Cy x.wait/\Cy x.rise:=by
 obtain⟨v0,v1,v2,y0,y1,y2,n,rfl,_,_,h0,h1,h2⟩:=Go.Joins.open_agg3 Tryz.underlying52 κ κ hv h
 obtain⟨k0,e0,f0⟩:=Hc h0
 obtain⟨k1,e1,f1⟩:=Hc h1
 obtain⟨k2,e2,f2⟩:=Hc h2
 simp at e0 e1 e2
 exact⟨⟨k0,k1,k2⟩,by simp[e0,e1,e2],f0,f1,f2⟩
end
end Go.Proofs.YtldnjomacnjhnaaGreat.Open
namespace Go.Proofs.YtldnjomacnjhnaaGreat
theorem AfT {k:Int} (h:(Lit.int IntKind.u8 k).wf=true):0<=k/\k<=255:=by
 simp[Lit.wf,IntKind.min,IntKind.max,IntKind.signed,IntKind.bits] at h
 exact⟨ω,ω⟩
end Go.Proofs.YtldnjomacnjhnaaGreat
namespace Go.Proofs.YtldnjomacnjhnaaGreat.SP
open Go.ChangeShapes Go.WideShapes Go.ChangeAt Go.RowKit Go.Deep
theorem own:ownKnob Tryz.prog.godebug=none:=by kernel_rfl
theorem aD:laidOutB Tryz.prog=true:=by kernel_rfl
theorem AeR (os:Os) (started:os.Started) (H:Type) (enc:TypeId×Value->H):
  ReturnsInHanded {} Tryz.checked os 6 .any (λw args=>Rows.sparePathsSpec.pre enc Tryz.prog Tryz.f6 [] false w args/\sizedMet enc Tryz.prog Tryz.f6 (OpenSpec.ofChange Rows.sparePathsSpec) false w args)
   (Rows.sparePathsSpec.post enc Tryz.prog Tryz.f6 false true false false):=by
 refine returnsInHanded_of_change (C:=Tryz.checked) own started κ Tryz.func6
  (by
   obtain⟨w,tape,i,h1,h2,h3,h4,⟨⟨hp,_⟩,hs⟩,h5⟩:=ChangeSpec.witness_shaped (enc:=enc) (C:=Tryz.checked) (os:=os) (f:=6) (fn:=Tryz.f6) (s:=Rows.sparePathsSpec) (conds:=[]) (apart:=false) (X:=λ_ _=>True) false (World.doorLaid Tryz.prog 400 os) #[.agg #[.slice none 0 0,.slice none 0 0,.slice none 0 0],.agg #[.slice none 0 0,.int .i64 0,.slice none 0 0,.slice none 0 0],.agg #[.int .i64 0,.int .i64 0],.int .u8 0,.agg #[.int .i64 0,.int .i64 0,.int .i64 0]] 8 rfl (World.shaped_of_RefB κ κ) κ κ κ trivial
   exact⟨w,tape,i,h1,h2,h3,h4,⟨hp,hs⟩,h5⟩) ?_
 intro W base args ds gs before hval0 hW _ _
 have hval:∀(j:Nat) t v,Tryz.f6.params[j]?=some t->args[j]?=some v->Value.okWide Tryz.prog W .any base t v:=hval0
 have hW':=hW
 obtain⟨p,q,hA0,hV,rfl,hfz,hnd⟩:=hW
 have hA:DataW.TrodAll enc Tryz.prog W 0 (λ_=>true) true Tryz.f6.params.toList args.toList ds p:=hA0
 rw[Tryz.params6] at hA hval
 obtain⟨v0,vs0,d0,ds0,p0,q0,hargs,rfl,rfl,h0,r0⟩:=trodAll_cons hA
 obtain⟨v1,vs1,d1,ds1,p1,q1,rfl,rfl,rfl,h1,r1⟩:=trodAll_cons r0
 obtain⟨v2,vs2,d2,ds2,p2,q2,rfl,rfl,rfl,h2,r2⟩:=trodAll_cons r1
 obtain⟨v3,vs3,d3,ds3,p3,q3,rfl,rfl,rfl,h3,r3⟩:=trodAll_cons r2
 obtain⟨v4,vs4,d4,ds4,p4,q4,rfl,rfl,rfl,h4,r4⟩:=trodAll_cons r3
 obtain⟨rfl,rfl,rfl⟩:=trodAll_nil r4
 obtain rfl:args=#[v0,v1,v2,v3,v4]:=by cases args;simp_all
 obtain⟨rfl,rfl⟩:=trodVars_none hV
 have k0:=h0
 have k1:=h1
 have k2:=h2
 have k4:=h4
 have lt0:∀x∈p0,x.block<W.heap.size:=by obtain⟨m,hm⟩:=k0;exact DataW.trod_lt m _ _ _ hm
 have lt1:∀x∈p1,x.block<W.heap.size:=by obtain⟨m,hm⟩:=k1;exact DataW.trod_lt m _ _ _ hm
 have lt2:∀x∈p2,x.block<W.heap.size:=by obtain⟨m,hm⟩:=k2;exact DataW.trod_lt m _ _ _ hm
 have lt4:∀x∈p4,x.block<W.heap.size:=by obtain⟨m,hm⟩:=k4;exact DataW.trod_lt m _ _ _ hm
 obtain⟨vn0,vh0,va0,pr,rfl,hp0,hsn0,hsa_pr⟩:=Open.open_prog2 (hval 0 31 v0 rfl rfl) h0
 obtain⟨rv,f_rv,hr1⟩:=Open.open_resv (hval 1 25 v1 rfl rfl) h1
 obtain⟨cs,rfl,hcs_cs⟩:=Open.open_case (hval 2 33 v2 rfl rfl) h2
 obtain⟨k,rfl,rfl,rfl,g_k⟩:=open_int Tryz.underlying5 (hval 3 5 v3 rfl rfl) h3
 obtain⟨o,rfl,g1_o,g2_o,g3_o⟩:=Open.open_rel (hval 4 52 v4 rfl rfl) h4
 clear hA0 hval0
 refine((eD pr rv cs k o (λa ha=>(hsa_pr a ha).2) f_rv hcs_cs (AfT g_k)).call W #[.agg #[vn0,vh0,va0],v1,.agg #[.int .i64 cs.craft,.int .i64 cs.act],.int .u8 k,.agg #[.int .i64 o.spare,.int .i64 o.wait,.int .i64 o.rise]] rfl (λE hw hD i hi=>?_)).mono λe W' ⟨he,bel⟩=>?_
 have hn:i<5:=hi
 match i,hn with
 |0,_=>exact AdN hp0 hw hD
 |1,_=>exact hr1 E hw hD
 |2,_=>exact .lit _ _
 |3,_=>exact .lit _ _
 |4,_=>exact .lit _ _
 subst he
 exact⟨_,rfl,_,_,_,[],_,[],hW',trodAll_mk1 (shut_bool Tryz.underlying4 _),(trodAll_cons_mk (Below.trod aD κ (of_decide_eq_true κ) k0 bel lt0) (trodAll_cons_mk (Below.trod aD κ (of_decide_eq_true κ) k1 bel lt1) (trodAll_cons_mk (Below.trod aD κ (of_decide_eq_true κ) k2 bel lt2) (trodAll_cons_mk (shut_int Tryz.underlying5 g_k) (trodAll_cons_mk (Below.trod aD κ (of_decide_eq_true κ) k4 bel lt4) trodAll_mk0))))),rfl,bel.frame _,λh=>by cases h⟩
theorem row_holds:Rows.SparePathsSaid:=
 OpenClaim.holds_of_wide 6 Tryz.f6 rfl rfl rfl rfl rfl rfl rfl ⟨rfl,rfl,rfl,rfl,rfl⟩ rfl rfl rfl rfl rfl κ Tryz.func6 κ
  (of_decide_eq_true κ) (by unfold Func.isWrapper;first|(rw[if_pos (by decide+kernel)];kernel_rfl)|(rw[if_neg (by decide+kernel)];exact⟨rfl,rfl⟩))
  (λos started H enc _=>AeR os started H enc)
end Go.Proofs.YtldnjomacnjhnaaGreat.SP