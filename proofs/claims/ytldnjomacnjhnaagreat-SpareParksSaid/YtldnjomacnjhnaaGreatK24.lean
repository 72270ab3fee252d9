/- Part 24 of the proof of SK.row_holds, joined by program: no condition beyond the row's own. -/
import Derived.Test.YtldnjomacnjhnaaGreatK23
set_option maxRecDepth 100000
set_option maxHeartbeats 40000000
namespace Go.Proofs.YtldnjomacnjhnaaGreat
open Go.Proofs.Tryz
open Go.RowKit
abbrev Gu (r:Rv) (x:Rl):V3:=r.homes.getD x.spare.toNat V3.zero
abbrev Ov (p:Pr) (r:Rv) (c:Cs) (x:Rl):Nat:=Oa p c (La p r c x.wait)
abbrev atR (p:Pr) (r:Rv) (c:Cs) (x:Rl):V3:=rE p c (Ov p r c x)
structure AdE (p:Pr) (r:Rv) (c:Cs) (x:Rl):Prop where
 sp:0<=x.spare/\x.spare<r.homes.length
 wait:∃k,k<r.waits.length/\x.wait=r.waits.getD k 0
 act:Ov p r c x<p.acts.length
 rise:∃u,u<r.rises.length/\x.rise=r.rises.getD u 0
 l1:Jz (Gu r x) x.rise=true
 l2:Jz (atR p r c x) x.rise=true
theorem nM {r:Rv} {w:Int} {v:V3} {i:Nat} {x:Rl}:∀q,x∈cS r w v i q↔∃u,u<q/\x=⟨(i:Int),w,r.rises.getD u 0⟩/\Jz (r.homes.getD i V3.zero) (r.rises.getD u 0)=true/\Jz v (r.rises.getD u 0)=true
 |0=>⟨λh=>(by cases h),λ⟨u,h,_⟩=>absurd h (Nat.not_lt_zero u)⟩
 |q+1=>by
  rw[cS,List.mem_append,nM q]
  constructor
  rintro(⟨u,h1,h2⟩|h)
  exact⟨u,ω,h2⟩
  split at h
  rename_i hl
  rw[Bool.and_eq_true] at hl
  exact⟨q,Nat.lt_succ_self q,List.mem_singleton.1 h,hl.1,hl.2⟩
  cases h
  rintro⟨u,h1,h2,h3,h4⟩
  by_cases e:u=q
  subst e
  rw[h3,h4]
  exact .inr (List.mem_singleton.2 h2)
  exact .inl ⟨u,ω,h2,h3,h4⟩
theorem nK {r:Rv} {w:Int} {v:V3} {o:List Nat} {x:Rl}:∀n,x∈jK r w v o n↔∃m,m<n/\x∈cS r w v (o.getD m 0) r.rises.length
 |0=>⟨λh=>(by cases h),λ⟨u,h,_⟩=>absurd h (Nat.not_lt_zero u)⟩
 |n+1=>by
  rw[jK,List.mem_append,nK n]
  constructor
  rintro(⟨u,h1,h2⟩|h)
  exact⟨u,ω,h2⟩
  exact⟨n,Nat.lt_succ_self n,h⟩
  rintro⟨u,h1,h2⟩
  by_cases e:u=n
  subst e;exact .inr h2
  exact .inl ⟨u,ω,h2⟩
theorem nO {p:Pr} {r:Rv} {c:Cs} {x:Rl}:∀n,x∈Jc p r c n↔∃k,k<n/\jJ p r c k=true/\x∈jK r (r.waits.getD k 0) (Bj p r c k) (Eb r (Bj p r c k)) r.homes.length
 |0=>⟨λh=>(by cases h),λ⟨u,h,_⟩=>absurd h (Nat.not_lt_zero u)⟩
 |n+1=>by
  rw[Jc,List.mem_append,nO n]
  constructor
  rintro(⟨u,h1,h2⟩|h)
  exact⟨u,ω,h2⟩
  split at h
  rename_i hl;exact⟨n,Nat.lt_succ_self n,hl,h⟩
  cases h
  rintro⟨u,h1,h2,h3⟩
  by_cases e:u=n
  subst e;rw[if_pos h2];exact .inr h3
  exact .inl ⟨u,ω,h2,h3⟩
theorem Adj {p:Pr} {r:Rv} {c:Cs} {x:Rl} (h:x∈Om p r c):AdE p r c x:=by
 obtain⟨k,hk,hb,h⟩:=(nO _).1 h
 obtain⟨m,hm,h⟩:=(nK _).1 h
 obtain⟨u,hu,rfl,h1,h2⟩:=(nM _).1 h
 have ho:=Vh r (Bj p r c k) hm
 exact⟨⟨Int.natCast_nonneg _,by show ((_:Nat):Int)<_;omega⟩,⟨k,hk,rfl⟩,of_decide_eq_true hb,⟨u,hu,rfl⟩,h1,h2⟩
abbrev Eh (p:Pr) (c:Cs) (x:Rl):Int:=Bq p c+x.wait
abbrev Iu (p:Pr) (r:Rv) (c:Cs) (x:Rl):Int:=Bq p c+x.wait+r.flight
abbrev Hw (p:Pr) (r:Rv) (c:Cs) (x:Rl):Int:=Bn p.acts (Ov p r c x+1)
def Ip (p:Pr) (r:Rv) (c:Cs) (x:Rl):List Sg:=if 0<x.rise then Zs (Gu r x) (atR p r c x) x.rise (Eh p c x) (Iu p r c x) else Ft (Gu r x) (atR p r c x) (Eh p c x) (Iu p r c x) 2
def Ee (r:Rv) (p:Pr) (c:Cs) (x:Rl):List Sg:=Ft (Gu r x) (Gu r x) 0 (Eh p c x) 0
def Gj (p:Pr) (r:Rv) (c:Cs) (x:Rl):List Sg:=Ft (atR p r c x) (atR p r c x) (Iu p r c x) (Hw p r c x) 0
abbrev Gb (p:Pr) (r:Rv) (c:Cs) (x:Rl):List Sg:=Aby p c.craft.toNat (Ov p r c x+1)
def relP (p:Pr) (r:Rv) (c:Cs) (x:Rl):List Sg:=Ee r p c x++Ip p r c x++Gj p r c x++Gb p r c x
structure Na (p:Pr) (r:Rv) (c:Cs) (x:Rl):Prop where
 s0:0<Eh p c x/\Eh p c x<Iu p r c x/\Iu p r c x<=Hw p r c x/\Hw p r c x<=Bn p.acts p.acts.length/\Bn p.acts p.acts.length<=3600000
 q4:(Iu p r c x-Eh p c x)%4=0
 sp:0<=x.spare/\x.spare<r.homes.length
 wait:0<=x.wait/\x.wait<=3600000
 rise:0<=x.rise/\x.rise<=1048576
 act:c.act.toNat+1<=Ov p r c x/\Ov p r c x<p.acts.length
 hp:(Gu r x).pt=true
 ap:(atR p r c x).pt=true
 hu:((Gu r x).up x.rise).pt=true
 au:((atR p r c x).up x.rise).pt=true
 hov:Br (Ee r p c x) (Gu r x) (Gu r x) 0 (Eh p c x)/\(Ee r p c x).length=1
 go:Br (Ip p r c x) (Gu r x) (atR p r c x) (Eh p c x) (Iu p r c x)/\1<=(Ip p r c x).length/\(Ip p r c x).length<=3
 stay:Br (Gj p r c x) (atR p r c x) (atR p r c x) (Iu p r c x) (Hw p r c x)/\(Gj p r c x).length<=1
 tail:Br (Gb p r c x) (atR p r c x) ((Dx p p.acts.length).getD c.craft.toNat V3.zero) (Hw p r c x) (Bn p.acts p.acts.length)/\(Gb p r c x).length<=5*p.acts.length
 own:Br (Im p (Ov p r c x+1) c.craft.toNat) ((Dx p 0).getD c.craft.toNat V3.zero) (atR p r c x) 0 (Hw p r c x)
 app:Im p p.acts.length c.craft.toNat=Im p (Ov p r c x+1) c.craft.toNat++Gb p r c x
theorem uJ {l:List Ac} {a:Int}:∀k i,Xd l a k i<i+k->a<=Bn l (Xd l a k i+1)
 |0,i,h=>by rw[Xd] at h;omega
 |k+1,i,h=>by
  rw[Xd] at h ⊢
  split
  assumption
  rename_i hn
  rw[if_neg hn] at h
  exact uJ k (i+1) ω
theorem dS {p:Pr} (ho:Wf p) {j:Nat}:∀m,j+m<=p.acts.length->Bn p.acts j<=Bn p.acts (j+m)
 |0,_=>Int.le_refl _
 |m+1,h=>by
  have h1:=dS ho (j:=j) m ω
  have h2:=ho.len (j+m) ω
  rw[show j+(m+1)=j+m+1 from rfl,Bn];omega
theorem Aer {p:Pr} {r:Rv} {c:Cs} {x:Rl} (hc:Il p c) (hr:Kd r) (h:AdE p r c x):Na p r c x:=by
 have ho:=Fz hc.1
 obtain⟨_,c1,c2,c3,c4⟩:=hc
 obtain⟨⟨n1,n2,f1,f2,f4⟩,hh,hw,hs⟩:=hr
 obtain⟨k,hk,ek⟩:=h.wait
 obtain⟨u,hu,eu⟩:=h.rise
 have wk:=hw.2.2 k hk
 have wu:=hs.2.2 u hu
 have act:=h.act
 have hlo:c.act.toNat+1<=Ov p r c x:=(uK _ _).1
 have hge:Iu p r c x<=Hw p r c x:=uJ _ _ (by have:=h.act;show Ov p r c x<_;omega)
 have hcr:c.craft.toNat<p.names.length:=by omega
 have e0:0<Bq p c:=Qs ho (c.act.toNat+1) ω (Nat.succ_pos _)
 have e1:=(ho.ends p.acts.length (Nat.le_refl _)).2
 have e2:Hw p r c x<=Bn p.acts p.acts.length:=by
  have:=dS ho (j:=Ov p r c x+1) (p.acts.length-(Ov p r c x+1)) ω
  rwa [show Ov p r c x+1+(p.acts.length-(Ov p r c x+1))=p.acts.length by omega] at this
 have hp:(Gu r x).pt=true:=(hh x.spare.toNat (by have:=h.sp;omega)).1
 have ap:(atR p r c x).pt=true:=ho.to ω hcr
 have q4:(Iu p r c x-Eh p c x)%4=0:=by
  have:Int.tmod r.flight 4=0:=f4
  rw[Int.tmod_eq_emod_of_nonneg ω] at this
  show (Bq p c+x.wait+r.flight-(Bq p c+x.wait))%4=0
  omega
 have s1:0<Eh p c x:=by show 0<Bq p c+x.wait;omega
 have s2:Eh p c x<Iu p r c x:=by show Bq p c+x.wait<Bq p c+x.wait+r.flight;omega
 have ef:(Dx p (Ov p r c x+1)).getD c.craft.toNat V3.zero=atR p r c x:=sZ p _ _
 have hov:=Mp (a:=Gu r x) (f:=0) (t:=Eh p c x) hp (Int.le_refl 0) ω ω
 have stay:=Mp (a:=atR p r c x) (f:=Iu p r c x) (t:=Hw p r c x) ap ω hge ω
 have tail:=nQ ho hcr (k:=Ov p r c x+1) ω
 rw[ef] at tail
 have own:=Wu ho hcr (Ov p r c x+1) ω
 rw[ef] at own
 have go:Br (Ip p r c x) (Gu r x) (atR p r c x) (Eh p c x) (Iu p r c x)/\(Ip p r c x).length<=3:=by
  unfold Ip
  split
  exact⟨dL hp ap h.l1 h.l2 ω s2 ω q4,by rw[Zt];exact Nat.le_refl _⟩
  exact⟨Wo (.inl rfl) hp ap ω s2 ω,by have:=Hy (Gu r x) (atR p r c x) (Eh p c x) (Iu p r c x) 2;omega⟩
 refine⟨⟨s1,s2,hge,e2,e1⟩,q4,h.sp,ω,ω,⟨hlo,act⟩,hp,ap,h.l1,h.l2,⟨hov,?_⟩,⟨go.1,go.1.pos s2,go.2⟩,⟨stay,Hy _ _ _ _ _⟩,⟨tail,?_⟩,own,xO _ ω⟩
 have h1:=hov.pos s1
 have h2:=Hy (Gu r x) (Gu r x) 0 (Eh p c x) 0
 show (Ft _ _ _ _ _).length=1
 omega
 have:=nG p c.craft.toNat (Ov p r c x+1) (p.acts.length-(Ov p r c x+1))
 show (qN _ _ _ _).length<=_
 omega
theorem Acg (l:List Sg) (f t:Int) (hl:Dg l) (hok:Fn l) (hf:0<=f/\f<=3600000) (ht:0<=t/\t<=3600000) (hpos:0<(Iv l f t l.length).length):AF Tryz.prog 87 [Ai l,.int f,.int t] (jM (lN l f t)):=by
 have hln:=hok.2
 refine Cc func87 rfl λB D0 hA0=>?_
 refine Ae 12 (Yf 2 func116 (λ_ hD1=>?_))
 refine Ae 15 (rM (Ae 3 (vnm [6,7,13] ?_)))
 refine vrg 5 func139 (λsp2 sp2p sp2a sp2b _ hD3=>?_)
 refine Ae 8 (fG [0,2,3,12,13,14] (λm s=>∃r n,r<=l.length/\m=l.length-r/\(n=(Iv l f t r).length/\Xj l f t r/\n<=r)/\(((n=0)/\s=⟨[(0,.yld 5),(2,.ptr 3 0),(3,.ptr 4 0),(12,Ai l),(13,.int ((l).length:Int)),(14,.int (r:Int))],[(0,.box 54 [.lit (.slice none 0 0)]),(1,.box 37 [.int 0]),(2,.box 54 [Ai l]),(3,.box 3 [.int f]),(4,.box 3 [.int t]),(5,.loop .ready none sp2 [(6,.ptr 0 0),(7,.ptr 1 0),(13,.fn 139 [.ptr 2 0,.ptr 3 0,.ptr 4 0])] 23)],6,62⟩)\/((0<n)/\s=⟨[(0,.yld 5),(2,.ptr 3 0),(3,.ptr 4 0),(12,Ai l),(13,.int ((l).length:Int)),(14,.int (r:Int))],[(0,.box 54 [.osl 50 6 n]),(1,.box 37 [.int 0]),(2,.box 54 [Ai l]),(3,.box 3 [.int f]),(4,.box 3 [.int t]),(5,.loop .ready none sp2 [(6,.ptr 0 0),(7,.ptr 1 0),(13,.fn 139 [.ptr 2 0,.ptr 3 0,.ptr 4 0])] 23),(50,.vec 81 6 n (λxi=>Cn ((Iv l f t r).getD xi Sg.none)))],51,62⟩))) l.length ⟨0,0,Nat.zero_le _,rfl,⟨rfl,λj hj=>absurd hj (Nat.not_lt_zero j),Nat.le_refl _⟩,(.inl ⟨rfl,κ⟩)⟩ ?_)
 rintro _ _ ⟨r,n,hrn,rfl,hFr,(⟨hr0,rfl⟩|⟨hr0,rfl⟩)⟩ J1 hJ1
 ·
  refine Ae 6 (Fd 15 ((r:Int)<((l).length:Int)) (λhx4 hx4d=>?_) (λhx4 hx4d=>?_))
  ·
   refine Ae 5 ?_
   have hso:=(hok.1 r ω).1
   have hs:=hl.2 r
   have hh:=hso.1
   unfold Jw at hh
   have hA:pA l f r=max f ((l).getD r Sg.none).f:=rfl
   have hB:pB l t r=min t ((l).getD r Sg.none).t:=rfl
   have hD:pD ((l).getD r Sg.none)=((l).getD r Sg.none).t-((l).getD r Sg.none).f:=rfl
   refine Ae 2 (Ga r ((l).length) (Ae 6 (Jf [(3,.int (max f (((l).getD r Sg.none).f)),.none),(7,.int (min t (((l).getD r Sg.none).t)),.none)] [0,2,3,6,7,8,12,13,14] ⟨Bc (iY (.tmp 18) (.tmp 20) #[3,3] κ f (((l).getD r Sg.none).f) κ κ),Bc (tT (.tmp 22) (.tmp 24) #[3,3] κ t (((l).getD r Sg.none).t) κ κ),trivial⟩ (Ae 9 (Fd 28 (min t (((l).getD r Sg.none).t)<=max f (((l).getD r Sg.none).f)) (λhx5 hx5d=>?_) (λhx5 hx5d=>?_))))))
   ·
    exact Ae 6 (Ev ((r:Int)+1) ((r+1:Nat):Int) (Ae 2 (Gk [0,2,3,12,13,14] [(0,0),(1,1),(2,2),(3,3),(4,4),(5,5)] 6 6 hD3 [] trivial (hJ1 _ _ (by omega:l.length-(r+1)<l.length-r) ⟨r+1,0,ω,rfl,⟨by rw[Og ω];omega,Zw ω hFr.2.1,ω⟩,(.inl ⟨ω,rfl⟩)⟩))))
   ·
    refine Ae 3 ?_
    have hlt:pA l f r<pB l t r:=by omega
    refine Ae 6 (Ev (((l).getD r Sg.none).t-((l).getD r Sg.none).f) (((l).getD r Sg.none).t-((l).getD r Sg.none).f) (Ae 4 ?_))
    refine Gn (Vk ((l).getD r Sg.none) (pA l f r) (pB l t r)) (λhx6=>?_) (λhx6=>?_)
    ·
     refine Jf [(6,.int (max f (((l).getD r Sg.none).f)-((l).getD r Sg.none).f),.none),(9,.int (min t (((l).getD r Sg.none).t)-max f (((l).getD r Sg.none).f)),.none),(11,_,.none),(14,_,.none),(16,_,.none),(17,_,.none),(18,_,.none)] [0,2,3,10,11,12,13,14] ⟨Bc (Ca (v:= .int .i64 (IntKind.wrap .i64 (max f (((l).getD r Sg.none).f)-((l).getD r Sg.none).f))) (v':= .int .i64 (max f (((l).getD r Sg.none).f)-((l).getD r Sg.none).f)) _ κ rfl κ (λw=>by kernel_rfl) (congrArg (Value.int .i64) ((IntWalk.i64_in _ ω).trans ω))),Bc (Ca (v:= .int .i64 (IntKind.wrap .i64 (min t (((l).getD r Sg.none).t)-max f (((l).getD r Sg.none).f)))) (v':= .int .i64 (min t (((l).getD r Sg.none).t)-max f (((l).getD r Sg.none).f))) _ κ rfl κ (λw=>by kernel_rfl) (congrArg (Value.int .i64) ((IntWalk.i64_in _ ω).trans ω))),Fx (Lm ((l).getD r Sg.none) (pA l f r-((l).getD r Sg.none).f) (pB l t r-pA l f r) (pD ((l).getD r Sg.none)) hs hso (Bo ω) (Bo ω) (Bo ω) ω),Fx (Gl _ hs.o.1 hs.o.2),Fx (Gf (pD ((l).getD r Sg.none)) 5 (Bo ω).1 (Bo ω).2 ω (λj hj=>Ei (Bo ω) ω)),Fx (Ju ((l).getD r Sg.none).o (pD ((l).getD r Sg.none)^5) (Hq hs.o) (Ei (Bo ω) ω) ((Wv hs (Bo ω)).fit ω)),Fx (Zc ((l).getD r Sg.none) (pA l f r) (pB l t r) hs hso ω ω hx6),trivial⟩ (Ae 6 (vyl 8 sp2p sp2a sp2b (λ_ _ hD7=>?_)))
     refine Ae 9 (vrb (Ae 18 (vre ?_)))
     refine Ae 9 (vrl ?_)
     exact Ae 3 (Fa (.lit (.tuple #[.slice none 0 0,.int .i64 7])) (On (sQ (j:=r) ω hlt hx6) δ).symm)
    ·
     refine Jf [(6,.int (max f (((l).getD r Sg.none).f)-((l).getD r Sg.none).f),.none),(9,.int (min t (((l).getD r Sg.none).t)-max f (((l).getD r Sg.none).f)),.none),(11,_,.none),(14,_,.none),(16,_,.none),(17,_,.none),(18,_,.none)] [0,2,3,10,11,12,13,14] ⟨Bc (Ca (v:= .int .i64 (IntKind.wrap .i64 (max f (((l).getD r Sg.none).f)-((l).getD r Sg.none).f))) (v':= .int .i64 (max f (((l).getD r Sg.none).f)-((l).getD r Sg.none).f)) _ κ rfl κ (λw=>by kernel_rfl) (congrArg (Value.int .i64) ((IntWalk.i64_in _ ω).trans ω))),Bc (Ca (v:= .int .i64 (IntKind.wrap .i64 (min t (((l).getD r Sg.none).t)-max f (((l).getD r Sg.none).f)))) (v':= .int .i64 (min t (((l).getD r Sg.none).t)-max f (((l).getD r Sg.none).f))) _ κ rfl κ (λw=>by kernel_rfl) (congrArg (Value.int .i64) ((IntWalk.i64_in _ ω).trans ω))),Fx (Lm ((l).getD r Sg.none) (pA l f r-((l).getD r Sg.none).f) (pB l t r-pA l f r) (pD ((l).getD r Sg.none)) hs hso (Bo ω) (Bo ω) (Bo ω) ω),Fx (Gl _ hs.o.1 hs.o.2),Fx (Gf (pD ((l).getD r Sg.none)) 5 (Bo ω).1 (Bo ω).2 ω (λj hj=>Ei (Bo ω) ω)),Fx (Ju ((l).getD r Sg.none).o (pD ((l).getD r Sg.none)^5) (Hq hs.o) (Ei (Bo ω) ω) ((Wv hs (Bo ω)).fit ω)),Fx (Zd ((l).getD r Sg.none) (pA l f r) (pB l t r) hs hso ω ω hx6),trivial⟩ (Ae 6 (vyl 8 sp2p sp2a sp2b (λ_ _ hD8=>?_)))
     refine Ae 9 (vrb (Ae 14 (Cb (.osl 9 6 1) (.new 9 (.vec 81 6 1 (λ_=>Cn (Hj ((l).getD r Sg.none) (pA l f r) (pB l t r))))) (Aj 54 1 #[(0,(.tmp 19))] κ underlying54 6 sizeOf81 _ zeroValue81 κ β β β 9 [.int ((Hj ((l).getD r Sg.none) (pA l f r) (pB l t r)).f),.int ((Hj ((l).getD r Sg.none) (pA l f r) (pB l t r)).t),.int ((Hj ((l).getD r Sg.none) (pA l f r) (pB l t r)).o),Bf ((Hj ((l).getD r Sg.none) (pA l f r) (pB l t r)).x),Bf ((Hj ((l).getD r Sg.none) (pA l f r) (pB l t r)).y),Bf ((Hj ((l).getD r Sg.none) (pA l f r) (pB l t r)).z)] κ (λ_=>Cn (Hj ((l).getD r Sg.none) (pA l f r) (pB l t r))) κ) (Cb (.osl 10 6 1) (.newr 9 10 (.vec 81 6 1 (λxi=>Cn ((Iv l f t (r+1)).getD xi Sg.none)))) (Cf (.tmp 18) (.tmp 20) 54 κ underlying54 6 96 (.agg #[.int .i64 0,.int .i64 0,.int .i64 0,.slice none 0 0,.slice none 0 0,.slice none 0 0]) κ κ δ 1 ω (λ_=>Cn (Hj ((l).getD r Sg.none) (pA l f r) (pB l t r))) (λxi=>Cn ((Iv l f t (r+1)).getD xi Sg.none)) 10 (λi hi=>by(obtain rfl:i=0:=(ω));show Cn _=Cn _;rw[Mi hlt,List.eq_nil_of_length_eq_zero (by omega:(Iv l f t r).length=0)];rfl) (λi hi j hj=>match j,hj with|0,_=>rfl|1,_=>rfl|2,_=>rfl|3,_=>rfl|4,_=>rfl|5,_=>rfl|_+6,h=>absurd h ω) (by unfold maxLen;omega) ω κ 9 81 κ κ) (Ae 3 (vre ?_))))))
     exact Ae 8 (Ev ((r:Int)+1) ((r+1:Nat):Int) (Ae 2 (Gk [0,2,3,12,13,14] [(0,0),(1,1),(2,2),(3,3),(4,4),(5,5),(10,50)] 51 6 hD3 [(81,6,1,(λ_=>Cn (Hj ((l).getD r Sg.none) (pA l f r) (pB l t r)))),(81,6,1,(λxi=>Cn ((Iv l f t (r+1)).getD xi Sg.none)))] ⟨(Gp λ_ _=>rfl),(Gp λ_ _=>rfl),trivial⟩ (hJ1 _ _ (by omega:l.length-(r+1)<l.length-r) ⟨r+1,1,ω,rfl,⟨by rw[Mi hlt,List.length_append,List.length_singleton];omega,dP hx6 hFr.2.1,ω⟩,(.inr ⟨ω,rfl⟩)⟩))))
  ·
   refine Ae 5 (vrl ?_)
   refine Ae 2 ?_
   exfalso;have hql:r=l.length:=(ω);subst hql;omega
 ·
  refine Ae 6 (Fd 15 ((r:Int)<((l).length:Int)) (λhx9 hx9d=>?_) (λhx9 hx9d=>?_))
  ·
   refine Ae 5 ?_
   have hso:=(hok.1 r ω).1
   have hs:=hl.2 r
   have hh:=hso.1
   unfold Jw at hh
   have hA:pA l f r=max f ((l).getD r Sg.none).f:=rfl
   have hB:pB l t r=min t ((l).getD r Sg.none).t:=rfl
   have hD:pD ((l).getD r Sg.none)=((l).getD r Sg.none).t-((l).getD r Sg.none).f:=rfl
   refine Ae 2 (Ga r ((l).length) (Ae 6 (Jf [(3,.int (max f (((l).getD r Sg.none).f)),.none),(7,.int (min t (((l).getD r Sg.none).t)),.none)] [0,2,3,6,7,8,12,13,14] ⟨Bc (iY (.tmp 18) (.tmp 20) #[3,3] κ f (((l).getD r Sg.none).f) κ κ),Bc (tT (.tmp 22) (.tmp 24) #[3,3] κ t (((l).getD r Sg.none).t) κ κ),trivial⟩ (Ae 9 (Fd 28 (min t (((l).getD r Sg.none).t)<=max f (((l).getD r Sg.none).f)) (λhx10 hx10d=>?_) (λhx10 hx10d=>?_))))))
   ·
    exact Ae 6 (Ev ((r:Int)+1) ((r+1:Nat):Int) (Ae 2 (Vz 50 81 6 n (λxi=>Cn ((Iv l f t r).getD xi Sg.none)) (λxi=>Cn ((Iv l f t (r+1)).getD xi Sg.none)) (λx9 hx9=>by rw[Og ω]) (Gk [0,2,3,12,13,14] [(0,0),(1,1),(2,2),(3,3),(4,4),(5,5),(50,50)] 51 6 hD3 [(81,6,n,(λxi=>Cn ((Iv l f t (r+1)).getD xi Sg.none)))] ⟨(Gp λ_ _=>rfl),trivial⟩ (hJ1 _ _ (by omega:l.length-(r+1)<l.length-r) ⟨r+1,n,ω,rfl,⟨by rw[Og ω];omega,Zw ω hFr.2.1,ω⟩,(.inr ⟨ω,rfl⟩)⟩)))))
   ·
    refine Ae 3 ?_
    have hlt:pA l f r<pB l t r:=by omega
    refine Ae 6 (Ev (((l).getD r Sg.none).t-((l).getD r Sg.none).f) (((l).getD r Sg.none).t-((l).getD r Sg.none).f) (Ae 4 ?_))
    refine Gn (Vk ((l).getD r Sg.none) (pA l f r) (pB l t r)) (λhx11=>?_) (λhx11=>?_)
    ·
     refine Jf [(6,.int (max f (((l).getD r Sg.none).f)-((l).getD r Sg.none).f),.none),(9,.int (min t (((l).getD r Sg.none).t)-max f (((l).getD r Sg.none).f)),.none),(11,_,.none),(14,_,.none),(16,_,.none),(17,_,.none),(18,_,.none)] [0,2,3,10,11,12,13,14] ⟨Bc (Ca (v:= .int .i64 (IntKind.wrap .i64 (max f (((l).getD r Sg.none).f)-((l).getD r Sg.none).f))) (v':= .int .i64 (max f (((l).getD r Sg.none).f)-((l).getD r Sg.none).f)) _ κ rfl κ (λw=>by kernel_rfl) (congrArg (Value.int .i64) ((IntWalk.i64_in _ ω).trans ω))),Bc (Ca (v:= .int .i64 (IntKind.wrap .i64 (min t (((l).getD r Sg.none).t)-max f (((l).getD r Sg.none).f)))) (v':= .int .i64 (min t (((l).getD r Sg.none).t)-max f (((l).getD r Sg.none).f))) _ κ rfl κ (λw=>by kernel_rfl) (congrArg (Value.int .i64) ((IntWalk.i64_in _ ω).trans ω))),Fx (Lm ((l).getD r Sg.none) (pA l f r-((l).getD r Sg.none).f) (pB l t r-pA l f r) (pD ((l).getD r Sg.none)) hs hso (Bo ω) (Bo ω) (Bo ω) ω),Fx (Gl _ hs.o.1 hs.o.2),Fx (Gf (pD ((l).getD r Sg.none)) 5 (Bo ω).1 (Bo ω).2 ω (λj hj=>Ei (Bo ω) ω)),Fx (Ju ((l).getD r Sg.none).o (pD ((l).getD r Sg.none)^5) (Hq hs.o) (Ei (Bo ω) ω) ((Wv hs (Bo ω)).fit ω)),Fx (Zc ((l).getD r Sg.none) (pA l f r) (pB l t r) hs hso ω ω hx11),trivial⟩ (Ae 6 (vyl 53 sp2p sp2a sp2b (λ_ _ hD12=>?_)))
     refine Ae 9 (vrb (Ae 18 (vre ?_)))
     refine Ae 9 (vrl ?_)
     exact Ae 3 (Fa (.lit (.tuple #[.slice none 0 0,.int .i64 7])) (On (sQ (j:=r) ω hlt hx11) δ).symm)
    ·
     refine Jf [(6,.int (max f (((l).getD r Sg.none).f)-((l).getD r Sg.none).f),.none),(9,.int (min t (((l).getD r Sg.none).t)-max f (((l).getD r Sg.none).f)),.none),(11,_,.none),(14,_,.none),(16,_,.none),(17,_,.none),(18,_,.none)] [0,2,3,10,11,12,13,14] ⟨Bc (Ca (v:= .int .i64 (IntKind.wrap .i64 (max f (((l).getD r Sg.none).f)-((l).getD r Sg.none).f))) (v':= .int .i64 (max f (((l).getD r Sg.none).f)-((l).getD r Sg.none).f)) _ κ rfl κ (λw=>by kernel_rfl) (congrArg (Value.int .i64) ((IntWalk.i64_in _ ω).trans ω))),Bc (Ca (v:= .int .i64 (IntKind.wrap .i64 (min t (((l).getD r Sg.none).t)-max f (((l).getD r Sg.none).f)))) (v':= .int .i64 (min t (((l).getD r Sg.none).t)-max f (((l).getD r Sg.none).f))) _ κ rfl κ (λw=>by kernel_rfl) (congrArg (Value.int .i64) ((IntWalk.i64_in _ ω).trans ω))),Fx (Lm ((l).getD r Sg.none) (pA l f r-((l).getD r Sg.none).f) (pB l t r-pA l f r) (pD ((l).getD r Sg.none)) hs hso (Bo ω) (Bo ω) (Bo ω) ω),Fx (Gl _ hs.o.1 hs.o.2),Fx (Gf (pD ((l).getD r Sg.none)) 5 (Bo ω).1 (Bo ω).2 ω (λj hj=>Ei (Bo ω) ω)),Fx (Ju ((l).getD r Sg.none).o (pD ((l).getD r Sg.none)^5) (Hq hs.o) (Ei (Bo ω) ω) ((Wv hs (Bo ω)).fit ω)),Fx (Zd ((l).getD r Sg.none) (pA l f r) (pB l t r) hs hso ω ω hx11),trivial⟩ (Ae 6 (vyl 53 sp2p sp2a sp2b (λ_ _ hD13=>?_)))
     refine Ae 9 (vrb (Ae 14 (Cb (.osl 54 6 1) (.new 54 (.vec 81 6 1 (λ_=>Cn (Hj ((l).getD r Sg.none) (pA l f r) (pB l t r))))) (Aj 54 1 #[(0,(.tmp 19))] κ underlying54 6 sizeOf81 _ zeroValue81 κ β β β 54 [.int ((Hj ((l).getD r Sg.none) (pA l f r) (pB l t r)).f),.int ((Hj ((l).getD r Sg.none) (pA l f r) (pB l t r)).t),.int ((Hj ((l).getD r Sg.none) (pA l f r) (pB l t r)).o),Bf ((Hj ((l).getD r Sg.none) (pA l f r) (pB l t r)).x),Bf ((Hj ((l).getD r Sg.none) (pA l f r) (pB l t r)).y),Bf ((Hj ((l).getD r Sg.none) (pA l f r) (pB l t r)).z)] κ (λ_=>Cn (Hj ((l).getD r Sg.none) (pA l f r) (pB l t r))) κ) (Cb (.osl 55 6 (n+1)) (.grow2 50 54 55 (.vec 81 6 (n+1) (λxi=>Cn ((Iv l f t (r+1)).getD xi Sg.none)))) (Cu (.tmp 18) (.tmp 20) 54 κ underlying54 6 96 (.agg #[.int .i64 0,.int .i64 0,.int .i64 0,.slice none 0 0,.slice none 0 0,.slice none 0 0]) κ κ δ n 1 ω (λxi=>Cn ((Iv l f t r).getD xi Sg.none)) (λ_=>Cn (Hj ((l).getD r Sg.none) (pA l f r) (pB l t r))) (λxi=>Cn ((Iv l f t (r+1)).getD xi Sg.none)) 55 ω (by unfold maxLen;omega) (λi hi=>by show Cn _=Cn _;rw[Mi hlt,Kw,if_pos ω]) (λi hi=>by(obtain rfl:i=0:=(ω));show Cn _=Cn _;rw[Mi hlt,Kw,if_neg ω,show n+0-(Iv l f t r).length=0 by omega];rfl) (λi hi j hj=>match j,hj with|0,_=>rfl|1,_=>rfl|2,_=>rfl|3,_=>rfl|4,_=>rfl|5,_=>rfl|_+6,h=>absurd h ω) 50 κ κ 54 81 κ κ) (Ae 3 (vre ?_))))))
     exact Ae 8 (Ev ((r:Int)+1) ((r+1:Nat):Int) (Ae 2 (Gk [0,2,3,12,13,14] [(0,0),(1,1),(2,2),(3,3),(4,4),(5,5),(55,50)] 51 6 hD3 [(81,6,1,(λ_=>Cn (Hj ((l).getD r Sg.none) (pA l f r) (pB l t r)))),(81,6,n+1,(λxi=>Cn ((Iv l f t (r+1)).getD xi Sg.none)))] ⟨(Gp λ_ _=>rfl),(Gp λ_ _=>rfl),trivial⟩ (hJ1 _ _ (by omega:l.length-(r+1)<l.length-r) ⟨r+1,n+1,ω,rfl,⟨by rw[Mi hlt,List.length_append,List.length_singleton];omega,dP hx11 hFr.2.1,ω⟩,(.inr ⟨ω,rfl⟩)⟩))))
  ·
   refine Ae 5 (vrl ?_)
   exact Ae 9 (rL 50 0 0 81 6 n (λxi=>Cn ((Iv l f t r).getD xi Sg.none)) (Gp λ_ _=>rfl) (Ae 1 (Fa (.tup [.sl 6 n (λxi=>Cn ((Iv l f t r).getD xi Sg.none)),.int 0]) (by have hql:r=l.length:=(ω);subst hql;rw[tY (sR hFr.2.1),hFr.1]))))
theorem AdP (l:List Sg) (f t:Int) (hl:Dg l) (hok:Fn l) (hf:(l.getD 0 Sg.none).f<=f) (hft:f<t) (ht:t<=(l.getD (l.length-1) Sg.none).t):AF Tryz.prog 87 [Ai l,.int f,.int t] (jM (lN l f t)):=by
 have h0:=(hok.1 0 (by have:=hok.2;omega)).1.1
 have h1:=(hok.1 (l.length-1) (by have:=hok.2;omega)).1.1
 unfold Jw at h0 h1
 exact Acg l f t hl hok ω ω (Ac5 hok hf hft ht)
theorem uR (l:List Sg) (f t:Int) (hl:Dg l) (hok:Fn l) (hf:(l.getD 0 Sg.none).f<=f) (hft:f<t) (ht:t<=(l.getD (l.length-1) Sg.none).t) (h:(lN l f t).2=0):AF Tryz.prog 52 [Ai l,.int f,.int t] (.tup [Ai (lN l f t).1,.int 0]):=by
 refine Cc func52 rfl λB D0 hA0=>?_
 exact Ae 9 (Ct (Aci l hl hok) (Ae 24 (Ic 24 (decide (f<(l.getD 0 Sg.none).f)) false (decide_eq_false ω) (Ae 4 (Ic 28 (decide (t<=f)) false (decide_eq_false ω) (Ae 5 (Ic 33 (decide ((l.getD (l.length-1) Sg.none).t<t)) false (decide_eq_false ω) (Ae 13 (Ct (by have:=AdP l f t hl hok hf hft ht;unfold jM at this;rwa [if_pos h] at this) (Ae 7 (Gc)))))))))))
theorem Ace (a b:V3) (r f t:Int) (hv:Kv a b f t=true) (hq:(t-f)%4=0) (hr: -2097152<=r/\r<=2097152) (h1:(a.up r).pt=true) (h2:(b.up r).pt=true):AF Tryz.prog 50 [Hc a,Hc b,.int r,.int f,.int t] (.tup [Ai (Zs a b r f t),.int 0]):=
 fS (vs:=[_,_,_,_,_]) λw=>(sI a.x a.y a.z b.x b.y b.z r f t w hv hq hr h1 h2).mono λ_ _ ⟨_,_,he,hp,hb⟩=>⟨_,he,hb,λ_ g1 g2=>Ae4 (jB hp g1 λb hb=>g2 b hb.1 hb.2) (.lit _ _)⟩
theorem iF (a b:V3) (f t k:Int):(Wn a b f t k).1=Ft a b f t k:=by unfold Wn Ft;split<;>rfl
theorem Lk {a b:V3} {f t:Int} (pa:a.pt=true) (pb:b.pt=true) (h0:0<=f) (h1:f<t) (h2:t<=3600000):Kv a b f t=true:=by
 unfold Kv Gz
 simp only[Bool.and_eq_true,decide_eq_true_eq]
 exact⟨⟨⟨⟨pa,pb⟩,h0⟩,h1⟩,h2⟩
theorem AaF {a b:V3} {f t:Int} (k:Int) (h:Kv a b f t=true):(Wn a b f t k).2=0:=by unfold Wn;rw[if_pos h]
theorem dH {a:V3} {f t:Int} (h:Kv a a f t=true):AF Tryz.prog 62 [Hc a,.int f,.int t] (.tup [Ai (Ft a a f t 0),.int 0]):=by
 have:=uV a f t
 rwa [iF,AaF 0 h] at this
theorem dG {a b:V3} {f t:Int} (h:Kv a b f t=true):AF Tryz.prog 49 [Hc a,Hc b,.int f,.int t] (.tup [Ai (Ft a b f t 2),.int 0]):=by
 have:=uU a b f t
 rwa [iF,AaF 2 h] at this
theorem Mx {a b:List Sg} (ha:Dg a) (hb:Dg b) (h:Nw a b=(a++b,0)):AF Tryz.prog 88 [Ai a,Ai b] (.tup [Ai (a++b),.int 0]):=by
 have h2:=fM a b ha hb (by rw[h])
 rwa [h] at h2
theorem sU (x y z x' y' z':Int) (w:World):(Op.equal 52 (.agg #[.int .i64 x,.int .i64 y,.int .i64 z]) (.agg #[.int .i64 x',.int .i64 y',.int .i64 z'])).run Tryz.prog w= .ok (decide (x=x'/\y=y'/\z=z')) w:=by
 have h55:=Tryz.runUnderlying52
 have h3:=Tryz.runUnderlying3
 have ha:=isAgg3
 have hin:Tryz.prog.stoodInHeld 52=false:=by kernel_rfl
 unfold Op.equal
 rw[show Op.maxDepth=9998+1+1 from rfl]
 unfold Op.equalIn
 simp[h55,part,ha,hin]
 unfold Op.equalIn
 simp[h3]
 by_cases h1:x=x'<;>by_cases h2:y=y'<;>by_cases h3:z=z'<;>simp[h1,h2,h3]
def Aef (l:List Rl) (x:Rl) (n:Nat):Prop:=∃q,q<n/\(l.getD q Rl.none).spare=x.spare/\(l.getD q Rl.none).wait=x.wait/\(l.getD q Rl.none).rise=x.rise
theorem AaJ {l:List Rl} {x:Rl}:Aef l x l.length↔x∈l:=by
 constructor
 rintro⟨q,hq,h1,h2,h3⟩
 have e:l.getD q Rl.none=x:=by
  cases hx:l.getD q Rl.none;cases x;rw[hx] at h1 h2 h3;simp_all
 rw[<-e,List.getD_eq_getElem?_getD,List.getElem?_eq_getElem hq]
 exact List.getElem_mem hq
 intro h
 obtain⟨q,hq,rfl⟩:=List.getElem_of_mem h
 refine⟨q,hq,?_⟩
 simp[List.getD_eq_getElem?_getD,hq]
theorem kR (a:V3) (t:Int):AF Tryz.prog 54 [Hc a,.int t,.int t] (.lit (.slice none 0 0)):=by
 refine Cc func54 rfl λB D0 hA0=>?_
 exact Ae 12 (Ic 11 (decide (t=t)) true (decide_eq_true rfl) (Ae 10 (Gc)))
theorem Du (a:V3) (f t:Int) (h:¬f=t) (hb:Kv a a f t=true):AF Tryz.prog 54 [Hc a,.int f,.int t] (Ai (Ft a a f t 0)):=by
 refine Cc func54 rfl λB D0 hA0=>?_
 exact Ae 12 (Ic 11 (decide (f=t)) false (decide_eq_false h) (Ae 10 (Ct (dH hb) (Ae 14 (Gc)))))
theorem kB (a b:List Sg) (pa:Dg a) (pb:Dg b) (na:0<a.length) (nb:0<b.length) (e1:Nw a b=(a++b,0)):AF Tryz.prog 53 [.sl 1 4 λxi=>[Ai a,Ai b,.lit (.slice none 0 0),.lit (.slice none 0 0)].getD xi .top] (.tup [Ai (a++b),.int 0]):=by
 have ln0:0<(a++b).length:=by simp only[List.length_append];omega
 refine Cc func53 rfl λB D0 hA0=>?_
 exact Ae 20 (yT 4 (Ae 13 (Ga 0 4 (Ae 8 (fF ((a).length) (Ae 9 (oH (Ae 14 (Mt (.int .i64 1) (.int .i64 1) (Ae 16 (Ga 1 4 (Ae 8 (fF ((b).length) (Ae 9 (fF ((a).length) (Ae 9 (Ct (Mx pa pb e1) (Ae 24 (Mt (.int .i64 2) (.int .i64 2) (Ae 16 (Ga 2 4 (Ae 8 (oH (Ae 8 (Mt (.int .i64 3) (.int .i64 3) (Ae 16 (Ga 3 4 (Ae 8 (oH (Ae 8 (Mt (.int .i64 4) (.int .i64 4) (Ae 23 (Gc)))))))))))))))))))))))))))))))))
theorem kC (a b d:List Sg) (pa:Dg a) (pb:Dg b) (na:0<a.length) (nb:0<b.length) (e1:Nw a b=(a++b,0)) (pd:Dg d) (nd:0<d.length) (qd:Dg (a++b)) (e3:Nw (a++b) d=(a++b++d,0)):AF Tryz.prog 53 [.sl 1 4 λxi=>[Ai a,Ai b,.lit (.slice none 0 0),Ai d].getD xi .top] (.tup [Ai (a++b++d),.int 0]):=by
 have ln0:0<(a++b).length:=by simp only[List.length_append];omega
 have ln1:0<(a++b++d).length:=by simp only[List.length_append];omega
 refine Cc func53 rfl λB D0 hA0=>?_
 exact Ae 20 (yT 4 (Ae 13 (Ga 0 4 (Ae 8 (fF ((a).length) (Ae 9 (oH (Ae 14 (Mt (.int .i64 1) (.int .i64 1) (Ae 16 (Ga 1 4 (Ae 8 (fF ((b).length) (Ae 9 (fF ((a).length) (Ae 9 (Ct (Mx pa pb e1) (Ae 24 (Mt (.int .i64 2) (.int .i64 2) (Ae 16 (Ga 2 4 (Ae 8 (oH (Ae 8 (Mt (.int .i64 3) (.int .i64 3) (Ae 16 (Ga 3 4 (Ae 8 (fF ((d).length) (Ae 9 (fF ((a++b).length) (Ae 9 (Ct (Mx qd pd e3) (Ae 24 (Mt (.int .i64 4) (.int .i64 4) (Ae 23 (Gc)))))))))))))))))))))))))))))))))))))
theorem kD (a b c:List Sg) (pa:Dg a) (pb:Dg b) (na:0<a.length) (nb:0<b.length) (e1:Nw a b=(a++b,0)) (pc:Dg c) (nc:0<c.length) (qc:Dg (a++b)) (e2:Nw (a++b) c=(a++b++c,0)):AF Tryz.prog 53 [.sl 1 4 λxi=>[Ai a,Ai b,Ai c,.lit (.slice none 0 0)].getD xi .top] (.tup [Ai (a++b++c),.int 0]):=by
 have ln0:0<(a++b).length:=by simp only[List.length_append];omega
 have ln1:0<(a++b++c).length:=by simp only[List.length_append];omega
 refine Cc func53 rfl λB D0 hA0=>?_
 exact Ae 20 (yT 4 (Ae 13 (Ga 0 4 (Ae 8 (fF ((a).length) (Ae 9 (oH (Ae 14 (Mt (.int .i64 1) (.int .i64 1) (Ae 16 (Ga 1 4 (Ae 8 (fF ((b).length) (Ae 9 (fF ((a).length) (Ae 9 (Ct (Mx pa pb e1) (Ae 24 (Mt (.int .i64 2) (.int .i64 2) (Ae 16 (Ga 2 4 (Ae 8 (fF ((c).length) (Ae 9 (fF ((a++b).length) (Ae 9 (Ct (Mx qc pc e2) (Ae 24 (Mt (.int .i64 3) (.int .i64 3) (Ae 16 (Ga 3 4 (Ae 8 (oH (Ae 8 (Mt (.int .i64 4) (.int .i64 4) (Ae 23 (Gc)))))))))))))))))))))))))))))))))))))
theorem kE (a b c d:List Sg) (pa:Dg a) (pb:Dg b) (na:0<a.length) (nb:0<b.length) (e1:Nw a b=(a++b,0)) (pc:Dg c) (nc:0<c.length) (qc:Dg (a++b)) (e2:Nw (a++b) c=(a++b++c,0)) (pd:Dg d) (nd:0<d.length) (qd:Dg (a++b++c)) (e3:Nw (a++b++c) d=(a++b++c++d,0)):AF Tryz.prog 53 [.sl 1 4 λxi=>[Ai a,Ai b,Ai c,Ai d].getD xi .top] (.tup [Ai (a++b++c++d),.int 0]):=by
 have ln0:0<(a++b).length:=by simp only[List.length_append];omega
 have ln1:0<(a++b++c).length:=by simp only[List.length_append];omega
 have ln2:0<(a++b++c++d).length:=by simp only[List.length_append];omega
 refine Cc func53 rfl λB D0 hA0=>?_
 exact Ae 20 (yT 4 (Ae 13 (Ga 0 4 (Ae 8 (fF ((a).length) (Ae 9 (oH (Ae 14 (Mt (.int .i64 1) (.int .i64 1) (Ae 16 (Ga 1 4 (Ae 8 (fF ((b).length) (Ae 9 (fF ((a).length) (Ae 9 (Ct (Mx pa pb e1) (Ae 24 (Mt (.int .i64 2) (.int .i64 2) (Ae 16 (Ga 2 4 (Ae 8 (fF ((c).length) (Ae 9 (fF ((a++b).length) (Ae 9 (Ct (Mx qc pc e2) (Ae 24 (Mt (.int .i64 3) (.int .i64 3) (Ae 16 (Ga 3 4 (Ae 8 (fF ((d).length) (Ae 9 (fF ((a++b++c).length) (Ae 9 (Ct (Mx qd pd e3) (Ae 24 (Mt (.int .i64 4) (.int .i64 4) (Ae 23 (Gc)))))))))))))))))))))))))))))))))))))))))
theorem fO (l:List Rl) (x:Rl) (n:Nat) (hn:n<=1000000):AF Tryz.prog 48 [.sl 3 n λi=>Cq (l.getD i Rl.none),Cq x] (.bool (bP (Aef l x n))):=by
 refine Cc func48 rfl λB D0 hA0=>?_
 refine Ae 10 (Yf 1 func83 (λ_ hD1=>?_))
 refine Ae 15 (Lh [0,3,7,8] n (λi=>∀q,q<i->¬((l.getD q Rl.none).spare=x.spare/\(l.getD q Rl.none).wait=x.wait/\(l.getD q Rl.none).rise=x.rise)) (λi=>⟨[(0,.sl 3 n (λxi=>Cq ((l).getD xi Rl.none))),(3,.ptr 1 0),(7,.int (n:Int)),(8,.int (i:Int))],[(0,.box 52 [.int x.spare,.int x.wait,.int x.rise]),(1,.box 52 [.int x.spare,.int x.wait,.int x.rise])],2,19⟩) (λq hq=>absurd hq (Nat.not_lt_zero q)) (λi hin hFi J1 hJ1=>?_))
 refine Ae 6 (Fd 9 ((i:Int)<(n:Int)) (λhx2 hx2d=>?_) (λhx2 hx2d=>?_))
 ·
  refine Ae 12 (Jf [(3,Fi (.sl 3 n (λxi=>Cq ((l).getD xi Rl.none))) i,.none),(5,.bool (decide (x.spare=((l).getD i Rl.none).spare/\x.wait=((l).getD i Rl.none).wait/\x.rise=((l).getD i Rl.none).rise)),.none)] [0,3,5,7,8,16] ⟨Ni i n,Bc (Yr 52 52 (.tmp 11) (.tmp 15) κ _ _ κ κ κ (decide (x.spare=((l).getD i Rl.none).spare/\x.wait=((l).getD i Rl.none).wait/\x.rise=((l).getD i Rl.none).rise)) (sU _ _ _ _ _ _)),trivial⟩ (Ae 1 (Fd 16 (x.spare=((l).getD i Rl.none).spare/\x.wait=((l).getD i Rl.none).wait/\x.rise=((l).getD i Rl.none).rise) (λhx3 hx3d=>?_) (λhx3 hx3d=>?_))))
  ·
   exact Ae 13 (rM (Ae 1 (Ic 8 (decide ((0:Int)<=(i:Int))) true (decide_eq_true ω) (Ae 4 (Fa (.bool true) (congrArg AV.bool (Dm ⟨i,ω,ω⟩).symm))))))
  ·
   exact Ae 5 (Ev ((i:Int)+1) ((i+1:Nat):Int) (Ae 2 (Ob [0,3,7,8] (hJ1 ω (λq hq=>(Nat.lt_or_ge q i).elim (λg=>hFi q g) λg=>by have e:q=i:=(ω);subst e;omega)))))
 ·
  exact Ae 12 (rM (Ae 5 (Fa (.bool false) (congrArg AV.bool (Ao λ⟨q,hq,h9⟩=>hFi q ω h9).symm))))
theorem Na.stay0 {p:Pr} {r:Rv} {c:Cs} {x:Rl} (h:Na p r c x) (e:Iu p r c x=Hw p r c x):Gj p r c x=[]:=by
 have:=h.stay.1
 rw[<-e] at this
 exact this.nil_of
theorem Na.tail0 {p:Pr} {r:Rv} {c:Cs} {x:Rl} (h:Na p r c x) (e:¬Hw p r c x<Bn p.acts p.acts.length):Gb p r c x=[]:=by
 have h1:=h.tail.1
 have h2:=h.s0
 rw[show Bn p.acts p.acts.length=Hw p r c x by omega] at h1
 exact h1.nil_of
theorem Fh {l:List Sg} {a b:V3} {f t:Int} (h:Br l a b f t) (hn:l.length<=256):Dg l:=by
 by_cases h0:0<l.length
 exact(h.okP h0 hn).2
 rw[show l=[] from List.eq_nil_of_length_eq_zero ω];exact Dg.nil
theorem dF (p:Pr) (r:Rv) (c:Cs) (x:Rl) (h:Na p r c x) (hn:p.acts.length<=5) (hs:¬Iu p r c x=Hw p r c x) (ht:Hw p r c x<Bn p.acts p.acts.length):AF Tryz.prog 53 [.sl 1 4 λxi=>[Ai (Ee r p c x),Ai (Ip p r c x),Ai (Gj p r c x),Ai (Gb p r c x)].getD xi .top] (.tup [Ai (relP p r c x),.int 0]):=by
 have h0:=h.s0
 have l1:=h.hov.2
 have l2:=h.go.2
 have l3:=h.stay.2
 have l4:=h.tail.2
 have n3:=h.stay.1.pos ω
 have n4:=h.tail.1.pos ht
 have g1:=h.hov.1.app h.go.1
 have g2:=g1.app h.stay.1
 have m1:(Ee r p c x++Ip p r c x).length<=4:=by rw[List.length_append];omega
 have m2:(Ee r p c x++Ip p r c x++Gj p r c x).length<=5:=by rw[List.length_append];omega
 have m3:0<(Ee r p c x++Ip p r c x).length:=by rw[List.length_append];omega
 have m4:0<(Ee r p c x++Ip p r c x++Gj p r c x).length:=by rw[List.length_append];omega
 exact kE _ _ _ _ (Fh h.hov.1 ω) (Fh h.go.1 ω) ω ω (Jk h.hov.1 h.go.1 ω ω ω) (Fh h.stay.1 ω) n3 (Fh g1 ω) (Jk g1 h.stay.1 m3 n3 ω) (Fh h.tail.1 ω) n4 (Fh g2 ω) (Jk g2 h.tail.1 m4 n4 ω)
theorem dC (p:Pr) (r:Rv) (c:Cs) (x:Rl) (h:Na p r c x) (hn:p.acts.length<=5) (hs:Iu p r c x=Hw p r c x) (ht:Hw p r c x<Bn p.acts p.acts.length):AF Tryz.prog 53 [.sl 1 4 λxi=>[Ai (Ee r p c x),Ai (Ip p r c x),.lit (.slice none 0 0),Ai (Gb p r c x)].getD xi .top] (.tup [Ai (relP p r c x),.int 0]):=by
 have h0:=h.s0
 have l1:=h.hov.2
 have l2:=h.go.2
 have l4:=h.tail.2
 have n4:=h.tail.1.pos ht
 have g1:=h.hov.1.app h.go.1
 have m1:(Ee r p c x++Ip p r c x).length<=4:=by rw[List.length_append];omega
 have m3:0<(Ee r p c x++Ip p r c x).length:=by rw[List.length_append];omega
 have e:relP p r c x=Ee r p c x++Ip p r c x++Gb p r c x:=by rw[relP,h.stay0 hs,List.append_nil]
 have g4:=h.tail.1
 rw[<-hs] at g4
 rw[e]
 exact kC _ _ _ (Fh h.hov.1 ω) (Fh h.go.1 ω) ω ω (Jk h.hov.1 h.go.1 ω ω ω) (Fh h.tail.1 ω) n4 (Fh g1 ω) (Jk g1 g4 m3 n4 ω)
theorem dE (p:Pr) (r:Rv) (c:Cs) (x:Rl) (h:Na p r c x) (hs:¬Iu p r c x=Hw p r c x) (ht:¬Hw p r c x<Bn p.acts p.acts.length):AF Tryz.prog 53 [.sl 1 4 λxi=>[Ai (Ee r p c x),Ai (Ip p r c x),Ai (Gj p r c x),.lit (.slice none 0 0)].getD xi .top] (.tup [Ai (relP p r c x),.int 0]):=by
 have h0:=h.s0
 have l1:=h.hov.2
 have l2:=h.go.2
 have l3:=h.stay.2
 have n3:=h.stay.1.pos ω
 have g1:=h.hov.1.app h.go.1
 have m1:(Ee r p c x++Ip p r c x).length<=4:=by rw[List.length_append];omega
 have m3:0<(Ee r p c x++Ip p r c x).length:=by rw[List.length_append];omega
 have e:relP p r c x=Ee r p c x++Ip p r c x++Gj p r c x:=by rw[relP,h.tail0 ht,List.append_nil]
 rw[e]
 exact kD _ _ _ (Fh h.hov.1 ω) (Fh h.go.1 ω) ω ω (Jk h.hov.1 h.go.1 ω ω ω) (Fh h.stay.1 ω) n3 (Fh g1 ω) (Jk g1 h.stay.1 m3 n3 ω)
theorem dB (p:Pr) (r:Rv) (c:Cs) (x:Rl) (h:Na p r c x) (hs:Iu p r c x=Hw p r c x) (ht:¬Hw p r c x<Bn p.acts p.acts.length):AF Tryz.prog 53 [.sl 1 4 λxi=>[Ai (Ee r p c x),Ai (Ip p r c x),.lit (.slice none 0 0),.lit (.slice none 0 0)].getD xi .top] (.tup [Ai (relP p r c x),.int 0]):=by
 have l1:=h.hov.2
 have l2:=h.go.2
 have e:relP p r c x=Ee r p c x++Ip p r c x:=by rw[relP,h.tail0 ht,h.stay0 hs,List.append_nil,List.append_nil]
 rw[e]
 exact kB _ _ (Fh h.hov.1 ω) (Fh h.go.1 ω) ω ω (Jk h.hov.1 h.go.1 ω ω ω)
theorem zJ (p:Pr) (r:Rv) (c:Cs) (x:Rl) (h:Na p r c x) (h0:0<x.rise):AF Tryz.prog 50 [Hc (Gu r x),Hc (atR p r c x),.int x.rise,.int (Eh p c x),.int (Iu p r c x)] (.tup [Ai (Ip p r c x),.int 0]):=by
 have h1:=h.s0
 have h2:=h.rise
 rw[Ip,if_pos h0]
 exact Ace _ _ _ _ _ (Lk h.hp h.ap ω ω ω) h.q4 ω h.hu h.au
theorem oV (p:Pr) (r:Rv) (c:Cs) (x:Rl) (h:Na p r c x) (h0:¬0<x.rise):AF Tryz.prog 49 [Hc (Gu r x),Hc (atR p r c x),.int (Eh p c x),.int (Iu p r c x)] (.tup [Ai (Ip p r c x),.int 0]):=by
 have h1:=h.s0
 rw[Ip,if_neg h0]
 exact dG (Lk h.hp h.ap ω ω ω)
theorem kJ (p:Pr) (r:Rv) (c:Cs) (x:Rl) (h:Na p r c x):AF Tryz.prog 49 [Hc (Gu r x),Hc (atR p r c x),.int (Eh p c x),.int (Iu p r c x)] (.tup [Ai (Ft (Gu r x) (atR p r c x) (Eh p c x) (Iu p r c x) 2),.int 0]):=by
 have h1:=h.s0
 exact dG (Lk h.hp h.ap ω ω ω)
theorem Zb (p:Pr) (r:Rv) (c:Cs) (x:Rl) (hc:Il p c) (h:Na p r c x) (ht:Hw p r c x<Bn p.acts p.acts.length):AF Tryz.prog 52 [Ai (Im p p.acts.length c.craft.toNat),.int (Hw p r c x),.int (Bn p.acts p.acts.length)] (.tup [Ai (Gb p r c x),.int 0]):=by
 have h0:=h.s0
 have h1:=hc.2
 have ho:=Aep hc.1 ω (i:=c.craft.toNat) ω
 have hcut:lN (Im p p.acts.length c.craft.toNat) (Hw p r c x) (Bn p.acts p.acts.length)=(Gb p r c x,0):=by
  rw[h.app];exact Aa0 h.own h.tail.1
 have:=uR (Im p p.acts.length c.craft.toNat) (Hw p r c x) (Bn p.acts p.acts.length) ho.pin ho.ok (by rw[ho.first];omega) ht (by rw[ho.last];exact Int.le_refl _) (by rw[hcut])
 rwa [hcut] at this
theorem Tz (p:Pr) (c:Cs) (hp:Ki p) (hc:Il p c):AF Tryz.prog 28 [Ey p,.int c.craft] (.tup [Ai (Im p p.acts.length c.craft.toNat),.int 0]):=by
 have h1:=hc.2
 have:=kP p c.craft.toNat hp hc.1 ω ω
 rwa [show (c.craft.toNat:Int)=c.craft by omega] at this
theorem My (a:V3) (f t:Int) (h:f=t):AF Tryz.prog 54 [Hc a,.int f,.int t] (.lit (.slice none 0 0)):=by
 subst h;exact kR a f
theorem cJ (p:Pr) (r:Rv) (c:Cs) (x:Rl) (hp:Ki p) (hc:Il p c) (hcs:Te c) (hr:Kd r) (h:Na p r c x):AF Tryz.prog 39 [Ey p,Hf r,Kf c,.int x.wait] (.lit (.tuple #[.int .i64 (Eh p c x),.int .i64 (Iu p r c x),.int .i64 (Ov p r c x:Int),.int .i64 (Hw p r c x),rK (atR p r c x)])):=by
 have:=Od p r c x.wait hp hc hcs hr h.wait
 unfold cT at this
 rwa [if_pos h.act.2] at this
theorem VR.relP {E:Bk} {v:Value} {l:List Rl} (h:VR E (tZ l) v):VR E (.tup [Abu l,.int 0]) v:=by
 unfold tZ at h
 split at h
 rename_i h0
 have:=h.lit_inv
 subst this
 rw[List.eq_nil_of_length_eq_zero h0]
 exact .tup _ _ _ rfl λi hi=>by
  match i,hi with
  |0,_=>exact .sl0 _ _ _ _ _
  |1,_=>exact .lit _ _
 exact h
theorem Xe (p:Pr) (r:Rv) (c:Cs) (hp:Ki p) (hr:Ue r) (hcs:Te c) (hg:Ss p r c):AF Tryz.prog 18 [Ey p,Hf r,Kf c] (.tup [Abu (Om p r c),.int 0]):=
 zQ (kQ p r c hp hr hcs hg) rfl (λ_ _ _ _ h=>h) λ_ _ h=>h.relP
theorem nL (r:Rv) (w:Int) (v:V3) (i:Nat):∀q,(cS r w v i q).length<=q
 |0=>Nat.zero_le _
 |q+1=>by
  have:=nL r w v i q
  rw[cS,List.length_append]
  split<;>simp<;>omega
theorem nJ (r:Rv) (w:Int) (v:V3) (o:List Nat):∀m,(jK r w v o m).length<=m*r.rises.length
 |0=>Nat.zero_le _
 |m+1=>by
  have h1:=nJ r w v o m
  have h2:=nL r w v (o.getD m 0) r.rises.length
  rw[jK,List.length_append,Nat.succ_mul];omega
theorem nN {p:Pr} {r:Rv} (hr:Kd r) (c:Cs):∀k,(Jc p r c k).length<=k*128
 |0=>Nat.zero_le _
 |k+1=>by
  have h1:=nN (p:=p) hr c k
  rw[Jc,List.length_append,Nat.succ_mul]
  split
  have h2:=nJ r (r.waits.getD k 0) (Bj p r c k) (Eb r (Bj p r c k)) r.homes.length
  have h3:=Nat.mul_le_mul hr.1.2.1 hr.2.2.2.2.1
  omega
  simp;omega
theorem Abv {p:Pr} {r:Rv} (hr:Kd r) (c:Cs):(Om p r c).length<=2048:=by
 have h1:=nN (p:=p) hr c r.waits.length
 have h2:=hr.2.2.1.2.1
 have:(Om p r c).length<=r.waits.length*128:=h1
 omega
theorem oW (p:Pr) (r:Rv) (c:Cs) (x:Rl) (hp:Ki p) (hr:Ue r) (hcs:Te c) (hg:Ss p r c) (hn:p.acts.length<=5) (hx:x∈Om p r c):AF Tryz.prog 21 [Ey p,Hf r,Kf c,Cq x] (.tup [Ai (relP p r c x),.int 0]):=by
 have h:=Aer hg.1 hg.2 (Adj hx)
 have h0:=h.s0
 have h1:=h.sp
 have h2:=hg.2.1
 have lo:=h.go.2
 have lt:=h.tail.2
 have rl:=Abv (p:=p) hg.2 c
 have lr:=h.rise
 refine Cc func21 rfl λB D0 hA0=>?_
 refine Ae 15 (Ct (Xe p r c hp hr hcs hg) (Ae 22 (Ct (fO (Om p r c) x (Om p r c).length ω) (Ae 3 (Ic 36 (!bP (Aef (Om p r c) x (Om p r c).length)) false (by rw[(Dm (AaJ.2 hx))];rfl) (Ae 10 (Ct (cJ p r c x hp hg.1 hcs hg.2 h) (Ae 20 (Af3 x.spare (x.spare).toNat r.homes.length (Ae 11 (uP ((0:Int)<x.rise) (λhx1 hx1d=>?_) (λhx1 hx1d=>?_))))))))))))
 ·
  refine Ct (kJ p r c x h) (Ae 15 (Ic 65 (decide ((0:Int)<x.rise)) true hx1 (Ae 8 (Ct (zJ p r c x h hx1d) (Ae 22 (Ct (Tz p c hp hg.1) (Ae 20 (Ct (Wb p hp hg.1.1) (Ae 20 (Fd 96 (Hw p r c x<Bn p.acts p.acts.length) (λhx2 hx2d=>?_) (λhx2 hx2d=>?_)))))))))))
  ·
   refine Ae 6 (Ct (Zb p r c x hg.1 h hx2d) (Ae 17 (uP (Iu p r c x=Hw p r c x) (λhx3 hx3d=>?_) (λhx3 hx3d=>?_))))
   ·
    exact Jf [(2,_,.none),(7,_,.none),(9,.osl 6 1 4,(.new 6 (.vec 54 1 4 (λxi=>[Ai (Ee r p c x),Ai (Ip p r c x),.lit (.slice none 0 0),Ai (Gb p r c x)].getD xi .top)))),(10,.tup [Ai (relP p r c x),.int 0],(.drop 6))] [8,9] ⟨Fx (Du (Gu r x) 0 (Eh p c x) ω (Lk h.hp h.hp ω ω ω)),Fx (My (atR p r c x) _ _ hx3d),Bc (Aj 59 4 #[(0,(.tmp 109)),(1,(.tmp 110)),(2,(.tmp 114)),(3,(.tmp 115))] κ underlying59 1 sizeOf54 _ zeroValue54 κ β β β 6 [Ai (Ee r p c x),Ai (Ip p r c x),.lit (.slice none 0 0),Ai (Gb p r c x)] κ (λxi=>[Ai (Ee r p c x),Ai (Ip p r c x),.lit (.slice none 0 0),Ai (Gb p r c x)].getD xi .top) κ),Bc (Jo 53 #[.tmp 116] #[59] κ (λ_ _=>by kernel_rfl) 6 (.vec 54 1 4 (λxi=>[Ai (Ee r p c x),Ai (Ip p r c x),.lit (.slice none 0 0),Ai (Gb p r c x)].getD xi .top)) κ (λ_ _ _ _ h=>by cases h;exact(λi hi j hj=>by obtain rfl:j=0:=(ω);exact match i,hi with|0,_=>rfl|1,_=>rfl|2,_=>rfl|3,_=>rfl|i+4,h=>absurd h ω)) [.osl 6 1 4] κ [.sl 1 4 (λxi=>[Ai (Ee r p c x),Ai (Ip p r c x),.lit (.slice none 0 0),Ai (Gb p r c x)].getD xi .top)] κ (.tup [Ai (relP p r c x),.int 0]) (dC p r c x h hn hx3d hx2d)),trivial⟩ (Ae 2 (Gc))
   ·
    exact Jf [(2,_,.none),(7,_,.none),(9,.osl 6 1 4,(.new 6 (.vec 54 1 4 (λxi=>[Ai (Ee r p c x),Ai (Ip p r c x),Ai (Gj p r c x),Ai (Gb p r c x)].getD xi .top)))),(10,.tup [Ai (relP p r c x),.int 0],(.drop 6))] [8,9] ⟨Fx (Du (Gu r x) 0 (Eh p c x) ω (Lk h.hp h.hp ω ω ω)),Fx (Du (atR p r c x) (Iu p r c x) (Hw p r c x) hx3d (Lk h.ap h.ap ω ω ω)),Bc (Aj 59 4 #[(0,(.tmp 109)),(1,(.tmp 110)),(2,(.tmp 114)),(3,(.tmp 115))] κ underlying59 1 sizeOf54 _ zeroValue54 κ β β β 6 [Ai (Ee r p c x),Ai (Ip p r c x),Ai (Gj p r c x),Ai (Gb p r c x)] κ (λxi=>[Ai (Ee r p c x),Ai (Ip p r c x),Ai (Gj p r c x),Ai (Gb p r c x)].getD xi .top) κ),Bc (Jo 53 #[.tmp 116] #[59] κ (λ_ _=>by kernel_rfl) 6 (.vec 54 1 4 (λxi=>[Ai (Ee r p c x),Ai (Ip p r c x),Ai (Gj p r c x),Ai (Gb p r c x)].getD xi .top)) κ (λ_ _ _ _ h=>by cases h;exact(λi hi j hj=>by obtain rfl:j=0:=(ω);exact match i,hi with|0,_=>rfl|1,_=>rfl|2,_=>rfl|3,_=>rfl|i+4,h=>absurd h ω)) [.osl 6 1 4] κ [.sl 1 4 (λxi=>[Ai (Ee r p c x),Ai (Ip p r c x),Ai (Gj p r c x),Ai (Gb p r c x)].getD xi .top)] κ (.tup [Ai (relP p r c x),.int 0]) (dF p r c x h hn hx3d hx2d)),trivial⟩ (Ae 2 (Gc))
  ·
   refine Ae 4 (uP (Iu p r c x=Hw p r c x) (λhx4 hx4d=>?_) (λhx4 hx4d=>?_))
   ·
    exact Jf [(2,_,.none),(7,_,.none),(9,.osl 6 1 4,(.new 6 (.vec 54 1 4 (λxi=>[Ai (Ee r p c x),Ai (Ip p r c x),.lit (.slice none 0 0),.lit (.slice none 0 0)].getD xi .top)))),(10,.tup [Ai (relP p r c x),.int 0],(.drop 6))] [8,9] ⟨Fx (Du (Gu r x) 0 (Eh p c x) ω (Lk h.hp h.hp ω ω ω)),Fx (My (atR p r c x) _ _ hx4d),Bc (Aj 59 4 #[(0,(.tmp 109)),(1,(.tmp 110)),(2,(.tmp 114)),(3,(.tmp 115))] κ underlying59 1 sizeOf54 _ zeroValue54 κ β β β 6 [Ai (Ee r p c x),Ai (Ip p r c x),.lit (.slice none 0 0),.lit (.slice none 0 0)] κ (λxi=>[Ai (Ee r p c x),Ai (Ip p r c x),.lit (.slice none 0 0),.lit (.slice none 0 0)].getD xi .top) κ),Bc (Jo 53 #[.tmp 116] #[59] κ (λ_ _=>by kernel_rfl) 6 (.vec 54 1 4 (λxi=>[Ai (Ee r p c x),Ai (Ip p r c x),.lit (.slice none 0 0),.lit (.slice none 0 0)].getD xi .top)) κ (λ_ _ _ _ h=>by cases h;exact(λi hi j hj=>by obtain rfl:j=0:=(ω);exact match i,hi with|0,_=>rfl|1,_=>rfl|2,_=>rfl|3,_=>rfl|i+4,h=>absurd h ω)) [.osl 6 1 4] κ [.sl 1 4 (λxi=>[Ai (Ee r p c x),Ai (Ip p r c x),.lit (.slice none 0 0),.lit (.slice none 0 0)].getD xi .top)] κ (.tup [Ai (relP p r c x),.int 0]) (dB p r c x h hx4d hx2d)),trivial⟩ (Ae 2 (Gc))
   ·
    exact Jf [(2,_,.none),(7,_,.none),(9,.osl 6 1 4,(.new 6 (.vec 54 1 4 (λxi=>[Ai (Ee r p c x),Ai (Ip p r c x),Ai (Gj p r c x),.lit (.slice none 0 0)].getD xi .top)))),(10,.tup [Ai (relP p r c x),.int 0],(.drop 6))] [8,9] ⟨Fx (Du (Gu r x) 0 (Eh p c x) ω (Lk h.hp h.hp ω ω ω)),Fx (Du (atR p r c x) (Iu p r c x) (Hw p r c x) hx4d (Lk h.ap h.ap ω ω ω)),Bc (Aj 59 4 #[(0,(.tmp 109)),(1,(.tmp 110)),(2,(.tmp 114)),(3,(.tmp 115))] κ underlying59 1 sizeOf54 _ zeroValue54 κ β β β 6 [Ai (Ee r p c x),Ai (Ip p r c x),Ai (Gj p r c x),.lit (.slice none 0 0)] κ (λxi=>[Ai (Ee r p c x),Ai (Ip p r c x),Ai (Gj p r c x),.lit (.slice none 0 0)].getD xi .top) κ),Bc (Jo 53 #[.tmp 116] #[59] κ (λ_ _=>by kernel_rfl) 6 (.vec 54 1 4 (λxi=>[Ai (Ee r p c x),Ai (Ip p r c x),Ai (Gj p r c x),.lit (.slice none 0 0)].getD xi .top)) κ (λ_ _ _ _ h=>by cases h;exact(λi hi j hj=>by obtain rfl:j=0:=(ω);exact match i,hi with|0,_=>rfl|1,_=>rfl|2,_=>rfl|3,_=>rfl|i+4,h=>absurd h ω)) [.osl 6 1 4] κ [.sl 1 4 (λxi=>[Ai (Ee r p c x),Ai (Ip p r c x),Ai (Gj p r c x),.lit (.slice none 0 0)].getD xi .top)] κ (.tup [Ai (relP p r c x),.int 0]) (dE p r c x h hx4d hx2d)),trivial⟩ (Ae 2 (Gc))
 ·
  refine Ct (oV p r c x h hx1d) (Ae 15 (Ic 65 (decide ((0:Int)<x.rise)) false hx1 (Ae 18 (Ct (Tz p c hp hg.1) (Ae 20 (Ct (Wb p hp hg.1.1) (Ae 20 (Fd 96 (Hw p r c x<Bn p.acts p.acts.length) (λhx5 hx5d=>?_) (λhx5 hx5d=>?_)))))))))
  ·
   refine Ae 6 (Ct (Zb p r c x hg.1 h hx5d) (Ae 17 (uP (Iu p r c x=Hw p r c x) (λhx6 hx6d=>?_) (λhx6 hx6d=>?_))))
   ·
    exact Jf [(2,_,.none),(7,_,.none),(9,.osl 6 1 4,(.new 6 (.vec 54 1 4 (λxi=>[Ai (Ee r p c x),Ai (Ip p r c x),.lit (.slice none 0 0),Ai (Gb p r c x)].getD xi .top)))),(10,.tup [Ai (relP p r c x),.int 0],(.drop 6))] [8,9] ⟨Fx (Du (Gu r x) 0 (Eh p c x) ω (Lk h.hp h.hp ω ω ω)),Fx (My (atR p r c x) _ _ hx6d),Bc (Aj 59 4 #[(0,(.tmp 109)),(1,(.tmp 110)),(2,(.tmp 114)),(3,(.tmp 115))] κ underlying59 1 sizeOf54 _ zeroValue54 κ β β β 6 [Ai (Ee r p c x),Ai (Ip p r c x),.lit (.slice none 0 0),Ai (Gb p r c x)] κ (λxi=>[Ai (Ee r p c x),Ai (Ip p r c x),.lit (.slice none 0 0),Ai (Gb p r c x)].getD xi .top) κ),Bc (Jo 53 #[.tmp 116] #[59] κ (λ_ _=>by kernel_rfl) 6 (.vec 54 1 4 (λxi=>[Ai (Ee r p c x),Ai (Ip p r c x),.lit (.slice none 0 0),Ai (Gb p r c x)].getD xi .top)) κ (λ_ _ _ _ h=>by cases h;exact(λi hi j hj=>by obtain rfl:j=0:=(ω);exact match i,hi with|0,_=>rfl|1,_=>rfl|2,_=>rfl|3,_=>rfl|i+4,h=>absurd h ω)) [.osl 6 1 4] κ [.sl 1 4 (λxi=>[Ai (Ee r p c x),Ai (Ip p r c x),.lit (.slice none 0 0),Ai (Gb p r c x)].getD xi .top)] κ (.tup [Ai (relP p r c x),.int 0]) (dC p r c x h hn hx6d hx5d)),trivial⟩ (Ae 2 (Gc))
   ·
    exact Jf [(2,_,.none),(7,_,.none),(9,.osl 6 1 4,(.new 6 (.vec 54 1 4 (λxi=>[Ai (Ee r p c x),Ai (Ip p r c x),Ai (Gj p r c x),Ai (Gb p r c x)].getD xi .top)))),(10,.tup [Ai (relP p r c x),.int 0],(.drop 6))] [8,9] ⟨Fx (Du (Gu r x) 0 (Eh p c x) ω (Lk h.hp h.hp ω ω ω)),Fx (Du (atR p r c x) (Iu p r c x) (Hw p r c x) hx6d (Lk h.ap h.ap ω ω ω)),Bc (Aj 59 4 #[(0,(.tmp 109)),(1,(.tmp 110)),(2,(.tmp 114)),(3,(.tmp 115))] κ underlying59 1 sizeOf54 _ zeroValue54 κ β β β 6 [Ai (Ee r p c x),Ai (Ip p r c x),Ai (Gj p r c x),Ai (Gb p r c x)] κ (λxi=>[Ai (Ee r p c x),Ai (Ip p r c x),Ai (Gj p r c x),Ai (Gb p r c x)].getD xi .top) κ),Bc (Jo 53 #[.tmp 116] #[59] κ (λ_ _=>by kernel_rfl) 6 (.vec 54 1 4 (λxi=>[Ai (Ee r p c x),Ai (Ip p r c x),Ai (Gj p r c x),Ai (Gb p r c x)].getD xi .top)) κ (λ_ _ _ _ h=>by cases h;exact(λi hi j hj=>by obtain rfl:j=0:=(ω);exact match i,hi with|0,_=>rfl|1,_=>rfl|2,_=>rfl|3,_=>rfl|i+4,h=>absurd h ω)) [.osl 6 1 4] κ [.sl 1 4 (λxi=>[Ai (Ee r p c x),Ai (Ip p r c x),Ai (Gj p r c x),Ai (Gb p r c x)].getD xi .top)] κ (.tup [Ai (relP p r c x),.int 0]) (dF p r c x h hn hx6d hx5d)),trivial⟩ (Ae 2 (Gc))
  ·
   refine Ae 4 (uP (Iu p r c x=Hw p r c x) (λhx7 hx7d=>?_) (λhx7 hx7d=>?_))
   ·
    exact Jf [(2,_,.none),(7,_,.none),(9,.osl 6 1 4,(.new 6 (.vec 54 1 4 (λxi=>[Ai (Ee r p c x),Ai (Ip p r c x),.lit (.slice none 0 0),.lit (.slice none 0 0)].getD xi .top)))),(10,.tup [Ai (relP p r c x),.int 0],(.drop 6))] [8,9] ⟨Fx (Du (Gu r x) 0 (Eh p c x) ω (Lk h.hp h.hp ω ω ω)),Fx (My (atR p r c x) _ _ hx7d),Bc (Aj 59 4 #[(0,(.tmp 109)),(1,(.tmp 110)),(2,(.tmp 114)),(3,(.tmp 115))] κ underlying59 1 sizeOf54 _ zeroValue54 κ β β β 6 [Ai (Ee r p c x),Ai (Ip p r c x),.lit (.slice none 0 0),.lit (.slice none 0 0)] κ (λxi=>[Ai (Ee r p c x),Ai (Ip p r c x),.lit (.slice none 0 0),.lit (.slice none 0 0)].getD xi .top) κ),Bc (Jo 53 #[.tmp 116] #[59] κ (λ_ _=>by kernel_rfl) 6 (.vec 54 1 4 (λxi=>[Ai (Ee r p c x),Ai (Ip p r c x),.lit (.slice none 0 0),.lit (.slice none 0 0)].getD xi .top)) κ (λ_ _ _ _ h=>by cases h;exact(λi hi j hj=>by obtain rfl:j=0:=(ω);exact match i,hi with|0,_=>rfl|1,_=>rfl|2,_=>rfl|3,_=>rfl|i+4,h=>absurd h ω)) [.osl 6 1 4] κ [.sl 1 4 (λxi=>[Ai (Ee r p c x),Ai (Ip p r c x),.lit (.slice none 0 0),.lit (.slice none 0 0)].getD xi .top)] κ (.tup [Ai (relP p r c x),.int 0]) (dB p r c x h hx7d hx5d)),trivial⟩ (Ae 2 (Gc))
   ·
    exact Jf [(2,_,.none),(7,_,.none),(9,.osl 6 1 4,(.new 6 (.vec 54 1 4 (λxi=>[Ai (Ee r p c x),Ai (Ip p r c x),Ai (Gj p r c x),.lit (.slice none 0 0)].getD xi .top)))),(10,.tup [Ai (relP p r c x),.int 0],(.drop 6))] [8,9] ⟨Fx (Du (Gu r x) 0 (Eh p c x) ω (Lk h.hp h.hp ω ω ω)),Fx (Du (atR p r c x) (Iu p r c x) (Hw p r c x) hx7d (Lk h.ap h.ap ω ω ω)),Bc (Aj 59 4 #[(0,(.tmp 109)),(1,(.tmp 110)),(2,(.tmp 114)),(3,(.tmp 115))] κ underlying59 1 sizeOf54 _ zeroValue54 κ β β β 6 [Ai (Ee r p c x),Ai (Ip p r c x),Ai (Gj p r c x),.lit (.slice none 0 0)] κ (λxi=>[Ai (Ee r p c x),Ai (Ip p r c x),Ai (Gj p r c x),.lit (.slice none 0 0)].getD xi .top) κ),Bc (Jo 53 #[.tmp 116] #[59] κ (λ_ _=>by kernel_rfl) 6 (.vec 54 1 4 (λxi=>[Ai (Ee r p c x),Ai (Ip p r c x),Ai (Gj p r c x),.lit (.slice none 0 0)].getD xi .top)) κ (λ_ _ _ _ h=>by cases h;exact(λi hi j hj=>by obtain rfl:j=0:=(ω);exact match i,hi with|0,_=>rfl|1,_=>rfl|2,_=>rfl|3,_=>rfl|i+4,h=>absurd h ω)) [.osl 6 1 4] κ [.sl 1 4 (λxi=>[Ai (Ee r p c x),Ai (Ip p r c x),Ai (Gj p r c x),.lit (.slice none 0 0)].getD xi .top)] κ (.tup [Ai (relP p r c x),.int 0]) (dE p r c x h hx7d hx5d)),trivial⟩ (Ae 2 (Gc))
def pX (l:List Int) (x:Int):Prop:=∃q,q<l.length/\l.getD q 0=x
def Zi (r:Rv):Prop:=r.homes.length<=9/\r.waits.length<=17/\r.rises.length<=17
theorem Zi.inn {r:Rv} (h:Zi r) (hf:Co r.flight):Ue r:=⟨by have:=h.1;omega,by have:=h.2.1;omega,by have:=h.2.2;omega,hf⟩
def uM (p:Pr) (r:Rv) (c:Cs) (w:Int):Prop:=pX r.waits w/\Oa p c (La p r c w)<p.acts.length
theorem AaK {r:Rv} {w:Int} (hr:Kd r) (h:pX r.waits w):0<=w/\w<=3600000:=by
 obtain⟨q,hq,rfl⟩:=h
 have:=hr.2.2.1.2.2 q hq
 exact⟨this.1,this.2.1⟩
theorem kT (p:Pr) (r:Rv) (c:Cs) (w:Int) (hp:Ki p) (hc:Il p c) (hcs:Te c) (hr:Kd r) (h:uM p r c w):AF Tryz.prog 39 [Ey p,Hf r,Kf c,.int w] (.lit (.tuple #[.int .i64 (Bq p c+w),.int .i64 (Bq p c+w+r.flight),.int .i64 (Oa p c (La p r c w):Int),.int .i64 (Bn p.acts (Oa p c (La p r c w)+1)),rK (rE p c (Oa p c (La p r c w)))])):=by
 have:=Od p r c w hp hc hcs hr (AaK hr h.1)
 unfold cT at this
 rwa [if_pos h.2] at this
theorem kS (p:Pr) (r:Rv) (c:Cs) (w:Int) (hp:Ki p) (hc:Il p c) (hcs:Te c) (hr:Kd r) (h1:pX r.waits w) (h:¬uM p r c w):AF Tryz.prog 39 [Ey p,Hf r,Kf c,.int w] (.lit (.tuple #[.int .i64 (Bq p c+w),.int .i64 (Bq p c+w+r.flight),.int .i64 (-1),.int .i64 (Bn p.acts p.acts.length),.agg #[.int .i64 0,.int .i64 0,.int .i64 0]])):=by
 have:=Od p r c w hp hc hcs hr (AaK hr h1)
 unfold cT at this
 rwa [if_neg (λg=>h ⟨h1,g⟩)] at this
theorem Tx (l:List Int) (x:Int) (hn:l.length<=1000000):AF Tryz.prog 38 [Dh l,.int x] (.bool (bP (pX l x))):=by
 refine Cc func38 rfl λB D0 hA0=>?_
 refine Ae 9 (Yf 0 func74 (λ_ hD1=>?_))
 refine Ae 14 (Lh [0,1,7,8] l.length (λi=>∀q,q<i->¬(l.getD q 0=x)) (λi=>⟨[(0,Dh l),(1,.int x),(7,.int (l.length:Int)),(8,.int (i:Int))],[],0,19⟩) (λq hq=>absurd hq (Nat.not_lt_zero q)) (λi hin hFi J1 hJ1=>?_))
 refine Ae 6 (Fd 9 ((i:Int)<(l.length:Int)) (λhx2 hx2d=>?_) (λhx2 hx2d=>?_))
 ·
  refine Ae 16 (Ga i l.length (Ae 4 (Fd 16 (x=(l).getD i 0) (λhx3 hx3d=>?_) (λhx3 hx3d=>?_))))
  ·
   exact Ae 13 (rM (Ae 1 (Ic 8 (decide ((0:Int)<=(i:Int))) true (decide_eq_true ω) (Ae 4 (Fa (.bool true) (congrArg AV.bool (Dm ⟨i,ω,ω⟩).symm))))))
  ·
   exact Ae 5 (Ev ((i:Int)+1) ((i+1:Nat):Int) (Ae 2 (Ob [0,1,7,8] (hJ1 ω (λq hq=>(Nat.lt_or_ge q i).elim (λg=>hFi q g) λg=>by have e:q=i:=(ω);subst e;omega)))))
 ·
  exact Ae 12 (rM (Ae 5 (Fa (.bool false) (congrArg AV.bool (Ao λ⟨q,hq,h9⟩=>hFi q ω h9).symm))))
theorem zH (r:Rv):AF Tryz.prog 9 [Hf r] (.bool (bP (Zi r))):=by
 refine Cc func9 rfl λB D0 hA0=>?_
 refine Ae 13 (Fd 7 ((r.homes.length:Int)<=9) (λhx1 hx1d=>?_) (λhx1 hx1d=>?_))
 ·
  refine Ae 6 (Fd 13 ((r.waits.length:Int)<=17) (λhx2 hx2d=>?_) (λhx2 hx2d=>?_))
  ·
   exact Ae 9 (Fa (.bool (decide ((r.rises.length:Int)<=17))) (congrArg AV.bool (if hz:r.rises.length<=17 then (decide_eq_true ω).trans (Dm ⟨ω,ω,hz⟩).symm else (decide_eq_false ω).trans (Ao (λg=>hz g.2.2)).symm)))
  ·
   exact Ae 9 (Fa (.bool false) (congrArg AV.bool (Ao λg=>by have g1:=g.1;have g2:=g.2.1;have g3:=g.2.2;omega).symm))
 ·
  exact Ae 15 (Fa (.bool false) (congrArg AV.bool (Ao λg=>by have g1:=g.1;have g2:=g.2.1;have g3:=g.2.2;omega).symm))
theorem fK (p:Pr) (r:Rv) (c:Cs) (w:Int) (hp:Ki p) (hr:Ue r) (hcs:Te c) (hg:Ss p r c) (h:¬uM p r c w):AF Tryz.prog 14 [Ey p,Hf r,Kf c,.int w] (.lit (.tuple #[.int .i64 0,.agg #[.int .i64 0,.int .i64 0,.int .i64 0],.int .i64 9])):=by
 refine Cc func14 rfl λB D0 hA0=>?_
 refine Ae 16 (Ct (fR p r c hp hr hcs) (Ae 3 (Ic 15 (!bP (Ss p r c)) false (by rw[(Dm hg)];rfl) (Ae 9 (Ct (Tx _ w hr.w) (Ae 3 (cX 21 (bP (pX r.waits w)) (λhx1=>?_) (λhx1=>?_))))))))
 ·
  exact Ae 9 (Ct (kS p r c w hp hg.1 hcs hg.2 (Ew hx1) h) (Ae 28 (Gc)))
 ·
  exact Ae 11 (Gc)
theorem fL (p:Pr) (r:Rv) (c:Cs) (w:Int) (hp:Ki p) (hr:Ue r) (hcs:Te c) (hg:Ss p r c) (h:uM p r c w):AF Tryz.prog 14 [Ey p,Hf r,Kf c,.int w] (.lit (.tuple #[.int .i64 (Oa p c (La p r c w):Int),rK (rE p c (Oa p c (La p r c w))),.int .i64 0])):=by
 refine Cc func14 rfl λB D0 hA0=>?_
 exact Ae 16 (Ct (fR p r c hp hr hcs) (Ae 3 (Ic 15 (!bP (Ss p r c)) false (by rw[(Dm hg)];rfl) (Ae 9 (Ct (Tx _ w hr.w) (Ae 3 (Ic 21 (!bP (pX r.waits w)) false (by rw[(Dm h.1)];rfl) (Ae 9 (Ct (kT p r c w hp hg.1 hcs hg.2 h) (Ae 15 (Ic 35 (decide (((Oa p c (La p r c w)):Int)<0)) false (decide_eq_false ω) (Ae 6 (Jf [] [8,9,10] trivial (Ae 2 (Gc)))))))))))))))
def AbA:List Mv:=[⟨⟨0,0,1000⟩,0,1000,0⟩,⟨⟨1000,0,1000⟩,0,1000,0⟩]
def AbB:List Mv:=[⟨⟨0,0,1000⟩,0,0,0⟩,⟨⟨1000,0,1000⟩,0,0,0⟩]
def AbC:List Mv:=[⟨⟨0,500,1000⟩,0,1000,0⟩,⟨⟨1000,500,1000⟩,0,1000,0⟩]
def Vy:Pr:=⟨[⟨#[97]⟩,⟨#[98]⟩],[⟨0,0,0⟩,⟨1000,0,0⟩],[⟨⟨#[117,112]⟩,2000,AbA⟩,⟨⟨#[115,116,97,121]⟩,2000,AbB⟩,⟨⟨#[110,111,114,116,104]⟩,2000,AbC⟩]⟩
def Xv:Rv:=⟨[⟨0,-500,0⟩,⟨1000,-500,0⟩],1200,[0,1000],[0,300]⟩
theorem fQ:AF Tryz.prog 32 [] (.tup [Ey Vy,Hf Xv]):=by
 refine Cc func32 rfl λB D0 hA0=>?_
 exact Ae 22 (Cb (.osl 4 6 2) (.new 4 (.vec 91 6 2 (λxi=>wR (AbA.getD xi Mv.none)))) (Aj 85 2 #[(0,(.tmp 10)),(1,(.tmp 12))] κ underlying85 6 sizeOf91 _ zeroValue91 κ β β β 4 [.int 0,.int 0,.int 1000,.int 0,.int 1000,.int 0,.int 1000,.int 0,.int 1000,.int 0,.int 1000,.int 0] κ (λxi=>wR (AbA.getD xi Mv.none)) κ) (Ae 9 (Cb (.osl 5 6 2) (.new 5 (.vec 91 6 2 (λxi=>wR (AbC.getD xi Mv.none)))) (Aj 85 2 #[(0,(.tmp 15)),(1,(.tmp 17))] κ underlying85 6 sizeOf91 _ zeroValue91 κ β β β 5 [.int 0,.int 500,.int 1000,.int 0,.int 1000,.int 0,.int 1000,.int 500,.int 1000,.int 0,.int 1000,.int 0] κ (λxi=>wR (AbC.getD xi Mv.none)) κ) (Ae 3 (Yc 4 [4] 91 6 2 (λxi=>wR (AbA.getD xi Mv.none)) (Gp λ_ _=>rfl) (Yc 5 [5] 91 6 2 (λxi=>wR (AbC.getD xi Mv.none)) (Gp λ_ _=>rfl) (Ae 2 (Cb (.osl 6 1 2) (.new 6 (.vec 9 1 2 (λxi=> .lit (.string (Vy.names.getD xi ByteArray.empty))))) (Aj 28 2 #[(0,(.const (.string ⟨#[97]⟩))),(1,(.const (.string ⟨#[98]⟩)))] κ underlying28 1 sizeOf9 _ zeroValue9 κ β β β 6 [.lit (.string ⟨#[97]⟩),.lit (.string ⟨#[98]⟩)] κ (λxi=> .lit (.string (Vy.names.getD xi ByteArray.empty))) κ) (Ae 2 (Cb (.osl 7 3 2) (.new 7 (.vec 36 3 2 (λxi=>Hc (Vy.homes.getD xi V3.zero)))) (Aj 22 2 #[(0,(.tmp 20)),(1,(.tmp 21))] κ underlying22 3 sizeOf36 _ zeroValue36 κ β β β 7 [.int 0,.int 0,.int 0,.int 1000,.int 0,.int 0] κ (λxi=>Hc (Vy.homes.getD xi V3.zero)) κ) (Ae 6 (Cb (.osl 8 6 2) (.new 8 (.vec 91 6 2 (λxi=>wR (AbB.getD xi Mv.none)))) (Aj 85 2 #[(0,(.tmp 26)),(1,(.tmp 28))] κ underlying85 6 sizeOf91 _ zeroValue91 κ β β β 8 [.int 0,.int 0,.int 1000,.int 0,.int 0,.int 0,.int 1000,.int 0,.int 1000,.int 0,.int 0,.int 0] κ (λxi=>wR (AbB.getD xi Mv.none)) κ) (Yc 8 [29] 91 6 2 (λxi=>wR (AbB.getD xi Mv.none)) (Gp λ_ _=>rfl) (Ae 3 (Cb (.osl 9 3 3) (.new 9 (.vec 87 3 3 (λxi=>Acu (Vy.acts.getD xi Ac.none)))) (Aj 29 3 #[(0,(.tmp 24)),(1,(.tmp 30)),(2,(.tmp 32))] κ underlying29 3 sizeOf87 _ zeroValue87 κ β β β 9 [.lit (.string ⟨#[117,112]⟩),.int 2000,.sl 6 2 (λxi=>wR (AbA.getD xi Mv.none)),.lit (.string ⟨#[115,116,97,121]⟩),.int 2000,.sl 6 2 (λxi=>wR (AbB.getD xi Mv.none)),.lit (.string ⟨#[110,111,114,116,104]⟩),.int 2000,.sl 6 2 (λxi=>wR (AbC.getD xi Mv.none))] κ (λxi=>Acu (Vy.acts.getD xi Ac.none)) κ) (Ae 5 (rL 6 10 0 9 1 2 (λxi=> .lit (.string (Vy.names.getD xi ByteArray.empty))) (Gp λ_ _=>rfl) (rL 7 10 1 36 3 2 (λxi=>Hc (Vy.homes.getD xi V3.zero)) (Gp λ_ _=>rfl) (rL 9 10 2 87 3 3 (λxi=>Acu (Vy.acts.getD xi Ac.none)) (Gp λ_ _=>rfl) (Ae 5 (Cb (.osl 11 3 2) (.new 11 (.vec 36 3 2 (λxi=>Hc (Xv.homes.getD xi V3.zero)))) (Aj 22 2 #[(0,(.tmp 36)),(1,(.tmp 37))] κ underlying22 3 sizeOf36 _ zeroValue36 κ β β β 11 [.int 0,.int (-500),.int 0,.int 1000,.int (-500),.int 0] κ (λxi=>Hc (Xv.homes.getD xi V3.zero)) κ) (Cb (.osl 12 1 2) (.new 12 (.vec 3 1 2 (λxi=> .int (Xv.waits.getD xi 0)))) (Aj 23 2 #[(0,(.const (.int .i64 0))),(1,(.const (.int .i64 1000)))] κ underlying23 1 sizeOf3 _ zeroValue3 κ β β β 12 [.int 0,.int 1000] κ (λxi=> .int (Xv.waits.getD xi 0)) κ) (Cb (.osl 13 1 2) (.new 13 (.vec 3 1 2 (λxi=> .int (Xv.rises.getD xi 0)))) (Aj 23 2 #[(0,(.const (.int .i64 0))),(1,(.const (.int .i64 300)))] κ underlying23 1 sizeOf3 _ zeroValue3 κ β β β 13 [.int 0,.int 300] κ (λxi=> .int (Xv.rises.getD xi 0)) κ) (Ae 5 (AbN 11 1 0 36 3 2 (λxi=>Hc (Xv.homes.getD xi V3.zero)) (Gp λ_ _=>rfl) (AbN 12 1 2 3 1 2 (λxi=> .int (Xv.waits.getD xi 0)) (Gp λ_ _=>rfl) (AbN 13 1 3 3 1 2 (λxi=> .int (Xv.rises.getD xi 0)) (Gp λ_ _=>rfl) (Ae 1 (Gc)))))))))))))))))))))))))))))
theorem jR:Ki Vy:=⟨δ,δ,δ,δ,δ⟩
theorem jS:Ue Xv:=⟨δ,δ,δ,⟨δ,δ⟩⟩
theorem yA:Da Vy=true:=by kernel_rfl
theorem AdJ {a b m:Int} (h:0<=a/\a<b/\b<=m):Nu [a,b] m:=⟨by simp,by simp,λi hi=>by
 have:i<2:=hi
 match i,this with
 |0,_=>exact⟨h.1,by show a<=m;omega,λh0=>absurd h0 (Nat.lt_irrefl 0)⟩
 |1,_=>exact⟨by show 0<=b;omega,h.2.2,λ_=>h.2.1⟩⟩
theorem Ae3:Kd Xv:=⟨⟨δ,δ,δ,δ,δ⟩,λi hi=>by
 have:i<2:=hi
 match i,this with
 |0,_=>exact⟨rfl,λj hj=>absurd hj (Nat.not_lt_zero j)⟩
 |1,_=>exact⟨rfl,λj hj=>by
  obtain rfl:j=0:=by omega
  decide⟩,AdJ δ,AdJ δ⟩
theorem Ae1 (k:Int) (h:k=0\/k=2):Il Vy ⟨0,k⟩:=⟨yA,by show (0:Int)<=0;decide,by show (0:Int)<2;decide,by show (0:Int)<=k;omega,by show k<(3:Int);omega⟩
theorem jQ (k:Int) (h:k=0\/k=2):Ss Vy Xv ⟨0,k⟩:=⟨Ae1 k h,Ae3⟩
theorem Ad3 (k:Int) (h:k=0\/k=2):Te ⟨0,k⟩:=by rcases h with rfl|rfl<;>exact⟨Pm,⟨δ,δ⟩⟩
def sxL:List Rl:=[⟨0,0,0⟩,⟨0,0,300⟩,⟨1,0,0⟩,⟨1,0,300⟩,⟨0,1000,0⟩,⟨0,1000,300⟩,⟨1,1000,0⟩,⟨1,1000,300⟩]
theorem Ab9:Om Vy Xv ⟨0,0⟩=sxL:=by kernel_rfl
def rD:List Sg:=relP Vy Xv ⟨0,0⟩ Rl.none
theorem Afg:rD.length=5:=by kernel_rfl
theorem Adc {l:List Sg} {n:Nat} (h:l.length=n):Ai l= .sl 6 n λxi=>Cn (l.getD xi Sg.none):=by subst h;rfl
theorem AdK (w:Int) (i:Nat) (hw:pX Xv.waits w) (h:Oa Vy ⟨0,0⟩ (La Vy Xv ⟨0,0⟩ w)=i) (hi:i<3):AF Tryz.prog 14 [Ey Vy,Hf Xv,Kf ⟨0,0⟩,.int w] (.lit (.tuple #[.int .i64 (i:Int),rK (rE Vy ⟨0,0⟩ i),.int .i64 0])):=by
 subst h
 exact fL Vy Xv ⟨0,0⟩ w jR jS (Ad3 0 (.inl rfl)) (jQ 0 (.inl rfl)) ⟨hw,hi⟩
theorem Ae2:AF Tryz.prog 14 [Ey Vy,Hf Xv,Kf ⟨0,2⟩,.int 0] (.lit (.tuple #[.int .i64 0,.agg #[.int .i64 0,.int .i64 0,.int .i64 0],.int .i64 9])):=
 fK Vy Xv ⟨0,2⟩ 0 jR jS (Ad3 2 (.inr rfl)) (jQ 2 (.inr rfl)) λg=>absurd g.2 δ
theorem Afh:AF Tryz.prog 18 [Ey Vy,Hf Xv,Kf ⟨0,0⟩] (.tup [.sl 3 8 λxi=>Cq (sxL.getD xi Rl.none),.int 0]):=by
 have h:=Xe Vy Xv ⟨0,0⟩ jR jS (Ad3 0 (.inl rfl)) (jQ 0 (.inl rfl))
 rwa [Ab9] at h
theorem Afi:AF Tryz.prog 21 [Ey Vy,Hf Xv,Kf ⟨0,0⟩,Cq Rl.none] (.tup [.sl 6 5 λxi=>Cn (rD.getD xi Sg.none),.int 0]):=by
 have h:=oW Vy Xv ⟨0,0⟩ Rl.none jR jS (Ad3 0 (.inl rfl)) (jQ 0 (.inl rfl)) δ (by rw[Ab9];exact List.mem_cons_self)
 rwa [show relP Vy Xv ⟨0,0⟩ Rl.none=rD from rfl,Adc Afg] at h
theorem Kg:AF Tryz.prog 10 [] (.bool true):=by
 refine Cc func10 rfl λB D0 hA0=>?_
 exact Ae 7 (Ct fQ (Ae 14 (Ct (AdK 0 1 ⟨0,δ,rfl⟩ δ δ) (Ae 15 (Ct (AdK 1000 2 ⟨1,δ,rfl⟩ δ δ) (Ae 15 (Ct Ae2 (Ae 15 (Ct Afh (Ae 15 (Cb (.bool false) .none (Iw (Vg 36 36 (.tmp 56) (.tmp 57) κ _ _ κ κ κ (decide ((0:Int)=0/\(0:Int)=0/\(1000:Int)=1000)) (gW _ _ _ _ _ _)) (show (!(decide ((0:Int)=0/\(0:Int)=0/\(1000:Int)=1000)):Bool)=false from by decide)) (Ae 12 (Cb (.bool false) .none (Iw (Vg 36 36 (.tmp 69) (.tmp 70) κ _ _ κ κ κ (decide ((0:Int)=0/\(500:Int)=500/\(1000:Int)=1000)) (gW _ _ _ _ _ _)) (show (!(decide ((0:Int)=0/\(500:Int)=500/\(1000:Int)=1000)):Bool)=false from by decide)) (Ae 20 (Ga 0 8 (Ae 2 (Cb (.bool false) .none (Iw (Vg 52 52 (.tmp 93) (.tmp 94) κ _ _ κ κ κ (decide ((0:Int)=0/\(0:Int)=0/\(0:Int)=0)) (sU _ _ _ _ _ _)) (show (!(decide ((0:Int)=0/\(0:Int)=0/\(0:Int)=0)):Bool)=false from by decide)) (Ae 3 (Ga 1 8 (Ae 2 (Cb (.bool false) .none (Iw (Vg 52 52 (.tmp 100) (.tmp 101) κ _ _ κ κ κ (decide ((0:Int)=0/\(0:Int)=0/\(300:Int)=300)) (sU _ _ _ _ _ _)) (show (!(decide ((0:Int)=0/\(0:Int)=0/\(300:Int)=300)):Bool)=false from by decide)) (Ae 3 (Ga 2 8 (Ae 2 (Cb (.bool false) .none (Iw (Vg 52 52 (.tmp 107) (.tmp 108) κ _ _ κ κ κ (decide ((1:Int)=1/\(0:Int)=0/\(0:Int)=0)) (sU _ _ _ _ _ _)) (show (!(decide ((1:Int)=1/\(0:Int)=0/\(0:Int)=0)):Bool)=false from by decide)) (Ae 7 (Jf [(4,Fi (.sl 3 8 (λxi=>Cq (sxL.getD xi Rl.none))) 0,.none),(6,_,.none)] [14,15] ⟨Ni 0 8,Fx Afi,trivial⟩ (Ae 13 (Ga 0 5 (Ae 12 (Cb (.osl 5 1 5) (.new 5 (.vec 3 1 5 (λxi=>[AV.int 2000,AV.int 3200,AV.int 4000,AV.int 5000,AV.int 6000].getD xi .top))) (Aj 23 5 #[(0,(.const (.int .i64 2000))),(1,(.const (.int .i64 3200))),(2,(.const (.int .i64 4000))),(3,(.const (.int .i64 5000))),(4,(.const (.int .i64 6000)))] κ underlying23 1 sizeOf3 _ zeroValue3 κ β β β 5 [.int 2000,.int 3200,.int 4000,.int 5000,.int 6000] κ (λxi=>[AV.int 2000,AV.int 3200,AV.int 4000,AV.int 5000,AV.int 6000].getD xi .top) κ) (Ae 5 (yT 5 (Ae 14 (Ga 0 5 (Cb (.int 2000) (.read 5) (Dd 3 (.tmp 140) κ isAgg3 5 0 0 1 κ 3 5 (λxi=>[AV.int 2000,AV.int 3200,AV.int 4000,AV.int 5000,AV.int 6000].getD xi .top) κ ω δ) (Ae 8 (Ga 0 5 (Ae 11 (Mt (.int .i64 1) (.int .i64 1) (Ae 17 (Ga 1 5 (Cb (.int 3200) (.read 5) (Dd 3 (.tmp 140) κ isAgg3 5 1 0 1 κ 3 5 (λxi=>[AV.int 2000,AV.int 3200,AV.int 4000,AV.int 5000,AV.int 6000].getD xi .top) κ ω δ) (Ae 8 (Ga 1 5 (Ae 11 (Mt (.int .i64 2) (.int .i64 2) (Ae 17 (Ga 2 5 (Cb (.int 4000) (.read 5) (Dd 3 (.tmp 140) κ isAgg3 5 2 0 1 κ 3 5 (λxi=>[AV.int 2000,AV.int 3200,AV.int 4000,AV.int 5000,AV.int 6000].getD xi .top) κ ω δ) (Ae 8 (Ga 2 5 (Ae 11 (Mt (.int .i64 3) (.int .i64 3) (Ae 17 (Ga 3 5 (Cb (.int 5000) (.read 5) (Dd 3 (.tmp 140) κ isAgg3 5 3 0 1 κ 3 5 (λxi=>[AV.int 2000,AV.int 3200,AV.int 4000,AV.int 5000,AV.int 6000].getD xi .top) κ ω δ) (Ae 8 (Ga 3 5 (Ae 11 (Mt (.int .i64 4) (.int .i64 4) (Ae 17 (Ga 4 5 (Cb (.int 6000) (.read 5) (Dd 3 (.tmp 140) κ isAgg3 5 4 0 1 κ 3 5 (λxi=>[AV.int 2000,AV.int 3200,AV.int 4000,AV.int 5000,AV.int 6000].getD xi .top) κ ω δ) (Ae 8 (Ga 4 5 (Ae 11 (Mt (.int .i64 5) (.int .i64 5) (Ae 21 (Gc))))))))))))))))))))))))))))))))))))))))))))))))))))))))))))))))))))))
theorem zP {a:V3} {f t:Int} (h:f<t) (hb:Kv a a f t=true):AF Tryz.prog 26 [Hc a,.int f,.int t] (Ai (Ft a a f t 0)):=by
 refine Cc func26 rfl λB D0 hA0=>?_
 exact Ae 14 (Ic 11 (decide (t<=f)) false (decide_eq_false ω) (Ae 8 (Ct (dH hb) (Ae 14 (Gc)))))
theorem Xc (a b k:Int):(Cz a b (Bl k)).length<=1000000:=by
 unfold Cz
 rw[List.length_cons]
 split
 decide
 rw[List.length_map]
 unfold Bl
 split
 decide
 split
 decide
 decide
theorem Qd.fly (a b:V3) (f t k:Int):Qd (Wn a b f t k).1:=by
 unfold Wn
 split
 refine⟨by show 1<=1000000;decide,λi=>?_⟩
 cases i with
 |zero=>exact⟨Xc _ _ _,Xc _ _ _,Xc _ _ _⟩
 |succ i=>exact Qd.nil.2 i
 exact Qd.nil
end Go.Proofs.YtldnjomacnjhnaaGreat
namespace Go.Proofs.YtldnjomacnjhnaaGreat
open Go.Proofs.Tryz
open Go.RowKit
abbrev Ik (p:Pr) (r:Rv) (i:Nat):List Sg:=Ft (r.homes.getD i V3.zero) (r.homes.getD i V3.zero) 0 (Bn p.acts p.acts.length) 0
abbrev qO (p:Pr) (r:Rv):AV:= .sl 1 r.homes.length λxi=>Ai (Ik p r xi)
theorem aU {p:Pr} {r:Rv} (hp:Wf p) (hr:Kd r) (h0:0<p.acts.length) {i:Nat} (hi:i<r.homes.length):Kv (r.homes.getD i V3.zero) (r.homes.getD i V3.zero) 0 (Bn p.acts p.acts.length)=true:=
 Lk (hr.2.1 i hi).1 (hr.2.1 i hi).1 (Int.le_refl 0) (Qs hp _ (Nat.le_refl _) h0) (hp.ends _ (Nat.le_refl _)).2
theorem fP (a b:V3) (f t k:Int):AF Tryz.prog 23 [Ai (Ft a b f t k),Ai (Ft a b f t k)] (.bool true):=cI _ (by rw[<-iF];exact Qd.fly _ _ _ _ _)
theorem kO (p:Pr) (r:Rv) (hp:Ki p) (_:Ue r) (h:Da p=false):AF Tryz.prog 24 [Ey p,Hf r] (.lit (.tuple #[.slice none 0 0,.int .i64 2])):=by
 refine Cc func24 rfl λB D0 hA0=>?_
 exact Ae 14 (Ct (Ec p hp) (Ae 4 (Ic 11 (!Da p) true (by rw[h];rfl) (Ae 13 (Gc)))))
theorem kN (p:Pr) (r:Rv) (hp:Ki p) (hr:Ue r) (hv:Da p=true) (h:¬Kd r):AF Tryz.prog 24 [Ey p,Hf r] (.lit (.tuple #[.slice none 0 0,.int .i64 2])):=by
 refine Cc func24 rfl λB D0 hA0=>?_
 exact Ae 14 (Ct (Ec p hp) (Ae 4 (Ic 11 (!Da p) false (by rw[hv];rfl) (Ae 3 (Ct (Ko r hr) (Ae 4 (Ic 11 (!bP (Kd r)) true (by rw[(Ao h)];rfl) (Ae 10 (Gc)))))))))
theorem kM (p:Pr) (r:Rv) (hp:Ki p) (hr:Ue r) (hv:Da p=true) (h:Kd r) (h0:p.acts.length=0):AF Tryz.prog 24 [Ey p,Hf r] (.lit (.tuple #[.slice none 0 0,.int .i64 9])):=by
 refine Cc func24 rfl λB D0 hA0=>?_
 exact Ae 14 (Ct (Ec p hp) (Ae 4 (Ic 11 (!Da p) false (by rw[hv];rfl) (Ae 3 (Ct (Ko r hr) (Ae 4 (Ic 11 (!bP (Kd r)) false (by rw[(Dm h)];rfl) (Ae 7 (Ic 22 (decide ((p.acts.length:Int)=0)) true (decide_eq_true ω) (Ae 13 (Gc)))))))))))
theorem fT (p:Pr) (r:Rv) (hp:Ki p) (hr:Ue r) (hv:Da p=true) (h:Kd r) (h0:0<p.acts.length):AF Tryz.prog 24 [Ey p,Hf r] (.tup [qO p r,.int 0]):=by
 refine Cc func24 rfl λB D0 hA0=>?_
 refine Ae 14 (Ct (Ec p hp) (Ae 4 (Ic 11 (!Da p) false (by rw[hv];rfl) (Ae 3 (Ct (Ko r hr) (Ae 4 (Ic 11 (!bP (Kd r)) false (by rw[(Dm h)];rfl) (Ae 7 (Ic 22 (decide ((p.acts.length:Int)=0)) false (decide_eq_false ω) (Ae 10 (Ct (Wb p hp hv) (Ae 13 ?_))))))))))))
 have hn1:=h.1.1
 have hn2:=h.1.2.1
 have hpos:=Qs (Fz hv) _ (Nat.le_refl _) h0
 refine cW 1 (Ae 9 (fG [6,8,29,30,31] (λm s=>∃i,i<=r.homes.length/\m=r.homes.length-i/\True/\((i=0/\s=⟨[(6,.int (Bn p.acts p.acts.length)),(8,.lit (.slice none 0 0)),(29,Ll r.homes),(30,.int (r.homes.length:Int)),(31,.int ((0:Nat):Int))],[(0,.box 31 [Fc p.names,Hl p.homes,Gs p.acts])],2,43⟩)\/(0<i/\s=⟨[(6,.int (Bn p.acts p.acts.length)),(8,.osl 9 1 i),(29,Ll r.homes),(30,.int (r.homes.length:Int)),(31,.int (i:Int))],[(0,.box 31 [Fc p.names,Hl p.homes,Gs p.acts]),(9,.vec 54 1 i (λxi=>Ai (Ik p r xi)))],10,43⟩))) r.homes.length ⟨0,Nat.zero_le _,rfl,trivial,.inl ⟨rfl,κ⟩⟩ ?_))
 rintro _ _ ⟨i,hin,rfl,hFi,(⟨hi0,rfl⟩|⟨hi0,rfl⟩)⟩ J1 hJ1
 ·
  subst hi0
  refine Ae 6 (Fd 32 (((0:Nat):Int)<(r.homes.length:Int)) (λhx1 hx1d=>?_) (λhx1 hx1d=>?_))
  ·
   exact Ae 7 (Ga 0 r.homes.length (Ae 5 (cW 2 (Ae 4 (Ct (Du (r.homes.getD 0 V3.zero) 0 (Bn p.acts p.acts.length) ω (aU (Fz hv) h h0 ω)) (Cb (.osl 3 1 1) (.new 3 (.vec 54 1 1 (λ_=>Ai (Ik p r 0)))) (Aj 59 1 #[(0,(.tmp 38))] κ underlying59 1 sizeOf54 _ zeroValue54 κ β β β 3 [Ai (Ik p r 0)] κ (λ_=>Ai (Ik p r 0)) κ) (Cb (.osl 4 1 1) (.newr 3 4 (.vec 54 1 1 (λxi=>Ai (Ik p r xi)))) (Cf (.tmp 35) (.tmp 39) 59 κ underlying59 1 24 (.slice none 0 0) κ κ δ 1 ω (λ_=>Ai (Ik p r 0)) (λxi=>Ai (Ik p r xi)) 4 (λi hi=>by(obtain rfl:i=0:=(ω));rfl) (λi hi j hj=>by obtain rfl:j=0:=(ω);rfl) (by unfold maxLen;omega) ω κ 3 54 κ κ) (Ae 5 (Ev (((0:Nat):Int)+1) ((0+1:Nat):Int) (Ae 2 (Gk [6,8,29,30,31] [(0,0),(4,9)] 10 0 hA0 [(54,1,1,(λ_=>Ai (Ik p r 0))),(54,1,1,(λxi=>Ai (Ik p r xi)))] ⟨(Gp λ_ _=>rfl),(Gp λ_ _=>rfl),trivial⟩ (hJ1 _ _ (by omega:r.homes.length-(0+1)<r.homes.length-0) ⟨0+1,ω,rfl,trivial,.inr ⟨Nat.succ_pos _,rfl⟩⟩))))))))))))
  ·
   exact Ae 14 (Fa (.lit (.tuple #[.slice none 0 0,.int .i64 0])) (by exfalso;omega))
 ·
  refine Ae 6 (Fd 32 ((i:Int)<(r.homes.length:Int)) (λhx2 hx2d=>?_) (λhx2 hx2d=>?_))
  ·
   exact Ae 7 (Ga i r.homes.length (Ae 5 (cW 10 (Ae 4 (Ct (Du (r.homes.getD i V3.zero) 0 (Bn p.acts p.acts.length) ω (aU (Fz hv) h h0 ω)) (Cb (.osl 11 1 1) (.new 11 (.vec 54 1 1 (λ_=>Ai (Ik p r i)))) (Aj 59 1 #[(0,(.tmp 38))] κ underlying59 1 sizeOf54 _ zeroValue54 κ β β β 11 [Ai (Ik p r i)] κ (λ_=>Ai (Ik p r i)) κ) (Cb (.osl 12 1 (i+1)) (.grow2 9 11 12 (.vec 54 1 (i+1) (λxi=>Ai (Ik p r xi)))) (Cu (.tmp 35) (.tmp 39) 59 κ underlying59 1 24 (.slice none 0 0) κ κ δ i 1 ω (λxi=>Ai (Ik p r xi)) (λ_=>Ai (Ik p r i)) (λxi=>Ai (Ik p r xi)) 12 ω (by unfold maxLen;omega) (λi hi=>rfl) (λi hi=>by(obtain rfl:i=0:=(ω));rfl) (λi hi j hj=>by obtain rfl:j=0:=(ω);rfl) 9 κ κ 11 54 κ κ) (Ae 5 (Ev ((i:Int)+1) ((i+1:Nat):Int) (Ae 2 (Gk [6,8,29,30,31] [(0,0),(12,9)] 10 0 hA0 [(54,1,1,(λ_=>Ai (Ik p r i))),(54,1,i+1,(λxi=>Ai (Ik p r xi)))] ⟨(Gp λ_ _=>rfl),(Gp λ_ _=>rfl),trivial⟩ (hJ1 _ _ (by omega:r.homes.length-(i+1)<r.homes.length-i) ⟨i+1,ω,rfl,trivial,.inr ⟨Nat.succ_pos _,rfl⟩⟩))))))))))))
  ·
   exact Ae 13 (Yc 9 [4] 54 1 i (λxi=>Ai (Ik p r xi)) (Gp λ_ _=>rfl) (Ae 1 (Fa (.tup [.sl 1 i (λxi=>Ai (Ik p r xi)),.int 0]) (congrArg (λq=>AV.tup [.sl 1 q λxi=>Ai (Ik p r xi),.int 0]) (show i=r.homes.length by omega)))))
theorem cH (p:Pr) (r:Rv) (hl:∀a∈p.acts,Co a.len) (hf:Co r.flight):AF Tryz.prog 7 [Ey p,Hf r] (.bool true):=by
 refine Cc func7 rfl λB D0 hA0=>?_
 refine Ae 11 (Ct (zG p 4 5 ⟨δ,δ⟩ ⟨δ,δ⟩) (Ae 2 (cX 11 (bP (AdS p 4 5)) (λhx1=>?_) (λhx1=>?_))))
 ·
  refine Ae 1 (Ct (zH r) (Ae 4 (cX 15 (bP (Zi r)) (λhx2=>?_) (λhx2=>?_))))
  ·
   refine Ae 7 ?_
   refine Gn (Da p) (λhx3=>?_) (λhx3=>?_)
   ·
    refine Gn (bP (Kd r)) (λhx4=>?_) (λhx4=>?_)
    ·
     have hp:=(Pk (Ew hx1) δ δ hl)
     have hv:=hx3
     have hr:=Ew hx4
     have hn2:=hr.1.2.1
     have hac:=(Fz hv).acts
     refine uP ((p.acts.length:Int)=0) (λhx5 hx5d=>?_) (λhx5 hx5d=>?_)
     ·
      exact Ct (kM p r (Pk (Ew hx1) δ δ hl) (Zi.inn (Ew hx2) hf) hx3 (Ew hx4) ω) (Ae 11 (Ct (Ec p (Pk (Ew hx1) δ δ hl)) (Ae 2 (Ic 26 (!Da p) false (nt hx3) (Ae 1 (Ct (Ns r (Zi.inn (Ew hx2) hf)) (Ae 4 (Ic 30 (!bP (Kd r)) false (nt hx4) (Ae 12 (Ic 44 (decide ((p.acts.length:Int)=0)) true hx5 (Ae 11 (Ct Kg (Ae 6 (Gc))))))))))))))
     ·
      have hpos:=Qs (Fz hv) _ (Nat.le_refl _) (show 0<p.acts.length by omega)
      refine Ct (fT p r (Pk (Ew hx1) δ δ hl) (Zi.inn (Ew hx2) hf) hx3 (Ew hx4) ω) (Ae 11 (Ct (Ec p (Pk (Ew hx1) δ δ hl)) (Ae 2 (Ic 26 (!Da p) false (nt hx3) (Ae 1 (Ct (Ns r (Zi.inn (Ew hx2) hf)) (Ae 4 (Ic 30 (!bP (Kd r)) false (nt hx4) (Ae 12 (Ic 44 (decide ((p.acts.length:Int)=0)) false hx5 (Ae 18 (Ic 64 (!decide ((r.homes.length:Int)=(r.homes.length:Int))) false (congrArg (!·) (decide_eq_true rfl)) (Ae 10 (Lh [2,3,5,7] r.homes.length (λi=>True) (λi=>⟨[(2,.ptr 0 0),(3,.ptr 1 0),(5,qO p r),(7,.int (i:Int))],[(0,.box 31 [Fc p.names,Hl p.homes,Gs p.acts]),(1,.box 25 [Ll r.homes,.int r.flight,Dh r.waits,Dh r.rises])],2,90⟩) trivial (λi hin hFi J1 hJ1=>?_)))))))))))))))
      refine Ae 9 (Fd 68 ((i:Int)<(r.homes.length:Int)) (λhx6 hx6d=>?_) (λhx6 hx6d=>?_))
      ·
       exact Ae 6 (Jf [(2,Fi (qO p r) i,.none),(7,Fi (Ll r.homes) i,.none),(13,.int ((p.acts.length-1:Nat):Int),.none),(14,_,.none),(15,_,.none),(16,_,.none)] [2,3,5,7,88] ⟨Ni i r.homes.length,Ni i r.homes.length,Bc (Ca (v:= .int .i64 (IntKind.wrap .i64 ((p.acts.length:Int)-1))) (v':= .int .i64 ((p.acts.length-1:Nat):Int)) _ κ rfl κ (λw=>by kernel_rfl) (congrArg (Value.int .i64) ((IntWalk.i64_in _ ω).trans ω))),Fx (by have:=zC p hp (Fz hv) (p.acts.length-1) ω;rwa [show p.acts.length-1+1=p.acts.length by omega] at this),Fx (zP (a:=(r.homes.getD i V3.zero)) (f:=0) (t:=Bn p.acts p.acts.length) ω (aU (Fz hv) hr ω ω)),Fx (fP (r.homes.getD i V3.zero) (r.homes.getD i V3.zero) 0 (Bn p.acts p.acts.length) 0),trivial⟩ (Ae 7 (Ev ((i:Int)+1) ((i+1:Nat):Int) (Ae 2 (Ob [2,3,5,7] (hJ1 ω trivial))))))
      ·
       exact Ae 8 (Ct Kg (Ae 4 (Gc)))
    ·
     exact Ct (kN p r (Pk (Ew hx1) δ δ hl) (Zi.inn (Ew hx2) hf) hx3 (Pf hx4)) (Ae 11 (Ct (Ec p (Pk (Ew hx1) δ δ hl)) (Ae 2 (Ic 26 (!Da p) false (nt hx3) (Ae 1 (Ct (Ns r (Zi.inn (Ew hx2) hf)) (Ae 4 (Ic 30 (!bP (Kd r)) true (nf hx4) (Ae 11 (Ct Kg (Ae 6 (Gc))))))))))))
   ·
    exact Ct (kO p r (Pk (Ew hx1) δ δ hl) (Zi.inn (Ew hx2) hf) hx3) (Ae 11 (Ct (Ec p (Pk (Ew hx1) δ δ hl)) (Ae 2 (Ic 26 (!Da p) true (nf hx3) (Ae 17 (Ct Kg (Ae 6 (Gc))))))))
  ·
   exact Ae 3 (Ct Kg (Ae 5 (Gc)))
 ·
  exact Ae 9 (Ct Kg (Ae 5 (Gc)))
end Go.Proofs.YtldnjomacnjhnaaGreat
namespace Go.Proofs.YtldnjomacnjhnaaGreat.Open
open Go.ChangeShapes Go.WideShapes Go.ChangeAt Go.RowKit Go.Deep
section
variable {H:Type} {enc:TypeId×Value->H} {W:World}
theorem Aea:Tryz.prog.cellsOf 3=1:=by kernel_rfl
theorem eU {a0:Option Addr} {l0 c0 fuel:Nat} {y:DataW H×List MemPlace} (h:DataW.trod enc Tryz.prog W 0 (λ_=>true) true fuel 23 [.slice a0 l0 c0]=some y):∃l:List Int,l.length=l0/\Bx W 0 W.heap.size 1 (.slice a0 l0 c0) l0 (l.flatMap λx=>[.int .i64 x])/\l0<=c0:=by
 have hc:=nD Tryz.underlying23 h
 obtain⟨lh,g1,g2,g3,_⟩:=Mc Tryz.underlying23 Aea δ h
 obtain⟨Hm,H1,H2⟩:=Uw (cells:=λv:Int=>[.int .i64 v]) lh (λcs hc=>by obtain⟨hl,n,y,ht⟩:=g2 cs hc;obtain⟨k,e,_⟩:=Kb ht;exact⟨k,e⟩)
 exact⟨Hm,ω,by rw[<-H2];exact g3,hc⟩
theorem open_resv {v:Value} {d:DataW H} {p:List MemPlace} {base:Nat} (hv:Value.okWide Tryz.prog W .any base 25 v) (h:DataW.Trod enc Tryz.prog W 0 (λ_=>true) true 25 v d p):
  ∃r:Rv,Co r.flight/\∀E:Bk,E.w=W->(∀b,b<W.heap.size->E.D b)->VR E (Hf r) v:=by
 obtain⟨v0,v1,v2,v3,y0,y1,y2,y3,n,rfl,_,_,h0,h1,h2,h3⟩:=Go.Joins.open_agg4 Tryz.underlying25 κ κ hv h
 obtain⟨a0,l0,c0,e0⟩:=Go.Joins.slice_form Tryz.underlying22 h0
 obtain rfl:v0= .slice a0 l0 c0:=by simpa using e0
 obtain⟨k1,e1,f1⟩:=Kb h1
 obtain⟨a2,l2,c2,e2⟩:=Go.Joins.slice_form Tryz.underlying23 h2
 obtain rfl:v2= .slice a2 l2 c2:=by simpa using e2
 obtain⟨a3,l3,c3,e3⟩:=Go.Joins.slice_form Tryz.underlying23 h3
 obtain rfl:v3= .slice a3 l3 c3:=by simpa using e3
 have hc:=nD Tryz.underlying22 h0
 obtain⟨lh,g1,g2,g3,_⟩:=Mc Tryz.underlying22 Aav δ h0
 obtain⟨Hm,H1,H2⟩:=Uw (cells:=λv:V3=>[.int .i64 v.x,.int .i64 v.y,.int .i64 v.z]) lh (λcs hc=>by obtain⟨hl,n,y,ht⟩:=g2 cs hc;exact aR hl ht)
 have hL:Hm.length=l0:=by omega
 subst hL
 obtain⟨wl,rfl,w1,w2⟩:=eU h2
 obtain⟨rl,rfl,r1,r2⟩:=eU h3
 obtain rfl:v1= .int .i64 k1:=by simpa using e1
 have g3':Bx W 0 W.heap.size 3 (.slice a0 Hm.length c0) Hm.length (Io Hm):=by unfold Io;rw[<-H2];exact g3
 have Dc:∀{a:Option Addr} {c:Nat} {l:List Int} {E:Bk},Bx W 0 W.heap.size 1 (.slice a l.length c) l.length (l.flatMap λx=>[.int .i64 x])->l.length<=c->E.w=W->(∀b,b<W.heap.size->E.D b)->VR E (Dh l) (.slice a l.length c):=λ {a c l E} hs hc hw hD=> .slc _ _ _ _ _ _ hc (Np hs hw (λb hb=>hD b hb.2) λi j hi hj=>by
  obtain rfl:j=0:=by omega
  have:=Ly (λx:Int=>[Value.int .i64 x]) 1 (λ_=>rfl) l i 0 0 hi ω
  rw[this]
  exact .lit _ _)
 refine⟨⟨Hm,k1,wl,rl⟩,f1,λE hw hD=> .agg _ _ _ rfl λi hi=>?_⟩
 have h3:i<4:=hi
 match i,h3 with
 |0,_=>exact .slc _ _ _ _ _ _ hc (uO g3' hw λb hb=>hD b hb.2)
 |1,_=>exact .lit _ _
 |2,_=>exact Dc w1 w2 hw hD
 |3,_=>exact Dc r1 r2 hw hD
end
end Go.Proofs.YtldnjomacnjhnaaGreat.Open
namespace Go.Proofs.YtldnjomacnjhnaaGreat
end Go.Proofs.YtldnjomacnjhnaaGreat
namespace Go.Proofs.YtldnjomacnjhnaaGreat.SK
open Go.ChangeShapes Go.WideShapes Go.ChangeAt Go.RowKit Go.Deep
theorem own:ownKnob Tryz.prog.godebug=none:=by kernel_rfl
theorem tG:laidOutB Tryz.prog=true:=by kernel_rfl
theorem Aeh (os:Os) (started:os.Started) (H:Type) (enc:TypeId×Value->H):
  ReturnsInHanded {} Tryz.checked os 7 .any (λw args=>Rows.spareParksSpec.pre enc Tryz.prog Tryz.f7 [] false w args/\sizedMet enc Tryz.prog Tryz.f7 (OpenSpec.ofChange Rows.spareParksSpec) false w args)
   (Rows.spareParksSpec.post enc Tryz.prog Tryz.f7 false true false false):=by
 refine returnsInHanded_of_change (C:=Tryz.checked) own started κ Tryz.func7
  (by
   obtain⟨w,tape,i,h1,h2,h3,h4,⟨⟨hp,_⟩,hs⟩,h5⟩:=ChangeSpec.witness_shaped (enc:=enc) (C:=Tryz.checked) (os:=os) (f:=7) (fn:=Tryz.f7) (s:=Rows.spareParksSpec) (conds:=[]) (apart:=false) (X:=λ_ _=>True) false (World.doorLaid Tryz.prog 400 os) #[.agg #[.slice none 0 0,.slice none 0 0,.slice none 0 0],.agg #[.slice none 0 0,.int .i64 0,.slice none 0 0,.slice none 0 0]] 8 rfl (World.shaped_of_RefB κ κ) κ κ κ trivial
   exact⟨w,tape,i,h1,h2,h3,h4,⟨hp,hs⟩,h5⟩) ?_
 intro W base args ds gs before hval0 hW _ _
 have hval:∀(j:Nat) t v,Tryz.f7.params[j]?=some t->args[j]?=some v->Value.okWide Tryz.prog W .any base t v:=hval0
 have hW':=hW
 obtain⟨p,q,hA0,hV,rfl,hfz,hnd⟩:=hW
 have hA:DataW.TrodAll enc Tryz.prog W 0 (λ_=>true) true Tryz.f7.params.toList args.toList ds p:=hA0
 rw[Tryz.params7] at hA hval
 obtain⟨v0,vs0,d0,ds0,p0,q0,hargs,rfl,rfl,h0,r0⟩:=trodAll_cons hA
 obtain⟨v1,vs1,d1,ds1,p1,q1,rfl,rfl,rfl,h1,r1⟩:=trodAll_cons r0
 obtain⟨rfl,rfl,rfl⟩:=trodAll_nil r1
 obtain rfl:args=#[v0,v1]:=by cases args;simp_all
 obtain⟨rfl,rfl⟩:=trodVars_none hV
 have k0:=h0
 have k1:=h1
 have lt0:∀x∈p0,x.block<W.heap.size:=by obtain⟨m,hm⟩:=k0;exact DataW.trod_lt m _ _ _ hm
 have lt1:∀x∈p1,x.block<W.heap.size:=by obtain⟨m,hm⟩:=k1;exact DataW.trod_lt m _ _ _ hm
 obtain⟨vn0,vh0,va0,pr,rfl,hp0,hsn0,hsa_pr⟩:=Open.open_prog2 (hval 0 31 v0 rfl rfl) h0
 obtain⟨rv,f_rv,hr1⟩:=Open.open_resv (hval 1 25 v1 rfl rfl) h1
 clear hA0 hval0
 refine((cH pr rv (λa ha=>(hsa_pr a ha).2) f_rv).call W #[.agg #[vn0,vh0,va0],v1] rfl (λE hw hD i hi=>?_)).mono λe W' ⟨he,bel⟩=>?_
 have hn:i<2:=hi
 match i,hn with
 |0,_=>exact Adg hp0 hw hD
 |1,_=>exact hr1 E hw hD
 subst he
 exact⟨_,rfl,_,_,_,[],_,[],hW',trodAll_mk1 (shut_bool Tryz.underlying4 _),(trodAll_cons_mk (Below.trod tG κ (of_decide_eq_true κ) k0 bel lt0) (trodAll_cons_mk (Below.trod tG κ (of_decide_eq_true κ) k1 bel lt1) trodAll_mk0)),rfl,bel.frame _,λh=>by cases h⟩
theorem row_holds:Rows.SpareParksSaid:=
 OpenClaim.holds_of_wide 7 Tryz.f7 rfl rfl rfl rfl rfl rfl rfl ⟨rfl,rfl,rfl,rfl,rfl⟩ rfl rfl rfl rfl rfl κ Tryz.func7 κ
  (of_decide_eq_true κ) (by unfold Func.isWrapper;first|(rw[if_pos (by decide+kernel)];kernel_rfl)|(rw[if_neg (by decide+kernel)];exact⟨rfl,rfl⟩))
  (λos started H enc _=>Aeh os started H enc)
end Go.Proofs.YtldnjomacnjhnaaGreat.SK