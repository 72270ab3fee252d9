/- Part 24 of the proof of SH.row_holds, joined by program: no condition beyond the row's own. -/
import Derived.Test.YtldnjomacnjhnaaGreatH23
set_option maxRecDepth 100000
set_option maxHeartbeats 40000000
namespace Go.Proofs.YtldnjomacnjhnaaGreat
open Go.Proofs.Tryz
open Go.RowKit
theorem AcA (l:List Sg) (f t:Int) (hl:Da l) (hok:Eh l) (hf:0<=f/\f<=3600000) (ht:0<=t/\t<=3600000) (hpos:0<(Jk l f t l.length).length):AF Tryz.prog 87 [Ai l,.int f,.int t] (kI (mJ l f t)):=by
 have hln:=hok.2
 refine Cr func87 rfl λB D0 hA0=>?_
 refine Ae 12 (Yx 2 func116 (λ_ hD1=>?_))
 refine Ae 15 (sS (Ae 3 (vnm [6,7,13] ?_)))
 refine vrg 5 func139 (λsp2 sp2p sp2a sp2b _ hD3=>?_)
 refine Ae 8 (dN [0,2,3,12,13,14] (λm s=>∃r n,r<=l.length/\m=l.length-r/\(n=(Jk l f t r).length/\Xy l f t r/\n<=r)/\(((n=0)/\s=⟨[(0,.yld 5),(2,.ptr 3 0),(3,.ptr 4 0),(12,Ai l),(13,.int ((l).length:Int)),(14,.int (r:Int))],[(0,.box 54 [.lit (.slice none 0 0)]),(1,.box 37 [.int 0]),(2,.box 54 [Ai l]),(3,.box 3 [.int f]),(4,.box 3 [.int t]),(5,.loop .ready none sp2 [(6,.ptr 0 0),(7,.ptr 1 0),(13,.fn 139 [.ptr 2 0,.ptr 3 0,.ptr 4 0])] 23)],6,62⟩)\/((0<n)/\s=⟨[(0,.yld 5),(2,.ptr 3 0),(3,.ptr 4 0),(12,Ai l),(13,.int ((l).length:Int)),(14,.int (r:Int))],[(0,.box 54 [.osl 50 6 n]),(1,.box 37 [.int 0]),(2,.box 54 [Ai l]),(3,.box 3 [.int f]),(4,.box 3 [.int t]),(5,.loop .ready none sp2 [(6,.ptr 0 0),(7,.ptr 1 0),(13,.fn 139 [.ptr 2 0,.ptr 3 0,.ptr 4 0])] 23),(50,.vec 81 6 n (λxi=>Cv ((Jk l f t r).getD xi Sg.none)))],51,62⟩))) l.length ⟨0,0,Nat.zero_le _,rfl,⟨rfl,λj hj=>absurd hj (Nat.not_lt_zero j),Nat.le_refl _⟩,(.inl ⟨rfl,κ⟩)⟩ ?_)
 rintro _ _ ⟨r,n,hrn,rfl,hFr,(⟨hr0,rfl⟩|⟨hr0,rfl⟩)⟩ J1 hJ1
 ·
  refine Ae 6 (Gi 15 ((r:Int)<((l).length:Int)) (λhx4 hx4d=>?_) (λhx4 hx4d=>?_))
  ·
   refine Ae 5 ?_
   have hso:=(hok.1 r ω).1
   have hs:=hl.2 r
   have hh:=hso.1
   unfold Jd at hh
   have hA:pA l f r=max f ((l).getD r Sg.none).f:=rfl
   have hB:pB l t r=min t ((l).getD r Sg.none).t:=rfl
   have hD:pD ((l).getD r Sg.none)=((l).getD r Sg.none).t-((l).getD r Sg.none).f:=rfl
   refine Ae 2 (Fl r ((l).length) (Ae 6 (Jb [(3,.int (max f (((l).getD r Sg.none).f)),.none),(7,.int (min t (((l).getD r Sg.none).t)),.none)] [0,2,3,6,7,8,12,13,14] ⟨Au (jV (.tmp 18) (.tmp 20) #[3,3] κ f (((l).getD r Sg.none).f) κ κ),Au (uX (.tmp 22) (.tmp 24) #[3,3] κ t (((l).getD r Sg.none).t) κ κ),trivial⟩ (Ae 9 (Gi 28 (min t (((l).getD r Sg.none).t)<=max f (((l).getD r Sg.none).f)) (λhx5 hx5d=>?_) (λhx5 hx5d=>?_))))))
   ·
    exact Ae 6 (Ep ((r:Int)+1) ((r+1:Nat):Int) (Ae 2 (Ha [0,2,3,12,13,14] [(0,0),(1,1),(2,2),(3,3),(4,4),(5,5)] 6 6 hD3 [] trivial (hJ1 _ _ (by omega:l.length-(r+1)<l.length-r) ⟨r+1,0,ω,rfl,⟨by rw[Ou ω];omega,aR ω hFr.2.1,ω⟩,(.inl ⟨ω,rfl⟩)⟩))))
   ·
    refine Ae 3 ?_
    have hlt:pA l f r<pB l t r:=by omega
    refine Ae 6 (Ep (((l).getD r Sg.none).t-((l).getD r Sg.none).f) (((l).getD r Sg.none).t-((l).getD r Sg.none).f) (Ae 4 ?_))
    refine Fm (Wf ((l).getD r Sg.none) (pA l f r) (pB l t r)) (λhx6=>?_) (λhx6=>?_)
    ·
     refine Jb [(6,.int (max f (((l).getD r Sg.none).f)-((l).getD r Sg.none).f),.none),(9,.int (min t (((l).getD r Sg.none).t)-max f (((l).getD r Sg.none).f)),.none),(11,_,.none),(14,_,.none),(16,_,.none),(17,_,.none),(18,_,.none)] [0,2,3,10,11,12,13,14] ⟨Au (Bx (v:= .int .i64 (IntKind.wrap .i64 (max f (((l).getD r Sg.none).f)-((l).getD r Sg.none).f))) (v':= .int .i64 (max f (((l).getD r Sg.none).f)-((l).getD r Sg.none).f)) _ κ rfl κ (λw=>by kernel_rfl) (congrArg (Value.int .i64) ((IntWalk.i64_in _ ω).trans ω))),Au (Bx (v:= .int .i64 (IntKind.wrap .i64 (min t (((l).getD r Sg.none).t)-max f (((l).getD r Sg.none).f)))) (v':= .int .i64 (min t (((l).getD r Sg.none).t)-max f (((l).getD r Sg.none).f))) _ κ rfl κ (λw=>by kernel_rfl) (congrArg (Value.int .i64) ((IntWalk.i64_in _ ω).trans ω))),El (Ma ((l).getD r Sg.none) (pA l f r-((l).getD r Sg.none).f) (pB l t r-pA l f r) (pD ((l).getD r Sg.none)) hs hso (Bv ω) (Bv ω) (Bv ω) ω),El (Gx _ hs.o.1 hs.o.2),El (Gn (pD ((l).getD r Sg.none)) 5 (Bv ω).1 (Bv ω).2 ω (λj hj=>Eo (Bv ω) ω)),El (Kk ((l).getD r Sg.none).o (pD ((l).getD r Sg.none)^5) (Ic hs.o) (Eo (Bv ω) ω) ((Uk hs (Bv ω)).fit ω)),El (Zy ((l).getD r Sg.none) (pA l f r) (pB l t r) hs hso ω ω hx6),trivial⟩ (Ae 6 (vyl 8 sp2p sp2a sp2b (λ_ _ hD7=>?_)))
     refine Ae 9 (vrb (Ae 18 (vre ?_)))
     refine Ae 9 (vrl ?_)
     exact Ae 3 (Hs (.lit (.tuple #[.slice none 0 0,.int .i64 7])) (Pa (tU (j:=r) ω hlt hx6) δ).symm)
    ·
     refine Jb [(6,.int (max f (((l).getD r Sg.none).f)-((l).getD r Sg.none).f),.none),(9,.int (min t (((l).getD r Sg.none).t)-max f (((l).getD r Sg.none).f)),.none),(11,_,.none),(14,_,.none),(16,_,.none),(17,_,.none),(18,_,.none)] [0,2,3,10,11,12,13,14] ⟨Au (Bx (v:= .int .i64 (IntKind.wrap .i64 (max f (((l).getD r Sg.none).f)-((l).getD r Sg.none).f))) (v':= .int .i64 (max f (((l).getD r Sg.none).f)-((l).getD r Sg.none).f)) _ κ rfl κ (λw=>by kernel_rfl) (congrArg (Value.int .i64) ((IntWalk.i64_in _ ω).trans ω))),Au (Bx (v:= .int .i64 (IntKind.wrap .i64 (min t (((l).getD r Sg.none).t)-max f (((l).getD r Sg.none).f)))) (v':= .int .i64 (min t (((l).getD r Sg.none).t)-max f (((l).getD r Sg.none).f))) _ κ rfl κ (λw=>by kernel_rfl) (congrArg (Value.int .i64) ((IntWalk.i64_in _ ω).trans ω))),El (Ma ((l).getD r Sg.none) (pA l f r-((l).getD r Sg.none).f) (pB l t r-pA l f r) (pD ((l).getD r Sg.none)) hs hso (Bv ω) (Bv ω) (Bv ω) ω),El (Gx _ hs.o.1 hs.o.2),El (Gn (pD ((l).getD r Sg.none)) 5 (Bv ω).1 (Bv ω).2 ω (λj hj=>Eo (Bv ω) ω)),El (Kk ((l).getD r Sg.none).o (pD ((l).getD r Sg.none)^5) (Ic hs.o) (Eo (Bv ω) ω) ((Uk hs (Bv ω)).fit ω)),El (Zz ((l).getD r Sg.none) (pA l f r) (pB l t r) hs hso ω ω hx6),trivial⟩ (Ae 6 (vyl 8 sp2p sp2a sp2b (λ_ _ hD8=>?_)))
     refine Ae 9 (vrb (Ae 14 (Bk (.osl 9 6 1) (.new 9 (.vec 81 6 1 (λ_=>Cv (Ht ((l).getD r Sg.none) (pA l f r) (pB l t r))))) (Aj 54 1 #[(0,(.tmp 19))] κ underlying54 6 sizeOf81 _ zeroValue81 κ β β β 9 [.int ((Ht ((l).getD r Sg.none) (pA l f r) (pB l t r)).f),.int ((Ht ((l).getD r Sg.none) (pA l f r) (pB l t r)).t),.int ((Ht ((l).getD r Sg.none) (pA l f r) (pB l t r)).o),Br ((Ht ((l).getD r Sg.none) (pA l f r) (pB l t r)).x),Br ((Ht ((l).getD r Sg.none) (pA l f r) (pB l t r)).y),Br ((Ht ((l).getD r Sg.none) (pA l f r) (pB l t r)).z)] κ (λ_=>Cv (Ht ((l).getD r Sg.none) (pA l f r) (pB l t r))) κ) (Bk (.osl 10 6 1) (.newr 9 10 (.vec 81 6 1 (λxi=>Cv ((Jk l f t (r+1)).getD xi Sg.none)))) (Ci (.tmp 18) (.tmp 20) 54 κ underlying54 6 96 (.agg #[.int .i64 0,.int .i64 0,.int .i64 0,.slice none 0 0,.slice none 0 0,.slice none 0 0]) κ κ δ 1 ω (λ_=>Cv (Ht ((l).getD r Sg.none) (pA l f r) (pB l t r))) (λxi=>Cv ((Jk l f t (r+1)).getD xi Sg.none)) 10 (λi hi=>by(obtain rfl:i=0:=(ω));show Cv _=Cv _;rw[Ms hlt,List.eq_nil_of_length_eq_zero (by omega:(Jk l f t r).length=0)];rfl) (λi hi j hj=>match j,hj with|0,_=>rfl|1,_=>rfl|2,_=>rfl|3,_=>rfl|4,_=>rfl|5,_=>rfl|_+6,h=>absurd h ω) (by unfold maxLen;omega) ω κ 9 81 κ κ) (Ae 3 (vre ?_))))))
     exact Ae 8 (Ep ((r:Int)+1) ((r+1:Nat):Int) (Ae 2 (Ha [0,2,3,12,13,14] [(0,0),(1,1),(2,2),(3,3),(4,4),(5,5),(10,50)] 51 6 hD3 [(81,6,1,(λ_=>Cv (Ht ((l).getD r Sg.none) (pA l f r) (pB l t r)))),(81,6,1,(λxi=>Cv ((Jk l f t (r+1)).getD xi Sg.none)))] ⟨(Gl λ_ _=>rfl),(Gl λ_ _=>rfl),trivial⟩ (hJ1 _ _ (by omega:l.length-(r+1)<l.length-r) ⟨r+1,1,ω,rfl,⟨by rw[Ms hlt,List.length_append,List.length_singleton];omega,eR hx6 hFr.2.1,ω⟩,(.inr ⟨ω,rfl⟩)⟩))))
  ·
   refine Ae 5 (vrl ?_)
   refine Ae 2 ?_
   exfalso;have hql:r=l.length:=(ω);subst hql;omega
 ·
  refine Ae 6 (Gi 15 ((r:Int)<((l).length:Int)) (λhx9 hx9d=>?_) (λhx9 hx9d=>?_))
  ·
   refine Ae 5 ?_
   have hso:=(hok.1 r ω).1
   have hs:=hl.2 r
   have hh:=hso.1
   unfold Jd at hh
   have hA:pA l f r=max f ((l).getD r Sg.none).f:=rfl
   have hB:pB l t r=min t ((l).getD r Sg.none).t:=rfl
   have hD:pD ((l).getD r Sg.none)=((l).getD r Sg.none).t-((l).getD r Sg.none).f:=rfl
   refine Ae 2 (Fl r ((l).length) (Ae 6 (Jb [(3,.int (max f (((l).getD r Sg.none).f)),.none),(7,.int (min t (((l).getD r Sg.none).t)),.none)] [0,2,3,6,7,8,12,13,14] ⟨Au (jV (.tmp 18) (.tmp 20) #[3,3] κ f (((l).getD r Sg.none).f) κ κ),Au (uX (.tmp 22) (.tmp 24) #[3,3] κ t (((l).getD r Sg.none).t) κ κ),trivial⟩ (Ae 9 (Gi 28 (min t (((l).getD r Sg.none).t)<=max f (((l).getD r Sg.none).f)) (λhx10 hx10d=>?_) (λhx10 hx10d=>?_))))))
   ·
    exact Ae 6 (Ep ((r:Int)+1) ((r+1:Nat):Int) (Ae 2 (Ww 50 81 6 n (λxi=>Cv ((Jk l f t r).getD xi Sg.none)) (λxi=>Cv ((Jk l f t (r+1)).getD xi Sg.none)) (λx9 hx9=>by rw[Ou ω]) (Ha [0,2,3,12,13,14] [(0,0),(1,1),(2,2),(3,3),(4,4),(5,5),(50,50)] 51 6 hD3 [(81,6,n,(λxi=>Cv ((Jk l f t (r+1)).getD xi Sg.none)))] ⟨(Gl λ_ _=>rfl),trivial⟩ (hJ1 _ _ (by omega:l.length-(r+1)<l.length-r) ⟨r+1,n,ω,rfl,⟨by rw[Ou ω];omega,aR ω hFr.2.1,ω⟩,(.inr ⟨ω,rfl⟩)⟩)))))
   ·
    refine Ae 3 ?_
    have hlt:pA l f r<pB l t r:=by omega
    refine Ae 6 (Ep (((l).getD r Sg.none).t-((l).getD r Sg.none).f) (((l).getD r Sg.none).t-((l).getD r Sg.none).f) (Ae 4 ?_))
    refine Fm (Wf ((l).getD r Sg.none) (pA l f r) (pB l t r)) (λhx11=>?_) (λhx11=>?_)
    ·
     refine Jb [(6,.int (max f (((l).getD r Sg.none).f)-((l).getD r Sg.none).f),.none),(9,.int (min t (((l).getD r Sg.none).t)-max f (((l).getD r Sg.none).f)),.none),(11,_,.none),(14,_,.none),(16,_,.none),(17,_,.none),(18,_,.none)] [0,2,3,10,11,12,13,14] ⟨Au (Bx (v:= .int .i64 (IntKind.wrap .i64 (max f (((l).getD r Sg.none).f)-((l).getD r Sg.none).f))) (v':= .int .i64 (max f (((l).getD r Sg.none).f)-((l).getD r Sg.none).f)) _ κ rfl κ (λw=>by kernel_rfl) (congrArg (Value.int .i64) ((IntWalk.i64_in _ ω).trans ω))),Au (Bx (v:= .int .i64 (IntKind.wrap .i64 (min t (((l).getD r Sg.none).t)-max f (((l).getD r Sg.none).f)))) (v':= .int .i64 (min t (((l).getD r Sg.none).t)-max f (((l).getD r Sg.none).f))) _ κ rfl κ (λw=>by kernel_rfl) (congrArg (Value.int .i64) ((IntWalk.i64_in _ ω).trans ω))),El (Ma ((l).getD r Sg.none) (pA l f r-((l).getD r Sg.none).f) (pB l t r-pA l f r) (pD ((l).getD r Sg.none)) hs hso (Bv ω) (Bv ω) (Bv ω) ω),El (Gx _ hs.o.1 hs.o.2),El (Gn (pD ((l).getD r Sg.none)) 5 (Bv ω).1 (Bv ω).2 ω (λj hj=>Eo (Bv ω) ω)),El (Kk ((l).getD r Sg.none).o (pD ((l).getD r Sg.none)^5) (Ic hs.o) (Eo (Bv ω) ω) ((Uk hs (Bv ω)).fit ω)),El (Zy ((l).getD r Sg.none) (pA l f r) (pB l t r) hs hso ω ω hx11),trivial⟩ (Ae 6 (vyl 53 sp2p sp2a sp2b (λ_ _ hD12=>?_)))
     refine Ae 9 (vrb (Ae 18 (vre ?_)))
     refine Ae 9 (vrl ?_)
     exact Ae 3 (Hs (.lit (.tuple #[.slice none 0 0,.int .i64 7])) (Pa (tU (j:=r) ω hlt hx11) δ).symm)
    ·
     refine Jb [(6,.int (max f (((l).getD r Sg.none).f)-((l).getD r Sg.none).f),.none),(9,.int (min t (((l).getD r Sg.none).t)-max f (((l).getD r Sg.none).f)),.none),(11,_,.none),(14,_,.none),(16,_,.none),(17,_,.none),(18,_,.none)] [0,2,3,10,11,12,13,14] ⟨Au (Bx (v:= .int .i64 (IntKind.wrap .i64 (max f (((l).getD r Sg.none).f)-((l).getD r Sg.none).f))) (v':= .int .i64 (max f (((l).getD r Sg.none).f)-((l).getD r Sg.none).f)) _ κ rfl κ (λw=>by kernel_rfl) (congrArg (Value.int .i64) ((IntWalk.i64_in _ ω).trans ω))),Au (Bx (v:= .int .i64 (IntKind.wrap .i64 (min t (((l).getD r Sg.none).t)-max f (((l).getD r Sg.none).f)))) (v':= .int .i64 (min t (((l).getD r Sg.none).t)-max f (((l).getD r Sg.none).f))) _ κ rfl κ (λw=>by kernel_rfl) (congrArg (Value.int .i64) ((IntWalk.i64_in _ ω).trans ω))),El (Ma ((l).getD r Sg.none) (pA l f r-((l).getD r Sg.none).f) (pB l t r-pA l f r) (pD ((l).getD r Sg.none)) hs hso (Bv ω) (Bv ω) (Bv ω) ω),El (Gx _ hs.o.1 hs.o.2),El (Gn (pD ((l).getD r Sg.none)) 5 (Bv ω).1 (Bv ω).2 ω (λj hj=>Eo (Bv ω) ω)),El (Kk ((l).getD r Sg.none).o (pD ((l).getD r Sg.none)^5) (Ic hs.o) (Eo (Bv ω) ω) ((Uk hs (Bv ω)).fit ω)),El (Zz ((l).getD r Sg.none) (pA l f r) (pB l t r) hs hso ω ω hx11),trivial⟩ (Ae 6 (vyl 53 sp2p sp2a sp2b (λ_ _ hD13=>?_)))
     refine Ae 9 (vrb (Ae 14 (Bk (.osl 54 6 1) (.new 54 (.vec 81 6 1 (λ_=>Cv (Ht ((l).getD r Sg.none) (pA l f r) (pB l t r))))) (Aj 54 1 #[(0,(.tmp 19))] κ underlying54 6 sizeOf81 _ zeroValue81 κ β β β 54 [.int ((Ht ((l).getD r Sg.none) (pA l f r) (pB l t r)).f),.int ((Ht ((l).getD r Sg.none) (pA l f r) (pB l t r)).t),.int ((Ht ((l).getD r Sg.none) (pA l f r) (pB l t r)).o),Br ((Ht ((l).getD r Sg.none) (pA l f r) (pB l t r)).x),Br ((Ht ((l).getD r Sg.none) (pA l f r) (pB l t r)).y),Br ((Ht ((l).getD r Sg.none) (pA l f r) (pB l t r)).z)] κ (λ_=>Cv (Ht ((l).getD r Sg.none) (pA l f r) (pB l t r))) κ) (Bk (.osl 55 6 (n+1)) (.grow2 50 54 55 (.vec 81 6 (n+1) (λxi=>Cv ((Jk l f t (r+1)).getD xi Sg.none)))) (Ce (.tmp 18) (.tmp 20) 54 κ underlying54 6 96 (.agg #[.int .i64 0,.int .i64 0,.int .i64 0,.slice none 0 0,.slice none 0 0,.slice none 0 0]) κ κ δ n 1 ω (λxi=>Cv ((Jk l f t r).getD xi Sg.none)) (λ_=>Cv (Ht ((l).getD r Sg.none) (pA l f r) (pB l t r))) (λxi=>Cv ((Jk l f t (r+1)).getD xi Sg.none)) 55 ω (by unfold maxLen;omega) (λi hi=>by show Cv _=Cv _;rw[Ms hlt,Lh,if_pos ω]) (λi hi=>by(obtain rfl:i=0:=(ω));show Cv _=Cv _;rw[Ms hlt,Lh,if_neg ω,show n+0-(Jk l f t r).length=0 by omega];rfl) (λi hi j hj=>match j,hj with|0,_=>rfl|1,_=>rfl|2,_=>rfl|3,_=>rfl|4,_=>rfl|5,_=>rfl|_+6,h=>absurd h ω) 50 κ κ 54 81 κ κ) (Ae 3 (vre ?_))))))
     exact Ae 8 (Ep ((r:Int)+1) ((r+1:Nat):Int) (Ae 2 (Ha [0,2,3,12,13,14] [(0,0),(1,1),(2,2),(3,3),(4,4),(5,5),(55,50)] 51 6 hD3 [(81,6,1,(λ_=>Cv (Ht ((l).getD r Sg.none) (pA l f r) (pB l t r)))),(81,6,n+1,(λxi=>Cv ((Jk l f t (r+1)).getD xi Sg.none)))] ⟨(Gl λ_ _=>rfl),(Gl λ_ _=>rfl),trivial⟩ (hJ1 _ _ (by omega:l.length-(r+1)<l.length-r) ⟨r+1,n+1,ω,rfl,⟨by rw[Ms hlt,List.length_append,List.length_singleton];omega,eR hx11 hFr.2.1,ω⟩,(.inr ⟨ω,rfl⟩)⟩))))
  ·
   refine Ae 5 (vrl ?_)
   exact Ae 9 (sQ 50 0 0 81 6 n (λxi=>Cv ((Jk l f t r).getD xi Sg.none)) (Gl λ_ _=>rfl) (Ae 1 (Hs (.tup [.sl 6 n (λxi=>Cv ((Jk l f t r).getD xi Sg.none)),.int 0]) (by have hql:r=l.length:=(ω);subst hql;rw[vE (tV hFr.2.1),hFr.1]))))
theorem Aet (l:List Sg) (f t:Int) (hl:Da l) (hok:Eh l) (hf:(l.getD 0 Sg.none).f<=f) (hft:f<t) (ht:t<=(l.getD (l.length-1) Sg.none).t):AF Tryz.prog 87 [Ai l,.int f,.int t] (kI (mJ l f t)):=by
 have h0:=(hok.1 0 (by have:=hok.2;omega)).1.1
 have h1:=(hok.1 (l.length-1) (by have:=hok.2;omega)).1.1
 unfold Jd at h0 h1
 exact AcA l f t hl hok ω ω (AcX hok hf hft ht)
theorem vY (l:List Sg) (f t:Int) (hl:Da l) (hok:Eh l) (hf:(l.getD 0 Sg.none).f<=f) (hft:f<t) (ht:t<=(l.getD (l.length-1) Sg.none).t) (h:(mJ l f t).2=0):AF Tryz.prog 52 [Ai l,.int f,.int t] (.tup [Ai (mJ l f t).1,.int 0]):=by
 refine Cr func52 rfl λB D0 hA0=>?_
 exact Ae 9 (Cf (Zb l hl hok) (Ae 24 (Gv 24 (decide (f<(l.getD 0 Sg.none).f)) false (decide_eq_false ω) (Ae 4 (Gv 28 (decide (t<=f)) false (decide_eq_false ω) (Ae 5 (Gv 33 (decide ((l.getD (l.length-1) Sg.none).t<t)) false (decide_eq_false ω) (Ae 13 (Cf (by have:=Aet l f t hl hok hf hft ht;unfold kI at this;rwa [if_pos h] at this) (Ae 7 (Gd)))))))))))
theorem Ac8 (a b:V3) (r f t:Int) (hv:Lo a b f t=true) (hq:(t-f)%4=0) (hr: -2097152<=r/\r<=2097152) (h1:(a.up r).pt=true) (h2:(b.up r).pt=true):AF Tryz.prog 50 [Eg a,Eg b,.int r,.int f,.int t] (.tup [Ai (aN a b r f t),.int 0]):=
 gZ (vs:=[_,_,_,_,_]) λw=>(tN a.x a.y a.z b.x b.y b.z r f t w hv hq hr h1 h2).mono λ_ _ ⟨_,_,he,hp,hb⟩=>⟨_,he,hb,λ_ g1 g2=>Aff (jY hp g1 λb hb=>g2 b hb.1 hb.2) (.lit _ _)⟩
theorem uA (a b:V3) (f t k:Int):(aV a b f t k).1=Fr a b f t k:=by unfold aV Fr;split<;>rfl
theorem Ly {a b:V3} {f t:Int} (pa:a.pt=true) (pb:b.pt=true) (h0:0<=f) (h1:f<t) (h2:t<=3600000):Lo a b f t=true:=by
 unfold Lo Hh
 simp only[Bool.and_eq_true,decide_eq_true_eq]
 exact⟨⟨⟨⟨pa,pb⟩,h0⟩,h1⟩,h2⟩
theorem Abi {a b:V3} {f t:Int} (k:Int) (h:Lo a b f t=true):(aV a b f t k).2=0:=by unfold aV;rw[if_pos h]
theorem wE {a:V3} {f t:Int} (h:Lo a a f t=true):AF Tryz.prog 62 [Eg a,.int f,.int t] (.tup [Ai (Fr a a f t 0),.int 0]):=by
 have:=wG a f t
 rwa [uA,Abi 0 h] at this
theorem eI {a b:V3} {f t:Int} (h:Lo a b f t=true):AF Tryz.prog 49 [Eg a,Eg b,.int f,.int t] (.tup [Ai (Fr a b f t 2),.int 0]):=by
 have:=wD a b f t
 rwa [uA,Abi 2 h] at this
theorem Nk {a b:List Sg} (ha:Da a) (hb:Da b) (h:Oh a b=(a++b,0)):AF Tryz.prog 88 [Ai a,Ai b] (.tup [Ai (a++b),.int 0]):=by
 have h2:=gV a b ha hb (by rw[h])
 rwa [h] at h2
theorem mN (x y z x' y' z':Int) (w:World):(Op.equal 52 (.agg #[.int .i64 x,.int .i64 y,.int .i64 z]) (.agg #[.int .i64 x',.int .i64 y',.int .i64 z'])).run Tryz.prog w= .ok (decide (x=x'/\y=y'/\z=z')) w:=by
 have h55:=Tryz.runUnderlying52
 have h3:=Tryz.runUnderlying3
 have ha:=isAgg3
 have hin:Tryz.prog.stoodInHeld 52=false:=by kernel_rfl
 unfold Op.equal
 rw[show Op.maxDepth=9998+1+1 from rfl]
 unfold Op.equalIn
 simp[h55,part,ha,hin]
 unfold Op.equalIn
 simp[h3]
 by_cases h1:x=x'<;>by_cases h2:y=y'<;>by_cases h3:z=z'<;>simp[h1,h2,h3]
def bA (l:List Rl) (x:Rl) (n:Nat):Prop:=∃q,q<n/\(l.getD q Rl.none).spare=x.spare/\(l.getD q Rl.none).wait=x.wait/\(l.getD q Rl.none).rise=x.rise
theorem nE {l:List Rl} {x:Rl}:bA l x l.length↔x∈l:=by
 constructor
 rintro⟨q,hq,h1,h2,h3⟩
 have e:l.getD q Rl.none=x:=by
  cases hx:l.getD q Rl.none;cases x;rw[hx] at h1 h2 h3;simp_all
 rw[<-e,List.getD_eq_getElem?_getD,List.getElem?_eq_getElem hq]
 exact List.getElem_mem hq
 intro h
 obtain⟨q,hq,rfl⟩:=List.getElem_of_mem h
 refine⟨q,hq,?_⟩
 simp[List.getD_eq_getElem?_getD,hq]
theorem lM (a:V3) (t:Int):AF Tryz.prog 54 [Eg a,.int t,.int t] (.lit (.slice none 0 0)):=by
 refine Cr func54 rfl λB D0 hA0=>?_
 exact Ae 12 (Gv 11 (decide (t=t)) true (decide_eq_true rfl) (Ae 10 (Gd)))
theorem Dw (a:V3) (f t:Int) (h:¬f=t) (hb:Lo a a f t=true):AF Tryz.prog 54 [Eg a,.int f,.int t] (Ai (Fr a a f t 0)):=by
 refine Cr func54 rfl λB D0 hA0=>?_
 exact Ae 12 (Gv 11 (decide (f=t)) false (decide_eq_false h) (Ae 10 (Cf (wE hb) (Ae 14 (Gd)))))
theorem kW (a b:List Sg) (pa:Da a) (pb:Da b) (na:0<a.length) (nb:0<b.length) (e1:Oh a b=(a++b,0)):AF Tryz.prog 53 [.sl 1 4 λxi=>[Ai a,Ai b,.lit (.slice none 0 0),.lit (.slice none 0 0)].getD xi .top] (.tup [Ai (a++b),.int 0]):=by
 have ln0:0<(a++b).length:=by simp only[List.length_append];omega
 refine Cr func53 rfl λB D0 hA0=>?_
 exact Ae 20 (pO 4 (Ae 13 (Fl 0 4 (Ae 8 (gP ((a).length) (Ae 9 (pM (Ae 14 (Ip (.int .i64 1) (.int .i64 1) (Ae 16 (Fl 1 4 (Ae 8 (gP ((b).length) (Ae 9 (gP ((a).length) (Ae 9 (Cf (Nk pa pb e1) (Ae 24 (Ip (.int .i64 2) (.int .i64 2) (Ae 16 (Fl 2 4 (Ae 8 (pM (Ae 8 (Ip (.int .i64 3) (.int .i64 3) (Ae 16 (Fl 3 4 (Ae 8 (pM (Ae 8 (Ip (.int .i64 4) (.int .i64 4) (Ae 23 (Gd)))))))))))))))))))))))))))))))))
theorem kX (a b d:List Sg) (pa:Da a) (pb:Da b) (na:0<a.length) (nb:0<b.length) (e1:Oh a b=(a++b,0)) (pd:Da d) (nd:0<d.length) (qd:Da (a++b)) (e3:Oh (a++b) d=(a++b++d,0)):AF Tryz.prog 53 [.sl 1 4 λxi=>[Ai a,Ai b,.lit (.slice none 0 0),Ai d].getD xi .top] (.tup [Ai (a++b++d),.int 0]):=by
 have ln0:0<(a++b).length:=by simp only[List.length_append];omega
 have ln1:0<(a++b++d).length:=by simp only[List.length_append];omega
 refine Cr func53 rfl λB D0 hA0=>?_
 exact Ae 20 (pO 4 (Ae 13 (Fl 0 4 (Ae 8 (gP ((a).length) (Ae 9 (pM (Ae 14 (Ip (.int .i64 1) (.int .i64 1) (Ae 16 (Fl 1 4 (Ae 8 (gP ((b).length) (Ae 9 (gP ((a).length) (Ae 9 (Cf (Nk pa pb e1) (Ae 24 (Ip (.int .i64 2) (.int .i64 2) (Ae 16 (Fl 2 4 (Ae 8 (pM (Ae 8 (Ip (.int .i64 3) (.int .i64 3) (Ae 16 (Fl 3 4 (Ae 8 (gP ((d).length) (Ae 9 (gP ((a++b).length) (Ae 9 (Cf (Nk qd pd e3) (Ae 24 (Ip (.int .i64 4) (.int .i64 4) (Ae 23 (Gd)))))))))))))))))))))))))))))))))))))
theorem kZ (a b c:List Sg) (pa:Da a) (pb:Da b) (na:0<a.length) (nb:0<b.length) (e1:Oh a b=(a++b,0)) (pc:Da c) (nc:0<c.length) (qc:Da (a++b)) (e2:Oh (a++b) c=(a++b++c,0)):AF Tryz.prog 53 [.sl 1 4 λxi=>[Ai a,Ai b,Ai c,.lit (.slice none 0 0)].getD xi .top] (.tup [Ai (a++b++c),.int 0]):=by
 have ln0:0<(a++b).length:=by simp only[List.length_append];omega
 have ln1:0<(a++b++c).length:=by simp only[List.length_append];omega
 refine Cr func53 rfl λB D0 hA0=>?_
 exact Ae 20 (pO 4 (Ae 13 (Fl 0 4 (Ae 8 (gP ((a).length) (Ae 9 (pM (Ae 14 (Ip (.int .i64 1) (.int .i64 1) (Ae 16 (Fl 1 4 (Ae 8 (gP ((b).length) (Ae 9 (gP ((a).length) (Ae 9 (Cf (Nk pa pb e1) (Ae 24 (Ip (.int .i64 2) (.int .i64 2) (Ae 16 (Fl 2 4 (Ae 8 (gP ((c).length) (Ae 9 (gP ((a++b).length) (Ae 9 (Cf (Nk qc pc e2) (Ae 24 (Ip (.int .i64 3) (.int .i64 3) (Ae 16 (Fl 3 4 (Ae 8 (pM (Ae 8 (Ip (.int .i64 4) (.int .i64 4) (Ae 23 (Gd)))))))))))))))))))))))))))))))))))))
theorem lA (a b c d:List Sg) (pa:Da a) (pb:Da b) (na:0<a.length) (nb:0<b.length) (e1:Oh a b=(a++b,0)) (pc:Da c) (nc:0<c.length) (qc:Da (a++b)) (e2:Oh (a++b) c=(a++b++c,0)) (pd:Da d) (nd:0<d.length) (qd:Da (a++b++c)) (e3:Oh (a++b++c) d=(a++b++c++d,0)):AF Tryz.prog 53 [.sl 1 4 λxi=>[Ai a,Ai b,Ai c,Ai d].getD xi .top] (.tup [Ai (a++b++c++d),.int 0]):=by
 have ln0:0<(a++b).length:=by simp only[List.length_append];omega
 have ln1:0<(a++b++c).length:=by simp only[List.length_append];omega
 have ln2:0<(a++b++c++d).length:=by simp only[List.length_append];omega
 refine Cr func53 rfl λB D0 hA0=>?_
 exact Ae 20 (pO 4 (Ae 13 (Fl 0 4 (Ae 8 (gP ((a).length) (Ae 9 (pM (Ae 14 (Ip (.int .i64 1) (.int .i64 1) (Ae 16 (Fl 1 4 (Ae 8 (gP ((b).length) (Ae 9 (gP ((a).length) (Ae 9 (Cf (Nk pa pb e1) (Ae 24 (Ip (.int .i64 2) (.int .i64 2) (Ae 16 (Fl 2 4 (Ae 8 (gP ((c).length) (Ae 9 (gP ((a++b).length) (Ae 9 (Cf (Nk qc pc e2) (Ae 24 (Ip (.int .i64 3) (.int .i64 3) (Ae 16 (Fl 3 4 (Ae 8 (gP ((d).length) (Ae 9 (gP ((a++b++c).length) (Ae 9 (Cf (Nk qd pd e3) (Ae 24 (Ip (.int .i64 4) (.int .i64 4) (Ae 23 (Gd)))))))))))))))))))))))))))))))))))))))))
theorem gX (l:List Rl) (x:Rl) (n:Nat) (hn:n<=1000000):AF Tryz.prog 48 [.sl 3 n λi=>Cx (l.getD i Rl.none),Cx x] (.bool (bP (bA l x n))):=by
 refine Cr func48 rfl λB D0 hA0=>?_
 refine Ae 10 (Yx 1 func83 (λ_ hD1=>?_))
 refine Ae 15 (Pe [0,3,7,8] n (λi=>∀q,q<i->¬((l.getD q Rl.none).spare=x.spare/\(l.getD q Rl.none).wait=x.wait/\(l.getD q Rl.none).rise=x.rise)) (λi=>⟨[(0,.sl 3 n (λxi=>Cx ((l).getD xi Rl.none))),(3,.ptr 1 0),(7,.int (n:Int)),(8,.int (i:Int))],[(0,.box 52 [.int x.spare,.int x.wait,.int x.rise]),(1,.box 52 [.int x.spare,.int x.wait,.int x.rise])],2,19⟩) (λq hq=>absurd hq (Nat.not_lt_zero q)) (λi hin hFi J1 hJ1=>?_))
 refine Ae 6 (Gi 9 ((i:Int)<(n:Int)) (λhx2 hx2d=>?_) (λhx2 hx2d=>?_))
 ·
  refine Ae 12 (Jb [(3,Hr (.sl 3 n (λxi=>Cx ((l).getD xi Rl.none))) i,.none),(5,.bool (decide (x.spare=((l).getD i Rl.none).spare/\x.wait=((l).getD i Rl.none).wait/\x.rise=((l).getD i Rl.none).rise)),.none)] [0,3,5,7,8,16] ⟨Tg i n,Au (Sv 52 52 (.tmp 11) (.tmp 15) κ _ _ κ κ κ (decide (x.spare=((l).getD i Rl.none).spare/\x.wait=((l).getD i Rl.none).wait/\x.rise=((l).getD i Rl.none).rise)) (mN _ _ _ _ _ _)),trivial⟩ (Ae 1 (Gi 16 (x.spare=((l).getD i Rl.none).spare/\x.wait=((l).getD i Rl.none).wait/\x.rise=((l).getD i Rl.none).rise) (λhx3 hx3d=>?_) (λhx3 hx3d=>?_))))
  ·
   exact Ae 13 (sS (Ae 1 (Gv 8 (decide ((0:Int)<=(i:Int))) true (decide_eq_true ω) (Ae 4 (Hs (.bool true) (congrArg AV.bool (Dz ⟨i,ω,ω⟩).symm))))))
  ·
   exact Ae 5 (Ep ((i:Int)+1) ((i+1:Nat):Int) (Ae 2 (Om [0,3,7,8] (hJ1 ω (λq hq=>(Nat.lt_or_ge q i).elim (λg=>hFi q g) λg=>by have e:q=i:=(ω);subst e;omega)))))
 ·
  exact Ae 12 (sS (Ae 5 (Hs (.bool false) (congrArg AV.bool (Bq λ⟨q,hq,h9⟩=>hFi q ω h9).symm))))
theorem Ia.stay0 {p:Pr} {r:Rv} {c:Cs} {x:Rl} (h:Ia p r c x) (e:Jj p r c x=De p r c x):Gj p r c x=[]:=by
 have:=h.stay.1
 rw[<-e] at this
 exact this.nil_of
theorem Ia.tail0 {p:Pr} {r:Rv} {c:Cs} {x:Rl} (h:Ia p r c x) (e:¬De p r c x<Av p.acts p.acts.length):Gh p r c x=[]:=by
 have h1:=h.tail.1
 have h2:=h.s0
 rw[show Av p.acts p.acts.length=De p r c x by omega] at h1
 exact h1.nil_of
theorem Fq {l:List Sg} {a b:V3} {f t:Int} (h:Be l a b f t) (hn:l.length<=256):Da l:=by
 by_cases h0:0<l.length
 exact(h.okP h0 hn).2
 rw[show l=[] from List.eq_nil_of_length_eq_zero ω];exact Da.nil
theorem eH (p:Pr) (r:Rv) (c:Cs) (x:Rl) (h:Ia p r c x) (hn:p.acts.length<=5) (hs:¬Jj p r c x=De p r c x) (ht:De p r c x<Av p.acts p.acts.length):AF Tryz.prog 53 [.sl 1 4 λxi=>[Ai (Ef r p c x),Ai (Je p r c x),Ai (Gj p r c x),Ai (Gh p r c x)].getD xi .top] (.tup [Ai (relP p r c x),.int 0]):=by
 have h0:=h.s0
 have l1:=h.hov.2
 have l2:=h.go.2
 have l3:=h.stay.2
 have l4:=h.tail.2
 have n3:=h.stay.1.pos ω
 have n4:=h.tail.1.pos ht
 have g1:=h.hov.1.app h.go.1
 have g2:=g1.app h.stay.1
 have m1:(Ef r p c x++Je p r c x).length<=4:=by rw[List.length_append];omega
 have m2:(Ef r p c x++Je p r c x++Gj p r c x).length<=5:=by rw[List.length_append];omega
 have m3:0<(Ef r p c x++Je p r c x).length:=by rw[List.length_append];omega
 have m4:0<(Ef r p c x++Je p r c x++Gj p r c x).length:=by rw[List.length_append];omega
 exact lA _ _ _ _ (Fq h.hov.1 ω) (Fq h.go.1 ω) ω ω (Jz h.hov.1 h.go.1 ω ω ω) (Fq h.stay.1 ω) n3 (Fq g1 ω) (Jz g1 h.stay.1 m3 n3 ω) (Fq h.tail.1 ω) n4 (Fq g2 ω) (Jz g2 h.tail.1 m4 n4 ω)
theorem eF (p:Pr) (r:Rv) (c:Cs) (x:Rl) (h:Ia p r c x) (hn:p.acts.length<=5) (hs:Jj p r c x=De p r c x) (ht:De p r c x<Av p.acts p.acts.length):AF Tryz.prog 53 [.sl 1 4 λxi=>[Ai (Ef r p c x),Ai (Je p r c x),.lit (.slice none 0 0),Ai (Gh p r c x)].getD xi .top] (.tup [Ai (relP p r c x),.int 0]):=by
 have h0:=h.s0
 have l1:=h.hov.2
 have l2:=h.go.2
 have l4:=h.tail.2
 have n4:=h.tail.1.pos ht
 have g1:=h.hov.1.app h.go.1
 have m1:(Ef r p c x++Je p r c x).length<=4:=by rw[List.length_append];omega
 have m3:0<(Ef r p c x++Je p r c x).length:=by rw[List.length_append];omega
 have e:relP p r c x=Ef r p c x++Je p r c x++Gh p r c x:=by rw[relP,h.stay0 hs,List.append_nil]
 have g4:=h.tail.1
 rw[<-hs] at g4
 rw[e]
 exact kX _ _ _ (Fq h.hov.1 ω) (Fq h.go.1 ω) ω ω (Jz h.hov.1 h.go.1 ω ω ω) (Fq h.tail.1 ω) n4 (Fq g1 ω) (Jz g1 g4 m3 n4 ω)
theorem eG (p:Pr) (r:Rv) (c:Cs) (x:Rl) (h:Ia p r c x) (hs:¬Jj p r c x=De p r c x) (ht:¬De p r c x<Av p.acts p.acts.length):AF Tryz.prog 53 [.sl 1 4 λxi=>[Ai (Ef r p c x),Ai (Je p r c x),Ai (Gj p r c x),.lit (.slice none 0 0)].getD xi .top] (.tup [Ai (relP p r c x),.int 0]):=by
 have h0:=h.s0
 have l1:=h.hov.2
 have l2:=h.go.2
 have l3:=h.stay.2
 have n3:=h.stay.1.pos ω
 have g1:=h.hov.1.app h.go.1
 have m1:(Ef r p c x++Je p r c x).length<=4:=by rw[List.length_append];omega
 have m3:0<(Ef r p c x++Je p r c x).length:=by rw[List.length_append];omega
 have e:relP p r c x=Ef r p c x++Je p r c x++Gj p r c x:=by rw[relP,h.tail0 ht,List.append_nil]
 rw[e]
 exact kZ _ _ _ (Fq h.hov.1 ω) (Fq h.go.1 ω) ω ω (Jz h.hov.1 h.go.1 ω ω ω) (Fq h.stay.1 ω) n3 (Fq g1 ω) (Jz g1 h.stay.1 m3 n3 ω)
theorem eE (p:Pr) (r:Rv) (c:Cs) (x:Rl) (h:Ia p r c x) (hs:Jj p r c x=De p r c x) (ht:¬De p r c x<Av p.acts p.acts.length):AF Tryz.prog 53 [.sl 1 4 λxi=>[Ai (Ef r p c x),Ai (Je p r c x),.lit (.slice none 0 0),.lit (.slice none 0 0)].getD xi .top] (.tup [Ai (relP p r c x),.int 0]):=by
 have l1:=h.hov.2
 have l2:=h.go.2
 have e:relP p r c x=Ef r p c x++Je p r c x:=by rw[relP,h.tail0 ht,h.stay0 hs,List.append_nil,List.append_nil]
 rw[e]
 exact kW _ _ (Fq h.hov.1 ω) (Fq h.go.1 ω) ω ω (Jz h.hov.1 h.go.1 ω ω ω)
theorem Aaq (p:Pr) (r:Rv) (c:Cs) (x:Rl) (h:Ia p r c x) (h0:0<x.rise):AF Tryz.prog 50 [Eg (Bs r x),Eg (atR p r c x),.int x.rise,.int (Eb p c x),.int (Jj p r c x)] (.tup [Ai (Je p r c x),.int 0]):=by
 have h1:=h.s0
 have h2:=h.rise
 rw[Je,if_pos h0]
 exact Ac8 _ _ _ _ _ (Ly h.hp h.ap ω ω ω) h.q4 ω h.hu h.au
theorem qC (p:Pr) (r:Rv) (c:Cs) (x:Rl) (h:Ia p r c x) (h0:¬0<x.rise):AF Tryz.prog 49 [Eg (Bs r x),Eg (atR p r c x),.int (Eb p c x),.int (Jj p r c x)] (.tup [Ai (Je p r c x),.int 0]):=by
 have h1:=h.s0
 rw[Je,if_neg h0]
 exact eI (Ly h.hp h.ap ω ω ω)
theorem lG (p:Pr) (r:Rv) (c:Cs) (x:Rl) (h:Ia p r c x):AF Tryz.prog 49 [Eg (Bs r x),Eg (atR p r c x),.int (Eb p c x),.int (Jj p r c x)] (.tup [Ai (Fr (Bs r x) (atR p r c x) (Eb p c x) (Jj p r c x) 2),.int 0]):=by
 have h1:=h.s0
 exact eI (Ly h.hp h.ap ω ω ω)
theorem Zx (p:Pr) (r:Rv) (c:Cs) (x:Rl) (hc:Hy p c) (h:Ia p r c x) (ht:De p r c x<Av p.acts p.acts.length):AF Tryz.prog 52 [Ai (Iw p p.acts.length c.craft.toNat),.int (De p r c x),.int (Av p.acts p.acts.length)] (.tup [Ai (Gh p r c x),.int 0]):=by
 have h0:=h.s0
 have h1:=hc.2
 have ho:=rS hc.1 ω (i:=c.craft.toNat) ω
 have hcut:mJ (Iw p p.acts.length c.craft.toNat) (De p r c x) (Av p.acts p.acts.length)=(Gh p r c x,0):=by
  rw[h.app];exact AaT h.own h.tail.1
 have:=vY (Iw p p.acts.length c.craft.toNat) (De p r c x) (Av p.acts p.acts.length) ho.pin ho.ok (by rw[ho.first];omega) ht (by rw[ho.last];exact Int.le_refl _) (by rw[hcut])
 rwa [hcut] at this
theorem Mb (p:Pr) (c:Cs) (hp:Kp p) (hc:Hy p c):AF Tryz.prog 28 [Ff p,.int c.craft] (.tup [Ai (Iw p p.acts.length c.craft.toNat),.int 0]):=by
 have h1:=hc.2
 have:=lJ p c.craft.toNat hp hc.1 ω ω
 rwa [show (c.craft.toNat:Int)=c.craft by omega] at this
theorem Nn (a:V3) (f t:Int) (h:f=t):AF Tryz.prog 54 [Eg a,.int f,.int t] (.lit (.slice none 0 0)):=by
 subst h;exact lM a f
theorem dP (p:Pr) (r:Rv) (c:Cs) (x:Rl) (hp:Kp p) (hc:Hy p c) (hcs:Oo c) (hr:Ng r) (h:Ia p r c x):AF Tryz.prog 39 [Ff p,Ie r,Ja c,.int x.wait] (.lit (.tuple #[.int .i64 (Eb p c x),.int .i64 (Jj p r c x),.int .i64 (Ll p r c x:Int),.int .i64 (De p r c x),pH (atR p r c x)])):=by
 have:=On p r c x.wait hp hc hcs hr h.wait
 unfold dZ at this
 rwa [if_pos h.act.2] at this
theorem VR.relP {E:Bu} {v:Value} {l:List Rl} (h:VR E (vF l) v):VR E (.tup [Ts l,.int 0]) v:=by
 unfold vF at h
 split at h
 rename_i h0
 have:=h.lit_inv
 subst this
 rw[List.eq_nil_of_length_eq_zero h0]
 exact .tup _ _ _ rfl λi hi=>by
  match i,hi with
  |0,_=>exact .sl0 _ _ _ _ _
  |1,_=>exact .lit _ _
 exact h
theorem Nl (p:Pr) (r:Rv) (c:Cs) (hp:Kp p) (hr:Tz r) (hcs:Oo c) (hg:Lz p r c):AF Tryz.prog 18 [Ff p,Ie r,Ja c] (.tup [Ts (Cj p r c),.int 0]):=
 Aav (lK p r c hp hr hcs hg) rfl (λ_ _ _ _ h=>h) λ_ _ h=>h.relP
theorem oL (r:Rv) (w:Int) (v:V3) (i:Nat):∀q,(dY r w v i q).length<=q
 |0=>Nat.zero_le _
 |q+1=>by
  have:=oL r w v i q
  rw[dY,List.length_append]
  split<;>simp<;>omega
theorem oK (r:Rv) (w:Int) (v:V3) (o:List Nat):∀m,(kF r w v o m).length<=m*r.rises.length
 |0=>Nat.zero_le _
 |m+1=>by
  have h1:=oK r w v o m
  have h2:=oL r w v (o.getD m 0) r.rises.length
  rw[kF,List.length_append,Nat.succ_mul];omega
theorem oM {p:Pr} {r:Rv} (hr:Ng r) (c:Cs):∀k,(Jr p r c k).length<=k*128
 |0=>Nat.zero_le _
 |k+1=>by
  have h1:=oM (p:=p) hr c k
  rw[Jr,List.length_append,Nat.succ_mul]
  split
  have h2:=oK r (r.waits.getD k 0) (Bn p r c k) (Ec r (Bn p r c k)) r.homes.length
  have h3:=Nat.mul_le_mul hr.1.2.1 hr.2.2.2.2.1
  omega
  simp;omega
theorem cM {p:Pr} {r:Rv} (hr:Ng r) (c:Cs):(Cj p r c).length<=2048:=by
 have h1:=oM (p:=p) hr c r.waits.length
 have h2:=hr.2.2.1.2.1
 have:(Cj p r c).length<=r.waits.length*128:=h1
 omega
theorem Tw (p:Pr) (r:Rv) (c:Cs) (x:Rl) (hp:Kp p) (hr:Tz r) (hcs:Oo c) (hg:Lz p r c) (hn:p.acts.length<=5) (hx:x∈Cj p r c):AF Tryz.prog 21 [Ff p,Ie r,Ja c,Cx x] (.tup [Ai (relP p r c x),.int 0]):=by
 have h:=kH hg.1 hg.2 (Wk hx)
 have h0:=h.s0
 have h1:=h.sp
 have h2:=hg.2.1
 have lo:=h.go.2
 have lt:=h.tail.2
 have rl:=cM (p:=p) hg.2 c
 have lr:=h.rise
 refine Cr func21 rfl λB D0 hA0=>?_
 refine Ae 15 (Cf (Nl p r c hp hr hcs hg) (Ae 22 (Cf (gX (Cj p r c) x (Cj p r c).length ω) (Ae 3 (Gv 36 (!bP (bA (Cj p r c) x (Cj p r c).length)) false (by rw[(Dz (nE.2 hx))];rfl) (Ae 10 (Cf (dP p r c x hp hg.1 hcs hg.2 h) (Ae 20 (sR x.spare (x.spare).toNat r.homes.length (Ae 11 (vsp ((0:Int)<x.rise) (λhx1 hx1d=>?_) (λhx1 hx1d=>?_))))))))))))
 ·
  refine Cf (lG p r c x h) (Ae 15 (Gv 65 (decide ((0:Int)<x.rise)) true hx1 (Ae 8 (Cf (Aaq p r c x h hx1d) (Ae 22 (Cf (Mb p c hp hg.1) (Ae 20 (Cf (Wy p hp hg.1.1) (Ae 20 (Gi 96 (De p r c x<Av p.acts p.acts.length) (λhx2 hx2d=>?_) (λhx2 hx2d=>?_)))))))))))
  ·
   refine Ae 6 (Cf (Zx p r c x hg.1 h hx2d) (Ae 17 (vsp (Jj p r c x=De p r c x) (λhx3 hx3d=>?_) (λhx3 hx3d=>?_))))
   ·
    exact Jb [(2,_,.none),(7,_,.none),(9,.osl 6 1 4,(.new 6 (.vec 54 1 4 (λxi=>[Ai (Ef r p c x),Ai (Je p r c x),.lit (.slice none 0 0),Ai (Gh p r c x)].getD xi .top)))),(10,.tup [Ai (relP p r c x),.int 0],(.drop 6))] [8,9] ⟨El (Dw (Bs r x) 0 (Eb p c x) ω (Ly h.hp h.hp ω ω ω)),El (Nn (atR p r c x) _ _ hx3d),Au (Aj 59 4 #[(0,(.tmp 109)),(1,(.tmp 110)),(2,(.tmp 114)),(3,(.tmp 115))] κ underlying59 1 sizeOf54 _ zeroValue54 κ β β β 6 [Ai (Ef r p c x),Ai (Je p r c x),.lit (.slice none 0 0),Ai (Gh p r c x)] κ (λxi=>[Ai (Ef r p c x),Ai (Je p r c x),.lit (.slice none 0 0),Ai (Gh p r c x)].getD xi .top) κ),Au (Kd 53 #[.tmp 116] #[59] κ (λ_ _=>by kernel_rfl) 6 (.vec 54 1 4 (λxi=>[Ai (Ef r p c x),Ai (Je p r c x),.lit (.slice none 0 0),Ai (Gh p r c x)].getD xi .top)) κ (λ_ _ _ _ h=>by cases h;exact(λi hi j hj=>by obtain rfl:j=0:=(ω);exact match i,hi with|0,_=>rfl|1,_=>rfl|2,_=>rfl|3,_=>rfl|i+4,h=>absurd h ω)) [.osl 6 1 4] κ [.sl 1 4 (λxi=>[Ai (Ef r p c x),Ai (Je p r c x),.lit (.slice none 0 0),Ai (Gh p r c x)].getD xi .top)] κ (.tup [Ai (relP p r c x),.int 0]) (eF p r c x h hn hx3d hx2d)),trivial⟩ (Ae 2 (Gd))
   ·
    exact Jb [(2,_,.none),(7,_,.none),(9,.osl 6 1 4,(.new 6 (.vec 54 1 4 (λxi=>[Ai (Ef r p c x),Ai (Je p r c x),Ai (Gj p r c x),Ai (Gh p r c x)].getD xi .top)))),(10,.tup [Ai (relP p r c x),.int 0],(.drop 6))] [8,9] ⟨El (Dw (Bs r x) 0 (Eb p c x) ω (Ly h.hp h.hp ω ω ω)),El (Dw (atR p r c x) (Jj p r c x) (De p r c x) hx3d (Ly h.ap h.ap ω ω ω)),Au (Aj 59 4 #[(0,(.tmp 109)),(1,(.tmp 110)),(2,(.tmp 114)),(3,(.tmp 115))] κ underlying59 1 sizeOf54 _ zeroValue54 κ β β β 6 [Ai (Ef r p c x),Ai (Je p r c x),Ai (Gj p r c x),Ai (Gh p r c x)] κ (λxi=>[Ai (Ef r p c x),Ai (Je p r c x),Ai (Gj p r c x),Ai (Gh p r c x)].getD xi .top) κ),Au (Kd 53 #[.tmp 116] #[59] κ (λ_ _=>by kernel_rfl) 6 (.vec 54 1 4 (λxi=>[Ai (Ef r p c x),Ai (Je p r c x),Ai (Gj p r c x),Ai (Gh p r c x)].getD xi .top)) κ (λ_ _ _ _ h=>by cases h;exact(λi hi j hj=>by obtain rfl:j=0:=(ω);exact match i,hi with|0,_=>rfl|1,_=>rfl|2,_=>rfl|3,_=>rfl|i+4,h=>absurd h ω)) [.osl 6 1 4] κ [.sl 1 4 (λxi=>[Ai (Ef r p c x),Ai (Je p r c x),Ai (Gj p r c x),Ai (Gh p r c x)].getD xi .top)] κ (.tup [Ai (relP p r c x),.int 0]) (eH p r c x h hn hx3d hx2d)),trivial⟩ (Ae 2 (Gd))
  ·
   refine Ae 4 (vsp (Jj p r c x=De p r c x) (λhx4 hx4d=>?_) (λhx4 hx4d=>?_))
   ·
    exact Jb [(2,_,.none),(7,_,.none),(9,.osl 6 1 4,(.new 6 (.vec 54 1 4 (λxi=>[Ai (Ef r p c x),Ai (Je p r c x),.lit (.slice none 0 0),.lit (.slice none 0 0)].getD xi .top)))),(10,.tup [Ai (relP p r c x),.int 0],(.drop 6))] [8,9] ⟨El (Dw (Bs r x) 0 (Eb p c x) ω (Ly h.hp h.hp ω ω ω)),El (Nn (atR p r c x) _ _ hx4d),Au (Aj 59 4 #[(0,(.tmp 109)),(1,(.tmp 110)),(2,(.tmp 114)),(3,(.tmp 115))] κ underlying59 1 sizeOf54 _ zeroValue54 κ β β β 6 [Ai (Ef r p c x),Ai (Je p r c x),.lit (.slice none 0 0),.lit (.slice none 0 0)] κ (λxi=>[Ai (Ef r p c x),Ai (Je p r c x),.lit (.slice none 0 0),.lit (.slice none 0 0)].getD xi .top) κ),Au (Kd 53 #[.tmp 116] #[59] κ (λ_ _=>by kernel_rfl) 6 (.vec 54 1 4 (λxi=>[Ai (Ef r p c x),Ai (Je p r c x),.lit (.slice none 0 0),.lit (.slice none 0 0)].getD xi .top)) κ (λ_ _ _ _ h=>by cases h;exact(λi hi j hj=>by obtain rfl:j=0:=(ω);exact match i,hi with|0,_=>rfl|1,_=>rfl|2,_=>rfl|3,_=>rfl|i+4,h=>absurd h ω)) [.osl 6 1 4] κ [.sl 1 4 (λxi=>[Ai (Ef r p c x),Ai (Je p r c x),.lit (.slice none 0 0),.lit (.slice none 0 0)].getD xi .top)] κ (.tup [Ai (relP p r c x),.int 0]) (eE p r c x h hx4d hx2d)),trivial⟩ (Ae 2 (Gd))
   ·
    exact Jb [(2,_,.none),(7,_,.none),(9,.osl 6 1 4,(.new 6 (.vec 54 1 4 (λxi=>[Ai (Ef r p c x),Ai (Je p r c x),Ai (Gj p r c x),.lit (.slice none 0 0)].getD xi .top)))),(10,.tup [Ai (relP p r c x),.int 0],(.drop 6))] [8,9] ⟨El (Dw (Bs r x) 0 (Eb p c x) ω (Ly h.hp h.hp ω ω ω)),El (Dw (atR p r c x) (Jj p r c x) (De p r c x) hx4d (Ly h.ap h.ap ω ω ω)),Au (Aj 59 4 #[(0,(.tmp 109)),(1,(.tmp 110)),(2,(.tmp 114)),(3,(.tmp 115))] κ underlying59 1 sizeOf54 _ zeroValue54 κ β β β 6 [Ai (Ef r p c x),Ai (Je p r c x),Ai (Gj p r c x),.lit (.slice none 0 0)] κ (λxi=>[Ai (Ef r p c x),Ai (Je p r c x),Ai (Gj p r c x),.lit (.slice none 0 0)].getD xi .top) κ),Au (Kd 53 #[.tmp 116] #[59] κ (λ_ _=>by kernel_rfl) 6 (.vec 54 1 4 (λxi=>[Ai (Ef r p c x),Ai (Je p r c x),Ai (Gj p r c x),.lit (.slice none 0 0)].getD xi .top)) κ (λ_ _ _ _ h=>by cases h;exact(λi hi j hj=>by obtain rfl:j=0:=(ω);exact match i,hi with|0,_=>rfl|1,_=>rfl|2,_=>rfl|3,_=>rfl|i+4,h=>absurd h ω)) [.osl 6 1 4] κ [.sl 1 4 (λxi=>[Ai (Ef r p c x),Ai (Je p r c x),Ai (Gj p r c x),.lit (.slice none 0 0)].getD xi .top)] κ (.tup [Ai (relP p r c x),.int 0]) (eG p r c x h hx4d hx2d)),trivial⟩ (Ae 2 (Gd))
 ·
  refine Cf (qC p r c x h hx1d) (Ae 15 (Gv 65 (decide ((0:Int)<x.rise)) false hx1 (Ae 18 (Cf (Mb p c hp hg.1) (Ae 20 (Cf (Wy p hp hg.1.1) (Ae 20 (Gi 96 (De p r c x<Av p.acts p.acts.length) (λhx5 hx5d=>?_) (λhx5 hx5d=>?_)))))))))
  ·
   refine Ae 6 (Cf (Zx p r c x hg.1 h hx5d) (Ae 17 (vsp (Jj p r c x=De p r c x) (λhx6 hx6d=>?_) (λhx6 hx6d=>?_))))
   ·
    exact Jb [(2,_,.none),(7,_,.none),(9,.osl 6 1 4,(.new 6 (.vec 54 1 4 (λxi=>[Ai (Ef r p c x),Ai (Je p r c x),.lit (.slice none 0 0),Ai (Gh p r c x)].getD xi .top)))),(10,.tup [Ai (relP p r c x),.int 0],(.drop 6))] [8,9] ⟨El (Dw (Bs r x) 0 (Eb p c x) ω (Ly h.hp h.hp ω ω ω)),El (Nn (atR p r c x) _ _ hx6d),Au (Aj 59 4 #[(0,(.tmp 109)),(1,(.tmp 110)),(2,(.tmp 114)),(3,(.tmp 115))] κ underlying59 1 sizeOf54 _ zeroValue54 κ β β β 6 [Ai (Ef r p c x),Ai (Je p r c x),.lit (.slice none 0 0),Ai (Gh p r c x)] κ (λxi=>[Ai (Ef r p c x),Ai (Je p r c x),.lit (.slice none 0 0),Ai (Gh p r c x)].getD xi .top) κ),Au (Kd 53 #[.tmp 116] #[59] κ (λ_ _=>by kernel_rfl) 6 (.vec 54 1 4 (λxi=>[Ai (Ef r p c x),Ai (Je p r c x),.lit (.slice none 0 0),Ai (Gh p r c x)].getD xi .top)) κ (λ_ _ _ _ h=>by cases h;exact(λi hi j hj=>by obtain rfl:j=0:=(ω);exact match i,hi with|0,_=>rfl|1,_=>rfl|2,_=>rfl|3,_=>rfl|i+4,h=>absurd h ω)) [.osl 6 1 4] κ [.sl 1 4 (λxi=>[Ai (Ef r p c x),Ai (Je p r c x),.lit (.slice none 0 0),Ai (Gh p r c x)].getD xi .top)] κ (.tup [Ai (relP p r c x),.int 0]) (eF p r c x h hn hx6d hx5d)),trivial⟩ (Ae 2 (Gd))
   ·
    exact Jb [(2,_,.none),(7,_,.none),(9,.osl 6 1 4,(.new 6 (.vec 54 1 4 (λxi=>[Ai (Ef r p c x),Ai (Je p r c x),Ai (Gj p r c x),Ai (Gh p r c x)].getD xi .top)))),(10,.tup [Ai (relP p r c x),.int 0],(.drop 6))] [8,9] ⟨El (Dw (Bs r x) 0 (Eb p c x) ω (Ly h.hp h.hp ω ω ω)),El (Dw (atR p r c x) (Jj p r c x) (De p r c x) hx6d (Ly h.ap h.ap ω ω ω)),Au (Aj 59 4 #[(0,(.tmp 109)),(1,(.tmp 110)),(2,(.tmp 114)),(3,(.tmp 115))] κ underlying59 1 sizeOf54 _ zeroValue54 κ β β β 6 [Ai (Ef r p c x),Ai (Je p r c x),Ai (Gj p r c x),Ai (Gh p r c x)] κ (λxi=>[Ai (Ef r p c x),Ai (Je p r c x),Ai (Gj p r c x),Ai (Gh p r c x)].getD xi .top) κ),Au (Kd 53 #[.tmp 116] #[59] κ (λ_ _=>by kernel_rfl) 6 (.vec 54 1 4 (λxi=>[Ai (Ef r p c x),Ai (Je p r c x),Ai (Gj p r c x),Ai (Gh p r c x)].getD xi .top)) κ (λ_ _ _ _ h=>by cases h;exact(λi hi j hj=>by obtain rfl:j=0:=(ω);exact match i,hi with|0,_=>rfl|1,_=>rfl|2,_=>rfl|3,_=>rfl|i+4,h=>absurd h ω)) [.osl 6 1 4] κ [.sl 1 4 (λxi=>[Ai (Ef r p c x),Ai (Je p r c x),Ai (Gj p r c x),Ai (Gh p r c x)].getD xi .top)] κ (.tup [Ai (relP p r c x),.int 0]) (eH p r c x h hn hx6d hx5d)),trivial⟩ (Ae 2 (Gd))
  ·
   refine Ae 4 (vsp (Jj p r c x=De p r c x) (λhx7 hx7d=>?_) (λhx7 hx7d=>?_))
   ·
    exact Jb [(2,_,.none),(7,_,.none),(9,.osl 6 1 4,(.new 6 (.vec 54 1 4 (λxi=>[Ai (Ef r p c x),Ai (Je p r c x),.lit (.slice none 0 0),.lit (.slice none 0 0)].getD xi .top)))),(10,.tup [Ai (relP p r c x),.int 0],(.drop 6))] [8,9] ⟨El (Dw (Bs r x) 0 (Eb p c x) ω (Ly h.hp h.hp ω ω ω)),El (Nn (atR p r c x) _ _ hx7d),Au (Aj 59 4 #[(0,(.tmp 109)),(1,(.tmp 110)),(2,(.tmp 114)),(3,(.tmp 115))] κ underlying59 1 sizeOf54 _ zeroValue54 κ β β β 6 [Ai (Ef r p c x),Ai (Je p r c x),.lit (.slice none 0 0),.lit (.slice none 0 0)] κ (λxi=>[Ai (Ef r p c x),Ai (Je p r c x),.lit (.slice none 0 0),.lit (.slice none 0 0)].getD xi .top) κ),Au (Kd 53 #[.tmp 116] #[59] κ (λ_ _=>by kernel_rfl) 6 (.vec 54 1 4 (λxi=>[Ai (Ef r p c x),Ai (Je p r c x),.lit (.slice none 0 0),.lit (.slice none 0 0)].getD xi .top)) κ (λ_ _ _ _ h=>by cases h;exact(λi hi j hj=>by obtain rfl:j=0:=(ω);exact match i,hi with|0,_=>rfl|1,_=>rfl|2,_=>rfl|3,_=>rfl|i+4,h=>absurd h ω)) [.osl 6 1 4] κ [.sl 1 4 (λxi=>[Ai (Ef r p c x),Ai (Je p r c x),.lit (.slice none 0 0),.lit (.slice none 0 0)].getD xi .top)] κ (.tup [Ai (relP p r c x),.int 0]) (eE p r c x h hx7d hx5d)),trivial⟩ (Ae 2 (Gd))
   ·
    exact Jb [(2,_,.none),(7,_,.none),(9,.osl 6 1 4,(.new 6 (.vec 54 1 4 (λxi=>[Ai (Ef r p c x),Ai (Je p r c x),Ai (Gj p r c x),.lit (.slice none 0 0)].getD xi .top)))),(10,.tup [Ai (relP p r c x),.int 0],(.drop 6))] [8,9] ⟨El (Dw (Bs r x) 0 (Eb p c x) ω (Ly h.hp h.hp ω ω ω)),El (Dw (atR p r c x) (Jj p r c x) (De p r c x) hx7d (Ly h.ap h.ap ω ω ω)),Au (Aj 59 4 #[(0,(.tmp 109)),(1,(.tmp 110)),(2,(.tmp 114)),(3,(.tmp 115))] κ underlying59 1 sizeOf54 _ zeroValue54 κ β β β 6 [Ai (Ef r p c x),Ai (Je p r c x),Ai (Gj p r c x),.lit (.slice none 0 0)] κ (λxi=>[Ai (Ef r p c x),Ai (Je p r c x),Ai (Gj p r c x),.lit (.slice none 0 0)].getD xi .top) κ),Au (Kd 53 #[.tmp 116] #[59] κ (λ_ _=>by kernel_rfl) 6 (.vec 54 1 4 (λxi=>[Ai (Ef r p c x),Ai (Je p r c x),Ai (Gj p r c x),.lit (.slice none 0 0)].getD xi .top)) κ (λ_ _ _ _ h=>by cases h;exact(λi hi j hj=>by obtain rfl:j=0:=(ω);exact match i,hi with|0,_=>rfl|1,_=>rfl|2,_=>rfl|3,_=>rfl|i+4,h=>absurd h ω)) [.osl 6 1 4] κ [.sl 1 4 (λxi=>[Ai (Ef r p c x),Ai (Je p r c x),Ai (Gj p r c x),.lit (.slice none 0 0)].getD xi .top)] κ (.tup [Ai (relP p r c x),.int 0]) (eG p r c x h hx7d hx5d)),trivial⟩ (Ae 2 (Gd))
def rA (l:List Int) (x:Int):Prop:=∃q,q<l.length/\l.getD q 0=x
def lR (r:Rv):Prop:=r.homes.length<=9/\r.waits.length<=17/\r.rises.length<=17
theorem lR.inn {r:Rv} (h:lR r) (hf:Cm r.flight):Tz r:=⟨by have:=h.1;omega,by have:=h.2.1;omega,by have:=h.2.2;omega,hf⟩
def oX (p:Pr) (r:Rv) (c:Cs) (w:Int):Prop:=rA r.waits w/\Nj p c (Lf p r c w)<p.acts.length
theorem Abm {r:Rv} {w:Int} (hr:Ng r) (h:rA r.waits w):0<=w/\w<=3600000:=by
 obtain⟨q,hq,rfl⟩:=h
 have:=hr.2.2.1.2.2 q hq
 exact⟨this.1,this.2.1⟩
theorem lO (p:Pr) (r:Rv) (c:Cs) (w:Int) (hp:Kp p) (hc:Hy p c) (hcs:Oo c) (hr:Ng r) (h:oX p r c w):AF Tryz.prog 39 [Ff p,Ie r,Ja c,.int w] (.lit (.tuple #[.int .i64 (Ao p c+w),.int .i64 (Ao p c+w+r.flight),.int .i64 (Nj p c (Lf p r c w):Int),.int .i64 (Av p.acts (Nj p c (Lf p r c w)+1)),pH (oY p c (Nj p c (Lf p r c w)))])):=by
 have:=On p r c w hp hc hcs hr (Abm hr h.1)
 unfold dZ at this
 rwa [if_pos h.2] at this
theorem lN (p:Pr) (r:Rv) (c:Cs) (w:Int) (hp:Kp p) (hc:Hy p c) (hcs:Oo c) (hr:Ng r) (h1:rA r.waits w) (h:¬oX p r c w):AF Tryz.prog 39 [Ff p,Ie r,Ja c,.int w] (.lit (.tuple #[.int .i64 (Ao p c+w),.int .i64 (Ao p c+w+r.flight),.int .i64 (-1),.int .i64 (Av p.acts p.acts.length),.agg #[.int .i64 0,.int .i64 0,.int .i64 0]])):=by
 have:=On p r c w hp hc hcs hr (Abm hr h1)
 unfold dZ at this
 rwa [if_neg (λg=>h ⟨h1,g⟩)] at this
theorem Uv (l:List Int) (x:Int) (hn:l.length<=1000000):AF Tryz.prog 38 [Fi l,.int x] (.bool (bP (rA l x))):=by
 refine Cr func38 rfl λB D0 hA0=>?_
 refine Ae 9 (Yx 0 func74 (λ_ hD1=>?_))
 refine Ae 14 (Pe [0,1,7,8] l.length (λi=>∀q,q<i->¬(l.getD q 0=x)) (λi=>⟨[(0,Fi l),(1,.int x),(7,.int (l.length:Int)),(8,.int (i:Int))],[],0,19⟩) (λq hq=>absurd hq (Nat.not_lt_zero q)) (λi hin hFi J1 hJ1=>?_))
 refine Ae 6 (Gi 9 ((i:Int)<(l.length:Int)) (λhx2 hx2d=>?_) (λhx2 hx2d=>?_))
 ·
  refine Ae 16 (Fl i l.length (Ae 4 (Gi 16 (x=(l).getD i 0) (λhx3 hx3d=>?_) (λhx3 hx3d=>?_))))
  ·
   exact Ae 13 (sS (Ae 1 (Gv 8 (decide ((0:Int)<=(i:Int))) true (decide_eq_true ω) (Ae 4 (Hs (.bool true) (congrArg AV.bool (Dz ⟨i,ω,ω⟩).symm))))))
  ·
   exact Ae 5 (Ep ((i:Int)+1) ((i+1:Nat):Int) (Ae 2 (Om [0,1,7,8] (hJ1 ω (λq hq=>(Nat.lt_or_ge q i).elim (λg=>hFi q g) λg=>by have e:q=i:=(ω);subst e;omega)))))
 ·
  exact Ae 12 (sS (Ae 5 (Hs (.bool false) (congrArg AV.bool (Bq λ⟨q,hq,h9⟩=>hFi q ω h9).symm))))
theorem Aao (r:Rv):AF Tryz.prog 9 [Ie r] (.bool (bP (lR r))):=by
 refine Cr func9 rfl λB D0 hA0=>?_
 refine Ae 13 (Gi 7 ((r.homes.length:Int)<=9) (λhx1 hx1d=>?_) (λhx1 hx1d=>?_))
 ·
  refine Ae 6 (Gi 13 ((r.waits.length:Int)<=17) (λhx2 hx2d=>?_) (λhx2 hx2d=>?_))
  ·
   exact Ae 9 (Hs (.bool (decide ((r.rises.length:Int)<=17))) (congrArg AV.bool (if hz:r.rises.length<=17 then (decide_eq_true ω).trans (Dz ⟨ω,ω,hz⟩).symm else (decide_eq_false ω).trans (Bq (λg=>hz g.2.2)).symm)))
  ·
   exact Ae 9 (Hs (.bool false) (congrArg AV.bool (Bq λg=>by have g1:=g.1;have g2:=g.2.1;have g3:=g.2.2;omega).symm))
 ·
  exact Ae 15 (Hs (.bool false) (congrArg AV.bool (Bq λg=>by have g1:=g.1;have g2:=g.2.1;have g3:=g.2.2;omega).symm))
theorem gU (p:Pr) (r:Rv) (c:Cs) (w:Int) (hp:Kp p) (hr:Tz r) (hcs:Oo c) (hg:Lz p r c) (h:¬oX p r c w):AF Tryz.prog 14 [Ff p,Ie r,Ja c,.int w] (.lit (.tuple #[.int .i64 0,.agg #[.int .i64 0,.int .i64 0,.int .i64 0],.int .i64 9])):=by
 refine Cr func14 rfl λB D0 hA0=>?_
 refine Ae 16 (Cf (Za p r c hp hr hcs) (Ae 3 (Gv 15 (!bP (Lz p r c)) false (by rw[(Dz hg)];rfl) (Ae 9 (Cf (Uv _ w hr.w) (Ae 3 (pN 21 (bP (rA r.waits w)) (λhx1=>?_) (λhx1=>?_))))))))
 ·
  exact Ae 9 (Cf (lN p r c w hp hg.1 hcs hg.2 (Ib hx1) h) (Ae 28 (Gd)))
 ·
  exact Ae 11 (Gd)
theorem Pk (p:Pr) (r:Rv) (c:Cs) (w:Int) (hp:Kp p) (hr:Tz r) (hcs:Oo c) (hg:Lz p r c) (h:oX p r c w):AF Tryz.prog 14 [Ff p,Ie r,Ja c,.int w] (.lit (.tuple #[.int .i64 (Nj p c (Lf p r c w):Int),pH (oY p c (Nj p c (Lf p r c w))),.int .i64 0])):=by
 refine Cr func14 rfl λB D0 hA0=>?_
 exact Ae 16 (Cf (Za p r c hp hr hcs) (Ae 3 (Gv 15 (!bP (Lz p r c)) false (by rw[(Dz hg)];rfl) (Ae 9 (Cf (Uv _ w hr.w) (Ae 3 (Gv 21 (!bP (rA r.waits w)) false (by rw[(Dz h.1)];rfl) (Ae 9 (Cf (lO p r c w hp hg.1 hcs hg.2 h) (Ae 15 (Gv 35 (decide (((Nj p c (Lf p r c w)):Int)<0)) false (decide_eq_false ω) (Ae 6 (Jb [] [8,9,10] trivial (Ae 2 (Gd)))))))))))))))
def Ace:List Mv:=[⟨⟨0,0,1000⟩,0,1000,0⟩,⟨⟨1000,0,1000⟩,0,1000,0⟩]
def Acf:List Mv:=[⟨⟨0,0,1000⟩,0,0,0⟩,⟨⟨1000,0,1000⟩,0,0,0⟩]
def Acg:List Mv:=[⟨⟨0,500,1000⟩,0,1000,0⟩,⟨⟨1000,500,1000⟩,0,1000,0⟩]
def Wv:Pr:=⟨[⟨#[97]⟩,⟨#[98]⟩],[⟨0,0,0⟩,⟨1000,0,0⟩],[⟨⟨#[117,112]⟩,2000,Ace⟩,⟨⟨#[115,116,97,121]⟩,2000,Acf⟩,⟨⟨#[110,111,114,116,104]⟩,2000,Acg⟩]⟩
def Yn:Rv:=⟨[⟨0,-500,0⟩,⟨1000,-500,0⟩],1200,[0,1000],[0,300]⟩
theorem gY:AF Tryz.prog 32 [] (.tup [Ff Wv,Ie Yn]):=by
 refine Cr func32 rfl λB D0 hA0=>?_
 exact Ae 22 (Bk (.osl 4 6 2) (.new 4 (.vec 91 6 2 (λxi=>yA (Ace.getD xi Mv.none)))) (Aj 85 2 #[(0,(.tmp 10)),(1,(.tmp 12))] κ underlying85 6 sizeOf91 _ zeroValue91 κ β β β 4 [.int 0,.int 0,.int 1000,.int 0,.int 1000,.int 0,.int 1000,.int 0,.int 1000,.int 0,.int 1000,.int 0] κ (λxi=>yA (Ace.getD xi Mv.none)) κ) (Ae 9 (Bk (.osl 5 6 2) (.new 5 (.vec 91 6 2 (λxi=>yA (Acg.getD xi Mv.none)))) (Aj 85 2 #[(0,(.tmp 15)),(1,(.tmp 17))] κ underlying85 6 sizeOf91 _ zeroValue91 κ β β β 5 [.int 0,.int 500,.int 1000,.int 0,.int 1000,.int 0,.int 1000,.int 500,.int 1000,.int 0,.int 1000,.int 0] κ (λxi=>yA (Acg.getD xi Mv.none)) κ) (Ae 3 (Yw 4 [4] 91 6 2 (λxi=>yA (Ace.getD xi Mv.none)) (Gl λ_ _=>rfl) (Yw 5 [5] 91 6 2 (λxi=>yA (Acg.getD xi Mv.none)) (Gl λ_ _=>rfl) (Ae 2 (Bk (.osl 6 1 2) (.new 6 (.vec 9 1 2 (λxi=> .lit (.string (Wv.names.getD xi ByteArray.empty))))) (Aj 28 2 #[(0,(.const (.string ⟨#[97]⟩))),(1,(.const (.string ⟨#[98]⟩)))] κ underlying28 1 sizeOf9 _ zeroValue9 κ β β β 6 [.lit (.string ⟨#[97]⟩),.lit (.string ⟨#[98]⟩)] κ (λxi=> .lit (.string (Wv.names.getD xi ByteArray.empty))) κ) (Ae 2 (Bk (.osl 7 3 2) (.new 7 (.vec 36 3 2 (λxi=>Eg (Wv.homes.getD xi V3.zero)))) (Aj 22 2 #[(0,(.tmp 20)),(1,(.tmp 21))] κ underlying22 3 sizeOf36 _ zeroValue36 κ β β β 7 [.int 0,.int 0,.int 0,.int 1000,.int 0,.int 0] κ (λxi=>Eg (Wv.homes.getD xi V3.zero)) κ) (Ae 6 (Bk (.osl 8 6 2) (.new 8 (.vec 91 6 2 (λxi=>yA (Acf.getD xi Mv.none)))) (Aj 85 2 #[(0,(.tmp 26)),(1,(.tmp 28))] κ underlying85 6 sizeOf91 _ zeroValue91 κ β β β 8 [.int 0,.int 0,.int 1000,.int 0,.int 0,.int 0,.int 1000,.int 0,.int 1000,.int 0,.int 0,.int 0] κ (λxi=>yA (Acf.getD xi Mv.none)) κ) (Yw 8 [29] 91 6 2 (λxi=>yA (Acf.getD xi Mv.none)) (Gl λ_ _=>rfl) (Ae 3 (Bk (.osl 9 3 3) (.new 9 (.vec 87 3 3 (λxi=>AcM (Wv.acts.getD xi Ac.none)))) (Aj 29 3 #[(0,(.tmp 24)),(1,(.tmp 30)),(2,(.tmp 32))] κ underlying29 3 sizeOf87 _ zeroValue87 κ β β β 9 [.lit (.string ⟨#[117,112]⟩),.int 2000,.sl 6 2 (λxi=>yA (Ace.getD xi Mv.none)),.lit (.string ⟨#[115,116,97,121]⟩),.int 2000,.sl 6 2 (λxi=>yA (Acf.getD xi Mv.none)),.lit (.string ⟨#[110,111,114,116,104]⟩),.int 2000,.sl 6 2 (λxi=>yA (Acg.getD xi Mv.none))] κ (λxi=>AcM (Wv.acts.getD xi Ac.none)) κ) (Ae 5 (sQ 6 10 0 9 1 2 (λxi=> .lit (.string (Wv.names.getD xi ByteArray.empty))) (Gl λ_ _=>rfl) (sQ 7 10 1 36 3 2 (λxi=>Eg (Wv.homes.getD xi V3.zero)) (Gl λ_ _=>rfl) (sQ 9 10 2 87 3 3 (λxi=>AcM (Wv.acts.getD xi Ac.none)) (Gl λ_ _=>rfl) (Ae 5 (Bk (.osl 11 3 2) (.new 11 (.vec 36 3 2 (λxi=>Eg (Yn.homes.getD xi V3.zero)))) (Aj 22 2 #[(0,(.tmp 36)),(1,(.tmp 37))] κ underlying22 3 sizeOf36 _ zeroValue36 κ β β β 11 [.int 0,.int (-500),.int 0,.int 1000,.int (-500),.int 0] κ (λxi=>Eg (Yn.homes.getD xi V3.zero)) κ) (Bk (.osl 12 1 2) (.new 12 (.vec 3 1 2 (λxi=> .int (Yn.waits.getD xi 0)))) (Aj 23 2 #[(0,(.const (.int .i64 0))),(1,(.const (.int .i64 1000)))] κ underlying23 1 sizeOf3 _ zeroValue3 κ β β β 12 [.int 0,.int 1000] κ (λxi=> .int (Yn.waits.getD xi 0)) κ) (Bk (.osl 13 1 2) (.new 13 (.vec 3 1 2 (λxi=> .int (Yn.rises.getD xi 0)))) (Aj 23 2 #[(0,(.const (.int .i64 0))),(1,(.const (.int .i64 300)))] κ underlying23 1 sizeOf3 _ zeroValue3 κ β β β 13 [.int 0,.int 300] κ (λxi=> .int (Yn.rises.getD xi 0)) κ) (Ae 5 (gQ 11 1 0 36 3 2 (λxi=>Eg (Yn.homes.getD xi V3.zero)) (Gl λ_ _=>rfl) (gQ 12 1 2 3 1 2 (λxi=> .int (Yn.waits.getD xi 0)) (Gl λ_ _=>rfl) (gQ 13 1 3 3 1 2 (λxi=> .int (Yn.rises.getD xi 0)) (Gl λ_ _=>rfl) (Ae 1 (Gd)))))))))))))))))))))))))))))
theorem kN:Kp Wv:=⟨δ,δ,δ,δ,δ⟩
theorem kO:Tz Yn:=⟨δ,δ,δ,⟨δ,δ⟩⟩
theorem zL:Eu Wv=true:=by kernel_rfl
theorem Aen {a b m:Int} (h:0<=a/\a<b/\b<=m):Ty [a,b] m:=⟨by simp,by simp,λi hi=>by
 have:i<2:=hi
 match i,this with
 |0,_=>exact⟨h.1,by show a<=m;omega,λh0=>absurd h0 (Nat.lt_irrefl 0)⟩
 |1,_=>exact⟨by show 0<=b;omega,h.2.2,λ_=>h.2.1⟩⟩
theorem Afe:Ng Yn:=⟨⟨δ,δ,δ,δ,δ⟩,λi hi=>by
 have:i<2:=hi
 match i,this with
 |0,_=>exact⟨rfl,λj hj=>absurd hj (Nat.not_lt_zero j)⟩
 |1,_=>exact⟨rfl,λj hj=>by
  obtain rfl:j=0:=by omega
  decide⟩,Aen δ,Aen δ⟩
theorem Afc (k:Int) (h:k=0\/k=2):Hy Wv ⟨0,k⟩:=⟨zL,by show (0:Int)<=0;decide,by show (0:Int)<2;decide,by show (0:Int)<=k;omega,by show k<(3:Int);omega⟩
theorem kM (k:Int) (h:k=0\/k=2):Lz Wv Yn ⟨0,k⟩:=⟨Afc k h,Afe⟩
theorem AdT (k:Int) (h:k=0\/k=2):Oo ⟨0,k⟩:=by rcases h with rfl|rfl<;>exact⟨Pw,⟨δ,δ⟩⟩
def sxL:List Rl:=[⟨0,0,0⟩,⟨0,0,300⟩,⟨1,0,0⟩,⟨1,0,300⟩,⟨0,1000,0⟩,⟨0,1000,300⟩,⟨1,1000,0⟩,⟨1,1000,300⟩]
theorem Acd:Cj Wv Yn ⟨0,0⟩=sxL:=by kernel_rfl
def sK:List Sg:=relP Wv Yn ⟨0,0⟩ Rl.none
theorem AfH:sK.length=5:=by kernel_rfl
theorem Ad5 {l:List Sg} {n:Nat} (h:l.length=n):Ai l= .sl 6 n λxi=>Cv (l.getD xi Sg.none):=by subst h;rfl
theorem Aeo (w:Int) (i:Nat) (hw:rA Yn.waits w) (h:Nj Wv ⟨0,0⟩ (Lf Wv Yn ⟨0,0⟩ w)=i) (hi:i<3):AF Tryz.prog 14 [Ff Wv,Ie Yn,Ja ⟨0,0⟩,.int w] (.lit (.tuple #[.int .i64 (i:Int),pH (oY Wv ⟨0,0⟩ i),.int .i64 0])):=by
 subst h
 exact Pk Wv Yn ⟨0,0⟩ w kN kO (AdT 0 (.inl rfl)) (kM 0 (.inl rfl)) ⟨hw,hi⟩
theorem Afd:AF Tryz.prog 14 [Ff Wv,Ie Yn,Ja ⟨0,2⟩,.int 0] (.lit (.tuple #[.int .i64 0,.agg #[.int .i64 0,.int .i64 0,.int .i64 0],.int .i64 9])):=
 gU Wv Yn ⟨0,2⟩ 0 kN kO (AdT 2 (.inr rfl)) (kM 2 (.inr rfl)) λg=>absurd g.2 δ
theorem AfI:AF Tryz.prog 18 [Ff Wv,Ie Yn,Ja ⟨0,0⟩] (.tup [.sl 3 8 λxi=>Cx (sxL.getD xi Rl.none),.int 0]):=by
 have h:=Nl Wv Yn ⟨0,0⟩ kN kO (AdT 0 (.inl rfl)) (kM 0 (.inl rfl))
 rwa [Acd] at h
theorem AfJ:AF Tryz.prog 21 [Ff Wv,Ie Yn,Ja ⟨0,0⟩,Cx Rl.none] (.tup [.sl 6 5 λxi=>Cv (sK.getD xi Sg.none),.int 0]):=by
 have h:=Tw Wv Yn ⟨0,0⟩ Rl.none kN kO (AdT 0 (.inl rfl)) (kM 0 (.inl rfl)) δ (by rw[Acd];exact List.mem_cons_self)
 rwa [show relP Wv Yn ⟨0,0⟩ Rl.none=sK from rfl,Ad5 AfH] at h
theorem Gw:AF Tryz.prog 10 [] (.bool true):=by
 refine Cr func10 rfl λB D0 hA0=>?_
 exact Ae 7 (Cf gY (Ae 14 (Cf (Aeo 0 1 ⟨0,δ,rfl⟩ δ δ) (Ae 15 (Cf (Aeo 1000 2 ⟨1,δ,rfl⟩ δ δ) (Ae 15 (Cf Afd (Ae 15 (Cf AfI (Ae 15 (Bk (.bool false) .none (Jl (Gs 36 36 (.tmp 56) (.tmp 57) κ _ _ κ κ κ (decide ((0:Int)=0/\(0:Int)=0/\(1000:Int)=1000)) (aT _ _ _ _ _ _)) (show (!(decide ((0:Int)=0/\(0:Int)=0/\(1000:Int)=1000)):Bool)=false from by decide)) (Ae 12 (Bk (.bool false) .none (Jl (Gs 36 36 (.tmp 69) (.tmp 70) κ _ _ κ κ κ (decide ((0:Int)=0/\(500:Int)=500/\(1000:Int)=1000)) (aT _ _ _ _ _ _)) (show (!(decide ((0:Int)=0/\(500:Int)=500/\(1000:Int)=1000)):Bool)=false from by decide)) (Ae 20 (Fl 0 8 (Ae 2 (Bk (.bool false) .none (Jl (Gs 52 52 (.tmp 93) (.tmp 94) κ _ _ κ κ κ (decide ((0:Int)=0/\(0:Int)=0/\(0:Int)=0)) (mN _ _ _ _ _ _)) (show (!(decide ((0:Int)=0/\(0:Int)=0/\(0:Int)=0)):Bool)=false from by decide)) (Ae 3 (Fl 1 8 (Ae 2 (Bk (.bool false) .none (Jl (Gs 52 52 (.tmp 100) (.tmp 101) κ _ _ κ κ κ (decide ((0:Int)=0/\(0:Int)=0/\(300:Int)=300)) (mN _ _ _ _ _ _)) (show (!(decide ((0:Int)=0/\(0:Int)=0/\(300:Int)=300)):Bool)=false from by decide)) (Ae 3 (Fl 2 8 (Ae 2 (Bk (.bool false) .none (Jl (Gs 52 52 (.tmp 107) (.tmp 108) κ _ _ κ κ κ (decide ((1:Int)=1/\(0:Int)=0/\(0:Int)=0)) (mN _ _ _ _ _ _)) (show (!(decide ((1:Int)=1/\(0:Int)=0/\(0:Int)=0)):Bool)=false from by decide)) (Ae 7 (Jb [(4,Hr (.sl 3 8 (λxi=>Cx (sxL.getD xi Rl.none))) 0,.none),(6,_,.none)] [14,15] ⟨Tg 0 8,El AfJ,trivial⟩ (Ae 13 (Fl 0 5 (Ae 12 (Bk (.osl 5 1 5) (.new 5 (.vec 3 1 5 (λxi=>[AV.int 2000,AV.int 3200,AV.int 4000,AV.int 5000,AV.int 6000].getD xi .top))) (Aj 23 5 #[(0,(.const (.int .i64 2000))),(1,(.const (.int .i64 3200))),(2,(.const (.int .i64 4000))),(3,(.const (.int .i64 5000))),(4,(.const (.int .i64 6000)))] κ underlying23 1 sizeOf3 _ zeroValue3 κ β β β 5 [.int 2000,.int 3200,.int 4000,.int 5000,.int 6000] κ (λxi=>[AV.int 2000,AV.int 3200,AV.int 4000,AV.int 5000,AV.int 6000].getD xi .top) κ) (Ae 5 (pO 5 (Ae 14 (Fl 0 5 (Bk (.int 2000) (.read 5) (Bg 3 (.tmp 140) κ isAgg3 5 0 0 1 κ 3 5 (λxi=>[AV.int 2000,AV.int 3200,AV.int 4000,AV.int 5000,AV.int 6000].getD xi .top) κ ω δ) (Ae 8 (Fl 0 5 (Ae 11 (Ip (.int .i64 1) (.int .i64 1) (Ae 17 (Fl 1 5 (Bk (.int 3200) (.read 5) (Bg 3 (.tmp 140) κ isAgg3 5 1 0 1 κ 3 5 (λxi=>[AV.int 2000,AV.int 3200,AV.int 4000,AV.int 5000,AV.int 6000].getD xi .top) κ ω δ) (Ae 8 (Fl 1 5 (Ae 11 (Ip (.int .i64 2) (.int .i64 2) (Ae 17 (Fl 2 5 (Bk (.int 4000) (.read 5) (Bg 3 (.tmp 140) κ isAgg3 5 2 0 1 κ 3 5 (λxi=>[AV.int 2000,AV.int 3200,AV.int 4000,AV.int 5000,AV.int 6000].getD xi .top) κ ω δ) (Ae 8 (Fl 2 5 (Ae 11 (Ip (.int .i64 3) (.int .i64 3) (Ae 17 (Fl 3 5 (Bk (.int 5000) (.read 5) (Bg 3 (.tmp 140) κ isAgg3 5 3 0 1 κ 3 5 (λxi=>[AV.int 2000,AV.int 3200,AV.int 4000,AV.int 5000,AV.int 6000].getD xi .top) κ ω δ) (Ae 8 (Fl 3 5 (Ae 11 (Ip (.int .i64 4) (.int .i64 4) (Ae 17 (Fl 4 5 (Bk (.int 6000) (.read 5) (Bg 3 (.tmp 140) κ isAgg3 5 4 0 1 κ 3 5 (λxi=>[AV.int 2000,AV.int 3200,AV.int 4000,AV.int 5000,AV.int 6000].getD xi .top) κ ω δ) (Ae 8 (Fl 4 5 (Ae 11 (Ip (.int .i64 5) (.int .i64 5) (Ae 21 (Gd))))))))))))))))))))))))))))))))))))))))))))))))))))))))))))))))))))))
theorem Sj (p:Pr) (c:Cs) (hp:Kp p) (hc:Hy p c):AF Tryz.prog 27 [Ff p,.int c.act] (.int (Ao p c)):=by
 have h1:=hc.2.2.2
 have:=Qr p hp (Du hc.1) c.act.toNat ω
 rwa [show (c.act.toNat:Int)=c.act by omega] at this
abbrev Fe (p:Pr) (r:Rv) (i:Nat):List Sg:=Fr (r.homes.getD i V3.zero) (r.homes.getD i V3.zero) 0 (Av p.acts p.acts.length) 0
abbrev AeO (p:Pr) (r:Rv):AV:= .sl 1 r.homes.length λxi=>Ai (Fe p r xi)
theorem bW {p:Pr} {r:Rv} (hp:Vb p) (hr:Ng r) (h0:0<p.acts.length) {i:Nat} (hi:i<r.homes.length):Lo (r.homes.getD i V3.zero) (r.homes.getD i V3.zero) 0 (Av p.acts p.acts.length)=true:=
 Ly (hr.2.1 i hi).1 (hr.2.1 i hi).1 (Int.le_refl 0) (Rd hp _ (Nat.le_refl _) h0) (hp.ends _ (Nat.le_refl _)).2
theorem Uw (p:Pr) (r:Rv) (hp:Kp p) (hr:Tz r) (hv:Eu p=true) (h:Ng r) (h0:0<p.acts.length):AF Tryz.prog 24 [Ff p,Ie r] (.tup [AeO p r,.int 0]):=by
 refine Cr func24 rfl λB D0 hA0=>?_
 refine Ae 14 (Cf (Mc p hp) (Ae 4 (Gv 11 (!Eu p) false (by rw[hv];rfl) (Ae 3 (Cf (Ti r hr) (Ae 4 (Gv 11 (!bP (Ng r)) false (by rw[(Dz h)];rfl) (Ae 7 (Gv 22 (decide ((p.acts.length:Int)=0)) false (decide_eq_false ω) (Ae 10 (Cf (Wy p hp hv) (Ae 13 ?_))))))))))))
 have hn1:=h.1.1
 have hn2:=h.1.2.1
 have hpos:=Rd (Du hv) _ (Nat.le_refl _) h0
 refine Yv 1 (Ae 9 (dN [6,8,29,30,31] (λm s=>∃i,i<=r.homes.length/\m=r.homes.length-i/\True/\((i=0/\s=⟨[(6,.int (Av p.acts p.acts.length)),(8,.lit (.slice none 0 0)),(29,Qn r.homes),(30,.int (r.homes.length:Int)),(31,.int ((0:Nat):Int))],[(0,.box 31 [Fd p.names,Hn p.homes,Gq p.acts])],2,43⟩)\/(0<i/\s=⟨[(6,.int (Av p.acts p.acts.length)),(8,.osl 9 1 i),(29,Qn r.homes),(30,.int (r.homes.length:Int)),(31,.int (i:Int))],[(0,.box 31 [Fd p.names,Hn p.homes,Gq p.acts]),(9,.vec 54 1 i (λxi=>Ai (Fe p r xi)))],10,43⟩))) r.homes.length ⟨0,Nat.zero_le _,rfl,trivial,.inl ⟨rfl,κ⟩⟩ ?_))
 rintro _ _ ⟨i,hin,rfl,hFi,(⟨hi0,rfl⟩|⟨hi0,rfl⟩)⟩ J1 hJ1
 ·
  subst hi0
  refine Ae 6 (Gi 32 (((0:Nat):Int)<(r.homes.length:Int)) (λhx1 hx1d=>?_) (λhx1 hx1d=>?_))
  ·
   exact Ae 7 (Fl 0 r.homes.length (Ae 5 (Yv 2 (Ae 4 (Cf (Dw (r.homes.getD 0 V3.zero) 0 (Av p.acts p.acts.length) ω (bW (Du hv) h h0 ω)) (Bk (.osl 3 1 1) (.new 3 (.vec 54 1 1 (λ_=>Ai (Fe p r 0)))) (Aj 59 1 #[(0,(.tmp 38))] κ underlying59 1 sizeOf54 _ zeroValue54 κ β β β 3 [Ai (Fe p r 0)] κ (λ_=>Ai (Fe p r 0)) κ) (Bk (.osl 4 1 1) (.newr 3 4 (.vec 54 1 1 (λxi=>Ai (Fe p r xi)))) (Ci (.tmp 35) (.tmp 39) 59 κ underlying59 1 24 (.slice none 0 0) κ κ δ 1 ω (λ_=>Ai (Fe p r 0)) (λxi=>Ai (Fe p r xi)) 4 (λi hi=>by(obtain rfl:i=0:=(ω));rfl) (λi hi j hj=>by obtain rfl:j=0:=(ω);rfl) (by unfold maxLen;omega) ω κ 3 54 κ κ) (Ae 5 (Ep (((0:Nat):Int)+1) ((0+1:Nat):Int) (Ae 2 (Ha [6,8,29,30,31] [(0,0),(4,9)] 10 0 hA0 [(54,1,1,(λ_=>Ai (Fe p r 0))),(54,1,1,(λxi=>Ai (Fe p r xi)))] ⟨(Gl λ_ _=>rfl),(Gl λ_ _=>rfl),trivial⟩ (hJ1 _ _ (by omega:r.homes.length-(0+1)<r.homes.length-0) ⟨0+1,ω,rfl,trivial,.inr ⟨Nat.succ_pos _,rfl⟩⟩))))))))))))
  ·
   exact Ae 14 (Hs (.lit (.tuple #[.slice none 0 0,.int .i64 0])) (by exfalso;omega))
 ·
  refine Ae 6 (Gi 32 ((i:Int)<(r.homes.length:Int)) (λhx2 hx2d=>?_) (λhx2 hx2d=>?_))
  ·
   exact Ae 7 (Fl i r.homes.length (Ae 5 (Yv 10 (Ae 4 (Cf (Dw (r.homes.getD i V3.zero) 0 (Av p.acts p.acts.length) ω (bW (Du hv) h h0 ω)) (Bk (.osl 11 1 1) (.new 11 (.vec 54 1 1 (λ_=>Ai (Fe p r i)))) (Aj 59 1 #[(0,(.tmp 38))] κ underlying59 1 sizeOf54 _ zeroValue54 κ β β β 11 [Ai (Fe p r i)] κ (λ_=>Ai (Fe p r i)) κ) (Bk (.osl 12 1 (i+1)) (.grow2 9 11 12 (.vec 54 1 (i+1) (λxi=>Ai (Fe p r xi)))) (Ce (.tmp 35) (.tmp 39) 59 κ underlying59 1 24 (.slice none 0 0) κ κ δ i 1 ω (λxi=>Ai (Fe p r xi)) (λ_=>Ai (Fe p r i)) (λxi=>Ai (Fe p r xi)) 12 ω (by unfold maxLen;omega) (λi hi=>rfl) (λi hi=>by(obtain rfl:i=0:=(ω));rfl) (λi hi j hj=>by obtain rfl:j=0:=(ω);rfl) 9 κ κ 11 54 κ κ) (Ae 5 (Ep ((i:Int)+1) ((i+1:Nat):Int) (Ae 2 (Ha [6,8,29,30,31] [(0,0),(12,9)] 10 0 hA0 [(54,1,1,(λ_=>Ai (Fe p r i))),(54,1,i+1,(λxi=>Ai (Fe p r xi)))] ⟨(Gl λ_ _=>rfl),(Gl λ_ _=>rfl),trivial⟩ (hJ1 _ _ (by omega:r.homes.length-(i+1)<r.homes.length-i) ⟨i+1,ω,rfl,trivial,.inr ⟨Nat.succ_pos _,rfl⟩⟩))))))))))))
  ·
   exact Ae 13 (Yw 9 [4] 54 1 i (λxi=>Ai (Fe p r xi)) (Gl λ_ _=>rfl) (Ae 1 (Hs (.tup [.sl 1 i (λxi=>Ai (Fe p r xi)),.int 0]) (congrArg (λq=>AV.tup [.sl 1 q λxi=>Ai (Fe p r xi),.int 0]) (show i=r.homes.length by omega)))))
theorem uZ {P:Program} {B:Nat} {D0:Bu} {o:Oper} {ev:Operand->AV} {pre:Nat->Option Co} (T T':TypeId) (x y:Operand) (ho:o.op= .binOp .rem T x y T') (a b r:Int) (hx:ev x= .int a) (hy:ev y= .int b) (hb:b≠0) (hr:a.tmod b=r):Fh P B D0 o ev pre (.int r) .none:=by
 refine Cn (.inl rfl) λE a' c _ _ hv=>⟨.int .i64 r,?_,.lit _ _⟩
 have h1:=hv x (by simp[ho,Op.operands])
 have h2:=hv y (by simp[ho,Op.operands])
 rw[hx] at h1
 rw[hy] at h2
 simp only[execOp,ho]
 rw[h1.lit_inv,h2.lit_inv,<-hr]
 simp[eqGuard,binOp,Op.intDiv,hb]
theorem vT {k:Int} {n:Nat} (hk:0<=k) (hn:0<n):∃j:Nat,j<n/\k.tmod (n:Int)=(j:Int):=by
 obtain⟨m,rfl⟩:=Int.eq_ofNat_of_zero_le hk
 exact⟨m%n,Nat.mod_lt _ hn,rfl⟩
theorem AeC {l:List Rl} {x:Rl} {i:Nat} {b:Bool} (h:b=bP (bA l x i)) (hb:b=true):true=bP (bA l x (i+1)):=by
 obtain⟨q,h1,h2⟩:=Ib (h.symm.trans hb)
 exact(Dz ⟨q,ω,h2⟩).symm
theorem AeA {l:List Rl} {x:Rl} {i:Nat} (h:(l.getD i Rl.none).spare=x.spare/\(l.getD i Rl.none).wait=x.wait/\(l.getD i Rl.none).rise=x.rise):true=bP (bA l x (i+1)):=(Dz ⟨i,ω,h⟩).symm
theorem AeB {l:List Rl} {x:Rl} {i:Nat} {b:Bool} (h:b=bP (bA l x i)) (hb:b=false) (hn:¬((l.getD i Rl.none).spare=x.spare/\(l.getD i Rl.none).wait=x.wait/\(l.getD i Rl.none).rise=x.rise)):false=bP (bA l x (i+1)):=by
 refine(Bq λ⟨q,h1,h2⟩=>?_).symm
 rcases Nat.lt_or_ge q i with g|g
 exact Qy (h.symm.trans hb) ⟨q,g,h2⟩
 obtain rfl:q=i:=by omega
 exact hn h2
theorem Ae9 {l:List Rl} {x:Rl} {i:Nat} {b:Bool} (h:b=bP (bA l x i)) (hb:b=false):decide ((l.getD i Rl.none).spare=x.spare/\(l.getD i Rl.none).wait=x.wait/\(l.getD i Rl.none).rise=x.rise)=bP (bA l x (i+1)):=by
 by_cases e:(l.getD i Rl.none).spare=x.spare/\(l.getD i Rl.none).wait=x.wait/\(l.getD i Rl.none).rise=x.rise
 rw[decide_eq_true e];exact AeA e
 rw[decide_eq_false e];exact AeB h hb e
theorem Zo {c:List Int} (d:Int):∀k,k<=6->Ut c d d k=d^5*Ut c 1 1 k
 |0,_=>by simp[Ut]
 |k+1,h=>by
  rw[Ut,Ut,Zo d k ω,<-Int.pow_add,show k+(5-k)=5 by omega,Int.one_pow,Int.one_pow,Int.mul_add,Int.mul_one,Int.mul_one,Int.mul_comm (c.getD k 0)]
theorem fX {s:Sg} {x d X Y Z g:Int} (hg:0<g) (ho:cE s d=g) (hx:rU s x d=g*X) (hy:plY s x d=g*Y) (hz:plZ s x d=g*Z):Em s x d=⟨X,Y,Z,1⟩:=by
 have hd:∀Y:Int,Nat.gcd g.natAbs (g*Y).natAbs=g.natAbs:=λY=>by rw[Int.natAbs_mul];exact Nat.gcd_eq_left (Nat.dvd_mul_right _ _)
 have hgg:(g.natAbs:Int)=g:=Int.natAbs_of_nonneg ω
 have hG:plG s x d=g:=by unfold plG;rw[ho,hx,hy,hz,hd,hgg,hd,hgg,hd,hgg]
 unfold Em
 rw[hG,ho,hx,hy,hz,Int.mul_ediv_cancel_left _ ω,Int.mul_ediv_cancel_left _ ω,Int.mul_ediv_cancel_left _ ω,Int.ediv_self ω]
theorem cQ {c:List Int} {a b:Int} (h:lU c a b):c.length<=6:=by rcases h with⟨_,rfl⟩|⟨_,rfl⟩<;>simp
theorem Up {c:List Int} {a:Int} (h:lU c a a) (x d:Int):Ut c x d c.length=d^5*a:=by
 rcases h with⟨_,rfl⟩|⟨h,_⟩
 simp[Ut,Int.mul_comm]
 exact absurd rfl h
theorem oH {d:Int} (h:0<d):0<d^5:=Int.pow_pos h
theorem Ael {s:Sg} {a b:V3} {f t:Int} (h:Yp s a b f t) (d:Int):cE s d=d^5:=by unfold cE;rw[h.rows.2.2.2.2.2,Int.one_mul]
theorem AeE {s:Sg} {a b:V3} {f t:Int} (h:Yp s a b f t) {d:Int} (hd:0<d):Em s d d=⟨b.x,b.y,b.z,1⟩:=by
 obtain⟨hx,hy,hz,_⟩:=h.rows
 refine fX (oH hd) (Ael h d) ?_ ?_ ?_
 unfold rU;rw[Zo d _ (cQ hx),(Ix hx).2]
 unfold plY;rw[Zo d _ (cQ hy),(Ix hy).2]
 unfold plZ;rw[Zo d _ (cQ hz),(Ix hz).2]
theorem xN {s:Sg} {a:V3} {f t:Int} (h:Yp s a a f t) (x:Int) {d:Int} (hd:0<d):Em s x d=⟨a.x,a.y,a.z,1⟩:=by
 obtain⟨hx,hy,hz,_⟩:=h.rows
 exact fX (oH hd) (Ael h d) (Up hx x d) (Up hy x d) (Up hz x d)
def Zm (l:List Sg) (t:Int) (P:PL):Prop:=∃i0,i0<l.length/\(∀j,j<i0->(l.getD j Sg.none).t<t)/\(∀j,i0<=j->j<l.length->t<=(l.getD j Sg.none).t)/\(l.getD i0 Sg.none).f<=t/\Fc l t i0=P
theorem Zm.cons {s:Sg} {l:List Sg} {t:Int} {P:PL} (h:Zm l t P) (hs:s.t<t):Zm (s::l) t P:=by
 obtain⟨i,h1,h2,h3,h4,h5⟩:=h
 refine⟨i+1,by simpa using h1,λj hj=>?_,λj hj hl=>?_,h4,h5⟩
 cases j with
 |zero=>exact hs
 |succ j=>exact h2 j ω
 cases j with
 |zero=>omega
 |succ j=>exact h3 j ω (by simpa using hl)
theorem Be.late:∀{l:List Sg} {a b:V3} {f t:Int},Be l a b f t->∀i,i<l.length->f<(l.getD i Sg.none).t
 |[],_,_,_,_,_,i,hi=>by simp at hi
 |s::r,a,b,f,t,⟨c,u,h,hr⟩,0,_=>by
  show f<s.t
  rw[h.rows.2.2.2.2.1];exact h.ft
 |s::r,a,b,f,t,⟨c,u,h,hr⟩,i+1,hi=>by
  have h1:=Be.late hr i (by simpa using hi)
  have h2:=h.ft
  show f<(r.getD i Sg.none).t
  omega
theorem Zm.head {s:Sg} {r:List Sg} {a c b:V3} {f v u t:Int} (h:Yp s a c f v) (hr:Be r c b v u) (h1:f<=t) (h2:t<=v):Zm (s::r) t (Fc (s::r) t 0):=by
 have e1:=h.rows.2.2.2.1
 have e2:=h.rows.2.2.2.2.1
 refine⟨0,Nat.succ_pos _,λj hj=>absurd hj (Nat.not_lt_zero j),λj _ hl=>?_,by show s.f<=t;omega,rfl⟩
 cases j with
 |zero=>show t<=s.t;omega
 |succ j=>
  have:=hr.late j (by simpa using hl)
  show t<=(r.getD j Sg.none).t
  omega
theorem Be.pAt_ex:∀{l:List Sg} {a b:V3} {f u t:Int},Be l a b f u->f<=t->t<=u->0<l.length->∃P,Zm l t P
 |s::r,a,b,f,u,t,⟨c,v,h,hr⟩,h1,h2,_=>by
  by_cases g:t<=v
  exact⟨_,Zm.head h hr h1 g⟩
  obtain⟨P,hP⟩:=Be.pAt_ex hr ω h2 (hr.pos ω)
  exact⟨P,hP.cons (by rw[h.rows.2.2.2.2.1];omega)⟩
theorem Be.pAt_late:∀{l r:List Sg} {a m:V3} {f e t:Int} {P:PL},Be l a m f e->e<t->Zm r t P->Zm (l++r) t P
 |[],_,_,_,_,_,_,_,_,_,h=>h
 |s::l,r,a,m,f,e,t,P,⟨c,v,h,hr⟩,h1,h2=>(Be.pAt_late hr h1 h2).cons (by have:=hr.le;rw[h.rows.2.2.2.2.1];omega)
theorem Be.pAt_end:∀{l r:List Sg} {a m b:V3} {f e u:Int},Be l a m f e->Be r m b e u->0<l.length->Zm (l++r) e ⟨m.x,m.y,m.z,1⟩
 |[s],r,a,m,b,f,e,u,⟨c,v,h,hc,hv⟩,hr,_=>by
  subst hc
  subst hv
  have e1:=h.rows.2.2.2.1
  have e2:=h.rows.2.2.2.2.1
  have h0:=h.ft
  have:=Zm.head h hr (t:=v) ω (Int.le_refl _)
  rwa [show Fc (s::r) v 0=⟨c.x,c.y,c.z,1⟩ by
   show Em s (v-s.f) (s.t-s.f)=_
   rw[e2];exact AeE h ω] at this
 |s::s2::l,r,a,m,b,f,e,u,⟨c,v,h,hl⟩,hr,_=>by
  have h1:=Be.pAt_end hl hr (Nat.succ_pos _)
  refine h1.cons ?_
  rw[h.rows.2.2.2.2.1]
  have:=hl.late 0 (Nat.succ_pos _)
  have h2:=hl.times 0 (Nat.succ_pos _)
  omega
theorem AbI {l l' r:List Sg} {a a' m b:V3} {f f' e u t:Int} (h:Be l a m f e) (h':Be l' a' m f' e) (hr:Be r m b e u) (n:0<l.length) (n':0<l'.length) (h1:e<=t) (h2:t<=u):∃P,Zm (l++r) t P/\Zm (l'++r) t P:=by
 by_cases g:t=e
 subst g;exact⟨_,h.pAt_end hr n,h'.pAt_end hr n'⟩
 obtain⟨P,hP⟩:=hr.pAt_ex h1 h2 (hr.pos ω)
 exact⟨P,h.pAt_late ω hP,h'.pAt_late ω hP⟩
abbrev Kr (a:V3):PL:=⟨a.x,a.y,a.z,1⟩
theorem fV {s:Sg} {r:List Sg} {a b:V3} {f v u t:Int} (h:Yp s a a f v) (hr:Be r a b v u) (h1:f<=t) (h2:t<=v):Zm (s::r) t (Kr a):=by
 have:=Zm.head h hr h1 h2
 have e1:=h.rows.2.2.2.1
 have e2:=h.rows.2.2.2.2.1
 have h0:=h.ft
 rwa [show Fc (s::r) t 0=Kr a by
  show Em s (t-s.f) (s.t-s.f)=_
  rw[e2];exact xN h _ ω] at this
theorem Ia.before {p:Pr} {r:Rv} {c:Cs} {x:Rl} (h:Ia p r c x) {t:Int} (h1:0<=t) (h2:t<=Eb p c x):Zm (relP p r c x) t (Kr (Bs r x)):=by
 have hh:=h.hov
 have hg:=h.go.1.app (h.stay.1.app h.tail.1)
 have e:relP p r c x=Ef r p c x++(Je p r c x++(Gj p r c x++Gh p r c x)):=by rw[relP,List.append_assoc,List.append_assoc]
 rw[e]
 revert hh
 match Ef r p c x with
 |[]=>intro hh;exact absurd hh.2 (by simp)
 |[s]=>
  rintro⟨⟨c1,v,hl,e1,e2⟩,_⟩
  subst e1
  subst e2
  exact fV hl hg h1 h2
 |_::_::_=>intro hh;exact absurd hh.2 (by simp)
theorem Zn {p:Pr} {r:Rv} (hp:Vb p) (hr:Ng r) (h0:0<p.acts.length) {i:Nat} (hi:i<r.homes.length) {t:Int} (h1:0<=t) (h2:t<=Av p.acts p.acts.length):Zm (Fe p r i) t (Kr (r.homes.getD i V3.zero))/\Eh (Fe p r i)/\Da (Fe p r i)/\(∃s,Fe p r i=[s]/\s.f=0/\s.t=Av p.acts p.acts.length):=by
 have hb:=bW hp hr h0 hi
 have hc:=Sq (a:=r.homes.getD i V3.zero) (b:=r.homes.getD i V3.zero) (f:=0) (t:=Av p.acts p.acts.length) (.inr ⟨rfl,rfl⟩) (hr.2.1 i hi).1 (hr.2.1 i hi).1 (Int.le_refl 0) (Rd hp _ (Nat.le_refl _) h0) (hp.ends _ (Nat.le_refl _)).2
 have e:Fe p r i=[Qp (r.homes.getD i V3.zero) (r.homes.getD i V3.zero) 0 (Av p.acts p.acts.length) 0]:=by
  show Fr _ _ _ _ _=_
  rw[Fr,if_pos hb]
 have hc':=hc
 rw[show Fr (r.homes.getD i V3.zero) (r.homes.getD i V3.zero) 0 (Av p.acts p.acts.length) 0=[Qp (r.homes.getD i V3.zero) (r.homes.getD i V3.zero) 0 (Av p.acts p.acts.length) 0] from e] at hc'
 have ok:=hc.okP (by rw[show Fr (r.homes.getD i V3.zero) (r.homes.getD i V3.zero) 0 (Av p.acts p.acts.length) 0=_ from e];exact Nat.succ_pos _) (by rw[show Fr (r.homes.getD i V3.zero) (r.homes.getD i V3.zero) 0 (Av p.acts p.acts.length) 0=_ from e];simp)
 refine⟨?_,ok.1,ok.2,_,e,rfl,rfl⟩
 rw[e]
 obtain⟨c1,v,hl,e1,e2⟩:=hc'
 subst e1
 subst e2
 exact fV (r:=[]) hl ⟨rfl,rfl⟩ h1 h2
theorem Ia.behind {p:Pr} {r:Rv} {c:Cs} {x:Rl} (h:Ia p r c x) {t:Int} (h1:De p r c x<=t) (h2:t<=Av p.acts p.acts.length):∃P,Zm (relP p r c x) t P/\Zm (Iw p p.acts.length c.craft.toNat) t P:=by
 have hs:=h.s0
 rw[relP,h.app]
 exact AbI ((h.hov.1.app h.go.1).app h.stay.1) h.own h.tail.1 (((h.hov.1.app h.go.1).app h.stay.1).pos ω) (h.own.pos ω) h1 h2
theorem Ia.there {p:Pr} {r:Rv} {c:Cs} {x:Rl} (h:Ia p r c x):Zm (relP p r c x) (De p r c x) (Kr (atR p r c x)):=by
 have hs:=h.s0
 rw[relP]
 exact((h.hov.1.app h.go.1).app h.stay.1).pAt_end h.tail.1 (((h.hov.1.app h.go.1).app h.stay.1).pos ω)
theorem Ad9 {p:Pr} {r:Rv} {c:Cs} {x:Rl} (h:tI p r c x):x∈Cj p r c:=by
 obtain⟨k,hk,hw⟩:=h.wait
 obtain⟨u,hu,hv⟩:=h.rise
 have hb:dX p r c k=true:=decide_eq_true (by rw[<-hw];exact h.act)
 have hV:Bn p r c k=atR p r c x:=by show oY p c (Nj p c (Lf p r c (r.waits.getD k 0)))=_;rw[<-hw]
 obtain⟨s,t,hst⟩:=AeN r (Bn p r c k) (by have:=h.sp;omega)
 have h1:=h.sp
 have hi:x.spare.toNat<r.homes.length:=by omega
 have ht:=hst _ hi
 have eo:(Ec r (Bn p r c k)).getD (t x.spare.toNat) 0=x.spare.toNat:=by rw[(hst _ ht.1).2.2.2,ht.2.1]
 refine(cJ _).2 ⟨k,hk,hb,(cH _).2 ⟨t x.spare.toNat,ht.1,(cI _).2 ⟨u,hu,?_,?_,?_⟩⟩⟩
 rw[eo,<-hw,<-hv,show (x.spare.toNat:Int)=x.spare by omega]
 rw[eo,<-hv];exact h.l1
 rw[hV,<-hv];exact h.l2
abbrev Ft (r:Rv) (w z:Int) (v:V3):Rv:=⟨r.homes++[v],r.flight,r.waits++[w],r.rises++[z]⟩
theorem Xj {α:Type} {l:List α} {y d:α} {i:Nat} (h:i<l.length):(l++[y]).getD i d=l.getD i d:=by
 rw[List.getD_eq_getElem?_getD,List.getD_eq_getElem?_getD,List.getElem?_append_left h]
theorem qW {α:Type} {l:List α} {y d:α}:(l++[y]).getD l.length d=y:=by
 rw[List.getD_eq_getElem?_getD,List.getElem?_append_right (Nat.le_refl _),Nat.sub_self];rfl
theorem yT {p:Pr} {r:Rv} {c:Cs} {x:Rl} (w z:Int) (v:V3) (h:x∈Cj p r c):x∈Cj p (Ft r w z v) c:=by
 have g:=Wk h
 obtain⟨k,hk,hw⟩:=g.wait
 obtain⟨u,hu,hv⟩:=g.rise
 have h1:=g.sp
 have eh:Bs (Ft r w z v) x=Bs r x:=Xj ω
 exact Ad9 ⟨by show 0<=x.spare/\x.spare<((r.homes++[v]).length:Int);rw[List.length_append,List.length_singleton];omega,⟨k,by show k<(r.waits++[w]).length;rw[List.length_append];omega,hw.trans (Xj hk).symm⟩,g.act,
  ⟨u,by show u<(r.rises++[z]).length;rw[List.length_append];omega,hv.trans (Xj hu).symm⟩,by rw[eh];exact g.l1,g.l2⟩
theorem fZ {p:Pr} {r:Rv} {c:Cs} (hg:Lz p r c) (h:c.act=(p.acts.length:Int)-1):(Cj p r c).length=0:=by
 rcases Nat.eq_zero_or_pos (Cj p r c).length with g|g
 exact g
 have:=(kH hg.1 hg.2 (Wk (x:=(Cj p r c)[0]) (List.getElem_mem g))).act
 have h2:=hg.1.2.2.2
 omega
end Go.Proofs.YtldnjomacnjhnaaGreat
namespace Go.Proofs.YtldnjomacnjhnaaGreat
open Go.Proofs.Tryz
open Go.RowKit
abbrev Ab6 (r:Rv) (w z:Int) (v:V3):AV:= .agg [.slc 3 (r.homes.length+1) λi=>Eg ((r.homes++[v]).getD i V3.zero),.int r.flight,.slc 1 (r.waits.length+1) λi=> .int ((r.waits++[w]).getD i 0),.slc 1 (r.rises.length+1) λi=> .int ((r.rises++[z]).getD i 0)]
theorem nS (r:Rv) (w z:Int) (v:V3):Ie (Ft r w z v)=Ab6 r w z v:=by
 show AV.agg [.slc 3 (r.homes++[v]).length λi=>Eg ((r.homes++[v]).getD i V3.zero),.int r.flight,.slc 1 (r.waits++[w]).length λi=> .int ((r.waits++[w]).getD i 0),.slc 1 (r.rises++[z]).length λi=> .int ((r.rises++[z]).getD i 0)]=_
 rw[List.length_append,List.length_append,List.length_append];rfl
theorem Adp {r:Rv} (w z:Int) (v:V3) (hr:Tz r) (hn:r.homes.length<=9/\r.waits.length<=17/\r.rises.length<=17):Tz (Ft r w z v):=⟨by show (r.homes++[v]).length<=_;rw[List.length_append,List.length_singleton];omega,by show (r.waits++[w]).length<=_;rw[List.length_append,List.length_singleton];omega,by show (r.rises++[z]).length<=_;rw[List.length_append,List.length_singleton];omega,hr.fl⟩
theorem lL {p:Pr} {r:Rv} {c:Cs} {w z:Int} {v:V3} (hp:Kp p) (hr:Tz (Ft r w z v)) (hcs:Oo c) (hg:Lz p (Ft r w z v) c):AF Tryz.prog 18 [Ff p,Ab6 r w z v,Ja c] (.tup [Ts (Cj p (Ft r w z v) c),.int 0]):=by
 rw[<-nS];exact Nl p _ c hp hr hcs hg
theorem hZ {p:Pr} {r:Rv} {c:Cs} {w z:Int} {v:V3} (hp:Kp p) (hr:Tz (Ft r w z v)) (hcs:Oo c) (hg:¬Lz p (Ft r w z v) c):AF Tryz.prog 18 [Ff p,Ab6 r w z v,Ja c] (.lit (.tuple #[.slice none 0 0,.int .i64 2])):=by
 rw[<-nS];exact Oe p _ c hp hr hcs hg
abbrev xR (p:Pr) (r:Rv) (c:Cs) (j:Nat):Rl:=(Cj p r c).getD j Rl.none
theorem dK {p:Pr} {r:Rv} {c:Cs} {j:Nat} (h:j<(Cj p r c).length):xR p r c j∈Cj p r c:=by
 show (Cj p r c).getD j Rl.none∈_
 rw[List.getD_eq_getElem?_getD,List.getElem?_eq_getElem h];exact List.getElem_mem h
theorem nF {p:Pr} {r:Rv} {c:Cs} {x:Rl} (h:tI p r c x):oX p r c x.wait:=by
 obtain⟨k,hk,hw⟩:=h.wait
 exact⟨⟨k,hk,hw.symm⟩,h.act⟩
theorem uI {a:Int} (h0:0<=a) (h1:a<=7200000):IntKind.wrap .i64 (Int.tdiv a 2)=a/2:=by
 rw[Int.tdiv_eq_ediv_of_nonneg h0]
 exact IntWalk.i64_in _ ω
theorem Cu {l:List Sg} {t:Int} {P:PL} (ok:Eh l) (pin:Da l) (ht:(l.getD 0 Sg.none).f<=t/\t<=(l.getD (l.length-1) Sg.none).t) (h:Zm l t P):AF Tryz.prog 30 [Ai l,.int t] (.lit (.tuple #[.agg #[.bool (decide (P.x<0)),.string (Dx (P.x).natAbs),.bool (decide (P.y<0)),.string (Dx (P.y).natAbs),.bool (decide (P.z<0)),.string (Dx (P.z).natAbs),.bool (decide (P.o<0)),.string (Dx (P.o).natAbs)],.int .i64 0])):=by
 obtain⟨i,h1,h2,h3,h4,rfl⟩:=h
 exact lF l pin ok t ht i h1 h2 h3 h4
theorem Aal {l:List Sg} {t:Int} {a:V3} (ok:Eh l) (pin:Da l) (ht:(l.getD 0 Sg.none).f<=t/\t<=(l.getD (l.length-1) Sg.none).t) (h:Zm l t (Kr a)) (ha:a.pt=true):AF Tryz.prog 31 [Ai l,.int t] (.lit (.tuple #[pH a,.int .i64 0])):=by
 obtain⟨i,h1,h2,h3,h4,h5⟩:=h
 have q:=(Lb _ _ _).1 ha
 have e:rdL (Kr a)=a:=by
  obtain⟨x,y,z⟩:=a
  show V3.mk ((x+x+1)/(1+1)) ((y+y+1)/(1+1)) ((z+z+1)/(1+1))=V3.mk x y z
  congr 1<;>omega
 have:=Afs l pin ok t ht i h1 h2 h3 h4 (by rw[h5];show (1:Int)+1≠0;decide) (by rw[h5,e];omega) (by rw[h5,e];omega) (by rw[h5,e];omega)
 rwa [h5,e] at this
theorem dO (p:Pr) (r:Rv) (c:Cs) (k w z:Int) (v:V3) (hl:∀a∈p.acts,Cm a.len) (hf:Cm r.flight) (hcs:Oo c) (hk:0<=k/\k<=255):AF Tryz.prog 8 [Ff p,Ie r,Ja c,.lit (.int .u8 k),.int w,.int z,Eg v] (.bool true):=by
 refine Cr func8 rfl λB D0 hA0=>?_
 refine Ae 13 (Cf (Aan p 4 5 ⟨δ,δ⟩ ⟨δ,δ⟩) (Ae 2 (pN 55 (bP (Aew p 4 5)) (λhx1=>?_) (λhx1=>?_))))
 ·
  refine Ae 1 (Cf (Aao r) (Ae 4 (pN 59 (bP (lR r)) (λhx2=>?_) (λhx2=>?_))))
  ·
   refine Ae 8 ?_
   refine Fm (bP (Hy p c)) (λhx3=>?_) (λhx3=>?_)
   ·
    refine Fm (bP (Ng r)) (λhx4=>?_) (λhx4=>?_)
    ·
     have hp:=(qV (Ib hx1) δ δ hl)
     have hr:=(lR.inn (Ib hx2) hf)
     have hg:Lz p r c:=⟨Ib hx3,Ib hx4⟩
     have hp5:p.acts.length<=5:=by have:=(Ib hx1).2.2.1;omega
     have hrl:=cM (p:=p) hg.2 c
     have hfr:=Ib hx2
     have hrM:=Adp w z v hr hfr
     have hn0:=hg.2.1
     have hn1:=hg.2.2.2.1.1
     have hn2:=hg.2.2.2.2.1
     have hca:=hg.1.2
     unfold lR at hfr
     refine Cf (Nl p r c hp hr hcs hg) (Ae 18 (Jb [(2,.osl 4 3 r.homes.length,(.new 4 (.vec 36 3 r.homes.length (λi0=>Eg (r.homes.getD i0 V3.zero))))),(4,.osl 5 3 1,(.new 5 (.vec 36 3 1 (λ_=>Eg v)))),(5,.osl 6 3 (r.homes.length+1),(.grow2 4 5 6 (.vec 36 3 (r.homes.length+1) (λi=>Eg ((r.homes++[v]).getD i V3.zero))))),(10,.osl 7 1 r.waits.length,(.new 7 (.vec 3 1 r.waits.length (λi0=> .int ((r.waits).getD i0 0))))),(12,.osl 8 1 1,(.new 8 (.vec 3 1 1 (λ_=> .int w)))),(13,.osl 9 1 (r.waits.length+1),(.grow2 7 8 9 (.vec 3 1 (r.waits.length+1) (λi=> .int ((r.waits++[w]).getD i 0))))),(16,.osl 10 1 r.rises.length,(.new 10 (.vec 3 1 r.rises.length (λi0=> .int ((r.rises).getD i0 0))))),(18,.osl 11 1 1,(.new 11 (.vec 3 1 1 (λ_=> .int z)))),(19,.osl 12 1 (r.rises.length+1),(.grow2 10 11 12 (.vec 3 1 (r.rises.length+1) (λi=> .int ((r.rises++[z]).getD i 0)))))] [3,7,8,9,15,17] ⟨Au (Fh.wk (Ko (.const (.slice none 0 0)) (.tmp 76) 22 κ underlying22 3 24 (.agg #[.int .i64 0,.int .i64 0,.int .i64 0]) κ κ δ r.homes.length ω (λi0=>Eg (r.homes.getD i0 V3.zero)) (λi0=>Eg (r.homes.getD i0 V3.zero)) 4 (λi hi=>rfl) (λi hi j hj=>match j,hj with|0,_=>rfl|1,_=>rfl|2,_=>rfl|_+3,h=>absurd h ω) (by unfold maxLen;omega) ω κ κ)),Au (Aj 22 1 #[(0,(.tmp 78))] κ underlying22 3 sizeOf36 _ zeroValue36 κ β β β 5 [.int v.x,.int v.y,.int v.z] κ (λ_=>Eg v) κ),Au (Ce (.tmp 77) (.tmp 79) 22 κ underlying22 3 24 (.agg #[.int .i64 0,.int .i64 0,.int .i64 0]) κ κ δ r.homes.length 1 ω (λi0=>Eg (r.homes.getD i0 V3.zero)) (λ_=>Eg v) (λi=>Eg ((r.homes++[v]).getD i V3.zero)) 6 ω (by unfold maxLen;omega) (λi hi=>by show Eg _=Eg _;rw[Xj hi]) (λi hi=>by(obtain rfl:i=0:=(ω));show _=Eg _;rw[Nat.add_zero,qW]) (λi hi j hj=>match j,hj with|0,_=>rfl|1,_=>rfl|2,_=>rfl|_+3,h=>absurd h ω) 4 κ κ 5 36 κ κ),Au (Fh.wk (Ko (.const (.slice none 0 0)) (.tmp 84) 23 κ underlying23 1 8 (.int .i64 0) κ κ δ r.waits.length ω (λi0=> .int ((r.waits).getD i0 0)) (λi0=> .int ((r.waits).getD i0 0)) 7 (λi hi=>rfl) (λi hi j hj=>by obtain rfl:j=0:=(ω);rfl) (by unfold maxLen;omega) ω κ κ)),Au (Aj 23 1 #[(0,(.tmp 86))] κ underlying23 1 sizeOf3 _ zeroValue3 κ β β β 8 [.int w] κ (λ_=> .int w) κ),Au (Ce (.tmp 85) (.tmp 87) 23 κ underlying23 1 8 (.int .i64 0) κ κ δ r.waits.length 1 ω (λi0=> .int ((r.waits).getD i0 0)) (λ_=> .int w) (λi=> .int ((r.waits++[w]).getD i 0)) 9 ω (by unfold maxLen;omega) (λi hi=>by show AV.int _=AV.int _;rw[Xj hi]) (λi hi=>by(obtain rfl:i=0:=(ω));show _=AV.int _;rw[Nat.add_zero,qW]) (λi hi j hj=>by obtain rfl:j=0:=(ω);rfl) 7 κ κ 8 3 κ κ),Au (Fh.wk (Ko (.const (.slice none 0 0)) (.tmp 90) 23 κ underlying23 1 8 (.int .i64 0) κ κ δ r.rises.length ω (λi0=> .int ((r.rises).getD i0 0)) (λi0=> .int ((r.rises).getD i0 0)) 10 (λi hi=>rfl) (λi hi j hj=>by obtain rfl:j=0:=(ω);rfl) (by unfold maxLen;omega) ω κ κ)),Au (Aj 23 1 #[(0,(.tmp 92))] κ underlying23 1 sizeOf3 _ zeroValue3 κ β β β 11 [.int z] κ (λ_=> .int z) κ),Au (Ce (.tmp 91) (.tmp 93) 23 κ underlying23 1 8 (.int .i64 0) κ κ δ r.rises.length 1 ω (λi0=> .int ((r.rises).getD i0 0)) (λ_=> .int z) (λi=> .int ((r.rises++[z]).getD i 0)) 12 ω (by unfold maxLen;omega) (λi hi=>by show AV.int _=AV.int _;rw[Xj hi]) (λi hi=>by(obtain rfl:i=0:=(ω));show _=AV.int _;rw[Nat.add_zero,qW]) (λi hi j hj=>by obtain rfl:j=0:=(ω);rfl) 10 κ κ 11 3 κ κ),trivial⟩ (Ae 2 (gQ 6 13 0 36 3 (r.homes.length+1) (λi=>Eg ((r.homes++[v]).getD i V3.zero)) (Gl λ_ _=>rfl) (gQ 9 13 2 3 1 (r.waits.length+1) (λi=> .int ((r.waits++[w]).getD i 0)) (Gl λ_ _=>rfl) (gQ 12 13 3 3 1 (r.rises.length+1) (λi=> .int ((r.rises++[z]).getD i 0)) (Gl λ_ _=>rfl) (Ae 5 ?_)))))))
     refine Fm (bP (Ng (Ft r w z v))) (λhx5=>?_) (λhx5=>?_)
     ·
      have hlm:=cM (p:=p) (Ib hx5) c
      refine Cf (lL hp hrM hcs ⟨hg.1,Ib hx5⟩) (Ae 20 (Pe [3,7,8,9,15,18,20] ((Cj p r c).length) (λi=>True) (λi=>⟨[(3,.lit (.int .u8 k)),(7,.ptr 0 0),(8,.ptr 1 0),(9,.ptr 2 0),(15,Ts (Cj p r c)),(18,Ts (Cj p (Ft r w z v) c)),(20,.int (i:Int))],[(0,.box 31 [Fd p.names,Hn p.homes,Gq p.acts]),(1,.box 25 [Qn r.homes,.int r.flight,Fi r.waits,Fi r.rises]),(2,.box 33 [.int c.craft,.int c.act]),(3,.box 36 [.int v.x,.int v.y,.int v.z]),(5,.vec 36 3 1 (λ_=>Eg v)),(8,.vec 3 1 1 (λ_=> .int w)),(11,.vec 3 1 1 (λ_=> .int z)),(13,.box 25 [.slc 3 (r.homes.length+1) (λi=>Eg ((r.homes++[v]).getD i V3.zero)),.int r.flight,.slc 1 (r.waits.length+1) (λi=> .int ((r.waits++[w]).getD i 0)),.slc 1 (r.rises.length+1) (λi=> .int ((r.rises++[z]).getD i 0))])],14,362⟩) trivial (λi hin hFi J1 hJ1=>?_)))
      refine Ae 9 (Gi 108 ((i:Int)<((Cj p r c).length:Int)) (λhx6 hx6d=>?_) (λhx6 hx6d=>?_))
      ·
       refine Ae 17 (dN [3,7,8,9,15,18,20,21,22] (λm s=>∃n b,m=(Cj p (Ft r w z v) c).length-n/\(b=bP (bA (Cj p (Ft r w z v) c) (xR p r c i) n)/\n<=(Cj p (Ft r w z v) c).length)/\s=⟨[(3,.lit (.int .u8 k)),(7,.ptr 0 0),(8,.ptr 1 0),(9,.ptr 2 0),(15,Ts (Cj p r c)),(18,Ts (Cj p (Ft r w z v) c)),(20,.int (i:Int)),(21,.bool b),(22,.int (n:Int))],[(0,.box 31 [Fd p.names,Hn p.homes,Gq p.acts]),(1,.box 25 [Qn r.homes,.int r.flight,Fi r.waits,Fi r.rises]),(2,.box 33 [.int c.craft,.int c.act]),(3,.box 36 [.int v.x,.int v.y,.int v.z]),(5,.vec 36 3 1 (λ_=>Eg v)),(8,.vec 3 1 1 (λ_=> .int w)),(11,.vec 3 1 1 (λ_=> .int z)),(13,.box 25 [.slc 3 (r.homes.length+1) (λi=>Eg ((r.homes++[v]).getD i V3.zero)),.int r.flight,.slc 1 (r.waits.length+1) (λi=> .int ((r.waits++[w]).getD i 0)),.slc 1 (r.rises.length+1) (λi=> .int ((r.rises++[z]).getD i 0))])],14,362⟩) ((Cj p (Ft r w z v) c).length-0) ⟨0,false,rfl,⟨(Bq λ⟨q,h,_⟩=>absurd h (Nat.not_lt_zero q)).symm,Nat.zero_le _⟩,κ⟩ ?_)
       rintro _ _ ⟨n,b,rfl,hF,rfl⟩ J2 hJ2
       refine Ae 9 (Gi 114 ((n:Int)<(((Cj p (Ft r w z v) c).length:Nat):Int)) (λhx7 hx7d=>?_) (λhx7 hx7d=>?_))
       ·
        refine Ae 5 ?_
        refine Fm b (λhx8=>?_) (λhx8=>?_)
        ·
         exact Jb [(0,.bool true,.none)] [3,7,8,9,15,18,20,21,22] ⟨kbD hx8,trivial⟩ (Ae 4 (Ep ((n:Int)+1) ((n+1:Nat):Int) (Ae 2 (Om [3,7,8,9,15,18,20,21,22] (hJ2 _ _ (by omega:(Cj p (Ft r w z v) c).length-(n+1)<(Cj p (Ft r w z v) c).length-n) ⟨n+1,true,rfl,⟨AeC hF.1 hx8,ω⟩,rfl⟩)))))
        ·
         exact Jb [(0,.bool false,.none),(4,Hr (Ts (Cj p (Ft r w z v) c)) n,.none),(8,Hr (Ts (Cj p r c)) i,.none),(10,.bool (decide (((Cj p (Ft r w z v) c).getD n Rl.none).spare=(xR p r c i).spare/\((Cj p (Ft r w z v) c).getD n Rl.none).wait=(xR p r c i).wait/\((Cj p (Ft r w z v) c).getD n Rl.none).rise=(xR p r c i).rise)),.none)] [3,7,8,9,15,18,20,21,22] ⟨kbD hx8,Tg n ((Cj p (Ft r w z v) c).length),Tg i ((Cj p r c).length),Au (Sv 52 52 (.tmp 122) (.tmp 126) κ _ _ κ κ κ (decide (((Cj p (Ft r w z v) c).getD n Rl.none).spare=(xR p r c i).spare/\((Cj p (Ft r w z v) c).getD n Rl.none).wait=(xR p r c i).wait/\((Cj p (Ft r w z v) c).getD n Rl.none).rise=(xR p r c i).rise)) (mN _ _ _ _ _ _)),trivial⟩ (Ae 4 (Ep ((n:Int)+1) ((n+1:Nat):Int) (Ae 2 (Om [3,7,8,9,15,18,20,21,22] (hJ2 _ _ (by omega:(Cj p (Ft r w z v) c).length-(n+1)<(Cj p (Ft r w z v) c).length-n) ⟨n+1,decide (((Cj p (Ft r w z v) c).getD n Rl.none).spare=(xR p r c i).spare/\((Cj p (Ft r w z v) c).getD n Rl.none).wait=(xR p r c i).wait/\((Cj p (Ft r w z v) c).getD n Rl.none).rise=(xR p r c i).rise),rfl,⟨Ae9 hF.1 hx8,ω⟩,rfl⟩)))))
       ·
        refine Ae 6 ?_
        have hne:n=(Cj p (Ft r w z v) c).length:=by omega
        subst hne
        have hb:b=true:=hF.1.trans (Dz (nE.2 (yT w z v (dK ω))))
        exact Ae 6 (Gv 130 (!b) false (by rw[hb];rfl) (Ae 6 (Ep ((i:Int)+1) ((i+1:Nat):Int) (Ae 2 (Om [3,7,8,9,15,18,20] (hJ1 ω trivial))))))
      ·
       refine Ae 14 (Ep ((p.acts.length:Int)-1) ((p.acts.length-1:Nat):Int) (Ae 2 (Gi 138 (c.act=((p.acts.length-1:Nat):Int)) (λhx9 hx9d=>?_) (λhx9 hx9d=>?_))))
       ·
        have hz:=fZ hg ω
        exact Ae 14 (Ep ((p.acts.length:Int)-1) ((p.acts.length-1:Nat):Int) (Ae 1 (Gv 149 (decide (c.act<((p.acts.length-1:Nat):Int))) false (decide_eq_false ω) (Ae 4 (Gv 153 (decide (((Cj p r c).length:Int)=0)) true (decide_eq_true ω) (Ae 2 (Cf Gw (Ae 6 (Gd)))))))))
       ·
        refine Ae 6 (Gi 142 (((Cj p r c).length:Int)=0) (λhx10 hx10d=>?_) (λhx10 hx10d=>?_))
        ·
         exact Ae 8 (Ep ((p.acts.length:Int)-1) ((p.acts.length-1:Nat):Int) (Ae 1 (Gv 149 (decide (c.act<((p.acts.length-1:Nat):Int))) true (decide_eq_true ω) (Ae 6 (Cf Gw (Ae 6 (Gd)))))))
        ·
         refine Ae 3 ?_
         obtain⟨j,hj,hjt⟩:=vT (k:=k) (n:=(Cj p r c).length) ω ω
         have hra:=Wk (dK hj)
         have hro:=kH hg.1 hg.2 hra
         have hsp:=hro.sp
         have hs0:=hro.s0
         have hac:=hro.act
         have hst:Eb p c (xR p r c j)=Ao p c+(xR p r c j).wait:=rfl
         have hwt:=hro.wait
         have hlr:=hro.len hp5
         obtain⟨rok,rin⟩:=hro.chain.okP ω ω
         have rf:=hro.chain.first ω
         have rt:=hro.chain.last ω
         have ook:=rS hg.1.1 ω (i:=c.craft.toNat) ω
         have of:=ook.first
         have ot:=ook.last
         have hce:=(Du hg.1.1).ends (c.act.toNat+1) ω
         have hced:Ao p c=Av p.acts (c.act.toNat+1):=rfl
         obtain⟨_,kok,kin,s,ks,ks1,ks2⟩:=Zn (Du hg.1.1) hg.2 ω (i:=(xR p r c j).spare.toNat) ω (t:=0) (Int.le_refl 0) ω
         have kf:((Fe p r (xR p r c j).spare.toNat).getD 0 Sg.none).f=0:=by rw[ks];exact ks1
         have kt:((Fe p r (xR p r c j).spare.toNat).getD ((Fe p r (xR p r c j).spare.toNat).length-1) Sg.none).t=Av p.acts p.acts.length:=by rw[ks];exact ks2
         have hpk:∀t,0<=t->t<=Av p.acts p.acts.length->Zm (Fe p r (xR p r c j).spare.toNat) t (Kr (Bs r (xR p r c j))):=λt a b=>(Zn (Du hg.1.1) hg.2 ω ω a b).1
         refine Ae 4 (Ip (.int .i64 (IntKind.wrap .i64 k)) (.int .i64 k) ?_ (congrArg (Value.int .i64) (IntWalk.i64_in _ ω)))
         refine Ae 2 (Bk (.int (j:Int)) .none (uZ 3 3 (.tmp 160) (.tmp 162) κ k ((Cj p r c).length:Int) (j:Int) κ κ ω hjt) (Fl j ((Cj p r c).length) (Ae 12 (Cf (Pk p r c (xR p r c j).wait hp hr hcs hg (nF hra)) (Ae 16 (Cf (Tw p r c (xR p r c j) hp hr hcs hg hp5 (dK hj)) (Ae 11 (Cf (Uw p r hp hr hg.1.1 hg.2 ω) (Ae 12 (Cf (Mb p c hp hg.1) (Ae 35 (Gv 218 (decide (((Ll p r c (xR p r c j)):Int)<=c.act)) false (decide_eq_false ω) (Ae 7 (Gv 225 (decide ((p.acts.length:Int)<=((Ll p r c (xR p r c j)):Int))) false (decide_eq_false ω) (Ae 5 (Gv 230 (decide ((xR p r c j).spare<0)) false (decide_eq_false ω) (Ae 7 (Gv 237 (decide ((r.homes.length:Int)<=(xR p r c j).spare)) false (decide_eq_false ω) (Ae 9 (Cf (Zb (relP p r c (xR p r c j)) rin rok) (Ae 10 (Jb [(2,_,.none),(7,.int ((p.acts.length-1:Nat):Int),.none),(8,_,.none)] [7,9,23,25,27,29,31,33,34,35,36,37] ⟨El (Qr p hp (Du hg.1.1) (Ll p r c (xR p r c j)) hro.act.2),Au (Bx (v:= .int .i64 (IntKind.wrap .i64 ((p.acts.length:Int)-1))) (v':= .int .i64 ((p.acts.length-1:Nat):Int)) _ κ rfl κ (λw=>by kernel_rfl) (congrArg (Value.int .i64) ((IntWalk.i64_in _ ω).trans ω))),El (by have:=Qr p hp (Du hg.1.1) (p.acts.length-1) ω;rwa [show p.acts.length-1+1=p.acts.length by omega] at this),trivial⟩ (Ae 9 (Gv 258 (!decide (((relP p r c (xR p r c j)).getD 0 Sg.none).f=0)) false (congrArg (!·) (decide_eq_true rf)) (Ae 5 (Gv 263 (!decide (((relP p r c (xR p r c j)).getD ((relP p r c (xR p r c j)).length-1) Sg.none).t=Av p.acts p.acts.length)) false (congrArg (!·) (decide_eq_true rt)) (Ae 8 (Jb [(3,_,.none),(7,_,.none),(10,.int (Ao p c+(xR p r c j).wait),.none),(11,.osl 16 1 3,(.new 16 (.vec 3 1 3 (λxi=>[.int 0,.int (Ao p c),.int (Ao p c+(xR p r c j).wait)].getD xi .top))))] [23,25,27,29,31,36,37,276,277,278] ⟨El (Sj p c hp hg.1),El (Sj p c hp hg.1),Au (Bx (v:= .int .i64 (IntKind.wrap .i64 (Ao p c+(xR p r c j).wait))) (v':= .int .i64 (Ao p c+(xR p r c j).wait)) _ κ rfl κ (λw=>by kernel_rfl) (congrArg (Value.int .i64) ((IntWalk.i64_in _ ω).trans ω))),Au (Aj 23 3 #[(0,(.const (.int .i64 0))),(1,(.tmp 268)),(2,(.tmp 275))] κ underlying23 1 sizeOf3 _ zeroValue3 κ β β β 16 [.int 0,.int (Ao p c),.int (Ao p c+(xR p r c j).wait)] κ (λxi=>[.int 0,.int (Ao p c),.int (Ao p c+(xR p r c j).wait)].getD xi .top) κ),trivial⟩ (Ae 2 (pO 3 (Ae 13 (Fl 0 3 (Bk (.int 0) (.read 16) (Bg 3 (.tmp 280) κ isAgg3 16 0 0 1 κ 3 3 (λxi=>[.int 0,.int (Ao p c),.int (Ao p c+(xR p r c j).wait)].getD xi .top) κ ω δ) (Ae 7 (Cf (Cu rok rin ω (hro.before (t:=0) ω ω)) (Ae 13 (sR ((xR p r c j).spare) ((xR p r c j).spare).toNat r.homes.length (Ae 2 (Cf (Cu kok kin ω (hpk 0 ω ω)) (Ae 19 (Bk (.bool (!(decide ((Kr (Bs r (xR p r c j)))=(Kr (Bs r (xR p r c j))))))) .none (Gs 72 72 (.tmp 305) (.tmp 306) κ _ _ κ κ κ (decide ((Kr (Bs r (xR p r c j)))=(Kr (Bs r (xR p r c j))))) (It (Kr (Bs r (xR p r c j))) (Kr (Bs r (xR p r c j))))) (Ae 3 (Gv 308 (!(decide ((Kr (Bs r (xR p r c j)))=(Kr (Bs r (xR p r c j)))))) false (congrArg (!·) (decide_eq_true rfl)) (Ae 5 (Ip (.int .i64 1) (.int .i64 1) (Ae 16 (Fl 1 3 (Bk (.int (Ao p c)) (.read 16) (Bg 3 (.tmp 280) κ isAgg3 16 1 0 1 κ 3 3 (λxi=>[.int 0,.int (Ao p c),.int (Ao p c+(xR p r c j).wait)].getD xi .top) κ ω δ) (Ae 7 (Cf (Cu rok rin ω (hro.before (t:=Ao p c) ω ω)) (Ae 13 (sR ((xR p r c j).spare) ((xR p r c j).spare).toNat r.homes.length (Ae 2 (Cf (Cu kok kin ω (hpk (Ao p c) ω ω)) (Ae 19 (Bk (.bool (!(decide ((Kr (Bs r (xR p r c j)))=(Kr (Bs r (xR p r c j))))))) .none (Gs 72 72 (.tmp 305) (.tmp 306) κ _ _ κ κ κ (decide ((Kr (Bs r (xR p r c j)))=(Kr (Bs r (xR p r c j))))) (It (Kr (Bs r (xR p r c j))) (Kr (Bs r (xR p r c j))))) (Ae 3 (Gv 308 (!(decide ((Kr (Bs r (xR p r c j)))=(Kr (Bs r (xR p r c j)))))) false (congrArg (!·) (decide_eq_true rfl)) (Ae 5 (Ip (.int .i64 2) (.int .i64 2) (Ae 16 (Fl 2 3 (Bk (.int (Ao p c+(xR p r c j).wait)) (.read 16) (Bg 3 (.tmp 280) κ isAgg3 16 2 0 1 κ 3 3 (λxi=>[.int 0,.int (Ao p c),.int (Ao p c+(xR p r c j).wait)].getD xi .top) κ ω δ) (Ae 7 (Cf (Cu rok rin ω (hro.before (t:=Ao p c+(xR p r c j).wait) ω ω)) (Ae 13 (sR ((xR p r c j).spare) ((xR p r c j).spare).toNat r.homes.length (Ae 2 (Cf (Cu kok kin ω (hpk (Ao p c+(xR p r c j).wait) ω ω)) (Ae 19 (Bk (.bool (!(decide ((Kr (Bs r (xR p r c j)))=(Kr (Bs r (xR p r c j))))))) .none (Gs 72 72 (.tmp 305) (.tmp 306) κ _ _ κ κ κ (decide ((Kr (Bs r (xR p r c j)))=(Kr (Bs r (xR p r c j))))) (It (Kr (Bs r (xR p r c j))) (Kr (Bs r (xR p r c j))))) (Ae 3 (Gv 308 (!(decide ((Kr (Bs r (xR p r c j)))=(Kr (Bs r (xR p r c j)))))) false (congrArg (!·) (decide_eq_true rfl)) (Ae 5 (Ip (.int .i64 3) (.int .i64 3) (Ae 16 ?_))))))))))))))))))))))))))))))))))))))))))))))))))))))))))))))))))))))))))))
         obtain⟨P1,q1,q1o⟩:=hro.behind (t:=De p r c (xR p r c j)) ω ω
         obtain⟨P2,q2,q2o⟩:=hro.behind (t:=(De p r c (xR p r c j)+Av p.acts p.acts.length)/2) ω ω
         obtain⟨P3,q3,q3o⟩:=hro.behind (t:=Av p.acts p.acts.length) ω ω
         refine Ae 5 (Ep (De p r c (xR p r c j)+Av p.acts p.acts.length) (De p r c (xR p r c j)+Av p.acts p.acts.length) (Ip (.int .i64 (IntKind.wrap .i64 (Int.tdiv (De p r c (xR p r c j)+Av p.acts p.acts.length) 2))) (.int .i64 ((De p r c (xR p r c j)+Av p.acts p.acts.length)/2)) ?_ (congrArg (Value.int .i64) (uI ω ω))))
         exact Ae 1 (Bk (.osl 23 1 3) (.new 23 (.vec 3 1 3 (λxi=>[.int (De p r c (xR p r c j)),.int ((De p r c (xR p r c j)+Av p.acts p.acts.length)/2),.int (Av p.acts p.acts.length)].getD xi .top))) (Aj 23 3 #[(0,(.tmp 310)),(1,(.tmp 314)),(2,(.tmp 315))] κ underlying23 1 sizeOf3 _ zeroValue3 κ β β β 23 [.int (De p r c (xR p r c j)),.int ((De p r c (xR p r c j)+Av p.acts p.acts.length)/2),.int (Av p.acts p.acts.length)] κ (λxi=>[.int (De p r c (xR p r c j)),.int ((De p r c (xR p r c j)+Av p.acts p.acts.length)/2),.int (Av p.acts p.acts.length)].getD xi .top) κ) (Ae 5 (pO 3 (Ae 13 (Fl 0 3 (Bk (.int (De p r c (xR p r c j))) (.read 23) (Bg 3 (.tmp 320) κ isAgg3 23 0 0 1 κ 3 3 (λxi=>[.int (De p r c (xR p r c j)),.int ((De p r c (xR p r c j)+Av p.acts p.acts.length)/2),.int (Av p.acts p.acts.length)].getD xi .top) κ ω δ) (Ae 7 (Cf (Cu rok rin ω q1) (Ae 12 (Cf (Cu ook.ok ook.pin ω q1o) (Ae 19 (Bk (.bool (!(decide (P1=P1)))) .none (Gs 72 72 (.tmp 341) (.tmp 342) κ _ _ κ κ κ (decide (P1=P1)) (It P1 P1)) (Ae 3 (Gv 344 (!(decide (P1=P1))) false (congrArg (!·) (decide_eq_true rfl)) (Ae 5 (Ip (.int .i64 1) (.int .i64 1) (Ae 16 (Fl 1 3 (Bk (.int ((De p r c (xR p r c j)+Av p.acts p.acts.length)/2)) (.read 23) (Bg 3 (.tmp 320) κ isAgg3 23 1 0 1 κ 3 3 (λxi=>[.int (De p r c (xR p r c j)),.int ((De p r c (xR p r c j)+Av p.acts p.acts.length)/2),.int (Av p.acts p.acts.length)].getD xi .top) κ ω δ) (Ae 7 (Cf (Cu rok rin ω q2) (Ae 12 (Cf (Cu ook.ok ook.pin ω q2o) (Ae 19 (Bk (.bool (!(decide (P2=P2)))) .none (Gs 72 72 (.tmp 341) (.tmp 342) κ _ _ κ κ κ (decide (P2=P2)) (It P2 P2)) (Ae 3 (Gv 344 (!(decide (P2=P2))) false (congrArg (!·) (decide_eq_true rfl)) (Ae 5 (Ip (.int .i64 2) (.int .i64 2) (Ae 16 (Fl 2 3 (Bk (.int (Av p.acts p.acts.length)) (.read 23) (Bg 3 (.tmp 320) κ isAgg3 23 2 0 1 κ 3 3 (λxi=>[.int (De p r c (xR p r c j)),.int ((De p r c (xR p r c j)+Av p.acts p.acts.length)/2),.int (Av p.acts p.acts.length)].getD xi .top) κ ω δ) (Ae 7 (Cf (Cu rok rin ω q3) (Ae 12 (Cf (Cu ook.ok ook.pin ω q3o) (Ae 19 (Bk (.bool (!(decide (P3=P3)))) .none (Gs 72 72 (.tmp 341) (.tmp 342) κ _ _ κ κ κ (decide (P3=P3)) (It P3 P3)) (Ae 3 (Gv 344 (!(decide (P3=P3))) false (congrArg (!·) (decide_eq_true rfl)) (Ae 5 (Ip (.int .i64 3) (.int .i64 3) (Ae 19 (Cf (Aal rok rin ω hro.there hro.ap) (Ae 15 (Bk (.bool (decide ((atR p r c (xR p r c j)).x=(atR p r c (xR p r c j)).x/\(atR p r c (xR p r c j)).y=(atR p r c (xR p r c j)).y/\(atR p r c (xR p r c j)).z=(atR p r c (xR p r c j)).z))) .none (Sv 36 36 (.tmp 355) (.tmp 356) κ _ _ κ κ κ (decide ((atR p r c (xR p r c j)).x=(atR p r c (xR p r c j)).x/\(atR p r c (xR p r c j)).y=(atR p r c (xR p r c j)).y/\(atR p r c (xR p r c j)).z=(atR p r c (xR p r c j)).z)) (aT _ _ _ _ _ _)) (Ae 2 (Gv 359 (decide ((atR p r c (xR p r c j)).x=(atR p r c (xR p r c j)).x/\(atR p r c (xR p r c j)).y=(atR p r c (xR p r c j)).y/\(atR p r c (xR p r c j)).z=(atR p r c (xR p r c j)).z)) true (decide_eq_true ⟨rfl,rfl,rfl⟩) (Cf Gw (Ae 5 (Gd)))))))))))))))))))))))))))))))))))))))))))))))))))
     ·
      refine Cf (hZ hp hrM hcs λg=>Qy hx5 g.2) (Ae 24 (Ep ((p.acts.length:Int)-1) ((p.acts.length-1:Nat):Int) (Ae 2 (Gi 138 (c.act=((p.acts.length-1:Nat):Int)) (λhx11 hx11d=>?_) (λhx11 hx11d=>?_)))))
      ·
       have hz:=fZ hg ω
       exact Ae 14 (Ep ((p.acts.length:Int)-1) ((p.acts.length-1:Nat):Int) (Ae 1 (Gv 149 (decide (c.act<((p.acts.length-1:Nat):Int))) false (decide_eq_false ω) (Ae 4 (Gv 153 (decide (((Cj p r c).length:Int)=0)) true (decide_eq_true ω) (Ae 2 (Cf Gw (Ae 6 (Gd)))))))))
      ·
       refine Ae 6 (Gi 142 (((Cj p r c).length:Int)=0) (λhx12 hx12d=>?_) (λhx12 hx12d=>?_))
       ·
        exact Ae 8 (Ep ((p.acts.length:Int)-1) ((p.acts.length-1:Nat):Int) (Ae 1 (Gv 149 (decide (c.act<((p.acts.length-1:Nat):Int))) true (decide_eq_true ω) (Ae 6 (Cf Gw (Ae 6 (Gd)))))))
       ·
        refine Ae 3 ?_
        obtain⟨j,hj,hjt⟩:=vT (k:=k) (n:=(Cj p r c).length) ω ω
        have hra:=Wk (dK hj)
        have hro:=kH hg.1 hg.2 hra
        have hsp:=hro.sp
        have hs0:=hro.s0
        have hac:=hro.act
        have hst:Eb p c (xR p r c j)=Ao p c+(xR p r c j).wait:=rfl
        have hwt:=hro.wait
        have hlr:=hro.len hp5
        obtain⟨rok,rin⟩:=hro.chain.okP ω ω
        have rf:=hro.chain.first ω
        have rt:=hro.chain.last ω
        have ook:=rS hg.1.1 ω (i:=c.craft.toNat) ω
        have of:=ook.first
        have ot:=ook.last
        have hce:=(Du hg.1.1).ends (c.act.toNat+1) ω
        have hced:Ao p c=Av p.acts (c.act.toNat+1):=rfl
        obtain⟨_,kok,kin,s,ks,ks1,ks2⟩:=Zn (Du hg.1.1) hg.2 ω (i:=(xR p r c j).spare.toNat) ω (t:=0) (Int.le_refl 0) ω
        have kf:((Fe p r (xR p r c j).spare.toNat).getD 0 Sg.none).f=0:=by rw[ks];exact ks1
        have kt:((Fe p r (xR p r c j).spare.toNat).getD ((Fe p r (xR p r c j).spare.toNat).length-1) Sg.none).t=Av p.acts p.acts.length:=by rw[ks];exact ks2
        have hpk:∀t,0<=t->t<=Av p.acts p.acts.length->Zm (Fe p r (xR p r c j).spare.toNat) t (Kr (Bs r (xR p r c j))):=λt a b=>(Zn (Du hg.1.1) hg.2 ω ω a b).1
        refine Ae 4 (Ip (.int .i64 (IntKind.wrap .i64 k)) (.int .i64 k) ?_ (congrArg (Value.int .i64) (IntWalk.i64_in _ ω)))
        refine Ae 2 (Bk (.int (j:Int)) .none (uZ 3 3 (.tmp 160) (.tmp 162) κ k ((Cj p r c).length:Int) (j:Int) κ κ ω hjt) (Fl j ((Cj p r c).length) (Ae 12 (Cf (Pk p r c (xR p r c j).wait hp hr hcs hg (nF hra)) (Ae 16 (Cf (Tw p r c (xR p r c j) hp hr hcs hg hp5 (dK hj)) (Ae 11 (Cf (Uw p r hp hr hg.1.1 hg.2 ω) (Ae 12 (Cf (Mb p c hp hg.1) (Ae 35 (Gv 218 (decide (((Ll p r c (xR p r c j)):Int)<=c.act)) false (decide_eq_false ω) (Ae 7 (Gv 225 (decide ((p.acts.length:Int)<=((Ll p r c (xR p r c j)):Int))) false (decide_eq_false ω) (Ae 5 (Gv 230 (decide ((xR p r c j).spare<0)) false (decide_eq_false ω) (Ae 7 (Gv 237 (decide ((r.homes.length:Int)<=(xR p r c j).spare)) false (decide_eq_false ω) (Ae 9 (Cf (Zb (relP p r c (xR p r c j)) rin rok) (Ae 10 (Jb [(2,_,.none),(7,.int ((p.acts.length-1:Nat):Int),.none),(8,_,.none)] [7,9,23,25,27,29,31,33,34,35,36,37] ⟨El (Qr p hp (Du hg.1.1) (Ll p r c (xR p r c j)) hro.act.2),Au (Bx (v:= .int .i64 (IntKind.wrap .i64 ((p.acts.length:Int)-1))) (v':= .int .i64 ((p.acts.length-1:Nat):Int)) _ κ rfl κ (λw=>by kernel_rfl) (congrArg (Value.int .i64) ((IntWalk.i64_in _ ω).trans ω))),El (by have:=Qr p hp (Du hg.1.1) (p.acts.length-1) ω;rwa [show p.acts.length-1+1=p.acts.length by omega] at this),trivial⟩ (Ae 9 (Gv 258 (!decide (((relP p r c (xR p r c j)).getD 0 Sg.none).f=0)) false (congrArg (!·) (decide_eq_true rf)) (Ae 5 (Gv 263 (!decide (((relP p r c (xR p r c j)).getD ((relP p r c (xR p r c j)).length-1) Sg.none).t=Av p.acts p.acts.length)) false (congrArg (!·) (decide_eq_true rt)) (Ae 8 (Jb [(3,_,.none),(7,_,.none),(10,.int (Ao p c+(xR p r c j).wait),.none),(11,.osl 16 1 3,(.new 16 (.vec 3 1 3 (λxi=>[.int 0,.int (Ao p c),.int (Ao p c+(xR p r c j).wait)].getD xi .top))))] [23,25,27,29,31,36,37,276,277,278] ⟨El (Sj p c hp hg.1),El (Sj p c hp hg.1),Au (Bx (v:= .int .i64 (IntKind.wrap .i64 (Ao p c+(xR p r c j).wait))) (v':= .int .i64 (Ao p c+(xR p r c j).wait)) _ κ rfl κ (λw=>by kernel_rfl) (congrArg (Value.int .i64) ((IntWalk.i64_in _ ω).trans ω))),Au (Aj 23 3 #[(0,(.const (.int .i64 0))),(1,(.tmp 268)),(2,(.tmp 275))] κ underlying23 1 sizeOf3 _ zeroValue3 κ β β β 16 [.int 0,.int (Ao p c),.int (Ao p c+(xR p r c j).wait)] κ (λxi=>[.int 0,.int (Ao p c),.int (Ao p c+(xR p r c j).wait)].getD xi .top) κ),trivial⟩ (Ae 2 (pO 3 (Ae 13 (Fl 0 3 (Bk (.int 0) (.read 16) (Bg 3 (.tmp 280) κ isAgg3 16 0 0 1 κ 3 3 (λxi=>[.int 0,.int (Ao p c),.int (Ao p c+(xR p r c j).wait)].getD xi .top) κ ω δ) (Ae 7 (Cf (Cu rok rin ω (hro.before (t:=0) ω ω)) (Ae 13 (sR ((xR p r c j).spare) ((xR p r c j).spare).toNat r.homes.length (Ae 2 (Cf (Cu kok kin ω (hpk 0 ω ω)) (Ae 19 (Bk (.bool (!(decide ((Kr (Bs r (xR p r c j)))=(Kr (Bs r (xR p r c j))))))) .none (Gs 72 72 (.tmp 305) (.tmp 306) κ _ _ κ κ κ (decide ((Kr (Bs r (xR p r c j)))=(Kr (Bs r (xR p r c j))))) (It (Kr (Bs r (xR p r c j))) (Kr (Bs r (xR p r c j))))) (Ae 3 (Gv 308 (!(decide ((Kr (Bs r (xR p r c j)))=(Kr (Bs r (xR p r c j)))))) false (congrArg (!·) (decide_eq_true rfl)) (Ae 5 (Ip (.int .i64 1) (.int .i64 1) (Ae 16 (Fl 1 3 (Bk (.int (Ao p c)) (.read 16) (Bg 3 (.tmp 280) κ isAgg3 16 1 0 1 κ 3 3 (λxi=>[.int 0,.int (Ao p c),.int (Ao p c+(xR p r c j).wait)].getD xi .top) κ ω δ) (Ae 7 (Cf (Cu rok rin ω (hro.before (t:=Ao p c) ω ω)) (Ae 13 (sR ((xR p r c j).spare) ((xR p r c j).spare).toNat r.homes.length (Ae 2 (Cf (Cu kok kin ω (hpk (Ao p c) ω ω)) (Ae 19 (Bk (.bool (!(decide ((Kr (Bs r (xR p r c j)))=(Kr (Bs r (xR p r c j))))))) .none (Gs 72 72 (.tmp 305) (.tmp 306) κ _ _ κ κ κ (decide ((Kr (Bs r (xR p r c j)))=(Kr (Bs r (xR p r c j))))) (It (Kr (Bs r (xR p r c j))) (Kr (Bs r (xR p r c j))))) (Ae 3 (Gv 308 (!(decide ((Kr (Bs r (xR p r c j)))=(Kr (Bs r (xR p r c j)))))) false (congrArg (!·) (decide_eq_true rfl)) (Ae 5 (Ip (.int .i64 2) (.int .i64 2) (Ae 16 (Fl 2 3 (Bk (.int (Ao p c+(xR p r c j).wait)) (.read 16) (Bg 3 (.tmp 280) κ isAgg3 16 2 0 1 κ 3 3 (λxi=>[.int 0,.int (Ao p c),.int (Ao p c+(xR p r c j).wait)].getD xi .top) κ ω δ) (Ae 7 (Cf (Cu rok rin ω (hro.before (t:=Ao p c+(xR p r c j).wait) ω ω)) (Ae 13 (sR ((xR p r c j).spare) ((xR p r c j).spare).toNat r.homes.length (Ae 2 (Cf (Cu kok kin ω (hpk (Ao p c+(xR p r c j).wait) ω ω)) (Ae 19 (Bk (.bool (!(decide ((Kr (Bs r (xR p r c j)))=(Kr (Bs r (xR p r c j))))))) .none (Gs 72 72 (.tmp 305) (.tmp 306) κ _ _ κ κ κ (decide ((Kr (Bs r (xR p r c j)))=(Kr (Bs r (xR p r c j))))) (It (Kr (Bs r (xR p r c j))) (Kr (Bs r (xR p r c j))))) (Ae 3 (Gv 308 (!(decide ((Kr (Bs r (xR p r c j)))=(Kr (Bs r (xR p r c j)))))) false (congrArg (!·) (decide_eq_true rfl)) (Ae 5 (Ip (.int .i64 3) (.int .i64 3) (Ae 16 ?_))))))))))))))))))))))))))))))))))))))))))))))))))))))))))))))))))))))))))))
        obtain⟨P1,q1,q1o⟩:=hro.behind (t:=De p r c (xR p r c j)) ω ω
        obtain⟨P2,q2,q2o⟩:=hro.behind (t:=(De p r c (xR p r c j)+Av p.acts p.acts.length)/2) ω ω
        obtain⟨P3,q3,q3o⟩:=hro.behind (t:=Av p.acts p.acts.length) ω ω
        refine Ae 5 (Ep (De p r c (xR p r c j)+Av p.acts p.acts.length) (De p r c (xR p r c j)+Av p.acts p.acts.length) (Ip (.int .i64 (IntKind.wrap .i64 (Int.tdiv (De p r c (xR p r c j)+Av p.acts p.acts.length) 2))) (.int .i64 ((De p r c (xR p r c j)+Av p.acts p.acts.length)/2)) ?_ (congrArg (Value.int .i64) (uI ω ω))))
        exact Ae 1 (Bk (.osl 23 1 3) (.new 23 (.vec 3 1 3 (λxi=>[.int (De p r c (xR p r c j)),.int ((De p r c (xR p r c j)+Av p.acts p.acts.length)/2),.int (Av p.acts p.acts.length)].getD xi .top))) (Aj 23 3 #[(0,(.tmp 310)),(1,(.tmp 314)),(2,(.tmp 315))] κ underlying23 1 sizeOf3 _ zeroValue3 κ β β β 23 [.int (De p r c (xR p r c j)),.int ((De p r c (xR p r c j)+Av p.acts p.acts.length)/2),.int (Av p.acts p.acts.length)] κ (λxi=>[.int (De p r c (xR p r c j)),.int ((De p r c (xR p r c j)+Av p.acts p.acts.length)/2),.int (Av p.acts p.acts.length)].getD xi .top) κ) (Ae 5 (pO 3 (Ae 13 (Fl 0 3 (Bk (.int (De p r c (xR p r c j))) (.read 23) (Bg 3 (.tmp 320) κ isAgg3 23 0 0 1 κ 3 3 (λxi=>[.int (De p r c (xR p r c j)),.int ((De p r c (xR p r c j)+Av p.acts p.acts.length)/2),.int (Av p.acts p.acts.length)].getD xi .top) κ ω δ) (Ae 7 (Cf (Cu rok rin ω q1) (Ae 12 (Cf (Cu ook.ok ook.pin ω q1o) (Ae 19 (Bk (.bool (!(decide (P1=P1)))) .none (Gs 72 72 (.tmp 341) (.tmp 342) κ _ _ κ κ κ (decide (P1=P1)) (It P1 P1)) (Ae 3 (Gv 344 (!(decide (P1=P1))) false (congrArg (!·) (decide_eq_true rfl)) (Ae 5 (Ip (.int .i64 1) (.int .i64 1) (Ae 16 (Fl 1 3 (Bk (.int ((De p r c (xR p r c j)+Av p.acts p.acts.length)/2)) (.read 23) (Bg 3 (.tmp 320) κ isAgg3 23 1 0 1 κ 3 3 (λxi=>[.int (De p r c (xR p r c j)),.int ((De p r c (xR p r c j)+Av p.acts p.acts.length)/2),.int (Av p.acts p.acts.length)].getD xi .top) κ ω δ) (Ae 7 (Cf (Cu rok rin ω q2) (Ae 12 (Cf (Cu ook.ok ook.pin ω q2o) (Ae 19 (Bk (.bool (!(decide (P2=P2)))) .none (Gs 72 72 (.tmp 341) (.tmp 342) κ _ _ κ κ κ (decide (P2=P2)) (It P2 P2)) (Ae 3 (Gv 344 (!(decide (P2=P2))) false (congrArg (!·) (decide_eq_true rfl)) (Ae 5 (Ip (.int .i64 2) (.int .i64 2) (Ae 16 (Fl 2 3 (Bk (.int (Av p.acts p.acts.length)) (.read 23) (Bg 3 (.tmp 320) κ isAgg3 23 2 0 1 κ 3 3 (λxi=>[.int (De p r c (xR p r c j)),.int ((De p r c (xR p r c j)+Av p.acts p.acts.length)/2),.int (Av p.acts p.acts.length)].getD xi .top) κ ω δ) (Ae 7 (Cf (Cu rok rin ω q3) (Ae 12 (Cf (Cu ook.ok ook.pin ω q3o) (Ae 19 (Bk (.bool (!(decide (P3=P3)))) .none (Gs 72 72 (.tmp 341) (.tmp 342) κ _ _ κ κ κ (decide (P3=P3)) (It P3 P3)) (Ae 3 (Gv 344 (!(decide (P3=P3))) false (congrArg (!·) (decide_eq_true rfl)) (Ae 5 (Ip (.int .i64 3) (.int .i64 3) (Ae 19 (Cf (Aal rok rin ω hro.there hro.ap) (Ae 15 (Bk (.bool (decide ((atR p r c (xR p r c j)).x=(atR p r c (xR p r c j)).x/\(atR p r c (xR p r c j)).y=(atR p r c (xR p r c j)).y/\(atR p r c (xR p r c j)).z=(atR p r c (xR p r c j)).z))) .none (Sv 36 36 (.tmp 355) (.tmp 356) κ _ _ κ κ κ (decide ((atR p r c (xR p r c j)).x=(atR p r c (xR p r c j)).x/\(atR p r c (xR p r c j)).y=(atR p r c (xR p r c j)).y/\(atR p r c (xR p r c j)).z=(atR p r c (xR p r c j)).z)) (aT _ _ _ _ _ _)) (Ae 2 (Gv 359 (decide ((atR p r c (xR p r c j)).x=(atR p r c (xR p r c j)).x/\(atR p r c (xR p r c j)).y=(atR p r c (xR p r c j)).y/\(atR p r c (xR p r c j)).z=(atR p r c (xR p r c j)).z)) true (decide_eq_true ⟨rfl,rfl,rfl⟩) (Cf Gw (Ae 5 (Gd)))))))))))))))))))))))))))))))))))))))))))))))))))
    ·
     exact Cf (Oe p r c (qV (Ib hx1) δ δ hl) (lR.inn (Ib hx2) hf) hcs λg=>Qy hx4 g.2) (Ae 20 (Cf Gw (Ae 6 (Gd))))
   ·
    exact Cf (Oe p r c (qV (Ib hx1) δ δ hl) (lR.inn (Ib hx2) hf) hcs λg=>Qy hx3 g.1) (Ae 20 (Cf Gw (Ae 6 (Gd))))
  ·
   exact Ae 3 (Cf Gw (Ae 5 (Gd)))
 ·
  exact Ae 9 (Cf Gw (Ae 5 (Gd)))
end Go.Proofs.YtldnjomacnjhnaaGreat
namespace Go.Proofs.YtldnjomacnjhnaaGreat.Open
open Go.ChangeShapes Go.WideShapes Go.ChangeAt Go.RowKit Go.Deep
section
variable {H:Type} {enc:TypeId×Value->H} {W:World}
theorem Ae4:Tryz.prog.cellsOf 3=1:=by kernel_rfl
theorem fU {a0:Option Addr} {l0 c0 fuel:Nat} {y:DataW H×List MemPlace} (h:DataW.trod enc Tryz.prog W 0 (λ_=>true) true fuel 23 [.slice a0 l0 c0]=some y):∃l:List Int,l.length=l0/\Cc W 0 W.heap.size 1 (.slice a0 l0 c0) l0 (l.flatMap λx=>[.int .i64 x])/\l0<=c0:=by
 have hc:=oD Tryz.underlying23 h
 obtain⟨lh,g1,g2,g3,_⟩:=Mp Tryz.underlying23 Ae4 δ h
 obtain⟨Hm,H1,H2⟩:=Vs (cells:=λv:Int=>[.int .i64 v]) lh (λcs hc=>by obtain⟨hl,n,y,ht⟩:=g2 cs hc;obtain⟨k,e,_⟩:=Gt ht;exact⟨k,e⟩)
 exact⟨Hm,ω,by rw[<-H2];exact g3,hc⟩
theorem open_resv {v:Value} {d:DataW H} {p:List MemPlace} {base:Nat} (hv:Value.okWide Tryz.prog W .any base 25 v) (h:DataW.Trod enc Tryz.prog W 0 (λ_=>true) true 25 v d p):
  ∃r:Rv,Cm r.flight/\∀E:Bu,E.w=W->(∀b,b<W.heap.size->E.D b)->VR E (Ie r) v:=by
 obtain⟨v0,v1,v2,v3,y0,y1,y2,y3,n,rfl,_,_,h0,h1,h2,h3⟩:=Go.Joins.open_agg4 Tryz.underlying25 κ κ hv h
 obtain⟨a0,l0,c0,e0⟩:=Go.Joins.slice_form Tryz.underlying22 h0
 obtain rfl:v0= .slice a0 l0 c0:=by simpa using e0
 obtain⟨k1,e1,f1⟩:=Gt h1
 obtain⟨a2,l2,c2,e2⟩:=Go.Joins.slice_form Tryz.underlying23 h2
 obtain rfl:v2= .slice a2 l2 c2:=by simpa using e2
 obtain⟨a3,l3,c3,e3⟩:=Go.Joins.slice_form Tryz.underlying23 h3
 obtain rfl:v3= .slice a3 l3 c3:=by simpa using e3
 have hc:=oD Tryz.underlying22 h0
 obtain⟨lh,g1,g2,g3,_⟩:=Mp Tryz.underlying22 AaO δ h0
 obtain⟨Hm,H1,H2⟩:=Vs (cells:=λv:V3=>[.int .i64 v.x,.int .i64 v.y,.int .i64 v.z]) lh (λcs hc=>by obtain⟨hl,n,y,ht⟩:=g2 cs hc;exact bT hl ht)
 have hL:Hm.length=l0:=by omega
 subst hL
 obtain⟨wl,rfl,w1,w2⟩:=fU h2
 obtain⟨rl,rfl,r1,r2⟩:=fU h3
 obtain rfl:v1= .int .i64 k1:=by simpa using e1
 have g3':Cc W 0 W.heap.size 3 (.slice a0 Hm.length c0) Hm.length (Jf Hm):=by unfold Jf;rw[<-H2];exact g3
 have Dg:∀{a:Option Addr} {c:Nat} {l:List Int} {E:Bu},Cc W 0 W.heap.size 1 (.slice a l.length c) l.length (l.flatMap λx=>[.int .i64 x])->l.length<=c->E.w=W->(∀b,b<W.heap.size->E.D b)->VR E (Fi l) (.slice a l.length c):=λ {a c l E} hs hc hw hD=> .slc _ _ _ _ _ _ hc (Oa hs hw (λb hb=>hD b hb.2) λi j hi hj=>by
  obtain rfl:j=0:=by omega
  have:=Ml (λx:Int=>[Value.int .i64 x]) 1 (λ_=>rfl) l i 0 0 hi ω
  rw[this]
  exact .lit _ _)
 refine⟨⟨Hm,k1,wl,rl⟩,f1,λE hw hD=> .agg _ _ _ rfl λi hi=>?_⟩
 have h3:i<4:=hi
 match i,h3 with
 |0,_=>exact .slc _ _ _ _ _ _ hc (vW g3' hw λb hb=>hD b hb.2)
 |1,_=>exact .lit _ _
 |2,_=>exact Dg w1 w2 hw hD
 |3,_=>exact Dg r1 r2 hw hD
theorem open_v3 {v:Value} {d:DataW H} {p:List MemPlace} {base:Nat} (hv:Value.okWide Tryz.prog W .any base 36 v) (h:DataW.Trod enc Tryz.prog W 0 (λ_=>true) true 36 v d p):
  ∃x:V3,v= .agg #[.int .i64 x.x,.int .i64 x.y,.int .i64 x.z]:=by
 obtain⟨v0,v1,v2,y0,y1,y2,n,rfl,_,_,h0,h1,h2⟩:=Go.Joins.open_agg3 Tryz.underlying36 κ κ hv h
 obtain⟨k0,e0,_⟩:=Gt h0
 obtain⟨k1,e1,_⟩:=Gt h1
 obtain⟨k2,e2,_⟩:=Gt h2
 simp at e0 e1 e2
 exact⟨⟨k0,k1,k2⟩,by simp[e0,e1,e2]⟩
end
end Go.Proofs.YtldnjomacnjhnaaGreat.Open
namespace Go.Proofs.YtldnjomacnjhnaaGreat
theorem AfK {k:Int} (h:(Lit.int IntKind.u8 k).wf=true):0<=k/\k<=255:=by
 simp[Lit.wf,IntKind.min,IntKind.max,IntKind.signed,IntKind.bits] at h
 exact⟨ω,ω⟩
end Go.Proofs.YtldnjomacnjhnaaGreat
namespace Go.Proofs.YtldnjomacnjhnaaGreat.SH
open Go.ChangeShapes Go.WideShapes Go.ChangeAt Go.RowKit Go.Deep
theorem own:ownKnob Tryz.prog.godebug=none:=by kernel_rfl
theorem Zi:laidOutB Tryz.prog=true:=by kernel_rfl
theorem AeF (os:Os) (started:os.Started) (H:Type) (enc:TypeId×Value->H):
  ReturnsInHanded {} Tryz.checked os 8 .any (λw args=>Rows.spareHoldsSpec.pre enc Tryz.prog Tryz.f8 [] false w args/\sizedMet enc Tryz.prog Tryz.f8 (OpenSpec.ofChange Rows.spareHoldsSpec) false w args)
   (Rows.spareHoldsSpec.post enc Tryz.prog Tryz.f8 false true false false):=by
 refine returnsInHanded_of_change (C:=Tryz.checked) own started κ Tryz.func8
  (by
   obtain⟨w,tape,i,h1,h2,h3,h4,⟨⟨hp,_⟩,hs⟩,h5⟩:=ChangeSpec.witness_shaped (enc:=enc) (C:=Tryz.checked) (os:=os) (f:=8) (fn:=Tryz.f8) (s:=Rows.spareHoldsSpec) (conds:=[]) (apart:=false) (X:=λ_ _=>True) false (World.doorLaid Tryz.prog 400 os) #[.agg #[.slice none 0 0,.slice none 0 0,.slice none 0 0],.agg #[.slice none 0 0,.int .i64 0,.slice none 0 0,.slice none 0 0],.agg #[.int .i64 0,.int .i64 0],.int .u8 0,.int .i64 0,.int .i64 0,.agg #[.int .i64 0,.int .i64 0,.int .i64 0]] 8 rfl (World.shaped_of_RefB κ κ) κ κ κ trivial
   exact⟨w,tape,i,h1,h2,h3,h4,⟨hp,hs⟩,h5⟩) ?_
 intro W base args ds gs before hval0 hW _ _
 have hval:∀(j:Nat) t v,Tryz.f8.params[j]?=some t->args[j]?=some v->Value.okWide Tryz.prog W .any base t v:=hval0
 have hW':=hW
 obtain⟨p,q,hA0,hV,rfl,hfz,hnd⟩:=hW
 have hA:DataW.TrodAll enc Tryz.prog W 0 (λ_=>true) true Tryz.f8.params.toList args.toList ds p:=hA0
 rw[Tryz.params8] at hA hval
 obtain⟨v0,vs0,d0,ds0,p0,q0,hargs,rfl,rfl,h0,r0⟩:=trodAll_cons hA
 obtain⟨v1,vs1,d1,ds1,p1,q1,rfl,rfl,rfl,h1,r1⟩:=trodAll_cons r0
 obtain⟨v2,vs2,d2,ds2,p2,q2,rfl,rfl,rfl,h2,r2⟩:=trodAll_cons r1
 obtain⟨v3,vs3,d3,ds3,p3,q3,rfl,rfl,rfl,h3,r3⟩:=trodAll_cons r2
 obtain⟨v4,vs4,d4,ds4,p4,q4,rfl,rfl,rfl,h4,r4⟩:=trodAll_cons r3
 obtain⟨v5,vs5,d5,ds5,p5,q5,rfl,rfl,rfl,h5,r5⟩:=trodAll_cons r4
 obtain⟨v6,vs6,d6,ds6,p6,q6,rfl,rfl,rfl,h6,r6⟩:=trodAll_cons r5
 obtain⟨rfl,rfl,rfl⟩:=trodAll_nil r6
 obtain rfl:args=#[v0,v1,v2,v3,v4,v5,v6]:=by cases args;simp_all
 obtain⟨rfl,rfl⟩:=trodVars_none hV
 have k0:=h0
 have k1:=h1
 have k2:=h2
 have k6:=h6
 have lt0:∀x∈p0,x.block<W.heap.size:=by obtain⟨m,hm⟩:=k0;exact DataW.trod_lt m _ _ _ hm
 have lt1:∀x∈p1,x.block<W.heap.size:=by obtain⟨m,hm⟩:=k1;exact DataW.trod_lt m _ _ _ hm
 have lt2:∀x∈p2,x.block<W.heap.size:=by obtain⟨m,hm⟩:=k2;exact DataW.trod_lt m _ _ _ hm
 have lt6:∀x∈p6,x.block<W.heap.size:=by obtain⟨m,hm⟩:=k6;exact DataW.trod_lt m _ _ _ hm
 obtain⟨vn0,vh0,va0,pr,rfl,hp0,hsn0,hsa_pr⟩:=Open.open_prog2 (hval 0 31 v0 rfl rfl) h0
 obtain⟨rv,f_rv,hr1⟩:=Open.open_resv (hval 1 25 v1 rfl rfl) h1
 obtain⟨cs,rfl,hcs_cs⟩:=Open.open_case (hval 2 33 v2 rfl rfl) h2
 obtain⟨k,rfl,rfl,rfl,g_k⟩:=open_int Tryz.underlying5 (hval 3 5 v3 rfl rfl) h3
 obtain⟨w,rfl,rfl,rfl,g_w⟩:=open_int Tryz.underlying3 (hval 4 3 v4 rfl rfl) h4
 obtain⟨z,rfl,rfl,rfl,g_z⟩:=open_int Tryz.underlying3 (hval 5 3 v5 rfl rfl) h5
 obtain⟨v,rfl⟩:=Open.open_v3 (hval 6 36 v6 rfl rfl) h6
 clear hA0 hval0
 refine((dO pr rv cs k w z v (λa ha=>(hsa_pr a ha).2) f_rv hcs_cs (AfK g_k)).call W #[.agg #[vn0,vh0,va0],v1,.agg #[.int .i64 cs.craft,.int .i64 cs.act],.int .u8 k,.int .i64 w,.int .i64 z,.agg #[.int .i64 v.x,.int .i64 v.y,.int .i64 v.z]] rfl (λE hw hD i hi=>?_)).mono λe W' ⟨he,bel⟩=>?_
 have hn:i<7:=hi
 match i,hn with
 |0,_=>exact Ad6 hp0 hw hD
 |1,_=>exact hr1 E hw hD
 |2,_=>exact .lit _ _
 |3,_=>exact .lit _ _
 |4,_=>exact .lit _ _
 |5,_=>exact .lit _ _
 |6,_=>exact .lit _ _
 subst he
 exact⟨_,rfl,_,_,_,[],_,[],hW',trodAll_mk1 (shut_bool Tryz.underlying4 _),(trodAll_cons_mk (Below.trod Zi κ (of_decide_eq_true κ) k0 bel lt0) (trodAll_cons_mk (Below.trod Zi κ (of_decide_eq_true κ) k1 bel lt1) (trodAll_cons_mk (Below.trod Zi κ (of_decide_eq_true κ) k2 bel lt2) (trodAll_cons_mk (shut_int Tryz.underlying5 g_k) (trodAll_cons_mk (shut_int Tryz.underlying3 g_w) (trodAll_cons_mk (shut_int Tryz.underlying3 g_z) (trodAll_cons_mk (Below.trod Zi κ (of_decide_eq_true κ) k6 bel lt6) trodAll_mk0))))))),rfl,bel.frame _,λh=>by cases h⟩
theorem row_holds:Rows.SpareHoldsSaid:=
 OpenClaim.holds_of_wide 8 Tryz.f8 rfl rfl rfl rfl rfl rfl rfl ⟨rfl,rfl,rfl,rfl,rfl⟩ rfl rfl rfl rfl rfl κ Tryz.func8 κ
  (of_decide_eq_true κ) (by unfold Func.isWrapper;first|(rw[if_pos (by decide+kernel)];kernel_rfl)|(rw[if_neg (by decide+kernel)];exact⟨rfl,rfl⟩))
  (λos started H enc _=>AeF os started H enc)
end Go.Proofs.YtldnjomacnjhnaaGreat.SH