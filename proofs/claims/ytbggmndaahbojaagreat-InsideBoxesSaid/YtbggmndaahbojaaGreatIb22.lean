/- Part 22 of the proof of IB.row_holds: no condition beyond the row's. -/
import Derived.Test.YtbggmndaahbojaaGreatIb21
set_option maxRecDepth 100000
set_option maxHeartbeats 40000000
namespace Go.Proofs.YtbggmndaahbojaaGreat
open Go.Proofs.Tryz
open Go.RowKit
def Vt (a b c d:V3):Bool:=pJ a b c||(pJ a b d||(pJ c d a||(pJ c d b||(decide (Eu a b c*Eu a b d<0)&&decide (Eu c d a*Eu c d b<0)))))
theorem Ad8 (n:Int): -1<=iF n/\iF n<=1:=by
 unfold iF
 split
 decide
 split<;>decide
theorem iO (a b c d e f:V3): -1<=Eu a b c*Eu d e f/\Eu a b c*Eu d e f<=1:=Qg (Ad8 _) (Ad8 _)
theorem Aaa (a b c d:V3) (ha:Ca a) (hb:Ca b) (hc:Ca c) (hd:Ca d):AF Tryz.prog 83 [Bj a,Bj b,Bj c,Bj d] (.bool (Vt a b c d)):=by
 refine Ai func83 rfl λB D0 hA0=>?_
 refine Aa 10 ?_
 refine Fk (pJ a b c) (λhx1=>?_) (λhx1=>?_)
 ·
  exact Be [(3,.bool true,.none)] [8] ⟨bF hx1 (Am (Ge a b c ha hb hc)),trivial⟩ (Aa 2 (Ch (.bool true) (congrArg AV.bool (by simp only[Vt,hx1,Bool.true_or]))))
 ·
  refine Fk (pJ a b d) (λhx2=>?_) (λhx2=>?_)
  ·
   exact Be [(3,.bool false,.none),(8,.bool true,.none)] [8] ⟨bF hx1 (Am (Ge a b c ha hb hc)),bF hx2 (Am (Ge a b d ha hb hd)),trivial⟩ (Aa 2 (Ch (.bool true) (congrArg AV.bool (by simp only[Vt,hx1,hx2,Bool.or_true,Bool.true_or]))))
  ·
   refine Fk (pJ c d a) (λhx3=>?_) (λhx3=>?_)
   ·
    exact Be [(3,.bool false,.none),(8,.bool false,.none),(14,.bool true,.none)] [8] ⟨bF hx1 (Am (Ge a b c ha hb hc)),bF hx2 (Am (Ge a b d ha hb hd)),bF hx3 (Am (Ge c d a hc hd ha)),trivial⟩ (Aa 2 (Ch (.bool true) (congrArg AV.bool (by simp only[Vt,hx1,hx2,hx3,Bool.or_true,Bool.true_or]))))
   ·
    refine Fk (pJ c d b) (λhx4=>?_) (λhx4=>?_)
    ·
     exact Be [(3,.bool false,.none),(8,.bool false,.none),(14,.bool false,.none),(20,.bool true,.none)] [8] ⟨bF hx1 (Am (Ge a b c ha hb hc)),bF hx2 (Am (Ge a b d ha hb hd)),bF hx3 (Am (Ge c d a hc hd ha)),bF hx4 (Am (Ge c d b hc hd hb)),trivial⟩ (Aa 2 (Ch (.bool true) (congrArg AV.bool (by simp only[Vt,hx1,hx2,hx3,hx4,Bool.or_true,Bool.true_or]))))
    ·
     refine vsp (((Eu a b c)*(Eu a b d))<0) (λhx5 hx5d=>?_) (λhx5 hx5d=>?_)
     ·
      exact Be [(3,.bool false,.none),(8,.bool false,.none),(14,.bool false,.none),(20,.bool false,.none),(26,_,.none),(30,_,.none),(31,.int ((Eu a b c)*(Eu a b d)),.none),(32,.bool true,.none),(37,_,.none),(41,_,.none),(42,.int ((Eu c d a)*(Eu c d b)),.none)] [8] ⟨bF hx1 (Am (Ge a b c ha hb hc)),bF hx2 (Am (Ge a b d ha hb hd)),bF hx3 (Am (Ge c d a hc hd ha)),bF hx4 (Am (Ge c d b hc hd hb)),Am (Kb a b c ha hb hc),Am (Kb a b d ha hb hd),As (.int .i64 (IntKind.wrap .i64 ((Eu a b c)*(Eu a b d)))) (congrArg (Value.int .i64) (IntWalk.i64_in _ (by have:=iO a b c a b d;omega))),kQ hx5,Am (Kb c d a hc hd ha),Am (Kb c d b hc hd hb),As (.int .i64 (IntKind.wrap .i64 ((Eu c d a)*(Eu c d b)))) (congrArg (Value.int .i64) (IntWalk.i64_in _ (by have:=iO c d a c d b;omega))),trivial⟩ (Aa 2 (Ch (.bool (decide (((Eu c d a)*(Eu c d b))<0))) (congrArg AV.bool (by simp only[Vt,hx1,hx2,hx3,hx4,hx5,Bool.false_or,Bool.true_and]))))
     ·
      exact Be [(3,.bool false,.none),(8,.bool false,.none),(14,.bool false,.none),(20,.bool false,.none),(26,_,.none),(30,_,.none),(31,.int ((Eu a b c)*(Eu a b d)),.none),(32,.bool false,.none)] [8] ⟨bF hx1 (Am (Ge a b c ha hb hc)),bF hx2 (Am (Ge a b d ha hb hd)),bF hx3 (Am (Ge c d a hc hd ha)),bF hx4 (Am (Ge c d b hc hd hb)),Am (Kb a b c ha hb hc),Am (Kb a b d ha hb hd),As (.int .i64 (IntKind.wrap .i64 ((Eu a b c)*(Eu a b d)))) (congrArg (Value.int .i64) (IntWalk.i64_in _ (by have:=iO a b c a b d;omega))),kQ hx5,trivial⟩ (Aa 2 (Ch (.bool false) (congrArg AV.bool (by simp only[Vt,hx1,hx2,hx3,hx4,hx5,Bool.or_false,Bool.false_and]))))
theorem Cz (a b c d:V3) (v:Bool) (h:Ca a/\Ca b/\Ca c/\Ca d/\Vt a b c d=v):AF Tryz.prog 83 [Bj a,Bj b,Bj c,Bj d] (.bool v):=by
 rw[<-h.2.2.2.2]
 exact Aaa a b c d h.1 h.2.1 h.2.2.1 h.2.2.2.1
theorem eN (p:V3) (v:Int) (h:Ca p/\Uf Bv p.x p.y 1=v):AF Tryz.prog 82 [Bs Bv,Bj p] (.int v):=by
 rw[<-h.2]
 exact zM Bv δ dK p h.1
theorem zQ:AF Tryz.prog 85 [Bs Bv,.fn 122 []] (.bool false):=by
 refine Ai func85 rfl λB D0 hA0=>?_
 refine Aa 9 (Aee 0 func130 (λ_ hD1=>?_))
 refine Aa 14 (Kt 4 (Aa 22 (Dm 0 4 (Aa 1 (Rk 0 func122 (λ_ hD2=>?_))))))
 refine Aa 9 (Aj (Dt ⟨0,0,0⟩ δ) (Aa 5 (qM (Aa 7 (Dx (.int .i64 1) (.int .i64 1) (Aa 25 (Dm 1 4 (Aa 1 (Rk 1 func122 (λ_ hD3=>?_))))))))))
 refine Aa 9 (Aj (Dt ⟨1000,0,0⟩ δ) (Aa 5 (qM (Aa 7 (Dx (.int .i64 2) (.int .i64 2) (Aa 25 (Dm 2 4 (Aa 1 (Rk 2 func122 (λ_ hD4=>?_))))))))))
 refine Aa 9 (Aj (Dt ⟨1000,1000,0⟩ δ) (Aa 5 (qM (Aa 7 (Dx (.int .i64 3) (.int .i64 3) (Aa 25 (Dm 3 4 (Aa 1 (Rk 3 func122 (λ_ hD5=>?_))))))))))
 exact Aa 9 (Aj (Dt ⟨0,1000,0⟩ δ) (Aa 5 (qM (Aa 7 (Dx (.int .i64 4) (.int .i64 4) (Aa 21 (qM (Aa 5 (Br)))))))))
theorem AdI:∃r,r=AV.bool true/\AF Tryz.prog 80 [Bs Bv] r:=by
 refine Bz func80 rfl ?_
 exact Ab 23 (gs (Aj zQ ·) (Ab 14 (gs (Kt 4 ·) (Ab 18 (gs (Be [(2,Ax (Bs Bv) 0,.none),(9,Ax (Bs Bv) 1,.none)] [0,3,4,5,6,23,24] ⟨Eg 0 4,Eg 1 4,trivial⟩ ·) (Ab 29 (gs (Kt 4 ·) (Ab 14 (gs (Be [(2,Ax (Bs Bv) 1,.none),(9,Ax (Bs Bv) 2,.none)] [0,3,4,5,6,7,8,9,23,24] ⟨Eg 1 4,Eg 2 4,trivial⟩ ·) (Ab 26 (gs (Aj (Hu ⟨0,0,0⟩ ⟨1000,0,0⟩ ⟨1000,1000,0⟩ false (by decide+kernel)) ·) (Ab 5 (gs (Aj (Hu ⟨1000,0,0⟩ ⟨1000,1000,0⟩ ⟨0,0,0⟩ false (by decide+kernel)) ·) (Ab 36 (gs (Be [(2,Ax (Bs Bv) 2,.none),(9,Ax (Bs Bv) 3,.none)] [0,3,4,5,6,7,8,9,23,24] ⟨Eg 2 4,Eg 3 4,trivial⟩ ·) (Ab 39 (gs (Aj (Cz ⟨0,0,0⟩ ⟨1000,0,0⟩ ⟨1000,1000,0⟩ ⟨0,1000,0⟩ false (by decide+kernel)) ·) (Ab 35 (gs (Be [(2,Ax (Bs Bv) 3,.none),(9,Ax (Bs Bv) 0,.none)] [0,3,4,5,6,7,8,9,23,24] ⟨Eg 3 4,Eg 0 4,trivial⟩ ·) (Ab 38 (gs (Aj (Hu ⟨0,0,0⟩ ⟨1000,0,0⟩ ⟨0,1000,0⟩ false (by decide+kernel)) ·) (Ab 5 (gs (Aj (Hu ⟨0,1000,0⟩ ⟨0,0,0⟩ ⟨1000,0,0⟩ false (by decide+kernel)) ·) (Ab 60 (gs (Be [(2,Ax (Bs Bv) 1,.none),(9,Ax (Bs Bv) 2,.none)] [0,3,4,5,6,23,24] ⟨Eg 1 4,Eg 2 4,trivial⟩ ·) (Ab 29 (gs (Kt 4 ·) (Ab 14 (gs (Be [(2,Ax (Bs Bv) 2,.none),(9,Ax (Bs Bv) 3,.none)] [0,3,4,5,6,7,8,9,23,24] ⟨Eg 2 4,Eg 3 4,trivial⟩ ·) (Ab 26 (gs (Aj (Hu ⟨1000,0,0⟩ ⟨1000,1000,0⟩ ⟨0,1000,0⟩ false (by decide+kernel)) ·) (Ab 5 (gs (Aj (Hu ⟨1000,1000,0⟩ ⟨0,1000,0⟩ ⟨1000,0,0⟩ false (by decide+kernel)) ·) (Ab 36 (gs (Be [(2,Ax (Bs Bv) 3,.none),(9,Ax (Bs Bv) 0,.none)] [0,3,4,5,6,7,8,9,23,24] ⟨Eg 3 4,Eg 0 4,trivial⟩ ·) (Ab 39 (gs (Aj (Cz ⟨1000,0,0⟩ ⟨1000,1000,0⟩ ⟨0,1000,0⟩ ⟨0,0,0⟩ false (by decide+kernel)) ·) (Ab 59 (gs (Be [(2,Ax (Bs Bv) 2,.none),(9,Ax (Bs Bv) 3,.none)] [0,3,4,5,6,23,24] ⟨Eg 2 4,Eg 3 4,trivial⟩ ·) (Ab 29 (gs (Kt 4 ·) (Ab 14 (gs (Be [(2,Ax (Bs Bv) 3,.none),(9,Ax (Bs Bv) 0,.none)] [0,3,4,5,6,7,8,9,23,24] ⟨Eg 3 4,Eg 0 4,trivial⟩ ·) (Ab 26 (gs (Aj (Hu ⟨1000,1000,0⟩ ⟨0,1000,0⟩ ⟨0,0,0⟩ false (by decide+kernel)) ·) (Ab 5 (gs (Aj (Hu ⟨0,1000,0⟩ ⟨0,0,0⟩ ⟨1000,1000,0⟩ false (by decide+kernel)) ·) (Ab 60 (gs (Be [(2,Ax (Bs Bv) 3,.none),(9,Ax (Bs Bv) 0,.none)] [0,3,4,5,6,23,24] ⟨Eg 3 4,Eg 0 4,trivial⟩ ·) (Ab 29 (gs (Kt 4 ·) (Ab 38 (Jl (r:= .bool true) rfl)))))))))))))))))))))))))))))))))))))))))))))))))))))
theorem nN:AF Tryz.prog 80 [Bs Bv] (.bool true):=by
 obtain⟨_,rfl,h⟩:=AdI
 exact h
theorem zP:AF Tryz.prog 85 [Bs Ci,.fn 122 []] (.bool false):=by
 refine Ai func85 rfl λB D0 hA0=>?_
 refine Aa 9 (Aee 0 func130 (λ_ hD1=>?_))
 refine Aa 14 (Kt 4 (Aa 22 (Dm 0 4 (Aa 1 (Rk 0 func122 (λ_ hD2=>?_))))))
 refine Aa 9 (Aj (Dt ⟨400,400,0⟩ δ) (Aa 5 (qM (Aa 7 (Dx (.int .i64 1) (.int .i64 1) (Aa 25 (Dm 1 4 (Aa 1 (Rk 1 func122 (λ_ hD3=>?_))))))))))
 refine Aa 9 (Aj (Dt ⟨600,400,0⟩ δ) (Aa 5 (qM (Aa 7 (Dx (.int .i64 2) (.int .i64 2) (Aa 25 (Dm 2 4 (Aa 1 (Rk 2 func122 (λ_ hD4=>?_))))))))))
 refine Aa 9 (Aj (Dt ⟨600,600,0⟩ δ) (Aa 5 (qM (Aa 7 (Dx (.int .i64 3) (.int .i64 3) (Aa 25 (Dm 3 4 (Aa 1 (Rk 3 func122 (λ_ hD5=>?_))))))))))
 exact Aa 9 (Aj (Dt ⟨400,600,0⟩ δ) (Aa 5 (qM (Aa 7 (Dx (.int .i64 4) (.int .i64 4) (Aa 21 (qM (Aa 5 (Br)))))))))
theorem AdH:∃r,r=AV.bool true/\AF Tryz.prog 80 [Bs Ci] r:=by
 refine Bz func80 rfl ?_
 exact Ab 23 (gs (Aj zP ·) (Ab 14 (gs (Kt 4 ·) (Ab 18 (gs (Be [(2,Ax (Bs Ci) 0,.none),(9,Ax (Bs Ci) 1,.none)] [0,3,4,5,6,23,24] ⟨Eg 0 4,Eg 1 4,trivial⟩ ·) (Ab 29 (gs (Kt 4 ·) (Ab 14 (gs (Be [(2,Ax (Bs Ci) 1,.none),(9,Ax (Bs Ci) 2,.none)] [0,3,4,5,6,7,8,9,23,24] ⟨Eg 1 4,Eg 2 4,trivial⟩ ·) (Ab 26 (gs (Aj (Hu ⟨400,400,0⟩ ⟨600,400,0⟩ ⟨600,600,0⟩ false (by decide+kernel)) ·) (Ab 5 (gs (Aj (Hu ⟨600,400,0⟩ ⟨600,600,0⟩ ⟨400,400,0⟩ false (by decide+kernel)) ·) (Ab 36 (gs (Be [(2,Ax (Bs Ci) 2,.none),(9,Ax (Bs Ci) 3,.none)] [0,3,4,5,6,7,8,9,23,24] ⟨Eg 2 4,Eg 3 4,trivial⟩ ·) (Ab 39 (gs (Aj (Cz ⟨400,400,0⟩ ⟨600,400,0⟩ ⟨600,600,0⟩ ⟨400,600,0⟩ false (by decide+kernel)) ·) (Ab 35 (gs (Be [(2,Ax (Bs Ci) 3,.none),(9,Ax (Bs Ci) 0,.none)] [0,3,4,5,6,7,8,9,23,24] ⟨Eg 3 4,Eg 0 4,trivial⟩ ·) (Ab 38 (gs (Aj (Hu ⟨400,400,0⟩ ⟨600,400,0⟩ ⟨400,600,0⟩ false (by decide+kernel)) ·) (Ab 5 (gs (Aj (Hu ⟨400,600,0⟩ ⟨400,400,0⟩ ⟨600,400,0⟩ false (by decide+kernel)) ·) (Ab 60 (gs (Be [(2,Ax (Bs Ci) 1,.none),(9,Ax (Bs Ci) 2,.none)] [0,3,4,5,6,23,24] ⟨Eg 1 4,Eg 2 4,trivial⟩ ·) (Ab 29 (gs (Kt 4 ·) (Ab 14 (gs (Be [(2,Ax (Bs Ci) 2,.none),(9,Ax (Bs Ci) 3,.none)] [0,3,4,5,6,7,8,9,23,24] ⟨Eg 2 4,Eg 3 4,trivial⟩ ·) (Ab 26 (gs (Aj (Hu ⟨600,400,0⟩ ⟨600,600,0⟩ ⟨400,600,0⟩ false (by decide+kernel)) ·) (Ab 5 (gs (Aj (Hu ⟨600,600,0⟩ ⟨400,600,0⟩ ⟨600,400,0⟩ false (by decide+kernel)) ·) (Ab 36 (gs (Be [(2,Ax (Bs Ci) 3,.none),(9,Ax (Bs Ci) 0,.none)] [0,3,4,5,6,7,8,9,23,24] ⟨Eg 3 4,Eg 0 4,trivial⟩ ·) (Ab 39 (gs (Aj (Cz ⟨600,400,0⟩ ⟨600,600,0⟩ ⟨400,600,0⟩ ⟨400,400,0⟩ false (by decide+kernel)) ·) (Ab 59 (gs (Be [(2,Ax (Bs Ci) 2,.none),(9,Ax (Bs Ci) 3,.none)] [0,3,4,5,6,23,24] ⟨Eg 2 4,Eg 3 4,trivial⟩ ·) (Ab 29 (gs (Kt 4 ·) (Ab 14 (gs (Be [(2,Ax (Bs Ci) 3,.none),(9,Ax (Bs Ci) 0,.none)] [0,3,4,5,6,7,8,9,23,24] ⟨Eg 3 4,Eg 0 4,trivial⟩ ·) (Ab 26 (gs (Aj (Hu ⟨600,600,0⟩ ⟨400,600,0⟩ ⟨400,400,0⟩ false (by decide+kernel)) ·) (Ab 5 (gs (Aj (Hu ⟨400,600,0⟩ ⟨400,400,0⟩ ⟨600,600,0⟩ false (by decide+kernel)) ·) (Ab 60 (gs (Be [(2,Ax (Bs Ci) 3,.none),(9,Ax (Bs Ci) 0,.none)] [0,3,4,5,6,23,24] ⟨Eg 3 4,Eg 0 4,trivial⟩ ·) (Ab 29 (gs (Kt 4 ·) (Ab 38 (Jl (r:= .bool true) rfl)))))))))))))))))))))))))))))))))))))))))))))))))))))
theorem nM:AF Tryz.prog 80 [Bs Ci] (.bool true):=by
 obtain⟨_,rfl,h⟩:=AdH
 exact h
theorem Ag8:∃r,r=AV.bool true/\AF Tryz.prog 50 [Hw An] r:=by
 refine Bz func50 rfl ?_
 refine Ab 11 (gs (Aj nN ·) (Ab 33 (gs (Iu 2 61 1 1 (λ_=>Bs Bv) ·) (Ab 14 (gs (Kt 1 ·) (Ab 13 (gs (Dm 0 1 ·) (Ab 8 (gs (Aj nM ·) (Ab 10 (aI func81 (Ab 13 (Ha (Ab 3 (gs (vnm [1,2,3,5,47,48,49,57] ·) (bV func124 λsp2 sp2p sp2a sp2b=>(Ab 8 (gs (Kt 4 ·) (Ab 14 (gs (Dm 0 4 ·) (Ab 7 (gs (Be [(6,Ax (Bs Ci) 1,.none)] [0,1,4,5,6,7,8] ⟨Eg 1 4,trivial⟩ ·) (Ab 14 (Kn sp2p sp2a (Ab 10 (Km sp2b ?_))))))))))))))))))))))))))
 refine Ab 7 (gs (Aj (eN ⟨400,400,0⟩ 1 (by decide+kernel)) ·) (Ab 14 (gs (Kt 1 ·) (Ab 13 (gs (Dm 0 1 ·) (gs (Cc (Bs Bv) (.read 2) (El 61 (.tmp 69) κ isAgg61 2 0 0 1 κ 61 1 (λ_=>Bs Bv) κ ω δ) ·) (Ab 6 (aI func81 (Ab 13 (Ha (Ab 3 (gs (vnm [2,6,7,65,66,67,72] ·) (bV func124 λsp6 sp6p sp6a sp6b=>(Ab 8 (gs (Kt 4 ·) (Ab 14 (gs (Dm 0 4 ·) (Ab 7 (gs (Be [(6,Ax (Bs Bv) 1,.none)] [0,1,4,5,6,7,8] ⟨Eg 1 4,trivial⟩ ·) (Ab 14 (Kn sp6p sp6a (Ab 10 (Km sp6b ?_)))))))))))))))))))))))
 refine Ab 7 (gs (Aj (Cz ⟨400,400,0⟩ ⟨600,400,0⟩ ⟨0,0,0⟩ ⟨1000,0,0⟩ false (by decide+kernel)) ·) (Ab 5 (Cj (Ab 26 (gs (Dm 1 4 ·) (Ab 7 (gs (Be [(6,Ax (Bs Bv) 2,.none)] [0,1,4,5,6,7,8] ⟨Eg 2 4,trivial⟩ ·) (Ab 14 (Kn sp6p sp6a (Ab 10 (Km sp6b ?_)))))))))))
 refine Ab 7 (gs (Aj (Cz ⟨400,400,0⟩ ⟨600,400,0⟩ ⟨1000,0,0⟩ ⟨1000,1000,0⟩ false (by decide+kernel)) ·) (Ab 5 (Cj (Ab 26 (gs (Dm 2 4 ·) (Ab 7 (gs (Be [(6,Ax (Bs Bv) 3,.none)] [0,1,4,5,6,7,8] ⟨Eg 3 4,trivial⟩ ·) (Ab 14 (Kn sp6p sp6a (Ab 10 (Km sp6b ?_)))))))))))
 refine Ab 7 (gs (Aj (Cz ⟨400,400,0⟩ ⟨600,400,0⟩ ⟨1000,1000,0⟩ ⟨0,1000,0⟩ false (by decide+kernel)) ·) (Ab 5 (Cj (Ab 26 (gs (Dm 3 4 ·) (Ab 7 (gs (Be [(6,Ax (Bs Bv) 0,.none)] [0,1,4,5,6,7,8] ⟨Eg 0 4,trivial⟩ ·) (Ab 14 (Kn sp6p sp6a (Ab 10 (Km sp6b ?_)))))))))))
 refine Ab 7 (gs (Aj (Cz ⟨400,400,0⟩ ⟨600,400,0⟩ ⟨0,1000,0⟩ ⟨0,0,0⟩ false (by decide+kernel)) ·) (Ab 5 (Cj (Ab 23 (We (Ab 20 (Cj (Ab 26 (gs (Dm 1 4 ·) (Ab 7 (gs (Be [(6,Ax (Bs Ci) 2,.none)] [0,1,4,5,6,7,8] ⟨Eg 2 4,trivial⟩ ·) (Ab 14 (Kn sp2p sp2a (Ab 10 (Km sp2b ?_)))))))))))))))
 refine Ab 7 (gs (Aj (eN ⟨600,400,0⟩ 1 (by decide+kernel)) ·) (Ab 14 (gs (Kt 1 ·) (Ab 13 (gs (Dm 0 1 ·) (gs (Cc (Bs Bv) (.read 2) (El 61 (.tmp 69) κ isAgg61 2 0 0 1 κ 61 1 (λ_=>Bs Bv) κ ω δ) ·) (Ab 6 (aI func81 (Ab 13 (Ha (Ab 3 (gs (vnm [2,6,7,65,66,67,72] ·) (bV func124 λsp14 sp14p sp14a sp14b=>(Ab 8 (gs (Kt 4 ·) (Ab 14 (gs (Dm 0 4 ·) (Ab 7 (gs (Be [(6,Ax (Bs Bv) 1,.none)] [0,1,4,5,6,7,8] ⟨Eg 1 4,trivial⟩ ·) (Ab 14 (Kn sp14p sp14a (Ab 10 (Km sp14b ?_)))))))))))))))))))))))
 refine Ab 7 (gs (Aj (Cz ⟨600,400,0⟩ ⟨600,600,0⟩ ⟨0,0,0⟩ ⟨1000,0,0⟩ false (by decide+kernel)) ·) (Ab 5 (Cj (Ab 26 (gs (Dm 1 4 ·) (Ab 7 (gs (Be [(6,Ax (Bs Bv) 2,.none)] [0,1,4,5,6,7,8] ⟨Eg 2 4,trivial⟩ ·) (Ab 14 (Kn sp14p sp14a (Ab 10 (Km sp14b ?_)))))))))))
 refine Ab 7 (gs (Aj (Cz ⟨600,400,0⟩ ⟨600,600,0⟩ ⟨1000,0,0⟩ ⟨1000,1000,0⟩ false (by decide+kernel)) ·) (Ab 5 (Cj (Ab 26 (gs (Dm 2 4 ·) (Ab 7 (gs (Be [(6,Ax (Bs Bv) 3,.none)] [0,1,4,5,6,7,8] ⟨Eg 3 4,trivial⟩ ·) (Ab 14 (Kn sp14p sp14a (Ab 10 (Km sp14b ?_)))))))))))
 refine Ab 7 (gs (Aj (Cz ⟨600,400,0⟩ ⟨600,600,0⟩ ⟨1000,1000,0⟩ ⟨0,1000,0⟩ false (by decide+kernel)) ·) (Ab 5 (Cj (Ab 26 (gs (Dm 3 4 ·) (Ab 7 (gs (Be [(6,Ax (Bs Bv) 0,.none)] [0,1,4,5,6,7,8] ⟨Eg 0 4,trivial⟩ ·) (Ab 14 (Kn sp14p sp14a (Ab 10 (Km sp14b ?_)))))))))))
 refine Ab 7 (gs (Aj (Cz ⟨600,400,0⟩ ⟨600,600,0⟩ ⟨0,1000,0⟩ ⟨0,0,0⟩ false (by decide+kernel)) ·) (Ab 5 (Cj (Ab 23 (We (Ab 20 (Cj (Ab 26 (gs (Dm 2 4 ·) (Ab 7 (gs (Be [(6,Ax (Bs Ci) 3,.none)] [0,1,4,5,6,7,8] ⟨Eg 3 4,trivial⟩ ·) (Ab 14 (Kn sp2p sp2a (Ab 10 (Km sp2b ?_)))))))))))))))
 refine Ab 7 (gs (Aj (eN ⟨600,600,0⟩ 1 (by decide+kernel)) ·) (Ab 14 (gs (Kt 1 ·) (Ab 13 (gs (Dm 0 1 ·) (gs (Cc (Bs Bv) (.read 2) (El 61 (.tmp 69) κ isAgg61 2 0 0 1 κ 61 1 (λ_=>Bs Bv) κ ω δ) ·) (Ab 6 (aI func81 (Ab 13 (Ha (Ab 3 (gs (vnm [2,6,7,65,66,67,72] ·) (bV func124 λsp22 sp22p sp22a sp22b=>(Ab 8 (gs (Kt 4 ·) (Ab 14 (gs (Dm 0 4 ·) (Ab 7 (gs (Be [(6,Ax (Bs Bv) 1,.none)] [0,1,4,5,6,7,8] ⟨Eg 1 4,trivial⟩ ·) (Ab 14 (Kn sp22p sp22a (Ab 10 (Km sp22b ?_)))))))))))))))))))))))
 refine Ab 7 (gs (Aj (Cz ⟨600,600,0⟩ ⟨400,600,0⟩ ⟨0,0,0⟩ ⟨1000,0,0⟩ false (by decide+kernel)) ·) (Ab 5 (Cj (Ab 26 (gs (Dm 1 4 ·) (Ab 7 (gs (Be [(6,Ax (Bs Bv) 2,.none)] [0,1,4,5,6,7,8] ⟨Eg 2 4,trivial⟩ ·) (Ab 14 (Kn sp22p sp22a (Ab 10 (Km sp22b ?_)))))))))))
 refine Ab 7 (gs (Aj (Cz ⟨600,600,0⟩ ⟨400,600,0⟩ ⟨1000,0,0⟩ ⟨1000,1000,0⟩ false (by decide+kernel)) ·) (Ab 5 (Cj (Ab 26 (gs (Dm 2 4 ·) (Ab 7 (gs (Be [(6,Ax (Bs Bv) 3,.none)] [0,1,4,5,6,7,8] ⟨Eg 3 4,trivial⟩ ·) (Ab 14 (Kn sp22p sp22a (Ab 10 (Km sp22b ?_)))))))))))
 refine Ab 7 (gs (Aj (Cz ⟨600,600,0⟩ ⟨400,600,0⟩ ⟨1000,1000,0⟩ ⟨0,1000,0⟩ false (by decide+kernel)) ·) (Ab 5 (Cj (Ab 26 (gs (Dm 3 4 ·) (Ab 7 (gs (Be [(6,Ax (Bs Bv) 0,.none)] [0,1,4,5,6,7,8] ⟨Eg 0 4,trivial⟩ ·) (Ab 14 (Kn sp22p sp22a (Ab 10 (Km sp22b ?_)))))))))))
 refine Ab 7 (gs (Aj (Cz ⟨600,600,0⟩ ⟨400,600,0⟩ ⟨0,1000,0⟩ ⟨0,0,0⟩ false (by decide+kernel)) ·) (Ab 5 (Cj (Ab 23 (We (Ab 20 (Cj (Ab 26 (gs (Dm 3 4 ·) (Ab 7 (gs (Be [(6,Ax (Bs Ci) 0,.none)] [0,1,4,5,6,7,8] ⟨Eg 0 4,trivial⟩ ·) (Ab 14 (Kn sp2p sp2a (Ab 10 (Km sp2b ?_)))))))))))))))
 refine Ab 7 (gs (Aj (eN ⟨400,600,0⟩ 1 (by decide+kernel)) ·) (Ab 14 (gs (Kt 1 ·) (Ab 13 (gs (Dm 0 1 ·) (gs (Cc (Bs Bv) (.read 2) (El 61 (.tmp 69) κ isAgg61 2 0 0 1 κ 61 1 (λ_=>Bs Bv) κ ω δ) ·) (Ab 6 (aI func81 (Ab 13 (Ha (Ab 3 (gs (vnm [2,6,7,65,66,67,72] ·) (bV func124 λsp30 sp30p sp30a sp30b=>(Ab 8 (gs (Kt 4 ·) (Ab 14 (gs (Dm 0 4 ·) (Ab 7 (gs (Be [(6,Ax (Bs Bv) 1,.none)] [0,1,4,5,6,7,8] ⟨Eg 1 4,trivial⟩ ·) (Ab 14 (Kn sp30p sp30a (Ab 10 (Km sp30b ?_)))))))))))))))))))))))
 refine Ab 7 (gs (Aj (Cz ⟨400,600,0⟩ ⟨400,400,0⟩ ⟨0,0,0⟩ ⟨1000,0,0⟩ false (by decide+kernel)) ·) (Ab 5 (Cj (Ab 26 (gs (Dm 1 4 ·) (Ab 7 (gs (Be [(6,Ax (Bs Bv) 2,.none)] [0,1,4,5,6,7,8] ⟨Eg 2 4,trivial⟩ ·) (Ab 14 (Kn sp30p sp30a (Ab 10 (Km sp30b ?_)))))))))))
 refine Ab 7 (gs (Aj (Cz ⟨400,600,0⟩ ⟨400,400,0⟩ ⟨1000,0,0⟩ ⟨1000,1000,0⟩ false (by decide+kernel)) ·) (Ab 5 (Cj (Ab 26 (gs (Dm 2 4 ·) (Ab 7 (gs (Be [(6,Ax (Bs Bv) 3,.none)] [0,1,4,5,6,7,8] ⟨Eg 3 4,trivial⟩ ·) (Ab 14 (Kn sp30p sp30a (Ab 10 (Km sp30b ?_)))))))))))
 refine Ab 7 (gs (Aj (Cz ⟨400,600,0⟩ ⟨400,400,0⟩ ⟨1000,1000,0⟩ ⟨0,1000,0⟩ false (by decide+kernel)) ·) (Ab 5 (Cj (Ab 26 (gs (Dm 3 4 ·) (Ab 7 (gs (Be [(6,Ax (Bs Bv) 0,.none)] [0,1,4,5,6,7,8] ⟨Eg 0 4,trivial⟩ ·) (Ab 14 (Kn sp30p sp30a (Ab 10 (Km sp30b ?_)))))))))))
 exact Ab 7 (gs (Aj (Cz ⟨400,600,0⟩ ⟨400,400,0⟩ ⟨0,1000,0⟩ ⟨0,0,0⟩ false (by decide+kernel)) ·) (Ab 5 (Cj (Ab 23 (We (Ab 20 (Cj (Ab 23 (We (Ab 5 (gs (Iu 94 61 1 1 (λ_=>Bs Ci) ·) (gs (Lz 24 61 61 1 1 1 2 94 95 (λ_=>Bs Bv) (λ_=>Bs Ci) (λxi=>if xi<1 then (λ_=>Bs Bv) xi else (λ_=>Bs Ci) (xi-1)) (λi hi=>by simp[hi]) (λi hi=>by simp) ·) (Ab 31 (gs (Kt 1 ·) (Ab 14 (gs (Dm 0 1 ·) (Ab 14 (gs (Kt 1 ·) (Ab 14 (gs (Dm 0 1 ·) (Ab 65 (Jl (r:= .bool true) rfl))))))))))))))))))))))
theorem Gp:AF Tryz.prog 50 [Hw An] (.bool true):=by
 obtain⟨_,rfl,h⟩:=Ag8
 exact h
def Jk (b:Bx) (v:V3):Bool:=decide (b.lo.x<=v.x)&&(decide (v.x<=b.hi.x)&&(decide (b.lo.y<=v.y)&&decide (v.y<=b.hi.y)))
def eW (b:Bx):Prop:=(1<=b.lo.x/\b.lo.x<=b.hi.x/\b.hi.x<=999)/\(1<=b.lo.y/\b.lo.y<=b.hi.y/\b.hi.y<=999)/\(0<=b.lo.z/\b.lo.z<=b.hi.z/\b.hi.z<=500)/\(b.hi.x<=399\/b.hi.y<=399\/601<=b.lo.y)
instance (b:Bx):Decidable (eW b):=by unfold eW;exact inferInstance
theorem Wp {b:Bx} (h:eW b) (i:Nat) (hi:i<4):Jk b (Er i)=false:=by
 obtain⟨h1,h2,h3,h4⟩:=h
 unfold Jk
 match i,hi with
 |0,_=>simp only[Er];simp;omega
 |1,_=>simp only[Er];simp;omega
 |2,_=>simp only[Er];simp;omega
 |3,_=>simp only[Er];simp;omega
theorem Vl (b:Bx) (h:eW b):PtG ⟨b.lo.x,b.lo.y,b.lo.z⟩/\PtG ⟨b.hi.x,b.lo.y,b.lo.z⟩/\PtG ⟨b.hi.x,b.hi.y,b.lo.z⟩/\PtG ⟨b.lo.x,b.hi.y,b.lo.z⟩:=by
 obtain⟨h1,h2,h3,h4⟩:=h
 refine⟨⟨⟨?_,?_⟩,⟨?_,?_⟩,?_,?_⟩,⟨⟨?_,?_⟩,⟨?_,?_⟩,?_,?_⟩,⟨⟨?_,?_⟩,⟨?_,?_⟩,?_,?_⟩,⟨?_,?_⟩,⟨?_,?_⟩,?_,?_⟩<;>simp only[]<;>omega
theorem rN {x1 y1 x2 y2 z:Int} {b:Bx} (h:eW b) (hx:b.lo.x<=x1/\x1<=b.hi.x/\b.lo.x<=x2/\x2<=b.hi.x) (hy:b.lo.y<=y1/\y1<=b.hi.y/\b.lo.y<=y2/\y2<=b.hi.y):Vi ⟨x1,y1,z⟩ ⟨x2,y2,z⟩:=by
 obtain⟨h1,h2,h3,h4⟩:=h
 rcases h4 with h4|h4|h4
 exact .inl ⟨by show x1<=399;omega,by show x2<=399;omega⟩
 exact .inr (.inl ⟨by show y1<=399;omega,by show y2<=399;omega⟩)
 exact .inr (.inr ⟨by show 601<=y1;omega,by show 601<=y2;omega⟩)
theorem Ae2 (b:Bx) (v:V3):AF Tryz.prog 86 [Yf b,Bj v] (.bool (Jk b v)):=by
 refine Ai func86 rfl λB D0 hA0=>?_
 refine Aa 16 (Cu 11 (b.lo.x<=v.x) (λhx1 hx1d=>?_) (λhx1 hx1d=>?_))
 ·
  refine Aa 8 (Cu 19 (v.x<=b.hi.x) (λhx2 hx2d=>?_) (λhx2 hx2d=>?_))
  ·
   refine Aa 8 (Cu 27 (b.lo.y<=v.y) (λhx3 hx3d=>?_) (λhx3 hx3d=>?_))
   ·
    exact Aa 11 (Ch (.bool (decide (v.y<=b.hi.y))) (congrArg AV.bool (by simp only[Jk,hx1,hx2,hx3,Bool.true_and])))
   ·
    exact Aa 11 (Ch (.bool false) (congrArg AV.bool (by simp only[Jk,hx1,hx2,hx3,Bool.and_false,Bool.false_and])))
  ·
   exact Aa 19 (Ch (.bool false) (congrArg AV.bool (by simp only[Jk,hx1,hx2,Bool.and_false,Bool.false_and])))
 ·
  exact Aa 27 (Ch (.bool false) (congrArg AV.bool (by simp only[Jk,hx1,Bool.false_and])))
theorem Ku (b:Bx) (i:Nat) (v:Bool) (h:Jk b (Er i)=v):AF Tryz.prog 86 [Yf b,Bj (Er i)] (.bool v):=by
 rw[<-h]
 exact Ae2 b (Er i)
theorem Ae5 (b:Bx) (h:eW b):∃r,r=AV.bool false/\AF Tryz.prog 85 [Bs Ci,.lit (.func (.func 86) #[bxV b] #[])] r:=by
 refine Bz func85 rfl ?_
 exact Ab 9 (aI func130 (Ab 14 (gs (Kt 4 ·) (Ab 22 (gs (Dm 0 4 ·) (Ab 1 (gs (vcm (b:= .agg #[.int .i64 b.lo.x,.int .i64 b.lo.y,.int .i64 b.lo.z,.int .i64 b.hi.x,.int .i64 b.hi.y,.int .i64 b.hi.z]) (Ku b 0 false (Wp h 0 δ)) ·) (Ab 33 (gs (Dm 1 4 ·) (Ab 1 (gs (vcm (b:= .agg #[.int .i64 b.lo.x,.int .i64 b.lo.y,.int .i64 b.lo.z,.int .i64 b.hi.x,.int .i64 b.hi.y,.int .i64 b.hi.z]) (Ku b 1 false (Wp h 1 δ)) ·) (Ab 33 (gs (Dm 2 4 ·) (Ab 1 (gs (vcm (b:= .agg #[.int .i64 b.lo.x,.int .i64 b.lo.y,.int .i64 b.lo.z,.int .i64 b.hi.x,.int .i64 b.hi.y,.int .i64 b.hi.z]) (Ku b 2 false (Wp h 2 δ)) ·) (Ab 33 (gs (Dm 3 4 ·) (Ab 1 (gs (vcm (b:= .agg #[.int .i64 b.lo.x,.int .i64 b.lo.y,.int .i64 b.lo.z,.int .i64 b.hi.x,.int .i64 b.hi.y,.int .i64 b.hi.z]) (Ku b 3 false (Wp h 3 δ)) ·) (Ab 29 (Ha (Ab 5 (Jl (r:= .bool false) rfl)))))))))))))))))))))))
theorem Ahp (b:Bx) (h:eW b):AF Tryz.prog 85 [Bs Ci,.lit (.func (.func 86) #[bxV b] #[])] (.bool false):=by
 obtain⟨_,rfl,hA⟩:=Ae5 b h
 exact hA
theorem Ae3 (b:Bx) (h0:Jk b (Er 0)=true):∃r,r=AV.bool true/\AF Tryz.prog 85 [Bs Ci,.lit (.func (.func 86) #[bxV b] #[])] r:=by
 refine Bz func85 rfl ?_
 exact Ab 9 (aI func130 (Ab 14 (gs (Kt 4 ·) (Ab 22 (gs (Dm 0 4 ·) (Ab 1 (gs (vcm (b:= .agg #[.int .i64 b.lo.x,.int .i64 b.lo.y,.int .i64 b.lo.z,.int .i64 b.hi.x,.int .i64 b.hi.y,.int .i64 b.hi.z]) (Ku b 0 true h0) ·) (Ab 15 (Ha (Ab 5 (Jl (r:= .bool true) rfl)))))))))))
theorem Ahn (b:Bx) (h0:Jk b (Er 0)=true):AF Tryz.prog 85 [Bs Ci,.lit (.func (.func 86) #[bxV b] #[])] (.bool true):=by
 obtain⟨_,rfl,hA⟩:=Ae3 b h0
 exact hA
theorem Ae4 (b:Bx) (h0:Jk b (Er 0)=false) (h1:Jk b (Er 1)=false) (h2:Jk b (Er 2)=false) (h3:Jk b (Er 3)=true):∃r,r=AV.bool true/\AF Tryz.prog 85 [Bs Ci,.lit (.func (.func 86) #[bxV b] #[])] r:=by
 refine Bz func85 rfl ?_
 exact Ab 9 (aI func130 (Ab 14 (gs (Kt 4 ·) (Ab 22 (gs (Dm 0 4 ·) (Ab 1 (gs (vcm (b:= .agg #[.int .i64 b.lo.x,.int .i64 b.lo.y,.int .i64 b.lo.z,.int .i64 b.hi.x,.int .i64 b.hi.y,.int .i64 b.hi.z]) (Ku b 0 false h0) ·) (Ab 33 (gs (Dm 1 4 ·) (Ab 1 (gs (vcm (b:= .agg #[.int .i64 b.lo.x,.int .i64 b.lo.y,.int .i64 b.lo.z,.int .i64 b.hi.x,.int .i64 b.hi.y,.int .i64 b.hi.z]) (Ku b 1 false h1) ·) (Ab 33 (gs (Dm 2 4 ·) (Ab 1 (gs (vcm (b:= .agg #[.int .i64 b.lo.x,.int .i64 b.lo.y,.int .i64 b.lo.z,.int .i64 b.hi.x,.int .i64 b.hi.y,.int .i64 b.hi.z]) (Ku b 2 false h2) ·) (Ab 33 (gs (Dm 3 4 ·) (Ab 1 (gs (vcm (b:= .agg #[.int .i64 b.lo.x,.int .i64 b.lo.y,.int .i64 b.lo.z,.int .i64 b.hi.x,.int .i64 b.hi.y,.int .i64 b.hi.z]) (Ku b 3 true h3) ·) (Ab 15 (Ha (Ab 5 (Jl (r:= .bool true) rfl)))))))))))))))))))))))
theorem Aho (b:Bx) (h0:Jk b (Er 0)=false) (h1:Jk b (Er 1)=false) (h2:Jk b (Er 2)=false) (h3:Jk b (Er 3)=true):AF Tryz.prog 85 [Bs Ci,.lit (.func (.func 86) #[bxV b] #[])] (.bool true):=by
 obtain⟨_,rfl,hA⟩:=Ae4 b h0 h1 h2 h3
 exact hA
def rG (s:Sg) (d k:Nat) (b:Bx):Prop:=(0<s.o/\s.o<=9223372036854775807)/\jM s.x s.o d k/\jM s.y s.o d k/\jM s.z s.o d k/\Mx s d k=b
theorem Mb (s:Sg) (d k:Nat) (b:Bx) (h:rG s d k b):AF Tryz.prog 16 [Dp s,.int (d:Int),.int (k:Int)] (Yf b):=by
 rw[<-h.2.2.2.2]
 exact cC s d k h.1 h.2.1 h.2.2.1 h.2.2.2.1
theorem uM (b:Bx) (h:eW b):∃r,r=AV.bool true/\AF Tryz.prog 52 [Yf b,Hw An] r:=by
 obtain⟨g1,g2,g3,g4⟩:=id h
 refine Bz func52 rfl ?_
 exact Ab 16 (qI 16 (decide (b.lo.z<0)) false (decide_eq_false ω) (Ab 7 (qI 23 (decide ((500:Int)<b.hi.z)) false (decide_eq_false ω) (Ab 16 (gs (Kt 1 ·) (Ab 13 (gs (Dm 0 1 ·) (Ab 8 (gs (Dx (.func (.func 86) #[.agg #[.int .i64 b.lo.x,.int .i64 b.lo.y,.int .i64 b.lo.z,.int .i64 b.hi.x,.int .i64 b.hi.y,.int .i64 b.hi.z]] #[]) (.func (.func 86) #[.agg #[.int .i64 b.lo.x,.int .i64 b.lo.y,.int .i64 b.lo.z,.int .i64 b.hi.x,.int .i64 b.hi.y,.int .i64 b.hi.z]] #[]) ·) (gs (Aj (Ahp b h) ·) (Ab 26 (gs (Aj (nE b) ·) (Ab 11 (gs (Kt 4 ·) (Ab 18 (gs (Be [(9,_,.none)] [3,7,9,39] ⟨Am (Qr ⟨b.lo.x,b.lo.y,b.lo.z⟩ ⟨b.hi.x,b.lo.y,b.lo.z⟩ Gp (Vl b h).1 (Vl b h).2.1 (rN h ⟨ω,ω,ω,ω⟩ ⟨ω,ω,ω,ω⟩)),trivial⟩ ·) (Ab 34 (gs (Be [(9,_,.none)] [3,7,9,39] ⟨Am (Qr ⟨b.hi.x,b.lo.y,b.lo.z⟩ ⟨b.hi.x,b.hi.y,b.lo.z⟩ Gp (Vl b h).2.1 (Vl b h).2.2.1 (rN h ⟨ω,ω,ω,ω⟩ ⟨ω,ω,ω,ω⟩)),trivial⟩ ·) (Ab 34 (gs (Be [(9,_,.none)] [3,7,9,39] ⟨Am (Qr ⟨b.hi.x,b.hi.y,b.lo.z⟩ ⟨b.lo.x,b.hi.y,b.lo.z⟩ Gp (Vl b h).2.2.1 (Vl b h).2.2.2 (rN h ⟨ω,ω,ω,ω⟩ ⟨ω,ω,ω,ω⟩)),trivial⟩ ·) (Ab 34 (gs (Be [(9,_,.none)] [3,7,9,39] ⟨Am (Qr ⟨b.lo.x,b.hi.y,b.lo.z⟩ ⟨b.lo.x,b.lo.y,b.lo.z⟩ Gp (Vl b h).2.2.2 (Vl b h).1 (rN h ⟨ω,ω,ω,ω⟩ ⟨ω,ω,ω,ω⟩)),trivial⟩ ·) (Ab 34 (Jl (r:= .bool true) rfl))))))))))))))))))))))))
theorem Ia (b:Bx) (h:eW b):AF Tryz.prog 52 [Yf b,Hw An] (.bool true):=by
 obtain⟨_,rfl,hA⟩:=uM b h
 exact hA
theorem nF (b:Bx) (hz:0<=b.lo.z/\b.hi.z<=500) (h0:Jk b (Er 0)=true):∃r,r=AV.bool false/\AF Tryz.prog 52 [Yf b,Hw An] r:=by
 refine Bz func52 rfl ?_
 exact Ab 16 (qI 16 (decide (b.lo.z<0)) false (decide_eq_false ω) (Ab 7 (qI 23 (decide ((500:Int)<b.hi.z)) false (decide_eq_false ω) (Ab 16 (gs (Kt 1 ·) (Ab 13 (gs (Dm 0 1 ·) (Ab 8 (gs (Dx (.func (.func 86) #[.agg #[.int .i64 b.lo.x,.int .i64 b.lo.y,.int .i64 b.lo.z,.int .i64 b.hi.x,.int .i64 b.hi.y,.int .i64 b.hi.z]] #[]) (.func (.func 86) #[.agg #[.int .i64 b.lo.x,.int .i64 b.lo.y,.int .i64 b.lo.z,.int .i64 b.hi.x,.int .i64 b.hi.y,.int .i64 b.hi.z]] #[]) ·) (gs (Aj (Ahn b h0) ·) (Ab 14 (Jl (r:= .bool false) rfl))))))))))))
theorem Gn (b:Bx) (hz:0<=b.lo.z/\b.hi.z<=500) (h0:Jk b (Er 0)=true):AF Tryz.prog 52 [Yf b,Hw An] (.bool false):=by
 obtain⟨_,rfl,hA⟩:=nF b hz h0
 exact hA
theorem nG (b:Bx) (hz:0<=b.lo.z/\b.hi.z<=500) (h0:Jk b (Er 0)=false) (h1:Jk b (Er 1)=false) (h2:Jk b (Er 2)=false) (h3:Jk b (Er 3)=true):∃r,r=AV.bool false/\AF Tryz.prog 52 [Yf b,Hw An] r:=by
 refine Bz func52 rfl ?_
 exact Ab 16 (qI 16 (decide (b.lo.z<0)) false (decide_eq_false ω) (Ab 7 (qI 23 (decide ((500:Int)<b.hi.z)) false (decide_eq_false ω) (Ab 16 (gs (Kt 1 ·) (Ab 13 (gs (Dm 0 1 ·) (Ab 8 (gs (Dx (.func (.func 86) #[.agg #[.int .i64 b.lo.x,.int .i64 b.lo.y,.int .i64 b.lo.z,.int .i64 b.hi.x,.int .i64 b.hi.y,.int .i64 b.hi.z]] #[]) (.func (.func 86) #[.agg #[.int .i64 b.lo.x,.int .i64 b.lo.y,.int .i64 b.lo.z,.int .i64 b.hi.x,.int .i64 b.hi.y,.int .i64 b.hi.z]] #[]) ·) (gs (Aj (Aho b h0 h1 h2 h3) ·) (Ab 14 (Jl (r:= .bool false) rfl))))))))))))
theorem uN (b:Bx) (hz:0<=b.lo.z/\b.hi.z<=500) (h0:Jk b (Er 0)=false) (h1:Jk b (Er 1)=false) (h2:Jk b (Er 2)=false) (h3:Jk b (Er 3)=true):AF Tryz.prog 52 [Yf b,Hw An] (.bool false):=by
 obtain⟨_,rfl,hA⟩:=nG b hz h0 h1 h2 h3
 exact hA
theorem uO (b:Bx) (hz:0<=b.lo.z/\500<b.hi.z):∃r,r=AV.bool false/\AF Tryz.prog 52 [Yf b,Hw An] r:=by
 refine Bz func52 rfl ?_
 exact Ab 16 (qI 16 (decide (b.lo.z<0)) false (decide_eq_false ω) (Ab 7 (qI 23 (decide ((500:Int)<b.hi.z)) true (decide_eq_true ω) (Ab 11 (Jl (r:= .bool false) rfl)))))
theorem zW (b:Bx) (hz:0<=b.lo.z/\500<b.hi.z):AF Tryz.prog 52 [Yf b,Hw An] (.bool false):=by
 obtain⟨_,rfl,hA⟩:=uO b hz
 exact hA
theorem Aj3 (s:Sg) (d k:Nat) (b:Bx) (m:Nat) (hb:rG s d k b) (hh:AF Tryz.prog 52 [Yf b,Hw An] (.bool true)) (_:d<=8):∃r,r=AV.bool true/\AF Tryz.prog 148 [.int (d:Int),.int (k:Int),Ez s,Lx An,Nc s An (m+1)] r:=by
 refine Bz func148 rfl ?_
 exact Ab 6 (gs (Be [(3,_,.none),(5,_,.none)] [7] ⟨Am (Mb s d k b hb),Am hh,trivial⟩ ·) (Ab 2 (Jl (r:= .bool true) rfl)))
theorem fX (s:Sg) (d k:Nat) (b:Bx) (m:Nat) (hb:rG s d k b) (hh:AF Tryz.prog 52 [Yf b,Hw An] (.bool true)) (hd:d<=8):AF Tryz.prog 148 [.int (d:Int),.int (k:Int),Ez s,Lx An,Nc s An (m+1)] (.bool true):=by
 obtain⟨_,rfl,hA⟩:=Aj3 s d k b m hb hh hd
 exact hA
theorem Ajz (s:Sg) (k:Nat) (b:Bx) (m:Nat) (hb:rG s 8 k b) (hh:AF Tryz.prog 52 [Yf b,Hw An] (.bool false)):∃r,r=AV.bool false/\AF Tryz.prog 148 [.int ((8:Nat):Int),.int (k:Int),Ez s,Lx An,Nc s An (m+1)] r:=by
 refine Bz func148 rfl ?_
 exact Ab 6 (gs (Be [(3,_,.none),(5,_,.none)] [7] ⟨Am (Mb s 8 k b hb),Am hh,trivial⟩ ·) (Ab 2 (Jl (r:= .bool false) rfl)))
theorem Ak3 (s:Sg) (k:Nat) (b:Bx) (m:Nat) (hb:rG s 8 k b) (hh:AF Tryz.prog 52 [Yf b,Hw An] (.bool false)):AF Tryz.prog 148 [.int ((8:Nat):Int),.int (k:Int),Ez s,Lx An,Nc s An (m+1)] (.bool false):=by
 obtain⟨_,rfl,hA⟩:=Ajz s k b m hb hh
 exact hA
theorem Aj1 (s:Sg) (d k:Nat) (b:Bx) (m:Nat) (hb:rG s d k b) (hh:AF Tryz.prog 52 [Yf b,Hw An] (.bool false)) (hd:d<8/\k<256) (hl:AF Tryz.prog 148 [.int ((d+1):Int),.int ((2*k):Int),Ez s,Lx An,Nc s An m] (.bool false)):∃r,r=AV.bool false/\AF Tryz.prog 148 [.int (d:Int),.int (k:Int),Ez s,Lx An,Nc s An (m+1)] r:=by
 refine Bz func148 rfl ?_
 refine Ab 6 (vsp ((d:Int)<8) (λhx1 hx1d=>?_) (λhx1 hx1d=>?_))
 exact gs (Be [(3,_,.none),(5,_,.none),(8,.bool true,.none),(12,.int ((d+1:Nat):Int),.none),(14,.int ((2*k:Nat):Int),.none),(15,_,.none)] [7] ⟨Am (Mb s d k b hb),Am hh,kQ hx1,As (.int .i64 (IntKind.wrap .i64 ((d:Int)+1))) η,As (.int .i64 (IntKind.wrap .i64 (2*(k:Int)))) η,fE hl,trivial⟩ ·) (Ab 2 (Jl (r:= .bool false) rfl))
 exact gs (Be [(3,_,.none),(5,_,.none),(8,.bool false,.none)] [7] ⟨Am (Mb s d k b hb),Am hh,kQ hx1,trivial⟩ ·) (Ab 2 (Jl (r:= .bool false) rfl))
theorem Aj0 (s:Sg) (d k:Nat) (b:Bx) (m:Nat) (hb:rG s d k b) (hh:AF Tryz.prog 52 [Yf b,Hw An] (.bool false)) (hd:d<8/\k<256) (hl:AF Tryz.prog 148 [.int ((d+1):Int),.int ((2*k):Int),Ez s,Lx An,Nc s An m] (.bool false)):AF Tryz.prog 148 [.int (d:Int),.int (k:Int),Ez s,Lx An,Nc s An (m+1)] (.bool false):=by
 obtain⟨_,rfl,hA⟩:=Aj1 s d k b m hb hh hd hl
 exact hA
theorem AhK (s:Sg) (d k:Nat) (b:Bx) (m:Nat) (hb:rG s d k b) (hh:AF Tryz.prog 52 [Yf b,Hw An] (.bool false)) (hd:d<8/\k<256) (hl:AF Tryz.prog 148 [.int ((d+1):Int),.int ((2*k):Int),Ez s,Lx An,Nc s An m] (.bool true)) (hr:AF Tryz.prog 148 [.int ((d+1):Int),.int ((2*k+1):Int),Ez s,Lx An,Nc s An m] (.bool true)):∃r,r=AV.bool true/\AF Tryz.prog 148 [.int (d:Int),.int (k:Int),Ez s,Lx An,Nc s An (m+1)] r:=by
 refine Bz func148 rfl ?_
 refine Ab 6 (vsp ((d:Int)<8) (λhx1 hx1d=>?_) (λhx1 hx1d=>?_))
 exact gs (Be [(3,_,.none),(5,_,.none),(8,.bool true,.none),(12,.int ((d+1:Nat):Int),.none),(14,.int ((2*k:Nat):Int),.none),(15,_,.none),(20,.int ((d+1:Nat):Int),.none),(22,.int ((2*k:Nat):Int),.none),(23,.int ((2*k+1:Nat):Int),.none),(24,_,.none)] [7] ⟨Am (Mb s d k b hb),Am hh,kQ hx1,As (.int .i64 (IntKind.wrap .i64 ((d:Int)+1))) η,As (.int .i64 (IntKind.wrap .i64 (2*(k:Int)))) η,fE hl,As (.int .i64 (IntKind.wrap .i64 ((d:Int)+1))) η,As (.int .i64 (IntKind.wrap .i64 (2*(k:Int)))) η,As (.int .i64 (IntKind.wrap .i64 (((2*k:Nat):Int)+1))) η,fE hr,trivial⟩ ·) (Ab 2 (Jl (r:= .bool true) rfl))
 refine gs (Be [(3,_,.none),(5,_,.none),(8,.bool false,.none)] [7] ⟨Am (Mb s d k b hb),Am hh,kQ hx1,trivial⟩ ·) (Ab 2 ?_)
 exact absurd hd ω
theorem Aj2 (s:Sg) (d k:Nat) (b:Bx) (m:Nat) (hb:rG s d k b) (hh:AF Tryz.prog 52 [Yf b,Hw An] (.bool false)) (hd:d<8/\k<256) (hl:AF Tryz.prog 148 [.int ((d+1):Int),.int ((2*k):Int),Ez s,Lx An,Nc s An m] (.bool true)) (hr:AF Tryz.prog 148 [.int ((d+1):Int),.int ((2*k+1):Int),Ez s,Lx An,Nc s An m] (.bool true)):AF Tryz.prog 148 [.int (d:Int),.int (k:Int),Ez s,Lx An,Nc s An (m+1)] (.bool true):=by
 obtain⟨_,rfl,hA⟩:=AhK s d k b m hb hh hd hl hr
 exact hA
theorem AhJ (s:Sg) (d k:Nat) (b:Bx) (m:Nat) (hb:rG s d k b) (hh:AF Tryz.prog 52 [Yf b,Hw An] (.bool false)) (hd:d<8/\k<256) (hl:AF Tryz.prog 148 [.int ((d+1):Int),.int ((2*k):Int),Ez s,Lx An,Nc s An m] (.bool true)) (hr:AF Tryz.prog 148 [.int ((d+1):Int),.int ((2*k+1):Int),Ez s,Lx An,Nc s An m] (.bool false)):∃r,r=AV.bool false/\AF Tryz.prog 148 [.int (d:Int),.int (k:Int),Ez s,Lx An,Nc s An (m+1)] r:=by
 refine Bz func148 rfl ?_
 refine Ab 6 (vsp ((d:Int)<8) (λhx1 hx1d=>?_) (λhx1 hx1d=>?_))
 exact gs (Be [(3,_,.none),(5,_,.none),(8,.bool true,.none),(12,.int ((d+1:Nat):Int),.none),(14,.int ((2*k:Nat):Int),.none),(15,_,.none),(20,.int ((d+1:Nat):Int),.none),(22,.int ((2*k:Nat):Int),.none),(23,.int ((2*k+1:Nat):Int),.none),(24,_,.none)] [7] ⟨Am (Mb s d k b hb),Am hh,kQ hx1,As (.int .i64 (IntKind.wrap .i64 ((d:Int)+1))) η,As (.int .i64 (IntKind.wrap .i64 (2*(k:Int)))) η,fE hl,As (.int .i64 (IntKind.wrap .i64 ((d:Int)+1))) η,As (.int .i64 (IntKind.wrap .i64 (2*(k:Int)))) η,As (.int .i64 (IntKind.wrap .i64 (((2*k:Nat):Int)+1))) η,fE hr,trivial⟩ ·) (Ab 2 (Jl (r:= .bool false) rfl))
 exact gs (Be [(3,_,.none),(5,_,.none),(8,.bool false,.none)] [7] ⟨Am (Mb s d k b hb),Am hh,kQ hx1,trivial⟩ ·) (Ab 2 (Jl (r:= .bool false) rfl))
theorem dL (s:Sg) (d k:Nat) (b:Bx) (m:Nat) (hb:rG s d k b) (hh:AF Tryz.prog 52 [Yf b,Hw An] (.bool false)) (hd:d<8/\k<256) (hl:AF Tryz.prog 148 [.int ((d+1):Int),.int ((2*k):Int),Ez s,Lx An,Nc s An m] (.bool true)) (hr:AF Tryz.prog 148 [.int ((d+1):Int),.int ((2*k+1):Int),Ez s,Lx An,Nc s An m] (.bool false)):AF Tryz.prog 148 [.int (d:Int),.int (k:Int),Ez s,Lx An,Nc s An (m+1)] (.bool false):=by
 obtain⟨_,rfl,hA⟩:=AhJ s d k b m hb hh hd hl hr
 exact hA
theorem Afv (s:Sg) (hc:AF Tryz.prog 148 [.int 0,.int 0,Ez s,Lx An,Nc s An 9] (.bool true)):∃r,r=AV.bool true/\AF Tryz.prog 92 [Hw An,Dp s] r:=by
 refine Bz func92 rfl ?_
 exact Ab 12 (gs (aS 0 ·) (gs (aS 1 ·) (Ab 6 (gs (Akc 2 148 (Ez s) (Lx An) 10 ·) (Ab 3 (gs (Aec hc ·) (Ab 4 (Jl (r:= .bool true) rfl))))))))
theorem cF (s:Sg) (hc:AF Tryz.prog 148 [.int 0,.int 0,Ez s,Lx An,Nc s An 9] (.bool true)):AF Tryz.prog 92 [Hw An,Dp s] (.bool true):=by
 obtain⟨_,rfl,hA⟩:=Afv s hc
 exact hA
theorem Afu (s:Sg) (hc:AF Tryz.prog 148 [.int 0,.int 0,Ez s,Lx An,Nc s An 9] (.bool false)):∃r,r=AV.bool false/\AF Tryz.prog 92 [Hw An,Dp s] r:=by
 refine Bz func92 rfl ?_
 exact Ab 12 (gs (aS 0 ·) (gs (aS 1 ·) (Ab 6 (gs (Akc 2 148 (Ez s) (Lx An) 10 ·) (Ab 3 (gs (Aec hc ·) (Ab 4 (Jl (r:= .bool false) rfl))))))))
theorem uL (s:Sg) (hc:AF Tryz.prog 148 [.int 0,.int 0,Ez s,Lx An,Nc s An 9] (.bool false)):AF Tryz.prog 92 [Hw An,Dp s] (.bool false):=by
 obtain⟨_,rfl,hA⟩:=Afu s hc
 exact hA
theorem AbX (x y:Int):Cy x y∣x/\Cy x y∣y:=by
 unfold Cy
 exact⟨Int.ofNat_dvd_left.2 (Nat.gcd_dvd_left _ _),Int.ofNat_dvd_left.2 (Nat.gcd_dvd_right _ _)⟩
theorem Ws {x y:Int} (h:0<y):0<Cy x y:=by
 have:=Tj (x:=x) h
 unfold Cy
 omega
theorem Se {x y:Int} (h:0<y):(Zf x y).1*Cy x y=x/\(Zf x y).2*Cy x y=y/\0<(Zf x y).2:=by
 have hd:=AbX x y
 have h1:x/Cy x y*Cy x y=x:=Int.ediv_mul_cancel hd.1
 have h2:y/Cy x y*Cy x y=y:=Int.ediv_mul_cancel hd.2
 refine⟨h1,h2,?_⟩
 show 0<y/Cy x y
 rcases Int.lt_or_le 0 (y/Cy x y) with g|g
 exact g
 have:=Int.mul_nonpos_of_nonpos_of_nonneg g (Int.le_of_lt (Ws (x:=x) h))
 omega
theorem oI {x y g:Int} (hg:0<g):(x*g)/(y*g)=x/y:=Int.mul_ediv_mul_of_pos_left x y hg
theorem AbR {x y u v g:Int} (W:Int) (h1:u*g=x) (h2:v*g=y) (hg:0<g):u/(W*v)=x/(W*y):=by
 subst h1 h2
 rw[<-Int.mul_assoc,oI hg]
theorem AbQ {x y:Int} (h:0<y):flI x y=iR (x/y):=by
 obtain⟨h1,h2,_⟩:=Se (x:=x) h
 have:=AbR 1 h1 h2 (Ws h)
 rw[Int.one_mul,Int.one_mul] at this
 unfold flI
 exact congrArg iR this
def fW (W:Int) (r:Int×Int):Int:=r.1/(W*r.2)
theorem AbO {W x y:Int} (h:0<y):fW W (Zf x y)=x/(W*y):=by
 obtain⟨h1,h2,_⟩:=Se (x:=x) h
 exact AbR W h1 h2 (Ws h)
theorem AbP {W x y:Int} (h:0<y):fW W (-(Zf x y).1,(Zf x y).2)= -x/(W*y):=by
 obtain⟨h1,h2,_⟩:=Se (x:=x) h
 exact AbR W (by rw[Int.neg_mul,h1]) h2 (Ws h)
theorem Th {W:Int} (hW:0<W) {b c:Int×Int} (hb:0<b.2) (hc:0<c.2) (h:b.1*c.2<=c.1*b.2):fW W b<=fW W c:=by
 unfold fW
 have h1:b.1/(W*b.2)*(W*b.2)<=b.1:=Int.ediv_mul_le _ (by have:=Int.mul_pos hW hb;omega)
 refine(Int.le_ediv_iff_mul_le (Int.mul_pos hW hc)).2 ?_
 generalize b.1/(W*b.2)=q at*
 have h2:q*(W*b.2)*c.2<=b.1*c.2:=Int.mul_le_mul_of_nonneg_right h1 (Int.le_of_lt hc)
 have h3:q*(W*c.2)*b.2<=c.1*b.2:=by
  rw[show q*(W*c.2)*b.2=q*(W*b.2)*c.2 by rw[Int.mul_assoc,Int.mul_assoc,Int.mul_assoc,Int.mul_assoc,Int.mul_comm c.2]]
  omega
 exact Int.le_of_mul_le_mul_right h3 hb
def Ji (f:Nat->Int):Nat->Int
 |0=>f 0
 |j+1=>min (Ji f j) (f (j+1))
theorem Wv {b r:Int×Int}:gV b r<0↔r.1*b.2<b.1*r.2:=by
 unfold gV
 rw[Int.sign_neg_iff]
 omega
theorem Adg {b r:Int×Int}:gV b r=0↔r.1*b.2=b.1*r.2:=by
 unfold gV
 rw[Int.sign_eq_zero_iff_zero]
 omega
theorem kR {W:Int} (hW:0<W) {c:Nat->Int} {n:Nat} (hw:∀j,j<n->0<Dg (n-1) j):∀j,j<n->0<(Ip false c n (j+1)).2/\fW W (Ip false c n (j+1))=Ji (λj=>c j/(W*Dg (n-1) j)) j
 |0,h=>by
  rw[Ac4 rfl]
  exact⟨(Se (hw 0 h)).2.2,AbO (hw 0 h)⟩
 |j+1,h=>by
  obtain⟨h1,h2⟩:=kR hW hw j ω
  have t1:=(Se (x:=c (j+1)) (hw (j+1) h)).2.2
  have t2:=AbO (W:=W) (x:=c (j+1)) (hw (j+1) h)
  show 0<(Ip false c n (j+1+1)).2/\_=min (Ji _ j) (c (j+1)/(W*Dg (n-1) (j+1)))
  rw[<-h2,<-t2]
  have et:Zf (c (j+1)) (Dg (n-1) (j+1))=Cs c n (j+1):=rfl
  rw[et] at t1 t2 ⊢
  rw[Ip,if_neg ω]
  by_cases g:gV (Ip false c n (j+1)) (Cs c n (j+1))<0
  rw[if_neg (by rw[decide_eq_true g];decide),if_neg ω]
  have:=Th hW t1 h1 (Int.le_of_lt (Wv.1 g))
  exact⟨t1,(Int.min_eq_right this).symm⟩
  have hk:fW W (Ip false c n (j+1))<=fW W (Cs c n (j+1)):=Th hW h1 t1 (Int.not_lt.1 λh=>g (Wv.2 h))
  rw[if_pos (decide_eq_false g)]
  exact⟨h1,(Int.min_eq_left hk).symm⟩
theorem kK {W:Int} (hW:0<W) {c:Nat->Int} {n:Nat} (hw:∀j,j<n->0<Dg (n-1) j):∀j,j<n->0<(Ip true c n (j+1)).2/\fW W (-(Ip true c n (j+1)).1,(Ip true c n (j+1)).2)=Ji (λj=> -c j/(W*Dg (n-1) j)) j
 |0,h=>by
  rw[Ac4 rfl]
  exact⟨(Se (hw 0 h)).2.2,AbP (hw 0 h)⟩
 |j+1,h=>by
  obtain⟨h1,h2⟩:=kK hW hw j ω
  have t1:=(Se (x:=c (j+1)) (hw (j+1) h)).2.2
  have t2:fW W (-(Cs c n (j+1)).1,(Cs c n (j+1)).2)= -c (j+1)/(W*Dg (n-1) (j+1)):=AbP (hw (j+1) h)
  have t1:0<(Cs c n (j+1)).2:=t1
  show 0<(Ip true c n (j+1+1)).2/\_=min (Ji _ j) (-c (j+1)/(W*Dg (n-1) (j+1)))
  rw[<-h2,<-t2,Ip,if_neg ω]
  by_cases g:gV (Ip true c n (j+1)) (Cs c n (j+1))<0
  rw[if_pos (decide_eq_true g)]
  have g1:=Wv.1 g
  exact⟨h1,(Int.min_eq_left (Th (b:=(-(Ip true c n (j+1)).1,(Ip true c n (j+1)).2)) (c:=(-(Cs c n (j+1)).1,(Cs c n (j+1)).2)) hW h1 t1 (by simp only[Int.neg_mul];omega))).symm⟩
  rw[if_neg (by rw[decide_eq_false g];decide)]
  have g1:¬(Cs c n (j+1)).1*(Ip true c n (j+1)).2<(Ip true c n (j+1)).1*(Cs c n (j+1)).2:=λh=>g (Wv.2 h)
  split
  rename_i g2
  have g3:=Adg.1 g2
  exact⟨h1,(Int.min_eq_left (Th (b:=(-(Ip true c n (j+1)).1,(Ip true c n (j+1)).2)) (c:=(-(Cs c n (j+1)).1,(Cs c n (j+1)).2)) hW h1 t1 (by simp only[Int.neg_mul];omega))).symm⟩
  exact⟨t1,(Int.min_eq_right (Th (b:=(-(Cs c n (j+1)).1,(Cs c n (j+1)).2)) (c:=(-(Ip true c n (j+1)).1,(Ip true c n (j+1)).2)) hW t1 h1 (by simp only[Int.neg_mul];omega))).symm⟩
theorem AgB:∀n,n<6->∀j,j<6->∀i,i<6->i<=j->j<=n->60*Dg (n-i) (j-i)=(Kf n j i:Int)*Dg n j:=by decide+kernel
def Fi (p:Nat->Int) (n j:Nat):Nat->Int
 |0=>0
 |q+1=>Fi p n j q+p q*(Kf n j q:Int)
theorem tY {p:Nat->Int} {n j:Nat} (hn:n<6) (hj:j<=n):∀q,q<=j+1->60*pI p n j q=Fi p n j q*Dg n j
 |0,_=>by rw[pI,Fi,Int.mul_zero,Int.zero_mul]
 |q+1,h=>by
  have ih:=tY (p:=p) hn hj q ω
  have hw:=AgB n hn j ω q ω ω hj
  rw[pI,Fi,Int.mul_add,Int.add_mul,ih,Int.mul_left_comm,hw,Int.mul_assoc]
def Al (p:Nat->Int) (m:Nat) (i:Nat):Int:=if i<m then p i else 0
theorem tD (p:Nat->Int) (m d j:Nat):∀q,pI (Al p m) d j q=pI p d j (min q m)
 |0=>by rw[Nat.zero_min];rfl
 |q+1=>by
  rw[pI,tD p m d j q]
  unfold Al
  by_cases h:q<m
  rw[if_pos h,Nat.min_eq_left (Nat.le_of_lt h),Nat.min_eq_left (show q+1<=m from h),pI]
  rw[if_neg h,Int.zero_mul,Int.add_zero,Nat.min_eq_right ω,Nat.min_eq_right ω]
theorem tO {c s w W:Int} (hw:0<w) (h:60*c=s*w):c/(W*w)=s/(60*W):=by
 rw[<-Int.mul_ediv_mul_of_pos c (W*w) (show (0:Int)<60 by decide),h,<-Int.mul_assoc,Int.mul_ediv_mul_of_pos_left _ _ hw]
theorem Adw {c s w W:Int} (hw:0<w) (h:60*c=s*w): -c/(W*w)= -s/(60*W):=tO hw (by rw[Int.mul_neg,h,Int.neg_mul])
def rP (l:List Int) (d k:Nat):Nat->Int:=Al (spP l d k) (spN l d k)
def rS (l:List Int) (d k j:Nat):Int:=Fi (rP l d k) (l.length-1) j (j+1)
def rW (l:List Int) (o:Int) (d:Nat):Int:=60*(o*((2^(d*(l.length-1)):Nat):Int))
theorem Uu {f g:Nat->Int}:∀{n:Nat},(∀j,j<=n->f j=g j)->Ji f n=Ji g n
 |0,h=>h 0 ζ
 |n+1,h=>by
  rw[Ji,Ji,Uu λj hj=>h j ω,h (n+1) ζ]
theorem AdL {l:List Int} {d k j:Nat} (hn:l.length<=6) (h0:0<l.length) (hj:j<=l.length-1):60*spC l d k j=rS l d k j*Dg (l.length-1) j:=by
 have e:spC l d k j=pI (rP l d k) (l.length-1) j (j+1):=by
  show (if j<l.length-1+1 then ofC (spP l d k) (spN l d k) (l.length-1) j else 0)=_
  rw[if_pos ω]
  unfold rP
  rw[tD]
  rfl
 rw[e]
 exact tY ω hj _ ζ
theorem pP (o:Int) (n:Nat) (h:0<o):0<o*((2^n:Nat):Int):=Int.mul_pos h (by have:=Nat.two_pow_pos n;omega)
theorem qD {l:List Int} {o:Int} {d k:Nat} (hn:l.length<=6) (h0:0<l.length) (ho:0<o):Gi l o d k=iR (Ji (λj=>rS l d k j/rW l o d) (l.length-1)):=by
 have hW:=pP o (d*(l.length-1)) ho
 have hw:∀j,j<l.length-1+1->0<Dg (l.length-1+1-1) j:=λj hj=>Xe ω ω
 obtain⟨h1,h2⟩:=kR hW (c:=spC l d k) hw (l.length-1) ω
 unfold Gi
 rw[AbQ (show 0<mV false l o d k from Int.mul_pos hW h1)]
 refine congrArg iR (h2.trans (Uu λj hj=>?_))
 exact tO (hw j ω) (AdL hn h0 hj)
theorem qE {l:List Int} {o:Int} {d k:Nat} (hn:l.length<=6) (h0:0<l.length) (ho:0<o):Eh l o d k=iR (Ji (λj=> -rS l d k j/rW l o d) (l.length-1)):=by
 have hW:=pP o (d*(l.length-1)) ho
 have hw:∀j,j<l.length-1+1->0<Dg (l.length-1+1-1) j:=λj hj=>Xe ω ω
 obtain⟨h1,h2⟩:=kK hW (c:=spC l d k) hw (l.length-1) ω
 unfold Eh
 rw[AbQ (show 0<mV true l o d k from Int.mul_pos hW h1)]
 refine congrArg iR (h2.trans (Uu λj hj=>?_))
 exact Adw (hw j ω) (AdL hn h0 hj)
def It (a b:Int):Nat->Nat->Int
 |0,k=>if k=0 then 1 else 0
 |i+1,k=>It a b i k*a+(if k=0 then 0 else It a b i (k-1)*b)
theorem aL (a b:Int) (i k:Nat):It a b (i+1) k=It a b i k*a+(if k=0 then 0 else It a b i (k-1)*b):=rfl
theorem Ow (a b:Int):∀i k,i<k->It a b i k=0
 |0,k,h=>if_neg ω
 |i+1,k,h=>by rw[It,Ow a b i k ω,Ow a b i (k-1) ω,Int.zero_mul,Int.zero_mul,ite_self];rfl
def Gh (p:Nat->Int) (m:Nat) (a b d:Int):Nat->Nat->Int
 |0,_=>0
 |q+1,k=>Gh p m a b d q k+p q*d^(m-1-q)*It a b q k
def hS (p:Nat->Int) (m:Nat) (a b d:Int) (j:Nat):Nat->Nat->Int
 |0,_=>0
 |q+1,k=>hS p m a b d j q k+p (m-1-j+q)*d^(j-q)*It a b q k
theorem kO {p:Nat->Int} {m:Nat} {a b d:Int} {j:Nat} (hj:j+1<=m-1) (k:Nat):∀q,q<=j+1->hS p m a b d (j+1) (q+1) k=p (m-2-j)*d^(j+1)*It a b 0 k+((if k=0 then 0 else hS p m a b d j q (k-1)*b)+hS p m a b d j q k*a)
 |0,_=>by
  rw[hS,hS,hS,hS,Int.zero_mul,Int.zero_mul,ite_self,Int.zero_add,show m-1-(j+1)+0=m-2-j by omega]
  simp
 |q+1,h=>by
  rw[hS,kO hj k q ω,show m-1-(j+1)+(q+1)=m-1-j+q by omega,show j+1-(q+1)=j-q by omega,aL,hS,hS]
  generalize p (m-1-j+q)*d^(j-q)=A
  by_cases hk:k=0
  rw[if_pos hk,if_pos hk,if_pos hk,Int.add_zero,Int.add_mul,Int.mul_assoc A]
  omega
  rw[if_neg hk,if_neg hk,if_neg hk,Int.add_mul,Int.add_mul,Int.mul_assoc A,Int.mul_assoc A,Int.mul_add]
  omega
theorem Acm (p:Nat->Int) (m:Nat) (a b d:Int) (j:Nat):∀q k,q<=k->hS p m a b d j q k=0
 |0,_,_=>rfl
 |q+1,k,h=>by rw[hS,Acm p m a b d j q k ω,Ow a b q k ω,Int.mul_zero];rfl
theorem rO {p:Nat->Int} {m:Nat} {a b d:Int}:∀j,j<=m-1->∀k,k<=j->cN p m a b d j k=hS p m a b d j (j+1) k
 |0,_,k,hk=>by
  obtain rfl:k=0:=by omega
  rw[cN,hS,hS,It,if_pos rfl]
  simp
 |j+1,hj,k,hk=>by
  rw[kO hj k (j+1) ζ,cN,Ww,It]
  have h0:(if k=0 then p (m-2-j)*d^(j+1) else 0)=p (m-2-j)*d^(j+1)*(if k=0 then 1 else 0):=by
   split<;>simp
  rw[h0,Int.add_comm]
  congr 1
  unfold Lf
  by_cases h1:k<j+1
  rw[if_pos h1,rO j ω k ω]
  by_cases h2:k=0
  rw[if_pos h2,if_pos h2]
  rw[if_neg h2,if_neg h2,rO j ω (k-1) ω]
  obtain rfl:k=j+1:=by omega
  rw[if_neg h1,if_pos ⟨rfl,ω⟩,if_neg ω,Nat.add_sub_cancel,rO j ω j ζ,Acm p m a b d j (j+1) (j+1) ζ,Int.zero_mul,Int.add_zero]
theorem Acn (p:Nat->Int) (m:Nat) (a b d:Int) (k:Nat):∀q,hS p m a b d (m-1) q k=Gh p m a b d q k
 |0=>rfl
 |q+1=>by rw[hS,Gh,Acn p m a b d k q,Nat.sub_self,Nat.zero_add]
theorem Abu {p:Nat->Int} {m:Nat} {a b d:Int} {k:Nat} (hk:k<m):Afc p m a b d k=Gh p m a b d m k:=by
 show cN p m a b d (m-1) k=_
 rw[rO (m-1) ζ k ω,show m-1+1=m by omega,Acn]
theorem Tv (p:Nat->Int) (m:Nat) (a b d:Int):∀q k,q<=k->Gh p m a b d q k=0
 |0,_,_=>rfl
 |q+1,k,h=>by rw[Gh,Tv p m a b d q k ω,Ow a b q k ω,Int.mul_zero];rfl
theorem Zs (l:List Int) (d k i:Nat):rP l d k i=Gh (Sn l) (Tp l) (k:Int) 1 ((2^d:Nat):Int) (Tp l) i:=by
 unfold rP Al
 by_cases hi:i<Tp l
 rw[<-Abu hi]
 by_cases h2:i<spN l d k
 exact if_pos h2
 rw[if_neg h2]
 exact(aN (c:=spP l d k) hi (Nat.not_lt.1 h2)).symm
 rw[Tv _ _ _ _ _ _ _ ω]
 exact if_neg (λh=>hi (Nat.lt_of_lt_of_le h (Fw _ _)))
theorem oD {l:List Int} {o:Int} (h0:1<=l.length) (h6:l.length<=6) (hb:Mu l o l.length):∀i,i<l.length->(l.getD i 0).natAbs<=335544320*o:=by
 have ho:0<=o:=by
  have:=hb 0 ω
  omega
 have hj:∀j,j<l.length->((Cp l j (j+1)).natAbs:Int)<=62914560*o:=hb
 match l,h0,h6 with
 |[a],_,_=>
  have e0:=hj 0 (by simp)
  simp[Cp,Kf,Au] at e0
  intro i hi
  match i,hi with
  |0,_=>simp;omega
 |[a,b],_,_=>
  have e0:=hj 0 (by simp)
  have e1:=hj 1 (by simp)
  simp[Cp,Kf,Au] at e0 e1
  intro i hi
  match i,hi with
  |0,_=>simp;omega
  |1,_=>simp;omega
 |[a,b,c],_,_=>
  have e0:=hj 0 (by simp)
  have e1:=hj 1 (by simp)
  have e2:=hj 2 (by simp)
  simp[Cp,Kf,Au] at e0 e1 e2
  intro i hi
  match i,hi with
  |0,_=>simp;omega
  |1,_=>simp;omega
  |2,_=>simp;omega
 |[a,b,c,d],_,_=>
  have e0:=hj 0 (by simp)
  have e1:=hj 1 (by simp)
  have e2:=hj 2 (by simp)
  have e3:=hj 3 (by simp)
  simp[Cp,Kf,Au] at e0 e1 e2 e3
  intro i hi
  match i,hi with
  |0,_=>simp;omega
  |1,_=>simp;omega
  |2,_=>simp;omega
  |3,_=>simp;omega
 |[a,b,c,d,e],_,_=>
  have e0:=hj 0 (by simp)
  have e1:=hj 1 (by simp)
  have e2:=hj 2 (by simp)
  have e3:=hj 3 (by simp)
  have e4:=hj 4 (by simp)
  simp[Cp,Kf,Au] at e0 e1 e2 e3 e4
  intro i hi
  match i,hi with
  |0,_=>simp;omega
  |1,_=>simp;omega
  |2,_=>simp;omega
  |3,_=>simp;omega
  |4,_=>simp;omega
 |[a,b,c,d,e,f],_,_=>
  have e0:=hj 0 (by simp)
  have e1:=hj 1 (by simp)
  have e2:=hj 2 (by simp)
  have e3:=hj 3 (by simp)
  have e4:=hj 4 (by simp)
  have e5:=hj 5 (by simp)
  simp[Cp,Kf,Au] at e0 e1 e2 e3 e4 e5
  intro i hi
  match i,hi with
  |0,_=>simp;omega
  |1,_=>simp;omega
  |2,_=>simp;omega
  |3,_=>simp;omega
  |4,_=>simp;omega
  |5,_=>simp;omega
theorem Uc {k D:Nat} (hk:k<=D) (hD:1<=D):∀q i,(It (k:Int) 1 q i).natAbs<=(2*D)^q
 |0,i=>by
  unfold It
  split<;>simp
 |q+1,i=>by
  have h1:=Uc hk hD q i
  have h2:=Uc hk hD q (i-1)
  rw[aL,Nat.pow_succ]
  have a1:(It (k:Int) 1 q i*(k:Int)).natAbs<=(2*D)^q*D:=by
   rw[Int.natAbs_mul,Int.natAbs_natCast]
   exact Nat.mul_le_mul h1 hk
  have a2:(if i=0 then (0:Int) else It (k:Int) 1 q (i-1)*1).natAbs<=(2*D)^q*D:=by
   split
   simp
   rw[Int.mul_one]
   exact Nat.le_trans h2 (Nat.le_mul_of_pos_right _ hD)
  have:=Int.natAbs_add_le (It (k:Int) 1 q i*(k:Int)) (if i=0 then (0:Int) else It (k:Int) 1 q (i-1)*1)
  rw[show (2*D)^q*(2*D)=(2*D)^q*D+(2*D)^q*D by rw[<-Nat.mul_add];congr 1;omega]
  omega
theorem Zv {p:Nat->Int} {m k D M:Nat} (hk:k<=D) (hD:1<=D) (hp:∀i,i<m->(p i).natAbs<=M) (i:Nat):∀q,q<=m->(Gh p m (k:Int) 1 (D:Int) q i).natAbs<=q*(M*(2^(m-1)*D^(m-1)))
 |0,_=>by rw[Gh,Nat.zero_mul];exact Nat.le_refl _
 |q+1,h=>by
  have ih:=Zv hk hD hp i q ω
  rw[Gh]
  have a1:(p q*(D:Int)^(m-1-q)*It (k:Int) 1 q i).natAbs<=M*(2^(m-1)*D^(m-1)):=by
   rw[Int.natAbs_mul,Int.natAbs_mul,Int.natAbs_pow,Int.natAbs_natCast,Nat.mul_assoc]
   refine Nat.mul_le_mul (hp q ω) ?_
   refine Nat.le_trans (Nat.mul_le_mul_left _ (Uc hk hD q i)) ?_
   rw[Nat.mul_pow,Nat.mul_left_comm,<-Nat.pow_add,show m-1-q+q=m-1 by omega]
   exact Nat.mul_le_mul_right _ (Nat.pow_le_pow_right δ ω)
  have:=Int.natAbs_add_le (Gh p m (k:Int) 1 (D:Int) q i) (p q*(D:Int)^(m-1-q)*It (k:Int) 1 q i)
  rw[Nat.add_mul,Nat.one_mul]
  omega
theorem aH {p:Nat->Int} {n j M:Nat} (hn:n<6) (hj:j<6) (hp:∀i,(p i).natAbs<=M):∀q,q<=6->(Fi p n j q).natAbs<=q*(M*600)
 |0,_=>by rw[Fi,Nat.zero_mul];exact Nat.le_refl _
 |q+1,h=>by
  have ih:=aH hn hj hp q ω
  have a1:(p q*(Kf n j q:Int)).natAbs<=M*600:=by
   rw[Int.natAbs_mul,Int.natAbs_natCast]
   exact Nat.mul_le_mul (hp q) (fP n hn j hj q ω)
  have:=Int.natAbs_add_le (Fi p n j q) (p q*(Kf n j q:Int))
  rw[Fi,Nat.add_mul,Nat.one_mul]
  omega
theorem Ai1 {l:List Int} {o:Int} {d k:Nat} (h0:1<=l.length) (h6:l.length<=6) (hb:Mu l o l.length) (ho:0<o) (hk:k<2^d) (i:Nat):(rP l d k i).natAbs<=6*((335544320*o).natAbs*(32*(2^d)^(l.length-1))):=by
 have hm:Tp l<=l.length:=Fw _ _
 have hD:1<=2^d:=Nat.two_pow_pos d
 have hc:=oD h0 h6 hb
 rw[Zs]
 have h:=Zv (p:=Sn l) (m:=Tp l) (k:=k) (D:=2^d) (M:=(335544320*o).natAbs) (Nat.le_of_lt hk) hD (λi hi=>by have:=hc i ω;show (l.getD i 0).natAbs<=_;omega) i (Tp l) ζ
 refine Nat.le_trans h (Nat.mul_le_mul ω (Nat.mul_le_mul_left _ (Nat.mul_le_mul ?_ (Nat.pow_le_pow_right hD ω))))
 exact Nat.le_trans (Nat.pow_le_pow_right δ (show Tp l-1<=5 by omega)) δ
theorem Ai2 {l:List Int} {o:Int} {d k j:Nat} (h0:1<=l.length) (h6:l.length<=6) (hb:Mu l o l.length) (ho:0<o) (hk:k<2^d) (hj:j<=l.length-1):((rS l d k j).natAbs:Int)<=3865470566400*rW l o d:=by
 have h:=aH (p:=rP l d k) (n:=l.length-1) (j:=j) ω ω (Ai1 h0 h6 hb ho hk) (j+1) ω
 have h2:(j+1)*(6*((335544320*o).natAbs*(32*(2^d)^(l.length-1)))*600)<=6*(6*((335544320*o).natAbs*(32*(2^d)^(l.length-1)))*600):=Nat.mul_le_mul_right _ ω
 have h3:(rS l d k j).natAbs<=6*(6*((335544320*o).natAbs*(32*(2^d)^(l.length-1)))*600):=Nat.le_trans h h2
 unfold rW
 rw[Nat.pow_mul]
 obtain⟨m,hm⟩:∃m:Nat,o=(m:Int):=⟨o.toNat,ω⟩
 subst hm
 have e:(335544320*(m:Int)).natAbs=335544320*m:=by omega
 rw[e] at h3
 generalize (2^d)^(l.length-1)=D at*
 have e2:335544320*m*(32*D)=10737418240*(m*D):=by
  rw[Nat.mul_mul_mul_comm]
 rw[e2] at h3
 rw[<-Int.natCast_mul]
 generalize m*D=x at*
 omega
theorem Nd {l:List Int} {o:Int} (d:Nat) (ho:0<o):0<rW l o d:=by
 have:=pP o (d*(l.length-1)) ho
 unfold rW
 omega
theorem Ab4 {x w:Int} (hw:0<w) (h:(x.natAbs:Int)<=3865470566400*w): -4000000000000<=x/w/\x/w<=4000000000000:=by
 constructor
 refine(Int.le_ediv_iff_mul_le hw).2 ?_
 omega
 refine Int.le_of_lt_add_one ((Int.ediv_lt_iff_lt_mul hw).2 ?_)
 omega
theorem gG {f:Nat->Int}:∀{n:Nat},(∀j,j<=n->-4000000000000<=f j/\f j<=4000000000000)->-4000000000000<=Ji f n/\Ji f n<=4000000000000
 |0,h=>h 0 ζ
 |n+1,h=>by
  have h1:=gG λj hj=>h j (Nat.le_succ_of_le hj)
  have h2:=h (n+1) ζ
  rw[Ji]
  omega
theorem AgL {x:Int} (h: -4000000000000<=x/\x<=4000000000000):iR x=x:=if_pos ω
theorem iM {l:List Int} {o:Int} {d k:Nat} (h0:1<=l.length) (h6:l.length<=6) (hb:Mu l o l.length) (ho:0<o) (hk:k<2^d) (j:Nat) (hj:j<=l.length-1):
  (-4000000000000<=rS l d k j/rW l o d/\rS l d k j/rW l o d<=4000000000000)/\-4000000000000<=-rS l d k j/rW l o d/\-rS l d k j/rW l o d<=4000000000000:=by
 have h:=Ai2 h0 h6 hb ho hk hj
 exact⟨Ab4 (Nd d ho) h,Ab4 (Nd d ho) (by rw[Int.natAbs_neg];exact h)⟩
theorem qC {l:List Int} {o:Int} {d k:Nat} (h0:1<=l.length) (h6:l.length<=6) (hb:Mu l o l.length) (ho:0<o) (hk:k<2^d):Gi l o d k=Ji (λj=>rS l d k j/rW l o d) (l.length-1):=by
 rw[qD h6 h0 ho]
 exact AgL (gG λj hj=>(iM h0 h6 hb ho hk j hj).1)
theorem aG {l:List Int} {o:Int} {d k:Nat} (h0:1<=l.length) (h6:l.length<=6) (hb:Mu l o l.length) (ho:0<o) (hk:k<2^d):Eh l o d k=Ji (λj=> -rS l d k j/rW l o d) (l.length-1):=by
 rw[qE h6 h0 ho]
 exact AgL (gG λj hj=>(iM h0 h6 hb ho hk j hj).2)
theorem mK {f:Nat->Int} {M:Nat}:∀{N:Nat},M<=N->(∀k,M<=k->k<N->f k=0)->Ay f N=Ay f M
 |0,h,_=>by
  obtain rfl:M=0:=by omega
  rfl
 |N+1,h,h0=>by
  by_cases e:M=N+1
  rw[e]
  rw[Ay,if_pos (h0 N ω ω)]
  exact mK ω λk a b=>h0 k a ω
theorem lK {f:Nat->Int} {N:Nat} (h:∀k,N<=k->f k=0):Al f (Ay f N)=f:=funext λk=>by
 unfold Al
 split
 rfl
 rename_i g
 by_cases e:k<N
 exact(aN e ω).symm
 exact(h k ω).symm
theorem Zp {f:Nat->Int} {N k:Nat} (h:N<=k):Al f N k=0:=if_neg ω
theorem AfV {f:Nat->Int} {N k:Nat} (h:k<N):Al f N k=f k:=if_pos h
theorem tK {f:Nat->Int} {N:Nat} (h:∀k,N<=k->f k=0):Al f N=f:=funext λk=>by
 unfold Al
 split
 rfl
 exact(h k ω).symm
def My (f g:Nat->Int) (k:Nat):Nat->Int
 |0=>0
 |j+1=>My f g k j+f j*g (k-j)
theorem rU {f g:Nat->Int} {F G:Nat} (hf:∀i,(f i).natAbs<=F) (hg:∀i,(g i).natAbs<=G) (k:Nat):∀j,(My f g k j).natAbs<=j*(F*G)
 |0=>by rw[My];simp
 |j+1=>by
  have h:=rU hf hg k j
  have h2:=Nat.mul_le_mul (hf j) (hg (k-j))
  rw[<-Int.natAbs_mul] at h2
  rw[My,Nat.succ_mul]
  omega
def aZ (a b:Int) (k:Nat):Int:=if k=0 then a else if k=1 then b else 0
theorem Aby {f:Nat->Int} {a b:Int} {k:Nat}:∀{j:Nat},j+1<=k->My f (aZ a b) k j=0
 |0,_=>rfl
 |j+1,h=>by
  rw[My,Aby ω,aZ,if_neg ω,if_neg ω,Int.mul_zero]
  rfl
theorem Ajv (a b:Int) (i:Nat):∀k,My (It a b i) (aZ a b) k (k+1)=It a b (i+1) k
 |0=>by
  rw[My,My,aL,if_pos rfl,aZ,if_pos ω]
  omega
 |k+1=>by
  rw[My,My,Aby ω,aL,if_neg ω,aZ,if_neg ω,if_pos ω,aZ,if_pos ω,Nat.add_sub_cancel]
  omega
theorem qJ (a:Int):∀i,It a 1 i i=1
 |0=>rfl
 |i+1=>by
  rw[aL,if_neg ω,Nat.add_sub_cancel,qJ a i,Ow a 1 i (i+1) ω,Int.zero_mul]
  rfl
theorem uB (a:Int) (i:Nat):Ay (It a 1 i) (i+1)=i+1:=Nz (.inr (by rw[Nat.add_sub_cancel,qJ];decide))
theorem Ady {p:Nat->Int} {m:Nat} {a d:Int} (hm:0<m):Gh p m a 1 d m (m-1)=p (m-1):=by
 obtain⟨q,rfl⟩:∃q,m=q+1:=⟨m-1,ω⟩
 rw[Gh,Tv _ _ _ _ _ q _ ω,Nat.add_sub_cancel,Nat.sub_self,qJ]
 simp
theorem AdS {p:Nat->Int} {m:Nat} {a d:Int} (h:m=0\/p (m-1)≠0):Ay (Gh p m a 1 d m) m=m:=Nz (by
 rcases h with h|h
 exact .inl h
 by_cases e:m=0
 exact .inl e
 exact .inr (by rw[Ady ω];exact h))
theorem eC {p:Nat->Int} {m:Nat} {a b d:Int} (i:Nat):(λk=>Al (Gh p m a b d i) (Ay (Gh p m a b d i) i) k+Al (λk=>It a b i k*(p i*d^(m-1-i))) (Ay (λk=>It a b i k*(p i*d^(m-1-i))) (i+1)) k)=Gh p m a b d (i+1):=funext λk=>by
 rw[lK (Tv p m a b d i),lK (f:=λk=>It a b i k*(p i*d^(m-1-i))) (λk h=>by
  show It a b i k*_=0
  rw[Ow a b i k ω,Int.zero_mul])]
 show Gh p m a b d i k+It a b i k*(p i*d^(m-1-i))=Gh p m a b d i k+p i*d^(m-1-i)*It a b i k
 rw[Int.mul_comm (It a b i k)]
theorem qK {p:Nat->Int} {m:Nat} {a b d:Int} (i:Nat):Ay (Gh p m a b d (i+1)) (max (Ay (Gh p m a b d i) i) (Ay (λk=>It a b i k*(p i*d^(m-1-i))) (i+1)))=Ay (Gh p m a b d (i+1)) (i+1):=by
 have h1:=Fw (Gh p m a b d i) i
 have h2:=Fw (λk=>It a b i k*(p i*d^(m-1-i))) (i+1)
 refine(mK ω λk hk _=>?_).symm
 rw[<-eC]
 show Al _ _ k+Al _ _ k=0
 rw[Zp ω,Zp ω]
 rfl
abbrev Lt (n:Nat) (f:Nat->Int):AV:= .slc 2 n λk=>iA (f k)
theorem sY:nZ 0<=0:=Nat.le_of_eq Vz
theorem aT (f:Nat->Int) (E:Ap) (v:Value) (h:VR E (.lit (.slice none 0 0)) v):VR E (Lt 0 f) v:=by
 cases h with
 |lit=>exact .slc _ _ _ _ _ _ ζ (.sl0 _ _ _ _ _)
theorem Ib (N:Nat) (f:Nat->Int) (hN:N<=1000000):AF Tryz.prog 79 [Lt N f] (Lt (Ay f N) f):=by
 refine Ai func79 rfl λB D0 hA0=>?_
 refine Aa 7 (Wg [0] (λm s=>∃j,m=j+1/\(j<=N/\Ay f j=Ay f N)/\s=⟨[(0,.slc 2 j (λi0=>iA (f i0)))],[],0,22⟩) (N+1) ⟨N,rfl,⟨Nat.le_refl _,rfl⟩,κ⟩ ?_)
 rintro _ _ ⟨j,rfl,hF,rfl⟩ J1 hJ1
 refine Aa 7 (Cu 6 ((0:Int)<(j:Int)) (λhx1 hx1d=>?_) (λhx1 hx1d=>?_))
 ·
  refine Aa 3 (Ao ((j:Int)-1) ((j-1:Nat):Int) (Dm (j-1) j (Aa 1 (Aj (Sw (f (j-1))) (Aa 4 (Cu 15 ((f (j-1)).sign=0) (λhx2 hx2d=>?_) (λhx2 hx2d=>?_)))))))
  ·
   exact Aa 8 (Ao ((j:Int)-1) ((j-1:Nat):Int) (Cc (.slc 2 (j-1) (λi0=>iA (f i0))) .none (Nb 82 (.tmp 16) (.tmp 19) κ underlying82 2 j sizeOf47 (λi0=>iA (f i0)) κ (j-1) ((j-1:Nat):Int) κ ω ω) (Aa 3 (Pe [0] (hJ1 _ _ (by omega:j-1+1<j+1) ⟨j-1,rfl,⟨ω,(aM ω ω).symm.trans hF.2⟩,rfl⟩)))))
  ·
   exact Aa 13 (Ch (.slc 2 j (λi0=>iA (f i0))) (congrArg (λq=>Lt q f) (Oy hF.2 ω)))
 ·
  exact Aa 24 (Ch (.slc 2 j (λi0=>iA (f i0))) (congrArg (λq=>Lt q f) (Oy hF.2 ω)))
theorem Kk (n:Nat) (f:Nat->Int) (k:Nat) (_:n<=1000000) (hk:k<=1000000):AF Tryz.prog 121 [Lt n f,.int (k:Int)] (iA (Al f n k)):=by
 refine Ai func121 rfl λB D0 hA0=>?_
 refine Aa 11 (Ev 7 (decide ((k:Int)<0)) false (decide_eq_false ω) (Aa 7 (Cu 12 ((n:Int)<=(k:Int)) (λhx1 hx1d=>?_) (λhx1 hx1d=>?_))))
 ·
  refine Aa 4 (Ee 13 (.lit (.agg #[.bool false,.slice none 0 0])) (iA 0) Jh ?_)
  exact Aa 5 (Ch (iA (0:Int)) (congrArg iA (Zp ω).symm))
 ·
  exact Aa 7 (Dm k n (Aa 5 (Ch (iA (f k)) (congrArg iA (AfV ω).symm))))
theorem Fq {f:Nat->Int} {M:Nat} (h:∀k,nZ (f k)<=M) (n k:Nat):nZ (Al f n k)<=M:=by
 unfold Al
 split
 exact h k
 exact Nat.le_trans sY Ω
theorem Aev (n l:Nat) (f g:Nat->Int) (hn:n<=1000) (hl:l<=1000) (hf:∀k,nZ (f k)<=800) (hg:∀k,nZ (g k)<=800):AF Tryz.prog 75 [Lt n f,Lt l g] (Lt (Ay (λk=>Al f n k+Al g l k) (max n l)) (λk=>Al f n k+Al g l k)):=by
 refine Ai func75 rfl λB D0 hA0=>?_
 refine Aa 17 (Wg [0,1,5,6] (λm s=>∃j,j<=(max n l)/\m=(max n l)-j/\True/\((j=0/\s=⟨[(0,.slc 2 n (λi0=>iA (f i0))),(1,.slc 2 l (λi0=>iA (g i0))),(5,.lit (.slice none 0 0)),(6,.int ((0:Nat):Int))],[],0,31⟩)\/(0<j/\s=⟨[(0,.slc 2 n (λi0=>iA (f i0))),(1,.slc 2 l (λi0=>iA (g i0))),(5,.osl 9 2 j),(6,.int (j:Int))],[(9,.vec 47 2 j (λi0=>iA (Al f n i0+Al g l i0)))],10,31⟩))) (max n l) ⟨0,Nat.zero_le _,rfl,trivial,.inl ⟨rfl,κ⟩⟩ ?_)
 rintro _ _ ⟨j,hjn,rfl,hFj,(⟨hj0,rfl⟩|⟨hj0,rfl⟩)⟩ J1 hJ1
 ·
  subst hj0
  refine Aa 8 (Cu 11 (((0:Nat):Int)<(n:Int)) (λhx1 hx1d=>?_) (λhx1 hx1d=>?_))
  ·
   refine Aa 16 (Aj (Kk n f 0 ω ω) (Aa 2 (Aj (Kk l g 0 ω ω) (Aj (Ob (Al f n 0) (Al g l 0) (by have:=Fq hf n 0;omega) (by have:=Fq hg l 0;omega)) (Iu 0 47 2 1 (λ_=>iA (Al f n 0+Al g l 0)) ?_)))))
   refine Sk 32 47 47 2 1 0 1 (λ_=>iA (Al f n 0+Al g l 0)) (λi0=>iA (Al f n i0+Al g l i0)) (λi hi=>by(obtain rfl:i=0:=(ω));rfl) ?_
   exact Aa 6 (Ao (((0:Nat):Int)+1) ((0+1:Nat):Int) (Aa 2 (Ew [0,1,5,6] [(1,9)] 10 0 hA0 [(47,2,1,(λ_=>iA (Al f n 0+Al g l 0))),(47,2,1,(λi0=>iA (Al f n i0+Al g l i0)))] ⟨(Bi λ_ _=>rfl),(Bi λ_ _=>rfl),trivial⟩ (hJ1 _ _ (by omega:(max n l)-(0+1)<(max n l)-0) ⟨0+1,ω,rfl,trivial,.inr ⟨Nat.succ_pos _,rfl⟩⟩))))
  ·
   refine Aa 7 (Cu 16 (((0:Nat):Int)<(l:Int)) (λhx2 hx2d=>?_) (λhx2 hx2d=>?_))
   ·
    refine Aa 9 (Aj (Kk n f 0 ω ω) (Aa 2 (Aj (Kk l g 0 ω ω) (Aj (Ob (Al f n 0) (Al g l 0) (by have:=Fq hf n 0;omega) (by have:=Fq hg l 0;omega)) (Iu 0 47 2 1 (λ_=>iA (Al f n 0+Al g l 0)) ?_)))))
    refine Sk 32 47 47 2 1 0 1 (λ_=>iA (Al f n 0+Al g l 0)) (λi0=>iA (Al f n i0+Al g l i0)) (λi hi=>by(obtain rfl:i=0:=(ω));rfl) ?_
    exact Aa 6 (Ao (((0:Nat):Int)+1) ((0+1:Nat):Int) (Aa 2 (Ew [0,1,5,6] [(1,9)] 10 0 hA0 [(47,2,1,(λ_=>iA (Al f n 0+Al g l 0))),(47,2,1,(λi0=>iA (Al f n i0+Al g l i0)))] ⟨(Bi λ_ _=>rfl),(Bi λ_ _=>rfl),trivial⟩ (hJ1 _ _ (by omega:(max n l)-(0+1)<(max n l)-0) ⟨0+1,ω,rfl,trivial,.inr ⟨Nat.succ_pos _,rfl⟩⟩))))
   ·
    refine Aa 6 (Ee 5 (.lit (.slice none 0 0)) (Lt 0 (λk=>Al f n k+Al g l k)) (aT _) ?_)
    exact Aa 3 (Aj (Ib 0 (λk=>Al f n k+Al g l k) ω) (Aa 4 (Ch (.slc 2 (Ay (λk=>Al f n k+Al g l k) 0) (λi0=>iA (Al f n i0+Al g l i0))) (congrArg (λq=>Lt (Ay (λk=>Al f n k+Al g l k) q) (λk=>Al f n k+Al g l k)) (show 0=max n l by omega)))))
 ·
  refine Aa 8 (Cu 11 ((j:Int)<(n:Int)) (λhx3 hx3d=>?_) (λhx3 hx3d=>?_))
  ·
   refine Aa 16 (Aj (Kk n f j ω ω) (Aa 2 (Aj (Kk l g j ω ω) (Aj (Ob (Al f n j) (Al g l j) (by have:=Fq hf n j;omega) (by have:=Fq hg l j;omega)) (Iu 10 47 2 1 (λ_=>iA (Al f n j+Al g l j)) ?_)))))
   refine Lz 32 47 47 2 j 1 9 10 11 (λi0=>iA (Al f n i0+Al g l i0)) (λ_=>iA (Al f n j+Al g l j)) (λi0=>iA (Al f n i0+Al g l i0)) (λi hi=>rfl) (λi hi=>by(obtain rfl:i=0:=(ω));rfl) ?_
   exact Aa 6 (Ao ((j:Int)+1) ((j+1:Nat):Int) (Aa 2 (Ew [0,1,5,6] [(11,9)] 10 0 hA0 [(47,2,1,(λ_=>iA (Al f n j+Al g l j))),(47,2,j+1,(λi0=>iA (Al f n i0+Al g l i0)))] ⟨(Bi λ_ _=>rfl),(Bi λ_ _=>rfl),trivial⟩ (hJ1 _ _ (by omega:(max n l)-(j+1)<(max n l)-j) ⟨j+1,ω,rfl,trivial,.inr ⟨Nat.succ_pos _,rfl⟩⟩))))
  ·
   refine Aa 7 (Cu 16 ((j:Int)<(l:Int)) (λhx4 hx4d=>?_) (λhx4 hx4d=>?_))
   ·
    refine Aa 9 (Aj (Kk n f j ω ω) (Aa 2 (Aj (Kk l g j ω ω) (Aj (Ob (Al f n j) (Al g l j) (by have:=Fq hf n j;omega) (by have:=Fq hg l j;omega)) (Iu 10 47 2 1 (λ_=>iA (Al f n j+Al g l j)) ?_)))))
    refine Lz 32 47 47 2 j 1 9 10 11 (λi0=>iA (Al f n i0+Al g l i0)) (λ_=>iA (Al f n j+Al g l j)) (λi0=>iA (Al f n i0+Al g l i0)) (λi hi=>rfl) (λi hi=>by(obtain rfl:i=0:=(ω));rfl) ?_
    exact Aa 6 (Ao ((j:Int)+1) ((j+1:Nat):Int) (Aa 2 (Ew [0,1,5,6] [(11,9)] 10 0 hA0 [(47,2,1,(λ_=>iA (Al f n j+Al g l j))),(47,2,j+1,(λi0=>iA (Al f n i0+Al g l i0)))] ⟨(Bi λ_ _=>rfl),(Bi λ_ _=>rfl),trivial⟩ (hJ1 _ _ (by omega:(max n l)-(j+1)<(max n l)-j) ⟨j+1,ω,rfl,trivial,.inr ⟨Nat.succ_pos _,rfl⟩⟩))))
   ·
    exact Aa 6 (Jg 9 [5] 47 2 j (λi0=>iA (Al f n i0+Al g l i0)) (Bi λ_ _=>rfl) (Aa 3 (Aj (Ib j (λk=>Al f n k+Al g l k) ω) (Aa 4 (Ch (.slc 2 (Ay (λk=>Al f n k+Al g l k) j) (λi0=>iA (Al f n i0+Al g l i0))) (congrArg (λq=>Lt (Ay (λk=>Al f n k+Al g l k) q) (λk=>Al f n k+Al g l k)) (show j=max n l by omega)))))))
theorem vB (n:Nat) (f:Nat->Int) (y:Int) (hn:n<=1000) (hf:∀k,nZ (f k)<=400) (hy:nZ y<=400):AF Tryz.prog 76 [Lt n f,iA y] (Lt (Ay (λk=>f k*y) n) (λk=>f k*y)):=by
 refine Ai func76 rfl λB D0 hA0=>?_
 refine Aa 18 (Wg [0,3,5,6] (λm s=>∃j,j<=n/\m=n-j/\True/\((j=0/\s=⟨[(0,.slc 2 n (λi0=>iA (f i0))),(3,.ptr 0 0),(5,.lit (.slice none 0 0)),(6,.int ((0:Nat):Int))],[(0,.box 47 [.bool (decide (y<0)),Dz y.natAbs])],1,24⟩)\/(0<j/\s=⟨[(0,.slc 2 n (λi0=>iA (f i0))),(3,.ptr 0 0),(5,.osl 9 2 j),(6,.int (j:Int))],[(0,.box 47 [.bool (decide (y<0)),Dz y.natAbs]),(9,.vec 47 2 j (λi0=>iA (f i0*y)))],10,24⟩))) n ⟨0,Nat.zero_le _,rfl,trivial,.inl ⟨rfl,κ⟩⟩ ?_)
 rintro _ _ ⟨j,hjn,rfl,hFj,(⟨hj0,rfl⟩|⟨hj0,rfl⟩)⟩ J1 hJ1
 ·
  subst hj0
  refine Aa 9 (Cu 10 (((0:Nat):Int)<(n:Int)) (λhx1 hx1d=>?_) (λhx1 hx1d=>?_))
  ·
   exact Aa 5 (Be [(3,Ax (.slc 2 n (λi0=>iA (f i0))) 0,.none),(6,_,.none),(7,.osl 1 2 1,(.new 1 (.vec 47 2 1 (λ_=>iA (f 0*y))))),(8,.osl 2 2 1,(.newr 1 2 (.vec 47 2 1 (λi0=>iA (f i0*y)))))] [0,3,5,6] ⟨Eg 0 n,Am (Fn (f 0) y (by have:=hf 0;omega)),Bo (Dj 82 1 #[(0,(.tmp 19))] κ underlying82 2 sizeOf47 _ zeroValue47 κ β β β 1 [.bool (decide ((f 0*y)<0)),Dz ((f 0*y).natAbs)] κ (λ_=>iA (f 0*y)) κ),Bo (Ls (.tmp 13) (.tmp 20) 82 κ underlying82 2 32 (.agg #[.bool false,.slice none 0 0]) κ κ δ 1 ω (λ_=>iA (f 0*y)) (λi0=>iA (f i0*y)) 2 (λi hi=>by(obtain rfl:i=0:=(ω));rfl) (λi hi j hj=>match j,hj with|0,_=>rfl|1,_=>rfl|_+2,h=>absurd h ω) (by unfold maxLen;omega) ω κ 1 47 κ κ),trivial⟩ (Aa 4 (Ao (((0:Nat):Int)+1) ((0+1:Nat):Int) (Aa 2 (Ew [0,3,5,6] [(0,0),(2,9)] 10 0 hA0 [(47,2,1,(λ_=>iA (f 0*y))),(47,2,1,(λi0=>iA (f i0*y)))] ⟨(Bi λ_ _=>rfl),(Bi λ_ _=>rfl),trivial⟩ (hJ1 _ _ (by omega:n-(0+1)<n-0) ⟨0+1,ω,rfl,trivial,.inr ⟨Nat.succ_pos _,rfl⟩⟩))))))
  ·
   refine Aa 6 (Ee 5 (.lit (.slice none 0 0)) (Lt 0 (λk=>f k*y)) (aT _) ?_)
   exact Aa 3 (Aj (Ib 0 (λk=>f k*y) ω) (Aa 4 (Ch (.slc 2 (Ay (λk=>f k*y) 0) (λi0=>iA (f i0*y))) (congrArg (λq=>Lt (Ay (λk=>f k*y) q) (λk=>f k*y)) (show 0=n by omega)))))
 ·
  refine Aa 9 (Cu 10 ((j:Int)<(n:Int)) (λhx2 hx2d=>?_) (λhx2 hx2d=>?_))
  ·
   exact Aa 5 (Be [(3,Ax (.slc 2 n (λi0=>iA (f i0))) j,.none),(6,_,.none),(7,.osl 10 2 1,(.new 10 (.vec 47 2 1 (λ_=>iA (f j*y))))),(8,.osl 11 2 (j+1),(.grow2 9 10 11 (.vec 47 2 (j+1) (λi0=>iA (f i0*y)))))] [0,3,5,6] ⟨Eg j n,Am (Fn (f j) y (by have:=hf j;omega)),Bo (Dj 82 1 #[(0,(.tmp 19))] κ underlying82 2 sizeOf47 _ zeroValue47 κ β β β 10 [.bool (decide ((f j*y)<0)),Dz ((f j*y).natAbs)] κ (λ_=>iA (f j*y)) κ),Bo (Qj (.tmp 13) (.tmp 20) 82 κ underlying82 2 32 (.agg #[.bool false,.slice none 0 0]) κ κ δ j 1 ω (λi0=>iA (f i0*y)) (λ_=>iA (f j*y)) (λi0=>iA (f i0*y)) 11 ω (by unfold maxLen;omega) (λi hi=>rfl) (λi hi=>by(obtain rfl:i=0:=(ω));rfl) (λi hi j hj=>match j,hj with|0,_=>rfl|1,_=>rfl|_+2,h=>absurd h ω) 9 κ κ 10 47 κ κ),trivial⟩ (Aa 4 (Ao ((j:Int)+1) ((j+1:Nat):Int) (Aa 2 (Ew [0,3,5,6] [(0,0),(11,9)] 10 0 hA0 [(47,2,1,(λ_=>iA (f j*y))),(47,2,j+1,(λi0=>iA (f i0*y)))] ⟨(Bi λ_ _=>rfl),(Bi λ_ _=>rfl),trivial⟩ (hJ1 _ _ (by omega:n-(j+1)<n-j) ⟨j+1,ω,rfl,trivial,.inr ⟨Nat.succ_pos _,rfl⟩⟩))))))
  ·
   exact Aa 6 (Jg 9 [5] 47 2 j (λi0=>iA (f i0*y)) (Bi λ_ _=>rfl) (Aa 3 (Aj (Ib j (λk=>f k*y) ω) (Aa 4 (Ch (.slc 2 (Ay (λk=>f k*y) j) (λi0=>iA (f i0*y))) (congrArg (λq=>Lt (Ay (λk=>f k*y) q) (λk=>f k*y)) (show j=n by omega)))))))
theorem eQ (x y z:Int) (h:nZ x+nZ y<=900) (e:x*y=z):AF Tryz.prog 18 [iA x,iA y] (iA z):=e▸Fn x y h
theorem Ma (x y z:Int) (hx:nZ x<=900) (hy:nZ y<=900) (e:x+y=z):AF Tryz.prog 39 [iA x,iA y] (iA z):=e▸Ob x y hx hy
theorem rB (n z:Int) (h:Bg n) (e:n=z):AF Tryz.prog 17 [.int n] (iA z):=e▸Ck n h
theorem uZ (x:Int) (n:Nat) (hn:n<=1000) (hx:nZ x<=400) (hp:∀i,i<=n->nZ (x^i)<=400):AF Tryz.prog 77 [iA x,.int (n:Int)] (iA (x^n)):=by
 refine Ai func77 rfl λB D0 hA0=>?_
 refine Aa 8 (Aj (rB 1 (x^0) δ (Int.pow_zero x).symm) (Aa 11 (Ue (keep:=[1,2,4,5,6]) n (λi=>⟨[(1,.int (n:Int)),(2,.ptr 0 0),(4,.ptr 1 0),(5,.ptr 2 0),(6,.int (i:Int))],[(0,.box 47 [.bool (decide (x<0)),Dz x.natAbs]),(1,.box 47 [.bool false,.lit (.slice none 0 0)]),(2,.box 47 [.bool (decide ((x^i)<0)),Dz ((x^i).natAbs)])],3,17⟩) (λi hi J1 hJ1=>?_) ?_)))
 ·
  exact Aa 6 (Ev 10 (decide ((i:Int)<(n:Int))) true (decide_eq_true ω) (Aa 10 (Aj (eQ (x^i) x (x^(i+1)) (by have:=hp i ω;omega) (Int.pow_succ x i).symm) (Aa 6 (Ao ((i:Int)+1) ((i+1:Nat):Int) (Aa 2 (Pe [1,2,4,5,6] hJ1)))))))
 ·
  exact Aa 6 (Ev 10 (decide ((n:Int)<(n:Int))) false (decide_eq_false ω) (Aa 15 (Br)))
theorem Ae7 (n l:Nat) (f g:Nat->Int) (hn:0<n/\n<=1000) (hl:0<l/\l<=1000) (hf:∀k,nZ (f k)<=400) (hg:∀k,nZ (g k)<=400) (hc:∀j k,k<=3000->nZ (My (Al f n) (Al g l) j k)<=800):AF Tryz.prog 78 [Lt n f,Lt l g] (Lt (Ay (λk=>My (Al f n) (Al g l) k (k+1)) (n+l-1)) (λk=>My (Al f n) (Al g l) k (k+1))):=by
 refine Ai func78 rfl λB D0 hA0=>?_
 refine Aa 17 (Wg [0,1,5,6] (λm s=>∃j,j<=(n+l-1)/\m=(n+l-1)-j/\True/\((j=0/\s=⟨[(0,.slc 2 n (λi0=>iA (f i0))),(1,.slc 2 l (λi0=>iA (g i0))),(5,.lit (.slice none 0 0)),(6,.int ((0:Nat):Int))],[],0,50⟩)\/(0<j/\s=⟨[(0,.slc 2 n (λi0=>iA (f i0))),(1,.slc 2 l (λi0=>iA (g i0))),(5,.osl 9 2 j),(6,.int (j:Int))],[(9,.vec 47 2 j (λi0=>iA (My (Al f n) (Al g l) i0 (i0+1))))],10,50⟩))) (n+l-1) ⟨0,Nat.zero_le _,rfl,trivial,.inl ⟨rfl,κ⟩⟩ ?_)
 rintro _ _ ⟨j,hjn,rfl,hFj,(⟨hj0,rfl⟩|⟨hj0,rfl⟩)⟩ J1 hJ1
 ·
  subst hj0
  refine Aa 8 (Ao ((n:Int)+(l:Int)) ((n+l:Nat):Int) (Ao (((n+l:Nat):Int)-1) ((n+l-1:Nat):Int) (Aa 3 (Cu 16 (((0:Nat):Int)<((n+l-1:Nat):Int)) (λhx1 hx1d=>?_) (λhx1 hx1d=>?_)))))
  ·
   refine Aa 9 (Ee 19 (.lit (.agg #[.bool false,.slice none 0 0])) (iA (My (Al f n) (Al g l) 0 0)) Jh ?_)
   refine Aa 10 (Ue (keep:=[0,1,5,6,7,8]) (0+1) (λk=>⟨[(0,.slc 2 n (λi0=>iA (f i0))),(1,.slc 2 l (λi0=>iA (g i0))),(5,.lit (.slice none 0 0)),(6,.int ((0:Nat):Int)),(7,.ptr 0 0),(8,.int (k:Int))],[(0,.box 47 [.bool (decide ((My (Al f n) (Al g l) 0 k)<0)),Dz ((My (Al f n) (Al g l) 0 k).natAbs)])],1,50⟩) (λk hk J2 hJ2=>?_) ?_)
   ·
    exact Aa 6 (Ev 22 (decide ((k:Int)<=((0:Nat):Int))) true (decide_eq_true ω) (Aa 7 (Be [(3,_,.none),(7,.int ((0-k:Nat):Int),.none),(8,_,.none),(9,_,.none),(10,_,.none)] [0,1,5,6,7,8] ⟨Am (Kk n f k ω ω),As (.int .i64 (IntKind.wrap .i64 (((0:Nat):Int)-(k:Int)))) η,Am (Kk l g (0-k) ω ω),Am (Fn (Al f n k) (Al g l (0-k)) (by have:=Fq hf n k;have:=Fq hg l (0-k);omega)),Am (Ma (My (Al f n) (Al g l) 0 k) ((Al f n k)*(Al g l (0-k))) _ (by have:=hc 0 k ω;omega) (by have:=Fq hf n k;have:=Fq hg l (0-k);have:=Hy (Al f n k) (Al g l (0-k));omega) rfl),trivial⟩ (Aa 4 (Ao ((k:Int)+1) ((k+1:Nat):Int) (Aa 2 (Pe [0,1,5,6,7,8] hJ2)))))))
   ·
    refine Aa 6 (Ev 22 (decide (((0+1):Int)<=((0:Nat):Int))) false (decide_eq_false ω) (Aa 11 (Iu 1 47 2 1 (λ_=>iA (My (Al f n) (Al g l) 0 (0+1))) ?_)))
    refine Sk 32 47 47 2 1 1 2 (λ_=>iA (My (Al f n) (Al g l) 0 (0+1))) (λi0=>iA (My (Al f n) (Al g l) i0 (i0+1))) (λi hi=>by(obtain rfl:i=0:=(ω));rfl) ?_
    exact Aa 6 (Ao (((0:Nat):Int)+1) ((0+1:Nat):Int) (Aa 2 (Ew [0,1,5,6] [(2,9)] 10 0 hA0 [(47,2,1,(λ_=>iA (My (Al f n) (Al g l) 0 (0+1)))),(47,2,1,(λi0=>iA (My (Al f n) (Al g l) i0 (i0+1))))] ⟨(Bi λ_ _=>rfl),(Bi λ_ _=>rfl),trivial⟩ (hJ1 _ _ (by omega:(n+l-1)-(0+1)<(n+l-1)-0) ⟨0+1,ω,rfl,trivial,.inr ⟨Nat.succ_pos _,rfl⟩⟩))))
  ·
   refine Aa 7 ?_
   exfalso;omega
 ·
  refine Aa 8 (Ao ((n:Int)+(l:Int)) ((n+l:Nat):Int) (Ao (((n+l:Nat):Int)-1) ((n+l-1:Nat):Int) (Aa 3 (Cu 16 ((j:Int)<((n+l-1:Nat):Int)) (λhx2 hx2d=>?_) (λhx2 hx2d=>?_)))))
  ·
   refine Aa 9 (Ee 19 (.lit (.agg #[.bool false,.slice none 0 0])) (iA (My (Al f n) (Al g l) j 0)) Jh ?_)
   refine Aa 10 (Ue (keep:=[0,1,5,6,7,8]) (j+1) (λk=>⟨[(0,.slc 2 n (λi0=>iA (f i0))),(1,.slc 2 l (λi0=>iA (g i0))),(5,.osl 9 2 j),(6,.int (j:Int)),(7,.ptr 10 0),(8,.int (k:Int))],[(9,.vec 47 2 j (λi0=>iA (My (Al f n) (Al g l) i0 (i0+1)))),(10,.box 47 [.bool (decide ((My (Al f n) (Al g l) j k)<0)),Dz ((My (Al f n) (Al g l) j k).natAbs)])],11,50⟩) (λk hk J3 hJ3=>?_) ?_)
   ·
    exact Aa 6 (Ev 22 (decide ((k:Int)<=(j:Int))) true (decide_eq_true ω) (Aa 7 (Be [(3,_,.none),(7,.int ((j-k:Nat):Int),.none),(8,_,.none),(9,_,.none),(10,_,.none)] [0,1,5,6,7,8] ⟨Am (Kk n f k ω ω),As (.int .i64 (IntKind.wrap .i64 ((j:Int)-(k:Int)))) η,Am (Kk l g (j-k) ω ω),Am (Fn (Al f n k) (Al g l (j-k)) (by have:=Fq hf n k;have:=Fq hg l (j-k);omega)),Am (Ma (My (Al f n) (Al g l) j k) ((Al f n k)*(Al g l (j-k))) _ (by have:=hc j k ω;omega) (by have:=Fq hf n k;have:=Fq hg l (j-k);have:=Hy (Al f n k) (Al g l (j-k));omega) rfl),trivial⟩ (Aa 4 (Ao ((k:Int)+1) ((k+1:Nat):Int) (Aa 2 (Pe [0,1,5,6,7,8] hJ3)))))))
   ·
    refine Aa 6 (Ev 22 (decide (((j+1):Int)<=(j:Int))) false (decide_eq_false ω) (Aa 11 (Iu 11 47 2 1 (λ_=>iA (My (Al f n) (Al g l) j (j+1))) ?_)))
    refine Lz 32 47 47 2 j 1 9 11 12 (λi0=>iA (My (Al f n) (Al g l) i0 (i0+1))) (λ_=>iA (My (Al f n) (Al g l) j (j+1))) (λi0=>iA (My (Al f n) (Al g l) i0 (i0+1))) (λi hi=>rfl) (λi hi=>by(obtain rfl:i=0:=(ω));rfl) ?_
    exact Aa 6 (Ao ((j:Int)+1) ((j+1:Nat):Int) (Aa 2 (Ew [0,1,5,6] [(12,9)] 10 0 hA0 [(47,2,1,(λ_=>iA (My (Al f n) (Al g l) j (j+1)))),(47,2,j+1,(λi0=>iA (My (Al f n) (Al g l) i0 (i0+1))))] ⟨(Bi λ_ _=>rfl),(Bi λ_ _=>rfl),trivial⟩ (hJ1 _ _ (by omega:(n+l-1)-(j+1)<(n+l-1)-j) ⟨j+1,ω,rfl,trivial,.inr ⟨Nat.succ_pos _,rfl⟩⟩))))
  ·
   exact Aa 7 (Jg 9 [5] 47 2 j (λi0=>iA (My (Al f n) (Al g l) i0 (i0+1))) (Bi λ_ _=>rfl) (Aa 5 (Ev 42 (decide ((n:Int)=0)) false (decide_eq_false ω) (Aa 4 (Ev 46 (decide ((l:Int)=0)) false (decide_eq_false ω) (Aa 9 (Aj (Ib j (λk=>My (Al f n) (Al g l) k (k+1)) ω) (Aa 4 (Ch (.slc 2 (Ay (λk=>My (Al f n) (Al g l) k (k+1)) j) (λi0=>iA (My (Al f n) (Al g l) i0 (i0+1)))) (congrArg (λq=>Lt (Ay (λk=>My (Al f n) (Al g l) k (k+1)) q) (λk=>My (Al f n) (Al g l) k (k+1))) (show j=n+l-1 by omega)))))))))))
abbrev inA (n:Nat) (f:Nat->Int):AV:= .slc 1 n λk=> .int (f k)
theorem Aaj (n:Nat) (f:Nat->Int) (hn:n<=1000) (hf:∀k,Bg (f k)):AF Tryz.prog 74 [inA n f] (Lt (Ay f n) f):=by
 refine Ai func74 rfl λB D0 hA0=>?_
 refine Aa 17 (Wg [0,3,4] (λm s=>∃j,j<=n/\m=n-j/\True/\((j=0/\s=⟨[(0,.slc 1 n (λi0=> .int (f i0))),(3,.lit (.slice none 0 0)),(4,.int ((0:Nat):Int))],[],0,21⟩)\/(0<j/\s=⟨[(0,.slc 1 n (λi0=> .int (f i0))),(3,.osl 9 2 j),(4,.int (j:Int))],[(9,.vec 47 2 j (λi0=>iA (f i0)))],10,21⟩))) n ⟨0,Nat.zero_le _,rfl,trivial,.inl ⟨rfl,κ⟩⟩ ?_)
 rintro _ _ ⟨j,hjn,rfl,hFj,(⟨hj0,rfl⟩|⟨hj0,rfl⟩)⟩ J1 hJ1
 ·
  subst hj0
  refine Aa 9 (Cu 8 (((0:Nat):Int)<(n:Int)) (λhx1 hx1d=>?_) (λhx1 hx1d=>?_))
  ·
   refine Aa 9 (Dm 0 n (Aa 1 (Aj (Ck (f 0) (hf _)) (Iu 0 47 2 1 (λ_=>iA (f 0)) ?_))))
   refine Sk 32 47 47 2 1 0 1 (λ_=>iA (f 0)) (λi0=>iA (f i0)) (λi hi=>by(obtain rfl:i=0:=(ω));rfl) ?_
   exact Aa 6 (Ao (((0:Nat):Int)+1) ((0+1:Nat):Int) (Aa 2 (Ew [0,3,4] [(1,9)] 10 0 hA0 [(47,2,1,(λ_=>iA (f 0))),(47,2,1,(λi0=>iA (f i0)))] ⟨(Bi λ_ _=>rfl),(Bi λ_ _=>rfl),trivial⟩ (hJ1 _ _ (by omega:n-(0+1)<n-0) ⟨0+1,ω,rfl,trivial,.inr ⟨Nat.succ_pos _,rfl⟩⟩))))
  ·
   refine Aa 6 (Ee 3 (.lit (.slice none 0 0)) (Lt 0 f) (aT _) ?_)
   exact Aa 3 (Aj (Ib 0 f ω) (Aa 4 (Ch (.slc 2 (Ay f 0) (λi0=>iA (f i0))) (congrArg (λq=>Lt (Ay f q) f) (show 0=n by omega)))))
 ·
  refine Aa 9 (Cu 8 ((j:Int)<(n:Int)) (λhx2 hx2d=>?_) (λhx2 hx2d=>?_))
  ·
   refine Aa 9 (Dm j n (Aa 1 (Aj (Ck (f j) (hf _)) (Iu 10 47 2 1 (λ_=>iA (f j)) ?_))))
   refine Lz 32 47 47 2 j 1 9 10 11 (λi0=>iA (f i0)) (λ_=>iA (f j)) (λi0=>iA (f i0)) (λi hi=>rfl) (λi hi=>by(obtain rfl:i=0:=(ω));rfl) ?_
   exact Aa 6 (Ao ((j:Int)+1) ((j+1:Nat):Int) (Aa 2 (Ew [0,3,4] [(11,9)] 10 0 hA0 [(47,2,1,(λ_=>iA (f j))),(47,2,j+1,(λi0=>iA (f i0)))] ⟨(Bi λ_ _=>rfl),(Bi λ_ _=>rfl),trivial⟩ (hJ1 _ _ (by omega:n-(j+1)<n-j) ⟨j+1,ω,rfl,trivial,.inr ⟨Nat.succ_pos _,rfl⟩⟩))))
  ·
   exact Aa 6 (Jg 9 [3] 47 2 j (λi0=>iA (f i0)) (Bi λ_ _=>rfl) (Aa 3 (Aj (Ib j f ω) (Aa 4 (Ch (.slc 2 (Ay f j) (λi0=>iA (f i0))) (congrArg (λq=>Lt (Ay f q) f) (show j=n by omega)))))))
theorem AdR (a:Int) (i:Nat):Al (It a 1 i) (i+1)=It a 1 i:=tK λk h=>Ow a 1 i k ω
theorem AaJ (a b:Int):Al (aZ a b) 2=aZ a b:=tK λk h=>by
 unfold aZ
 rw[if_neg ω,if_neg ω]
structure nX (p:Nat->Int) (t:Nat) (a d:Int):Prop where
 t6:t<=6
 pp:∀k,nZ (p k)<=3
 aa:nZ a<=100
 dd:nZ d<=100
 dp:∀i,i<=6->nZ (d^i)<=100
 tm:∀i,i<=6->∀k,nZ (It a 1 i k)<=100
 rc:∀i,i<=t->∀k,nZ (Gh p t a 1 d i k)<=300
 cv:∀i,i<=6->∀j k,k<=3000->nZ (My (It a 1 i) (aZ a 1) j k)<=800
section
variable {p:Nat->Int} {t:Nat} {a d:Int} (h:nX p t a d)
include h
theorem Aaw (i:Nat) (hi:i<6):AF Tryz.prog 78 [Lt (i+1) (It a 1 i),Lt 2 (aZ a 1)] (Lt (i+1+1) (It a 1 (i+1))):=by
 have h1:=Ae7 (i+1) 2 (It a 1 i) (aZ a 1) ⟨ω,ω⟩ ⟨δ,δ⟩ (λk=>Nat.le_trans (h.tm i ω k) δ) (λk=>by
  unfold aZ
  split
  exact Nat.le_trans h.aa δ
  split
  exact Nat.le_trans pH δ
  exact Nat.le_trans sY δ) (λj k hk=>by
  rw[AdR,AaJ]
  exact h.cv i ω j k hk)
 rw[AdR,AaJ,show (λk=>My (It a 1 i) (aZ a 1) k (k+1))=It a 1 (i+1) from funext (Ajv a 1 i),show i+1+2-1=i+1+1 from rfl,uB] at h1
 exact h1
omit h in
theorem vD:AF Tryz.prog 79 [Lt 2 (aZ a 1)] (Lt 2 (aZ a 1)):=by
 have h1:=Ib 2 (aZ a 1) δ
 have e:Ay (aZ a 1) 2=2:=Nz (.inr (show (1:Int)≠0 by decide))
 rw[e] at h1
 exact h1
omit h in
theorem cM:AF Tryz.prog 74 [inA 1 (It a 1 0)] (Lt (0+1) (It a 1 0)):=by
 have h1:=Aaj 1 (It a 1 0) δ (λk=>by
  show Bg (if k=0 then 1 else 0)
  split<;>decide)
 rw[show Ay (It a 1 0) 1=0+1 from uB a 0] at h1
 exact h1
theorem vA (i:Nat) (hi:i<t):AF Tryz.prog 76 [Lt (i+1) (It a 1 i),iA (p i*d^(t-1-i))] (Lt (Ay (λk=>It a 1 i k*(p i*d^(t-1-i))) (i+1)) (λk=>It a 1 i k*(p i*d^(t-1-i)))):=by
 have h6:=h.t6
 have h7:=h.pp i
 have h8:=h.dp (t-1-i) ω
 have h9:=Hy (p i) (d^(t-1-i))
 exact vB (i+1) (It a 1 i) _ ω (λk=>Nat.le_trans (h.tm i ω k) δ) ω
theorem AeG (i:Nat) (hi:i<t):AF Tryz.prog 75 [Lt (Ay (Gh p t a 1 d i) i) (Gh p t a 1 d i),Lt (Ay (λk=>It a 1 i k*(p i*d^(t-1-i))) (i+1)) (λk=>It a 1 i k*(p i*d^(t-1-i)))] (Lt (Ay (Gh p t a 1 d (i+1)) (i+1)) (Gh p t a 1 d (i+1))):=by
 have h6:=h.t6
 have l1:=Fw (Gh p t a 1 d i) i
 have l2:=Fw (λk=>It a 1 i k*(p i*d^(t-1-i))) (i+1)
 have h1:=Aev _ _ (Gh p t a 1 d i) (λk=>It a 1 i k*(p i*d^(t-1-i))) (show Ay (Gh p t a 1 d i) i<=1000 by omega) (show Ay (λk=>It a 1 i k*(p i*d^(t-1-i))) (i+1)<=1000 by omega) (λk=>Nat.le_trans (h.rc i ω k) δ) (λk=>by
  have h7:=h.pp i
  have h8:=h.dp (t-1-i) ω
  have h9:=Hy (p i) (d^(t-1-i))
  have h10:=h.tm i ω k
  have h11:=Hy (It a 1 i k) (p i*d^(t-1-i))
  show nZ (It a 1 i k*(p i*d^(t-1-i)))<=800
  omega)
 rw[eC,qK] at h1
 exact h1
end
theorem iY {p:Nat->Int} {t:Nat} {a d:Int} (h:nX p t a d):AF Tryz.prog 43 [Lt t p,iA a,iA 1,iA d] (Lt (Ay (Gh p t a 1 d t) t) (Gh p t a 1 d t)):=by
 have h6:=h.t6
 refine Ai func43 rfl λB D0 hA0=>?_
 refine Aa 15 (Iu 3 3 1 1 (λ_=> .int 1) ?_)
 refine Sp 3 3 1 1 (λ_=> .int 1) (λi0=> .int (It a 1 0 i0)) (λx9 hx9=>(by(obtain rfl:x9=0:=(ω));rfl)) (Jg 3 [12] 3 1 1 (λi0=> .int (It a 1 0 i0)) (Bi λ_ _=>rfl) (Aj (cM (a:=a)) (Aa 10 (Ee 9 (.lit (.slice none 0 0)) (Lt (Ay (Gh p t a 1 d 0) 0) (Gh p t a 1 d 0)) (aT _) ?_))))
 refine Ue (keep:=[0,5,6,7,9,10,11]) t (λi=>⟨[(0,.slc 2 t (λi0=>iA (p i0))),(5,.ptr 0 0),(6,.ptr 1 0),(7,.ptr 2 0),(9,.slc 2 (Ay (Gh p t a 1 d i) i) (λi0=>iA (Gh p t a 1 d i i0))),(10,.slc 2 (i+1) (λi0=>iA (It a 1 i i0))),(11,.int (i:Int))],[(0,.box 47 [.bool (decide (a<0)),Dz a.natAbs]),(1,.box 47 [.bool (decide ((1:Int)<0)),Dz ((1:Int).natAbs)]),(2,.box 47 [.bool (decide (d<0)),Dz d.natAbs])],4,43⟩) (λi hi J1 hJ1=>?_) ?_
 ·
  refine Aa 7 (Ev 17 (decide ((i:Int)<(t:Int))) true (decide_eq_true ω) (Aa 8 (Be [(4,Ax (.slc 2 t (λi0=>iA (p i0))) i,.none),(9,.int ((t-1:Nat):Int),.none),(11,.int ((t-1-i:Nat):Int),.none),(12,_,.none),(13,_,.none),(14,_,.none),(15,_,.none)] [0,5,6,7,9,10,11] ⟨Eg i t,As (.int .i64 (IntKind.wrap .i64 ((t:Int)-1))) η,As (.int .i64 (IntKind.wrap .i64 (((t-1:Nat):Int)-(i:Int)))) η,Am (uZ d (t-1-i) ω (Nat.le_trans h.dd δ) (λq hq=>Nat.le_trans (h.dp q ω) δ)),Am (Fn (p i) (d^(t-1-i)) (by have:=h.pp i;have:=h.dp (t-1-i) ω;omega)),Am (vA h i ω),Am (AeG h i ω),trivial⟩ (Aa 5 (Iu 4 47 2 2 (λxi=>[iA a,iA (1:Int)].getD xi .top) ?_)))))
  exact Sp 4 47 2 2 (λxi=>[iA a,iA (1:Int)].getD xi .top) (λi0=>iA (aZ a 1 i0)) (λx9 hx9=>(by match x9,hx9 with|0,_=>rfl|1,_=>rfl|_+2,h=>exact absurd h ω)) (Jg 4 [39] 47 2 2 (λi0=>iA (aZ a 1 i0)) (Bi λ_ _=>rfl) (Aj (vD (a:=a)) (Aj (Aaw h i ω) (Aa 6 (Ao ((i:Int)+1) ((i+1:Nat):Int) (Aa 2 (Ew [0,5,6,7,9,10,11] [(0,0),(1,1),(2,2)] 4 0 hA0 [] trivial hJ1)))))))
 ·
  exact Aa 7 (Ev 17 (decide ((t:Int)<(t:Int))) false (decide_eq_false ω) (Aa 15 (Br)))
theorem aV:∀n,n<6->∀k,k<6->k<=n->Dg n k=(Au n k:Int):=by decide+kernel
theorem dH {n j k:Nat} (hn:n<6) (hj:j<=n) (hk:k<=j):IntKind.wrap .i64 (IntKind.wrap .i64 (Int.tdiv 60 (Au n k:Int))*(Au j k:Int))=(Kf n j k:Int):=by
 have h:=sA hn hj hk
 rwa [Yg ω,Yg ω] at h
theorem Le {n k:Nat} (hn:n<6) (hk:k<=n):(Au n k:Int)≠0:=by
 have:=(Yh n hn k hk).1
 omega
theorem Mc (n k:Nat) (hn:n<6) (hk:k<=n):AF Tryz.prog 40 [.int (n:Int),.int (k:Int)] (.int (Au n k:Int)):=by
 refine Ai func40 rfl λB D0 hA0=>?_
 refine Aa 17 (Po [0,1,5,6] k (λi=>True) (λi=>⟨[(0,.int (n:Int)),(1,.int (k:Int)),(5,.int (Dg n i)),(6,.int (i:Int))],[],0,21⟩) trivial (λi hin hFi J1 hJ1=>?_))
 refine Aa 8 (Cu 9 ((i:Int)<(k:Int)) (λhx1 hx1d=>?_) (λhx1 hx1d=>?_))
 ·
  refine Aa 9 (Ao ((n:Int)-(i:Int)) ((n-i:Nat):Int) (Dx (.int .i64 (IntKind.wrap .i64 ((Dg n i)*((n-i:Nat):Int)))) (.int .i64 (IntKind.wrap .i64 ((Dg n i)*((n-i:Nat):Int)))) (Aa 1 (Ao ((i:Int)+1) ((i+1:Nat):Int) (Cc (.int (IntKind.wrap .i64 (Int.tdiv (IntKind.wrap .i64 ((Dg n i)*((n-i:Nat):Int))) ((i+1:Nat):Int)))) .none (La 3 3 (.tmp 16) (.tmp 18) (IntKind.wrap .i64 ((Dg n i)*((n-i:Nat):Int))) ((i+1:Nat):Int) κ κ κ ω) (Aa 6 (Ao ((i:Int)+1) ((i+1:Nat):Int) (Aa 2 (Ee 5 (.int (IntKind.wrap .i64 (Int.tdiv (IntKind.wrap .i64 ((Dg n i)*((n-i:Nat):Int))) ((i+1:Nat):Int)))) (.int (Dg n (i+1))) (Rl (congrArg AV.int (aW ω ω rfl))) ?_)))))))))
  exact Pe [0,1,5,6] (hJ1 ω trivial)
 ·
  exact Aa 13 (Ch (.int (Dg n i)) (congrArg AV.int (by(obtain rfl:i=k:=(ω));exact aV n hn i ω hk)))
theorem Gb (n k:Nat) (hn:n<6) (hk:k<=n):AF Tryz.prog 46 [.int (n:Int),.int (k:Int)] (.int (Au n k:Int)):=by
 refine Ai func46 rfl λB D0 hA0=>?_
 refine Aa 17 (Po [0,1,5,6] k (λi=>True) (λi=>⟨[(0,.int (n:Int)),(1,.int (k:Int)),(5,.int (Dg n i)),(6,.int (i:Int))],[],0,21⟩) trivial (λi hin hFi J1 hJ1=>?_))
 refine Aa 8 (Cu 9 ((i:Int)<(k:Int)) (λhx1 hx1d=>?_) (λhx1 hx1d=>?_))
 ·
  refine Aa 9 (Ao ((n:Int)-(i:Int)) ((n-i:Nat):Int) (Dx (.int .i64 (IntKind.wrap .i64 ((Dg n i)*((n-i:Nat):Int)))) (.int .i64 (IntKind.wrap .i64 ((Dg n i)*((n-i:Nat):Int)))) (Aa 1 (Ao ((i:Int)+1) ((i+1:Nat):Int) (Cc (.int (IntKind.wrap .i64 (Int.tdiv (IntKind.wrap .i64 ((Dg n i)*((n-i:Nat):Int))) ((i+1:Nat):Int)))) .none (La 3 3 (.tmp 16) (.tmp 18) (IntKind.wrap .i64 ((Dg n i)*((n-i:Nat):Int))) ((i+1:Nat):Int) κ κ κ ω) (Aa 6 (Ao ((i:Int)+1) ((i+1:Nat):Int) (Aa 2 (Ee 5 (.int (IntKind.wrap .i64 (Int.tdiv (IntKind.wrap .i64 ((Dg n i)*((n-i:Nat):Int))) ((i+1:Nat):Int)))) (.int (Dg n (i+1))) (Rl (congrArg AV.int (aW ω ω rfl))) ?_)))))))))
  exact Pe [0,1,5,6] (hJ1 ω trivial)
 ·
  exact Aa 13 (Ch (.int (Dg n i)) (congrArg AV.int (by(obtain rfl:i=k:=(ω));exact aV n hn i ω hk)))
theorem Aak (n:Nat) (f:Nat->Int) (hn:n<=1000) (hf:∀k,Bg (f k)):AF Tryz.prog 44 [.sl 1 n λk=> .int (f k)] (Lt (Ay f n) f):=by
 refine Ai func44 rfl λB D0 hA0=>?_
 refine Aa 17 (Wg [0,3,4] (λm s=>∃j,j<=n/\m=n-j/\True/\((j=0/\s=⟨[(0,.sl 1 n (λi0=> .int (f i0))),(3,.lit (.slice none 0 0)),(4,.int ((0:Nat):Int))],[],0,21⟩)\/(0<j/\s=⟨[(0,.sl 1 n (λi0=> .int (f i0))),(3,.osl 9 2 j),(4,.int (j:Int))],[(9,.vec 47 2 j (λi0=>iA (f i0)))],10,21⟩))) n ⟨0,Nat.zero_le _,rfl,trivial,.inl ⟨rfl,κ⟩⟩ ?_)
 rintro _ _ ⟨j,hjn,rfl,hFj,(⟨hj0,rfl⟩|⟨hj0,rfl⟩)⟩ J1 hJ1
 ·
  subst hj0
  refine Aa 9 (Cu 8 (((0:Nat):Int)<(n:Int)) (λhx1 hx1d=>?_) (λhx1 hx1d=>?_))
  ·
   refine Aa 9 (Dm 0 n (Aa 1 (Aj (Ck (f 0) (hf _)) (Iu 0 47 2 1 (λ_=>iA (f 0)) ?_))))
   refine Sk 32 47 47 2 1 0 1 (λ_=>iA (f 0)) (λi0=>iA (f i0)) (λi hi=>by(obtain rfl:i=0:=(ω));rfl) ?_
   exact Aa 6 (Ao (((0:Nat):Int)+1) ((0+1:Nat):Int) (Aa 2 (Ew [0,3,4] [(1,9)] 10 0 hA0 [(47,2,1,(λ_=>iA (f 0))),(47,2,1,(λi0=>iA (f i0)))] ⟨(Bi λ_ _=>rfl),(Bi λ_ _=>rfl),trivial⟩ (hJ1 _ _ (by omega:n-(0+1)<n-0) ⟨0+1,ω,rfl,trivial,.inr ⟨Nat.succ_pos _,rfl⟩⟩))))
  ·
   refine Aa 6 (Ee 3 (.lit (.slice none 0 0)) (Lt 0 f) (aT _) ?_)
   exact Aa 3 (Aj (Ib 0 f ω) (Aa 4 (Ch (.slc 2 (Ay f 0) (λi0=>iA (f i0))) (congrArg (λq=>Lt (Ay f q) f) (show 0=n by omega)))))
 ·
  refine Aa 9 (Cu 8 ((j:Int)<(n:Int)) (λhx2 hx2d=>?_) (λhx2 hx2d=>?_))
  ·
   refine Aa 9 (Dm j n (Aa 1 (Aj (Ck (f j) (hf _)) (Iu 10 47 2 1 (λ_=>iA (f j)) ?_))))
   refine Lz 32 47 47 2 j 1 9 10 11 (λi0=>iA (f i0)) (λ_=>iA (f j)) (λi0=>iA (f i0)) (λi hi=>rfl) (λi hi=>by(obtain rfl:i=0:=(ω));rfl) ?_
   exact Aa 6 (Ao ((j:Int)+1) ((j+1:Nat):Int) (Aa 2 (Ew [0,3,4] [(11,9)] 10 0 hA0 [(47,2,1,(λ_=>iA (f j))),(47,2,j+1,(λi0=>iA (f i0)))] ⟨(Bi λ_ _=>rfl),(Bi λ_ _=>rfl),trivial⟩ (hJ1 _ _ (by omega:n-(j+1)<n-j) ⟨j+1,ω,rfl,trivial,.inr ⟨Nat.succ_pos _,rfl⟩⟩))))
  ·
   exact Aa 6 (Jg 9 [3] 47 2 j (λi0=>iA (f i0)) (Bi λ_ _=>rfl) (Aa 3 (Aj (Ib j f ω) (Aa 4 (Ch (.slc 2 (Ay f j) (λi0=>iA (f i0))) (congrArg (λq=>Lt (Ay f q) f) (show j=n by omega)))))))
theorem uJ (s:Sg):AF Tryz.prog 19 [Dp s] (.sl 1 3 λk=>Af (Dd s k)):=by
 refine Ai func19 rfl λB D0 hA0=>?_
 refine Aa 14 (Iu 1 22 1 3 (λxi=>[Af s.x,Af s.y,Af s.z].getD xi .top) ?_)
 exact Aa 3 (Sp 1 22 1 3 (λxi=>[Af s.x,Af s.y,Af s.z].getD xi .top) (λi0=>Af (Dd s i0)) (λx9 hx9=>(by match x9,hx9 with|0,_=>rfl|1,_=>rfl|2,_=>rfl|_+3,h=>exact absurd h ω)) (mO 1 [2] 22 1 3 (λi0=>Af (Dd s i0)) (Bi λ_ _=>rfl) (Aa 1 (Br))))
theorem Acs {x j:Nat} (hj:0<j) (_:x<9223372036854775808):x/bB^j*1000000000+dB x (j-1)=x/bB^(j-1)/\x/bB^(j-1)<=x:=by
 have e:=Lm x (j-1)
 rw[show j-1+1=j by omega] at e
 refine⟨?_,Nat.div_le_self _ _⟩
 have:bB*(x/bB^j)=x/bB^j*1000000000:=Nat.mul_comm _ _
 omega
theorem Ig (z:Int) (hz:z.natAbs<9223372036854775808):AF Tryz.prog 48 [iA z] (.int z):=by
 have kz:nB z.natAbs<=3:=Gy (Nat.lt_trans hz δ)
 refine Ai func48 rfl λB D0 hA0=>?_
 refine Aa 17 (Ao ((nB z.natAbs:Int)-1) ((nB z.natAbs:Int)-1) (Aa 4 (Ee 3 (.int 0) (.int ((z.natAbs/bB^nB z.natAbs:Nat):Int)) (Rl (congrArg (λq:Nat=>AV.int (q:Int)) (Nat.div_eq_of_lt (Ki z.natAbs)).symm)) ?_)))
 refine Wg [1,3,4] (λm s=>∃j,m=j+1/\(j<=nB z.natAbs)/\s=⟨[(1,.ptr 0 0),(3,.int ((z.natAbs/bB^j:Nat):Int)),(4,.int ((j:Int)-1))],[(0,.box 47 [.bool (decide (z<0)),Dz z.natAbs])],1,26⟩) (nB z.natAbs+1) ⟨nB z.natAbs,rfl,Nat.le_refl _,κ⟩ ?_
 rintro _ _ ⟨j,rfl,hF,rfl⟩ J1 hJ1
 refine Aa 7 (Cu 10 ((0:Int)<=(j:Int)-1) (λhx1 hx1d=>?_) (λhx1 hx1d=>?_))
 ·
  refine Aa 5 (Ee 4 (.int ((j:Int)-1)) (.int ((j-1:Nat):Int)) (Rl (congrArg AV.int ω)) ?_)
  have hs:=Acs (x:=z.natAbs) (j:=j) ω hz
  exact Aa 2 (Ao (((z.natAbs/bB^j:Nat):Int)*1000000000) ((z.natAbs/bB^j*1000000000:Nat):Int) (Aa 3 (Dm (j-1) (nB z.natAbs) (Aa 1 (Ao (((z.natAbs/bB^j*1000000000:Nat):Int)+(dB z.natAbs (j-1):Int)) ((z.natAbs/bB^(j-1):Nat):Int) (Aa 6 (Ao (((j-1:Nat):Int)-1) (((j-1:Nat):Int)-1) (Aa 2 (Pe [1,3,4] (hJ1 _ _ (by omega:j-1+1<j+1) ⟨j-1,rfl,ω,rfl⟩))))))))))
 ·
  refine Aa 13 (Cu 22 (z<0) (λhx2 hx2d=>?_) (λhx2 hx2d=>?_))
  ·
   refine Aa 4 (Dx (.int .i64 (IntKind.wrap .i64 (0-((z.natAbs/bB^j:Nat):Int)))) (.int .i64 z) ?_ (congrArg (Value.int .i64) (by rw[show z.natAbs/bB^j=z.natAbs from(by rw[show j=0 by omega,Nat.pow_zero,Nat.div_one])];exact(IntWalk.i64_in _ ω).trans ω)))
   exact Aa 5 (Br)
  ·
   exact Aa 10 (Ch (.int ((z.natAbs/bB^j:Nat):Int)) (congrArg AV.int (by rw[show j=0 by omega,Nat.pow_zero,Nat.div_one];have h9:=of_decide_eq_false hx2;omega)))
theorem Mm {l:List Int} {j k:Nat} (hl:l.length<=6) (hj:j<6) (hk:k<=6) (h:∀i,Bg (l.getD i 0)):nZ (Cp l j k)<=4:=Gy (Nat.lt_of_le_of_lt (Nat.le_trans (Xa hl hj h k hk) (Nat.mul_le_mul_right _ hk)) δ)
theorem Gu {n j k:Nat} (hn:n<6) (hj:j<6) (hk:k<6):Bg (Kf n j k:Int):=Yq hn hj hk
theorem Vg (l:List Int) (h1:1<=l.length) (h6:l.length<=6) (hi:∀i,Bg (l.getD i 0)):AF Tryz.prog 20 [Af l] (.slc 2 l.length λk=>iA (Cp l k (k+1))):=by
 refine Ai func20 rfl λB D0 hA0=>?_
 refine Aa 9 (Ao ((l.length:Int)-1) ((l.length-1:Nat):Int) (Aa 15 (Wg [0,3,4,5] (λm s=>∃j,j<=l.length/\m=l.length-j/\True/\((j=0/\s=⟨[(0,Af l),(3,.int ((l.length-1:Nat):Int)),(4,.lit (.slice none 0 0)),(5,.int ((0:Nat):Int))],[],0,44⟩)\/(0<j/\s=⟨[(0,Af l),(3,.int ((l.length-1:Nat):Int)),(4,.osl 9 2 j),(5,.int (j:Int))],[(9,.vec 47 2 j (λi0=>iA (Cp l i0 (i0+1))))],10,44⟩))) l.length ⟨0,Nat.zero_le _,rfl,trivial,.inl ⟨rfl,κ⟩⟩ ?_)))
 rintro _ _ ⟨j,hjn,rfl,hFj,(⟨hj0,rfl⟩|⟨hj0,rfl⟩)⟩ J1 hJ1
 ·
  subst hj0
  refine Aa 8 (Cu 13 (((0:Nat):Int)<=((l.length-1:Nat):Int)) (λhx1 hx1d=>?_) (λhx1 hx1d=>?_))
  ·
   refine Aa 9 (Ee 16 (.lit (.agg #[.bool false,.slice none 0 0])) (iA (Cp l 0 0)) Jh ?_)
   refine Aa 10 (Ue (keep:=[0,3,4,5,6,7]) (0+1) (λk=>⟨[(0,Af l),(3,.int ((l.length-1:Nat):Int)),(4,.lit (.slice none 0 0)),(5,.int ((0:Nat):Int)),(6,.ptr 0 0),(7,.int (k:Int))],[(0,.box 47 [.bool (decide ((Cp l 0 k)<0)),Dz ((Cp l 0 k).natAbs)])],1,44⟩) (λk hk J2 hJ2=>?_) ?_)
   ·
    exact Aa 6 (Ev 19 (decide ((k:Int)<=((0:Nat):Int))) true (decide_eq_true ω) (Aa 7 (Be [(3,Ax (Af l) k,.none),(5,_,.none),(8,_,.none),(9,.int (IntKind.wrap .i64 (Int.tdiv 60 ((Au (l.length-1) k):Int))),.none),(12,_,.none),(13,.int ((Kf (l.length-1) 0 k:Nat):Int),.none),(14,_,.none),(15,_,.none),(16,_,.none)] [0,3,4,5,6,7] ⟨Eg k l.length,Am (Ck (l.getD k 0) (hi k)),Am (Mc (l.length-1) k ω ω),Bo (La 3 3 (.const (.int .i64 60)) (.tmp 30) 60 ((Au (l.length-1) k):Int) κ κ κ (Le ω ω)),Am (Mc 0 k ω ω),As (.int .i64 (IntKind.wrap .i64 (IntKind.wrap .i64 (Int.tdiv 60 ((Au (l.length-1) k):Int))*((Au 0 k):Int)))) (congrArg (Value.int .i64) (dH ω ω ω)),Am (Ck ((Kf (l.length-1) 0 k:Nat):Int) (Gu ω ω ω)),Am (Fn (l.getD k 0) ((Kf (l.length-1) 0 k:Nat):Int) (by have:=Fh (hi k);have:=Fh (Gu (n:=l.length-1) (j:=0) (k:=k) ω ω ω);omega)),Am (Ma (Cp l 0 k) (l.getD k 0*((Kf (l.length-1) 0 k:Nat):Int)) (Cp l 0 (k+1)) (by have:=Mm (j:=0) (k:=k) h6 ω ω hi;omega) (by have:=Fh (hi k);have:=Fh (Gu (n:=l.length-1) (j:=0) (k:=k) ω ω ω);have:=Hy (l.getD k 0) ((Kf (l.length-1) 0 k:Nat):Int);omega) rfl),trivial⟩ (Aa 4 (Ao ((k:Int)+1) ((k+1:Nat):Int) (Aa 2 (Pe [0,3,4,5,6,7] hJ2)))))))
   ·
    refine Aa 6 (Ev 19 (decide (((0+1):Int)<=((0:Nat):Int))) false (decide_eq_false ω) (Aa 11 (Iu 1 47 2 1 (λ_=>iA (Cp l 0 (0+1))) ?_)))
    refine Sk 32 47 47 2 1 1 2 (λ_=>iA (Cp l 0 (0+1))) (λi0=>iA (Cp l i0 (i0+1))) (λi hi=>by(obtain rfl:i=0:=(ω));rfl) ?_
    exact Aa 6 (Ao (((0:Nat):Int)+1) ((0+1:Nat):Int) (Aa 2 (Ew [0,3,4,5] [(2,9)] 10 0 hA0 [(47,2,1,(λ_=>iA (Cp l 0 (0+1)))),(47,2,1,(λi0=>iA (Cp l i0 (i0+1))))] ⟨(Bi λ_ _=>rfl),(Bi λ_ _=>rfl),trivial⟩ (hJ1 _ _ (by omega:l.length-(0+1)<l.length-0) ⟨0+1,ω,rfl,trivial,.inr ⟨Nat.succ_pos _,rfl⟩⟩))))
  ·
   refine Aa 6 ?_
   exfalso;omega
 ·
  refine Aa 8 (Cu 13 ((j:Int)<=((l.length-1:Nat):Int)) (λhx2 hx2d=>?_) (λhx2 hx2d=>?_))
  ·
   refine Aa 9 (Ee 16 (.lit (.agg #[.bool false,.slice none 0 0])) (iA (Cp l j 0)) Jh ?_)
   refine Aa 10 (Ue (keep:=[0,3,4,5,6,7]) (j+1) (λk=>⟨[(0,Af l),(3,.int ((l.length-1:Nat):Int)),(4,.osl 9 2 j),(5,.int (j:Int)),(6,.ptr 10 0),(7,.int (k:Int))],[(9,.vec 47 2 j (λi0=>iA (Cp l i0 (i0+1)))),(10,.box 47 [.bool (decide ((Cp l j k)<0)),Dz ((Cp l j k).natAbs)])],11,44⟩) (λk hk J3 hJ3=>?_) ?_)
   ·
    exact Aa 6 (Ev 19 (decide ((k:Int)<=(j:Int))) true (decide_eq_true ω) (Aa 7 (Be [(3,Ax (Af l) k,.none),(5,_,.none),(8,_,.none),(9,.int (IntKind.wrap .i64 (Int.tdiv 60 ((Au (l.length-1) k):Int))),.none),(12,_,.none),(13,.int (Kf (l.length-1) j k:Int),.none),(14,_,.none),(15,_,.none),(16,_,.none)] [0,3,4,5,6,7] ⟨Eg k l.length,Am (Ck (l.getD k 0) (hi k)),Am (Mc (l.length-1) k ω ω),Bo (La 3 3 (.const (.int .i64 60)) (.tmp 30) 60 ((Au (l.length-1) k):Int) κ κ κ (Le ω ω)),Am (Mc j k ω ω),As (.int .i64 (IntKind.wrap .i64 (IntKind.wrap .i64 (Int.tdiv 60 ((Au (l.length-1) k):Int))*((Au j k):Int)))) (congrArg (Value.int .i64) (dH ω ω ω)),Am (Ck (Kf (l.length-1) j k:Int) (Gu ω ω ω)),Am (Fn (l.getD k 0) (Kf (l.length-1) j k:Int) (by have:=Fh (hi k);have:=Fh (Gu (n:=l.length-1) (j:=j) (k:=k) ω ω ω);omega)),Am (Ma (Cp l j k) (l.getD k 0*(Kf (l.length-1) j k:Int)) (Cp l j (k+1)) (by have:=Mm (j:=j) (k:=k) h6 ω ω hi;omega) (by have:=Fh (hi k);have:=Fh (Gu (n:=l.length-1) (j:=j) (k:=k) ω ω ω);have:=Hy (l.getD k 0) (Kf (l.length-1) j k:Int);omega) rfl),trivial⟩ (Aa 4 (Ao ((k:Int)+1) ((k+1:Nat):Int) (Aa 2 (Pe [0,3,4,5,6,7] hJ3)))))))
   ·
    refine Aa 6 (Ev 19 (decide (((j+1):Int)<=(j:Int))) false (decide_eq_false ω) (Aa 11 (Iu 11 47 2 1 (λ_=>iA (Cp l j (j+1))) ?_)))
    refine Lz 32 47 47 2 j 1 9 11 12 (λi0=>iA (Cp l i0 (i0+1))) (λ_=>iA (Cp l j (j+1))) (λi0=>iA (Cp l i0 (i0+1))) (λi hi=>rfl) (λi hi=>by(obtain rfl:i=0:=(ω));rfl) ?_
    exact Aa 6 (Ao ((j:Int)+1) ((j+1:Nat):Int) (Aa 2 (Ew [0,3,4,5] [(12,9)] 10 0 hA0 [(47,2,1,(λ_=>iA (Cp l j (j+1)))),(47,2,j+1,(λi0=>iA (Cp l i0 (i0+1))))] ⟨(Bi λ_ _=>rfl),(Bi λ_ _=>rfl),trivial⟩ (hJ1 _ _ (by omega:l.length-(j+1)<l.length-j) ⟨j+1,ω,rfl,trivial,.inr ⟨Nat.succ_pos _,rfl⟩⟩))))
  ·
   exact Aa 6 (Jg 9 [4] 47 2 j (λi0=>iA (Cp l i0 (i0+1))) (Bi λ_ _=>rfl) (Aa 7 (Ch (.slc 2 j (λi0=>iA (Cp l i0 (i0+1)))) (congrArg (λq=>AV.slc 2 q λk=>iA (Cp l k (k+1))) (show j=l.length by omega)))))
theorem qY (x y z:Int) (hx:nZ x<=900) (hy:nZ y<=900) (e:(Nat.gcd x.natAbs y.natAbs:Int)=z):AF Tryz.prog 21 [iA x,iA y] (iA z):=e▸Ae1 x y hx hy
theorem AdF {z:Int} (h:¬z.sign<0):0<=z:=by
 refine Int.not_lt.1 λg=>h (aB.2 g)
theorem Ai9 {z:Int}:z.sign=0↔z=0:=Int.sign_eq_zero_iff_zero
theorem Ra {o:Int} (h:Bg o):nZ (62914560*o)<=4:=Nat.le_trans (Hy _ _) (by
 have:=Fh h
 have:nZ 62914560<=1:=Gy δ
 omega)
theorem AgO {g:Nat} {l:List Int} (h:0<g/\g<=4294967296) (k:Nat):nZ (gL g l k:Int)<=3:=Fh (by
 have:=(sD (l:=l) h.1 h.2 k).2
 omega)
theorem Ro (s:Sg) (hs:Jj s):AF Tryz.prog 7 [Dp s] (.bool (decide (Gm s))):=by
 refine Ai func7 rfl λB D0 hA0=>?_
 refine Aa 13 (Cu 13 (s.f<0) (λhx1 hx1d=>?_) (λhx1 hx1d=>?_))
 ·
  exact Aa 31 (Ch (.bool false) (congrArg AV.bool (decide_eq_false λh9=>by have h8:=h9.1;unfold Gt at h8;omega).symm))
 ·
  refine Aa 7 (Cu 20 (s.t<=s.f) (λhx2 hx2d=>?_) (λhx2 hx2d=>?_))
  ·
   exact Aa 24 (Ch (.bool false) (congrArg AV.bool (decide_eq_false λh9=>by have h8:=h9.1;unfold Gt at h8;omega).symm))
  ·
   refine Aa 5 (Cu 25 ((3600000:Int)<s.t) (λhx3 hx3d=>?_) (λhx3 hx3d=>?_))
   ·
    exact Aa 19 (Ch (.bool false) (congrArg AV.bool (decide_eq_false λh9=>by have h8:=h9.1;unfold Gt at h8;omega).symm))
   ·
    refine Aa 5 (Cu 30 (s.o<1) (λhx4 hx4d=>?_) (λhx4 hx4d=>?_))
    ·
     exact Aa 14 (Ch (.bool false) (congrArg AV.bool (decide_eq_false λh9=>by have h8:=h9.1;unfold Gt at h8;omega).symm))
    ·
     refine Aa 6 (Cu 34 ((4294967296:Int)<s.o) (λhx5 hx5d=>?_) (λhx5 hx5d=>?_))
     ·
      exact Aa 8 (Ch (.bool false) (congrArg AV.bool (decide_eq_false λh9=>by have h8:=h9.1;unfold Gt at h8;omega).symm))
     ·
      refine Aa 3 ?_
      have g0:0<s.o.natAbs/\s.o.natAbs<=4294967296:=by omega
      refine Aa 4 (Aj (rB s.o ((Up s 0:Nat):Int) hs.o (show s.o=(s.o.natAbs:Int) by omega)) (Aa 5 (Be [(0,_,.none),(3,_,.none),(4,_,.none)] [1,3,4] ⟨Am (Ck 62914560 δ),Am (Ck s.o hs.o),Am (Fn 62914560 s.o (by have:=Fh hs.o;have:nZ 62914560<=1:=Gy δ;omega)),trivial⟩ (Aa 4 (Aj (uJ s) (Aa 10 (Po [3,4,5,6] 3 (λi=>∀q,q<i->Gs (Dd s q) s.o) (λi=>⟨[(3,.ptr 1 0),(4,.ptr 2 0),(5,.sl 1 3 (λi0=>Af (Dd s i0))),(6,.int (i:Int))],[(0,.box 24 [.int s.f,.int s.t,.int s.o,Af s.x,Af s.y,Af s.z]),(1,.box 47 [.bool (decide ((Up s i:Int)<0)),Dz ((Up s i:Int).natAbs)]),(2,.box 47 [.bool (decide ((62914560*s.o)<0)),Dz ((62914560*s.o).natAbs)])],3,111⟩) (λq hq=>absurd hq (Nat.not_lt_zero q)) (λi hin hFi J1 hJ1=>?_))))))))
      refine Aa 7 (Cu 46 ((i:Int)<3) (λhx6 hx6d=>?_) (λhx6 hx6d=>?_))
      ·
       refine Aa 9 (Dm i 3 (Aa 11 (Cu 56 (((Dd s i).length:Int)<1) (λhx7 hx7d=>?_) (λhx7 hx7d=>?_))))
       ·
        exact Aa 33 (Ch (.bool false) (congrArg AV.bool (decide_eq_false λh9=>by have h8:=Gv h9 i;unfold Gs at h8;omega).symm))
       ·
        refine Aa 5 (Cu 61 ((6:Int)<((Dd s i).length:Int)) (λhx8 hx8d=>?_) (λhx8 hx8d=>?_))
        ·
         exact Aa 28 (Ch (.bool false) (congrArg AV.bool (decide_eq_false λh9=>by have h8:=Gv h9 i;unfold Gs at h8;omega).symm))
        ·
         refine Aa 4 (Cu 65 ((1:Int)<((Dd s i).length:Int)) (λhx9 hx9d=>?_) (λhx9 hx9d=>?_))
         ·
          refine Aa 3 (Ao (((Dd s i).length:Int)-1) (((Dd s i).length-1:Nat):Int) (Dm ((Dd s i).length-1) ((Dd s i).length) (Aa 6 (Cu 74 ((Dd s i).getD ((Dd s i).length-1) 0=0) (λhx10 hx10d=>?_) (λhx10 hx10d=>?_)))))
          ·
           exact Aa 13 (Ch (.bool false) (congrArg AV.bool (decide_eq_false λh9=>by have h8:=Gv h9 i;unfold Gs at h8;omega).symm))
          ·
           refine Aa 6 (Aj (Vg (Dd s i) ω ω (Ht hs i)) (Aa 9 (Po [3,4,5,6,7,8,9] ((Dd s i).length) (λk=>Mu (Dd s i) s.o k) (λk=>⟨[(3,.ptr 1 0),(4,.ptr 2 0),(5,.sl 1 3 (λi0=>Af (Dd s i0))),(6,.int (i:Int)),(7,Af (Dd s i)),(8,.slc 2 ((Dd s i).length) (λi0=>iA (Cp (Dd s i) i0 (i0+1)))),(9,.int (k:Int))],[(0,.box 24 [.int s.f,.int s.t,.int s.o,Af s.x,Af s.y,Af s.z]),(1,.box 47 [.bool (decide ((gL (Up s i) (Dd s i) k:Int)<0)),Dz ((gL (Up s i) (Dd s i) k:Int).natAbs)]),(2,.box 47 [.bool (decide ((62914560*s.o)<0)),Dz ((62914560*s.o).natAbs)])],3,111⟩) (λq hq=>absurd hq (Nat.not_lt_zero q)) (λk hkn hFk J2 hJ2=>?_))))
           refine Aa 9 (Cu 80 ((k:Int)<((Dd s i).length:Int)) (λhx11 hx11d=>?_) (λhx11 hx11d=>?_))
           ·
            refine Aa 6 (Be [(3,Ax (Af (Dd s i)) k,.none),(5,_,.none),(6,_,.none)] [3,4,5,6,7,8,9] ⟨Eg k ((Dd s i).length),Am (Ck ((Dd s i).getD k 0) (Ht hs i k)),Am (qY (gL (Up s i) (Dd s i) k:Int) ((Dd s i).getD k 0) (gL (Up s i) (Dd s i) (k+1):Int) (Nat.le_trans (AgO (Rz g0 i) k) δ) (Nat.le_trans (Fh (Ht hs i k)) δ) rfl),trivial⟩ (Aa 2 (vsp ((0:Int)<((Cp (Dd s i) k (k+1))-(62914560*s.o)).sign) (λhx12 hx12d=>?_) (λhx12 hx12d=>?_))))
            ·
             exact Be [(2,Ax (.slc 2 ((Dd s i).length) (λi0=>iA (Cp (Dd s i) i0 (i0+1)))) k,.none),(5,_,.none),(6,.bool true,.none)] [3,4,5,6,7,8,9,106] ⟨Eg k ((Dd s i).length),Am (Oc (Cp (Dd s i) k (k+1)) (62914560*s.o) (by have:=Mm (l:=(Dd s i)) (j:=k) (k:=k+1) ω ω ω (Ht hs i);omega) (by have:=Ra hs.o;omega)),kQ hx12,trivial⟩ (Aa 17 (Ch (.bool false) (congrArg AV.bool (decide_eq_false λh9=>by have h8:=(Gv h9 i).2.2.2 k ω;have h7:=AdA hx12d;omega).symm)))
            ·
             refine Be [(2,Ax (.slc 2 ((Dd s i).length) (λi0=>iA (Cp (Dd s i) i0 (i0+1)))) k,.none),(5,_,.none),(6,.bool false,.none),(10,Ax (.slc 2 ((Dd s i).length) (λi0=>iA (Cp (Dd s i) i0 (i0+1)))) k,.none),(13,_,.none),(14,_,.none)] [3,4,5,6,7,8,9,106] ⟨Eg k ((Dd s i).length),Am (Oc (Cp (Dd s i) k (k+1)) (62914560*s.o) (by have:=Mm (l:=(Dd s i)) (j:=k) (k:=k+1) ω ω ω (Ht hs i);omega) (by have:=Ra hs.o;omega)),kQ hx12,Eg k ((Dd s i).length),Am (Od (62914560*s.o)),Am (Oc (Cp (Dd s i) k (k+1)) (-(62914560*s.o)) (by have:=Mm (l:=(Dd s i)) (j:=k) (k:=k+1) ω ω ω (Ht hs i);omega) (by have:=Ra hs.o;rw[Qe];omega)),trivial⟩ (Aa 1 (Cu 106 (((Cp (Dd s i) k (k+1))-(-(62914560*s.o))).sign<0) (λhx13 hx13d=>?_) (λhx13 hx13d=>?_)))
             ·
              exact Aa 16 (Ch (.bool false) (congrArg AV.bool (decide_eq_false λh9=>by have h8:=(Gv h9 i).2.2.2 k ω;have h7:=aB.1 hx13d;omega).symm))
             ·
              exact Aa 6 (Ao ((k:Int)+1) ((k+1:Nat):Int) (Aa 2 (Pe [3,4,5,6,7,8,9] (hJ2 ω (Yc hFk (by have h70:=AdB hx12d;have h71:=AdF hx13d;omega))))))
           ·
            refine Aa 9 (Ao ((i:Int)+1) ((i+1:Nat):Int) (Aa 2 ?_))
            obtain rfl:k=(Dd s i).length:=by omega
            exact Pe [3,4,5,6] (hJ1 ω (λq hq=>(Nat.lt_or_ge q i).elim (hFi q) λg9=>by(obtain rfl:q=i:=(ω));exact rL ω ω (λ_=>by omega) (decide_eq_true hFk)))
         ·
          refine Aa 17 (Aj (Vg (Dd s i) ω ω (Ht hs i)) (Aa 9 (Po [3,4,5,6,7,8,9] ((Dd s i).length) (λk=>Mu (Dd s i) s.o k) (λk=>⟨[(3,.ptr 1 0),(4,.ptr 2 0),(5,.sl 1 3 (λi0=>Af (Dd s i0))),(6,.int (i:Int)),(7,Af (Dd s i)),(8,.slc 2 ((Dd s i).length) (λi0=>iA (Cp (Dd s i) i0 (i0+1)))),(9,.int (k:Int))],[(0,.box 24 [.int s.f,.int s.t,.int s.o,Af s.x,Af s.y,Af s.z]),(1,.box 47 [.bool (decide ((gL (Up s i) (Dd s i) k:Int)<0)),Dz ((gL (Up s i) (Dd s i) k:Int).natAbs)]),(2,.box 47 [.bool (decide ((62914560*s.o)<0)),Dz ((62914560*s.o).natAbs)])],3,111⟩) (λq hq=>absurd hq (Nat.not_lt_zero q)) (λk hkn hFk J3 hJ3=>?_))))
          refine Aa 9 (Cu 80 ((k:Int)<((Dd s i).length:Int)) (λhx14 hx14d=>?_) (λhx14 hx14d=>?_))
          ·
           refine Aa 6 (Be [(3,Ax (Af (Dd s i)) k,.none),(5,_,.none),(6,_,.none)] [3,4,5,6,7,8,9] ⟨Eg k ((Dd s i).length),Am (Ck ((Dd s i).getD k 0) (Ht hs i k)),Am (qY (gL (Up s i) (Dd s i) k:Int) ((Dd s i).getD k 0) (gL (Up s i) (Dd s i) (k+1):Int) (Nat.le_trans (AgO (Rz g0 i) k) δ) (Nat.le_trans (Fh (Ht hs i k)) δ) rfl),trivial⟩ (Aa 2 (vsp ((0:Int)<((Cp (Dd s i) k (k+1))-(62914560*s.o)).sign) (λhx15 hx15d=>?_) (λhx15 hx15d=>?_))))
           ·
            exact Be [(2,Ax (.slc 2 ((Dd s i).length) (λi0=>iA (Cp (Dd s i) i0 (i0+1)))) k,.none),(5,_,.none),(6,.bool true,.none)] [3,4,5,6,7,8,9,106] ⟨Eg k ((Dd s i).length),Am (Oc (Cp (Dd s i) k (k+1)) (62914560*s.o) (by have:=Mm (l:=(Dd s i)) (j:=k) (k:=k+1) ω ω ω (Ht hs i);omega) (by have:=Ra hs.o;omega)),kQ hx15,trivial⟩ (Aa 17 (Ch (.bool false) (congrArg AV.bool (decide_eq_false λh9=>by have h8:=(Gv h9 i).2.2.2 k ω;have h7:=AdA hx15d;omega).symm)))
           ·
            refine Be [(2,Ax (.slc 2 ((Dd s i).length) (λi0=>iA (Cp (Dd s i) i0 (i0+1)))) k,.none),(5,_,.none),(6,.bool false,.none),(10,Ax (.slc 2 ((Dd s i).length) (λi0=>iA (Cp (Dd s i) i0 (i0+1)))) k,.none),(13,_,.none),(14,_,.none)] [3,4,5,6,7,8,9,106] ⟨Eg k ((Dd s i).length),Am (Oc (Cp (Dd s i) k (k+1)) (62914560*s.o) (by have:=Mm (l:=(Dd s i)) (j:=k) (k:=k+1) ω ω ω (Ht hs i);omega) (by have:=Ra hs.o;omega)),kQ hx15,Eg k ((Dd s i).length),Am (Od (62914560*s.o)),Am (Oc (Cp (Dd s i) k (k+1)) (-(62914560*s.o)) (by have:=Mm (l:=(Dd s i)) (j:=k) (k:=k+1) ω ω ω (Ht hs i);omega) (by have:=Ra hs.o;rw[Qe];omega)),trivial⟩ (Aa 1 (Cu 106 (((Cp (Dd s i) k (k+1))-(-(62914560*s.o))).sign<0) (λhx16 hx16d=>?_) (λhx16 hx16d=>?_)))
            ·
             exact Aa 16 (Ch (.bool false) (congrArg AV.bool (decide_eq_false λh9=>by have h8:=(Gv h9 i).2.2.2 k ω;have h7:=aB.1 hx16d;omega).symm))
            ·
             exact Aa 6 (Ao ((k:Int)+1) ((k+1:Nat):Int) (Aa 2 (Pe [3,4,5,6,7,8,9] (hJ3 ω (Yc hFk (by have h70:=AdB hx15d;have h71:=AdF hx16d;omega))))))
          ·
           refine Aa 9 (Ao ((i:Int)+1) ((i+1:Nat):Int) (Aa 2 ?_))
           obtain rfl:k=(Dd s i).length:=by omega
           exact Pe [3,4,5,6] (hJ1 ω (λq hq=>(Nat.lt_or_ge q i).elim (hFi q) λg9=>by(obtain rfl:q=i:=(ω));exact rL ω ω (λ_=>by omega) (decide_eq_true hFk)))
      ·
       exact Aa 7 (Be [(1,_,.none),(2,_,.none)] [2] ⟨Am (Ck 1 δ),Am (Oc (Up s i:Int) 1 (Nat.le_trans (Fh (by have:=(Rz g0 i).2;omega)) δ) (Nat.le_trans pH δ)),trivial⟩ (Aa 2 (Ch (.bool (decide (((Up s i:Int)-1).sign=0))) (congrArg AV.bool (decide_eq_decide.2 (by(obtain rfl:i=3:=(ω));exact(Ai9.trans ω).trans (tS (by unfold Gt;omega) hFi)))))))
theorem Jz {d:Nat} (h:d<=8):2^d<=256:=Nat.pow_le_pow_right (n:=2) δ h
theorem Aig {x n:Nat} (h:x<bB^n):nZ (x:Int)<=n:=Gy h
theorem Uw {z:Int} {x n:Nat} (h:z.natAbs<=x) (hx:x<bB^n):nZ z<=n:=Gy (Nat.lt_of_le_of_lt h hx)
theorem AeP {a:Int} (h:a.natAbs<=256) (k:Nat):(aZ a 1 k).natAbs<=256:=by
 unfold aZ
 split
 exact h
 split
 decide
 decide
section
variable {l:List Int} {d u:Nat} (h6:l.length<=6) (hi:∀i,Bg (l.getD i 0)) (hd:d<=8) (hu:u<2^d)
include h6 hi hd hu
theorem pQ (q i:Nat) (hq:q<=Tp l):(Gh (Sn l) (Tp l) (u:Int) 1 ((2^d:Nat):Int) q i).natAbs<=6*(9223372036854775808*(32*1099511627776)):=by
 have hm:Tp l<=l.length:=Fw _ _
 have hD:1<=2^d:=Nat.two_pow_pos d
 have h:=Zv (p:=Sn l) (m:=Tp l) (k:=u) (D:=2^d) (M:=9223372036854775808) (Nat.le_of_lt hu) hD (λi _=>by have:=hi i;show (l.getD i 0).natAbs<=_;omega) i q hq
 refine Nat.le_trans h (Nat.mul_le_mul ω (Nat.mul_le_mul_left _ (Nat.mul_le_mul ?_ ?_)))
 exact Nat.le_trans (Nat.pow_le_pow_right δ (show Tp l-1<=5 by omega)) δ
 exact Nat.le_trans (Nat.pow_le_pow_left (Jz hd) _) (Nat.le_trans (Nat.pow_le_pow_right δ (show Tp l-1<=5 by omega)) δ)
theorem Vu (i:Nat):nZ (rP l d u i)<=5:=by
 rw[Zs]
 exact Uw (pQ h6 hi hd hu (Tp l) i ζ) δ
theorem Ij (h1:1<=l.length) {j k:Nat} (hj:j<6) (hk:k<=6):nZ (Fi (rP l d u) (l.length-1) j k)<=6:=Uw (Nat.le_trans (aH (M:=6*(9223372036854775808*(32*1099511627776))) ω hj (λi=>by
 rw[Zs]
 exact pQ h6 hi hd hu (Tp l) i ζ) k hk) (Nat.mul_le_mul_right _ hk)) δ
theorem qB:nX (Sn l) (Tp l) (u:Int) ((2^d:Nat):Int) where
 t6:=Nat.le_trans (Fw _ _) h6
 pp k:=Fh (hi k)
 aa:=Nat.le_trans (Fh (by have:=Jz hd;omega)) δ
 dd:=Nat.le_trans (Fh (by have:=Jz hd;omega)) δ
 dp i h:=Nat.le_trans (Uw (x:=256^6) (n:=6) (by
  rw[Int.natAbs_pow]
  exact Nat.le_trans (Nat.pow_le_pow_left (Jz hd) _) (Nat.pow_le_pow_right δ h)) δ) δ
 tm i h k:=Nat.le_trans (Uw (x:=512^6) (n:=6) (Nat.le_trans (Uc (Nat.le_of_lt hu) (Nat.two_pow_pos d) i k) (Nat.le_trans (Nat.pow_le_pow_left (show 2*2^d<=512 by have:=Jz hd;omega) _) (Nat.pow_le_pow_right δ h))) δ) δ
 rc i h k:=Nat.le_trans (Uw (n:=6) (pQ h6 hi hd hu i k h) δ) δ
 cv i h j k hk:=Nat.le_trans (Uw (n:=6) (Nat.le_trans (rU (F:=512^6) (G:=256) (λq=>Nat.le_trans (Uc (Nat.le_of_lt hu) (Nat.two_pow_pos d) i q) (Nat.le_trans (Nat.pow_le_pow_left (show 2*2^d<=512 by have:=Jz hd;omega) _) (Nat.pow_le_pow_right δ h))) (AeP (by have:=Jz hd;omega)) j k) (Nat.mul_le_mul_right _ hk)) δ) δ
theorem eO (hl:Tp l=l.length):AF Tryz.prog 43 [Lt l.length (Sn l),iA (u:Int),iA 1,iA ((2^d:Nat):Int)] (Lt l.length (rP l d u)):=by
 have h:=iY (qB h6 hi hd hu)
 rw[AdS (Ox _ _),<-show rP l d u=Gh (Sn l) (Tp l) (u:Int) 1 ((2^d:Nat):Int) (Tp l) from funext (Zs l d u),hl] at h
 rw[show Ay (Sn l) l.length=l.length from hl] at h
 exact h
end
theorem AcF {n:Nat} (h:n<=40):nZ ((2^n:Nat):Int)<=3:=Aig (Nat.lt_of_le_of_lt (Nat.pow_le_pow_right (n:=2) δ h) δ)
theorem Wl (n:Nat) (hn:n<=60):AF Tryz.prog 45 [.int (n:Int)] (iA ((2^n:Nat):Int)):=by
 have h:=AeE n hn
 have e:(2:Int)^n=((2^n:Nat):Int):=(Int.natCast_pow 2 n).symm
 rw[e] at h
 exact h
theorem Vv {l:List Int} {o:Int} {d:Nat} (h6:l.length<=6) (ho:Bg o) (hd:d<=8):nZ (rW l o d)<=7:=by
 have h1:d*(l.length-1)<=8*5:=Nat.mul_le_mul hd ω
 have h2:=AcF (n:=d*(l.length-1)) h1
 have h3:=Fh ho
 have h4:=Hy o ((2^(d*(l.length-1)):Nat):Int)
 have h5:=Hy 60 (o*((2^(d*(l.length-1)):Nat):Int))
 have h7:nZ 60<=1:=Gy δ
 unfold rW
 omega
def Kr (l:List Int) (o:Int) (d u j:Nat):Int:=Fi (rP l d u) (l.length-1) j (j+1)/rW l o d
def Id (l:List Int) (o:Int) (d u j:Nat):Int:= -Fi (rP l d u) (l.length-1) j (j+1)/rW l o d
theorem Iy {l:List Int} {o:Int} {d u:Nat} (h0:1<=l.length) (h6:l.length<=6) (hb:Mu l o l.length) (ho:0<o) (hu:u<2^d) (j:Nat) (hj:j<=l.length-1):(-4000000000000<=Kr l o d u j/\Kr l o d u j<=4000000000000)/\-4000000000000<=Id l o d u j/\Id l o d u j<=4000000000000:=iM h0 h6 hb ho hu j hj
theorem Ac6 {f:Nat->Int} {j:Nat} (h:0<j):min (Ji f (j-1)) (f j)=Ji f (j+1-1):=by
 obtain⟨q,rfl⟩:∃q,j=q+1:=⟨j-1,ω⟩
 rfl
theorem AgM {f:Nat->Int} {j:Nat} (h:0<j):max (-Ji f (j-1)) (-f j)= -Ji f (j+1-1):=by
 rw[<-Ac6 h]
 omega
theorem Me (x y q r:Int) (hy:0<y) (hx:nZ x<=400) (hn:nZ y<=400) (e:x/y=q) (f:x%y=r):AF Tryz.prog 47 [iA x,iA y] (.tup [iA q,iA r]):=e▸f▸AeF x y hy hx hn
theorem eT (f:Nat->Int) (a b d:Int):AF Tryz.prog 43 [Lt 0 f,iA a,iA b,iA d] (.lit (.slice none 0 0)):=by
 refine Ai func43 rfl λB D0 hA0=>?_
 refine Aa 15 (Iu 3 3 1 1 (λ_=> .int 1) ?_)
 exact Sp 3 3 1 1 (λ_=> .int 1) (λi0=> .int (It 0 1 0 i0)) (λx9 hx9=>(by(obtain rfl:x9=0:=(ω));rfl)) (Jg 3 [12] 3 1 1 (λi0=> .int (It 0 1 0 i0)) (Bi λ_ _=>rfl) (Aj (cM (a:=0)) (Aa 10 (Kt 0 (Aa 22 (Br))))))
theorem Agb {l:List Int} {d u:Nat} (h:Tp l=0) (i:Nat):rP l d u i=0:=by
 rw[Zs,h]
 rfl
theorem jG (l:List Int) (n:Nat) (h6:l.length<=6) (hi:∀i,Bg (l.getD i 0)) (h:Tp l=n):AF Tryz.prog 44 [Af l] (Lt n (Sn l)):=by
 subst h
 exact Aak l.length (Sn l) ω hi
theorem Ac7 {d n:Nat} (hd:d<=8) (hn:n<=5):d*n<=40:=Nat.mul_le_mul hd hn
theorem mX (l:List Int) (o:Int) (d u:Nat) (h0:1<=l.length) (h6:l.length<=6) (hi:∀i,Bg (l.getD i 0)) (hb:Mu l o l.length) (ho:0<o/\o<=4294967296) (hd:d<=8) (hu:u<2^d) (hl:Tp l=l.length):AF Tryz.prog 24 [Af l,.int o,.int (d:Int),.int (u:Int)] (.lit (.tuple #[.int .i64 (Ji (Kr l o d u) (l.length-1)),.int .i64 (-Ji (Id l o d u) (l.length-1))])):=by
 have hp8:=Jz hd
 have hdn:=Ac7 hd (show l.length-1<=5 by omega)
 refine Ai func24 rfl λB D0 hA0=>?_
 refine Aa 9 (Aj (jG l l.length h6 hi hl) (Aa 1 (Aj (Ck (u:Int) ω) (Aj (Ck 1 δ) (Aa 1 (Aj (Wl d ω) (Aj (eO h6 hi hd hu hl) (Aa 7 (Ao ((l.length:Int)-1) ((l.length-1:Nat):Int) (Aa 5 (Kt 0 (Aa 8 (Ev 37 (decide ((l.length:Int)<(l.length:Int))) false (decide_eq_false ω) (Aa 11 (Ao ((60:Int)*o) ((60:Int)*o) (Aj (Ck (60*o) ω) (Aa 2 (Dx (.int .i64 (IntKind.wrap .i64 ((d:Int)*((l.length-1:Nat):Int)))) (.int .i64 ((d*(l.length-1):Nat):Int)) ?_ (congrArg (Value.int .i64) (by rw[<-Int.natCast_mul];exact IntWalk.i64_in _ ω))))))))))))))))))))
 refine Aj (Wl (d*(l.length-1)) ω) (Aj (eQ (60*o) ((2^(d*(l.length-1)):Nat):Int) (rW l o d) (by have:=Fh (show Bg (60*o) by omega);have:=AcF (n:=d*(l.length-1)) hdn;omega) (Int.mul_assoc 60 o _)) (Aa 17 (Wg [10,11,12,13,14,15] (λm s=>∃j,j<=l.length/\m=l.length-j/\True/\((j=0/\s=⟨[(10,.slc 2 l.length (λi0=>iA (rP l d u i0))),(11,.int ((l.length-1:Nat):Int)),(12,.ptr 0 0),(13,.int 0),(14,.int 0),(15,.int ((0:Nat):Int))],[(0,.box 47 [.bool (decide ((rW l o d)<0)),Dz ((rW l o d).natAbs)])],1,108⟩)\/(0<j/\s=⟨[(10,.slc 2 l.length (λi0=>iA (rP l d u i0))),(11,.int ((l.length-1:Nat):Int)),(12,.ptr 0 0),(13,.int (Ji (Kr l o d u) (j-1))),(14,.int (-Ji (Id l o d u) (j-1))),(15,.int (j:Int))],[(0,.box 47 [.bool (decide ((rW l o d)<0)),Dz ((rW l o d).natAbs)])],1,108⟩))) l.length ⟨0,Nat.zero_le _,rfl,trivial,.inl ⟨rfl,κ⟩⟩ ?_)))
 rintro _ _ ⟨j,hjn,rfl,hFj,(⟨hj0,rfl⟩|⟨hj0,rfl⟩)⟩ J1 hJ1
 ·
  subst hj0
  refine Aa 8 (Cu 52 (((0:Nat):Int)<=((l.length-1:Nat):Int)) (λhx1 hx1d=>?_) (λhx1 hx1d=>?_))
  ·
   refine Aa 9 (Ee 55 (.lit (.agg #[.bool false,.slice none 0 0])) (iA (Fi (rP l d u) (l.length-1) 0 0)) Jh ?_)
   refine Aa 10 (Ue (keep:=[10,11,12,13,14,15,16,17]) (0+1) (λk=>⟨[(10,.slc 2 l.length (λi0=>iA (rP l d u i0))),(11,.int ((l.length-1:Nat):Int)),(12,.ptr 0 0),(13,.int 0),(14,.int 0),(15,.int ((0:Nat):Int)),(16,.ptr 1 0),(17,.int (k:Int))],[(0,.box 47 [.bool (decide ((rW l o d)<0)),Dz ((rW l o d).natAbs)]),(1,.box 47 [.bool (decide ((Fi (rP l d u) (l.length-1) 0 k)<0)),Dz ((Fi (rP l d u) (l.length-1) 0 k).natAbs)])],2,108⟩) (λk hk J2 hJ2=>?_) ?_)
   ·
    exact Aa 6 (Ev 58 (decide ((k:Int)<=((0:Nat):Int))) true (decide_eq_true ω) (Aa 7 (Be [(3,Ax (.slc 2 l.length (λi0=>iA (rP l d u i0))) k,.none),(7,_,.none),(8,.int (IntKind.wrap .i64 (Int.tdiv 60 ((Au (l.length-1) k):Int))),.none),(11,_,.none),(12,.int ((Kf (l.length-1) 0 k:Nat):Int),.none),(13,_,.none),(14,_,.none),(15,_,.none)] [10,11,12,13,14,15,16,17] ⟨Eg k l.length,Am (Gb (l.length-1) k ω ω),Bo (La 3 3 (.const (.int .i64 60)) (.tmp 68) 60 ((Au (l.length-1) k):Int) κ κ κ (Le ω ω)),Am (Gb 0 k ω ω),As (.int .i64 (IntKind.wrap .i64 (IntKind.wrap .i64 (Int.tdiv 60 ((Au (l.length-1) k):Int))*((Au 0 k):Int)))) (congrArg (Value.int .i64) (dH ω ω ω)),Am (Ck ((Kf (l.length-1) 0 k:Nat):Int) (Gu ω ω ω)),Am (Fn (rP l d u k) ((Kf (l.length-1) 0 k:Nat):Int) (by have:=Vu h6 hi hd hu k;have:=Fh (Gu (n:=l.length-1) (j:=0) (k:=k) ω ω ω);omega)),Am (Ma (Fi (rP l d u) (l.length-1) 0 k) (rP l d u k*((Kf (l.length-1) 0 k:Nat):Int)) (Fi (rP l d u) (l.length-1) 0 (k+1)) (by have:=Ij h6 hi hd hu h0 (j:=0) (k:=k) ω ω;omega) (by have:=Vu h6 hi hd hu k;have:=Fh (Gu (n:=l.length-1) (j:=0) (k:=k) ω ω ω);have:=Hy (rP l d u k) ((Kf (l.length-1) 0 k:Nat):Int);omega) rfl),trivial⟩ (Aa 4 (Ao ((k:Int)+1) ((k+1:Nat):Int) (Aa 2 (Pe [10,11,12,13,14,15,16,17] hJ2)))))))
   ·
    refine Aa 6 (Ev 58 (decide (((0+1):Int)<=((0:Nat):Int))) false (decide_eq_false ω) (Aa 12 (Aj (Me (Fi (rP l d u) (l.length-1) 0 (0+1)) (rW l o d) (Kr l o d u 0) _ (Nd d ho.1) (by have:=Ij h6 hi hd hu h0 (j:=0) (k:=0+1) ω ω;omega) (by have:=Vv h6 (show Bg o by omega) hd;omega) rfl rfl) (Aa 10 (Be [(1,_,.none),(3,_,.none)] [10,11,12,13,14,15,18,20] ⟨Am (Od (Fi (rP l d u) (l.length-1) 0 (0+1))),Am (Me (-(Fi (rP l d u) (l.length-1) 0 (0+1))) (rW l o d) (Id l o d u 0) _ (Nd d ho.1) (by rw[Qe];exact(by have:=Ij h6 hi hd hu h0 (j:=0) (k:=0+1) ω ω;omega)) (by have:=Vv h6 (show Bg o by omega) hd;omega) rfl rfl),trivial⟩ (Aa 6 (Ev 91 (decide (((0:Nat):Int)=0)) true (decide_eq_true ω) (Aa 3 (Be [(1,_,.none),(3,_,.none),(4,.int (-(Id l o d u 0)),.none)] [10,11,12,13,14,15,18,20] ⟨Am (Ig (Kr l o d u 0) (by have:=Iy h0 h6 hb ho.1 hu 0 ω;omega)),Am (Ig (Id l o d u 0) (by have:=Iy h0 h6 hb ho.1 hu 0 ω;omega)),As (.int .i64 (IntKind.wrap .i64 (0-(Id l o d u 0)))) (congrArg (Value.int .i64) (by rw[Int.zero_sub];exact IntWalk.i64_in _ (by have:=Iy h0 h6 hb ho.1 hu 0 ω;omega))),trivial⟩ (Aa 1 (Be [(2,_,.none),(3,.int (min (Kr l o d u 0) (Kr l o d u 0)),.none),(6,_,.none),(7,.int (-(Id l o d u 0)),.none),(8,.int (max (-(Id l o d u 0)) (-(Id l o d u 0))),.none)] [10,11,12,13,14,15] ⟨Am (Ig (Kr l o d u 0) (by have:=Iy h0 h6 hb ho.1 hu 0 ω;omega)),Bo (Rb (.tmp 97) (.tmp 99) #[3,3] κ (Kr l o d u 0) (Kr l o d u 0) κ κ),Am (Ig (Id l o d u 0) (by have:=Iy h0 h6 hb ho.1 hu 0 ω;omega)),As (.int .i64 (IntKind.wrap .i64 (0-(Id l o d u 0)))) (congrArg (Value.int .i64) (by rw[Int.zero_sub];exact IntWalk.i64_in _ (by have:=Iy h0 h6 hb ho.1 hu 0 ω;omega))),Bo (Ja (.tmp 101) (.tmp 104) #[3,3] κ (-(Id l o d u 0)) (-(Id l o d u 0)) κ κ),trivial⟩ (Aa 4 (Ao (((0:Nat):Int)+1) ((0+1:Nat):Int) (Aa 2 (Ee 13 (.int (min (Kr l o d u 0) (Kr l o d u 0))) (.int (Ji (Kr l o d u) (0+1-1))) (Rl (congrArg AV.int (Int.min_self (Kr l o d u 0)))) ?_)))))))))))))))
    refine Ee 14 (.int (max (-(Id l o d u 0)) (-(Id l o d u 0)))) (.int (-Ji (Id l o d u) (0+1-1))) (Rl (congrArg AV.int (Int.max_self (-Id l o d u 0)))) ?_
    exact Ew [10,11,12,13,14,15] [(0,0)] 1 0 hA0 [] trivial (hJ1 _ _ (by omega:l.length-(0+1)<l.length-0) ⟨0+1,ω,rfl,trivial,.inr ⟨Nat.succ_pos _,rfl⟩⟩)
  ·
   exact Aa 15 (Ch (.lit (.tuple #[.int .i64 0,.int .i64 0])) (by exfalso;omega))
 ·
  refine Aa 8 (Cu 52 ((j:Int)<=((l.length-1:Nat):Int)) (λhx2 hx2d=>?_) (λhx2 hx2d=>?_))
  ·
   refine Aa 9 (Ee 55 (.lit (.agg #[.bool false,.slice none 0 0])) (iA (Fi (rP l d u) (l.length-1) j 0)) Jh ?_)
   refine Aa 10 (Ue (keep:=[10,11,12,13,14,15,16,17]) (j+1) (λk=>⟨[(10,.slc 2 l.length (λi0=>iA (rP l d u i0))),(11,.int ((l.length-1:Nat):Int)),(12,.ptr 0 0),(13,.int (Ji (Kr l o d u) (j-1))),(14,.int (-Ji (Id l o d u) (j-1))),(15,.int (j:Int)),(16,.ptr 1 0),(17,.int (k:Int))],[(0,.box 47 [.bool (decide ((rW l o d)<0)),Dz ((rW l o d).natAbs)]),(1,.box 47 [.bool (decide ((Fi (rP l d u) (l.length-1) j k)<0)),Dz ((Fi (rP l d u) (l.length-1) j k).natAbs)])],2,108⟩) (λk hk J3 hJ3=>?_) ?_)
   ·
    exact Aa 6 (Ev 58 (decide ((k:Int)<=(j:Int))) true (decide_eq_true ω) (Aa 7 (Be [(3,Ax (.slc 2 l.length (λi0=>iA (rP l d u i0))) k,.none),(7,_,.none),(8,.int (IntKind.wrap .i64 (Int.tdiv 60 ((Au (l.length-1) k):Int))),.none),(11,_,.none),(12,.int (Kf (l.length-1) j k:Int),.none),(13,_,.none),(14,_,.none),(15,_,.none)] [10,11,12,13,14,15,16,17] ⟨Eg k l.length,Am (Gb (l.length-1) k ω ω),Bo (La 3 3 (.const (.int .i64 60)) (.tmp 68) 60 ((Au (l.length-1) k):Int) κ κ κ (Le ω ω)),Am (Gb j k ω ω),As (.int .i64 (IntKind.wrap .i64 (IntKind.wrap .i64 (Int.tdiv 60 ((Au (l.length-1) k):Int))*((Au j k):Int)))) (congrArg (Value.int .i64) (dH ω ω ω)),Am (Ck (Kf (l.length-1) j k:Int) (Gu ω ω ω)),Am (Fn (rP l d u k) (Kf (l.length-1) j k:Int) (by have:=Vu h6 hi hd hu k;have:=Fh (Gu (n:=l.length-1) (j:=j) (k:=k) ω ω ω);omega)),Am (Ma (Fi (rP l d u) (l.length-1) j k) (rP l d u k*(Kf (l.length-1) j k:Int)) (Fi (rP l d u) (l.length-1) j (k+1)) (by have:=Ij h6 hi hd hu h0 (j:=j) (k:=k) ω ω;omega) (by have:=Vu h6 hi hd hu k;have:=Fh (Gu (n:=l.length-1) (j:=j) (k:=k) ω ω ω);have:=Hy (rP l d u k) (Kf (l.length-1) j k:Int);omega) rfl),trivial⟩ (Aa 4 (Ao ((k:Int)+1) ((k+1:Nat):Int) (Aa 2 (Pe [10,11,12,13,14,15,16,17] hJ3)))))))
   ·
    refine Aa 6 (Ev 58 (decide (((j+1):Int)<=(j:Int))) false (decide_eq_false ω) (Aa 12 (Aj (Me (Fi (rP l d u) (l.length-1) j (j+1)) (rW l o d) (Kr l o d u j) _ (Nd d ho.1) (by have:=Ij h6 hi hd hu h0 (j:=j) (k:=j+1) ω ω;omega) (by have:=Vv h6 (show Bg o by omega) hd;omega) rfl rfl) (Aa 10 (Be [(1,_,.none),(3,_,.none)] [10,11,12,13,14,15,18,20] ⟨Am (Od (Fi (rP l d u) (l.length-1) j (j+1))),Am (Me (-(Fi (rP l d u) (l.length-1) j (j+1))) (rW l o d) (Id l o d u j) _ (Nd d ho.1) (by rw[Qe];exact(by have:=Ij h6 hi hd hu h0 (j:=j) (k:=j+1) ω ω;omega)) (by have:=Vv h6 (show Bg o by omega) hd;omega) rfl rfl),trivial⟩ (Aa 6 (Ev 91 (decide ((j:Int)=0)) false (decide_eq_false ω) (Aa 5 (Be [(2,_,.none),(3,.int (min (Ji (Kr l o d u) (j-1)) (Kr l o d u j)),.none),(6,_,.none),(7,.int (-(Id l o d u j)),.none),(8,.int (max (-Ji (Id l o d u) (j-1)) (-(Id l o d u j))),.none)] [10,11,12,13,14,15] ⟨Am (Ig (Kr l o d u j) (by have:=Iy h0 h6 hb ho.1 hu j ω;omega)),Bo (Rb (.tmp 97) (.tmp 99) #[3,3] κ (Ji (Kr l o d u) (j-1)) (Kr l o d u j) κ κ),Am (Ig (Id l o d u j) (by have:=Iy h0 h6 hb ho.1 hu j ω;omega)),As (.int .i64 (IntKind.wrap .i64 (0-(Id l o d u j)))) (congrArg (Value.int .i64) (by rw[Int.zero_sub];exact IntWalk.i64_in _ (by have:=Iy h0 h6 hb ho.1 hu j ω;omega))),Bo (Ja (.tmp 101) (.tmp 104) #[3,3] κ (-Ji (Id l o d u) (j-1)) (-(Id l o d u j)) κ κ),trivial⟩ (Aa 4 (Ao ((j:Int)+1) ((j+1:Nat):Int) (Aa 2 (Ee 13 (.int (min (Ji (Kr l o d u) (j-1)) (Kr l o d u j))) (.int (Ji (Kr l o d u) (j+1-1))) (Rl (congrArg AV.int (Ac6 hj0))) ?_)))))))))))))
    refine Ee 14 (.int (max (-Ji (Id l o d u) (j-1)) (-(Id l o d u j)))) (.int (-Ji (Id l o d u) (j+1-1))) (Rl (congrArg AV.int (AgM hj0))) ?_
    exact Ew [10,11,12,13,14,15] [(0,0)] 1 0 hA0 [] trivial (hJ1 _ _ (by omega:l.length-(j+1)<l.length-j) ⟨j+1,ω,rfl,trivial,.inr ⟨Nat.succ_pos _,rfl⟩⟩)
  ·
   exact Aa 15 (Ch (.lit (.tuple #[.int .i64 (Ji (Kr l o d u) (j-1)),.int .i64 (-Ji (Id l o d u) (j-1))])) (by(obtain rfl:j=l.length:=(ω));rfl))
theorem mW (l:List Int) (o:Int) (d u:Nat) (h0:1<=l.length) (h6:l.length<=6) (hi:∀i,Bg (l.getD i 0)) (hb:Mu l o l.length) (ho:0<o/\o<=4294967296) (hd:d<=8) (hu:u<2^d) (hl:l.length=1/\Tp l=0):AF Tryz.prog 24 [Af l,.int o,.int (d:Int),.int (u:Int)] (.lit (.tuple #[.int .i64 (Ji (Kr l o d u) (l.length-1)),.int .i64 (-Ji (Id l o d u) (l.length-1))])):=by
 have hp8:=Jz hd
 have hdn:=Ac7 hd (show l.length-1<=5 by omega)
 refine Ai func24 rfl λB D0 hA0=>?_
 refine Aa 9 (Aj (jG l 0 h6 hi hl.2) (Aa 1 (Aj (Ck (u:Int) ω) (Aj (Ck 1 δ) (Aa 1 (Aj (Wl d ω) (Aj (eT (Sn l) (u:Int) 1 ((2^d:Nat):Int)) (Aa 7 (Ao ((l.length:Int)-1) ((l.length-1:Nat):Int) (Aa 5 (Kt 1 (Aa 8 (Ev 37 (decide ((0:Int)<(l.length:Int))) true (decide_eq_true ω) (Aa 9 (Ee 39 (.lit (.agg #[.bool false,.slice none 0 0])) (iA 0) Jh ?_)))))))))))))))
 refine Iu 0 47 2 1 (λ_=>iA (0:Int)) ?_
 refine Sk 32 47 47 2 1 0 1 (λ_=>iA (0:Int)) (λ_=>iA (0:Int)) (λi hi=>rfl) ?_
 refine Aa 12 (Ev 37 (decide ((1:Int)<(l.length:Int))) false (decide_eq_false ω) (Aa 8 (Sp 1 47 2 1 (λ_=>iA (0:Int)) (λi0=>iA (rP l d u i0)) (λx9 hx9=>(by(obtain rfl:x9=0:=(ω));exact congrArg iA (Agb hl.2 0).symm)) (Jg 1 [10] 47 2 1 (λi0=>iA (rP l d u i0)) (Bi λ_ _=>rfl) (Aa 3 (Ao ((60:Int)*o) ((60:Int)*o) (Aj (Ck (60*o) ω) (Aa 2 (Dx (.int .i64 (IntKind.wrap .i64 ((d:Int)*((l.length-1:Nat):Int)))) (.int .i64 ((d*(l.length-1):Nat):Int)) ?_ (congrArg (Value.int .i64) (by rw[<-Int.natCast_mul];exact IntWalk.i64_in _ ω)))))))))))
 refine Aj (Wl (d*(l.length-1)) ω) (Aj (eQ (60*o) ((2^(d*(l.length-1)):Nat):Int) (rW l o d) (by have:=Fh (show Bg (60*o) by omega);have:=AcF (n:=d*(l.length-1)) hdn;omega) (Int.mul_assoc 60 o _)) (Aa 17 (Wg [10,11,12,13,14,15] (λm s=>∃j,j<=l.length/\m=l.length-j/\True/\((j=0/\s=⟨[(10,.slc 2 1 (λi0=>iA (rP l d u i0))),(11,.int ((l.length-1:Nat):Int)),(12,.ptr 2 0),(13,.int 0),(14,.int 0),(15,.int ((0:Nat):Int))],[(0,.vec 47 2 1 (λ_=>iA (0:Int))),(2,.box 47 [.bool (decide ((rW l o d)<0)),Dz ((rW l o d).natAbs)])],3,108⟩)\/(0<j/\s=⟨[(10,.slc 2 1 (λi0=>iA (rP l d u i0))),(11,.int ((l.length-1:Nat):Int)),(12,.ptr 2 0),(13,.int (Ji (Kr l o d u) (j-1))),(14,.int (-Ji (Id l o d u) (j-1))),(15,.int (j:Int))],[(0,.vec 47 2 1 (λ_=>iA (0:Int))),(2,.box 47 [.bool (decide ((rW l o d)<0)),Dz ((rW l o d).natAbs)])],3,108⟩))) l.length ⟨0,Nat.zero_le _,rfl,trivial,.inl ⟨rfl,κ⟩⟩ ?_)))
 rintro _ _ ⟨j,hjn,rfl,hFj,(⟨hj0,rfl⟩|⟨hj0,rfl⟩)⟩ J1 hJ1
 ·
  subst hj0
  refine Aa 8 (Cu 52 (((0:Nat):Int)<=((l.length-1:Nat):Int)) (λhx1 hx1d=>?_) (λhx1 hx1d=>?_))
  ·
   refine Aa 9 (Ee 55 (.lit (.agg #[.bool false,.slice none 0 0])) (iA (Fi (rP l d u) (l.length-1) 0 0)) Jh ?_)
   refine Aa 10 (Ue (keep:=[10,11,12,13,14,15,16,17]) (0+1) (λk=>⟨[(10,.slc 2 1 (λi0=>iA (rP l d u i0))),(11,.int ((l.length-1:Nat):Int)),(12,.ptr 2 0),(13,.int 0),(14,.int 0),(15,.int ((0:Nat):Int)),(16,.ptr 3 0),(17,.int (k:Int))],[(0,.vec 47 2 1 (λ_=>iA (0:Int))),(2,.box 47 [.bool (decide ((rW l o d)<0)),Dz ((rW l o d).natAbs)]),(3,.box 47 [.bool (decide ((Fi (rP l d u) (l.length-1) 0 k)<0)),Dz ((Fi (rP l d u) (l.length-1) 0 k).natAbs)])],4,108⟩) (λk hk J2 hJ2=>?_) ?_)
   ·
    exact Aa 6 (Ev 58 (decide ((k:Int)<=((0:Nat):Int))) true (decide_eq_true ω) (Aa 7 (Be [(3,Ax (.slc 2 1 (λi0=>iA (rP l d u i0))) k,.none),(7,_,.none),(8,.int (IntKind.wrap .i64 (Int.tdiv 60 ((Au (l.length-1) k):Int))),.none),(11,_,.none),(12,.int ((Kf (l.length-1) 0 k:Nat):Int),.none),(13,_,.none),(14,_,.none),(15,_,.none)] [10,11,12,13,14,15,16,17] ⟨Eg k 1,Am (Gb (l.length-1) k ω ω),Bo (La 3 3 (.const (.int .i64 60)) (.tmp 68) 60 ((Au (l.length-1) k):Int) κ κ κ (Le ω ω)),Am (Gb 0 k ω ω),As (.int .i64 (IntKind.wrap .i64 (IntKind.wrap .i64 (Int.tdiv 60 ((Au (l.length-1) k):Int))*((Au 0 k):Int)))) (congrArg (Value.int .i64) (dH ω ω ω)),Am (Ck ((Kf (l.length-1) 0 k:Nat):Int) (Gu ω ω ω)),Am (Fn (rP l d u k) ((Kf (l.length-1) 0 k:Nat):Int) (by have:=Vu h6 hi hd hu k;have:=Fh (Gu (n:=l.length-1) (j:=0) (k:=k) ω ω ω);omega)),Am (Ma (Fi (rP l d u) (l.length-1) 0 k) (rP l d u k*((Kf (l.length-1) 0 k:Nat):Int)) (Fi (rP l d u) (l.length-1) 0 (k+1)) (by have:=Ij h6 hi hd hu h0 (j:=0) (k:=k) ω ω;omega) (by have:=Vu h6 hi hd hu k;have:=Fh (Gu (n:=l.length-1) (j:=0) (k:=k) ω ω ω);have:=Hy (rP l d u k) ((Kf (l.length-1) 0 k:Nat):Int);omega) rfl),trivial⟩ (Aa 4 (Ao ((k:Int)+1) ((k+1:Nat):Int) (Aa 2 (Pe [10,11,12,13,14,15,16,17] hJ2)))))))
   ·
    refine Aa 6 (Ev 58 (decide (((0+1):Int)<=((0:Nat):Int))) false (decide_eq_false ω) (Aa 12 (Aj (Me (Fi (rP l d u) (l.length-1) 0 (0+1)) (rW l o d) (Kr l o d u 0) _ (Nd d ho.1) (by have:=Ij h6 hi hd hu h0 (j:=0) (k:=0+1) ω ω;omega) (by have:=Vv h6 (show Bg o by omega) hd;omega) rfl rfl) (Aa 10 (Be [(1,_,.none),(3,_,.none)] [10,11,12,13,14,15,18,20] ⟨Am (Od (Fi (rP l d u) (l.length-1) 0 (0+1))),Am (Me (-(Fi (rP l d u) (l.length-1) 0 (0+1))) (rW l o d) (Id l o d u 0) _ (Nd d ho.1) (by rw[Qe];exact(by have:=Ij h6 hi hd hu h0 (j:=0) (k:=0+1) ω ω;omega)) (by have:=Vv h6 (show Bg o by omega) hd;omega) rfl rfl),trivial⟩ (Aa 6 (Ev 91 (decide (((0:Nat):Int)=0)) true (decide_eq_true ω) (Aa 3 (Be [(1,_,.none),(3,_,.none),(4,.int (-(Id l o d u 0)),.none)] [10,11,12,13,14,15,18,20] ⟨Am (Ig (Kr l o d u 0) (by have:=Iy h0 h6 hb ho.1 hu 0 ω;omega)),Am (Ig (Id l o d u 0) (by have:=Iy h0 h6 hb ho.1 hu 0 ω;omega)),As (.int .i64 (IntKind.wrap .i64 (0-(Id l o d u 0)))) (congrArg (Value.int .i64) (by rw[Int.zero_sub];exact IntWalk.i64_in _ (by have:=Iy h0 h6 hb ho.1 hu 0 ω;omega))),trivial⟩ (Aa 1 (Be [(2,_,.none),(3,.int (min (Kr l o d u 0) (Kr l o d u 0)),.none),(6,_,.none),(7,.int (-(Id l o d u 0)),.none),(8,.int (max (-(Id l o d u 0)) (-(Id l o d u 0))),.none)] [10,11,12,13,14,15] ⟨Am (Ig (Kr l o d u 0) (by have:=Iy h0 h6 hb ho.1 hu 0 ω;omega)),Bo (Rb (.tmp 97) (.tmp 99) #[3,3] κ (Kr l o d u 0) (Kr l o d u 0) κ κ),Am (Ig (Id l o d u 0) (by have:=Iy h0 h6 hb ho.1 hu 0 ω;omega)),As (.int .i64 (IntKind.wrap .i64 (0-(Id l o d u 0)))) (congrArg (Value.int .i64) (by rw[Int.zero_sub];exact IntWalk.i64_in _ (by have:=Iy h0 h6 hb ho.1 hu 0 ω;omega))),Bo (Ja (.tmp 101) (.tmp 104) #[3,3] κ (-(Id l o d u 0)) (-(Id l o d u 0)) κ κ),trivial⟩ (Aa 4 (Ao (((0:Nat):Int)+1) ((0+1:Nat):Int) (Aa 2 (Ee 13 (.int (min (Kr l o d u 0) (Kr l o d u 0))) (.int (Ji (Kr l o d u) (0+1-1))) (Rl (congrArg AV.int (Int.min_self (Kr l o d u 0)))) ?_)))))))))))))))
    refine Ee 14 (.int (max (-(Id l o d u 0)) (-(Id l o d u 0)))) (.int (-Ji (Id l o d u) (0+1-1))) (Rl (congrArg AV.int (Int.max_self (-Id l o d u 0)))) ?_
    exact Ew [10,11,12,13,14,15] [(0,0),(2,2)] 3 0 hA0 [(47,2,1,(λ_=>iA (0:Int)))] ⟨(Bi λ_ _=>rfl),trivial⟩ (hJ1 _ _ (by omega:l.length-(0+1)<l.length-0) ⟨0+1,ω,rfl,trivial,.inr ⟨Nat.succ_pos _,rfl⟩⟩)
  ·
   exact Aa 15 (Ch (.lit (.tuple #[.int .i64 0,.int .i64 0])) (by exfalso;omega))
 ·
  refine Aa 8 (Cu 52 ((j:Int)<=((l.length-1:Nat):Int)) (λhx2 hx2d=>?_) (λhx2 hx2d=>?_))
  ·
   refine Aa 9 (Ee 55 (.lit (.agg #[.bool false,.slice none 0 0])) (iA (Fi (rP l d u) (l.length-1) j 0)) Jh ?_)
   refine Aa 10 (Ue (keep:=[10,11,12,13,14,15,16,17]) (j+1) (λk=>⟨[(10,.slc 2 1 (λi0=>iA (rP l d u i0))),(11,.int ((l.length-1:Nat):Int)),(12,.ptr 2 0),(13,.int (Ji (Kr l o d u) (j-1))),(14,.int (-Ji (Id l o d u) (j-1))),(15,.int (j:Int)),(16,.ptr 3 0),(17,.int (k:Int))],[(0,.vec 47 2 1 (λ_=>iA (0:Int))),(2,.box 47 [.bool (decide ((rW l o d)<0)),Dz ((rW l o d).natAbs)]),(3,.box 47 [.bool (decide ((Fi (rP l d u) (l.length-1) j k)<0)),Dz ((Fi (rP l d u) (l.length-1) j k).natAbs)])],4,108⟩) (λk hk J3 hJ3=>?_) ?_)
   ·
    exact Aa 6 (Ev 58 (decide ((k:Int)<=(j:Int))) true (decide_eq_true ω) (Aa 7 (Be [(3,Ax (.slc 2 1 (λi0=>iA (rP l d u i0))) k,.none),(7,_,.none),(8,.int (IntKind.wrap .i64 (Int.tdiv 60 ((Au (l.length-1) k):Int))),.none),(11,_,.none),(12,.int (Kf (l.length-1) j k:Int),.none),(13,_,.none),(14,_,.none),(15,_,.none)] [10,11,12,13,14,15,16,17] ⟨Eg k 1,Am (Gb (l.length-1) k ω ω),Bo (La 3 3 (.const (.int .i64 60)) (.tmp 68) 60 ((Au (l.length-1) k):Int) κ κ κ (Le ω ω)),Am (Gb j k ω ω),As (.int .i64 (IntKind.wrap .i64 (IntKind.wrap .i64 (Int.tdiv 60 ((Au (l.length-1) k):Int))*((Au j k):Int)))) (congrArg (Value.int .i64) (dH ω ω ω)),Am (Ck (Kf (l.length-1) j k:Int) (Gu ω ω ω)),Am (Fn (rP l d u k) (Kf (l.length-1) j k:Int) (by have:=Vu h6 hi hd hu k;have:=Fh (Gu (n:=l.length-1) (j:=j) (k:=k) ω ω ω);omega)),Am (Ma (Fi (rP l d u) (l.length-1) j k) (rP l d u k*(Kf (l.length-1) j k:Int)) (Fi (rP l d u) (l.length-1) j (k+1)) (by have:=Ij h6 hi hd hu h0 (j:=j) (k:=k) ω ω;omega) (by have:=Vu h6 hi hd hu k;have:=Fh (Gu (n:=l.length-1) (j:=j) (k:=k) ω ω ω);have:=Hy (rP l d u k) (Kf (l.length-1) j k:Int);omega) rfl),trivial⟩ (Aa 4 (Ao ((k:Int)+1) ((k+1:Nat):Int) (Aa 2 (Pe [10,11,12,13,14,15,16,17] hJ3)))))))
   ·
    refine Aa 6 (Ev 58 (decide (((j+1):Int)<=(j:Int))) false (decide_eq_false ω) (Aa 12 (Aj (Me (Fi (rP l d u) (l.length-1) j (j+1)) (rW l o d) (Kr l o d u j) _ (Nd d ho.1) (by have:=Ij h6 hi hd hu h0 (j:=j) (k:=j+1) ω ω;omega) (by have:=Vv h6 (show Bg o by omega) hd;omega) rfl rfl) (Aa 10 (Be [(1,_,.none),(3,_,.none)] [10,11,12,13,14,15,18,20] ⟨Am (Od (Fi (rP l d u) (l.length-1) j (j+1))),Am (Me (-(Fi (rP l d u) (l.length-1) j (j+1))) (rW l o d) (Id l o d u j) _ (Nd d ho.1) (by rw[Qe];exact(by have:=Ij h6 hi hd hu h0 (j:=j) (k:=j+1) ω ω;omega)) (by have:=Vv h6 (show Bg o by omega) hd;omega) rfl rfl),trivial⟩ (Aa 6 (Ev 91 (decide ((j:Int)=0)) false (decide_eq_false ω) (Aa 5 (Be [(2,_,.none),(3,.int (min (Ji (Kr l o d u) (j-1)) (Kr l o d u j)),.none),(6,_,.none),(7,.int (-(Id l o d u j)),.none),(8,.int (max (-Ji (Id l o d u) (j-1)) (-(Id l o d u j))),.none)] [10,11,12,13,14,15] ⟨Am (Ig (Kr l o d u j) (by have:=Iy h0 h6 hb ho.1 hu j ω;omega)),Bo (Rb (.tmp 97) (.tmp 99) #[3,3] κ (Ji (Kr l o d u) (j-1)) (Kr l o d u j) κ κ),Am (Ig (Id l o d u j) (by have:=Iy h0 h6 hb ho.1 hu j ω;omega)),As (.int .i64 (IntKind.wrap .i64 (0-(Id l o d u j)))) (congrArg (Value.int .i64) (by rw[Int.zero_sub];exact IntWalk.i64_in _ (by have:=Iy h0 h6 hb ho.1 hu j ω;omega))),Bo (Ja (.tmp 101) (.tmp 104) #[3,3] κ (-Ji (Id l o d u) (j-1)) (-(Id l o d u j)) κ κ),trivial⟩ (Aa 4 (Ao ((j:Int)+1) ((j+1:Nat):Int) (Aa 2 (Ee 13 (.int (min (Ji (Kr l o d u) (j-1)) (Kr l o d u j))) (.int (Ji (Kr l o d u) (j+1-1))) (Rl (congrArg AV.int (Ac6 hj0))) ?_)))))))))))))
    refine Ee 14 (.int (max (-Ji (Id l o d u) (j-1)) (-(Id l o d u j)))) (.int (-Ji (Id l o d u) (j+1-1))) (Rl (congrArg AV.int (AgM hj0))) ?_
    exact Ew [10,11,12,13,14,15] [(0,0),(2,2)] 3 0 hA0 [(47,2,1,(λ_=>iA (0:Int)))] ⟨(Bi λ_ _=>rfl),trivial⟩ (hJ1 _ _ (by omega:l.length-(j+1)<l.length-j) ⟨j+1,ω,rfl,trivial,.inr ⟨Nat.succ_pos _,rfl⟩⟩)
  ·
   exact Aa 15 (Ch (.lit (.tuple #[.int .i64 (Ji (Kr l o d u) (j-1)),.int .i64 (-Ji (Id l o d u) (j-1))])) (by(obtain rfl:j=l.length:=(ω));rfl))
def Jo (d k:Int):Prop:=0<=d/\d<=8/\0<=k/\k<((2^d.toNat:Nat):Int)
instance (d k:Int):Decidable (Jo d k):=by unfold Jo;exact inferInstance
theorem AjK {i:Nat} (h:i<=8):2^i<=256/\2^(i+1)=2*2^i:=⟨Jz h,by rw[Nat.pow_succ,Nat.mul_comm]⟩
theorem Pp (l:List Int) (o:Int) (d u:Nat) (h:Gs l o) (hi:∀i,Bg (l.getD i 0)) (ho:0<o/\o<=4294967296) (hd:d<=8) (hu:u<2^d):AF Tryz.prog 24 [Af l,.int o,.int (d:Int),.int (u:Int)] (.lit (.tuple #[.int .i64 (Gi l o d u),.int .i64 (-Eh l o d u)])):=by
 obtain⟨h0,h6,h3,hb⟩:=h
 rw[qC h0 h6 hb ho.1 hu,aG h0 h6 hb ho.1 hu]
 by_cases e:Sn l (l.length-1)=0
 have h1:l.length=1:=by
  refine Nat.le_antisymm (Nat.le_of_not_lt λg=>h3 g e) h0
 refine mW l o d u h0 h6 hi hb ho hd hu ⟨h1,?_⟩
 rw[h1] at e
 show Ay (Sn l) l.length=0
 rw[h1,Ay,if_pos e]
 rfl
 exact mX l o d u h0 h6 hi hb ho hd hu (Nz (.inr e))
theorem iK {l:List Int} {o:Int} {d u:Nat} (h:Gs l o) (hi:∀i,Bg (l.getD i 0)) (ho:0<o) (hd:d<=8) (hu:u<2^d):jM l o d u:=by
 obtain⟨h0,h6,h3,hb⟩:=h
 refine⟨⟨h0,h6,hi,hd,hu⟩,?_⟩
 rw[aG h0 h6 hb ho hu]
 have:=gG (f:=Id l o d u) (n:=l.length-1) λj hj=>(Iy h0 h6 hb ho hu j hj).2
 show -9223372036854775807<=Ji (Id l o d u) (l.length-1)/\Ji (Id l o d u) (l.length-1)<=9223372036854775807
 omega
theorem cI (d k:Int):AF Tryz.prog 8 [.int d,.int k] (.bool (decide (Jo d k))):=by
 refine Ai func8 rfl λB D0 hA0=>?_
 refine Aa 11 (Cu 9 (d<0) (λhx1 hx1d=>?_) (λhx1 hx1d=>?_))
 ·
  exact Aa 17 (Ch (.bool false) (congrArg AV.bool (decide_eq_false λh9=>by unfold Jo at h9;omega).symm))
 ·
  refine Aa 4 (Cu 13 ((8:Int)<d) (λhx2 hx2d=>?_) (λhx2 hx2d=>?_))
  ·
   exact Aa 13 (Ch (.bool false) (congrArg AV.bool (decide_eq_false λh9=>by unfold Jo at h9;omega).symm))
  ·
   refine Aa 5 (Cu 16 (k<0) (λhx3 hx3d=>?_) (λhx3 hx3d=>?_))
   ·
    exact Aa 8 (Ch (.bool false) (congrArg AV.bool (decide_eq_false λh9=>by unfold Jo at h9;omega).symm))
   ·
    refine Aa 15 (Po [0,1,5,6] d.toNat (λi=>True) (λi=>⟨[(0,.int d),(1,.int k),(5,.int ((2^i:Nat):Int)),(6,.int (i:Int))],[],0,27⟩) trivial (λi hin hFi J1 hJ1=>?_))
    refine Aa 8 (Cu 19 ((i:Int)<d) (λhx4 hx4d=>?_) (λhx4 hx4d=>?_))
    ·
     refine Aa 7 (Dx (.int .i64 (IntKind.wrap .i64 (2*((2^i:Nat):Int)))) (.int .i64 ((2^(i+1):Nat):Int)) ?_ (congrArg (Value.int .i64) (by have h9:=AjK (i:=i) ω;exact(IntWalk.i64_in _ ω).trans ω)))
     exact Aa 6 (Ao ((i:Int)+1) ((i+1:Nat):Int) (Aa 2 (Pe [0,1,5,6] (hJ1 ω trivial))))
    ·
     exact Aa 15 (Ch (.bool (decide (k<((2^i:Nat):Int)))) (congrArg AV.bool (decide_eq_decide.2 (by(obtain rfl:i=d.toNat:=(ω));unfold Jo;omega))))
theorem zO (s:Sg) (hs:Jj s) (h:Gm s) (d u:Nat) (hd:d<=8) (hu:u<2^d):AF Tryz.prog 9 [Dp s,.int (d:Int),.int (u:Int)] (.lit (.tuple #[.agg #[.int .i64 (Gi s.x s.o d u),.int .i64 (Gi s.y s.o d u),.int .i64 (Gi s.z s.o d u)],.agg #[.int .i64 (-Eh s.x s.o d u),.int .i64 (-Eh s.y s.o d u),.int .i64 (-Eh s.z s.o d u)]])):=by
 have ho:0<s.o/\s.o<=4294967296:=by have h8:=h.1;unfold Gt at h8;omega
 refine Ai func9 rfl λB D0 hA0=>?_
 exact Aa 15 (Aj (Pp s.x s.o d u (Gv h 0) hs.x ho hd hu) (Aa 15 (Aj (Pp s.y s.o d u (Gv h 1) hs.y ho hd hu) (Aa 15 (Aj (Pp s.z s.o d u (Gv h 2) hs.z ho hd hu) (Aa 22 (Br)))))))
theorem jA (s:Sg) (hs:Jj s) (h:Gm s) (d u:Nat) (hd:d<=8) (hu:u<2^d):AF Tryz.prog 6 [Dp s,.int (d:Int),.int (u:Int)] (.lit (.tuple #[.agg #[.int .i64 ((Mx s d u).lo.x),.int .i64 ((Mx s d u).lo.y),.int .i64 ((Mx s d u).lo.z)],.agg #[.int .i64 ((Mx s d u).hi.x),.int .i64 ((Mx s d u).hi.y),.int .i64 ((Mx s d u).hi.z)],.int .i64 0])):=by
 have ho:0<s.o/\s.o<=4294967296:=by have h8:=h.1;unfold Gt at h8;omega
 refine Ai func6 rfl λB D0 hA0=>?_
 refine Aa 12 (Aj (by have h9:=Hg s hs;rwa [decide_eq_true h] at h9) (Aa 4 (Ev 15 (decide ((d:Int)<0)) false (decide_eq_false ω) (Aa 4 (Ev 19 (decide ((8:Int)<(d:Int))) false (decide_eq_false ω) (Aa 4 (Ev 23 (decide ((u:Int)<0)) false (decide_eq_false ω) (Aa 4 (Dx (.int .i64 (IntKind.wrap .i64 (1*2^min (d:Int).toNat 64))) (.int .i64 ((2^d:Nat):Int)) ?_ (congrArg (Value.int .i64) (AiB hd)))))))))))
 exact Aa 1 (Ev 29 (decide (((2^d:Nat):Int)<=(u:Int))) false (decide_eq_false ω) (Aa 11 (Aj (cC s d u ⟨ho.1,ω⟩ (iK (Gv h 0) hs.x ho.1 hd hu) (iK (Gv h 1) hs.y ho.1 hd hu) (iK (Gv h 2) hs.z ho.1 hd hu)) (Aa 5 (Be [] [6,7,8] trivial (Aa 2 (Br)))))))
theorem uR (s:Sg) (hs:Jj s) (h:¬Gm s) (d k:Int):AF Tryz.prog 6 [Dp s,.int d,.int k] (.lit (.tuple #[.agg #[.int .i64 0,.int .i64 0,.int .i64 0],.agg #[.int .i64 0,.int .i64 0,.int .i64 0],.int .i64 2])):=by
 refine Ai func6 rfl λB D0 hA0=>?_
 exact Aa 12 (Aj (by have h9:=Hg s hs;rwa [decide_eq_false h] at h9) (Aa 33 (Br)))
theorem uS (s:Sg) (hs:Jj s) (h:Gm s) (d k:Int) (p:d<0):AF Tryz.prog 6 [Dp s,.int d,.int k] (.lit (.tuple #[.agg #[.int .i64 0,.int .i64 0,.int .i64 0],.agg #[.int .i64 0,.int .i64 0,.int .i64 0],.int .i64 2])):=by
 refine Ai func6 rfl λB D0 hA0=>?_
 exact Aa 12 (Aj (by have h9:=Hg s hs;rwa [decide_eq_true h] at h9) (Aa 4 (Ev 15 (decide (d<0)) true (decide_eq_true ω) (Aa 29 (Br)))))
theorem uT (s:Sg) (hs:Jj s) (h:Gm s) (d:Nat) (k:Int) (p:¬Jo (d:Int) k):AF Tryz.prog 6 [Dp s,.int (d:Int),.int k] (.lit (.tuple #[.agg #[.int .i64 0,.int .i64 0,.int .i64 0],.agg #[.int .i64 0,.int .i64 0,.int .i64 0],.int .i64 2])):=by
 refine Ai func6 rfl λB D0 hA0=>?_
 refine Aa 12 (Aj (by have h9:=Hg s hs;rwa [decide_eq_true h] at h9) (Aa 4 (Ev 15 (decide ((d:Int)<0)) false (decide_eq_false ω) (Aa 6 (Cu 21 ((8:Int)<(d:Int)) (λhx1 hx1d=>?_) (λhx1 hx1d=>?_))))))
 ·
  exact Aa 23 (Br)
 ·
  refine Aa 4 (Cu 25 (k<0) (λhx2 hx2d=>?_) (λhx2 hx2d=>?_))
  ·
   exact Aa 19 (Br)
  ·
   refine Aa 2 (Dx (.int .i64 (IntKind.wrap .i64 (1*2^min (d:Int).toNat 64))) (.int .i64 ((2^d:Nat):Int)) ?_ (congrArg (Value.int .i64) (AiB ω)))
   exact Aa 1 (Ev 29 (decide (((2^d:Nat):Int)<=k)) true (decide_eq_true (by unfold Jo at p;rw[Int.toNat_natCast] at p;omega)) (Aa 15 (Br)))
theorem iZ (s:Sg) (hs:Jj s) (d k:Int) (p:¬(Gm s/\Jo d k)):AF Tryz.prog 6 [Dp s,.int d,.int k] (.lit (.tuple #[.agg #[.int .i64 0,.int .i64 0,.int .i64 0],.agg #[.int .i64 0,.int .i64 0,.int .i64 0],.int .i64 2])):=by
 by_cases h:Gm s
 by_cases h0:d<0
 exact uS s hs h d k h0
 obtain⟨n,rfl⟩:∃n:Nat,d=(n:Int):=⟨d.toNat,ω⟩
 exact uT s hs h n k λg=>p ⟨h,g⟩
 exact uR s hs h d k
def Ud (a b:Int):List Int:=if b-a=0 then [a] else [a,b-a]
def dS (a b:V3):Sg:=⟨0,1000,1,Ud a.x b.x,Ud a.y b.y,Ud a.z b.z⟩
theorem Ahe {a b:Int} (h:b-a=0):Ud a b=[a]:=if_pos h
theorem Ahf {a b:Int} (h:¬b-a=0):Ud a b=[a,b-a]:=if_neg h
theorem Rn (a b:Int) (ha: -1000000<=a/\a<=1000000) (hb: -1000000<=b/\b<=1000000):AF Tryz.prog 49 [.int a,.int b,.int 1] (Af (Ud a b)):=by
 refine Ai func49 rfl λB D0 hA0=>?_
 refine Aa 9 (Ao (b-a) (b-a) (Aa 9 (Cu 13 (b-a=0) (λhx1 hx1d=>?_) (λhx1 hx1d=>?_))))
 ·
  refine Aa 9 (Iu 0 3 1 1 (λ_=> .int a) ?_)
  exact Aa 3 (Sp 0 3 1 1 (λ_=> .int a) (λi0=> .int ((Ud a b).getD i0 0)) (λx9 hx9=>(by rw[Ahe hx1d];match x9,hx9 with|0,_=>rfl|_+1,h=>exact absurd h ω)) (mO 0 [6] 3 1 1 (λi0=> .int ((Ud a b).getD i0 0)) (Bi λ_ _=>rfl) (Aa 2 (Ch (.sl 1 1 (λi0=> .int ((Ud a b).getD i0 0))) (congrArg (λq=>AV.sl 1 q λk=> .int ((Ud a b).getD k 0)) (by rw[Ahe hx1d];rfl))))))
 ·
  refine Aa 20 (Iu 0 3 1 2 (λxi=>[.int a,.int (b-a)].getD xi .top) ?_)
  exact Aa 3 (Sp 0 3 1 2 (λxi=>[.int a,.int (b-a)].getD xi .top) (λi0=> .int ((Ud a b).getD i0 0)) (λx9 hx9=>(by rw[Ahf hx1d];match x9,hx9 with|0,_=>rfl|1,_=>rfl|_+2,h=>exact absurd h ω)) (mO 0 [6] 3 1 2 (λi0=> .int ((Ud a b).getD i0 0)) (Bi λ_ _=>rfl) (Aa 2 (Ch (.sl 1 2 (λi0=> .int ((Ud a b).getD i0 0))) (congrArg (λq=>AV.sl 1 q λk=> .int ((Ud a b).getD k 0)) (by rw[Ahf hx1d];rfl))))))
theorem zY (a b:V3) (hx:(-1000000<=a.x/\a.x<=1000000)/\(-1000000<=b.x/\b.x<=1000000)) (hy:(-1000000<=a.y/\a.y<=1000000)/\(-1000000<=b.y/\b.y<=1000000)) (hz:(-1000000<=a.z/\a.z<=1000000)/\(-1000000<=b.z/\b.z<=1000000)):AF Tryz.prog 25 [Bj a,Bj b,.int 0,.int 1000,.int 1] (Dp (dS a b)):=by
 refine Ai func25 rfl λB D0 hA0=>?_
 exact Aa 8 (Be [(7,_,.none),(13,_,.none),(19,_,.none)] [10] ⟨Am (Rn a.x b.x hx.1 hx.2),Am (Rn a.y b.y hy.1 hy.2),Am (Rn a.z b.z hz.1 hz.2),trivial⟩ (Aa 2 (Br)))
theorem Qs (a b:V3) (hx:(-1000000<=a.x/\a.x<=1000000)/\(-1000000<=b.x/\b.x<=1000000)) (hy:(-1000000<=a.y/\a.y<=1000000)/\(-1000000<=b.y/\b.y<=1000000)) (hz:(-1000000<=a.z/\a.z<=1000000)/\(-1000000<=b.z/\b.z<=1000000)):AF Tryz.prog 10 [Bj a,Bj b] (Dp (dS a b)):=by
 refine Ai func10 rfl λB D0 hA0=>?_
 exact Aa 11 (Aj (zY a b hx hy hz) (Aa 4 (Br)))
theorem Bu (x y z:Int):AF Tryz.prog 11 [.int x,.int y,.int z] (Bj ⟨x,y,z⟩):=by
 refine Ai func11 rfl λB D0 hA0=>?_
 exact Aa 15 (Br)
theorem Lp {l:List Int} (h:l.all (λc=>decide (Bg c))=true):∀i,Bg (l.getD i 0):=by
 intro i
 rw[Γ]
 rcases Nat.lt_or_ge i l.length with g|g
 rw[List.getElem?_eq_getElem g]
 exact of_decide_eq_true (List.all_eq_true.1 h _ (List.getElem_mem g))
 rw[List.getElem?_eq_none g]
 exact oV
def axB (l:List Int) (o:Int) (d k:Nat) (z w:Int):Bool:=decide (0<l.length/\l.length<=6)&&(l.all (λc=>decide (Bg c))&&(decide (d<=8/\k<2^d)&&(decide (-9223372036854775807<=w/\w<=9223372036854775807)&&(decide (Gi l o d k=z)&&decide (Eh l o d k= -w)))))
theorem Ol {l:List Int} {o:Int} {d k:Nat} {z w:Int} (h:axB l o d k z w=true):jM l o d k/\Gi l o d k=z/\-Eh l o d k=w:=by
 simp only[axB,Bool.and_eq_true,decide_eq_true_eq] at h
 obtain⟨h1,h2,h3,h4,h5,h6⟩:=h
 refine⟨⟨⟨h1.1,h1.2,Lp h2,h3.1,h3.2⟩,?_,?_⟩,h5,?_⟩<;>rw[h6]<;>omega
end Go.Proofs.YtbggmndaahbojaaGreat