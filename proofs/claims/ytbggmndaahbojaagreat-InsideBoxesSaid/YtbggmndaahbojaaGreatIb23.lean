/- Part 23 of the proof of IB.row_holds: no condition beyond the row's. -/
import Derived.Test.YtbggmndaahbojaaGreatIb22
set_option maxRecDepth 100000
set_option maxHeartbeats 40000000
namespace Go.Proofs.YtbggmndaahbojaaGreat
open Go.Proofs.Tryz
open Go.RowKit
theorem Fj (s:Sg) (d k:Nat) (b:Bx) (h:(decide (0<s.o/\s.o<=9223372036854775807)&&(axB s.x s.o d k b.lo.x b.hi.x&&(axB s.y s.o d k b.lo.y b.hi.y&&axB s.z s.o d k b.lo.z b.hi.z)))=true):rG s d k b:=by
 simp only[Bool.and_eq_true,decide_eq_true_eq] at h
 obtain⟨h1,h2,h3,h4⟩:=h
 refine⟨h1,(Ol h2).1,(Ol h3).1,(Ol h4).1,?_⟩
 show Bx.mk ⟨_,_,_⟩ ⟨_,_,_⟩=b
 rw[(Ol h2).2.1,(Ol h2).2.2,(Ol h3).2.1,(Ol h3).2.2,(Ol h4).2.1,(Ol h4).2.2]
theorem Wy {s:Sg} (h:(decide (Bg s.f)&&(decide (Bg s.t)&&(decide (Bg s.o)&&(s.x.all (λc=>decide (Bg c))&&(s.y.all (λc=>decide (Bg c))&&s.z.all (λc=>decide (Bg c)))))))=true):Jj s:=by
 simp only[Bool.and_eq_true,decide_eq_true_eq] at h
 exact⟨h.1,h.2.1,h.2.2.1,Lp h.2.2.2.1,Lp h.2.2.2.2.1,Lp h.2.2.2.2.2⟩
def wZ:Sg:=dS ⟨0,0,100⟩ ⟨300,100,200⟩
def bA:Sg:=dS ⟨100,100,100⟩ ⟨900,100,100⟩
def Gl:Sg:=dS ⟨100,100,100⟩ ⟨900,900,100⟩
def So:Sg:=dS ⟨100,450,100⟩ ⟨550,950,100⟩
theorem Aib:Jj wZ:=Wy (by decide+kernel)
theorem AhY:Jj bA:=Wy (by decide+kernel)
theorem AhZ:Jj Gl:=Wy (by decide+kernel)
theorem Aia:Jj So:=Wy (by decide+kernel)
theorem Aic:Gm wZ:=by decide+kernel
theorem Ai0 {s:Sg} (h:Jj s):AaH [s]:=⟨by show (1:Nat)<=1000000;decide,λi=>by
 match i with
 |0=>exact h
 |i+1=>exact show Jj Sg.none from⟨δ,δ,δ,Lp (l:=[]) rfl,Lp (l:=[]) rfl,Lp (l:=[]) rfl⟩⟩
theorem nP {s:Sg} (hs:Jj s) (h:Xu [s]):AF Tryz.prog 89 [Hl [s]] (.bool true):=by
 have h9:=eU [s] (Ai0 hs)
 rwa [show bP (Xu [s])=true by unfold bP;exact @decide_eq_true _ (Classical.propDecidable _) h] at h9
theorem Abd:AF Tryz.prog 148 [.int ((0:Nat):Int),.int ((0:Nat):Int),Ez bA,Lx An,Nc bA An 9] (.bool true):=fX bA 0 0 ⟨⟨100,100,100⟩,⟨900,100,100⟩⟩ 8 (Fj bA 0 0 ⟨⟨100,100,100⟩,⟨900,100,100⟩⟩ (by decide+kernel)) (Ia ⟨⟨100,100,100⟩,⟨900,100,100⟩⟩ (by decide+kernel)) δ
theorem Abg:AF Tryz.prog 148 [.int ((2:Nat):Int),.int ((0:Nat):Int),Ez Gl,Lx An,Nc Gl An 7] (.bool true):=fX Gl 2 0 ⟨⟨100,100,100⟩,⟨300,300,100⟩⟩ 6 (Fj Gl 2 0 ⟨⟨100,100,100⟩,⟨300,300,100⟩⟩ (by decide+kernel)) (Ia ⟨⟨100,100,100⟩,⟨300,300,100⟩⟩ (by decide+kernel)) δ
theorem Abj:AF Tryz.prog 148 [.int ((4:Nat):Int),.int ((4:Nat):Int),Ez Gl,Lx An,Nc Gl An 5] (.bool true):=fX Gl 4 4 ⟨⟨300,300,100⟩,⟨350,350,100⟩⟩ 4 (Fj Gl 4 4 ⟨⟨300,300,100⟩,⟨350,350,100⟩⟩ (by decide+kernel)) (Ia ⟨⟨300,300,100⟩,⟨350,350,100⟩⟩ (by decide+kernel)) δ
theorem vS:AF Tryz.prog 148 [.int ((5:Nat):Int),.int ((10:Nat):Int),Ez Gl,Lx An,Nc Gl An 4] (.bool true):=fX Gl 5 10 ⟨⟨350,350,100⟩,⟨375,375,100⟩⟩ 3 (Fj Gl 5 10 ⟨⟨350,350,100⟩,⟨375,375,100⟩⟩ (by decide+kernel)) (Ia ⟨⟨350,350,100⟩,⟨375,375,100⟩⟩ (by decide+kernel)) δ
theorem vV:AF Tryz.prog 148 [.int ((6:Nat):Int),.int ((22:Nat):Int),Ez Gl,Lx An,Nc Gl An 3] (.bool true):=fX Gl 6 22 ⟨⟨375,375,100⟩,⟨388,388,100⟩⟩ 2 (Fj Gl 6 22 ⟨⟨375,375,100⟩,⟨388,388,100⟩⟩ (by decide+kernel)) (Ia ⟨⟨375,375,100⟩,⟨388,388,100⟩⟩ (by decide+kernel)) δ
theorem vX:AF Tryz.prog 148 [.int ((7:Nat):Int),.int ((46:Nat):Int),Ez Gl,Lx An,Nc Gl An 2] (.bool true):=fX Gl 7 46 ⟨⟨387,387,100⟩,⟨394,394,100⟩⟩ 1 (Fj Gl 7 46 ⟨⟨387,387,100⟩,⟨394,394,100⟩⟩ (by decide+kernel)) (Ia ⟨⟨387,387,100⟩,⟨394,394,100⟩⟩ (by decide+kernel)) δ
theorem vZ:AF Tryz.prog 148 [.int ((8:Nat):Int),.int ((94:Nat):Int),Ez Gl,Lx An,Nc Gl An 1] (.bool true):=fX Gl 8 94 ⟨⟨393,393,100⟩,⟨397,397,100⟩⟩ 0 (Fj Gl 8 94 ⟨⟨393,393,100⟩,⟨397,397,100⟩⟩ (by decide+kernel)) (Ia ⟨⟨393,393,100⟩,⟨397,397,100⟩⟩ (by decide+kernel)) δ
theorem wA:AF Tryz.prog 148 [.int ((8:Nat):Int),.int ((95:Nat):Int),Ez Gl,Lx An,Nc Gl An 1] (.bool false):=Ak3 Gl 95 ⟨⟨396,396,100⟩,⟨400,400,100⟩⟩ 0 (Fj Gl 8 95 ⟨⟨396,396,100⟩,⟨400,400,100⟩⟩ (by decide+kernel)) (Gn ⟨⟨396,396,100⟩,⟨400,400,100⟩⟩ δ δ)
theorem vY:AF Tryz.prog 148 [.int ((7:Nat):Int),.int ((47:Nat):Int),Ez Gl,Lx An,Nc Gl An 2] (.bool false):=dL Gl 7 47 ⟨⟨393,393,100⟩,⟨400,400,100⟩⟩ 1 (Fj Gl 7 47 ⟨⟨393,393,100⟩,⟨400,400,100⟩⟩ (by decide+kernel)) (Gn ⟨⟨393,393,100⟩,⟨400,400,100⟩⟩ δ δ) δ vZ wA
theorem vW:AF Tryz.prog 148 [.int ((6:Nat):Int),.int ((23:Nat):Int),Ez Gl,Lx An,Nc Gl An 3] (.bool false):=dL Gl 6 23 ⟨⟨387,387,100⟩,⟨400,400,100⟩⟩ 2 (Fj Gl 6 23 ⟨⟨387,387,100⟩,⟨400,400,100⟩⟩ (by decide+kernel)) (Gn ⟨⟨387,387,100⟩,⟨400,400,100⟩⟩ δ δ) δ vX vY
theorem vT:AF Tryz.prog 148 [.int ((5:Nat):Int),.int ((11:Nat):Int),Ez Gl,Lx An,Nc Gl An 4] (.bool false):=dL Gl 5 11 ⟨⟨375,375,100⟩,⟨400,400,100⟩⟩ 3 (Fj Gl 5 11 ⟨⟨375,375,100⟩,⟨400,400,100⟩⟩ (by decide+kernel)) (Gn ⟨⟨375,375,100⟩,⟨400,400,100⟩⟩ δ δ) δ vV vW
theorem Abk:AF Tryz.prog 148 [.int ((4:Nat):Int),.int ((5:Nat):Int),Ez Gl,Lx An,Nc Gl An 5] (.bool false):=dL Gl 4 5 ⟨⟨350,350,100⟩,⟨400,400,100⟩⟩ 4 (Fj Gl 4 5 ⟨⟨350,350,100⟩,⟨400,400,100⟩⟩ (by decide+kernel)) (Gn ⟨⟨350,350,100⟩,⟨400,400,100⟩⟩ δ δ) δ vS vT
theorem Abi:AF Tryz.prog 148 [.int ((3:Nat):Int),.int ((2:Nat):Int),Ez Gl,Lx An,Nc Gl An 6] (.bool false):=dL Gl 3 2 ⟨⟨300,300,100⟩,⟨400,400,100⟩⟩ 5 (Fj Gl 3 2 ⟨⟨300,300,100⟩,⟨400,400,100⟩⟩ (by decide+kernel)) (Gn ⟨⟨300,300,100⟩,⟨400,400,100⟩⟩ δ δ) δ Abj Abk
theorem Abh:AF Tryz.prog 148 [.int ((2:Nat):Int),.int ((1:Nat):Int),Ez Gl,Lx An,Nc Gl An 7] (.bool false):=Aj0 Gl 2 1 ⟨⟨300,300,100⟩,⟨500,500,100⟩⟩ 6 (Fj Gl 2 1 ⟨⟨300,300,100⟩,⟨500,500,100⟩⟩ (by decide+kernel)) (Gn ⟨⟨300,300,100⟩,⟨500,500,100⟩⟩ δ δ) δ Abi
theorem Abf:AF Tryz.prog 148 [.int ((1:Nat):Int),.int ((0:Nat):Int),Ez Gl,Lx An,Nc Gl An 8] (.bool false):=dL Gl 1 0 ⟨⟨100,100,100⟩,⟨500,500,100⟩⟩ 7 (Fj Gl 1 0 ⟨⟨100,100,100⟩,⟨500,500,100⟩⟩ (by decide+kernel)) (Gn ⟨⟨100,100,100⟩,⟨500,500,100⟩⟩ δ δ) δ Abg Abh
theorem Abe:AF Tryz.prog 148 [.int ((0:Nat):Int),.int ((0:Nat):Int),Ez Gl,Lx An,Nc Gl An 9] (.bool false):=Aj0 Gl 0 0 ⟨⟨100,100,100⟩,⟨900,900,100⟩⟩ 8 (Fj Gl 0 0 ⟨⟨100,100,100⟩,⟨900,900,100⟩⟩ (by decide+kernel)) (Gn ⟨⟨100,100,100⟩,⟨900,900,100⟩⟩ δ δ) δ Abf
theorem Abm:AF Tryz.prog 148 [.int ((1:Nat):Int),.int ((0:Nat):Int),Ez So,Lx An,Nc So An 8] (.bool true):=fX So 1 0 ⟨⟨100,450,100⟩,⟨325,700,100⟩⟩ 7 (Fj So 1 0 ⟨⟨100,450,100⟩,⟨325,700,100⟩⟩ (by decide+kernel)) (Ia ⟨⟨100,450,100⟩,⟨325,700,100⟩⟩ (by decide+kernel)) δ
theorem Abn:AF Tryz.prog 148 [.int ((1:Nat):Int),.int ((1:Nat):Int),Ez So,Lx An,Nc So An 8] (.bool true):=fX So 1 1 ⟨⟨325,700,100⟩,⟨550,950,100⟩⟩ 7 (Fj So 1 1 ⟨⟨325,700,100⟩,⟨550,950,100⟩⟩ (by decide+kernel)) (Ia ⟨⟨325,700,100⟩,⟨550,950,100⟩⟩ (by decide+kernel)) δ
theorem Abl:AF Tryz.prog 148 [.int ((0:Nat):Int),.int ((0:Nat):Int),Ez So,Lx An,Nc So An 9] (.bool true):=Aj2 So 0 0 ⟨⟨100,450,100⟩,⟨550,950,100⟩⟩ 8 (Fj So 0 0 ⟨⟨100,450,100⟩,⟨550,950,100⟩⟩ (by decide+kernel)) (uN ⟨⟨100,450,100⟩,⟨550,950,100⟩⟩ δ δ δ δ δ) δ Abm Abn
theorem gl1:AF Tryz.prog 92 [Hw An,Dp bA] (.bool true):=cF bA Abd
theorem gl2:AF Tryz.prog 92 [Hw An,Dp Gl] (.bool false):=uL Gl Abe
theorem gl3:AF Tryz.prog 92 [Hw An,Dp So] (.bool true):=cF So Abl
theorem gp1:AF Tryz.prog 89 [Hl [bA]] (.bool true):=nP AhY (by decide+kernel)
theorem gp2:AF Tryz.prog 89 [Hl [Gl]] (.bool true):=nP AhZ (by decide+kernel)
theorem gp3:AF Tryz.prog 89 [Hl [So]] (.bool true):=nP Aia (by decide+kernel)
theorem AbZ:∃r,r=AV.lit (.tuple #[.int .i64 0,.bool false,.int .i64 0])/\AF Tryz.prog 53 [Hw An,Hl [bA]] r:=by
 refine Bz func53 rfl ?_
 exact Ab 12 (gs (Aj Gp ·) (Ab 3 (gs (Aj gp1 ·) (Ab 7 (gs (aS 0 ·) (Ab 4 (aI func90 (Ab 14 (gs (Kt 1 ·) (Ab 22 (gs (Dm 0 1 ·) (Ab 1 (yR func91 (Ab 10 (gs (Aj gl1 ·) (Ab 5 (Ha (Ab 29 (Ha (Ab 6 (gs (Cc (.int (max 0 (-1))) .none (Ja (.const (.int .i64 0)) (.tmp 19) #[3,3] κ 0 (-1) κ κ) ·) (Ab 8 (Jl (r:= .lit (.tuple #[.int .i64 0,.bool false,.int .i64 0])) rfl)))))))))))))))))))))))
theorem Afn:AF Tryz.prog 53 [Hw An,Hl [bA]] (.lit (.tuple #[.int .i64 0,.bool false,.int .i64 0])):=by
 obtain⟨_,rfl,hA⟩:=AbZ
 exact hA
theorem wO:∃r,r=AV.lit (.tuple #[.bool true,.int .i64 0])/\AF Tryz.prog 28 [Hw An,Hl [bA]] r:=by
 refine Bz func28 rfl ?_
 exact Ab 11 (gs (Aj Afn ·) (Ab 23 (Jl (r:= .lit (.tuple #[.bool true,.int .i64 0])) rfl)))
theorem Acc:AF Tryz.prog 28 [Hw An,Hl [bA]] (.lit (.tuple #[.bool true,.int .i64 0])):=by
 obtain⟨_,rfl,hA⟩:=wO
 exact hA
theorem Aca:∃r,r=AV.lit (.tuple #[.int .i64 0,.bool true,.int .i64 0])/\AF Tryz.prog 53 [Hw An,Hl [Gl]] r:=by
 refine Bz func53 rfl ?_
 exact Ab 12 (gs (Aj Gp ·) (Ab 3 (gs (Aj gp2 ·) (Ab 7 (gs (aS 0 ·) (Ab 4 (aI func90 (Ab 14 (gs (Kt 1 ·) (Ab 22 (gs (Dm 0 1 ·) (Ab 1 (yR func91 (Ab 10 (gs (Aj gl2 ·) (Ab 5 (Ha (Ab 15 (Ha (Ab 6 (gs (Cc (.int (max 0 0)) .none (Ja (.const (.int .i64 0)) (.tmp 19) #[3,3] κ 0 0 κ κ) ·) (Ab 8 (Jl (r:= .lit (.tuple #[.int .i64 0,.bool true,.int .i64 0])) rfl)))))))))))))))))))))))
theorem Afo:AF Tryz.prog 53 [Hw An,Hl [Gl]] (.lit (.tuple #[.int .i64 0,.bool true,.int .i64 0])):=by
 obtain⟨_,rfl,hA⟩:=Aca
 exact hA
theorem wP:∃r,r=AV.lit (.tuple #[.bool false,.int .i64 0])/\AF Tryz.prog 28 [Hw An,Hl [Gl]] r:=by
 refine Bz func28 rfl ?_
 exact Ab 11 (gs (Aj Afo ·) (Ab 23 (Jl (r:= .lit (.tuple #[.bool false,.int .i64 0])) rfl)))
theorem Acd:AF Tryz.prog 28 [Hw An,Hl [Gl]] (.lit (.tuple #[.bool false,.int .i64 0])):=by
 obtain⟨_,rfl,hA⟩:=wP
 exact hA
theorem Acb:∃r,r=AV.lit (.tuple #[.int .i64 0,.bool false,.int .i64 0])/\AF Tryz.prog 53 [Hw An,Hl [So]] r:=by
 refine Bz func53 rfl ?_
 exact Ab 12 (gs (Aj Gp ·) (Ab 3 (gs (Aj gp3 ·) (Ab 7 (gs (aS 0 ·) (Ab 4 (aI func90 (Ab 14 (gs (Kt 1 ·) (Ab 22 (gs (Dm 0 1 ·) (Ab 1 (yR func91 (Ab 10 (gs (Aj gl3 ·) (Ab 5 (Ha (Ab 29 (Ha (Ab 6 (gs (Cc (.int (max 0 (-1))) .none (Ja (.const (.int .i64 0)) (.tmp 19) #[3,3] κ 0 (-1) κ κ) ·) (Ab 8 (Jl (r:= .lit (.tuple #[.int .i64 0,.bool false,.int .i64 0])) rfl)))))))))))))))))))))))
theorem Afp:AF Tryz.prog 53 [Hw An,Hl [So]] (.lit (.tuple #[.int .i64 0,.bool false,.int .i64 0])):=by
 obtain⟨_,rfl,hA⟩:=Acb
 exact hA
theorem wQ:∃r,r=AV.lit (.tuple #[.bool true,.int .i64 0])/\AF Tryz.prog 28 [Hw An,Hl [So]] r:=by
 refine Bz func28 rfl ?_
 exact Ab 11 (gs (Aj Afp ·) (Ab 23 (Jl (r:= .lit (.tuple #[.bool true,.int .i64 0])) rfl)))
theorem Ace:AF Tryz.prog 28 [Hw An,Hl [So]] (.lit (.tuple #[.bool true,.int .i64 0])):=by
 obtain⟨_,rfl,hA⟩:=wQ
 exact hA
theorem Afq:∃r,r=AV.lit (.tuple #[.bool true,.int .i64 0])/\AF Tryz.prog 26 [Hw An,.lit (.agg #[.int .i64 300,.int .i64 300,.int .i64 0]),.lit (.agg #[.int .i64 399,.int .i64 500,.int .i64 500])] r:=by
 refine Bz func26 rfl ?_
 exact Ab 13 (gs (Aj Gp ·) (Ab 3 (gs (Aj (Dt ⟨300,300,0⟩ δ) ·) (Ab 4 (gs (Aj (Dt ⟨399,500,500⟩ δ) ·) (Ab 34 (gs (Aj (Ia ⟨⟨300,300,0⟩,⟨399,500,500⟩⟩ (by decide+kernel)) ·) (Ab 5 (Jl (r:= .lit (.tuple #[.bool true,.int .i64 0])) rfl)))))))))
theorem AhF:AF Tryz.prog 26 [Hw An,.lit (.agg #[.int .i64 300,.int .i64 300,.int .i64 0]),.lit (.agg #[.int .i64 399,.int .i64 500,.int .i64 500])] (.lit (.tuple #[.bool true,.int .i64 0])):=by
 obtain⟨_,rfl,hA⟩:=Afq
 exact hA
theorem Afr:∃r,r=AV.lit (.tuple #[.bool false,.int .i64 0])/\AF Tryz.prog 26 [Hw An,.lit (.agg #[.int .i64 300,.int .i64 300,.int .i64 0]),.lit (.agg #[.int .i64 400,.int .i64 500,.int .i64 500])] r:=by
 refine Bz func26 rfl ?_
 exact Ab 13 (gs (Aj Gp ·) (Ab 3 (gs (Aj (Dt ⟨300,300,0⟩ δ) ·) (Ab 4 (gs (Aj (Dt ⟨400,500,500⟩ δ) ·) (Ab 34 (gs (Aj (Gn ⟨⟨300,300,0⟩,⟨400,500,500⟩⟩ δ δ) ·) (Ab 5 (Jl (r:= .lit (.tuple #[.bool false,.int .i64 0])) rfl)))))))))
theorem AhG:AF Tryz.prog 26 [Hw An,.lit (.agg #[.int .i64 300,.int .i64 300,.int .i64 0]),.lit (.agg #[.int .i64 400,.int .i64 500,.int .i64 500])] (.lit (.tuple #[.bool false,.int .i64 0])):=by
 obtain⟨_,rfl,hA⟩:=Afr
 exact hA
theorem Afs:∃r,r=AV.lit (.tuple #[.bool false,.int .i64 0])/\AF Tryz.prog 26 [Hw An,.lit (.agg #[.int .i64 300,.int .i64 300,.int .i64 0]),.lit (.agg #[.int .i64 399,.int .i64 500,.int .i64 501])] r:=by
 refine Bz func26 rfl ?_
 exact Ab 13 (gs (Aj Gp ·) (Ab 3 (gs (Aj (Dt ⟨300,300,0⟩ δ) ·) (Ab 4 (gs (Aj (Dt ⟨399,500,501⟩ δ) ·) (Ab 34 (gs (Aj (zW ⟨⟨300,300,0⟩,⟨399,500,501⟩⟩ δ) ·) (Ab 5 (Jl (r:= .lit (.tuple #[.bool false,.int .i64 0])) rfl)))))))))
theorem AhH:AF Tryz.prog 26 [Hw An,.lit (.agg #[.int .i64 300,.int .i64 300,.int .i64 0]),.lit (.agg #[.int .i64 399,.int .i64 500,.int .i64 501])] (.lit (.tuple #[.bool false,.int .i64 0])):=by
 obtain⟨_,rfl,hA⟩:=Afs
 exact hA
theorem Af8 (d k:Nat) (b:Bx) (h:rG wZ d k b):Mx wZ d k=b:=h.2.2.2.2
theorem jB (d k:Nat) (b:Bx) (h:rG wZ d k b) (hd:d<=8) (hk:k<2^d):AF Tryz.prog 6 [Dp wZ,.int (d:Int),.int (k:Int)] (.lit (.tuple #[.agg #[.int .i64 b.lo.x,.int .i64 b.lo.y,.int .i64 b.lo.z],.agg #[.int .i64 b.hi.x,.int .i64 b.hi.y,.int .i64 b.hi.z],.int .i64 0])):=by
 have h9:=jA wZ Aib Aic d k hd hk
 rw[Af8 d k b h] at h9
 exact h9
theorem Ng:AF Tryz.prog 27 [] (Hw An):=by
 refine Ai func27 rfl λB D0 hA0=>?_
 refine Aa 7 (Aj (Bu 0 0 0) (Aj (Bu 1000 0 0) (Aj (Bu 1000 1000 0) (Aj (Bu 0 1000 0) (Iu 1 30 3 4 (λxi=>[.lit (.agg #[.int .i64 0,.int .i64 0,.int .i64 0]),.lit (.agg #[.int .i64 1000,.int .i64 0,.int .i64 0]),.lit (.agg #[.int .i64 1000,.int .i64 1000,.int .i64 0]),.lit (.agg #[.int .i64 0,.int .i64 1000,.int .i64 0])].getD xi .top) ?_)))))
 refine Sp 1 30 3 4 (λxi=>[.lit (.agg #[.int .i64 0,.int .i64 0,.int .i64 0]),.lit (.agg #[.int .i64 1000,.int .i64 0,.int .i64 0]),.lit (.agg #[.int .i64 1000,.int .i64 1000,.int .i64 0]),.lit (.agg #[.int .i64 0,.int .i64 1000,.int .i64 0])].getD xi .top) (λxi=>Bj (Acf xi)) (λx9 hx9=>(by match x9,hx9 with|0,_=>rfl|1,_=>rfl|2,_=>rfl|3,_=>rfl|_+4,h=>exact absurd h ω)) (mO 1 [5] 30 3 4 (λxi=>Bj (Acf xi)) (Bi λ_ _=>rfl) (Aj (Bu 400 400 0) (Aj (Bu 600 400 0) (Aj (Bu 600 600 0) (Aj (Bu 400 600 0) (Iu 2 30 3 4 (λxi=>[.lit (.agg #[.int .i64 400,.int .i64 400,.int .i64 0]),.lit (.agg #[.int .i64 600,.int .i64 400,.int .i64 0]),.lit (.agg #[.int .i64 600,.int .i64 600,.int .i64 0]),.lit (.agg #[.int .i64 400,.int .i64 600,.int .i64 0])].getD xi .top) ?_))))))
 refine Sp 2 30 3 4 (λxi=>[.lit (.agg #[.int .i64 400,.int .i64 400,.int .i64 0]),.lit (.agg #[.int .i64 600,.int .i64 400,.int .i64 0]),.lit (.agg #[.int .i64 600,.int .i64 600,.int .i64 0]),.lit (.agg #[.int .i64 400,.int .i64 600,.int .i64 0])].getD xi .top) (λxi=>Bj (Er xi)) (λx9 hx9=>(by match x9,hx9 with|0,_=>rfl|1,_=>rfl|2,_=>rfl|3,_=>rfl|_+4,h=>exact absurd h ω)) (mO 2 [10] 30 3 4 (λxi=>Bj (Er xi)) (Bi λ_ _=>rfl) (Iu 3 61 1 1 (λ_=>Bs Ci) ?_))
 exact Sp 3 61 1 1 (λ_=>Bs Ci) (λ_=>Bs Ci) (λx9 hx9=>(by(obtain rfl:x9=0:=(ω));rfl)) (mO 3 [11] 61 1 1 (λ_=>Bs Ci) (Bi λ_ _=>rfl) (Aa 5 (Br)))
theorem AhO:∃r,r=AV.bool true/\AF Tryz.prog 12 [Dp wZ,.int 0,.int 0,.lit (.agg #[.int .i64 0,.int .i64 0,.int .i64 100]),.lit (.agg #[.int .i64 300,.int .i64 100,.int .i64 200])] r:=by
 refine Bz func12 rfl ?_
 exact Ab 13 (gs (Aj (jB 0 0 ⟨⟨0,0,100⟩,⟨300,100,200⟩⟩ (Fj wZ 0 0 ⟨⟨0,0,100⟩,⟨300,100,200⟩⟩ (by decide+kernel)) δ δ) ·) (Ab 18 (gs (Cc (.bool true) .none (Dh (Hs 30 30 (.tmp 25) (.tmp 26) κ _ _ κ κ κ (decide ((0:Int)=0/\(0:Int)=0/\(100:Int)=100)) (Na _ _ _ _ _ _)) (show (decide ((0:Int)=0/\(0:Int)=0/\(100:Int)=100):Bool)=true from by decide)) ·) (Ab 4 (gs (Cc (.bool true) .none (Dh (Hs 30 30 (.tmp 30) (.tmp 31) κ _ _ κ κ κ (decide ((300:Int)=300/\(100:Int)=100/\(200:Int)=200)) (Na _ _ _ _ _ _)) (show (decide ((300:Int)=300/\(100:Int)=100/\(200:Int)=200):Bool)=true from by decide)) ·) (Ab 5 (Jl (r:= .bool true) rfl)))))))
theorem Aj5:AF Tryz.prog 12 [Dp wZ,.int 0,.int 0,.lit (.agg #[.int .i64 0,.int .i64 0,.int .i64 100]),.lit (.agg #[.int .i64 300,.int .i64 100,.int .i64 200])] (.bool true):=by
 obtain⟨_,rfl,hA⟩:=AhO
 exact hA
theorem AhP:∃r,r=AV.bool true/\AF Tryz.prog 12 [Dp wZ,.int 2,.int 3,.lit (.agg #[.int .i64 225,.int .i64 75,.int .i64 175]),.lit (.agg #[.int .i64 300,.int .i64 100,.int .i64 200])] r:=by
 refine Bz func12 rfl ?_
 exact Ab 13 (gs (Aj (jB 2 3 ⟨⟨225,75,175⟩,⟨300,100,200⟩⟩ (Fj wZ 2 3 ⟨⟨225,75,175⟩,⟨300,100,200⟩⟩ (by decide+kernel)) δ δ) ·) (Ab 18 (gs (Cc (.bool true) .none (Dh (Hs 30 30 (.tmp 25) (.tmp 26) κ _ _ κ κ κ (decide ((225:Int)=225/\(75:Int)=75/\(175:Int)=175)) (Na _ _ _ _ _ _)) (show (decide ((225:Int)=225/\(75:Int)=75/\(175:Int)=175):Bool)=true from by decide)) ·) (Ab 4 (gs (Cc (.bool true) .none (Dh (Hs 30 30 (.tmp 30) (.tmp 31) κ _ _ κ κ κ (decide ((300:Int)=300/\(100:Int)=100/\(200:Int)=200)) (Na _ _ _ _ _ _)) (show (decide ((300:Int)=300/\(100:Int)=100/\(200:Int)=200):Bool)=true from by decide)) ·) (Ab 5 (Jl (r:= .bool true) rfl)))))))
theorem Aj6:AF Tryz.prog 12 [Dp wZ,.int 2,.int 3,.lit (.agg #[.int .i64 225,.int .i64 75,.int .i64 175]),.lit (.agg #[.int .i64 300,.int .i64 100,.int .i64 200])] (.bool true):=by
 obtain⟨_,rfl,hA⟩:=AhP
 exact hA
theorem Afy:∃r,r=AV.bool true/\AF Tryz.prog 13 [.lit (.agg #[.int .i64 300,.int .i64 300,.int .i64 0]),.lit (.agg #[.int .i64 399,.int .i64 500,.int .i64 500]),.bool true] r:=by
 refine Bz func13 rfl ?_
 exact Ab 8 (gs (Be [(0,_,.none),(3,_,.none)] [2,7,8] ⟨Am Ng,Am AhF,trivial⟩ ·) (Ab 8 (gs (λh9=>Dx (.bool (decide (true=true))) (.bool true) h9 (congrArg Value.bool (decide_eq_true δ))) (Ab 5 (Jl (r:= .bool true) rfl)))))
theorem AhQ:AF Tryz.prog 13 [.lit (.agg #[.int .i64 300,.int .i64 300,.int .i64 0]),.lit (.agg #[.int .i64 399,.int .i64 500,.int .i64 500]),.bool true] (.bool true):=by
 obtain⟨_,rfl,hA⟩:=Afy
 exact hA
theorem Afz:∃r,r=AV.bool true/\AF Tryz.prog 13 [.lit (.agg #[.int .i64 300,.int .i64 300,.int .i64 0]),.lit (.agg #[.int .i64 400,.int .i64 500,.int .i64 500]),.bool false] r:=by
 refine Bz func13 rfl ?_
 exact Ab 8 (gs (Be [(0,_,.none),(3,_,.none)] [2,7,8] ⟨Am Ng,Am AhG,trivial⟩ ·) (Ab 8 (gs (λh9=>Dx (.bool (decide (false=false))) (.bool true) h9 (congrArg Value.bool (decide_eq_true δ))) (Ab 5 (Jl (r:= .bool true) rfl)))))
theorem AhR:AF Tryz.prog 13 [.lit (.agg #[.int .i64 300,.int .i64 300,.int .i64 0]),.lit (.agg #[.int .i64 400,.int .i64 500,.int .i64 500]),.bool false] (.bool true):=by
 obtain⟨_,rfl,hA⟩:=Afz
 exact hA
theorem Af0:∃r,r=AV.bool true/\AF Tryz.prog 13 [.lit (.agg #[.int .i64 300,.int .i64 300,.int .i64 0]),.lit (.agg #[.int .i64 399,.int .i64 500,.int .i64 501]),.bool false] r:=by
 refine Bz func13 rfl ?_
 exact Ab 8 (gs (Be [(0,_,.none),(3,_,.none)] [2,7,8] ⟨Am Ng,Am AhH,trivial⟩ ·) (Ab 8 (gs (λh9=>Dx (.bool (decide (false=false))) (.bool true) h9 (congrArg Value.bool (decide_eq_true δ))) (Ab 5 (Jl (r:= .bool true) rfl)))))
theorem AhS:AF Tryz.prog 13 [.lit (.agg #[.int .i64 300,.int .i64 300,.int .i64 0]),.lit (.agg #[.int .i64 399,.int .i64 500,.int .i64 501]),.bool false] (.bool true):=by
 obtain⟨_,rfl,hA⟩:=Af0
 exact hA
theorem Aj7:∃r,r=AV.bool true/\AF Tryz.prog 14 [.lit (.agg #[.int .i64 100,.int .i64 100,.int .i64 100]),.lit (.agg #[.int .i64 900,.int .i64 100,.int .i64 100]),.bool true] r:=by
 refine Bz func14 rfl ?_
 exact Ab 8 (gs (Be [(0,_,.none),(3,_,.none),(4,.osl 2 6 1,(.new 2 (.vec 24 6 1 (λxi=>Dp ([bA].getD xi Sg.none))))),(5,.lit (.tuple #[.bool true,.int .i64 0]),(.read 2))] [2,7,8] ⟨Am Ng,Am (Qs ⟨100,100,100⟩ ⟨900,100,100⟩ δ δ δ),Bo (Dj 27 1 #[(0,(.tmp 13))] κ underlying27 6 sizeOf24 _ zeroValue24 κ β β β 2 [.int bA.f,.int bA.t,.int bA.o,Af bA.x,Af bA.y,Af bA.z] κ (λxi=>Dp ([bA].getD xi Sg.none)) κ),Bo (Jr 28 #[.tmp 10,.tmp 14] #[64,27] κ (λ_ _=>by kernel_rfl) 2 (.vec 24 6 1 (λxi=>Dp ([bA].getD xi Sg.none))) κ (λ_ _ _ _ h=>by cases h;exact(Bi λ_ _=>rfl)) [Hw An,.osl 2 6 1] κ [Hw An,Hl [bA]] κ (.tuple #[.bool true,.int .i64 0]) Acc),trivial⟩ ·) (Ab 8 (gs (λh9=>Dx (.bool (decide (true=true))) (.bool true) h9 (congrArg Value.bool (decide_eq_true δ))) (Ab 5 (Jl (r:= .bool true) rfl)))))
theorem Ak4:AF Tryz.prog 14 [.lit (.agg #[.int .i64 100,.int .i64 100,.int .i64 100]),.lit (.agg #[.int .i64 900,.int .i64 100,.int .i64 100]),.bool true] (.bool true):=by
 obtain⟨_,rfl,hA⟩:=Aj7
 exact hA
theorem Aj8:∃r,r=AV.bool true/\AF Tryz.prog 14 [.lit (.agg #[.int .i64 100,.int .i64 100,.int .i64 100]),.lit (.agg #[.int .i64 900,.int .i64 900,.int .i64 100]),.bool false] r:=by
 refine Bz func14 rfl ?_
 exact Ab 8 (gs (Be [(0,_,.none),(3,_,.none),(4,.osl 2 6 1,(.new 2 (.vec 24 6 1 (λxi=>Dp ([Gl].getD xi Sg.none))))),(5,.lit (.tuple #[.bool false,.int .i64 0]),(.read 2))] [2,7,8] ⟨Am Ng,Am (Qs ⟨100,100,100⟩ ⟨900,900,100⟩ δ δ δ),Bo (Dj 27 1 #[(0,(.tmp 13))] κ underlying27 6 sizeOf24 _ zeroValue24 κ β β β 2 [.int Gl.f,.int Gl.t,.int Gl.o,Af Gl.x,Af Gl.y,Af Gl.z] κ (λxi=>Dp ([Gl].getD xi Sg.none)) κ),Bo (Jr 28 #[.tmp 10,.tmp 14] #[64,27] κ (λ_ _=>by kernel_rfl) 2 (.vec 24 6 1 (λxi=>Dp ([Gl].getD xi Sg.none))) κ (λ_ _ _ _ h=>by cases h;exact(Bi λ_ _=>rfl)) [Hw An,.osl 2 6 1] κ [Hw An,Hl [Gl]] κ (.tuple #[.bool false,.int .i64 0]) Acd),trivial⟩ ·) (Ab 8 (gs (λh9=>Dx (.bool (decide (false=false))) (.bool true) h9 (congrArg Value.bool (decide_eq_true δ))) (Ab 5 (Jl (r:= .bool true) rfl)))))
theorem Ak5:AF Tryz.prog 14 [.lit (.agg #[.int .i64 100,.int .i64 100,.int .i64 100]),.lit (.agg #[.int .i64 900,.int .i64 900,.int .i64 100]),.bool false] (.bool true):=by
 obtain⟨_,rfl,hA⟩:=Aj8
 exact hA
theorem Aj9:∃r,r=AV.bool true/\AF Tryz.prog 14 [.lit (.agg #[.int .i64 100,.int .i64 450,.int .i64 100]),.lit (.agg #[.int .i64 550,.int .i64 950,.int .i64 100]),.bool true] r:=by
 refine Bz func14 rfl ?_
 exact Ab 8 (gs (Be [(0,_,.none),(3,_,.none),(4,.osl 2 6 1,(.new 2 (.vec 24 6 1 (λxi=>Dp ([So].getD xi Sg.none))))),(5,.lit (.tuple #[.bool true,.int .i64 0]),(.read 2))] [2,7,8] ⟨Am Ng,Am (Qs ⟨100,450,100⟩ ⟨550,950,100⟩ δ δ δ),Bo (Dj 27 1 #[(0,(.tmp 13))] κ underlying27 6 sizeOf24 _ zeroValue24 κ β β β 2 [.int So.f,.int So.t,.int So.o,Af So.x,Af So.y,Af So.z] κ (λxi=>Dp ([So].getD xi Sg.none)) κ),Bo (Jr 28 #[.tmp 10,.tmp 14] #[64,27] κ (λ_ _=>by kernel_rfl) 2 (.vec 24 6 1 (λxi=>Dp ([So].getD xi Sg.none))) κ (λ_ _ _ _ h=>by cases h;exact(Bi λ_ _=>rfl)) [Hw An,.osl 2 6 1] κ [Hw An,Hl [So]] κ (.tuple #[.bool true,.int .i64 0]) Ace),trivial⟩ ·) (Ab 8 (gs (λh9=>Dx (.bool (decide (true=true))) (.bool true) h9 (congrArg Value.bool (decide_eq_true δ))) (Ab 5 (Jl (r:= .bool true) rfl)))))
theorem Ak6:AF Tryz.prog 14 [.lit (.agg #[.int .i64 100,.int .i64 450,.int .i64 100]),.lit (.agg #[.int .i64 550,.int .i64 950,.int .i64 100]),.bool true] (.bool true):=by
 obtain⟨_,rfl,hA⟩:=Aj9
 exact hA
theorem jE:∃r,r=AV.bool true/\AF Tryz.prog 5 [] r:=by
 refine Bz func5 rfl ?_
 exact Ab 7 (gs (Aj (Bu 0 0 100) ·) (gs (Aj (Bu 300 100 200) ·) (gs (Aj (Qs ⟨0,0,100⟩ ⟨300,100,200⟩ δ δ δ) ·) (Ab 6 (gs (Be [(1,_,.none),(2,_,.none),(3,_,.none),(7,_,.none),(8,_,.none),(9,_,.none)] [16] ⟨Am (Bu 0 0 100),Am (Bu 300 100 200),Am Aj5,Am (Bu 225 75 175),Am (Bu 300 100 200),Am Aj6,trivial⟩ ·) (Ab 7 (gs (Aj (Bu 300 300 0) ·) (gs (Aj (Bu 399 500 500) ·) (gs (Aj AhQ ·) (Ab 2 (gs (Aj (Bu 300 300 0) ·) (gs (Aj (Bu 400 500 500) ·) (gs (Aj AhR ·) (Ab 3 (gs (Aj (Bu 300 300 0) ·) (gs (Aj (Bu 399 500 501) ·) (gs (Aj AhS ·) (Ab 9 (gs (Aj (Bu 100 100 100) ·) (gs (Aj (Bu 900 100 100) ·) (gs (Aj Ak4 ·) (Ab 1 (gs (Aj (Bu 100 100 100) ·) (gs (Aj (Bu 900 900 100) ·) (gs (Aj Ak5 ·) (Ab 2 (gs (Aj (Bu 100 450 100) ·) (gs (Aj (Bu 550 950 100) ·) (gs (Aj Ak6 ·) (Ab 5 (Jl (r:= .bool true) rfl)))))))))))))))))))))))))))))))
theorem Jn:AF Tryz.prog 5 [] (.bool true):=by
 obtain⟨_,rfl,hA⟩:=jE
 exact hA
theorem AfW {d u:Nat} (hd:d<=8) (hu:u<2^d):Jo (d:Int) (u:Int):=⟨ω,ω,ω,by rw[Int.toNat_natCast];omega⟩
theorem eP (s:Sg):AF Tryz.prog 4 [.sl 6 1 λ_=>Dp s,.int 1] (.bool (decide (s.x.length<=8/\s.y.length<=8/\s.z.length<=8))):=by
 refine Ai func4 rfl λB D0 hA0=>?_
 refine Aa 12 (Kt 1 (Aa 23 (Dm 0 1 (Aa 5 (Cu 24 ((8:Int)<(s.x.length:Int)) (λhx1 hx1d=>?_) (λhx1 hx1d=>?_))))))
 ·
  exact Aa 31 (Ch (.bool false) (congrArg AV.bool (decide_eq_false ω).symm))
 ·
  refine Aa 2 (Dm 0 1 (Aa 6 (Cu 33 ((8:Int)<(s.y.length:Int)) (λhx2 hx2d=>?_) (λhx2 hx2d=>?_))))
  ·
   exact Aa 22 (Ch (.bool false) (congrArg AV.bool (decide_eq_false ω).symm))
  ·
   refine Aa 2 (Dm 0 1 (Aa 7 (Cu 41 ((8:Int)<(s.z.length:Int)) (λhx3 hx3d=>?_) (λhx3 hx3d=>?_))))
   ·
    exact Aa 12 (Ch (.bool false) (congrArg AV.bool (decide_eq_false ω).symm))
   ·
    exact Aa 6 (Dx (.int .i64 1) (.int .i64 1) (Aa 33 (Ch (.bool true) (congrArg AV.bool (decide_eq_true ω).symm))))
theorem AhT (s:Sg) (hs:Jj s) (h:¬Gm s) (d k:Int):AF Tryz.prog 3 [Dp s,.int d,.int k] (.bool true):=by
 refine Ai func3 rfl λB D0 hA0=>?_
 refine Aa 10 (Iu 1 24 6 1 (λ_=>Dp s) ?_)
 refine Cc (.bool (decide (s.x.length<=8/\s.y.length<=8/\s.z.length<=8))) (.read 1) (Jr 4 #[.tmp 13,(.const (.int .i64 1))] #[27,3] κ (λ_ _=>by kernel_rfl) 1 (.vec 24 6 1 (λ_=>Dp s)) κ (λ_ _ _ _ h=>by cases h;exact(Bi λ_ _=>rfl)) [.osl 1 6 1,.int 1] κ [.sl 6 1 (λ_=>Dp s),.int 1] κ (.bool (decide (s.x.length<=8/\s.y.length<=8/\s.z.length<=8))) (eP s)) (Aa 3 (qN 15 (s.x.length<=8/\s.y.length<=8/\s.z.length<=8) (λhx1 hx1d=>?_) (λhx1 hx1d=>?_)))
 ·
  exact Aa 8 (Aj (iZ s hs d k (λh9=>h h9.1)) (Aa 15 (Aj (by have h9:=Ro s hs;rwa [decide_eq_false h] at h9) (Aa 14 (Cc (.bool true) .none (Dh (Hs 30 30 (.tmp 34) (.tmp 35) κ _ _ κ κ κ (decide ((0:Int)=0/\(0:Int)=0/\(0:Int)=0)) (Na _ _ _ _ _ _)) (show (decide ((0:Int)=0/\(0:Int)=0/\(0:Int)=0):Bool)=true from by decide)) (Aa 3 (Cc (.bool true) .none (Dh (Hs 30 30 (.tmp 38) (.tmp 39) κ _ _ κ κ κ (decide ((0:Int)=0/\(0:Int)=0/\(0:Int)=0)) (Na _ _ _ _ _ _)) (show (decide ((0:Int)=0/\(0:Int)=0/\(0:Int)=0):Bool)=true from by decide)) (Aa 6 (Aj Jn (Aa 6 (Br)))))))))))
 ·
  exact Aa 3 (Aj Jn (Aa 5 (Br)))
theorem AhU (s:Sg) (hs:Jj s) (h:Gm s) (d k:Int) (p:¬Jo d k):AF Tryz.prog 3 [Dp s,.int d,.int k] (.bool true):=by
 refine Ai func3 rfl λB D0 hA0=>?_
 refine Aa 10 (Iu 1 24 6 1 (λ_=>Dp s) ?_)
 refine Cc (.bool (decide (s.x.length<=8/\s.y.length<=8/\s.z.length<=8))) (.read 1) (Jr 4 #[.tmp 13,(.const (.int .i64 1))] #[27,3] κ (λ_ _=>by kernel_rfl) 1 (.vec 24 6 1 (λ_=>Dp s)) κ (λ_ _ _ _ h=>by cases h;exact(Bi λ_ _=>rfl)) [.osl 1 6 1,.int 1] κ [.sl 6 1 (λ_=>Dp s),.int 1] κ (.bool (decide (s.x.length<=8/\s.y.length<=8/\s.z.length<=8))) (eP s)) (Aa 3 (qN 15 (s.x.length<=8/\s.y.length<=8/\s.z.length<=8) (λhx1 hx1d=>?_) (λhx1 hx1d=>?_)))
 ·
  exact Aa 8 (Aj (iZ s hs d k (λh9=>p h9.2)) (Aa 15 (Aj (by have h9:=Ro s hs;rwa [decide_eq_true h] at h9) (Aa 4 (Aj (by have h9:=cI d k;rwa [decide_eq_false p] at h9) (Aa 9 (Cc (.bool true) .none (Dh (Hs 30 30 (.tmp 34) (.tmp 35) κ _ _ κ κ κ (decide ((0:Int)=0/\(0:Int)=0/\(0:Int)=0)) (Na _ _ _ _ _ _)) (show (decide ((0:Int)=0/\(0:Int)=0/\(0:Int)=0):Bool)=true from by decide)) (Aa 3 (Cc (.bool true) .none (Dh (Hs 30 30 (.tmp 38) (.tmp 39) κ _ _ κ κ κ (decide ((0:Int)=0/\(0:Int)=0/\(0:Int)=0)) (Na _ _ _ _ _ _)) (show (decide ((0:Int)=0/\(0:Int)=0/\(0:Int)=0):Bool)=true from by decide)) (Aa 6 (Aj Jn (Aa 6 (Br)))))))))))))
 ·
  exact Aa 3 (Aj Jn (Aa 5 (Br)))
theorem AhV (s:Sg) (hs:Jj s) (h:Gm s) (d u:Nat) (hd:d<=8) (hu:u<2^d):AF Tryz.prog 3 [Dp s,.int (d:Int),.int (u:Int)] (.bool true):=by
 refine Ai func3 rfl λB D0 hA0=>?_
 refine Aa 10 (Iu 1 24 6 1 (λ_=>Dp s) ?_)
 refine Cc (.bool (decide (s.x.length<=8/\s.y.length<=8/\s.z.length<=8))) (.read 1) (Jr 4 #[.tmp 13,(.const (.int .i64 1))] #[27,3] κ (λ_ _=>by kernel_rfl) 1 (.vec 24 6 1 (λ_=>Dp s)) κ (λ_ _ _ _ h=>by cases h;exact(Bi λ_ _=>rfl)) [.osl 1 6 1,.int 1] κ [.sl 6 1 (λ_=>Dp s),.int 1] κ (.bool (decide (s.x.length<=8/\s.y.length<=8/\s.z.length<=8))) (eP s)) (Aa 3 (qN 15 (s.x.length<=8/\s.y.length<=8/\s.z.length<=8) (λhx1 hx1d=>?_) (λhx1 hx1d=>?_)))
 ·
  exact Aa 8 (Aj (jA s hs h d u hd hu) (Aa 15 (Aj (by have h9:=Ro s hs;rwa [decide_eq_true h] at h9) (Aa 4 (Aj (by have h9:=cI (d:Int) (u:Int);rwa [decide_eq_true (AfW hd hu)] at h9) (Aa 12 (Aj (zO s hs h d u hd hu) (Aa 16 (Cc (.bool true) .none (Dh (Hs 30 30 (.tmp 59) (.tmp 60) κ _ _ κ κ κ (decide ((Mx s d u).lo.x=(Gi s.x s.o d u)/\(Mx s d u).lo.y=(Gi s.y s.o d u)/\(Mx s d u).lo.z=(Gi s.z s.o d u))) (Na _ _ _ _ _ _)) (show (decide ((Mx s d u).lo.x=(Gi s.x s.o d u)/\(Mx s d u).lo.y=(Gi s.y s.o d u)/\(Mx s d u).lo.z=(Gi s.z s.o d u)):Bool)=true from decide_eq_true ⟨rfl,rfl,rfl⟩)) (Aa 4 (Cc (.bool true) .none (Dh (Hs 30 30 (.tmp 64) (.tmp 65) κ _ _ κ κ κ (decide ((Mx s d u).hi.x=(-Eh s.x s.o d u)/\(Mx s d u).hi.y=(-Eh s.y s.o d u)/\(Mx s d u).hi.z=(-Eh s.z s.o d u))) (Na _ _ _ _ _ _)) (show (decide ((Mx s d u).hi.x=(-Eh s.x s.o d u)/\(Mx s d u).hi.y=(-Eh s.y s.o d u)/\(Mx s d u).hi.z=(-Eh s.z s.o d u)):Bool)=true from decide_eq_true ⟨rfl,rfl,rfl⟩)) (Aa 2 (Aj Jn (Aa 5 (Br)))))))))))))))
 ·
  exact Aa 3 (Aj Jn (Aa 5 (Br)))
theorem AjB (s:Sg) (hs:Jj s) (d k:Int):AF Tryz.prog 3 [Dp s,.int d,.int k] (.bool true):=by
 by_cases h:Gm s
 by_cases p:Jo d k
 obtain⟨p1,p2,p3,p4⟩:=p
 obtain⟨n,rfl⟩:∃n:Nat,d=(n:Int):=⟨d.toNat,ω⟩
 obtain⟨u,rfl⟩:∃u:Nat,k=(u:Int):=⟨k.toNat,ω⟩
 rw[Int.toNat_natCast] at p4
 exact AhV s hs h n u ω ω
 exact AhU s hs h d k p
 exact AhT s hs h d k
end Go.Proofs.YtbggmndaahbojaaGreat
namespace Go.Proofs.YtbggmndaahbojaaGreat.Open
open Go.ChangeShapes Go.WideShapes Go.ChangeAt Go.RowKit Go.Deep
section
variable {H:Type} {enc:TypeId×Value->H} {W:World}
def Ajr (W:World) (x:AV) (v:Value):Prop:=∀E:Ap,E.w=W->(∀b,b<W.heap.size->E.D b)->VR E x v
end
end Go.Proofs.YtbggmndaahbojaaGreat.Open
namespace Go.Proofs.YtbggmndaahbojaaGreat.Open
open Go.ChangeShapes Go.WideShapes Go.ChangeAt Go.RowKit Go.Deep
section
variable {H:Type} {enc:TypeId×Value->H} {W:World}
theorem AeZ:Tryz.prog.cellsOf 22=1:=κ
theorem Aju:Tryz.prog.cellsOf 24=6:=κ
theorem Uz {a0:Option Addr} {l0 c0 fuel:Nat} {y:DataW H×List MemPlace} (h:DataW.trod enc Tryz.prog W 0 (λ_=>true) true fuel 22 [.slice a0 l0 c0]=some y):∃l:List Int,(∀i,Bg (l.getD i 0))/\Ajr W (Af l) (.slice a0 l0 c0):=by
 obtain⟨lh,g1,g2,g3,_⟩:=xP Tryz.underlying22 AgI δ h
 obtain⟨Hm,H1,H2⟩:=sQ (cells:=λv:{x:Int//Bg x}=>[.int .i64 v.1]) lh (λcs hc=>by obtain⟨hl,n,y,ht⟩:=g2 cs hc;obtain⟨k,e,w⟩:=Ts ht;exact⟨⟨k,w⟩,e⟩)
 have hL:(Hm.map Subtype.val).length=l0:=by rw[List.length_map];omega
 have e:Hm.flatMap (λv:{x:Int//Bg x}=>[Value.int .i64 v.1])=(Hm.map Subtype.val).flatMap λx=>[.int .i64 x]:=by rw[List.flatMap_map]
 rw[H2,e] at g3
 generalize hm:Hm.map Subtype.val=l at*
 subst hL
 refine⟨l,λi=>?_,λE hw hD=>tR g3 hw (λb hb=>hD b hb.2) λi j hi hj=>?_⟩
 rw[<-hm,Γ,List.getElem?_map]
 rcases Nat.lt_or_ge i Hm.length with g|g
 rw[List.getElem?_eq_getElem g]
 exact Hm[i].2
 rw[List.getElem?_eq_none g]
 exact oV
 obtain rfl:j=0:=by omega
 have:=dJ (λx:Int=>[Value.int .i64 x]) 1 (λ_=>rfl) l i 0 0 hi ω
 rw[this]
 exact .lit _ _
theorem six {cs:Array Value} (h:cs.size=6):∃a b c d e f,cs=#[a,b,c,d,e,f]:=by
 match cs,h with
 |⟨[a,b,c,d,e,f]⟩,_=>exact⟨a,b,c,d,e,f,rfl⟩
theorem open_seg {v:Value} {d:DataW H} {p:List MemPlace} {base:Nat} (hv:Value.okWide Tryz.prog W .any base 24 v) (h:DataW.Trod enc Tryz.prog W 0 (λ_=>true) true 24 v d p):
  ∃s:Sg,Jj s/\Ajr W (Dp s) v:=by
 obtain⟨cs,rfl,hsz⟩:=okWide_struct Tryz.underlying24 hv
 obtain⟨a,b,c,e,f,g,rfl⟩:=six (hsz.trans Aju)
 obtain⟨fuel,hf⟩:=h
 obtain⟨m0,z0,h0⟩:=Jt (ty:=3) (off:=0) Tryz.underlying24 hf 0 (by rfl)
 obtain⟨m1,z1,h1⟩:=Jt (ty:=3) (off:=1) Tryz.underlying24 hf 1 (by rfl)
 obtain⟨m2,z2,h2⟩:=Jt (ty:=3) (off:=2) Tryz.underlying24 hf 2 (by rfl)
 obtain⟨m3,z3,h3⟩:=Jt (ty:=22) (off:=3) Tryz.underlying24 hf 3 (by rfl)
 obtain⟨m4,z4,h4⟩:=Jt (ty:=22) (off:=4) Tryz.underlying24 hf 4 (by rfl)
 obtain⟨m5,z5,h5⟩:=Jt (ty:=22) (off:=5) Tryz.underlying24 hf 5 (by rfl)
 simp only[AgI,AeZ] at h0 h1 h2 h3 h4 h5
 obtain⟨k0,e0,f0⟩:=Ts h0
 obtain⟨k1,e1,f1⟩:=Ts h1
 obtain⟨k2,e2,f2⟩:=Ts h2
 obtain rfl:a= .int .i64 k0:=by simpa [Value.cells] using e0
 obtain rfl:b= .int .i64 k1:=by simpa [Value.cells] using e1
 obtain rfl:c= .int .i64 k2:=by simpa [Value.cells] using e2
 obtain⟨a3,l3,c3,e3⟩:=Go.Joins.slice_form Tryz.underlying22 h3
 obtain⟨a4,l4,c4,e4⟩:=Go.Joins.slice_form Tryz.underlying22 h4
 obtain⟨a5,l5,c5,e5⟩:=Go.Joins.slice_form Tryz.underlying22 h5
 rw[e3] at h3
 rw[e4] at h4
 rw[e5] at h5
 obtain rfl:e= .slice a3 l3 c3:=by simpa [Value.cells] using e3
 obtain rfl:f= .slice a4 l4 c4:=by simpa [Value.cells] using e4
 obtain rfl:g= .slice a5 l5 c5:=by simpa [Value.cells] using e5
 obtain⟨x,hx,tx⟩:=Uz h3
 obtain⟨y,hy,ty⟩:=Uz h4
 obtain⟨z,hz,tz⟩:=Uz h5
 refine⟨⟨k0,k1,k2,x,y,z⟩,⟨f0,f1,f2,hx,hy,hz⟩,λE hw hD=> .agg _ _ _ rfl λi hi=>?_⟩
 have h6:i<6:=hi
 match i,h6 with
 |0,_=>exact .lit _ _
 |1,_=>exact .lit _ _
 |2,_=>exact .lit _ _
 |3,_=>exact tx E hw hD
 |4,_=>exact ty E hw hD
 |5,_=>exact tz E hw hD
end
end Go.Proofs.YtbggmndaahbojaaGreat.Open
namespace Go.Proofs.YtbggmndaahbojaaGreat.IB
open Go.ChangeShapes Go.WideShapes Go.ChangeAt Go.RowKit Go.Deep
theorem own:ownKnob Tryz.prog.godebug=none:=κ
theorem Af1:laidOutB Tryz.prog=true:=κ
theorem AhW (os:Os) (started:os.Started) (H:Type) (enc:TypeId×Value->H):
  ReturnsInHanded {} Tryz.checked os 3 .any (λw args=>Rows.insideBoxesSpec.pre enc Tryz.prog Tryz.f3 [] false w args/\sizedMet enc Tryz.prog Tryz.f3 (OpenSpec.ofChange Rows.insideBoxesSpec) false w args)
   (Rows.insideBoxesSpec.post enc Tryz.prog Tryz.f3 false true false false):=by
 refine returnsInHanded_of_change (C:=Tryz.checked) own started κ Tryz.func3
  (by
   obtain⟨w,tape,i,h1,h2,h3,h4,⟨⟨hp,_⟩,hs⟩,h5⟩:=ChangeSpec.witness_shaped (enc:=enc) (C:=Tryz.checked) (os:=os) (f:=3) (fn:=Tryz.f3) (s:=Rows.insideBoxesSpec) (conds:=[]) (apart:=false) (X:=λ_ _=>True) false (World.doorLaid Tryz.prog 400 os) #[.agg #[.int .i64 0,.int .i64 0,.int .i64 0,.slice none 0 0,.slice none 0 0,.slice none 0 0],.int .i64 0,.int .i64 0] 8 rfl (World.shaped_of_RefB κ κ) κ κ κ trivial
   exact⟨w,tape,i,h1,h2,h3,h4,⟨hp,hs⟩,h5⟩) ?_
 intro W base args ds gs before hval0 hW _ _
 have hval:∀(j:Nat) t v,Tryz.f3.params[j]?=some t->args[j]?=some v->Value.okWide Tryz.prog W .any base t v:=hval0
 have hW':=hW
 obtain⟨p,q,hA0,hV,rfl,hfz,hnd⟩:=hW
 have hA:DataW.TrodAll enc Tryz.prog W 0 (λ_=>true) true Tryz.f3.params.toList args.toList ds p:=hA0
 rw[Tryz.params3] at hA hval
 obtain⟨v0,vs0,d0,ds0,p0,q0,hargs,rfl,rfl,h0,r0⟩:=trodAll_cons hA
 obtain⟨v1,vs1,d1,ds1,p1,q1,rfl,rfl,rfl,h1,r1⟩:=trodAll_cons r0
 obtain⟨v2,vs2,d2,ds2,p2,q2,rfl,rfl,rfl,h2,r2⟩:=trodAll_cons r1
 obtain⟨rfl,rfl,rfl⟩:=trodAll_nil r2
 obtain rfl:args=#[v0,v1,v2]:=by cases args;simp_all
 obtain⟨rfl,rfl⟩:=trodVars_none hV
 have k0:=h0
 have lt0:∀x∈p0,x.block<W.heap.size:=by obtain⟨m,hm⟩:=k0;exact DataW.trod_lt m _ _ _ hm
 obtain⟨sg,hz_sg,hr0⟩:=Open.open_seg (hval 0 24 v0 rfl rfl) h0
 obtain⟨dp,rfl,rfl,rfl,g_dp⟩:=open_int Tryz.underlying3 (hval 1 3 v1 rfl rfl) h1
 obtain⟨ix,rfl,rfl,rfl,g_ix⟩:=open_int Tryz.underlying3 (hval 2 3 v2 rfl rfl) h2
 clear hA0 hval0
 refine((AjB sg hz_sg dp ix).call W #[v0,.int .i64 dp,.int .i64 ix] rfl (λE hw hD i hi=>?_)).mono λe W' ⟨he,bel⟩=>?_
 have hn:i<3:=hi
 match i,hn with
 |0,_=>exact hr0 E hw hD
 |1,_=>exact .lit _ _
 |2,_=>exact .lit _ _
 subst he
 exact⟨_,rfl,_,_,_,[],_,[],hW',trodAll_mk1 (shut_bool Tryz.underlying4 _),(trodAll_cons_mk (Below.trod Af1 κ (of_decide_eq_true κ) k0 bel lt0) (trodAll_cons_mk (shut_int Tryz.underlying3 g_dp) (trodAll_cons_mk (shut_int Tryz.underlying3 g_ix) trodAll_mk0))),rfl,bel.frame _,λh=>by cases h⟩
theorem row_holds:Rows.InsideBoxesSaid:=
 OpenClaim.holds_of_wide 3 Tryz.f3 rfl rfl rfl rfl rfl rfl rfl ⟨rfl,rfl,rfl,rfl,rfl⟩ rfl rfl rfl rfl rfl κ Tryz.func3 κ
  (of_decide_eq_true κ) (by unfold Func.isWrapper;first|(rw[if_pos (by decide+kernel)];kernel_rfl)|(rw[if_neg (by decide+kernel)];exact⟨rfl,rfl⟩))
  (λos started H enc _=>AhW os started H enc)
end Go.Proofs.YtbggmndaahbojaaGreat.IB