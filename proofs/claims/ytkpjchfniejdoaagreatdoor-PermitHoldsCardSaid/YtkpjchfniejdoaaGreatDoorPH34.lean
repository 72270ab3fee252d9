/- Part 34 of the proof of PH.card_holds: no condition beyond the row's. -/
import Derived.Test.YtkpjchfniejdoaaGreatDoorPH33
set_option maxRecDepth 100000
set_option maxHeartbeats 40000000
namespace Go.Proofs.YtkpjchfniejdoaaGreatDoor
open Go.Proofs.Tryz
open Go.RowKit
theorem Qj (n:Int): -9223372036854775808<=Ai n:=by simp[Ai,IntKind.wrap,IntKind.bits,IntKind.signed];omega
theorem Qi (n:Int):Ai n<=9223372036854775807:=by simp[Ai,IntKind.wrap,IntKind.bits,IntKind.signed];omega
theorem Ado {f:Mh} (h0:Zz f) (h:gB (Pb f)=true) (k:Nat) (hk:k<f.hn+1):3<=(Cg f k).n:=by
 have:=(Ov (mH f h0)).2 (congrArg AV.bool h)
 cases k with
 |zero=>exact this.1
 |succ k=>exact this.2 k ω
def Ih (g:Nat->RQ) (n:Nat) (v:RQ):Nat->RQ:=λk=>if k<n then g k else v
theorem Uu {g:Nat->RQ} {n i:Nat} {v:RQ} (h:i<n):Ih g n v i=g i:=if_pos h
theorem Ut (g:Nat->RQ) (n:Nat) (v:RQ):Ih g n v (n+0)=v:=if_neg ω
theorem Aee:Wc ⟨⟨decide ((1:Int)<0),Cz 1⟩,⟨decide ((1:Int)<0),Cz 1⟩⟩:=⟨1,1,Eo δ δ,Eo δ δ,δ,rfl⟩
def Ao6 (g:Nat->RQ) (i:Nat) (v:RQ):Nat->RQ:=λk=>if k=i then v else g k
def Aoi (k:Nat):RQ:=if k=0 then ⟨_,iO⟩ else ⟨_,Aee⟩
theorem Adw (f:Mh) (a b:V3) (h0:Zz f):∃r,Ga [.one .b,.one .i] r/\AF Tryz.prog 132 [Jz f,Bg a,Bg b] r:=by
 have hfok:=h0
 have hn8:=h0.1
 have hn9:=h0.2.1
 refine Av func132 rfl ?_
 refine Ab 13 (gs (Ao (Vi f hfok) ·) (Ab 2 (AiT 24 (gB (Pb f)) (λhx1=>?_) (λhx1=>?_))))
 refine Ab 1 (gs (Ao (Lg a) ·) (Ab 3 (Ev 29 ?_ ?_)))
 exact Ab 15 (Bc)
 refine Ab 1 (gs (Ao (Lg b) ·) (Ab 4 (Ev 33 ?_ ?_)))
 exact Ab 9 (Bc)
 refine Ab 8 (Dx (eO f a h0) λv3 hv3=>(gs (Ao hv3 ·) (Ab 2 (Ev 38 ?_ ?_))))
 exact Ab 16 (Bc)
 refine Ab 2 (Dx (eO f b h0) λv5 hv5=>(gs (Ao hv5 ·) (Ab 4 (Ev 43 ?_ ?_))))
 exact Ab 9 (Bc)
 refine Ab 12 (tsh 8 49 false [3,4,5,6,7,55] ?_ (λhS6=>?_))
 refine Ab 5 (gs (Ao (Dh 1 δ δ) ·) (Ab 11 (gs (Oh 4 246 4 2 (λxi=>[.lit (.agg #[.bool false,.string ⟨#[]⟩,.bool (decide ((1:Int)<0)),.string (Cz (1:Int).natAbs)]),.lit (.agg #[.bool (decide ((1:Int)<0)),.string (Cz (1:Int).natAbs),.bool (decide ((1:Int)<0)),.string (Cz (1:Int).natAbs)])].getD xi .top) ·) (Ab 5 (gs (kM 4 246 4 2 (λxi=>[.lit (.agg #[.bool false,.string ⟨#[]⟩,.bool (decide ((1:Int)<0)),.string (Cz (1:Int).natAbs)]),.lit (.agg #[.bool (decide ((1:Int)<0)),.string (Cz (1:Int).natAbs),.bool (decide ((1:Int)<0)),.string (Cz (1:Int).natAbs)])].getD xi .top) (λxi=>Cu (Aoi xi).1) (λx9 hx9=>by(match x9,hx9 with|0,_=>rfl|1,_=>rfl|_+2,h=>exact absurd h ω)) ·) ?_)))))
 have hV:=Ado h0 hx1
 refine Ab 3 (cX func164 (Ab 13 (Ix (Ab 3 (gs (vnm [3,4,5,6,7,8,9,64] ·) (vW func213 λsp8 sp8p sp8a sp8b=>(Ab 9 (gs (Ao (Vi f hfok) ·) (Ab 3 (jD 9 (!(gB (Pb f))) false (nt hx1) (Ab 7 (gs (Oh 9 22 1 1 (λ_=>Cj f.o) ·) (Ab 2 (gs (Ci (.osl 10 1 (1+f.hn)) (.grow 9 10 (.vec 22 1 (1+f.hn) (λxi=>Cj (Cg f xi)))) (iB (.tmp 12) (.tmp 14) 23 κ underlying23 1 24 (.slice none 0 0) κ κ δ sizeOf22 1 f.hn (λ_=>Cj f.o) (λi0=>Cj (f.h i0)) (λxi=>Cj (Cg f xi)) 10 ω (by unfold maxLen;omega) (λi hi=>by(obtain rfl:i=0:=(ω));rfl) (λi hi=>by rw[Nat.add_comm];rfl) (λi hi j hj=>by obtain rfl:j=0:=(ω);rfl) 9 κ κ κ) ·) (Ab 5 (tfg [2,15,16,17] [(0,0),(1,1),(2,2),(3,3),(4,11),(5,5),(6,6),(7,7),(8,8),(10,10)] 12 [(246,4,2,(λxi=>Cu (Aoi xi).1)),(22,1,1+f.hn,(λxi=>Cj (Cg f xi)))] ⟨(Df λ_ _=>rfl),(Df λ_ _=>rfl),trivial⟩ (Vr [2,15,16,17] (λm s=>∃(i n:Nat) (g:Nat->RQ),m=f.hn+1-i/\(n<=2+128*i/\i<=f.hn+1)/\s=⟨[(2,.ptr 8 0),(15,.osl 10 1 (1+f.hn)),(16,.int ((1+f.hn:Nat):Int)),(17,.int (i:Int))],[(0,.box 25 [Cj f.o,hsA f,.int f.low,.int f.high]),(1,.box 33 [.int a.x,.int a.y,.int a.z]),(2,.box 33 [.int b.x,.int b.y,.int b.z]),(3,.box 197 [.bool (decide ((1:Int)<0)),.lit (.string (Cz (1:Int).natAbs))]),(11,.vec 246 4 n (λxi=>Cu (g xi).1)),(5,.box 256 [.osl 11 4 n]),(6,.box 25 [Cj f.o,hsA f,.int f.low,.int f.high]),(7,.loop .ready none sp8 [(3,.ptr 0 0),(4,.ptr 1 0),(5,.ptr 2 0),(6,.bool false),(7,.int 0),(8,.ptr 3 0),(9,.ptr 5 0),(64,.fn 213 [.ptr 6 0])] 131),(8,.box 163 [.yld 7]),(10,.vec 22 1 (1+f.hn) (λxi=>Cj (Cg f xi)))],12,43⟩) (f.hn+1-0) ⟨0,2,Aoi,rfl,⟨ω,ω⟩,κ⟩ ?_)))))))))))))))))
 rintro _ _ ⟨i,n,g,rfl,hF,rfl⟩ hJ1
 have hn1:=AaY h0 i
 have hn7:=hV 0 ω
 have hn6:(Cg f 0).n=f.o.n:=rfl
 refine Ab 6 (Hg 18 ((i:Int)<((1+f.hn:Nat):Int)) (λhx10 hx10d=>?_) (λhx10 hx10d=>?_))
 refine Ab 5 ?_
 have hn3:=hV i ω
 refine Ab 3 (gs (Fd i (1+f.hn) ·) (gs (Ci (Cj (Cg f i)) (.read 10) (Qf 22 (.tmp 20) κ isAgg22 10 i 0 1 κ 22 (1+f.hn) (λxi=>Cj (Cg f xi)) κ ω δ) ·) (Ab 8 (Dx (Afm (Cg f i) ω) λv11 hv11=>(gs (Ao hv11 ·) (Ab 3 (gs (Bo (.bool (!decide (decide ((0:Int)<(gI v11))=decide ((i:Int)=0)))) (.bool (!decide (decide ((0:Int)<(gI v11))=decide ((i:Int)=0)))) ·) (Ab 2 (tjv 3 27 false (λl9:Vs=>⟨[(2,.ptr 8 0),(4,Cj l9),(15,.osl 10 1 (1+f.hn)),(16,.int ((1+f.hn:Nat):Int)),(17,.int (i:Int))],[(0,.box 25 [Cj f.o,hsA f,.int f.low,.int f.high]),(1,.box 33 [.int a.x,.int a.y,.int a.z]),(2,.box 33 [.int b.x,.int b.y,.int b.z]),(3,.box 197 [.bool (decide ((1:Int)<0)),.lit (.string (Cz (1:Int).natAbs))]),(11,.vec 246 4 n (λxi=>Cu (g xi).1)),(5,.box 256 [.osl 11 4 n]),(6,.box 25 [Cj f.o,hsA f,.int f.low,.int f.high]),(7,.loop .ready none sp8 [(3,.ptr 0 0),(4,.ptr 1 0),(5,.ptr 2 0),(6,.bool false),(7,.int 0),(8,.ptr 3 0),(9,.ptr 5 0),(64,.fn 213 [.ptr 6 0])] 131),(8,.box 163 [.yld 7]),(10,.vec 22 1 (1+f.hn) (λxi=>Cj (Cg f xi)))],12,43⟩) (λl9=>l9.n<=64/\3<=l9.n) (λl9 hl9=>?_) (λhJ9=>?_))))))))))
 have hl8:l9.n<=64/\3<=l9.n:=hl9
 refine Ab 3 (cX func61 (Ab 13 (Ix (Ab 3 (gs (vnm [2,15,16,17,34] ·) (vW func87 λsp13 sp13p sp13a sp13b=>(Ab 8 (tfg [0,1,6,7,8] [(0,0),(1,1),(2,2),(3,3),(11,14),(5,5),(6,6),(7,7),(8,8),(10,10),(12,12),(13,13)] 15 [(246,4,n,(λxi=>Cu (g xi).1)),(22,1,1+f.hn,(λxi=>Cj (Cg f xi)))] ⟨(Df λ_ _=>rfl),(Df λ_ _=>rfl),trivial⟩ (Vr [0,1,6,7,8] (λm s=>∃(j3 j3n:Nat) (j3g:Nat->RQ),m=l9.n-j3/\(j3n<=2+128*i+2*j3/\j3<=l9.n)/\s=⟨[(0,.yld 13),(1,.ptr 12 0),(6,Cj l9),(7,.int ((l9.n:Nat):Int)),(8,.int ((j3:Nat):Int))],[(0,.box 25 [Cj f.o,hsA f,.int f.low,.int f.high]),(1,.box 33 [.int a.x,.int a.y,.int a.z]),(2,.box 33 [.int b.x,.int b.y,.int b.z]),(3,.box 197 [.bool (decide ((1:Int)<0)),.lit (.string (Cz (1:Int).natAbs))]),(14,.vec 246 4 j3n (λxi=>Cu (j3g xi).1)),(5,.box 256 [.osl 14 4 j3n]),(6,.box 25 [Cj f.o,hsA f,.int f.low,.int f.high]),(7,.loop .ready none sp8 [(3,.ptr 0 0),(4,.ptr 1 0),(5,.ptr 2 0),(6,.bool false),(7,.int 0),(8,.ptr 3 0),(9,.ptr 5 0),(64,.fn 213 [.ptr 6 0])] 131),(8,.box 163 [.yld 7]),(10,.vec 22 1 (1+f.hn) (λxi=>Cj (Cg f xi))),(12,.box 22 [Cj l9]),(13,.loop .ready none sp13 [(2,.ptr 8 0),(15,.osl 10 1 (1+f.hn)),(16,.int ((1+f.hn:Nat):Int)),(17,.int (i:Int)),(34,.fn 87 [.ptr 12 0])] 43)],15,35⟩) (l9.n-0) ⟨0,n,g,rfl,⟨ω,ω⟩,κ⟩ ?_)))))))))
 rintro _ _ ⟨j3,j3n,j3g,rfl,hF,rfl⟩ hJ2
 refine Ab 6 (Hg 9 (((j3:Nat):Int)<((l9.n:Nat):Int)) (λhx15 hx15d=>?_) (λhx15 hx15d=>?_))
 refine Ab 8 (gs (Fd j3 l9.n ·) (Ab 7 ?_))
 have hm15:=Nat.mod_lt (j3+1) (by omega:0<l9.n)
 refine gs (Cl [(2,.int ((j3+1:Nat):Int),.none),(5,.int (((j3+1)%l9.n:Nat):Int),.none),(6,Co (Cj l9) ((j3+1)%l9.n),.none)] [0,1,4,5,6,7,8] ⟨Bk (.int .i64 (IntKind.wrap .i64 (((j3:Nat):Int)+1))) η,vE ((j3+1:Nat):Int) ((l9.n:Nat):Int) (((j3+1)%l9.n:Nat):Int) ω rfl,Ht ((j3+1)%l9.n) l9.n,trivial⟩ ·) (Ab 14 (jJ sp13p sp13a (Ab 10 (jI sp13b ?_))))
 refine Ab 6 (jJ sp8p sp8a (Ab 10 (jI sp8b ?_)))
 refine Ab 7 (cX func165 (Ab 17 (gs (Cl [] [5,6,7,8,9,11,12,13] trivial ·) (Ab 28 (Ev 42 ?_ ?_)))))
 refine Ab 29 (gs (Oh 26 309 2 1 (λ_=> .lit (.agg #[.int .i64 (Ai (Ai ((Ai ((l9.f j3).x-a.x))*(Ai ((l9.f ((j3+1)%l9.n)).y-(l9.f j3).y)))-Ai ((Ai ((l9.f j3).y-a.y))*(Ai ((l9.f ((j3+1)%l9.n)).x-(l9.f j3).x))))),.int .i64 (Ai (Ai ((Ai (b.x-a.x))*(Ai ((l9.f ((j3+1)%l9.n)).y-(l9.f j3).y)))-Ai ((Ai (b.y-a.y))*(Ai ((l9.f ((j3+1)%l9.n)).x-(l9.f j3).x)))))])) ·) (vT func216 (Ab 8 (gs (Mg 3 ·) (Ab 13 (gs (Fd 0 1 ·) (gs (Ci (.lit (.agg #[.int .i64 (Ai (Ai ((Ai ((l9.f j3).x-a.x))*(Ai ((l9.f ((j3+1)%l9.n)).y-(l9.f j3).y)))-Ai ((Ai ((l9.f j3).y-a.y))*(Ai ((l9.f ((j3+1)%l9.n)).x-(l9.f j3).x))))),.int .i64 (Ai (Ai ((Ai (b.x-a.x))*(Ai ((l9.f ((j3+1)%l9.n)).y-(l9.f j3).y)))-Ai ((Ai (b.y-a.y))*(Ai ((l9.f ((j3+1)%l9.n)).x-(l9.f j3).x)))))])) (.read 26) (Bi 309 (.tmp 11) κ isAgg309 2 sizeOf309 26 0 κ 309 1 (λ_=> .lit (.agg #[.int .i64 (Ai (Ai ((Ai ((l9.f j3).x-a.x))*(Ai ((l9.f ((j3+1)%l9.n)).y-(l9.f j3).y)))-Ai ((Ai ((l9.f j3).y-a.y))*(Ai ((l9.f ((j3+1)%l9.n)).x-(l9.f j3).x))))),.int .i64 (Ai (Ai ((Ai (b.x-a.x))*(Ai ((l9.f ((j3+1)%l9.n)).y-(l9.f j3).y)))-Ai ((Ai (b.y-a.y))*(Ai ((l9.f ((j3+1)%l9.n)).x-(l9.f j3).x)))))])) κ ω) ·) (Ab 10 (Exists.elim (iP (Ai (Ai ((Ai ((l9.f j3).x-a.x))*(Ai ((l9.f ((j3+1)%l9.n)).y-(l9.f j3).y)))-Ai ((Ai ((l9.f j3).y-a.y))*(Ai ((l9.f ((j3+1)%l9.n)).x-(l9.f j3).x))))) (Ai (Ai ((Ai (b.x-a.x))*(Ai ((l9.f ((j3+1)%l9.n)).y-(l9.f j3).y)))-Ai ((Ai (b.y-a.y))*(Ai ((l9.f ((j3+1)%l9.n)).x-(l9.f j3).x))))) (Qj (Ai ((Ai ((l9.f j3).x-a.x))*(Ai ((l9.f ((j3+1)%l9.n)).y-(l9.f j3).y)))-Ai ((Ai ((l9.f j3).y-a.y))*(Ai ((l9.f ((j3+1)%l9.n)).x-(l9.f j3).x))))) (Qi (Ai ((Ai ((l9.f j3).x-a.x))*(Ai ((l9.f ((j3+1)%l9.n)).y-(l9.f j3).y)))-Ai ((Ai ((l9.f j3).y-a.y))*(Ai ((l9.f ((j3+1)%l9.n)).x-(l9.f j3).x))))) (Qj (Ai ((Ai (b.x-a.x))*(Ai ((l9.f ((j3+1)%l9.n)).y-(l9.f j3).y)))-Ai ((Ai (b.y-a.y))*(Ai ((l9.f ((j3+1)%l9.n)).x-(l9.f j3).x))))) (Qi (Ai ((Ai (b.x-a.x))*(Ai ((l9.f ((j3+1)%l9.n)).y-(l9.f j3).y)))-Ai ((Ai (b.y-a.y))*(Ai ((l9.f ((j3+1)%l9.n)).x-(l9.f j3).x)))))) λv21 hv21=>(gs (Ao hv21.2 ·) (Ab 13 (Hg 23 (v21.2=0) (λhx22 hx22d=>?_) (λhx22 hx22d=>?_)))))))))))))
 refine Ab 2 (Dx (Il v21.1.num) λv23 hv23=>(gs (Ao hv23 ·) (Ab 3 (tsh 9 29 false [1,5,7,8,9,36] ?_ (λhS24=>?_)))))
 exact Ab 20 (Ix (Ab 10 (Ix (Ab 3 (Pu (Ab 6 (Pu (Ab 8 (gs (Dd (((j3:Nat):Int)+1) ((j3+1:Nat):Int) ·) (Ab 2 (Fw [0,1,6,7,8] [(0,0),(1,1),(2,2),(3,3),(14,14),(5,5),(6,6),(7,7),(8,8),(10,10),(12,12),(13,13)] 15 [(246,4,j3n,(λxi=>Cu (j3g xi).1)),(22,1,1+f.hn,(λxi=>Cj (Cg f xi))),(309,2,1,(λ_=> .lit (.agg #[.int .i64 (Ai (Ai ((Ai ((l9.f j3).x-a.x))*(Ai ((l9.f ((j3+1)%l9.n)).y-(l9.f j3).y)))-Ai ((Ai ((l9.f j3).y-a.y))*(Ai ((l9.f ((j3+1)%l9.n)).x-(l9.f j3).x))))),.int .i64 (Ai (Ai ((Ai (b.x-a.x))*(Ai ((l9.f ((j3+1)%l9.n)).y-(l9.f j3).y)))-Ai ((Ai (b.y-a.y))*(Ai ((l9.f ((j3+1)%l9.n)).x-(l9.f j3).x)))))])))] ⟨(Df λ_ _=>rfl),(Df λ_ _=>rfl),(Df λ_ _=>rfl),trivial⟩ (hJ2 _ _ (by omega:l9.n-(j3+1)<l9.n-j3) ⟨j3+1,j3n,j3g,rfl,⟨ω,ω⟩,rfl⟩))))))))))))
 refine Ev 29 ?_ ?_
 refine Ab 4 (Dx (Tk v21.1.num v21.1.den) λv25 hv25=>(gs (Ao hv25 ·) (Ab 4 (Ev 36 ?_ ?_))))
 exact Ab 4 (gs (Oh 29 246 4 1 (λ_=>Cu v21.1) ·) (gs (Xo 48 246 246 4 j3n 1 14 29 30 (λxi=>Cu (j3g xi).1) (λ_=>Cu v21.1) (λxi=>Cu (Ih j3g j3n ⟨v21.1,hv21.1 (of_decide_eq_true hx22)⟩ xi).1) (λi hi=>by rw[Uu hi]) (λi hi=>by(obtain rfl:i=0:=(ω));rw[Ut]) ·) (Ab 20 (Ix (Ab 10 (Ix (Ab 3 (Pu (Ab 6 (Pu (Ab 8 (gs (Dd (((j3:Nat):Int)+1) ((j3+1:Nat):Int) ·) (Ab 2 (Fw [0,1,6,7,8] [(0,0),(1,1),(2,2),(3,3),(30,14),(5,5),(6,6),(7,7),(8,8),(10,10),(12,12),(13,13)] 15 [(22,1,1+f.hn,(λxi=>Cj (Cg f xi))),(309,2,1,(λ_=> .lit (.agg #[.int .i64 (Ai (Ai ((Ai ((l9.f j3).x-a.x))*(Ai ((l9.f ((j3+1)%l9.n)).y-(l9.f j3).y)))-Ai ((Ai ((l9.f j3).y-a.y))*(Ai ((l9.f ((j3+1)%l9.n)).x-(l9.f j3).x))))),.int .i64 (Ai (Ai ((Ai (b.x-a.x))*(Ai ((l9.f ((j3+1)%l9.n)).y-(l9.f j3).y)))-Ai ((Ai (b.y-a.y))*(Ai ((l9.f ((j3+1)%l9.n)).x-(l9.f j3).x)))))]))),(246,4,1,(λ_=>Cu v21.1)),(246,4,j3n+1,(λxi=>Cu (Ih j3g j3n ⟨v21.1,hv21.1 (of_decide_eq_true hx22)⟩ xi).1))] ⟨(Df λ_ _=>rfl),(Df λ_ _=>rfl),(Df λ_ _=>rfl),(Df λ_ _=>rfl),trivial⟩ (hJ2 _ _ (by omega:l9.n-(j3+1)<l9.n-j3) ⟨j3+1,j3n+1,Ih j3g j3n ⟨v21.1,hv21.1 (of_decide_eq_true hx22)⟩,rfl,⟨ω,ω⟩,rfl⟩)))))))))))))))
 exact Vt [1,5,7,8,9,36] hS24
 exact Ab 9 (Vt [1,5,7,8,9,36] hS24)
 exact Ab 35 (Ix (Ab 10 (Ix (Ab 3 (Pu (Ab 6 (Pu (Ab 8 (gs (Dd (((j3:Nat):Int)+1) ((j3+1:Nat):Int) ·) (Ab 2 (Fw [0,1,6,7,8] [(0,0),(1,1),(2,2),(3,3),(14,14),(5,5),(6,6),(7,7),(8,8),(10,10),(12,12),(13,13)] 15 [(246,4,j3n,(λxi=>Cu (j3g xi).1)),(22,1,1+f.hn,(λxi=>Cj (Cg f xi))),(309,2,1,(λ_=> .lit (.agg #[.int .i64 (Ai (Ai ((Ai ((l9.f j3).x-a.x))*(Ai ((l9.f ((j3+1)%l9.n)).y-(l9.f j3).y)))-Ai ((Ai ((l9.f j3).y-a.y))*(Ai ((l9.f ((j3+1)%l9.n)).x-(l9.f j3).x))))),.int .i64 (Ai (Ai ((Ai (b.x-a.x))*(Ai ((l9.f ((j3+1)%l9.n)).y-(l9.f j3).y)))-Ai ((Ai (b.y-a.y))*(Ai ((l9.f ((j3+1)%l9.n)).x-(l9.f j3).x)))))])))] ⟨(Df λ_ _=>rfl),(Df λ_ _=>rfl),(Df λ_ _=>rfl),trivial⟩ (hJ2 _ _ (by omega:l9.n-(j3+1)<l9.n-j3) ⟨j3+1,j3n,j3g,rfl,⟨ω,ω⟩,rfl⟩))))))))))))
 refine Ab 9 (Dx (Ng a b (⟨(l9.f j3).x,(l9.f j3).y,0⟩)) λv26 hv26=>(gs (Ao hv26 ·) (Ab 3 (Ev 76 ?_ ?_))))
 refine Ab 49 (gs (Oh 26 309 2 2 (λxi=>[.lit (.agg #[.int .i64 (Ai (Ai ((Ai (b.x-a.x))*(Ai ((l9.f j3).x-a.x)))+Ai ((Ai (b.y-a.y))*(Ai ((l9.f j3).y-a.y))))),.int .i64 (Ai (Ai ((Ai (b.x-a.x))*(Ai (b.x-a.x)))+Ai ((Ai (b.y-a.y))*(Ai (b.y-a.y)))))]),.lit (.agg #[.int .i64 (Ai (Ai ((Ai (b.x-a.x))*(Ai ((l9.f ((j3+1)%l9.n)).x-a.x)))+Ai ((Ai (b.y-a.y))*(Ai ((l9.f ((j3+1)%l9.n)).y-a.y))))),.int .i64 (Ai (Ai ((Ai (b.x-a.x))*(Ai (b.x-a.x)))+Ai ((Ai (b.y-a.y))*(Ai (b.y-a.y)))))])].getD xi .top) ·) (vT func216 (Ab 8 (gs (Mg 3 ·) (Ab 13 (gs (Fd 0 2 ·) (gs (Ci (.lit (.agg #[.int .i64 (Ai (Ai ((Ai (b.x-a.x))*(Ai ((l9.f j3).x-a.x)))+Ai ((Ai (b.y-a.y))*(Ai ((l9.f j3).y-a.y))))),.int .i64 (Ai (Ai ((Ai (b.x-a.x))*(Ai (b.x-a.x)))+Ai ((Ai (b.y-a.y))*(Ai (b.y-a.y)))))])) (.read 26) (Bi 309 (.tmp 11) κ isAgg309 2 sizeOf309 26 0 κ 309 2 (λxi=>[.lit (.agg #[.int .i64 (Ai (Ai ((Ai (b.x-a.x))*(Ai ((l9.f j3).x-a.x)))+Ai ((Ai (b.y-a.y))*(Ai ((l9.f j3).y-a.y))))),.int .i64 (Ai (Ai ((Ai (b.x-a.x))*(Ai (b.x-a.x)))+Ai ((Ai (b.y-a.y))*(Ai (b.y-a.y)))))]),.lit (.agg #[.int .i64 (Ai (Ai ((Ai (b.x-a.x))*(Ai ((l9.f ((j3+1)%l9.n)).x-a.x)))+Ai ((Ai (b.y-a.y))*(Ai ((l9.f ((j3+1)%l9.n)).y-a.y))))),.int .i64 (Ai (Ai ((Ai (b.x-a.x))*(Ai (b.x-a.x)))+Ai ((Ai (b.y-a.y))*(Ai (b.y-a.y)))))])].getD xi .top) κ ω) ·) (Ab 10 (Exists.elim (iP (Ai (Ai ((Ai (b.x-a.x))*(Ai ((l9.f j3).x-a.x)))+Ai ((Ai (b.y-a.y))*(Ai ((l9.f j3).y-a.y))))) (Ai (Ai ((Ai (b.x-a.x))*(Ai (b.x-a.x)))+Ai ((Ai (b.y-a.y))*(Ai (b.y-a.y))))) (Qj (Ai ((Ai (b.x-a.x))*(Ai ((l9.f j3).x-a.x)))+Ai ((Ai (b.y-a.y))*(Ai ((l9.f j3).y-a.y))))) (Qi (Ai ((Ai (b.x-a.x))*(Ai ((l9.f j3).x-a.x)))+Ai ((Ai (b.y-a.y))*(Ai ((l9.f j3).y-a.y))))) (Qj (Ai ((Ai (b.x-a.x))*(Ai (b.x-a.x)))+Ai ((Ai (b.y-a.y))*(Ai (b.y-a.y))))) (Qi (Ai ((Ai (b.x-a.x))*(Ai (b.x-a.x)))+Ai ((Ai (b.y-a.y))*(Ai (b.y-a.y)))))) λv28 hv28=>(gs (Ao hv28.2 ·) (Ab 13 (Hg 23 (v28.2=0) (λhx29 hx29d=>?_) (λhx29 hx29d=>?_)))))))))))))
 refine Ab 2 (Dx (Il v28.1.num) λv30 hv30=>(gs (Ao hv30 ·) (Ab 3 (tsh 9 29 false [1,5,7,8,9,36] ?_ (λhS31=>?_)))))
 refine Ab 22 (gs (Fd 1 2 ·) (gs (Ci (.lit (.agg #[.int .i64 (Ai (Ai ((Ai (b.x-a.x))*(Ai ((l9.f ((j3+1)%l9.n)).x-a.x)))+Ai ((Ai (b.y-a.y))*(Ai ((l9.f ((j3+1)%l9.n)).y-a.y))))),.int .i64 (Ai (Ai ((Ai (b.x-a.x))*(Ai (b.x-a.x)))+Ai ((Ai (b.y-a.y))*(Ai (b.y-a.y)))))])) (.read 26) (Bi 309 (.tmp 11) κ isAgg309 2 sizeOf309 26 1 κ 309 2 (λxi=>[.lit (.agg #[.int .i64 (Ai (Ai ((Ai (b.x-a.x))*(Ai ((l9.f j3).x-a.x)))+Ai ((Ai (b.y-a.y))*(Ai ((l9.f j3).y-a.y))))),.int .i64 (Ai (Ai ((Ai (b.x-a.x))*(Ai (b.x-a.x)))+Ai ((Ai (b.y-a.y))*(Ai (b.y-a.y)))))]),.lit (.agg #[.int .i64 (Ai (Ai ((Ai (b.x-a.x))*(Ai ((l9.f ((j3+1)%l9.n)).x-a.x)))+Ai ((Ai (b.y-a.y))*(Ai ((l9.f ((j3+1)%l9.n)).y-a.y))))),.int .i64 (Ai (Ai ((Ai (b.x-a.x))*(Ai (b.x-a.x)))+Ai ((Ai (b.y-a.y))*(Ai (b.y-a.y)))))])].getD xi .top) κ ω) ·) (Ab 10 (Exists.elim (iP (Ai (Ai ((Ai (b.x-a.x))*(Ai ((l9.f ((j3+1)%l9.n)).x-a.x)))+Ai ((Ai (b.y-a.y))*(Ai ((l9.f ((j3+1)%l9.n)).y-a.y))))) (Ai (Ai ((Ai (b.x-a.x))*(Ai (b.x-a.x)))+Ai ((Ai (b.y-a.y))*(Ai (b.y-a.y))))) (Qj (Ai ((Ai (b.x-a.x))*(Ai ((l9.f ((j3+1)%l9.n)).x-a.x)))+Ai ((Ai (b.y-a.y))*(Ai ((l9.f ((j3+1)%l9.n)).y-a.y))))) (Qi (Ai ((Ai (b.x-a.x))*(Ai ((l9.f ((j3+1)%l9.n)).x-a.x)))+Ai ((Ai (b.y-a.y))*(Ai ((l9.f ((j3+1)%l9.n)).y-a.y))))) (Qj (Ai ((Ai (b.x-a.x))*(Ai (b.x-a.x)))+Ai ((Ai (b.y-a.y))*(Ai (b.y-a.y))))) (Qi (Ai ((Ai (b.x-a.x))*(Ai (b.x-a.x)))+Ai ((Ai (b.y-a.y))*(Ai (b.y-a.y)))))) λv32 hv32=>(gs (Ao hv32.2 ·) (Ab 13 (Hg 23 (v32.2=0) (λhx33 hx33d=>?_) (λhx33 hx33d=>?_))))))))
 refine Ab 2 (Dx (Il v32.1.num) λv34 hv34=>(gs (Ao hv34 ·) (Ab 3 (tsh 9 29 false [1,5,7,8,9,36] ?_ (λhS35=>?_)))))
 exact Ab 20 (Ix (Ab 9 (Ix (Ab 3 (Pu (Ab 6 (Pu (Ab 8 (gs (Dd (((j3:Nat):Int)+1) ((j3+1:Nat):Int) ·) (Ab 2 (Fw [0,1,6,7,8] [(0,0),(1,1),(2,2),(3,3),(14,14),(5,5),(6,6),(7,7),(8,8),(10,10),(12,12),(13,13)] 15 [(246,4,j3n,(λxi=>Cu (j3g xi).1)),(22,1,1+f.hn,(λxi=>Cj (Cg f xi))),(309,2,2,(λxi=>[.lit (.agg #[.int .i64 (Ai (Ai ((Ai (b.x-a.x))*(Ai ((l9.f j3).x-a.x)))+Ai ((Ai (b.y-a.y))*(Ai ((l9.f j3).y-a.y))))),.int .i64 (Ai (Ai ((Ai (b.x-a.x))*(Ai (b.x-a.x)))+Ai ((Ai (b.y-a.y))*(Ai (b.y-a.y)))))]),.lit (.agg #[.int .i64 (Ai (Ai ((Ai (b.x-a.x))*(Ai ((l9.f ((j3+1)%l9.n)).x-a.x)))+Ai ((Ai (b.y-a.y))*(Ai ((l9.f ((j3+1)%l9.n)).y-a.y))))),.int .i64 (Ai (Ai ((Ai (b.x-a.x))*(Ai (b.x-a.x)))+Ai ((Ai (b.y-a.y))*(Ai (b.y-a.y)))))])].getD xi .top))] ⟨(Df λ_ _=>rfl),(Df λ_ _=>rfl),(Df λi hi=>by match i,hi with|0,_=>rfl|1,_=>rfl|_+2,h=>exact absurd h ω),trivial⟩ (hJ2 _ _ (by omega:l9.n-(j3+1)<l9.n-j3) ⟨j3+1,j3n,j3g,rfl,⟨ω,ω⟩,rfl⟩))))))))))))
 refine Ev 29 ?_ ?_
 refine Ab 4 (Dx (Tk v32.1.num v32.1.den) λv36 hv36=>(gs (Ao hv36 ·) (Ab 4 (Ev 36 ?_ ?_))))
 exact Ab 4 (gs (Oh 31 246 4 1 (λ_=>Cu v32.1) ·) (gs (Xo 48 246 246 4 j3n 1 14 31 32 (λxi=>Cu (j3g xi).1) (λ_=>Cu v32.1) (λxi=>Cu (Ih j3g j3n ⟨v32.1,hv32.1 (of_decide_eq_true hx33)⟩ xi).1) (λi hi=>by rw[Uu hi]) (λi hi=>by(obtain rfl:i=0:=(ω));rw[Ut]) ·) (Ab 20 (Ix (Ab 9 (Ix (Ab 3 (Pu (Ab 6 (Pu (Ab 8 (gs (Dd (((j3:Nat):Int)+1) ((j3+1:Nat):Int) ·) (Ab 2 (Fw [0,1,6,7,8] [(0,0),(1,1),(2,2),(3,3),(32,14),(5,5),(6,6),(7,7),(8,8),(10,10),(12,12),(13,13)] 15 [(22,1,1+f.hn,(λxi=>Cj (Cg f xi))),(309,2,2,(λxi=>[.lit (.agg #[.int .i64 (Ai (Ai ((Ai (b.x-a.x))*(Ai ((l9.f j3).x-a.x)))+Ai ((Ai (b.y-a.y))*(Ai ((l9.f j3).y-a.y))))),.int .i64 (Ai (Ai ((Ai (b.x-a.x))*(Ai (b.x-a.x)))+Ai ((Ai (b.y-a.y))*(Ai (b.y-a.y)))))]),.lit (.agg #[.int .i64 (Ai (Ai ((Ai (b.x-a.x))*(Ai ((l9.f ((j3+1)%l9.n)).x-a.x)))+Ai ((Ai (b.y-a.y))*(Ai ((l9.f ((j3+1)%l9.n)).y-a.y))))),.int .i64 (Ai (Ai ((Ai (b.x-a.x))*(Ai (b.x-a.x)))+Ai ((Ai (b.y-a.y))*(Ai (b.y-a.y)))))])].getD xi .top)),(246,4,1,(λ_=>Cu v32.1)),(246,4,j3n+1,(λxi=>Cu (Ih j3g j3n ⟨v32.1,hv32.1 (of_decide_eq_true hx33)⟩ xi).1))] ⟨(Df λ_ _=>rfl),(Df λi hi=>by match i,hi with|0,_=>rfl|1,_=>rfl|_+2,h=>exact absurd h ω),(Df λ_ _=>rfl),(Df λ_ _=>rfl),trivial⟩ (hJ2 _ _ (by omega:l9.n-(j3+1)<l9.n-j3) ⟨j3+1,j3n+1,Ih j3g j3n ⟨v32.1,hv32.1 (of_decide_eq_true hx33)⟩,rfl,⟨ω,ω⟩,rfl⟩)))))))))))))))
 exact Vt [1,5,7,8,9,36] hS35
 exact Ab 9 (Vt [1,5,7,8,9,36] hS35)
 exact Ab 35 (Ix (Ab 9 (Ix (Ab 3 (Pu (Ab 6 (Pu (Ab 8 (gs (Dd (((j3:Nat):Int)+1) ((j3+1:Nat):Int) ·) (Ab 2 (Fw [0,1,6,7,8] [(0,0),(1,1),(2,2),(3,3),(14,14),(5,5),(6,6),(7,7),(8,8),(10,10),(12,12),(13,13)] 15 [(246,4,j3n,(λxi=>Cu (j3g xi).1)),(22,1,1+f.hn,(λxi=>Cj (Cg f xi))),(309,2,2,(λxi=>[.lit (.agg #[.int .i64 (Ai (Ai ((Ai (b.x-a.x))*(Ai ((l9.f j3).x-a.x)))+Ai ((Ai (b.y-a.y))*(Ai ((l9.f j3).y-a.y))))),.int .i64 (Ai (Ai ((Ai (b.x-a.x))*(Ai (b.x-a.x)))+Ai ((Ai (b.y-a.y))*(Ai (b.y-a.y)))))]),.lit (.agg #[.int .i64 (Ai (Ai ((Ai (b.x-a.x))*(Ai ((l9.f ((j3+1)%l9.n)).x-a.x)))+Ai ((Ai (b.y-a.y))*(Ai ((l9.f ((j3+1)%l9.n)).y-a.y))))),.int .i64 (Ai (Ai ((Ai (b.x-a.x))*(Ai (b.x-a.x)))+Ai ((Ai (b.y-a.y))*(Ai (b.y-a.y)))))])].getD xi .top))] ⟨(Df λ_ _=>rfl),(Df λ_ _=>rfl),(Df λi hi=>by match i,hi with|0,_=>rfl|1,_=>rfl|_+2,h=>exact absurd h ω),trivial⟩ (hJ2 _ _ (by omega:l9.n-(j3+1)<l9.n-j3) ⟨j3+1,j3n,j3g,rfl,⟨ω,ω⟩,rfl⟩))))))))))))
 refine Ev 29 ?_ ?_
 refine Ab 4 (Dx (Tk v28.1.num v28.1.den) λv37 hv37=>(gs (Ao hv37 ·) (Ab 4 (Ev 36 ?_ ?_))))
 refine Ab 4 (gs (Oh 29 246 4 1 (λ_=>Cu v28.1) ·) (gs (Xo 48 246 246 4 j3n 1 14 29 30 (λxi=>Cu (j3g xi).1) (λ_=>Cu v28.1) (λxi=>Cu (Ih j3g j3n ⟨v28.1,hv28.1 (of_decide_eq_true hx29)⟩ xi).1) (λi hi=>by rw[Uu hi]) (λi hi=>by(obtain rfl:i=0:=(ω));rw[Ut]) ·) (Ab 22 (gs (Fd 1 2 ·) (gs (Ci (.lit (.agg #[.int .i64 (Ai (Ai ((Ai (b.x-a.x))*(Ai ((l9.f ((j3+1)%l9.n)).x-a.x)))+Ai ((Ai (b.y-a.y))*(Ai ((l9.f ((j3+1)%l9.n)).y-a.y))))),.int .i64 (Ai (Ai ((Ai (b.x-a.x))*(Ai (b.x-a.x)))+Ai ((Ai (b.y-a.y))*(Ai (b.y-a.y)))))])) (.read 26) (Bi 309 (.tmp 11) κ isAgg309 2 sizeOf309 26 1 κ 309 2 (λxi=>[.lit (.agg #[.int .i64 (Ai (Ai ((Ai (b.x-a.x))*(Ai ((l9.f j3).x-a.x)))+Ai ((Ai (b.y-a.y))*(Ai ((l9.f j3).y-a.y))))),.int .i64 (Ai (Ai ((Ai (b.x-a.x))*(Ai (b.x-a.x)))+Ai ((Ai (b.y-a.y))*(Ai (b.y-a.y)))))]),.lit (.agg #[.int .i64 (Ai (Ai ((Ai (b.x-a.x))*(Ai ((l9.f ((j3+1)%l9.n)).x-a.x)))+Ai ((Ai (b.y-a.y))*(Ai ((l9.f ((j3+1)%l9.n)).y-a.y))))),.int .i64 (Ai (Ai ((Ai (b.x-a.x))*(Ai (b.x-a.x)))+Ai ((Ai (b.y-a.y))*(Ai (b.y-a.y)))))])].getD xi .top) κ ω) ·) (Ab 10 (Exists.elim (iP (Ai (Ai ((Ai (b.x-a.x))*(Ai ((l9.f ((j3+1)%l9.n)).x-a.x)))+Ai ((Ai (b.y-a.y))*(Ai ((l9.f ((j3+1)%l9.n)).y-a.y))))) (Ai (Ai ((Ai (b.x-a.x))*(Ai (b.x-a.x)))+Ai ((Ai (b.y-a.y))*(Ai (b.y-a.y))))) (Qj (Ai ((Ai (b.x-a.x))*(Ai ((l9.f ((j3+1)%l9.n)).x-a.x)))+Ai ((Ai (b.y-a.y))*(Ai ((l9.f ((j3+1)%l9.n)).y-a.y))))) (Qi (Ai ((Ai (b.x-a.x))*(Ai ((l9.f ((j3+1)%l9.n)).x-a.x)))+Ai ((Ai (b.y-a.y))*(Ai ((l9.f ((j3+1)%l9.n)).y-a.y))))) (Qj (Ai ((Ai (b.x-a.x))*(Ai (b.x-a.x)))+Ai ((Ai (b.y-a.y))*(Ai (b.y-a.y))))) (Qi (Ai ((Ai (b.x-a.x))*(Ai (b.x-a.x)))+Ai ((Ai (b.y-a.y))*(Ai (b.y-a.y)))))) λv38 hv38=>(gs (Ao hv38.2 ·) (Ab 13 (Hg 23 (v38.2=0) (λhx39 hx39d=>?_) (λhx39 hx39d=>?_)))))))))))
 refine Ab 2 (Dx (Il v38.1.num) λv40 hv40=>(gs (Ao hv40 ·) (Ab 3 (tsh 9 29 false [1,5,7,8,9,36] ?_ (λhS41=>?_)))))
 exact Ab 20 (Ix (Ab 9 (Ix (Ab 3 (Pu (Ab 6 (Pu (Ab 8 (gs (Dd (((j3:Nat):Int)+1) ((j3+1:Nat):Int) ·) (Ab 2 (Fw [0,1,6,7,8] [(0,0),(1,1),(2,2),(3,3),(30,14),(5,5),(6,6),(7,7),(8,8),(10,10),(12,12),(13,13)] 15 [(22,1,1+f.hn,(λxi=>Cj (Cg f xi))),(309,2,2,(λxi=>[.lit (.agg #[.int .i64 (Ai (Ai ((Ai (b.x-a.x))*(Ai ((l9.f j3).x-a.x)))+Ai ((Ai (b.y-a.y))*(Ai ((l9.f j3).y-a.y))))),.int .i64 (Ai (Ai ((Ai (b.x-a.x))*(Ai (b.x-a.x)))+Ai ((Ai (b.y-a.y))*(Ai (b.y-a.y)))))]),.lit (.agg #[.int .i64 (Ai (Ai ((Ai (b.x-a.x))*(Ai ((l9.f ((j3+1)%l9.n)).x-a.x)))+Ai ((Ai (b.y-a.y))*(Ai ((l9.f ((j3+1)%l9.n)).y-a.y))))),.int .i64 (Ai (Ai ((Ai (b.x-a.x))*(Ai (b.x-a.x)))+Ai ((Ai (b.y-a.y))*(Ai (b.y-a.y)))))])].getD xi .top)),(246,4,1,(λ_=>Cu v28.1)),(246,4,j3n+1,(λxi=>Cu (Ih j3g j3n ⟨v28.1,hv28.1 (of_decide_eq_true hx29)⟩ xi).1))] ⟨(Df λ_ _=>rfl),(Df λi hi=>by match i,hi with|0,_=>rfl|1,_=>rfl|_+2,h=>exact absurd h ω),(Df λ_ _=>rfl),(Df λ_ _=>rfl),trivial⟩ (hJ2 _ _ (by omega:l9.n-(j3+1)<l9.n-j3) ⟨j3+1,j3n+1,Ih j3g j3n ⟨v28.1,hv28.1 (of_decide_eq_true hx29)⟩,rfl,⟨ω,ω⟩,rfl⟩))))))))))))
 refine Ev 29 ?_ ?_
 refine Ab 4 (Dx (Tk v38.1.num v38.1.den) λv42 hv42=>(gs (Ao hv42 ·) (Ab 4 (Ev 36 ?_ ?_))))
 exact Ab 4 (gs (Oh 33 246 4 1 (λ_=>Cu v38.1) ·) (gs (Xo 48 246 246 4 (j3n+1) 1 30 33 34 (λxi=>Cu (Ih j3g j3n ⟨v28.1,hv28.1 (of_decide_eq_true hx29)⟩ xi).1) (λ_=>Cu v38.1) (λxi=>Cu (Ih (Ih j3g j3n ⟨v28.1,hv28.1 (of_decide_eq_true hx29)⟩) (j3n+1) ⟨v38.1,hv38.1 (of_decide_eq_true hx39)⟩ xi).1) (λi hi=>by rw[Uu hi]) (λi hi=>by(obtain rfl:i=0:=(ω));rw[Ut]) ·) (Ab 20 (Ix (Ab 9 (Ix (Ab 3 (Pu (Ab 6 (Pu (Ab 8 (gs (Dd (((j3:Nat):Int)+1) ((j3+1:Nat):Int) ·) (Ab 2 (Fw [0,1,6,7,8] [(0,0),(1,1),(2,2),(3,3),(34,14),(5,5),(6,6),(7,7),(8,8),(10,10),(12,12),(13,13)] 15 [(22,1,1+f.hn,(λxi=>Cj (Cg f xi))),(309,2,2,(λxi=>[.lit (.agg #[.int .i64 (Ai (Ai ((Ai (b.x-a.x))*(Ai ((l9.f j3).x-a.x)))+Ai ((Ai (b.y-a.y))*(Ai ((l9.f j3).y-a.y))))),.int .i64 (Ai (Ai ((Ai (b.x-a.x))*(Ai (b.x-a.x)))+Ai ((Ai (b.y-a.y))*(Ai (b.y-a.y)))))]),.lit (.agg #[.int .i64 (Ai (Ai ((Ai (b.x-a.x))*(Ai ((l9.f ((j3+1)%l9.n)).x-a.x)))+Ai ((Ai (b.y-a.y))*(Ai ((l9.f ((j3+1)%l9.n)).y-a.y))))),.int .i64 (Ai (Ai ((Ai (b.x-a.x))*(Ai (b.x-a.x)))+Ai ((Ai (b.y-a.y))*(Ai (b.y-a.y)))))])].getD xi .top)),(246,4,1,(λ_=>Cu v28.1)),(246,4,1,(λ_=>Cu v38.1)),(246,4,j3n+1+1,(λxi=>Cu (Ih (Ih j3g j3n ⟨v28.1,hv28.1 (of_decide_eq_true hx29)⟩) (j3n+1) ⟨v38.1,hv38.1 (of_decide_eq_true hx39)⟩ xi).1))] ⟨(Df λ_ _=>rfl),(Df λi hi=>by match i,hi with|0,_=>rfl|1,_=>rfl|_+2,h=>exact absurd h ω),(Df λ_ _=>rfl),(Df λ_ _=>rfl),(Df λ_ _=>rfl),trivial⟩ (hJ2 _ _ (by omega:l9.n-(j3+1)<l9.n-j3) ⟨j3+1,j3n+1+1,Ih (Ih j3g j3n ⟨v28.1,hv28.1 (of_decide_eq_true hx29)⟩) (j3n+1) ⟨v38.1,hv38.1 (of_decide_eq_true hx39)⟩,rfl,⟨ω,ω⟩,rfl⟩)))))))))))))))
 exact Vt [1,5,7,8,9,36] hS41
 exact Ab 9 (Vt [1,5,7,8,9,36] hS41)
 exact Ab 35 (Ix (Ab 9 (Ix (Ab 3 (Pu (Ab 6 (Pu (Ab 8 (gs (Dd (((j3:Nat):Int)+1) ((j3+1:Nat):Int) ·) (Ab 2 (Fw [0,1,6,7,8] [(0,0),(1,1),(2,2),(3,3),(30,14),(5,5),(6,6),(7,7),(8,8),(10,10),(12,12),(13,13)] 15 [(22,1,1+f.hn,(λxi=>Cj (Cg f xi))),(309,2,2,(λxi=>[.lit (.agg #[.int .i64 (Ai (Ai ((Ai (b.x-a.x))*(Ai ((l9.f j3).x-a.x)))+Ai ((Ai (b.y-a.y))*(Ai ((l9.f j3).y-a.y))))),.int .i64 (Ai (Ai ((Ai (b.x-a.x))*(Ai (b.x-a.x)))+Ai ((Ai (b.y-a.y))*(Ai (b.y-a.y)))))]),.lit (.agg #[.int .i64 (Ai (Ai ((Ai (b.x-a.x))*(Ai ((l9.f ((j3+1)%l9.n)).x-a.x)))+Ai ((Ai (b.y-a.y))*(Ai ((l9.f ((j3+1)%l9.n)).y-a.y))))),.int .i64 (Ai (Ai ((Ai (b.x-a.x))*(Ai (b.x-a.x)))+Ai ((Ai (b.y-a.y))*(Ai (b.y-a.y)))))])].getD xi .top)),(246,4,1,(λ_=>Cu v28.1)),(246,4,j3n+1,(λxi=>Cu (Ih j3g j3n ⟨v28.1,hv28.1 (of_decide_eq_true hx29)⟩ xi).1))] ⟨(Df λ_ _=>rfl),(Df λi hi=>by match i,hi with|0,_=>rfl|1,_=>rfl|_+2,h=>exact absurd h ω),(Df λ_ _=>rfl),(Df λ_ _=>rfl),trivial⟩ (hJ2 _ _ (by omega:l9.n-(j3+1)<l9.n-j3) ⟨j3+1,j3n+1,Ih j3g j3n ⟨v28.1,hv28.1 (of_decide_eq_true hx29)⟩,rfl,⟨ω,ω⟩,rfl⟩))))))))))))
 exact Vt [1,5,7,8,9,36] hS31
 exact Ab 9 (Vt [1,5,7,8,9,36] hS31)
 refine Ab 37 (gs (Fd 1 2 ·) (gs (Ci (.lit (.agg #[.int .i64 (Ai (Ai ((Ai (b.x-a.x))*(Ai ((l9.f ((j3+1)%l9.n)).x-a.x)))+Ai ((Ai (b.y-a.y))*(Ai ((l9.f ((j3+1)%l9.n)).y-a.y))))),.int .i64 (Ai (Ai ((Ai (b.x-a.x))*(Ai (b.x-a.x)))+Ai ((Ai (b.y-a.y))*(Ai (b.y-a.y)))))])) (.read 26) (Bi 309 (.tmp 11) κ isAgg309 2 sizeOf309 26 1 κ 309 2 (λxi=>[.lit (.agg #[.int .i64 (Ai (Ai ((Ai (b.x-a.x))*(Ai ((l9.f j3).x-a.x)))+Ai ((Ai (b.y-a.y))*(Ai ((l9.f j3).y-a.y))))),.int .i64 (Ai (Ai ((Ai (b.x-a.x))*(Ai (b.x-a.x)))+Ai ((Ai (b.y-a.y))*(Ai (b.y-a.y)))))]),.lit (.agg #[.int .i64 (Ai (Ai ((Ai (b.x-a.x))*(Ai ((l9.f ((j3+1)%l9.n)).x-a.x)))+Ai ((Ai (b.y-a.y))*(Ai ((l9.f ((j3+1)%l9.n)).y-a.y))))),.int .i64 (Ai (Ai ((Ai (b.x-a.x))*(Ai (b.x-a.x)))+Ai ((Ai (b.y-a.y))*(Ai (b.y-a.y)))))])].getD xi .top) κ ω) ·) (Ab 10 (Exists.elim (iP (Ai (Ai ((Ai (b.x-a.x))*(Ai ((l9.f ((j3+1)%l9.n)).x-a.x)))+Ai ((Ai (b.y-a.y))*(Ai ((l9.f ((j3+1)%l9.n)).y-a.y))))) (Ai (Ai ((Ai (b.x-a.x))*(Ai (b.x-a.x)))+Ai ((Ai (b.y-a.y))*(Ai (b.y-a.y))))) (Qj (Ai ((Ai (b.x-a.x))*(Ai ((l9.f ((j3+1)%l9.n)).x-a.x)))+Ai ((Ai (b.y-a.y))*(Ai ((l9.f ((j3+1)%l9.n)).y-a.y))))) (Qi (Ai ((Ai (b.x-a.x))*(Ai ((l9.f ((j3+1)%l9.n)).x-a.x)))+Ai ((Ai (b.y-a.y))*(Ai ((l9.f ((j3+1)%l9.n)).y-a.y))))) (Qj (Ai ((Ai (b.x-a.x))*(Ai (b.x-a.x)))+Ai ((Ai (b.y-a.y))*(Ai (b.y-a.y))))) (Qi (Ai ((Ai (b.x-a.x))*(Ai (b.x-a.x)))+Ai ((Ai (b.y-a.y))*(Ai (b.y-a.y)))))) λv43 hv43=>(gs (Ao hv43.2 ·) (Ab 13 (Hg 23 (v43.2=0) (λhx44 hx44d=>?_) (λhx44 hx44d=>?_))))))))
 refine Ab 2 (Dx (Il v43.1.num) λv45 hv45=>(gs (Ao hv45 ·) (Ab 3 (tsh 9 29 false [1,5,7,8,9,36] ?_ (λhS46=>?_)))))
 exact Ab 20 (Ix (Ab 9 (Ix (Ab 3 (Pu (Ab 6 (Pu (Ab 8 (gs (Dd (((j3:Nat):Int)+1) ((j3+1:Nat):Int) ·) (Ab 2 (Fw [0,1,6,7,8] [(0,0),(1,1),(2,2),(3,3),(14,14),(5,5),(6,6),(7,7),(8,8),(10,10),(12,12),(13,13)] 15 [(246,4,j3n,(λxi=>Cu (j3g xi).1)),(22,1,1+f.hn,(λxi=>Cj (Cg f xi))),(309,2,2,(λxi=>[.lit (.agg #[.int .i64 (Ai (Ai ((Ai (b.x-a.x))*(Ai ((l9.f j3).x-a.x)))+Ai ((Ai (b.y-a.y))*(Ai ((l9.f j3).y-a.y))))),.int .i64 (Ai (Ai ((Ai (b.x-a.x))*(Ai (b.x-a.x)))+Ai ((Ai (b.y-a.y))*(Ai (b.y-a.y)))))]),.lit (.agg #[.int .i64 (Ai (Ai ((Ai (b.x-a.x))*(Ai ((l9.f ((j3+1)%l9.n)).x-a.x)))+Ai ((Ai (b.y-a.y))*(Ai ((l9.f ((j3+1)%l9.n)).y-a.y))))),.int .i64 (Ai (Ai ((Ai (b.x-a.x))*(Ai (b.x-a.x)))+Ai ((Ai (b.y-a.y))*(Ai (b.y-a.y)))))])].getD xi .top))] ⟨(Df λ_ _=>rfl),(Df λ_ _=>rfl),(Df λi hi=>by match i,hi with|0,_=>rfl|1,_=>rfl|_+2,h=>exact absurd h ω),trivial⟩ (hJ2 _ _ (by omega:l9.n-(j3+1)<l9.n-j3) ⟨j3+1,j3n,j3g,rfl,⟨ω,ω⟩,rfl⟩))))))))))))
 refine Ev 29 ?_ ?_
 refine Ab 4 (Dx (Tk v43.1.num v43.1.den) λv47 hv47=>(gs (Ao hv47 ·) (Ab 4 (Ev 36 ?_ ?_))))
 exact Ab 4 (gs (Oh 31 246 4 1 (λ_=>Cu v43.1) ·) (gs (Xo 48 246 246 4 j3n 1 14 31 32 (λxi=>Cu (j3g xi).1) (λ_=>Cu v43.1) (λxi=>Cu (Ih j3g j3n ⟨v43.1,hv43.1 (of_decide_eq_true hx44)⟩ xi).1) (λi hi=>by rw[Uu hi]) (λi hi=>by(obtain rfl:i=0:=(ω));rw[Ut]) ·) (Ab 20 (Ix (Ab 9 (Ix (Ab 3 (Pu (Ab 6 (Pu (Ab 8 (gs (Dd (((j3:Nat):Int)+1) ((j3+1:Nat):Int) ·) (Ab 2 (Fw [0,1,6,7,8] [(0,0),(1,1),(2,2),(3,3),(32,14),(5,5),(6,6),(7,7),(8,8),(10,10),(12,12),(13,13)] 15 [(22,1,1+f.hn,(λxi=>Cj (Cg f xi))),(309,2,2,(λxi=>[.lit (.agg #[.int .i64 (Ai (Ai ((Ai (b.x-a.x))*(Ai ((l9.f j3).x-a.x)))+Ai ((Ai (b.y-a.y))*(Ai ((l9.f j3).y-a.y))))),.int .i64 (Ai (Ai ((Ai (b.x-a.x))*(Ai (b.x-a.x)))+Ai ((Ai (b.y-a.y))*(Ai (b.y-a.y)))))]),.lit (.agg #[.int .i64 (Ai (Ai ((Ai (b.x-a.x))*(Ai ((l9.f ((j3+1)%l9.n)).x-a.x)))+Ai ((Ai (b.y-a.y))*(Ai ((l9.f ((j3+1)%l9.n)).y-a.y))))),.int .i64 (Ai (Ai ((Ai (b.x-a.x))*(Ai (b.x-a.x)))+Ai ((Ai (b.y-a.y))*(Ai (b.y-a.y)))))])].getD xi .top)),(246,4,1,(λ_=>Cu v43.1)),(246,4,j3n+1,(λxi=>Cu (Ih j3g j3n ⟨v43.1,hv43.1 (of_decide_eq_true hx44)⟩ xi).1))] ⟨(Df λ_ _=>rfl),(Df λi hi=>by match i,hi with|0,_=>rfl|1,_=>rfl|_+2,h=>exact absurd h ω),(Df λ_ _=>rfl),(Df λ_ _=>rfl),trivial⟩ (hJ2 _ _ (by omega:l9.n-(j3+1)<l9.n-j3) ⟨j3+1,j3n+1,Ih j3g j3n ⟨v43.1,hv43.1 (of_decide_eq_true hx44)⟩,rfl,⟨ω,ω⟩,rfl⟩)))))))))))))))
 exact Vt [1,5,7,8,9,36] hS46
 exact Ab 9 (Vt [1,5,7,8,9,36] hS46)
 exact Ab 35 (Ix (Ab 9 (Ix (Ab 3 (Pu (Ab 6 (Pu (Ab 8 (gs (Dd (((j3:Nat):Int)+1) ((j3+1:Nat):Int) ·) (Ab 2 (Fw [0,1,6,7,8] [(0,0),(1,1),(2,2),(3,3),(14,14),(5,5),(6,6),(7,7),(8,8),(10,10),(12,12),(13,13)] 15 [(246,4,j3n,(λxi=>Cu (j3g xi).1)),(22,1,1+f.hn,(λxi=>Cj (Cg f xi))),(309,2,2,(λxi=>[.lit (.agg #[.int .i64 (Ai (Ai ((Ai (b.x-a.x))*(Ai ((l9.f j3).x-a.x)))+Ai ((Ai (b.y-a.y))*(Ai ((l9.f j3).y-a.y))))),.int .i64 (Ai (Ai ((Ai (b.x-a.x))*(Ai (b.x-a.x)))+Ai ((Ai (b.y-a.y))*(Ai (b.y-a.y)))))]),.lit (.agg #[.int .i64 (Ai (Ai ((Ai (b.x-a.x))*(Ai ((l9.f ((j3+1)%l9.n)).x-a.x)))+Ai ((Ai (b.y-a.y))*(Ai ((l9.f ((j3+1)%l9.n)).y-a.y))))),.int .i64 (Ai (Ai ((Ai (b.x-a.x))*(Ai (b.x-a.x)))+Ai ((Ai (b.y-a.y))*(Ai (b.y-a.y)))))])].getD xi .top))] ⟨(Df λ_ _=>rfl),(Df λ_ _=>rfl),(Df λi hi=>by match i,hi with|0,_=>rfl|1,_=>rfl|_+2,h=>exact absurd h ω),trivial⟩ (hJ2 _ _ (by omega:l9.n-(j3+1)<l9.n-j3) ⟨j3+1,j3n,j3g,rfl,⟨ω,ω⟩,rfl⟩))))))))))))
 exact Ab 10 (Ix (Ab 3 (Pu (Ab 6 (Pu (Ab 8 (gs (Dd (((j3:Nat):Int)+1) ((j3+1:Nat):Int) ·) (Ab 2 (Fw [0,1,6,7,8] [(0,0),(1,1),(2,2),(3,3),(14,14),(5,5),(6,6),(7,7),(8,8),(10,10),(12,12),(13,13)] 15 [(246,4,j3n,(λxi=>Cu (j3g xi).1)),(22,1,1+f.hn,(λxi=>Cj (Cg f xi)))] ⟨(Df λ_ _=>rfl),(Df λ_ _=>rfl),trivial⟩ (hJ2 _ _ (by omega:l9.n-(j3+1)<l9.n-j3) ⟨j3+1,j3n,j3g,rfl,⟨ω,ω⟩,rfl⟩))))))))))
 exact Ab 5 (bC (Ab 4 (gs (Dd ((i:Int)+1) ((i+1:Nat):Int) ·) (Ab 2 (Fw [2,15,16,17] [(0,0),(1,1),(2,2),(3,3),(14,11),(5,5),(6,6),(7,7),(8,8),(10,10)] 12 [(246,4,j3n,(λxi=>Cu (j3g xi).1)),(22,1,1+f.hn,(λxi=>Cj (Cg f xi)))] ⟨(Df λ_ _=>rfl),(Df λ_ _=>rfl),trivial⟩ (hJ1 _ _ (by omega:f.hn+1-(i+1)<f.hn+1-i) ⟨i+1,j3n,j3g,rfl,⟨ω,ω⟩,rfl⟩))))))
 refine AiU 27 (decide ((0:Int)<(gI v11))=decide ((i:Int)=0)) (λhx48 hx48d=>?_) (λhx48 hx48d=>?_)
 exact Ab 3 (Vt [2,4,15,16,17] (hJ9 (Cg f i) ⟨hn1,hn3⟩))
 exact Ab 4 (cX func93 (Ab 9 (gs (ven ((Cg f i).n) ·) (Ab 7 (gs (Ci (.osl 12 3 0) (.new 12 (.vec 33 3 0 (λ_=> .top))) (cV 22 κ underlying22 3 sizeOf33 12 (λ_=> .top)) ·) (Ab 1 (gs (Ci (.osl 13 3 ((Cg f i).n)) (.grow 12 13 (.vec 33 3 ((Cg f i).n) (λi0=>Bg ((Cg f i).f i0)))) (AdR (Wi (.tmp 5) (.tmp 6) 22 κ underlying22 3 24 (.agg #[.int .i64 0,.int .i64 0,.int .i64 0]) κ κ δ 0 ((Cg f i).n) ω (λ_=> .top) (λi0=>Bg ((Cg f i).f i0)) (λi0=>Bg ((Cg f i).f i0)) 13 ω (by unfold maxLen;omega) (λi hi=>absurd hi (Nat.not_lt_zero i)) (λi hi=>by rw[Nat.zero_add]) (λi hi j hj=>match j,hj with|0,_=>rfl|1,_=>rfl|2,_=>rfl|_+3,h=>absurd h ω) 12 κ κ κ) (Nat.zero_add _)) ·) (Ab 4 (Ix (Ab 5 (gs (Ci (.osw 13 3 1 (((Cg f i).n)-1)) (.read 13) (Sl 22 (.tmp 30) (some (.const (.int .i64 1))) none κ underlying22 13 3 ((Cg f i).n) sizeOf33 33 (λi0=>Bg ((Cg f i).f i0)) κ κ 1 ((Cg f i).n) (.inr ⟨(.const (.int .i64 1)),1,rfl,κ,ω⟩) (.inl ⟨rfl,rfl⟩) ω ω) ·) (gs (Ci (.lit (.tuple #[])) (.set 13 (.vec 33 3 ((Cg f i).n) (λxi=>Bg ((Ai9 (Cg f i)).f xi)))) (Aim (.tmp 31) #[22] 13 33 (Cg f i) ω ω κ κ κ) ·) (Ab 2 (gs (rD 13 [4] 33 3 ((Cg f i).n) (λxi=>Bg ((Ai9 (Cg f i)).f xi)) (Df λ_ _=>rfl) ·) (tfg [2,4,15,16,17] [(0,0),(1,1),(2,2),(3,3),(11,11),(5,5),(6,6),(7,7),(8,8),(10,10)] 12 [(246,4,n,(λxi=>Cu (g xi).1)),(22,1,1+f.hn,(λxi=>Cj (Cg f xi)))] ⟨(Df λ_ _=>rfl),(Df λ_ _=>rfl),trivial⟩ (Vt [2,4,15,16,17] (hJ9 (Ai9 (Cg f i)) ⟨hn1,hn3⟩)))))))))))))))))
 refine Ab 5 (bC (Ab 11 (gs (Ci (.lit (.tuple #[])) (.set 11 (.vec 246 4 n (λxi=>Cu (Iw g n xi).1))) (AdT (.tmp 73) (.tmp 74) #[256,260] 11 246 n g ω κ κ κ κ) ·) (Ab 5 (cX func169 (Ab 13 (Hg 8 ((n:Int)<2) (λhx51 hx51d=>?_) (λhx51 hx51d=>?_))))))))
 refine Ab 9 (Ix (Ab 21 (tfg [3,4,5,8,9,13,14,15] [(0,0),(1,1),(2,2),(3,3),(11,11),(5,5),(12,12)] 13 [(246,4,n,(λxi=>Cu (Iw g n xi).1)),(22,1,1+f.hn,(λxi=>Cj (Cg f xi)))] ⟨(Df λ_ _=>rfl),(Df λ_ _=>rfl),trivial⟩ (Vr [3,4,5,8,9,13,14,15] (λm s=>∃(q:Nat) (qe:Int),m=n-q/\(1<=q)/\s=⟨[(3,.ptr 0 0),(4,.ptr 1 0),(5,.ptr 2 0),(8,.ptr 3 0),(9,.ptr 5 0),(13,.ptr 12 0),(14,.fn 170 [.ptr 12 0]),(15,.int (q:Int))],[(0,.box 25 [Cj f.o,hsA f,.int f.low,.int f.high]),(1,.box 33 [.int a.x,.int a.y,.int a.z]),(2,.box 33 [.int b.x,.int b.y,.int b.z]),(3,.box 197 [.bool (decide ((1:Int)<0)),.lit (.string (Cz (1:Int).natAbs))]),(11,.vec 246 4 n (λxi=>Cu (Iw g n xi).1)),(5,.box 256 [.osl 11 4 n]),(12,.box 264 [.int qe])],13,131⟩) (n-1) ⟨1,0,rfl,Nat.le_refl _,κ⟩ ?_))))
 rintro _ _ ⟨q,qe,rfl,hF,rfl⟩ hJ3
 refine Ab 9 (Hg 82 ((q:Int)<(n:Int)) (λhx52 hx52d=>?_) (λhx52 hx52d=>?_))
 refine Ab 6 (Dx (oA ((Iw g n (q-1)).1) ((Iw g n q).1)) λv53 hv53=>(gs (Cl [(2,.int ((q-1:Nat):Int),.none),(3,Co (.osl 11 4 n) (q-1),.none),(4,Cu (Iw g n (q-1)).1,(.read 11)),(7,Co (.osl 11 4 n) q,.none),(8,Cu (Iw g n q).1,(.read 11)),(9,_,.none)] [3,4,5,8,9,13,14,15,16] ⟨Bk (.int .i64 (IntKind.wrap .i64 ((q:Int)-1))) η,Ht (q-1) n,Br (Bi 246 (.tmp 89) κ isAgg246 4 sizeOf246 11 (q-1) κ 246 n (λxi=>Cu (Iw g n xi).1) κ ω),Ht q n,Br (Bi 246 (.tmp 93) κ isAgg246 4 sizeOf246 11 q κ 246 n (λxi=>Cu (Iw g n xi).1) κ ω),Be hv53,trivial⟩ ·) (Ab 2 (Dx (oB (⟨⟨(gB (gT (gT v53 0) 0)),(gS (gT (gT v53 0) 1))⟩,⟨(gB (gT (gT v53 0) 2)),(gS (gT (gT v53 0) 3))⟩⟩) (⟨⟨decide ((1:Int)<0),Cz (1:Int).natAbs⟩,⟨decide ((2:Int)<0),Cz (2:Int).natAbs⟩⟩)) λv54 hv54=>(gs (Cl [(2,_,.none),(4,_,.none)] [3,4,5,8,9,13,14,15,18] ⟨Be (Dh 2 δ δ),Be hv54,trivial⟩ ·) (Ab 2 (Exists.elim (Qx qe a.x (Ai (b.x-a.x)) (⟨⟨(gB (gT (gT v54 0) 0)),(gS (gT (gT v54 0) 1))⟩,⟨(gB (gT (gT v54 0) 2)),(gS (gT (gT v54 0) 3))⟩⟩)) λv55 hv55=>(Exists.elim (Qx v55.2 a.y (Ai (b.y-a.y)) (⟨⟨(gB (gT (gT v54 0) 0)),(gS (gT (gT v54 0) 1))⟩,⟨(gB (gT (gT v54 0) 2)),(gS (gT (gT v54 0) 3))⟩⟩)) λv56 hv56=>(Exists.elim (yQ v56.2 (⟨⟨(gB (gT v55.1 0)),(gS (gT v55.1 1))⟩,⟨(gB (gT v55.1 2)),(gS (gT v55.1 3))⟩⟩) (⟨⟨(gB (gT v56.1 0)),(gS (gT v56.1 1))⟩,⟨(gB (gT v56.1 2)),(gS (gT v56.1 3))⟩⟩)) λv57 hv57=>(gs (Cl [(9,_,_),(19,_,_),(20,_,_)] [3,4,5,8,9,13,14,15,20] ⟨bN 12 [] hv55,bN 12 [] hv56,bN 12 [] hv57,trivial⟩ ·) (Ab 5 (Exists.elim (yP v57.2 (⟨⟨(gB (gT v57.1 0)),(gS (gT v57.1 1))⟩,⟨(gB (gT v57.1 2)),(gS (gT v57.1 3))⟩,⟨(gB (gT v57.1 4)),(gS (gT v57.1 5))⟩⟩) f h0) λv58 hv58=>(gs (vcx 12 [15] hv58 ·) (Ab 3 (Ev 130 ?_ ?_)))))))))))))))
 exact Ab 13 (Bc)
 exact Ab 6 (gs (Dd ((q:Int)+1) ((q+1:Nat):Int) ·) (Ab 2 (Fw [3,4,5,8,9,13,14,15] [(0,0),(1,1),(2,2),(3,3),(11,11),(5,5),(12,12)] 13 [(246,4,n,(λxi=>Cu (Iw g n xi).1))] ⟨(Df λ_ _=>rfl),trivial⟩ (hJ3 _ _ (by omega:n-(q+1)<n-q) ⟨q+1,v58.2,rfl,ω,rfl⟩))))
 exact Ab 13 (Bc)
 refine Ab 10 (Vr [0,3] (λm s=>∃(k:Nat),m=n-k/\(1<=k/\k<=n)/\s=⟨[(0,.osl 11 4 n),(3,.int (k:Int))],[(0,.box 25 [Cj f.o,hsA f,.int f.low,.int f.high]),(1,.box 33 [.int a.x,.int a.y,.int a.z]),(2,.box 33 [.int b.x,.int b.y,.int b.z]),(3,.box 197 [.bool (decide ((1:Int)<0)),.lit (.string (Cz (1:Int).natAbs))]),(11,.vec 246 4 n (λxi=>Cu (Iw g n xi).1)),(5,.box 256 [.osl 11 4 n]),(6,.box 25 [Cj f.o,hsA f,.int f.low,.int f.high]),(8,.box 163 [.yld 7]),(10,.vec 22 1 (1+f.hn) (λxi=>Cj (Cg f xi)))],12,61⟩) (n-1) ⟨1,rfl,⟨ω,ω⟩,κ⟩ ?_)
 rintro _ _ ⟨k,rfl,hF,rfl⟩ hJ4
 refine Ab 9 (Hg 13 ((k:Int)<(n:Int)) (λhx59 hx59d=>?_) (λhx59 hx59d=>?_))
 refine Ab 6 (gs (Cl [(2,Co (.osl 11 4 n) k,.none),(3,Cu (Iw g n k).1,(.read 11)),(6,.int ((k-1:Nat):Int),.none),(7,Co (.osl 11 4 n) (k-1),.none),(8,Cu (Iw g n (k-1)).1,(.read 11)),(9,.bool (Adi ((Iw g n k).1) ((Iw g n (k-1)).1)),.none)] [0,3,25] ⟨Ht k n,Br (Bi 246 (.tmp 18) κ isAgg246 4 sizeOf246 11 k κ 246 n (λxi=>Cu (Iw g n xi).1) κ ω),Bk (.int .i64 (IntKind.wrap .i64 ((k:Int)-1))) η,Ht (k-1) n,Br (Bi 246 (.tmp 23) κ isAgg246 4 sizeOf246 11 (k-1) κ 246 n (λxi=>Cu (Iw g n xi).1) κ ω),Br (dW 246 246 (.tmp 19) (.tmp 24) κ _ _ κ κ κ (Adi ((Iw g n k).1) ((Iw g n (k-1)).1)) (Am4 ((Iw g n k).1) ((Iw g n (k-1)).1))),trivial⟩ ·) (Ab 1 (Ev 25 ?_ ?_)))
 refine Ab 5 (gs (Ci (.osw 11 4 k (n-k)) (.read 11) (Sl 256 (.tmp 26) (some (.tmp 27)) none κ underlying256 11 4 n sizeOf246 246 (λxi=>Cu (Iw g n xi).1) κ κ k n (.inr ⟨(.tmp 27),(k:Int),rfl,κ,ω⟩) (.inl ⟨rfl,rfl⟩) ω ω) ·) (Ab 10 (Vr [0,3,4,5] (λm s=>∃(kk k2:Nat) (gg:Nat->RQ),m=n-k2/\(1<=k2/\1<=kk/\kk<k+k2/\k+k2<=n)/\s=⟨[(0,.osl 11 4 n),(3,.int (kk:Int)),(4,.osw 11 4 k (n-k)),(5,.int ((k2:Nat):Int))],[(0,.box 25 [Cj f.o,hsA f,.int f.low,.int f.high]),(1,.box 33 [.int a.x,.int a.y,.int a.z]),(2,.box 33 [.int b.x,.int b.y,.int b.z]),(3,.box 197 [.bool (decide ((1:Int)<0)),.lit (.string (Cz (1:Int).natAbs))]),(11,.vec 246 4 n (λxi=>Cu (gg xi).1)),(5,.box 256 [.osl 11 4 n]),(6,.box 25 [Cj f.o,hsA f,.int f.low,.int f.high]),(8,.box 163 [.yld 7]),(10,.vec 22 1 (1+f.hn) (λxi=>Cj (Cg f xi)))],12,61⟩) (n-1) ⟨k,1,Iw g n,rfl,⟨ω,ω,ω,ω⟩,κ⟩ ?_)))
 rintro _ _ ⟨kk,k2,gg,rfl,hF,rfl⟩ hJ5
 refine Ab 9 (Hg 32 (((k2:Nat):Int)<((n-k:Nat):Int)) (λhx60 hx60d=>?_) (λhx60 hx60d=>?_))
 refine Ab 6 (gs (Cl [(2,Co (.osw 11 4 k (n-k)) k2,.none),(3,Cu (gg (k+k2)).1,(.read 11)),(6,.int ((k2-1:Nat):Int),.none),(7,Co (.osw 11 4 k (n-k)) (k2-1),.none),(8,Cu (gg (k+(k2-1))).1,(.read 11)),(9,.bool (!(Adi ((gg (k+k2)).1) ((gg (k+(k2-1))).1))),.none)] [0,3,4,5,44] ⟨Ht k2 (n-k),Br (Bi 246 (.tmp 37) κ isAgg246 4 sizeOf246 11 (k+k2) κ 246 n (λxi=>Cu (gg xi).1) κ ω),Bk (.int .i64 (IntKind.wrap .i64 (((k2:Nat):Int)-1))) η,Ht (k2-1) (n-k),Br (Bi 246 (.tmp 42) κ isAgg246 4 sizeOf246 11 (k+(k2-1)) κ 246 n (λxi=>Cu (gg xi).1) κ ω),Br (Zd 246 246 (.tmp 38) (.tmp 43) κ _ _ κ κ κ (Adi ((gg (k+k2)).1) ((gg (k+(k2-1))).1)) (Am4 ((gg (k+k2)).1) ((gg (k+(k2-1))).1))),trivial⟩ ·) (Ab 1 (Ev 44 ?_ ?_)))
 exact Ab 7 (gs (Fd k2 (n-k) ·) (gs (Ci (Cu (gg (k+k2)).1) (.read 11) (Bi 246 (.tmp 49) κ isAgg246 4 sizeOf246 11 (k+k2) κ 246 n (λxi=>Cu (gg xi).1) κ ω) ·) (gs (Fd kk n ·) (gs (Ci (.lit Go.undef) (.set 11 (.vec 246 4 n (λxi=>if xi=kk then Cu (gg (k+k2)).1 else (λxi=>Cu (gg xi).1) xi))) (Gk 246 (.tmp 51) (.tmp 50) κ 4 sizeOf246 11 kk κ 246 n (λxi=>Cu (gg xi).1) κ ω κ κ κ (Cu (gg (k+k2)).1) κ) ·) (Ab 2 (gs (kM 11 246 4 n (λxi=>if xi=kk then Cu (gg (k+k2)).1 else (λxi=>Cu (gg xi).1) xi) (λxi=>Cu (Ao6 gg kk (gg (k+k2)) xi).1) (λx9 hx9=>by unfold Ao6;split<;>rfl) ·) (Ab 2 (gs (Dd ((kk:Int)+1) ((kk+1:Nat):Int) ·) (Ab 6 (gs (Dd (((k2:Nat):Int)+1) ((k2+1:Nat):Int) ·) (Ab 2 (nN [0,3,4,5] (hJ5 _ _ (by omega:n-(k2+1)<n-k2) ⟨kk+1,k2+1,Ao6 gg kk (gg (k+k2)),rfl,⟨ω,ω,ω,ω⟩,rfl⟩)))))))))))))
 exact Ab 6 (gs (Dd (((k2:Nat):Int)+1) ((k2+1:Nat):Int) ·) (Ab 2 (nN [0,3,4,5] (hJ5 _ _ (by omega:n-(k2+1)<n-k2) ⟨kk,k2+1,gg,rfl,⟨ω,ω,ω,ω⟩,rfl⟩))))
 refine Ab 10 (gs (Ci (.osw 11 4 kk (n-kk)) (.read 11) (Sl 256 (.tmp 54) (some (.tmp 55)) none κ underlying256 11 4 n sizeOf246 246 (λxi=>Cu (gg xi).1) κ κ kk n (.inr ⟨(.tmp 55),(kk:Int),rfl,κ,ω⟩) (.inl ⟨rfl,rfl⟩) ω ω) ·) (gs (Ci (.lit (.tuple #[])) (.set 11 (.vec 246 4 n (λxi=>if xi<kk then (λxi=>Cu (gg xi).1) xi else .top))) (Aaj (.tmp 56) 256 #[256] κ rfl 11 4 kk (n-kk) n 246 246 (λxi=>Cu (gg xi).1) underlying256 (.agg #[.bool false,.string ⟨#[]⟩,.bool false,.string ⟨#[]⟩]) zeroValue246 rfl rfl κ κ ω) ·) (Ab 6 (gs (Ci (.osw 11 4 0 (kk-0)) (.read 11) (Sl 256 (.tmp 57) none (some (.tmp 58)) κ underlying256 11 4 n sizeOf246 246 (λxi=>if xi<kk then (λxi=>Cu (gg xi).1) xi else .top) κ κ 0 kk (.inl ⟨rfl,rfl⟩) (.inr ⟨(.tmp 58),(kk:Int),rfl,κ,ω⟩) ω ω) ·) (Ab 9 (Ix (Ab 3 (gs (vsh 11 246 4 n kk (λxi=>if xi<kk then (λxi=>Cu (gg xi).1) xi else .top) (λxi=>Cu (gg xi).1) ω (λi hi=>if_pos hi) ·) (Ab 18 (tfg [3,4,5,8,9,13,14,15] [(0,0),(1,1),(2,2),(3,3),(11,11),(5,5),(12,12)] 13 [(246,4,kk,(λxi=>Cu (gg xi).1)),(22,1,1+f.hn,(λxi=>Cj (Cg f xi)))] ⟨(Df λ_ _=>rfl),(Df λ_ _=>rfl),trivial⟩ (Vr [3,4,5,8,9,13,14,15] (λm s=>∃(q:Nat) (qe:Int),m=(kk-0)-q/\(1<=q)/\s=⟨[(3,.ptr 0 0),(4,.ptr 1 0),(5,.ptr 2 0),(8,.ptr 3 0),(9,.ptr 5 0),(13,.ptr 12 0),(14,.fn 170 [.ptr 12 0]),(15,.int (q:Int))],[(0,.box 25 [Cj f.o,hsA f,.int f.low,.int f.high]),(1,.box 33 [.int a.x,.int a.y,.int a.z]),(2,.box 33 [.int b.x,.int b.y,.int b.z]),(3,.box 197 [.bool (decide ((1:Int)<0)),.lit (.string (Cz (1:Int).natAbs))]),(11,.vec 246 4 kk (λxi=>Cu (gg xi).1)),(5,.box 256 [.osw 11 4 0 (kk-0)]),(12,.box 264 [.int qe])],13,131⟩) ((kk-0)-1) ⟨1,0,rfl,Nat.le_refl _,κ⟩ ?_)))))))))))
 rintro _ _ ⟨q,qe,rfl,hF,rfl⟩ hJ6
 refine Ab 9 (Hg 82 ((q:Int)<((kk-0:Nat):Int)) (λhx61 hx61d=>?_) (λhx61 hx61d=>?_))
 refine Ab 6 (Dx (oA ((gg (0+(q-1))).1) ((gg (0+q)).1)) λv62 hv62=>(gs (Cl [(2,.int ((q-1:Nat):Int),.none),(3,Co (.osw 11 4 0 (kk-0)) (q-1),.none),(4,Cu (gg (0+(q-1))).1,(.read 11)),(7,Co (.osw 11 4 0 (kk-0)) q,.none),(8,Cu (gg (0+q)).1,(.read 11)),(9,_,.none)] [3,4,5,8,9,13,14,15,16] ⟨Bk (.int .i64 (IntKind.wrap .i64 ((q:Int)-1))) η,Ht (q-1) (kk-0),Br (Bi 246 (.tmp 89) κ isAgg246 4 sizeOf246 11 (0+(q-1)) κ 246 kk (λxi=>Cu (gg xi).1) κ ω),Ht q (kk-0),Br (Bi 246 (.tmp 93) κ isAgg246 4 sizeOf246 11 (0+q) κ 246 kk (λxi=>Cu (gg xi).1) κ ω),Be hv62,trivial⟩ ·) (Ab 2 (Dx (oB (⟨⟨(gB (gT (gT v62 0) 0)),(gS (gT (gT v62 0) 1))⟩,⟨(gB (gT (gT v62 0) 2)),(gS (gT (gT v62 0) 3))⟩⟩) (⟨⟨decide ((1:Int)<0),Cz (1:Int).natAbs⟩,⟨decide ((2:Int)<0),Cz (2:Int).natAbs⟩⟩)) λv63 hv63=>(gs (Cl [(2,_,.none),(4,_,.none)] [3,4,5,8,9,13,14,15,18] ⟨Be (Dh 2 δ δ),Be hv63,trivial⟩ ·) (Ab 2 (Exists.elim (Qx qe a.x (Ai (b.x-a.x)) (⟨⟨(gB (gT (gT v63 0) 0)),(gS (gT (gT v63 0) 1))⟩,⟨(gB (gT (gT v63 0) 2)),(gS (gT (gT v63 0) 3))⟩⟩)) λv64 hv64=>(Exists.elim (Qx v64.2 a.y (Ai (b.y-a.y)) (⟨⟨(gB (gT (gT v63 0) 0)),(gS (gT (gT v63 0) 1))⟩,⟨(gB (gT (gT v63 0) 2)),(gS (gT (gT v63 0) 3))⟩⟩)) λv65 hv65=>(Exists.elim (yQ v65.2 (⟨⟨(gB (gT v64.1 0)),(gS (gT v64.1 1))⟩,⟨(gB (gT v64.1 2)),(gS (gT v64.1 3))⟩⟩) (⟨⟨(gB (gT v65.1 0)),(gS (gT v65.1 1))⟩,⟨(gB (gT v65.1 2)),(gS (gT v65.1 3))⟩⟩)) λv66 hv66=>(gs (Cl [(9,_,_),(19,_,_),(20,_,_)] [3,4,5,8,9,13,14,15,20] ⟨bN 12 [] hv64,bN 12 [] hv65,bN 12 [] hv66,trivial⟩ ·) (Ab 5 (Exists.elim (yP v66.2 (⟨⟨(gB (gT v66.1 0)),(gS (gT v66.1 1))⟩,⟨(gB (gT v66.1 2)),(gS (gT v66.1 3))⟩,⟨(gB (gT v66.1 4)),(gS (gT v66.1 5))⟩⟩) f h0) λv67 hv67=>(gs (vcx 12 [15] hv67 ·) (Ab 3 (Ev 130 ?_ ?_)))))))))))))))
 exact Ab 13 (Bc)
 exact Ab 6 (gs (Dd ((q:Int)+1) ((q+1:Nat):Int) ·) (Ab 2 (Fw [3,4,5,8,9,13,14,15] [(0,0),(1,1),(2,2),(3,3),(11,11),(5,5),(12,12)] 13 [(246,4,kk,(λxi=>Cu (gg xi).1))] ⟨(Df λ_ _=>rfl),trivial⟩ (hJ6 _ _ (by omega:(kk-0)-(q+1)<(kk-0)-q) ⟨q+1,v67.2,rfl,ω,rfl⟩))))
 exact Ab 13 (Bc)
 exact Ab 6 (gs (Dd ((k:Int)+1) ((k+1:Nat):Int) ·) (Ab 2 (nN [0,3] (hJ4 _ _ (by omega:n-(k+1)<n-k) ⟨k+1,rfl,⟨ω,ω⟩,rfl⟩))))
 refine Ab 13 (Ix (Ab 21 (tfg [3,4,5,8,9,13,14,15] [(0,0),(1,1),(2,2),(3,3),(11,11),(5,5),(12,12)] 13 [(246,4,n,(λxi=>Cu (Iw g n xi).1)),(22,1,1+f.hn,(λxi=>Cj (Cg f xi)))] ⟨(Df λ_ _=>rfl),(Df λ_ _=>rfl),trivial⟩ (Vr [3,4,5,8,9,13,14,15] (λm s=>∃(q:Nat) (qe:Int),m=n-q/\(1<=q)/\s=⟨[(3,.ptr 0 0),(4,.ptr 1 0),(5,.ptr 2 0),(8,.ptr 3 0),(9,.ptr 5 0),(13,.ptr 12 0),(14,.fn 170 [.ptr 12 0]),(15,.int (q:Int))],[(0,.box 25 [Cj f.o,hsA f,.int f.low,.int f.high]),(1,.box 33 [.int a.x,.int a.y,.int a.z]),(2,.box 33 [.int b.x,.int b.y,.int b.z]),(3,.box 197 [.bool (decide ((1:Int)<0)),.lit (.string (Cz (1:Int).natAbs))]),(11,.vec 246 4 n (λxi=>Cu (Iw g n xi).1)),(5,.box 256 [.osl 11 4 n]),(12,.box 264 [.int qe])],13,131⟩) (n-1) ⟨1,0,rfl,Nat.le_refl _,κ⟩ ?_))))
 rintro _ _ ⟨q,qe,rfl,hF,rfl⟩ hJ7
 refine Ab 9 (Hg 82 ((q:Int)<(n:Int)) (λhx68 hx68d=>?_) (λhx68 hx68d=>?_))
 refine Ab 6 (Dx (oA ((Iw g n (q-1)).1) ((Iw g n q).1)) λv69 hv69=>(gs (Cl [(2,.int ((q-1:Nat):Int),.none),(3,Co (.osl 11 4 n) (q-1),.none),(4,Cu (Iw g n (q-1)).1,(.read 11)),(7,Co (.osl 11 4 n) q,.none),(8,Cu (Iw g n q).1,(.read 11)),(9,_,.none)] [3,4,5,8,9,13,14,15,16] ⟨Bk (.int .i64 (IntKind.wrap .i64 ((q:Int)-1))) η,Ht (q-1) n,Br (Bi 246 (.tmp 89) κ isAgg246 4 sizeOf246 11 (q-1) κ 246 n (λxi=>Cu (Iw g n xi).1) κ ω),Ht q n,Br (Bi 246 (.tmp 93) κ isAgg246 4 sizeOf246 11 q κ 246 n (λxi=>Cu (Iw g n xi).1) κ ω),Be hv69,trivial⟩ ·) (Ab 2 (Dx (oB (⟨⟨(gB (gT (gT v69 0) 0)),(gS (gT (gT v69 0) 1))⟩,⟨(gB (gT (gT v69 0) 2)),(gS (gT (gT v69 0) 3))⟩⟩) (⟨⟨decide ((1:Int)<0),Cz (1:Int).natAbs⟩,⟨decide ((2:Int)<0),Cz (2:Int).natAbs⟩⟩)) λv70 hv70=>(gs (Cl [(2,_,.none),(4,_,.none)] [3,4,5,8,9,13,14,15,18] ⟨Be (Dh 2 δ δ),Be hv70,trivial⟩ ·) (Ab 2 (Exists.elim (Qx qe a.x (Ai (b.x-a.x)) (⟨⟨(gB (gT (gT v70 0) 0)),(gS (gT (gT v70 0) 1))⟩,⟨(gB (gT (gT v70 0) 2)),(gS (gT (gT v70 0) 3))⟩⟩)) λv71 hv71=>(Exists.elim (Qx v71.2 a.y (Ai (b.y-a.y)) (⟨⟨(gB (gT (gT v70 0) 0)),(gS (gT (gT v70 0) 1))⟩,⟨(gB (gT (gT v70 0) 2)),(gS (gT (gT v70 0) 3))⟩⟩)) λv72 hv72=>(Exists.elim (yQ v72.2 (⟨⟨(gB (gT v71.1 0)),(gS (gT v71.1 1))⟩,⟨(gB (gT v71.1 2)),(gS (gT v71.1 3))⟩⟩) (⟨⟨(gB (gT v72.1 0)),(gS (gT v72.1 1))⟩,⟨(gB (gT v72.1 2)),(gS (gT v72.1 3))⟩⟩)) λv73 hv73=>(gs (Cl [(9,_,_),(19,_,_),(20,_,_)] [3,4,5,8,9,13,14,15,20] ⟨bN 12 [] hv71,bN 12 [] hv72,bN 12 [] hv73,trivial⟩ ·) (Ab 5 (Exists.elim (yP v73.2 (⟨⟨(gB (gT v73.1 0)),(gS (gT v73.1 1))⟩,⟨(gB (gT v73.1 2)),(gS (gT v73.1 3))⟩,⟨(gB (gT v73.1 4)),(gS (gT v73.1 5))⟩⟩) f h0) λv74 hv74=>(gs (vcx 12 [15] hv74 ·) (Ab 3 (Ev 130 ?_ ?_)))))))))))))))
 exact Ab 13 (Bc)
 exact Ab 6 (gs (Dd ((q:Int)+1) ((q+1:Nat):Int) ·) (Ab 2 (Fw [3,4,5,8,9,13,14,15] [(0,0),(1,1),(2,2),(3,3),(11,11),(5,5),(12,12)] 13 [(246,4,n,(λxi=>Cu (Iw g n xi).1))] ⟨(Df λ_ _=>rfl),trivial⟩ (hJ7 _ _ (by omega:n-(q+1)<n-q) ⟨q+1,v74.2,rfl,ω,rfl⟩))))
 exact Ab 13 (Bc)
 refine Ev 49 ?_ ?_
 refine Ab 8 (Ev 55 ?_ ?_)
 exact Ab 9 (Bc)
 exact Vt [3,4,5,6,7,55] hS6
 exact Ab 8 (Vt [3,4,5,6,7,55] hS6)
 exact Ab 20 (Bc)
theorem pQ:Hd:=λf a b h=>Adw f a b h
theorem AhG {b:Bool} (h:AV.bool b= .bool true):b=true:=by injection h with h;injection h
theorem mG (f:Mh):∃r,(Ga [.one .b] r/\(r= .bool true->f.o.n<=8/\f.hn<=1/\∀q,q<f.hn->(f.h q).n<=8))/\AF Tryz.prog 5 [Jz f] r:=by
 refine Av func5 rfl ?_
 refine Ab 13 (Hg 7 ((f.o.n:Int)<=8) (λhx1 hx1d=>?_) (λhx1 hx1d=>?_))
 refine Ab 6 (Hg 13 ((f.hn:Int)<=1) (λhx2 hx2d=>?_) (λhx2 hx2d=>?_))
 refine Ab 5 (Hg 18 ((f.hn:Int)=0) (λhx3 hx3d=>?_) (λhx3 hx3d=>?_))
 exact Ab 12 (Fc (.bool true) (λh=>⟨ω,ω,λq hq=>absurd hq ω⟩))
 exact Ab 2 (gs (Fd 0 f.hn ·) (Ab 9 (Fc (.bool (decide (((f.h 0).n:Int)<=8))) (λh=>by have h9:=of_decide_eq_true (AhG h);exact⟨ω,ω,λq hq=>by(obtain rfl:q=0:=(ω));omega⟩))))
 exact Ab 17 (Fc (.bool false) (λh=>by cases h))
 exact Ab 23 (Fc (.bool false) (λh=>by cases h))
noncomputable def Yr (f:Mh):Value:=chP 5 [.one .b] [Jz f] λr=>r= .bool true->f.o.n<=8/\f.hn<=1/\∀q,q<f.hn->(f.h q).n<=8
theorem Acm (f:Mh):AF Tryz.prog 5 [Jz f] (.lit (Hi [.one .b] (Yr f))):=(Ov (mG f)).1
theorem AiO {f:Mh} (hz:∀i,f.hn<=i->(f.h i).n=0) (h:gB (Yr f)=true):Zz f:=by
 have h1:=(Ov (mG f)).2 (congrArg AV.bool h)
 refine⟨ω,ω,λi=>?_⟩
 by_cases hi:i<f.hn
 have:=h1.2.2 i hi
 omega
 have:=hz i ω
 omega
def AqL (x:Pm):Prop:=(∀i,x.area.hn<=i->(x.area.h i).n=0)/\Cf x.fr/\Cf x.til/\Cf x.craft
theorem aD (f:Mh) (b:Bool) (h:gB (Yr f)=b):AF Tryz.prog 5 [Jz f] (.bool b):=by
 have h9:AF Tryz.prog 5 [Jz f] (.bool (gB (Yr f))):=Acm f
 rwa [h] at h9
theorem dI (p:Pr) (b:Bool) (h:bP (Ake p 3 3)=b):AF Tryz.prog 4 [Ie p,.int 3,.int 3] (.bool b):=by
 have h9:=Afu p 3 3 ⟨δ,δ⟩ ⟨δ,δ⟩
 rwa [h] at h9
theorem AkG (y:Sh) (w:World):(Op.equal 35 (kH y) (kH y)).run Tryz.prog w= .ok true w:=by
 have h1:=Tryz.runUnderlying35
 have h2:=Tryz.runUnderlying33
 have h3:=Tryz.runUnderlying3
 have h4:=Tryz.runUnderlying4
 have a2:=isAgg33
 have a3:=isAgg3
 have a4:=isAgg4
 have s2:=sizeOf33
 have hi1:Tryz.prog.stoodInHeld 35=false:=κ
 have hi2:Tryz.prog.stoodInHeld 33=false:=κ
 unfold Op.equal
 rw[show Op.maxDepth=9997+1+1+1 from rfl]
 unfold Op.equalIn
 simp[h1,part,a2,a3,a4,s2,hi1]
 unfold Op.equalIn
 simp[h2,h3,h4,part,a3,hi2]
 unfold Op.equalIn
 simp[h3]
theorem ApL {L:List (Int×Int)} {x y:Int} {q:Nat} (h:mbL L x y q=true):true=mbL L x y (q+1):=by rw[mbL,h,Bool.true_or]
theorem ApK {L:List (Int×Int)} {x y:Int} {q:Nat} (h:mbL L x y q=false):decide ((L.getD q (0,0)).1=x/\(L.getD q (0,0)).2=y)=mbL L x y (q+1):=by rw[mbL,h,Bool.false_or]
theorem cQ (x:Pm) (p:Pr) (st:Int) (y:Sh) (t m0 m1 m2:Int) (hz:AqL x) (hl:∀a∈p.acts,Cf a.len):Vf Hw Tryz.prog 3 [Uo x,Ie p,.int st,.lit (kH y),.int t,.lit (.agg #[.int .i64 m0,.int .i64 m1,.int .i64 m2])] (.bool true):=by
 cases hfw:bP (Ake p 3 3) with
 |false=>
  refine Kc Ew func3 rfl λB D0 hA0 hT=>?_
  refine Ae 13 (Ao (dI p _ hfw) (Ae 12 (Gu hT Er ?_)))
  exact Ae 5 (Cm)
 |true=>
  have hp:fF p:=AnE (sO hfw) δ δ hl
  cases hsm:gB (Yr x.area) with
  |false=>
   refine Kc Ew func3 rfl λB D0 hA0 hT=>?_
   refine Ae 13 (Ao (dI p _ hfw) (Ae 4 (Ao (aD x.area _ hsm) (Ae 7 (Gu hT Er ?_)))))
   exact Ae 5 (Cm)
  |true=>
   have hx:yC x:=⟨AiO hz.1 hsm,hz.2.1,hz.2.2.1,hz.2.2.2⟩
   refine Kc Ew func3 rfl λB D0 hA0 hT=>?_
   have t13:Go Tryz.prog none B D0 (QF Tryz.prog B D0 Tryz.f3 (.bool true)) ⟨.code (fP Tryz.f3 4),[],⟨[(2,.lit (.int .i64 st)),(6,.ptr 0 0),(7,.ptr 1 0),(11,.ptr 2 0)],[(0,.box 27 [Cj x.area.o,hsA x.area,.lit (.int .i64 x.area.low),.lit (.int .i64 x.area.high),.lit (.int .i64 x.fr),.lit (.int .i64 x.til),.lit (.int .i64 x.craft)]),(1,.box 31 [Jj p.names,Oi p.homes,Lh p.acts]),(2,.box 36 [.lit (.int .i64 m0),.lit (.int .i64 m1),.lit (.int .i64 m2)])],3,196⟩⟩:=by
    by_cases hok:qJ x=true/\Ef p=true/\(0<=st/\st<=86400000)
    ·
     obtain⟨hv,h,hs⟩:=hok
     by_cases hk:p.acts.length=0
     ·
      skip
      refine Ae 5 (Ao (cR x p st hx hp hv h hs hk) (Ae 21 (Gu hT Er ?_)))
      exact Ae 6 (Cm)
     ·
      have hpn:=(Vb h).n1
      have ht:=Aix hv
      unfold pmT at ht
      have hLl:=AhI x p st
      refine Ae 5 (Ao (Wt x p st hx hp pQ hv h hs ω) (Ae 24 (Mg 3 (Ae 19 (Fy 111 (m0<0) (λhx101 hx101d=>?_) (λhx101 hx101d=>?_))))))
      ·
       refine Ae 10 (Gu hT Er ?_)
       exact Ae 9 (Cm)
      ·
       refine Ae 7 (Fy 116 ((1000:Int)<m0) (λhx102 hx102d=>?_) (λhx102 hx102d=>?_))
       ·
        refine Ae 3 (Gu hT Er ?_)
        exact Ae 9 (Cm)
       ·
        refine Ae 6 (Bo (.int .i64 1) (.int .i64 1) (Ae 22 (Fy 111 (m1<0) (λhx103 hx103d=>?_) (λhx103 hx103d=>?_))))
        ·
         refine Ae 10 (Gu hT Er ?_)
         exact Ae 9 (Cm)
        ·
         refine Ae 7 (Fy 116 ((1000:Int)<m1) (λhx104 hx104d=>?_) (λhx104 hx104d=>?_))
         ·
          refine Ae 3 (Gu hT Er ?_)
          exact Ae 9 (Cm)
         ·
          refine Ae 6 (Bo (.int .i64 2) (.int .i64 2) (Ae 22 (Fy 111 (m2<0) (λhx105 hx105d=>?_) (λhx105 hx105d=>?_))))
          ·
           refine Ae 10 (Gu hT Er ?_)
           exact Ae 9 (Cm)
          ·
           refine Ae 7 (Fy 116 ((1000:Int)<m2) (λhx106 hx106d=>?_) (λhx106 hx106d=>?_))
           ·
            refine Ae 3 (Gu hT Er ?_)
            exact Ae 9 (Cm)
           ·
            refine Ae 6 (Bo (.int .i64 3) (.int .i64 3) (Ae 16 ?_))
            have hwx:yC (Wa x m0 m1 m2):=⟨hx.ok,by unfold Cf Wa;simp only;omega,by unfold Cf Wa;simp only;omega,by unfold Cf Wa;simp only;omega⟩
            have hwv:=Aq2 (a:=m0) (b:=m1) (c:=m2) hv ω ω ω
            have hKl:=AhI (Wa x m0 m1 m2) p st
            refine Ae 8 (Cl [(4,.int (x.craft+m0),.none),(5,.int (min 64 (x.craft+m0)),.none),(10,.int (x.fr-m1),.none),(11,.int (max 0 (x.fr-m1)),.none),(16,.int (x.til+m2),.none),(17,.int (min 86400000 (x.til+m2)),.none)] [2,6,7,21,24] ⟨Bk (.int .i64 (IntKind.wrap .i64 (x.craft+m0))) η,Br (Vo (.const (.int .i64 64)) (.tmp 123) #[3,3] κ 64 (x.craft+m0) κ κ),Bk (.int .i64 (IntKind.wrap .i64 (x.fr-m1))) η,Br (Ip (.const (.int .i64 0)) (.tmp 129) #[3,3] κ 0 (x.fr-m1) κ κ),Bk (.int .i64 (IntKind.wrap .i64 (x.til+m2))) η,Br (Vo (.const (.int .i64 86400000)) (.tmp 135) #[3,3] κ 86400000 (x.til+m2) κ κ),trivial⟩ (Ae 6 (Ao (Wt (Wa x m0 m1 m2) p st hwx hp pQ hwv h hs ω) (Ae 24 (Vc [2,6,7,21,25,27] ((Ka (Wa x m0 m1 m2) p st).length) (λi=>True) (λi=>⟨[(2,.int st),(6,.ptr 0 0),(7,.ptr 1 0),(21,lkV (Ka x p st)),(25,lkV (Ka (Wa x m0 m1 m2) p st)),(27,.int (i:Int))],[(0,.box 27 [Cj x.area.o,hsA x.area,.int x.area.low,.int x.area.high,.int x.fr,.int x.til,.int x.craft]),(1,.box 31 [Jj p.names,Oi p.homes,Lh p.acts]),(2,.box 36 [.int m0,.int m1,.int m2]),(3,.box 27 [Cj x.area.o,hsA x.area,.int x.area.low,.int x.area.high,.int (max 0 (x.fr-m1)),.int (min 86400000 (x.til+m2)),.int (min 64 (x.craft+m0))])],4,196⟩) trivial (λi hin hFi J1 hJ1=>?_))))))
            refine Ae 9 (Fy 152 ((i:Int)<((Ka (Wa x m0 m1 m2) p st).length:Int)) (λhx107 hx107d=>?_) (λhx107 hx107d=>?_))
            ·
             refine Ae 17 (Vc [2,6,7,21,25,27,28,29] ((Ka x p st).length) (λq=>True) (λq=>⟨[(2,.int st),(6,.ptr 0 0),(7,.ptr 1 0),(21,lkV (Ka x p st)),(25,lkV (Ka (Wa x m0 m1 m2) p st)),(27,.int (i:Int)),(28,.bool (mbL (Ka x p st) ((Ka (Wa x m0 m1 m2) p st).getD i (0,0)).1 ((Ka (Wa x m0 m1 m2) p st).getD i (0,0)).2 q)),(29,.int (q:Int))],[(0,.box 27 [Cj x.area.o,hsA x.area,.int x.area.low,.int x.area.high,.int x.fr,.int x.til,.int x.craft]),(1,.box 31 [Jj p.names,Oi p.homes,Lh p.acts]),(2,.box 36 [.int m0,.int m1,.int m2]),(3,.box 27 [Cj x.area.o,hsA x.area,.int x.area.low,.int x.area.high,.int (max 0 (x.fr-m1)),.int (min 86400000 (x.til+m2)),.int (min 64 (x.craft+m0))])],4,196⟩) trivial (λq hqn hFq J2 hJ2=>?_))
             refine Ae 9 (Fy 158 ((q:Int)<((Ka x p st).length:Int)) (λhx108 hx108d=>?_) (λhx108 hx108d=>?_))
             ·
              refine Ae 5 ?_
              refine Ec (mbL (Ka x p st) ((Ka (Wa x m0 m1 m2) p st).getD i (0,0)).1 ((Ka (Wa x m0 m1 m2) p st).getD i (0,0)).2 q) (λhx109=>?_) (λhx109=>?_)
              ·
               refine Cl [(0,.bool true,.none)] [2,6,7,21,25,27,28,29] ⟨rG hx109,trivial⟩ (Ae 4 (Dd ((q:Int)+1) ((q+1:Nat):Int) (Ae 2 (wI 28 (.bool true) (.bool (mbL (Ka x p st) ((Ka (Wa x m0 m1 m2) p st).getD i (0,0)).1 ((Ka (Wa x m0 m1 m2) p st).getD i (0,0)).2 (q+1))) (vrE (congrArg AV.bool (ApL hx109))) ?_))))
               exact rE [2,6,7,21,25,27,28,29] (hJ2 ω trivial)
              ·
               refine Cl [(0,.bool false,.none),(4,Co (lkV (Ka x p st)) q,.none),(8,Co (lkV (Ka (Wa x m0 m1 m2) p st)) i,.none),(10,.bool (decide (((Ka x p st).getD q (0,0)).1=((Ka (Wa x m0 m1 m2) p st).getD i (0,0)).1/\((Ka x p st).getD q (0,0)).2=((Ka (Wa x m0 m1 m2) p st).getD i (0,0)).2)),.none)] [2,6,7,21,25,27,28,29] ⟨rG hx109,Ht q ((Ka x p st).length),Ht i ((Ka (Wa x m0 m1 m2) p st).length),Br (dW 55 55 (.tmp 166) (.tmp 170) κ _ _ κ κ κ (decide (((Ka x p st).getD q (0,0)).1=((Ka (Wa x m0 m1 m2) p st).getD i (0,0)).1/\((Ka x p st).getD q (0,0)).2=((Ka (Wa x m0 m1 m2) p st).getD i (0,0)).2)) (An6 _ _ _ _)),trivial⟩ (Ae 4 (Dd ((q:Int)+1) ((q+1:Nat):Int) (Ae 2 (wI 28 (.bool (decide (((Ka x p st).getD q (0,0)).1=((Ka (Wa x m0 m1 m2) p st).getD i (0,0)).1/\((Ka x p st).getD q (0,0)).2=((Ka (Wa x m0 m1 m2) p st).getD i (0,0)).2))) (.bool (mbL (Ka x p st) ((Ka (Wa x m0 m1 m2) p st).getD i (0,0)).1 ((Ka (Wa x m0 m1 m2) p st).getD i (0,0)).2 (q+1))) (vrE (congrArg AV.bool (ApK hx109))) ?_))))
               exact rE [2,6,7,21,25,27,28,29] (hJ2 ω trivial)
             ·
              refine Ae 6 (wI 28 (.bool (mbL (Ka x p st) ((Ka (Wa x m0 m1 m2) p st).getD i (0,0)).1 ((Ka (Wa x m0 m1 m2) p st).getD i (0,0)).2 q)) (.bool true) (vrE (congrArg AV.bool (by rw[show q=(Ka x p st).length by omega];exact Aoa (λe9 he9=>Ams hv ω ω ω he9) ω))) ?_)
              exact Ae 12 (Dd ((i:Int)+1) ((i+1:Nat):Int) (Ae 2 (rE [2,6,7,21,25,27] (hJ1 ω trivial))))
            ·
             refine Ae 9 (Oh 4 27 7 1 (λ_=>Uo x) ?_)
             refine Ae 2 (Ci (.lit (.tuple #[.int .i64 0,.int .i64 (fd1 (Ka x p st).length)])) (.read 4) (Ri 14 #[.tmp 177,.tmp 178,.tmp 179] #[57,31,3] κ (λ_ _=>by kernel_rfl) 4 (.vec 27 7 1 (λ_=>Uo x)) κ (λ_ _ _ _ h=>by cases h;exact(Df λ_ _=>rfl)) [.osl 4 7 1,Ie p,.int st] κ [.sl 7 1 (λ_=>Uo x),Ie p,.int st] κ (.tuple #[.int .i64 0,.int .i64 (fd1 (Ka x p st).length)]) (Afv x p st hx hp pQ hv h hs ω)) (Ae 17 (Bo (.bool (decide ((fd1 (Ka x p st).length)=0)==decide (((Ka x p st).length:Int)=0))) (.bool true) ?_ (congrArg Value.bool (AnD (Ka x p st).length)))))
             refine Ae 2 (Gu hT Er ?_)
             exact Ae 5 (Cm)
    ·
     skip
     refine Ae 5 (Ao (eS x p st hx hp hok) (Ae 21 (Gu hT Er ?_)))
     exact Ae 6 (Cm)
   have t8:Go Tryz.prog none B D0 (QF Tryz.prog B D0 Tryz.f3 (.bool true)) ⟨.code (AqU (fP Tryz.f3 3)),[.seq (Aoh 1 (fP Tryz.f3 3))],⟨[(2,.lit (.int .i64 st)),(4,.lit (.int .i64 t)),(6,.ptr 0 0),(7,.ptr 1 0),(11,.ptr 2 0)],[(0,.box 27 [Cj x.area.o,hsA x.area,.lit (.int .i64 x.area.low),.lit (.int .i64 x.area.high),.lit (.int .i64 x.fr),.lit (.int .i64 x.til),.lit (.int .i64 x.craft)]),(1,.box 31 [Jj p.names,Oi p.homes,Lh p.acts]),(2,.box 36 [.lit (.int .i64 m0),.lit (.int .i64 m1),.lit (.int .i64 m2)])],3,196⟩⟩:=by
    by_cases hd:0<=t/\t<=86400000
    ·
     skip
     refine Ae 3 (Ao (AjK hd) (Ae 6 (Gu hT (Wo t hd) ?_)))
     refine Ae 10 (Gu hT (eJ t hd) ?_)
     exact Ae 19 (La 86 (!decide (t=t)) false (congrArg (!·) (decide_eq_true ω)) (Ae 6 (Vy [2,6,7,11] [(0,0),(1,1),(2,2)] 3 0 hA0 [] trivial t13)))
    ·
     skip
     exact Ae 3 (Ao (AjJ hd) (Ae 5 (Vy [2,6,7,11] [(0,0),(1,1),(2,2)] 3 0 hA0 [] trivial t13)))
   cases hsh:bP (ShP y) with
   |false=>
    exact Ae 13 (Ao (dI p _ hfw) (Ae 4 (Ao (aD x.area _ hsm) (Ae 11 (Ao (by have h9:=eW y;rwa [hsh] at h9) (Ae 6 (Vy [2,4,6,7,11] [(0,0),(1,1),(3,2)] 3 0 hA0 [] trivial t8)))))))
   |true=>
    have hy:=sO hsh
    refine Ae 13 (Ao (dI p _ hfw) (Ae 4 (Ao (aD x.area _ hsm) (Ae 11 (Ao (by have h9:=eW y;rwa [hsh] at h9) (Ae 6 (Gu hT (Afk y hy) ?_)))))))
    refine Ae 10 (Gu hT (wV y hy) ?_)
    exact Ae 19 (Ci (.bool false) .none (Ld (Zd 35 35 (.tmp 61) (.tmp 62) κ _ _ κ κ κ true (AkG y)) (show (!(true):Bool)=false from rfl)) (Ae 7 (Vy [2,4,6,7,11] [(0,0),(1,1),(3,2)] 3 0 hA0 [] trivial t8)))
end Go.Proofs.YtkpjchfniejdoaaGreatDoor
namespace Go.Proofs.YtkpjchfniejdoaaGreatDoor.Open
open Go.ChangeShapes Go.WideShapes Go.ChangeAt Go.RowKit Go.Deep
section
variable {H:Type} {enc:TypeId×Value->H} {W:World}
def jT (W:World) (x:AV) (v:Value):Prop:=∀E:As,E.w=W->(∀b,b<W.heap.size->E.D b)->VR E x v
theorem AbB {a0:Option Addr} {l0 c0 fuel:Nat} {y:DataW H×List MemPlace} (h:DataW.trod enc Tryz.prog W 0 (λ_=>true) true fuel 22 [.slice a0 l0 c0]=some y):∃l:Vs,jT W (Cj l) (.slice a0 l0 c0):=by
 obtain⟨lh,g1,g2,g3,_⟩:=Nb Tryz.underlying22 Ag3 δ h
 obtain⟨Hm,H1,H2⟩:=dV (cells:=λv:V3=>[.int .i64 v.x,.int .i64 v.y,.int .i64 v.z]) lh (λcs hc=>by obtain⟨hl,n,y,ht⟩:=g2 cs hc;exact iH hl ht)
 have hL:Hm.length=l0:=by omega
 subst hL
 have g3':Bv W 0 W.heap.size 3 (.slice a0 Hm.length c0) Hm.length (Iz Hm):=by unfold Iz;rw[<-H2];exact g3
 exact⟨⟨Hm.length,λi=>Hm.getD i V3.zero⟩,λE hw hD=>AbS g3' hw λb hb=>hD b hb.2⟩
theorem tH:∀(l:List (List Value)) (_:∀cs∈l,cs.length=1) (i:Nat),i<l.length->l.flatten.getD (i*1+0) undef=(l.getD i []).getD 0 undef
 |[],_,i,h=>absurd h (Nat.not_lt_zero i)
 |cs::l,h,0,_=>by
  match cs,h cs (by simp) with
  |[a],_=>rfl
 |cs::l,h,i+1,hi=>by
  have ih:=tH l (λc hc=>h c (by simp[hc])) i (by simpa using hi)
  match cs,h cs (by simp) with
  |[a],_=>simpa using ih
end
end Go.Proofs.YtkpjchfniejdoaaGreatDoor.Open
namespace Go.Proofs.YtkpjchfniejdoaaGreatDoor.Open
open Go.ChangeShapes Go.WideShapes Go.ChangeAt Go.RowKit Go.Deep
theorem Aky:Tryz.prog.cellsOf 25=4:=κ
theorem Ag2:Tryz.prog.cellsOf 27=7:=κ
theorem Ak1:Tryz.prog.cellsOf 22=1:=κ
theorem Ag4:Tryz.prog.cellsOf 23=1:=κ
section
variable {H:Type} {enc:TypeId×Value->H} {W:World}
theorem uV {cs:List Value} {n:Nat} {y:DataW H×List MemPlace} (hl:cs.length=4) (h:DataW.trod enc Tryz.prog W 0 (λ_=>true) true n 25 cs=some y):
  ∃(f:Mh) (v0 v1:Value),cs=[v0,v1,.int .i64 f.low,.int .i64 f.high]/\(∀i,f.hn<=i->(f.h i).n=0)/\jT W (Cj f.o) v0/\jT W (hsA f) v1:=by
 match cs,hl with
 |[v0,v1,v2,v3],_=>
  obtain⟨m0,z0,h0⟩:=Bf (ty:=22) (off:=0) Tryz.underlying25 h 0 (by rfl)
  obtain⟨m1,z1,h1⟩:=Bf (ty:=23) (off:=1) Tryz.underlying25 h 1 (by rfl)
  obtain⟨m2,z2,h2⟩:=Bf (ty:=3) (off:=2) Tryz.underlying25 h 2 (by rfl)
  obtain⟨m3,z3,h3⟩:=Bf (ty:=3) (off:=3) Tryz.underlying25 h 3 (by rfl)
  simp only[bM,Ak1,Ag4] at h0 h1 h2 h3
  obtain⟨a0,l0,c0,e0⟩:=Go.Joins.slice_form Tryz.underlying22 h0
  obtain rfl:v0= .slice a0 l0 c0:=by simpa using e0
  obtain⟨a1,l1,c1,e1⟩:=Go.Joins.slice_form Tryz.underlying23 h1
  obtain rfl:v1= .slice a1 l1 c1:=by simpa using e1
  obtain⟨k2,e2,f2⟩:=Dc h2
  obtain rfl:v2= .int .i64 k2:=by simpa using e2
  obtain⟨k3,e3,f3⟩:=Dc h3
  obtain rfl:v3= .int .i64 k3:=by simpa using e3
  obtain⟨o,ho⟩:=AbB h0
  obtain⟨lh,g1,g2,g3,_⟩:=Nb Tryz.underlying23 Ant δ h1
  have hk:∀i,∃q:Vs,(i<l1->jT W (Cj q) (lh.flatten.getD (i*1+0) undef))/\(l1<=i->q.n=0):=λi=>by
   by_cases hi:i<l1
   have hi':i<lh.length:=by omega
   obtain⟨hl,m,y,ht⟩:=g2 lh[i] (List.getElem_mem hi')
   obtain⟨a,c,k,e⟩:=Go.Joins.slice_form Tryz.underlying22 ht
   rw[e] at ht
   obtain⟨q,hq⟩:=AbB ht
   refine⟨q,λ_=>?_,λh=>absurd hi ω⟩
   rw[tH lh (λcs hc=>(g2 cs hc).1) i hi',Γ (l:=lh),List.getElem?_eq_getElem hi',Option.getD_some,e]
   exact hq
   exact⟨⟨0,λ_=>V3.zero⟩,λh=>absurd h hi,λ_=>rfl⟩
  obtain⟨hh,hhs⟩:=Classical.axiomOfChoice hk
  exact⟨⟨o,l1,hh,k2,k3⟩,_,_,rfl,λi hi=>(hhs i).2 hi,ho,λE hw hD=>Ms g3 hw (λb hb=>hD b hb.2) λi j hi hj=>by
   obtain rfl:j=0:=by omega
   exact(hhs i).1 hi E.fz hw hD⟩
theorem Ain {cs:List Value} {n:Nat} {y:DataW H×List MemPlace} (hl:cs.length=7) (h:DataW.trod enc Tryz.prog W 0 (λ_=>true) true n 27 cs=some y):
  ∃(x:Pm) (v0 v1:Value),cs=[v0,v1,.int .i64 x.area.low,.int .i64 x.area.high,.int .i64 x.fr,.int .i64 x.til,.int .i64 x.craft]/\((∀i,x.area.hn<=i->(x.area.h i).n=0)/\Cf x.fr/\Cf x.til/\Cf x.craft)/\jT W (Cj x.area.o) v0/\jT W (hsA x.area) v1:=by
 match cs,hl with
 |[v0,v1,v2,v3,v4,v5,v6],_=>
  obtain⟨m0,z0,h0⟩:=Bf (ty:=25) (off:=0) Tryz.underlying27 h 0 (by rfl)
  obtain⟨m1,z1,h1⟩:=Bf (ty:=3) (off:=4) Tryz.underlying27 h 1 (by rfl)
  obtain⟨m2,z2,h2⟩:=Bf (ty:=3) (off:=5) Tryz.underlying27 h 2 (by rfl)
  obtain⟨m3,z3,h3⟩:=Bf (ty:=3) (off:=6) Tryz.underlying27 h 3 (by rfl)
  simp only[bM,Aky] at h0 h1 h2 h3
  obtain⟨f,w0,w1,e0,hz,t0,t1⟩:=uV (by rfl) h0
  obtain⟨k1,e1,f1⟩:=Dc h1
  obtain⟨k2,e2,f2⟩:=Dc h2
  obtain⟨k3,e3,f3⟩:=Dc h3
  simp at e0 e1 e2 e3
  obtain⟨rfl,rfl,rfl,rfl⟩:=e0
  subst e1 e2 e3
  exact⟨⟨f,k1,k2,k3⟩,_,_,rfl,⟨hz,f1,f2,f3⟩,t0,t1⟩
theorem Amf {x:Pm} {v0 v1:Value} (t0:jT W (Cj x.area.o) v0) (t1:jT W (hsA x.area) v1):jT W (Uo x) (.agg #[v0,v1,.int .i64 x.area.low,.int .i64 x.area.high,.int .i64 x.fr,.int .i64 x.til,.int .i64 x.craft]):=λE hw hD=> .agg _ _ _ rfl λi hi=>by
 have h7:i<7:=hi
 match i,h7 with
 |0,_=>exact t0 E hw hD
 |1,_=>exact t1 E hw hD
 |2,_=>exact .lit _ _
 |3,_=>exact .lit _ _
 |4,_=>exact .lit _ _
 |5,_=>exact .lit _ _
 |6,_=>exact .lit _ _
theorem open_permit {v:Value} {d:DataW H} {p:List MemPlace} {base:Nat} (hv:Value.okWide Tryz.prog W .any base 27 v) (h:DataW.Trod enc Tryz.prog W 0 (λ_=>true) true 27 v d p):
  ∃x:Pm,((∀i,x.area.hn<=i->(x.area.h i).n=0)/\Cf x.fr/\Cf x.til/\Cf x.craft)/\jT W (Uo x) v:=by
 obtain⟨cs,rfl,hsz⟩:=okWide_struct Tryz.underlying27 hv
 obtain⟨fuel,hf⟩:=h
 rw[Ag2] at hsz
 obtain⟨x,v0,v1,e,hz,t0,t1⟩:=Ain (cs:=cs.toList) (by simpa using hsz) (by simpa [Value.cells] using hf)
 have:cs=#[v0,v1,.int .i64 x.area.low,.int .i64 x.area.high,.int .i64 x.fr,.int .i64 x.til,.int .i64 x.craft]:=by
  rw[<-e]
 rw[this]
 exact⟨x,hz,Amf t0 t1⟩
end
end Go.Proofs.YtkpjchfniejdoaaGreatDoor.Open