/- Part 31 of the proof of PL.card_holds, joined by program: no condition beyond the row's own. -/
import Derived.Test.YtihcpmmopejpoaaGreatDoorPL30
set_option maxRecDepth 100000
set_option maxHeartbeats 40000000
namespace Go.Proofs.YtihcpmmopejpoaaGreatDoor
open Go.Proofs.Tryz
open Go.RowKit
theorem Qd (n:Int): -9223372036854775808<=Ai n:=by simp[Ai,IntKind.wrap,IntKind.bits,IntKind.signed];omega
theorem Qc (n:Int):Ai n<=9223372036854775807:=by simp[Ai,IntKind.wrap,IntKind.bits,IntKind.signed];omega
theorem AcH {f:Lu} (h0:Zi f) (h:gB (Mf f)=true) (k:Nat) (hk:k<f.hn+1):3<=(Ca f k).n:=by
 have:=(Ok (lD f h0)).2 (congrArg AV.bool h)
 cases k with
 |zero=>exact this.1
 |succ k=>exact this.2 k ω
def Ij (g:Nat->RQ) (n:Nat) (v:RQ):Nat->RQ:=λk=>if k<n then g k else v
theorem Uq {g:Nat->RQ} {n i:Nat} {v:RQ} (h:i<n):Ij g n v i=g i:=if_pos h
theorem Up (g:Nat->RQ) (n:Nat) (v:RQ):Ij g n v (n+0)=v:=if_neg ω
theorem AdB:Vr ⟨⟨decide ((1:Int)<0),Cj 1⟩,⟨decide ((1:Int)<0),Cj 1⟩⟩:=⟨1,1,Eg δ δ,Eg δ δ,δ,rfl⟩
def Ans (g:Nat->RQ) (i:Nat) (v:RQ):Nat->RQ:=λk=>if k=i then v else g k
def AmU (k:Nat):RQ:=if k=0 then ⟨_,gL⟩ else ⟨_,AdB⟩
theorem AcP (f:Lu) (a b:V3) (h0:Zi f):∃r,Fx [.one .b,.one .i] r/\AF Tryz.prog 106 [Jw f,Bf a,Bf b] r:=by
 have hfok:=h0
 have hn8:=h0.1
 have hn9:=h0.2.1
 refine Au func106 rfl ?_
 refine Ab 13 (gs (Ao (Qj f hfok) ·) (Ab 2 (Aih 24 (gB (Mf f)) (λhx1=>?_) (λhx1=>?_))))
 refine Ab 1 (gs (Ao (Xg a) ·) (Ab 3 (Eu 29 ?_ ?_)))
 exact Ab 15 (Bb)
 refine Ab 1 (gs (Ao (Xg b) ·) (Ab 4 (Eu 33 ?_ ?_)))
 exact Ab 9 (Bb)
 refine Ab 8 (Dx (dT f a h0) λv3 hv3=>(gs (Ao hv3 ·) (Ab 2 (Eu 38 ?_ ?_))))
 exact Ab 16 (Bb)
 refine Ab 2 (Dx (dT f b h0) λv5 hv5=>(gs (Ao hv5 ·) (Ab 4 (Eu 43 ?_ ?_))))
 exact Ab 9 (Bb)
 refine Ab 12 (tsh 8 49 false [3,4,5,6,7,55] ?_ (λhS6=>?_))
 refine Ab 5 (gs (Ao (Ep 1 δ δ) ·) (Ab 11 (gs (Kf 4 221 4 2 (λxi=>[.lit (.agg #[.bool false,.string ⟨#[]⟩,.bool (decide ((1:Int)<0)),.string (Cj (1:Int).natAbs)]),.lit (.agg #[.bool (decide ((1:Int)<0)),.string (Cj (1:Int).natAbs),.bool (decide ((1:Int)<0)),.string (Cj (1:Int).natAbs)])].getD xi .top) ·) (Ab 5 (gs (Xa 4 221 4 2 (λxi=>[.lit (.agg #[.bool false,.string ⟨#[]⟩,.bool (decide ((1:Int)<0)),.string (Cj (1:Int).natAbs)]),.lit (.agg #[.bool (decide ((1:Int)<0)),.string (Cj (1:Int).natAbs),.bool (decide ((1:Int)<0)),.string (Cj (1:Int).natAbs)])].getD xi .top) (λxi=>Cp (AmU xi).1) (λx9 hx9=>by(match x9,hx9 with|0,_=>rfl|1,_=>rfl|_+2,h=>exact absurd h ω)) ·) ?_)))))
 have hV:=AcH h0 hx1
 refine Ab 3 (cE func139 (Ab 13 (Iw (Ab 3 (gs (vnm [3,4,5,6,7,8,9,64] ·) (uL func191 λsp8 sp8p sp8a sp8b=>(Ab 9 (gs (Ao (Qj f hfok) ·) (Ab 3 (iA 9 (!(gB (Mf f))) false (nt hx1) (Ab 7 (gs (Kf 9 22 1 1 (λ_=>Cd f.o) ·) (Ab 2 (gs (Ct (.osl 10 1 (1+f.hn)) (.grow 9 10 (.vec 22 1 (1+f.hn) (λxi=>Cd (Ca f xi)))) (fS (.tmp 12) (.tmp 14) 23 κ underlying23 1 24 (.slice none 0 0) κ κ δ sizeOf22 1 f.hn (λ_=>Cd f.o) (λi0=>Cd (f.h i0)) (λxi=>Cd (Ca f xi)) 10 ω (by unfold maxLen;omega) (λi hi=>by(obtain rfl:i=0:=(ω));rfl) (λi hi=>by rw[Nat.add_comm];rfl) (λi hi j hj=>by obtain rfl:j=0:=(ω);rfl) 9 κ κ κ) ·) (Ab 5 (tfg [2,15,16,17] [(0,0),(1,1),(2,2),(3,3),(4,11),(5,5),(6,6),(7,7),(8,8),(10,10)] 12 [(221,4,2,(λxi=>Cp (AmU xi).1)),(22,1,1+f.hn,(λxi=>Cd (Ca f xi)))] ⟨(Ce λ_ _=>rfl),(Ce λ_ _=>rfl),trivial⟩ (Vj [2,15,16,17] (λm s=>∃(i n:Nat) (g:Nat->RQ),m=f.hn+1-i/\(n<=2+128*i/\i<=f.hn+1)/\s=⟨[(2,.ptr 8 0),(15,.osl 10 1 (1+f.hn)),(16,.int ((1+f.hn:Nat):Int)),(17,.int (i:Int))],[(0,.box 25 [Cd f.o,hsA f,.int f.low,.int f.high]),(1,.box 79 [.int a.x,.int a.y,.int a.z]),(2,.box 79 [.int b.x,.int b.y,.int b.z]),(3,.box 169 [.bool (decide ((1:Int)<0)),.lit (.string (Cj (1:Int).natAbs))]),(11,.vec 221 4 n (λxi=>Cp (g xi).1)),(5,.box 231 [.osl 11 4 n]),(6,.box 25 [Cd f.o,hsA f,.int f.low,.int f.high]),(7,.loop .ready none sp8 [(3,.ptr 0 0),(4,.ptr 1 0),(5,.ptr 2 0),(6,.bool false),(7,.int 0),(8,.ptr 3 0),(9,.ptr 5 0),(64,.fn 191 [.ptr 6 0])] 131),(8,.box 115 [.yld 7]),(10,.vec 22 1 (1+f.hn) (λxi=>Cd (Ca f xi)))],12,43⟩) (f.hn+1-0) ⟨0,2,AmU,rfl,⟨ω,ω⟩,κ⟩ ?_)))))))))))))))))
 rintro _ _ ⟨i,n,g,rfl,hF,rfl⟩ hJ1
 have hn1:=Aaw h0 i
 have hn7:=hV 0 ω
 have hn6:(Ca f 0).n=f.o.n:=rfl
 refine Ab 6 (Hf 18 ((i:Int)<((1+f.hn:Nat):Int)) (λhx10 hx10d=>?_) (λhx10 hx10d=>?_))
 refine Ab 5 ?_
 have hn3:=hV i ω
 refine Ab 3 (gs (Hk i (1+f.hn) ·) (gs (Ct (Cd (Ca f i)) (.read 10) (Pz 22 (.tmp 20) κ isAgg22 10 i 0 1 κ 22 (1+f.hn) (λxi=>Cd (Ca f xi)) κ ω δ) ·) (Ab 8 (Dx (AeI (Ca f i) ω) λv11 hv11=>(gs (Ao hv11 ·) (Ab 3 (gs (Cy (.bool (!decide (decide ((0:Int)<(gI v11))=decide ((i:Int)=0)))) (.bool (!decide (decide ((0:Int)<(gI v11))=decide ((i:Int)=0)))) ·) (Ab 2 (tjv 3 27 false (λl9:Vs=>⟨[(2,.ptr 8 0),(4,Cd l9),(15,.osl 10 1 (1+f.hn)),(16,.int ((1+f.hn:Nat):Int)),(17,.int (i:Int))],[(0,.box 25 [Cd f.o,hsA f,.int f.low,.int f.high]),(1,.box 79 [.int a.x,.int a.y,.int a.z]),(2,.box 79 [.int b.x,.int b.y,.int b.z]),(3,.box 169 [.bool (decide ((1:Int)<0)),.lit (.string (Cj (1:Int).natAbs))]),(11,.vec 221 4 n (λxi=>Cp (g xi).1)),(5,.box 231 [.osl 11 4 n]),(6,.box 25 [Cd f.o,hsA f,.int f.low,.int f.high]),(7,.loop .ready none sp8 [(3,.ptr 0 0),(4,.ptr 1 0),(5,.ptr 2 0),(6,.bool false),(7,.int 0),(8,.ptr 3 0),(9,.ptr 5 0),(64,.fn 191 [.ptr 6 0])] 131),(8,.box 115 [.yld 7]),(10,.vec 22 1 (1+f.hn) (λxi=>Cd (Ca f xi)))],12,43⟩) (λl9=>l9.n<=64/\3<=l9.n) (λl9 hl9=>?_) (λhJ9=>?_))))))))))
 have hl8:l9.n<=64/\3<=l9.n:=hl9
 refine Ab 3 (cE func34 (Ab 13 (Iw (Ab 3 (gs (vnm [2,15,16,17,34] ·) (uL func52 λsp13 sp13p sp13a sp13b=>(Ab 8 (tfg [0,1,6,7,8] [(0,0),(1,1),(2,2),(3,3),(11,14),(5,5),(6,6),(7,7),(8,8),(10,10),(12,12),(13,13)] 15 [(221,4,n,(λxi=>Cp (g xi).1)),(22,1,1+f.hn,(λxi=>Cd (Ca f xi)))] ⟨(Ce λ_ _=>rfl),(Ce λ_ _=>rfl),trivial⟩ (Vj [0,1,6,7,8] (λm s=>∃(j3 j3n:Nat) (j3g:Nat->RQ),m=l9.n-j3/\(j3n<=2+128*i+2*j3/\j3<=l9.n)/\s=⟨[(0,.yld 13),(1,.ptr 12 0),(6,Cd l9),(7,.int ((l9.n:Nat):Int)),(8,.int ((j3:Nat):Int))],[(0,.box 25 [Cd f.o,hsA f,.int f.low,.int f.high]),(1,.box 79 [.int a.x,.int a.y,.int a.z]),(2,.box 79 [.int b.x,.int b.y,.int b.z]),(3,.box 169 [.bool (decide ((1:Int)<0)),.lit (.string (Cj (1:Int).natAbs))]),(14,.vec 221 4 j3n (λxi=>Cp (j3g xi).1)),(5,.box 231 [.osl 14 4 j3n]),(6,.box 25 [Cd f.o,hsA f,.int f.low,.int f.high]),(7,.loop .ready none sp8 [(3,.ptr 0 0),(4,.ptr 1 0),(5,.ptr 2 0),(6,.bool false),(7,.int 0),(8,.ptr 3 0),(9,.ptr 5 0),(64,.fn 191 [.ptr 6 0])] 131),(8,.box 115 [.yld 7]),(10,.vec 22 1 (1+f.hn) (λxi=>Cd (Ca f xi))),(12,.box 22 [Cd l9]),(13,.loop .ready none sp13 [(2,.ptr 8 0),(15,.osl 10 1 (1+f.hn)),(16,.int ((1+f.hn:Nat):Int)),(17,.int (i:Int)),(34,.fn 52 [.ptr 12 0])] 43)],15,35⟩) (l9.n-0) ⟨0,n,g,rfl,⟨ω,ω⟩,κ⟩ ?_)))))))))
 rintro _ _ ⟨j3,j3n,j3g,rfl,hF,rfl⟩ hJ2
 refine Ab 6 (Hf 9 (((j3:Nat):Int)<((l9.n:Nat):Int)) (λhx15 hx15d=>?_) (λhx15 hx15d=>?_))
 refine Ab 8 (gs (Hk j3 l9.n ·) (Ab 7 ?_))
 have hm15:=Nat.mod_lt (j3+1) (by omega:0<l9.n)
 refine gs (Cn [(2,.int ((j3+1:Nat):Int),.none),(5,.int (((j3+1)%l9.n:Nat):Int),.none),(6,Cv (Cd l9) ((j3+1)%l9.n),.none)] [0,1,4,5,6,7,8] ⟨Ea (.int .i64 (IntKind.wrap .i64 (((j3:Nat):Int)+1))) η,tW ((j3+1:Nat):Int) ((l9.n:Nat):Int) (((j3+1)%l9.n:Nat):Int) ω rfl,Jg ((j3+1)%l9.n) l9.n,trivial⟩ ·) (Ab 14 (iH sp13p sp13a (Ab 10 (iG sp13b ?_))))
 refine Ab 6 (iH sp8p sp8a (Ab 10 (iG sp8b ?_)))
 refine Ab 7 (cE func140 (Ab 17 (gs (Cn [] [5,6,7,8,9,11,12,13] trivial ·) (Ab 28 (Eu 42 ?_ ?_)))))
 refine Ab 29 (gs (Kf 26 287 2 1 (λ_=> .lit (.agg #[.int .i64 (Ai (Ai ((Ai ((l9.f j3).x-a.x))*(Ai ((l9.f ((j3+1)%l9.n)).y-(l9.f j3).y)))-Ai ((Ai ((l9.f j3).y-a.y))*(Ai ((l9.f ((j3+1)%l9.n)).x-(l9.f j3).x))))),.int .i64 (Ai (Ai ((Ai (b.x-a.x))*(Ai ((l9.f ((j3+1)%l9.n)).y-(l9.f j3).y)))-Ai ((Ai (b.y-a.y))*(Ai ((l9.f ((j3+1)%l9.n)).x-(l9.f j3).x)))))])) ·) (uK func194 (Ab 8 (gs (Ta 3 ·) (Ab 13 (gs (Hk 0 1 ·) (gs (Ct (.lit (.agg #[.int .i64 (Ai (Ai ((Ai ((l9.f j3).x-a.x))*(Ai ((l9.f ((j3+1)%l9.n)).y-(l9.f j3).y)))-Ai ((Ai ((l9.f j3).y-a.y))*(Ai ((l9.f ((j3+1)%l9.n)).x-(l9.f j3).x))))),.int .i64 (Ai (Ai ((Ai (b.x-a.x))*(Ai ((l9.f ((j3+1)%l9.n)).y-(l9.f j3).y)))-Ai ((Ai (b.y-a.y))*(Ai ((l9.f ((j3+1)%l9.n)).x-(l9.f j3).x)))))])) (.read 26) (Bg 287 (.tmp 11) κ isAgg287 2 sizeOf287 26 0 κ 287 1 (λ_=> .lit (.agg #[.int .i64 (Ai (Ai ((Ai ((l9.f j3).x-a.x))*(Ai ((l9.f ((j3+1)%l9.n)).y-(l9.f j3).y)))-Ai ((Ai ((l9.f j3).y-a.y))*(Ai ((l9.f ((j3+1)%l9.n)).x-(l9.f j3).x))))),.int .i64 (Ai (Ai ((Ai (b.x-a.x))*(Ai ((l9.f ((j3+1)%l9.n)).y-(l9.f j3).y)))-Ai ((Ai (b.y-a.y))*(Ai ((l9.f ((j3+1)%l9.n)).x-(l9.f j3).x)))))])) κ ω) ·) (Ab 10 (Exists.elim (gO (Ai (Ai ((Ai ((l9.f j3).x-a.x))*(Ai ((l9.f ((j3+1)%l9.n)).y-(l9.f j3).y)))-Ai ((Ai ((l9.f j3).y-a.y))*(Ai ((l9.f ((j3+1)%l9.n)).x-(l9.f j3).x))))) (Ai (Ai ((Ai (b.x-a.x))*(Ai ((l9.f ((j3+1)%l9.n)).y-(l9.f j3).y)))-Ai ((Ai (b.y-a.y))*(Ai ((l9.f ((j3+1)%l9.n)).x-(l9.f j3).x))))) (Qd (Ai ((Ai ((l9.f j3).x-a.x))*(Ai ((l9.f ((j3+1)%l9.n)).y-(l9.f j3).y)))-Ai ((Ai ((l9.f j3).y-a.y))*(Ai ((l9.f ((j3+1)%l9.n)).x-(l9.f j3).x))))) (Qc (Ai ((Ai ((l9.f j3).x-a.x))*(Ai ((l9.f ((j3+1)%l9.n)).y-(l9.f j3).y)))-Ai ((Ai ((l9.f j3).y-a.y))*(Ai ((l9.f ((j3+1)%l9.n)).x-(l9.f j3).x))))) (Qd (Ai ((Ai (b.x-a.x))*(Ai ((l9.f ((j3+1)%l9.n)).y-(l9.f j3).y)))-Ai ((Ai (b.y-a.y))*(Ai ((l9.f ((j3+1)%l9.n)).x-(l9.f j3).x))))) (Qc (Ai ((Ai (b.x-a.x))*(Ai ((l9.f ((j3+1)%l9.n)).y-(l9.f j3).y)))-Ai ((Ai (b.y-a.y))*(Ai ((l9.f ((j3+1)%l9.n)).x-(l9.f j3).x)))))) λv21 hv21=>(gs (Ao hv21.2 ·) (Ab 13 (Hf 23 (v21.2=0) (λhx22 hx22d=>?_) (λhx22 hx22d=>?_)))))))))))))
 refine Ab 2 (Dx (Io v21.1.num) λv23 hv23=>(gs (Ao hv23 ·) (Ab 3 (tsh 9 29 false [1,5,7,8,9,36] ?_ (λhS24=>?_)))))
 exact Ab 20 (Iw (Ab 10 (Iw (Ab 3 (Pg (Ab 6 (Pg (Ab 8 (gs (Db (((j3:Nat):Int)+1) ((j3+1:Nat):Int) ·) (Ab 2 (Ft [0,1,6,7,8] [(0,0),(1,1),(2,2),(3,3),(14,14),(5,5),(6,6),(7,7),(8,8),(10,10),(12,12),(13,13)] 15 [(221,4,j3n,(λxi=>Cp (j3g xi).1)),(22,1,1+f.hn,(λxi=>Cd (Ca f xi))),(287,2,1,(λ_=> .lit (.agg #[.int .i64 (Ai (Ai ((Ai ((l9.f j3).x-a.x))*(Ai ((l9.f ((j3+1)%l9.n)).y-(l9.f j3).y)))-Ai ((Ai ((l9.f j3).y-a.y))*(Ai ((l9.f ((j3+1)%l9.n)).x-(l9.f j3).x))))),.int .i64 (Ai (Ai ((Ai (b.x-a.x))*(Ai ((l9.f ((j3+1)%l9.n)).y-(l9.f j3).y)))-Ai ((Ai (b.y-a.y))*(Ai ((l9.f ((j3+1)%l9.n)).x-(l9.f j3).x)))))])))] ⟨(Ce λ_ _=>rfl),(Ce λ_ _=>rfl),(Ce λ_ _=>rfl),trivial⟩ (hJ2 _ _ (by omega:l9.n-(j3+1)<l9.n-j3) ⟨j3+1,j3n,j3g,rfl,⟨ω,ω⟩,rfl⟩))))))))))))
 refine Eu 29 ?_ ?_
 refine Ab 4 (Dx (Tg v21.1.num v21.1.den) λv25 hv25=>(gs (Ao hv25 ·) (Ab 4 (Eu 36 ?_ ?_))))
 exact Ab 4 (gs (Kf 29 221 4 1 (λ_=>Cp v21.1) ·) (gs (Oa 48 221 221 4 j3n 1 14 29 30 (λxi=>Cp (j3g xi).1) (λ_=>Cp v21.1) (λxi=>Cp (Ij j3g j3n ⟨v21.1,hv21.1 (of_decide_eq_true hx22)⟩ xi).1) (λi hi=>by rw[Uq hi]) (λi hi=>by(obtain rfl:i=0:=(ω));rw[Up]) ·) (Ab 20 (Iw (Ab 10 (Iw (Ab 3 (Pg (Ab 6 (Pg (Ab 8 (gs (Db (((j3:Nat):Int)+1) ((j3+1:Nat):Int) ·) (Ab 2 (Ft [0,1,6,7,8] [(0,0),(1,1),(2,2),(3,3),(30,14),(5,5),(6,6),(7,7),(8,8),(10,10),(12,12),(13,13)] 15 [(22,1,1+f.hn,(λxi=>Cd (Ca f xi))),(287,2,1,(λ_=> .lit (.agg #[.int .i64 (Ai (Ai ((Ai ((l9.f j3).x-a.x))*(Ai ((l9.f ((j3+1)%l9.n)).y-(l9.f j3).y)))-Ai ((Ai ((l9.f j3).y-a.y))*(Ai ((l9.f ((j3+1)%l9.n)).x-(l9.f j3).x))))),.int .i64 (Ai (Ai ((Ai (b.x-a.x))*(Ai ((l9.f ((j3+1)%l9.n)).y-(l9.f j3).y)))-Ai ((Ai (b.y-a.y))*(Ai ((l9.f ((j3+1)%l9.n)).x-(l9.f j3).x)))))]))),(221,4,1,(λ_=>Cp v21.1)),(221,4,j3n+1,(λxi=>Cp (Ij j3g j3n ⟨v21.1,hv21.1 (of_decide_eq_true hx22)⟩ xi).1))] ⟨(Ce λ_ _=>rfl),(Ce λ_ _=>rfl),(Ce λ_ _=>rfl),(Ce λ_ _=>rfl),trivial⟩ (hJ2 _ _ (by omega:l9.n-(j3+1)<l9.n-j3) ⟨j3+1,j3n+1,Ij j3g j3n ⟨v21.1,hv21.1 (of_decide_eq_true hx22)⟩,rfl,⟨ω,ω⟩,rfl⟩)))))))))))))))
 exact Vk [1,5,7,8,9,36] hS24
 exact Ab 9 (Vk [1,5,7,8,9,36] hS24)
 exact Ab 35 (Iw (Ab 10 (Iw (Ab 3 (Pg (Ab 6 (Pg (Ab 8 (gs (Db (((j3:Nat):Int)+1) ((j3+1:Nat):Int) ·) (Ab 2 (Ft [0,1,6,7,8] [(0,0),(1,1),(2,2),(3,3),(14,14),(5,5),(6,6),(7,7),(8,8),(10,10),(12,12),(13,13)] 15 [(221,4,j3n,(λxi=>Cp (j3g xi).1)),(22,1,1+f.hn,(λxi=>Cd (Ca f xi))),(287,2,1,(λ_=> .lit (.agg #[.int .i64 (Ai (Ai ((Ai ((l9.f j3).x-a.x))*(Ai ((l9.f ((j3+1)%l9.n)).y-(l9.f j3).y)))-Ai ((Ai ((l9.f j3).y-a.y))*(Ai ((l9.f ((j3+1)%l9.n)).x-(l9.f j3).x))))),.int .i64 (Ai (Ai ((Ai (b.x-a.x))*(Ai ((l9.f ((j3+1)%l9.n)).y-(l9.f j3).y)))-Ai ((Ai (b.y-a.y))*(Ai ((l9.f ((j3+1)%l9.n)).x-(l9.f j3).x)))))])))] ⟨(Ce λ_ _=>rfl),(Ce λ_ _=>rfl),(Ce λ_ _=>rfl),trivial⟩ (hJ2 _ _ (by omega:l9.n-(j3+1)<l9.n-j3) ⟨j3+1,j3n,j3g,rfl,⟨ω,ω⟩,rfl⟩))))))))))))
 refine Ab 9 (Dx (Mx a b (⟨(l9.f j3).x,(l9.f j3).y,0⟩)) λv26 hv26=>(gs (Ao hv26 ·) (Ab 3 (Eu 76 ?_ ?_))))
 refine Ab 49 (gs (Kf 26 287 2 2 (λxi=>[.lit (.agg #[.int .i64 (Ai (Ai ((Ai (b.x-a.x))*(Ai ((l9.f j3).x-a.x)))+Ai ((Ai (b.y-a.y))*(Ai ((l9.f j3).y-a.y))))),.int .i64 (Ai (Ai ((Ai (b.x-a.x))*(Ai (b.x-a.x)))+Ai ((Ai (b.y-a.y))*(Ai (b.y-a.y)))))]),.lit (.agg #[.int .i64 (Ai (Ai ((Ai (b.x-a.x))*(Ai ((l9.f ((j3+1)%l9.n)).x-a.x)))+Ai ((Ai (b.y-a.y))*(Ai ((l9.f ((j3+1)%l9.n)).y-a.y))))),.int .i64 (Ai (Ai ((Ai (b.x-a.x))*(Ai (b.x-a.x)))+Ai ((Ai (b.y-a.y))*(Ai (b.y-a.y)))))])].getD xi .top) ·) (uK func194 (Ab 8 (gs (Ta 3 ·) (Ab 13 (gs (Hk 0 2 ·) (gs (Ct (.lit (.agg #[.int .i64 (Ai (Ai ((Ai (b.x-a.x))*(Ai ((l9.f j3).x-a.x)))+Ai ((Ai (b.y-a.y))*(Ai ((l9.f j3).y-a.y))))),.int .i64 (Ai (Ai ((Ai (b.x-a.x))*(Ai (b.x-a.x)))+Ai ((Ai (b.y-a.y))*(Ai (b.y-a.y)))))])) (.read 26) (Bg 287 (.tmp 11) κ isAgg287 2 sizeOf287 26 0 κ 287 2 (λxi=>[.lit (.agg #[.int .i64 (Ai (Ai ((Ai (b.x-a.x))*(Ai ((l9.f j3).x-a.x)))+Ai ((Ai (b.y-a.y))*(Ai ((l9.f j3).y-a.y))))),.int .i64 (Ai (Ai ((Ai (b.x-a.x))*(Ai (b.x-a.x)))+Ai ((Ai (b.y-a.y))*(Ai (b.y-a.y)))))]),.lit (.agg #[.int .i64 (Ai (Ai ((Ai (b.x-a.x))*(Ai ((l9.f ((j3+1)%l9.n)).x-a.x)))+Ai ((Ai (b.y-a.y))*(Ai ((l9.f ((j3+1)%l9.n)).y-a.y))))),.int .i64 (Ai (Ai ((Ai (b.x-a.x))*(Ai (b.x-a.x)))+Ai ((Ai (b.y-a.y))*(Ai (b.y-a.y)))))])].getD xi .top) κ ω) ·) (Ab 10 (Exists.elim (gO (Ai (Ai ((Ai (b.x-a.x))*(Ai ((l9.f j3).x-a.x)))+Ai ((Ai (b.y-a.y))*(Ai ((l9.f j3).y-a.y))))) (Ai (Ai ((Ai (b.x-a.x))*(Ai (b.x-a.x)))+Ai ((Ai (b.y-a.y))*(Ai (b.y-a.y))))) (Qd (Ai ((Ai (b.x-a.x))*(Ai ((l9.f j3).x-a.x)))+Ai ((Ai (b.y-a.y))*(Ai ((l9.f j3).y-a.y))))) (Qc (Ai ((Ai (b.x-a.x))*(Ai ((l9.f j3).x-a.x)))+Ai ((Ai (b.y-a.y))*(Ai ((l9.f j3).y-a.y))))) (Qd (Ai ((Ai (b.x-a.x))*(Ai (b.x-a.x)))+Ai ((Ai (b.y-a.y))*(Ai (b.y-a.y))))) (Qc (Ai ((Ai (b.x-a.x))*(Ai (b.x-a.x)))+Ai ((Ai (b.y-a.y))*(Ai (b.y-a.y)))))) λv28 hv28=>(gs (Ao hv28.2 ·) (Ab 13 (Hf 23 (v28.2=0) (λhx29 hx29d=>?_) (λhx29 hx29d=>?_)))))))))))))
 refine Ab 2 (Dx (Io v28.1.num) λv30 hv30=>(gs (Ao hv30 ·) (Ab 3 (tsh 9 29 false [1,5,7,8,9,36] ?_ (λhS31=>?_)))))
 refine Ab 22 (gs (Hk 1 2 ·) (gs (Ct (.lit (.agg #[.int .i64 (Ai (Ai ((Ai (b.x-a.x))*(Ai ((l9.f ((j3+1)%l9.n)).x-a.x)))+Ai ((Ai (b.y-a.y))*(Ai ((l9.f ((j3+1)%l9.n)).y-a.y))))),.int .i64 (Ai (Ai ((Ai (b.x-a.x))*(Ai (b.x-a.x)))+Ai ((Ai (b.y-a.y))*(Ai (b.y-a.y)))))])) (.read 26) (Bg 287 (.tmp 11) κ isAgg287 2 sizeOf287 26 1 κ 287 2 (λxi=>[.lit (.agg #[.int .i64 (Ai (Ai ((Ai (b.x-a.x))*(Ai ((l9.f j3).x-a.x)))+Ai ((Ai (b.y-a.y))*(Ai ((l9.f j3).y-a.y))))),.int .i64 (Ai (Ai ((Ai (b.x-a.x))*(Ai (b.x-a.x)))+Ai ((Ai (b.y-a.y))*(Ai (b.y-a.y)))))]),.lit (.agg #[.int .i64 (Ai (Ai ((Ai (b.x-a.x))*(Ai ((l9.f ((j3+1)%l9.n)).x-a.x)))+Ai ((Ai (b.y-a.y))*(Ai ((l9.f ((j3+1)%l9.n)).y-a.y))))),.int .i64 (Ai (Ai ((Ai (b.x-a.x))*(Ai (b.x-a.x)))+Ai ((Ai (b.y-a.y))*(Ai (b.y-a.y)))))])].getD xi .top) κ ω) ·) (Ab 10 (Exists.elim (gO (Ai (Ai ((Ai (b.x-a.x))*(Ai ((l9.f ((j3+1)%l9.n)).x-a.x)))+Ai ((Ai (b.y-a.y))*(Ai ((l9.f ((j3+1)%l9.n)).y-a.y))))) (Ai (Ai ((Ai (b.x-a.x))*(Ai (b.x-a.x)))+Ai ((Ai (b.y-a.y))*(Ai (b.y-a.y))))) (Qd (Ai ((Ai (b.x-a.x))*(Ai ((l9.f ((j3+1)%l9.n)).x-a.x)))+Ai ((Ai (b.y-a.y))*(Ai ((l9.f ((j3+1)%l9.n)).y-a.y))))) (Qc (Ai ((Ai (b.x-a.x))*(Ai ((l9.f ((j3+1)%l9.n)).x-a.x)))+Ai ((Ai (b.y-a.y))*(Ai ((l9.f ((j3+1)%l9.n)).y-a.y))))) (Qd (Ai ((Ai (b.x-a.x))*(Ai (b.x-a.x)))+Ai ((Ai (b.y-a.y))*(Ai (b.y-a.y))))) (Qc (Ai ((Ai (b.x-a.x))*(Ai (b.x-a.x)))+Ai ((Ai (b.y-a.y))*(Ai (b.y-a.y)))))) λv32 hv32=>(gs (Ao hv32.2 ·) (Ab 13 (Hf 23 (v32.2=0) (λhx33 hx33d=>?_) (λhx33 hx33d=>?_))))))))
 refine Ab 2 (Dx (Io v32.1.num) λv34 hv34=>(gs (Ao hv34 ·) (Ab 3 (tsh 9 29 false [1,5,7,8,9,36] ?_ (λhS35=>?_)))))
 exact Ab 20 (Iw (Ab 9 (Iw (Ab 3 (Pg (Ab 6 (Pg (Ab 8 (gs (Db (((j3:Nat):Int)+1) ((j3+1:Nat):Int) ·) (Ab 2 (Ft [0,1,6,7,8] [(0,0),(1,1),(2,2),(3,3),(14,14),(5,5),(6,6),(7,7),(8,8),(10,10),(12,12),(13,13)] 15 [(221,4,j3n,(λxi=>Cp (j3g xi).1)),(22,1,1+f.hn,(λxi=>Cd (Ca f xi))),(287,2,2,(λxi=>[.lit (.agg #[.int .i64 (Ai (Ai ((Ai (b.x-a.x))*(Ai ((l9.f j3).x-a.x)))+Ai ((Ai (b.y-a.y))*(Ai ((l9.f j3).y-a.y))))),.int .i64 (Ai (Ai ((Ai (b.x-a.x))*(Ai (b.x-a.x)))+Ai ((Ai (b.y-a.y))*(Ai (b.y-a.y)))))]),.lit (.agg #[.int .i64 (Ai (Ai ((Ai (b.x-a.x))*(Ai ((l9.f ((j3+1)%l9.n)).x-a.x)))+Ai ((Ai (b.y-a.y))*(Ai ((l9.f ((j3+1)%l9.n)).y-a.y))))),.int .i64 (Ai (Ai ((Ai (b.x-a.x))*(Ai (b.x-a.x)))+Ai ((Ai (b.y-a.y))*(Ai (b.y-a.y)))))])].getD xi .top))] ⟨(Ce λ_ _=>rfl),(Ce λ_ _=>rfl),(Ce λi hi=>by match i,hi with|0,_=>rfl|1,_=>rfl|_+2,h=>exact absurd h ω),trivial⟩ (hJ2 _ _ (by omega:l9.n-(j3+1)<l9.n-j3) ⟨j3+1,j3n,j3g,rfl,⟨ω,ω⟩,rfl⟩))))))))))))
 refine Eu 29 ?_ ?_
 refine Ab 4 (Dx (Tg v32.1.num v32.1.den) λv36 hv36=>(gs (Ao hv36 ·) (Ab 4 (Eu 36 ?_ ?_))))
 exact Ab 4 (gs (Kf 31 221 4 1 (λ_=>Cp v32.1) ·) (gs (Oa 48 221 221 4 j3n 1 14 31 32 (λxi=>Cp (j3g xi).1) (λ_=>Cp v32.1) (λxi=>Cp (Ij j3g j3n ⟨v32.1,hv32.1 (of_decide_eq_true hx33)⟩ xi).1) (λi hi=>by rw[Uq hi]) (λi hi=>by(obtain rfl:i=0:=(ω));rw[Up]) ·) (Ab 20 (Iw (Ab 9 (Iw (Ab 3 (Pg (Ab 6 (Pg (Ab 8 (gs (Db (((j3:Nat):Int)+1) ((j3+1:Nat):Int) ·) (Ab 2 (Ft [0,1,6,7,8] [(0,0),(1,1),(2,2),(3,3),(32,14),(5,5),(6,6),(7,7),(8,8),(10,10),(12,12),(13,13)] 15 [(22,1,1+f.hn,(λxi=>Cd (Ca f xi))),(287,2,2,(λxi=>[.lit (.agg #[.int .i64 (Ai (Ai ((Ai (b.x-a.x))*(Ai ((l9.f j3).x-a.x)))+Ai ((Ai (b.y-a.y))*(Ai ((l9.f j3).y-a.y))))),.int .i64 (Ai (Ai ((Ai (b.x-a.x))*(Ai (b.x-a.x)))+Ai ((Ai (b.y-a.y))*(Ai (b.y-a.y)))))]),.lit (.agg #[.int .i64 (Ai (Ai ((Ai (b.x-a.x))*(Ai ((l9.f ((j3+1)%l9.n)).x-a.x)))+Ai ((Ai (b.y-a.y))*(Ai ((l9.f ((j3+1)%l9.n)).y-a.y))))),.int .i64 (Ai (Ai ((Ai (b.x-a.x))*(Ai (b.x-a.x)))+Ai ((Ai (b.y-a.y))*(Ai (b.y-a.y)))))])].getD xi .top)),(221,4,1,(λ_=>Cp v32.1)),(221,4,j3n+1,(λxi=>Cp (Ij j3g j3n ⟨v32.1,hv32.1 (of_decide_eq_true hx33)⟩ xi).1))] ⟨(Ce λ_ _=>rfl),(Ce λi hi=>by match i,hi with|0,_=>rfl|1,_=>rfl|_+2,h=>exact absurd h ω),(Ce λ_ _=>rfl),(Ce λ_ _=>rfl),trivial⟩ (hJ2 _ _ (by omega:l9.n-(j3+1)<l9.n-j3) ⟨j3+1,j3n+1,Ij j3g j3n ⟨v32.1,hv32.1 (of_decide_eq_true hx33)⟩,rfl,⟨ω,ω⟩,rfl⟩)))))))))))))))
 exact Vk [1,5,7,8,9,36] hS35
 exact Ab 9 (Vk [1,5,7,8,9,36] hS35)
 exact Ab 35 (Iw (Ab 9 (Iw (Ab 3 (Pg (Ab 6 (Pg (Ab 8 (gs (Db (((j3:Nat):Int)+1) ((j3+1:Nat):Int) ·) (Ab 2 (Ft [0,1,6,7,8] [(0,0),(1,1),(2,2),(3,3),(14,14),(5,5),(6,6),(7,7),(8,8),(10,10),(12,12),(13,13)] 15 [(221,4,j3n,(λxi=>Cp (j3g xi).1)),(22,1,1+f.hn,(λxi=>Cd (Ca f xi))),(287,2,2,(λxi=>[.lit (.agg #[.int .i64 (Ai (Ai ((Ai (b.x-a.x))*(Ai ((l9.f j3).x-a.x)))+Ai ((Ai (b.y-a.y))*(Ai ((l9.f j3).y-a.y))))),.int .i64 (Ai (Ai ((Ai (b.x-a.x))*(Ai (b.x-a.x)))+Ai ((Ai (b.y-a.y))*(Ai (b.y-a.y)))))]),.lit (.agg #[.int .i64 (Ai (Ai ((Ai (b.x-a.x))*(Ai ((l9.f ((j3+1)%l9.n)).x-a.x)))+Ai ((Ai (b.y-a.y))*(Ai ((l9.f ((j3+1)%l9.n)).y-a.y))))),.int .i64 (Ai (Ai ((Ai (b.x-a.x))*(Ai (b.x-a.x)))+Ai ((Ai (b.y-a.y))*(Ai (b.y-a.y)))))])].getD xi .top))] ⟨(Ce λ_ _=>rfl),(Ce λ_ _=>rfl),(Ce λi hi=>by match i,hi with|0,_=>rfl|1,_=>rfl|_+2,h=>exact absurd h ω),trivial⟩ (hJ2 _ _ (by omega:l9.n-(j3+1)<l9.n-j3) ⟨j3+1,j3n,j3g,rfl,⟨ω,ω⟩,rfl⟩))))))))))))
 refine Eu 29 ?_ ?_
 refine Ab 4 (Dx (Tg v28.1.num v28.1.den) λv37 hv37=>(gs (Ao hv37 ·) (Ab 4 (Eu 36 ?_ ?_))))
 refine Ab 4 (gs (Kf 29 221 4 1 (λ_=>Cp v28.1) ·) (gs (Oa 48 221 221 4 j3n 1 14 29 30 (λxi=>Cp (j3g xi).1) (λ_=>Cp v28.1) (λxi=>Cp (Ij j3g j3n ⟨v28.1,hv28.1 (of_decide_eq_true hx29)⟩ xi).1) (λi hi=>by rw[Uq hi]) (λi hi=>by(obtain rfl:i=0:=(ω));rw[Up]) ·) (Ab 22 (gs (Hk 1 2 ·) (gs (Ct (.lit (.agg #[.int .i64 (Ai (Ai ((Ai (b.x-a.x))*(Ai ((l9.f ((j3+1)%l9.n)).x-a.x)))+Ai ((Ai (b.y-a.y))*(Ai ((l9.f ((j3+1)%l9.n)).y-a.y))))),.int .i64 (Ai (Ai ((Ai (b.x-a.x))*(Ai (b.x-a.x)))+Ai ((Ai (b.y-a.y))*(Ai (b.y-a.y)))))])) (.read 26) (Bg 287 (.tmp 11) κ isAgg287 2 sizeOf287 26 1 κ 287 2 (λxi=>[.lit (.agg #[.int .i64 (Ai (Ai ((Ai (b.x-a.x))*(Ai ((l9.f j3).x-a.x)))+Ai ((Ai (b.y-a.y))*(Ai ((l9.f j3).y-a.y))))),.int .i64 (Ai (Ai ((Ai (b.x-a.x))*(Ai (b.x-a.x)))+Ai ((Ai (b.y-a.y))*(Ai (b.y-a.y)))))]),.lit (.agg #[.int .i64 (Ai (Ai ((Ai (b.x-a.x))*(Ai ((l9.f ((j3+1)%l9.n)).x-a.x)))+Ai ((Ai (b.y-a.y))*(Ai ((l9.f ((j3+1)%l9.n)).y-a.y))))),.int .i64 (Ai (Ai ((Ai (b.x-a.x))*(Ai (b.x-a.x)))+Ai ((Ai (b.y-a.y))*(Ai (b.y-a.y)))))])].getD xi .top) κ ω) ·) (Ab 10 (Exists.elim (gO (Ai (Ai ((Ai (b.x-a.x))*(Ai ((l9.f ((j3+1)%l9.n)).x-a.x)))+Ai ((Ai (b.y-a.y))*(Ai ((l9.f ((j3+1)%l9.n)).y-a.y))))) (Ai (Ai ((Ai (b.x-a.x))*(Ai (b.x-a.x)))+Ai ((Ai (b.y-a.y))*(Ai (b.y-a.y))))) (Qd (Ai ((Ai (b.x-a.x))*(Ai ((l9.f ((j3+1)%l9.n)).x-a.x)))+Ai ((Ai (b.y-a.y))*(Ai ((l9.f ((j3+1)%l9.n)).y-a.y))))) (Qc (Ai ((Ai (b.x-a.x))*(Ai ((l9.f ((j3+1)%l9.n)).x-a.x)))+Ai ((Ai (b.y-a.y))*(Ai ((l9.f ((j3+1)%l9.n)).y-a.y))))) (Qd (Ai ((Ai (b.x-a.x))*(Ai (b.x-a.x)))+Ai ((Ai (b.y-a.y))*(Ai (b.y-a.y))))) (Qc (Ai ((Ai (b.x-a.x))*(Ai (b.x-a.x)))+Ai ((Ai (b.y-a.y))*(Ai (b.y-a.y)))))) λv38 hv38=>(gs (Ao hv38.2 ·) (Ab 13 (Hf 23 (v38.2=0) (λhx39 hx39d=>?_) (λhx39 hx39d=>?_)))))))))))
 refine Ab 2 (Dx (Io v38.1.num) λv40 hv40=>(gs (Ao hv40 ·) (Ab 3 (tsh 9 29 false [1,5,7,8,9,36] ?_ (λhS41=>?_)))))
 exact Ab 20 (Iw (Ab 9 (Iw (Ab 3 (Pg (Ab 6 (Pg (Ab 8 (gs (Db (((j3:Nat):Int)+1) ((j3+1:Nat):Int) ·) (Ab 2 (Ft [0,1,6,7,8] [(0,0),(1,1),(2,2),(3,3),(30,14),(5,5),(6,6),(7,7),(8,8),(10,10),(12,12),(13,13)] 15 [(22,1,1+f.hn,(λxi=>Cd (Ca f xi))),(287,2,2,(λxi=>[.lit (.agg #[.int .i64 (Ai (Ai ((Ai (b.x-a.x))*(Ai ((l9.f j3).x-a.x)))+Ai ((Ai (b.y-a.y))*(Ai ((l9.f j3).y-a.y))))),.int .i64 (Ai (Ai ((Ai (b.x-a.x))*(Ai (b.x-a.x)))+Ai ((Ai (b.y-a.y))*(Ai (b.y-a.y)))))]),.lit (.agg #[.int .i64 (Ai (Ai ((Ai (b.x-a.x))*(Ai ((l9.f ((j3+1)%l9.n)).x-a.x)))+Ai ((Ai (b.y-a.y))*(Ai ((l9.f ((j3+1)%l9.n)).y-a.y))))),.int .i64 (Ai (Ai ((Ai (b.x-a.x))*(Ai (b.x-a.x)))+Ai ((Ai (b.y-a.y))*(Ai (b.y-a.y)))))])].getD xi .top)),(221,4,1,(λ_=>Cp v28.1)),(221,4,j3n+1,(λxi=>Cp (Ij j3g j3n ⟨v28.1,hv28.1 (of_decide_eq_true hx29)⟩ xi).1))] ⟨(Ce λ_ _=>rfl),(Ce λi hi=>by match i,hi with|0,_=>rfl|1,_=>rfl|_+2,h=>exact absurd h ω),(Ce λ_ _=>rfl),(Ce λ_ _=>rfl),trivial⟩ (hJ2 _ _ (by omega:l9.n-(j3+1)<l9.n-j3) ⟨j3+1,j3n+1,Ij j3g j3n ⟨v28.1,hv28.1 (of_decide_eq_true hx29)⟩,rfl,⟨ω,ω⟩,rfl⟩))))))))))))
 refine Eu 29 ?_ ?_
 refine Ab 4 (Dx (Tg v38.1.num v38.1.den) λv42 hv42=>(gs (Ao hv42 ·) (Ab 4 (Eu 36 ?_ ?_))))
 exact Ab 4 (gs (Kf 33 221 4 1 (λ_=>Cp v38.1) ·) (gs (Oa 48 221 221 4 (j3n+1) 1 30 33 34 (λxi=>Cp (Ij j3g j3n ⟨v28.1,hv28.1 (of_decide_eq_true hx29)⟩ xi).1) (λ_=>Cp v38.1) (λxi=>Cp (Ij (Ij j3g j3n ⟨v28.1,hv28.1 (of_decide_eq_true hx29)⟩) (j3n+1) ⟨v38.1,hv38.1 (of_decide_eq_true hx39)⟩ xi).1) (λi hi=>by rw[Uq hi]) (λi hi=>by(obtain rfl:i=0:=(ω));rw[Up]) ·) (Ab 20 (Iw (Ab 9 (Iw (Ab 3 (Pg (Ab 6 (Pg (Ab 8 (gs (Db (((j3:Nat):Int)+1) ((j3+1:Nat):Int) ·) (Ab 2 (Ft [0,1,6,7,8] [(0,0),(1,1),(2,2),(3,3),(34,14),(5,5),(6,6),(7,7),(8,8),(10,10),(12,12),(13,13)] 15 [(22,1,1+f.hn,(λxi=>Cd (Ca f xi))),(287,2,2,(λxi=>[.lit (.agg #[.int .i64 (Ai (Ai ((Ai (b.x-a.x))*(Ai ((l9.f j3).x-a.x)))+Ai ((Ai (b.y-a.y))*(Ai ((l9.f j3).y-a.y))))),.int .i64 (Ai (Ai ((Ai (b.x-a.x))*(Ai (b.x-a.x)))+Ai ((Ai (b.y-a.y))*(Ai (b.y-a.y)))))]),.lit (.agg #[.int .i64 (Ai (Ai ((Ai (b.x-a.x))*(Ai ((l9.f ((j3+1)%l9.n)).x-a.x)))+Ai ((Ai (b.y-a.y))*(Ai ((l9.f ((j3+1)%l9.n)).y-a.y))))),.int .i64 (Ai (Ai ((Ai (b.x-a.x))*(Ai (b.x-a.x)))+Ai ((Ai (b.y-a.y))*(Ai (b.y-a.y)))))])].getD xi .top)),(221,4,1,(λ_=>Cp v28.1)),(221,4,1,(λ_=>Cp v38.1)),(221,4,j3n+1+1,(λxi=>Cp (Ij (Ij j3g j3n ⟨v28.1,hv28.1 (of_decide_eq_true hx29)⟩) (j3n+1) ⟨v38.1,hv38.1 (of_decide_eq_true hx39)⟩ xi).1))] ⟨(Ce λ_ _=>rfl),(Ce λi hi=>by match i,hi with|0,_=>rfl|1,_=>rfl|_+2,h=>exact absurd h ω),(Ce λ_ _=>rfl),(Ce λ_ _=>rfl),(Ce λ_ _=>rfl),trivial⟩ (hJ2 _ _ (by omega:l9.n-(j3+1)<l9.n-j3) ⟨j3+1,j3n+1+1,Ij (Ij j3g j3n ⟨v28.1,hv28.1 (of_decide_eq_true hx29)⟩) (j3n+1) ⟨v38.1,hv38.1 (of_decide_eq_true hx39)⟩,rfl,⟨ω,ω⟩,rfl⟩)))))))))))))))
 exact Vk [1,5,7,8,9,36] hS41
 exact Ab 9 (Vk [1,5,7,8,9,36] hS41)
 exact Ab 35 (Iw (Ab 9 (Iw (Ab 3 (Pg (Ab 6 (Pg (Ab 8 (gs (Db (((j3:Nat):Int)+1) ((j3+1:Nat):Int) ·) (Ab 2 (Ft [0,1,6,7,8] [(0,0),(1,1),(2,2),(3,3),(30,14),(5,5),(6,6),(7,7),(8,8),(10,10),(12,12),(13,13)] 15 [(22,1,1+f.hn,(λxi=>Cd (Ca f xi))),(287,2,2,(λxi=>[.lit (.agg #[.int .i64 (Ai (Ai ((Ai (b.x-a.x))*(Ai ((l9.f j3).x-a.x)))+Ai ((Ai (b.y-a.y))*(Ai ((l9.f j3).y-a.y))))),.int .i64 (Ai (Ai ((Ai (b.x-a.x))*(Ai (b.x-a.x)))+Ai ((Ai (b.y-a.y))*(Ai (b.y-a.y)))))]),.lit (.agg #[.int .i64 (Ai (Ai ((Ai (b.x-a.x))*(Ai ((l9.f ((j3+1)%l9.n)).x-a.x)))+Ai ((Ai (b.y-a.y))*(Ai ((l9.f ((j3+1)%l9.n)).y-a.y))))),.int .i64 (Ai (Ai ((Ai (b.x-a.x))*(Ai (b.x-a.x)))+Ai ((Ai (b.y-a.y))*(Ai (b.y-a.y)))))])].getD xi .top)),(221,4,1,(λ_=>Cp v28.1)),(221,4,j3n+1,(λxi=>Cp (Ij j3g j3n ⟨v28.1,hv28.1 (of_decide_eq_true hx29)⟩ xi).1))] ⟨(Ce λ_ _=>rfl),(Ce λi hi=>by match i,hi with|0,_=>rfl|1,_=>rfl|_+2,h=>exact absurd h ω),(Ce λ_ _=>rfl),(Ce λ_ _=>rfl),trivial⟩ (hJ2 _ _ (by omega:l9.n-(j3+1)<l9.n-j3) ⟨j3+1,j3n+1,Ij j3g j3n ⟨v28.1,hv28.1 (of_decide_eq_true hx29)⟩,rfl,⟨ω,ω⟩,rfl⟩))))))))))))
 exact Vk [1,5,7,8,9,36] hS31
 exact Ab 9 (Vk [1,5,7,8,9,36] hS31)
 refine Ab 37 (gs (Hk 1 2 ·) (gs (Ct (.lit (.agg #[.int .i64 (Ai (Ai ((Ai (b.x-a.x))*(Ai ((l9.f ((j3+1)%l9.n)).x-a.x)))+Ai ((Ai (b.y-a.y))*(Ai ((l9.f ((j3+1)%l9.n)).y-a.y))))),.int .i64 (Ai (Ai ((Ai (b.x-a.x))*(Ai (b.x-a.x)))+Ai ((Ai (b.y-a.y))*(Ai (b.y-a.y)))))])) (.read 26) (Bg 287 (.tmp 11) κ isAgg287 2 sizeOf287 26 1 κ 287 2 (λxi=>[.lit (.agg #[.int .i64 (Ai (Ai ((Ai (b.x-a.x))*(Ai ((l9.f j3).x-a.x)))+Ai ((Ai (b.y-a.y))*(Ai ((l9.f j3).y-a.y))))),.int .i64 (Ai (Ai ((Ai (b.x-a.x))*(Ai (b.x-a.x)))+Ai ((Ai (b.y-a.y))*(Ai (b.y-a.y)))))]),.lit (.agg #[.int .i64 (Ai (Ai ((Ai (b.x-a.x))*(Ai ((l9.f ((j3+1)%l9.n)).x-a.x)))+Ai ((Ai (b.y-a.y))*(Ai ((l9.f ((j3+1)%l9.n)).y-a.y))))),.int .i64 (Ai (Ai ((Ai (b.x-a.x))*(Ai (b.x-a.x)))+Ai ((Ai (b.y-a.y))*(Ai (b.y-a.y)))))])].getD xi .top) κ ω) ·) (Ab 10 (Exists.elim (gO (Ai (Ai ((Ai (b.x-a.x))*(Ai ((l9.f ((j3+1)%l9.n)).x-a.x)))+Ai ((Ai (b.y-a.y))*(Ai ((l9.f ((j3+1)%l9.n)).y-a.y))))) (Ai (Ai ((Ai (b.x-a.x))*(Ai (b.x-a.x)))+Ai ((Ai (b.y-a.y))*(Ai (b.y-a.y))))) (Qd (Ai ((Ai (b.x-a.x))*(Ai ((l9.f ((j3+1)%l9.n)).x-a.x)))+Ai ((Ai (b.y-a.y))*(Ai ((l9.f ((j3+1)%l9.n)).y-a.y))))) (Qc (Ai ((Ai (b.x-a.x))*(Ai ((l9.f ((j3+1)%l9.n)).x-a.x)))+Ai ((Ai (b.y-a.y))*(Ai ((l9.f ((j3+1)%l9.n)).y-a.y))))) (Qd (Ai ((Ai (b.x-a.x))*(Ai (b.x-a.x)))+Ai ((Ai (b.y-a.y))*(Ai (b.y-a.y))))) (Qc (Ai ((Ai (b.x-a.x))*(Ai (b.x-a.x)))+Ai ((Ai (b.y-a.y))*(Ai (b.y-a.y)))))) λv43 hv43=>(gs (Ao hv43.2 ·) (Ab 13 (Hf 23 (v43.2=0) (λhx44 hx44d=>?_) (λhx44 hx44d=>?_))))))))
 refine Ab 2 (Dx (Io v43.1.num) λv45 hv45=>(gs (Ao hv45 ·) (Ab 3 (tsh 9 29 false [1,5,7,8,9,36] ?_ (λhS46=>?_)))))
 exact Ab 20 (Iw (Ab 9 (Iw (Ab 3 (Pg (Ab 6 (Pg (Ab 8 (gs (Db (((j3:Nat):Int)+1) ((j3+1:Nat):Int) ·) (Ab 2 (Ft [0,1,6,7,8] [(0,0),(1,1),(2,2),(3,3),(14,14),(5,5),(6,6),(7,7),(8,8),(10,10),(12,12),(13,13)] 15 [(221,4,j3n,(λxi=>Cp (j3g xi).1)),(22,1,1+f.hn,(λxi=>Cd (Ca f xi))),(287,2,2,(λxi=>[.lit (.agg #[.int .i64 (Ai (Ai ((Ai (b.x-a.x))*(Ai ((l9.f j3).x-a.x)))+Ai ((Ai (b.y-a.y))*(Ai ((l9.f j3).y-a.y))))),.int .i64 (Ai (Ai ((Ai (b.x-a.x))*(Ai (b.x-a.x)))+Ai ((Ai (b.y-a.y))*(Ai (b.y-a.y)))))]),.lit (.agg #[.int .i64 (Ai (Ai ((Ai (b.x-a.x))*(Ai ((l9.f ((j3+1)%l9.n)).x-a.x)))+Ai ((Ai (b.y-a.y))*(Ai ((l9.f ((j3+1)%l9.n)).y-a.y))))),.int .i64 (Ai (Ai ((Ai (b.x-a.x))*(Ai (b.x-a.x)))+Ai ((Ai (b.y-a.y))*(Ai (b.y-a.y)))))])].getD xi .top))] ⟨(Ce λ_ _=>rfl),(Ce λ_ _=>rfl),(Ce λi hi=>by match i,hi with|0,_=>rfl|1,_=>rfl|_+2,h=>exact absurd h ω),trivial⟩ (hJ2 _ _ (by omega:l9.n-(j3+1)<l9.n-j3) ⟨j3+1,j3n,j3g,rfl,⟨ω,ω⟩,rfl⟩))))))))))))
 refine Eu 29 ?_ ?_
 refine Ab 4 (Dx (Tg v43.1.num v43.1.den) λv47 hv47=>(gs (Ao hv47 ·) (Ab 4 (Eu 36 ?_ ?_))))
 exact Ab 4 (gs (Kf 31 221 4 1 (λ_=>Cp v43.1) ·) (gs (Oa 48 221 221 4 j3n 1 14 31 32 (λxi=>Cp (j3g xi).1) (λ_=>Cp v43.1) (λxi=>Cp (Ij j3g j3n ⟨v43.1,hv43.1 (of_decide_eq_true hx44)⟩ xi).1) (λi hi=>by rw[Uq hi]) (λi hi=>by(obtain rfl:i=0:=(ω));rw[Up]) ·) (Ab 20 (Iw (Ab 9 (Iw (Ab 3 (Pg (Ab 6 (Pg (Ab 8 (gs (Db (((j3:Nat):Int)+1) ((j3+1:Nat):Int) ·) (Ab 2 (Ft [0,1,6,7,8] [(0,0),(1,1),(2,2),(3,3),(32,14),(5,5),(6,6),(7,7),(8,8),(10,10),(12,12),(13,13)] 15 [(22,1,1+f.hn,(λxi=>Cd (Ca f xi))),(287,2,2,(λxi=>[.lit (.agg #[.int .i64 (Ai (Ai ((Ai (b.x-a.x))*(Ai ((l9.f j3).x-a.x)))+Ai ((Ai (b.y-a.y))*(Ai ((l9.f j3).y-a.y))))),.int .i64 (Ai (Ai ((Ai (b.x-a.x))*(Ai (b.x-a.x)))+Ai ((Ai (b.y-a.y))*(Ai (b.y-a.y)))))]),.lit (.agg #[.int .i64 (Ai (Ai ((Ai (b.x-a.x))*(Ai ((l9.f ((j3+1)%l9.n)).x-a.x)))+Ai ((Ai (b.y-a.y))*(Ai ((l9.f ((j3+1)%l9.n)).y-a.y))))),.int .i64 (Ai (Ai ((Ai (b.x-a.x))*(Ai (b.x-a.x)))+Ai ((Ai (b.y-a.y))*(Ai (b.y-a.y)))))])].getD xi .top)),(221,4,1,(λ_=>Cp v43.1)),(221,4,j3n+1,(λxi=>Cp (Ij j3g j3n ⟨v43.1,hv43.1 (of_decide_eq_true hx44)⟩ xi).1))] ⟨(Ce λ_ _=>rfl),(Ce λi hi=>by match i,hi with|0,_=>rfl|1,_=>rfl|_+2,h=>exact absurd h ω),(Ce λ_ _=>rfl),(Ce λ_ _=>rfl),trivial⟩ (hJ2 _ _ (by omega:l9.n-(j3+1)<l9.n-j3) ⟨j3+1,j3n+1,Ij j3g j3n ⟨v43.1,hv43.1 (of_decide_eq_true hx44)⟩,rfl,⟨ω,ω⟩,rfl⟩)))))))))))))))
 exact Vk [1,5,7,8,9,36] hS46
 exact Ab 9 (Vk [1,5,7,8,9,36] hS46)
 exact Ab 35 (Iw (Ab 9 (Iw (Ab 3 (Pg (Ab 6 (Pg (Ab 8 (gs (Db (((j3:Nat):Int)+1) ((j3+1:Nat):Int) ·) (Ab 2 (Ft [0,1,6,7,8] [(0,0),(1,1),(2,2),(3,3),(14,14),(5,5),(6,6),(7,7),(8,8),(10,10),(12,12),(13,13)] 15 [(221,4,j3n,(λxi=>Cp (j3g xi).1)),(22,1,1+f.hn,(λxi=>Cd (Ca f xi))),(287,2,2,(λxi=>[.lit (.agg #[.int .i64 (Ai (Ai ((Ai (b.x-a.x))*(Ai ((l9.f j3).x-a.x)))+Ai ((Ai (b.y-a.y))*(Ai ((l9.f j3).y-a.y))))),.int .i64 (Ai (Ai ((Ai (b.x-a.x))*(Ai (b.x-a.x)))+Ai ((Ai (b.y-a.y))*(Ai (b.y-a.y)))))]),.lit (.agg #[.int .i64 (Ai (Ai ((Ai (b.x-a.x))*(Ai ((l9.f ((j3+1)%l9.n)).x-a.x)))+Ai ((Ai (b.y-a.y))*(Ai ((l9.f ((j3+1)%l9.n)).y-a.y))))),.int .i64 (Ai (Ai ((Ai (b.x-a.x))*(Ai (b.x-a.x)))+Ai ((Ai (b.y-a.y))*(Ai (b.y-a.y)))))])].getD xi .top))] ⟨(Ce λ_ _=>rfl),(Ce λ_ _=>rfl),(Ce λi hi=>by match i,hi with|0,_=>rfl|1,_=>rfl|_+2,h=>exact absurd h ω),trivial⟩ (hJ2 _ _ (by omega:l9.n-(j3+1)<l9.n-j3) ⟨j3+1,j3n,j3g,rfl,⟨ω,ω⟩,rfl⟩))))))))))))
 exact Ab 10 (Iw (Ab 3 (Pg (Ab 6 (Pg (Ab 8 (gs (Db (((j3:Nat):Int)+1) ((j3+1:Nat):Int) ·) (Ab 2 (Ft [0,1,6,7,8] [(0,0),(1,1),(2,2),(3,3),(14,14),(5,5),(6,6),(7,7),(8,8),(10,10),(12,12),(13,13)] 15 [(221,4,j3n,(λxi=>Cp (j3g xi).1)),(22,1,1+f.hn,(λxi=>Cd (Ca f xi)))] ⟨(Ce λ_ _=>rfl),(Ce λ_ _=>rfl),trivial⟩ (hJ2 _ _ (by omega:l9.n-(j3+1)<l9.n-j3) ⟨j3+1,j3n,j3g,rfl,⟨ω,ω⟩,rfl⟩))))))))))
 exact Ab 5 (aN (Ab 4 (gs (Db ((i:Int)+1) ((i+1:Nat):Int) ·) (Ab 2 (Ft [2,15,16,17] [(0,0),(1,1),(2,2),(3,3),(14,11),(5,5),(6,6),(7,7),(8,8),(10,10)] 12 [(221,4,j3n,(λxi=>Cp (j3g xi).1)),(22,1,1+f.hn,(λxi=>Cd (Ca f xi)))] ⟨(Ce λ_ _=>rfl),(Ce λ_ _=>rfl),trivial⟩ (hJ1 _ _ (by omega:f.hn+1-(i+1)<f.hn+1-i) ⟨i+1,j3n,j3g,rfl,⟨ω,ω⟩,rfl⟩))))))
 refine Aii 27 (decide ((0:Int)<(gI v11))=decide ((i:Int)=0)) (λhx48 hx48d=>?_) (λhx48 hx48d=>?_)
 exact Ab 3 (Vk [2,4,15,16,17] (hJ9 (Ca f i) ⟨hn1,hn3⟩))
 exact Ab 4 (cE func59 (Ab 9 (gs (ven ((Ca f i).n) ·) (Ab 7 (gs (Ct (.osl 12 3 0) (.new 12 (.vec 79 3 0 (λ_=> .top))) (cC 22 κ underlying22 3 sizeOf79 12 (λ_=> .top)) ·) (Ab 1 (gs (Ct (.osl 13 3 ((Ca f i).n)) (.grow 12 13 (.vec 79 3 ((Ca f i).n) (λi0=>Bf ((Ca f i).f i0)))) (Adx (Vw (.tmp 5) (.tmp 6) 22 κ underlying22 3 24 (.agg #[.int .i64 0,.int .i64 0,.int .i64 0]) κ κ δ 0 ((Ca f i).n) ω (λ_=> .top) (λi0=>Bf ((Ca f i).f i0)) (λi0=>Bf ((Ca f i).f i0)) 13 ω (by unfold maxLen;omega) (λi hi=>absurd hi (Nat.not_lt_zero i)) (λi hi=>by rw[Nat.zero_add]) (λi hi j hj=>match j,hj with|0,_=>rfl|1,_=>rfl|2,_=>rfl|_+3,h=>absurd h ω) 12 κ κ κ) (Nat.zero_add _)) ·) (Ab 4 (Iw (Ab 5 (gs (Ct (.osw 13 3 1 (((Ca f i).n)-1)) (.read 13) (Sc 22 (.tmp 30) (some (.const (.int .i64 1))) none κ underlying22 13 3 ((Ca f i).n) sizeOf79 79 (λi0=>Bf ((Ca f i).f i0)) κ κ 1 ((Ca f i).n) (.inr ⟨(.const (.int .i64 1)),1,rfl,κ,ω⟩) (.inl ⟨rfl,rfl⟩) ω ω) ·) (gs (Ct (.lit (.tuple #[])) (.set 13 (.vec 79 3 ((Ca f i).n) (λxi=>Bf ((AhK (Ca f i)).f xi)))) (Ah3 (.tmp 31) #[22] 13 79 (Ca f i) ω ω κ κ κ) ·) (Ab 2 (gs (iM 13 [4] 79 3 ((Ca f i).n) (λxi=>Bf ((AhK (Ca f i)).f xi)) (Ce λ_ _=>rfl) ·) (tfg [2,4,15,16,17] [(0,0),(1,1),(2,2),(3,3),(11,11),(5,5),(6,6),(7,7),(8,8),(10,10)] 12 [(221,4,n,(λxi=>Cp (g xi).1)),(22,1,1+f.hn,(λxi=>Cd (Ca f xi)))] ⟨(Ce λ_ _=>rfl),(Ce λ_ _=>rfl),trivial⟩ (Vk [2,4,15,16,17] (hJ9 (AhK (Ca f i)) ⟨hn1,hn3⟩)))))))))))))))))
 refine Ab 5 (aN (Ab 11 (gs (Ct (.lit (.tuple #[])) (.set 11 (.vec 221 4 n (λxi=>Cp (Iv g n xi).1))) (Adz (.tmp 73) (.tmp 74) #[231,235] 11 221 n g ω κ κ κ κ) ·) (Ab 5 (cE func144 (Ab 13 (Hf 8 ((n:Int)<2) (λhx51 hx51d=>?_) (λhx51 hx51d=>?_))))))))
 refine Ab 9 (Iw (Ab 21 (tfg [3,4,5,8,9,13,14,15] [(0,0),(1,1),(2,2),(3,3),(11,11),(5,5),(12,12)] 13 [(221,4,n,(λxi=>Cp (Iv g n xi).1)),(22,1,1+f.hn,(λxi=>Cd (Ca f xi)))] ⟨(Ce λ_ _=>rfl),(Ce λ_ _=>rfl),trivial⟩ (Vj [3,4,5,8,9,13,14,15] (λm s=>∃(q:Nat) (qe:Int),m=n-q/\(1<=q)/\s=⟨[(3,.ptr 0 0),(4,.ptr 1 0),(5,.ptr 2 0),(8,.ptr 3 0),(9,.ptr 5 0),(13,.ptr 12 0),(14,.fn 145 [.ptr 12 0]),(15,.int (q:Int))],[(0,.box 25 [Cd f.o,hsA f,.int f.low,.int f.high]),(1,.box 79 [.int a.x,.int a.y,.int a.z]),(2,.box 79 [.int b.x,.int b.y,.int b.z]),(3,.box 169 [.bool (decide ((1:Int)<0)),.lit (.string (Cj (1:Int).natAbs))]),(11,.vec 221 4 n (λxi=>Cp (Iv g n xi).1)),(5,.box 231 [.osl 11 4 n]),(12,.box 239 [.int qe])],13,131⟩) (n-1) ⟨1,0,rfl,Nat.le_refl _,κ⟩ ?_))))
 rintro _ _ ⟨q,qe,rfl,hF,rfl⟩ hJ3
 refine Ab 9 (Hf 82 ((q:Int)<(n:Int)) (λhx52 hx52d=>?_) (λhx52 hx52d=>?_))
 refine Ab 6 (Dx (mW ((Iv g n (q-1)).1) ((Iv g n q).1)) λv53 hv53=>(gs (Cn [(2,.int ((q-1:Nat):Int),.none),(3,Cv (.osl 11 4 n) (q-1),.none),(4,Cp (Iv g n (q-1)).1,(.read 11)),(7,Cv (.osl 11 4 n) q,.none),(8,Cp (Iv g n q).1,(.read 11)),(9,_,.none)] [3,4,5,8,9,13,14,15,16] ⟨Ea (.int .i64 (IntKind.wrap .i64 ((q:Int)-1))) η,Jg (q-1) n,Ef (Bg 221 (.tmp 89) κ isAgg221 4 sizeOf221 11 (q-1) κ 221 n (λxi=>Cp (Iv g n xi).1) κ ω),Jg q n,Ef (Bg 221 (.tmp 93) κ isAgg221 4 sizeOf221 11 q κ 221 n (λxi=>Cp (Iv g n xi).1) κ ω),Be hv53,trivial⟩ ·) (Ab 2 (Dx (mX (⟨⟨(gB (gT (gT v53 0) 0)),(gS (gT (gT v53 0) 1))⟩,⟨(gB (gT (gT v53 0) 2)),(gS (gT (gT v53 0) 3))⟩⟩) (⟨⟨decide ((1:Int)<0),Cj (1:Int).natAbs⟩,⟨decide ((2:Int)<0),Cj (2:Int).natAbs⟩⟩)) λv54 hv54=>(gs (Cn [(2,_,.none),(4,_,.none)] [3,4,5,8,9,13,14,15,18] ⟨Be (Ep 2 δ δ),Be hv54,trivial⟩ ·) (Ab 2 (Exists.elim (Qq qe a.x (Ai (b.x-a.x)) (⟨⟨(gB (gT (gT v54 0) 0)),(gS (gT (gT v54 0) 1))⟩,⟨(gB (gT (gT v54 0) 2)),(gS (gT (gT v54 0) 3))⟩⟩)) λv55 hv55=>(Exists.elim (Qq v55.2 a.y (Ai (b.y-a.y)) (⟨⟨(gB (gT (gT v54 0) 0)),(gS (gT (gT v54 0) 1))⟩,⟨(gB (gT (gT v54 0) 2)),(gS (gT (gT v54 0) 3))⟩⟩)) λv56 hv56=>(Exists.elim (xD v56.2 (⟨⟨(gB (gT v55.1 0)),(gS (gT v55.1 1))⟩,⟨(gB (gT v55.1 2)),(gS (gT v55.1 3))⟩⟩) (⟨⟨(gB (gT v56.1 0)),(gS (gT v56.1 1))⟩,⟨(gB (gT v56.1 2)),(gS (gT v56.1 3))⟩⟩)) λv57 hv57=>(gs (Cn [(9,_,_),(19,_,_),(20,_,_)] [3,4,5,8,9,13,14,15,20] ⟨aX 12 [] hv55,aX 12 [] hv56,aX 12 [] hv57,trivial⟩ ·) (Ab 5 (Exists.elim (xC v57.2 (⟨⟨(gB (gT v57.1 0)),(gS (gT v57.1 1))⟩,⟨(gB (gT v57.1 2)),(gS (gT v57.1 3))⟩,⟨(gB (gT v57.1 4)),(gS (gT v57.1 5))⟩⟩) f h0) λv58 hv58=>(gs (vcx 12 [15] hv58 ·) (Ab 3 (Eu 130 ?_ ?_)))))))))))))))
 exact Ab 13 (Bb)
 exact Ab 6 (gs (Db ((q:Int)+1) ((q+1:Nat):Int) ·) (Ab 2 (Ft [3,4,5,8,9,13,14,15] [(0,0),(1,1),(2,2),(3,3),(11,11),(5,5),(12,12)] 13 [(221,4,n,(λxi=>Cp (Iv g n xi).1))] ⟨(Ce λ_ _=>rfl),trivial⟩ (hJ3 _ _ (by omega:n-(q+1)<n-q) ⟨q+1,v58.2,rfl,ω,rfl⟩))))
 exact Ab 13 (Bb)
 refine Ab 10 (Vj [0,3] (λm s=>∃(k:Nat),m=n-k/\(1<=k/\k<=n)/\s=⟨[(0,.osl 11 4 n),(3,.int (k:Int))],[(0,.box 25 [Cd f.o,hsA f,.int f.low,.int f.high]),(1,.box 79 [.int a.x,.int a.y,.int a.z]),(2,.box 79 [.int b.x,.int b.y,.int b.z]),(3,.box 169 [.bool (decide ((1:Int)<0)),.lit (.string (Cj (1:Int).natAbs))]),(11,.vec 221 4 n (λxi=>Cp (Iv g n xi).1)),(5,.box 231 [.osl 11 4 n]),(6,.box 25 [Cd f.o,hsA f,.int f.low,.int f.high]),(8,.box 115 [.yld 7]),(10,.vec 22 1 (1+f.hn) (λxi=>Cd (Ca f xi)))],12,61⟩) (n-1) ⟨1,rfl,⟨ω,ω⟩,κ⟩ ?_)
 rintro _ _ ⟨k,rfl,hF,rfl⟩ hJ4
 refine Ab 9 (Hf 13 ((k:Int)<(n:Int)) (λhx59 hx59d=>?_) (λhx59 hx59d=>?_))
 refine Ab 6 (gs (Cn [(2,Cv (.osl 11 4 n) k,.none),(3,Cp (Iv g n k).1,(.read 11)),(6,.int ((k-1:Nat):Int),.none),(7,Cv (.osl 11 4 n) (k-1),.none),(8,Cp (Iv g n (k-1)).1,(.read 11)),(9,.bool (AcB ((Iv g n k).1) ((Iv g n (k-1)).1)),.none)] [0,3,25] ⟨Jg k n,Ef (Bg 221 (.tmp 18) κ isAgg221 4 sizeOf221 11 k κ 221 n (λxi=>Cp (Iv g n xi).1) κ ω),Ea (.int .i64 (IntKind.wrap .i64 ((k:Int)-1))) η,Jg (k-1) n,Ef (Bg 221 (.tmp 23) κ isAgg221 4 sizeOf221 11 (k-1) κ 221 n (λxi=>Cp (Iv g n xi).1) κ ω),Ef (Abc 221 221 (.tmp 19) (.tmp 24) κ _ _ κ κ κ (AcB ((Iv g n k).1) ((Iv g n (k-1)).1)) (Al5 ((Iv g n k).1) ((Iv g n (k-1)).1))),trivial⟩ ·) (Ab 1 (Eu 25 ?_ ?_)))
 refine Ab 5 (gs (Ct (.osw 11 4 k (n-k)) (.read 11) (Sc 231 (.tmp 26) (some (.tmp 27)) none κ underlying231 11 4 n sizeOf221 221 (λxi=>Cp (Iv g n xi).1) κ κ k n (.inr ⟨(.tmp 27),(k:Int),rfl,κ,ω⟩) (.inl ⟨rfl,rfl⟩) ω ω) ·) (Ab 10 (Vj [0,3,4,5] (λm s=>∃(kk k2:Nat) (gg:Nat->RQ),m=n-k2/\(1<=k2/\1<=kk/\kk<k+k2/\k+k2<=n)/\s=⟨[(0,.osl 11 4 n),(3,.int (kk:Int)),(4,.osw 11 4 k (n-k)),(5,.int ((k2:Nat):Int))],[(0,.box 25 [Cd f.o,hsA f,.int f.low,.int f.high]),(1,.box 79 [.int a.x,.int a.y,.int a.z]),(2,.box 79 [.int b.x,.int b.y,.int b.z]),(3,.box 169 [.bool (decide ((1:Int)<0)),.lit (.string (Cj (1:Int).natAbs))]),(11,.vec 221 4 n (λxi=>Cp (gg xi).1)),(5,.box 231 [.osl 11 4 n]),(6,.box 25 [Cd f.o,hsA f,.int f.low,.int f.high]),(8,.box 115 [.yld 7]),(10,.vec 22 1 (1+f.hn) (λxi=>Cd (Ca f xi)))],12,61⟩) (n-1) ⟨k,1,Iv g n,rfl,⟨ω,ω,ω,ω⟩,κ⟩ ?_)))
 rintro _ _ ⟨kk,k2,gg,rfl,hF,rfl⟩ hJ5
 refine Ab 9 (Hf 32 (((k2:Nat):Int)<((n-k:Nat):Int)) (λhx60 hx60d=>?_) (λhx60 hx60d=>?_))
 refine Ab 6 (gs (Cn [(2,Cv (.osw 11 4 k (n-k)) k2,.none),(3,Cp (gg (k+k2)).1,(.read 11)),(6,.int ((k2-1:Nat):Int),.none),(7,Cv (.osw 11 4 k (n-k)) (k2-1),.none),(8,Cp (gg (k+(k2-1))).1,(.read 11)),(9,.bool (!(AcB ((gg (k+k2)).1) ((gg (k+(k2-1))).1))),.none)] [0,3,4,5,44] ⟨Jg k2 (n-k),Ef (Bg 221 (.tmp 37) κ isAgg221 4 sizeOf221 11 (k+k2) κ 221 n (λxi=>Cp (gg xi).1) κ ω),Ea (.int .i64 (IntKind.wrap .i64 (((k2:Nat):Int)-1))) η,Jg (k2-1) (n-k),Ef (Bg 221 (.tmp 42) κ isAgg221 4 sizeOf221 11 (k+(k2-1)) κ 221 n (λxi=>Cp (gg xi).1) κ ω),Ef (Yp 221 221 (.tmp 38) (.tmp 43) κ _ _ κ κ κ (AcB ((gg (k+k2)).1) ((gg (k+(k2-1))).1)) (Al5 ((gg (k+k2)).1) ((gg (k+(k2-1))).1))),trivial⟩ ·) (Ab 1 (Eu 44 ?_ ?_)))
 exact Ab 7 (gs (Hk k2 (n-k) ·) (gs (Ct (Cp (gg (k+k2)).1) (.read 11) (Bg 221 (.tmp 49) κ isAgg221 4 sizeOf221 11 (k+k2) κ 221 n (λxi=>Cp (gg xi).1) κ ω) ·) (gs (Hk kk n ·) (gs (Ct (.lit Go.undef) (.set 11 (.vec 221 4 n (λxi=>if xi=kk then Cp (gg (k+k2)).1 else (λxi=>Cp (gg xi).1) xi))) (Gk 221 (.tmp 51) (.tmp 50) κ 4 sizeOf221 11 kk κ 221 n (λxi=>Cp (gg xi).1) κ ω κ κ κ (Cp (gg (k+k2)).1) κ) ·) (Ab 2 (gs (Xa 11 221 4 n (λxi=>if xi=kk then Cp (gg (k+k2)).1 else (λxi=>Cp (gg xi).1) xi) (λxi=>Cp (Ans gg kk (gg (k+k2)) xi).1) (λx9 hx9=>by unfold Ans;split<;>rfl) ·) (Ab 2 (gs (Db ((kk:Int)+1) ((kk+1:Nat):Int) ·) (Ab 6 (gs (Db (((k2:Nat):Int)+1) ((k2+1:Nat):Int) ·) (Ab 2 (mI [0,3,4,5] (hJ5 _ _ (by omega:n-(k2+1)<n-k2) ⟨kk+1,k2+1,Ans gg kk (gg (k+k2)),rfl,⟨ω,ω,ω,ω⟩,rfl⟩)))))))))))))
 exact Ab 6 (gs (Db (((k2:Nat):Int)+1) ((k2+1:Nat):Int) ·) (Ab 2 (mI [0,3,4,5] (hJ5 _ _ (by omega:n-(k2+1)<n-k2) ⟨kk,k2+1,gg,rfl,⟨ω,ω,ω,ω⟩,rfl⟩))))
 refine Ab 10 (gs (Ct (.osw 11 4 kk (n-kk)) (.read 11) (Sc 231 (.tmp 54) (some (.tmp 55)) none κ underlying231 11 4 n sizeOf221 221 (λxi=>Cp (gg xi).1) κ κ kk n (.inr ⟨(.tmp 55),(kk:Int),rfl,κ,ω⟩) (.inl ⟨rfl,rfl⟩) ω ω) ·) (gs (Ct (.lit (.tuple #[])) (.set 11 (.vec 221 4 n (λxi=>if xi<kk then (λxi=>Cp (gg xi).1) xi else .top))) (yS (.tmp 56) 231 #[231] κ rfl 11 4 kk (n-kk) n 221 221 (λxi=>Cp (gg xi).1) underlying231 (.agg #[.bool false,.string ⟨#[]⟩,.bool false,.string ⟨#[]⟩]) zeroValue221 rfl rfl κ κ ω) ·) (Ab 6 (gs (Ct (.osw 11 4 0 (kk-0)) (.read 11) (Sc 231 (.tmp 57) none (some (.tmp 58)) κ underlying231 11 4 n sizeOf221 221 (λxi=>if xi<kk then (λxi=>Cp (gg xi).1) xi else .top) κ κ 0 kk (.inl ⟨rfl,rfl⟩) (.inr ⟨(.tmp 58),(kk:Int),rfl,κ,ω⟩) ω ω) ·) (Ab 9 (Iw (Ab 3 (gs (vsh 11 221 4 n kk (λxi=>if xi<kk then (λxi=>Cp (gg xi).1) xi else .top) (λxi=>Cp (gg xi).1) ω (λi hi=>if_pos hi) ·) (Ab 18 (tfg [3,4,5,8,9,13,14,15] [(0,0),(1,1),(2,2),(3,3),(11,11),(5,5),(12,12)] 13 [(221,4,kk,(λxi=>Cp (gg xi).1)),(22,1,1+f.hn,(λxi=>Cd (Ca f xi)))] ⟨(Ce λ_ _=>rfl),(Ce λ_ _=>rfl),trivial⟩ (Vj [3,4,5,8,9,13,14,15] (λm s=>∃(q:Nat) (qe:Int),m=(kk-0)-q/\(1<=q)/\s=⟨[(3,.ptr 0 0),(4,.ptr 1 0),(5,.ptr 2 0),(8,.ptr 3 0),(9,.ptr 5 0),(13,.ptr 12 0),(14,.fn 145 [.ptr 12 0]),(15,.int (q:Int))],[(0,.box 25 [Cd f.o,hsA f,.int f.low,.int f.high]),(1,.box 79 [.int a.x,.int a.y,.int a.z]),(2,.box 79 [.int b.x,.int b.y,.int b.z]),(3,.box 169 [.bool (decide ((1:Int)<0)),.lit (.string (Cj (1:Int).natAbs))]),(11,.vec 221 4 kk (λxi=>Cp (gg xi).1)),(5,.box 231 [.osw 11 4 0 (kk-0)]),(12,.box 239 [.int qe])],13,131⟩) ((kk-0)-1) ⟨1,0,rfl,Nat.le_refl _,κ⟩ ?_)))))))))))
 rintro _ _ ⟨q,qe,rfl,hF,rfl⟩ hJ6
 refine Ab 9 (Hf 82 ((q:Int)<((kk-0:Nat):Int)) (λhx61 hx61d=>?_) (λhx61 hx61d=>?_))
 refine Ab 6 (Dx (mW ((gg (0+(q-1))).1) ((gg (0+q)).1)) λv62 hv62=>(gs (Cn [(2,.int ((q-1:Nat):Int),.none),(3,Cv (.osw 11 4 0 (kk-0)) (q-1),.none),(4,Cp (gg (0+(q-1))).1,(.read 11)),(7,Cv (.osw 11 4 0 (kk-0)) q,.none),(8,Cp (gg (0+q)).1,(.read 11)),(9,_,.none)] [3,4,5,8,9,13,14,15,16] ⟨Ea (.int .i64 (IntKind.wrap .i64 ((q:Int)-1))) η,Jg (q-1) (kk-0),Ef (Bg 221 (.tmp 89) κ isAgg221 4 sizeOf221 11 (0+(q-1)) κ 221 kk (λxi=>Cp (gg xi).1) κ ω),Jg q (kk-0),Ef (Bg 221 (.tmp 93) κ isAgg221 4 sizeOf221 11 (0+q) κ 221 kk (λxi=>Cp (gg xi).1) κ ω),Be hv62,trivial⟩ ·) (Ab 2 (Dx (mX (⟨⟨(gB (gT (gT v62 0) 0)),(gS (gT (gT v62 0) 1))⟩,⟨(gB (gT (gT v62 0) 2)),(gS (gT (gT v62 0) 3))⟩⟩) (⟨⟨decide ((1:Int)<0),Cj (1:Int).natAbs⟩,⟨decide ((2:Int)<0),Cj (2:Int).natAbs⟩⟩)) λv63 hv63=>(gs (Cn [(2,_,.none),(4,_,.none)] [3,4,5,8,9,13,14,15,18] ⟨Be (Ep 2 δ δ),Be hv63,trivial⟩ ·) (Ab 2 (Exists.elim (Qq qe a.x (Ai (b.x-a.x)) (⟨⟨(gB (gT (gT v63 0) 0)),(gS (gT (gT v63 0) 1))⟩,⟨(gB (gT (gT v63 0) 2)),(gS (gT (gT v63 0) 3))⟩⟩)) λv64 hv64=>(Exists.elim (Qq v64.2 a.y (Ai (b.y-a.y)) (⟨⟨(gB (gT (gT v63 0) 0)),(gS (gT (gT v63 0) 1))⟩,⟨(gB (gT (gT v63 0) 2)),(gS (gT (gT v63 0) 3))⟩⟩)) λv65 hv65=>(Exists.elim (xD v65.2 (⟨⟨(gB (gT v64.1 0)),(gS (gT v64.1 1))⟩,⟨(gB (gT v64.1 2)),(gS (gT v64.1 3))⟩⟩) (⟨⟨(gB (gT v65.1 0)),(gS (gT v65.1 1))⟩,⟨(gB (gT v65.1 2)),(gS (gT v65.1 3))⟩⟩)) λv66 hv66=>(gs (Cn [(9,_,_),(19,_,_),(20,_,_)] [3,4,5,8,9,13,14,15,20] ⟨aX 12 [] hv64,aX 12 [] hv65,aX 12 [] hv66,trivial⟩ ·) (Ab 5 (Exists.elim (xC v66.2 (⟨⟨(gB (gT v66.1 0)),(gS (gT v66.1 1))⟩,⟨(gB (gT v66.1 2)),(gS (gT v66.1 3))⟩,⟨(gB (gT v66.1 4)),(gS (gT v66.1 5))⟩⟩) f h0) λv67 hv67=>(gs (vcx 12 [15] hv67 ·) (Ab 3 (Eu 130 ?_ ?_)))))))))))))))
 exact Ab 13 (Bb)
 exact Ab 6 (gs (Db ((q:Int)+1) ((q+1:Nat):Int) ·) (Ab 2 (Ft [3,4,5,8,9,13,14,15] [(0,0),(1,1),(2,2),(3,3),(11,11),(5,5),(12,12)] 13 [(221,4,kk,(λxi=>Cp (gg xi).1))] ⟨(Ce λ_ _=>rfl),trivial⟩ (hJ6 _ _ (by omega:(kk-0)-(q+1)<(kk-0)-q) ⟨q+1,v67.2,rfl,ω,rfl⟩))))
 exact Ab 13 (Bb)
 exact Ab 6 (gs (Db ((k:Int)+1) ((k+1:Nat):Int) ·) (Ab 2 (mI [0,3] (hJ4 _ _ (by omega:n-(k+1)<n-k) ⟨k+1,rfl,⟨ω,ω⟩,rfl⟩))))
 refine Ab 13 (Iw (Ab 21 (tfg [3,4,5,8,9,13,14,15] [(0,0),(1,1),(2,2),(3,3),(11,11),(5,5),(12,12)] 13 [(221,4,n,(λxi=>Cp (Iv g n xi).1)),(22,1,1+f.hn,(λxi=>Cd (Ca f xi)))] ⟨(Ce λ_ _=>rfl),(Ce λ_ _=>rfl),trivial⟩ (Vj [3,4,5,8,9,13,14,15] (λm s=>∃(q:Nat) (qe:Int),m=n-q/\(1<=q)/\s=⟨[(3,.ptr 0 0),(4,.ptr 1 0),(5,.ptr 2 0),(8,.ptr 3 0),(9,.ptr 5 0),(13,.ptr 12 0),(14,.fn 145 [.ptr 12 0]),(15,.int (q:Int))],[(0,.box 25 [Cd f.o,hsA f,.int f.low,.int f.high]),(1,.box 79 [.int a.x,.int a.y,.int a.z]),(2,.box 79 [.int b.x,.int b.y,.int b.z]),(3,.box 169 [.bool (decide ((1:Int)<0)),.lit (.string (Cj (1:Int).natAbs))]),(11,.vec 221 4 n (λxi=>Cp (Iv g n xi).1)),(5,.box 231 [.osl 11 4 n]),(12,.box 239 [.int qe])],13,131⟩) (n-1) ⟨1,0,rfl,Nat.le_refl _,κ⟩ ?_))))
 rintro _ _ ⟨q,qe,rfl,hF,rfl⟩ hJ7
 refine Ab 9 (Hf 82 ((q:Int)<(n:Int)) (λhx68 hx68d=>?_) (λhx68 hx68d=>?_))
 refine Ab 6 (Dx (mW ((Iv g n (q-1)).1) ((Iv g n q).1)) λv69 hv69=>(gs (Cn [(2,.int ((q-1:Nat):Int),.none),(3,Cv (.osl 11 4 n) (q-1),.none),(4,Cp (Iv g n (q-1)).1,(.read 11)),(7,Cv (.osl 11 4 n) q,.none),(8,Cp (Iv g n q).1,(.read 11)),(9,_,.none)] [3,4,5,8,9,13,14,15,16] ⟨Ea (.int .i64 (IntKind.wrap .i64 ((q:Int)-1))) η,Jg (q-1) n,Ef (Bg 221 (.tmp 89) κ isAgg221 4 sizeOf221 11 (q-1) κ 221 n (λxi=>Cp (Iv g n xi).1) κ ω),Jg q n,Ef (Bg 221 (.tmp 93) κ isAgg221 4 sizeOf221 11 q κ 221 n (λxi=>Cp (Iv g n xi).1) κ ω),Be hv69,trivial⟩ ·) (Ab 2 (Dx (mX (⟨⟨(gB (gT (gT v69 0) 0)),(gS (gT (gT v69 0) 1))⟩,⟨(gB (gT (gT v69 0) 2)),(gS (gT (gT v69 0) 3))⟩⟩) (⟨⟨decide ((1:Int)<0),Cj (1:Int).natAbs⟩,⟨decide ((2:Int)<0),Cj (2:Int).natAbs⟩⟩)) λv70 hv70=>(gs (Cn [(2,_,.none),(4,_,.none)] [3,4,5,8,9,13,14,15,18] ⟨Be (Ep 2 δ δ),Be hv70,trivial⟩ ·) (Ab 2 (Exists.elim (Qq qe a.x (Ai (b.x-a.x)) (⟨⟨(gB (gT (gT v70 0) 0)),(gS (gT (gT v70 0) 1))⟩,⟨(gB (gT (gT v70 0) 2)),(gS (gT (gT v70 0) 3))⟩⟩)) λv71 hv71=>(Exists.elim (Qq v71.2 a.y (Ai (b.y-a.y)) (⟨⟨(gB (gT (gT v70 0) 0)),(gS (gT (gT v70 0) 1))⟩,⟨(gB (gT (gT v70 0) 2)),(gS (gT (gT v70 0) 3))⟩⟩)) λv72 hv72=>(Exists.elim (xD v72.2 (⟨⟨(gB (gT v71.1 0)),(gS (gT v71.1 1))⟩,⟨(gB (gT v71.1 2)),(gS (gT v71.1 3))⟩⟩) (⟨⟨(gB (gT v72.1 0)),(gS (gT v72.1 1))⟩,⟨(gB (gT v72.1 2)),(gS (gT v72.1 3))⟩⟩)) λv73 hv73=>(gs (Cn [(9,_,_),(19,_,_),(20,_,_)] [3,4,5,8,9,13,14,15,20] ⟨aX 12 [] hv71,aX 12 [] hv72,aX 12 [] hv73,trivial⟩ ·) (Ab 5 (Exists.elim (xC v73.2 (⟨⟨(gB (gT v73.1 0)),(gS (gT v73.1 1))⟩,⟨(gB (gT v73.1 2)),(gS (gT v73.1 3))⟩,⟨(gB (gT v73.1 4)),(gS (gT v73.1 5))⟩⟩) f h0) λv74 hv74=>(gs (vcx 12 [15] hv74 ·) (Ab 3 (Eu 130 ?_ ?_)))))))))))))))
 exact Ab 13 (Bb)
 exact Ab 6 (gs (Db ((q:Int)+1) ((q+1:Nat):Int) ·) (Ab 2 (Ft [3,4,5,8,9,13,14,15] [(0,0),(1,1),(2,2),(3,3),(11,11),(5,5),(12,12)] 13 [(221,4,n,(λxi=>Cp (Iv g n xi).1))] ⟨(Ce λ_ _=>rfl),trivial⟩ (hJ7 _ _ (by omega:n-(q+1)<n-q) ⟨q+1,v74.2,rfl,ω,rfl⟩))))
 exact Ab 13 (Bb)
 refine Eu 49 ?_ ?_
 refine Ab 8 (Eu 55 ?_ ?_)
 exact Ab 9 (Bb)
 exact Vk [3,4,5,6,7,55] hS6
 exact Ab 8 (Vk [3,4,5,6,7,55] hS6)
 exact Ab 20 (Bb)
end Go.Proofs.YtihcpmmopejpoaaGreatDoor
namespace Go.Proofs.YtihcpmmopejpoaaGreatDoor
open Go.Proofs.Tryz
open Go.RowKit
theorem AaC:Hc:=λf a b h=>AcP f a b h
theorem Ahb {b:Bool} (h:AV.bool b= .bool true):b=true:=by injection h with h;injection h
theorem lC (f:Lu):∃r,(Fx [.one .b] r/\(r= .bool true->f.o.n<=8/\f.hn<=1/\∀q,q<f.hn->(f.h q).n<=8))/\AF Tryz.prog 6 [Jw f] r:=by
 refine Au func6 rfl ?_
 refine Ab 13 (Hf 7 ((f.o.n:Int)<=8) (λhx1 hx1d=>?_) (λhx1 hx1d=>?_))
 refine Ab 6 (Hf 13 ((f.hn:Int)<=1) (λhx2 hx2d=>?_) (λhx2 hx2d=>?_))
 refine Ab 5 (Hf 18 ((f.hn:Int)=0) (λhx3 hx3d=>?_) (λhx3 hx3d=>?_))
 exact Ab 12 (Ey (.bool true) (λh=>⟨ω,ω,λq hq=>absurd hq ω⟩))
 exact Ab 2 (gs (Hk 0 f.hn ·) (Ab 9 (Ey (.bool (decide (((f.h 0).n:Int)<=8))) (λh=>by have h9:=of_decide_eq_true (Ahb h);exact⟨ω,ω,λq hq=>by(obtain rfl:q=0:=(ω));omega⟩))))
 exact Ab 17 (Ey (.bool false) (λh=>by cases h))
 exact Ab 23 (Ey (.bool false) (λh=>by cases h))
noncomputable def Xz (f:Lu):Value:=chP 6 [.one .b] [Jw f] λr=>r= .bool true->f.o.n<=8/\f.hn<=1/\∀q,q<f.hn->(f.h q).n<=8
theorem AbF (f:Lu):AF Tryz.prog 6 [Jw f] (.lit (Hh [.one .b] (Xz f))):=(Ok (lC f)).1
theorem Aib {f:Lu} (hz:∀i,f.hn<=i->(f.h i).n=0) (h:gB (Xz f)=true):Zi f:=by
 have h1:=(Ok (lC f)).2 (congrArg AV.bool h)
 refine⟨ω,ω,λi=>?_⟩
 by_cases hi:i<f.hn
 have:=h1.2.2 i hi
 omega
 have:=hz i ω
 omega
def Apr (x:Pm):Prop:=(∀i,x.area.hn<=i->(x.area.h i).n=0)/\Cg x.fr/\Cg x.til/\Cg x.craft
theorem Mo (f:Lu) (b:Bool) (h:gB (Xz f)=b):AF Tryz.prog 6 [Jw f] (.bool b):=by
 have h9:AF Tryz.prog 6 [Jw f] (.bool (gB (Xz f))):=AbF f
 rwa [h] at h9
theorem Rc (p:Pr) (b:Bool) (h:bP (Ajr p 3 3)=b):AF Tryz.prog 5 [Hs p,.int 3,.int 3] (.bool b):=by
 have h9:=AeQ p 3 3 ⟨δ,δ⟩ ⟨δ,δ⟩
 rwa [h] at h9
theorem dZ {x:Pm} (hx:nD x) {b:Bool} (h:yY x=b):AF Tryz.prog 9 [Ul x] (.bool b):=by
 have h9:=Of x hx
 rwa [h] at h9
theorem Pk {x:Pm} (hx:nD x) {b:Bool} (h:yY x=b):AF Tryz.prog 10 [Ul x] (.bool b):=by
 have h9:=qK x hx
 rwa [h] at h9
theorem mS {p:Pr} (hp:Xp p) {b:Bool} (h:Dq p=b):AF Tryz.prog 11 [Hs p] (.bool b):=by
 have h9:=Gb p hp
 rwa [h] at h9
theorem bR (x:Pm) (p:Pr) (st:Int) (hz:Apr x) (hl:∀a∈p.acts,Cg a.len):mQ Qm Tryz.prog 3 [Ul x,Hs p,.int st] (.bool true):=by
 cases hfw:bP (Ajr p 3 3) with
 |false=>
  refine Nl Gq func3 rfl λB D0 hA0 hT=>?_
  refine Ae 11 (Ao (Rc p _ hfw) (Ae 12 (Vp hT Hv ?_)))
  exact Ae 5 (Cu)
 |true=>
  have hp:Xp p:=Am0 (Aay hfw) δ δ hl
  cases hsm:gB (Xz x.area) with
  |false=>
   refine Nl Gq func3 rfl λB D0 hA0 hT=>?_
   refine Ae 11 (Ao (Rc p _ hfw) (Ae 4 (Ao (Mo x.area _ hsm) (Ae 7 (Vp hT Hv ?_)))))
   exact Ae 5 (Cu)
  |true=>
   have hx:nD x:=⟨Aib hz.1 hsm,hz.2.1,hz.2.2.1,hz.2.2.2⟩
   cases hv:yY x with
   |false=>
    refine Nl Gq func3 rfl λB D0 hA0 hT=>?_
    refine Ae 11 (Ao (Rc p _ hfw) (Ae 4 (Ao (Mo x.area _ hsm) (Ae 12 (Ao (My x p st hx hp (by rintro⟨g9,_⟩;rw[hv] at g9;cases g9)) (Ae 9 (Cn [(1,_,.none),(3,_,.none),(4,.bool (!decide (false=false)),.none)] [2,3,4,7,8,30] ⟨Be (dZ hx hv),Be (Pk hx hv),Ea (.bool (!decide (false=false))) rfl,trivial⟩ (Ae 1 (Jk 30 (!decide (false=false)) false (congrArg (!·) (decide_eq_true rfl)) (Ae 7 (Ao (Pk hx hv) (Ae 24 (Vp hT Hv ?_)))))))))))))
    exact Ae 6 (Cu)
   |true=>
    cases h:Dq p with
    |false=>
     refine Nl Gq func3 rfl λB D0 hA0 hT=>?_
     refine Ae 11 (Ao (Rc p _ hfw) (Ae 4 (Ao (Mo x.area _ hsm) (Ae 12 (Ao (My x p st hx hp (by rintro⟨_,g9,_⟩;rw[h] at g9;cases g9)) (Ae 9 (Cn [(1,_,.none),(3,_,.none),(4,.bool (!decide (true=true)),.none)] [2,3,4,7,8,30] ⟨Be (dZ hx hv),Be (Pk hx hv),Ea (.bool (!decide (true=true))) rfl,trivial⟩ (Ae 1 (Jk 30 (!decide (true=true)) false (congrArg (!·) (decide_eq_true rfl)) (Ae 7 (Ao (Pk hx hv) (Ae 3 (Ao (mS hp h) (Ae 20 (Vp hT Hv ?_)))))))))))))))
     exact Ae 6 (Cu)
    |true=>
     by_cases hs:0<=st/\st<=86400000
     ·
      have hpn:=(Nz h).n1
      by_cases hk:p.acts.length=0
      ·
       refine Nl Gq func3 rfl λB D0 hA0 hT=>?_
       refine Ae 11 (Ao (Rc p _ hfw) (Ae 4 (Ao (Mo x.area _ hsm) (Ae 12 (Ao (bS x p st hx hp hv h hs hk) (Ae 9 (Cn [(1,_,.none),(3,_,.none),(4,.bool (!decide (true=true)),.none)] [2,3,4,7,8,30] ⟨Be (dZ hx hv),Be (Pk hx hv),Ea (.bool (!decide (true=true))) rfl,trivial⟩ (Ae 1 (Jk 30 (!decide (true=true)) false (congrArg (!·) (decide_eq_true rfl)) (Ae 7 (Ao (Pk hx hv) (Ae 3 (Ao (mS hp h) (Ae 4 (Ao (Aak hs) (Ae 14 (Jk 57 (decide ((p.acts.length:Int)=0)) true (decide_eq_true ω) (Ae 13 (Vp hT Hv ?_)))))))))))))))))))
       exact Ae 6 (Cu)
      ·
       refine Nl Gq func3 rfl λB D0 hA0 hT=>?_
       refine Ae 11 (Ao (Rc p _ hfw) (Ae 4 (Ao (Mo x.area _ hsm) (Ae 12 (Ao (vW x p st hx hp AaC hv h hs ω) (Ae 9 (Cn [(1,_,.none),(3,_,.none),(4,.bool (!decide (true=true)),.none)] [2,3,4,7,8,30] ⟨Be (dZ hx hv),Be (Pk hx hv),Ea (.bool (!decide (true=true))) rfl,trivial⟩ (Ae 1 (Jk 30 (!decide (true=true)) false (congrArg (!·) (decide_eq_true rfl)) (Ae 7 (Ao (Pk hx hv) (Ae 3 (Ao (mS hp h) (Ae 4 (Ao (Aak hs) (Ae 14 (Jk 57 (decide ((p.acts.length:Int)=0)) false (decide_eq_false ω) (Ae 14 (Ao (qJ x p st hx hp AaC h hs ω) (Ao (AbR (yH x p st) (by have h9:=AmM x p st;omega)) (Ae 2 (Vp hT Hv ?_))))))))))))))))))))))
       exact Ae 5 (Cu)
     ·
      refine Nl Gq func3 rfl λB D0 hA0 hT=>?_
      refine Ae 11 (Ao (Rc p _ hfw) (Ae 4 (Ao (Mo x.area _ hsm) (Ae 12 (Ao (My x p st hx hp (λg9=>hs g9.2.2)) (Ae 9 (Cn [(1,_,.none),(3,_,.none),(4,.bool (!decide (true=true)),.none)] [2,3,4,7,8,30] ⟨Be (dZ hx hv),Be (Pk hx hv),Ea (.bool (!decide (true=true))) rfl,trivial⟩ (Ae 1 (Jk 30 (!decide (true=true)) false (congrArg (!·) (decide_eq_true rfl)) (Ae 7 (Ao (Pk hx hv) (Ae 3 (Ao (mS hp h) (Ae 4 (Ao (AiY hs) (Ae 15 (Vp hT Hv ?_)))))))))))))))))
      exact Ae 6 (Cu)
end Go.Proofs.YtihcpmmopejpoaaGreatDoor
namespace Go.Proofs.YtihcpmmopejpoaaGreatDoor.Open
open Go.ChangeShapes Go.WideShapes Go.ChangeAt Go.RowKit Go.Deep
section
variable {H:Type} {enc:TypeId×Value->H} {W:World}
def iS (W:World) (x:AV) (v:Value):Prop:=∀E:Ar,E.w=W->(∀b,b<W.heap.size->E.D b)->VR E x v
theorem Abd {a0:Option Addr} {l0 c0 fuel:Nat} {y:DataW H×List MemPlace} (h:DataW.trod enc Tryz.prog W 0 (λ_=>true) true fuel 22 [.slice a0 l0 c0]=some y):∃l:Vs,iS W (Cd l) (.slice a0 l0 c0):=by
 obtain⟨lh,g1,g2,g3,_⟩:=Mt Tryz.underlying22 AfV δ h
 obtain⟨Hm,H1,H2⟩:=dC (cells:=λv:V3=>[.int .i64 v.x,.int .i64 v.y,.int .i64 v.z]) lh (λcs hc=>by obtain⟨hl,n,y,ht⟩:=g2 cs hc;exact fX hl ht)
 have hL:Hm.length=l0:=by omega
 subst hL
 have g3':Bq W 0 W.heap.size 3 (.slice a0 Hm.length c0) Hm.length (Iy Hm):=by unfold Iy;rw[<-H2];exact g3
 exact⟨⟨Hm.length,λi=>Hm.getD i V3.zero⟩,λE hw hD=>Abw g3' hw λb hb=>hD b hb.2⟩
theorem rX:∀(l:List (List Value)) (_:∀cs∈l,cs.length=1) (i:Nat),i<l.length->l.flatten.getD (i*1+0) undef=(l.getD i []).getD 0 undef
 |[],_,i,h=>absurd h (Nat.not_lt_zero i)
 |cs::l,h,0,_=>by
  match cs,h cs (by simp) with
  |[a],_=>rfl
 |cs::l,h,i+1,hi=>by
  have ih:=rX l (λc hc=>h c (by simp[hc])) i (by simpa using hi)
  match cs,h cs (by simp) with
  |[a],_=>simpa using ih
end
end Go.Proofs.YtihcpmmopejpoaaGreatDoor.Open
namespace Go.Proofs.YtihcpmmopejpoaaGreatDoor.Open
open Go.ChangeShapes Go.WideShapes Go.ChangeAt Go.RowKit Go.Deep
theorem Aj9:Tryz.prog.cellsOf 25=4:=κ
theorem AfU:Tryz.prog.cellsOf 27=7:=κ
theorem AjB:Tryz.prog.cellsOf 22=1:=κ
theorem AfW:Tryz.prog.cellsOf 23=1:=κ
section
variable {H:Type} {enc:TypeId×Value->H} {W:World}
theorem tO {cs:List Value} {n:Nat} {y:DataW H×List MemPlace} (hl:cs.length=4) (h:DataW.trod enc Tryz.prog W 0 (λ_=>true) true n 25 cs=some y):
  ∃(f:Lu) (v0 v1:Value),cs=[v0,v1,.int .i64 f.low,.int .i64 f.high]/\(∀i,f.hn<=i->(f.h i).n=0)/\iS W (Cd f.o) v0/\iS W (hsA f) v1:=by
 match cs,hl with
 |[v0,v1,v2,v3],_=>
  obtain⟨m0,z0,h0⟩:=Cr (ty:=22) (off:=0) Tryz.underlying25 h 0 (by rfl)
  obtain⟨m1,z1,h1⟩:=Cr (ty:=23) (off:=1) Tryz.underlying25 h 1 (by rfl)
  obtain⟨m2,z2,h2⟩:=Cr (ty:=3) (off:=2) Tryz.underlying25 h 2 (by rfl)
  obtain⟨m3,z3,h3⟩:=Cr (ty:=3) (off:=3) Tryz.underlying25 h 3 (by rfl)
  simp only[rM,AjB,AfW] at h0 h1 h2 h3
  obtain⟨a0,l0,c0,e0⟩:=Go.Joins.slice_form Tryz.underlying22 h0
  obtain rfl:v0= .slice a0 l0 c0:=by simpa using e0
  obtain⟨a1,l1,c1,e1⟩:=Go.Joins.slice_form Tryz.underlying23 h1
  obtain rfl:v1= .slice a1 l1 c1:=by simpa using e1
  obtain⟨k2,e2,f2⟩:=Hi h2
  obtain rfl:v2= .int .i64 k2:=by simpa using e2
  obtain⟨k3,e3,f3⟩:=Hi h3
  obtain rfl:v3= .int .i64 k3:=by simpa using e3
  obtain⟨o,ho⟩:=Abd h0
  obtain⟨lh,g1,g2,g3,_⟩:=Mt Tryz.underlying23 Amh δ h1
  have hk:∀i,∃q:Vs,(i<l1->iS W (Cd q) (lh.flatten.getD (i*1+0) undef))/\(l1<=i->q.n=0):=λi=>by
   by_cases hi:i<l1
   have hi':i<lh.length:=by omega
   obtain⟨hl,m,y,ht⟩:=g2 lh[i] (List.getElem_mem hi')
   obtain⟨a,c,k,e⟩:=Go.Joins.slice_form Tryz.underlying22 ht
   rw[e] at ht
   obtain⟨q,hq⟩:=Abd ht
   refine⟨q,λ_=>?_,λh=>absurd hi ω⟩
   rw[rX lh (λcs hc=>(g2 cs hc).1) i hi',Γ (l:=lh),List.getElem?_eq_getElem hi',Option.getD_some,e]
   exact hq
   exact⟨⟨0,λ_=>V3.zero⟩,λh=>absurd h hi,λ_=>rfl⟩
  obtain⟨hh,hhs⟩:=Classical.axiomOfChoice hk
  exact⟨⟨o,l1,hh,k2,k3⟩,_,_,rfl,λi hi=>(hhs i).2 hi,ho,λE hw hD=>Mj g3 hw (λb hb=>hD b hb.2) λi j hi hj=>by
   obtain rfl:j=0:=by omega
   exact(hhs i).1 hi E.fz hw hD⟩
theorem Ah4 {cs:List Value} {n:Nat} {y:DataW H×List MemPlace} (hl:cs.length=7) (h:DataW.trod enc Tryz.prog W 0 (λ_=>true) true n 27 cs=some y):
  ∃(x:Pm) (v0 v1:Value),cs=[v0,v1,.int .i64 x.area.low,.int .i64 x.area.high,.int .i64 x.fr,.int .i64 x.til,.int .i64 x.craft]/\((∀i,x.area.hn<=i->(x.area.h i).n=0)/\Cg x.fr/\Cg x.til/\Cg x.craft)/\iS W (Cd x.area.o) v0/\iS W (hsA x.area) v1:=by
 match cs,hl with
 |[v0,v1,v2,v3,v4,v5,v6],_=>
  obtain⟨m0,z0,h0⟩:=Cr (ty:=25) (off:=0) Tryz.underlying27 h 0 (by rfl)
  obtain⟨m1,z1,h1⟩:=Cr (ty:=3) (off:=4) Tryz.underlying27 h 1 (by rfl)
  obtain⟨m2,z2,h2⟩:=Cr (ty:=3) (off:=5) Tryz.underlying27 h 2 (by rfl)
  obtain⟨m3,z3,h3⟩:=Cr (ty:=3) (off:=6) Tryz.underlying27 h 3 (by rfl)
  simp only[rM,Aj9] at h0 h1 h2 h3
  obtain⟨f,w0,w1,e0,hz,t0,t1⟩:=tO (by rfl) h0
  obtain⟨k1,e1,f1⟩:=Hi h1
  obtain⟨k2,e2,f2⟩:=Hi h2
  obtain⟨k3,e3,f3⟩:=Hi h3
  simp at e0 e1 e2 e3
  obtain⟨rfl,rfl,rfl,rfl⟩:=e0
  subst e1 e2 e3
  exact⟨⟨f,k1,k2,k3⟩,_,_,rfl,⟨hz,f1,f2,f3⟩,t0,t1⟩
theorem Ali {x:Pm} {v0 v1:Value} (t0:iS W (Cd x.area.o) v0) (t1:iS W (hsA x.area) v1):iS W (Ul x) (.agg #[v0,v1,.int .i64 x.area.low,.int .i64 x.area.high,.int .i64 x.fr,.int .i64 x.til,.int .i64 x.craft]):=λE hw hD=> .agg _ _ _ rfl λi hi=>by
 have h7:i<7:=hi
 match i,h7 with
 |0,_=>exact t0 E hw hD
 |1,_=>exact t1 E hw hD
 |2,_=>exact .lit _ _
 |3,_=>exact .lit _ _
 |4,_=>exact .lit _ _
 |5,_=>exact .lit _ _
 |6,_=>exact .lit _ _
theorem open_permit {v:Value} {d:DataW H} {p:List MemPlace} {base:Nat} (hv:Value.okWide Tryz.prog W .any base 27 v) (h:DataW.Trod enc Tryz.prog W 0 (λ_=>true) true 27 v d p):
  ∃x:Pm,((∀i,x.area.hn<=i->(x.area.h i).n=0)/\Cg x.fr/\Cg x.til/\Cg x.craft)/\iS W (Ul x) v:=by
 obtain⟨cs,rfl,hsz⟩:=okWide_struct Tryz.underlying27 hv
 obtain⟨fuel,hf⟩:=h
 rw[AfU] at hsz
 obtain⟨x,v0,v1,e,hz,t0,t1⟩:=Ah4 (cs:=cs.toList) (by simpa using hsz) (by simpa [Value.cells] using hf)
 have:cs=#[v0,v1,.int .i64 x.area.low,.int .i64 x.area.high,.int .i64 x.fr,.int .i64 x.til,.int .i64 x.craft]:=by
  rw[<-e]
 rw[this]
 exact⟨x,hz,Ali t0 t1⟩
end
end Go.Proofs.YtihcpmmopejpoaaGreatDoor.Open