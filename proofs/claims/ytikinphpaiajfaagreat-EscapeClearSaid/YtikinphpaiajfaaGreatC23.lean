/- Part 23 of the proof of EC.row_holds, joined by program: no condition beyond the row's own. -/
import Derived.Test.YtikinphpaiajfaaGreatC22
set_option maxRecDepth 100000
set_option maxHeartbeats 40000000
namespace Go.Proofs.YtikinphpaiajfaaGreat
open Go.Proofs.Tryz
open Go.RowKit
theorem Afw (n:Int):∃r,Gm [.one .i] r/\AF Tryz.prog 102 [.int n] r:=by
 refine Cd func102 rfl ?_
 refine Ae 14 (Ff 3 ?_ ?_)
 exact Ae 9 (Bl)
 refine Ae 8 (Ff 6 ?_ ?_)
 exact Ae 9 (Bl)
 exact Ae 10 (Bl)
noncomputable def AjV (n:Int):Value:=Kp 102 [.one .i] [.int n]
theorem Ac0 (n:Int):AF Tryz.prog 102 [.int n] (.lit (Ht [.one .i] (AjV n))):=Bv (Afw n)
theorem Afx (a:V3) (b:V3) (c:V3):∃r,Gm [.one .i,.one .i] r/\AF Tryz.prog 79 [Bs a,Bs b,Bs c] r:=by
 refine Cd func79 rfl ?_
 refine Ae 13 (gs (Aw (Ko a) ·) (Ae 2 (Ff 11 ?_ ?_)))
 exact Ae 20 (Bl)
 refine Ae 1 (gs (Aw (Ko b) ·) (Ae 3 (Ff 16 ?_ ?_)))
 exact Ae 15 (Bl)
 refine Ae 1 (gs (Aw (Ko c) ·) (Ae 4 (Ff 20 ?_ ?_)))
 exact Ae 9 (Bl)
 exact Ae 28 (Eh (Ac0 (Ai (Ai ((Ai (b.x-a.x))*(Ai (c.y-a.y)))-Ai ((Ai (b.y-a.y))*(Ai (c.x-a.x)))))) λv3 hv3=>(gs (Aw hv3 ·) (Ae 5 (Bl))))
noncomputable def AjW (a:V3) (b:V3) (c:V3):Value:=Kp 79 [.one .i,.one .i] [Bs a,Bs b,Bs c]
theorem Ac1 (a:V3) (b:V3) (c:V3):AF Tryz.prog 79 [Bs a,Bs b,Bs c] (.lit (Ht [.one .i,.one .i] (AjW a b c))):=Bv (Afx a b c)
theorem AdT (a:V3) (b:V3) (c:V3):∃r,Gm [.one .i] r/\AF Tryz.prog 55 [Bs a,Bs b,Bs c] r:=by
 refine Cd func55 rfl ?_
 exact Ae 13 (Eh (Ac1 a b c) λv1 hv1=>(gs (Aw hv1 ·) (Ae 14 (Bl))))
noncomputable def Ajs (a:V3) (b:V3) (c:V3):Value:=Kp 55 [.one .i] [Bs a,Bs b,Bs c]
theorem Mt (a:V3) (b:V3) (c:V3):AF Tryz.prog 55 [Bs a,Bs b,Bs c] (.lit (Ht [.one .i] (Ajs a b c))):=Bv (AdT a b c)
theorem Ajn (a:V3) (b:V3) (c:V3):∃r,Gm [.one .b] r/\AF Tryz.prog 51 [Bs a,Bs b,Bs c] r:=by
 refine Cd func51 rfl ?_
 refine Ae 13 (Eh (Mt a b c) λv1 hv1=>(gs (Aw hv1 ·) (Ae 2 (Ff 12 ?_ ?_))))
 refine Ae 6 (gs (Bi (.int (min a.x b.x)) .none (yC (.tmp 16) (.tmp 18) #[3,3] κ a.x b.x κ κ) ·) (Ae 3 (Ff 22 ?_ ?_)))
 refine Ae 6 (gs (Bi (.int (max a.x b.x)) .none (Of (.tmp 26) (.tmp 28) #[3,3] κ a.x b.x κ κ) ·) (Ae 3 (Ff 32 ?_ ?_)))
 refine Ae 6 (gs (Bi (.int (min a.y b.y)) .none (yC (.tmp 36) (.tmp 38) #[3,3] κ a.y b.y κ κ) ·) (Ae 3 (Ff 42 ?_ ?_)))
 exact Ae 6 (gs (Bi (.int (max a.y b.y)) .none (Of (.tmp 46) (.tmp 48) #[3,3] κ a.y b.y κ κ) ·) (Ae 6 (Bl)))
 exact Ae 13 (Bl)
 exact Ae 23 (Bl)
 exact Ae 33 (Bl)
 exact Ae 43 (Bl)
noncomputable def Al4 (a:V3) (b:V3) (c:V3):Value:=Kp 51 [.one .b] [Bs a,Bs b,Bs c]
theorem Om (a:V3) (b:V3) (c:V3):AF Tryz.prog 51 [Bs a,Bs b,Bs c] (.lit (Ht [.one .b] (Al4 a b c))):=Bv (Ajn a b c)
theorem AdO (a:V3) (b:V3) (c:V3) (d:V3):∃r,Gm [.one .b] r/\AF Tryz.prog 27 [Bs a,Bs b,Bs c,Bs d] r:=by
 refine Cd func27 rfl ?_
 refine Ae 10 (Eh (Om a b c) λv1 hv1=>?_)
 refine Ct (gB v1) (λhx2=>?_) (λhx2=>?_)
 exact gs (Dg [(3,.bool true,.none)] [8] ⟨Vx hx2 (Bu hv1),trivial⟩ ·) (Ae 2 (Bl))
 refine Eh (Om a b d) λv3 hv3=>?_
 refine Ct (gB v3) (λhx4=>?_) (λhx4=>?_)
 exact gs (Dg [(3,.bool false,.none),(8,.bool true,.none)] [8] ⟨Vx hx2 (Bu hv1),Vx hx4 (Bu hv3),trivial⟩ ·) (Ae 2 (Bl))
 refine Eh (Om c d a) λv5 hv5=>?_
 refine Ct (gB v5) (λhx6=>?_) (λhx6=>?_)
 exact gs (Dg [(3,.bool false,.none),(8,.bool false,.none),(14,.bool true,.none)] [8] ⟨Vx hx2 (Bu hv1),Vx hx4 (Bu hv3),Vx hx6 (Bu hv5),trivial⟩ ·) (Ae 2 (Bl))
 refine Eh (Om c d b) λv7 hv7=>?_
 refine Ct (gB v7) (λhx8=>?_) (λhx8=>?_)
 exact gs (Dg [(3,.bool false,.none),(8,.bool false,.none),(14,.bool false,.none),(20,.bool true,.none)] [8] ⟨Vx hx2 (Bu hv1),Vx hx4 (Bu hv3),Vx hx6 (Bu hv5),Vx hx8 (Bu hv7),trivial⟩ ·) (Ae 2 (Bl))
 refine Eh (Mt a b c) λv9 hv9=>(Eh (Mt a b d) λv10 hv10=>(vsp (Ai ((gI v9)*(gI v10))<0) (λhx11 hx11d=>?_) (λhx11 hx11d=>?_)))
 exact Eh (Mt c d a) λv12 hv12=>(Eh (Mt c d b) λv13 hv13=>(gs (Dg [(3,.bool false,.none),(8,.bool false,.none),(14,.bool false,.none),(20,.bool false,.none),(26,_,.none),(30,_,.none),(32,.bool true,.none),(37,_,.none),(41,_,.none)] [8] ⟨Vx hx2 (Bu hv1),Vx hx4 (Bu hv3),Vx hx6 (Bu hv5),Vx hx8 (Bu hv7),Bu hv9,Bu hv10,xH hx11,Bu hv12,Bu hv13,trivial⟩ ·) (Ae 2 (Bl))))
 exact gs (Dg [(3,.bool false,.none),(8,.bool false,.none),(14,.bool false,.none),(20,.bool false,.none),(26,_,.none),(30,_,.none),(32,.bool false,.none)] [8] ⟨Vx hx2 (Bu hv1),Vx hx4 (Bu hv3),Vx hx6 (Bu hv5),Vx hx8 (Bu hv7),Bu hv9,Bu hv10,xH hx11,trivial⟩ ·) (Ae 2 (Bl))
noncomputable def Ajk (a:V3) (b:V3) (c:V3) (d:V3):Value:=Kp 27 [.one .b] [Bs a,Bs b,Bs c,Bs d]
theorem bH (a:V3) (b:V3) (c:V3) (d:V3):AF Tryz.prog 27 [Bs a,Bs b,Bs c,Bs d] (.lit (Ht [.one .b] (Ajk a b c d))):=Bv (AdO a b c d)
theorem AdR (n:Int):∃r,Gm [.one .i] r/\AF Tryz.prog 57 [.int n] r:=by
 refine Cd func57 rfl ?_
 refine Ae 14 (Ff 3 ?_ ?_)
 exact Ae 9 (Bl)
 refine Ae 8 (Ff 6 ?_ ?_)
 exact Ae 9 (Bl)
 exact Ae 10 (Bl)
noncomputable def Ajo (n:Int):Value:=Kp 57 [.one .i] [.int n]
theorem mX (n:Int):AF Tryz.prog 57 [.int n] (.lit (Ht [.one .i] (Ajo n))):=Bv (AdR n)
structure Vs where
 n:Nat
 f:Nat->V3
abbrev Dj (l:Vs):AV:= .sl 3 l.n λi=>Bs (l.f i)
theorem Aae (l:Vs) (h0:l.n<=64):∃r,Gm [.one .b] r/\AF Tryz.prog 49 [Dj l,.fn 50 []] r:=by
 refine Cd func49 rfl ?_
 refine Ae 9 (mH func78 (Ae 14 (AhR [0,1,7,8] l.n (λq=>True) (λq=>⟨[(0,Dj l),(1,.fn 50 []),(7,.int (l.n:Int)),(8,.int (q:Int))],[],0,19⟩) trivial (λq hqn hFq hJ1=>?_))))
 refine Ae 6 (Jf 9 ((q:Int)<(l.n:Int)) (λhx2 hx2d=>?_) (λhx2 hx2d=>?_))
 refine Ae 16 (gs (Iz q l.n ·) (Ae 1 (Afh func50 (Ae 9 (gs (Aw (Gb (l.f q)) ·) (Ae 5 (Kl (Ae 2 (Ff 16 ?_ ?_)))))))))
 exact Ae 13 (Kl (Ae 5 (Bl)))
 exact Ae 5 (gs (Dm ((q:Int)+1) ((q+1:Nat):Int) ·) (Ae 2 (Hd [0,1,7,8] [] 0 [] trivial (hJ1 ω trivial))))
 exact Ae 12 (Kl (Ae 5 (Bl)))
noncomputable def Ag5 (l:Vs):Value:=Kp 49 [.one .b] [Dj l,.fn 50 []]
theorem yW (l:Vs) (h0:l.n<=64):AF Tryz.prog 49 [Dj l,.fn 50 []] (.lit (Ht [.one .b] (Ag5 l))):=Bv (Aae l h0)
theorem iZ (l:Vs):∃r,(Gm [.one .b] r/\(r= .bool true->3<=l.n))/\AF Tryz.prog 24 [Dj l] r:=by
 refine Cd func24 rfl ?_
 refine Ae 18 (Jf 15 ((l.n:Int)<3) (λhx1 hx1d=>?_) (λhx1 hx1d=>?_))
 exact Ae 17 (Fd (.bool false) (λh=>by cases h))
 refine Ae 4 (Jf 19 ((64:Int)<(l.n:Int)) (λhx2 hx2d=>?_) (λhx2 hx2d=>?_))
 exact Ae 13 (Fd (.bool false) (λh=>by cases h))
 refine Ae 1 (Eh (yW l ω) λv3 hv3=>(gs (Aw hv3 ·) (Ae 3 (Ff 22 ?_ ?_))))
 exact Ae 8 (Fd (.bool false) (λh=>by cases h))
 refine Ae 11 (AhR [0,3,23,24] l.n (λi=>True) (λi=>⟨[(0,Dj l),(3,.int (l.n:Int)),(23,.int (l.n:Int)),(24,.int (i:Int))],[],0,117⟩) trivial (λi hin hFi hJ1=>?_))
 refine Ae 6 (Jf 25 ((i:Int)<(l.n:Int)) (λhx4 hx4d=>?_) (λhx4 hx4d=>?_))
 refine Ae 12 ?_
 have hm4:=Nat.mod_lt (i+1) (by omega:0<l.n)
 refine gs (Dg [(2,Dx (Dj l) i,.none),(6,.int ((i+1:Nat):Int),.none),(8,.int (((i+1)%l.n:Nat):Int),.none),(9,Dx (Dj l) ((i+1)%l.n),.none)] [0,3,4,5,6,23,24] ⟨Pc i l.n,As (Bb (v:= .int .i64 (IntKind.wrap .i64 ((i:Int)+1))) (v':= .int .i64 ((i+1:Nat):Int)) _ κ rfl κ (λw=>by kernel_rfl) (congrArg (Value.int .i64) ((IntWalk.i64_in _ ω).trans ω))),qE ((i+1:Nat):Int) (l.n:Int) (((i+1)%l.n:Nat):Int) ω rfl,Pc ((i+1)%l.n) l.n,trivial⟩ ·) (Ae 10 (tsh 8 43 false [0,3,4,5,6,23,24,49] ?_ (λhS6=>?_)))
 refine Ae 6 (gs (Dm ((i:Int)+1) ((i+1:Nat):Int) ·) (Ae 4 (Vy [0,3,4,5,6,7,23,24] (λm s=>∃k,m=l.n-k/\(i<k/\k<=l.n)/\s=⟨[(0,Dj l),(3,.int (l.n:Int)),(4,.int (i:Int)),(5,.ptr 0 0),(6,.ptr 1 0),(7,.int (k:Int)),(23,.int (l.n:Int)),(24,.int (i:Int))],[(0,.box 62 [.int ((l.f i).x),.int ((l.f i).y),.int ((l.f i).z)]),(1,.box 62 [.int ((l.f ((i+1)%l.n)).x),.int ((l.f ((i+1)%l.n)).y),.int ((l.f ((i+1)%l.n)).z)])],2,117⟩) (l.n-(i+1)) ⟨i+1,rfl,⟨ω,ω⟩,κ⟩ ?_)))
 rintro _ _ ⟨k,rfl,hF,rfl⟩ hJ2
 refine Ae 8 (Jf 54 ((k:Int)<(l.n:Int)) (λhx7 hx7d=>?_) (λhx7 hx7d=>?_))
 refine Ae 6 ?_
 have hm7:=Nat.mod_lt (k+1) (by omega:0<l.n)
 refine gs (Dg [(2,Dx (Dj l) k,.none),(6,.int ((k+1:Nat):Int),.none),(8,.int (((k+1)%l.n:Nat):Int),.none),(9,Dx (Dj l) ((k+1)%l.n),.none)] [0,3,4,5,6,7,8,9,23,24] ⟨Pc k l.n,As (Bb (v:= .int .i64 (IntKind.wrap .i64 ((k:Int)+1))) (v':= .int .i64 ((k+1:Nat):Int)) _ κ rfl κ (λw=>by kernel_rfl) (congrArg (Value.int .i64) ((IntWalk.i64_in _ ω).trans ω))),qE ((k+1:Nat):Int) (l.n:Int) (((k+1)%l.n:Nat):Int) ω rfl,Pc ((k+1)%l.n) l.n,trivial⟩ ·) (Ae 12 (gs (Dm ((i:Int)+1) ((i+1:Nat):Int) ·) (Ae 2 (Jf 79 ((k:Int)=((i+1:Nat):Int)) (λhx9 hx9d=>?_) (λhx9 hx9d=>?_)))))
 refine Ae 6 (Jf 74 ((2:Int)<(l.n:Int)) (λhx10 hx10d=>?_) (λhx10 hx10d=>?_))
 refine Ae 5 (Eh (Om (l.f i) (l.f ((i+1)%l.n)) (l.f ((k+1)%l.n))) λv11 hv11=>(gs (Aw hv11 ·) (Ae 2 (Ff 88 ?_ ?_))))
 refine Ae 3 (Eh (Om (l.f k) (l.f ((k+1)%l.n)) (l.f i)) λv13 hv13=>(gs (Aw hv13 ·) (Ae 12 (Ff 115 ?_ ?_))))
 exact Ae 16 (Fd (.bool false) (λh=>by cases h))
 exact Ae 6 (gs (Dm ((k:Int)+1) ((k+1:Nat):Int) ·) (Ae 2 (Hd [0,3,4,5,6,7,23,24] [(0,0),(1,1)] 2 [] trivial (hJ2 _ _ (by omega:l.n-(k+1)<l.n-k) ⟨k+1,rfl,⟨ω,ω⟩,rfl⟩))))
 exact Ae 32 (Fd (.bool false) (λh=>by cases h))
 refine Ae 4 (gs (Dm ((k:Int)+1) ((k+1:Nat):Int) ·) (Ae 1 ?_))
 have hm13:=Nat.mod_lt (k+1) (by omega:0<l.n)
 refine gs (Alc ((k+1:Nat):Int) (l.n:Int) (((k+1)%l.n:Nat):Int) ω rfl ·) (Ae 5 (Jf 95 ((((k+1)%l.n:Nat):Int)=(i:Int)) (λhx15 hx15d=>?_) (λhx15 hx15d=>?_)))
 refine Ae 5 (Eh (Om (l.f i) (l.f ((i+1)%l.n)) (l.f k)) λv16 hv16=>(gs (Aw hv16 ·) (Ae 2 (Ff 107 ?_ ?_))))
 refine Ae 3 (Eh (Om (l.f k) (l.f ((k+1)%l.n)) (l.f ((i+1)%l.n))) λv18 hv18=>(gs (Aw hv18 ·) (Ae 12 (Ff 115 ?_ ?_))))
 exact Ae 16 (Fd (.bool false) (λh=>by cases h))
 exact Ae 6 (gs (Dm ((k:Int)+1) ((k+1:Nat):Int) ·) (Ae 2 (Hd [0,3,4,5,6,7,23,24] [(0,0),(1,1)] 2 [] trivial (hJ2 _ _ (by omega:l.n-(k+1)<l.n-k) ⟨k+1,rfl,⟨ω,ω⟩,rfl⟩))))
 exact Ae 32 (Fd (.bool false) (λh=>by cases h))
 refine Ae 6 (Eh (bH (l.f i) (l.f ((i+1)%l.n)) (l.f k) (l.f ((k+1)%l.n))) λv19 hv19=>(gs (Aw hv19 ·) (Ae 11 (Ff 115 ?_ ?_))))
 exact Ae 16 (Fd (.bool false) (λh=>by cases h))
 exact Ae 6 (gs (Dm ((k:Int)+1) ((k+1:Nat):Int) ·) (Ae 2 (Hd [0,3,4,5,6,7,23,24] [(0,0),(1,1)] 2 [] trivial (hJ2 _ _ (by omega:l.n-(k+1)<l.n-k) ⟨k+1,rfl,⟨ω,ω⟩,rfl⟩))))
 refine Ae 10 (gs (Dm ((k:Int)+1) ((k+1:Nat):Int) ·) (Ae 1 ?_))
 have hm19:=Nat.mod_lt (k+1) (by omega:0<l.n)
 refine gs (Alc ((k+1:Nat):Int) (l.n:Int) (((k+1)%l.n:Nat):Int) ω rfl ·) (Ae 5 (Jf 95 ((((k+1)%l.n:Nat):Int)=(i:Int)) (λhx21 hx21d=>?_) (λhx21 hx21d=>?_)))
 refine Ae 5 (Eh (Om (l.f i) (l.f ((i+1)%l.n)) (l.f k)) λv22 hv22=>(gs (Aw hv22 ·) (Ae 2 (Ff 107 ?_ ?_))))
 refine Ae 3 (Eh (Om (l.f k) (l.f ((k+1)%l.n)) (l.f ((i+1)%l.n))) λv24 hv24=>(gs (Aw hv24 ·) (Ae 12 (Ff 115 ?_ ?_))))
 exact Ae 16 (Fd (.bool false) (λh=>by cases h))
 exact Ae 6 (gs (Dm ((k:Int)+1) ((k+1:Nat):Int) ·) (Ae 2 (Hd [0,3,4,5,6,7,23,24] [(0,0),(1,1)] 2 [] trivial (hJ2 _ _ (by omega:l.n-(k+1)<l.n-k) ⟨k+1,rfl,⟨ω,ω⟩,rfl⟩))))
 exact Ae 32 (Fd (.bool false) (λh=>by cases h))
 refine Ae 6 (Eh (bH (l.f i) (l.f ((i+1)%l.n)) (l.f k) (l.f ((k+1)%l.n))) λv25 hv25=>(gs (Aw hv25 ·) (Ae 11 (Ff 115 ?_ ?_))))
 exact Ae 16 (Fd (.bool false) (λh=>by cases h))
 exact Ae 6 (gs (Dm ((k:Int)+1) ((k+1:Nat):Int) ·) (Ae 2 (Hd [0,3,4,5,6,7,23,24] [(0,0),(1,1)] 2 [] trivial (hJ2 _ _ (by omega:l.n-(k+1)<l.n-k) ⟨k+1,rfl,⟨ω,ω⟩,rfl⟩))))
 exact Ae 8 (gs (Dm ((i:Int)+1) ((i+1:Nat):Int) ·) (Ae 2 (Hd [0,3,23,24] [] 0 [] trivial (hJ1 ω trivial))))
 refine Ff 43 ?_ ?_
 refine Ae 8 (Ff 49 ?_ ?_)
 exact Ae 13 (Fd (.bool false) (λh=>by cases h))
 exact Uh [0,3,4,5,6,23,24,49] hS6
 exact Ae 8 (Uh [0,3,4,5,6,23,24,49] hS6)
 exact Ae 12 (Fd (.bool true) (λ_=>by omega))
noncomputable def aZ (l:Vs):Value:=chP 24 [.one .b] [Dj l] λr=>r= .bool true->3<=l.n
theorem fX (l:Vs):AF Tryz.prog 24 [Dj l] (.lit (Ht [.one .b] (aZ l))):=(Nu (iZ l)).1
abbrev Vv (v:V3):AV:= .elt 3 λxi=>[AV.int v.x,AV.int v.y,AV.int v.z].getD (0+xi) .top
theorem AgH (a:V3) (b:V3) (p:V3):∃r,Gm [.one .i] r/\AF Tryz.prog 54 [Bs a,Bs b,Vv p] r:=by
 refine Cd func54 rfl ?_
 exact Ae 12 (Eh (Mt a b p) λv1 hv1=>(gs (Aw hv1 ·) (Ae 4 (Bl))))
noncomputable def Ak8 (a:V3) (b:V3) (p:V3):Value:=Kp 54 [.one .i] [Bs a,Bs b,Vv p]
theorem AfV (a:V3) (b:V3) (p:V3):AF Tryz.prog 54 [Bs a,Bs b,Vv p] (.lit (Ht [.one .i] (Ak8 a b p))):=Bv (AgH a b p)
theorem AgI (c:V3) (k:Int) (p:V3):∃r,Gm [.one .i] r/\AF Tryz.prog 56 [Bs c,.int k,Vv p] r:=by
 refine Cd func56 rfl ?_
 refine Ae 13 (Ff 7 ?_ ?_)
 exact Ae 8 (Eh (mX (Ai (c.x-p.x))) λv1 hv1=>(gs (Aw hv1 ·) (Ae 5 (Bl))))
 exact Ae 10 (Eh (mX (Ai (c.y-p.y))) λv2 hv2=>(gs (Aw hv2 ·) (Ae 4 (Bl))))
noncomputable def Ak9 (c:V3) (k:Int) (p:V3):Value:=Kp 56 [.one .i] [Bs c,.int k,Vv p]
theorem aM (c:V3) (k:Int) (p:V3):AF Tryz.prog 56 [Bs c,.int k,Vv p] (.lit (Ht [.one .i] (Ak9 c k p))):=Bv (AgI c k p)
theorem Ajg (l:Vs) (p:V3) (h0:l.n<=64):∃r,Gm [.one .i] r/\AF Tryz.prog 26 [Dj l,Bs p] r:=by
 refine Cd func26 rfl ?_
 refine Ae 6 (gs (rA 0 ·) (Ae 5 (mH func53 (Ae 17 (mH func25 (Ae 13 (Kl (Ae 3 (gs (vnm [4,5,6,7,16] ·) (vC func52 λsp3 sp3p sp3a sp3b=>(Ae 8 (Vy [0,1,6,7,8] (λm s=>∃i iw,m=l.n-i/\(i<=l.n)/\s=⟨[(0,.yld 6),(1,.ptr 5 0),(6,Dj l),(7,.int (l.n:Int)),(8,.int (i:Int))],[(1,.box 115 [.fn 54 [.elt 3 (λxi=>[.int p.x,.int p.y,.int p.z].getD (0+xi) .top)]]),(2,.box 117 [.fn 56 [.elt 3 (λxi=>[.int p.x,.int p.y,.int p.z].getD (0+xi) .top)]]),(3,.box 3 [.int 0]),(4,.box 3 [.int iw]),(5,.box 23 [Dj l]),(6,.loop .ready none sp3 [(4,.ptr 1 0),(5,.ptr 2 0),(6,.ptr 3 0),(7,.ptr 4 0),(16,.fn 52 [.ptr 5 0])] 77)],7,35⟩) (l.n-0) ⟨0,0,rfl,Nat.zero_le _,κ⟩ ?_))))))))))))
 rintro _ _ ⟨i,iw,rfl,hF,rfl⟩ hJ1
 refine Ae 6 (Jf 9 ((i:Int)<(l.n:Int)) (λhx5 hx5d=>?_) (λhx5 hx5d=>?_))
 refine Ae 8 (gs (Iz i l.n ·) (Ae 7 ?_))
 have hm5:=Nat.mod_lt (i+1) (by omega:0<l.n)
 refine gs (Dg [(2,.int ((i+1:Nat):Int),.none),(5,.int (((i+1)%l.n:Nat):Int),.none),(6,Dx (Dj l) ((i+1)%l.n),.none)] [0,1,4,5,6,7,8] ⟨As (Bb (v:= .int .i64 (IntKind.wrap .i64 ((i:Int)+1))) (v':= .int .i64 ((i+1:Nat):Int)) _ κ rfl κ (λw=>by kernel_rfl) (congrArg (Value.int .i64) ((IntWalk.i64_in _ ω).trans ω))),qE ((i+1:Nat):Int) (l.n:Int) (((i+1)%l.n:Nat):Int) ω rfl,Pc ((i+1)%l.n) l.n,trivial⟩ ·) (Ae 14 (vF sp3p sp3a (Ae 10 (vE sp3b ?_))))
 refine Ae 6 (Eh (AfV (⟨(l.f i).x,(l.f i).y,0⟩) (⟨(l.f ((i+1)%l.n)).x,(l.f ((i+1)%l.n)).y,0⟩) p) λv8 hv8=>(gs (AbF hv8 ·) (Ae 4 (Eh (aM (⟨(l.f i).x,(l.f i).y,0⟩) 0 p) λv9 hv9=>(Eh (aM (⟨(l.f i).x,(l.f i).y,0⟩) 1 p) λv10 hv10=>(Eh (aM (⟨(l.f ((i+1)%l.n)).x,(l.f ((i+1)%l.n)).y,0⟩) 0 p) λv11 hv11=>(Eh (aM (⟨(l.f ((i+1)%l.n)).x,(l.f ((i+1)%l.n)).y,0⟩) 1 p) λv12 hv12=>(gs (Dg [(2,_,.none),(5,_,.none),(8,_,.none),(11,_,.none)] [6,7,10,11,12,13,14] ⟨sQ hv9,sQ hv10,sQ hv11,sQ hv12,trivial⟩ ·) (Ae 7 (tsh 13 37 false [6,7,10,12,14,48] ?_ (λhS13=>?_)))))))))))
 refine Ae 9 (tsh 10 52 false [7,10,12,14,49] ?_ (λhS14=>?_))
 refine Ae 6 (tsh 10 65 false [7,62] ?_ (λhS15=>?_))
 exact Ae 4 (Qc (Ae 8 (gs (Dm ((i:Int)+1) ((i+1:Nat):Int) ·) (Ae 2 (Hd [0,1,6,7,8] [(1,1),(2,2),(3,3),(4,4),(5,5),(6,6)] 7 [] trivial (hJ1 _ _ (by omega:l.n-(i+1)<l.n-i) ⟨i+1,iw,rfl,ω,rfl⟩))))))
 refine Ff 65 ?_ ?_
 refine Ae 4 (Ff 69 ?_ ?_)
 refine Ae 6 (Ff 62 ?_ ?_)
 exact Ae 8 (Qc (Ae 8 (gs (Dm ((i:Int)+1) ((i+1:Nat):Int) ·) (Ae 2 (Hd [0,1,6,7,8] [(1,1),(2,2),(3,3),(4,4),(5,5),(6,6)] 7 [] trivial (hJ1 _ _ (by omega:l.n-(i+1)<l.n-i) ⟨i+1,(Ai (iw-1)),rfl,ω,rfl⟩))))))
 exact Uh [7,62] hS15
 exact Ae 6 (Uh [7,62] hS15)
 exact Ae 10 (Uh [7,62] hS15)
 refine Ff 52 ?_ ?_
 refine Ae 4 (Ff 56 ?_ ?_)
 refine Ae 6 (Ff 49 ?_ ?_)
 exact Ae 8 (Qc (Ae 8 (gs (Dm ((i:Int)+1) ((i+1:Nat):Int) ·) (Ae 2 (Hd [0,1,6,7,8] [(1,1),(2,2),(3,3),(4,4),(5,5),(6,6)] 7 [] trivial (hJ1 _ _ (by omega:l.n-(i+1)<l.n-i) ⟨i+1,(Ai (iw+1)),rfl,ω,rfl⟩))))))
 exact Uh [7,10,12,14,49] hS14
 exact Ae 6 (Uh [7,10,12,14,49] hS14)
 exact Ae 10 (Uh [7,10,12,14,49] hS14)
 refine Ff 37 ?_ ?_
 refine Ae 6 (Ff 43 ?_ ?_)
 refine Ae 7 (Ff 48 ?_ ?_)
 exact Ae 9 (Qc (Ae 9 (aF (Ae 3 (Kl (Ae 4 (Bl)))))))
 exact Uh [6,7,10,12,14,48] hS13
 exact Ae 7 (Uh [6,7,10,12,14,48] hS13)
 exact Ae 13 (Uh [6,7,10,12,14,48] hS13)
 refine Ae 5 (aF (Ae 9 (Ff 76 ?_ ?_)))
 exact Ae 8 (Kl (Ae 4 (Bl)))
 exact Ae 9 (Kl (Ae 4 (Bl)))
noncomputable def Al3 (l:Vs) (p:V3):Value:=Kp 26 [.one .i] [Dj l,Bs p]
theorem rP (l:Vs) (p:V3) (h0:l.n<=64):AF Tryz.prog 26 [Dj l,Bs p] (.lit (Ht [.one .i] (Al3 l p))):=Bv (Ajg l p h0)
structure Ja where
 o:Vs
 hn:Nat
 h:Nat->Vs
 low:Int
 high:Int
abbrev hsA (f:Ja):AV:= .sl 1 f.hn λi=>Dj (f.h i)
abbrev Rp (f:Ja):AV:= .agg [Dj f.o,hsA f,.int f.low,.int f.high]
def Ty (f:Ja):Prop:=f.o.n<=64/\f.hn<=16/\∀i,(f.h i).n<=64
def Cm (f:Ja):Nat->Vs
 |0=>f.o
 |k+1=>f.h k
theorem wJ {f:Ja} (h:Ty f):∀k,(Cm f k).n<=64
 |0=>h.1
 |k+1=>h.2.2 k
theorem jA (l:Vs) (h:gB (aZ l)=true):3<=l.n:=(Nu (iZ l)).2 (congrArg AV.bool h)
theorem iB (f:Ja) (h0:Ty f):∃r,(Gm [.one .b] r/\(r= .bool true->3<=f.o.n/\∀q,q<f.hn->3<=(f.h q).n))/\AF Tryz.prog 12 [Rp f] r:=by
 have hn8:=h0.1
 have hn9:=h0.2.1
 refine Cd func12 rfl ?_
 refine Ae 11 (gs (Aw (fX f.o) ·) (Ae 2 (Afk 20 (gB (aZ f.o)) (λhx1=>?_) (λhx1=>?_))))
 refine Ae 6 (Jf 26 ((16:Int)<(f.hn:Int)) (λhx2 hx2d=>?_) (λhx2 hx2d=>?_))
 exact Ae 26 (Fd (.bool false) (λh=>by cases h))
 refine Ae 5 (Ff 31 ?_ ?_)
 exact Ae 21 (Fd (.bool false) (λh=>by cases h))
 refine Ae 5 (Ff 36 ?_ ?_)
 exact Ae 16 (Fd (.bool false) (λh=>by cases h))
 refine Ae 8 (Ff 42 ?_ ?_)
 exact Ae 8 (Fd (.bool false) (λh=>by cases h))
 refine Ae 7 (gs (Bi (.osl 2 1 1) (.new 2 (.vec 23 1 1 (λ_=>Dj f.o))) (Au 31 1 #[(0,(.tmp 44))] κ underlying31 1 sizeOf23 _ zeroValue23 κ β β β 2 [Dj f.o] κ (λ_=>Dj f.o) κ) ·) (Ae 14 (gs (vvx 2 23 1 1 (λ_=>Dj f.o) (λxi=>Dj (Cm f xi)) (λx9 hx9=>by(obtain rfl:x9=0:=(ω));rfl) ·) (AhR [1,2,3,47,48,49] f.hn (λi=>∀q,q<i->3<=(f.h q).n) (λi=>⟨[(1,.ptr 0 0),(2,.ptr 1 0),(3,.ptr 3 0),(47,hsA f),(48,.int (f.hn:Int)),(49,.int (i:Int))],[(0,.box 33 [Dj f.o,hsA f,.int f.low,.int f.high]),(1,.box 4 [.bool false]),(2,.vec 23 1 (i+1) (λxi=>Dj (Cm f xi))),(3,.box 31 [.osl 2 1 (i+1)])],4,115⟩) (λq hq=>absurd hq (Nat.not_lt_zero q)) (λi hin hFi hJ1=>?_)))))
 have hn0:=h0.2.2 i
 refine Ae 6 (Jf 50 ((i:Int)<(f.hn:Int)) (λhx5 hx5d=>?_) (λhx5 hx5d=>?_))
 refine Ae 7 (gs (Iz i f.hn ·) (Ae 8 (gs (Aw (fX (f.h i)) ·) (Ae 3 (Afk 55 (gB (aZ (f.h i))) (λhx6=>?_) (λhx6=>?_))))))
 refine Ae 7 (mH func25 (Ae 13 (Kl (Ae 3 (gs (vnm [1,2,3,5,47,48,49,57] ·) (vC func52 λsp8 sp8p sp8a sp8b=>(Ae 8 (Vy [0,1,6,7,8] (λm s=>∃i1,m=((f.h i).n)-i1/\(i1<=((f.h i).n))/\s=⟨[(0,.yld 5),(1,.ptr 4 0),(6,Dj (f.h i)),(7,.int ((f.h i).n:Int)),(8,.int ((i1:Nat):Int))],[(0,.box 33 [Dj f.o,hsA f,.int f.low,.int f.high]),(1,.box 4 [.bool false]),(2,.vec 23 1 (i+1) (λxi=>Dj (Cm f xi))),(3,.box 31 [.osl 2 1 (i+1)]),(4,.box 23 [Dj (f.h i)]),(5,.loop .ready none sp8 [(1,.ptr 0 0),(2,.ptr 1 0),(3,.ptr 3 0),(5,Dj (f.h i)),(47,hsA f),(48,.int (f.hn:Int)),(49,.int (i:Int)),(57,.fn 52 [.ptr 4 0])] 115)],6,35⟩) (((f.h i).n)-0) ⟨0,rfl,Nat.zero_le _,κ⟩ ?_))))))))
 rintro _ _ ⟨i1,rfl,hF,rfl⟩ hJ2
 refine Ae 6 (Jf 9 (((i1:Nat):Int)<((f.h i).n:Int)) (λhx10 hx10d=>?_) (λhx10 hx10d=>?_))
 refine Ae 8 (gs (Iz i1 ((f.h i).n) ·) (Ae 7 ?_))
 have hm10:=Nat.mod_lt (i1+1) (by omega:0<(f.h i).n)
 refine gs (Dg [(2,.int ((i1+1:Nat):Int),.none),(5,.int (((i1+1)%((f.h i).n):Nat):Int),.none),(6,Dx (Dj (f.h i)) ((i1+1)%((f.h i).n)),.none)] [0,1,4,5,6,7,8] ⟨As (Bb (v:= .int .i64 (IntKind.wrap .i64 (((i1:Nat):Int)+1))) (v':= .int .i64 ((i1+1:Nat):Int)) _ κ rfl κ (λw=>by kernel_rfl) (congrArg (Value.int .i64) ((IntWalk.i64_in _ ω).trans ω))),qE ((i1+1:Nat):Int) ((f.h i).n:Int) (((i1+1)%((f.h i).n):Nat):Int) ω rfl,Pc ((i1+1)%((f.h i).n)) ((f.h i).n),trivial⟩ ·) (Ae 14 (vF sp8p sp8a (Ae 10 (vE sp8b ?_))))
 refine Ae 7 (Eh (rP f.o (⟨((f.h i).f i1).x,((f.h i).f i1).y,0⟩) ω) λv13 hv13=>(gs (Aw hv13 ·) (Ae 3 (Ff 64 ?_ ?_))))
 exact Ae 9 (Qc (Ae 9 (aF (Ae 8 (Fd (.bool false) (λh=>by cases h))))))
 refine Ae 11 (Vy [2,6,7,65,66,67] (λm s=>∃j,m=i+1-j/\(j<=i+1)/\s=⟨[(2,.ptr 1 0),(6,.ptr 8 0),(7,.ptr 9 0),(65,.osl 2 1 (i+1)),(66,.int ((i+1:Nat):Int)),(67,.int (j:Int))],[(0,.box 33 [Dj f.o,hsA f,.int f.low,.int f.high]),(1,.box 4 [.bool false]),(2,.vec 23 1 (i+1) (λxi=>Dj (Cm f xi))),(3,.box 31 [.osl 2 1 (i+1)]),(4,.box 23 [Dj (f.h i)]),(5,.loop .busy none sp8 [(1,.ptr 0 0),(2,.ptr 1 0),(3,.ptr 3 0),(5,Dj (f.h i)),(47,hsA f),(48,.int (f.hn:Int)),(49,.int (i:Int)),(57,.fn 52 [.ptr 4 0])] 115),(6,.box 62 [.int (((f.h i).f i1).x),.int (((f.h i).f i1).y),.int (((f.h i).f i1).z)]),(7,.box 62 [.int (((f.h i).f ((i1+1)%((f.h i).n))).x),.int (((f.h i).f ((i1+1)%((f.h i).n))).y),.int (((f.h i).f ((i1+1)%((f.h i).n))).z)]),(8,.box 62 [.int (((f.h i).f i1).x),.int (((f.h i).f i1).y),.int 0]),(9,.box 62 [.int (((f.h i).f ((i1+1)%((f.h i).n))).x),.int (((f.h i).f ((i1+1)%((f.h i).n))).y),.int 0])],10,115⟩) (i+1-0) ⟨0,rfl,Nat.zero_le _,κ⟩ ?_)
 rintro _ _ ⟨j,rfl,hF,rfl⟩ hJ3
 have hn1:=wJ h0 j
 refine Ae 6 (Jf 68 ((j:Int)<((i+1:Nat):Int)) (λhx14 hx14d=>?_) (λhx14 hx14d=>?_))
 refine Ae 7 (gs (Iz j (i+1) ·) (gs (Bi (Dj (Cm f j)) (.read 2) (Ox 23 (.tmp 69) κ isAgg23 2 j 0 1 κ 23 (i+1) (λxi=>Dj (Cm f xi)) κ ω δ) ·) (Ae 6 (mH func25 (Ae 13 (Kl (Ae 3 (gs (vnm [2,6,7,65,66,67,72] ·) (vC func52 λsp16 sp16p sp16a sp16b=>(Ae 8 (Vy [0,1,6,7,8] (λm s=>∃i2,m=((Cm f j).n)-i2/\(i2<=((Cm f j).n))/\s=⟨[(0,.yld 11),(1,.ptr 10 0),(6,Dj (Cm f j)),(7,.int ((Cm f j).n:Int)),(8,.int ((i2:Nat):Int))],[(0,.box 33 [Dj f.o,hsA f,.int f.low,.int f.high]),(1,.box 4 [.bool false]),(2,.vec 23 1 (i+1) (λxi=>Dj (Cm f xi))),(3,.box 31 [.osl 2 1 (i+1)]),(4,.box 23 [Dj (f.h i)]),(5,.loop .busy none sp8 [(1,.ptr 0 0),(2,.ptr 1 0),(3,.ptr 3 0),(5,Dj (f.h i)),(47,hsA f),(48,.int (f.hn:Int)),(49,.int (i:Int)),(57,.fn 52 [.ptr 4 0])] 115),(6,.box 62 [.int (((f.h i).f i1).x),.int (((f.h i).f i1).y),.int (((f.h i).f i1).z)]),(7,.box 62 [.int (((f.h i).f ((i1+1)%((f.h i).n))).x),.int (((f.h i).f ((i1+1)%((f.h i).n))).y),.int (((f.h i).f ((i1+1)%((f.h i).n))).z)]),(8,.box 62 [.int (((f.h i).f i1).x),.int (((f.h i).f i1).y),.int 0]),(9,.box 62 [.int (((f.h i).f ((i1+1)%((f.h i).n))).x),.int (((f.h i).f ((i1+1)%((f.h i).n))).y),.int 0]),(10,.box 23 [Dj (Cm f j)]),(11,.loop .ready none sp16 [(2,.ptr 1 0),(6,.ptr 8 0),(7,.ptr 9 0),(65,.osl 2 1 (i+1)),(66,.int ((i+1:Nat):Int)),(67,.int (j:Int)),(72,.fn 52 [.ptr 10 0])] 115)],12,35⟩) (((Cm f j).n)-0) ⟨0,rfl,Nat.zero_le _,κ⟩ ?_)))))))))))
 rintro _ _ ⟨i2,rfl,hF,rfl⟩ hJ4
 refine Ae 6 (Jf 9 (((i2:Nat):Int)<((Cm f j).n:Int)) (λhx18 hx18d=>?_) (λhx18 hx18d=>?_))
 refine Ae 8 (gs (Iz i2 ((Cm f j).n) ·) (Ae 7 ?_))
 have hm18:=Nat.mod_lt (i2+1) (by omega:0<(Cm f j).n)
 refine gs (Dg [(2,.int ((i2+1:Nat):Int),.none),(5,.int (((i2+1)%((Cm f j).n):Nat):Int),.none),(6,Dx (Dj (Cm f j)) ((i2+1)%((Cm f j).n)),.none)] [0,1,4,5,6,7,8] ⟨As (Bb (v:= .int .i64 (IntKind.wrap .i64 (((i2:Nat):Int)+1))) (v':= .int .i64 ((i2+1:Nat):Int)) _ κ rfl κ (λw=>by kernel_rfl) (congrArg (Value.int .i64) ((IntWalk.i64_in _ ω).trans ω))),qE ((i2+1:Nat):Int) ((Cm f j).n:Int) (((i2+1)%((Cm f j).n):Nat):Int) ω rfl,Pc ((i2+1)%((Cm f j).n)) ((Cm f j).n),trivial⟩ ·) (Ae 14 (vF sp16p sp16a (Ae 10 (vE sp16b ?_))))
 refine Ae 7 (Eh (bH (⟨((f.h i).f i1).x,((f.h i).f i1).y,0⟩) (⟨((f.h i).f ((i1+1)%((f.h i).n))).x,((f.h i).f ((i1+1)%((f.h i).n))).y,0⟩) (⟨((Cm f j).f i2).x,((Cm f j).f i2).y,0⟩) (⟨((Cm f j).f ((i2+1)%((Cm f j).n))).x,((Cm f j).f ((i2+1)%((Cm f j).n))).y,0⟩)) λv21 hv21=>(gs (Aw hv21 ·) (Ae 2 (Ff 79 ?_ ?_))))
 exact Ae 8 (Qc (Ae 9 (aF (Ae 7 (Qc (Ae 9 (aF (Ae 8 (Fd (.bool false) (λh=>by cases h))))))))))
 exact Ae 3 (Qc (Ae 8 (gs (Dm (((i2:Nat):Int)+1) ((i2+1:Nat):Int) ·) (Ae 2 (Hd [0,1,6,7,8] [(0,0),(1,1),(2,2),(3,3),(4,4),(5,5),(6,6),(7,7),(8,8),(9,9),(10,10),(11,11)] 12 [(23,1,i+1,(λxi=>Dj (Cm f xi)))] ⟨(Fe λ_ _=>rfl),trivial⟩ (hJ4 _ _ (by omega:((Cm f j).n)-(i2+1)<((Cm f j).n)-i2) ⟨i2+1,rfl,ω,rfl⟩))))))
 exact Ae 5 (aF (Ae 4 (gs (Dm ((j:Int)+1) ((j+1:Nat):Int) ·) (Ae 2 (Hd [2,6,7,65,66,67] [(0,0),(1,1),(2,2),(3,3),(4,4),(5,5),(6,6),(7,7),(8,8),(9,9)] 10 [(23,1,i+1,(λxi=>Dj (Cm f xi)))] ⟨(Fe λ_ _=>rfl),trivial⟩ (hJ3 _ _ (by omega:i+1-(j+1)<i+1-j) ⟨j+1,rfl,ω,rfl⟩))))))
 exact Ae 6 (Qc (Ae 8 (gs (Dm (((i1:Nat):Int)+1) ((i1+1:Nat):Int) ·) (Ae 2 (Hd [0,1,6,7,8] [(0,0),(1,1),(2,2),(3,3),(4,4),(5,5)] 6 [(23,1,i+1,(λxi=>Dj (Cm f xi)))] ⟨(Fe λ_ _=>rfl),trivial⟩ (hJ2 _ _ (by omega:((f.h i).n)-(i1+1)<((f.h i).n)-i1) ⟨i1+1,rfl,ω,rfl⟩))))))
 exact Ae 5 (aF (Ae 5 (gs (Bi (.osl 6 1 1) (.new 6 (.vec 23 1 1 (λ_=>Dj (f.h i)))) (Au 31 1 #[(0,(.tmp 82))] κ underlying31 1 sizeOf23 _ zeroValue23 κ β β β 6 [Dj (f.h i)] κ (λ_=>Dj (f.h i)) κ) ·) (gs (Bi (.osl 7 1 (i+1+1)) (.grow2 2 6 7 (.vec 23 1 (i+1+1) (λxi=>Dj (Cm f xi)))) (Em (.tmp 81) (.tmp 83) 31 κ underlying31 1 24 (.slice none 0 0) κ κ δ (i+1) 1 ω (λxi=>Dj (Cm f xi)) (λ_=>Dj (f.h i)) (λxi=>Dj (Cm f xi)) 7 ω (by unfold maxLen;omega) (λi hi=>rfl) (λi hi=>by(obtain rfl:i=0:=(ω));rfl) (λi hi j hj=>by obtain rfl:j=0:=(ω);rfl) 2 κ κ 6 23 κ κ) ·) (Ae 5 (gs (Dm ((i:Int)+1) ((i+1:Nat):Int) ·) (Ae 2 (Hd [1,2,3,47,48,49] [(0,0),(1,1),(7,2),(3,3)] 4 [(23,1,1,(λ_=>Dj (f.h i))),(23,1,i+1+1,(λxi=>Dj (Cm f xi)))] ⟨(Fe λ_ _=>rfl),(Fe λ_ _=>rfl),trivial⟩ (hJ1 ω (λq hq=>by rcases Nat.lt_succ_iff_lt_or_eq.1 hq with g|rfl;exact hFi q g;exact jA _ hx6))))))))))
 exact Ae 13 (Fd (.bool false) (λh=>by cases h))
 refine Ae 16 (Vy [1,2,87,88,89] (λm s=>∃a,m=f.hn-a/\(a<=f.hn)/\s=⟨[(1,.ptr 0 0),(2,.ptr 1 0),(87,hsA f),(88,.int (f.hn:Int)),(89,.int (a:Int))],[(0,.box 33 [Dj f.o,hsA f,.int f.low,.int f.high]),(1,.box 4 [.bool false]),(2,.vec 23 1 (i+1) (λxi=>Dj (Cm f xi))),(3,.box 31 [.osl 2 1 (i+1)])],4,115⟩) (f.hn-0) ⟨0,rfl,Nat.zero_le _,κ⟩ ?_)
 rintro _ _ ⟨a,rfl,hF,rfl⟩ hJ5
 have hn2:=h0.2.2 a
 refine Ae 6 (Jf 90 ((a:Int)<(f.hn:Int)) (λhx22 hx22d=>?_) (λhx22 hx22d=>?_))
 refine Ae 8 (gs (Iz a f.hn ·) (Ae 14 (Vy [1,2,12,13,87,88,89,95,96,97] (λm s=>∃d,m=f.hn-d/\(d<=f.hn)/\s=⟨[(1,.ptr 0 0),(2,.ptr 1 0),(12,.int (a:Int)),(13,Dj (f.h a)),(87,hsA f),(88,.int (f.hn:Int)),(89,.int (a:Int)),(95,hsA f),(96,.int (f.hn:Int)),(97,.int (d:Int))],[(0,.box 33 [Dj f.o,hsA f,.int f.low,.int f.high]),(1,.box 4 [.bool false]),(2,.vec 23 1 (i+1) (λxi=>Dj (Cm f xi))),(3,.box 31 [.osl 2 1 (i+1)])],4,115⟩) (f.hn-0) ⟨0,rfl,Nat.zero_le _,κ⟩ ?_)))
 rintro _ _ ⟨d,rfl,hF,rfl⟩ hJ6
 have hn3:=h0.2.2 d
 refine Ae 6 (Jf 98 ((d:Int)<(f.hn:Int)) (λhx23 hx23d=>?_) (λhx23 hx23d=>?_))
 refine Ae 8 (gs (Iz d f.hn ·) (Ae 5 ?_))
 have hh3:=hFi a ω
 refine Ae 6 (AjQ 105 ((a:Int)=(d:Int)) (λhx24 hx24d=>?_) (λhx24 hx24d=>?_))
 exact Ae 14 (gs (Dm ((d:Int)+1) ((d+1:Nat):Int) ·) (Ae 2 (qS [1,2,12,13,87,88,89,95,96,97] (hJ6 _ _ (by omega:f.hn-(d+1)<f.hn-d) ⟨d+1,rfl,ω,rfl⟩))))
 refine Ae 2 (gs (Iz 0 ((f.h a).n) ·) (Ae 1 (Eh (rP (f.h d) ((f.h a).f 0) ω) λv25 hv25=>(gs (Aw hv25 ·) (Ae 4 (Ff 112 ?_ ?_))))))
 exact Ae 16 (Fd (.bool false) (λh=>by cases h))
 exact Ae 5 (gs (Dm ((d:Int)+1) ((d+1:Nat):Int) ·) (Ae 2 (qS [1,2,12,13,87,88,89,95,96,97] (hJ6 _ _ (by omega:f.hn-(d+1)<f.hn-d) ⟨d+1,rfl,ω,rfl⟩))))
 exact Ae 8 (gs (Dm ((a:Int)+1) ((a+1:Nat):Int) ·) (Ae 2 (qS [1,2,87,88,89] (hJ5 _ _ (by omega:f.hn-(a+1)<f.hn-a) ⟨a+1,rfl,ω,rfl⟩))))
 exact Ae 12 (Fd (.bool true) (λ_=>⟨jA _ hx1,λq hq=>hFi q ω⟩))
 exact Ae 32 (Fd (.bool false) (λh=>by cases h))
noncomputable def Gt (f:Ja):Value:=chP 12 [.one .b] [Rp f] λr=>r= .bool true->3<=f.o.n/\∀q,q<f.hn->3<=(f.h q).n
theorem Ir (f:Ja) (h0:Ty f):AF Tryz.prog 12 [Rp f] (.lit (Ht [.one .b] (Gt f))):=(Nu (iB f h0)).1
theorem AdJ (l:Vs) (p:V3) (h0:l.n<=64):∃r,Gm [.one .i] r/\AF Tryz.prog 178 [Dj l,Vv p] r:=by
 refine Cd func178 rfl ?_
 exact Ae 9 (Eh (rP l p ω) λv1 hv1=>(gs (Aw hv1 ·) (Ae 4 (Bl))))
noncomputable def Ajj (l:Vs) (p:V3):Value:=Kp 178 [.one .i] [Dj l,Vv p]
theorem mV (l:Vs) (p:V3) (h0:l.n<=64):AF Tryz.prog 178 [Dj l,Vv p] (.lit (Ht [.one .i] (Ajj l p))):=Bv (AdJ l p h0)
theorem AdH (f:Ja) (p:V3) (h0:Ty f):∃r,Gm [.one .b] r/\AF Tryz.prog 188 [hsA f,.fn 189 [.elt 1 λxi=>[AV.fn 178 [Vv p]].getD (0+xi) .top]] r:=by
 have hn8:=h0.1
 have hn9:=h0.2.1
 refine Cd func188 rfl ?_
 refine Ae 9 (mH func214 (Ae 14 (Vy [0,1,7,8] (λm s=>∃q,m=f.hn-q/\(q<=f.hn)/\s=⟨[(0,hsA f),(1,.fn 189 [.elt 1 (λxi=>[.fn 178 [.elt 3 (λxi=>[.int p.x,.int p.y,.int p.z].getD (0+xi) .top)]].getD (0+xi) .top)]),(7,.int (f.hn:Int)),(8,.int (q:Int))],[],0,19⟩) (f.hn-0) ⟨0,rfl,Nat.zero_le _,κ⟩ ?_)))
 rintro _ _ ⟨q,rfl,hF,rfl⟩ hJ1
 have hnq:=h0.2.2 q
 refine Ae 6 (Jf 9 ((q:Int)<(f.hn:Int)) (λhx2 hx2d=>?_) (λhx2 hx2d=>?_))
 refine Ae 16 (gs (Iz q f.hn ·) (Ae 1 (Afh func189 (Ae 9 (Eh (mV (f.h q) p ω) λv4 hv4=>(gs (AbF hv4 ·) (Ae 5 (Kl (Ae 2 (Ff 16 ?_ ?_))))))))))
 exact Ae 13 (Kl (Ae 5 (Bl)))
 exact Ae 5 (gs (Dm ((q:Int)+1) ((q+1:Nat):Int) ·) (Ae 2 (qS [0,1,7,8] (hJ1 _ _ (by omega:f.hn-(q+1)<f.hn-q) ⟨q+1,rfl,ω,rfl⟩))))
 exact Ae 12 (Kl (Ae 5 (Bl)))
noncomputable def Ajh (f:Ja) (p:V3):Value:=Kp 188 [.one .b] [hsA f,.fn 189 [.elt 1 λxi=>[AV.fn 178 [Vv p]].getD (0+xi) .top]]
theorem Aci (f:Ja) (p:V3) (h0:Ty f):AF Tryz.prog 188 [hsA f,.fn 189 [.elt 1 λxi=>[AV.fn 178 [Vv p]].getD (0+xi) .top]] (.lit (Ht [.one .b] (Ajh f p))):=Bv (AdH f p h0)
theorem AgJ (f:Ja) (p:V3) (h0:Ty f):∃r,Gm [.one .b] r/\AF Tryz.prog 149 [Rp f,.fn 178 [Vv p]] r:=by
 have hn8:=h0.1
 have hn9:=h0.2.1
 refine Cd func149 rfl ?_
 refine Ae 7 (gs (rA 1 ·) (Ae 5 (Eh (mV f.o p ω) λv1 hv1=>(gs (AbF hv1 ·) (Ae 2 (Ff 10 ?_ ?_))))))
 exact Ae 3 (Eh (Aci f p h0) λv3 hv3=>(gs (Aw hv3 ·) (Ae 6 (Bl))))
 exact Ae 10 (Bl)
noncomputable def AkA (f:Ja) (p:V3):Value:=Kp 149 [.one .b] [Rp f,.fn 178 [Vv p]]
theorem AfW (f:Ja) (p:V3) (h0:Ty f):AF Tryz.prog 149 [Rp f,.fn 178 [Vv p]] (.lit (Ht [.one .b] (AkA f p))):=Bv (AgJ f p h0)
theorem tD (f:Ja) (p:V3) (h0:Ty f):∃r,Gm [.one .b] r/\AF Tryz.prog 136 [Rp f,Bs p] r:=by
 have hn8:=h0.1
 have hn9:=h0.2.1
 refine Cd func136 rfl ?_
 refine Ae 7 (gs (rA 1 ·) (Ae 8 (Ff 10 ?_ ?_)))
 refine Ae 7 (Ff 17 ?_ ?_)
 exact Ae 2 (Eh (AfW f p h0) λv3 hv3=>(gs (Aw hv3 ·) (Ae 5 (Bl))))
 exact Ae 8 (Bl)
 exact Ae 15 (Bl)
noncomputable def AdK (f:Ja) (p:V3):Value:=Kp 136 [.one .b] [Rp f,Bs p]
theorem bG (f:Ja) (p:V3) (h0:Ty f):AF Tryz.prog 136 [Rp f,Bs p] (.lit (Ht [.one .b] (AdK f p))):=Bv (tD f p h0)
end Go.Proofs.YtikinphpaiajfaaGreat
namespace Go.Proofs.YtikinphpaiajfaaGreat
open Go.RowKit
variable {P:Program} {R:Option Nat} {B:Nat} {D0:Bc} {Q:Exit->St->Prop} {fn0:Func} {φ:AV->Prop} {c:Cl} {fs:List FR}
def LR (ψ:Value->List Value->Prop) (r:AV):Prop:=∃V us,r= .tup (.lit V::us.map .lit)/\ψ V us
theorem Aen {a b:List Value} (h:a.map AV.lit=b.map AV.lit):a=b:=List.map_inj_right (λx y h=>by cases h;rfl) |>.1 h
theorem Kx {f:FuncId} {fn:Func} {t:TypeId} {us:List Value} {hs:Vc} {args:List AV} {ψ:Value->List Value->Prop} (hf:Tryz.prog.funcs[f]?=some fn) {x:Code} (hc:fn.body=some x:=by rfl) (h:TE fn (LR ψ) ⟨⟨.code x,[],⟨Eb args 0,xJ t us hs,hs.length+1,fn.ntmps⟩⟩,[.lnt t hs]⟩) (hle:Nat.ble args.length fn.ntmps=true:=by kernel_rfl) (hd:Ak2 hs=true:=by kernel_rfl):∃V us',ψ V us'/\mE Tryz.prog f t us us' hs args V:=by
 obtain⟨r,⟨V,us',rfl,h1⟩,h2⟩:=h
 refine⟨V,us',h1,Ai9 hf hc hle hd λB D0 hA=>Vz (h2 B none D0 _ (.lnt t hs D0 hA)).m ?_⟩
 rintro e s ⟨he,V',us2,e1,h3,h4⟩
 simp only[AV.tup.injEq,List.cons.injEq,AV.lit.injEq] at e1
 obtain⟨rfl,e2⟩:=e1
 cases Aen e2
 exact⟨he,h3,h4⟩
theorem AeH {hs:Vc} {h:Ea} (e:(List.range hs.length).map (λi=>Av h (i+1))=hs.map λp=>some (.box p.1 p.2)) (i:Nat) (hi:i<hs.length):Av h (i+1)=some (.box (hs.getD i (0,[])).1 (hs.getD i (0,[])).2):=by
 have h1:((List.range hs.length).map (λi=>Av h (i+1)))[i]?=(hs.map λp=>some (Bo.box p.1 p.2))[i]?:=by rw[e]
 have e2:hs.getD i (0,[])=hs[i]:=by simp[List.getD_eq_getElem?_getD,hi]
 simp only[List.getElem?_map,List.getElem?_range hi,List.getElem?_eq_getElem hi,Option.map_some,Option.some.injEq] at h1
 rw[h1,e2]
theorem AlJ {fn:Func} {t:TypeId} {hs:Vc} (V:Value) (us:List Value) (hv:Rn P fn c.s=some (.lit V):=by kernel_rfl) (hb:Av c.s.h 0=some (.box t (us.map .lit)):=by kernel_rfl) (ho:(List.range hs.length).map (λi=>Av c.s.h (i+1))=hs.map (λp=>some (.box p.1 p.2)):=by kernel_rfl) (hn:c.isE=true:=by kernel_rfl):Go P R B D0 (QL P B D0 fn (.tup (.lit V::us.map .lit)) t hs) c:=by
 have hr:=cO (B:=B) (D0:=D0) hv
 obtain⟨m,k,s⟩:=c
 unfold Cl.isE at hn
 split at hn
 rename_i h1 h2
 cases h1;cases h2
 exact⟨⟨s,Hj.refl s,.inr rfl,V,us,rfl,hr,hb,AeH ho⟩⟩
 rename_i h1 h2
 cases h1;cases h2
 exact⟨⟨s,Hj.refl s,.inl rfl,V,us,rfl,hr,hb,AeH ho⟩⟩
 cases hn
theorem Re {t:TypeId} {hs:Vc} {ψ:Value->List Value->Prop} (V:Value) (us:List Value) (h:ψ V us) (hv:Rn Tryz.prog fn0 c.s=some (.lit V):=by kernel_rfl) (hb:Av c.s.h 0=some (.box t (us.map .lit)):=by kernel_rfl) (ho:(List.range hs.length).map (λi=>Av c.s.h (i+1))=hs.map (λp=>some (.box p.1 p.2)):=by kernel_rfl) (hn:c.isE=true:=by kernel_rfl):TE fn0 (LR ψ) ⟨c,[.lnt t hs]⟩:=
 ⟨_,⟨V,us,rfl,h⟩,λB R D Q hx=>by cases hx with|lnt _ _ D0 h=>exact AlJ V us hv hb ho hn⟩
theorem AhG {s:St} (id:Nat) (t:TypeId) (e n n':Nat) (f g:Nat->AV) (hc:Av s.h id=some (.vec t e n f)) (hn:n'<=n) (hfg:∀i,i<n'->f i=g i) (E:Bc) (a:Act) (hs:Ij B D0 E s a):∃E',E'.w=E.w/\Ij B D0 E' ⟨s.t,hset s.h id (.vec t e n' g),s.nx,s.n⟩ a:=⟨E,rfl,by
 refine⟨hs.size,hs.df,hs.t,⟨λi x hx=>?_,λi j x y hx hy hne=>?_,hs.h.bnd,hs.h.abd,hs.h.le0,hs.h.new,hs.h.B⟩,hs.A⟩
 rw[show Av (hset s.h id (.vec t e n' g)) i=if id=i then some (.vec t e n' g) else Av s.h i from Eg _ _ _ _] at hx
 by_cases e1:id=i
 subst e1
 rw[if_pos rfl] at hx
 cases hx
 obtain⟨l1,l2,l3,l4⟩:=hs.h.live id _ hc
 refine⟨l1,?_,l3,l4⟩
 cases l2 with
 |vec _ _ _ _ b cap arr h1 hn1 hc2 hm hr=>exact .vec _ _ _ _ _ _ arr h1 hn1 ω hm λi j hi hj=>by rw[<-hfg i hi];exact hr i j ω hj
 rw[if_neg e1] at hx;exact hs.h.live i x hx
 have real:∀q z,Av (hset s.h id (.vec t e n' g)) q=some z->∃z',Av s.h q=some z':=λq z hz=>by
  rw[show Av (hset s.h id (.vec t e n' g)) q=if id=q then some (.vec t e n' g) else Av s.h q from Eg _ _ _ _] at hz
  by_cases e:id=q
  subst e;exact⟨_,hc⟩
  rw[if_neg e] at hz;exact⟨z,hz⟩
 obtain⟨x',hx'⟩:=real i x hx
 obtain⟨y',hy'⟩:=real j y hy
 exact hs.h.inj i j x' y' hx' hy' hne⟩
theorem vsh (id:Nat) (t:TypeId) (e n n':Nat) (f g:Nat->AV) (hn:n'<=n) (hfg:∀i,i<n'->f i=g i) (hk:Go P R B D0 Q (c.setB id (.vec t e n' g))) (hc:Av c.s.h id=some (.vec t e n f):=by kernel_rfl):Go P R B D0 Q c:=
 Gs _ (λE a hs=>AhG id t e n n' f g hc hn hfg E a hs) hk
end Go.Proofs.YtikinphpaiajfaaGreat