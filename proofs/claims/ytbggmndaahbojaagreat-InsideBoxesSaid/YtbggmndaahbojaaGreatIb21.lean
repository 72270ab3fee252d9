/- Part 21 of the proof of IB.row_holds: no condition beyond the row's. -/
import Derived.Test.YtbggmndaahbojaaGreatIb20
set_option maxRecDepth 100000
set_option maxHeartbeats 40000000
namespace Go.Proofs.YtbggmndaahbojaaGreat
open Go.Proofs.Tryz
open Go.RowKit
theorem Pj {a:V3} (h:Ca a):Ca ⟨a.x,a.y,0⟩:=⟨h.1,h.2.1,⟨by show (-2097152:Int)<=0;decide,by show (0:Int)<=2097152;decide⟩⟩
def OnW (a b:V3) (u v w:Int):Prop:=Ms a b u v w=0/\bC a u w*bC b u w<=0/\Ey a v w*Ey b v w<=0
instance (a b:V3) (u v w:Int):Decidable (OnW a b u v w):=by unfold OnW;exact inferInstance
def tX (a b:V3) (u v w:Int):Int:=if Ey a v w<=0/\0<Ey b v w/\0<Ms a b u v w then 1 else if 0<Ey a v w/\Ey b v w<=0/\Ms a b u v w<0 then -1 else 0
def Qf (l:Vs) (u v w:Int):Nat->Bool
 |0=>false
 |i+1=>Qf l u v w i||decide (OnW (l.f i) (l.f ((i+1)%l.n)) u v w)
def uE (l:Vs) (u v w:Int):Nat->Int
 |0=>0
 |i+1=>uE l u v w i+tX (l.f i) (l.f ((i+1)%l.n)) u v w
def Uf (l:Vs) (u v w:Int):Int:=if Qf l u v w l.n=true then 0 else if uE l u v w l.n=0 then -1 else 1
theorem Ag (a b:V3) (u v w:Int):(tX a b u v w=1/\Ey a v w<=0/\0<Ey b v w/\0<Ms a b u v w)\/(tX a b u v w= -1/\0<Ey a v w/\Ey b v w<=0/\Ms a b u v w<0)\/(tX a b u v w=0/\¬(Ey a v w<=0/\0<Ey b v w/\0<Ms a b u v w)/\¬(0<Ey a v w/\Ey b v w<=0/\Ms a b u v w<0)):=by
 unfold tX
 split
 rename_i h;exact .inl ⟨rfl,h⟩
 rename_i h
 split
 rename_i h2;exact .inr (.inl ⟨rfl,h2⟩)
 rename_i h2;exact .inr (.inr ⟨rfl,h,h2⟩)
theorem Av (l:Vs) (u v w:Int) (i:Nat):uE l u v w (i+1)=uE l u v w i+tX (l.f i) (l.f ((i+1)%l.n)) u v w:=rfl
theorem Aeh (l:Vs) (u v w:Int):∀i:Nat,-(i:Int)<=uE l u v w i/\uE l u v w i<=i
 |0=>⟨by simp[uE],by simp[uE]⟩
 |i+1=>by
  have h:=Aeh l u v w i
  have h2:=Ag (l.f i) (l.f ((i+1)%l.n)) u v w
  rw[Av]
  omega
theorem Aw {l:Vs} {u v w:Int} {i:Nat} (h:Qf l u v w i=false) (k:¬OnW (l.f i) (l.f ((i+1)%l.n)) u v w):Qf l u v w (i+1)=false:=by
 show (Qf l u v w i||decide _)=false
 rw[h,decide_eq_false k]
 rfl
theorem AcX {l:Vs} {u v w:Int} {i:Nat} (k:OnW (l.f i) (l.f ((i+1)%l.n)) u v w):∀{n:Nat},i<n->Qf l u v w n=true
 |0,h=>absurd h ω
 |n+1,h=>by
  show (Qf l u v w n||decide _)=true
  by_cases e:i=n
  subst e;rw[decide_eq_true k,Bool.or_true]
  rw[AcX k (n:=n) ω,Bool.true_or]
theorem Ahh {l:Vs} {u v w:Int} {i:Nat} (h:i<l.n) (k:OnW (l.f i) (l.f ((i+1)%l.n)) u v w):(0:Int)=Uf l u v w:=by
 unfold Uf
 rw[if_pos (AcX k h)]
theorem Ahg {l:Vs} {u v w:Int} {i:Nat} (e:i=l.n) (h:Qf l u v w i=false) (k:uE l u v w i≠0):(1:Int)=Uf l u v w:=by
 subst e
 unfold Uf
 rw[if_neg (by rw[h];decide),if_neg k]
theorem Aek {l:Vs} {u v w:Int} {i:Nat} (e:i=l.n) (h:Qf l u v w i=false) (k:uE l u v w i=0):(-1:Int)=Uf l u v w:=by
 subst e
 unfold Uf
 rw[if_neg (by rw[h];decide),if_pos k]
theorem tI (a:V3) (u w:Int): -1<=bC a u w/\bC a u w<=1:=by have:=Rc (u-a.x*w);unfold bC;omega
theorem tJ (a:V3) (v w:Int): -1<=Ey a v w/\Ey a v w<=1:=by have:=Rc (v-a.y*w);unfold Ey;omega
theorem Qg {x y:Int} (hx: -1<=x/\x<=1) (hy: -1<=y/\y<=1): -1<=x*y/\x*y<=1:=by
 have:x= -1\/x=0\/x=1:=by omega
 rcases this with h|h|h<;>subst h<;>omega
theorem Ab1 (l:Vs) (hn:l.n<=64) (hl:∀i,Ca (l.f i)) (u v w:Int) (hu:Bd 1000 u) (hv:Bd 1000 v) (hw:Bd 1000 w):aY Tryz.prog 146 189 [.int .i64 0] [.int .i64 0] [] [.ptr 0 0,Bs l,.lit (sqV u v w)] (.int .i64 (Uf l u v w)):=by
 refine Mo (Jf func146 rfl ?_)
 refine Ab 19 (aI func125 (Ab 17 (aI func81 (Ab 13 (Ha (Ab 3 (gs (vnm [4,5,6,7,16] ·) (bV func124 λsp3 sp3p sp3a sp3b=>(Ab 8 (mI [0,1,6,7,8] (λm s=>∃(i:Nat) (iw:Int),m=l.n-i/\(i<=l.n/\Qf l u v w i=false/\iw=uE l u v w i)/\s=⟨[(0,.yld 9),(1,.ptr 8 0),(6,Bs l),(7,.int (l.n:Int)),(8,.int (i:Int))],[(0,.box 189 [.int 0]),(1,.box 222 [.ptr 0 0]),(2,.box 194 [.bool (decide (u<0)),.lit (.string (Bq (u).natAbs)),.bool (decide (v<0)),.lit (.string (Bq (v).natAbs)),.bool (decide (w<0)),.lit (.string (Bq (w).natAbs))]),(3,.box 224 [.fn 176 [.ptr 1 0,.ptr 2 0]]),(4,.box 176 [.fn 178 [.ptr 3 0,.ptr 1 0]]),(5,.box 178 [.fn 179 [.ptr 3 0]]),(6,.box 3 [.int 0]),(7,.box 3 [.int iw]),(8,.box 61 [Bs l]),(9,.loop .ready none sp3 [(4,.ptr 4 0),(5,.ptr 5 0),(6,.ptr 6 0),(7,.ptr 7 0),(16,.fn 124 [.ptr 8 0])] 77)],10,35⟩) (l.n-0) ⟨0,0,rfl,⟨Nat.zero_le _,rfl,rfl⟩,κ⟩ ?_))))))))))
 rintro _ _ ⟨i,iw,rfl,hF,rfl⟩ hJ1
 have hF1:=hF.1
 have hF2:=hF.2.1
 have hF3:=hF.2.2
 have hb0:=Aeh l u v w i
 have hb1:=tI (l.f i) u w
 have hb2:=tI (l.f ((i+1)%l.n)) u w
 have hb3:=tJ (l.f i) v w
 have hb4:=tJ (l.f ((i+1)%l.n)) v w
 have hb5:=Qg hb1 hb2
 have hb6:=Qg hb3 hb4
 refine Ab 6 (De 9 ((i:Int)<(l.n:Int)) (λhx5 hx5d=>?_) (λhx5 hx5d=>?_))
 refine Ab 8 (gs (Dm i l.n ·) (Ab 7 ?_))
 have hm5:=Nat.mod_lt (i+1) (by omega:0<l.n)
 refine gs (Be [(2,.int ((i+1:Nat):Int),.none),(5,.int (((i+1)%l.n:Nat):Int),.none),(6,Ax (Bs l) ((i+1)%l.n),.none)] [0,1,4,5,6,7,8] ⟨As (.int .i64 (IntKind.wrap .i64 ((i:Int)+1))) η,Agd ((i+1:Nat):Int) (l.n:Int) (((i+1)%l.n:Nat):Int) ω rfl,Eg ((i+1)%l.n) l.n,trivial⟩ ·) (Ab 14 (Kn sp3p sp3a (Ab 10 (Km sp3b ?_))))
 refine Ab 6 (gs (uD 0 [1,2,3] (Ah8 ⟨(l.f i).x,(l.f i).y,0⟩ ⟨(l.f ((i+1)%l.n)).x,(l.f ((i+1)%l.n)).y,0⟩ (Pj (hl _)) (Pj (hl _)) u v w hu hv hw) ·) (Ab 4 (gs (Be [(2,_,_),(5,_,_),(8,_,_),(11,_,_)] [6,7,10,11,12,13,14] ⟨Vm 0 [1,2,3] (Abz ⟨(l.f i).x,(l.f i).y,0⟩ (Pj (hl _)) u v w hu hv hw),Vm 0 [1,2,3] (Ab0 ⟨(l.f i).x,(l.f i).y,0⟩ (Pj (hl _)) u v w hu hv hw),Vm 0 [1,2,3] (Abz ⟨(l.f ((i+1)%l.n)).x,(l.f ((i+1)%l.n)).y,0⟩ (Pj (hl _)) u v w hu hv hw),Vm 0 [1,2,3] (Ab0 ⟨(l.f ((i+1)%l.n)).x,(l.f ((i+1)%l.n)).y,0⟩ (Pj (hl _)) u v w hu hv hw),trivial⟩ ·) (Ab 7 (De 37 ((Ms (l.f i) (l.f ((i+1)%l.n)) u v w)=0) (λhx8 hx8d=>?_) (λhx8 hx8d=>?_))))))
 refine Ab 2 (gs (Ao ((bC (l.f i) u w)*(bC (l.f ((i+1)%l.n)) u w)) ((bC (l.f i) u w)*(bC (l.f ((i+1)%l.n)) u w)) ·) (Ab 3 (De 43 ((bC (l.f i) u w)*(bC (l.f ((i+1)%l.n)) u w)<=0) (λhx9 hx9d=>?_) (λhx9 hx9d=>?_))))
 refine Ab 2 (gs (Ao ((Ey (l.f i) v w)*(Ey (l.f ((i+1)%l.n)) v w)) ((Ey (l.f i) v w)*(Ey (l.f ((i+1)%l.n)) v w)) ·) (Ab 4 (De 48 ((Ey (l.f i) v w)*(Ey (l.f ((i+1)%l.n)) v w)<=0) (λhx10 hx10d=>?_) (λhx10 hx10d=>?_))))
 exact Ab 9 (Cj (Ab 9 (We (Ab 3 (Ha (Ab 4 (Re (.int .i64 0) [.int .i64 0] ⟨(congrArg (Value.int .i64) (Ahh (i:=i) ω ⟨ω,ω,ω⟩)),rfl⟩)))))))
 refine Ab 9 (De 52 ((Ey (l.f i) v w)<=0) (λhx11 hx11d=>?_) (λhx11 hx11d=>?_))
 refine Ab 4 (De 56 ((0:Int)<(Ey (l.f ((i+1)%l.n)) v w)) (λhx12 hx12d=>?_) (λhx12 hx12d=>?_))
 refine Ab 6 (De 49 ((0:Int)<(Ms (l.f i) (l.f ((i+1)%l.n)) u v w)) (λhx13 hx13d=>?_) (λhx13 hx13d=>?_))
 exact Ab 3 (gs (Ao (iw+1) (iw+1) ·) (Ab 4 (Cj (Ab 8 (gs (Ao ((i:Int)+1) ((i+1:Nat):Int) ·) (Ab 2 (Bb [0,1,6,7,8] [(0,0),(1,1),(2,2),(3,3),(4,4),(5,5),(6,6),(7,7),(8,8),(9,9)] 10 [] trivial (hJ1 _ _ (by omega:l.n-(i+1)<l.n-i) ⟨i+1,(iw+1),rfl,⟨ω,Aw hF2 (λg9=>by obtain⟨g1,g2,g3⟩:=g9;omega),by have h7:=Ag (l.f i) (l.f ((i+1)%l.n)) u v w;have h8:=Av l u v w i;omega⟩,rfl⟩))))))))
 refine Ab 6 (De 65 ((0:Int)<(Ey (l.f i) v w)) (λhx14 hx14d=>?_) (λhx14 hx14d=>?_))
 refine Ab 4 (De 69 ((Ey (l.f ((i+1)%l.n)) v w)<=0) (λhx15 hx15d=>?_) (λhx15 hx15d=>?_))
 refine Ab 6 (De 62 ((Ms (l.f i) (l.f ((i+1)%l.n)) u v w)<0) (λhx16 hx16d=>?_) (λhx16 hx16d=>?_))
 exact Ab 3 (gs (Ao (iw-1) (iw-1) ·) (Ab 4 (Cj (Ab 8 (gs (Ao ((i:Int)+1) ((i+1:Nat):Int) ·) (Ab 2 (Bb [0,1,6,7,8] [(0,0),(1,1),(2,2),(3,3),(4,4),(5,5),(6,6),(7,7),(8,8),(9,9)] 10 [] trivial (hJ1 _ _ (by omega:l.n-(i+1)<l.n-i) ⟨i+1,(iw-1),rfl,⟨ω,Aw hF2 (λg9=>by obtain⟨g1,g2,g3⟩:=g9;omega),by have h7:=Ag (l.f i) (l.f ((i+1)%l.n)) u v w;have h8:=Av l u v w i;omega⟩,rfl⟩))))))))
 exact Ab 4 (Cj (Ab 8 (gs (Ao ((i:Int)+1) ((i+1:Nat):Int) ·) (Ab 2 (Bb [0,1,6,7,8] [(0,0),(1,1),(2,2),(3,3),(4,4),(5,5),(6,6),(7,7),(8,8),(9,9)] 10 [] trivial (hJ1 _ _ (by omega:l.n-(i+1)<l.n-i) ⟨i+1,iw,rfl,⟨ω,Aw hF2 (λg9=>by obtain⟨g1,g2,g3⟩:=g9;omega),by have h7:=Ag (l.f i) (l.f ((i+1)%l.n)) u v w;have h8:=Av l u v w i;omega⟩,rfl⟩))))))
 exact Ab 10 (Cj (Ab 8 (gs (Ao ((i:Int)+1) ((i+1:Nat):Int) ·) (Ab 2 (Bb [0,1,6,7,8] [(0,0),(1,1),(2,2),(3,3),(4,4),(5,5),(6,6),(7,7),(8,8),(9,9)] 10 [] trivial (hJ1 _ _ (by omega:l.n-(i+1)<l.n-i) ⟨i+1,iw,rfl,⟨ω,Aw hF2 (λg9=>by obtain⟨g1,g2,g3⟩:=g9;omega),by have h7:=Ag (l.f i) (l.f ((i+1)%l.n)) u v w;have h8:=Av l u v w i;omega⟩,rfl⟩))))))
 exact Ab 14 (Cj (Ab 8 (gs (Ao ((i:Int)+1) ((i+1:Nat):Int) ·) (Ab 2 (Bb [0,1,6,7,8] [(0,0),(1,1),(2,2),(3,3),(4,4),(5,5),(6,6),(7,7),(8,8),(9,9)] 10 [] trivial (hJ1 _ _ (by omega:l.n-(i+1)<l.n-i) ⟨i+1,iw,rfl,⟨ω,Aw hF2 (λg9=>by obtain⟨g1,g2,g3⟩:=g9;omega),by have h7:=Ag (l.f i) (l.f ((i+1)%l.n)) u v w;have h8:=Av l u v w i;omega⟩,rfl⟩))))))
 refine Ab 12 (De 65 ((0:Int)<(Ey (l.f i) v w)) (λhx17 hx17d=>?_) (λhx17 hx17d=>?_))
 refine Ab 4 (De 69 ((Ey (l.f ((i+1)%l.n)) v w)<=0) (λhx18 hx18d=>?_) (λhx18 hx18d=>?_))
 refine Ab 6 (De 62 ((Ms (l.f i) (l.f ((i+1)%l.n)) u v w)<0) (λhx19 hx19d=>?_) (λhx19 hx19d=>?_))
 exact Ab 3 (gs (Ao (iw-1) (iw-1) ·) (Ab 4 (Cj (Ab 8 (gs (Ao ((i:Int)+1) ((i+1:Nat):Int) ·) (Ab 2 (Bb [0,1,6,7,8] [(0,0),(1,1),(2,2),(3,3),(4,4),(5,5),(6,6),(7,7),(8,8),(9,9)] 10 [] trivial (hJ1 _ _ (by omega:l.n-(i+1)<l.n-i) ⟨i+1,(iw-1),rfl,⟨ω,Aw hF2 (λg9=>by obtain⟨g1,g2,g3⟩:=g9;omega),by have h7:=Ag (l.f i) (l.f ((i+1)%l.n)) u v w;have h8:=Av l u v w i;omega⟩,rfl⟩))))))))
 exact Ab 4 (Cj (Ab 8 (gs (Ao ((i:Int)+1) ((i+1:Nat):Int) ·) (Ab 2 (Bb [0,1,6,7,8] [(0,0),(1,1),(2,2),(3,3),(4,4),(5,5),(6,6),(7,7),(8,8),(9,9)] 10 [] trivial (hJ1 _ _ (by omega:l.n-(i+1)<l.n-i) ⟨i+1,iw,rfl,⟨ω,Aw hF2 (λg9=>by obtain⟨g1,g2,g3⟩:=g9;omega),by have h7:=Ag (l.f i) (l.f ((i+1)%l.n)) u v w;have h8:=Av l u v w i;omega⟩,rfl⟩))))))
 exact Ab 10 (Cj (Ab 8 (gs (Ao ((i:Int)+1) ((i+1:Nat):Int) ·) (Ab 2 (Bb [0,1,6,7,8] [(0,0),(1,1),(2,2),(3,3),(4,4),(5,5),(6,6),(7,7),(8,8),(9,9)] 10 [] trivial (hJ1 _ _ (by omega:l.n-(i+1)<l.n-i) ⟨i+1,iw,rfl,⟨ω,Aw hF2 (λg9=>by obtain⟨g1,g2,g3⟩:=g9;omega),by have h7:=Ag (l.f i) (l.f ((i+1)%l.n)) u v w;have h8:=Av l u v w i;omega⟩,rfl⟩))))))
 exact Ab 14 (Cj (Ab 8 (gs (Ao ((i:Int)+1) ((i+1:Nat):Int) ·) (Ab 2 (Bb [0,1,6,7,8] [(0,0),(1,1),(2,2),(3,3),(4,4),(5,5),(6,6),(7,7),(8,8),(9,9)] 10 [] trivial (hJ1 _ _ (by omega:l.n-(i+1)<l.n-i) ⟨i+1,iw,rfl,⟨ω,Aw hF2 (λg9=>by obtain⟨g1,g2,g3⟩:=g9;omega),by have h7:=Ag (l.f i) (l.f ((i+1)%l.n)) u v w;have h8:=Av l u v w i;omega⟩,rfl⟩))))))
 refine Ab 16 (De 65 ((0:Int)<(Ey (l.f i) v w)) (λhx20 hx20d=>?_) (λhx20 hx20d=>?_))
 refine Ab 4 (De 69 ((Ey (l.f ((i+1)%l.n)) v w)<=0) (λhx21 hx21d=>?_) (λhx21 hx21d=>?_))
 refine Ab 6 (De 62 ((Ms (l.f i) (l.f ((i+1)%l.n)) u v w)<0) (λhx22 hx22d=>?_) (λhx22 hx22d=>?_))
 exact Ab 3 (gs (Ao (iw-1) (iw-1) ·) (Ab 4 (Cj (Ab 8 (gs (Ao ((i:Int)+1) ((i+1:Nat):Int) ·) (Ab 2 (Bb [0,1,6,7,8] [(0,0),(1,1),(2,2),(3,3),(4,4),(5,5),(6,6),(7,7),(8,8),(9,9)] 10 [] trivial (hJ1 _ _ (by omega:l.n-(i+1)<l.n-i) ⟨i+1,(iw-1),rfl,⟨ω,Aw hF2 (λg9=>by obtain⟨g1,g2,g3⟩:=g9;omega),by have h7:=Ag (l.f i) (l.f ((i+1)%l.n)) u v w;have h8:=Av l u v w i;omega⟩,rfl⟩))))))))
 exact Ab 4 (Cj (Ab 8 (gs (Ao ((i:Int)+1) ((i+1:Nat):Int) ·) (Ab 2 (Bb [0,1,6,7,8] [(0,0),(1,1),(2,2),(3,3),(4,4),(5,5),(6,6),(7,7),(8,8),(9,9)] 10 [] trivial (hJ1 _ _ (by omega:l.n-(i+1)<l.n-i) ⟨i+1,iw,rfl,⟨ω,Aw hF2 (λg9=>by obtain⟨g1,g2,g3⟩:=g9;omega),by have h7:=Ag (l.f i) (l.f ((i+1)%l.n)) u v w;have h8:=Av l u v w i;omega⟩,rfl⟩))))))
 exact Ab 10 (Cj (Ab 8 (gs (Ao ((i:Int)+1) ((i+1:Nat):Int) ·) (Ab 2 (Bb [0,1,6,7,8] [(0,0),(1,1),(2,2),(3,3),(4,4),(5,5),(6,6),(7,7),(8,8),(9,9)] 10 [] trivial (hJ1 _ _ (by omega:l.n-(i+1)<l.n-i) ⟨i+1,iw,rfl,⟨ω,Aw hF2 (λg9=>by obtain⟨g1,g2,g3⟩:=g9;omega),by have h7:=Ag (l.f i) (l.f ((i+1)%l.n)) u v w;have h8:=Av l u v w i;omega⟩,rfl⟩))))))
 exact Ab 14 (Cj (Ab 8 (gs (Ao ((i:Int)+1) ((i+1:Nat):Int) ·) (Ab 2 (Bb [0,1,6,7,8] [(0,0),(1,1),(2,2),(3,3),(4,4),(5,5),(6,6),(7,7),(8,8),(9,9)] 10 [] trivial (hJ1 _ _ (by omega:l.n-(i+1)<l.n-i) ⟨i+1,iw,rfl,⟨ω,Aw hF2 (λg9=>by obtain⟨g1,g2,g3⟩:=g9;omega),by have h7:=Ag (l.f i) (l.f ((i+1)%l.n)) u v w;have h8:=Av l u v w i;omega⟩,rfl⟩))))))
 refine Ab 16 (De 52 ((Ey (l.f i) v w)<=0) (λhx23 hx23d=>?_) (λhx23 hx23d=>?_))
 refine Ab 4 (De 56 ((0:Int)<(Ey (l.f ((i+1)%l.n)) v w)) (λhx24 hx24d=>?_) (λhx24 hx24d=>?_))
 refine Ab 6 (De 49 ((0:Int)<(Ms (l.f i) (l.f ((i+1)%l.n)) u v w)) (λhx25 hx25d=>?_) (λhx25 hx25d=>?_))
 exact Ab 3 (gs (Ao (iw+1) (iw+1) ·) (Ab 4 (Cj (Ab 8 (gs (Ao ((i:Int)+1) ((i+1:Nat):Int) ·) (Ab 2 (Bb [0,1,6,7,8] [(0,0),(1,1),(2,2),(3,3),(4,4),(5,5),(6,6),(7,7),(8,8),(9,9)] 10 [] trivial (hJ1 _ _ (by omega:l.n-(i+1)<l.n-i) ⟨i+1,(iw+1),rfl,⟨ω,Aw hF2 (λg9=>by obtain⟨g1,g2,g3⟩:=g9;omega),by have h7:=Ag (l.f i) (l.f ((i+1)%l.n)) u v w;have h8:=Av l u v w i;omega⟩,rfl⟩))))))))
 refine Ab 6 (De 65 ((0:Int)<(Ey (l.f i) v w)) (λhx26 hx26d=>?_) (λhx26 hx26d=>?_))
 refine Ab 4 (De 69 ((Ey (l.f ((i+1)%l.n)) v w)<=0) (λhx27 hx27d=>?_) (λhx27 hx27d=>?_))
 refine Ab 6 (De 62 ((Ms (l.f i) (l.f ((i+1)%l.n)) u v w)<0) (λhx28 hx28d=>?_) (λhx28 hx28d=>?_))
 exact Ab 3 (gs (Ao (iw-1) (iw-1) ·) (Ab 4 (Cj (Ab 8 (gs (Ao ((i:Int)+1) ((i+1:Nat):Int) ·) (Ab 2 (Bb [0,1,6,7,8] [(0,0),(1,1),(2,2),(3,3),(4,4),(5,5),(6,6),(7,7),(8,8),(9,9)] 10 [] trivial (hJ1 _ _ (by omega:l.n-(i+1)<l.n-i) ⟨i+1,(iw-1),rfl,⟨ω,Aw hF2 (λg9=>by obtain⟨g1,g2,g3⟩:=g9;omega),by have h7:=Ag (l.f i) (l.f ((i+1)%l.n)) u v w;have h8:=Av l u v w i;omega⟩,rfl⟩))))))))
 exact Ab 4 (Cj (Ab 8 (gs (Ao ((i:Int)+1) ((i+1:Nat):Int) ·) (Ab 2 (Bb [0,1,6,7,8] [(0,0),(1,1),(2,2),(3,3),(4,4),(5,5),(6,6),(7,7),(8,8),(9,9)] 10 [] trivial (hJ1 _ _ (by omega:l.n-(i+1)<l.n-i) ⟨i+1,iw,rfl,⟨ω,Aw hF2 (λg9=>by obtain⟨g1,g2,g3⟩:=g9;omega),by have h7:=Ag (l.f i) (l.f ((i+1)%l.n)) u v w;have h8:=Av l u v w i;omega⟩,rfl⟩))))))
 exact Ab 10 (Cj (Ab 8 (gs (Ao ((i:Int)+1) ((i+1:Nat):Int) ·) (Ab 2 (Bb [0,1,6,7,8] [(0,0),(1,1),(2,2),(3,3),(4,4),(5,5),(6,6),(7,7),(8,8),(9,9)] 10 [] trivial (hJ1 _ _ (by omega:l.n-(i+1)<l.n-i) ⟨i+1,iw,rfl,⟨ω,Aw hF2 (λg9=>by obtain⟨g1,g2,g3⟩:=g9;omega),by have h7:=Ag (l.f i) (l.f ((i+1)%l.n)) u v w;have h8:=Av l u v w i;omega⟩,rfl⟩))))))
 exact Ab 14 (Cj (Ab 8 (gs (Ao ((i:Int)+1) ((i+1:Nat):Int) ·) (Ab 2 (Bb [0,1,6,7,8] [(0,0),(1,1),(2,2),(3,3),(4,4),(5,5),(6,6),(7,7),(8,8),(9,9)] 10 [] trivial (hJ1 _ _ (by omega:l.n-(i+1)<l.n-i) ⟨i+1,iw,rfl,⟨ω,Aw hF2 (λg9=>by obtain⟨g1,g2,g3⟩:=g9;omega),by have h7:=Ag (l.f i) (l.f ((i+1)%l.n)) u v w;have h8:=Av l u v w i;omega⟩,rfl⟩))))))
 refine Ab 12 (De 65 ((0:Int)<(Ey (l.f i) v w)) (λhx29 hx29d=>?_) (λhx29 hx29d=>?_))
 refine Ab 4 (De 69 ((Ey (l.f ((i+1)%l.n)) v w)<=0) (λhx30 hx30d=>?_) (λhx30 hx30d=>?_))
 refine Ab 6 (De 62 ((Ms (l.f i) (l.f ((i+1)%l.n)) u v w)<0) (λhx31 hx31d=>?_) (λhx31 hx31d=>?_))
 exact Ab 3 (gs (Ao (iw-1) (iw-1) ·) (Ab 4 (Cj (Ab 8 (gs (Ao ((i:Int)+1) ((i+1:Nat):Int) ·) (Ab 2 (Bb [0,1,6,7,8] [(0,0),(1,1),(2,2),(3,3),(4,4),(5,5),(6,6),(7,7),(8,8),(9,9)] 10 [] trivial (hJ1 _ _ (by omega:l.n-(i+1)<l.n-i) ⟨i+1,(iw-1),rfl,⟨ω,Aw hF2 (λg9=>by obtain⟨g1,g2,g3⟩:=g9;omega),by have h7:=Ag (l.f i) (l.f ((i+1)%l.n)) u v w;have h8:=Av l u v w i;omega⟩,rfl⟩))))))))
 exact Ab 4 (Cj (Ab 8 (gs (Ao ((i:Int)+1) ((i+1:Nat):Int) ·) (Ab 2 (Bb [0,1,6,7,8] [(0,0),(1,1),(2,2),(3,3),(4,4),(5,5),(6,6),(7,7),(8,8),(9,9)] 10 [] trivial (hJ1 _ _ (by omega:l.n-(i+1)<l.n-i) ⟨i+1,iw,rfl,⟨ω,Aw hF2 (λg9=>by obtain⟨g1,g2,g3⟩:=g9;omega),by have h7:=Ag (l.f i) (l.f ((i+1)%l.n)) u v w;have h8:=Av l u v w i;omega⟩,rfl⟩))))))
 exact Ab 10 (Cj (Ab 8 (gs (Ao ((i:Int)+1) ((i+1:Nat):Int) ·) (Ab 2 (Bb [0,1,6,7,8] [(0,0),(1,1),(2,2),(3,3),(4,4),(5,5),(6,6),(7,7),(8,8),(9,9)] 10 [] trivial (hJ1 _ _ (by omega:l.n-(i+1)<l.n-i) ⟨i+1,iw,rfl,⟨ω,Aw hF2 (λg9=>by obtain⟨g1,g2,g3⟩:=g9;omega),by have h7:=Ag (l.f i) (l.f ((i+1)%l.n)) u v w;have h8:=Av l u v w i;omega⟩,rfl⟩))))))
 exact Ab 14 (Cj (Ab 8 (gs (Ao ((i:Int)+1) ((i+1:Nat):Int) ·) (Ab 2 (Bb [0,1,6,7,8] [(0,0),(1,1),(2,2),(3,3),(4,4),(5,5),(6,6),(7,7),(8,8),(9,9)] 10 [] trivial (hJ1 _ _ (by omega:l.n-(i+1)<l.n-i) ⟨i+1,iw,rfl,⟨ω,Aw hF2 (λg9=>by obtain⟨g1,g2,g3⟩:=g9;omega),by have h7:=Ag (l.f i) (l.f ((i+1)%l.n)) u v w;have h8:=Av l u v w i;omega⟩,rfl⟩))))))
 refine Ab 16 (De 65 ((0:Int)<(Ey (l.f i) v w)) (λhx32 hx32d=>?_) (λhx32 hx32d=>?_))
 refine Ab 4 (De 69 ((Ey (l.f ((i+1)%l.n)) v w)<=0) (λhx33 hx33d=>?_) (λhx33 hx33d=>?_))
 refine Ab 6 (De 62 ((Ms (l.f i) (l.f ((i+1)%l.n)) u v w)<0) (λhx34 hx34d=>?_) (λhx34 hx34d=>?_))
 exact Ab 3 (gs (Ao (iw-1) (iw-1) ·) (Ab 4 (Cj (Ab 8 (gs (Ao ((i:Int)+1) ((i+1:Nat):Int) ·) (Ab 2 (Bb [0,1,6,7,8] [(0,0),(1,1),(2,2),(3,3),(4,4),(5,5),(6,6),(7,7),(8,8),(9,9)] 10 [] trivial (hJ1 _ _ (by omega:l.n-(i+1)<l.n-i) ⟨i+1,(iw-1),rfl,⟨ω,Aw hF2 (λg9=>by obtain⟨g1,g2,g3⟩:=g9;omega),by have h7:=Ag (l.f i) (l.f ((i+1)%l.n)) u v w;have h8:=Av l u v w i;omega⟩,rfl⟩))))))))
 exact Ab 4 (Cj (Ab 8 (gs (Ao ((i:Int)+1) ((i+1:Nat):Int) ·) (Ab 2 (Bb [0,1,6,7,8] [(0,0),(1,1),(2,2),(3,3),(4,4),(5,5),(6,6),(7,7),(8,8),(9,9)] 10 [] trivial (hJ1 _ _ (by omega:l.n-(i+1)<l.n-i) ⟨i+1,iw,rfl,⟨ω,Aw hF2 (λg9=>by obtain⟨g1,g2,g3⟩:=g9;omega),by have h7:=Ag (l.f i) (l.f ((i+1)%l.n)) u v w;have h8:=Av l u v w i;omega⟩,rfl⟩))))))
 exact Ab 10 (Cj (Ab 8 (gs (Ao ((i:Int)+1) ((i+1:Nat):Int) ·) (Ab 2 (Bb [0,1,6,7,8] [(0,0),(1,1),(2,2),(3,3),(4,4),(5,5),(6,6),(7,7),(8,8),(9,9)] 10 [] trivial (hJ1 _ _ (by omega:l.n-(i+1)<l.n-i) ⟨i+1,iw,rfl,⟨ω,Aw hF2 (λg9=>by obtain⟨g1,g2,g3⟩:=g9;omega),by have h7:=Ag (l.f i) (l.f ((i+1)%l.n)) u v w;have h8:=Av l u v w i;omega⟩,rfl⟩))))))
 exact Ab 14 (Cj (Ab 8 (gs (Ao ((i:Int)+1) ((i+1:Nat):Int) ·) (Ab 2 (Bb [0,1,6,7,8] [(0,0),(1,1),(2,2),(3,3),(4,4),(5,5),(6,6),(7,7),(8,8),(9,9)] 10 [] trivial (hJ1 _ _ (by omega:l.n-(i+1)<l.n-i) ⟨i+1,iw,rfl,⟨ω,Aw hF2 (λg9=>by obtain⟨g1,g2,g3⟩:=g9;omega),by have h7:=Ag (l.f i) (l.f ((i+1)%l.n)) u v w;have h8:=Av l u v w i;omega⟩,rfl⟩))))))
 refine Ab 22 (De 52 ((Ey (l.f i) v w)<=0) (λhx35 hx35d=>?_) (λhx35 hx35d=>?_))
 refine Ab 4 (De 56 ((0:Int)<(Ey (l.f ((i+1)%l.n)) v w)) (λhx36 hx36d=>?_) (λhx36 hx36d=>?_))
 refine Ab 6 (De 49 ((0:Int)<(Ms (l.f i) (l.f ((i+1)%l.n)) u v w)) (λhx37 hx37d=>?_) (λhx37 hx37d=>?_))
 exact Ab 3 (gs (Ao (iw+1) (iw+1) ·) (Ab 4 (Cj (Ab 8 (gs (Ao ((i:Int)+1) ((i+1:Nat):Int) ·) (Ab 2 (Bb [0,1,6,7,8] [(0,0),(1,1),(2,2),(3,3),(4,4),(5,5),(6,6),(7,7),(8,8),(9,9)] 10 [] trivial (hJ1 _ _ (by omega:l.n-(i+1)<l.n-i) ⟨i+1,(iw+1),rfl,⟨ω,Aw hF2 (λg9=>by obtain⟨g1,g2,g3⟩:=g9;omega),by have h7:=Ag (l.f i) (l.f ((i+1)%l.n)) u v w;have h8:=Av l u v w i;omega⟩,rfl⟩))))))))
 refine Ab 6 (De 65 ((0:Int)<(Ey (l.f i) v w)) (λhx38 hx38d=>?_) (λhx38 hx38d=>?_))
 refine Ab 4 (De 69 ((Ey (l.f ((i+1)%l.n)) v w)<=0) (λhx39 hx39d=>?_) (λhx39 hx39d=>?_))
 refine Ab 6 (De 62 ((Ms (l.f i) (l.f ((i+1)%l.n)) u v w)<0) (λhx40 hx40d=>?_) (λhx40 hx40d=>?_))
 exact Ab 3 (gs (Ao (iw-1) (iw-1) ·) (Ab 4 (Cj (Ab 8 (gs (Ao ((i:Int)+1) ((i+1:Nat):Int) ·) (Ab 2 (Bb [0,1,6,7,8] [(0,0),(1,1),(2,2),(3,3),(4,4),(5,5),(6,6),(7,7),(8,8),(9,9)] 10 [] trivial (hJ1 _ _ (by omega:l.n-(i+1)<l.n-i) ⟨i+1,(iw-1),rfl,⟨ω,Aw hF2 (λg9=>by obtain⟨g1,g2,g3⟩:=g9;omega),by have h7:=Ag (l.f i) (l.f ((i+1)%l.n)) u v w;have h8:=Av l u v w i;omega⟩,rfl⟩))))))))
 exact Ab 4 (Cj (Ab 8 (gs (Ao ((i:Int)+1) ((i+1:Nat):Int) ·) (Ab 2 (Bb [0,1,6,7,8] [(0,0),(1,1),(2,2),(3,3),(4,4),(5,5),(6,6),(7,7),(8,8),(9,9)] 10 [] trivial (hJ1 _ _ (by omega:l.n-(i+1)<l.n-i) ⟨i+1,iw,rfl,⟨ω,Aw hF2 (λg9=>by obtain⟨g1,g2,g3⟩:=g9;omega),by have h7:=Ag (l.f i) (l.f ((i+1)%l.n)) u v w;have h8:=Av l u v w i;omega⟩,rfl⟩))))))
 exact Ab 10 (Cj (Ab 8 (gs (Ao ((i:Int)+1) ((i+1:Nat):Int) ·) (Ab 2 (Bb [0,1,6,7,8] [(0,0),(1,1),(2,2),(3,3),(4,4),(5,5),(6,6),(7,7),(8,8),(9,9)] 10 [] trivial (hJ1 _ _ (by omega:l.n-(i+1)<l.n-i) ⟨i+1,iw,rfl,⟨ω,Aw hF2 (λg9=>by obtain⟨g1,g2,g3⟩:=g9;omega),by have h7:=Ag (l.f i) (l.f ((i+1)%l.n)) u v w;have h8:=Av l u v w i;omega⟩,rfl⟩))))))
 exact Ab 14 (Cj (Ab 8 (gs (Ao ((i:Int)+1) ((i+1:Nat):Int) ·) (Ab 2 (Bb [0,1,6,7,8] [(0,0),(1,1),(2,2),(3,3),(4,4),(5,5),(6,6),(7,7),(8,8),(9,9)] 10 [] trivial (hJ1 _ _ (by omega:l.n-(i+1)<l.n-i) ⟨i+1,iw,rfl,⟨ω,Aw hF2 (λg9=>by obtain⟨g1,g2,g3⟩:=g9;omega),by have h7:=Ag (l.f i) (l.f ((i+1)%l.n)) u v w;have h8:=Av l u v w i;omega⟩,rfl⟩))))))
 refine Ab 12 (De 65 ((0:Int)<(Ey (l.f i) v w)) (λhx41 hx41d=>?_) (λhx41 hx41d=>?_))
 refine Ab 4 (De 69 ((Ey (l.f ((i+1)%l.n)) v w)<=0) (λhx42 hx42d=>?_) (λhx42 hx42d=>?_))
 refine Ab 6 (De 62 ((Ms (l.f i) (l.f ((i+1)%l.n)) u v w)<0) (λhx43 hx43d=>?_) (λhx43 hx43d=>?_))
 exact Ab 3 (gs (Ao (iw-1) (iw-1) ·) (Ab 4 (Cj (Ab 8 (gs (Ao ((i:Int)+1) ((i+1:Nat):Int) ·) (Ab 2 (Bb [0,1,6,7,8] [(0,0),(1,1),(2,2),(3,3),(4,4),(5,5),(6,6),(7,7),(8,8),(9,9)] 10 [] trivial (hJ1 _ _ (by omega:l.n-(i+1)<l.n-i) ⟨i+1,(iw-1),rfl,⟨ω,Aw hF2 (λg9=>by obtain⟨g1,g2,g3⟩:=g9;omega),by have h7:=Ag (l.f i) (l.f ((i+1)%l.n)) u v w;have h8:=Av l u v w i;omega⟩,rfl⟩))))))))
 exact Ab 4 (Cj (Ab 8 (gs (Ao ((i:Int)+1) ((i+1:Nat):Int) ·) (Ab 2 (Bb [0,1,6,7,8] [(0,0),(1,1),(2,2),(3,3),(4,4),(5,5),(6,6),(7,7),(8,8),(9,9)] 10 [] trivial (hJ1 _ _ (by omega:l.n-(i+1)<l.n-i) ⟨i+1,iw,rfl,⟨ω,Aw hF2 (λg9=>by obtain⟨g1,g2,g3⟩:=g9;omega),by have h7:=Ag (l.f i) (l.f ((i+1)%l.n)) u v w;have h8:=Av l u v w i;omega⟩,rfl⟩))))))
 exact Ab 10 (Cj (Ab 8 (gs (Ao ((i:Int)+1) ((i+1:Nat):Int) ·) (Ab 2 (Bb [0,1,6,7,8] [(0,0),(1,1),(2,2),(3,3),(4,4),(5,5),(6,6),(7,7),(8,8),(9,9)] 10 [] trivial (hJ1 _ _ (by omega:l.n-(i+1)<l.n-i) ⟨i+1,iw,rfl,⟨ω,Aw hF2 (λg9=>by obtain⟨g1,g2,g3⟩:=g9;omega),by have h7:=Ag (l.f i) (l.f ((i+1)%l.n)) u v w;have h8:=Av l u v w i;omega⟩,rfl⟩))))))
 exact Ab 14 (Cj (Ab 8 (gs (Ao ((i:Int)+1) ((i+1:Nat):Int) ·) (Ab 2 (Bb [0,1,6,7,8] [(0,0),(1,1),(2,2),(3,3),(4,4),(5,5),(6,6),(7,7),(8,8),(9,9)] 10 [] trivial (hJ1 _ _ (by omega:l.n-(i+1)<l.n-i) ⟨i+1,iw,rfl,⟨ω,Aw hF2 (λg9=>by obtain⟨g1,g2,g3⟩:=g9;omega),by have h7:=Ag (l.f i) (l.f ((i+1)%l.n)) u v w;have h8:=Av l u v w i;omega⟩,rfl⟩))))))
 refine Ab 16 (De 65 ((0:Int)<(Ey (l.f i) v w)) (λhx44 hx44d=>?_) (λhx44 hx44d=>?_))
 refine Ab 4 (De 69 ((Ey (l.f ((i+1)%l.n)) v w)<=0) (λhx45 hx45d=>?_) (λhx45 hx45d=>?_))
 refine Ab 6 (De 62 ((Ms (l.f i) (l.f ((i+1)%l.n)) u v w)<0) (λhx46 hx46d=>?_) (λhx46 hx46d=>?_))
 exact Ab 3 (gs (Ao (iw-1) (iw-1) ·) (Ab 4 (Cj (Ab 8 (gs (Ao ((i:Int)+1) ((i+1:Nat):Int) ·) (Ab 2 (Bb [0,1,6,7,8] [(0,0),(1,1),(2,2),(3,3),(4,4),(5,5),(6,6),(7,7),(8,8),(9,9)] 10 [] trivial (hJ1 _ _ (by omega:l.n-(i+1)<l.n-i) ⟨i+1,(iw-1),rfl,⟨ω,Aw hF2 (λg9=>by obtain⟨g1,g2,g3⟩:=g9;omega),by have h7:=Ag (l.f i) (l.f ((i+1)%l.n)) u v w;have h8:=Av l u v w i;omega⟩,rfl⟩))))))))
 exact Ab 4 (Cj (Ab 8 (gs (Ao ((i:Int)+1) ((i+1:Nat):Int) ·) (Ab 2 (Bb [0,1,6,7,8] [(0,0),(1,1),(2,2),(3,3),(4,4),(5,5),(6,6),(7,7),(8,8),(9,9)] 10 [] trivial (hJ1 _ _ (by omega:l.n-(i+1)<l.n-i) ⟨i+1,iw,rfl,⟨ω,Aw hF2 (λg9=>by obtain⟨g1,g2,g3⟩:=g9;omega),by have h7:=Ag (l.f i) (l.f ((i+1)%l.n)) u v w;have h8:=Av l u v w i;omega⟩,rfl⟩))))))
 exact Ab 10 (Cj (Ab 8 (gs (Ao ((i:Int)+1) ((i+1:Nat):Int) ·) (Ab 2 (Bb [0,1,6,7,8] [(0,0),(1,1),(2,2),(3,3),(4,4),(5,5),(6,6),(7,7),(8,8),(9,9)] 10 [] trivial (hJ1 _ _ (by omega:l.n-(i+1)<l.n-i) ⟨i+1,iw,rfl,⟨ω,Aw hF2 (λg9=>by obtain⟨g1,g2,g3⟩:=g9;omega),by have h7:=Ag (l.f i) (l.f ((i+1)%l.n)) u v w;have h8:=Av l u v w i;omega⟩,rfl⟩))))))
 exact Ab 14 (Cj (Ab 8 (gs (Ao ((i:Int)+1) ((i+1:Nat):Int) ·) (Ab 2 (Bb [0,1,6,7,8] [(0,0),(1,1),(2,2),(3,3),(4,4),(5,5),(6,6),(7,7),(8,8),(9,9)] 10 [] trivial (hJ1 _ _ (by omega:l.n-(i+1)<l.n-i) ⟨i+1,iw,rfl,⟨ω,Aw hF2 (λg9=>by obtain⟨g1,g2,g3⟩:=g9;omega),by have h7:=Ag (l.f i) (l.f ((i+1)%l.n)) u v w;have h8:=Av l u v w i;omega⟩,rfl⟩))))))
 refine Ab 5 (We (Ab 9 (yU 76 (iw=0) (λhx47 hx47d=>?_) (λhx47 hx47d=>?_))))
 exact Ab 9 (Ha (Ab 4 (Re (.int .i64 (-1)) [.int .i64 0] ⟨(congrArg (Value.int .i64) (Aek (i:=i) ω hF2 ω)),rfl⟩)))
 exact Ab 8 (Ha (Ab 4 (Re (.int .i64 1) [.int .i64 0] ⟨(congrArg (Value.int .i64) (Ahg (i:=i) ω hF2 ω)),rfl⟩)))
def Pr (f:cQ):Prop:=(∀i,Ca (f.o.f i))/\∀q i,Ca ((f.h q).f i)
def vJ (f:cQ) (u v w:Int):Prop:=0<=Uf f.o u v w/\∀q,q<f.hn->¬0<Uf (f.h q) u v w
theorem jY (l:Vs) (hn:l.n<=64) (hl:∀i,Ca (l.f i)) (u v w:Int) (hu:Bd 1000 u) (hv:Bd 1000 v) (hw:Bd 1000 w):aY Tryz.prog 145 189 [.int .i64 0] [.int .i64 0] [(194,[.lit (.bool (decide (u<0))),.lit (.string (Bq (u).natAbs)),.lit (.bool (decide (v<0))),.lit (.string (Bq (v).natAbs)),.lit (.bool (decide (w<0))),.lit (.string (Bq (w).natAbs))])] [Bs l,.ptr 0 0,.ptr 1 0] (.int .i64 (Uf l u v w)):=by
 refine Mo (Jf func145 rfl ?_)
 exact Ab 9 (gs (uD 0 [] (Ab1 l hn hl u v w hu hv hw) ·) (Ab 4 (Re (.int .i64 (Uf l u v w)) [.int .i64 0] ⟨rfl,rfl⟩)))
theorem Ah3 (l:Vs) (hn:l.n<=64) (hl:∀i,Ca (l.f i)) (u v w:Int) (hu:Bd 1000 u) (hv:Bd 1000 v) (hw:Bd 1000 w):aY Tryz.prog 175 189 [.int .i64 0] [.int .i64 0] [(194,[.lit (.bool (decide (u<0))),.lit (.string (Bq (u).natAbs)),.lit (.bool (decide (v<0))),.lit (.string (Bq (v).natAbs)),.lit (.bool (decide (w<0))),.lit (.string (Bq (w).natAbs))]),(198,[.fn 145 [.ptr 0 0,.ptr 1 0]])] [Bs l,.ptr 2 0] (.bool (decide (0<Uf l u v w))):=by
 refine Mo (Jf func175 rfl ?_)
 exact Ab 9 (gs (uD 0 [1] (jY l hn hl u v w hu hv hw) ·) (Ab 5 (Re (.bool (decide ((0:Int)<(Uf l u v w)))) [.int .i64 0] ⟨rfl,rfl⟩)))
theorem Ah4 (l:Vs) (hn:l.n<=64) (hl:∀i,Ca (l.f i)) (u v w:Int) (hu:Bd 1000 u) (hv:Bd 1000 v) (hw:Bd 1000 w) (h:¬0<Uf l u v w):aY Tryz.prog 175 189 [.int .i64 0] [.int .i64 0] [(194,[.lit (.bool (decide (u<0))),.lit (.string (Bq (u).natAbs)),.lit (.bool (decide (v<0))),.lit (.string (Bq (v).natAbs)),.lit (.bool (decide (w<0))),.lit (.string (Bq (w).natAbs))]),(198,[.fn 145 [.ptr 0 0,.ptr 1 0]])] [Bs l,.ptr 2 0] (.bool false):=by
 have:=Ah3 l hn hl u v w hu hv hw
 rwa [decide_eq_false h] at this
theorem Ah2 (f:cQ) (h0:yX f) (hl:Pr f) (u v w:Int) (hu:Bd 1000 u) (hv:Bd 1000 v) (hw:Bd 1000 w) (hi:vJ f u v w):aY Tryz.prog 174 189 [.int .i64 0] [.int .i64 0] [(194,[.lit (.bool (decide (u<0))),.lit (.string (Bq (u).natAbs)),.lit (.bool (decide (v<0))),.lit (.string (Bq (v).natAbs)),.lit (.bool (decide (w<0))),.lit (.string (Bq (w).natAbs))]),(198,[.fn 145 [.ptr 0 0,.ptr 1 0]])] [dQ f,.fn 175 [.ptr 2 0]] (.bool false):=by
 have hn8:=h0.1
 have hn9:=h0.2.1
 refine Mo (Jf func174 rfl ?_)
 refine Ab 9 (aI func200 (Ab 14 (mI [0,1,7,8] (λm s=>∃q,m=f.hn-q/\(q<=f.hn)/\s=⟨[(0,dQ f),(1,.fn 175 [.ptr 2 0]),(7,.int (f.hn:Int)),(8,.int (q:Int))],[(0,.box 189 [.int 0]),(1,.box 194 [.bool (decide (u<0)),.lit (.string (Bq (u).natAbs)),.bool (decide (v<0)),.lit (.string (Bq (v).natAbs)),.bool (decide (w<0)),.lit (.string (Bq (w).natAbs))]),(2,.box 198 [.fn 145 [.ptr 0 0,.ptr 1 0]])],3,19⟩) (f.hn-0) ⟨0,rfl,Nat.zero_le _,κ⟩ ?_)))
 rintro _ _ ⟨q,rfl,hF,rfl⟩ hJ1
 have hnq:=h0.2.2 q
 refine Ab 6 (De 9 ((q:Int)<(f.hn:Int)) (λhx2 hx2d=>?_) (λhx2 hx2d=>?_))
 exact Ab 16 (gs (Dm q f.hn ·) (Ab 1 (gs (uD 0 [1,2] (Ah4 (f.h q) (h0.2.2 q) (hl.2 q) u v w hu hv hw (hi.2 q ω)) ·) (Ab 7 (gs (Ao ((q:Int)+1) ((q+1:Nat):Int) ·) (Ab 2 (trd [0,1,7,8] (hJ1 _ _ (by omega:f.hn-(q+1)<f.hn-q) ⟨q+1,rfl,ω,rfl⟩))))))))
 exact Ab 12 (Ha (Ab 5 (Re (.bool false) [.int .i64 0] ⟨rfl,rfl⟩)))
theorem Abc (f:cQ) (h0:yX f) (hl:Pr f) (u v w:Int) (hu:Bd 1000 u) (hv:Bd 1000 v) (hw:Bd 1000 w) (hi:vJ f u v w):aY Tryz.prog 144 189 [.int .i64 0] [.int .i64 0] [(194,[.lit (.bool (decide (u<0))),.lit (.string (Bq (u).natAbs)),.lit (.bool (decide (v<0))),.lit (.string (Bq (v).natAbs)),.lit (.bool (decide (w<0))),.lit (.string (Bq (w).natAbs))])] [Hw f,.fn 145 [.ptr 0 0,.ptr 1 0]] (.bool true):=by
 have hn8:=h0.1
 have hn9:=h0.2.1
 have hi1:=hi.1
 refine Mo (Jf func144 rfl ?_)
 refine Ab 12 (gs (uD 0 [1] (jY f.o h0.1 hl.1 u v w hu hv hw) ·) (Ab 2 (De 10 ((0:Int)<=(Uf f.o u v w)) (λhx1 hx1d=>?_) (λhx1 hx1d=>?_))))
 exact Ab 3 (gs (uD 0 [1,3] (Ah2 f h0 hl u v w hu hv hw hi) ·) (Ab 6 (Re (.bool true) [.int .i64 0] ⟨rfl,rfl⟩)))
 refine Ab 10 ?_
 exact absurd hi1 ω
theorem cE (n:Int):AF Tryz.prog 129 [.int n] (.int (iF n)):=by
 refine Ai func129 rfl λB D0 hA0=>?_
 refine Aa 14 (Cu 3 (n<0) (λhx1 hx1d=>?_) (λhx1 hx1d=>?_))
 ·
  exact Aa 9 (Ch (.int (-1)) (congrArg AV.int (by unfold iF;rw[if_pos hx1d])))
 ·
  refine Aa 8 (Cu 6 ((0:Int)<n) (λhx2 hx2d=>?_) (λhx2 hx2d=>?_))
  ·
   exact Aa 9 (Ch (.int 1) (congrArg AV.int (by unfold iF;rw[if_neg hx1d,if_pos hx2d])))
  ·
   exact Aa 10 (Ch (.int 0) (congrArg AV.int (by unfold iF;rw[if_neg hx1d,if_neg hx2d])))
theorem aA (n:Int):iF n=n.sign:=by
 unfold iF
 rcases Int.lt_trichotomy n 0 with h|h|h
 rw[if_pos h,Int.sign_eq_neg_one_of_neg h]
 subst h;rfl
 rw[if_neg ω,if_pos h,Int.sign_eq_one_of_pos h]
theorem Ag4 (a b p:V3):Eu a b p=Ms a b p.x p.y 1:=by
 unfold Eu Ms
 rw[aA,Int.mul_one,Int.mul_one]
theorem AjR (c:V3) (u:Int):iF (c.x-u)=bC c u 1:=by
 unfold bC
 rw[aA,Int.mul_one,<-Int.sign_neg]
 congr 1
 omega
theorem AjS (c:V3) (u:Int):iF (c.y-u)=Ey c u 1:=by
 unfold Ey
 rw[aA,Int.mul_one,<-Int.sign_neg]
 congr 1
 omega
theorem Aax (a b p:V3) (ha:Ca a) (hb:Ca b) (hp:Ca p):AF Tryz.prog 127 [Bj a,Bj b,Bj p] (.int (Ms a b p.x p.y 1)):=by
 rw[<-Ag4]
 exact Kb a b p ha hb hp
theorem zJ (a b:V3) (ha:Ca a) (hb:Ca b) (p:V3) (hp:Ca p):∃r,r=(.int (Ms a b p.x p.y 1):AV)/\AF Tryz.prog 126 [Bj a,Bj b,.elt 3 (λxi=>[.lit (.int .i64 p.x),.lit (.int .i64 p.y),.lit (.int .i64 p.z)].getD (0+xi) .top)] r:=by
 refine Bz func126 rfl ?_
 exact Ab 12 (gs (Aj (Aax a b p ha hb hp) ·) (Ab 4 (Jl (r:= .int (Ms a b p.x p.y 1)) rfl)))
theorem Aew (a b:V3) (ha:Ca a) (hb:Ca b) (p:V3) (hp:Ca p):AF Tryz.prog 126 [Bj a,Bj b,.elt 3 (λxi=>[.lit (.int .i64 p.x),.lit (.int .i64 p.y),.lit (.int .i64 p.z)].getD (0+xi) .top)] (.int (Ms a b p.x p.y 1)):=by
 obtain⟨_,rfl,hA⟩:=zJ a b ha hb p hp
 exact hA
theorem zK (a:V3) (ha:Ca a) (p:V3) (hp:Ca p):∃r,r=(.int (bC a p.x 1):AV)/\AF Tryz.prog 128 [Bj a,.lit (.int .i64 0),.elt 3 (λxi=>[.lit (.int .i64 p.x),.lit (.int .i64 p.y),.lit (.int .i64 p.z)].getD (0+xi) .top)] r:=by
 obtain⟨a1,a2,a3⟩:=id ha
 obtain⟨p1,p2,p3⟩:=id hp
 refine Bz func128 rfl ?_
 exact Ab 20 (gs (Ao (a.x-p.x) (a.x-p.x) ·) (gs (Aj (cE (a.x-p.x)) ·) (Ab 5 (Jl (r:= .int (iF (a.x-p.x))) (congrArg AV.int (AjR a p.x))))))
theorem qV (a:V3) (ha:Ca a) (p:V3) (hp:Ca p):AF Tryz.prog 128 [Bj a,.lit (.int .i64 0),.elt 3 (λxi=>[.lit (.int .i64 p.x),.lit (.int .i64 p.y),.lit (.int .i64 p.z)].getD (0+xi) .top)] (.int (bC a p.x 1)):=by
 obtain⟨_,rfl,hA⟩:=zK a ha p hp
 exact hA
theorem zL (a:V3) (ha:Ca a) (p:V3) (hp:Ca p):∃r,r=(.int (Ey a p.y 1):AV)/\AF Tryz.prog 128 [Bj a,.lit (.int .i64 1),.elt 3 (λxi=>[.lit (.int .i64 p.x),.lit (.int .i64 p.y),.lit (.int .i64 p.z)].getD (0+xi) .top)] r:=by
 obtain⟨a1,a2,a3⟩:=id ha
 obtain⟨p1,p2,p3⟩:=id hp
 refine Bz func128 rfl ?_
 exact Ab 22 (gs (Ao (a.y-p.y) (a.y-p.y) ·) (gs (Aj (cE (a.y-p.y)) ·) (Ab 4 (Jl (r:= .int (iF (a.y-p.y))) (congrArg AV.int (AjS a p.y))))))
theorem qW (a:V3) (ha:Ca a) (p:V3) (hp:Ca p):AF Tryz.prog 128 [Bj a,.lit (.int .i64 1),.elt 3 (λxi=>[.lit (.int .i64 p.x),.lit (.int .i64 p.y),.lit (.int .i64 p.z)].getD (0+xi) .top)] (.int (Ey a p.y 1)):=by
 obtain⟨_,rfl,hA⟩:=zL a ha p hp
 exact hA
theorem Aex (l:Vs) (hn:l.n<=64) (hl:∀i,Ca (l.f i)) (p:V3) (hp:Ca p):∃r,r=(.int (Uf l p.x p.y 1):AV)/\AF Tryz.prog 82 [Bs l,Bj p] r:=by
 refine Bz func82 rfl ?_
 refine Ab 6 (gs (aS 0 ·) (Ab 5 (aI func125 (Ab 17 (aI func81 (Ab 13 (Ha (Ab 3 (gs (vnm [4,5,6,7,16] ·) (bV func124 λsp3 sp3p sp3a sp3b=>(Ab 8 (mI [0,1,6,7,8] (λm s=>∃(i:Nat) (iw:Int),m=l.n-i/\(i<=l.n/\Qf l p.x p.y 1 i=false/\iw=uE l p.x p.y 1 i)/\s=⟨[(0,.yld 6),(1,.ptr 5 0),(6,Bs l),(7,.int (l.n:Int)),(8,.int (i:Int))],[(1,.box 176 [.fn 126 [.elt 3 (λxi=>[.int p.x,.int p.y,.int p.z].getD (0+xi) .top)]]),(2,.box 178 [.fn 128 [.elt 3 (λxi=>[.int p.x,.int p.y,.int p.z].getD (0+xi) .top)]]),(3,.box 3 [.int 0]),(4,.box 3 [.int iw]),(5,.box 61 [Bs l]),(6,.loop .ready none sp3 [(4,.ptr 1 0),(5,.ptr 2 0),(6,.ptr 3 0),(7,.ptr 4 0),(16,.fn 124 [.ptr 5 0])] 77)],7,35⟩) (l.n-0) ⟨0,0,rfl,⟨Nat.zero_le _,rfl,rfl⟩,κ⟩ ?_))))))))))))
 rintro _ _ ⟨i,iw,rfl,hF,rfl⟩ hJ1
 have hF1:=hF.1
 have hF2:=hF.2.1
 have hF3:=hF.2.2
 have hb0:=Aeh l p.x p.y 1 i
 have hb1:=tI (l.f i) p.x 1
 have hb2:=tI (l.f ((i+1)%l.n)) p.x 1
 have hb3:=tJ (l.f i) p.y 1
 have hb4:=tJ (l.f ((i+1)%l.n)) p.y 1
 have hb5:=Qg hb1 hb2
 have hb6:=Qg hb3 hb4
 refine Ab 6 (De 9 ((i:Int)<(l.n:Int)) (λhx5 hx5d=>?_) (λhx5 hx5d=>?_))
 refine Ab 8 (gs (Dm i l.n ·) (Ab 7 ?_))
 have hm5:=Nat.mod_lt (i+1) (by omega:0<l.n)
 refine gs (Be [(2,.int ((i+1:Nat):Int),.none),(5,.int (((i+1)%l.n:Nat):Int),.none),(6,Ax (Bs l) ((i+1)%l.n),.none)] [0,1,4,5,6,7,8] ⟨As (.int .i64 (IntKind.wrap .i64 ((i:Int)+1))) η,Agd ((i+1:Nat):Int) (l.n:Int) (((i+1)%l.n:Nat):Int) ω rfl,Eg ((i+1)%l.n) l.n,trivial⟩ ·) (Ab 14 (Kn sp3p sp3a (Ab 10 (Km sp3b ?_))))
 refine Ab 6 (gs (Aec (Aew ⟨(l.f i).x,(l.f i).y,0⟩ ⟨(l.f ((i+1)%l.n)).x,(l.f ((i+1)%l.n)).y,0⟩ (Pj (hl _)) (Pj (hl _)) p hp) ·) (Ab 4 (gs (Be [(2,_,.none),(5,_,.none),(8,_,.none),(11,_,.none)] [6,7,10,11,12,13,14] ⟨fE (qV ⟨(l.f i).x,(l.f i).y,0⟩ (Pj (hl _)) p hp),fE (qW ⟨(l.f i).x,(l.f i).y,0⟩ (Pj (hl _)) p hp),fE (qV ⟨(l.f ((i+1)%l.n)).x,(l.f ((i+1)%l.n)).y,0⟩ (Pj (hl _)) p hp),fE (qW ⟨(l.f ((i+1)%l.n)).x,(l.f ((i+1)%l.n)).y,0⟩ (Pj (hl _)) p hp),trivial⟩ ·) (Ab 7 (De 37 ((Ms (l.f i) (l.f ((i+1)%l.n)) p.x p.y 1)=0) (λhx8 hx8d=>?_) (λhx8 hx8d=>?_))))))
 refine Ab 2 (gs (Ao ((bC (l.f i) p.x 1)*(bC (l.f ((i+1)%l.n)) p.x 1)) ((bC (l.f i) p.x 1)*(bC (l.f ((i+1)%l.n)) p.x 1)) ·) (Ab 3 (De 43 ((bC (l.f i) p.x 1)*(bC (l.f ((i+1)%l.n)) p.x 1)<=0) (λhx9 hx9d=>?_) (λhx9 hx9d=>?_))))
 refine Ab 2 (gs (Ao ((Ey (l.f i) p.y 1)*(Ey (l.f ((i+1)%l.n)) p.y 1)) ((Ey (l.f i) p.y 1)*(Ey (l.f ((i+1)%l.n)) p.y 1)) ·) (Ab 4 (De 48 ((Ey (l.f i) p.y 1)*(Ey (l.f ((i+1)%l.n)) p.y 1)<=0) (λhx10 hx10d=>?_) (λhx10 hx10d=>?_))))
 exact Ab 9 (Cj (Ab 9 (We (Ab 3 (Ha (Ab 4 (Jl (r:= .int 0) (congrArg AV.int (Ahh (i:=i) ω ⟨ω,ω,ω⟩)))))))))
 refine Ab 9 (De 52 ((Ey (l.f i) p.y 1)<=0) (λhx11 hx11d=>?_) (λhx11 hx11d=>?_))
 refine Ab 4 (De 56 ((0:Int)<(Ey (l.f ((i+1)%l.n)) p.y 1)) (λhx12 hx12d=>?_) (λhx12 hx12d=>?_))
 refine Ab 6 (De 49 ((0:Int)<(Ms (l.f i) (l.f ((i+1)%l.n)) p.x p.y 1)) (λhx13 hx13d=>?_) (λhx13 hx13d=>?_))
 exact Ab 3 (gs (Ao (iw+1) (iw+1) ·) (Ab 4 (Cj (Ab 8 (gs (Ao ((i:Int)+1) ((i+1:Nat):Int) ·) (Ab 2 (Bb [0,1,6,7,8] [(1,1),(2,2),(3,3),(4,4),(5,5),(6,6)] 7 [] trivial (hJ1 _ _ (by omega:l.n-(i+1)<l.n-i) ⟨i+1,(iw+1),rfl,⟨ω,Aw hF2 (λg9=>by obtain⟨g1,g2,g3⟩:=g9;omega),by have h7:=Ag (l.f i) (l.f ((i+1)%l.n)) p.x p.y 1;have h8:=Av l p.x p.y 1 i;omega⟩,rfl⟩))))))))
 refine Ab 6 (De 65 ((0:Int)<(Ey (l.f i) p.y 1)) (λhx14 hx14d=>?_) (λhx14 hx14d=>?_))
 refine Ab 4 (De 69 ((Ey (l.f ((i+1)%l.n)) p.y 1)<=0) (λhx15 hx15d=>?_) (λhx15 hx15d=>?_))
 refine Ab 6 (De 62 ((Ms (l.f i) (l.f ((i+1)%l.n)) p.x p.y 1)<0) (λhx16 hx16d=>?_) (λhx16 hx16d=>?_))
 exact Ab 3 (gs (Ao (iw-1) (iw-1) ·) (Ab 4 (Cj (Ab 8 (gs (Ao ((i:Int)+1) ((i+1:Nat):Int) ·) (Ab 2 (Bb [0,1,6,7,8] [(1,1),(2,2),(3,3),(4,4),(5,5),(6,6)] 7 [] trivial (hJ1 _ _ (by omega:l.n-(i+1)<l.n-i) ⟨i+1,(iw-1),rfl,⟨ω,Aw hF2 (λg9=>by obtain⟨g1,g2,g3⟩:=g9;omega),by have h7:=Ag (l.f i) (l.f ((i+1)%l.n)) p.x p.y 1;have h8:=Av l p.x p.y 1 i;omega⟩,rfl⟩))))))))
 exact Ab 4 (Cj (Ab 8 (gs (Ao ((i:Int)+1) ((i+1:Nat):Int) ·) (Ab 2 (Bb [0,1,6,7,8] [(1,1),(2,2),(3,3),(4,4),(5,5),(6,6)] 7 [] trivial (hJ1 _ _ (by omega:l.n-(i+1)<l.n-i) ⟨i+1,iw,rfl,⟨ω,Aw hF2 (λg9=>by obtain⟨g1,g2,g3⟩:=g9;omega),by have h7:=Ag (l.f i) (l.f ((i+1)%l.n)) p.x p.y 1;have h8:=Av l p.x p.y 1 i;omega⟩,rfl⟩))))))
 exact Ab 10 (Cj (Ab 8 (gs (Ao ((i:Int)+1) ((i+1:Nat):Int) ·) (Ab 2 (Bb [0,1,6,7,8] [(1,1),(2,2),(3,3),(4,4),(5,5),(6,6)] 7 [] trivial (hJ1 _ _ (by omega:l.n-(i+1)<l.n-i) ⟨i+1,iw,rfl,⟨ω,Aw hF2 (λg9=>by obtain⟨g1,g2,g3⟩:=g9;omega),by have h7:=Ag (l.f i) (l.f ((i+1)%l.n)) p.x p.y 1;have h8:=Av l p.x p.y 1 i;omega⟩,rfl⟩))))))
 exact Ab 14 (Cj (Ab 8 (gs (Ao ((i:Int)+1) ((i+1:Nat):Int) ·) (Ab 2 (Bb [0,1,6,7,8] [(1,1),(2,2),(3,3),(4,4),(5,5),(6,6)] 7 [] trivial (hJ1 _ _ (by omega:l.n-(i+1)<l.n-i) ⟨i+1,iw,rfl,⟨ω,Aw hF2 (λg9=>by obtain⟨g1,g2,g3⟩:=g9;omega),by have h7:=Ag (l.f i) (l.f ((i+1)%l.n)) p.x p.y 1;have h8:=Av l p.x p.y 1 i;omega⟩,rfl⟩))))))
 refine Ab 12 (De 65 ((0:Int)<(Ey (l.f i) p.y 1)) (λhx17 hx17d=>?_) (λhx17 hx17d=>?_))
 refine Ab 4 (De 69 ((Ey (l.f ((i+1)%l.n)) p.y 1)<=0) (λhx18 hx18d=>?_) (λhx18 hx18d=>?_))
 refine Ab 6 (De 62 ((Ms (l.f i) (l.f ((i+1)%l.n)) p.x p.y 1)<0) (λhx19 hx19d=>?_) (λhx19 hx19d=>?_))
 exact Ab 3 (gs (Ao (iw-1) (iw-1) ·) (Ab 4 (Cj (Ab 8 (gs (Ao ((i:Int)+1) ((i+1:Nat):Int) ·) (Ab 2 (Bb [0,1,6,7,8] [(1,1),(2,2),(3,3),(4,4),(5,5),(6,6)] 7 [] trivial (hJ1 _ _ (by omega:l.n-(i+1)<l.n-i) ⟨i+1,(iw-1),rfl,⟨ω,Aw hF2 (λg9=>by obtain⟨g1,g2,g3⟩:=g9;omega),by have h7:=Ag (l.f i) (l.f ((i+1)%l.n)) p.x p.y 1;have h8:=Av l p.x p.y 1 i;omega⟩,rfl⟩))))))))
 exact Ab 4 (Cj (Ab 8 (gs (Ao ((i:Int)+1) ((i+1:Nat):Int) ·) (Ab 2 (Bb [0,1,6,7,8] [(1,1),(2,2),(3,3),(4,4),(5,5),(6,6)] 7 [] trivial (hJ1 _ _ (by omega:l.n-(i+1)<l.n-i) ⟨i+1,iw,rfl,⟨ω,Aw hF2 (λg9=>by obtain⟨g1,g2,g3⟩:=g9;omega),by have h7:=Ag (l.f i) (l.f ((i+1)%l.n)) p.x p.y 1;have h8:=Av l p.x p.y 1 i;omega⟩,rfl⟩))))))
 exact Ab 10 (Cj (Ab 8 (gs (Ao ((i:Int)+1) ((i+1:Nat):Int) ·) (Ab 2 (Bb [0,1,6,7,8] [(1,1),(2,2),(3,3),(4,4),(5,5),(6,6)] 7 [] trivial (hJ1 _ _ (by omega:l.n-(i+1)<l.n-i) ⟨i+1,iw,rfl,⟨ω,Aw hF2 (λg9=>by obtain⟨g1,g2,g3⟩:=g9;omega),by have h7:=Ag (l.f i) (l.f ((i+1)%l.n)) p.x p.y 1;have h8:=Av l p.x p.y 1 i;omega⟩,rfl⟩))))))
 exact Ab 14 (Cj (Ab 8 (gs (Ao ((i:Int)+1) ((i+1:Nat):Int) ·) (Ab 2 (Bb [0,1,6,7,8] [(1,1),(2,2),(3,3),(4,4),(5,5),(6,6)] 7 [] trivial (hJ1 _ _ (by omega:l.n-(i+1)<l.n-i) ⟨i+1,iw,rfl,⟨ω,Aw hF2 (λg9=>by obtain⟨g1,g2,g3⟩:=g9;omega),by have h7:=Ag (l.f i) (l.f ((i+1)%l.n)) p.x p.y 1;have h8:=Av l p.x p.y 1 i;omega⟩,rfl⟩))))))
 refine Ab 16 (De 65 ((0:Int)<(Ey (l.f i) p.y 1)) (λhx20 hx20d=>?_) (λhx20 hx20d=>?_))
 refine Ab 4 (De 69 ((Ey (l.f ((i+1)%l.n)) p.y 1)<=0) (λhx21 hx21d=>?_) (λhx21 hx21d=>?_))
 refine Ab 6 (De 62 ((Ms (l.f i) (l.f ((i+1)%l.n)) p.x p.y 1)<0) (λhx22 hx22d=>?_) (λhx22 hx22d=>?_))
 exact Ab 3 (gs (Ao (iw-1) (iw-1) ·) (Ab 4 (Cj (Ab 8 (gs (Ao ((i:Int)+1) ((i+1:Nat):Int) ·) (Ab 2 (Bb [0,1,6,7,8] [(1,1),(2,2),(3,3),(4,4),(5,5),(6,6)] 7 [] trivial (hJ1 _ _ (by omega:l.n-(i+1)<l.n-i) ⟨i+1,(iw-1),rfl,⟨ω,Aw hF2 (λg9=>by obtain⟨g1,g2,g3⟩:=g9;omega),by have h7:=Ag (l.f i) (l.f ((i+1)%l.n)) p.x p.y 1;have h8:=Av l p.x p.y 1 i;omega⟩,rfl⟩))))))))
 exact Ab 4 (Cj (Ab 8 (gs (Ao ((i:Int)+1) ((i+1:Nat):Int) ·) (Ab 2 (Bb [0,1,6,7,8] [(1,1),(2,2),(3,3),(4,4),(5,5),(6,6)] 7 [] trivial (hJ1 _ _ (by omega:l.n-(i+1)<l.n-i) ⟨i+1,iw,rfl,⟨ω,Aw hF2 (λg9=>by obtain⟨g1,g2,g3⟩:=g9;omega),by have h7:=Ag (l.f i) (l.f ((i+1)%l.n)) p.x p.y 1;have h8:=Av l p.x p.y 1 i;omega⟩,rfl⟩))))))
 exact Ab 10 (Cj (Ab 8 (gs (Ao ((i:Int)+1) ((i+1:Nat):Int) ·) (Ab 2 (Bb [0,1,6,7,8] [(1,1),(2,2),(3,3),(4,4),(5,5),(6,6)] 7 [] trivial (hJ1 _ _ (by omega:l.n-(i+1)<l.n-i) ⟨i+1,iw,rfl,⟨ω,Aw hF2 (λg9=>by obtain⟨g1,g2,g3⟩:=g9;omega),by have h7:=Ag (l.f i) (l.f ((i+1)%l.n)) p.x p.y 1;have h8:=Av l p.x p.y 1 i;omega⟩,rfl⟩))))))
 exact Ab 14 (Cj (Ab 8 (gs (Ao ((i:Int)+1) ((i+1:Nat):Int) ·) (Ab 2 (Bb [0,1,6,7,8] [(1,1),(2,2),(3,3),(4,4),(5,5),(6,6)] 7 [] trivial (hJ1 _ _ (by omega:l.n-(i+1)<l.n-i) ⟨i+1,iw,rfl,⟨ω,Aw hF2 (λg9=>by obtain⟨g1,g2,g3⟩:=g9;omega),by have h7:=Ag (l.f i) (l.f ((i+1)%l.n)) p.x p.y 1;have h8:=Av l p.x p.y 1 i;omega⟩,rfl⟩))))))
 refine Ab 16 (De 52 ((Ey (l.f i) p.y 1)<=0) (λhx23 hx23d=>?_) (λhx23 hx23d=>?_))
 refine Ab 4 (De 56 ((0:Int)<(Ey (l.f ((i+1)%l.n)) p.y 1)) (λhx24 hx24d=>?_) (λhx24 hx24d=>?_))
 refine Ab 6 (De 49 ((0:Int)<(Ms (l.f i) (l.f ((i+1)%l.n)) p.x p.y 1)) (λhx25 hx25d=>?_) (λhx25 hx25d=>?_))
 exact Ab 3 (gs (Ao (iw+1) (iw+1) ·) (Ab 4 (Cj (Ab 8 (gs (Ao ((i:Int)+1) ((i+1:Nat):Int) ·) (Ab 2 (Bb [0,1,6,7,8] [(1,1),(2,2),(3,3),(4,4),(5,5),(6,6)] 7 [] trivial (hJ1 _ _ (by omega:l.n-(i+1)<l.n-i) ⟨i+1,(iw+1),rfl,⟨ω,Aw hF2 (λg9=>by obtain⟨g1,g2,g3⟩:=g9;omega),by have h7:=Ag (l.f i) (l.f ((i+1)%l.n)) p.x p.y 1;have h8:=Av l p.x p.y 1 i;omega⟩,rfl⟩))))))))
 refine Ab 6 (De 65 ((0:Int)<(Ey (l.f i) p.y 1)) (λhx26 hx26d=>?_) (λhx26 hx26d=>?_))
 refine Ab 4 (De 69 ((Ey (l.f ((i+1)%l.n)) p.y 1)<=0) (λhx27 hx27d=>?_) (λhx27 hx27d=>?_))
 refine Ab 6 (De 62 ((Ms (l.f i) (l.f ((i+1)%l.n)) p.x p.y 1)<0) (λhx28 hx28d=>?_) (λhx28 hx28d=>?_))
 exact Ab 3 (gs (Ao (iw-1) (iw-1) ·) (Ab 4 (Cj (Ab 8 (gs (Ao ((i:Int)+1) ((i+1:Nat):Int) ·) (Ab 2 (Bb [0,1,6,7,8] [(1,1),(2,2),(3,3),(4,4),(5,5),(6,6)] 7 [] trivial (hJ1 _ _ (by omega:l.n-(i+1)<l.n-i) ⟨i+1,(iw-1),rfl,⟨ω,Aw hF2 (λg9=>by obtain⟨g1,g2,g3⟩:=g9;omega),by have h7:=Ag (l.f i) (l.f ((i+1)%l.n)) p.x p.y 1;have h8:=Av l p.x p.y 1 i;omega⟩,rfl⟩))))))))
 exact Ab 4 (Cj (Ab 8 (gs (Ao ((i:Int)+1) ((i+1:Nat):Int) ·) (Ab 2 (Bb [0,1,6,7,8] [(1,1),(2,2),(3,3),(4,4),(5,5),(6,6)] 7 [] trivial (hJ1 _ _ (by omega:l.n-(i+1)<l.n-i) ⟨i+1,iw,rfl,⟨ω,Aw hF2 (λg9=>by obtain⟨g1,g2,g3⟩:=g9;omega),by have h7:=Ag (l.f i) (l.f ((i+1)%l.n)) p.x p.y 1;have h8:=Av l p.x p.y 1 i;omega⟩,rfl⟩))))))
 exact Ab 10 (Cj (Ab 8 (gs (Ao ((i:Int)+1) ((i+1:Nat):Int) ·) (Ab 2 (Bb [0,1,6,7,8] [(1,1),(2,2),(3,3),(4,4),(5,5),(6,6)] 7 [] trivial (hJ1 _ _ (by omega:l.n-(i+1)<l.n-i) ⟨i+1,iw,rfl,⟨ω,Aw hF2 (λg9=>by obtain⟨g1,g2,g3⟩:=g9;omega),by have h7:=Ag (l.f i) (l.f ((i+1)%l.n)) p.x p.y 1;have h8:=Av l p.x p.y 1 i;omega⟩,rfl⟩))))))
 exact Ab 14 (Cj (Ab 8 (gs (Ao ((i:Int)+1) ((i+1:Nat):Int) ·) (Ab 2 (Bb [0,1,6,7,8] [(1,1),(2,2),(3,3),(4,4),(5,5),(6,6)] 7 [] trivial (hJ1 _ _ (by omega:l.n-(i+1)<l.n-i) ⟨i+1,iw,rfl,⟨ω,Aw hF2 (λg9=>by obtain⟨g1,g2,g3⟩:=g9;omega),by have h7:=Ag (l.f i) (l.f ((i+1)%l.n)) p.x p.y 1;have h8:=Av l p.x p.y 1 i;omega⟩,rfl⟩))))))
 refine Ab 12 (De 65 ((0:Int)<(Ey (l.f i) p.y 1)) (λhx29 hx29d=>?_) (λhx29 hx29d=>?_))
 refine Ab 4 (De 69 ((Ey (l.f ((i+1)%l.n)) p.y 1)<=0) (λhx30 hx30d=>?_) (λhx30 hx30d=>?_))
 refine Ab 6 (De 62 ((Ms (l.f i) (l.f ((i+1)%l.n)) p.x p.y 1)<0) (λhx31 hx31d=>?_) (λhx31 hx31d=>?_))
 exact Ab 3 (gs (Ao (iw-1) (iw-1) ·) (Ab 4 (Cj (Ab 8 (gs (Ao ((i:Int)+1) ((i+1:Nat):Int) ·) (Ab 2 (Bb [0,1,6,7,8] [(1,1),(2,2),(3,3),(4,4),(5,5),(6,6)] 7 [] trivial (hJ1 _ _ (by omega:l.n-(i+1)<l.n-i) ⟨i+1,(iw-1),rfl,⟨ω,Aw hF2 (λg9=>by obtain⟨g1,g2,g3⟩:=g9;omega),by have h7:=Ag (l.f i) (l.f ((i+1)%l.n)) p.x p.y 1;have h8:=Av l p.x p.y 1 i;omega⟩,rfl⟩))))))))
 exact Ab 4 (Cj (Ab 8 (gs (Ao ((i:Int)+1) ((i+1:Nat):Int) ·) (Ab 2 (Bb [0,1,6,7,8] [(1,1),(2,2),(3,3),(4,4),(5,5),(6,6)] 7 [] trivial (hJ1 _ _ (by omega:l.n-(i+1)<l.n-i) ⟨i+1,iw,rfl,⟨ω,Aw hF2 (λg9=>by obtain⟨g1,g2,g3⟩:=g9;omega),by have h7:=Ag (l.f i) (l.f ((i+1)%l.n)) p.x p.y 1;have h8:=Av l p.x p.y 1 i;omega⟩,rfl⟩))))))
 exact Ab 10 (Cj (Ab 8 (gs (Ao ((i:Int)+1) ((i+1:Nat):Int) ·) (Ab 2 (Bb [0,1,6,7,8] [(1,1),(2,2),(3,3),(4,4),(5,5),(6,6)] 7 [] trivial (hJ1 _ _ (by omega:l.n-(i+1)<l.n-i) ⟨i+1,iw,rfl,⟨ω,Aw hF2 (λg9=>by obtain⟨g1,g2,g3⟩:=g9;omega),by have h7:=Ag (l.f i) (l.f ((i+1)%l.n)) p.x p.y 1;have h8:=Av l p.x p.y 1 i;omega⟩,rfl⟩))))))
 exact Ab 14 (Cj (Ab 8 (gs (Ao ((i:Int)+1) ((i+1:Nat):Int) ·) (Ab 2 (Bb [0,1,6,7,8] [(1,1),(2,2),(3,3),(4,4),(5,5),(6,6)] 7 [] trivial (hJ1 _ _ (by omega:l.n-(i+1)<l.n-i) ⟨i+1,iw,rfl,⟨ω,Aw hF2 (λg9=>by obtain⟨g1,g2,g3⟩:=g9;omega),by have h7:=Ag (l.f i) (l.f ((i+1)%l.n)) p.x p.y 1;have h8:=Av l p.x p.y 1 i;omega⟩,rfl⟩))))))
 refine Ab 16 (De 65 ((0:Int)<(Ey (l.f i) p.y 1)) (λhx32 hx32d=>?_) (λhx32 hx32d=>?_))
 refine Ab 4 (De 69 ((Ey (l.f ((i+1)%l.n)) p.y 1)<=0) (λhx33 hx33d=>?_) (λhx33 hx33d=>?_))
 refine Ab 6 (De 62 ((Ms (l.f i) (l.f ((i+1)%l.n)) p.x p.y 1)<0) (λhx34 hx34d=>?_) (λhx34 hx34d=>?_))
 exact Ab 3 (gs (Ao (iw-1) (iw-1) ·) (Ab 4 (Cj (Ab 8 (gs (Ao ((i:Int)+1) ((i+1:Nat):Int) ·) (Ab 2 (Bb [0,1,6,7,8] [(1,1),(2,2),(3,3),(4,4),(5,5),(6,6)] 7 [] trivial (hJ1 _ _ (by omega:l.n-(i+1)<l.n-i) ⟨i+1,(iw-1),rfl,⟨ω,Aw hF2 (λg9=>by obtain⟨g1,g2,g3⟩:=g9;omega),by have h7:=Ag (l.f i) (l.f ((i+1)%l.n)) p.x p.y 1;have h8:=Av l p.x p.y 1 i;omega⟩,rfl⟩))))))))
 exact Ab 4 (Cj (Ab 8 (gs (Ao ((i:Int)+1) ((i+1:Nat):Int) ·) (Ab 2 (Bb [0,1,6,7,8] [(1,1),(2,2),(3,3),(4,4),(5,5),(6,6)] 7 [] trivial (hJ1 _ _ (by omega:l.n-(i+1)<l.n-i) ⟨i+1,iw,rfl,⟨ω,Aw hF2 (λg9=>by obtain⟨g1,g2,g3⟩:=g9;omega),by have h7:=Ag (l.f i) (l.f ((i+1)%l.n)) p.x p.y 1;have h8:=Av l p.x p.y 1 i;omega⟩,rfl⟩))))))
 exact Ab 10 (Cj (Ab 8 (gs (Ao ((i:Int)+1) ((i+1:Nat):Int) ·) (Ab 2 (Bb [0,1,6,7,8] [(1,1),(2,2),(3,3),(4,4),(5,5),(6,6)] 7 [] trivial (hJ1 _ _ (by omega:l.n-(i+1)<l.n-i) ⟨i+1,iw,rfl,⟨ω,Aw hF2 (λg9=>by obtain⟨g1,g2,g3⟩:=g9;omega),by have h7:=Ag (l.f i) (l.f ((i+1)%l.n)) p.x p.y 1;have h8:=Av l p.x p.y 1 i;omega⟩,rfl⟩))))))
 exact Ab 14 (Cj (Ab 8 (gs (Ao ((i:Int)+1) ((i+1:Nat):Int) ·) (Ab 2 (Bb [0,1,6,7,8] [(1,1),(2,2),(3,3),(4,4),(5,5),(6,6)] 7 [] trivial (hJ1 _ _ (by omega:l.n-(i+1)<l.n-i) ⟨i+1,iw,rfl,⟨ω,Aw hF2 (λg9=>by obtain⟨g1,g2,g3⟩:=g9;omega),by have h7:=Ag (l.f i) (l.f ((i+1)%l.n)) p.x p.y 1;have h8:=Av l p.x p.y 1 i;omega⟩,rfl⟩))))))
 refine Ab 22 (De 52 ((Ey (l.f i) p.y 1)<=0) (λhx35 hx35d=>?_) (λhx35 hx35d=>?_))
 refine Ab 4 (De 56 ((0:Int)<(Ey (l.f ((i+1)%l.n)) p.y 1)) (λhx36 hx36d=>?_) (λhx36 hx36d=>?_))
 refine Ab 6 (De 49 ((0:Int)<(Ms (l.f i) (l.f ((i+1)%l.n)) p.x p.y 1)) (λhx37 hx37d=>?_) (λhx37 hx37d=>?_))
 exact Ab 3 (gs (Ao (iw+1) (iw+1) ·) (Ab 4 (Cj (Ab 8 (gs (Ao ((i:Int)+1) ((i+1:Nat):Int) ·) (Ab 2 (Bb [0,1,6,7,8] [(1,1),(2,2),(3,3),(4,4),(5,5),(6,6)] 7 [] trivial (hJ1 _ _ (by omega:l.n-(i+1)<l.n-i) ⟨i+1,(iw+1),rfl,⟨ω,Aw hF2 (λg9=>by obtain⟨g1,g2,g3⟩:=g9;omega),by have h7:=Ag (l.f i) (l.f ((i+1)%l.n)) p.x p.y 1;have h8:=Av l p.x p.y 1 i;omega⟩,rfl⟩))))))))
 refine Ab 6 (De 65 ((0:Int)<(Ey (l.f i) p.y 1)) (λhx38 hx38d=>?_) (λhx38 hx38d=>?_))
 refine Ab 4 (De 69 ((Ey (l.f ((i+1)%l.n)) p.y 1)<=0) (λhx39 hx39d=>?_) (λhx39 hx39d=>?_))
 refine Ab 6 (De 62 ((Ms (l.f i) (l.f ((i+1)%l.n)) p.x p.y 1)<0) (λhx40 hx40d=>?_) (λhx40 hx40d=>?_))
 exact Ab 3 (gs (Ao (iw-1) (iw-1) ·) (Ab 4 (Cj (Ab 8 (gs (Ao ((i:Int)+1) ((i+1:Nat):Int) ·) (Ab 2 (Bb [0,1,6,7,8] [(1,1),(2,2),(3,3),(4,4),(5,5),(6,6)] 7 [] trivial (hJ1 _ _ (by omega:l.n-(i+1)<l.n-i) ⟨i+1,(iw-1),rfl,⟨ω,Aw hF2 (λg9=>by obtain⟨g1,g2,g3⟩:=g9;omega),by have h7:=Ag (l.f i) (l.f ((i+1)%l.n)) p.x p.y 1;have h8:=Av l p.x p.y 1 i;omega⟩,rfl⟩))))))))
 exact Ab 4 (Cj (Ab 8 (gs (Ao ((i:Int)+1) ((i+1:Nat):Int) ·) (Ab 2 (Bb [0,1,6,7,8] [(1,1),(2,2),(3,3),(4,4),(5,5),(6,6)] 7 [] trivial (hJ1 _ _ (by omega:l.n-(i+1)<l.n-i) ⟨i+1,iw,rfl,⟨ω,Aw hF2 (λg9=>by obtain⟨g1,g2,g3⟩:=g9;omega),by have h7:=Ag (l.f i) (l.f ((i+1)%l.n)) p.x p.y 1;have h8:=Av l p.x p.y 1 i;omega⟩,rfl⟩))))))
 exact Ab 10 (Cj (Ab 8 (gs (Ao ((i:Int)+1) ((i+1:Nat):Int) ·) (Ab 2 (Bb [0,1,6,7,8] [(1,1),(2,2),(3,3),(4,4),(5,5),(6,6)] 7 [] trivial (hJ1 _ _ (by omega:l.n-(i+1)<l.n-i) ⟨i+1,iw,rfl,⟨ω,Aw hF2 (λg9=>by obtain⟨g1,g2,g3⟩:=g9;omega),by have h7:=Ag (l.f i) (l.f ((i+1)%l.n)) p.x p.y 1;have h8:=Av l p.x p.y 1 i;omega⟩,rfl⟩))))))
 exact Ab 14 (Cj (Ab 8 (gs (Ao ((i:Int)+1) ((i+1:Nat):Int) ·) (Ab 2 (Bb [0,1,6,7,8] [(1,1),(2,2),(3,3),(4,4),(5,5),(6,6)] 7 [] trivial (hJ1 _ _ (by omega:l.n-(i+1)<l.n-i) ⟨i+1,iw,rfl,⟨ω,Aw hF2 (λg9=>by obtain⟨g1,g2,g3⟩:=g9;omega),by have h7:=Ag (l.f i) (l.f ((i+1)%l.n)) p.x p.y 1;have h8:=Av l p.x p.y 1 i;omega⟩,rfl⟩))))))
 refine Ab 12 (De 65 ((0:Int)<(Ey (l.f i) p.y 1)) (λhx41 hx41d=>?_) (λhx41 hx41d=>?_))
 refine Ab 4 (De 69 ((Ey (l.f ((i+1)%l.n)) p.y 1)<=0) (λhx42 hx42d=>?_) (λhx42 hx42d=>?_))
 refine Ab 6 (De 62 ((Ms (l.f i) (l.f ((i+1)%l.n)) p.x p.y 1)<0) (λhx43 hx43d=>?_) (λhx43 hx43d=>?_))
 exact Ab 3 (gs (Ao (iw-1) (iw-1) ·) (Ab 4 (Cj (Ab 8 (gs (Ao ((i:Int)+1) ((i+1:Nat):Int) ·) (Ab 2 (Bb [0,1,6,7,8] [(1,1),(2,2),(3,3),(4,4),(5,5),(6,6)] 7 [] trivial (hJ1 _ _ (by omega:l.n-(i+1)<l.n-i) ⟨i+1,(iw-1),rfl,⟨ω,Aw hF2 (λg9=>by obtain⟨g1,g2,g3⟩:=g9;omega),by have h7:=Ag (l.f i) (l.f ((i+1)%l.n)) p.x p.y 1;have h8:=Av l p.x p.y 1 i;omega⟩,rfl⟩))))))))
 exact Ab 4 (Cj (Ab 8 (gs (Ao ((i:Int)+1) ((i+1:Nat):Int) ·) (Ab 2 (Bb [0,1,6,7,8] [(1,1),(2,2),(3,3),(4,4),(5,5),(6,6)] 7 [] trivial (hJ1 _ _ (by omega:l.n-(i+1)<l.n-i) ⟨i+1,iw,rfl,⟨ω,Aw hF2 (λg9=>by obtain⟨g1,g2,g3⟩:=g9;omega),by have h7:=Ag (l.f i) (l.f ((i+1)%l.n)) p.x p.y 1;have h8:=Av l p.x p.y 1 i;omega⟩,rfl⟩))))))
 exact Ab 10 (Cj (Ab 8 (gs (Ao ((i:Int)+1) ((i+1:Nat):Int) ·) (Ab 2 (Bb [0,1,6,7,8] [(1,1),(2,2),(3,3),(4,4),(5,5),(6,6)] 7 [] trivial (hJ1 _ _ (by omega:l.n-(i+1)<l.n-i) ⟨i+1,iw,rfl,⟨ω,Aw hF2 (λg9=>by obtain⟨g1,g2,g3⟩:=g9;omega),by have h7:=Ag (l.f i) (l.f ((i+1)%l.n)) p.x p.y 1;have h8:=Av l p.x p.y 1 i;omega⟩,rfl⟩))))))
 exact Ab 14 (Cj (Ab 8 (gs (Ao ((i:Int)+1) ((i+1:Nat):Int) ·) (Ab 2 (Bb [0,1,6,7,8] [(1,1),(2,2),(3,3),(4,4),(5,5),(6,6)] 7 [] trivial (hJ1 _ _ (by omega:l.n-(i+1)<l.n-i) ⟨i+1,iw,rfl,⟨ω,Aw hF2 (λg9=>by obtain⟨g1,g2,g3⟩:=g9;omega),by have h7:=Ag (l.f i) (l.f ((i+1)%l.n)) p.x p.y 1;have h8:=Av l p.x p.y 1 i;omega⟩,rfl⟩))))))
 refine Ab 16 (De 65 ((0:Int)<(Ey (l.f i) p.y 1)) (λhx44 hx44d=>?_) (λhx44 hx44d=>?_))
 refine Ab 4 (De 69 ((Ey (l.f ((i+1)%l.n)) p.y 1)<=0) (λhx45 hx45d=>?_) (λhx45 hx45d=>?_))
 refine Ab 6 (De 62 ((Ms (l.f i) (l.f ((i+1)%l.n)) p.x p.y 1)<0) (λhx46 hx46d=>?_) (λhx46 hx46d=>?_))
 exact Ab 3 (gs (Ao (iw-1) (iw-1) ·) (Ab 4 (Cj (Ab 8 (gs (Ao ((i:Int)+1) ((i+1:Nat):Int) ·) (Ab 2 (Bb [0,1,6,7,8] [(1,1),(2,2),(3,3),(4,4),(5,5),(6,6)] 7 [] trivial (hJ1 _ _ (by omega:l.n-(i+1)<l.n-i) ⟨i+1,(iw-1),rfl,⟨ω,Aw hF2 (λg9=>by obtain⟨g1,g2,g3⟩:=g9;omega),by have h7:=Ag (l.f i) (l.f ((i+1)%l.n)) p.x p.y 1;have h8:=Av l p.x p.y 1 i;omega⟩,rfl⟩))))))))
 exact Ab 4 (Cj (Ab 8 (gs (Ao ((i:Int)+1) ((i+1:Nat):Int) ·) (Ab 2 (Bb [0,1,6,7,8] [(1,1),(2,2),(3,3),(4,4),(5,5),(6,6)] 7 [] trivial (hJ1 _ _ (by omega:l.n-(i+1)<l.n-i) ⟨i+1,iw,rfl,⟨ω,Aw hF2 (λg9=>by obtain⟨g1,g2,g3⟩:=g9;omega),by have h7:=Ag (l.f i) (l.f ((i+1)%l.n)) p.x p.y 1;have h8:=Av l p.x p.y 1 i;omega⟩,rfl⟩))))))
 exact Ab 10 (Cj (Ab 8 (gs (Ao ((i:Int)+1) ((i+1:Nat):Int) ·) (Ab 2 (Bb [0,1,6,7,8] [(1,1),(2,2),(3,3),(4,4),(5,5),(6,6)] 7 [] trivial (hJ1 _ _ (by omega:l.n-(i+1)<l.n-i) ⟨i+1,iw,rfl,⟨ω,Aw hF2 (λg9=>by obtain⟨g1,g2,g3⟩:=g9;omega),by have h7:=Ag (l.f i) (l.f ((i+1)%l.n)) p.x p.y 1;have h8:=Av l p.x p.y 1 i;omega⟩,rfl⟩))))))
 exact Ab 14 (Cj (Ab 8 (gs (Ao ((i:Int)+1) ((i+1:Nat):Int) ·) (Ab 2 (Bb [0,1,6,7,8] [(1,1),(2,2),(3,3),(4,4),(5,5),(6,6)] 7 [] trivial (hJ1 _ _ (by omega:l.n-(i+1)<l.n-i) ⟨i+1,iw,rfl,⟨ω,Aw hF2 (λg9=>by obtain⟨g1,g2,g3⟩:=g9;omega),by have h7:=Ag (l.f i) (l.f ((i+1)%l.n)) p.x p.y 1;have h8:=Av l p.x p.y 1 i;omega⟩,rfl⟩))))))
 refine Ab 5 (We (Ab 9 (yU 76 (iw=0) (λhx47 hx47d=>?_) (λhx47 hx47d=>?_))))
 exact Ab 9 (Ha (Ab 4 (Jl (r:= .int (-1)) (congrArg AV.int (Aek (i:=i) ω hF2 ω)))))
 exact Ab 8 (Ha (Ab 4 (Jl (r:= .int 1) (congrArg AV.int (Ahg (i:=i) ω hF2 ω)))))
theorem zM (l:Vs) (hn:l.n<=64) (hl:∀i,Ca (l.f i)) (p:V3) (hp:Ca p):AF Tryz.prog 82 [Bs l,Bj p] (.int (Uf l p.x p.y 1)):=by
 obtain⟨_,rfl,hA⟩:=Aex l hn hl p hp
 exact hA
theorem uU (l:Vs) (hn:l.n<=64) (hl:∀i,Ca (l.f i)) (p:V3) (hp:Ca p):∃r,r=(.int (Uf l p.x p.y 1):AV)/\AF Tryz.prog 163 [Bs l,.elt 3 (λxi=>[.lit (.int .i64 p.x),.lit (.int .i64 p.y),.lit (.int .i64 p.z)].getD (0+xi) .top)] r:=by
 refine Bz func163 rfl ?_
 exact Ab 9 (gs (Aj (zM l hn hl p hp) ·) (Ab 4 (Jl (r:= .int (Uf l p.x p.y 1)) rfl)))
theorem jC (l:Vs) (hn:l.n<=64) (hl:∀i,Ca (l.f i)) (p:V3) (hp:Ca p):AF Tryz.prog 163 [Bs l,.elt 3 (λxi=>[.lit (.int .i64 p.x),.lit (.int .i64 p.y),.lit (.int .i64 p.z)].getD (0+xi) .top)] (.int (Uf l p.x p.y 1)):=by
 obtain⟨_,rfl,hA⟩:=uU l hn hl p hp
 exact hA
theorem uK (f:cQ) (h0:yX f) (hl:Pr f) (p:V3) (hp:Ca p) (hi:vJ f p.x p.y 1):∃r,r=(.bool false:AV)/\AF Tryz.prog 174 [dQ f,.fn 175 [.elt 1 (λxi=>[.fn 163 [.elt 3 (λxi=>[.lit (.int .i64 p.x),.lit (.int .i64 p.y),.lit (.int .i64 p.z)].getD (0+xi) .top)]].getD (0+xi) .top)]] r:=by
 have hn8:=h0.1
 have hn9:=h0.2.1
 have hi1:=hi.1
 refine Bz func174 rfl ?_
 refine Ab 9 (aI func200 (Ab 14 (mI [0,1,7,8] (λm s=>∃q,m=f.hn-q/\(q<=f.hn)/\s=⟨[(0,dQ f),(1,.fn 175 [.elt 1 (λxi=>[.fn 163 [.elt 3 (λxi=>[.int p.x,.int p.y,.int p.z].getD (0+xi) .top)]].getD (0+xi) .top)]),(7,.int (f.hn:Int)),(8,.int (q:Int))],[],0,19⟩) (f.hn-0) ⟨0,rfl,Nat.zero_le _,κ⟩ ?_)))
 rintro _ _ ⟨q,rfl,hF,rfl⟩ hJ1
 have hnq:=h0.2.2 q
 refine Ab 6 (De 9 ((q:Int)<(f.hn:Int)) (λhx2 hx2d=>?_) (λhx2 hx2d=>?_))
 refine Ab 16 (gs (Dm q f.hn ·) (Ab 1 (yR func175 (Ab 9 (gs (Aec (jC (f.h q) (h0.2.2 q) (hl.2 q) p hp) ·) (Ab 5 (Ha (Ab 2 (De 16 ((0:Int)<(Uf (f.h q) p.x p.y 1)) (λhx4 hx4d=>?_) (λhx4 hx4d=>?_))))))))))
 refine Ab 13 (Ha (Ab 5 ?_))
 exact absurd ω (hi.2 q ω)
 exact Ab 5 (gs (Ao ((q:Int)+1) ((q+1:Nat):Int) ·) (Ab 2 (trd [0,1,7,8] (hJ1 _ _ (by omega:f.hn-(q+1)<f.hn-q) ⟨q+1,rfl,ω,rfl⟩))))
 exact Ab 12 (Ha (Ab 5 (Jl (r:= .bool false) rfl)))
theorem zR (f:cQ) (h0:yX f) (hl:Pr f) (p:V3) (hp:Ca p) (hi:vJ f p.x p.y 1):AF Tryz.prog 174 [dQ f,.fn 175 [.elt 1 (λxi=>[.fn 163 [.elt 3 (λxi=>[.lit (.int .i64 p.x),.lit (.int .i64 p.y),.lit (.int .i64 p.z)].getD (0+xi) .top)]].getD (0+xi) .top)]] (.bool false):=by
 obtain⟨_,rfl,hA⟩:=uK f h0 hl p hp hi
 exact hA
theorem zS (f:cQ) (h0:yX f) (hl:Pr f) (p:V3) (hp:Ca p) (hi:vJ f p.x p.y 1):∃r,r=(.bool true:AV)/\AF Tryz.prog 144 [Hw f,.fn 163 [.elt 3 (λxi=>[.lit (.int .i64 p.x),.lit (.int .i64 p.y),.lit (.int .i64 p.z)].getD (0+xi) .top)]] r:=by
 have hn8:=h0.1
 have hn9:=h0.2.1
 have hi1:=hi.1
 refine Bz func144 rfl ?_
 refine Ab 7 (gs (aS 1 ·) (Ab 5 (gs (Aec (jC f.o h0.1 hl.1 p hp) ·) (Ab 2 (De 10 ((0:Int)<=(Uf f.o p.x p.y 1)) (λhx1 hx1d=>?_) (λhx1 hx1d=>?_))))))
 exact Ab 3 (gs (Aj (zR f h0 hl p hp hi) ·) (Ab 6 (Jl (r:= .bool true) rfl)))
 refine Ab 10 ?_
 exact absurd hi1 ω
theorem Ae0 (f:cQ) (h0:yX f) (hl:Pr f) (p:V3) (hp:Ca p) (hi:vJ f p.x p.y 1):AF Tryz.prog 144 [Hw f,.fn 163 [.elt 3 (λxi=>[.lit (.int .i64 p.x),.lit (.int .i64 p.y),.lit (.int .i64 p.z)].getD (0+xi) .top)]] (.bool true):=by
 obtain⟨_,rfl,hA⟩:=zS f h0 hl p hp hi
 exact hA
theorem jD (f:cQ) (h0:yX f) (hl:Pr f) (p:V3) (hp:Ca p) (hi:vJ f p.x p.y 1) (hz:f.low<=p.z/\p.z<=f.high):∃r,r=(.bool true:AV)/\AF Tryz.prog 131 [Hw f,Bj p] r:=by
 have hn8:=h0.1
 have hn9:=h0.2.1
 have hi1:=hz
 refine Bz func131 rfl ?_
 refine Ab 7 (gs (aS 1 ·) (Ab 8 (De 10 (f.low<=p.z) (λhx1 hx1d=>?_) (λhx1 hx1d=>?_))))
 refine Ab 7 (De 17 (p.z<=f.high) (λhx2 hx2d=>?_) (λhx2 hx2d=>?_))
 exact Ab 2 (gs (Aj (Ae0 f h0 hl p hp hi) ·) (Ab 5 (Jl (r:= .bool true) rfl)))
 refine Ab 8 ?_
 exact absurd hi1 ω
 refine Ab 15 ?_
 exact absurd hi1 ω
theorem Xj (f:cQ) (h0:yX f) (hl:Pr f) (p:V3) (hp:Ca p) (hi:vJ f p.x p.y 1) (hz:f.low<=p.z/\p.z<=f.high):AF Tryz.prog 131 [Hw f,Bj p] (.bool true):=by
 obtain⟨_,rfl,hA⟩:=jD f h0 hl p hp hi hz
 exact hA
open Go.Sort hiding Below
def AbB (a b:Rw):Bool:=(a.neg==b.neg)&&(a.mag==b.mag)
def wJ (a b:Rr):Bool:=AbB a.num b.num&&AbB a.den b.den
theorem AgK (a b:Rr) (w:World):(Op.equal 113 (.agg #[.bool a.num.neg,.string a.num.mag,.bool a.den.neg,.string a.den.mag]) (.agg #[.bool b.num.neg,.string b.num.mag,.bool b.den.neg,.string b.den.mag])).run Tryz.prog w= .ok (wJ a b) w:=by
 have e:∀(a b:Rw) (w:World),(Op.equalIn 9999 68 (.agg #[.bool a.neg,.string a.mag]) (.agg #[.bool b.neg,.string b.mag])).run Tryz.prog w= .ok (AbB a b) w:=λa b w=>tQ a.neg b.neg a.mag b.mag w 9997
 have h93:=Tryz.runUnderlying113
 have h91:=isAgg68
 have hs:=sizeOf68
 have hin:Tryz.prog.stoodInHeld 113=false:=κ
 unfold Op.equal
 rw[show Op.maxDepth=9999+1 from rfl]
 unfold Op.equalIn
 simp[h93,part,h91,hs,e,hin]
 unfold wJ
 cases AbB a.num b.num<;>cases AbB a.den b.den<;>simp
instance:Inhabited V3:=⟨⟨0,0,0⟩⟩
def AbA (v:V3):List Value:=[.int .i64 v.x,.int .i64 v.y,.int .i64 v.z]
theorem zH (d:Array V3) (hd:d.size<=9223372036854775807):AFW Tryz.prog 167 3 AbA d d.reverse []:=λblk off cap w hH hb=>by
 have h:=AnyQ.slices_Reverse Tryz.laysRev 3 (λw=>by kernel_rfl) (λw=>by kernel_rfl) AbA (λ_=>rfl) (λx v hv=>by
  unfold AbA at hv
  simp at hv
  rcases hv with rfl|rfl|rfl<;>rfl) blk off cap d w hH hd
 refine h.mono ?_
 rintro e w' ⟨rfl,n,rfl⟩
 exact⟨rfl,n,#[],by rw[grow_empty]⟩
def Ad1 (l:Vs):Vs:=⟨l.n,λk=>if k=0 then l.f 0 else l.f (l.n-k)⟩
def Rj (l:Vs):Array V3:=((List.range (l.n-1)).map λi=>l.f (1+i)).toArray
theorem Et (l:Vs):(Rj l).size=l.n-1:=by simp[Rj]
theorem mG (l:Vs) (i:Nat) (hi:i<l.n-1):(Rj l)[i]! =l.f (1+i):=by
 rw[getElem!_pos _ i (by rw[Et];exact hi)]
 simp[Rj]
theorem yO (l:Vs) (i:Nat) (hi:i<l.n-1):(Rj l).reverse[i]! =(Ad1 l).f (1+i):=by
 rw[getElem!_pos _ i (by simp[Et];exact hi)]
 rw[Array.getElem_reverse]
 have h1:(Rj l).size-1-i<l.n-1:=by rw[Et];omega
 have h2:=mG l _ h1
 rw[getElem!_pos (Rj l) _ (by have:=Et l;omega)] at h2
 rw[h2]
 show l.f _=if 1+i=0 then l.f 0 else l.f (l.n-(1+i))
 rw[if_neg ω,show 1+((Rj l).size-1-i)=l.n-(1+i) by rw[Et];omega]
theorem eI (v:V3) (j:Nat) (hj:j<3):(Bj v).cell j= .lit ((AbA v)[j]!):=by
 match j,hj with
 |0,_=>rfl
 |1,_=>rfl
 |2,_=>rfl
theorem Ade {B:Nat} {D0:Ap} {o:Oper} {ev:Operand->AV} {pre:Nat->Option Ar} (x:Operand) (ts:Array TypeId) (id:Nat) (t:TypeId) (l:Vs) (hl:2<=l.n) (hn:l.n<=1000) (ho:o.op= .call { callee:= .value (.func 167),args:=#[x],argTypes:=ts }) (hp:pre id=some (.vec t 3 l.n λi=>Bj (l.f i))) (hx:ev x= .osw id 3 1 (l.n-1)):Cw Tryz.prog B D0 o ev pre (.lit (.tuple #[])) (.set id (.vec t 3 l.n λi=>Bj ((Ad1 l).f i))):=
 dY 167 #[x] ts ho (λ_ _=>by kernel_rfl) id 3 1 l.n t _ _ hp AbA (Rj l) (Rj l).reverse (by simp) (by rw[Et];omega) (ev x) (by rw[hx,Et];exact⟨rfl,rfl,rfl,rfl,ω⟩) [] [] rfl rfl (λi hi=>absurd hi (Nat.not_lt_zero i))
  (λi j hi hj=>by rw[Et] at hi;rw[mG l i hi];exact eI _ j hj)
  (λi _ h=>by
   rw[Et] at h
   obtain rfl:i=0:=by omega
   rfl)
  (λi j hi hj=>by rw[Et] at hi;rw[yO l i hi];exact eI _ j hj)
  (zH _ (by rw[Et];omega))
def Fu (g:Nat->RQ) (n:Nat):Array RQ:=((List.range n).map g).toArray
theorem Im (g:Nat->RQ) (n:Nat):(Fu g n).size=n:=by simp[Fu]
theorem Acw (g:Nat->RQ) {n i:Nat} (hi:i<n):(Fu g n)[i]! =g i:=by
 rw[getElem!_pos _ i (by rw[Im];exact hi)]
 simp[Fu]
noncomputable def Ho (g:Nat->RQ) (n:Nat):Nat->RQ:=λi=>(Qn (Fu g n))[i]!
theorem lU (v:RQ) (j:Nat) (hj:j<4):(Dq v.1).cell j= .lit ((kD v)[j]!):=by
 match j,hj with
 |0,_=>rfl
 |1,_=>rfl
 |2,_=>rfl
 |3,_=>rfl
theorem xO {B:Nat} {D0:Ap} {o:Oper} {ev:Operand->AV} {pre:Nat->Option Ar} (x y:Operand) (ts:Array TypeId) (id:Nat) (t:TypeId) (n:Nat) (g:Nat->RQ) (hn:n<=1000000) (ho:o.op= .call { callee:= .value (.func 136),args:=#[x,y],argTypes:=ts }) (hp:pre id=some (.vec t 4 n λi=>Dq (g i).1)) (hx:ev x= .osl id 4 n) (hy:ev y= .fn 134 []):Cw Tryz.prog B D0 o ev pre (.lit (.tuple #[])) (.set id (.vec t 4 n λi=>Dq (Ho g n i).1)):=
 dY 136 #[x,y] ts ho (λ_ _=>by kernel_rfl) id 4 0 n t _ _ hp kD (Fu g n) (Qn (Fu g n)) (aE _) (by rw[Im];omega) (ev x) (by rw[hx,Im];exact⟨rfl,rfl,rfl,rfl⟩) [ev y] [.func (.func 134) #[] #[]] rfl rfl (λi hi E v h=>by
   obtain rfl:i=0:=by simp at hi;exact hi
   have h:VR E (ev y) v:=h
   rw[hy] at h
   cases h with
   |fn _ _ _ vs hn _=>
    have:vs=#[]:=Array.eq_empty_of_size_eq_zero hn
    rw[this];rfl)
  (λi j hi hj=>by rw[Im] at hi;rw[Acw g hi,Nat.zero_add];exact lU _ j hj)
  (λi h1 h=>by rw[Im] at h;omega)
  (λi j hi hj=>by rw[Nat.zero_add];exact lU _ j hj)
  (uI _ (by rw[Im];omega))
theorem Kp (n:Int): -9223372036854775808<=Ac n:=by simp[Ac,IntKind.wrap,IntKind.bits,IntKind.signed];omega
theorem Ko (n:Int):Ac n<=9223372036854775807:=by simp[Ac,IntKind.wrap,IntKind.bits,IntKind.signed];omega
def Fb (g:Nat->RQ) (n:Nat) (v:RQ):Nat->RQ:=λk=>if k<n then g k else v
theorem Ny {g:Nat->RQ} {n i:Nat} {v:RQ} (h:i<n):Fb g n v i=g i:=if_pos h
theorem Nx (g:Nat->RQ) (n:Nat) (v:RQ):Fb g n v (n+0)=v:=if_neg ω
theorem xT:cV ⟨⟨decide ((1:Int)<0),Bq 1⟩,⟨decide ((1:Int)<0),Bq 1⟩⟩:=⟨1,1,Di δ δ,Di δ δ,δ,rfl⟩
def Ad7 (g:Nat->RQ) (i:Nat) (v:RQ):Nat->RQ:=λk=>if k=i then v else g k
def AfG (k:Nat):RQ:=if k=0 then ⟨_,Zt⟩ else ⟨_,xT⟩
theorem Adx {x y u v:Int} (h:Df x y=Df u v):x=u/\y=v:=by
 simp at h
 obtain⟨h1,h2,h3,h4⟩:=h
 have e1:=Ya (congrArg ByteArray.toList h2)
 have e2:=Ya (congrArg ByteArray.toList h4)
 omega
def Iw (n d:Int):Prop:=0<d/\Bd 64 n/\Bd 64 d
theorem Iw.ok {n d:Int} (h:Iw n d):cV ⟨⟨decide (n<0),Bq n.natAbs⟩,⟨decide (d<0),Bq d.natAbs⟩⟩:=⟨n,d,h.2.1.fit δ,h.2.2.fit δ,h.1,rfl⟩
def Rt (q:RQ):Prop:=0<=lS q/\lS q<=lT q/\Bd 64 (lS q)/\Bd 64 (lT q)
theorem gN {q:RQ} {n d:Int} (e:Dq q.1=Df n d) (h0:0<=n) (h1:n<=d) (b1:Bd 64 n) (b2:Bd 64 d):Rt q:=by
 obtain⟨e1,e2⟩:=Adx ((Jd q).2.2.2.symm.trans e)
 unfold Rt
 rw[e1,e2]
 exact⟨h0,h1,b1,b2⟩
theorem Kz {n d:Int} (h:Iw n d) (h0:0<=n.sign) (h1:(n-d).sign<=0):Rt ⟨_,h.ok⟩:=by
 refine gN rfl ?_ ?_ h.2.1 h.2.2
 exact Int.sign_nonneg_iff.1 h0
 have:=Int.sign_nonpos_iff.1 h1
 omega
theorem Aij:∀i,i<2->Rt (AfG i)
 |0,_=>gN (n:=0) (d:=1) (by
  have e:Bq (0:Int).natAbs=⟨#[]⟩:=Nm
  show AV.lit (Value.agg #[.bool false,.string ⟨#[]⟩,.bool (decide ((1:Int)<0)),.string (Bq 1)])=AV.lit (Value.agg #[.bool (decide ((0:Int)<0)),.string (Bq (0:Int).natAbs),.bool (decide ((1:Int)<0)),.string (Bq (1:Int).natAbs)])
  rw[e];rfl) δ δ (Bd.zero _) ⟨δ⟩
 |1,_=>gN (n:=1) (d:=1) rfl δ δ ⟨δ⟩ ⟨δ⟩
 |_+2,h=>absurd h ω
theorem Hr {g:Nat->RQ} {n:Nat} {v:RQ} (h:∀i,i<n->Rt (g i)) (hv:Rt v):∀i,i<n+1->Rt (Fb g n v i):=λi hi=>by
 unfold Fb
 split
 rename_i h1;exact h i h1
 exact hv
theorem AcP {g:Nat->RQ} {n k:Nat} {v:RQ} (h:∀i,i<n->Rt (g i)) (hv:Rt v):∀i,i<n->Rt (Ad7 g k v i):=λi hi=>by
 unfold Ad7
 split
 exact hv
 exact h i hi
theorem mD {P:RQ->Prop} {g:Nat->RQ} {n:Nat} (h:∀i,i<n->P (g i)):∀i,i<n->P (Ho g n i):=λi hi=>by
 have hp:=(Go.Sort.pdq_sorts (ltOf cfQ) AiN (Fu g n) 0 (Fu g n).size (Lib.bitLen (Fu g n).size) true true Ω ζ (Or.inl rfl)).1.2.2
 have hs:=aE (Fu g n)
 have e1:((Qn (Fu g n)).extract 0 (Fu g n).size)=Qn (Fu g n):=by rw[<-hs,Array.extract_size]
 have e2:((Fu g n).extract 0 (Fu g n).size)=Fu g n:=Array.extract_size
 have hp:(Qn (Fu g n)).toList.Perm (Fu g n).toList:=by
  have hp:((Qn (Fu g n)).extract 0 (Fu g n).size).toList.Perm ((Fu g n).extract 0 (Fu g n).size).toList:=hp
  rwa [e1,e2] at hp
 have hb:i<(Qn (Fu g n)).size:=by rw[hs,Im];exact hi
 have hm:Ho g n i∈(Qn (Fu g n)).toList:=by
  show (Qn (Fu g n))[i]!∈_
  rw[getElem!_pos _ i hb]
  exact Array.mem_toList_iff.2 (Array.getElem_mem hb)
 have hm2:=hp.mem_iff.1 hm
 simp only[Fu,List.mem_map,List.mem_range] at hm2
 obtain⟨j,hj,e⟩:=hm2
 rw[<-e]
 exact h j hj
theorem wM (x y:Int):Cy x y∣x/\Cy x y∣y:=by
 unfold Cy
 exact⟨Int.natAbs_dvd_natAbs.1 (by rw[Int.natAbs_natCast];exact Nat.gcd_dvd_left _ _),Int.natAbs_dvd_natAbs.1 (by rw[Int.natAbs_natCast];exact Nat.gcd_dvd_right _ _)⟩
theorem Ac3 {e:Nat} {x y k:Int} (h0:0<=x) (h1:x<=k*y) (hy:0<y) (bx:Bd e x) (bz:Bd e y):0<=x/Cy x y/\x/Cy x y<=k*(y/Cy x y)/\0<y/Cy x y/\Bd e (x/Cy x y)/\Bd e (y/Cy x y):=by
 have hg:0<Cy x y:=by unfold Cy;have:=Tj (x:=x) hy;omega
 obtain⟨d1,d2⟩:=wM x y
 have e1:=Int.ediv_mul_cancel d1
 have e2:=Int.ediv_mul_cancel d2
 refine⟨Int.ediv_nonneg h0 (Int.le_of_lt hg),?_,Int.ediv_pos_of_pos_of_dvd hy (Int.le_of_lt hg) d2,bx.div _,bz.div _⟩
 refine Int.le_of_mul_le_mul_right (a:=Cy x y) ?_ hg
 rw[e1,Int.mul_assoc,e2]
 exact h1
theorem pE (a b:RQ) (ha:Rt a) (hb:Rt b):∃s:Int×Int,(0<=s.1/\s.1<=2*s.2/\0<s.2/\Bd 129 s.1/\Bd 129 s.2)/\AF Tryz.prog 141 [Dq a.1,Dq b.1] (.lit (.tuple #[zA s.1 s.2,.int .i64 0])):=by
 obtain⟨_,_,py,ea⟩:=Jd a
 obtain⟨_,_,pv,eb⟩:=Jd b
 obtain⟨x0,x1,bx,bz⟩:=ha
 obtain⟨u0,u1,bu,bv⟩:=hb
 rw[ea,eb]
 generalize lS a=x at*
 generalize lT a=y at*
 generalize lS b=u at*
 generalize lT b=v at*
 have b1:Bd 129 (x*v+u*y):=(bx.mul bv).add (bu.mul bz)
 have b2:Bd 129 (y*v):=(bz.mul bv).mono δ
 have m1:=Int.mul_nonneg x0 (Int.le_of_lt pv)
 have m2:=Int.mul_nonneg u0 (Int.le_of_lt py)
 have m3:=Int.mul_le_mul_of_nonneg_right x1 (Int.le_of_lt pv)
 have m4:u*y<=v*y:=Int.mul_le_mul_of_nonneg_right u1 (Int.le_of_lt py)
 rw[Int.mul_comm v y] at m4
 exact⟨(_,_),Ac3 (k:=2) ω ω (Int.mul_pos py pv) b1 b2,Aar x y u v (bx.fit δ) (bz.fit δ) (bu.fit δ) (bv.fit δ) py pv x0 u0 (b1.fit δ) (b2.fit δ)⟩
theorem fY (n d:Int) (h0:0<=n) (h1:n<=2*d) (h2:0<d) (b1:Bd 129 n) (b2:Bd 129 d):∃t:Int×Int,(0<=t.1/\t.1<=t.2/\0<t.2/\Bd 192 t.1/\Bd 192 t.2)/\AF Tryz.prog 142 [Df n d,Df 1 2] (.lit (.tuple #[zA t.1 t.2,.int .i64 0])):=by
 have c1:Bd 192 (n*1):=b1.mul (Bd.int δ δ)
 have c2:Bd 192 (d*2):=b2.mul (Bd.int δ δ)
 have h:=Ac3 (k:=1) (x:=n*1) (y:=d*2) ω ω ω c1 c2
 rw[Int.one_mul] at h
 exact⟨(_,_),h,Aav n d 1 2 (b1.fit δ) (b2.fit δ) (Di δ δ) (Di δ δ) h2 δ h0 δ (c1.fit δ) (c2.fit δ)⟩
theorem Ik (n m p q:Int) (hn: -10000000<=n/\n<=10000000) (hm: -10000000<=m/\m<=10000000) (hp:Bd 300 p) (hq:Bd 300 q):Bd 400 (m*p+n*q):=by
 have b1:Bd 63 n:=Bd.int ω ω
 have b2:Bd 63 m:=Bd.int ω ω
 exact(Bd.add (e:=363) (b2.mul hp |>.mono δ) (b1.mul hq |>.mono δ)).mono δ
theorem Aco (f:cQ) (a b:V3) (h0:yX f) (hnf:Pr f) (hge:∀k,k<f.hn+1->3<=(Dc f k).n) (ha:Ca a) (hb:Ca b) (hVal:AF Tryz.prog 50 [Hw f] (.bool true)) (hpa:AF Tryz.prog 51 [Bj a] (.bool true)) (hpb:AF Tryz.prog 51 [Bj b] (.bool true)) (hia:AF Tryz.prog 131 [Hw f,Bj a] (.bool true)) (hib:AF Tryz.prog 131 [Hw f,Bj b] (.bool true)) (hin:∀n d:Int,0<=n->n<=d->0<d->vJ f (((b.x-a.x)*n+a.x*d)*d) (((b.y-a.y)*n+a.y*d)*d) (d*d)):∃r,r=AV.lit (.tuple #[.bool true,.int .i64 0])/\AF Tryz.prog 88 [Hw f,Bj a,Bj b] r:=by
 have hfok:=h0
 have hn8:=h0.1
 have hn9:=h0.2.1
 obtain⟨a1,a2,a3⟩:=id ha
 obtain⟨b1,b2,b3⟩:=id hb
 refine Bz func88 rfl ?_
 refine Ab 13 (gs (Aj hVal ·) (Ab 3 (gs (Aj hpa ·) (Ab 4 (gs (Aj hpb ·) (Ab 12 (gs (Aj hia ·) (Ab 4 (gs (Aj hib ·) (Ab 16 (tsh 8 49 false [3,4,5,6,7,55] ?_ (λhS1=>?_))))))))))))
 refine Ab 5 (gs (Aj (Cg 1 δ δ) ·) (Ab 11 (gs (Iu 4 113 4 2 (λxi=>[.lit (.agg #[.bool false,.string ⟨#[]⟩,.bool (decide ((1:Int)<0)),.string (Bq (1:Int).natAbs)]),.lit (.agg #[.bool (decide ((1:Int)<0)),.string (Bq (1:Int).natAbs),.bool (decide ((1:Int)<0)),.string (Bq (1:Int).natAbs)])].getD xi .top) ·) (Ab 5 (gs (Sp 4 113 4 2 (λxi=>[.lit (.agg #[.bool false,.string ⟨#[]⟩,.bool (decide ((1:Int)<0)),.string (Bq (1:Int).natAbs)]),.lit (.agg #[.bool (decide ((1:Int)<0)),.string (Bq (1:Int).natAbs),.bool (decide ((1:Int)<0)),.string (Bq (1:Int).natAbs)])].getD xi .top) (λxi=>Dq (AfG xi).1) (λx9 hx9=>by(match x9,hx9 with|0,_=>rfl|1,_=>rfl|_+2,h=>exact absurd h ω)) ·) ?_)))))
 have hV:=hge
 refine Ab 3 (aI func132 (Ab 13 (Ha (Ab 3 (gs (vnm [3,4,5,6,7,8,9,64] ·) (bV func164 λsp3 sp3p sp3a sp3b=>(Ab 9 (gs (Aj hVal ·) (Ab 10 (gs (Iu 9 61 1 1 (λ_=>Bs f.o) ·) (Ab 2 (gs (Cc (.osl 10 1 (1+f.hn)) (.grow 9 10 (.vec 61 1 (1+f.hn) (λxi=>Bs (Dc f xi)))) (Qi (.tmp 12) (.tmp 14) 62 κ underlying62 1 24 (.slice none 0 0) κ κ δ sizeOf61 1 f.hn (λ_=>Bs f.o) (λi0=>Bs (f.h i0)) (λxi=>Bs (Dc f xi)) 10 ω (by unfold maxLen;omega) (λi hi=>by(obtain rfl:i=0:=(ω));rfl) (λi hi=>by rw[Nat.add_comm];rfl) (λi hi j hj=>by obtain rfl:j=0:=(ω);rfl) 9 κ κ κ) ·) (Ab 5 (tfg [2,15,16,17] [(0,0),(1,1),(2,2),(3,3),(4,11),(5,5),(6,6),(7,7),(8,8),(10,10)] 12 [(113,4,2,(λxi=>Dq (AfG xi).1)),(61,1,1+f.hn,(λxi=>Bs (Dc f xi)))] ⟨(Bi λ_ _=>rfl),(Bi λ_ _=>rfl),trivial⟩ (mI [2,15,16,17] (λm s=>∃(i n:Nat) (g:Nat->RQ),m=f.hn+1-i/\((∀q9,q9<n->Rt (g q9))/\n<=2+128*i/\i<=f.hn+1)/\s=⟨[(2,.ptr 8 0),(15,.osl 10 1 (1+f.hn)),(16,.int ((1+f.hn:Nat):Int)),(17,.int (i:Int))],[(0,.box 64 [Bs f.o,dQ f,.int f.low,.int f.high]),(1,.box 30 [.int a.x,.int a.y,.int a.z]),(2,.box 30 [.int b.x,.int b.y,.int b.z]),(3,.box 68 [.bool (decide ((1:Int)<0)),.lit (.string (Bq (1:Int).natAbs))]),(11,.vec 113 4 n (λxi=>Dq (g xi).1)),(5,.box 181 [.osl 11 4 n]),(6,.box 64 [Bs f.o,dQ f,.int f.low,.int f.high]),(7,.loop .ready none sp3 [(3,.ptr 0 0),(4,.ptr 1 0),(5,.ptr 2 0),(6,.bool false),(7,.int 0),(8,.ptr 3 0),(9,.ptr 5 0),(64,.fn 164 [.ptr 6 0])] 131),(8,.box 173 [.yld 7]),(10,.vec 61 1 (1+f.hn) (λxi=>Bs (Dc f xi)))],12,43⟩) (f.hn+1-0) ⟨0,2,AfG,rfl,⟨Aij,ω,ω⟩,κ⟩ ?_)))))))))))))))
 rintro _ _ ⟨i,n,g,rfl,hF,rfl⟩ hJ1
 have hFp:=hF.1
 have hn1:=AeT h0 i
 have hn7:=hV 0 ω
 have hn6:(Dc f 0).n=f.o.n:=rfl
 refine Ab 6 (De 18 ((i:Int)<((1+f.hn:Nat):Int)) (λhx5 hx5d=>?_) (λhx5 hx5d=>?_))
 refine Ab 5 ?_
 have hn3:=hV i ω
 refine Ab 3 (gs (Dm i (1+f.hn) ·) (gs (Cc (Bs (Dc f i)) (.read 10) (El 61 (.tmp 20) κ isAgg61 10 i 0 1 κ 61 (1+f.hn) (λxi=>Bs (Dc f xi)) κ ω δ) ·) (Ab 8 (exk (zI (Dc f i) ω) λv6 hv6=>(gs (Aj hv6 ·) (Ab 3 (gs (Dx (.bool (!decide (decide ((0:Int)<(gI v6))=decide ((i:Int)=0)))) (.bool (!decide (decide ((0:Int)<(gI v6))=decide ((i:Int)=0)))) ·) (Ab 2 (tjv 3 27 false (λl9:Vs=>⟨[(2,.ptr 8 0),(4,Bs l9),(15,.osl 10 1 (1+f.hn)),(16,.int ((1+f.hn:Nat):Int)),(17,.int (i:Int))],[(0,.box 64 [Bs f.o,dQ f,.int f.low,.int f.high]),(1,.box 30 [.int a.x,.int a.y,.int a.z]),(2,.box 30 [.int b.x,.int b.y,.int b.z]),(3,.box 68 [.bool (decide ((1:Int)<0)),.lit (.string (Bq (1:Int).natAbs))]),(11,.vec 113 4 n (λxi=>Dq (g xi).1)),(5,.box 181 [.osl 11 4 n]),(6,.box 64 [Bs f.o,dQ f,.int f.low,.int f.high]),(7,.loop .ready none sp3 [(3,.ptr 0 0),(4,.ptr 1 0),(5,.ptr 2 0),(6,.bool false),(7,.int 0),(8,.ptr 3 0),(9,.ptr 5 0),(64,.fn 164 [.ptr 6 0])] 131),(8,.box 173 [.yld 7]),(10,.vec 61 1 (1+f.hn) (λxi=>Bs (Dc f xi)))],12,43⟩) (λl9=>l9.n<=64/\3<=l9.n) (λl9 hl9=>?_) (λhJ9=>?_))))))))))
 have hl8:l9.n<=64/\3<=l9.n:=hl9
 refine Ab 3 (aI func81 (Ab 13 (Ha (Ab 3 (gs (vnm [2,15,16,17,34] ·) (bV func124 λsp8 sp8p sp8a sp8b=>(Ab 8 (tfg [0,1,6,7,8] [(0,0),(1,1),(2,2),(3,3),(11,14),(5,5),(6,6),(7,7),(8,8),(10,10),(12,12),(13,13)] 15 [(113,4,n,(λxi=>Dq (g xi).1)),(61,1,1+f.hn,(λxi=>Bs (Dc f xi)))] ⟨(Bi λ_ _=>rfl),(Bi λ_ _=>rfl),trivial⟩ (mI [0,1,6,7,8] (λm s=>∃(j4 j4n:Nat) (j4g:Nat->RQ),m=l9.n-j4/\((∀q9,q9<j4n->Rt (j4g q9))/\j4n<=2+128*i+2*j4/\j4<=l9.n)/\s=⟨[(0,.yld 13),(1,.ptr 12 0),(6,Bs l9),(7,.int ((l9.n:Nat):Int)),(8,.int ((j4:Nat):Int))],[(0,.box 64 [Bs f.o,dQ f,.int f.low,.int f.high]),(1,.box 30 [.int a.x,.int a.y,.int a.z]),(2,.box 30 [.int b.x,.int b.y,.int b.z]),(3,.box 68 [.bool (decide ((1:Int)<0)),.lit (.string (Bq (1:Int).natAbs))]),(14,.vec 113 4 j4n (λxi=>Dq (j4g xi).1)),(5,.box 181 [.osl 14 4 j4n]),(6,.box 64 [Bs f.o,dQ f,.int f.low,.int f.high]),(7,.loop .ready none sp3 [(3,.ptr 0 0),(4,.ptr 1 0),(5,.ptr 2 0),(6,.bool false),(7,.int 0),(8,.ptr 3 0),(9,.ptr 5 0),(64,.fn 164 [.ptr 6 0])] 131),(8,.box 173 [.yld 7]),(10,.vec 61 1 (1+f.hn) (λxi=>Bs (Dc f xi))),(12,.box 61 [Bs l9]),(13,.loop .ready none sp8 [(2,.ptr 8 0),(15,.osl 10 1 (1+f.hn)),(16,.int ((1+f.hn:Nat):Int)),(17,.int (i:Int)),(34,.fn 124 [.ptr 12 0])] 43)],15,35⟩) (l9.n-0) ⟨0,n,g,rfl,⟨hFp,ω,ω⟩,κ⟩ ?_)))))))))
 rintro _ _ ⟨j4,j4n,j4g,rfl,hF,rfl⟩ hJ2
 have hFj4:=hF.1
 refine Ab 6 (De 9 (((j4:Nat):Int)<((l9.n:Nat):Int)) (λhx10 hx10d=>?_) (λhx10 hx10d=>?_))
 refine Ab 8 (gs (Dm j4 l9.n ·) (Ab 7 ?_))
 have hm10:=Nat.mod_lt (j4+1) (by omega:0<l9.n)
 refine gs (Be [(2,.int ((j4+1:Nat):Int),.none),(5,.int (((j4+1)%l9.n:Nat):Int),.none),(6,Ax (Bs l9) ((j4+1)%l9.n),.none)] [0,1,4,5,6,7,8] ⟨As (.int .i64 (IntKind.wrap .i64 (((j4:Nat):Int)+1))) η,Agd ((j4+1:Nat):Int) ((l9.n:Nat):Int) (((j4+1)%l9.n:Nat):Int) ω rfl,Eg ((j4+1)%l9.n) l9.n,trivial⟩ ·) (Ab 14 (Kn sp8p sp8a (Ab 10 (Km sp8b ?_))))
 refine Ab 6 (Kn sp3p sp3a (Ab 10 (Km sp3b ?_)))
 refine Ab 7 (aI func133 (Ab 17 (gs (Be [] [5,6,7,8,9,11,12,13] trivial ·) (Ab 28 (tsx 42 ?_ ?_)))))
 refine Ab 29 (gs (Iu 26 213 2 1 (λ_=> .lit (.agg #[.int .i64 (Ac (Ac ((Ac ((l9.f j4).x-a.x))*(Ac ((l9.f ((j4+1)%l9.n)).y-(l9.f j4).y)))-Ac ((Ac ((l9.f j4).y-a.y))*(Ac ((l9.f ((j4+1)%l9.n)).x-(l9.f j4).x))))),.int .i64 (Ac (Ac ((Ac (b.x-a.x))*(Ac ((l9.f ((j4+1)%l9.n)).y-(l9.f j4).y)))-Ac ((Ac (b.y-a.y))*(Ac ((l9.f ((j4+1)%l9.n)).x-(l9.f j4).x)))))])) ·) (yR func168 (Ab 8 (gs (Kt 3 ·) (Ab 13 (gs (Dm 0 1 ·) (gs (Cc (.lit (.agg #[.int .i64 (Ac (Ac ((Ac ((l9.f j4).x-a.x))*(Ac ((l9.f ((j4+1)%l9.n)).y-(l9.f j4).y)))-Ac ((Ac ((l9.f j4).y-a.y))*(Ac ((l9.f ((j4+1)%l9.n)).x-(l9.f j4).x))))),.int .i64 (Ac (Ac ((Ac (b.x-a.x))*(Ac ((l9.f ((j4+1)%l9.n)).y-(l9.f j4).y)))-Ac ((Ac (b.y-a.y))*(Ac ((l9.f ((j4+1)%l9.n)).x-(l9.f j4).x)))))])) (.read 26) (Az 213 (.tmp 11) κ isAgg213 2 sizeOf213 26 0 κ 213 1 (λ_=> .lit (.agg #[.int .i64 (Ac (Ac ((Ac ((l9.f j4).x-a.x))*(Ac ((l9.f ((j4+1)%l9.n)).y-(l9.f j4).y)))-Ac ((Ac ((l9.f j4).y-a.y))*(Ac ((l9.f ((j4+1)%l9.n)).x-(l9.f j4).x))))),.int .i64 (Ac (Ac ((Ac (b.x-a.x))*(Ac ((l9.f ((j4+1)%l9.n)).y-(l9.f j4).y)))-Ac ((Ac (b.y-a.y))*(Ac ((l9.f ((j4+1)%l9.n)).x-(l9.f j4).x)))))])) κ ω) ·) (Ab 10 (Exists.elim (Va (Ac (Ac ((Ac ((l9.f j4).x-a.x))*(Ac ((l9.f ((j4+1)%l9.n)).y-(l9.f j4).y)))-Ac ((Ac ((l9.f j4).y-a.y))*(Ac ((l9.f ((j4+1)%l9.n)).x-(l9.f j4).x))))) (Ac (Ac ((Ac (b.x-a.x))*(Ac ((l9.f ((j4+1)%l9.n)).y-(l9.f j4).y)))-Ac ((Ac (b.y-a.y))*(Ac ((l9.f ((j4+1)%l9.n)).x-(l9.f j4).x))))) ⟨Kp (Ac ((Ac ((l9.f j4).x-a.x))*(Ac ((l9.f ((j4+1)%l9.n)).y-(l9.f j4).y)))-Ac ((Ac ((l9.f j4).y-a.y))*(Ac ((l9.f ((j4+1)%l9.n)).x-(l9.f j4).x)))),Ko (Ac ((Ac ((l9.f j4).x-a.x))*(Ac ((l9.f ((j4+1)%l9.n)).y-(l9.f j4).y)))-Ac ((Ac ((l9.f j4).y-a.y))*(Ac ((l9.f ((j4+1)%l9.n)).x-(l9.f j4).x))))⟩ ⟨Kp (Ac ((Ac (b.x-a.x))*(Ac ((l9.f ((j4+1)%l9.n)).y-(l9.f j4).y)))-Ac ((Ac (b.y-a.y))*(Ac ((l9.f ((j4+1)%l9.n)).x-(l9.f j4).x)))),Ko (Ac ((Ac (b.x-a.x))*(Ac ((l9.f ((j4+1)%l9.n)).y-(l9.f j4).y)))-Ac ((Ac (b.y-a.y))*(Ac ((l9.f ((j4+1)%l9.n)).x-(l9.f j4).x))))⟩) λv16 hv16=>(gs (Aj hv16.2 ·) (Ab 13 (De 23 (v16.2.2=0) (λhx17 hx17d=>?_) (λhx17 hx17d=>?_)))))))))))))
 refine Ab 2 (gs (Aj (Eo v16.1 (Bd.fit hv16.1.2.1 δ)) ·) (Ab 3 (De 29 ((0:Int)<=(v16.1).sign) (λhx18 hx18d=>?_) (λhx18 hx18d=>?_))))
 refine Ab 4 (gs (Aj (Hh v16.1 v16.2.1 (Bd.fit hv16.1.2.1 δ) (Bd.fit hv16.1.2.2 δ)) ·) (Ab 4 (De 36 ((v16.1-v16.2.1).sign<=0) (λhx19 hx19d=>?_) (λhx19 hx19d=>?_))))
 exact Ab 4 (gs (Iu 29 113 4 1 (λ_=>Df v16.1 v16.2.1) ·) (gs (Lz 48 113 113 4 j4n 1 14 29 30 (λxi=>Dq (j4g xi).1) (λ_=>Df v16.1 v16.2.1) (λxi=>Dq (Fb j4g j4n ⟨_,Iw.ok (n:=v16.1) (d:=v16.2.1) ⟨hv16.1.1 (of_decide_eq_true hx17),hv16.1.2⟩⟩ xi).1) (λi hi=>by rw[Ny hi]) (λi hi=>by(obtain rfl:i=0:=(ω));rw[Nx]) ·) (Ab 20 (Ha (Ab 10 (Ha (Ab 3 (Cj (Ab 6 (Cj (Ab 8 (gs (Ao (((j4:Nat):Int)+1) ((j4+1:Nat):Int) ·) (Ab 2 (Bb [0,1,6,7,8] [(0,0),(1,1),(2,2),(3,3),(30,14),(5,5),(6,6),(7,7),(8,8),(10,10),(12,12),(13,13)] 15 [(61,1,1+f.hn,(λxi=>Bs (Dc f xi))),(213,2,1,(λ_=> .lit (.agg #[.int .i64 (Ac (Ac ((Ac ((l9.f j4).x-a.x))*(Ac ((l9.f ((j4+1)%l9.n)).y-(l9.f j4).y)))-Ac ((Ac ((l9.f j4).y-a.y))*(Ac ((l9.f ((j4+1)%l9.n)).x-(l9.f j4).x))))),.int .i64 (Ac (Ac ((Ac (b.x-a.x))*(Ac ((l9.f ((j4+1)%l9.n)).y-(l9.f j4).y)))-Ac ((Ac (b.y-a.y))*(Ac ((l9.f ((j4+1)%l9.n)).x-(l9.f j4).x)))))]))),(113,4,1,(λ_=>Df v16.1 v16.2.1)),(113,4,j4n+1,(λxi=>Dq (Fb j4g j4n ⟨_,Iw.ok (n:=v16.1) (d:=v16.2.1) ⟨hv16.1.1 (of_decide_eq_true hx17),hv16.1.2⟩⟩ xi).1))] ⟨(Bi λ_ _=>rfl),(Bi λ_ _=>rfl),(Bi λ_ _=>rfl),(Bi λ_ _=>rfl),trivial⟩ (hJ2 _ _ (by omega:l9.n-(j4+1)<l9.n-j4) ⟨j4+1,j4n+1,Fb j4g j4n ⟨_,Iw.ok (n:=v16.1) (d:=v16.2.1) ⟨hv16.1.1 (of_decide_eq_true hx17),hv16.1.2⟩⟩,rfl,⟨Hr hFj4 (Kz ⟨hv16.1.1 (of_decide_eq_true hx17),hv16.1.2⟩ (of_decide_eq_true hx18) (of_decide_eq_true hx19)),ω,ω⟩,rfl⟩)))))))))))))))
 exact Ab 20 (Ha (Ab 10 (Ha (Ab 3 (Cj (Ab 6 (Cj (Ab 8 (gs (Ao (((j4:Nat):Int)+1) ((j4+1:Nat):Int) ·) (Ab 2 (Bb [0,1,6,7,8] [(0,0),(1,1),(2,2),(3,3),(14,14),(5,5),(6,6),(7,7),(8,8),(10,10),(12,12),(13,13)] 15 [(113,4,j4n,(λxi=>Dq (j4g xi).1)),(61,1,1+f.hn,(λxi=>Bs (Dc f xi))),(213,2,1,(λ_=> .lit (.agg #[.int .i64 (Ac (Ac ((Ac ((l9.f j4).x-a.x))*(Ac ((l9.f ((j4+1)%l9.n)).y-(l9.f j4).y)))-Ac ((Ac ((l9.f j4).y-a.y))*(Ac ((l9.f ((j4+1)%l9.n)).x-(l9.f j4).x))))),.int .i64 (Ac (Ac ((Ac (b.x-a.x))*(Ac ((l9.f ((j4+1)%l9.n)).y-(l9.f j4).y)))-Ac ((Ac (b.y-a.y))*(Ac ((l9.f ((j4+1)%l9.n)).x-(l9.f j4).x)))))])))] ⟨(Bi λ_ _=>rfl),(Bi λ_ _=>rfl),(Bi λ_ _=>rfl),trivial⟩ (hJ2 _ _ (by omega:l9.n-(j4+1)<l9.n-j4) ⟨j4+1,j4n,j4g,rfl,⟨hFj4,ω,ω⟩,rfl⟩))))))))))))
 exact Ab 29 (Ha (Ab 10 (Ha (Ab 3 (Cj (Ab 6 (Cj (Ab 8 (gs (Ao (((j4:Nat):Int)+1) ((j4+1:Nat):Int) ·) (Ab 2 (Bb [0,1,6,7,8] [(0,0),(1,1),(2,2),(3,3),(14,14),(5,5),(6,6),(7,7),(8,8),(10,10),(12,12),(13,13)] 15 [(113,4,j4n,(λxi=>Dq (j4g xi).1)),(61,1,1+f.hn,(λxi=>Bs (Dc f xi))),(213,2,1,(λ_=> .lit (.agg #[.int .i64 (Ac (Ac ((Ac ((l9.f j4).x-a.x))*(Ac ((l9.f ((j4+1)%l9.n)).y-(l9.f j4).y)))-Ac ((Ac ((l9.f j4).y-a.y))*(Ac ((l9.f ((j4+1)%l9.n)).x-(l9.f j4).x))))),.int .i64 (Ac (Ac ((Ac (b.x-a.x))*(Ac ((l9.f ((j4+1)%l9.n)).y-(l9.f j4).y)))-Ac ((Ac (b.y-a.y))*(Ac ((l9.f ((j4+1)%l9.n)).x-(l9.f j4).x)))))])))] ⟨(Bi λ_ _=>rfl),(Bi λ_ _=>rfl),(Bi λ_ _=>rfl),trivial⟩ (hJ2 _ _ (by omega:l9.n-(j4+1)<l9.n-j4) ⟨j4+1,j4n,j4g,rfl,⟨hFj4,ω,ω⟩,rfl⟩))))))))))))
 exact Ab 35 (Ha (Ab 10 (Ha (Ab 3 (Cj (Ab 6 (Cj (Ab 8 (gs (Ao (((j4:Nat):Int)+1) ((j4+1:Nat):Int) ·) (Ab 2 (Bb [0,1,6,7,8] [(0,0),(1,1),(2,2),(3,3),(14,14),(5,5),(6,6),(7,7),(8,8),(10,10),(12,12),(13,13)] 15 [(113,4,j4n,(λxi=>Dq (j4g xi).1)),(61,1,1+f.hn,(λxi=>Bs (Dc f xi))),(213,2,1,(λ_=> .lit (.agg #[.int .i64 (Ac (Ac ((Ac ((l9.f j4).x-a.x))*(Ac ((l9.f ((j4+1)%l9.n)).y-(l9.f j4).y)))-Ac ((Ac ((l9.f j4).y-a.y))*(Ac ((l9.f ((j4+1)%l9.n)).x-(l9.f j4).x))))),.int .i64 (Ac (Ac ((Ac (b.x-a.x))*(Ac ((l9.f ((j4+1)%l9.n)).y-(l9.f j4).y)))-Ac ((Ac (b.y-a.y))*(Ac ((l9.f ((j4+1)%l9.n)).x-(l9.f j4).x)))))])))] ⟨(Bi λ_ _=>rfl),(Bi λ_ _=>rfl),(Bi λ_ _=>rfl),trivial⟩ (hJ2 _ _ (by omega:l9.n-(j4+1)<l9.n-j4) ⟨j4+1,j4n,j4g,rfl,⟨hFj4,ω,ω⟩,rfl⟩))))))))))))
 refine Ab 9 (exk (zV a b (⟨(l9.f j4).x,(l9.f j4).y,0⟩)) λv20 hv20=>(gs (Aj hv20 ·) (Ab 3 (tsx 76 ?_ ?_))))
 refine Ab 49 (gs (Iu 26 213 2 2 (λxi=>[.lit (.agg #[.int .i64 (Ac (Ac ((Ac (b.x-a.x))*(Ac ((l9.f j4).x-a.x)))+Ac ((Ac (b.y-a.y))*(Ac ((l9.f j4).y-a.y))))),.int .i64 (Ac (Ac ((Ac (b.x-a.x))*(Ac (b.x-a.x)))+Ac ((Ac (b.y-a.y))*(Ac (b.y-a.y)))))]),.lit (.agg #[.int .i64 (Ac (Ac ((Ac (b.x-a.x))*(Ac ((l9.f ((j4+1)%l9.n)).x-a.x)))+Ac ((Ac (b.y-a.y))*(Ac ((l9.f ((j4+1)%l9.n)).y-a.y))))),.int .i64 (Ac (Ac ((Ac (b.x-a.x))*(Ac (b.x-a.x)))+Ac ((Ac (b.y-a.y))*(Ac (b.y-a.y)))))])].getD xi .top) ·) (yR func168 (Ab 8 (gs (Kt 3 ·) (Ab 13 (gs (Dm 0 2 ·) (gs (Cc (.lit (.agg #[.int .i64 (Ac (Ac ((Ac (b.x-a.x))*(Ac ((l9.f j4).x-a.x)))+Ac ((Ac (b.y-a.y))*(Ac ((l9.f j4).y-a.y))))),.int .i64 (Ac (Ac ((Ac (b.x-a.x))*(Ac (b.x-a.x)))+Ac ((Ac (b.y-a.y))*(Ac (b.y-a.y)))))])) (.read 26) (Az 213 (.tmp 11) κ isAgg213 2 sizeOf213 26 0 κ 213 2 (λxi=>[.lit (.agg #[.int .i64 (Ac (Ac ((Ac (b.x-a.x))*(Ac ((l9.f j4).x-a.x)))+Ac ((Ac (b.y-a.y))*(Ac ((l9.f j4).y-a.y))))),.int .i64 (Ac (Ac ((Ac (b.x-a.x))*(Ac (b.x-a.x)))+Ac ((Ac (b.y-a.y))*(Ac (b.y-a.y)))))]),.lit (.agg #[.int .i64 (Ac (Ac ((Ac (b.x-a.x))*(Ac ((l9.f ((j4+1)%l9.n)).x-a.x)))+Ac ((Ac (b.y-a.y))*(Ac ((l9.f ((j4+1)%l9.n)).y-a.y))))),.int .i64 (Ac (Ac ((Ac (b.x-a.x))*(Ac (b.x-a.x)))+Ac ((Ac (b.y-a.y))*(Ac (b.y-a.y)))))])].getD xi .top) κ ω) ·) (Ab 10 (Exists.elim (Va (Ac (Ac ((Ac (b.x-a.x))*(Ac ((l9.f j4).x-a.x)))+Ac ((Ac (b.y-a.y))*(Ac ((l9.f j4).y-a.y))))) (Ac (Ac ((Ac (b.x-a.x))*(Ac (b.x-a.x)))+Ac ((Ac (b.y-a.y))*(Ac (b.y-a.y))))) ⟨Kp (Ac ((Ac (b.x-a.x))*(Ac ((l9.f j4).x-a.x)))+Ac ((Ac (b.y-a.y))*(Ac ((l9.f j4).y-a.y)))),Ko (Ac ((Ac (b.x-a.x))*(Ac ((l9.f j4).x-a.x)))+Ac ((Ac (b.y-a.y))*(Ac ((l9.f j4).y-a.y))))⟩ ⟨Kp (Ac ((Ac (b.x-a.x))*(Ac (b.x-a.x)))+Ac ((Ac (b.y-a.y))*(Ac (b.y-a.y)))),Ko (Ac ((Ac (b.x-a.x))*(Ac (b.x-a.x)))+Ac ((Ac (b.y-a.y))*(Ac (b.y-a.y))))⟩) λv22 hv22=>(gs (Aj hv22.2 ·) (Ab 13 (De 23 (v22.2.2=0) (λhx23 hx23d=>?_) (λhx23 hx23d=>?_)))))))))))))
 refine Ab 2 (gs (Aj (Eo v22.1 (Bd.fit hv22.1.2.1 δ)) ·) (Ab 3 (De 29 ((0:Int)<=(v22.1).sign) (λhx24 hx24d=>?_) (λhx24 hx24d=>?_))))
 refine Ab 4 (gs (Aj (Hh v22.1 v22.2.1 (Bd.fit hv22.1.2.1 δ) (Bd.fit hv22.1.2.2 δ)) ·) (Ab 4 (De 36 ((v22.1-v22.2.1).sign<=0) (λhx25 hx25d=>?_) (λhx25 hx25d=>?_))))
 refine Ab 4 (gs (Iu 29 113 4 1 (λ_=>Df v22.1 v22.2.1) ·) (gs (Lz 48 113 113 4 j4n 1 14 29 30 (λxi=>Dq (j4g xi).1) (λ_=>Df v22.1 v22.2.1) (λxi=>Dq (Fb j4g j4n ⟨_,Iw.ok (n:=v22.1) (d:=v22.2.1) ⟨hv22.1.1 (of_decide_eq_true hx23),hv22.1.2⟩⟩ xi).1) (λi hi=>by rw[Ny hi]) (λi hi=>by(obtain rfl:i=0:=(ω));rw[Nx]) ·) (Ab 22 (gs (Dm 1 2 ·) (gs (Cc (.lit (.agg #[.int .i64 (Ac (Ac ((Ac (b.x-a.x))*(Ac ((l9.f ((j4+1)%l9.n)).x-a.x)))+Ac ((Ac (b.y-a.y))*(Ac ((l9.f ((j4+1)%l9.n)).y-a.y))))),.int .i64 (Ac (Ac ((Ac (b.x-a.x))*(Ac (b.x-a.x)))+Ac ((Ac (b.y-a.y))*(Ac (b.y-a.y)))))])) (.read 26) (Az 213 (.tmp 11) κ isAgg213 2 sizeOf213 26 1 κ 213 2 (λxi=>[.lit (.agg #[.int .i64 (Ac (Ac ((Ac (b.x-a.x))*(Ac ((l9.f j4).x-a.x)))+Ac ((Ac (b.y-a.y))*(Ac ((l9.f j4).y-a.y))))),.int .i64 (Ac (Ac ((Ac (b.x-a.x))*(Ac (b.x-a.x)))+Ac ((Ac (b.y-a.y))*(Ac (b.y-a.y)))))]),.lit (.agg #[.int .i64 (Ac (Ac ((Ac (b.x-a.x))*(Ac ((l9.f ((j4+1)%l9.n)).x-a.x)))+Ac ((Ac (b.y-a.y))*(Ac ((l9.f ((j4+1)%l9.n)).y-a.y))))),.int .i64 (Ac (Ac ((Ac (b.x-a.x))*(Ac (b.x-a.x)))+Ac ((Ac (b.y-a.y))*(Ac (b.y-a.y)))))])].getD xi .top) κ ω) ·) (Ab 10 (Exists.elim (Va (Ac (Ac ((Ac (b.x-a.x))*(Ac ((l9.f ((j4+1)%l9.n)).x-a.x)))+Ac ((Ac (b.y-a.y))*(Ac ((l9.f ((j4+1)%l9.n)).y-a.y))))) (Ac (Ac ((Ac (b.x-a.x))*(Ac (b.x-a.x)))+Ac ((Ac (b.y-a.y))*(Ac (b.y-a.y))))) ⟨Kp (Ac ((Ac (b.x-a.x))*(Ac ((l9.f ((j4+1)%l9.n)).x-a.x)))+Ac ((Ac (b.y-a.y))*(Ac ((l9.f ((j4+1)%l9.n)).y-a.y)))),Ko (Ac ((Ac (b.x-a.x))*(Ac ((l9.f ((j4+1)%l9.n)).x-a.x)))+Ac ((Ac (b.y-a.y))*(Ac ((l9.f ((j4+1)%l9.n)).y-a.y))))⟩ ⟨Kp (Ac ((Ac (b.x-a.x))*(Ac (b.x-a.x)))+Ac ((Ac (b.y-a.y))*(Ac (b.y-a.y)))),Ko (Ac ((Ac (b.x-a.x))*(Ac (b.x-a.x)))+Ac ((Ac (b.y-a.y))*(Ac (b.y-a.y))))⟩) λv26 hv26=>(gs (Aj hv26.2 ·) (Ab 13 (De 23 (v26.2.2=0) (λhx27 hx27d=>?_) (λhx27 hx27d=>?_)))))))))))
 refine Ab 2 (gs (Aj (Eo v26.1 (Bd.fit hv26.1.2.1 δ)) ·) (Ab 3 (De 29 ((0:Int)<=(v26.1).sign) (λhx28 hx28d=>?_) (λhx28 hx28d=>?_))))
 refine Ab 4 (gs (Aj (Hh v26.1 v26.2.1 (Bd.fit hv26.1.2.1 δ) (Bd.fit hv26.1.2.2 δ)) ·) (Ab 4 (De 36 ((v26.1-v26.2.1).sign<=0) (λhx29 hx29d=>?_) (λhx29 hx29d=>?_))))
 exact Ab 4 (gs (Iu 33 113 4 1 (λ_=>Df v26.1 v26.2.1) ·) (gs (Lz 48 113 113 4 (j4n+1) 1 30 33 34 (λxi=>Dq (Fb j4g j4n ⟨_,Iw.ok (n:=v22.1) (d:=v22.2.1) ⟨hv22.1.1 (of_decide_eq_true hx23),hv22.1.2⟩⟩ xi).1) (λ_=>Df v26.1 v26.2.1) (λxi=>Dq (Fb (Fb j4g j4n ⟨_,Iw.ok (n:=v22.1) (d:=v22.2.1) ⟨hv22.1.1 (of_decide_eq_true hx23),hv22.1.2⟩⟩) (j4n+1) ⟨_,Iw.ok (n:=v26.1) (d:=v26.2.1) ⟨hv26.1.1 (of_decide_eq_true hx27),hv26.1.2⟩⟩ xi).1) (λi hi=>by rw[Ny hi]) (λi hi=>by(obtain rfl:i=0:=(ω));rw[Nx]) ·) (Ab 20 (Ha (Ab 9 (Ha (Ab 3 (Cj (Ab 6 (Cj (Ab 8 (gs (Ao (((j4:Nat):Int)+1) ((j4+1:Nat):Int) ·) (Ab 2 (Bb [0,1,6,7,8] [(0,0),(1,1),(2,2),(3,3),(34,14),(5,5),(6,6),(7,7),(8,8),(10,10),(12,12),(13,13)] 15 [(61,1,1+f.hn,(λxi=>Bs (Dc f xi))),(213,2,2,(λxi=>[.lit (.agg #[.int .i64 (Ac (Ac ((Ac (b.x-a.x))*(Ac ((l9.f j4).x-a.x)))+Ac ((Ac (b.y-a.y))*(Ac ((l9.f j4).y-a.y))))),.int .i64 (Ac (Ac ((Ac (b.x-a.x))*(Ac (b.x-a.x)))+Ac ((Ac (b.y-a.y))*(Ac (b.y-a.y)))))]),.lit (.agg #[.int .i64 (Ac (Ac ((Ac (b.x-a.x))*(Ac ((l9.f ((j4+1)%l9.n)).x-a.x)))+Ac ((Ac (b.y-a.y))*(Ac ((l9.f ((j4+1)%l9.n)).y-a.y))))),.int .i64 (Ac (Ac ((Ac (b.x-a.x))*(Ac (b.x-a.x)))+Ac ((Ac (b.y-a.y))*(Ac (b.y-a.y)))))])].getD xi .top)),(113,4,1,(λ_=>Df v22.1 v22.2.1)),(113,4,1,(λ_=>Df v26.1 v26.2.1)),(113,4,j4n+1+1,(λxi=>Dq (Fb (Fb j4g j4n ⟨_,Iw.ok (n:=v22.1) (d:=v22.2.1) ⟨hv22.1.1 (of_decide_eq_true hx23),hv22.1.2⟩⟩) (j4n+1) ⟨_,Iw.ok (n:=v26.1) (d:=v26.2.1) ⟨hv26.1.1 (of_decide_eq_true hx27),hv26.1.2⟩⟩ xi).1))] ⟨(Bi λ_ _=>rfl),(Bi λi hi=>by match i,hi with|0,_=>rfl|1,_=>rfl|_+2,h=>exact absurd h ω),(Bi λ_ _=>rfl),(Bi λ_ _=>rfl),(Bi λ_ _=>rfl),trivial⟩ (hJ2 _ _ (by omega:l9.n-(j4+1)<l9.n-j4) ⟨j4+1,j4n+1+1,Fb (Fb j4g j4n ⟨_,Iw.ok (n:=v22.1) (d:=v22.2.1) ⟨hv22.1.1 (of_decide_eq_true hx23),hv22.1.2⟩⟩) (j4n+1) ⟨_,Iw.ok (n:=v26.1) (d:=v26.2.1) ⟨hv26.1.1 (of_decide_eq_true hx27),hv26.1.2⟩⟩,rfl,⟨Hr (Hr hFj4 (Kz ⟨hv22.1.1 (of_decide_eq_true hx23),hv22.1.2⟩ (of_decide_eq_true hx24) (of_decide_eq_true hx25))) (Kz ⟨hv26.1.1 (of_decide_eq_true hx27),hv26.1.2⟩ (of_decide_eq_true hx28) (of_decide_eq_true hx29)),ω,ω⟩,rfl⟩)))))))))))))))
 exact Ab 20 (Ha (Ab 9 (Ha (Ab 3 (Cj (Ab 6 (Cj (Ab 8 (gs (Ao (((j4:Nat):Int)+1) ((j4+1:Nat):Int) ·) (Ab 2 (Bb [0,1,6,7,8] [(0,0),(1,1),(2,2),(3,3),(30,14),(5,5),(6,6),(7,7),(8,8),(10,10),(12,12),(13,13)] 15 [(61,1,1+f.hn,(λxi=>Bs (Dc f xi))),(213,2,2,(λxi=>[.lit (.agg #[.int .i64 (Ac (Ac ((Ac (b.x-a.x))*(Ac ((l9.f j4).x-a.x)))+Ac ((Ac (b.y-a.y))*(Ac ((l9.f j4).y-a.y))))),.int .i64 (Ac (Ac ((Ac (b.x-a.x))*(Ac (b.x-a.x)))+Ac ((Ac (b.y-a.y))*(Ac (b.y-a.y)))))]),.lit (.agg #[.int .i64 (Ac (Ac ((Ac (b.x-a.x))*(Ac ((l9.f ((j4+1)%l9.n)).x-a.x)))+Ac ((Ac (b.y-a.y))*(Ac ((l9.f ((j4+1)%l9.n)).y-a.y))))),.int .i64 (Ac (Ac ((Ac (b.x-a.x))*(Ac (b.x-a.x)))+Ac ((Ac (b.y-a.y))*(Ac (b.y-a.y)))))])].getD xi .top)),(113,4,1,(λ_=>Df v22.1 v22.2.1)),(113,4,j4n+1,(λxi=>Dq (Fb j4g j4n ⟨_,Iw.ok (n:=v22.1) (d:=v22.2.1) ⟨hv22.1.1 (of_decide_eq_true hx23),hv22.1.2⟩⟩ xi).1))] ⟨(Bi λ_ _=>rfl),(Bi λi hi=>by match i,hi with|0,_=>rfl|1,_=>rfl|_+2,h=>exact absurd h ω),(Bi λ_ _=>rfl),(Bi λ_ _=>rfl),trivial⟩ (hJ2 _ _ (by omega:l9.n-(j4+1)<l9.n-j4) ⟨j4+1,j4n+1,Fb j4g j4n ⟨_,Iw.ok (n:=v22.1) (d:=v22.2.1) ⟨hv22.1.1 (of_decide_eq_true hx23),hv22.1.2⟩⟩,rfl,⟨Hr hFj4 (Kz ⟨hv22.1.1 (of_decide_eq_true hx23),hv22.1.2⟩ (of_decide_eq_true hx24) (of_decide_eq_true hx25)),ω,ω⟩,rfl⟩))))))))))))
 exact Ab 29 (Ha (Ab 9 (Ha (Ab 3 (Cj (Ab 6 (Cj (Ab 8 (gs (Ao (((j4:Nat):Int)+1) ((j4+1:Nat):Int) ·) (Ab 2 (Bb [0,1,6,7,8] [(0,0),(1,1),(2,2),(3,3),(30,14),(5,5),(6,6),(7,7),(8,8),(10,10),(12,12),(13,13)] 15 [(61,1,1+f.hn,(λxi=>Bs (Dc f xi))),(213,2,2,(λxi=>[.lit (.agg #[.int .i64 (Ac (Ac ((Ac (b.x-a.x))*(Ac ((l9.f j4).x-a.x)))+Ac ((Ac (b.y-a.y))*(Ac ((l9.f j4).y-a.y))))),.int .i64 (Ac (Ac ((Ac (b.x-a.x))*(Ac (b.x-a.x)))+Ac ((Ac (b.y-a.y))*(Ac (b.y-a.y)))))]),.lit (.agg #[.int .i64 (Ac (Ac ((Ac (b.x-a.x))*(Ac ((l9.f ((j4+1)%l9.n)).x-a.x)))+Ac ((Ac (b.y-a.y))*(Ac ((l9.f ((j4+1)%l9.n)).y-a.y))))),.int .i64 (Ac (Ac ((Ac (b.x-a.x))*(Ac (b.x-a.x)))+Ac ((Ac (b.y-a.y))*(Ac (b.y-a.y)))))])].getD xi .top)),(113,4,1,(λ_=>Df v22.1 v22.2.1)),(113,4,j4n+1,(λxi=>Dq (Fb j4g j4n ⟨_,Iw.ok (n:=v22.1) (d:=v22.2.1) ⟨hv22.1.1 (of_decide_eq_true hx23),hv22.1.2⟩⟩ xi).1))] ⟨(Bi λ_ _=>rfl),(Bi λi hi=>by match i,hi with|0,_=>rfl|1,_=>rfl|_+2,h=>exact absurd h ω),(Bi λ_ _=>rfl),(Bi λ_ _=>rfl),trivial⟩ (hJ2 _ _ (by omega:l9.n-(j4+1)<l9.n-j4) ⟨j4+1,j4n+1,Fb j4g j4n ⟨_,Iw.ok (n:=v22.1) (d:=v22.2.1) ⟨hv22.1.1 (of_decide_eq_true hx23),hv22.1.2⟩⟩,rfl,⟨Hr hFj4 (Kz ⟨hv22.1.1 (of_decide_eq_true hx23),hv22.1.2⟩ (of_decide_eq_true hx24) (of_decide_eq_true hx25)),ω,ω⟩,rfl⟩))))))))))))
 exact Ab 35 (Ha (Ab 9 (Ha (Ab 3 (Cj (Ab 6 (Cj (Ab 8 (gs (Ao (((j4:Nat):Int)+1) ((j4+1:Nat):Int) ·) (Ab 2 (Bb [0,1,6,7,8] [(0,0),(1,1),(2,2),(3,3),(30,14),(5,5),(6,6),(7,7),(8,8),(10,10),(12,12),(13,13)] 15 [(61,1,1+f.hn,(λxi=>Bs (Dc f xi))),(213,2,2,(λxi=>[.lit (.agg #[.int .i64 (Ac (Ac ((Ac (b.x-a.x))*(Ac ((l9.f j4).x-a.x)))+Ac ((Ac (b.y-a.y))*(Ac ((l9.f j4).y-a.y))))),.int .i64 (Ac (Ac ((Ac (b.x-a.x))*(Ac (b.x-a.x)))+Ac ((Ac (b.y-a.y))*(Ac (b.y-a.y)))))]),.lit (.agg #[.int .i64 (Ac (Ac ((Ac (b.x-a.x))*(Ac ((l9.f ((j4+1)%l9.n)).x-a.x)))+Ac ((Ac (b.y-a.y))*(Ac ((l9.f ((j4+1)%l9.n)).y-a.y))))),.int .i64 (Ac (Ac ((Ac (b.x-a.x))*(Ac (b.x-a.x)))+Ac ((Ac (b.y-a.y))*(Ac (b.y-a.y)))))])].getD xi .top)),(113,4,1,(λ_=>Df v22.1 v22.2.1)),(113,4,j4n+1,(λxi=>Dq (Fb j4g j4n ⟨_,Iw.ok (n:=v22.1) (d:=v22.2.1) ⟨hv22.1.1 (of_decide_eq_true hx23),hv22.1.2⟩⟩ xi).1))] ⟨(Bi λ_ _=>rfl),(Bi λi hi=>by match i,hi with|0,_=>rfl|1,_=>rfl|_+2,h=>exact absurd h ω),(Bi λ_ _=>rfl),(Bi λ_ _=>rfl),trivial⟩ (hJ2 _ _ (by omega:l9.n-(j4+1)<l9.n-j4) ⟨j4+1,j4n+1,Fb j4g j4n ⟨_,Iw.ok (n:=v22.1) (d:=v22.2.1) ⟨hv22.1.1 (of_decide_eq_true hx23),hv22.1.2⟩⟩,rfl,⟨Hr hFj4 (Kz ⟨hv22.1.1 (of_decide_eq_true hx23),hv22.1.2⟩ (of_decide_eq_true hx24) (of_decide_eq_true hx25)),ω,ω⟩,rfl⟩))))))))))))
 refine Ab 22 (gs (Dm 1 2 ·) (gs (Cc (.lit (.agg #[.int .i64 (Ac (Ac ((Ac (b.x-a.x))*(Ac ((l9.f ((j4+1)%l9.n)).x-a.x)))+Ac ((Ac (b.y-a.y))*(Ac ((l9.f ((j4+1)%l9.n)).y-a.y))))),.int .i64 (Ac (Ac ((Ac (b.x-a.x))*(Ac (b.x-a.x)))+Ac ((Ac (b.y-a.y))*(Ac (b.y-a.y)))))])) (.read 26) (Az 213 (.tmp 11) κ isAgg213 2 sizeOf213 26 1 κ 213 2 (λxi=>[.lit (.agg #[.int .i64 (Ac (Ac ((Ac (b.x-a.x))*(Ac ((l9.f j4).x-a.x)))+Ac ((Ac (b.y-a.y))*(Ac ((l9.f j4).y-a.y))))),.int .i64 (Ac (Ac ((Ac (b.x-a.x))*(Ac (b.x-a.x)))+Ac ((Ac (b.y-a.y))*(Ac (b.y-a.y)))))]),.lit (.agg #[.int .i64 (Ac (Ac ((Ac (b.x-a.x))*(Ac ((l9.f ((j4+1)%l9.n)).x-a.x)))+Ac ((Ac (b.y-a.y))*(Ac ((l9.f ((j4+1)%l9.n)).y-a.y))))),.int .i64 (Ac (Ac ((Ac (b.x-a.x))*(Ac (b.x-a.x)))+Ac ((Ac (b.y-a.y))*(Ac (b.y-a.y)))))])].getD xi .top) κ ω) ·) (Ab 10 (Exists.elim (Va (Ac (Ac ((Ac (b.x-a.x))*(Ac ((l9.f ((j4+1)%l9.n)).x-a.x)))+Ac ((Ac (b.y-a.y))*(Ac ((l9.f ((j4+1)%l9.n)).y-a.y))))) (Ac (Ac ((Ac (b.x-a.x))*(Ac (b.x-a.x)))+Ac ((Ac (b.y-a.y))*(Ac (b.y-a.y))))) ⟨Kp (Ac ((Ac (b.x-a.x))*(Ac ((l9.f ((j4+1)%l9.n)).x-a.x)))+Ac ((Ac (b.y-a.y))*(Ac ((l9.f ((j4+1)%l9.n)).y-a.y)))),Ko (Ac ((Ac (b.x-a.x))*(Ac ((l9.f ((j4+1)%l9.n)).x-a.x)))+Ac ((Ac (b.y-a.y))*(Ac ((l9.f ((j4+1)%l9.n)).y-a.y))))⟩ ⟨Kp (Ac ((Ac (b.x-a.x))*(Ac (b.x-a.x)))+Ac ((Ac (b.y-a.y))*(Ac (b.y-a.y)))),Ko (Ac ((Ac (b.x-a.x))*(Ac (b.x-a.x)))+Ac ((Ac (b.y-a.y))*(Ac (b.y-a.y))))⟩) λv30 hv30=>(gs (Aj hv30.2 ·) (Ab 13 (De 23 (v30.2.2=0) (λhx31 hx31d=>?_) (λhx31 hx31d=>?_))))))))
 refine Ab 2 (gs (Aj (Eo v30.1 (Bd.fit hv30.1.2.1 δ)) ·) (Ab 3 (De 29 ((0:Int)<=(v30.1).sign) (λhx32 hx32d=>?_) (λhx32 hx32d=>?_))))
 refine Ab 4 (gs (Aj (Hh v30.1 v30.2.1 (Bd.fit hv30.1.2.1 δ) (Bd.fit hv30.1.2.2 δ)) ·) (Ab 4 (De 36 ((v30.1-v30.2.1).sign<=0) (λhx33 hx33d=>?_) (λhx33 hx33d=>?_))))
 exact Ab 4 (gs (Iu 31 113 4 1 (λ_=>Df v30.1 v30.2.1) ·) (gs (Lz 48 113 113 4 j4n 1 14 31 32 (λxi=>Dq (j4g xi).1) (λ_=>Df v30.1 v30.2.1) (λxi=>Dq (Fb j4g j4n ⟨_,Iw.ok (n:=v30.1) (d:=v30.2.1) ⟨hv30.1.1 (of_decide_eq_true hx31),hv30.1.2⟩⟩ xi).1) (λi hi=>by rw[Ny hi]) (λi hi=>by(obtain rfl:i=0:=(ω));rw[Nx]) ·) (Ab 20 (Ha (Ab 9 (Ha (Ab 3 (Cj (Ab 6 (Cj (Ab 8 (gs (Ao (((j4:Nat):Int)+1) ((j4+1:Nat):Int) ·) (Ab 2 (Bb [0,1,6,7,8] [(0,0),(1,1),(2,2),(3,3),(32,14),(5,5),(6,6),(7,7),(8,8),(10,10),(12,12),(13,13)] 15 [(61,1,1+f.hn,(λxi=>Bs (Dc f xi))),(213,2,2,(λxi=>[.lit (.agg #[.int .i64 (Ac (Ac ((Ac (b.x-a.x))*(Ac ((l9.f j4).x-a.x)))+Ac ((Ac (b.y-a.y))*(Ac ((l9.f j4).y-a.y))))),.int .i64 (Ac (Ac ((Ac (b.x-a.x))*(Ac (b.x-a.x)))+Ac ((Ac (b.y-a.y))*(Ac (b.y-a.y)))))]),.lit (.agg #[.int .i64 (Ac (Ac ((Ac (b.x-a.x))*(Ac ((l9.f ((j4+1)%l9.n)).x-a.x)))+Ac ((Ac (b.y-a.y))*(Ac ((l9.f ((j4+1)%l9.n)).y-a.y))))),.int .i64 (Ac (Ac ((Ac (b.x-a.x))*(Ac (b.x-a.x)))+Ac ((Ac (b.y-a.y))*(Ac (b.y-a.y)))))])].getD xi .top)),(113,4,1,(λ_=>Df v30.1 v30.2.1)),(113,4,j4n+1,(λxi=>Dq (Fb j4g j4n ⟨_,Iw.ok (n:=v30.1) (d:=v30.2.1) ⟨hv30.1.1 (of_decide_eq_true hx31),hv30.1.2⟩⟩ xi).1))] ⟨(Bi λ_ _=>rfl),(Bi λi hi=>by match i,hi with|0,_=>rfl|1,_=>rfl|_+2,h=>exact absurd h ω),(Bi λ_ _=>rfl),(Bi λ_ _=>rfl),trivial⟩ (hJ2 _ _ (by omega:l9.n-(j4+1)<l9.n-j4) ⟨j4+1,j4n+1,Fb j4g j4n ⟨_,Iw.ok (n:=v30.1) (d:=v30.2.1) ⟨hv30.1.1 (of_decide_eq_true hx31),hv30.1.2⟩⟩,rfl,⟨Hr hFj4 (Kz ⟨hv30.1.1 (of_decide_eq_true hx31),hv30.1.2⟩ (of_decide_eq_true hx32) (of_decide_eq_true hx33)),ω,ω⟩,rfl⟩)))))))))))))))
 exact Ab 20 (Ha (Ab 9 (Ha (Ab 3 (Cj (Ab 6 (Cj (Ab 8 (gs (Ao (((j4:Nat):Int)+1) ((j4+1:Nat):Int) ·) (Ab 2 (Bb [0,1,6,7,8] [(0,0),(1,1),(2,2),(3,3),(14,14),(5,5),(6,6),(7,7),(8,8),(10,10),(12,12),(13,13)] 15 [(113,4,j4n,(λxi=>Dq (j4g xi).1)),(61,1,1+f.hn,(λxi=>Bs (Dc f xi))),(213,2,2,(λxi=>[.lit (.agg #[.int .i64 (Ac (Ac ((Ac (b.x-a.x))*(Ac ((l9.f j4).x-a.x)))+Ac ((Ac (b.y-a.y))*(Ac ((l9.f j4).y-a.y))))),.int .i64 (Ac (Ac ((Ac (b.x-a.x))*(Ac (b.x-a.x)))+Ac ((Ac (b.y-a.y))*(Ac (b.y-a.y)))))]),.lit (.agg #[.int .i64 (Ac (Ac ((Ac (b.x-a.x))*(Ac ((l9.f ((j4+1)%l9.n)).x-a.x)))+Ac ((Ac (b.y-a.y))*(Ac ((l9.f ((j4+1)%l9.n)).y-a.y))))),.int .i64 (Ac (Ac ((Ac (b.x-a.x))*(Ac (b.x-a.x)))+Ac ((Ac (b.y-a.y))*(Ac (b.y-a.y)))))])].getD xi .top))] ⟨(Bi λ_ _=>rfl),(Bi λ_ _=>rfl),(Bi λi hi=>by match i,hi with|0,_=>rfl|1,_=>rfl|_+2,h=>exact absurd h ω),trivial⟩ (hJ2 _ _ (by omega:l9.n-(j4+1)<l9.n-j4) ⟨j4+1,j4n,j4g,rfl,⟨hFj4,ω,ω⟩,rfl⟩))))))))))))
 exact Ab 29 (Ha (Ab 9 (Ha (Ab 3 (Cj (Ab 6 (Cj (Ab 8 (gs (Ao (((j4:Nat):Int)+1) ((j4+1:Nat):Int) ·) (Ab 2 (Bb [0,1,6,7,8] [(0,0),(1,1),(2,2),(3,3),(14,14),(5,5),(6,6),(7,7),(8,8),(10,10),(12,12),(13,13)] 15 [(113,4,j4n,(λxi=>Dq (j4g xi).1)),(61,1,1+f.hn,(λxi=>Bs (Dc f xi))),(213,2,2,(λxi=>[.lit (.agg #[.int .i64 (Ac (Ac ((Ac (b.x-a.x))*(Ac ((l9.f j4).x-a.x)))+Ac ((Ac (b.y-a.y))*(Ac ((l9.f j4).y-a.y))))),.int .i64 (Ac (Ac ((Ac (b.x-a.x))*(Ac (b.x-a.x)))+Ac ((Ac (b.y-a.y))*(Ac (b.y-a.y)))))]),.lit (.agg #[.int .i64 (Ac (Ac ((Ac (b.x-a.x))*(Ac ((l9.f ((j4+1)%l9.n)).x-a.x)))+Ac ((Ac (b.y-a.y))*(Ac ((l9.f ((j4+1)%l9.n)).y-a.y))))),.int .i64 (Ac (Ac ((Ac (b.x-a.x))*(Ac (b.x-a.x)))+Ac ((Ac (b.y-a.y))*(Ac (b.y-a.y)))))])].getD xi .top))] ⟨(Bi λ_ _=>rfl),(Bi λ_ _=>rfl),(Bi λi hi=>by match i,hi with|0,_=>rfl|1,_=>rfl|_+2,h=>exact absurd h ω),trivial⟩ (hJ2 _ _ (by omega:l9.n-(j4+1)<l9.n-j4) ⟨j4+1,j4n,j4g,rfl,⟨hFj4,ω,ω⟩,rfl⟩))))))))))))
 exact Ab 35 (Ha (Ab 9 (Ha (Ab 3 (Cj (Ab 6 (Cj (Ab 8 (gs (Ao (((j4:Nat):Int)+1) ((j4+1:Nat):Int) ·) (Ab 2 (Bb [0,1,6,7,8] [(0,0),(1,1),(2,2),(3,3),(14,14),(5,5),(6,6),(7,7),(8,8),(10,10),(12,12),(13,13)] 15 [(113,4,j4n,(λxi=>Dq (j4g xi).1)),(61,1,1+f.hn,(λxi=>Bs (Dc f xi))),(213,2,2,(λxi=>[.lit (.agg #[.int .i64 (Ac (Ac ((Ac (b.x-a.x))*(Ac ((l9.f j4).x-a.x)))+Ac ((Ac (b.y-a.y))*(Ac ((l9.f j4).y-a.y))))),.int .i64 (Ac (Ac ((Ac (b.x-a.x))*(Ac (b.x-a.x)))+Ac ((Ac (b.y-a.y))*(Ac (b.y-a.y)))))]),.lit (.agg #[.int .i64 (Ac (Ac ((Ac (b.x-a.x))*(Ac ((l9.f ((j4+1)%l9.n)).x-a.x)))+Ac ((Ac (b.y-a.y))*(Ac ((l9.f ((j4+1)%l9.n)).y-a.y))))),.int .i64 (Ac (Ac ((Ac (b.x-a.x))*(Ac (b.x-a.x)))+Ac ((Ac (b.y-a.y))*(Ac (b.y-a.y)))))])].getD xi .top))] ⟨(Bi λ_ _=>rfl),(Bi λ_ _=>rfl),(Bi λi hi=>by match i,hi with|0,_=>rfl|1,_=>rfl|_+2,h=>exact absurd h ω),trivial⟩ (hJ2 _ _ (by omega:l9.n-(j4+1)<l9.n-j4) ⟨j4+1,j4n,j4g,rfl,⟨hFj4,ω,ω⟩,rfl⟩))))))))))))
 refine Ab 31 (gs (Dm 1 2 ·) (gs (Cc (.lit (.agg #[.int .i64 (Ac (Ac ((Ac (b.x-a.x))*(Ac ((l9.f ((j4+1)%l9.n)).x-a.x)))+Ac ((Ac (b.y-a.y))*(Ac ((l9.f ((j4+1)%l9.n)).y-a.y))))),.int .i64 (Ac (Ac ((Ac (b.x-a.x))*(Ac (b.x-a.x)))+Ac ((Ac (b.y-a.y))*(Ac (b.y-a.y)))))])) (.read 26) (Az 213 (.tmp 11) κ isAgg213 2 sizeOf213 26 1 κ 213 2 (λxi=>[.lit (.agg #[.int .i64 (Ac (Ac ((Ac (b.x-a.x))*(Ac ((l9.f j4).x-a.x)))+Ac ((Ac (b.y-a.y))*(Ac ((l9.f j4).y-a.y))))),.int .i64 (Ac (Ac ((Ac (b.x-a.x))*(Ac (b.x-a.x)))+Ac ((Ac (b.y-a.y))*(Ac (b.y-a.y)))))]),.lit (.agg #[.int .i64 (Ac (Ac ((Ac (b.x-a.x))*(Ac ((l9.f ((j4+1)%l9.n)).x-a.x)))+Ac ((Ac (b.y-a.y))*(Ac ((l9.f ((j4+1)%l9.n)).y-a.y))))),.int .i64 (Ac (Ac ((Ac (b.x-a.x))*(Ac (b.x-a.x)))+Ac ((Ac (b.y-a.y))*(Ac (b.y-a.y)))))])].getD xi .top) κ ω) ·) (Ab 10 (Exists.elim (Va (Ac (Ac ((Ac (b.x-a.x))*(Ac ((l9.f ((j4+1)%l9.n)).x-a.x)))+Ac ((Ac (b.y-a.y))*(Ac ((l9.f ((j4+1)%l9.n)).y-a.y))))) (Ac (Ac ((Ac (b.x-a.x))*(Ac (b.x-a.x)))+Ac ((Ac (b.y-a.y))*(Ac (b.y-a.y))))) ⟨Kp (Ac ((Ac (b.x-a.x))*(Ac ((l9.f ((j4+1)%l9.n)).x-a.x)))+Ac ((Ac (b.y-a.y))*(Ac ((l9.f ((j4+1)%l9.n)).y-a.y)))),Ko (Ac ((Ac (b.x-a.x))*(Ac ((l9.f ((j4+1)%l9.n)).x-a.x)))+Ac ((Ac (b.y-a.y))*(Ac ((l9.f ((j4+1)%l9.n)).y-a.y))))⟩ ⟨Kp (Ac ((Ac (b.x-a.x))*(Ac (b.x-a.x)))+Ac ((Ac (b.y-a.y))*(Ac (b.y-a.y)))),Ko (Ac ((Ac (b.x-a.x))*(Ac (b.x-a.x)))+Ac ((Ac (b.y-a.y))*(Ac (b.y-a.y))))⟩) λv34 hv34=>(gs (Aj hv34.2 ·) (Ab 13 (De 23 (v34.2.2=0) (λhx35 hx35d=>?_) (λhx35 hx35d=>?_))))))))
 refine Ab 2 (gs (Aj (Eo v34.1 (Bd.fit hv34.1.2.1 δ)) ·) (Ab 3 (De 29 ((0:Int)<=(v34.1).sign) (λhx36 hx36d=>?_) (λhx36 hx36d=>?_))))
 refine Ab 4 (gs (Aj (Hh v34.1 v34.2.1 (Bd.fit hv34.1.2.1 δ) (Bd.fit hv34.1.2.2 δ)) ·) (Ab 4 (De 36 ((v34.1-v34.2.1).sign<=0) (λhx37 hx37d=>?_) (λhx37 hx37d=>?_))))
 exact Ab 4 (gs (Iu 31 113 4 1 (λ_=>Df v34.1 v34.2.1) ·) (gs (Lz 48 113 113 4 j4n 1 14 31 32 (λxi=>Dq (j4g xi).1) (λ_=>Df v34.1 v34.2.1) (λxi=>Dq (Fb j4g j4n ⟨_,Iw.ok (n:=v34.1) (d:=v34.2.1) ⟨hv34.1.1 (of_decide_eq_true hx35),hv34.1.2⟩⟩ xi).1) (λi hi=>by rw[Ny hi]) (λi hi=>by(obtain rfl:i=0:=(ω));rw[Nx]) ·) (Ab 20 (Ha (Ab 9 (Ha (Ab 3 (Cj (Ab 6 (Cj (Ab 8 (gs (Ao (((j4:Nat):Int)+1) ((j4+1:Nat):Int) ·) (Ab 2 (Bb [0,1,6,7,8] [(0,0),(1,1),(2,2),(3,3),(32,14),(5,5),(6,6),(7,7),(8,8),(10,10),(12,12),(13,13)] 15 [(61,1,1+f.hn,(λxi=>Bs (Dc f xi))),(213,2,2,(λxi=>[.lit (.agg #[.int .i64 (Ac (Ac ((Ac (b.x-a.x))*(Ac ((l9.f j4).x-a.x)))+Ac ((Ac (b.y-a.y))*(Ac ((l9.f j4).y-a.y))))),.int .i64 (Ac (Ac ((Ac (b.x-a.x))*(Ac (b.x-a.x)))+Ac ((Ac (b.y-a.y))*(Ac (b.y-a.y)))))]),.lit (.agg #[.int .i64 (Ac (Ac ((Ac (b.x-a.x))*(Ac ((l9.f ((j4+1)%l9.n)).x-a.x)))+Ac ((Ac (b.y-a.y))*(Ac ((l9.f ((j4+1)%l9.n)).y-a.y))))),.int .i64 (Ac (Ac ((Ac (b.x-a.x))*(Ac (b.x-a.x)))+Ac ((Ac (b.y-a.y))*(Ac (b.y-a.y)))))])].getD xi .top)),(113,4,1,(λ_=>Df v34.1 v34.2.1)),(113,4,j4n+1,(λxi=>Dq (Fb j4g j4n ⟨_,Iw.ok (n:=v34.1) (d:=v34.2.1) ⟨hv34.1.1 (of_decide_eq_true hx35),hv34.1.2⟩⟩ xi).1))] ⟨(Bi λ_ _=>rfl),(Bi λi hi=>by match i,hi with|0,_=>rfl|1,_=>rfl|_+2,h=>exact absurd h ω),(Bi λ_ _=>rfl),(Bi λ_ _=>rfl),trivial⟩ (hJ2 _ _ (by omega:l9.n-(j4+1)<l9.n-j4) ⟨j4+1,j4n+1,Fb j4g j4n ⟨_,Iw.ok (n:=v34.1) (d:=v34.2.1) ⟨hv34.1.1 (of_decide_eq_true hx35),hv34.1.2⟩⟩,rfl,⟨Hr hFj4 (Kz ⟨hv34.1.1 (of_decide_eq_true hx35),hv34.1.2⟩ (of_decide_eq_true hx36) (of_decide_eq_true hx37)),ω,ω⟩,rfl⟩)))))))))))))))
 exact Ab 20 (Ha (Ab 9 (Ha (Ab 3 (Cj (Ab 6 (Cj (Ab 8 (gs (Ao (((j4:Nat):Int)+1) ((j4+1:Nat):Int) ·) (Ab 2 (Bb [0,1,6,7,8] [(0,0),(1,1),(2,2),(3,3),(14,14),(5,5),(6,6),(7,7),(8,8),(10,10),(12,12),(13,13)] 15 [(113,4,j4n,(λxi=>Dq (j4g xi).1)),(61,1,1+f.hn,(λxi=>Bs (Dc f xi))),(213,2,2,(λxi=>[.lit (.agg #[.int .i64 (Ac (Ac ((Ac (b.x-a.x))*(Ac ((l9.f j4).x-a.x)))+Ac ((Ac (b.y-a.y))*(Ac ((l9.f j4).y-a.y))))),.int .i64 (Ac (Ac ((Ac (b.x-a.x))*(Ac (b.x-a.x)))+Ac ((Ac (b.y-a.y))*(Ac (b.y-a.y)))))]),.lit (.agg #[.int .i64 (Ac (Ac ((Ac (b.x-a.x))*(Ac ((l9.f ((j4+1)%l9.n)).x-a.x)))+Ac ((Ac (b.y-a.y))*(Ac ((l9.f ((j4+1)%l9.n)).y-a.y))))),.int .i64 (Ac (Ac ((Ac (b.x-a.x))*(Ac (b.x-a.x)))+Ac ((Ac (b.y-a.y))*(Ac (b.y-a.y)))))])].getD xi .top))] ⟨(Bi λ_ _=>rfl),(Bi λ_ _=>rfl),(Bi λi hi=>by match i,hi with|0,_=>rfl|1,_=>rfl|_+2,h=>exact absurd h ω),trivial⟩ (hJ2 _ _ (by omega:l9.n-(j4+1)<l9.n-j4) ⟨j4+1,j4n,j4g,rfl,⟨hFj4,ω,ω⟩,rfl⟩))))))))))))
 exact Ab 29 (Ha (Ab 9 (Ha (Ab 3 (Cj (Ab 6 (Cj (Ab 8 (gs (Ao (((j4:Nat):Int)+1) ((j4+1:Nat):Int) ·) (Ab 2 (Bb [0,1,6,7,8] [(0,0),(1,1),(2,2),(3,3),(14,14),(5,5),(6,6),(7,7),(8,8),(10,10),(12,12),(13,13)] 15 [(113,4,j4n,(λxi=>Dq (j4g xi).1)),(61,1,1+f.hn,(λxi=>Bs (Dc f xi))),(213,2,2,(λxi=>[.lit (.agg #[.int .i64 (Ac (Ac ((Ac (b.x-a.x))*(Ac ((l9.f j4).x-a.x)))+Ac ((Ac (b.y-a.y))*(Ac ((l9.f j4).y-a.y))))),.int .i64 (Ac (Ac ((Ac (b.x-a.x))*(Ac (b.x-a.x)))+Ac ((Ac (b.y-a.y))*(Ac (b.y-a.y)))))]),.lit (.agg #[.int .i64 (Ac (Ac ((Ac (b.x-a.x))*(Ac ((l9.f ((j4+1)%l9.n)).x-a.x)))+Ac ((Ac (b.y-a.y))*(Ac ((l9.f ((j4+1)%l9.n)).y-a.y))))),.int .i64 (Ac (Ac ((Ac (b.x-a.x))*(Ac (b.x-a.x)))+Ac ((Ac (b.y-a.y))*(Ac (b.y-a.y)))))])].getD xi .top))] ⟨(Bi λ_ _=>rfl),(Bi λ_ _=>rfl),(Bi λi hi=>by match i,hi with|0,_=>rfl|1,_=>rfl|_+2,h=>exact absurd h ω),trivial⟩ (hJ2 _ _ (by omega:l9.n-(j4+1)<l9.n-j4) ⟨j4+1,j4n,j4g,rfl,⟨hFj4,ω,ω⟩,rfl⟩))))))))))))
 exact Ab 35 (Ha (Ab 9 (Ha (Ab 3 (Cj (Ab 6 (Cj (Ab 8 (gs (Ao (((j4:Nat):Int)+1) ((j4+1:Nat):Int) ·) (Ab 2 (Bb [0,1,6,7,8] [(0,0),(1,1),(2,2),(3,3),(14,14),(5,5),(6,6),(7,7),(8,8),(10,10),(12,12),(13,13)] 15 [(113,4,j4n,(λxi=>Dq (j4g xi).1)),(61,1,1+f.hn,(λxi=>Bs (Dc f xi))),(213,2,2,(λxi=>[.lit (.agg #[.int .i64 (Ac (Ac ((Ac (b.x-a.x))*(Ac ((l9.f j4).x-a.x)))+Ac ((Ac (b.y-a.y))*(Ac ((l9.f j4).y-a.y))))),.int .i64 (Ac (Ac ((Ac (b.x-a.x))*(Ac (b.x-a.x)))+Ac ((Ac (b.y-a.y))*(Ac (b.y-a.y)))))]),.lit (.agg #[.int .i64 (Ac (Ac ((Ac (b.x-a.x))*(Ac ((l9.f ((j4+1)%l9.n)).x-a.x)))+Ac ((Ac (b.y-a.y))*(Ac ((l9.f ((j4+1)%l9.n)).y-a.y))))),.int .i64 (Ac (Ac ((Ac (b.x-a.x))*(Ac (b.x-a.x)))+Ac ((Ac (b.y-a.y))*(Ac (b.y-a.y)))))])].getD xi .top))] ⟨(Bi λ_ _=>rfl),(Bi λ_ _=>rfl),(Bi λi hi=>by match i,hi with|0,_=>rfl|1,_=>rfl|_+2,h=>exact absurd h ω),trivial⟩ (hJ2 _ _ (by omega:l9.n-(j4+1)<l9.n-j4) ⟨j4+1,j4n,j4g,rfl,⟨hFj4,ω,ω⟩,rfl⟩))))))))))))
 refine Ab 37 (gs (Dm 1 2 ·) (gs (Cc (.lit (.agg #[.int .i64 (Ac (Ac ((Ac (b.x-a.x))*(Ac ((l9.f ((j4+1)%l9.n)).x-a.x)))+Ac ((Ac (b.y-a.y))*(Ac ((l9.f ((j4+1)%l9.n)).y-a.y))))),.int .i64 (Ac (Ac ((Ac (b.x-a.x))*(Ac (b.x-a.x)))+Ac ((Ac (b.y-a.y))*(Ac (b.y-a.y)))))])) (.read 26) (Az 213 (.tmp 11) κ isAgg213 2 sizeOf213 26 1 κ 213 2 (λxi=>[.lit (.agg #[.int .i64 (Ac (Ac ((Ac (b.x-a.x))*(Ac ((l9.f j4).x-a.x)))+Ac ((Ac (b.y-a.y))*(Ac ((l9.f j4).y-a.y))))),.int .i64 (Ac (Ac ((Ac (b.x-a.x))*(Ac (b.x-a.x)))+Ac ((Ac (b.y-a.y))*(Ac (b.y-a.y)))))]),.lit (.agg #[.int .i64 (Ac (Ac ((Ac (b.x-a.x))*(Ac ((l9.f ((j4+1)%l9.n)).x-a.x)))+Ac ((Ac (b.y-a.y))*(Ac ((l9.f ((j4+1)%l9.n)).y-a.y))))),.int .i64 (Ac (Ac ((Ac (b.x-a.x))*(Ac (b.x-a.x)))+Ac ((Ac (b.y-a.y))*(Ac (b.y-a.y)))))])].getD xi .top) κ ω) ·) (Ab 10 (Exists.elim (Va (Ac (Ac ((Ac (b.x-a.x))*(Ac ((l9.f ((j4+1)%l9.n)).x-a.x)))+Ac ((Ac (b.y-a.y))*(Ac ((l9.f ((j4+1)%l9.n)).y-a.y))))) (Ac (Ac ((Ac (b.x-a.x))*(Ac (b.x-a.x)))+Ac ((Ac (b.y-a.y))*(Ac (b.y-a.y))))) ⟨Kp (Ac ((Ac (b.x-a.x))*(Ac ((l9.f ((j4+1)%l9.n)).x-a.x)))+Ac ((Ac (b.y-a.y))*(Ac ((l9.f ((j4+1)%l9.n)).y-a.y)))),Ko (Ac ((Ac (b.x-a.x))*(Ac ((l9.f ((j4+1)%l9.n)).x-a.x)))+Ac ((Ac (b.y-a.y))*(Ac ((l9.f ((j4+1)%l9.n)).y-a.y))))⟩ ⟨Kp (Ac ((Ac (b.x-a.x))*(Ac (b.x-a.x)))+Ac ((Ac (b.y-a.y))*(Ac (b.y-a.y)))),Ko (Ac ((Ac (b.x-a.x))*(Ac (b.x-a.x)))+Ac ((Ac (b.y-a.y))*(Ac (b.y-a.y))))⟩) λv38 hv38=>(gs (Aj hv38.2 ·) (Ab 13 (De 23 (v38.2.2=0) (λhx39 hx39d=>?_) (λhx39 hx39d=>?_))))))))
 refine Ab 2 (gs (Aj (Eo v38.1 (Bd.fit hv38.1.2.1 δ)) ·) (Ab 3 (De 29 ((0:Int)<=(v38.1).sign) (λhx40 hx40d=>?_) (λhx40 hx40d=>?_))))
 refine Ab 4 (gs (Aj (Hh v38.1 v38.2.1 (Bd.fit hv38.1.2.1 δ) (Bd.fit hv38.1.2.2 δ)) ·) (Ab 4 (De 36 ((v38.1-v38.2.1).sign<=0) (λhx41 hx41d=>?_) (λhx41 hx41d=>?_))))
 exact Ab 4 (gs (Iu 31 113 4 1 (λ_=>Df v38.1 v38.2.1) ·) (gs (Lz 48 113 113 4 j4n 1 14 31 32 (λxi=>Dq (j4g xi).1) (λ_=>Df v38.1 v38.2.1) (λxi=>Dq (Fb j4g j4n ⟨_,Iw.ok (n:=v38.1) (d:=v38.2.1) ⟨hv38.1.1 (of_decide_eq_true hx39),hv38.1.2⟩⟩ xi).1) (λi hi=>by rw[Ny hi]) (λi hi=>by(obtain rfl:i=0:=(ω));rw[Nx]) ·) (Ab 20 (Ha (Ab 9 (Ha (Ab 3 (Cj (Ab 6 (Cj (Ab 8 (gs (Ao (((j4:Nat):Int)+1) ((j4+1:Nat):Int) ·) (Ab 2 (Bb [0,1,6,7,8] [(0,0),(1,1),(2,2),(3,3),(32,14),(5,5),(6,6),(7,7),(8,8),(10,10),(12,12),(13,13)] 15 [(61,1,1+f.hn,(λxi=>Bs (Dc f xi))),(213,2,2,(λxi=>[.lit (.agg #[.int .i64 (Ac (Ac ((Ac (b.x-a.x))*(Ac ((l9.f j4).x-a.x)))+Ac ((Ac (b.y-a.y))*(Ac ((l9.f j4).y-a.y))))),.int .i64 (Ac (Ac ((Ac (b.x-a.x))*(Ac (b.x-a.x)))+Ac ((Ac (b.y-a.y))*(Ac (b.y-a.y)))))]),.lit (.agg #[.int .i64 (Ac (Ac ((Ac (b.x-a.x))*(Ac ((l9.f ((j4+1)%l9.n)).x-a.x)))+Ac ((Ac (b.y-a.y))*(Ac ((l9.f ((j4+1)%l9.n)).y-a.y))))),.int .i64 (Ac (Ac ((Ac (b.x-a.x))*(Ac (b.x-a.x)))+Ac ((Ac (b.y-a.y))*(Ac (b.y-a.y)))))])].getD xi .top)),(113,4,1,(λ_=>Df v38.1 v38.2.1)),(113,4,j4n+1,(λxi=>Dq (Fb j4g j4n ⟨_,Iw.ok (n:=v38.1) (d:=v38.2.1) ⟨hv38.1.1 (of_decide_eq_true hx39),hv38.1.2⟩⟩ xi).1))] ⟨(Bi λ_ _=>rfl),(Bi λi hi=>by match i,hi with|0,_=>rfl|1,_=>rfl|_+2,h=>exact absurd h ω),(Bi λ_ _=>rfl),(Bi λ_ _=>rfl),trivial⟩ (hJ2 _ _ (by omega:l9.n-(j4+1)<l9.n-j4) ⟨j4+1,j4n+1,Fb j4g j4n ⟨_,Iw.ok (n:=v38.1) (d:=v38.2.1) ⟨hv38.1.1 (of_decide_eq_true hx39),hv38.1.2⟩⟩,rfl,⟨Hr hFj4 (Kz ⟨hv38.1.1 (of_decide_eq_true hx39),hv38.1.2⟩ (of_decide_eq_true hx40) (of_decide_eq_true hx41)),ω,ω⟩,rfl⟩)))))))))))))))
 exact Ab 20 (Ha (Ab 9 (Ha (Ab 3 (Cj (Ab 6 (Cj (Ab 8 (gs (Ao (((j4:Nat):Int)+1) ((j4+1:Nat):Int) ·) (Ab 2 (Bb [0,1,6,7,8] [(0,0),(1,1),(2,2),(3,3),(14,14),(5,5),(6,6),(7,7),(8,8),(10,10),(12,12),(13,13)] 15 [(113,4,j4n,(λxi=>Dq (j4g xi).1)),(61,1,1+f.hn,(λxi=>Bs (Dc f xi))),(213,2,2,(λxi=>[.lit (.agg #[.int .i64 (Ac (Ac ((Ac (b.x-a.x))*(Ac ((l9.f j4).x-a.x)))+Ac ((Ac (b.y-a.y))*(Ac ((l9.f j4).y-a.y))))),.int .i64 (Ac (Ac ((Ac (b.x-a.x))*(Ac (b.x-a.x)))+Ac ((Ac (b.y-a.y))*(Ac (b.y-a.y)))))]),.lit (.agg #[.int .i64 (Ac (Ac ((Ac (b.x-a.x))*(Ac ((l9.f ((j4+1)%l9.n)).x-a.x)))+Ac ((Ac (b.y-a.y))*(Ac ((l9.f ((j4+1)%l9.n)).y-a.y))))),.int .i64 (Ac (Ac ((Ac (b.x-a.x))*(Ac (b.x-a.x)))+Ac ((Ac (b.y-a.y))*(Ac (b.y-a.y)))))])].getD xi .top))] ⟨(Bi λ_ _=>rfl),(Bi λ_ _=>rfl),(Bi λi hi=>by match i,hi with|0,_=>rfl|1,_=>rfl|_+2,h=>exact absurd h ω),trivial⟩ (hJ2 _ _ (by omega:l9.n-(j4+1)<l9.n-j4) ⟨j4+1,j4n,j4g,rfl,⟨hFj4,ω,ω⟩,rfl⟩))))))))))))
 exact Ab 29 (Ha (Ab 9 (Ha (Ab 3 (Cj (Ab 6 (Cj (Ab 8 (gs (Ao (((j4:Nat):Int)+1) ((j4+1:Nat):Int) ·) (Ab 2 (Bb [0,1,6,7,8] [(0,0),(1,1),(2,2),(3,3),(14,14),(5,5),(6,6),(7,7),(8,8),(10,10),(12,12),(13,13)] 15 [(113,4,j4n,(λxi=>Dq (j4g xi).1)),(61,1,1+f.hn,(λxi=>Bs (Dc f xi))),(213,2,2,(λxi=>[.lit (.agg #[.int .i64 (Ac (Ac ((Ac (b.x-a.x))*(Ac ((l9.f j4).x-a.x)))+Ac ((Ac (b.y-a.y))*(Ac ((l9.f j4).y-a.y))))),.int .i64 (Ac (Ac ((Ac (b.x-a.x))*(Ac (b.x-a.x)))+Ac ((Ac (b.y-a.y))*(Ac (b.y-a.y)))))]),.lit (.agg #[.int .i64 (Ac (Ac ((Ac (b.x-a.x))*(Ac ((l9.f ((j4+1)%l9.n)).x-a.x)))+Ac ((Ac (b.y-a.y))*(Ac ((l9.f ((j4+1)%l9.n)).y-a.y))))),.int .i64 (Ac (Ac ((Ac (b.x-a.x))*(Ac (b.x-a.x)))+Ac ((Ac (b.y-a.y))*(Ac (b.y-a.y)))))])].getD xi .top))] ⟨(Bi λ_ _=>rfl),(Bi λ_ _=>rfl),(Bi λi hi=>by match i,hi with|0,_=>rfl|1,_=>rfl|_+2,h=>exact absurd h ω),trivial⟩ (hJ2 _ _ (by omega:l9.n-(j4+1)<l9.n-j4) ⟨j4+1,j4n,j4g,rfl,⟨hFj4,ω,ω⟩,rfl⟩))))))))))))
 exact Ab 35 (Ha (Ab 9 (Ha (Ab 3 (Cj (Ab 6 (Cj (Ab 8 (gs (Ao (((j4:Nat):Int)+1) ((j4+1:Nat):Int) ·) (Ab 2 (Bb [0,1,6,7,8] [(0,0),(1,1),(2,2),(3,3),(14,14),(5,5),(6,6),(7,7),(8,8),(10,10),(12,12),(13,13)] 15 [(113,4,j4n,(λxi=>Dq (j4g xi).1)),(61,1,1+f.hn,(λxi=>Bs (Dc f xi))),(213,2,2,(λxi=>[.lit (.agg #[.int .i64 (Ac (Ac ((Ac (b.x-a.x))*(Ac ((l9.f j4).x-a.x)))+Ac ((Ac (b.y-a.y))*(Ac ((l9.f j4).y-a.y))))),.int .i64 (Ac (Ac ((Ac (b.x-a.x))*(Ac (b.x-a.x)))+Ac ((Ac (b.y-a.y))*(Ac (b.y-a.y)))))]),.lit (.agg #[.int .i64 (Ac (Ac ((Ac (b.x-a.x))*(Ac ((l9.f ((j4+1)%l9.n)).x-a.x)))+Ac ((Ac (b.y-a.y))*(Ac ((l9.f ((j4+1)%l9.n)).y-a.y))))),.int .i64 (Ac (Ac ((Ac (b.x-a.x))*(Ac (b.x-a.x)))+Ac ((Ac (b.y-a.y))*(Ac (b.y-a.y)))))])].getD xi .top))] ⟨(Bi λ_ _=>rfl),(Bi λ_ _=>rfl),(Bi λi hi=>by match i,hi with|0,_=>rfl|1,_=>rfl|_+2,h=>exact absurd h ω),trivial⟩ (hJ2 _ _ (by omega:l9.n-(j4+1)<l9.n-j4) ⟨j4+1,j4n,j4g,rfl,⟨hFj4,ω,ω⟩,rfl⟩))))))))))))
 exact Ab 10 (Ha (Ab 3 (Cj (Ab 6 (Cj (Ab 8 (gs (Ao (((j4:Nat):Int)+1) ((j4+1:Nat):Int) ·) (Ab 2 (Bb [0,1,6,7,8] [(0,0),(1,1),(2,2),(3,3),(14,14),(5,5),(6,6),(7,7),(8,8),(10,10),(12,12),(13,13)] 15 [(113,4,j4n,(λxi=>Dq (j4g xi).1)),(61,1,1+f.hn,(λxi=>Bs (Dc f xi)))] ⟨(Bi λ_ _=>rfl),(Bi λ_ _=>rfl),trivial⟩ (hJ2 _ _ (by omega:l9.n-(j4+1)<l9.n-j4) ⟨j4+1,j4n,j4g,rfl,⟨hFj4,ω,ω⟩,rfl⟩))))))))))
 exact Ab 5 (We (Ab 4 (gs (Ao ((i:Int)+1) ((i+1:Nat):Int) ·) (Ab 2 (Bb [2,15,16,17] [(0,0),(1,1),(2,2),(3,3),(14,11),(5,5),(6,6),(7,7),(8,8),(10,10)] 12 [(113,4,j4n,(λxi=>Dq (j4g xi).1)),(61,1,1+f.hn,(λxi=>Bs (Dc f xi)))] ⟨(Bi λ_ _=>rfl),(Bi λ_ _=>rfl),trivial⟩ (hJ1 _ _ (by omega:f.hn+1-(i+1)<f.hn+1-i) ⟨i+1,j4n,j4g,rfl,⟨hFj4,ω,ω⟩,rfl⟩))))))
 refine yU 27 (decide ((0:Int)<(gI v6))=decide ((i:Int)=0)) (λhx42 hx42d=>?_) (λhx42 hx42d=>?_)
 exact Ab 3 (tus [2,4,15,16,17] (hJ9 (Dc f i) ⟨hn1,hn3⟩))
 exact Ab 4 (aI func166 (Ab 9 (gs (ven ((Dc f i).n) ·) (Ab 7 (gs (Cc (.osl 12 3 0) (.new 12 (.vec 30 3 0 (λ_=> .top))) (Wb 61 κ underlying61 3 sizeOf30 12 (λ_=> .top)) ·) (Ab 1 (gs (Cc (.osl 13 3 ((Dc f i).n)) (.grow 12 13 (.vec 30 3 ((Dc f i).n) (λi0=>Bj ((Dc f i).f i0)))) (xM (Rh (.tmp 5) (.tmp 6) 61 κ underlying61 3 24 (.agg #[.int .i64 0,.int .i64 0,.int .i64 0]) κ κ δ 0 ((Dc f i).n) ω (λ_=> .top) (λi0=>Bj ((Dc f i).f i0)) (λi0=>Bj ((Dc f i).f i0)) 13 ω (by unfold maxLen;omega) (λi hi=>absurd hi (Nat.not_lt_zero i)) (λi hi=>by rw[Nat.zero_add]) (λi hi j hj=>match j,hj with|0,_=>rfl|1,_=>rfl|2,_=>rfl|_+3,h=>absurd h ω) 12 κ κ κ) (Nat.zero_add _)) ·) (Ab 4 (Ha (Ab 5 (gs (Cc (.osw 13 3 1 (((Dc f i).n)-1)) (.read 13) (Ot 61 (.tmp 30) (some (.const (.int .i64 1))) none κ underlying61 13 3 ((Dc f i).n) sizeOf30 30 (λi0=>Bj ((Dc f i).f i0)) κ κ 1 ((Dc f i).n) (.inr ⟨(.const (.int .i64 1)),1,rfl,κ,ω⟩) (.inl ⟨rfl,rfl⟩) ω ω) ·) (gs (Cc (.lit (.tuple #[])) (.set 13 (.vec 30 3 ((Dc f i).n) (λxi=>Bj ((Ad1 (Dc f i)).f xi)))) (Ade (.tmp 31) #[61] 13 30 (Dc f i) ω ω κ κ κ) ·) (Ab 2 (gs (mO 13 [4] 30 3 ((Dc f i).n) (λxi=>Bj ((Ad1 (Dc f i)).f xi)) (Bi λ_ _=>rfl) ·) (tfg [2,4,15,16,17] [(0,0),(1,1),(2,2),(3,3),(11,11),(5,5),(6,6),(7,7),(8,8),(10,10)] 12 [(113,4,n,(λxi=>Dq (g xi).1)),(61,1,1+f.hn,(λxi=>Bs (Dc f xi)))] ⟨(Bi λ_ _=>rfl),(Bi λ_ _=>rfl),trivial⟩ (tus [2,4,15,16,17] (hJ9 (Ad1 (Dc f i)) ⟨hn1,hn3⟩)))))))))))))))))
 refine Ab 5 (We (Ab 11 (gs (Cc (.lit (.tuple #[])) (.set 11 (.vec 113 4 n (λxi=>Dq (Ho g n xi).1))) (xO (.tmp 73) (.tmp 74) #[181,185] 11 113 n g ω κ κ κ κ) ·) (Ab 5 (aI func137 (Ab 13 (De 8 ((n:Int)<2) (λhx45 hx45d=>?_) (λhx45 hx45d=>?_))))))))
 refine Ab 9 (Ha (Ab 21 (tfg [3,4,5,8,9,13,14,15] [(0,0),(1,1),(2,2),(3,3),(11,11),(5,5),(12,12)] 13 [(113,4,n,(λxi=>Dq (Ho g n xi).1)),(61,1,1+f.hn,(λxi=>Bs (Dc f xi)))] ⟨(Bi λ_ _=>rfl),(Bi λ_ _=>rfl),trivial⟩ (mI [3,4,5,8,9,13,14,15] (λm s=>∃(q:Nat),m=n-q/\(1<=q)/\s=⟨[(3,.ptr 0 0),(4,.ptr 1 0),(5,.ptr 2 0),(8,.ptr 3 0),(9,.ptr 5 0),(13,.ptr 12 0),(14,.fn 138 [.ptr 12 0]),(15,.int (q:Int))],[(0,.box 64 [Bs f.o,dQ f,.int f.low,.int f.high]),(1,.box 30 [.int a.x,.int a.y,.int a.z]),(2,.box 30 [.int b.x,.int b.y,.int b.z]),(3,.box 68 [.bool (decide ((1:Int)<0)),.lit (.string (Bq (1:Int).natAbs))]),(11,.vec 113 4 n (λxi=>Dq (Ho g n xi).1)),(5,.box 181 [.osl 11 4 n]),(12,.box 189 [.int 0])],13,131⟩) (n-1) ⟨1,rfl,Nat.le_refl _,κ⟩ ?_))))
 rintro _ _ ⟨q,rfl,hF,rfl⟩ hJ3
 refine Ab 9 (De 82 ((q:Int)<(n:Int)) (λhx46 hx46d=>?_) (λhx46 hx46d=>?_))
 exact Ab 6 (Exists.elim (pE (Ho g n (q-1)) (Ho g n q) ((mD hFp) _ ω) ((mD hFp) _ ω)) λv47 hv47=>(gs (Be [(2,.int ((q-1:Nat):Int),.none),(3,Ax (.osl 11 4 n) (q-1),.none),(4,Dq (Ho g n (q-1)).1,(.read 11)),(7,Ax (.osl 11 4 n) q,.none),(8,Dq (Ho g n q).1,(.read 11)),(9,_,.none)] [3,4,5,8,9,13,14,15,16] ⟨As (.int .i64 (IntKind.wrap .i64 ((q:Int)-1))) η,Eg (q-1) n,Bo (Az 113 (.tmp 89) κ isAgg113 4 sizeOf113 11 (q-1) κ 113 n (λxi=>Dq (Ho g n xi).1) κ ω),Eg q n,Bo (Az 113 (.tmp 93) κ isAgg113 4 sizeOf113 11 q κ 113 n (λxi=>Dq (Ho g n xi).1) κ ω),Am hv47.2,trivial⟩ ·) (Ab 2 (Exists.elim (fY v47.1 v47.2 hv47.1.1 hv47.1.2.1 hv47.1.2.2.1 hv47.1.2.2.2.1 hv47.1.2.2.2.2) λv48 hv48=>(gs (Be [(2,_,.none),(4,_,.none)] [3,4,5,8,9,13,14,15,18] ⟨Am (Cg 2 δ δ),Am hv48.2,trivial⟩ ·) (Ab 2 (gs (Be [(7,.int (b.x-a.x),.none),(9,_,_),(17,.int (b.y-a.y),.none),(19,_,_),(20,_,_)] [3,4,5,8,9,13,14,15,20] ⟨As (.int .i64 (IntKind.wrap .i64 (b.x-a.x))) η,Vm 12 [] (Qx a.x (b.x-a.x) v48.1 v48.2 ⟨ω,ω⟩ ⟨ω,ω⟩ (Bd.mono hv48.1.2.2.2.1 (show _<=300 by decide)) (Bd.mono hv48.1.2.2.2.2 (show _<=300 by decide))),As (.int .i64 (IntKind.wrap .i64 (b.y-a.y))) η,Vm 12 [] (Qx a.y (b.y-a.y) v48.1 v48.2 ⟨ω,ω⟩ ⟨ω,ω⟩ (Bd.mono hv48.1.2.2.2.1 (show _<=300 by decide)) (Bd.mono hv48.1.2.2.2.2 (show _<=300 by decide))),Vm 12 [] (Abt ((b.x-a.x)*v48.1+a.x*v48.2) v48.2 ((b.y-a.y)*v48.1+a.y*v48.2) v48.2 (Bd.mono (Ik a.x (b.x-a.x) v48.1 v48.2 ⟨ω,ω⟩ ⟨ω,ω⟩ (Bd.mono hv48.1.2.2.2.1 (show _<=300 by decide)) (Bd.mono hv48.1.2.2.2.2 (show _<=300 by decide))) (show _<=400 by decide)) (Bd.mono (Bd.mono hv48.1.2.2.2.2 (show _<=300 by decide)) (show _<=400 by decide)) (Bd.mono (Ik a.y (b.y-a.y) v48.1 v48.2 ⟨ω,ω⟩ ⟨ω,ω⟩ (Bd.mono hv48.1.2.2.2.1 (show _<=300 by decide)) (Bd.mono hv48.1.2.2.2.2 (show _<=300 by decide))) (show _<=400 by decide)) (Bd.mono (Bd.mono hv48.1.2.2.2.2 (show _<=300 by decide)) (show _<=400 by decide))),trivial⟩ ·) (Ab 5 (gs (uD 12 [15] (Abc f h0 hnf (((b.x-a.x)*v48.1+a.x*v48.2)*v48.2) (((b.y-a.y)*v48.1+a.y*v48.2)*v48.2) (v48.2*v48.2) (Bd.mono (Bd.mul (Ik a.x (b.x-a.x) v48.1 v48.2 ⟨ω,ω⟩ ⟨ω,ω⟩ (Bd.mono hv48.1.2.2.2.1 (show _<=300 by decide)) (Bd.mono hv48.1.2.2.2.2 (show _<=300 by decide))) (Bd.mono hv48.1.2.2.2.2 (show _<=300 by decide))) (show _<=1000 by decide)) (Bd.mono (Bd.mul (Ik a.y (b.y-a.y) v48.1 v48.2 ⟨ω,ω⟩ ⟨ω,ω⟩ (Bd.mono hv48.1.2.2.2.1 (show _<=300 by decide)) (Bd.mono hv48.1.2.2.2.2 (show _<=300 by decide))) (Bd.mono hv48.1.2.2.2.2 (show _<=300 by decide))) (show _<=1000 by decide)) (Bd.mono (Bd.mul (Bd.mono hv48.1.2.2.2.2 (show _<=300 by decide)) (Bd.mono hv48.1.2.2.2.2 (show _<=300 by decide))) (show _<=1000 by decide)) (hin _ _ hv48.1.1 hv48.1.2.1 hv48.1.2.2.1)) ·) (Ab 9 (gs (Ao ((q:Int)+1) ((q+1:Nat):Int) ·) (Ab 2 (Bb [3,4,5,8,9,13,14,15] [(0,0),(1,1),(2,2),(3,3),(11,11),(5,5),(12,12)] 13 [(113,4,n,(λxi=>Dq (Ho g n xi).1))] ⟨(Bi λ_ _=>rfl),trivial⟩ (hJ3 _ _ (by omega:n-(q+1)<n-q) ⟨q+1,rfl,ω,rfl⟩))))))))))))))
 exact Ab 13 (Jl (r:= .lit (.tuple #[.bool true,.int .i64 0])) rfl)
 refine Ab 10 (mI [0,3] (λm s=>∃(k:Nat),m=n-k/\(1<=k/\k<=n)/\s=⟨[(0,.osl 11 4 n),(3,.int (k:Int))],[(0,.box 64 [Bs f.o,dQ f,.int f.low,.int f.high]),(1,.box 30 [.int a.x,.int a.y,.int a.z]),(2,.box 30 [.int b.x,.int b.y,.int b.z]),(3,.box 68 [.bool (decide ((1:Int)<0)),.lit (.string (Bq (1:Int).natAbs))]),(11,.vec 113 4 n (λxi=>Dq (Ho g n xi).1)),(5,.box 181 [.osl 11 4 n]),(6,.box 64 [Bs f.o,dQ f,.int f.low,.int f.high]),(8,.box 173 [.yld 7]),(10,.vec 61 1 (1+f.hn) (λxi=>Bs (Dc f xi)))],12,61⟩) (n-1) ⟨1,rfl,⟨ω,ω⟩,κ⟩ ?_)
 rintro _ _ ⟨k,rfl,hF,rfl⟩ hJ4
 refine Ab 9 (De 13 ((k:Int)<(n:Int)) (λhx49 hx49d=>?_) (λhx49 hx49d=>?_))
 refine Ab 6 (gs (Be [(2,Ax (.osl 11 4 n) k,.none),(3,Dq (Ho g n k).1,(.read 11)),(6,.int ((k-1:Nat):Int),.none),(7,Ax (.osl 11 4 n) (k-1),.none),(8,Dq (Ho g n (k-1)).1,(.read 11)),(9,.bool (wJ ((Ho g n k).1) ((Ho g n (k-1)).1)),.none)] [0,3,25] ⟨Eg k n,Bo (Az 113 (.tmp 18) κ isAgg113 4 sizeOf113 11 k κ 113 n (λxi=>Dq (Ho g n xi).1) κ ω),As (.int .i64 (IntKind.wrap .i64 ((k:Int)-1))) η,Eg (k-1) n,Bo (Az 113 (.tmp 23) κ isAgg113 4 sizeOf113 11 (k-1) κ 113 n (λxi=>Dq (Ho g n xi).1) κ ω),Bo (Hs 113 113 (.tmp 19) (.tmp 24) κ _ _ κ κ κ (wJ ((Ho g n k).1) ((Ho g n (k-1)).1)) (AgK ((Ho g n k).1) ((Ho g n (k-1)).1))),trivial⟩ ·) (Ab 1 (tsx 25 ?_ ?_)))
 refine Ab 5 (gs (Cc (.osw 11 4 k (n-k)) (.read 11) (Ot 181 (.tmp 26) (some (.tmp 27)) none κ underlying181 11 4 n sizeOf113 113 (λxi=>Dq (Ho g n xi).1) κ κ k n (.inr ⟨(.tmp 27),(k:Int),rfl,κ,ω⟩) (.inl ⟨rfl,rfl⟩) ω ω) ·) (Ab 10 (mI [0,3,4,5] (λm s=>∃(kk k2:Nat) (gg:Nat->RQ),m=n-k2/\((∀q9,q9<n->Rt (gg q9))/\1<=k2/\1<=kk/\kk<k+k2/\k+k2<=n)/\s=⟨[(0,.osl 11 4 n),(3,.int (kk:Int)),(4,.osw 11 4 k (n-k)),(5,.int ((k2:Nat):Int))],[(0,.box 64 [Bs f.o,dQ f,.int f.low,.int f.high]),(1,.box 30 [.int a.x,.int a.y,.int a.z]),(2,.box 30 [.int b.x,.int b.y,.int b.z]),(3,.box 68 [.bool (decide ((1:Int)<0)),.lit (.string (Bq (1:Int).natAbs))]),(11,.vec 113 4 n (λxi=>Dq (gg xi).1)),(5,.box 181 [.osl 11 4 n]),(6,.box 64 [Bs f.o,dQ f,.int f.low,.int f.high]),(8,.box 173 [.yld 7]),(10,.vec 61 1 (1+f.hn) (λxi=>Bs (Dc f xi)))],12,61⟩) (n-1) ⟨k,1,Ho g n,rfl,⟨(mD hFp),ω,ω,ω,ω⟩,κ⟩ ?_)))
 rintro _ _ ⟨kk,k2,gg,rfl,hF,rfl⟩ hJ5
 have hFc:=hF.1
 refine Ab 9 (De 32 (((k2:Nat):Int)<((n-k:Nat):Int)) (λhx50 hx50d=>?_) (λhx50 hx50d=>?_))
 refine Ab 6 (gs (Be [(2,Ax (.osw 11 4 k (n-k)) k2,.none),(3,Dq (gg (k+k2)).1,(.read 11)),(6,.int ((k2-1:Nat):Int),.none),(7,Ax (.osw 11 4 k (n-k)) (k2-1),.none),(8,Dq (gg (k+(k2-1))).1,(.read 11)),(9,.bool (!(wJ ((gg (k+k2)).1) ((gg (k+(k2-1))).1))),.none)] [0,3,4,5,44] ⟨Eg k2 (n-k),Bo (Az 113 (.tmp 37) κ isAgg113 4 sizeOf113 11 (k+k2) κ 113 n (λxi=>Dq (gg xi).1) κ ω),As (.int .i64 (IntKind.wrap .i64 (((k2:Nat):Int)-1))) η,Eg (k2-1) (n-k),Bo (Az 113 (.tmp 42) κ isAgg113 4 sizeOf113 11 (k+(k2-1)) κ 113 n (λxi=>Dq (gg xi).1) κ ω),Bo (AfQ 113 113 (.tmp 38) (.tmp 43) κ _ _ κ κ κ (wJ ((gg (k+k2)).1) ((gg (k+(k2-1))).1)) (AgK ((gg (k+k2)).1) ((gg (k+(k2-1))).1))),trivial⟩ ·) (Ab 1 (tsx 44 ?_ ?_)))
 exact Ab 7 (gs (Dm k2 (n-k) ·) (gs (Cc (Dq (gg (k+k2)).1) (.read 11) (Az 113 (.tmp 49) κ isAgg113 4 sizeOf113 11 (k+k2) κ 113 n (λxi=>Dq (gg xi).1) κ ω) ·) (gs (Dm kk n ·) (gs (Cc (.lit Go.undef) (.set 11 (.vec 113 4 n (λxi=>if xi=kk then Dq (gg (k+k2)).1 else (λxi=>Dq (gg xi).1) xi))) (Eb 113 (.tmp 51) (.tmp 50) κ 4 sizeOf113 11 kk κ 113 n (λxi=>Dq (gg xi).1) κ ω κ κ κ (Dq (gg (k+k2)).1) κ) ·) (Ab 2 (gs (Sp 11 113 4 n (λxi=>if xi=kk then Dq (gg (k+k2)).1 else (λxi=>Dq (gg xi).1) xi) (λxi=>Dq (Ad7 gg kk (gg (k+k2)) xi).1) (λx9 hx9=>by unfold Ad7;split<;>rfl) ·) (Ab 2 (gs (Ao ((kk:Int)+1) ((kk+1:Nat):Int) ·) (Ab 6 (gs (Ao (((k2:Nat):Int)+1) ((k2+1:Nat):Int) ·) (Ab 2 (trd [0,3,4,5] (hJ5 _ _ (by omega:n-(k2+1)<n-k2) ⟨kk+1,k2+1,Ad7 gg kk (gg (k+k2)),rfl,⟨(AcP hFc (hFc _ ω)),ω,ω,ω,ω⟩,rfl⟩)))))))))))))
 exact Ab 6 (gs (Ao (((k2:Nat):Int)+1) ((k2+1:Nat):Int) ·) (Ab 2 (trd [0,3,4,5] (hJ5 _ _ (by omega:n-(k2+1)<n-k2) ⟨kk,k2+1,gg,rfl,⟨hFc,ω,ω,ω,ω⟩,rfl⟩))))
 refine Ab 10 (gs (Cc (.osw 11 4 kk (n-kk)) (.read 11) (Ot 181 (.tmp 54) (some (.tmp 55)) none κ underlying181 11 4 n sizeOf113 113 (λxi=>Dq (gg xi).1) κ κ kk n (.inr ⟨(.tmp 55),(kk:Int),rfl,κ,ω⟩) (.inl ⟨rfl,rfl⟩) ω ω) ·) (gs (Cc (.lit (.tuple #[])) (.set 11 (.vec 113 4 n (λxi=>if xi<kk then (λxi=>Dq (gg xi).1) xi else .top))) (pK (.tmp 56) 181 #[181] κ rfl 11 4 kk (n-kk) n 113 113 (λxi=>Dq (gg xi).1) underlying181 (.agg #[.bool false,.string ⟨#[]⟩,.bool false,.string ⟨#[]⟩]) zeroValue113 rfl rfl κ κ ω) ·) (Ab 6 (gs (Cc (.osw 11 4 0 (kk-0)) (.read 11) (Ot 181 (.tmp 57) none (some (.tmp 58)) κ underlying181 11 4 n sizeOf113 113 (λxi=>if xi<kk then (λxi=>Dq (gg xi).1) xi else .top) κ κ 0 kk (.inl ⟨rfl,rfl⟩) (.inr ⟨(.tmp 58),(kk:Int),rfl,κ,ω⟩) ω ω) ·) (Ab 9 (Ha (Ab 3 (gs (vsh 11 113 4 n kk (λxi=>if xi<kk then (λxi=>Dq (gg xi).1) xi else .top) (λxi=>Dq (gg xi).1) ω (λi hi=>if_pos hi) ·) (Ab 18 (tfg [3,4,5,8,9,13,14,15] [(0,0),(1,1),(2,2),(3,3),(11,11),(5,5),(12,12)] 13 [(113,4,kk,(λxi=>Dq (gg xi).1)),(61,1,1+f.hn,(λxi=>Bs (Dc f xi)))] ⟨(Bi λ_ _=>rfl),(Bi λ_ _=>rfl),trivial⟩ (mI [3,4,5,8,9,13,14,15] (λm s=>∃(q:Nat),m=(kk-0)-q/\(1<=q)/\s=⟨[(3,.ptr 0 0),(4,.ptr 1 0),(5,.ptr 2 0),(8,.ptr 3 0),(9,.ptr 5 0),(13,.ptr 12 0),(14,.fn 138 [.ptr 12 0]),(15,.int (q:Int))],[(0,.box 64 [Bs f.o,dQ f,.int f.low,.int f.high]),(1,.box 30 [.int a.x,.int a.y,.int a.z]),(2,.box 30 [.int b.x,.int b.y,.int b.z]),(3,.box 68 [.bool (decide ((1:Int)<0)),.lit (.string (Bq (1:Int).natAbs))]),(11,.vec 113 4 kk (λxi=>Dq (gg xi).1)),(5,.box 181 [.osw 11 4 0 (kk-0)]),(12,.box 189 [.int 0])],13,131⟩) ((kk-0)-1) ⟨1,rfl,Nat.le_refl _,κ⟩ ?_)))))))))))
 rintro _ _ ⟨q,rfl,hF,rfl⟩ hJ6
 refine Ab 9 (De 82 ((q:Int)<((kk-0:Nat):Int)) (λhx51 hx51d=>?_) (λhx51 hx51d=>?_))
 exact Ab 6 (Exists.elim (pE (gg (0+(q-1))) (gg (0+q)) (hFc _ ω) (hFc _ ω)) λv52 hv52=>(gs (Be [(2,.int ((q-1:Nat):Int),.none),(3,Ax (.osw 11 4 0 (kk-0)) (q-1),.none),(4,Dq (gg (0+(q-1))).1,(.read 11)),(7,Ax (.osw 11 4 0 (kk-0)) q,.none),(8,Dq (gg (0+q)).1,(.read 11)),(9,_,.none)] [3,4,5,8,9,13,14,15,16] ⟨As (.int .i64 (IntKind.wrap .i64 ((q:Int)-1))) η,Eg (q-1) (kk-0),Bo (Az 113 (.tmp 89) κ isAgg113 4 sizeOf113 11 (0+(q-1)) κ 113 kk (λxi=>Dq (gg xi).1) κ ω),Eg q (kk-0),Bo (Az 113 (.tmp 93) κ isAgg113 4 sizeOf113 11 (0+q) κ 113 kk (λxi=>Dq (gg xi).1) κ ω),Am hv52.2,trivial⟩ ·) (Ab 2 (Exists.elim (fY v52.1 v52.2 hv52.1.1 hv52.1.2.1 hv52.1.2.2.1 hv52.1.2.2.2.1 hv52.1.2.2.2.2) λv53 hv53=>(gs (Be [(2,_,.none),(4,_,.none)] [3,4,5,8,9,13,14,15,18] ⟨Am (Cg 2 δ δ),Am hv53.2,trivial⟩ ·) (Ab 2 (gs (Be [(7,.int (b.x-a.x),.none),(9,_,_),(17,.int (b.y-a.y),.none),(19,_,_),(20,_,_)] [3,4,5,8,9,13,14,15,20] ⟨As (.int .i64 (IntKind.wrap .i64 (b.x-a.x))) η,Vm 12 [] (Qx a.x (b.x-a.x) v53.1 v53.2 ⟨ω,ω⟩ ⟨ω,ω⟩ (Bd.mono hv53.1.2.2.2.1 (show _<=300 by decide)) (Bd.mono hv53.1.2.2.2.2 (show _<=300 by decide))),As (.int .i64 (IntKind.wrap .i64 (b.y-a.y))) η,Vm 12 [] (Qx a.y (b.y-a.y) v53.1 v53.2 ⟨ω,ω⟩ ⟨ω,ω⟩ (Bd.mono hv53.1.2.2.2.1 (show _<=300 by decide)) (Bd.mono hv53.1.2.2.2.2 (show _<=300 by decide))),Vm 12 [] (Abt ((b.x-a.x)*v53.1+a.x*v53.2) v53.2 ((b.y-a.y)*v53.1+a.y*v53.2) v53.2 (Bd.mono (Ik a.x (b.x-a.x) v53.1 v53.2 ⟨ω,ω⟩ ⟨ω,ω⟩ (Bd.mono hv53.1.2.2.2.1 (show _<=300 by decide)) (Bd.mono hv53.1.2.2.2.2 (show _<=300 by decide))) (show _<=400 by decide)) (Bd.mono (Bd.mono hv53.1.2.2.2.2 (show _<=300 by decide)) (show _<=400 by decide)) (Bd.mono (Ik a.y (b.y-a.y) v53.1 v53.2 ⟨ω,ω⟩ ⟨ω,ω⟩ (Bd.mono hv53.1.2.2.2.1 (show _<=300 by decide)) (Bd.mono hv53.1.2.2.2.2 (show _<=300 by decide))) (show _<=400 by decide)) (Bd.mono (Bd.mono hv53.1.2.2.2.2 (show _<=300 by decide)) (show _<=400 by decide))),trivial⟩ ·) (Ab 5 (gs (uD 12 [15] (Abc f h0 hnf (((b.x-a.x)*v53.1+a.x*v53.2)*v53.2) (((b.y-a.y)*v53.1+a.y*v53.2)*v53.2) (v53.2*v53.2) (Bd.mono (Bd.mul (Ik a.x (b.x-a.x) v53.1 v53.2 ⟨ω,ω⟩ ⟨ω,ω⟩ (Bd.mono hv53.1.2.2.2.1 (show _<=300 by decide)) (Bd.mono hv53.1.2.2.2.2 (show _<=300 by decide))) (Bd.mono hv53.1.2.2.2.2 (show _<=300 by decide))) (show _<=1000 by decide)) (Bd.mono (Bd.mul (Ik a.y (b.y-a.y) v53.1 v53.2 ⟨ω,ω⟩ ⟨ω,ω⟩ (Bd.mono hv53.1.2.2.2.1 (show _<=300 by decide)) (Bd.mono hv53.1.2.2.2.2 (show _<=300 by decide))) (Bd.mono hv53.1.2.2.2.2 (show _<=300 by decide))) (show _<=1000 by decide)) (Bd.mono (Bd.mul (Bd.mono hv53.1.2.2.2.2 (show _<=300 by decide)) (Bd.mono hv53.1.2.2.2.2 (show _<=300 by decide))) (show _<=1000 by decide)) (hin _ _ hv53.1.1 hv53.1.2.1 hv53.1.2.2.1)) ·) (Ab 9 (gs (Ao ((q:Int)+1) ((q+1:Nat):Int) ·) (Ab 2 (Bb [3,4,5,8,9,13,14,15] [(0,0),(1,1),(2,2),(3,3),(11,11),(5,5),(12,12)] 13 [(113,4,kk,(λxi=>Dq (gg xi).1))] ⟨(Bi λ_ _=>rfl),trivial⟩ (hJ6 _ _ (by omega:(kk-0)-(q+1)<(kk-0)-q) ⟨q+1,rfl,ω,rfl⟩))))))))))))))
 exact Ab 13 (Jl (r:= .lit (.tuple #[.bool true,.int .i64 0])) rfl)
 exact Ab 6 (gs (Ao ((k:Int)+1) ((k+1:Nat):Int) ·) (Ab 2 (trd [0,3] (hJ4 _ _ (by omega:n-(k+1)<n-k) ⟨k+1,rfl,⟨ω,ω⟩,rfl⟩))))
 refine Ab 13 (Ha (Ab 21 (tfg [3,4,5,8,9,13,14,15] [(0,0),(1,1),(2,2),(3,3),(11,11),(5,5),(12,12)] 13 [(113,4,n,(λxi=>Dq (Ho g n xi).1)),(61,1,1+f.hn,(λxi=>Bs (Dc f xi)))] ⟨(Bi λ_ _=>rfl),(Bi λ_ _=>rfl),trivial⟩ (mI [3,4,5,8,9,13,14,15] (λm s=>∃(q:Nat),m=n-q/\(1<=q)/\s=⟨[(3,.ptr 0 0),(4,.ptr 1 0),(5,.ptr 2 0),(8,.ptr 3 0),(9,.ptr 5 0),(13,.ptr 12 0),(14,.fn 138 [.ptr 12 0]),(15,.int (q:Int))],[(0,.box 64 [Bs f.o,dQ f,.int f.low,.int f.high]),(1,.box 30 [.int a.x,.int a.y,.int a.z]),(2,.box 30 [.int b.x,.int b.y,.int b.z]),(3,.box 68 [.bool (decide ((1:Int)<0)),.lit (.string (Bq (1:Int).natAbs))]),(11,.vec 113 4 n (λxi=>Dq (Ho g n xi).1)),(5,.box 181 [.osl 11 4 n]),(12,.box 189 [.int 0])],13,131⟩) (n-1) ⟨1,rfl,Nat.le_refl _,κ⟩ ?_))))
 rintro _ _ ⟨q,rfl,hF,rfl⟩ hJ7
 refine Ab 9 (De 82 ((q:Int)<(n:Int)) (λhx54 hx54d=>?_) (λhx54 hx54d=>?_))
 exact Ab 6 (Exists.elim (pE (Ho g n (q-1)) (Ho g n q) ((mD hFp) _ ω) ((mD hFp) _ ω)) λv55 hv55=>(gs (Be [(2,.int ((q-1:Nat):Int),.none),(3,Ax (.osl 11 4 n) (q-1),.none),(4,Dq (Ho g n (q-1)).1,(.read 11)),(7,Ax (.osl 11 4 n) q,.none),(8,Dq (Ho g n q).1,(.read 11)),(9,_,.none)] [3,4,5,8,9,13,14,15,16] ⟨As (.int .i64 (IntKind.wrap .i64 ((q:Int)-1))) η,Eg (q-1) n,Bo (Az 113 (.tmp 89) κ isAgg113 4 sizeOf113 11 (q-1) κ 113 n (λxi=>Dq (Ho g n xi).1) κ ω),Eg q n,Bo (Az 113 (.tmp 93) κ isAgg113 4 sizeOf113 11 q κ 113 n (λxi=>Dq (Ho g n xi).1) κ ω),Am hv55.2,trivial⟩ ·) (Ab 2 (Exists.elim (fY v55.1 v55.2 hv55.1.1 hv55.1.2.1 hv55.1.2.2.1 hv55.1.2.2.2.1 hv55.1.2.2.2.2) λv56 hv56=>(gs (Be [(2,_,.none),(4,_,.none)] [3,4,5,8,9,13,14,15,18] ⟨Am (Cg 2 δ δ),Am hv56.2,trivial⟩ ·) (Ab 2 (gs (Be [(7,.int (b.x-a.x),.none),(9,_,_),(17,.int (b.y-a.y),.none),(19,_,_),(20,_,_)] [3,4,5,8,9,13,14,15,20] ⟨As (.int .i64 (IntKind.wrap .i64 (b.x-a.x))) η,Vm 12 [] (Qx a.x (b.x-a.x) v56.1 v56.2 ⟨ω,ω⟩ ⟨ω,ω⟩ (Bd.mono hv56.1.2.2.2.1 (show _<=300 by decide)) (Bd.mono hv56.1.2.2.2.2 (show _<=300 by decide))),As (.int .i64 (IntKind.wrap .i64 (b.y-a.y))) η,Vm 12 [] (Qx a.y (b.y-a.y) v56.1 v56.2 ⟨ω,ω⟩ ⟨ω,ω⟩ (Bd.mono hv56.1.2.2.2.1 (show _<=300 by decide)) (Bd.mono hv56.1.2.2.2.2 (show _<=300 by decide))),Vm 12 [] (Abt ((b.x-a.x)*v56.1+a.x*v56.2) v56.2 ((b.y-a.y)*v56.1+a.y*v56.2) v56.2 (Bd.mono (Ik a.x (b.x-a.x) v56.1 v56.2 ⟨ω,ω⟩ ⟨ω,ω⟩ (Bd.mono hv56.1.2.2.2.1 (show _<=300 by decide)) (Bd.mono hv56.1.2.2.2.2 (show _<=300 by decide))) (show _<=400 by decide)) (Bd.mono (Bd.mono hv56.1.2.2.2.2 (show _<=300 by decide)) (show _<=400 by decide)) (Bd.mono (Ik a.y (b.y-a.y) v56.1 v56.2 ⟨ω,ω⟩ ⟨ω,ω⟩ (Bd.mono hv56.1.2.2.2.1 (show _<=300 by decide)) (Bd.mono hv56.1.2.2.2.2 (show _<=300 by decide))) (show _<=400 by decide)) (Bd.mono (Bd.mono hv56.1.2.2.2.2 (show _<=300 by decide)) (show _<=400 by decide))),trivial⟩ ·) (Ab 5 (gs (uD 12 [15] (Abc f h0 hnf (((b.x-a.x)*v56.1+a.x*v56.2)*v56.2) (((b.y-a.y)*v56.1+a.y*v56.2)*v56.2) (v56.2*v56.2) (Bd.mono (Bd.mul (Ik a.x (b.x-a.x) v56.1 v56.2 ⟨ω,ω⟩ ⟨ω,ω⟩ (Bd.mono hv56.1.2.2.2.1 (show _<=300 by decide)) (Bd.mono hv56.1.2.2.2.2 (show _<=300 by decide))) (Bd.mono hv56.1.2.2.2.2 (show _<=300 by decide))) (show _<=1000 by decide)) (Bd.mono (Bd.mul (Ik a.y (b.y-a.y) v56.1 v56.2 ⟨ω,ω⟩ ⟨ω,ω⟩ (Bd.mono hv56.1.2.2.2.1 (show _<=300 by decide)) (Bd.mono hv56.1.2.2.2.2 (show _<=300 by decide))) (Bd.mono hv56.1.2.2.2.2 (show _<=300 by decide))) (show _<=1000 by decide)) (Bd.mono (Bd.mul (Bd.mono hv56.1.2.2.2.2 (show _<=300 by decide)) (Bd.mono hv56.1.2.2.2.2 (show _<=300 by decide))) (show _<=1000 by decide)) (hin _ _ hv56.1.1 hv56.1.2.1 hv56.1.2.2.1)) ·) (Ab 9 (gs (Ao ((q:Int)+1) ((q+1:Nat):Int) ·) (Ab 2 (Bb [3,4,5,8,9,13,14,15] [(0,0),(1,1),(2,2),(3,3),(11,11),(5,5),(12,12)] 13 [(113,4,n,(λxi=>Dq (Ho g n xi).1))] ⟨(Bi λ_ _=>rfl),trivial⟩ (hJ7 _ _ (by omega:n-(q+1)<n-q) ⟨q+1,rfl,ω,rfl⟩))))))))))))))
 exact Ab 13 (Jl (r:= .lit (.tuple #[.bool true,.int .i64 0])) rfl)
 refine tsx 49 ?_ ?_
 refine Ab 8 (tsx 55 ?_ ?_)
 exact Ab 9 (Jl (r:= .lit (.tuple #[.bool true,.int .i64 0])) rfl)
 exact tus [3,4,5,6,7,55] hS1
 exact Ab 8 (tus [3,4,5,6,7,55] hS1)
theorem uQ (f:cQ) (a b:V3) (h0:yX f) (hnf:Pr f) (hge:∀k,k<f.hn+1->3<=(Dc f k).n) (ha:Ca a) (hb:Ca b) (hVal:AF Tryz.prog 50 [Hw f] (.bool true)) (hpa:AF Tryz.prog 51 [Bj a] (.bool true)) (hpb:AF Tryz.prog 51 [Bj b] (.bool true)) (hia:AF Tryz.prog 131 [Hw f,Bj a] (.bool true)) (hib:AF Tryz.prog 131 [Hw f,Bj b] (.bool true)) (hin:∀n d:Int,0<=n->n<=d->0<d->vJ f (((b.x-a.x)*n+a.x*d)*d) (((b.y-a.y)*n+a.y*d)*d) (d*d)):AF Tryz.prog 88 [Hw f,Bj a,Bj b] (.lit (.tuple #[.bool true,.int .i64 0])):=by
 obtain⟨_,rfl,hA⟩:=Aco f a b h0 hnf hge ha hb hVal hpa hpb hia hib hin
 exact hA
def Acf:Nat->V3
 |0=>⟨0,0,0⟩
 |1=>⟨1000,0,0⟩
 |2=>⟨1000,1000,0⟩
 |3=>⟨0,1000,0⟩
 |_=>V3.zero
def Er:Nat->V3
 |0=>⟨400,400,0⟩
 |1=>⟨600,400,0⟩
 |2=>⟨600,600,0⟩
 |3=>⟨400,600,0⟩
 |_=>V3.zero
def Bv:Vs:=⟨4,Acf⟩
def Ci:Vs:=⟨4,Er⟩
def An:cQ:=⟨Bv,1,λ_=>Ci,0,500⟩
theorem oQ:yX An:=⟨δ,δ,λ_=>by show (4:Nat)<=64;decide⟩
theorem dK (i:Nat):Ca (Bv.f i):=by
 match i with
 |0=>decide
 |1=>decide
 |2=>decide
 |3=>decide
 |_+4=>exact show Ca V3.zero by decide
theorem wR (i:Nat):Ca (Ci.f i):=by
 match i with
 |0=>decide
 |1=>decide
 |2=>decide
 |3=>decide
 |_+4=>exact show Ca V3.zero by decide
theorem Yu:Pr An:=⟨dK,λ_ i=>wR i⟩
theorem AhI:∀k,k<An.hn+1->3<=(Dc An k).n:=λk h=>by
 match k,h with
 |0,_=>decide
 |1,_=>decide
 |k+2,h=>exact absurd h (by show ¬k+2<1+1;omega)
theorem AiX {l:Vs} {u v w:Int} (h:uE l u v w l.n=0):¬0<Uf l u v w:=by
 unfold Uf
 split
 decide
 decide
theorem AiY {l:Vs} {u v w:Int} (h:uE l u v w l.n≠0):0<=Uf l u v w:=by
 unfold Uf
 split
 decide
 decide
theorem Vc {z:Int} (h:0<z):z.sign=1:=Int.sign_eq_one_of_pos h
theorem Wz {z:Int} (h:z<0):z.sign= -1:=Int.sign_eq_neg_one_of_neg h
theorem Aft {u v w:Int} (h:0<u/\u<1000*w/\0<v/\v<1000*w):0<=Uf Bv u v w:=by
 obtain⟨h1,h2,h3,h4⟩:=h
 have A:Ey (Bv.f 0) v w= -1:=congrArg (-·) (Vc (show 0<v-0*w by omega))
 have A1:Ey (Bv.f 1) v w= -1:=A
 have B:Ey (Bv.f 2) v w=1:=congrArg (-·) (Wz (show v-1000*w<0 by omega))
 have B1:Ey (Bv.f 3) v w=1:=B
 have s1:Ms (Bv.f 1) (Bv.f 2) u v w=1:=Vc (show 0<(1000-1000)*(v-0*w)-(1000-0)*(u-1000*w) by omega)
 have s3:Ms (Bv.f 3) (Bv.f 0) u v w=1:=Vc (show 0<(0-0)*(v-1000*w)-(0-1000)*(u-0*w) by omega)
 have t0:=Ag (Bv.f 0) (Bv.f 1) u v w
 have t1:=Ag (Bv.f 1) (Bv.f 2) u v w
 have t2:=Ag (Bv.f 2) (Bv.f 3) u v w
 have t3:=Ag (Bv.f 3) (Bv.f 0) u v w
 refine AiY ?_
 show 0+tX (Bv.f 0) (Bv.f 1) u v w+tX (Bv.f 1) (Bv.f 2) u v w+tX (Bv.f 2) (Bv.f 3) u v w+tX (Bv.f 3) (Bv.f 0) u v w≠0
 omega
theorem Acg {u v w:Int} (hw:0<w) (h:u<400*w\/v<400*w\/600*w<v):¬0<Uf Ci u v w:=by
 have A1:Ey (Ci.f 1) v w=Ey (Ci.f 0) v w:=rfl
 have B1:Ey (Ci.f 3) v w=Ey (Ci.f 2) v w:=rfl
 have t0:=Ag (Ci.f 0) (Ci.f 1) u v w
 have t1:=Ag (Ci.f 1) (Ci.f 2) u v w
 have t2:=Ag (Ci.f 2) (Ci.f 3) u v w
 have t3:=Ag (Ci.f 3) (Ci.f 0) u v w
 refine AiX ?_
 show 0+tX (Ci.f 0) (Ci.f 1) u v w+tX (Ci.f 1) (Ci.f 2) u v w+tX (Ci.f 2) (Ci.f 3) u v w+tX (Ci.f 3) (Ci.f 0) u v w=0
 rcases h with h|h|h
 have s1:Ms (Ci.f 1) (Ci.f 2) u v w=1:=Vc (show 0<(600-600)*(v-400*w)-(600-400)*(u-600*w) by omega)
 have s3:Ms (Ci.f 3) (Ci.f 0) u v w= -1:=Wz (show (400-400)*(v-600*w)-(400-600)*(u-400*w)<0 by omega)
 omega
 have A:Ey (Ci.f 0) v w=1:=congrArg (-·) (Wz (show v-400*w<0 by omega))
 have B:Ey (Ci.f 2) v w=1:=congrArg (-·) (Wz (show v-600*w<0 by omega))
 omega
 have A:Ey (Ci.f 0) v w= -1:=congrArg (-·) (Vc (show 0<v-400*w by omega))
 have B:Ey (Ci.f 2) v w= -1:=congrArg (-·) (Vc (show 0<v-600*w by omega))
 omega
theorem Ach {u v w:Int} (hw:0<w) (h:0<u/\u<1000*w/\0<v/\v<1000*w) (k:u<400*w\/v<400*w\/600*w<v):vJ An u v w:=⟨Aft h,λ_ _=>Acg hw k⟩
theorem kX {a b n d lo hi:Int} (ha:lo<=a/\a<=hi) (hb:lo<=b/\b<=hi) (h0:0<=n) (h1:n<=d) (hd:0<d):lo*(d*d)<=((b-a)*n+a*d)*d/\((b-a)*n+a*d)*d<=hi*(d*d):=by
 have e:(b-a)*n+a*d=b*n+a*(d-n):=by rw[Int.sub_mul,Int.mul_sub];omega
 have e1:∀x:Int,x*n+x*(d-n)=x*d:=λx=>by rw[Int.mul_sub];omega
 have b1:=Int.mul_le_mul_of_nonneg_right hb.1 h0
 have b2:=Int.mul_le_mul_of_nonneg_right hb.2 h0
 have a1:=Int.mul_le_mul_of_nonneg_right ha.1 (show 0<=d-n by omega)
 have a2:=Int.mul_le_mul_of_nonneg_right ha.2 (show 0<=d-n by omega)
 have f1:=e1 lo
 have f2:=e1 hi
 rw[e]
 rw[<-Int.mul_assoc,<-Int.mul_assoc]
 exact⟨Int.mul_le_mul_of_nonneg_right ω (Int.le_of_lt hd),Int.mul_le_mul_of_nonneg_right ω (Int.le_of_lt hd)⟩
def PtG (p:V3):Prop:=(1<=p.x/\p.x<=999)/\(1<=p.y/\p.y<=999)/\0<=p.z/\p.z<=500
def Vi (a b:V3):Prop:=(a.x<=399/\b.x<=399)\/(a.y<=399/\b.y<=399)\/(601<=a.y/\601<=b.y)
theorem AjC {a b:V3} (ha:PtG a) (hb:PtG b) (s:Vi a b) (n d:Int) (h0:0<=n) (h1:n<=d) (hd:0<d):vJ An (((b.x-a.x)*n+a.x*d)*d) (((b.y-a.y)*n+a.y*d)*d) (d*d):=by
 have hw:0<d*d:=Int.mul_pos hd hd
 have x1:=kX ha.1 hb.1 h0 h1 hd
 have y1:=kX ha.2.1 hb.2.1 h0 h1 hd
 refine Ach hw ⟨ω,ω,ω,ω⟩ ?_
 rcases s with s|s|s
 have:=kX ⟨ha.1.1,s.1⟩ ⟨hb.1.1,s.2⟩ h0 h1 hd
 exact .inl ω
 have:=kX ⟨ha.2.1.1,s.1⟩ ⟨hb.2.1.1,s.2⟩ h0 h1 hd
 exact .inr (.inl ω)
 have:=kX ⟨s.1,ha.2.1.2⟩ ⟨s.2,hb.2.1.2⟩ h0 h1 hd
 exact .inr (.inr ω)
theorem Wx {p:V3} (h:PtG p):Ca p:=⟨⟨by have:=h.1;omega,by have:=h.1;omega⟩,⟨by have:=h.2.1;omega,by have:=h.2.1;omega⟩,by have:=h.2.2;omega,by have:=h.2.2;omega⟩
theorem AgZ {p:V3} (h:PtG p) (s:Vi p p):vJ An p.x p.y 1:=by
 refine Ach δ ⟨by have:=h.1;omega,by have:=h.1;omega,by have:=h.2.1;omega,by have:=h.2.1;omega⟩ ?_
 rcases s with s|s|s
 exact .inl ω
 exact .inr (.inl ω)
 exact .inr (.inr ω)
theorem AiE {a b:V3} (h:Vi a b):Vi a a:=by
 rcases h with h|h|h
 exact .inl ⟨h.1,h.1⟩
 exact .inr (.inl ⟨h.1,h.1⟩)
 exact .inr (.inr ⟨h.1,h.1⟩)
theorem AiF {a b:V3} (h:Vi a b):Vi b b:=by
 rcases h with h|h|h
 exact .inl ⟨h.2,h.2⟩
 exact .inr (.inl ⟨h.2,h.2⟩)
 exact .inr (.inr ⟨h.2,h.2⟩)
theorem cJ {p:V3} (h:PtG p):AF Tryz.prog 51 [Bj p] (.bool true):=by
 refine Dt p ?_
 obtain⟨h1,h2,h3⟩:=h
 unfold Gg
 simp
 omega
theorem Qr (a b:V3) (hV:AF Tryz.prog 50 [Hw An] (.bool true)) (ha:PtG a) (hb:PtG b) (s:Vi a b):AF Tryz.prog 88 [Hw An,Bj a,Bj b] (.lit (.tuple #[.bool true,.int .i64 0])):=
 uQ An a b oQ Yu AhI (Wx ha) (Wx hb) hV (cJ ha) (cJ hb) (Xj An oQ Yu a (Wx ha) (AgZ ha (AiE s)) ha.2.2) (Xj An oQ Yu b (Wx hb) (AgZ hb (AiF s)) hb.2.2) (AjC ha hb s)
end Go.Proofs.YtbggmndaahbojaaGreat