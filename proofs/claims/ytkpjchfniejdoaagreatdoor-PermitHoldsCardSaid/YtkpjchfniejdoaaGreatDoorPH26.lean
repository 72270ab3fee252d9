/- Part 26 of the proof of PH.card_holds: no condition beyond the row's. -/
import Derived.Test.YtkpjchfniejdoaaGreatDoorPH25
set_option maxRecDepth 100000
set_option maxHeartbeats 40000000
namespace Go.Proofs.YtkpjchfniejdoaaGreatDoor
open Go.Proofs.Tryz
open Go.RowKit
def Gz (c:Nat->Int):Nat->Nat
 |0=>0
 |n+1=>if c n=0 then Gz c n else n+1
abbrev Dm (n:Nat) (c:Nat->Int):AV:= .sl 2 n λi=>WA (c i)
abbrev AmC (n:Nat) (c:Nat->Int):AV:= .slc 2 n λi=>WA (c i)
theorem Oe (c:Nat->Int):∀n,Gz c n<=n
 |0=>Nat.le_refl _
 |n+1=>by
  unfold Gz
  split
  exact Nat.le_succ_of_le (Oe c n)
  exact Nat.le_refl _
theorem Ss (c:Nat->Int):∀n,Gz c n=0\/c (Gz c n-1)≠0
 |0=> .inl rfl
 |n+1=>by
  unfold Gz
  split
  exact Ss c n
  rename_i h;exact .inr h
theorem Ae8 {c:Nat->Int} {n:Nat} (h:n=0\/c (n-1)≠0):Gz c n=n:=by
 cases n with
 |zero=>rfl
 |succ n=>
  unfold Gz
  rcases h with h|h
  cases h
  exact if_neg h
theorem aY {x:Int}:x.sign=0↔x=0:=Int.sign_eq_zero_iff_zero
theorem Aa8 {c:Nat->Int} {q:Nat} (hq:0<q) (h:(c (q-1)).sign=0):Gz c q=Gz c (q-1):=by
 obtain⟨k,rfl⟩:∃k,q=k+1:=⟨q-1,ω⟩
 rw[Nat.add_sub_cancel] at h ⊢
 rw[Gz,if_pos (aY.1 h)]
theorem jF {c:Nat->Int} {q n:Nat} (h0:Gz c q=Gz c n) (h:q=0\/(c (q-1)).sign≠0):q=Gz c n:=by
 rw[<-h0]
 exact(Ae8 (h.imp id λh e=>h (aY.2 e))).symm
theorem AaQ (n:Nat) (c:Nat->Int) (hn:n<=1000000) (hc:∀i,i<n->Cb (c i)):AF Tryz.prog 195 [AmC n c] (Dm (Gz c n) c):=by
 refine Au func195 rfl λB D0 hA0=>?_
 refine Ae 7 (vlp [0] (λm s=>∃m1,m=m1+1/\(m1<=n/\Gz c m1=Gz c n)/\s=⟨[(0,AmC m1 c)],[],0,22⟩) (n+1) ⟨n,rfl,⟨Nat.le_refl _,rfl⟩,κ⟩ ?_)
 rintro _ _ ⟨m1,rfl,hF,rfl⟩ J1 hJ1
 obtain⟨hF1,hF2⟩:=hF
 refine Ae 7 (Fy 6 ((0:Int)<((m1:Nat):Int)) (λhx1 hx1d=>?_) (λhx1 hx1d=>?_))
 ·
  refine Ae 3 (Dd (((m1:Nat):Int)-1) ((m1-1:Nat):Int) (Fd (m1-1) m1 (Ae 1 (Ao (Nn (c (m1-1)) (hc _ ω)) (Ae 4 (Fy 15 ((c (m1-1)).sign=0) (λhx2 hx2d=>?_) (λhx2 hx2d=>?_)))))))
  ·
   exact Ae 8 (Dd (((m1:Nat):Int)-1) ((m1-1:Nat):Int) (Ci (.slc 2 (m1-1) (λi0=> .lit (Al (c i0)))) .none (kD 239 (.tmp 16) (.tmp 19) κ underlying239 2 m1 sizeOf197 (λi0=> .lit (Al (c i0))) κ (m1-1) ((m1-1:Nat):Int) κ ω ω) (Ae 3 (rE [0] (hJ1 _ _ (by omega:m1-1+1<m1+1) ⟨m1-1,rfl,⟨ω,(Aa8 ω hx2d).symm.trans hF2⟩,rfl⟩)))))
  ·
   exact Ae 6 (vwk 0 (Ae 7 (Eb (.sl 2 m1 (λi0=> .lit (Al (c i0)))) (congrArg (λz=>Dm z c) (jF hF2 ω)))))
 ·
  exact Ae 17 (vwk 0 (Ae 7 (Eb (.sl 2 m1 (λi0=> .lit (Al (c i0)))) (congrArg (λz=>Dm z c) (jF hF2 ω)))))
theorem rK (x:Int):AFM Tryz.prog 238 295 [.int .i64 0] [WA x,.int 0] (Al x):=by
 refine zI func238 rfl λB D0 hA0=>?_
 exact Ae 32 (AoO (.lit (Al x)) κ)
theorem dG (x y:Int) (hx:Cb x) (hy:Cb y) (hz:Cb (x*y)):AFM Tryz.prog 200 295 [.int .i64 0] [WA x,WA y] (Al (x*y)):=by
 refine zI func200 rfl λB D0 hA0=>?_
 exact Ae 8 (Cl [(5,_,.none),(8,.lit (Al (x*y)),(.set 0 (.box 295 [.int 0])))] [6] ⟨Be (dN x y hx hy hz),Br (Js 238 #[.tmp 9,.tmp 13,.tmp 14] #[293,197,41] κ (λ_ _=>by kernel_rfl) 0 295 [.int .i64 0] κ [.lit (Al (x*y)),.int 0] κ κ (Al (x*y)) (rK (x*y))),trivial⟩ (Ae 2 (AoO (.lit (Al (x*y))) κ)))
theorem AaK (x y:Int) (hx:Cb x) (hy:Cb y) (hz:Cb (x+y)):AFM Tryz.prog 201 295 [.int .i64 0] [WA x,WA y] (Al (x+y)):=by
 refine zI func201 rfl λB D0 hA0=>?_
 exact Ae 8 (Cl [(5,_,.none),(8,.lit (Al (x+y)),(.set 0 (.box 295 [.int 0])))] [6] ⟨Be (oC x y hx hy hz),Br (Js 238 #[.tmp 9,.tmp 13,.tmp 14] #[293,197,41] κ (λ_ _=>by kernel_rfl) 0 295 [.int .i64 0] κ [.lit (Al (x+y)),.int 0] κ κ (Al (x+y)) (rK (x+y))),trivial⟩ (Ae 2 (AoO (.lit (Al (x+y))) κ)))
theorem Aqn {c:Nat->Int} {n:Nat} (hl:n=0\/c (n-1)≠0) (h:n≠0):(!decide ((c (n-1)).sign=0))=true:=by
 have h9:¬(c (n-1)).sign=0:=λe=>by
  rcases hl with g|g
  exact h g
  exact g (aY.1 e)
 rw[decide_eq_false h9];rfl
theorem Rn (n:Nat) (c:Nat->Int) (hn:n<=25) (hc:∀i,i<n->Cb (c i)) (hl:n=0\/c (n-1)≠0):AF Tryz.prog 196 [Dm n c] (.bool true):=by
 refine Au func196 rfl λB D0 hA0=>?_
 refine Ae 14 (Vc [0,5,6,7] n (λi=>True) (λi=>⟨[(0,Dm n c),(5,Dm n c),(6,.int (n:Int)),(7,.int (i:Int))],[],0,33⟩) trivial (λi hin hFi J1 hJ1=>?_))
 refine Ae 6 (Fy 8 ((i:Int)<(n:Int)) (λhx1 hx1d=>?_) (λhx1 hx1d=>?_))
 ·
  exact Ae 7 (Fd i n (Ae 8 (Ao (Eh (c i) (hc _ ω)) (Ae 8 (Dd ((i:Int)+1) ((i+1:Nat):Int) (Ae 2 (Tf [0,5,6,7] [] 0 0 hA0 [] trivial (hJ1 ω trivial))))))))
 ·
  refine Ae 12 (La 18 (decide ((n:Int)<=25)) true (decide_eq_true ω) (Ae 4 (Fy 22 ((n:Int)=0) (λhx2 hx2d=>?_) (λhx2 hx2d=>?_))))
  ·
   exact Ae 14 (Cm)
  ·
   exact Ae 3 (Dd ((n:Int)-1) ((n-1:Nat):Int) (Fd (n-1) n (Ae 1 (Ao (Nn (c (n-1)) (hc _ ω)) (Ae 7 (Eb (.bool (!decide ((c (n-1)).sign=0))) (congrArg AV.bool (Aqn hl ω))))))))
def Dp (c:Nat->Int):Nat->Int
 |0=>0
 |n+1=>max (Dp c n) (bitLen (c n).natAbs:Int)
theorem Zp {c:Nat->Int} {k:Nat}:∀n,(∀i,i<n->bitLen (c i).natAbs<=k)->0<=Dp c n/\Dp c n<=(k:Int)
 |0,_=>⟨Int.le_refl _,by show (0:Int)<=_;omega⟩
 |n+1,h=>by
  have h1:=Zp n λi hi=>h i ω
  have h2:=h n (Nat.lt_succ_self n)
  unfold Dp
  omega
theorem AaP (n:Nat) (c:Nat->Int) (hn:n<=1000000) (hc:∀i,i<n->Cb (c i)):AF Tryz.prog 199 [Dm n c] (.int (Dp c n)):=by
 refine Au func199 rfl λB D0 hA0=>?_
 refine Ae 19 (Vc [3,6,7,8] n (λi=>True) (λi=>⟨[(3,.int (Dp c i)),(6,Dm n c),(7,.int (n:Int)),(8,.int (i:Int))],[],0,18⟩) trivial (λi hin hFi J1 hJ1=>?_))
 refine Ae 6 (Fy 9 ((i:Int)<(n:Int)) (λhx1 hx1d=>?_) (λhx1 hx1d=>?_))
 ·
  exact Ae 7 (Fd i n (Ae 8 (Ao (oD (c i) (hc _ ω)) (Ci (.int (max (Dp c i) (bitLen (c i).natAbs:Int))) .none (Ip (.tmp 12) (.tmp 14) #[3,3] κ (Dp c i) (bitLen (c i).natAbs:Int) κ κ) (Ae 5 (Dd ((i:Int)+1) ((i+1:Nat):Int) (Ae 2 (Tf [3,6,7,8] [] 0 0 hA0 [] trivial (hJ1 ω trivial)))))))))
 ·
  exact Ae 13 (Eb (.int (Dp c i)) (congrArg (λz=>AV.int (Dp c z)) (show _=n by omega)))
abbrev oR (l:List Int) (i:Nat):Int:=l.getD i 0
theorem lK (l:List Int) (hl:0<l.length) (hn:l.length<=25) (hc:∀i,Cf (l.getD i 0)):AF Tryz.prog 154 [Ar l] (.tup [Dm (Gz (oR l) l.length) (oR l),.int 0]):=by
 have hle:=Oe (oR l) l.length
 refine Au func154 rfl λB D0 hA0=>?_
 refine Ae 20 (vlp [4,7,8,9] (λm s=>∃i,i<=l.length/\m=l.length-i/\True/\((i=0/\s=⟨[(4,.lit (.slice none 0 0)),(7,Ar l),(8,.int (l.length:Int)),(9,.int ((0:Nat):Int))],[],0,25⟩)\/(0<i/\s=⟨[(4,.osl 9 2 i),(7,Ar l),(8,.int (l.length:Int)),(9,.int (i:Int))],[(9,.vec 197 2 i (λxi=>WA (oR l xi)))],10,25⟩))) l.length ⟨0,Nat.zero_le _,rfl,trivial,.inl ⟨rfl,κ⟩⟩ ?_)
 rintro _ _ ⟨i,hin,rfl,hFi,(⟨hi0,rfl⟩|⟨hi0,rfl⟩)⟩ J1 hJ1
 ·
  subst hi0
  refine Ae 6 (Fy 10 (((0:Nat):Int)<(l.length:Int)) (λhx1 hx1d=>?_) (λhx1 hx1d=>?_))
  ·
   refine Ae 7 (Fd 0 l.length (Ae 7 (Ao (Dh ((l).getD 0 0) (hc _).1 (hc _).2) (Oh 0 197 2 1 (λ_=> .lit (Al ((l).getD 0 0))) ?_))))
   refine rC 24 197 197 2 1 0 1 (λ_=> .lit (Al ((l).getD 0 0))) (λxi=>WA (oR l xi)) (λi hi=>by(obtain rfl:i=0:=(ω));rfl) ?_
   exact Ae 5 (Dd (((0:Nat):Int)+1) ((0+1:Nat):Int) (Ae 2 (Tf [4,7,8,9] [(1,9)] 10 0 hA0 [(197,2,1,(λ_=> .lit (Al ((l).getD 0 0)))),(197,2,1,(λxi=>WA (oR l xi)))] ⟨(Df λ_ _=>rfl),(Df λ_ _=>rfl),trivial⟩ (hJ1 _ _ (by omega:l.length-(0+1)<l.length-0) ⟨0+1,ω,rfl,trivial,.inr ⟨Nat.succ_pos _,rfl⟩⟩))))
  ·
   refine Ae 6 ?_
   exfalso;omega
 ·
  refine Ae 6 (Fy 10 ((i:Int)<(l.length:Int)) (λhx2 hx2d=>?_) (λhx2 hx2d=>?_))
  ·
   refine Ae 7 (Fd i l.length (Ae 7 (Ao (Dh ((l).getD i 0) (hc _).1 (hc _).2) (Oh 10 197 2 1 (λ_=> .lit (Al ((l).getD i 0))) ?_))))
   refine Xo 24 197 197 2 i 1 9 10 11 (λxi=>WA (oR l xi)) (λ_=> .lit (Al ((l).getD i 0))) (λxi=>WA (oR l xi)) (λi hi=>rfl) (λi hi=>by(obtain rfl:i=0:=(ω));rfl) ?_
   exact Ae 5 (Dd ((i:Int)+1) ((i+1:Nat):Int) (Ae 2 (Tf [4,7,8,9] [(11,9)] 10 0 hA0 [(197,2,1,(λ_=> .lit (Al ((l).getD i 0)))),(197,2,i+1,(λxi=>WA (oR l xi)))] ⟨(Df λ_ _=>rfl),(Df λ_ _=>rfl),trivial⟩ (hJ1 _ _ (by omega:l.length-(i+1)<l.length-i) ⟨i+1,ω,rfl,trivial,.inr ⟨Nat.succ_pos _,rfl⟩⟩))))
  ·
   refine Ae 6 ?_
   have hie:i=l.length:=by omega
   subst hie
   exact AmN 9 [4] 197 2 l.length (λxi=>WA (oR l xi)) (Df λ_ _=>rfl) (Ae 3 (Ao (AaQ l.length (oR l) ω (λi _=>Jq (hc i))) (Ae 11 (La 23 (decide ((25:Int)<(Gz (oR l) l.length:Int))) false (decide_eq_false ω) (Ae 11 (Cm))))))
def Nw (a b:Int) (c:Nat->Int) (t k:Nat):Int:=if k<t then (if k=0 then 0 else c (k-1)*b)+c k*a else if k=t/\0<t then c (t-1)*b else 0
theorem Ah3 (a b:Int) (c:Nat->Int) (k:Nat):WA 0=WA (Nw a b c 0 k):=by
 unfold Nw
 rw[if_neg (Nat.not_lt_zero k),if_neg ω]
theorem Ah2 (a b:Int) (c:Nat->Int) (t k:Nat):(if k=t+1 then WA (c t*b) else if k=t then WA (Nw a b c t t+c t*a) else WA (Nw a b c t k))=WA (Nw a b c (t+1) k):=by
 by_cases h1:k=t+1
 rw[if_pos h1]
 unfold Nw
 rw[if_neg ω,if_pos ω,Nat.add_sub_cancel]
 rw[if_neg h1]
 by_cases h2:k=t
 subst h2
 rw[if_pos rfl]
 unfold Nw
 rw[if_neg (Nat.lt_irrefl k),if_pos (Nat.lt_succ_self k)]
 by_cases h3:k=0
 subst h3;rw[if_neg ω,if_pos rfl]
 rw[if_pos ω,if_neg h3]
 rw[if_neg h2]
 by_cases h3:k<t
 rw[Nw,Nw,if_pos h3,if_pos (show k<t+1 by omega)]
 rw[Nw,Nw,if_neg h3,if_neg ω,if_neg ω,if_neg ω]
def Mq (d:Int):Nat->Int
 |0=>1
 |k+1=>Mq d k*d
theorem qK (d:Int):∀k,Mq d k=d^k
 |0=>by rw[Int.pow_zero];rfl
 |k+1=>by rw[Mq,qK d k,Int.pow_succ]
def cN (p:Nat->Int) (m:Nat) (a b d:Int):Nat->Nat->Int
 |0,_=>p (m-1)
 |j+1,k=>Nw a b (cN p m a b d j) (j+1) k+(if k=0 then p (m-2-j)*Mq d (j+1) else 0)
theorem Akw (p:Nat->Int) (m:Nat) (a b d:Int) (j k:Nat) {q:Nat} (hq:q=m-2-j):(if k=0 then WA (Nw a b (cN p m a b d j) (j+1) 0+p q*Mq d (j+1)) else WA (Nw a b (cN p m a b d j) (j+1) k))=WA (cN p m a b d (j+1) k):=by
 subst hq
 rw[cN]
 by_cases h:k=0
 subst h;rw[if_pos rfl,if_pos rfl]
 rw[if_neg h,if_neg h,Int.add_zero]
theorem Ah1 {a b:Int} {c:Nat->Int} {e:Nat} (ha:Cf a) (hb:Cf b) (hc:∀k,Bd e (c k)) (t k:Nat):Bd (e+64) (Nw a b c t k):=by
 have h1:∀k,Bd (e+63) (c k*a):=λk=>(hc k).mul (Bd.int ha.1 ha.2)
 have h2:∀k,Bd (e+63) (c k*b):=λk=>(hc k).mul (Bd.int hb.1 hb.2)
 unfold Nw
 split
 refine Bd.add (e:=e+63) ?_ (h1 k)
 split
 exact Bd.zero _
 exact h2 _
 split
 exact(h2 _).mono ω
 exact Bd.zero _
theorem sW {p:Nat->Int} {m:Nat} {a b d:Int} (hp:∀i,Cf (p i)) (ha:Cf a) (hb:Cf b) (hd:Cf d):∀j k,Bd (70*j+63) (cN p m a b d j k)
 |0,_=>Bd.int (hp _).1 (hp _).2
 |j+1,k=>by
  have h1:=Ah1 ha hb (sW (m:=m) hp ha hb hd j) (j+1) k
  rw[cN]
  refine(Bd.add (e:=70*j+63+64) (h1.mono ζ) ?_).mono ω
  split
  rw[qK];exact((Bd.int (hp _).1 (hp _).2).mul ((Bd.int hd.1 hd.2).pow (j+1))).mono ω
  exact Bd.zero _
def c3 (a b d:Int):Nat->Int
 |0=>a
 |1=>b
 |_=>d
theorem Am2 {a b d:Int} (ha:Cf a) (hb:Cf b) (hd:Cf d):∀i,Cf (c3 a b d i)
 |0=>ha
 |1=>hb
 |_+2=>hd
theorem AiN {c:Nat->Int} {n:Nat} (h:∀i,Cf (c i)):0<=Dp c n/\Dp c n<=64:=Zp (k:=64) n λi _=>by
 have:=(Bd.int (h i).1 (h i).2).le
 exact Fm.2 ω
theorem rO (k0:Nat) (p:Nat->Int) (a b d:Int) (hm:k0<=5) (hp:∀i,Cf (p i)) (hl:p k0≠0) (ha:Cf a) (hb:Cf b) (hd:Cf d) (hdp:0<d):AF Tryz.prog 155 [Dm (k0+1) p,WA a,WA b,WA d] (.tup [Dm (Gz (cN p (k0+1) a b d k0) (k0+1)) (cN p (k0+1) a b d k0),.int 0]):=by
 have hsp:=AiN (n:=k0+1) hp
 have hs3:=AiN (n:=3) (Am2 ha hb hd)
 have hml:0<=((k0+1-1:Nat):Int)*(Dp (c3 a b d) 3+1)/\((k0+1-1:Nat):Int)*(Dp (c3 a b d) 3+1)<=325:=⟨Int.mul_nonneg ω ω,Int.le_trans (Int.mul_le_mul (show ((k0+1-1:Nat):Int)<=5 by omega) (show Dp (c3 a b d) 3+1<=65 by omega) ω ω) δ⟩
 have fc:∀j k,j<=6->Cb (cN p (k0+1) a b d j k):=λj k hj=>(sW hp ha hb hd j k).fit ω
 have fi:∀j t k,j<=6->Bd 600 (Nw a b (cN p (k0+1) a b d j) t k):=λj t k hj=>(Ah1 ha hb (sW hp ha hb hd j) t k).mono ω
 have fm:∀j k y,j<=6->Cf y->Bd 600 (cN p (k0+1) a b d j k*y):=λj k y hj hy=>((sW hp ha hb hd j k).mul (Bd.int hy.1 hy.2)).mono ω
 have fd:∀j,j<=6->Bd 500 (Mq d j):=λj hj=>by rw[qK];exact((Bd.int hd.1 hd.2).pow j).mono ω
 have fp:∀i j,j<=6->Bd 600 (p i*Mq d j):=λi j hj=>((Bd.int (hp i).1 (hp i).2).mul (fd j hj)).mono ω
 refine Au func155 rfl λB D0 hA0=>?_
 refine Ae 13 (Ao (Rn (k0+1) p ω (λi _=>Jq (hp i)) (.inr hl)) (Ae 3 (Ao (Eh _ (Jq ha)) (Ae 4 (Ao (Eh _ (Jq hb)) (Ae 4 (Ao (Eh _ (Jq hd)) (Ae 11 (Ao (Nn d (Jq hd)) (Ae 3 (La 37 (decide (d.sign<=0)) false (decide_eq_false (by rw[Int.sign_eq_one_of_pos hdp];decide)) (Ae 11 (La 40 (decide (((k0+1:Nat):Int)=0)) false (decide_eq_false ω) (Ae 5 (Cl [(1,_,.none),(4,.int ((k0+1-1:Nat):Int),.none),(8,.osl 3 2 3,(.new 3 (.vec 197 2 3 (λxi=>WA (c3 a b d xi))))),(9,.int (Dp (c3 a b d) 3),(.read 3)),(10,.int (Dp (c3 a b d) 3+1),.none),(11,.int (((k0+1-1:Nat):Int)*(Dp (c3 a b d) 3+1)),.none),(12,.int (Dp p (k0+1)+((k0+1-1:Nat):Int)*(Dp (c3 a b d) 3+1)),.none),(13,.int (Dp p (k0+1)+((k0+1-1:Nat):Int)*(Dp (c3 a b d) 3+1)+8),.none),(14,.bool false,.none)] [0,5,6,7,55] ⟨Be (AaP (k0+1) p ω (λi _=>Jq (hp i))),Bk (.int .i64 (IntKind.wrap .i64 (((k0+1:Nat):Int)-1))) η,Br (Db 238 3 #[(0,(.tmp 46)),(1,(.tmp 47)),(2,(.tmp 48))] κ underlying238 2 sizeOf197 _ zeroValue197 κ β β β 3 [.bool (decide (a<0)),.lit (.string (Cz (a).natAbs)),.bool (decide (b<0)),.lit (.string (Cz (b).natAbs)),.bool (decide (d<0)),.lit (.string (Cz (d).natAbs))] κ (λxi=>WA (c3 a b d xi)) κ),Br (Ri 199 #[.tmp 49] #[238] κ (λ_ _=>by kernel_rfl) 3 (.vec 197 2 3 (λxi=>WA (c3 a b d xi))) κ (λ_ _ _ _ h=>by cases h;exact(Df λ_ _=>rfl)) [.osl 3 2 3] κ [.sl 2 3 (λxi=>WA (c3 a b d xi))] κ (.int .i64 (Dp (c3 a b d) 3)) (AaP 3 (c3 a b d) ω (λi _=>Jq (Am2 ha hb hd i)))),Bk (.int .i64 (IntKind.wrap .i64 (Dp (c3 a b d) 3+1))) η,Bk (.int .i64 (IntKind.wrap .i64 (((k0+1-1:Nat):Int)*(Dp (c3 a b d) 3+1)))) η,Bk (.int .i64 (IntKind.wrap .i64 (Dp p (k0+1)+((k0+1-1:Nat):Int)*(Dp (c3 a b d) 3+1)))) η,Bk (.int .i64 (IntKind.wrap .i64 (Dp p (k0+1)+((k0+1-1:Nat):Int)*(Dp (c3 a b d) 3+1)+8))) η,rG (b:=decide ((65536:Int)<Dp p (k0+1)+((k0+1-1:Nat):Int)*(Dp (c3 a b d) 3+1)+8)) (decide_eq_false ω),trivial⟩ (Ae 10 (Cl [(3,.int ((k0+1-1:Nat):Int),.none),(4,Co (Dm (k0+1) p) (k0+1-1),.none),(6,.osl 5 2 1,(.new 5 (.vec 197 2 1 (λ_=> .lit (Al (p (k0+1-1))))))),(7,_,.none)] [0,5,6,7,10,11,12] ⟨Bk (.int .i64 (IntKind.wrap .i64 (((k0+1:Nat):Int)-1))) η,Ht (k0+1-1) (k0+1),Br (Db 239 1 #[(0,(.tmp 61))] κ underlying239 2 sizeOf197 _ zeroValue197 κ β β β 5 [.bool (decide (p (k0+1-1)<0)),.lit (.string (Cz (p (k0+1-1)).natAbs))] κ (λ_=> .lit (Al (p (k0+1-1)))) κ),Be (Dh 1 δ δ),trivial⟩ (Ae 6 (Dd (((k0+1:Nat):Int)-2) (((k0-0:Nat):Int)-1) (Ae 4 (Vc [0,5,6,7,10,11,12,13] k0 (λj=>True) (λj=>⟨[(0,Dm (k0+1) p),(5,.ptr 0 0),(6,.ptr 1 0),(7,.ptr 2 0),(10,.ptr 4 0),(11,.osl 5 2 (j+1)),(12,.ptr 6 0),(13,.int (((k0-j:Nat):Int)-1))],[(0,.box 197 [.bool (decide (a<0)),.lit (.string (Cz (a).natAbs))]),(1,.box 197 [.bool (decide (b<0)),.lit (.string (Cz (b).natAbs))]),(2,.box 197 [.bool (decide (d<0)),.lit (.string (Cz (d).natAbs))]),(3,.vec 197 2 3 (λxi=>WA (c3 a b d xi))),(4,.box 295 [.int 0]),(5,.vec 197 2 (j+1) (λxi=>WA (cN p (k0+1) a b d j xi))),(6,.box 197 [.bool (decide (Mq d j<0)),.lit (.string (Cz (Mq d j).natAbs))])],7,121⟩) trivial (λj hjn hFj J1 hJ1=>?_))))))))))))))))))))))
 refine Ae 7 (Fy 68 ((0:Int)<=((k0-j:Nat):Int)-1) (λhx1 hx1d=>?_) (λhx1 hx1d=>?_))
 ·
  refine Ae 9 (Ci (.lit (Al (Mq d (j+1)))) (.set 4 (.box 295 [.int 0])) (Js 200 #[.tmp 10,.tmp 71,.tmp 72] #[295,197,197] κ (λ_ _=>by kernel_rfl) 4 295 [.int .i64 0] κ [.lit (Al (Mq d j)),.lit (Al d)] κ κ (Al (Mq d (j+1))) (dG (Mq d j) d ((fd j ω).fit ω) (Jq hd) ((fd (j+1) ω).fit ω))) (Ae 7 (Dd (((j+1:Nat):Int)+1) ((j+1+1:Nat):Int) (Ci (.osl 7 2 (j+1+1)) (.new 7 (.vec 197 2 (j+1+1) (λ_=> .lit (Al 0)))) (Qg 239 (.tmp 76) (.tmp 76) κ underlying239 2 24 (.agg #[.bool false,.string ⟨#[]⟩]) κ κ δ ((j+1+1:Nat):Int) (j+1+1) ω κ κ ω ω ω 7 (.lit (Al 0)) κ) (Ae 12 (kM 7 197 2 (j+1+1) (λ_=> .lit (Al 0)) (λxi=>WA (Nw a b (cN p (k0+1) a b d j) 0 xi)) (λx9 hx9=>Ah3 _ _ _ _) (Vc [0,5,6,7,10,12,13,14,78,79,80] (j+1) (λt=>True) (λt=>⟨[(0,Dm (k0+1) p),(5,.ptr 0 0),(6,.ptr 1 0),(7,.ptr 2 0),(10,.ptr 4 0),(12,.ptr 6 0),(13,.int (((k0-j:Nat):Int)-1)),(14,.osl 7 2 (j+1+1)),(78,.osl 5 2 (j+1)),(79,.int ((j+1:Nat):Int)),(80,.int (t:Int))],[(0,.box 197 [.bool (decide (a<0)),.lit (.string (Cz (a).natAbs))]),(1,.box 197 [.bool (decide (b<0)),.lit (.string (Cz (b).natAbs))]),(2,.box 197 [.bool (decide (d<0)),.lit (.string (Cz (d).natAbs))]),(3,.vec 197 2 3 (λxi=>WA (c3 a b d xi))),(4,.box 295 [.int 0]),(5,.vec 197 2 (j+1) (λxi=>WA (cN p (k0+1) a b d j xi))),(6,.box 197 [.bool (decide (Mq d (j+1)<0)),.lit (.string (Cz (Mq d (j+1)).natAbs))]),(7,.vec 197 2 (j+1+1) (λxi=>WA (Nw a b (cN p (k0+1) a b d j) t xi)))],8,121⟩) trivial (λt htn hFt J2 hJ2=>?_))))))))
  refine Ae 6 (Fy 81 ((t:Int)<((j+1:Nat):Int)) (λhx2 hx2d=>?_) (λhx2 hx2d=>?_))
  ·
   exact Ae 8 (Fd t (j+1) (Ci (.lit (Al (cN p (k0+1) a b d j t))) (.read 5) (Bi 197 (.tmp 83) κ isAgg197 2 sizeOf197 5 t κ 197 (j+1) (λxi=>WA (cN p (k0+1) a b d j xi)) κ ω) (Ae 6 (Cl [(4,Co (.osl 7 2 (j+1+1)) t,.none),(5,.lit (Al (Nw a b (cN p (k0+1) a b d j) t t)),(.read 7)),(8,.lit (Al (cN p (k0+1) a b d j t*a)),(.set 4 (.box 295 [.int 0]))),(9,.lit (Al (Nw a b (cN p (k0+1) a b d j) t t+cN p (k0+1) a b d j t*a)),(.set 4 (.box 295 [.int 0]))),(10,Co (.osl 7 2 (j+1+1)) t,.none),(11,.lit Go.undef,(.set 7 (.vec 197 2 (j+1+1) (λxi=>if xi=t then .lit (Al (Nw a b (cN p (k0+1) a b d j) t t+cN p (k0+1) a b d j t*a)) else (λxi=>WA (Nw a b (cN p (k0+1) a b d j) t xi)) xi))))] [0,5,6,7,10,12,13,14,15,16,78,79,80] ⟨Ht t (j+1+1),Br (Bi 197 (.tmp 89) κ isAgg197 2 sizeOf197 7 t κ 197 (j+1+1) (λxi=>WA (Nw a b (cN p (k0+1) a b d j) t xi)) κ ω),Br (Js 200 #[.tmp 10,.tmp 91,.tmp 92] #[295,197,197] κ (λ_ _=>by kernel_rfl) 4 295 [.int .i64 0] κ [.lit (Al (cN p (k0+1) a b d j t)),.lit (Al a)] κ κ (Al (cN p (k0+1) a b d j t*a)) (dG _ _ (fc j _ ω) (Jq ha) ((fm j _ _ ω ha).fit ω))),Br (Js 201 #[.tmp 10,.tmp 90,.tmp 93] #[295,197,197] κ (λ_ _=>by kernel_rfl) 4 295 [.int .i64 0] κ [.lit (Al (Nw a b (cN p (k0+1) a b d j) t t)),.lit (Al (cN p (k0+1) a b d j t*a))] κ κ (Al (Nw a b (cN p (k0+1) a b d j) t t+cN p (k0+1) a b d j t*a)) (AaK _ _ ((fi j _ _ ω).fit ω) ((fm j _ _ ω ha).fit ω) (((fi j _ _ ω).add (fm j _ _ ω ha)).fit ω))),Ht t (j+1+1),Br (Gk 197 (.tmp 95) (.tmp 94) κ 2 sizeOf197 7 t κ 197 (j+1+1) (λxi=>WA (Nw a b (cN p (k0+1) a b d j) t xi)) κ ω κ κ κ (.lit (Al (Nw a b (cN p (k0+1) a b d j) t t+cN p (k0+1) a b d j t*a))) κ),trivial⟩ (Ae 4 (Dd ((t:Int)+1) ((t+1:Nat):Int) (Ae 2 (Ci (.lit (Al (cN p (k0+1) a b d j t*b))) (.set 4 (.box 295 [.int 0])) (Js 200 #[.tmp 10,.tmp 99,.tmp 100] #[295,197,197] κ (λ_ _=>by kernel_rfl) 4 295 [.int .i64 0] κ [.lit (Al (cN p (k0+1) a b d j t)),.lit (Al b)] κ κ (Al (cN p (k0+1) a b d j t*b)) (dG _ _ (fc j _ ω) (Jq hb) ((fm j _ _ ω hb).fit ω))) (Fd (t+1) (j+1+1) (Ci (.lit Go.undef) (.set 7 (.vec 197 2 (j+1+1) (λxi=>if xi=t+1 then .lit (Al (cN p (k0+1) a b d j t*b)) else (λxi=>if xi=t then .lit (Al (Nw a b (cN p (k0+1) a b d j) t t+cN p (k0+1) a b d j t*a)) else (λxi=>WA (Nw a b (cN p (k0+1) a b d j) t xi)) xi) xi))) (Gk 197 (.tmp 102) (.tmp 101) κ 2 sizeOf197 7 (t+1) κ 197 (j+1+1) (λxi=>if xi=t then .lit (Al (Nw a b (cN p (k0+1) a b d j) t t+cN p (k0+1) a b d j t*a)) else (λxi=>WA (Nw a b (cN p (k0+1) a b d j) t xi)) xi) κ ω κ κ κ (.lit (Al (cN p (k0+1) a b d j t*b))) κ) (Ae 4 (Dd ((t:Int)+1) ((t+1:Nat):Int) (Ae 2 (kM 7 197 2 (j+1+1) (λxi=>if xi=t+1 then .lit (Al (cN p (k0+1) a b d j t*b)) else (λxi=>if xi=t then .lit (Al (Nw a b (cN p (k0+1) a b d j) t t+cN p (k0+1) a b d j t*a)) else (λxi=>WA (Nw a b (cN p (k0+1) a b d j) t xi)) xi) xi) (λxi=>WA (Nw a b (cN p (k0+1) a b d j) (t+1) xi)) (λx9 hx9=>Ah2 _ _ _ _ _) (Tf [0,5,6,7,10,12,13,14,78,79,80] [(0,0),(1,1),(2,2),(3,3),(4,4),(5,5),(6,6),(7,7)] 8 0 hA0 [(197,2,3,(λxi=>WA (c3 a b d xi))),(197,2,j+1,(λxi=>WA (cN p (k0+1) a b d j xi))),(197,2,j+1+1,(λxi=>WA (Nw a b (cN p (k0+1) a b d j) (t+1) xi)))] ⟨(Df λ_ _=>rfl),(Df λ_ _=>rfl),(Df λ_ _=>rfl),trivial⟩ (hJ2 ω trivial))))))))))))))))
  ·
   refine Ae 6 ?_
   have hte:t=j+1:=by omega
   subst hte
   exact Ae 1 (Cl [(2,Co (.osl 7 2 (j+1+1)) 0,.none),(3,.lit (Al (Nw a b (cN p (k0+1) a b d j) (j+1) 0)),(.read 7)),(6,Co (Dm (k0+1) p) (((k0-j:Nat):Int)-1).toNat,.none),(9,.lit (Al (p ((((k0-j:Nat):Int)-1).toNat)*(Mq d (j+1)))),(.set 4 (.box 295 [.int 0]))),(10,.lit (Al (Nw a b (cN p (k0+1) a b d j) (j+1) 0+p ((((k0-j:Nat):Int)-1).toNat)*(Mq d (j+1)))),(.set 4 (.box 295 [.int 0]))),(11,Co (.osl 7 2 (j+1+1)) 0,.none),(12,.lit Go.undef,(.set 7 (.vec 197 2 (j+1+1) (λxi=>if xi=0 then .lit (Al (Nw a b (cN p (k0+1) a b d j) (j+1) 0+p ((((k0-j:Nat):Int)-1).toNat)*(Mq d (j+1)))) else (λxi=>WA (Nw a b (cN p (k0+1) a b d j) (j+1) xi)) xi))))] [0,5,6,7,10,12,13,14] ⟨Ht 0 (j+1+1),Br (Bi 197 (.tmp 106) κ isAgg197 2 sizeOf197 7 0 κ 197 (j+1+1) (λxi=>WA (Nw a b (cN p (k0+1) a b d j) (j+1) xi)) κ ω),Ah6 (((k0-j:Nat):Int)-1) (((k0-j:Nat):Int)-1).toNat (k0+1),Br (Js 200 #[.tmp 10,.tmp 111,.tmp 112] #[295,197,197] κ (λ_ _=>by kernel_rfl) 4 295 [.int .i64 0] κ [.lit (Al (p ((((k0-j:Nat):Int)-1).toNat))),.lit (Al (Mq d (j+1)))] κ κ (Al (p ((((k0-j:Nat):Int)-1).toNat)*(Mq d (j+1)))) (dG _ _ (Jq (hp _)) ((fd _ ω).fit ω) ((fp _ _ ω).fit ω))),Br (Js 201 #[.tmp 10,.tmp 107,.tmp 113] #[295,197,197] κ (λ_ _=>by kernel_rfl) 4 295 [.int .i64 0] κ [.lit (Al (Nw a b (cN p (k0+1) a b d j) (j+1) 0)),.lit (Al (p ((((k0-j:Nat):Int)-1).toNat)*(Mq d (j+1))))] κ κ (Al (Nw a b (cN p (k0+1) a b d j) (j+1) 0+p ((((k0-j:Nat):Int)-1).toNat)*(Mq d (j+1)))) (AaK _ _ ((fi j _ _ ω).fit ω) ((fp _ _ ω).fit ω) (((fi j _ _ ω).add (fp _ _ ω)).fit ω))),Ht 0 (j+1+1),Br (Gk 197 (.tmp 115) (.tmp 114) κ 2 sizeOf197 7 0 κ 197 (j+1+1) (λxi=>WA (Nw a b (cN p (k0+1) a b d j) (j+1) xi)) κ ω κ κ κ (.lit (Al (Nw a b (cN p (k0+1) a b d j) (j+1) 0+p ((((k0-j:Nat):Int)-1).toNat)*(Mq d (j+1))))) κ),trivial⟩ (Ae 9 (Dd (((k0-j:Nat):Int)-1-1) (((k0-(j+1):Nat):Int)-1) (Ae 2 (kM 7 197 2 (j+1+1) (λxi=>if xi=0 then .lit (Al (Nw a b (cN p (k0+1) a b d j) (j+1) 0+p ((((k0-j:Nat):Int)-1).toNat)*(Mq d (j+1)))) else (λxi=>WA (Nw a b (cN p (k0+1) a b d j) (j+1) xi)) xi) (λxi=>WA (cN p (k0+1) a b d (j+1) xi)) (λx9 hx9=>Akw _ _ _ _ _ _ _ ω) (Tf [0,5,6,7,10,11,12,13] [(0,0),(1,1),(2,2),(3,3),(4,4),(7,5),(6,6)] 7 0 hA0 [(197,2,3,(λxi=>WA (c3 a b d xi))),(197,2,j+1,(λxi=>WA (cN p (k0+1) a b d j xi))),(197,2,j+1+1,(λxi=>WA (cN p (k0+1) a b d (j+1) xi)))] ⟨(Df λ_ _=>rfl),(Df λ_ _=>rfl),(Df λ_ _=>rfl),trivial⟩ (hJ1 ω trivial)))))))
 ·
  refine Ae 6 ?_
  have hje:j=k0:=by omega
  subst hje
  refine AmN 5 [11] 197 2 (j+1) (λxi=>WA (cN p (j+1) a b d j xi)) (Df λ_ _=>rfl) (Ae 3 (Amp 7 func202 (λ_ hD3=>?_)))
  exact Ae 23 (Ao (AaQ (j+1) (cN p (j+1) a b d j) ω (λi _=>fc _ i ω)) (Ae 5 (vrI (Ae 7 (Cm)))))
theorem Pz.nil:Pz []:=⟨δ,λi=>by simp[Sg.none];exact⟨Si,Si,Si,λ_=>by simpa using Si,λ_=>by simpa using Si,λ_=>by simpa using Si⟩⟩
theorem iZ {a b:Int} (ha: -1048576<=a/\a<=1048576) (hb: -1048576<=b/\b<=1048576) {k:Int} (i:Nat):Cf ((Cx a b (Bq k)).getD i 0):=by
 have key:∀x,x∈Cx a b (Bq k)->Cf x:=λx hx=>by
  unfold Cx at hx
  rcases List.mem_cons.1 hx with rfl|hx
  exact⟨ω,ω⟩
  split at hx
  cases hx
  obtain⟨y,hy,rfl⟩:=List.mem_map.1 hx
  have hy2: -100<=y/\y<=100:=by
   unfold Bq at hy
   split at hy
   cases hy
   split at hy
   have:y=1:=by simpa using hy
   omega
   simp at hy;omega
  have:=mQ y (b-a) hy2 ω
  exact⟨ω,ω⟩
 rw[Γ]
 cases h:(Cx a b (Bq k))[i]? with
 |none=>exact Si
 |some x=>exact key x (List.mem_of_getElem? h)
theorem AnE {p:Pr} {a k:Int} (h:Ake p a k) (ha:a<=1000) (hk:k<=1000) (hl:∀a∈p.acts,Cf a.len):fF p:=by
 have hm:(1000000:Nat)<=maxLen:=by decide
 refine⟨λs hs=>?_,λx hx=>?_,by have:=h.2.2.1;omega,λx hx=>?_,hl⟩
 obtain⟨i,hi,rfl⟩:=List.getElem_of_mem hs
 have:=h.2.2.2.1 i hi
 rw[Γ,List.getElem?_eq_getElem hi] at this
 simp at this
 omega
 obtain⟨i,hi,rfl⟩:=List.getElem_of_mem hx
 have:=(h.2.2.2.2 i hi).1
 rw[Γ,List.getElem?_eq_getElem hi] at this
 simp at this
 omega
 obtain⟨i,hi,rfl⟩:=List.getElem_of_mem hx
 have:=(h.2.2.2.2 i hi).2
 rw[Γ,List.getElem?_eq_getElem hi] at this
 simp at this
 omega
theorem Aji (n:Int):∃r,Ga [.one .i] r/\AF Tryz.prog 141 [.int n] r:=by
 refine Av func141 rfl ?_
 refine Ab 14 (Ev 3 ?_ ?_)
 exact Ab 9 (Bc)
 refine Ab 8 (Ev 6 ?_ ?_)
 exact Ab 9 (Bc)
 exact Ab 10 (Bc)
noncomputable def AoP (n:Int):Value:=Kp 141 [.one .i] [.int n]
theorem AfG (n:Int):AF Tryz.prog 141 [.int n] (.lit (Hi [.one .i] (AoP n))):=Bn (Aji n)
theorem Ajj (a:V3) (b:V3) (c:V3):∃r,Ga [.one .i,.one .i] r/\AF Tryz.prog 116 [Bg a,Bg b,Bg c] r:=by
 refine Av func116 rfl ?_
 refine Ab 13 (gs (Ao (Vk a) ·) (Ab 2 (Ev 11 ?_ ?_)))
 exact Ab 20 (Bc)
 refine Ab 1 (gs (Ao (Vk b) ·) (Ab 3 (Ev 16 ?_ ?_)))
 exact Ab 15 (Bc)
 refine Ab 1 (gs (Ao (Vk c) ·) (Ab 4 (Ev 20 ?_ ?_)))
 exact Ab 9 (Bc)
 exact Ab 28 (Dx (AfG (Ai (Ai ((Ai (b.x-a.x))*(Ai (c.y-a.y)))-Ai ((Ai (b.y-a.y))*(Ai (c.x-a.x)))))) λv3 hv3=>(gs (Ao hv3 ·) (Ab 5 (Bc))))
noncomputable def AoQ (a:V3) (b:V3) (c:V3):Value:=Kp 116 [.one .i,.one .i] [Bg a,Bg b,Bg c]
theorem AfH (a:V3) (b:V3) (c:V3):AF Tryz.prog 116 [Bg a,Bg b,Bg c] (.lit (Hi [.one .i,.one .i] (AoQ a b c))):=Bn (Ajj a b c)
theorem Ahp (a:V3) (b:V3) (c:V3):∃r,Ga [.one .i] r/\AF Tryz.prog 90 [Bg a,Bg b,Bg c] r:=by
 refine Av func90 rfl ?_
 exact Ab 13 (Dx (AfH a b c) λv1 hv1=>(gs (Ao hv1 ·) (Ab 14 (Bc))))
noncomputable def AnL (a:V3) (b:V3) (c:V3):Value:=Kp 90 [.one .i] [Bg a,Bg b,Bg c]
theorem Ng (a:V3) (b:V3) (c:V3):AF Tryz.prog 90 [Bg a,Bg b,Bg c] (.lit (Hi [.one .i] (AnL a b c))):=Bn (Ahp a b c)
theorem AnI (a:V3) (b:V3) (c:V3):∃r,Ga [.one .b] r/\AF Tryz.prog 86 [Bg a,Bg b,Bg c] r:=by
 refine Av func86 rfl ?_
 refine Ab 13 (Dx (Ng a b c) λv1 hv1=>(gs (Ao hv1 ·) (Ab 2 (Ev 12 ?_ ?_))))
 refine Ab 6 (gs (Ci (.int (min a.x b.x)) .none (Vo (.tmp 16) (.tmp 18) #[3,3] κ a.x b.x κ κ) ·) (Ab 3 (Ev 22 ?_ ?_)))
 refine Ab 6 (gs (Ci (.int (max a.x b.x)) .none (Ip (.tmp 26) (.tmp 28) #[3,3] κ a.x b.x κ κ) ·) (Ab 3 (Ev 32 ?_ ?_)))
 refine Ab 6 (gs (Ci (.int (min a.y b.y)) .none (Vo (.tmp 36) (.tmp 38) #[3,3] κ a.y b.y κ κ) ·) (Ab 3 (Ev 42 ?_ ?_)))
 exact Ab 6 (gs (Ci (.int (max a.y b.y)) .none (Ip (.tmp 46) (.tmp 48) #[3,3] κ a.y b.y κ κ) ·) (Ab 6 (Bc)))
 exact Ab 13 (Bc)
 exact Ab 23 (Bc)
 exact Ab 33 (Bc)
 exact Ab 43 (Bc)
noncomputable def AqT (a:V3) (b:V3) (c:V3):Value:=Kp 86 [.one .b] [Bg a,Bg b,Bg c]
theorem Px (a:V3) (b:V3) (c:V3):AF Tryz.prog 86 [Bg a,Bg b,Bg c] (.lit (Hi [.one .b] (AqT a b c))):=Bn (AnI a b c)
theorem Ahk (a:V3) (b:V3) (c:V3) (d:V3):∃r,Ga [.one .b] r/\AF Tryz.prog 63 [Bg a,Bg b,Bg c,Bg d] r:=by
 refine Av func63 rfl ?_
 refine Ab 10 (Dx (Px a b c) λv1 hv1=>?_)
 refine Ec (gB v1) (λhx2=>?_) (λhx2=>?_)
 exact gs (Cl [(3,.bool true,.none)] [8] ⟨aO hx2 (Be hv1),trivial⟩ ·) (Ab 2 (Bc))
 refine Dx (Px a b d) λv3 hv3=>?_
 refine Ec (gB v3) (λhx4=>?_) (λhx4=>?_)
 exact gs (Cl [(3,.bool false,.none),(8,.bool true,.none)] [8] ⟨aO hx2 (Be hv1),aO hx4 (Be hv3),trivial⟩ ·) (Ab 2 (Bc))
 refine Dx (Px c d a) λv5 hv5=>?_
 refine Ec (gB v5) (λhx6=>?_) (λhx6=>?_)
 exact gs (Cl [(3,.bool false,.none),(8,.bool false,.none),(14,.bool true,.none)] [8] ⟨aO hx2 (Be hv1),aO hx4 (Be hv3),aO hx6 (Be hv5),trivial⟩ ·) (Ab 2 (Bc))
 refine Dx (Px c d b) λv7 hv7=>?_
 refine Ec (gB v7) (λhx8=>?_) (λhx8=>?_)
 exact gs (Cl [(3,.bool false,.none),(8,.bool false,.none),(14,.bool false,.none),(20,.bool true,.none)] [8] ⟨aO hx2 (Be hv1),aO hx4 (Be hv3),aO hx6 (Be hv5),aO hx8 (Be hv7),trivial⟩ ·) (Ab 2 (Bc))
 refine Dx (Ng a b c) λv9 hv9=>(Dx (Ng a b d) λv10 hv10=>(vsp (Ai ((gI v9)*(gI v10))<0) (λhx11 hx11d=>?_) (λhx11 hx11d=>?_)))
 exact Dx (Ng c d a) λv12 hv12=>(Dx (Ng c d b) λv13 hv13=>(gs (Cl [(3,.bool false,.none),(8,.bool false,.none),(14,.bool false,.none),(20,.bool false,.none),(26,_,.none),(30,_,.none),(32,.bool true,.none),(37,_,.none),(41,_,.none)] [8] ⟨aO hx2 (Be hv1),aO hx4 (Be hv3),aO hx6 (Be hv5),aO hx8 (Be hv7),Be hv9,Be hv10,rG hx11,Be hv12,Be hv13,trivial⟩ ·) (Ab 2 (Bc))))
 exact gs (Cl [(3,.bool false,.none),(8,.bool false,.none),(14,.bool false,.none),(20,.bool false,.none),(26,_,.none),(30,_,.none),(32,.bool false,.none)] [8] ⟨aO hx2 (Be hv1),aO hx4 (Be hv3),aO hx6 (Be hv5),aO hx8 (Be hv7),Be hv9,Be hv10,rG hx11,trivial⟩ ·) (Ab 2 (Bc))
noncomputable def AnG (a:V3) (b:V3) (c:V3) (d:V3):Value:=Kp 63 [.one .b] [Bg a,Bg b,Bg c,Bg d]
theorem eP (a:V3) (b:V3) (c:V3) (d:V3):AF Tryz.prog 63 [Bg a,Bg b,Bg c,Bg d] (.lit (Hi [.one .b] (AnG a b c d))):=Bn (Ahk a b c d)
theorem Ahn (n:Int):∃r,Ga [.one .i] r/\AF Tryz.prog 92 [.int n] r:=by
 refine Av func92 rfl ?_
 refine Ab 14 (Ev 3 ?_ ?_)
 exact Ab 9 (Bc)
 refine Ab 8 (Ev 6 ?_ ?_)
 exact Ab 9 (Bc)
 exact Ab 10 (Bc)
noncomputable def AnJ (n:Int):Value:=Kp 92 [.one .i] [.int n]
theorem rQ (n:Int):AF Tryz.prog 92 [.int n] (.lit (Hi [.one .i] (AnJ n))):=Bn (Ahn n)
structure Vs where
 n:Nat
 f:Nat->V3
abbrev Cj (l:Vs):AV:= .sl 3 l.n λi=>Bg (l.f i)
theorem AcP (l:Vs) (h0:l.n<=64):∃r,Ga [.one .b] r/\AF Tryz.prog 84 [Cj l,.fn 85 []] r:=by
 refine Av func84 rfl ?_
 refine Ab 9 (cX func115 (Ab 14 (AoF [0,1,7,8] l.n (λq=>True) (λq=>⟨[(0,Cj l),(1,.fn 85 []),(7,.int (l.n:Int)),(8,.int (q:Int))],[],0,19⟩) trivial (λq hqn hFq hJ1=>?_))))
 refine Ab 6 (Hg 9 ((q:Int)<(l.n:Int)) (λhx2 hx2d=>?_) (λhx2 hx2d=>?_))
 refine Ab 16 (gs (Fd q l.n ·) (Ab 1 (vT func85 (Ab 9 (gs (Ao (Lg (l.f q)) ·) (Ab 5 (Ix (Ab 2 (Ev 16 ?_ ?_)))))))))
 exact Ab 13 (Ix (Ab 5 (Bc)))
 exact Ab 5 (gs (Dd ((q:Int)+1) ((q+1:Nat):Int) ·) (Ab 2 (Fw [0,1,7,8] [] 0 [] trivial (hJ1 ω trivial))))
 exact Ab 12 (Ix (Ab 5 (Bc)))
noncomputable def AkA (l:Vs):Value:=Kp 84 [.one .b] [Cj l,.fn 85 []]
theorem Acj (l:Vs) (h0:l.n<=64):AF Tryz.prog 84 [Cj l,.fn 85 []] (.lit (Hi [.one .b] (AkA l))):=Bn (AcP l h0)
theorem nH (l:Vs):∃r,(Ga [.one .b] r/\(r= .bool true->3<=l.n))/\AF Tryz.prog 60 [Cj l] r:=by
 refine Av func60 rfl ?_
 refine Ab 18 (Hg 15 ((l.n:Int)<3) (λhx1 hx1d=>?_) (λhx1 hx1d=>?_))
 exact Ab 17 (Fc (.bool false) (λh=>by cases h))
 refine Ab 4 (Hg 19 ((64:Int)<(l.n:Int)) (λhx2 hx2d=>?_) (λhx2 hx2d=>?_))
 exact Ab 13 (Fc (.bool false) (λh=>by cases h))
 refine Ab 1 (Dx (Acj l ω) λv3 hv3=>(gs (Ao hv3 ·) (Ab 3 (Ev 22 ?_ ?_))))
 exact Ab 8 (Fc (.bool false) (λh=>by cases h))
 refine Ab 11 (AoF [0,3,23,24] l.n (λi=>True) (λi=>⟨[(0,Cj l),(3,.int (l.n:Int)),(23,.int (l.n:Int)),(24,.int (i:Int))],[],0,117⟩) trivial (λi hin hFi hJ1=>?_))
 refine Ab 6 (Hg 25 ((i:Int)<(l.n:Int)) (λhx4 hx4d=>?_) (λhx4 hx4d=>?_))
 refine Ab 12 ?_
 have hm4:=Nat.mod_lt (i+1) (by omega:0<l.n)
 refine gs (Cl [(2,Co (Cj l) i,.none),(6,.int ((i+1:Nat):Int),.none),(8,.int (((i+1)%l.n:Nat):Int),.none),(9,Co (Cj l) ((i+1)%l.n),.none)] [0,3,4,5,6,23,24] ⟨Ht i l.n,Bk (.int .i64 (IntKind.wrap .i64 ((i:Int)+1))) η,vE ((i+1:Nat):Int) (l.n:Int) (((i+1)%l.n:Nat):Int) ω rfl,Ht ((i+1)%l.n) l.n,trivial⟩ ·) (Ab 10 (tsh 8 43 false [0,3,4,5,6,23,24,49] ?_ (λhS6=>?_)))
 refine Ab 6 (gs (Dd ((i:Int)+1) ((i+1:Nat):Int) ·) (Ab 4 (Vr [0,3,4,5,6,7,23,24] (λm s=>∃k,m=l.n-k/\(i<k/\k<=l.n)/\s=⟨[(0,Cj l),(3,.int (l.n:Int)),(4,.int (i:Int)),(5,.ptr 0 0),(6,.ptr 1 0),(7,.int (k:Int)),(23,.int (l.n:Int)),(24,.int (i:Int))],[(0,.box 33 [.int ((l.f i).x),.int ((l.f i).y),.int ((l.f i).z)]),(1,.box 33 [.int ((l.f ((i+1)%l.n)).x),.int ((l.f ((i+1)%l.n)).y),.int ((l.f ((i+1)%l.n)).z)])],2,117⟩) (l.n-(i+1)) ⟨i+1,rfl,⟨ω,ω⟩,κ⟩ ?_)))
 rintro _ _ ⟨k,rfl,hF,rfl⟩ hJ2
 refine Ab 8 (Hg 54 ((k:Int)<(l.n:Int)) (λhx7 hx7d=>?_) (λhx7 hx7d=>?_))
 refine Ab 6 ?_
 have hm7:=Nat.mod_lt (k+1) (by omega:0<l.n)
 refine gs (Cl [(2,Co (Cj l) k,.none),(6,.int ((k+1:Nat):Int),.none),(8,.int (((k+1)%l.n:Nat):Int),.none),(9,Co (Cj l) ((k+1)%l.n),.none)] [0,3,4,5,6,7,8,9,23,24] ⟨Ht k l.n,Bk (.int .i64 (IntKind.wrap .i64 ((k:Int)+1))) η,vE ((k+1:Nat):Int) (l.n:Int) (((k+1)%l.n:Nat):Int) ω rfl,Ht ((k+1)%l.n) l.n,trivial⟩ ·) (Ab 12 (gs (Dd ((i:Int)+1) ((i+1:Nat):Int) ·) (Ab 2 (Hg 79 ((k:Int)=((i+1:Nat):Int)) (λhx9 hx9d=>?_) (λhx9 hx9d=>?_)))))
 refine Ab 6 (Hg 74 ((2:Int)<(l.n:Int)) (λhx10 hx10d=>?_) (λhx10 hx10d=>?_))
 refine Ab 5 (Dx (Px (l.f i) (l.f ((i+1)%l.n)) (l.f ((k+1)%l.n))) λv11 hv11=>(gs (Ao hv11 ·) (Ab 2 (Ev 88 ?_ ?_))))
 refine Ab 3 (Dx (Px (l.f k) (l.f ((k+1)%l.n)) (l.f i)) λv13 hv13=>(gs (Ao hv13 ·) (Ab 12 (Ev 115 ?_ ?_))))
 exact Ab 16 (Fc (.bool false) (λh=>by cases h))
 exact Ab 6 (gs (Dd ((k:Int)+1) ((k+1:Nat):Int) ·) (Ab 2 (Fw [0,3,4,5,6,7,23,24] [(0,0),(1,1)] 2 [] trivial (hJ2 _ _ (by omega:l.n-(k+1)<l.n-k) ⟨k+1,rfl,⟨ω,ω⟩,rfl⟩))))
 exact Ab 32 (Fc (.bool false) (λh=>by cases h))
 refine Ab 4 (gs (Dd ((k:Int)+1) ((k+1:Nat):Int) ·) (Ab 1 ?_))
 have hm13:=Nat.mod_lt (k+1) (by omega:0<l.n)
 refine gs (Aqz ((k+1:Nat):Int) (l.n:Int) (((k+1)%l.n:Nat):Int) ω rfl ·) (Ab 5 (Hg 95 ((((k+1)%l.n:Nat):Int)=(i:Int)) (λhx15 hx15d=>?_) (λhx15 hx15d=>?_)))
 refine Ab 5 (Dx (Px (l.f i) (l.f ((i+1)%l.n)) (l.f k)) λv16 hv16=>(gs (Ao hv16 ·) (Ab 2 (Ev 107 ?_ ?_))))
 refine Ab 3 (Dx (Px (l.f k) (l.f ((k+1)%l.n)) (l.f ((i+1)%l.n))) λv18 hv18=>(gs (Ao hv18 ·) (Ab 12 (Ev 115 ?_ ?_))))
 exact Ab 16 (Fc (.bool false) (λh=>by cases h))
 exact Ab 6 (gs (Dd ((k:Int)+1) ((k+1:Nat):Int) ·) (Ab 2 (Fw [0,3,4,5,6,7,23,24] [(0,0),(1,1)] 2 [] trivial (hJ2 _ _ (by omega:l.n-(k+1)<l.n-k) ⟨k+1,rfl,⟨ω,ω⟩,rfl⟩))))
 exact Ab 32 (Fc (.bool false) (λh=>by cases h))
 refine Ab 6 (Dx (eP (l.f i) (l.f ((i+1)%l.n)) (l.f k) (l.f ((k+1)%l.n))) λv19 hv19=>(gs (Ao hv19 ·) (Ab 11 (Ev 115 ?_ ?_))))
 exact Ab 16 (Fc (.bool false) (λh=>by cases h))
 exact Ab 6 (gs (Dd ((k:Int)+1) ((k+1:Nat):Int) ·) (Ab 2 (Fw [0,3,4,5,6,7,23,24] [(0,0),(1,1)] 2 [] trivial (hJ2 _ _ (by omega:l.n-(k+1)<l.n-k) ⟨k+1,rfl,⟨ω,ω⟩,rfl⟩))))
 refine Ab 10 (gs (Dd ((k:Int)+1) ((k+1:Nat):Int) ·) (Ab 1 ?_))
 have hm19:=Nat.mod_lt (k+1) (by omega:0<l.n)
 refine gs (Aqz ((k+1:Nat):Int) (l.n:Int) (((k+1)%l.n:Nat):Int) ω rfl ·) (Ab 5 (Hg 95 ((((k+1)%l.n:Nat):Int)=(i:Int)) (λhx21 hx21d=>?_) (λhx21 hx21d=>?_)))
 refine Ab 5 (Dx (Px (l.f i) (l.f ((i+1)%l.n)) (l.f k)) λv22 hv22=>(gs (Ao hv22 ·) (Ab 2 (Ev 107 ?_ ?_))))
 refine Ab 3 (Dx (Px (l.f k) (l.f ((k+1)%l.n)) (l.f ((i+1)%l.n))) λv24 hv24=>(gs (Ao hv24 ·) (Ab 12 (Ev 115 ?_ ?_))))
 exact Ab 16 (Fc (.bool false) (λh=>by cases h))
 exact Ab 6 (gs (Dd ((k:Int)+1) ((k+1:Nat):Int) ·) (Ab 2 (Fw [0,3,4,5,6,7,23,24] [(0,0),(1,1)] 2 [] trivial (hJ2 _ _ (by omega:l.n-(k+1)<l.n-k) ⟨k+1,rfl,⟨ω,ω⟩,rfl⟩))))
 exact Ab 32 (Fc (.bool false) (λh=>by cases h))
 refine Ab 6 (Dx (eP (l.f i) (l.f ((i+1)%l.n)) (l.f k) (l.f ((k+1)%l.n))) λv25 hv25=>(gs (Ao hv25 ·) (Ab 11 (Ev 115 ?_ ?_))))
 exact Ab 16 (Fc (.bool false) (λh=>by cases h))
 exact Ab 6 (gs (Dd ((k:Int)+1) ((k+1:Nat):Int) ·) (Ab 2 (Fw [0,3,4,5,6,7,23,24] [(0,0),(1,1)] 2 [] trivial (hJ2 _ _ (by omega:l.n-(k+1)<l.n-k) ⟨k+1,rfl,⟨ω,ω⟩,rfl⟩))))
 exact Ab 8 (gs (Dd ((i:Int)+1) ((i+1:Nat):Int) ·) (Ab 2 (Fw [0,3,23,24] [] 0 [] trivial (hJ1 ω trivial))))
 refine Ev 43 ?_ ?_
 refine Ab 8 (Ev 49 ?_ ?_)
 exact Ab 13 (Fc (.bool false) (λh=>by cases h))
 exact Vt [0,3,4,5,6,23,24,49] hS6
 exact Ab 8 (Vt [0,3,4,5,6,23,24,49] hS6)
 exact Ab 12 (Fc (.bool true) (λ_=>by omega))
noncomputable def eC (l:Vs):Value:=chP 60 [.one .b] [Cj l] λr=>r= .bool true->3<=l.n
theorem lM (l:Vs):AF Tryz.prog 60 [Cj l] (.lit (Hi [.one .b] (eC l))):=(Ov (nH l)).1
abbrev Xp (v:V3):AV:= .elt 3 λxi=>[AV.int v.x,AV.int v.y,AV.int v.z].getD (0+xi) .top
theorem AkL (a:V3) (b:V3) (p:V3):∃r,Ga [.one .i] r/\AF Tryz.prog 89 [Bg a,Bg b,Xp p] r:=by
 refine Av func89 rfl ?_
 exact Ab 12 (Dx (Ng a b p) λv1 hv1=>(gs (Ao hv1 ·) (Ab 4 (Bc))))
noncomputable def ApD (a:V3) (b:V3) (p:V3):Value:=Kp 89 [.one .i] [Bg a,Bg b,Xp p]
theorem AjL (a:V3) (b:V3) (p:V3):AF Tryz.prog 89 [Bg a,Bg b,Xp p] (.lit (Hi [.one .i] (ApD a b p))):=Bn (AkL a b p)
theorem AkM (c:V3) (k:Int) (p:V3):∃r,Ga [.one .i] r/\AF Tryz.prog 91 [Bg c,.int k,Xp p] r:=by
 refine Av func91 rfl ?_
 refine Ab 13 (Ev 7 ?_ ?_)
 exact Ab 8 (Dx (rQ (Ai (c.x-p.x))) λv1 hv1=>(gs (Ao hv1 ·) (Ab 5 (Bc))))
 exact Ab 10 (Dx (rQ (Ai (c.y-p.y))) λv2 hv2=>(gs (Ao hv2 ·) (Ab 4 (Bc))))
noncomputable def ApE (c:V3) (k:Int) (p:V3):Value:=Kp 91 [.one .i] [Bg c,.int k,Xp p]
theorem dH (c:V3) (k:Int) (p:V3):AF Tryz.prog 91 [Bg c,.int k,Xp p] (.lit (Hi [.one .i] (ApE c k p))):=Bn (AkM c k p)
theorem AnB (l:Vs) (p:V3) (h0:l.n<=64):∃r,Ga [.one .i] r/\AF Tryz.prog 62 [Cj l,Bg p] r:=by
 refine Av func62 rfl ?_
 refine Ab 6 (gs (Vz 0 ·) (Ab 5 (cX func88 (Ab 17 (cX func61 (Ab 13 (Ix (Ab 3 (gs (vnm [4,5,6,7,16] ·) (vW func87 λsp3 sp3p sp3a sp3b=>(Ab 8 (Vr [0,1,6,7,8] (λm s=>∃i iw,m=l.n-i/\(i<=l.n)/\s=⟨[(0,.yld 6),(1,.ptr 5 0),(6,Cj l),(7,.int (l.n:Int)),(8,.int (i:Int))],[(1,.box 166 [.fn 89 [.elt 3 (λxi=>[.int p.x,.int p.y,.int p.z].getD (0+xi) .top)]]),(2,.box 168 [.fn 91 [.elt 3 (λxi=>[.int p.x,.int p.y,.int p.z].getD (0+xi) .top)]]),(3,.box 3 [.int 0]),(4,.box 3 [.int iw]),(5,.box 22 [Cj l]),(6,.loop .ready none sp3 [(4,.ptr 1 0),(5,.ptr 2 0),(6,.ptr 3 0),(7,.ptr 4 0),(16,.fn 87 [.ptr 5 0])] 77)],7,35⟩) (l.n-0) ⟨0,0,rfl,Nat.zero_le _,κ⟩ ?_))))))))))))
 rintro _ _ ⟨i,iw,rfl,hF,rfl⟩ hJ1
 refine Ab 6 (Hg 9 ((i:Int)<(l.n:Int)) (λhx5 hx5d=>?_) (λhx5 hx5d=>?_))
 refine Ab 8 (gs (Fd i l.n ·) (Ab 7 ?_))
 have hm5:=Nat.mod_lt (i+1) (by omega:0<l.n)
 refine gs (Cl [(2,.int ((i+1:Nat):Int),.none),(5,.int (((i+1)%l.n:Nat):Int),.none),(6,Co (Cj l) ((i+1)%l.n),.none)] [0,1,4,5,6,7,8] ⟨Bk (.int .i64 (IntKind.wrap .i64 ((i:Int)+1))) η,vE ((i+1:Nat):Int) (l.n:Int) (((i+1)%l.n:Nat):Int) ω rfl,Ht ((i+1)%l.n) l.n,trivial⟩ ·) (Ab 14 (jJ sp3p sp3a (Ab 10 (jI sp3b ?_))))
 refine Ab 6 (Dx (AjL (⟨(l.f i).x,(l.f i).y,0⟩) (⟨(l.f ((i+1)%l.n)).x,(l.f ((i+1)%l.n)).y,0⟩) p) λv8 hv8=>(gs (cZ hv8 ·) (Ab 4 (Dx (dH (⟨(l.f i).x,(l.f i).y,0⟩) 0 p) λv9 hv9=>(Dx (dH (⟨(l.f i).x,(l.f i).y,0⟩) 1 p) λv10 hv10=>(Dx (dH (⟨(l.f ((i+1)%l.n)).x,(l.f ((i+1)%l.n)).y,0⟩) 0 p) λv11 hv11=>(Dx (dH (⟨(l.f ((i+1)%l.n)).x,(l.f ((i+1)%l.n)).y,0⟩) 1 p) λv12 hv12=>(gs (Cl [(2,_,.none),(5,_,.none),(8,_,.none),(11,_,.none)] [6,7,10,11,12,13,14] ⟨Ll hv9,Ll hv10,Ll hv11,Ll hv12,trivial⟩ ·) (Ab 7 (tsh 13 37 false [6,7,10,12,14,48] ?_ (λhS13=>?_)))))))))))
 refine Ab 9 (tsh 10 52 false [7,10,12,14,49] ?_ (λhS14=>?_))
 refine Ab 6 (tsh 10 65 false [7,62] ?_ (λhS15=>?_))
 exact Ab 4 (Pu (Ab 8 (gs (Dd ((i:Int)+1) ((i+1:Nat):Int) ·) (Ab 2 (Fw [0,1,6,7,8] [(1,1),(2,2),(3,3),(4,4),(5,5),(6,6)] 7 [] trivial (hJ1 _ _ (by omega:l.n-(i+1)<l.n-i) ⟨i+1,iw,rfl,ω,rfl⟩))))))
 refine Ev 65 ?_ ?_
 refine Ab 4 (Ev 69 ?_ ?_)
 refine Ab 6 (Ev 62 ?_ ?_)
 exact Ab 8 (Pu (Ab 8 (gs (Dd ((i:Int)+1) ((i+1:Nat):Int) ·) (Ab 2 (Fw [0,1,6,7,8] [(1,1),(2,2),(3,3),(4,4),(5,5),(6,6)] 7 [] trivial (hJ1 _ _ (by omega:l.n-(i+1)<l.n-i) ⟨i+1,(Ai (iw-1)),rfl,ω,rfl⟩))))))
 exact Vt [7,62] hS15
 exact Ab 6 (Vt [7,62] hS15)
 exact Ab 10 (Vt [7,62] hS15)
 refine Ev 52 ?_ ?_
 refine Ab 4 (Ev 56 ?_ ?_)
 refine Ab 6 (Ev 49 ?_ ?_)
 exact Ab 8 (Pu (Ab 8 (gs (Dd ((i:Int)+1) ((i+1:Nat):Int) ·) (Ab 2 (Fw [0,1,6,7,8] [(1,1),(2,2),(3,3),(4,4),(5,5),(6,6)] 7 [] trivial (hJ1 _ _ (by omega:l.n-(i+1)<l.n-i) ⟨i+1,(Ai (iw+1)),rfl,ω,rfl⟩))))))
 exact Vt [7,10,12,14,49] hS14
 exact Ab 6 (Vt [7,10,12,14,49] hS14)
 exact Ab 10 (Vt [7,10,12,14,49] hS14)
 refine Ev 37 ?_ ?_
 refine Ab 6 (Ev 43 ?_ ?_)
 refine Ab 7 (Ev 48 ?_ ?_)
 exact Ab 9 (Pu (Ab 9 (bC (Ab 3 (Ix (Ab 4 (Bc)))))))
 exact Vt [6,7,10,12,14,48] hS13
 exact Ab 7 (Vt [6,7,10,12,14,48] hS13)
 exact Ab 13 (Vt [6,7,10,12,14,48] hS13)
 refine Ab 5 (bC (Ab 9 (Ev 76 ?_ ?_)))
 exact Ab 8 (Ix (Ab 4 (Bc)))
 exact Ab 9 (Ix (Ab 4 (Bc)))
noncomputable def AqS (l:Vs) (p:V3):Value:=Kp 62 [.one .i] [Cj l,Bg p]
theorem xK (l:Vs) (p:V3) (h0:l.n<=64):AF Tryz.prog 62 [Cj l,Bg p] (.lit (Hi [.one .i] (AqS l p))):=Bn (AnB l p h0)
structure Mh where
 o:Vs
 hn:Nat
 h:Nat->Vs
 low:Int
 high:Int
abbrev hsA (f:Mh):AV:= .sl 1 f.hn λi=>Cj (f.h i)
abbrev Jz (f:Mh):AV:= .agg [Cj f.o,hsA f,.int f.low,.int f.high]
def Zz (f:Mh):Prop:=f.o.n<=64/\f.hn<=16/\∀i,(f.h i).n<=64
def Cg (f:Mh):Nat->Vs
 |0=>f.o
 |k+1=>f.h k
theorem AaY {f:Mh} (h:Zz f):∀k,(Cg f k).n<=64
 |0=>h.1
 |k+1=>h.2.2 k
theorem nI (l:Vs) (h:gB (eC l)=true):3<=l.n:=(Ov (nH l)).2 (congrArg AV.bool h)
theorem mH (f:Mh) (h0:Zz f):∃r,(Ga [.one .b] r/\(r= .bool true->3<=f.o.n/\∀q,q<f.hn->3<=(f.h q).n))/\AF Tryz.prog 39 [Jz f] r:=by
 have hn8:=h0.1
 have hn9:=h0.2.1
 refine Av func39 rfl ?_
 refine Ab 11 (gs (Ao (lM f.o) ·) (Ab 2 (AiT 20 (gB (eC f.o)) (λhx1=>?_) (λhx1=>?_))))
 refine Ab 6 (Hg 26 ((16:Int)<(f.hn:Int)) (λhx2 hx2d=>?_) (λhx2 hx2d=>?_))
 exact Ab 26 (Fc (.bool false) (λh=>by cases h))
 refine Ab 5 (Ev 31 ?_ ?_)
 exact Ab 21 (Fc (.bool false) (λh=>by cases h))
 refine Ab 5 (Ev 36 ?_ ?_)
 exact Ab 16 (Fc (.bool false) (λh=>by cases h))
 refine Ab 8 (Ev 42 ?_ ?_)
 exact Ab 8 (Fc (.bool false) (λh=>by cases h))
 refine Ab 7 (gs (Oh 2 22 1 1 (λ_=>Cj f.o) ·) (Ab 14 (gs (kM 2 22 1 1 (λ_=>Cj f.o) (λxi=>Cj (Cg f xi)) (λx9 hx9=>by(obtain rfl:x9=0:=(ω));rfl) ·) (AoF [1,2,3,47,48,49] f.hn (λi=>∀q,q<i->3<=(f.h q).n) (λi=>⟨[(1,.ptr 0 0),(2,.ptr 1 0),(3,.ptr 3 0),(47,hsA f),(48,.int (f.hn:Int)),(49,.int (i:Int))],[(0,.box 25 [Cj f.o,hsA f,.int f.low,.int f.high]),(1,.box 4 [.bool false]),(2,.vec 22 1 (i+1) (λxi=>Cj (Cg f xi))),(3,.box 23 [.osl 2 1 (i+1)])],4,115⟩) (λq hq=>absurd hq (Nat.not_lt_zero q)) (λi hin hFi hJ1=>?_)))))
 have hn0:=h0.2.2 i
 refine Ab 6 (Hg 50 ((i:Int)<(f.hn:Int)) (λhx5 hx5d=>?_) (λhx5 hx5d=>?_))
 refine Ab 7 (gs (Fd i f.hn ·) (Ab 8 (gs (Ao (lM (f.h i)) ·) (Ab 3 (AiT 55 (gB (eC (f.h i))) (λhx6=>?_) (λhx6=>?_))))))
 refine Ab 7 (cX func61 (Ab 13 (Ix (Ab 3 (gs (vnm [1,2,3,5,47,48,49,57] ·) (vW func87 λsp8 sp8p sp8a sp8b=>(Ab 8 (Vr [0,1,6,7,8] (λm s=>∃i1,m=((f.h i).n)-i1/\(i1<=((f.h i).n))/\s=⟨[(0,.yld 5),(1,.ptr 4 0),(6,Cj (f.h i)),(7,.int ((f.h i).n:Int)),(8,.int ((i1:Nat):Int))],[(0,.box 25 [Cj f.o,hsA f,.int f.low,.int f.high]),(1,.box 4 [.bool false]),(2,.vec 22 1 (i+1) (λxi=>Cj (Cg f xi))),(3,.box 23 [.osl 2 1 (i+1)]),(4,.box 22 [Cj (f.h i)]),(5,.loop .ready none sp8 [(1,.ptr 0 0),(2,.ptr 1 0),(3,.ptr 3 0),(5,Cj (f.h i)),(47,hsA f),(48,.int (f.hn:Int)),(49,.int (i:Int)),(57,.fn 87 [.ptr 4 0])] 115)],6,35⟩) (((f.h i).n)-0) ⟨0,rfl,Nat.zero_le _,κ⟩ ?_))))))))
 rintro _ _ ⟨i1,rfl,hF,rfl⟩ hJ2
 refine Ab 6 (Hg 9 (((i1:Nat):Int)<((f.h i).n:Int)) (λhx10 hx10d=>?_) (λhx10 hx10d=>?_))
 refine Ab 8 (gs (Fd i1 ((f.h i).n) ·) (Ab 7 ?_))
 have hm10:=Nat.mod_lt (i1+1) (by omega:0<(f.h i).n)
 refine gs (Cl [(2,.int ((i1+1:Nat):Int),.none),(5,.int (((i1+1)%((f.h i).n):Nat):Int),.none),(6,Co (Cj (f.h i)) ((i1+1)%((f.h i).n)),.none)] [0,1,4,5,6,7,8] ⟨Bk (.int .i64 (IntKind.wrap .i64 (((i1:Nat):Int)+1))) η,vE ((i1+1:Nat):Int) ((f.h i).n:Int) (((i1+1)%((f.h i).n):Nat):Int) ω rfl,Ht ((i1+1)%((f.h i).n)) ((f.h i).n),trivial⟩ ·) (Ab 14 (jJ sp8p sp8a (Ab 10 (jI sp8b ?_))))
 refine Ab 7 (Dx (xK f.o (⟨((f.h i).f i1).x,((f.h i).f i1).y,0⟩) ω) λv13 hv13=>(gs (Ao hv13 ·) (Ab 3 (Ev 64 ?_ ?_))))
 exact Ab 9 (Pu (Ab 9 (bC (Ab 8 (Fc (.bool false) (λh=>by cases h))))))
 refine Ab 11 (Vr [2,6,7,65,66,67] (λm s=>∃j,m=i+1-j/\(j<=i+1)/\s=⟨[(2,.ptr 1 0),(6,.ptr 8 0),(7,.ptr 9 0),(65,.osl 2 1 (i+1)),(66,.int ((i+1:Nat):Int)),(67,.int (j:Int))],[(0,.box 25 [Cj f.o,hsA f,.int f.low,.int f.high]),(1,.box 4 [.bool false]),(2,.vec 22 1 (i+1) (λxi=>Cj (Cg f xi))),(3,.box 23 [.osl 2 1 (i+1)]),(4,.box 22 [Cj (f.h i)]),(5,.loop .busy none sp8 [(1,.ptr 0 0),(2,.ptr 1 0),(3,.ptr 3 0),(5,Cj (f.h i)),(47,hsA f),(48,.int (f.hn:Int)),(49,.int (i:Int)),(57,.fn 87 [.ptr 4 0])] 115),(6,.box 33 [.int (((f.h i).f i1).x),.int (((f.h i).f i1).y),.int (((f.h i).f i1).z)]),(7,.box 33 [.int (((f.h i).f ((i1+1)%((f.h i).n))).x),.int (((f.h i).f ((i1+1)%((f.h i).n))).y),.int (((f.h i).f ((i1+1)%((f.h i).n))).z)]),(8,.box 33 [.int (((f.h i).f i1).x),.int (((f.h i).f i1).y),.int 0]),(9,.box 33 [.int (((f.h i).f ((i1+1)%((f.h i).n))).x),.int (((f.h i).f ((i1+1)%((f.h i).n))).y),.int 0])],10,115⟩) (i+1-0) ⟨0,rfl,Nat.zero_le _,κ⟩ ?_)
 rintro _ _ ⟨j,rfl,hF,rfl⟩ hJ3
 have hn1:=AaY h0 j
 refine Ab 6 (Hg 68 ((j:Int)<((i+1:Nat):Int)) (λhx14 hx14d=>?_) (λhx14 hx14d=>?_))
 refine Ab 7 (gs (Fd j (i+1) ·) (gs (Ci (Cj (Cg f j)) (.read 2) (Qf 22 (.tmp 69) κ isAgg22 2 j 0 1 κ 22 (i+1) (λxi=>Cj (Cg f xi)) κ ω δ) ·) (Ab 6 (cX func61 (Ab 13 (Ix (Ab 3 (gs (vnm [2,6,7,65,66,67,72] ·) (vW func87 λsp16 sp16p sp16a sp16b=>(Ab 8 (Vr [0,1,6,7,8] (λm s=>∃i2,m=((Cg f j).n)-i2/\(i2<=((Cg f j).n))/\s=⟨[(0,.yld 11),(1,.ptr 10 0),(6,Cj (Cg f j)),(7,.int ((Cg f j).n:Int)),(8,.int ((i2:Nat):Int))],[(0,.box 25 [Cj f.o,hsA f,.int f.low,.int f.high]),(1,.box 4 [.bool false]),(2,.vec 22 1 (i+1) (λxi=>Cj (Cg f xi))),(3,.box 23 [.osl 2 1 (i+1)]),(4,.box 22 [Cj (f.h i)]),(5,.loop .busy none sp8 [(1,.ptr 0 0),(2,.ptr 1 0),(3,.ptr 3 0),(5,Cj (f.h i)),(47,hsA f),(48,.int (f.hn:Int)),(49,.int (i:Int)),(57,.fn 87 [.ptr 4 0])] 115),(6,.box 33 [.int (((f.h i).f i1).x),.int (((f.h i).f i1).y),.int (((f.h i).f i1).z)]),(7,.box 33 [.int (((f.h i).f ((i1+1)%((f.h i).n))).x),.int (((f.h i).f ((i1+1)%((f.h i).n))).y),.int (((f.h i).f ((i1+1)%((f.h i).n))).z)]),(8,.box 33 [.int (((f.h i).f i1).x),.int (((f.h i).f i1).y),.int 0]),(9,.box 33 [.int (((f.h i).f ((i1+1)%((f.h i).n))).x),.int (((f.h i).f ((i1+1)%((f.h i).n))).y),.int 0]),(10,.box 22 [Cj (Cg f j)]),(11,.loop .ready none sp16 [(2,.ptr 1 0),(6,.ptr 8 0),(7,.ptr 9 0),(65,.osl 2 1 (i+1)),(66,.int ((i+1:Nat):Int)),(67,.int (j:Int)),(72,.fn 87 [.ptr 10 0])] 115)],12,35⟩) (((Cg f j).n)-0) ⟨0,rfl,Nat.zero_le _,κ⟩ ?_)))))))))))
 rintro _ _ ⟨i2,rfl,hF,rfl⟩ hJ4
 refine Ab 6 (Hg 9 (((i2:Nat):Int)<((Cg f j).n:Int)) (λhx18 hx18d=>?_) (λhx18 hx18d=>?_))
 refine Ab 8 (gs (Fd i2 ((Cg f j).n) ·) (Ab 7 ?_))
 have hm18:=Nat.mod_lt (i2+1) (by omega:0<(Cg f j).n)
 refine gs (Cl [(2,.int ((i2+1:Nat):Int),.none),(5,.int (((i2+1)%((Cg f j).n):Nat):Int),.none),(6,Co (Cj (Cg f j)) ((i2+1)%((Cg f j).n)),.none)] [0,1,4,5,6,7,8] ⟨Bk (.int .i64 (IntKind.wrap .i64 (((i2:Nat):Int)+1))) η,vE ((i2+1:Nat):Int) ((Cg f j).n:Int) (((i2+1)%((Cg f j).n):Nat):Int) ω rfl,Ht ((i2+1)%((Cg f j).n)) ((Cg f j).n),trivial⟩ ·) (Ab 14 (jJ sp16p sp16a (Ab 10 (jI sp16b ?_))))
 refine Ab 7 (Dx (eP (⟨((f.h i).f i1).x,((f.h i).f i1).y,0⟩) (⟨((f.h i).f ((i1+1)%((f.h i).n))).x,((f.h i).f ((i1+1)%((f.h i).n))).y,0⟩) (⟨((Cg f j).f i2).x,((Cg f j).f i2).y,0⟩) (⟨((Cg f j).f ((i2+1)%((Cg f j).n))).x,((Cg f j).f ((i2+1)%((Cg f j).n))).y,0⟩)) λv21 hv21=>(gs (Ao hv21 ·) (Ab 2 (Ev 79 ?_ ?_))))
 exact Ab 8 (Pu (Ab 9 (bC (Ab 7 (Pu (Ab 9 (bC (Ab 8 (Fc (.bool false) (λh=>by cases h))))))))))
 exact Ab 3 (Pu (Ab 8 (gs (Dd (((i2:Nat):Int)+1) ((i2+1:Nat):Int) ·) (Ab 2 (Fw [0,1,6,7,8] [(0,0),(1,1),(2,2),(3,3),(4,4),(5,5),(6,6),(7,7),(8,8),(9,9),(10,10),(11,11)] 12 [(22,1,i+1,(λxi=>Cj (Cg f xi)))] ⟨(Df λ_ _=>rfl),trivial⟩ (hJ4 _ _ (by omega:((Cg f j).n)-(i2+1)<((Cg f j).n)-i2) ⟨i2+1,rfl,ω,rfl⟩))))))
 exact Ab 5 (bC (Ab 4 (gs (Dd ((j:Int)+1) ((j+1:Nat):Int) ·) (Ab 2 (Fw [2,6,7,65,66,67] [(0,0),(1,1),(2,2),(3,3),(4,4),(5,5),(6,6),(7,7),(8,8),(9,9)] 10 [(22,1,i+1,(λxi=>Cj (Cg f xi)))] ⟨(Df λ_ _=>rfl),trivial⟩ (hJ3 _ _ (by omega:i+1-(j+1)<i+1-j) ⟨j+1,rfl,ω,rfl⟩))))))
 exact Ab 6 (Pu (Ab 8 (gs (Dd (((i1:Nat):Int)+1) ((i1+1:Nat):Int) ·) (Ab 2 (Fw [0,1,6,7,8] [(0,0),(1,1),(2,2),(3,3),(4,4),(5,5)] 6 [(22,1,i+1,(λxi=>Cj (Cg f xi)))] ⟨(Df λ_ _=>rfl),trivial⟩ (hJ2 _ _ (by omega:((f.h i).n)-(i1+1)<((f.h i).n)-i1) ⟨i1+1,rfl,ω,rfl⟩))))))
 exact Ab 5 (bC (Ab 5 (gs (Oh 6 22 1 1 (λ_=>Cj (f.h i)) ·) (gs (Xo 24 22 22 1 (i+1) 1 2 6 7 (λxi=>Cj (Cg f xi)) (λ_=>Cj (f.h i)) (λxi=>Cj (Cg f xi)) (λi hi=>rfl) (λi hi=>by(obtain rfl:i=0:=(ω));rfl) ·) (Ab 5 (gs (Dd ((i:Int)+1) ((i+1:Nat):Int) ·) (Ab 2 (Fw [1,2,3,47,48,49] [(0,0),(1,1),(7,2),(3,3)] 4 [(22,1,1,(λ_=>Cj (f.h i))),(22,1,i+1+1,(λxi=>Cj (Cg f xi)))] ⟨(Df λ_ _=>rfl),(Df λ_ _=>rfl),trivial⟩ (hJ1 ω (λq hq=>by rcases Nat.lt_succ_iff_lt_or_eq.1 hq with g|rfl;exact hFi q g;exact nI _ hx6))))))))))
 exact Ab 13 (Fc (.bool false) (λh=>by cases h))
 refine Ab 16 (Vr [1,2,87,88,89] (λm s=>∃a,m=f.hn-a/\(a<=f.hn)/\s=⟨[(1,.ptr 0 0),(2,.ptr 1 0),(87,hsA f),(88,.int (f.hn:Int)),(89,.int (a:Int))],[(0,.box 25 [Cj f.o,hsA f,.int f.low,.int f.high]),(1,.box 4 [.bool false]),(2,.vec 22 1 (i+1) (λxi=>Cj (Cg f xi))),(3,.box 23 [.osl 2 1 (i+1)])],4,115⟩) (f.hn-0) ⟨0,rfl,Nat.zero_le _,κ⟩ ?_)
 rintro _ _ ⟨a,rfl,hF,rfl⟩ hJ5
 have hn2:=h0.2.2 a
 refine Ab 6 (Hg 90 ((a:Int)<(f.hn:Int)) (λhx22 hx22d=>?_) (λhx22 hx22d=>?_))
 refine Ab 8 (gs (Fd a f.hn ·) (Ab 14 (Vr [1,2,12,13,87,88,89,95,96,97] (λm s=>∃d,m=f.hn-d/\(d<=f.hn)/\s=⟨[(1,.ptr 0 0),(2,.ptr 1 0),(12,.int (a:Int)),(13,Cj (f.h a)),(87,hsA f),(88,.int (f.hn:Int)),(89,.int (a:Int)),(95,hsA f),(96,.int (f.hn:Int)),(97,.int (d:Int))],[(0,.box 25 [Cj f.o,hsA f,.int f.low,.int f.high]),(1,.box 4 [.bool false]),(2,.vec 22 1 (i+1) (λxi=>Cj (Cg f xi))),(3,.box 23 [.osl 2 1 (i+1)])],4,115⟩) (f.hn-0) ⟨0,rfl,Nat.zero_le _,κ⟩ ?_)))
 rintro _ _ ⟨d,rfl,hF,rfl⟩ hJ6
 have hn3:=h0.2.2 d
 refine Ab 6 (Hg 98 ((d:Int)<(f.hn:Int)) (λhx23 hx23d=>?_) (λhx23 hx23d=>?_))
 refine Ab 8 (gs (Fd d f.hn ·) (Ab 5 ?_))
 have hh3:=hFi a ω
 refine Ab 6 (AiU 105 ((a:Int)=(d:Int)) (λhx24 hx24d=>?_) (λhx24 hx24d=>?_))
 exact Ab 14 (gs (Dd ((d:Int)+1) ((d+1:Nat):Int) ·) (Ab 2 (nN [1,2,12,13,87,88,89,95,96,97] (hJ6 _ _ (by omega:f.hn-(d+1)<f.hn-d) ⟨d+1,rfl,ω,rfl⟩))))
 refine Ab 2 (gs (Fd 0 ((f.h a).n) ·) (Ab 1 (Dx (xK (f.h d) ((f.h a).f 0) ω) λv25 hv25=>(gs (Ao hv25 ·) (Ab 4 (Ev 112 ?_ ?_))))))
 exact Ab 16 (Fc (.bool false) (λh=>by cases h))
 exact Ab 5 (gs (Dd ((d:Int)+1) ((d+1:Nat):Int) ·) (Ab 2 (nN [1,2,12,13,87,88,89,95,96,97] (hJ6 _ _ (by omega:f.hn-(d+1)<f.hn-d) ⟨d+1,rfl,ω,rfl⟩))))
 exact Ab 8 (gs (Dd ((a:Int)+1) ((a+1:Nat):Int) ·) (Ab 2 (nN [1,2,87,88,89] (hJ5 _ _ (by omega:f.hn-(a+1)<f.hn-a) ⟨a+1,rfl,ω,rfl⟩))))
 exact Ab 12 (Fc (.bool true) (λ_=>⟨nI _ hx1,λq hq=>hFi q ω⟩))
 exact Ab 32 (Fc (.bool false) (λh=>by cases h))
noncomputable def Pb (f:Mh):Value:=chP 39 [.one .b] [Jz f] λr=>r= .bool true->3<=f.o.n/\∀q,q<f.hn->3<=(f.h q).n
theorem Vi (f:Mh) (h0:Zz f):AF Tryz.prog 39 [Jz f] (.lit (Hi [.one .b] (Pb f))):=(Ov (mH f h0)).1
theorem Ahf (l:Vs) (p:V3) (h0:l.n<=64):∃r,Ga [.one .i] r/\AF Tryz.prog 212 [Cj l,Xp p] r:=by
 refine Av func212 rfl ?_
 exact Ab 9 (Dx (xK l p ω) λv1 hv1=>(gs (Ao hv1 ·) (Ab 4 (Bc))))
noncomputable def AnF (l:Vs) (p:V3):Value:=Kp 212 [.one .i] [Cj l,Xp p]
theorem rP (l:Vs) (p:V3) (h0:l.n<=64):AF Tryz.prog 212 [Cj l,Xp p] (.lit (Hi [.one .i] (AnF l p))):=Bn (Ahf l p h0)
theorem Ahe (f:Mh) (p:V3) (h0:Zz f):∃r,Ga [.one .b] r/\AF Tryz.prog 223 [hsA f,.fn 224 [.elt 1 λxi=>[AV.fn 212 [Xp p]].getD (0+xi) .top]] r:=by
 have hn8:=h0.1
 have hn9:=h0.2.1
 refine Av func223 rfl ?_
 refine Ab 9 (cX func254 (Ab 14 (Vr [0,1,7,8] (λm s=>∃q,m=f.hn-q/\(q<=f.hn)/\s=⟨[(0,hsA f),(1,.fn 224 [.elt 1 (λxi=>[.fn 212 [.elt 3 (λxi=>[.int p.x,.int p.y,.int p.z].getD (0+xi) .top)]].getD (0+xi) .top)]),(7,.int (f.hn:Int)),(8,.int (q:Int))],[],0,19⟩) (f.hn-0) ⟨0,rfl,Nat.zero_le _,κ⟩ ?_)))
 rintro _ _ ⟨q,rfl,hF,rfl⟩ hJ1
 have hnq:=h0.2.2 q
 refine Ab 6 (Hg 9 ((q:Int)<(f.hn:Int)) (λhx2 hx2d=>?_) (λhx2 hx2d=>?_))
 refine Ab 16 (gs (Fd q f.hn ·) (Ab 1 (vT func224 (Ab 9 (Dx (rP (f.h q) p ω) λv4 hv4=>(gs (cZ hv4 ·) (Ab 5 (Ix (Ab 2 (Ev 16 ?_ ?_))))))))))
 exact Ab 13 (Ix (Ab 5 (Bc)))
 exact Ab 5 (gs (Dd ((q:Int)+1) ((q+1:Nat):Int) ·) (Ab 2 (nN [0,1,7,8] (hJ1 _ _ (by omega:f.hn-(q+1)<f.hn-q) ⟨q+1,rfl,ω,rfl⟩))))
 exact Ab 12 (Ix (Ab 5 (Bc)))
noncomputable def AnC (f:Mh) (p:V3):Value:=Kp 223 [.one .b] [hsA f,.fn 224 [.elt 1 λxi=>[AV.fn 212 [Xp p]].getD (0+xi) .top]]
theorem Aft (f:Mh) (p:V3) (h0:Zz f):AF Tryz.prog 223 [hsA f,.fn 224 [.elt 1 λxi=>[AV.fn 212 [Xp p]].getD (0+xi) .top]] (.lit (Hi [.one .b] (AnC f p))):=Bn (Ahe f p h0)
theorem AkN (f:Mh) (p:V3) (h0:Zz f):∃r,Ga [.one .b] r/\AF Tryz.prog 177 [Jz f,.fn 212 [Xp p]] r:=by
 have hn8:=h0.1
 have hn9:=h0.2.1
 refine Av func177 rfl ?_
 refine Ab 7 (gs (Vz 1 ·) (Ab 5 (Dx (rP f.o p ω) λv1 hv1=>(gs (cZ hv1 ·) (Ab 2 (Ev 10 ?_ ?_))))))
 exact Ab 3 (Dx (Aft f p h0) λv3 hv3=>(gs (Ao hv3 ·) (Ab 6 (Bc))))
 exact Ab 10 (Bc)
noncomputable def ApH (f:Mh) (p:V3):Value:=Kp 177 [.one .b] [Jz f,.fn 212 [Xp p]]
theorem AjM (f:Mh) (p:V3) (h0:Zz f):AF Tryz.prog 177 [Jz f,.fn 212 [Xp p]] (.lit (Hi [.one .b] (ApH f p))):=Bn (AkN f p h0)
theorem zH (f:Mh) (p:V3) (h0:Zz f):∃r,Ga [.one .b] r/\AF Tryz.prog 163 [Jz f,Bg p] r:=by
 have hn8:=h0.1
 have hn9:=h0.2.1
 refine Av func163 rfl ?_
 refine Ab 7 (gs (Vz 1 ·) (Ab 8 (Ev 10 ?_ ?_)))
 refine Ab 7 (Ev 17 ?_ ?_)
 exact Ab 2 (Dx (AjM f p h0) λv3 hv3=>(gs (Ao hv3 ·) (Ab 5 (Bc))))
 exact Ab 8 (Bc)
 exact Ab 15 (Bc)
noncomputable def Ahg (f:Mh) (p:V3):Value:=Kp 163 [.one .b] [Jz f,Bg p]
theorem eO (f:Mh) (p:V3) (h0:Zz f):AF Tryz.prog 163 [Jz f,Bg p] (.lit (Hi [.one .b] (Ahg f p))):=Bn (zH f p h0)
variable {P:Program} {R:Option Nat} {B:Nat} {D0:As} {Q:Exit->St->Prop} {fn0:Func} {φ:AV->Prop} {c:Bu} {fs:List FR}
def LR (ψ:Value->List Value->Prop) (r:AV):Prop:=∃V us,r= .tup (.lit V::us.map .lit)/\ψ V us
theorem AhH {a b:List Value} (h:a.map AV.lit=b.map AV.lit):a=b:=List.map_inj_right (λx y h=>by cases h;rfl) |>.1 h
theorem Kx {f:FuncId} {fn:Func} {t:TypeId} {us:List Value} {hs:Td} {args:List AV} {ψ:Value->List Value->Prop} (hf:Tryz.prog.funcs[f]?=some fn) {x:Code} (hc:fn.body=some x:=by rfl) (h:TE fn (LR ψ) ⟨⟨.code x,[],⟨Cy args 0,Abq t us hs,hs.length+1,fn.ntmps⟩⟩,[.lnt t hs]⟩) (hle:Nat.ble args.length fn.ntmps=true:=by kernel_rfl) (hd:ApB hs=true:=by kernel_rfl):∃V us',ψ V us'/\kU Tryz.prog f t us us' hs args V:=by
 obtain⟨r,⟨V,us',rfl,h1⟩,h2⟩:=h
 refine⟨V,us',h1,AmV hf hc hle hd λB D0 hA=>dF (h2 B none D0 _ (.lnt t hs D0 hA)).m ?_⟩
 rintro e s ⟨he,V',us2,e1,h3,h4⟩
 simp only[AV.tup.injEq,List.cons.injEq,AV.lit.injEq] at e1
 obtain⟨rfl,e2⟩:=e1
 cases AhH e2
 exact⟨he,h3,h4⟩
theorem Aiq {hs:Td} {h:Dt} (e:(List.range hs.length).map (λi=>Aq h (i+1))=hs.map λp=>some (.box p.1 p.2)) (i:Nat) (hi:i<hs.length):Aq h (i+1)=some (.box (hs.getD i (0,[])).1 (hs.getD i (0,[])).2):=by
 have h1:((List.range hs.length).map (λi=>Aq h (i+1)))[i]?=(hs.map λp=>some (Aw.box p.1 p.2))[i]?:=by rw[e]
 have e2:hs.getD i (0,[])=hs[i]:=by simp[hi]
 simp only[List.getElem?_map,List.getElem?_range hi,List.getElem?_eq_getElem hi,Option.map_some,Option.some.injEq] at h1
 rw[h1,e2]
theorem Arr {fn:Func} {t:TypeId} {hs:Td} (V:Value) (us:List Value) (hv:Tb P fn c.s=some (.lit V):=by kernel_rfl) (hb:Aq c.s.h 0=some (.box t (us.map .lit)):=by kernel_rfl) (ho:(List.range hs.length).map (λi=>Aq c.s.h (i+1))=hs.map (λp=>some (.box p.1 p.2)):=by kernel_rfl) (hn:c.isE=true:=by kernel_rfl):Go P R B D0 (QL P B D0 fn (.tup (.lit V::us.map .lit)) t hs) c:=by
 have hr:=fY (B:=B) (D0:=D0) hv
 obtain⟨m,k,s⟩:=c
 unfold Bu.isE at hn
 split at hn
 rename_i h1 h2
 cases h1;cases h2
 exact⟨⟨s,Ho.refl s,.inr rfl,V,us,rfl,hr,hb,Aiq ho⟩⟩
 rename_i h1 h2
 cases h1;cases h2
 exact⟨⟨s,Ho.refl s,.inl rfl,V,us,rfl,hr,hb,Aiq ho⟩⟩
 cases hn
theorem Sp {t:TypeId} {hs:Td} {ψ:Value->List Value->Prop} (V:Value) (us:List Value) (h:ψ V us) (hv:Tb Tryz.prog fn0 c.s=some (.lit V):=by kernel_rfl) (hb:Aq c.s.h 0=some (.box t (us.map .lit)):=by kernel_rfl) (ho:(List.range hs.length).map (λi=>Aq c.s.h (i+1))=hs.map (λp=>some (.box p.1 p.2)):=by kernel_rfl) (hn:c.isE=true:=by kernel_rfl):TE fn0 (LR ψ) ⟨c,[.lnt t hs]⟩:=
 ⟨_,⟨V,us,rfl,h⟩,λB R D Q hx=>by cases hx with|lnt _ _ D0 h=>exact Arr V us hv hb ho hn⟩
theorem AlX {s:St} (id:Nat) (t:TypeId) (e n n':Nat) (f g:Nat->AV) (hc:Aq s.h id=some (.vec t e n f)) (hn:n'<=n) (hfg:∀i,i<n'->f i=g i) (E:As) (a:Act) (hs:Ij B D0 E s a):∃E',E'.w=E.w/\Ij B D0 E' ⟨s.t,hset s.h id (.vec t e n' g),s.nx,s.n⟩ a:=⟨E,rfl,by
 refine⟨hs.size,hs.df,hs.t,⟨λi x hx=>?_,λi j x y hx hy hne=>?_,hs.h.bnd,hs.h.abd,hs.h.le0,hs.h.new,hs.h.B⟩,hs.A⟩
 rw[show Aq (hset s.h id (.vec t e n' g)) i=if id=i then some (.vec t e n' g) else Aq s.h i from Ej _ _ _ _] at hx
 by_cases e1:id=i
 subst e1
 rw[if_pos rfl] at hx
 cases hx
 obtain⟨l1,l2,l3,l4⟩:=hs.h.live id _ hc
 refine⟨l1,?_,l3,l4⟩
 cases l2 with
 |vec _ _ _ _ b cap arr h1 hn1 hc2 hm hr=>exact .vec _ _ _ _ _ _ arr h1 hn1 ω hm λi j hi hj=>by rw[<-hfg i hi];exact hr i j ω hj
 rw[if_neg e1] at hx;exact hs.h.live i x hx
 have real:∀q z,Aq (hset s.h id (.vec t e n' g)) q=some z->∃z',Aq s.h q=some z':=λq z hz=>by
  rw[show Aq (hset s.h id (.vec t e n' g)) q=if id=q then some (.vec t e n' g) else Aq s.h q from Ej _ _ _ _] at hz
  by_cases e:id=q
  subst e;exact⟨_,hc⟩
  rw[if_neg e] at hz;exact⟨z,hz⟩
 obtain⟨x',hx'⟩:=real i x hx
 obtain⟨y',hy'⟩:=real j y hy
 exact hs.h.inj i j x' y' hx' hy' hne⟩
theorem vsh (id:Nat) (t:TypeId) (e n n':Nat) (f g:Nat->AV) (hn:n'<=n) (hfg:∀i,i<n'->f i=g i) (hk:Go P R B D0 Q (c.setB id (.vec t e n' g))) (hc:Aq c.s.h id=some (.vec t e n f):=by kernel_rfl):Go P R B D0 Q c:=
 Fu _ (λE a hs=>AlX id t e n n' f g hc hn hfg E a hs) hk
def Al0 (h:Nat->Option Aw) (ids:List Nat):Td:=ids.map λi=>match h i with|some (.box t cs)=>(t,cs)|_=>(0,[])
theorem vcx {P:Program} (id:Nat) (ids:List Nat) {f:FuncId} {t:TypeId} {us us':List Value} {hs:Td} {args:List AV} {r:Value} (hf:kU P f t us us' hs args r) (hk:Go P R B D0 Q (c.put (.lit r) (.setr ids id (.box t (us'.map .lit))))) (ho:c.o.op= .call { callee:= .value c.fx,args:=c.xs,argTypes:=c.ts }:=by kernel_rfl) (hx:c.s.ev c.fx= .fn f c.cps:=by kernel_rfl) (hcall:∀(vs:Array Value) w,(callFunc f vs).run P w= .ok (.enter f vs) w:=by intro _ _;kernel_rfl) (hdi:Km (id::ids)=true:=by kernel_rfl) (hp:Aq c.s.h id=some (.box t (us.map .lit)):=by kernel_rfl) (hps:ids.map (Aq c.s.h)=(Al0 (Aq c.s.h) ids).map λp=>some (.box p.1 p.2):=by kernel_rfl) (hhs:uG (id::ids) (Al0 (Aq c.s.h) ids)=hs:=by kernel_rfl) (hargs:(c.xs.toList.map c.s.ev++c.cps).map (gV (id::ids))=args:=by kernel_rfl) (hok:c.ok=true:=by kernel_rfl) (hlow:Bl.low (.setr ids id (.box t (us'.map .lit))) c.s.nx=true:=by kernel_rfl):Go P R B D0 Q c:=
 Pc _ _ (mY c.fx f c.xs c.ts ho c.cps hx hcall id ids hdi t us us' hp _ hps hs hhs args hargs r hf) hk hok hlow
def oFx (o:Oper):Operand:=match o.op with| .call cl=>(match cl.callee with| .value x=>x|_=>default)|_=>default
def Aok (ev:Operand->AV) (o:Oper):List AV:=match ev (oFx o) with| .fn _ l=>l|_=>[]
theorem bN {P:Program} {B:Nat} {D0:As} {o:Oper} {ev:Operand->AV} {pre:Nat->Option Aw} (id:Nat) (ids:List Nat) {f:FuncId} {t:TypeId} {us us':List Value} {hs:Td} {args:List AV} {r:Value} (hf:kU P f t us us' hs args r) (ho:o.op= .call { callee:= .value (oFx o),args:=Oper.cxs o,argTypes:=Oper.cts o }:=by kernel_rfl) (hx:ev (oFx o)= .fn f (Aok ev o):=by kernel_rfl) (hcall:∀(vs:Array Value) w,(callFunc f vs).run P w= .ok (.enter f vs) w:=by intro _ _;kernel_rfl) (hdi:Km (id::ids)=true:=by kernel_rfl) (hp:pre id=some (.box t (us.map .lit)):=by kernel_rfl) (hps:ids.map pre=(Al0 pre ids).map λp=>some (.box p.1 p.2):=by kernel_rfl) (hhs:uG (id::ids) (Al0 pre ids)=hs:=by kernel_rfl) (hargs:((Oper.cxs o).toList.map ev++Aok ev o).map (gV (id::ids))=args:=by kernel_rfl):Dl P B D0 o ev pre (.lit r) (.setr ids id (.box t (us'.map .lit))):=
 mY (oFx o) f (Oper.cxs o) (Oper.cts o) ho (Aok ev o) hx hcall id ids hdi t us us' hp _ hps hs hhs args hargs r hf
end Go.Proofs.YtkpjchfniejdoaaGreatDoor