/- Part 21 of the proof of SP.row_holds, joined by program: no condition beyond the row's own. -/
import Derived.Test.YtldnjomacnjhnaaGreatQ20
set_option maxRecDepth 100000
set_option maxHeartbeats 40000000
namespace Go.Proofs.YtldnjomacnjhnaaGreat
open Go.Proofs.Tryz
open Go.RowKit
abbrev Zy (l:List Int) (i:Nat):Int:=l.getD i 0
def Vb (g:Nat->Int) (k i:Nat):Int:=if i<k then g i else 0
theorem zG (g:Nat->Int) (k i:Nat):(if i=k then WA (g k) else WA (Vb g k i))=WA (Vb g (k+1) i):=by
 unfold Vb
 by_cases h:i=k
 subst h;rw[if_pos rfl,if_pos (Nat.lt_succ_self _)]
 rw[if_neg h]
 by_cases h2:i<k
 rw[if_pos h2,if_pos ω]
 rw[if_neg h2,if_neg ω]
theorem zH (g:Nat->Int) (i:Nat):WA 0=WA (Vb g 0 i):=by unfold Vb;rw[if_neg (Nat.not_lt_zero i)]
theorem Aca {g:Nat->Int} {k i:Nat} (h:i<k):WA (Vb g k i)=WA (g i):=by unfold Vb;rw[if_pos h]
theorem Xo (l:List Int) (hl:0<l.length) (hn:l.length<=25) (hc:∀i,Cy (l.getD i 0)):AF Tryz.prog 157 [Bl l] (.tup [Bj (Gg (Zy l) l.length) (Zy l),.int 0]):=by
 have hle:=Id (Zy l) l.length
 refine Bv func157 rfl λB D0 hA0=>?_
 refine Ab 20 (Vh [4,7,8,9] (λm s=>∃i,i<=l.length/\m=l.length-i/\True/\((i=0/\s=⟨[(4,.lit (.slice none 0 0)),(7,Bl l),(8,.int (l.length:Int)),(9,.int ((0:Nat):Int))],[],0,25⟩)\/(0<i/\s=⟨[(4,.osl 9 2 i),(7,Bl l),(8,.int (l.length:Int)),(9,.int (i:Int))],[(9,.vec 70 2 i (λxi=>WA (Zy l xi)))],10,25⟩))) l.length ⟨0,Nat.zero_le _,rfl,trivial,.inl ⟨rfl,κ⟩⟩ ?_)
 rintro _ _ ⟨i,hin,rfl,hFi,(⟨hi0,rfl⟩|⟨hi0,rfl⟩)⟩ J1 hJ1
 ·
  subst hi0
  refine Ab 6 (Em 10 (((0:Nat):Int)<(l.length:Int)) (λhx1 hx1d=>?_) (λhx1 hx1d=>?_))
  ·
   exact Ab 7 (Gk 0 l.length (Ab 7 (Bx (He ((l).getD 0 0) (hc _).1 (hc _).2) (Ca (.osl 0 2 1) (.new 0 (.vec 70 2 1 (λ_=> .lit (Al ((l).getD 0 0))))) (Ak 202 1 #[(0,(.tmp 15))] κ underlying202 2 sizeOf70 _ zeroValue70 κ β β β 0 [.bool (decide ((l).getD 0 0<0)),.lit (.string (Ep ((l).getD 0 0).natAbs))] κ (λ_=> .lit (Al ((l).getD 0 0))) κ) (Ca (.osl 1 2 1) (.newr 0 1 (.vec 70 2 1 (λxi=>WA (Zy l xi)))) (Cn (.tmp 13) (.tmp 16) 202 κ underlying202 2 24 (.agg #[.bool false,.string ⟨#[]⟩]) κ κ δ 1 ω (λ_=> .lit (Al ((l).getD 0 0))) (λxi=>WA (Zy l xi)) 1 (λi hi=>by(obtain rfl:i=0:=(ω));rfl) (λi hi j hj=>match j,hj with|0,_=>rfl|1,_=>rfl|_+2,h=>absurd h ω) (by unfold maxLen;omega) ω κ 0 70 κ κ) (Ab 5 (Dt (((0:Nat):Int)+1) ((0+1:Nat):Int) (Ab 2 (Fx [4,7,8,9] [(1,9)] 10 0 hA0 [(70,2,1,(λ_=> .lit (Al ((l).getD 0 0)))),(70,2,1,(λxi=>WA (Zy l xi)))] ⟨(Fv λ_ _=>rfl),(Fv λ_ _=>rfl),trivial⟩ (hJ1 _ _ (by omega:l.length-(0+1)<l.length-0) ⟨0+1,ω,rfl,trivial,.inr ⟨Nat.succ_pos _,rfl⟩⟩))))))))))
  ·
   refine Ab 6 ?_
   exfalso;omega
 ·
  refine Ab 6 (Em 10 ((i:Int)<(l.length:Int)) (λhx2 hx2d=>?_) (λhx2 hx2d=>?_))
  ·
   exact Ab 7 (Gk i l.length (Ab 7 (Bx (He ((l).getD i 0) (hc _).1 (hc _).2) (Ca (.osl 10 2 1) (.new 10 (.vec 70 2 1 (λ_=> .lit (Al ((l).getD i 0))))) (Ak 202 1 #[(0,(.tmp 15))] κ underlying202 2 sizeOf70 _ zeroValue70 κ β β β 10 [.bool (decide ((l).getD i 0<0)),.lit (.string (Ep ((l).getD i 0).natAbs))] κ (λ_=> .lit (Al ((l).getD i 0))) κ) (Ca (.osl 11 2 (i+1)) (.grow2 9 10 11 (.vec 70 2 (i+1) (λxi=>WA (Zy l xi)))) (Co (.tmp 13) (.tmp 16) 202 κ underlying202 2 24 (.agg #[.bool false,.string ⟨#[]⟩]) κ κ δ i 1 ω (λxi=>WA (Zy l xi)) (λ_=> .lit (Al ((l).getD i 0))) (λxi=>WA (Zy l xi)) 11 ω (by unfold maxLen;omega) (λi hi=>rfl) (λi hi=>by(obtain rfl:i=0:=(ω));rfl) (λi hi j hj=>match j,hj with|0,_=>rfl|1,_=>rfl|_+2,h=>absurd h ω) 9 κ κ 10 70 κ κ) (Ab 5 (Dt ((i:Int)+1) ((i+1:Nat):Int) (Ab 2 (Fx [4,7,8,9] [(11,9)] 10 0 hA0 [(70,2,1,(λ_=> .lit (Al ((l).getD i 0)))),(70,2,i+1,(λxi=>WA (Zy l xi)))] ⟨(Fv λ_ _=>rfl),(Fv λ_ _=>rfl),trivial⟩ (hJ1 _ _ (by omega:l.length-(i+1)<l.length-i) ⟨i+1,ω,rfl,trivial,.inr ⟨Nat.succ_pos _,rfl⟩⟩))))))))))
  ·
   refine Ab 6 ?_
   have hie:i=l.length:=by omega
   subst hie
   exact Ac7 9 [4] 70 2 l.length (λxi=>WA (Zy l xi)) (Fv λ_ _=>rfl) (Ab 3 (Bx (iX l.length (Zy l) ω (λi _=>Ij (hc i))) (Ab 11 (Ip 23 (decide ((25:Int)<(Gg (Zy l) l.length:Int))) false (decide_eq_false ω) (Ab 11 (Ff))))))
theorem aW (n:Nat) (c:Nat->Int) (y:Int) (hn:n<=25) (hc:∀i,i<n->Gb (c i)) (hl:n=0\/c (n-1)≠0) (hy:Gb y) (hp:∀i,i<n->Gb (c i*y)):AF Tryz.prog 159 [Bj n c,WA y] (.tup [Bj (Gg (λi=>c i*y) n) (λi=>c i*y),.int 0]):=by
 refine Bv func159 rfl λB D0 hA0=>?_
 refine Ab 11 (Bx (Qg n c hn hc hl) (Ab 3 (Bx (Ka _ hy) (Ab 16 (Ca (.osl 2 2 n) (.new 2 (.vec 70 2 n (λ_=> .lit (Al 0)))) (Li 202 (.tmp 19) (.tmp 19) κ underlying202 2 24 (.agg #[.bool false,.string ⟨#[]⟩]) κ κ δ (n:Int) n ω κ κ ω ω ω 2 (.lit (Al 0)) κ) (Ab 12 (Nh 2 70 2 n (λ_=> .lit (Al 0)) (λxi=>WA (Vb (λi=>c i*y) 0 xi)) (λx9 hx9=>zH _ _) (Lz [3,6,7,21,22,23] n (λi=>True) (λi=>⟨[(3,.ptr 0 0),(6,.ptr 1 0),(7,.osl 2 2 n),(21,Bj n c),(22,.int (n:Int)),(23,.int (i:Int))],[(0,.box 70 [.bool (decide (y<0)),.lit (.string (Ep (y).natAbs))]),(1,.box 241 [.int 0]),(2,.vec 70 2 n (λxi=>WA (Vb (λi=>c i*y) i xi)))],3,39⟩) trivial (λi hin hFi J1 hJ1=>?_)))))))))
 refine Ab 6 (Em 24 ((i:Int)<(n:Int)) (λhx1 hx1d=>?_) (λhx1 hx1d=>?_))
 ·
  exact Ab 8 (Gk i n (Ab 11 (Ca (.lit (Al (c i*y))) (.set 1 (.box 241 [.int 0])) (Jd 174 #[.tmp 6,.tmp 30,.tmp 31] #[241,70,70] κ (λ_ _=>by kernel_rfl) 1 241 [.int .i64 0] κ [.lit (Al (c i)),.lit (Al y)] κ κ (Al (c i*y)) (Vi (c i) y (hc _ ω) hy (hp _ ω))) (Gk i n (Ca (.lit Go.undef) (.set 2 (.vec 70 2 n (λxi=>if xi=i then .lit (Al (c i*y)) else (λxi=>WA (Vb (λi=>c i*y) i xi)) xi))) (Ek 70 (.tmp 33) (.tmp 32) κ 2 sizeOf70 2 i κ 70 n (λxi=>WA (Vb (λi=>c i*y) i xi)) κ ω κ κ κ (.lit (Al (c i*y))) κ) (Ab 4 (Dt ((i:Int)+1) ((i+1:Nat):Int) (Ab 2 (Nh 2 70 2 n (λxi=>if xi=i then .lit (Al (c i*y)) else (λxi=>WA (Vb (λi=>c i*y) i xi)) xi) (λxi=>WA (Vb (λi=>c i*y) (i+1) xi)) (λx9 hx9=>zG (λi=>c i*y) i _) (Fx [3,6,7,21,22,23] [(0,0),(1,1),(2,2)] 3 0 hA0 [(70,2,n,(λxi=>WA (Vb (λi=>c i*y) (i+1) xi)))] ⟨(Fv λ_ _=>rfl),trivial⟩ (hJ1 ω trivial)))))))))))
 ·
  refine Ab 6 (Nh 2 70 2 n (λxi=>WA (Vb (λi=>c i*y) i xi)) (λxi=>WA ((λi=>c i*y) xi)) (λx9 hx9=>Aca ω) (Ac7 2 [7] 70 2 n (λxi=>WA ((λi=>c i*y) xi)) (Fv λ_ _=>rfl) (Ab 3 (Xi 3 func176 (λ_ hD2=>?_)))))
  exact Ab 23 (Bx (iX n (λi=>c i*y) ω hp) (Ab 5 (qG (Ab 7 (Ff)))))
def inn (a b:Int) (c:Nat->Int) (t k:Nat):Int:=if k<t then (if k=0 then 0 else c (k-1)*b)+c k*a else if k=t/\0<t then c (t-1)*b else 0
theorem Ab7 (a b:Int) (c:Nat->Int) (k:Nat):WA 0=WA (inn a b c 0 k):=by
 unfold inn
 rw[if_neg (Nat.not_lt_zero k),if_neg ω]
theorem Ab6 (a b:Int) (c:Nat->Int) (t k:Nat):(if k=t+1 then WA (c t*b) else if k=t then WA (inn a b c t t+c t*a) else WA (inn a b c t k))=WA (inn a b c (t+1) k):=by
 by_cases h1:k=t+1
 rw[if_pos h1]
 unfold inn
 rw[if_neg ω,if_pos ω,Nat.add_sub_cancel]
 rw[if_neg h1]
 by_cases h2:k=t
 subst h2
 rw[if_pos rfl]
 unfold inn
 rw[if_neg (Nat.lt_irrefl k),if_pos (Nat.lt_succ_self k)]
 by_cases h3:k=0
 subst h3;rw[if_neg ω,if_pos rfl]
 rw[if_pos ω,if_neg h3]
 rw[if_neg h2]
 by_cases h3:k<t
 rw[inn,inn,if_pos h3,if_pos (show k<t+1 by omega)]
 rw[inn,inn,if_neg h3,if_neg ω,if_neg ω,if_neg ω]
def Mr (d:Int):Nat->Int
 |0=>1
 |k+1=>Mr d k*d
theorem aH (d:Int):∀k,Mr d k=d^k
 |0=>by rw[Int.pow_zero];rfl
 |k+1=>by rw[Mr,aH d k,Int.pow_succ]
def cN (p:Nat->Int) (m:Nat) (a b d:Int):Nat->Nat->Int
 |0,_=>p (m-1)
 |j+1,k=>inn a b (cN p m a b d j) (j+1) k+(if k=0 then p (m-2-j)*Mr d (j+1) else 0)
theorem Adj (p:Nat->Int) (m:Nat) (a b d:Int) (j k:Nat) {q:Nat} (hq:q=m-2-j):(if k=0 then WA (inn a b (cN p m a b d j) (j+1) 0+p q*Mr d (j+1)) else WA (inn a b (cN p m a b d j) (j+1) k))=WA (cN p m a b d (j+1) k):=by
 subst hq
 rw[cN]
 by_cases h:k=0
 subst h;rw[if_pos rfl,if_pos rfl]
 rw[if_neg h,if_neg h,Int.add_zero]
theorem Ab5 {a b:Int} {c:Nat->Int} {e:Nat} (ha:Cy a) (hb:Cy b) (hc:∀k,Bd e (c k)) (t k:Nat):Bd (e+64) (inn a b c t k):=by
 have h1:∀k,Bd (e+63) (c k*a):=λk=>(hc k).mul (Bd.int ha.1 ha.2)
 have h2:∀k,Bd (e+63) (c k*b):=λk=>(hc k).mul (Bd.int hb.1 hb.2)
 unfold inn
 split
 refine Bd.add (e:=e+63) ?_ (h1 k)
 split
 exact Bd.zero _
 exact h2 _
 split
 exact(h2 _).mono ω
 exact Bd.zero _
theorem mZ {p:Nat->Int} {m:Nat} {a b d:Int} (hp:∀i,Cy (p i)) (ha:Cy a) (hb:Cy b) (hd:Cy d):∀j k,Bd (70*j+63) (cN p m a b d j k)
 |0,_=>Bd.int (hp _).1 (hp _).2
 |j+1,k=>by
  have h1:=Ab5 ha hb (mZ (m:=m) hp ha hb hd j) (j+1) k
  rw[cN]
  refine(Bd.add (e:=70*j+63+64) (h1.mono (Nat.le_refl _)) ?_).mono ω
  split
  rw[aH];exact((Bd.int (hp _).1 (hp _).2).mul ((Bd.int hd.1 hd.2).pow (j+1))).mono ω
  exact Bd.zero _
def c3 (a b d:Int):Nat->Int
 |0=>a
 |1=>b
 |_=>d
theorem Aex {a b d:Int} (ha:Cy a) (hb:Cy b) (hd:Cy d):∀i,Cy (c3 a b d i)
 |0=>ha
 |1=>hb
 |_+2=>hd
theorem Acn {c:Nat->Int} {n:Nat} (h:∀i,Cy (c i)):0<=Fd c n/\Fd c n<=64:=pV (k:=64) n λi _=>by
 have:=(Bd.int (h i).1 (h i).2).le
 exact Gx.2 ω
theorem lZ (k0:Nat) (p:Nat->Int) (a b d:Int) (hm:k0<=5) (hp:∀i,Cy (p i)) (hl:p k0≠0) (ha:Cy a) (hb:Cy b) (hd:Cy d) (hdp:0<d):AF Tryz.prog 158 [Bj (k0+1) p,WA a,WA b,WA d] (.tup [Bj (Gg (cN p (k0+1) a b d k0) (k0+1)) (cN p (k0+1) a b d k0),.int 0]):=by
 have hsp:=Acn (n:=k0+1) hp
 have hs3:=Acn (n:=3) (Aex ha hb hd)
 have hml:0<=((k0+1-1:Nat):Int)*(Fd (c3 a b d) 3+1)/\((k0+1-1:Nat):Int)*(Fd (c3 a b d) 3+1)<=325:=⟨Int.mul_nonneg ω ω,Int.le_trans (Int.mul_le_mul (show ((k0+1-1:Nat):Int)<=5 by omega) (show Fd (c3 a b d) 3+1<=65 by omega) ω ω) δ⟩
 have fc:∀j k,j<=6->Gb (cN p (k0+1) a b d j k):=λj k hj=>(mZ hp ha hb hd j k).fit ω
 have fi:∀j t k,j<=6->Bd 600 (inn a b (cN p (k0+1) a b d j) t k):=λj t k hj=>(Ab5 ha hb (mZ hp ha hb hd j) t k).mono ω
 have fm:∀j k y,j<=6->Cy y->Bd 600 (cN p (k0+1) a b d j k*y):=λj k y hj hy=>((mZ hp ha hb hd j k).mul (Bd.int hy.1 hy.2)).mono ω
 have fd:∀j,j<=6->Bd 500 (Mr d j):=λj hj=>by rw[aH];exact((Bd.int hd.1 hd.2).pow j).mono ω
 have fp:∀i j,j<=6->Bd 600 (p i*Mr d j):=λi j hj=>((Bd.int (hp i).1 (hp i).2).mul (fd j hj)).mono ω
 refine Bv func158 rfl λB D0 hA0=>?_
 refine Ab 13 (Bx (Qg (k0+1) p ω (λi _=>Ij (hp i)) (.inr hl)) (Ab 3 (Bx (Ka _ (Ij ha)) (Ab 4 (Bx (Ka _ (Ij hb)) (Ab 4 (Bx (Ka _ (Ij hd)) (Ab 11 (Bx (Vp d (Ij hd)) (Ab 3 (Ip 37 (decide (d.sign<=0)) false (decide_eq_false (by rw[Int.sign_eq_one_of_pos hdp];decide)) (Ab 11 (Ip 40 (decide (((k0+1:Nat):Int)=0)) false (decide_eq_false ω) (Ab 5 (Gw [(1,_,.none),(4,.int ((k0+1-1:Nat):Int),.none),(8,.osl 3 2 3,(.new 3 (.vec 70 2 3 (λxi=>WA (c3 a b d xi))))),(9,.int (Fd (c3 a b d) 3),(.read 3)),(10,.int (Fd (c3 a b d) 3+1),.none),(11,.int (((k0+1-1:Nat):Int)*(Fd (c3 a b d) 3+1)),.none),(12,.int (Fd p (k0+1)+((k0+1-1:Nat):Int)*(Fd (c3 a b d) 3+1)),.none),(13,.int (Fd p (k0+1)+((k0+1-1:Nat):Int)*(Fd (c3 a b d) 3+1)+8),.none),(14,.bool false,.none)] [0,5,6,7,55] ⟨En (tO (k0+1) p ω (λi _=>Ij (hp i))),Bb (Br (v:= .int .i64 (IntKind.wrap .i64 (((k0+1:Nat):Int)-1))) (v':= .int .i64 ((k0+1-1:Nat):Int)) _ κ rfl κ (λw=>by kernel_rfl) (congrArg (Value.int .i64) ((IntWalk.i64_in _ ω).trans ω))),Bb (Ak 201 3 #[(0,(.tmp 46)),(1,(.tmp 47)),(2,(.tmp 48))] κ underlying201 2 sizeOf70 _ zeroValue70 κ β β β 3 [.bool (decide (a<0)),.lit (.string (Ep (a).natAbs)),.bool (decide (b<0)),.lit (.string (Ep (b).natAbs)),.bool (decide (d<0)),.lit (.string (Ep (d).natAbs))] κ (λxi=>WA (c3 a b d xi)) κ),Bb (gT 173 #[.tmp 49] #[201] κ (λ_ _=>by kernel_rfl) 3 (.vec 70 2 3 (λxi=>WA (c3 a b d xi))) κ (λ_ _ _ _ h=>by cases h;exact(Fv λ_ _=>rfl)) [.osl 3 2 3] κ [.sl 2 3 (λxi=>WA (c3 a b d xi))] κ (.int .i64 (Fd (c3 a b d) 3)) (tO 3 (c3 a b d) ω (λi _=>Ij (Aex ha hb hd i)))),Bb (Br (v:= .int .i64 (IntKind.wrap .i64 (Fd (c3 a b d) 3+1))) (v':= .int .i64 (Fd (c3 a b d) 3+1)) _ κ rfl κ (λw=>by kernel_rfl) (congrArg (Value.int .i64) ((IntWalk.i64_in _ ω).trans ω))),Bb (Br (v:= .int .i64 (IntKind.wrap .i64 (((k0+1-1:Nat):Int)*(Fd (c3 a b d) 3+1)))) (v':= .int .i64 (((k0+1-1:Nat):Int)*(Fd (c3 a b d) 3+1))) _ κ rfl κ (λw=>by kernel_rfl) (congrArg (Value.int .i64) ((IntWalk.i64_in _ ω).trans ω))),Bb (Br (v:= .int .i64 (IntKind.wrap .i64 (Fd p (k0+1)+((k0+1-1:Nat):Int)*(Fd (c3 a b d) 3+1)))) (v':= .int .i64 (Fd p (k0+1)+((k0+1-1:Nat):Int)*(Fd (c3 a b d) 3+1))) _ κ rfl κ (λw=>by kernel_rfl) (congrArg (Value.int .i64) ((IntWalk.i64_in _ ω).trans ω))),Bb (Br (v:= .int .i64 (IntKind.wrap .i64 (Fd p (k0+1)+((k0+1-1:Nat):Int)*(Fd (c3 a b d) 3+1)+8))) (v':= .int .i64 (Fd p (k0+1)+((k0+1-1:Nat):Int)*(Fd (c3 a b d) 3+1)+8)) _ κ rfl κ (λw=>by kernel_rfl) (congrArg (Value.int .i64) ((IntWalk.i64_in _ ω).trans ω))),eB (b:=decide ((65536:Int)<Fd p (k0+1)+((k0+1-1:Nat):Int)*(Fd (c3 a b d) 3+1)+8)) (decide_eq_false ω),trivial⟩ (Ab 10 (Gw [(3,.int ((k0+1-1:Nat):Int),.none),(4,Cz (Bj (k0+1) p) (k0+1-1),.none),(6,.osl 5 2 1,(.new 5 (.vec 70 2 1 (λ_=> .lit (Al (p (k0+1-1))))))),(7,_,.none)] [0,5,6,7,10,11,12] ⟨Bb (Br (v:= .int .i64 (IntKind.wrap .i64 (((k0+1:Nat):Int)-1))) (v':= .int .i64 ((k0+1-1:Nat):Int)) _ κ rfl κ (λw=>by kernel_rfl) (congrArg (Value.int .i64) ((IntWalk.i64_in _ ω).trans ω))),Ht (k0+1-1) (k0+1),Bb (Ak 202 1 #[(0,(.tmp 61))] κ underlying202 2 sizeOf70 _ zeroValue70 κ β β β 5 [.bool (decide (p (k0+1-1)<0)),.lit (.string (Ep (p (k0+1-1)).natAbs))] κ (λ_=> .lit (Al (p (k0+1-1)))) κ),En (He 1 δ δ),trivial⟩ (Ab 6 (Dt (((k0+1:Nat):Int)-2) (((k0-0:Nat):Int)-1) (Ab 4 (Lz [0,5,6,7,10,11,12,13] k0 (λj=>True) (λj=>⟨[(0,Bj (k0+1) p),(5,.ptr 0 0),(6,.ptr 1 0),(7,.ptr 2 0),(10,.ptr 4 0),(11,.osl 5 2 (j+1)),(12,.ptr 6 0),(13,.int (((k0-j:Nat):Int)-1))],[(0,.box 70 [.bool (decide (a<0)),.lit (.string (Ep (a).natAbs))]),(1,.box 70 [.bool (decide (b<0)),.lit (.string (Ep (b).natAbs))]),(2,.box 70 [.bool (decide (d<0)),.lit (.string (Ep (d).natAbs))]),(3,.vec 70 2 3 (λxi=>WA (c3 a b d xi))),(4,.box 241 [.int 0]),(5,.vec 70 2 (j+1) (λxi=>WA (cN p (k0+1) a b d j xi))),(6,.box 70 [.bool (decide (Mr d j<0)),.lit (.string (Ep (Mr d j).natAbs))])],7,121⟩) trivial (λj hjn hFj J1 hJ1=>?_))))))))))))))))))))))
 refine Ab 7 (Em 68 ((0:Int)<=((k0-j:Nat):Int)-1) (λhx1 hx1d=>?_) (λhx1 hx1d=>?_))
 ·
  refine Ab 9 (Ca (.lit (Al (Mr d (j+1)))) (.set 4 (.box 241 [.int 0])) (Jd 174 #[.tmp 10,.tmp 71,.tmp 72] #[241,70,70] κ (λ_ _=>by kernel_rfl) 4 241 [.int .i64 0] κ [.lit (Al (Mr d j)),.lit (Al d)] κ κ (Al (Mr d (j+1))) (Vi (Mr d j) d ((fd j ω).fit ω) (Ij hd) ((fd (j+1) ω).fit ω))) (Ab 7 (Dt (((j+1:Nat):Int)+1) ((j+1+1:Nat):Int) (Ca (.osl 7 2 (j+1+1)) (.new 7 (.vec 70 2 (j+1+1) (λ_=> .lit (Al 0)))) (Li 202 (.tmp 76) (.tmp 76) κ underlying202 2 24 (.agg #[.bool false,.string ⟨#[]⟩]) κ κ δ ((j+1+1:Nat):Int) (j+1+1) ω κ κ ω ω ω 7 (.lit (Al 0)) κ) (Ab 12 (Nh 7 70 2 (j+1+1) (λ_=> .lit (Al 0)) (λxi=>WA (inn a b (cN p (k0+1) a b d j) 0 xi)) (λx9 hx9=>Ab7 _ _ _ _) (Lz [0,5,6,7,10,12,13,14,78,79,80] (j+1) (λt=>True) (λt=>⟨[(0,Bj (k0+1) p),(5,.ptr 0 0),(6,.ptr 1 0),(7,.ptr 2 0),(10,.ptr 4 0),(12,.ptr 6 0),(13,.int (((k0-j:Nat):Int)-1)),(14,.osl 7 2 (j+1+1)),(78,.osl 5 2 (j+1)),(79,.int ((j+1:Nat):Int)),(80,.int (t:Int))],[(0,.box 70 [.bool (decide (a<0)),.lit (.string (Ep (a).natAbs))]),(1,.box 70 [.bool (decide (b<0)),.lit (.string (Ep (b).natAbs))]),(2,.box 70 [.bool (decide (d<0)),.lit (.string (Ep (d).natAbs))]),(3,.vec 70 2 3 (λxi=>WA (c3 a b d xi))),(4,.box 241 [.int 0]),(5,.vec 70 2 (j+1) (λxi=>WA (cN p (k0+1) a b d j xi))),(6,.box 70 [.bool (decide (Mr d (j+1)<0)),.lit (.string (Ep (Mr d (j+1)).natAbs))]),(7,.vec 70 2 (j+1+1) (λxi=>WA (inn a b (cN p (k0+1) a b d j) t xi)))],8,121⟩) trivial (λt htn hFt J2 hJ2=>?_))))))))
  refine Ab 6 (Em 81 ((t:Int)<((j+1:Nat):Int)) (λhx2 hx2d=>?_) (λhx2 hx2d=>?_))
  ·
   exact Ab 8 (Gk t (j+1) (Ca (.lit (Al (cN p (k0+1) a b d j t))) (.read 5) (Qr 70 (.tmp 83) κ isAgg70 2 sizeOf70 5 t κ 70 (j+1) (λxi=>WA (cN p (k0+1) a b d j xi)) κ ω) (Ab 6 (Gw [(4,Cz (.osl 7 2 (j+1+1)) t,.none),(5,.lit (Al (inn a b (cN p (k0+1) a b d j) t t)),(.read 7)),(8,.lit (Al (cN p (k0+1) a b d j t*a)),(.set 4 (.box 241 [.int 0]))),(9,.lit (Al (inn a b (cN p (k0+1) a b d j) t t+cN p (k0+1) a b d j t*a)),(.set 4 (.box 241 [.int 0]))),(10,Cz (.osl 7 2 (j+1+1)) t,.none),(11,.lit Go.undef,(.set 7 (.vec 70 2 (j+1+1) (λxi=>if xi=t then .lit (Al (inn a b (cN p (k0+1) a b d j) t t+cN p (k0+1) a b d j t*a)) else (λxi=>WA (inn a b (cN p (k0+1) a b d j) t xi)) xi))))] [0,5,6,7,10,12,13,14,15,16,78,79,80] ⟨Ht t (j+1+1),Bb (Qr 70 (.tmp 89) κ isAgg70 2 sizeOf70 7 t κ 70 (j+1+1) (λxi=>WA (inn a b (cN p (k0+1) a b d j) t xi)) κ ω),Bb (Jd 174 #[.tmp 10,.tmp 91,.tmp 92] #[241,70,70] κ (λ_ _=>by kernel_rfl) 4 241 [.int .i64 0] κ [.lit (Al (cN p (k0+1) a b d j t)),.lit (Al a)] κ κ (Al (cN p (k0+1) a b d j t*a)) (Vi _ _ (fc j _ ω) (Ij ha) ((fm j _ _ ω ha).fit ω))),Bb (Jd 175 #[.tmp 10,.tmp 90,.tmp 93] #[241,70,70] κ (λ_ _=>by kernel_rfl) 4 241 [.int .i64 0] κ [.lit (Al (inn a b (cN p (k0+1) a b d j) t t)),.lit (Al (cN p (k0+1) a b d j t*a))] κ κ (Al (inn a b (cN p (k0+1) a b d j) t t+cN p (k0+1) a b d j t*a)) (tJ _ _ ((fi j _ _ ω).fit ω) ((fm j _ _ ω ha).fit ω) (((fi j _ _ ω).add (fm j _ _ ω ha)).fit ω))),Ht t (j+1+1),Bb (Ek 70 (.tmp 95) (.tmp 94) κ 2 sizeOf70 7 t κ 70 (j+1+1) (λxi=>WA (inn a b (cN p (k0+1) a b d j) t xi)) κ ω κ κ κ (.lit (Al (inn a b (cN p (k0+1) a b d j) t t+cN p (k0+1) a b d j t*a))) κ),trivial⟩ (Ab 4 (Dt ((t:Int)+1) ((t+1:Nat):Int) (Ab 2 (Ca (.lit (Al (cN p (k0+1) a b d j t*b))) (.set 4 (.box 241 [.int 0])) (Jd 174 #[.tmp 10,.tmp 99,.tmp 100] #[241,70,70] κ (λ_ _=>by kernel_rfl) 4 241 [.int .i64 0] κ [.lit (Al (cN p (k0+1) a b d j t)),.lit (Al b)] κ κ (Al (cN p (k0+1) a b d j t*b)) (Vi _ _ (fc j _ ω) (Ij hb) ((fm j _ _ ω hb).fit ω))) (Gk (t+1) (j+1+1) (Ca (.lit Go.undef) (.set 7 (.vec 70 2 (j+1+1) (λxi=>if xi=t+1 then .lit (Al (cN p (k0+1) a b d j t*b)) else (λxi=>if xi=t then .lit (Al (inn a b (cN p (k0+1) a b d j) t t+cN p (k0+1) a b d j t*a)) else (λxi=>WA (inn a b (cN p (k0+1) a b d j) t xi)) xi) xi))) (Ek 70 (.tmp 102) (.tmp 101) κ 2 sizeOf70 7 (t+1) κ 70 (j+1+1) (λxi=>if xi=t then .lit (Al (inn a b (cN p (k0+1) a b d j) t t+cN p (k0+1) a b d j t*a)) else (λxi=>WA (inn a b (cN p (k0+1) a b d j) t xi)) xi) κ ω κ κ κ (.lit (Al (cN p (k0+1) a b d j t*b))) κ) (Ab 4 (Dt ((t:Int)+1) ((t+1:Nat):Int) (Ab 2 (Nh 7 70 2 (j+1+1) (λxi=>if xi=t+1 then .lit (Al (cN p (k0+1) a b d j t*b)) else (λxi=>if xi=t then .lit (Al (inn a b (cN p (k0+1) a b d j) t t+cN p (k0+1) a b d j t*a)) else (λxi=>WA (inn a b (cN p (k0+1) a b d j) t xi)) xi) xi) (λxi=>WA (inn a b (cN p (k0+1) a b d j) (t+1) xi)) (λx9 hx9=>Ab6 _ _ _ _ _) (Fx [0,5,6,7,10,12,13,14,78,79,80] [(0,0),(1,1),(2,2),(3,3),(4,4),(5,5),(6,6),(7,7)] 8 0 hA0 [(70,2,3,(λxi=>WA (c3 a b d xi))),(70,2,j+1,(λxi=>WA (cN p (k0+1) a b d j xi))),(70,2,j+1+1,(λxi=>WA (inn a b (cN p (k0+1) a b d j) (t+1) xi)))] ⟨(Fv λ_ _=>rfl),(Fv λ_ _=>rfl),(Fv λ_ _=>rfl),trivial⟩ (hJ2 ω trivial))))))))))))))))
  ·
   refine Ab 6 ?_
   have hte:t=j+1:=by omega
   subst hte
   exact Ab 1 (Gw [(2,Cz (.osl 7 2 (j+1+1)) 0,.none),(3,.lit (Al (inn a b (cN p (k0+1) a b d j) (j+1) 0)),(.read 7)),(6,Cz (Bj (k0+1) p) (((k0-j:Nat):Int)-1).toNat,.none),(9,.lit (Al (p ((((k0-j:Nat):Int)-1).toNat)*(Mr d (j+1)))),(.set 4 (.box 241 [.int 0]))),(10,.lit (Al (inn a b (cN p (k0+1) a b d j) (j+1) 0+p ((((k0-j:Nat):Int)-1).toNat)*(Mr d (j+1)))),(.set 4 (.box 241 [.int 0]))),(11,Cz (.osl 7 2 (j+1+1)) 0,.none),(12,.lit Go.undef,(.set 7 (.vec 70 2 (j+1+1) (λxi=>if xi=0 then .lit (Al (inn a b (cN p (k0+1) a b d j) (j+1) 0+p ((((k0-j:Nat):Int)-1).toNat)*(Mr d (j+1)))) else (λxi=>WA (inn a b (cN p (k0+1) a b d j) (j+1) xi)) xi))))] [0,5,6,7,10,12,13,14] ⟨Ht 0 (j+1+1),Bb (Qr 70 (.tmp 106) κ isAgg70 2 sizeOf70 7 0 κ 70 (j+1+1) (λxi=>WA (inn a b (cN p (k0+1) a b d j) (j+1) xi)) κ ω),AeP (((k0-j:Nat):Int)-1) (((k0-j:Nat):Int)-1).toNat (k0+1),Bb (Jd 174 #[.tmp 10,.tmp 111,.tmp 112] #[241,70,70] κ (λ_ _=>by kernel_rfl) 4 241 [.int .i64 0] κ [.lit (Al (p ((((k0-j:Nat):Int)-1).toNat))),.lit (Al (Mr d (j+1)))] κ κ (Al (p ((((k0-j:Nat):Int)-1).toNat)*(Mr d (j+1)))) (Vi _ _ (Ij (hp _)) ((fd _ ω).fit ω) ((fp _ _ ω).fit ω))),Bb (Jd 175 #[.tmp 10,.tmp 107,.tmp 113] #[241,70,70] κ (λ_ _=>by kernel_rfl) 4 241 [.int .i64 0] κ [.lit (Al (inn a b (cN p (k0+1) a b d j) (j+1) 0)),.lit (Al (p ((((k0-j:Nat):Int)-1).toNat)*(Mr d (j+1))))] κ κ (Al (inn a b (cN p (k0+1) a b d j) (j+1) 0+p ((((k0-j:Nat):Int)-1).toNat)*(Mr d (j+1)))) (tJ _ _ ((fi j _ _ ω).fit ω) ((fp _ _ ω).fit ω) (((fi j _ _ ω).add (fp _ _ ω)).fit ω))),Ht 0 (j+1+1),Bb (Ek 70 (.tmp 115) (.tmp 114) κ 2 sizeOf70 7 0 κ 70 (j+1+1) (λxi=>WA (inn a b (cN p (k0+1) a b d j) (j+1) xi)) κ ω κ κ κ (.lit (Al (inn a b (cN p (k0+1) a b d j) (j+1) 0+p ((((k0-j:Nat):Int)-1).toNat)*(Mr d (j+1))))) κ),trivial⟩ (Ab 9 (Dt (((k0-j:Nat):Int)-1-1) (((k0-(j+1):Nat):Int)-1) (Ab 2 (Nh 7 70 2 (j+1+1) (λxi=>if xi=0 then .lit (Al (inn a b (cN p (k0+1) a b d j) (j+1) 0+p ((((k0-j:Nat):Int)-1).toNat)*(Mr d (j+1)))) else (λxi=>WA (inn a b (cN p (k0+1) a b d j) (j+1) xi)) xi) (λxi=>WA (cN p (k0+1) a b d (j+1) xi)) (λx9 hx9=>Adj _ _ _ _ _ _ _ ω) (Fx [0,5,6,7,10,11,12,13] [(0,0),(1,1),(2,2),(3,3),(4,4),(7,5),(6,6)] 7 0 hA0 [(70,2,3,(λxi=>WA (c3 a b d xi))),(70,2,j+1,(λxi=>WA (cN p (k0+1) a b d j xi))),(70,2,j+1+1,(λxi=>WA (cN p (k0+1) a b d (j+1) xi)))] ⟨(Fv λ_ _=>rfl),(Fv λ_ _=>rfl),(Fv λ_ _=>rfl),trivial⟩ (hJ1 ω trivial)))))))
 ·
  refine Ab 6 ?_
  have hje:j=k0:=by omega
  subst hje
  refine Ac7 5 [11] 70 2 (j+1) (λxi=>WA (cN p (j+1) a b d j xi)) (Fv λ_ _=>rfl) (Ab 3 (Xi 7 func176 (λ_ hD3=>?_)))
  exact Ab 23 (Bx (iX (j+1) (cN p (j+1) a b d j) ω (λi _=>fc _ i ω)) (Ab 5 (qG (Ab 7 (Ff)))))
end Go.Proofs.YtldnjomacnjhnaaGreat
namespace Go.Proofs.YtldnjomacnjhnaaGreat
open Go.RowKit
structure AeE (lt:Nat->Nat->Bool):Prop where
 am:∀a b,lt a b=true->lt b a=false
 tr:∀a b c,lt b a=false->lt c b=false->lt c a=false
theorem oB {lt:Nat->Nat->Bool} (h:AeE lt):∀(j:Nat) (l:List Nat) (i:Nat),j<=i->i<l.length->(∀a b,a<b->b<=i->a≠j->b≠j->lt (l.getD b 0) (l.getD a 0)=false)->(∀b,j<b->b<=i->lt (l.getD b 0) (l.getD j 0)=false)->∀a b,a<b->b<=i->lt ((Pp lt l j).getD b 0) ((Pp lt l j).getD a 0)=false
 |0,l,i,_,_,h1,h2,a,b,ha,hb=>by
  rw[Pp]
  by_cases e:a=0
  subst e;exact h2 b ha hb
  exact h1 a b ha hb e ω
 |j+1,l,i,hj,hi,h1,h2,a,b,ha,hb=>by
  rw[Pp]
  by_cases hc:lt (l.getD (j+1) 0) (l.getD j 0)=true
  rw[if_pos hc]
  refine oB h j (Nv l j) i ω (by rw[Jf];exact hi) (λa b ha hb h3 h4=>?_) (λb h3 hb=>?_) a b ha hb
  rw[Ly _ _ _ ω,Ly _ _ _ ω,if_neg h3,if_neg h4]
  by_cases e:a=j+1
  rw[if_pos e,if_neg ω];exact h1 j b ω hb ω ω
  rw[if_neg e]
  by_cases e2:b=j+1
  rw[if_pos e2];exact h1 a j ω ω e ω
  rw[if_neg e2];exact h1 a b ha hb e e2
  rw[Ly _ _ _ ω,Ly _ _ _ ω,if_neg ω,if_pos rfl]
  by_cases e:b=j+1
  rw[if_pos e];exact h.am _ _ hc
  rw[if_neg e];exact h2 b ω hb
  have hc':lt (l.getD (j+1) 0) (l.getD j 0)=false:=by simpa using hc
  rw[if_neg hc]
  by_cases e:a=j+1
  subst e;exact h2 b ha hb
  by_cases e2:b=j+1
  subst e2
  by_cases e3:a=j
  subst e3;exact hc'
  exact h.tr _ _ _ (h1 a j ω ω e ω) hc'
  exact h1 a b ha hb e e2
theorem pW {lt:Nat->Nat->Bool} (h:AeE lt) (l:List Nat):∀i,i<l.length->∀a b,a<b->b<=i->lt ((Ku lt l i).getD b 0) ((Ku lt l i).getD a 0)=false
 |0,_,a,b,ha,hb=>by omega
 |i+1,hi,a,b,ha,hb=>oB h (i+1) (Ku lt l i) (i+1) (Nat.le_refl _) (by rw[Lx];exact hi) (λa b ha hb h3 h4=>pW h l i ω a b ha ω) (λb h3 hb=>by omega) a b ha hb
def Pm (l m:List Nat):Prop:=m.length=l.length/\∃s t:Nat->Nat,∀x,x<l.length->s x<l.length/\t x<l.length/\s (t x)=x/\t (s x)=x/\m.getD x 0=l.getD (s x) 0
theorem Pm.refl (l:List Nat):Pm l l:=⟨rfl,id,id,λ_ h=>⟨h,h,rfl,rfl,rfl⟩⟩
theorem Pm.trans {l m k:List Nat} (h:Pm l m) (g:Pm m k):Pm l k:=by
 obtain⟨h0,s,t,h1⟩:=h
 obtain⟨g0,s',t',g1⟩:=g
 refine⟨g0.trans h0,λx=>s (s' x),λx=>t' (t x),λx hx=>?_⟩
 obtain⟨a1,a2,a3,a4,a5⟩:=g1 x ω
 obtain⟨b1,b2,b3,b4,b5⟩:=h1 x hx
 obtain⟨c1,c2,c3,c4,c5⟩:=g1 (t x) ω
 obtain⟨d1,d2,d3,d4,d5⟩:=h1 (s' x) ω
 exact⟨d1,(show t' (t x)<_ by omega),(show s (s' (t' (t x)))=x by rw[c3,b3]),(show t' (t (s (s' x)))=x by rw[d4,a4]),(show k.getD x 0=l.getD (s (s' x)) 0 by rw[a5,d5])⟩
theorem Pm.swap {l:List Nat} {j:Nat} (h:j+1<l.length):Pm l (Nv l j):=by
 let s:Nat->Nat:=λx=>if x=j then j+1 else if x=j+1 then j else x
 have hs:∀x,s (s x)=x:=λx=>by
  show (if (if x=j then j+1 else if x=j+1 then j else x)=j then j+1 else if (if x=j then j+1 else if x=j+1 then j else x)=j+1 then j else (if x=j then j+1 else if x=j+1 then j else x))=x
  by_cases h1:x=j
  · subst h1;rw[if_pos rfl,if_neg ω,if_pos rfl]
  ·
   by_cases h2:x=j+1
   · subst h2;rw[if_neg h1,if_pos rfl,if_pos rfl]
   · rw[if_neg h1,if_neg h2,if_neg h1,if_neg h2]
 have hl:∀x,x<l.length->s x<l.length:=λx hx=>by
  show (if x=j then j+1 else if x=j+1 then j else x)<_
  by_cases h1:x=j
  · rw[if_pos h1];exact h
  ·
   by_cases h2:x=j+1
   · rw[if_neg h1,if_pos h2];omega
   · rw[if_neg h1,if_neg h2];exact hx
 refine⟨Jf l j,s,s,λx hx=>⟨hl x hx,hl x hx,hs x,hs x,?_⟩⟩
 rw[Ly _ _ _ h]
 show _=l.getD (if x=j then j+1 else if x=j+1 then j else x) 0
 by_cases h1:x=j
 · rw[if_pos h1,if_pos h1]
 ·
  by_cases h2:x=j+1
  · rw[if_neg h1,if_neg h1,if_pos h2,if_pos h2]
  · rw[if_neg h1,if_neg h1,if_neg h2,if_neg h2]
theorem uW (lt:Nat->Nat->Bool):∀j l,j<l.length->Pm l (Pp lt l j)
 |0,l,_=>Pm.refl l
 |j+1,l,h=>by
  rw[Pp]
  split
  · exact(Pm.swap h).trans (uW lt j _ (by rw[Jf];omega))
  · exact Pm.refl l
theorem vY (lt:Nat->Nat->Bool) (l:List Nat):∀i,i<l.length->Pm l (Ku lt l i)
 |0,_=>Pm.refl l
 |i+1,h=>(vY lt l i ω).trans (uW lt (i+1) _ (by rw[Lx];exact h))
theorem Ad2 (r:Rv) (v:V3):AeE (Xl r v):=by
 refine⟨λa b h=>?_,λa b c h g=>?_⟩
 simp only[Xl,decide_eq_true_eq,decide_eq_false_iff_not] at h ⊢;omega
 simp only[Xl,decide_eq_false_iff_not] at h g ⊢;omega
theorem AeZ (r:Rv) (v:V3) {a b:Nat} (h:a<b) (hb:b<r.homes.length):Xl r v ((Aw r v).getD b 0) ((Aw r v).getD a 0)=false:=
 pW (Ad2 r v) (List.range r.homes.length) (r.homes.length-1) (by rw[List.length_range];omega) a b h ω
theorem Afa (r:Rv) (v:V3) (h:0<r.homes.length):∃s t:Nat->Nat,∀x,x<r.homes.length->t x<r.homes.length/\s (t x)=x/\t (s x)=x/\(Aw r v).getD x 0=s x:=by
 obtain⟨_,s,t,h1⟩:=vY (Xl r v) (List.range r.homes.length) (r.homes.length-1) (by rw[List.length_range];omega)
 refine⟨s,t,λx hx=>?_⟩
 obtain⟨a1,a2,a3,a4,a5⟩:=h1 x (by rw[List.length_range];exact hx)
 rw[List.length_range] at a1 a2
 rw[Sx a1] at a5
 exact⟨a2,a3,a4,a5⟩
def Uc (dn:Nat->Bool) (fr:Nat->Int):Nat->Int×Int
 |0=>(-1,0)
 |k+1=>if dn k=false/\((Uc dn fr k).1<0\/fr k<(Uc dn fr k).2) then ((k:Int),fr k) else Uc dn fr k
theorem Yo (dn:Nat->Bool) (fr:Nat->Int):∀k,((∀q,q<k->dn q=true)/\Uc dn fr k=(-1,0))\/∃b,b<k/\dn b=false/\Uc dn fr k=((b:Int),fr b)/\∀q,q<k->dn q=false->fr b<fr q\/(fr b=fr q/\b<=q)
 |0=> .inl ⟨λq h=>absurd h (Nat.not_lt_zero q),rfl⟩
 |k+1=>by
  rw[Uc]
  by_cases hd:dn k=true
  rw[if_neg (by rw[hd];simp)]
  rcases Yo dn fr k with⟨h1,h2⟩|⟨b,h1,h2,h3,h4⟩
  exact .inl ⟨λq hq=>(Nat.lt_or_ge q k).elim (h1 q) λg=>by obtain rfl:q=k:=(ω);exact hd,h2⟩
  exact .inr ⟨b,ω,h2,h3,λq hq hn=>(Nat.lt_or_ge q k).elim (λg=>h4 q g hn) λg=>by obtain rfl:q=k:=(ω);rw[hd] at hn;cases hn⟩
  have hd':dn k=false:=by simpa using hd
  rcases Yo dn fr k with⟨h1,h2⟩|⟨b,h1,h2,h3,h4⟩
  rw[h2,if_pos ⟨hd',.inl δ⟩]
  exact .inr ⟨k,ω,hd',rfl,λq hq hn=>(Nat.lt_or_ge q k).elim (λg=>by rw[h1 q g] at hn;cases hn) λg=>by obtain rfl:q=k:=(ω);exact .inr ⟨rfl,Nat.le_refl _⟩⟩
  rw[h3]
  by_cases hf:fr k<fr b
  rw[if_pos ⟨hd',.inr hf⟩]
  exact .inr ⟨k,ω,hd',rfl,λq hq hn=>(Nat.lt_or_ge q k).elim (λg=>by have:=h4 q g hn;exact .inl ω) λg=>by obtain rfl:q=k:=(ω);exact .inr ⟨rfl,Nat.le_refl _⟩⟩
  rw[if_neg (by
   rintro⟨_,g|g⟩;· (have:(b:Int)<0:=g;omega)
   exact hf g)]
  exact .inr ⟨b,ω,h2,rfl,λq hq hn=>(Nat.lt_or_ge q k).elim (λg=>h4 q g hn) λg=>by obtain rfl:q=k:=(ω);omega⟩
theorem Py {dn:Nat->Bool} {fr:Nat->Int} {k:Nat} {b f:Int} (h:Uc dn fr k=(b,f)) (h1:dn k=false) (h2:b<0\/fr k<f):Uc dn fr (k+1)=((k:Int),fr k):=by
 rw[Uc,h,if_pos ⟨h1,h2⟩]
theorem Px {dn:Nat->Bool} {fr:Nat->Int} {k:Nat} {b f:Int} (h:Uc dn fr k=(b,f)) (h1:dn k=true\/¬(b<0\/fr k<f)):Uc dn fr (k+1)=(b,f):=by
 rw[Uc,h,if_neg (by
  rintro⟨g1,g2⟩;rcases h1 with h1|h1;· (rw[g1] at h1;cases h1)
  exact h1 g2)]
noncomputable def Dn (r:Rv) (v:V3) (y k:Nat):Bool:=bP (∃j,j<y/\(Aw r v).getD j 0=k)
theorem Abj (r:Rv) (v:V3) (k:Nat):Dn r v 0 k=false:=As λ⟨j,h,_⟩=>absurd h (Nat.not_lt_zero j)
theorem Xv (r:Rv) (v:V3) (y k:Nat):Dn r v (y+1) k=if k=(Aw r v).getD y 0 then true else Dn r v y k:=by
 split
 rename_i h;exact Di ⟨y,ω,h.symm⟩
 rename_i h
 refine uA ⟨λ⟨j,h1,h2⟩=>⟨j,?_,h2⟩,λ⟨j,h1,h2⟩=>⟨j,ω,h2⟩⟩
 rcases Nat.lt_or_ge j y with g|g
 exact g
 obtain rfl:j=y:=by omega
 exact absurd h2.symm h
theorem lG (r:Rv) (v:V3) {y:Nat} (hy:y<r.homes.length):Uc (Dn r v y) (Mz r v) r.homes.length=((((Aw r v).getD y 0:Nat):Int),Mz r v ((Aw r v).getD y 0)):=by
 obtain⟨s,t,hst⟩:=Afa r v ω
 have ho:=Lw r v hy
 have nd:Dn r v y ((Aw r v).getD y 0)=false:=As λ⟨j,h1,h2⟩=>by
  have e1:=(hst j ω).2.2.1
  have e2:=(hst y hy).2.2.1
  rw[(hst j ω).2.2.2,(hst y hy).2.2.2] at h2
  rw[h2] at e1
  omega
 rcases Yo (Dn r v y) (Mz r v) r.homes.length with⟨h1,_⟩|⟨b,h1,h2,h3,h4⟩
 rw[h1 _ ho] at nd;cases nd
 have hx:=hst b h1
 have ex:(Aw r v).getD (t b) 0=b:=by rw[(hst (t b) hx.1).2.2.2,hx.2.1]
 have hyx:¬t b<y:=λg=>by
  have:=Di (p:=∃j,j<y/\(Aw r v).getD j 0=b) ⟨t b,g,ex⟩
  rw[show bP (∃j,j<y/\(Aw r v).getD j 0=b)=Dn r v y b from rfl,h2] at this
  cases this
 have e:b=(Aw r v).getD y 0:=by
  by_cases e:t b=y
  rw[<-ex,e]
  have g1:=AeZ r v (a:=y) (b:=t b) ω hx.1
  have g2:=h4 _ ho nd
  rw[ex] at g1
  simp only[Xl,decide_eq_false_iff_not] at g1
  omega
 rw[h3,e]
end Go.Proofs.YtldnjomacnjhnaaGreat