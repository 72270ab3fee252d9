/- Part 21 of the proof of SH.row_holds, joined by program: no condition beyond the row's own. -/
import Derived.Test.YtldnjomacnjhnaaGreatH20
set_option maxRecDepth 100000
set_option maxHeartbeats 40000000
namespace Go.Proofs.YtldnjomacnjhnaaGreat
open Go.Proofs.Tryz
open Go.RowKit
abbrev Zd (l:List Int) (i:Nat):Int:=l.getD i 0
def Um (g:Nat->Int) (k i:Nat):Int:=if i<k then g i else 0
theorem yQ (g:Nat->Int) (k i:Nat):(if i=k then WA (g k) else WA (Um g k i))=WA (Um g (k+1) i):=by
 unfold Um
 by_cases h:i=k
 subst h;rw[if_pos rfl,if_pos (Nat.lt_succ_self _)]
 rw[if_neg h]
 by_cases h2:i<k
 rw[if_pos h2,if_pos ω]
 rw[if_neg h2,if_neg ω]
theorem yR (g:Nat->Int) (i:Nat):WA 0=WA (Um g 0 i):=by unfold Um;rw[if_neg (Nat.not_lt_zero i)]
theorem AbN {g:Nat->Int} {k i:Nat} (h:i<k):WA (Um g k i)=WA (g i):=by unfold Um;rw[if_pos h]
theorem Wz (l:List Int) (hl:0<l.length) (hn:l.length<=25) (hc:∀i,Cm (l.getD i 0)):AF Tryz.prog 157 [Br l] (.tup [Bf (Fw (Zd l) l.length) (Zd l),.int 0]):=by
 have hle:=Hu (Zd l) l.length
 refine Cr func157 rfl λB D0 hA0=>?_
 refine Ae 20 (dN [4,7,8,9] (λm s=>∃i,i<=l.length/\m=l.length-i/\True/\((i=0/\s=⟨[(4,.lit (.slice none 0 0)),(7,Br l),(8,.int (l.length:Int)),(9,.int ((0:Nat):Int))],[],0,25⟩)\/(0<i/\s=⟨[(4,.osl 9 2 i),(7,Br l),(8,.int (l.length:Int)),(9,.int (i:Int))],[(9,.vec 70 2 i (λxi=>WA (Zd l xi)))],10,25⟩))) l.length ⟨0,Nat.zero_le _,rfl,trivial,.inl ⟨rfl,κ⟩⟩ ?_)
 rintro _ _ ⟨i,hin,rfl,hFi,(⟨hi0,rfl⟩|⟨hi0,rfl⟩)⟩ J1 hJ1
 ·
  subst hi0
  refine Ae 6 (Gi 10 (((0:Nat):Int)<(l.length:Int)) (λhx1 hx1d=>?_) (λhx1 hx1d=>?_))
  ·
   exact Ae 7 (Fl 0 l.length (Ae 7 (Cf (Gx ((l).getD 0 0) (hc _).1 (hc _).2) (Bk (.osl 0 2 1) (.new 0 (.vec 70 2 1 (λ_=> .lit (Ak ((l).getD 0 0))))) (Aj 202 1 #[(0,(.tmp 15))] κ underlying202 2 sizeOf70 _ zeroValue70 κ β β β 0 [.bool (decide ((l).getD 0 0<0)),.lit (.string (Dx ((l).getD 0 0).natAbs))] κ (λ_=> .lit (Ak ((l).getD 0 0))) κ) (Bk (.osl 1 2 1) (.newr 0 1 (.vec 70 2 1 (λxi=>WA (Zd l xi)))) (Ci (.tmp 13) (.tmp 16) 202 κ underlying202 2 24 (.agg #[.bool false,.string ⟨#[]⟩]) κ κ δ 1 ω (λ_=> .lit (Ak ((l).getD 0 0))) (λxi=>WA (Zd l xi)) 1 (λi hi=>by(obtain rfl:i=0:=(ω));rfl) (λi hi j hj=>match j,hj with|0,_=>rfl|1,_=>rfl|_+2,h=>absurd h ω) (by unfold maxLen;omega) ω κ 0 70 κ κ) (Ae 5 (Ep (((0:Nat):Int)+1) ((0+1:Nat):Int) (Ae 2 (Ha [4,7,8,9] [(1,9)] 10 0 hA0 [(70,2,1,(λ_=> .lit (Ak ((l).getD 0 0)))),(70,2,1,(λxi=>WA (Zd l xi)))] ⟨(Gl λ_ _=>rfl),(Gl λ_ _=>rfl),trivial⟩ (hJ1 _ _ (by omega:l.length-(0+1)<l.length-0) ⟨0+1,ω,rfl,trivial,.inr ⟨Nat.succ_pos _,rfl⟩⟩))))))))))
  ·
   refine Ae 6 ?_
   exfalso;omega
 ·
  refine Ae 6 (Gi 10 ((i:Int)<(l.length:Int)) (λhx2 hx2d=>?_) (λhx2 hx2d=>?_))
  ·
   exact Ae 7 (Fl i l.length (Ae 7 (Cf (Gx ((l).getD i 0) (hc _).1 (hc _).2) (Bk (.osl 10 2 1) (.new 10 (.vec 70 2 1 (λ_=> .lit (Ak ((l).getD i 0))))) (Aj 202 1 #[(0,(.tmp 15))] κ underlying202 2 sizeOf70 _ zeroValue70 κ β β β 10 [.bool (decide ((l).getD i 0<0)),.lit (.string (Dx ((l).getD i 0).natAbs))] κ (λ_=> .lit (Ak ((l).getD i 0))) κ) (Bk (.osl 11 2 (i+1)) (.grow2 9 10 11 (.vec 70 2 (i+1) (λxi=>WA (Zd l xi)))) (Ce (.tmp 13) (.tmp 16) 202 κ underlying202 2 24 (.agg #[.bool false,.string ⟨#[]⟩]) κ κ δ i 1 ω (λxi=>WA (Zd l xi)) (λ_=> .lit (Ak ((l).getD i 0))) (λxi=>WA (Zd l xi)) 11 ω (by unfold maxLen;omega) (λi hi=>rfl) (λi hi=>by(obtain rfl:i=0:=(ω));rfl) (λi hi j hj=>match j,hj with|0,_=>rfl|1,_=>rfl|_+2,h=>absurd h ω) 9 κ κ 10 70 κ κ) (Ae 5 (Ep ((i:Int)+1) ((i+1:Nat):Int) (Ae 2 (Ha [4,7,8,9] [(11,9)] 10 0 hA0 [(70,2,1,(λ_=> .lit (Ak ((l).getD i 0)))),(70,2,i+1,(λxi=>WA (Zd l xi)))] ⟨(Gl λ_ _=>rfl),(Gl λ_ _=>rfl),trivial⟩ (hJ1 _ _ (by omega:l.length-(i+1)<l.length-i) ⟨i+1,ω,rfl,trivial,.inr ⟨Nat.succ_pos _,rfl⟩⟩))))))))))
  ·
   refine Ae 6 ?_
   have hie:i=l.length:=by omega
   subst hie
   exact Acr 9 [4] 70 2 l.length (λxi=>WA (Zd l xi)) (Gl λ_ _=>rfl) (Ae 3 (Cf (iA l.length (Zd l) ω (λi _=>Ic (hc i))) (Ae 11 (Gv 23 (decide ((25:Int)<(Fw (Zd l) l.length:Int))) false (decide_eq_false ω) (Ae 11 (Gd))))))
theorem aB (n:Nat) (c:Nat->Int) (y:Int) (hn:n<=25) (hc:∀i,i<n->Fp (c i)) (hl:n=0\/c (n-1)≠0) (hy:Fp y) (hp:∀i,i<n->Fp (c i*y)):AF Tryz.prog 159 [Bf n c,WA y] (.tup [Bf (Fw (λi=>c i*y) n) (λi=>c i*y),.int 0]):=by
 refine Cr func159 rfl λB D0 hA0=>?_
 refine Ae 11 (Cf (Pn n c hn hc hl) (Ae 3 (Cf (Jw _ hy) (Ae 16 (Bk (.osl 2 2 n) (.new 2 (.vec 70 2 n (λ_=> .lit (Ak 0)))) (Tm 202 (.tmp 19) (.tmp 19) κ underlying202 2 24 (.agg #[.bool false,.string ⟨#[]⟩]) κ κ δ (n:Int) n ω κ κ ω ω ω 2 (.lit (Ak 0)) κ) (Ae 12 (Ww 2 70 2 n (λ_=> .lit (Ak 0)) (λxi=>WA (Um (λi=>c i*y) 0 xi)) (λx9 hx9=>yR _ _) (Pe [3,6,7,21,22,23] n (λi=>True) (λi=>⟨[(3,.ptr 0 0),(6,.ptr 1 0),(7,.osl 2 2 n),(21,Bf n c),(22,.int (n:Int)),(23,.int (i:Int))],[(0,.box 70 [.bool (decide (y<0)),.lit (.string (Dx (y).natAbs))]),(1,.box 241 [.int 0]),(2,.vec 70 2 n (λxi=>WA (Um (λi=>c i*y) i xi)))],3,39⟩) trivial (λi hin hFi J1 hJ1=>?_)))))))))
 refine Ae 6 (Gi 24 ((i:Int)<(n:Int)) (λhx1 hx1d=>?_) (λhx1 hx1d=>?_))
 ·
  exact Ae 8 (Fl i n (Ae 11 (Bk (.lit (Ak (c i*y))) (.set 1 (.box 241 [.int 0])) (Iv 174 #[.tmp 6,.tmp 30,.tmp 31] #[241,70,70] κ (λ_ _=>by kernel_rfl) 1 241 [.int .i64 0] κ [.lit (Ak (c i)),.lit (Ak y)] κ κ (Ak (c i*y)) (Uu (c i) y (hc _ ω) hy (hp _ ω))) (Fl i n (Bk (.lit Go.undef) (.set 2 (.vec 70 2 n (λxi=>if xi=i then .lit (Ak (c i*y)) else (λxi=>WA (Um (λi=>c i*y) i xi)) xi))) (Ga 70 (.tmp 33) (.tmp 32) κ 2 sizeOf70 2 i κ 70 n (λxi=>WA (Um (λi=>c i*y) i xi)) κ ω κ κ κ (.lit (Ak (c i*y))) κ) (Ae 4 (Ep ((i:Int)+1) ((i+1:Nat):Int) (Ae 2 (Ww 2 70 2 n (λxi=>if xi=i then .lit (Ak (c i*y)) else (λxi=>WA (Um (λi=>c i*y) i xi)) xi) (λxi=>WA (Um (λi=>c i*y) (i+1) xi)) (λx9 hx9=>yQ (λi=>c i*y) i _) (Ha [3,6,7,21,22,23] [(0,0),(1,1),(2,2)] 3 0 hA0 [(70,2,n,(λxi=>WA (Um (λi=>c i*y) (i+1) xi)))] ⟨(Gl λ_ _=>rfl),trivial⟩ (hJ1 ω trivial)))))))))))
 ·
  refine Ae 6 (Ww 2 70 2 n (λxi=>WA (Um (λi=>c i*y) i xi)) (λxi=>WA ((λi=>c i*y) xi)) (λx9 hx9=>AbN ω) (Acr 2 [7] 70 2 n (λxi=>WA ((λi=>c i*y) xi)) (Gl λ_ _=>rfl) (Ae 3 (Yx 3 func176 (λ_ hD2=>?_)))))
  exact Ae 23 (Cf (iA n (λi=>c i*y) ω hp) (Ae 5 (sS (Ae 7 (Gd)))))
def inn (a b:Int) (c:Nat->Int) (t k:Nat):Int:=if k<t then (if k=0 then 0 else c (k-1)*b)+c k*a else if k=t/\0<t then c (t-1)*b else 0
theorem Abq (a b:Int) (c:Nat->Int) (k:Nat):WA 0=WA (inn a b c 0 k):=by
 unfold inn
 rw[if_neg (Nat.not_lt_zero k),if_neg ω]
theorem Abp (a b:Int) (c:Nat->Int) (t k:Nat):(if k=t+1 then WA (c t*b) else if k=t then WA (inn a b c t t+c t*a) else WA (inn a b c t k))=WA (inn a b c (t+1) k):=by
 by_cases h1:k=t+1
 rw[if_pos h1]
 unfold inn
 rw[if_neg ω,if_pos ω,Nat.add_sub_cancel]
 rw[if_neg h1]
 by_cases h2:k=t
 subst h2
 rw[if_pos rfl]
 unfold inn
 rw[if_neg (Nat.lt_irrefl k),if_pos (Nat.lt_succ_self k)]
 by_cases h3:k=0
 subst h3;rw[if_neg ω,if_pos rfl]
 rw[if_pos ω,if_neg h3]
 rw[if_neg h2]
 by_cases h3:k<t
 rw[inn,inn,if_pos h3,if_pos (show k<t+1 by omega)]
 rw[inn,inn,if_neg h3,if_neg ω,if_neg ω,if_neg ω]
def Mg (d:Int):Nat->Int
 |0=>1
 |k+1=>Mg d k*d
theorem Zp (d:Int):∀k,Mg d k=d^k
 |0=>by rw[Int.pow_zero];rfl
 |k+1=>by rw[Mg,Zp d k,Int.pow_succ]
def cN (p:Nat->Int) (m:Nat) (a b d:Int):Nat->Nat->Int
 |0,_=>p (m-1)
 |j+1,k=>inn a b (cN p m a b d j) (j+1) k+(if k=0 then p (m-2-j)*Mg d (j+1) else 0)
theorem AcS (p:Nat->Int) (m:Nat) (a b d:Int) (j k:Nat) {q:Nat} (hq:q=m-2-j):(if k=0 then WA (inn a b (cN p m a b d j) (j+1) 0+p q*Mg d (j+1)) else WA (inn a b (cN p m a b d j) (j+1) k))=WA (cN p m a b d (j+1) k):=by
 subst hq
 rw[cN]
 by_cases h:k=0
 subst h;rw[if_pos rfl,if_pos rfl]
 rw[if_neg h,if_neg h,Int.add_zero]
theorem Abo {a b:Int} {c:Nat->Int} {e:Nat} (ha:Cm a) (hb:Cm b) (hc:∀k,Bd e (c k)) (t k:Nat):Bd (e+64) (inn a b c t k):=by
 have h1:∀k,Bd (e+63) (c k*a):=λk=>(hc k).mul (Bd.int ha.1 ha.2)
 have h2:∀k,Bd (e+63) (c k*b):=λk=>(hc k).mul (Bd.int hb.1 hb.2)
 unfold inn
 split
 refine Bd.add (e:=e+63) ?_ (h1 k)
 split
 exact Bd.zero _
 exact h2 _
 split
 exact(h2 _).mono ω
 exact Bd.zero _
theorem mG {p:Nat->Int} {m:Nat} {a b d:Int} (hp:∀i,Cm (p i)) (ha:Cm a) (hb:Cm b) (hd:Cm d):∀j k,Bd (70*j+63) (cN p m a b d j k)
 |0,_=>Bd.int (hp _).1 (hp _).2
 |j+1,k=>by
  have h1:=Abo ha hb (mG (m:=m) hp ha hb hd j) (j+1) k
  rw[cN]
  refine(Bd.add (e:=70*j+63+64) (h1.mono (Nat.le_refl _)) ?_).mono ω
  split
  rw[Zp];exact((Bd.int (hp _).1 (hp _).2).mul ((Bd.int hd.1 hd.2).pow (j+1))).mono ω
  exact Bd.zero _
def c3 (a b d:Int):Nat->Int
 |0=>a
 |1=>b
 |_=>d
theorem Aeh {a b d:Int} (ha:Cm a) (hb:Cm b) (hd:Cm d):∀i,Cm (c3 a b d i)
 |0=>ha
 |1=>hb
 |_+2=>hd
theorem AbY {c:Nat->Int} {n:Nat} (h:∀i,Cm (c i)):0<=Er c n/\Er c n<=64:=oW (k:=64) n λi _=>by
 have:=(Bd.int (h i).1 (h i).2).le
 exact Gk.2 ω
theorem lC (k0:Nat) (p:Nat->Int) (a b d:Int) (hm:k0<=5) (hp:∀i,Cm (p i)) (hl:p k0≠0) (ha:Cm a) (hb:Cm b) (hd:Cm d) (hdp:0<d):AF Tryz.prog 158 [Bf (k0+1) p,WA a,WA b,WA d] (.tup [Bf (Fw (cN p (k0+1) a b d k0) (k0+1)) (cN p (k0+1) a b d k0),.int 0]):=by
 have hsp:=AbY (n:=k0+1) hp
 have hs3:=AbY (n:=3) (Aeh ha hb hd)
 have hml:0<=((k0+1-1:Nat):Int)*(Er (c3 a b d) 3+1)/\((k0+1-1:Nat):Int)*(Er (c3 a b d) 3+1)<=325:=⟨Int.mul_nonneg ω ω,Int.le_trans (Int.mul_le_mul (show ((k0+1-1:Nat):Int)<=5 by omega) (show Er (c3 a b d) 3+1<=65 by omega) ω ω) δ⟩
 have fc:∀j k,j<=6->Fp (cN p (k0+1) a b d j k):=λj k hj=>(mG hp ha hb hd j k).fit ω
 have fi:∀j t k,j<=6->Bd 600 (inn a b (cN p (k0+1) a b d j) t k):=λj t k hj=>(Abo ha hb (mG hp ha hb hd j) t k).mono ω
 have fm:∀j k y,j<=6->Cm y->Bd 600 (cN p (k0+1) a b d j k*y):=λj k y hj hy=>((mG hp ha hb hd j k).mul (Bd.int hy.1 hy.2)).mono ω
 have fd:∀j,j<=6->Bd 500 (Mg d j):=λj hj=>by rw[Zp];exact((Bd.int hd.1 hd.2).pow j).mono ω
 have fp:∀i j,j<=6->Bd 600 (p i*Mg d j):=λi j hj=>((Bd.int (hp i).1 (hp i).2).mul (fd j hj)).mono ω
 refine Cr func158 rfl λB D0 hA0=>?_
 refine Ae 13 (Cf (Pn (k0+1) p ω (λi _=>Ic (hp i)) (.inr hl)) (Ae 3 (Cf (Jw _ (Ic ha)) (Ae 4 (Cf (Jw _ (Ic hb)) (Ae 4 (Cf (Jw _ (Ic hd)) (Ae 11 (Cf (Uz d (Ic hd)) (Ae 3 (Gv 37 (decide (d.sign<=0)) false (decide_eq_false (by rw[Int.sign_eq_one_of_pos hdp];decide)) (Ae 11 (Gv 40 (decide (((k0+1:Nat):Int)=0)) false (decide_eq_false ω) (Ae 5 (Jb [(1,_,.none),(4,.int ((k0+1-1:Nat):Int),.none),(8,.osl 3 2 3,(.new 3 (.vec 70 2 3 (λxi=>WA (c3 a b d xi))))),(9,.int (Er (c3 a b d) 3),(.read 3)),(10,.int (Er (c3 a b d) 3+1),.none),(11,.int (((k0+1-1:Nat):Int)*(Er (c3 a b d) 3+1)),.none),(12,.int (Er p (k0+1)+((k0+1-1:Nat):Int)*(Er (c3 a b d) 3+1)),.none),(13,.int (Er p (k0+1)+((k0+1-1:Nat):Int)*(Er (c3 a b d) 3+1)+8),.none),(14,.bool false,.none)] [0,5,6,7,55] ⟨El (tD (k0+1) p ω (λi _=>Ic (hp i))),Au (Bx (v:= .int .i64 (IntKind.wrap .i64 (((k0+1:Nat):Int)-1))) (v':= .int .i64 ((k0+1-1:Nat):Int)) _ κ rfl κ (λw=>by kernel_rfl) (congrArg (Value.int .i64) ((IntWalk.i64_in _ ω).trans ω))),Au (Aj 201 3 #[(0,(.tmp 46)),(1,(.tmp 47)),(2,(.tmp 48))] κ underlying201 2 sizeOf70 _ zeroValue70 κ β β β 3 [.bool (decide (a<0)),.lit (.string (Dx (a).natAbs)),.bool (decide (b<0)),.lit (.string (Dx (b).natAbs)),.bool (decide (d<0)),.lit (.string (Dx (d).natAbs))] κ (λxi=>WA (c3 a b d xi)) κ),Au (fQ 173 #[.tmp 49] #[201] κ (λ_ _=>by kernel_rfl) 3 (.vec 70 2 3 (λxi=>WA (c3 a b d xi))) κ (λ_ _ _ _ h=>by cases h;exact(Gl λ_ _=>rfl)) [.osl 3 2 3] κ [.sl 2 3 (λxi=>WA (c3 a b d xi))] κ (.int .i64 (Er (c3 a b d) 3)) (tD 3 (c3 a b d) ω (λi _=>Ic (Aeh ha hb hd i)))),Au (Bx (v:= .int .i64 (IntKind.wrap .i64 (Er (c3 a b d) 3+1))) (v':= .int .i64 (Er (c3 a b d) 3+1)) _ κ rfl κ (λw=>by kernel_rfl) (congrArg (Value.int .i64) ((IntWalk.i64_in _ ω).trans ω))),Au (Bx (v:= .int .i64 (IntKind.wrap .i64 (((k0+1-1:Nat):Int)*(Er (c3 a b d) 3+1)))) (v':= .int .i64 (((k0+1-1:Nat):Int)*(Er (c3 a b d) 3+1))) _ κ rfl κ (λw=>by kernel_rfl) (congrArg (Value.int .i64) ((IntWalk.i64_in _ ω).trans ω))),Au (Bx (v:= .int .i64 (IntKind.wrap .i64 (Er p (k0+1)+((k0+1-1:Nat):Int)*(Er (c3 a b d) 3+1)))) (v':= .int .i64 (Er p (k0+1)+((k0+1-1:Nat):Int)*(Er (c3 a b d) 3+1))) _ κ rfl κ (λw=>by kernel_rfl) (congrArg (Value.int .i64) ((IntWalk.i64_in _ ω).trans ω))),Au (Bx (v:= .int .i64 (IntKind.wrap .i64 (Er p (k0+1)+((k0+1-1:Nat):Int)*(Er (c3 a b d) 3+1)+8))) (v':= .int .i64 (Er p (k0+1)+((k0+1-1:Nat):Int)*(Er (c3 a b d) 3+1)+8)) _ κ rfl κ (λw=>by kernel_rfl) (congrArg (Value.int .i64) ((IntWalk.i64_in _ ω).trans ω))),kbD (b:=decide ((65536:Int)<Er p (k0+1)+((k0+1-1:Nat):Int)*(Er (c3 a b d) 3+1)+8)) (decide_eq_false ω),trivial⟩ (Ae 10 (Jb [(3,.int ((k0+1-1:Nat):Int),.none),(4,Hr (Bf (k0+1) p) (k0+1-1),.none),(6,.osl 5 2 1,(.new 5 (.vec 70 2 1 (λ_=> .lit (Ak (p (k0+1-1))))))),(7,_,.none)] [0,5,6,7,10,11,12] ⟨Au (Bx (v:= .int .i64 (IntKind.wrap .i64 (((k0+1:Nat):Int)-1))) (v':= .int .i64 ((k0+1-1:Nat):Int)) _ κ rfl κ (λw=>by kernel_rfl) (congrArg (Value.int .i64) ((IntWalk.i64_in _ ω).trans ω))),Tg (k0+1-1) (k0+1),Au (Aj 202 1 #[(0,(.tmp 61))] κ underlying202 2 sizeOf70 _ zeroValue70 κ β β β 5 [.bool (decide (p (k0+1-1)<0)),.lit (.string (Dx (p (k0+1-1)).natAbs))] κ (λ_=> .lit (Ak (p (k0+1-1)))) κ),El (Gx 1 δ δ),trivial⟩ (Ae 6 (Ep (((k0+1:Nat):Int)-2) (((k0-0:Nat):Int)-1) (Ae 4 (Pe [0,5,6,7,10,11,12,13] k0 (λj=>True) (λj=>⟨[(0,Bf (k0+1) p),(5,.ptr 0 0),(6,.ptr 1 0),(7,.ptr 2 0),(10,.ptr 4 0),(11,.osl 5 2 (j+1)),(12,.ptr 6 0),(13,.int (((k0-j:Nat):Int)-1))],[(0,.box 70 [.bool (decide (a<0)),.lit (.string (Dx (a).natAbs))]),(1,.box 70 [.bool (decide (b<0)),.lit (.string (Dx (b).natAbs))]),(2,.box 70 [.bool (decide (d<0)),.lit (.string (Dx (d).natAbs))]),(3,.vec 70 2 3 (λxi=>WA (c3 a b d xi))),(4,.box 241 [.int 0]),(5,.vec 70 2 (j+1) (λxi=>WA (cN p (k0+1) a b d j xi))),(6,.box 70 [.bool (decide (Mg d j<0)),.lit (.string (Dx (Mg d j).natAbs))])],7,121⟩) trivial (λj hjn hFj J1 hJ1=>?_))))))))))))))))))))))
 refine Ae 7 (Gi 68 ((0:Int)<=((k0-j:Nat):Int)-1) (λhx1 hx1d=>?_) (λhx1 hx1d=>?_))
 ·
  refine Ae 9 (Bk (.lit (Ak (Mg d (j+1)))) (.set 4 (.box 241 [.int 0])) (Iv 174 #[.tmp 10,.tmp 71,.tmp 72] #[241,70,70] κ (λ_ _=>by kernel_rfl) 4 241 [.int .i64 0] κ [.lit (Ak (Mg d j)),.lit (Ak d)] κ κ (Ak (Mg d (j+1))) (Uu (Mg d j) d ((fd j ω).fit ω) (Ic hd) ((fd (j+1) ω).fit ω))) (Ae 7 (Ep (((j+1:Nat):Int)+1) ((j+1+1:Nat):Int) (Bk (.osl 7 2 (j+1+1)) (.new 7 (.vec 70 2 (j+1+1) (λ_=> .lit (Ak 0)))) (Tm 202 (.tmp 76) (.tmp 76) κ underlying202 2 24 (.agg #[.bool false,.string ⟨#[]⟩]) κ κ δ ((j+1+1:Nat):Int) (j+1+1) ω κ κ ω ω ω 7 (.lit (Ak 0)) κ) (Ae 12 (Ww 7 70 2 (j+1+1) (λ_=> .lit (Ak 0)) (λxi=>WA (inn a b (cN p (k0+1) a b d j) 0 xi)) (λx9 hx9=>Abq _ _ _ _) (Pe [0,5,6,7,10,12,13,14,78,79,80] (j+1) (λt=>True) (λt=>⟨[(0,Bf (k0+1) p),(5,.ptr 0 0),(6,.ptr 1 0),(7,.ptr 2 0),(10,.ptr 4 0),(12,.ptr 6 0),(13,.int (((k0-j:Nat):Int)-1)),(14,.osl 7 2 (j+1+1)),(78,.osl 5 2 (j+1)),(79,.int ((j+1:Nat):Int)),(80,.int (t:Int))],[(0,.box 70 [.bool (decide (a<0)),.lit (.string (Dx (a).natAbs))]),(1,.box 70 [.bool (decide (b<0)),.lit (.string (Dx (b).natAbs))]),(2,.box 70 [.bool (decide (d<0)),.lit (.string (Dx (d).natAbs))]),(3,.vec 70 2 3 (λxi=>WA (c3 a b d xi))),(4,.box 241 [.int 0]),(5,.vec 70 2 (j+1) (λxi=>WA (cN p (k0+1) a b d j xi))),(6,.box 70 [.bool (decide (Mg d (j+1)<0)),.lit (.string (Dx (Mg d (j+1)).natAbs))]),(7,.vec 70 2 (j+1+1) (λxi=>WA (inn a b (cN p (k0+1) a b d j) t xi)))],8,121⟩) trivial (λt htn hFt J2 hJ2=>?_))))))))
  refine Ae 6 (Gi 81 ((t:Int)<((j+1:Nat):Int)) (λhx2 hx2d=>?_) (λhx2 hx2d=>?_))
  ·
   exact Ae 8 (Fl t (j+1) (Bk (.lit (Ak (cN p (k0+1) a b d j t))) (.read 5) (Pz 70 (.tmp 83) κ isAgg70 2 sizeOf70 5 t κ 70 (j+1) (λxi=>WA (cN p (k0+1) a b d j xi)) κ ω) (Ae 6 (Jb [(4,Hr (.osl 7 2 (j+1+1)) t,.none),(5,.lit (Ak (inn a b (cN p (k0+1) a b d j) t t)),(.read 7)),(8,.lit (Ak (cN p (k0+1) a b d j t*a)),(.set 4 (.box 241 [.int 0]))),(9,.lit (Ak (inn a b (cN p (k0+1) a b d j) t t+cN p (k0+1) a b d j t*a)),(.set 4 (.box 241 [.int 0]))),(10,Hr (.osl 7 2 (j+1+1)) t,.none),(11,.lit Go.undef,(.set 7 (.vec 70 2 (j+1+1) (λxi=>if xi=t then .lit (Ak (inn a b (cN p (k0+1) a b d j) t t+cN p (k0+1) a b d j t*a)) else (λxi=>WA (inn a b (cN p (k0+1) a b d j) t xi)) xi))))] [0,5,6,7,10,12,13,14,15,16,78,79,80] ⟨Tg t (j+1+1),Au (Pz 70 (.tmp 89) κ isAgg70 2 sizeOf70 7 t κ 70 (j+1+1) (λxi=>WA (inn a b (cN p (k0+1) a b d j) t xi)) κ ω),Au (Iv 174 #[.tmp 10,.tmp 91,.tmp 92] #[241,70,70] κ (λ_ _=>by kernel_rfl) 4 241 [.int .i64 0] κ [.lit (Ak (cN p (k0+1) a b d j t)),.lit (Ak a)] κ κ (Ak (cN p (k0+1) a b d j t*a)) (Uu _ _ (fc j _ ω) (Ic ha) ((fm j _ _ ω ha).fit ω))),Au (Iv 175 #[.tmp 10,.tmp 90,.tmp 93] #[241,70,70] κ (λ_ _=>by kernel_rfl) 4 241 [.int .i64 0] κ [.lit (Ak (inn a b (cN p (k0+1) a b d j) t t)),.lit (Ak (cN p (k0+1) a b d j t*a))] κ κ (Ak (inn a b (cN p (k0+1) a b d j) t t+cN p (k0+1) a b d j t*a)) (sY _ _ ((fi j _ _ ω).fit ω) ((fm j _ _ ω ha).fit ω) (((fi j _ _ ω).add (fm j _ _ ω ha)).fit ω))),Tg t (j+1+1),Au (Ga 70 (.tmp 95) (.tmp 94) κ 2 sizeOf70 7 t κ 70 (j+1+1) (λxi=>WA (inn a b (cN p (k0+1) a b d j) t xi)) κ ω κ κ κ (.lit (Ak (inn a b (cN p (k0+1) a b d j) t t+cN p (k0+1) a b d j t*a))) κ),trivial⟩ (Ae 4 (Ep ((t:Int)+1) ((t+1:Nat):Int) (Ae 2 (Bk (.lit (Ak (cN p (k0+1) a b d j t*b))) (.set 4 (.box 241 [.int 0])) (Iv 174 #[.tmp 10,.tmp 99,.tmp 100] #[241,70,70] κ (λ_ _=>by kernel_rfl) 4 241 [.int .i64 0] κ [.lit (Ak (cN p (k0+1) a b d j t)),.lit (Ak b)] κ κ (Ak (cN p (k0+1) a b d j t*b)) (Uu _ _ (fc j _ ω) (Ic hb) ((fm j _ _ ω hb).fit ω))) (Fl (t+1) (j+1+1) (Bk (.lit Go.undef) (.set 7 (.vec 70 2 (j+1+1) (λxi=>if xi=t+1 then .lit (Ak (cN p (k0+1) a b d j t*b)) else (λxi=>if xi=t then .lit (Ak (inn a b (cN p (k0+1) a b d j) t t+cN p (k0+1) a b d j t*a)) else (λxi=>WA (inn a b (cN p (k0+1) a b d j) t xi)) xi) xi))) (Ga 70 (.tmp 102) (.tmp 101) κ 2 sizeOf70 7 (t+1) κ 70 (j+1+1) (λxi=>if xi=t then .lit (Ak (inn a b (cN p (k0+1) a b d j) t t+cN p (k0+1) a b d j t*a)) else (λxi=>WA (inn a b (cN p (k0+1) a b d j) t xi)) xi) κ ω κ κ κ (.lit (Ak (cN p (k0+1) a b d j t*b))) κ) (Ae 4 (Ep ((t:Int)+1) ((t+1:Nat):Int) (Ae 2 (Ww 7 70 2 (j+1+1) (λxi=>if xi=t+1 then .lit (Ak (cN p (k0+1) a b d j t*b)) else (λxi=>if xi=t then .lit (Ak (inn a b (cN p (k0+1) a b d j) t t+cN p (k0+1) a b d j t*a)) else (λxi=>WA (inn a b (cN p (k0+1) a b d j) t xi)) xi) xi) (λxi=>WA (inn a b (cN p (k0+1) a b d j) (t+1) xi)) (λx9 hx9=>Abp _ _ _ _ _) (Ha [0,5,6,7,10,12,13,14,78,79,80] [(0,0),(1,1),(2,2),(3,3),(4,4),(5,5),(6,6),(7,7)] 8 0 hA0 [(70,2,3,(λxi=>WA (c3 a b d xi))),(70,2,j+1,(λxi=>WA (cN p (k0+1) a b d j xi))),(70,2,j+1+1,(λxi=>WA (inn a b (cN p (k0+1) a b d j) (t+1) xi)))] ⟨(Gl λ_ _=>rfl),(Gl λ_ _=>rfl),(Gl λ_ _=>rfl),trivial⟩ (hJ2 ω trivial))))))))))))))))
  ·
   refine Ae 6 ?_
   have hte:t=j+1:=by omega
   subst hte
   exact Ae 1 (Jb [(2,Hr (.osl 7 2 (j+1+1)) 0,.none),(3,.lit (Ak (inn a b (cN p (k0+1) a b d j) (j+1) 0)),(.read 7)),(6,Hr (Bf (k0+1) p) (((k0-j:Nat):Int)-1).toNat,.none),(9,.lit (Ak (p ((((k0-j:Nat):Int)-1).toNat)*(Mg d (j+1)))),(.set 4 (.box 241 [.int 0]))),(10,.lit (Ak (inn a b (cN p (k0+1) a b d j) (j+1) 0+p ((((k0-j:Nat):Int)-1).toNat)*(Mg d (j+1)))),(.set 4 (.box 241 [.int 0]))),(11,Hr (.osl 7 2 (j+1+1)) 0,.none),(12,.lit Go.undef,(.set 7 (.vec 70 2 (j+1+1) (λxi=>if xi=0 then .lit (Ak (inn a b (cN p (k0+1) a b d j) (j+1) 0+p ((((k0-j:Nat):Int)-1).toNat)*(Mg d (j+1)))) else (λxi=>WA (inn a b (cN p (k0+1) a b d j) (j+1) xi)) xi))))] [0,5,6,7,10,12,13,14] ⟨Tg 0 (j+1+1),Au (Pz 70 (.tmp 106) κ isAgg70 2 sizeOf70 7 0 κ 70 (j+1+1) (λxi=>WA (inn a b (cN p (k0+1) a b d j) (j+1) xi)) κ ω),Af6 (((k0-j:Nat):Int)-1) (((k0-j:Nat):Int)-1).toNat (k0+1),Au (Iv 174 #[.tmp 10,.tmp 111,.tmp 112] #[241,70,70] κ (λ_ _=>by kernel_rfl) 4 241 [.int .i64 0] κ [.lit (Ak (p ((((k0-j:Nat):Int)-1).toNat))),.lit (Ak (Mg d (j+1)))] κ κ (Ak (p ((((k0-j:Nat):Int)-1).toNat)*(Mg d (j+1)))) (Uu _ _ (Ic (hp _)) ((fd _ ω).fit ω) ((fp _ _ ω).fit ω))),Au (Iv 175 #[.tmp 10,.tmp 107,.tmp 113] #[241,70,70] κ (λ_ _=>by kernel_rfl) 4 241 [.int .i64 0] κ [.lit (Ak (inn a b (cN p (k0+1) a b d j) (j+1) 0)),.lit (Ak (p ((((k0-j:Nat):Int)-1).toNat)*(Mg d (j+1))))] κ κ (Ak (inn a b (cN p (k0+1) a b d j) (j+1) 0+p ((((k0-j:Nat):Int)-1).toNat)*(Mg d (j+1)))) (sY _ _ ((fi j _ _ ω).fit ω) ((fp _ _ ω).fit ω) (((fi j _ _ ω).add (fp _ _ ω)).fit ω))),Tg 0 (j+1+1),Au (Ga 70 (.tmp 115) (.tmp 114) κ 2 sizeOf70 7 0 κ 70 (j+1+1) (λxi=>WA (inn a b (cN p (k0+1) a b d j) (j+1) xi)) κ ω κ κ κ (.lit (Ak (inn a b (cN p (k0+1) a b d j) (j+1) 0+p ((((k0-j:Nat):Int)-1).toNat)*(Mg d (j+1))))) κ),trivial⟩ (Ae 9 (Ep (((k0-j:Nat):Int)-1-1) (((k0-(j+1):Nat):Int)-1) (Ae 2 (Ww 7 70 2 (j+1+1) (λxi=>if xi=0 then .lit (Ak (inn a b (cN p (k0+1) a b d j) (j+1) 0+p ((((k0-j:Nat):Int)-1).toNat)*(Mg d (j+1)))) else (λxi=>WA (inn a b (cN p (k0+1) a b d j) (j+1) xi)) xi) (λxi=>WA (cN p (k0+1) a b d (j+1) xi)) (λx9 hx9=>AcS _ _ _ _ _ _ _ ω) (Ha [0,5,6,7,10,11,12,13] [(0,0),(1,1),(2,2),(3,3),(4,4),(7,5),(6,6)] 7 0 hA0 [(70,2,3,(λxi=>WA (c3 a b d xi))),(70,2,j+1,(λxi=>WA (cN p (k0+1) a b d j xi))),(70,2,j+1+1,(λxi=>WA (cN p (k0+1) a b d (j+1) xi)))] ⟨(Gl λ_ _=>rfl),(Gl λ_ _=>rfl),(Gl λ_ _=>rfl),trivial⟩ (hJ1 ω trivial)))))))
 ·
  refine Ae 6 ?_
  have hje:j=k0:=by omega
  subst hje
  refine Acr 5 [11] 70 2 (j+1) (λxi=>WA (cN p (j+1) a b d j xi)) (Gl λ_ _=>rfl) (Ae 3 (Yx 7 func176 (λ_ hD3=>?_)))
  exact Ae 23 (Cf (iA (j+1) (cN p (j+1) a b d j) ω (λi _=>fc _ i ω)) (Ae 5 (sS (Ae 7 (Gd)))))
end Go.Proofs.YtldnjomacnjhnaaGreat
namespace Go.Proofs.YtldnjomacnjhnaaGreat
open Go.RowKit
def Pm (l m:List Nat):Prop:=m.length=l.length/\∃s t:Nat->Nat,∀x,x<l.length->s x<l.length/\t x<l.length/\s (t x)=x/\t (s x)=x/\m.getD x 0=l.getD (s x) 0
theorem Pm.refl (l:List Nat):Pm l l:=⟨rfl,id,id,λ_ h=>⟨h,h,rfl,rfl,rfl⟩⟩
theorem Pm.trans {l m k:List Nat} (h:Pm l m) (g:Pm m k):Pm l k:=by
 obtain⟨h0,s,t,h1⟩:=h
 obtain⟨g0,s',t',g1⟩:=g
 refine⟨g0.trans h0,λx=>s (s' x),λx=>t' (t x),λx hx=>?_⟩
 obtain⟨a1,a2,a3,a4,a5⟩:=g1 x ω
 obtain⟨b1,b2,b3,b4,b5⟩:=h1 x hx
 obtain⟨c1,c2,c3,c4,c5⟩:=g1 (t x) ω
 obtain⟨d1,d2,d3,d4,d5⟩:=h1 (s' x) ω
 exact⟨d1,(show t' (t x)<_ by omega),(show s (s' (t' (t x)))=x by rw[c3,b3]),(show t' (t (s (s' x)))=x by rw[d4,a4]),(show k.getD x 0=l.getD (s (s' x)) 0 by rw[a5,d5])⟩
theorem Pm.swap {l:List Nat} {j:Nat} (h:j+1<l.length):Pm l (Ob l j):=by
 let s:Nat->Nat:=λx=>if x=j then j+1 else if x=j+1 then j else x
 have hs:∀x,s (s x)=x:=λx=>by
  show (if (if x=j then j+1 else if x=j+1 then j else x)=j then j+1 else if (if x=j then j+1 else if x=j+1 then j else x)=j+1 then j else (if x=j then j+1 else if x=j+1 then j else x))=x
  by_cases h1:x=j
  · subst h1;rw[if_pos rfl,if_neg ω,if_pos rfl]
  ·
   by_cases h2:x=j+1
   · subst h2;rw[if_neg h1,if_pos rfl,if_pos rfl]
   · rw[if_neg h1,if_neg h2,if_neg h1,if_neg h2]
 have hl:∀x,x<l.length->s x<l.length:=λx hx=>by
  show (if x=j then j+1 else if x=j+1 then j else x)<_
  by_cases h1:x=j
  · rw[if_pos h1];exact h
  ·
   by_cases h2:x=j+1
   · rw[if_neg h1,if_pos h2];omega
   · rw[if_neg h1,if_neg h2];exact hx
 refine⟨Kh l j,s,s,λx hx=>⟨hl x hx,hl x hx,hs x,hs x,?_⟩⟩
 rw[Wo _ _ _ h]
 show _=l.getD (if x=j then j+1 else if x=j+1 then j else x) 0
 by_cases h1:x=j
 · rw[if_pos h1,if_pos h1]
 ·
  by_cases h2:x=j+1
  · rw[if_neg h1,if_neg h1,if_pos h2,if_pos h2]
  · rw[if_neg h1,if_neg h1,if_neg h2,if_neg h2]
theorem uK (lt:Nat->Nat->Bool):∀j l,j<l.length->Pm l (Tf lt l j)
 |0,l,_=>Pm.refl l
 |j+1,l,h=>by
  rw[Tf]
  split
  · exact(Pm.swap h).trans (uK lt j _ (by rw[Kh];omega))
  · exact Pm.refl l
theorem vL (lt:Nat->Nat->Bool) (l:List Nat):∀i,i<l.length->Pm l (Lu lt l i)
 |0,_=>Pm.refl l
 |i+1,h=>(vL lt l i ω).trans (uK lt (i+1) _ (by rw[Na];exact h))
theorem AeN (r:Rv) (v:V3) (h:0<r.homes.length):∃s t:Nat->Nat,∀x,x<r.homes.length->t x<r.homes.length/\s (t x)=x/\t (s x)=x/\(Ec r v).getD x 0=s x:=by
 obtain⟨_,s,t,h1⟩:=vL (bI r v) (List.range r.homes.length) (r.homes.length-1) (by rw[List.length_range];omega)
 refine⟨s,t,λx hx=>?_⟩
 obtain⟨a1,a2,a3,a4,a5⟩:=h1 x (by rw[List.length_range];exact hx)
 rw[List.length_range] at a1 a2
 rw[Ry a1] at a5
 exact⟨a2,a3,a4,a5⟩
end Go.Proofs.YtldnjomacnjhnaaGreat