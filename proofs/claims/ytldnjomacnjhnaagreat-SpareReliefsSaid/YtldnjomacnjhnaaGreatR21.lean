/- Part 21 of the proof of SR.row_holds, joined by program: no condition beyond the row's own. -/
import Derived.Test.YtldnjomacnjhnaaGreatR20
set_option maxRecDepth 100000
set_option maxHeartbeats 40000000
namespace Go.Proofs.YtldnjomacnjhnaaGreat
open Go.Proofs.Tryz
open Go.RowKit
abbrev Zc (l:List Int) (i:Nat):Int:=l.getD i 0
def Uk (g:Nat->Int) (k i:Nat):Int:=if i<k then g i else 0
theorem yF (g:Nat->Int) (k i:Nat):(if i=k then WA (g k) else WA (Uk g k i))=WA (Uk g (k+1) i):=by
 unfold Uk
 by_cases h:i=k
 subst h;rw[if_pos rfl,if_pos (Nat.lt_succ_self _)]
 rw[if_neg h]
 by_cases h2:i<k
 rw[if_pos h2,if_pos ω]
 rw[if_neg h2,if_neg ω]
theorem yG (g:Nat->Int) (i:Nat):WA 0=WA (Uk g 0 i):=by unfold Uk;rw[if_neg (Nat.not_lt_zero i)]
theorem Ab7 {g:Nat->Int} {k i:Nat} (h:i<k):WA (Uk g k i)=WA (g i):=by unfold Uk;rw[if_pos h]
theorem Wo (l:List Int) (hl:0<l.length) (hn:l.length<=25) (hc:∀i,Cv (l.getD i 0)):AF Tryz.prog 157 [Bn l] (.tup [Bg (Ft (Zc l) l.length) (Zc l),.int 0]):=by
 have hle:=Hu (Zc l) l.length
 refine Ch func157 rfl λB D0 hA0=>?_
 refine Ae 20 (Wn [4,7,8,9] (λm s=>∃i,i<=l.length/\m=l.length-i/\True/\((i=0/\s=⟨[(4,.lit (.slice none 0 0)),(7,Bn l),(8,.int (l.length:Int)),(9,.int ((0:Nat):Int))],[],0,25⟩)\/(0<i/\s=⟨[(4,.osl 9 2 i),(7,Bn l),(8,.int (l.length:Int)),(9,.int (i:Int))],[(9,.vec 70 2 i (λxi=>WA (Zc l xi)))],10,25⟩))) l.length ⟨0,Nat.zero_le _,rfl,trivial,.inl ⟨rfl,κ⟩⟩ ?_)
 rintro _ _ ⟨i,hin,rfl,hFi,(⟨hi0,rfl⟩|⟨hi0,rfl⟩)⟩ J1 hJ1
 ·
  subst hi0
  refine Ae 6 (Em 10 (((0:Nat):Int)<(l.length:Int)) (λhx1 hx1d=>?_) (λhx1 hx1d=>?_))
  ·
   exact Ae 7 (Gg 0 l.length (Ae 7 (Df (Gu ((l).getD 0 0) (hc _).1 (hc _).2) (Bx (.osl 0 2 1) (.new 0 (.vec 70 2 1 (λ_=> .lit (Al ((l).getD 0 0))))) (Ak 202 1 #[(0,(.tmp 15))] κ underlying202 2 sizeOf70 _ zeroValue70 κ β β β 0 [.bool (decide ((l).getD 0 0<0)),.lit (.string (Ef ((l).getD 0 0).natAbs))] κ (λ_=> .lit (Al ((l).getD 0 0))) κ) (Bx (.osl 1 2 1) (.newr 0 1 (.vec 70 2 1 (λxi=>WA (Zc l xi)))) (Cj (.tmp 13) (.tmp 16) 202 κ underlying202 2 24 (.agg #[.bool false,.string ⟨#[]⟩]) κ κ δ 1 ω (λ_=> .lit (Al ((l).getD 0 0))) (λxi=>WA (Zc l xi)) 1 (λi hi=>by(obtain rfl:i=0:=(ω));rfl) (λi hi j hj=>match j,hj with|0,_=>rfl|1,_=>rfl|_+2,h=>absurd h ω) (by unfold maxLen;omega) ω κ 0 70 κ κ) (Ae 5 (Dm (((0:Nat):Int)+1) ((0+1:Nat):Int) (Ae 2 (Fu [4,7,8,9] [(1,9)] 10 0 hA0 [(70,2,1,(λ_=> .lit (Al ((l).getD 0 0)))),(70,2,1,(λxi=>WA (Zc l xi)))] ⟨(Fp λ_ _=>rfl),(Fp λ_ _=>rfl),trivial⟩ (hJ1 _ _ (by omega:l.length-(0+1)<l.length-0) ⟨0+1,ω,rfl,trivial,.inr ⟨Nat.succ_pos _,rfl⟩⟩))))))))))
  ·
   refine Ae 6 ?_
   exfalso;omega
 ·
  refine Ae 6 (Em 10 ((i:Int)<(l.length:Int)) (λhx2 hx2d=>?_) (λhx2 hx2d=>?_))
  ·
   exact Ae 7 (Gg i l.length (Ae 7 (Df (Gu ((l).getD i 0) (hc _).1 (hc _).2) (Bx (.osl 10 2 1) (.new 10 (.vec 70 2 1 (λ_=> .lit (Al ((l).getD i 0))))) (Ak 202 1 #[(0,(.tmp 15))] κ underlying202 2 sizeOf70 _ zeroValue70 κ β β β 10 [.bool (decide ((l).getD i 0<0)),.lit (.string (Ef ((l).getD i 0).natAbs))] κ (λ_=> .lit (Al ((l).getD i 0))) κ) (Bx (.osl 11 2 (i+1)) (.grow2 9 10 11 (.vec 70 2 (i+1) (λxi=>WA (Zc l xi)))) (Ck (.tmp 13) (.tmp 16) 202 κ underlying202 2 24 (.agg #[.bool false,.string ⟨#[]⟩]) κ κ δ i 1 ω (λxi=>WA (Zc l xi)) (λ_=> .lit (Al ((l).getD i 0))) (λxi=>WA (Zc l xi)) 11 ω (by unfold maxLen;omega) (λi hi=>rfl) (λi hi=>by(obtain rfl:i=0:=(ω));rfl) (λi hi j hj=>match j,hj with|0,_=>rfl|1,_=>rfl|_+2,h=>absurd h ω) 9 κ κ 10 70 κ κ) (Ae 5 (Dm ((i:Int)+1) ((i+1:Nat):Int) (Ae 2 (Fu [4,7,8,9] [(11,9)] 10 0 hA0 [(70,2,1,(λ_=> .lit (Al ((l).getD i 0)))),(70,2,i+1,(λxi=>WA (Zc l xi)))] ⟨(Fp λ_ _=>rfl),(Fp λ_ _=>rfl),trivial⟩ (hJ1 _ _ (by omega:l.length-(i+1)<l.length-i) ⟨i+1,ω,rfl,trivial,.inr ⟨Nat.succ_pos _,rfl⟩⟩))))))))))
  ·
   refine Ae 6 ?_
   have hie:i=l.length:=by omega
   subst hie
   exact Acc 9 [4] 70 2 l.length (λxi=>WA (Zc l xi)) (Fp λ_ _=>rfl) (Ae 3 (Df (gS l.length (Zc l) ω (λi _=>Hy (hc i))) (Ae 11 (Kf 23 (decide ((25:Int)<(Ft (Zc l) l.length:Int))) false (decide_eq_false ω) (Ae 11 (Gt))))))
theorem aA (n:Nat) (c:Nat->Int) (y:Int) (hn:n<=25) (hc:∀i,i<n->Fm (c i)) (hl:n=0\/c (n-1)≠0) (hy:Fm y) (hp:∀i,i<n->Fm (c i*y)):AF Tryz.prog 159 [Bg n c,WA y] (.tup [Bg (Ft (λi=>c i*y) n) (λi=>c i*y),.int 0]):=by
 refine Ch func159 rfl λB D0 hA0=>?_
 refine Ae 11 (Df (Pu n c hn hc hl) (Ae 3 (Df (Jr _ hy) (Ae 16 (Bx (.osl 2 2 n) (.new 2 (.vec 70 2 n (λ_=> .lit (Al 0)))) (Lb 202 (.tmp 19) (.tmp 19) κ underlying202 2 24 (.agg #[.bool false,.string ⟨#[]⟩]) κ κ δ (n:Int) n ω κ κ ω ω ω 2 (.lit (Al 0)) κ) (Ae 12 (Mr 2 70 2 n (λ_=> .lit (Al 0)) (λxi=>WA (Uk (λi=>c i*y) 0 xi)) (λx9 hx9=>yG _ _) (Mi [3,6,7,21,22,23] n (λi=>True) (λi=>⟨[(3,.ptr 0 0),(6,.ptr 1 0),(7,.osl 2 2 n),(21,Bg n c),(22,.int (n:Int)),(23,.int (i:Int))],[(0,.box 70 [.bool (decide (y<0)),.lit (.string (Ef (y).natAbs))]),(1,.box 241 [.int 0]),(2,.vec 70 2 n (λxi=>WA (Uk (λi=>c i*y) i xi)))],3,39⟩) trivial (λi hin hFi J1 hJ1=>?_)))))))))
 refine Ae 6 (Em 24 ((i:Int)<(n:Int)) (λhx1 hx1d=>?_) (λhx1 hx1d=>?_))
 ·
  exact Ae 8 (Gg i n (Ae 11 (Bx (.lit (Al (c i*y))) (.set 1 (.box 241 [.int 0])) (Ir 174 #[.tmp 6,.tmp 30,.tmp 31] #[241,70,70] κ (λ_ _=>by kernel_rfl) 1 241 [.int .i64 0] κ [.lit (Al (c i)),.lit (Al y)] κ κ (Al (c i*y)) (Up (c i) y (hc _ ω) hy (hp _ ω))) (Gg i n (Bx (.lit Go.undef) (.set 2 (.vec 70 2 n (λxi=>if xi=i then .lit (Al (c i*y)) else (λxi=>WA (Uk (λi=>c i*y) i xi)) xi))) (Ed 70 (.tmp 33) (.tmp 32) κ 2 sizeOf70 2 i κ 70 n (λxi=>WA (Uk (λi=>c i*y) i xi)) κ ω κ κ κ (.lit (Al (c i*y))) κ) (Ae 4 (Dm ((i:Int)+1) ((i+1:Nat):Int) (Ae 2 (Mr 2 70 2 n (λxi=>if xi=i then .lit (Al (c i*y)) else (λxi=>WA (Uk (λi=>c i*y) i xi)) xi) (λxi=>WA (Uk (λi=>c i*y) (i+1) xi)) (λx9 hx9=>yF (λi=>c i*y) i _) (Fu [3,6,7,21,22,23] [(0,0),(1,1),(2,2)] 3 0 hA0 [(70,2,n,(λxi=>WA (Uk (λi=>c i*y) (i+1) xi)))] ⟨(Fp λ_ _=>rfl),trivial⟩ (hJ1 ω trivial)))))))))))
 ·
  refine Ae 6 (Mr 2 70 2 n (λxi=>WA (Uk (λi=>c i*y) i xi)) (λxi=>WA ((λi=>c i*y) xi)) (λx9 hx9=>Ab7 ω) (Acc 2 [7] 70 2 n (λxi=>WA ((λi=>c i*y) xi)) (Fp λ_ _=>rfl) (Ae 3 (Wi 3 func176 (λ_ hD2=>?_)))))
  exact Ae 23 (Df (gS n (λi=>c i*y) ω hp) (Ae 5 (pE (Ae 7 (Gt)))))
def inn (a b:Int) (c:Nat->Int) (t k:Nat):Int:=if k<t then (if k=0 then 0 else c (k-1)*b)+c k*a else if k=t/\0<t then c (t-1)*b else 0
theorem Abf (a b:Int) (c:Nat->Int) (k:Nat):WA 0=WA (inn a b c 0 k):=by
 unfold inn
 rw[if_neg (Nat.not_lt_zero k),if_neg ω]
theorem Abe (a b:Int) (c:Nat->Int) (t k:Nat):(if k=t+1 then WA (c t*b) else if k=t then WA (inn a b c t t+c t*a) else WA (inn a b c t k))=WA (inn a b c (t+1) k):=by
 by_cases h1:k=t+1
 rw[if_pos h1]
 unfold inn
 rw[if_neg ω,if_pos ω,Nat.add_sub_cancel]
 rw[if_neg h1]
 by_cases h2:k=t
 subst h2
 rw[if_pos rfl]
 unfold inn
 rw[if_neg (Nat.lt_irrefl k),if_pos (Nat.lt_succ_self k)]
 by_cases h3:k=0
 subst h3;rw[if_neg ω,if_pos rfl]
 rw[if_pos ω,if_neg h3]
 rw[if_neg h2]
 by_cases h3:k<t
 rw[inn,inn,if_pos h3,if_pos (show k<t+1 by omega)]
 rw[inn,inn,if_neg h3,if_neg ω,if_neg ω,if_neg ω]
def Mc (d:Int):Nat->Int
 |0=>1
 |k+1=>Mc d k*d
theorem Zl (d:Int):∀k,Mc d k=d^k
 |0=>by rw[Int.pow_zero];rfl
 |k+1=>by rw[Mc,Zl d k,Int.pow_succ]
def cN (p:Nat->Int) (m:Nat) (a b d:Int):Nat->Nat->Int
 |0,_=>p (m-1)
 |j+1,k=>inn a b (cN p m a b d j) (j+1) k+(if k=0 then p (m-2-j)*Mc d (j+1) else 0)
theorem AcE (p:Nat->Int) (m:Nat) (a b d:Int) (j k:Nat) {q:Nat} (hq:q=m-2-j):(if k=0 then WA (inn a b (cN p m a b d j) (j+1) 0+p q*Mc d (j+1)) else WA (inn a b (cN p m a b d j) (j+1) k))=WA (cN p m a b d (j+1) k):=by
 subst hq
 rw[cN]
 by_cases h:k=0
 subst h;rw[if_pos rfl,if_pos rfl]
 rw[if_neg h,if_neg h,Int.add_zero]
theorem Abd {a b:Int} {c:Nat->Int} {e:Nat} (ha:Cv a) (hb:Cv b) (hc:∀k,Bd e (c k)) (t k:Nat):Bd (e+64) (inn a b c t k):=by
 have h1:∀k,Bd (e+63) (c k*a):=λk=>(hc k).mul (Bd.int ha.1 ha.2)
 have h2:∀k,Bd (e+63) (c k*b):=λk=>(hc k).mul (Bd.int hb.1 hb.2)
 unfold inn
 split
 refine Bd.add (e:=e+63) ?_ (h1 k)
 split
 exact Bd.zero _
 exact h2 _
 split
 exact(h2 _).mono ω
 exact Bd.zero _
theorem lY {p:Nat->Int} {m:Nat} {a b d:Int} (hp:∀i,Cv (p i)) (ha:Cv a) (hb:Cv b) (hd:Cv d):∀j k,Bd (70*j+63) (cN p m a b d j k)
 |0,_=>Bd.int (hp _).1 (hp _).2
 |j+1,k=>by
  have h1:=Abd ha hb (lY (m:=m) hp ha hb hd j) (j+1) k
  rw[cN]
  refine(Bd.add (e:=70*j+63+64) (h1.mono (Nat.le_refl _)) ?_).mono ω
  split
  rw[Zl];exact((Bd.int (hp _).1 (hp _).2).mul ((Bd.int hd.1 hd.2).pow (j+1))).mono ω
  exact Bd.zero _
def c3 (a b d:Int):Nat->Int
 |0=>a
 |1=>b
 |_=>d
theorem AdU {a b d:Int} (ha:Cv a) (hb:Cv b) (hd:Cv d):∀i,Cv (c3 a b d i)
 |0=>ha
 |1=>hb
 |_+2=>hd
theorem AbJ {c:Nat->Int} {n:Nat} (h:∀i,Cv (c i)):0<=Ew c n/\Ew c n<=64:=oQ (k:=64) n λi _=>by
 have:=(Bd.int (h i).1 (h i).2).le
 exact Gk.2 ω
theorem kW (k0:Nat) (p:Nat->Int) (a b d:Int) (hm:k0<=5) (hp:∀i,Cv (p i)) (hl:p k0≠0) (ha:Cv a) (hb:Cv b) (hd:Cv d) (hdp:0<d):AF Tryz.prog 158 [Bg (k0+1) p,WA a,WA b,WA d] (.tup [Bg (Ft (cN p (k0+1) a b d k0) (k0+1)) (cN p (k0+1) a b d k0),.int 0]):=by
 have hsp:=AbJ (n:=k0+1) hp
 have hs3:=AbJ (n:=3) (AdU ha hb hd)
 have hml:0<=((k0+1-1:Nat):Int)*(Ew (c3 a b d) 3+1)/\((k0+1-1:Nat):Int)*(Ew (c3 a b d) 3+1)<=325:=⟨Int.mul_nonneg ω ω,Int.le_trans (Int.mul_le_mul (show ((k0+1-1:Nat):Int)<=5 by omega) (show Ew (c3 a b d) 3+1<=65 by omega) ω ω) δ⟩
 have fc:∀j k,j<=6->Fm (cN p (k0+1) a b d j k):=λj k hj=>(lY hp ha hb hd j k).fit ω
 have fi:∀j t k,j<=6->Bd 600 (inn a b (cN p (k0+1) a b d j) t k):=λj t k hj=>(Abd ha hb (lY hp ha hb hd j) t k).mono ω
 have fm:∀j k y,j<=6->Cv y->Bd 600 (cN p (k0+1) a b d j k*y):=λj k y hj hy=>((lY hp ha hb hd j k).mul (Bd.int hy.1 hy.2)).mono ω
 have fd:∀j,j<=6->Bd 500 (Mc d j):=λj hj=>by rw[Zl];exact((Bd.int hd.1 hd.2).pow j).mono ω
 have fp:∀i j,j<=6->Bd 600 (p i*Mc d j):=λi j hj=>((Bd.int (hp i).1 (hp i).2).mul (fd j hj)).mono ω
 refine Ch func158 rfl λB D0 hA0=>?_
 refine Ae 13 (Df (Pu (k0+1) p ω (λi _=>Hy (hp i)) (.inr hl)) (Ae 3 (Df (Jr _ (Hy ha)) (Ae 4 (Df (Jr _ (Hy hb)) (Ae 4 (Df (Jr _ (Hy hd)) (Ae 11 (Df (Uu d (Hy hd)) (Ae 3 (Kf 37 (decide (d.sign<=0)) false (decide_eq_false (by rw[Int.sign_eq_one_of_pos hdp];decide)) (Ae 11 (Kf 40 (decide (((k0+1:Nat):Int)=0)) false (decide_eq_false ω) (Ae 5 (He [(1,_,.none),(4,.int ((k0+1-1:Nat):Int),.none),(8,.osl 3 2 3,(.new 3 (.vec 70 2 3 (λxi=>WA (c3 a b d xi))))),(9,.int (Ew (c3 a b d) 3),(.read 3)),(10,.int (Ew (c3 a b d) 3+1),.none),(11,.int (((k0+1-1:Nat):Int)*(Ew (c3 a b d) 3+1)),.none),(12,.int (Ew p (k0+1)+((k0+1-1:Nat):Int)*(Ew (c3 a b d) 3+1)),.none),(13,.int (Ew p (k0+1)+((k0+1-1:Nat):Int)*(Ew (c3 a b d) 3+1)+8),.none),(14,.bool false,.none)] [0,5,6,7,55] ⟨Eg (sQ (k0+1) p ω (λi _=>Hy (hp i))),Bb (Bz (v:= .int .i64 (IntKind.wrap .i64 (((k0+1:Nat):Int)-1))) (v':= .int .i64 ((k0+1-1:Nat):Int)) _ κ rfl κ (λw=>by kernel_rfl) (congrArg (Value.int .i64) ((IntWalk.i64_in _ ω).trans ω))),Bb (Ak 201 3 #[(0,(.tmp 46)),(1,(.tmp 47)),(2,(.tmp 48))] κ underlying201 2 sizeOf70 _ zeroValue70 κ β β β 3 [.bool (decide (a<0)),.lit (.string (Ef (a).natAbs)),.bool (decide (b<0)),.lit (.string (Ef (b).natAbs)),.bool (decide (d<0)),.lit (.string (Ef (d).natAbs))] κ (λxi=>WA (c3 a b d xi)) κ),Bb (fH 173 #[.tmp 49] #[201] κ (λ_ _=>by kernel_rfl) 3 (.vec 70 2 3 (λxi=>WA (c3 a b d xi))) κ (λ_ _ _ _ h=>by cases h;exact(Fp λ_ _=>rfl)) [.osl 3 2 3] κ [.sl 2 3 (λxi=>WA (c3 a b d xi))] κ (.int .i64 (Ew (c3 a b d) 3)) (sQ 3 (c3 a b d) ω (λi _=>Hy (AdU ha hb hd i)))),Bb (Bz (v:= .int .i64 (IntKind.wrap .i64 (Ew (c3 a b d) 3+1))) (v':= .int .i64 (Ew (c3 a b d) 3+1)) _ κ rfl κ (λw=>by kernel_rfl) (congrArg (Value.int .i64) ((IntWalk.i64_in _ ω).trans ω))),Bb (Bz (v:= .int .i64 (IntKind.wrap .i64 (((k0+1-1:Nat):Int)*(Ew (c3 a b d) 3+1)))) (v':= .int .i64 (((k0+1-1:Nat):Int)*(Ew (c3 a b d) 3+1))) _ κ rfl κ (λw=>by kernel_rfl) (congrArg (Value.int .i64) ((IntWalk.i64_in _ ω).trans ω))),Bb (Bz (v:= .int .i64 (IntKind.wrap .i64 (Ew p (k0+1)+((k0+1-1:Nat):Int)*(Ew (c3 a b d) 3+1)))) (v':= .int .i64 (Ew p (k0+1)+((k0+1-1:Nat):Int)*(Ew (c3 a b d) 3+1))) _ κ rfl κ (λw=>by kernel_rfl) (congrArg (Value.int .i64) ((IntWalk.i64_in _ ω).trans ω))),Bb (Bz (v:= .int .i64 (IntKind.wrap .i64 (Ew p (k0+1)+((k0+1-1:Nat):Int)*(Ew (c3 a b d) 3+1)+8))) (v':= .int .i64 (Ew p (k0+1)+((k0+1-1:Nat):Int)*(Ew (c3 a b d) 3+1)+8)) _ κ rfl κ (λw=>by kernel_rfl) (congrArg (Value.int .i64) ((IntWalk.i64_in _ ω).trans ω))),kN (b:=decide ((65536:Int)<Ew p (k0+1)+((k0+1-1:Nat):Int)*(Ew (c3 a b d) 3+1)+8)) (decide_eq_false ω),trivial⟩ (Ae 10 (He [(3,.int ((k0+1-1:Nat):Int),.none),(4,Cy (Bg (k0+1) p) (k0+1-1),.none),(6,.osl 5 2 1,(.new 5 (.vec 70 2 1 (λ_=> .lit (Al (p (k0+1-1))))))),(7,_,.none)] [0,5,6,7,10,11,12] ⟨Bb (Bz (v:= .int .i64 (IntKind.wrap .i64 (((k0+1:Nat):Int)-1))) (v':= .int .i64 ((k0+1-1:Nat):Int)) _ κ rfl κ (λw=>by kernel_rfl) (congrArg (Value.int .i64) ((IntWalk.i64_in _ ω).trans ω))),Hs (k0+1-1) (k0+1),Bb (Ak 202 1 #[(0,(.tmp 61))] κ underlying202 2 sizeOf70 _ zeroValue70 κ β β β 5 [.bool (decide (p (k0+1-1)<0)),.lit (.string (Ef (p (k0+1-1)).natAbs))] κ (λ_=> .lit (Al (p (k0+1-1)))) κ),Eg (Gu 1 δ δ),trivial⟩ (Ae 6 (Dm (((k0+1:Nat):Int)-2) (((k0-0:Nat):Int)-1) (Ae 4 (Mi [0,5,6,7,10,11,12,13] k0 (λj=>True) (λj=>⟨[(0,Bg (k0+1) p),(5,.ptr 0 0),(6,.ptr 1 0),(7,.ptr 2 0),(10,.ptr 4 0),(11,.osl 5 2 (j+1)),(12,.ptr 6 0),(13,.int (((k0-j:Nat):Int)-1))],[(0,.box 70 [.bool (decide (a<0)),.lit (.string (Ef (a).natAbs))]),(1,.box 70 [.bool (decide (b<0)),.lit (.string (Ef (b).natAbs))]),(2,.box 70 [.bool (decide (d<0)),.lit (.string (Ef (d).natAbs))]),(3,.vec 70 2 3 (λxi=>WA (c3 a b d xi))),(4,.box 241 [.int 0]),(5,.vec 70 2 (j+1) (λxi=>WA (cN p (k0+1) a b d j xi))),(6,.box 70 [.bool (decide (Mc d j<0)),.lit (.string (Ef (Mc d j).natAbs))])],7,121⟩) trivial (λj hjn hFj J1 hJ1=>?_))))))))))))))))))))))
 refine Ae 7 (Em 68 ((0:Int)<=((k0-j:Nat):Int)-1) (λhx1 hx1d=>?_) (λhx1 hx1d=>?_))
 ·
  refine Ae 9 (Bx (.lit (Al (Mc d (j+1)))) (.set 4 (.box 241 [.int 0])) (Ir 174 #[.tmp 10,.tmp 71,.tmp 72] #[241,70,70] κ (λ_ _=>by kernel_rfl) 4 241 [.int .i64 0] κ [.lit (Al (Mc d j)),.lit (Al d)] κ κ (Al (Mc d (j+1))) (Up (Mc d j) d ((fd j ω).fit ω) (Hy hd) ((fd (j+1) ω).fit ω))) (Ae 7 (Dm (((j+1:Nat):Int)+1) ((j+1+1:Nat):Int) (Bx (.osl 7 2 (j+1+1)) (.new 7 (.vec 70 2 (j+1+1) (λ_=> .lit (Al 0)))) (Lb 202 (.tmp 76) (.tmp 76) κ underlying202 2 24 (.agg #[.bool false,.string ⟨#[]⟩]) κ κ δ ((j+1+1:Nat):Int) (j+1+1) ω κ κ ω ω ω 7 (.lit (Al 0)) κ) (Ae 12 (Mr 7 70 2 (j+1+1) (λ_=> .lit (Al 0)) (λxi=>WA (inn a b (cN p (k0+1) a b d j) 0 xi)) (λx9 hx9=>Abf _ _ _ _) (Mi [0,5,6,7,10,12,13,14,78,79,80] (j+1) (λt=>True) (λt=>⟨[(0,Bg (k0+1) p),(5,.ptr 0 0),(6,.ptr 1 0),(7,.ptr 2 0),(10,.ptr 4 0),(12,.ptr 6 0),(13,.int (((k0-j:Nat):Int)-1)),(14,.osl 7 2 (j+1+1)),(78,.osl 5 2 (j+1)),(79,.int ((j+1:Nat):Int)),(80,.int (t:Int))],[(0,.box 70 [.bool (decide (a<0)),.lit (.string (Ef (a).natAbs))]),(1,.box 70 [.bool (decide (b<0)),.lit (.string (Ef (b).natAbs))]),(2,.box 70 [.bool (decide (d<0)),.lit (.string (Ef (d).natAbs))]),(3,.vec 70 2 3 (λxi=>WA (c3 a b d xi))),(4,.box 241 [.int 0]),(5,.vec 70 2 (j+1) (λxi=>WA (cN p (k0+1) a b d j xi))),(6,.box 70 [.bool (decide (Mc d (j+1)<0)),.lit (.string (Ef (Mc d (j+1)).natAbs))]),(7,.vec 70 2 (j+1+1) (λxi=>WA (inn a b (cN p (k0+1) a b d j) t xi)))],8,121⟩) trivial (λt htn hFt J2 hJ2=>?_))))))))
  refine Ae 6 (Em 81 ((t:Int)<((j+1:Nat):Int)) (λhx2 hx2d=>?_) (λhx2 hx2d=>?_))
  ·
   exact Ae 8 (Gg t (j+1) (Bx (.lit (Al (cN p (k0+1) a b d j t))) (.read 5) (Qg 70 (.tmp 83) κ isAgg70 2 sizeOf70 5 t κ 70 (j+1) (λxi=>WA (cN p (k0+1) a b d j xi)) κ ω) (Ae 6 (He [(4,Cy (.osl 7 2 (j+1+1)) t,.none),(5,.lit (Al (inn a b (cN p (k0+1) a b d j) t t)),(.read 7)),(8,.lit (Al (cN p (k0+1) a b d j t*a)),(.set 4 (.box 241 [.int 0]))),(9,.lit (Al (inn a b (cN p (k0+1) a b d j) t t+cN p (k0+1) a b d j t*a)),(.set 4 (.box 241 [.int 0]))),(10,Cy (.osl 7 2 (j+1+1)) t,.none),(11,.lit Go.undef,(.set 7 (.vec 70 2 (j+1+1) (λxi=>if xi=t then .lit (Al (inn a b (cN p (k0+1) a b d j) t t+cN p (k0+1) a b d j t*a)) else (λxi=>WA (inn a b (cN p (k0+1) a b d j) t xi)) xi))))] [0,5,6,7,10,12,13,14,15,16,78,79,80] ⟨Hs t (j+1+1),Bb (Qg 70 (.tmp 89) κ isAgg70 2 sizeOf70 7 t κ 70 (j+1+1) (λxi=>WA (inn a b (cN p (k0+1) a b d j) t xi)) κ ω),Bb (Ir 174 #[.tmp 10,.tmp 91,.tmp 92] #[241,70,70] κ (λ_ _=>by kernel_rfl) 4 241 [.int .i64 0] κ [.lit (Al (cN p (k0+1) a b d j t)),.lit (Al a)] κ κ (Al (cN p (k0+1) a b d j t*a)) (Up _ _ (fc j _ ω) (Hy ha) ((fm j _ _ ω ha).fit ω))),Bb (Ir 175 #[.tmp 10,.tmp 90,.tmp 93] #[241,70,70] κ (λ_ _=>by kernel_rfl) 4 241 [.int .i64 0] κ [.lit (Al (inn a b (cN p (k0+1) a b d j) t t)),.lit (Al (cN p (k0+1) a b d j t*a))] κ κ (Al (inn a b (cN p (k0+1) a b d j) t t+cN p (k0+1) a b d j t*a)) (sK _ _ ((fi j _ _ ω).fit ω) ((fm j _ _ ω ha).fit ω) (((fi j _ _ ω).add (fm j _ _ ω ha)).fit ω))),Hs t (j+1+1),Bb (Ed 70 (.tmp 95) (.tmp 94) κ 2 sizeOf70 7 t κ 70 (j+1+1) (λxi=>WA (inn a b (cN p (k0+1) a b d j) t xi)) κ ω κ κ κ (.lit (Al (inn a b (cN p (k0+1) a b d j) t t+cN p (k0+1) a b d j t*a))) κ),trivial⟩ (Ae 4 (Dm ((t:Int)+1) ((t+1:Nat):Int) (Ae 2 (Bx (.lit (Al (cN p (k0+1) a b d j t*b))) (.set 4 (.box 241 [.int 0])) (Ir 174 #[.tmp 10,.tmp 99,.tmp 100] #[241,70,70] κ (λ_ _=>by kernel_rfl) 4 241 [.int .i64 0] κ [.lit (Al (cN p (k0+1) a b d j t)),.lit (Al b)] κ κ (Al (cN p (k0+1) a b d j t*b)) (Up _ _ (fc j _ ω) (Hy hb) ((fm j _ _ ω hb).fit ω))) (Gg (t+1) (j+1+1) (Bx (.lit Go.undef) (.set 7 (.vec 70 2 (j+1+1) (λxi=>if xi=t+1 then .lit (Al (cN p (k0+1) a b d j t*b)) else (λxi=>if xi=t then .lit (Al (inn a b (cN p (k0+1) a b d j) t t+cN p (k0+1) a b d j t*a)) else (λxi=>WA (inn a b (cN p (k0+1) a b d j) t xi)) xi) xi))) (Ed 70 (.tmp 102) (.tmp 101) κ 2 sizeOf70 7 (t+1) κ 70 (j+1+1) (λxi=>if xi=t then .lit (Al (inn a b (cN p (k0+1) a b d j) t t+cN p (k0+1) a b d j t*a)) else (λxi=>WA (inn a b (cN p (k0+1) a b d j) t xi)) xi) κ ω κ κ κ (.lit (Al (cN p (k0+1) a b d j t*b))) κ) (Ae 4 (Dm ((t:Int)+1) ((t+1:Nat):Int) (Ae 2 (Mr 7 70 2 (j+1+1) (λxi=>if xi=t+1 then .lit (Al (cN p (k0+1) a b d j t*b)) else (λxi=>if xi=t then .lit (Al (inn a b (cN p (k0+1) a b d j) t t+cN p (k0+1) a b d j t*a)) else (λxi=>WA (inn a b (cN p (k0+1) a b d j) t xi)) xi) xi) (λxi=>WA (inn a b (cN p (k0+1) a b d j) (t+1) xi)) (λx9 hx9=>Abe _ _ _ _ _) (Fu [0,5,6,7,10,12,13,14,78,79,80] [(0,0),(1,1),(2,2),(3,3),(4,4),(5,5),(6,6),(7,7)] 8 0 hA0 [(70,2,3,(λxi=>WA (c3 a b d xi))),(70,2,j+1,(λxi=>WA (cN p (k0+1) a b d j xi))),(70,2,j+1+1,(λxi=>WA (inn a b (cN p (k0+1) a b d j) (t+1) xi)))] ⟨(Fp λ_ _=>rfl),(Fp λ_ _=>rfl),(Fp λ_ _=>rfl),trivial⟩ (hJ2 ω trivial))))))))))))))))
  ·
   refine Ae 6 ?_
   have hte:t=j+1:=by omega
   subst hte
   exact Ae 1 (He [(2,Cy (.osl 7 2 (j+1+1)) 0,.none),(3,.lit (Al (inn a b (cN p (k0+1) a b d j) (j+1) 0)),(.read 7)),(6,Cy (Bg (k0+1) p) (((k0-j:Nat):Int)-1).toNat,.none),(9,.lit (Al (p ((((k0-j:Nat):Int)-1).toNat)*(Mc d (j+1)))),(.set 4 (.box 241 [.int 0]))),(10,.lit (Al (inn a b (cN p (k0+1) a b d j) (j+1) 0+p ((((k0-j:Nat):Int)-1).toNat)*(Mc d (j+1)))),(.set 4 (.box 241 [.int 0]))),(11,Cy (.osl 7 2 (j+1+1)) 0,.none),(12,.lit Go.undef,(.set 7 (.vec 70 2 (j+1+1) (λxi=>if xi=0 then .lit (Al (inn a b (cN p (k0+1) a b d j) (j+1) 0+p ((((k0-j:Nat):Int)-1).toNat)*(Mc d (j+1)))) else (λxi=>WA (inn a b (cN p (k0+1) a b d j) (j+1) xi)) xi))))] [0,5,6,7,10,12,13,14] ⟨Hs 0 (j+1+1),Bb (Qg 70 (.tmp 106) κ isAgg70 2 sizeOf70 7 0 κ 70 (j+1+1) (λxi=>WA (inn a b (cN p (k0+1) a b d j) (j+1) xi)) κ ω),Aev (((k0-j:Nat):Int)-1) (((k0-j:Nat):Int)-1).toNat (k0+1),Bb (Ir 174 #[.tmp 10,.tmp 111,.tmp 112] #[241,70,70] κ (λ_ _=>by kernel_rfl) 4 241 [.int .i64 0] κ [.lit (Al (p ((((k0-j:Nat):Int)-1).toNat))),.lit (Al (Mc d (j+1)))] κ κ (Al (p ((((k0-j:Nat):Int)-1).toNat)*(Mc d (j+1)))) (Up _ _ (Hy (hp _)) ((fd _ ω).fit ω) ((fp _ _ ω).fit ω))),Bb (Ir 175 #[.tmp 10,.tmp 107,.tmp 113] #[241,70,70] κ (λ_ _=>by kernel_rfl) 4 241 [.int .i64 0] κ [.lit (Al (inn a b (cN p (k0+1) a b d j) (j+1) 0)),.lit (Al (p ((((k0-j:Nat):Int)-1).toNat)*(Mc d (j+1))))] κ κ (Al (inn a b (cN p (k0+1) a b d j) (j+1) 0+p ((((k0-j:Nat):Int)-1).toNat)*(Mc d (j+1)))) (sK _ _ ((fi j _ _ ω).fit ω) ((fp _ _ ω).fit ω) (((fi j _ _ ω).add (fp _ _ ω)).fit ω))),Hs 0 (j+1+1),Bb (Ed 70 (.tmp 115) (.tmp 114) κ 2 sizeOf70 7 0 κ 70 (j+1+1) (λxi=>WA (inn a b (cN p (k0+1) a b d j) (j+1) xi)) κ ω κ κ κ (.lit (Al (inn a b (cN p (k0+1) a b d j) (j+1) 0+p ((((k0-j:Nat):Int)-1).toNat)*(Mc d (j+1))))) κ),trivial⟩ (Ae 9 (Dm (((k0-j:Nat):Int)-1-1) (((k0-(j+1):Nat):Int)-1) (Ae 2 (Mr 7 70 2 (j+1+1) (λxi=>if xi=0 then .lit (Al (inn a b (cN p (k0+1) a b d j) (j+1) 0+p ((((k0-j:Nat):Int)-1).toNat)*(Mc d (j+1)))) else (λxi=>WA (inn a b (cN p (k0+1) a b d j) (j+1) xi)) xi) (λxi=>WA (cN p (k0+1) a b d (j+1) xi)) (λx9 hx9=>AcE _ _ _ _ _ _ _ ω) (Fu [0,5,6,7,10,11,12,13] [(0,0),(1,1),(2,2),(3,3),(4,4),(7,5),(6,6)] 7 0 hA0 [(70,2,3,(λxi=>WA (c3 a b d xi))),(70,2,j+1,(λxi=>WA (cN p (k0+1) a b d j xi))),(70,2,j+1+1,(λxi=>WA (cN p (k0+1) a b d (j+1) xi)))] ⟨(Fp λ_ _=>rfl),(Fp λ_ _=>rfl),(Fp λ_ _=>rfl),trivial⟩ (hJ1 ω trivial)))))))
 ·
  refine Ae 6 ?_
  have hje:j=k0:=by omega
  subst hje
  refine Acc 5 [11] 70 2 (j+1) (λxi=>WA (cN p (j+1) a b d j xi)) (Fp λ_ _=>rfl) (Ae 3 (Wi 7 func176 (λ_ hD3=>?_)))
  exact Ae 23 (Df (gS (j+1) (cN p (j+1) a b d j) ω (λi _=>fc _ i ω)) (Ae 5 (pE (Ae 7 (Gt)))))
end Go.Proofs.YtldnjomacnjhnaaGreat
namespace Go.Proofs.YtldnjomacnjhnaaGreat
open Go.RowKit
structure Ael (lt:Nat->Nat->Bool):Prop where
 am:∀a b,lt a b=true->lt b a=false
 tr:∀a b c,lt b a=false->lt c b=false->lt c a=false
theorem nB {lt:Nat->Nat->Bool} (h:Ael lt):∀(j:Nat) (l:List Nat) (i:Nat),j<=i->i<l.length->(∀a b,a<b->b<=i->a≠j->b≠j->lt (l.getD b 0) (l.getD a 0)=false)->(∀b,j<b->b<=i->lt (l.getD b 0) (l.getD j 0)=false)->∀a b,a<b->b<=i->lt ((Pb lt l j).getD b 0) ((Pb lt l j).getD a 0)=false
 |0,l,i,_,_,h1,h2,a,b,ha,hb=>by
  rw[Pb]
  by_cases e:a=0
  subst e;exact h2 b ha hb
  exact h1 a b ha hb e ω
 |j+1,l,i,hj,hi,h1,h2,a,b,ha,hb=>by
  rw[Pb]
  by_cases hc:lt (l.getD (j+1) 0) (l.getD j 0)=true
  rw[if_pos hc]
  refine nB h j (Ni l j) i ω (by rw[Iu];exact hi) (λa b ha hb h3 h4=>?_) (λb h3 hb=>?_) a b ha hb
  rw[Lm _ _ _ ω,Lm _ _ _ ω,if_neg h3,if_neg h4]
  by_cases e:a=j+1
  rw[if_pos e,if_neg ω];exact h1 j b ω hb ω ω
  rw[if_neg e]
  by_cases e2:b=j+1
  rw[if_pos e2];exact h1 a j ω ω e ω
  rw[if_neg e2];exact h1 a b ha hb e e2
  rw[Lm _ _ _ ω,Lm _ _ _ ω,if_neg ω,if_pos rfl]
  by_cases e:b=j+1
  rw[if_pos e];exact h.am _ _ hc
  rw[if_neg e];exact h2 b ω hb
  have hc':lt (l.getD (j+1) 0) (l.getD j 0)=false:=by simpa using hc
  rw[if_neg hc]
  by_cases e:a=j+1
  subst e;exact h2 b ha hb
  by_cases e2:b=j+1
  subst e2
  by_cases e3:a=j
  subst e3;exact hc'
  exact h.tr _ _ _ (h1 a j ω ω e ω) hc'
  exact h1 a b ha hb e e2
theorem oR {lt:Nat->Nat->Bool} (h:Ael lt) (l:List Nat):∀i,i<l.length->∀a b,a<b->b<=i->lt ((Ko lt l i).getD b 0) ((Ko lt l i).getD a 0)=false
 |0,_,a,b,ha,hb=>by omega
 |i+1,hi,a,b,ha,hb=>nB h (i+1) (Ko lt l i) (i+1) (Nat.le_refl _) (by rw[Ll];exact hi) (λa b ha hb h3 h4=>oR h l i ω a b ha ω) (λb h3 hb=>by omega) a b ha hb
def Pm (l m:List Nat):Prop:=m.length=l.length/\∃s t:Nat->Nat,∀x,x<l.length->s x<l.length/\t x<l.length/\s (t x)=x/\t (s x)=x/\m.getD x 0=l.getD (s x) 0
theorem Pm.refl (l:List Nat):Pm l l:=⟨rfl,id,id,λ_ h=>⟨h,h,rfl,rfl,rfl⟩⟩
theorem Pm.trans {l m k:List Nat} (h:Pm l m) (g:Pm m k):Pm l k:=by
 obtain⟨h0,s,t,h1⟩:=h
 obtain⟨g0,s',t',g1⟩:=g
 refine⟨g0.trans h0,λx=>s (s' x),λx=>t' (t x),λx hx=>?_⟩
 obtain⟨a1,a2,a3,a4,a5⟩:=g1 x ω
 obtain⟨b1,b2,b3,b4,b5⟩:=h1 x hx
 obtain⟨c1,c2,c3,c4,c5⟩:=g1 (t x) ω
 obtain⟨d1,d2,d3,d4,d5⟩:=h1 (s' x) ω
 exact⟨d1,(show t' (t x)<_ by omega),(show s (s' (t' (t x)))=x by rw[c3,b3]),(show t' (t (s (s' x)))=x by rw[d4,a4]),(show k.getD x 0=l.getD (s (s' x)) 0 by rw[a5,d5])⟩
theorem Pm.swap {l:List Nat} {j:Nat} (h:j+1<l.length):Pm l (Ni l j):=by
 let s:Nat->Nat:=λx=>if x=j then j+1 else if x=j+1 then j else x
 have hs:∀x,s (s x)=x:=λx=>by
  show (if (if x=j then j+1 else if x=j+1 then j else x)=j then j+1 else if (if x=j then j+1 else if x=j+1 then j else x)=j+1 then j else (if x=j then j+1 else if x=j+1 then j else x))=x
  by_cases h1:x=j
  · subst h1;rw[if_pos rfl,if_neg ω,if_pos rfl]
  ·
   by_cases h2:x=j+1
   · subst h2;rw[if_neg h1,if_pos rfl,if_pos rfl]
   · rw[if_neg h1,if_neg h2,if_neg h1,if_neg h2]
 have hl:∀x,x<l.length->s x<l.length:=λx hx=>by
  show (if x=j then j+1 else if x=j+1 then j else x)<_
  by_cases h1:x=j
  · rw[if_pos h1];exact h
  ·
   by_cases h2:x=j+1
   · rw[if_neg h1,if_pos h2];omega
   · rw[if_neg h1,if_neg h2];exact hx
 refine⟨Iu l j,s,s,λx hx=>⟨hl x hx,hl x hx,hs x,hs x,?_⟩⟩
 rw[Lm _ _ _ h]
 show _=l.getD (if x=j then j+1 else if x=j+1 then j else x) 0
 by_cases h1:x=j
 · rw[if_pos h1,if_pos h1]
 ·
  by_cases h2:x=j+1
  · rw[if_neg h1,if_neg h1,if_pos h2,if_pos h2]
  · rw[if_neg h1,if_neg h1,if_neg h2,if_neg h2]
theorem tY (lt:Nat->Nat->Bool):∀j l,j<l.length->Pm l (Pb lt l j)
 |0,l,_=>Pm.refl l
 |j+1,l,h=>by
  rw[Pb]
  split
  · exact(Pm.swap h).trans (tY lt j _ (by rw[Iu];omega))
  · exact Pm.refl l
theorem uZ (lt:Nat->Nat->Bool) (l:List Nat):∀i,i<l.length->Pm l (Ko lt l i)
 |0,_=>Pm.refl l
 |i+1,h=>(uZ lt l i ω).trans (tY lt (i+1) _ (by rw[Ll];exact h))
theorem AcX (r:Rv) (v:V3):Ael (Wl r v):=by
 refine⟨λa b h=>?_,λa b c h g=>?_⟩
 simp only[Wl,decide_eq_true_eq,decide_eq_false_iff_not] at h ⊢;omega
 simp only[Wl,decide_eq_false_iff_not] at h g ⊢;omega
theorem Ae5 (r:Rv) (v:V3) {a b:Nat} (h:a<b) (hb:b<r.homes.length):Wl r v ((Av r v).getD b 0) ((Av r v).getD a 0)=false:=
 oR (AcX r v) (List.range r.homes.length) (r.homes.length-1) (by rw[List.length_range];omega) a b h ω
theorem Ae6 (r:Rv) (v:V3) (h:0<r.homes.length):∃s t:Nat->Nat,∀x,x<r.homes.length->t x<r.homes.length/\s (t x)=x/\t (s x)=x/\(Av r v).getD x 0=s x:=by
 obtain⟨_,s,t,h1⟩:=uZ (Wl r v) (List.range r.homes.length) (r.homes.length-1) (by rw[List.length_range];omega)
 refine⟨s,t,λx hx=>?_⟩
 obtain⟨a1,a2,a3,a4,a5⟩:=h1 x (by rw[List.length_range];exact hx)
 rw[List.length_range] at a1 a2
 rw[Se a1] at a5
 exact⟨a2,a3,a4,a5⟩
def Tj (dn:Nat->Bool) (fr:Nat->Int):Nat->Int×Int
 |0=>(-1,0)
 |k+1=>if dn k=false/\((Tj dn fr k).1<0\/fr k<(Tj dn fr k).2) then ((k:Int),fr k) else Tj dn fr k
theorem Xn (dn:Nat->Bool) (fr:Nat->Int):∀k,((∀q,q<k->dn q=true)/\Tj dn fr k=(-1,0))\/∃b,b<k/\dn b=false/\Tj dn fr k=((b:Int),fr b)/\∀q,q<k->dn q=false->fr b<fr q\/(fr b=fr q/\b<=q)
 |0=> .inl ⟨λq h=>absurd h (Nat.not_lt_zero q),rfl⟩
 |k+1=>by
  rw[Tj]
  by_cases hd:dn k=true
  rw[if_neg (by rw[hd];simp)]
  rcases Xn dn fr k with⟨h1,h2⟩|⟨b,h1,h2,h3,h4⟩
  exact .inl ⟨λq hq=>(Nat.lt_or_ge q k).elim (h1 q) λg=>by obtain rfl:q=k:=(ω);exact hd,h2⟩
  exact .inr ⟨b,ω,h2,h3,λq hq hn=>(Nat.lt_or_ge q k).elim (λg=>h4 q g hn) λg=>by obtain rfl:q=k:=(ω);rw[hd] at hn;cases hn⟩
  have hd':dn k=false:=by simpa using hd
  rcases Xn dn fr k with⟨h1,h2⟩|⟨b,h1,h2,h3,h4⟩
  rw[h2,if_pos ⟨hd',.inl δ⟩]
  exact .inr ⟨k,ω,hd',rfl,λq hq hn=>(Nat.lt_or_ge q k).elim (λg=>by rw[h1 q g] at hn;cases hn) λg=>by obtain rfl:q=k:=(ω);exact .inr ⟨rfl,Nat.le_refl _⟩⟩
  rw[h3]
  by_cases hf:fr k<fr b
  rw[if_pos ⟨hd',.inr hf⟩]
  exact .inr ⟨k,ω,hd',rfl,λq hq hn=>(Nat.lt_or_ge q k).elim (λg=>by have:=h4 q g hn;exact .inl ω) λg=>by obtain rfl:q=k:=(ω);exact .inr ⟨rfl,Nat.le_refl _⟩⟩
  rw[if_neg (by
   rintro⟨_,g|g⟩;· (have:(b:Int)<0:=g;omega)
   exact hf g)]
  exact .inr ⟨b,ω,h2,rfl,λq hq hn=>(Nat.lt_or_ge q k).elim (λg=>h4 q g hn) λg=>by obtain rfl:q=k:=(ω);omega⟩
theorem Pj {dn:Nat->Bool} {fr:Nat->Int} {k:Nat} {b f:Int} (h:Tj dn fr k=(b,f)) (h1:dn k=false) (h2:b<0\/fr k<f):Tj dn fr (k+1)=((k:Int),fr k):=by
 rw[Tj,h,if_pos ⟨h1,h2⟩]
theorem Ph {dn:Nat->Bool} {fr:Nat->Int} {k:Nat} {b f:Int} (h:Tj dn fr k=(b,f)) (h1:dn k=true\/¬(b<0\/fr k<f)):Tj dn fr (k+1)=(b,f):=by
 rw[Tj,h,if_neg (by
  rintro⟨g1,g2⟩;rcases h1 with h1|h1;· (rw[g1] at h1;cases h1)
  exact h1 g2)]
noncomputable def Di (r:Rv) (v:V3) (y k:Nat):Bool:=bP (∃j,j<y/\(Av r v).getD j 0=k)
theorem AaI (r:Rv) (v:V3) (k:Nat):Di r v 0 k=false:=As λ⟨j,h,_⟩=>absurd h (Nat.not_lt_zero j)
theorem Wy (r:Rv) (v:V3) (y k:Nat):Di r v (y+1) k=if k=(Av r v).getD y 0 then true else Di r v y k:=by
 split
 rename_i h;exact Ee ⟨y,ω,h.symm⟩
 rename_i h
 refine tC ⟨λ⟨j,h1,h2⟩=>⟨j,?_,h2⟩,λ⟨j,h1,h2⟩=>⟨j,ω,h2⟩⟩
 rcases Nat.lt_or_ge j y with g|g
 exact g
 obtain rfl:j=y:=by omega
 exact absurd h2.symm h
theorem kC (r:Rv) (v:V3) {y:Nat} (hy:y<r.homes.length):Tj (Di r v y) (Mk r v) r.homes.length=((((Av r v).getD y 0:Nat):Int),Mk r v ((Av r v).getD y 0)):=by
 obtain⟨s,t,hst⟩:=Ae6 r v ω
 have ho:=Lk r v hy
 have nd:Di r v y ((Av r v).getD y 0)=false:=As λ⟨j,h1,h2⟩=>by
  have e1:=(hst j ω).2.2.1
  have e2:=(hst y hy).2.2.1
  rw[(hst j ω).2.2.2,(hst y hy).2.2.2] at h2
  rw[h2] at e1
  omega
 rcases Xn (Di r v y) (Mk r v) r.homes.length with⟨h1,_⟩|⟨b,h1,h2,h3,h4⟩
 rw[h1 _ ho] at nd;cases nd
 have hx:=hst b h1
 have ex:(Av r v).getD (t b) 0=b:=by rw[(hst (t b) hx.1).2.2.2,hx.2.1]
 have hyx:¬t b<y:=λg=>by
  have:=Ee (p:=∃j,j<y/\(Av r v).getD j 0=b) ⟨t b,g,ex⟩
  rw[show bP (∃j,j<y/\(Av r v).getD j 0=b)=Di r v y b from rfl,h2] at this
  cases this
 have e:b=(Av r v).getD y 0:=by
  by_cases e:t b=y
  rw[<-ex,e]
  have g1:=Ae5 r v (a:=y) (b:=t b) ω hx.1
  have g2:=h4 _ ho nd
  rw[ex] at g1
  simp only[Wl,decide_eq_false_iff_not] at g1
  omega
 rw[h3,e]
end Go.Proofs.YtldnjomacnjhnaaGreat