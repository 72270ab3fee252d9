/- Part 21 of the proof of EX.row_holds, joined by program: no condition beyond the row's own. -/
import Derived.Test.YtkcnbaeoahoglaaGreatX20
set_option maxRecDepth 100000
set_option maxHeartbeats 40000000
namespace Go.Proofs.YtkcnbaeoahoglaaGreat
open Tryz
open Go.RowKit
abbrev Pd (l:List Int) (i:Nat):Int:=l.getD i 0
def Ui (g:Nat->Int) (k i:Nat):Int:=if i<k then g i else 0
theorem uW (g:Nat->Int) (k i:Nat):(if i=k then WA (g k) else WA (Ui g k i))=WA (Ui g (k+1) i):=by
 unfold Ui
 by_cases h:i=k
 subst h;rw[if_pos rfl,if_pos (Nat.lt_succ_self _)]
 rw[if_neg h]
 by_cases h2:i<k
 rw[if_pos h2,if_pos (by omega)]
 rw[if_neg h2,if_neg (by omega)]
theorem uX (g:Nat->Int) (i:Nat):WA 0=WA (Ui g 0 i):=by unfold Ui;rw[if_neg (Nat.not_lt_zero i)]
theorem zZ {g:Nat->Int} {k i:Nat} (h:i<k):WA (Ui g k i)=WA (g i):=by unfold Ui;rw[if_pos h]
theorem Wn (l:List Int) (hl:0<l.length) (hn:l.length<=25) (hc:∀i,Cj (l.getD i 0)):AF Tryz.prog 97 [Bc l] (.tup [Bf (Du (Pd l) l.length) (Pd l),.int 0]):=by
 have hle:=Ii (Pd l) l.length
 refine Dl ⟨[(0,Bc l)],[],0,25⟩ func97 rfl 25 ntmps97 (by kernel_rfl) (by kernel_rfl) λB D0 hA0=>?_
 refine Bu 2 [0] ?_
 refine Bu 1 [0,4] ?_
 refine Al (Ab ?_)
 refine Ae 1 ?_
 refine Bl (.int (l.length:Int)) (Dg (.tmp 7) 65 #[65] underlying65 l.length (.inl ⟨1,(λi0=> .int ((l).getD i0 0)),by kernel_rfl⟩)) ?_
 refine Ae 1 ?_
 refine As [4,7,8,9] ?_
 refine Bb (Cn (λm s=>∃i,i<=l.length/\m=l.length-i/\True/\((i=0/\s=⟨[(4,.lit (.slice none 0 0)),(7,Bc l),(8,.int (l.length:Int)),(9,.int ((0:Nat):Int))],[],0,25⟩)\/(0<i/\s=⟨[(4,.osl 9 2 i),(7,Bc l),(8,.int (l.length:Int)),(9,.int (i:Int))],[(9,.vec 96 2 i (λxi=>WA (Pd l xi)))],10,25⟩))) l.length ⟨0,Nat.zero_le _,rfl,trivial,.inl ⟨rfl,(by kernel_rfl)⟩⟩ ?_)
 rintro _ _ ⟨i,hin,rfl,hFi,(⟨hi0,rfl⟩|⟨hi0,rfl⟩)⟩
 subst hi0
 refine Ab (qb (decide (((0:Nat):Int)<(l.length:Int))) ?_)
 refine As [4,7,8,9,10] ?_
 refine Al ?_
 refine Ao (decide (((0:Nat):Int)<(l.length:Int))) (λhx1=>?_) (λhx1=>?_)
 have hx1d:=of_decide_eq_true hx1
 refine qT hx1 ?_
 refine Aw (Al ?_)
 refine Bb (Ab ?_)
 refine Bl (.elt 1 (λq=>AV.cell (.int ((l).getD 0 0)) q)) (Bk 65 (.tmp 7) (.tmp 9) underlying65 1 l.length 0 (λi0=> .int ((l).getD i0 0)) ((0:Nat):Int) sizeOf3) ?_
 refine Ae 2 ?_
 refine As [4,6,7,8,9] ?_
 refine Bi (Ae 2 ?_)
 refine Bl (.lit (Ai ((l).getD 0 0))) (Br 79 #[.tmp 14] #[3] [.int ((l).getD 0 0)] (.lit (Ai ((l).getD 0 0))) (Hh _ (hc _).1 (hc _).2)) ?_
 refine Mw (.osl 0 2 1) (.new 0 (.vec 96 2 1 (λ_=> .lit (Ai ((l).getD 0 0))))) (Cp 141 1 #[(0,(.tmp 15))] underlying141 2 sizeOf96 _ zeroValue96 0 [.bool (decide ((l).getD 0 0<0)),.lit (.string (Cw ((l).getD 0 0).natAbs))] (λ_=> .lit (Ai ((l).getD 0 0)))) ?_
 refine Mw (.osl 1 2 1) (.newr 0 1 (.vec 96 2 1 (λxi=>WA (Pd l xi)))) (Ez (.tmp 13) (.tmp 16) 141 (by kernel_rfl) underlying141 2 24 (.agg #[.bool false,.string ⟨#[]⟩]) (by kernel_rfl) (by kernel_rfl) (by decide) 1 (by omega) (λ_=> .lit (Ai ((l).getD 0 0))) (λxi=>WA (Pd l xi)) 1 (λi hi=>by(obtain rfl:i=0:=(by omega));rfl) (λi hi j hj=>match j,hj with|0,_=>rfl|1,_=>rfl|_+2,h=>absurd h (by omega)) (by unfold maxLen;omega) (by omega) (by kernel_rfl) 0 96 (by kernel_rfl) (by kernel_rfl)) ?_
 refine Ae 1 ?_
 refine Bx [4,7,8,9] ?_
 refine Ee [4,7,8,9] ⟨[(4,.osl 1 2 1),(7,Bc l),(8,.int (l.length:Int)),(9,.int ((0:Nat):Int))],[(0,.vec 96 2 1 (λ_=> .lit (Ai ((l).getD 0 0)))),(1,.vec 96 2 1 (λxi=>WA (Pd l xi)))],2,25⟩ ?_
 refine Hg [(1,9)] 10 0 hA0 _ (Ck (λi _ j hj=>match j,hj with|0,_=>rfl|1,_=>rfl|_+2,h=>absurd h (by omega)) (Ck (λi _ j hj=>match j,hj with|0,_=>rfl|1,_=>rfl|_+2,h=>absurd h (by omega)) Cx)) ?_
 refine Bi (qw (((0:Nat):Int)+1) ((0+1:Nat):Int) ?_)
 refine Ae 1 ?_
 refine Bx [4,7,8,9] ?_
 exact⟨_,(by omega:l.length-(0+1)<l.length-0),0+1,(by omega),rfl,trivial,.inr ⟨Nat.succ_pos _,(by kernel_rfl)⟩⟩
 have hx1d:=of_decide_eq_false hx1
 refine qF hx1 ?_
 refine Co ?_
 exfalso;omega
 refine Ab (qb (decide ((i:Int)<(l.length:Int))) ?_)
 refine As [4,7,8,9,10] ?_
 refine Al ?_
 refine Ao (decide ((i:Int)<(l.length:Int))) (λhx2=>?_) (λhx2=>?_)
 have hx2d:=of_decide_eq_true hx2
 refine qT hx2 ?_
 refine Aw (Al ?_)
 refine Bb (Ab ?_)
 refine Bl (.elt 1 (λq=>AV.cell (.int ((l).getD i 0)) q)) (Bk 65 (.tmp 7) (.tmp 9) underlying65 1 l.length i (λi0=> .int ((l).getD i0 0)) (i:Int) sizeOf3) ?_
 refine Ae 2 ?_
 refine As [4,6,7,8,9] ?_
 refine Bi (Ae 2 ?_)
 refine Bl (.lit (Ai ((l).getD i 0))) (Br 79 #[.tmp 14] #[3] [.int ((l).getD i 0)] (.lit (Ai ((l).getD i 0))) (Hh _ (hc _).1 (hc _).2)) ?_
 refine Mw (.osl 10 2 1) (.new 10 (.vec 96 2 1 (λ_=> .lit (Ai ((l).getD i 0))))) (Cp 141 1 #[(0,(.tmp 15))] underlying141 2 sizeOf96 _ zeroValue96 10 [.bool (decide ((l).getD i 0<0)),.lit (.string (Cw ((l).getD i 0).natAbs))] (λ_=> .lit (Ai ((l).getD i 0)))) ?_
 refine Mw (.osl 11 2 (i+1)) (.grow2 9 10 11 (.vec 96 2 (i+1) (λxi=>WA (Pd l xi)))) (Gx (.tmp 13) (.tmp 16) 141 (by kernel_rfl) underlying141 2 24 (.agg #[.bool false,.string ⟨#[]⟩]) (by kernel_rfl) (by kernel_rfl) (by decide) i 1 (by omega) (λxi=>WA (Pd l xi)) (λ_=> .lit (Ai ((l).getD i 0))) (λxi=>WA (Pd l xi)) 11 (by omega) (by unfold maxLen;omega) (λi hi=>rfl) (λi hi=>by(obtain rfl:i=0:=(by omega));rfl) (λi hi j hj=>match j,hj with|0,_=>rfl|1,_=>rfl|_+2,h=>absurd h (by omega)) 9 (by kernel_rfl) (by kernel_rfl) 10 96 (by kernel_rfl) (by kernel_rfl)) ?_
 refine Ae 1 ?_
 refine Bx [4,7,8,9] ?_
 refine Ee [4,7,8,9] ⟨[(4,.osl 11 2 (i+1)),(7,Bc l),(8,.int (l.length:Int)),(9,.int (i:Int))],[(10,.vec 96 2 1 (λ_=> .lit (Ai ((l).getD i 0)))),(11,.vec 96 2 (i+1) (λxi=>WA (Pd l xi)))],12,25⟩ ?_
 refine Hg [(11,9)] 10 0 hA0 _ (Ck (λi _ j hj=>match j,hj with|0,_=>rfl|1,_=>rfl|_+2,h=>absurd h (by omega)) (Ck (λi _ j hj=>match j,hj with|0,_=>rfl|1,_=>rfl|_+2,h=>absurd h (by omega)) Cx)) ?_
 refine Bi (qw ((i:Int)+1) ((i+1:Nat):Int) ?_)
 refine Ae 1 ?_
 refine Bx [4,7,8,9] ?_
 exact⟨_,(by omega:l.length-(i+1)<l.length-i),i+1,(by omega),rfl,trivial,.inr ⟨Nat.succ_pos _,(by kernel_rfl)⟩⟩
 have hx2d:=of_decide_eq_false hx2
 refine qF hx2 ?_
 refine Co ?_
 have hie:i=l.length:=by omega
 subst hie
 refine Qq 9 [4] 96 2 l.length (λxi=>WA (Pd l xi)) (by kernel_rfl) (by kernel_rfl) (λi _ j hj=>match j,hj with|0,_=>rfl|1,_=>rfl|_+2,h=>absurd h (by omega)) ?_
 refine Ee [4,7,8,9,10] ⟨[(4,.slc 2 l.length (λxi=>WA (Pd l xi))),(7,Bc l),(8,.int (l.length:Int)),(9,.int (l.length:Int)),(10,.bool false)],[],10,25⟩ ?_
 refine Ab (Ae 1 ?_)
 refine Bl (Bf (Du (Pd l) l.length) (Pd l)) (Br 113 #[.tmp 19] #[141] [.slc 2 l.length (λxi=>WA (Pd l xi))] (Bf (Du (Pd l) l.length) (Pd l)) (fE l.length (Pd l) (by omega) (λi _=>Iq (hc i)))) ?_
 refine Ae 1 ?_
 refine As [4] ?_
 refine Al (Ab ?_)
 refine Ae 1 ?_
 refine Bl (.int (Du (Pd l) l.length:Int)) (Dg (.tmp 21) 141 #[141] underlying141 (Du (Pd l) l.length) (.inl ⟨2,(λi0=> .lit (Ai (Pd l i0))),by kernel_rfl⟩)) ?_
 refine qb (decide ((25:Int)<(Du (Pd l) l.length:Int))) ?_
 refine As [4,23] ?_
 refine qF (b:=(decide ((25:Int)<(Du (Pd l) l.length:Int)))) (decide_eq_false (by omega)) ?_
 refine Aw (Bu 3 [2,3] ?_)
 refine Be ?_
 exact⟨.inl rfl,(Cv results97 (Ak (x:=Bf (Du (Pd l) l.length) (Pd l)) (by kernel_rfl) (by kernel_rfl)) (Ak (x:= .int 0) (by kernel_rfl) (by kernel_rfl))).cast (by kernel_rfl)⟩
theorem Zl (n:Nat) (c:Nat->Int) (y:Int) (hn:n<=25) (hc:∀i,i<n->Gh (c i)) (hl:n=0\/c (n-1)≠0) (hy:Gh y) (hp:∀i,i<n->Gh (c i*y)):AF Tryz.prog 99 [Bf n c,WA y] (.tup [Bf (Du (λi=>c i*y) n) (λi=>c i*y),.int 0]):=by
 refine Dl ⟨[(0,Bf n c),(1,.lit (Ai y))],[],0,39⟩ func99 rfl 39 ntmps99 (by kernel_rfl) (by kernel_rfl) λB D0 hA0=>?_
 refine Bu 3 [0,3] ?_
 refine Al (Ab ?_)
 refine Ae 1 ?_
 refine Fg (Oy n c hn hc hl) ?_
 refine qb false ?_
 refine Ae 2 ?_
 refine Ei (.bool true) .none (Br 66 #[.tmp 14] #[96] [.lit (Ai y)] (.bool true) (Ju _ hy)) ?_
 refine Ga false ?_
 refine Ae 1 ?_
 refine As [0,3,17] ?_
 refine Bq (Aw ?_)
 refine Bu 1 [0,3,6] ?_
 refine Ab (Ae 1 ?_)
 refine Bl (.int (n:Int)) (Dg (.tmp 18) 141 #[141] underlying141 n (.inl ⟨2,(λi0=> .lit (Ai (c i0))),by kernel_rfl⟩)) ?_
 refine Mw (.osl 2 2 n) (.new 2 (.vec 96 2 n (λ_=> .lit (Ai 0)))) (Tm 141 (.tmp 19) (.tmp 19) (by kernel_rfl) underlying141 2 24 (.agg #[.bool false,.string ⟨#[]⟩]) (by kernel_rfl) (by kernel_rfl) (by decide) (n:Int) n (by omega) (by kernel_rfl) (by kernel_rfl) (by omega) (by omega) (by omega) 2 (.lit (Ai 0)) (by kernel_rfl)) ?_
 refine Ae 1 ?_
 refine As [0,3,6,7] ?_
 refine Al (Ab ?_)
 refine Ae 1 ?_
 refine Bl (.int (n:Int)) (Dg (.tmp 21) 141 #[141] underlying141 n (.inl ⟨2,(λi0=> .lit (Ai (c i0))),by kernel_rfl⟩)) ?_
 refine Ae 1 ?_
 refine As [3,6,7,21,22,23] ?_
 refine Bb (Ov 2 96 2 n (λ_=> .lit (Ai 0)) (λxi=>WA (Ui (λi=>c i*y) 0 xi)) (by kernel_rfl) (λx9 hx9=>uX _ _) ?_)
 refine Cn (λm s=>∃i,i<=n/\m=n-i/\True/\s=⟨[(3,.ptr 0 0),(6,.ptr 1 0),(7,.osl 2 2 n),(21,Bf n c),(22,.int (n:Int)),(23,.int (i:Int))],[(0,.box 96 [.bool (decide (y<0)),.lit (.string (Cw (y).natAbs))]),(1,.box 190 [.int 0]),(2,.vec 96 2 n (λxi=>WA (Ui (λi=>c i*y) i xi)))],3,39⟩) n ⟨0,Nat.zero_le _,rfl,trivial,(by kernel_rfl)⟩ ?_
 rintro _ _ ⟨i,hin,rfl,hFi,rfl⟩
 refine Ab (qb (decide ((i:Int)<(n:Int))) ?_)
 refine As [3,6,7,21,22,23,24] ?_
 refine Al ?_
 refine Ao (decide ((i:Int)<(n:Int))) (λhx1=>?_) (λhx1=>?_)
 have hx1d:=of_decide_eq_true hx1
 refine qT hx1 ?_
 refine Aw (Al ?_)
 refine Bb (Ab ?_)
 refine Ae 1 ?_
 refine Bl (.elt 2 (λq=>AV.cell (.lit (Ai (c i))) q)) (Bk 141 (.tmp 21) (.tmp 23) underlying141 2 n i (λi0=> .lit (Ai (c i0))) (i:Int) sizeOf96) ?_
 refine Ae 4 ?_
 refine As [3,6,7,8,9,21,22,23] ?_
 refine Bi (Ae 4 ?_)
 refine Mw (.lit (Ai (c i*y))) (.set 1 (.box 190 [.int 0])) (Je 117 #[.tmp 6,.tmp 30,.tmp 31] #[190,96,96] (by kernel_rfl) (λ_ _=>by kernel_rfl) 1 190 [.int .i64 0] (by kernel_rfl) [.lit (Ai (c i)),.lit (Ai y)] (by kernel_rfl) (by kernel_rfl) (Ai (c i*y)) (Uo (c i) y (hc _ (by omega)) hy (hp _ (by omega)))) ?_
 refine Bl (.ptr 2 (i*2)) (Hk 141 (.tmp 28) (.tmp 29) (by kernel_rfl) underlying141 2 2 n i (i:Int) (by kernel_rfl) (by kernel_rfl) sizeOf96 (by omega) (by omega)) ?_
 refine Mw (.lit Go.undef) (.set 2 (.vec 96 2 n (λxi=>if xi=i then .lit (Ai (c i*y)) else (λxi=>WA (Ui (λi=>c i*y) i xi)) xi))) (Lb 96 (.tmp 33) (.tmp 32) (by kernel_rfl) 2 sizeOf96 2 i (by kernel_rfl) 96 n (λxi=>WA (Ui (λi=>c i*y) i xi)) (by kernel_rfl) (by omega) (by kernel_rfl) (by kernel_rfl) (by kernel_rfl) (.lit (Ai (c i*y))) (by kernel_rfl)) ?_
 refine Bx [3,6,7,21,22,23] ?_
 refine Ov 2 96 2 n (λxi=>if xi=i then .lit (Ai (c i*y)) else (λxi=>WA (Ui (λi=>c i*y) i xi)) xi) (λxi=>WA (Ui (λi=>c i*y) (i+1) xi)) (by kernel_rfl) (λx9 hx9=>uW (λi=>c i*y) i _) ?_
 refine Ee [3,6,7,21,22,23] ⟨[(3,.ptr 0 0),(6,.ptr 1 0),(7,.osl 2 2 n),(21,Bf n c),(22,.int (n:Int)),(23,.int (i:Int))],[(0,.box 96 [.bool (decide (y<0)),.lit (.string (Cw (y).natAbs))]),(1,.box 190 [.int 0]),(2,.vec 96 2 n (λxi=>WA (Ui (λi=>c i*y) (i+1) xi))),(3,.box 96 [.bool (decide (c i<0)),.lit (.string (Cw (c i).natAbs))])],4,39⟩ ?_
 refine Hg [(0,0),(1,1),(2,2)] 3 0 hA0 _ (Av (Av (Ck (λi _ j hj=>match j,hj with|0,_=>rfl|1,_=>rfl|_+2,h=>absurd h (by omega)) (Av Cx)))) ?_
 refine Bi (qw ((i:Int)+1) ((i+1:Nat):Int) ?_)
 refine Ae 1 ?_
 refine Bx [3,6,7,21,22,23] ?_
 exact⟨_,(by omega:n-(i+1)<n-i),i+1,(by omega),rfl,trivial,(by kernel_rfl)⟩
 have hx1d:=of_decide_eq_false hx1
 refine qF hx1 ?_
 refine Co (Ov 2 96 2 n (λxi=>WA (Ui (λi=>c i*y) i xi)) (λxi=>WA ((λi=>c i*y) xi)) (by kernel_rfl) (λx9 hx9=>zZ (by omega)) ?_)
 refine Qq 2 [7] 96 2 n (λxi=>WA ((λi=>c i*y) xi)) (by kernel_rfl) (by kernel_rfl) (λi _ j hj=>match j,hj with|0,_=>rfl|1,_=>rfl|_+2,h=>absurd h (by omega)) ?_
 refine Ee [3,6,7,21,22,23,24] ⟨[(3,.ptr 0 0),(6,.ptr 1 0),(7,.slc 2 n (λxi=>WA ((λi=>c i*y) xi))),(21,Bf n c),(22,.int (n:Int)),(23,.int (i:Int)),(24,.bool false)],[(0,.box 96 [.bool (decide (y<0)),.lit (.string (Cw (y).natAbs))]),(1,.box 190 [.int 0])],3,39⟩ ?_
 refine Ab (Ae 1 ?_)
 refine Fa 119 [.ptr 1 0,.slc 2 n (λxi=>WA ((λi=>c i*y) xi))] 19 rfl (by kernel_rfl) (Ps 119 #[.tmp 6,.tmp 35] #[190,141] (by kernel_rfl) (λ_ _=>by kernel_rfl) _ (by kernel_rfl)) func119 rfl ntmps119 (by kernel_rfl) λ_ hD2=>?_
 refine Bu 2 [0,1] ?_
 refine Al (Ab ?_)
 refine Ae 5 ?_
 refine qb false ?_
 refine As [0,1,11] ?_
 refine Bq (Aw ?_)
 refine Ab (Ae 1 ?_)
 refine Fg (fE n (λi=>c i*y) (by omega) hp) ?_
 refine Ae 2 ?_
 refine As [4,5] ?_
 refine Be ?_
 refine⟨.inl rfl,.tup [Bf (Du (λi=>c i*y) n) (λi=>c i*y),.int 0],(Acb results119 (Fn (x:=Bf (Du (λi=>c i*y) n) (λi=>c i*y)) (by kernel_rfl)) (Fn (x:= .int 0) (by kernel_rfl))).castI (by kernel_rfl),?_⟩
 refine Ae 4 ?_
 refine As [4,5] ?_
 refine Be ?_
 exact⟨.inl rfl,(Cv results99 (Ak (x:=Bf (Du (λi=>c i*y) n) (λi=>c i*y)) (by kernel_rfl) (by kernel_rfl)) (Ak (x:= .int 0) (by kernel_rfl) (by kernel_rfl))).cast (by kernel_rfl)⟩
def Lz (a b:Int) (c:Nat->Int) (t k:Nat):Int:=if k<t then (if k=0 then 0 else c (k-1)*b)+c k*a else if k=t/\0<t then c (t-1)*b else 0
theorem yU (a b:Int) (c:Nat->Int) (k:Nat):WA 0=WA (Lz a b c 0 k):=by
 unfold Lz
 rw[if_neg (Nat.not_lt_zero k),if_neg (by omega)]
theorem yT (a b:Int) (c:Nat->Int) (t k:Nat):(if k=t+1 then WA (c t*b) else if k=t then WA (Lz a b c t t+c t*a) else WA (Lz a b c t k))=WA (Lz a b c (t+1) k):=by
 by_cases h1:k=t+1
 rw[if_pos h1]
 unfold Lz
 rw[if_neg (by omega),if_pos (by omega),Nat.add_sub_cancel]
 rw[if_neg h1]
 by_cases h2:k=t
 subst h2
 rw[if_pos rfl]
 unfold Lz
 rw[if_neg (Nat.lt_irrefl k),if_pos (Nat.lt_succ_self k)]
 by_cases h3:k=0
 subst h3;rw[if_neg (by omega),if_pos rfl]
 rw[if_pos (by omega),if_neg h3]
 rw[if_neg h2]
 by_cases h3:k<t
 rw[Lz,Lz,if_pos h3,if_pos (show k<t+1 by omega)]
 rw[Lz,Lz,if_neg h3,if_neg (by omega),if_neg (by omega),if_neg (by omega)]
def Kd (d:Int):Nat->Int
 |0=>1
 |k+1=>Kd d k*d
theorem Yz (d:Int):∀k,Kd d k=d^k
 |0=>by rw[Int.pow_zero];rfl
 |k+1=>by rw[Kd,Yz d k,Int.pow_succ]
def cN (p:Nat->Int) (m:Nat) (a b d:Int):Nat->Nat->Int
 |0,_=>p (m-1)
 |j+1,k=>Lz a b (cN p m a b d j) (j+1) k+(if k=0 then p (m-2-j)*Kd d (j+1) else 0)
theorem AaS (p:Nat->Int) (m:Nat) (a b d:Int) (j k:Nat) {q:Nat} (hq:q=m-2-j):(if k=0 then WA (Lz a b (cN p m a b d j) (j+1) 0+p q*Kd d (j+1)) else WA (Lz a b (cN p m a b d j) (j+1) k))=WA (cN p m a b d (j+1) k):=by
 subst hq
 rw[cN]
 by_cases h:k=0
 subst h;rw[if_pos rfl,if_pos rfl]
 rw[if_neg h,if_neg h,Int.add_zero]
theorem yS {a b:Int} {c:Nat->Int} {e:Nat} (ha:Cj a) (hb:Cj b) (hc:∀k,Bd e (c k)) (t k:Nat):Bd (e+64) (Lz a b c t k):=by
 have h1:∀k,Bd (e+63) (c k*a):=λk=>(hc k).mul (Bd.int ha.1 ha.2)
 have h2:∀k,Bd (e+63) (c k*b):=λk=>(hc k).mul (Bd.int hb.1 hb.2)
 unfold Lz
 split
 refine Bd.add (e:=e+63) ?_ (h1 k)
 split
 exact Bd.zero _
 exact h2 _
 split
 exact(h2 _).mono (by omega)
 exact Bd.zero _
theorem kE {p:Nat->Int} {m:Nat} {a b d:Int} (hp:∀i,Cj (p i)) (ha:Cj a) (hb:Cj b) (hd:Cj d):∀j k,Bd (70*j+63) (cN p m a b d j k)
 |0,_=>Bd.int (hp _).1 (hp _).2
 |j+1,k=>by
  have h1:=yS ha hb (kE (m:=m) hp ha hb hd j) (j+1) k
  rw[cN]
  refine(Bd.add (e:=70*j+63+64) (h1.mono (Nat.le_refl _)) ?_).mono (by omega)
  split
  rw[Yz];exact((Bd.int (hp _).1 (hp _).2).mul ((Bd.int hd.1 hd.2).pow (j+1))).mono (by omega)
  exact Bd.zero _
def c3 (a b d:Int):Nat->Int
 |0=>a
 |1=>b
 |_=>d
theorem AbU {a b d:Int} (ha:Cj a) (hb:Cj b) (hd:Cj d):∀i,Cj (c3 a b d i)
 |0=>ha
 |1=>hb
 |_+2=>hd
theorem Aak {c:Nat->Int} {n:Nat} (h:∀i,Cj (c i)):0<=Gb c n/\Gb c n<=64:=mD (k:=64) n λi _=>by
 have:=(Bd.int (h i).1 (h i).2).le
 exact Hb.2 (by omega)
theorem jH (k0:Nat) (p:Nat->Int) (a b d:Int) (hm:k0<=5) (hp:∀i,Cj (p i)) (hl:p k0≠0) (ha:Cj a) (hb:Cj b) (hd:Cj d) (hdp:0<d):AF Tryz.prog 98 [Bf (k0+1) p,WA a,WA b,WA d] (.tup [Bf (Du (cN p (k0+1) a b d k0) (k0+1)) (cN p (k0+1) a b d k0),.int 0]):=by
 have hsp:=Aak (n:=k0+1) hp
 have hs3:=Aak (n:=3) (AbU ha hb hd)
 have hml:0<=((k0+1-1:Nat):Int)*(Gb (c3 a b d) 3+1)/\((k0+1-1:Nat):Int)*(Gb (c3 a b d) 3+1)<=325:=⟨Int.mul_nonneg (by omega) (by omega),Int.le_trans (Int.mul_le_mul (show ((k0+1-1:Nat):Int)<=5 by omega) (show Gb (c3 a b d) 3+1<=65 by omega) (by omega) (by omega)) (by decide)⟩
 have fc:∀j k,j<=6->Gh (cN p (k0+1) a b d j k):=λj k hj=>(kE hp ha hb hd j k).fit (by omega)
 have fi:∀j t k,j<=6->Bd 600 (Lz a b (cN p (k0+1) a b d j) t k):=λj t k hj=>(yS ha hb (kE hp ha hb hd j) t k).mono (by omega)
 have fm:∀j k y,j<=6->Cj y->Bd 600 (cN p (k0+1) a b d j k*y):=λj k y hj hy=>((kE hp ha hb hd j k).mul (Bd.int hy.1 hy.2)).mono (by omega)
 have fd:∀j,j<=6->Bd 500 (Kd d j):=λj hj=>by rw[Yz];exact((Bd.int hd.1 hd.2).pow j).mono (by omega)
 have fp:∀i j,j<=6->Bd 600 (p i*Kd d j):=λi j hj=>((Bd.int (hp i).1 (hp i).2).mul (fd j hj)).mono (by omega)
 refine Dl ⟨[(0,Bf (k0+1) p),(1,.lit (Ai a)),(2,.lit (Ai b)),(3,.lit (Ai d))],[],0,121⟩ func98 rfl 121 ntmps98 (by kernel_rfl) (by kernel_rfl) λB D0 hA0=>?_
 refine Bu 5 [0,5,6,7] ?_
 refine Al (Ab ?_)
 refine Ae 1 ?_
 refine Bl (.bool true) (Br 114 #[.tmp 17] #[141] [Bf (k0+1) p] (.bool true) (Oy (k0+1) p (by omega) (λi _=>Iq (hp i)) (.inr hl))) ?_
 refine qb false ?_
 refine Ae 2 ?_
 refine Ei (.bool true) .none (Br 66 #[.tmp 21] #[96] [.lit (Ai a)] (.bool true) (Ju _ (Iq ha))) ?_
 refine Ga false ?_
 refine Ae 3 ?_
 refine Ei (.bool true) .none (Br 66 #[.tmp 26] #[96] [.lit (Ai b)] (.bool true) (Ju _ (Iq hb))) ?_
 refine Ga false ?_
 refine Ae 3 ?_
 refine Ei (.bool true) .none (Br 66 #[.tmp 31] #[96] [.lit (Ai d)] (.bool true) (Ju _ (Iq hd))) ?_
 refine Ga false ?_
 refine Ae 1 ?_
 refine As [0,5,6,7,34] ?_
 refine Bq (Aw ?_)
 refine Al (Ab ?_)
 refine Ae 1 ?_
 refine Fg (Us d (Iq hd)) ?_
 refine qb (decide (d.sign<=0)) ?_
 refine As [0,5,6,7,37] ?_
 refine qF (b:=(decide (d.sign<=0))) (decide_eq_false (by rw[Int.sign_eq_one_of_pos hdp];decide)) ?_
 refine Aw (Al ?_)
 refine Ab (Ae 1 ?_)
 refine Bl (.int ((k0+1:Nat):Int)) (Dg (.tmp 38) 141 #[141] underlying141 (k0+1) (.inl ⟨2,(λi0=> .lit (Ai (p i0))),by kernel_rfl⟩)) ?_
 refine qb (decide (((k0+1:Nat):Int)=0)) ?_
 refine As [0,5,6,7,40] ?_
 refine qF (b:=(decide (((k0+1:Nat):Int)=0))) (decide_eq_false (by omega)) ?_
 refine Aw (Al ?_)
 refine Dk [(1,.int (Gb p (k0+1)),.none),(3,.int ((k0+1:Nat):Int),.none),(4,.int ((k0+1-1:Nat):Int),.none),(8,.osl 3 2 3,(.new 3 (.vec 96 2 3 (λxi=>WA (c3 a b d xi))))),(9,.int (Gb (c3 a b d) 3),(.read 3)),(10,.int (Gb (c3 a b d) 3+1),.none),(11,.int (((k0+1-1:Nat):Int)*(Gb (c3 a b d) 3+1)),.none),(12,.int (Gb p (k0+1)+((k0+1-1:Nat):Int)*(Gb (c3 a b d) 3+1)),.none),(13,.int (Gb p (k0+1)+((k0+1-1:Nat):Int)*(Gb (c3 a b d) 3+1)+8),.none),(14,.bool false,.none)] [0,5,6,7,55] 4 ⟨?_,?_,?_,?_,?_,?_,?_,?_,?_,?_,trivial⟩ ?_
 exact Bn (Br 116 #[.tmp 41] #[140] [Bf (k0+1) p] (.int (Gb p (k0+1))) (pX (k0+1) p (by omega) (λi _=>Iq (hp i))))
 exact Bn (Dg (.tmp 43) 141 #[141] underlying141 (k0+1) (.inl ⟨2,(λi0=> .lit (Ai (p i0))),by kernel_rfl⟩))
 exact Yk (((k0+1:Nat):Int)-1)
 exact Bn (Cp 140 3 #[(0,(.tmp 46)),(1,(.tmp 47)),(2,(.tmp 48))] underlying140 2 sizeOf96 _ zeroValue96 3 [.bool (decide (a<0)),.lit (.string (Cw (a).natAbs)),.bool (decide (b<0)),.lit (.string (Cw (b).natAbs)),.bool (decide (d<0)),.lit (.string (Cw (d).natAbs))] (λxi=>WA (c3 a b d xi)))
 exact Bn (uL 116 #[.tmp 49] #[140] (by kernel_rfl) (λ_ _=>by kernel_rfl) 3 (.vec 96 2 3 (λxi=>WA (c3 a b d xi))) (by kernel_rfl) (λ_ _ _ _ h=>by cases h;exact(λi _ j hj=>match j,hj with|0,_=>rfl|1,_=>rfl|_+2,h=>absurd h (by omega))) [.osl 3 2 3] (by kernel_rfl) [.sl 2 3 (λxi=>WA (c3 a b d xi))] (by kernel_rfl) (.int .i64 (Gb (c3 a b d) 3)) (pX 3 (c3 a b d) (by omega) (λi _=>Iq (AbU ha hb hd i))))
 exact Yk (Gb (c3 a b d) 3+1)
 exact Yk (((k0+1-1:Nat):Int)*(Gb (c3 a b d) 3+1))
 exact Yk (Gb p (k0+1)+((k0+1-1:Nat):Int)*(Gb (c3 a b d) 3+1))
 exact Yk (Gb p (k0+1)+((k0+1-1:Nat):Int)*(Gb (c3 a b d) 3+1)+8)
 exact Bn (Dx (v:= .bool (decide ((65536:Int)<Gb p (k0+1)+((k0+1-1:Nat):Int)*(Gb (c3 a b d) 3+1)+8))) (v':= .bool false) (congrArg Value.bool (decide_eq_false (by omega))) _)
 refine Bq (Aw ?_)
 refine Bu 1 [0,5,6,7,10] ?_
 refine Dk [(2,.int ((k0+1:Nat):Int),.none),(3,.int ((k0+1-1:Nat):Int),.none),(4,.elt 2 (λq=>AV.cell (.lit (Ai (p (k0+1-1)))) q),.none),(6,.osl 5 2 1,(.new 5 (.vec 96 2 1 (λ_=> .lit (Ai (p (k0+1-1))))))),(7,.lit (Ai 1),.none)] [0,5,6,7,10,11,12] 7 ⟨?_,?_,?_,?_,?_,trivial⟩ ?_
 exact Bn (Dg (.tmp 57) 141 #[141] underlying141 (k0+1) (.inl ⟨2,(λi0=> .lit (Ai (p i0))),by kernel_rfl⟩))
 exact Yk (((k0+1:Nat):Int)-1)
 exact Bn (Bk 141 (.tmp 56) (.tmp 59) underlying141 2 (k0+1) (k0+1-1) (λi0=> .lit (Ai (p i0))) ((k0+1-1:Nat):Int) sizeOf96)
 exact Bn (Cp 141 1 #[(0,(.tmp 61))] underlying141 2 sizeOf96 _ zeroValue96 5 [.bool (decide (p (k0+1-1)<0)),.lit (.string (Cw (p (k0+1-1)).natAbs))] (λ_=> .lit (Ai (p (k0+1-1)))))
 exact Oi (Hh 1 (by decide) (by decide))
 refine Al (Ab ?_)
 refine Ae 1 ?_
 refine Bl (.int ((k0+1:Nat):Int)) (Dg (.tmp 64) 141 #[141] underlying141 (k0+1) (.inl ⟨2,(λi0=> .lit (Ai (p i0))),by kernel_rfl⟩)) ?_
 refine qw (((k0+1:Nat):Int)-2) (((k0-0:Nat):Int)-1) ?_
 refine Ae 1 ?_
 refine As [0,5,6,7,10,11,12,13] ?_
 refine Bb (Cn (λm s=>∃j,j<=k0/\m=k0-j/\True/\s=⟨[(0,Bf (k0+1) p),(5,.ptr 0 0),(6,.ptr 1 0),(7,.ptr 2 0),(10,.ptr 4 0),(11,.osl 5 2 (j+1)),(12,.ptr 6 0),(13,.int (((k0-j:Nat):Int)-1))],[(0,.box 96 [.bool (decide (a<0)),.lit (.string (Cw (a).natAbs))]),(1,.box 96 [.bool (decide (b<0)),.lit (.string (Cw (b).natAbs))]),(2,.box 96 [.bool (decide (d<0)),.lit (.string (Cw (d).natAbs))]),(3,.vec 96 2 3 (λxi=>WA (c3 a b d xi))),(4,.box 190 [.int 0]),(5,.vec 96 2 (j+1) (λxi=>WA (cN p (k0+1) a b d j xi))),(6,.box 96 [.bool (decide (Kd d j<0)),.lit (.string (Cw (Kd d j).natAbs))])],7,121⟩) k0 ⟨0,Nat.zero_le _,rfl,trivial,(by kernel_rfl)⟩ ?_)
 rintro _ _ ⟨j,hjn,rfl,hFj,rfl⟩
 refine Al (Ab ?_)
 refine Ae 1 ?_
 refine qb (decide ((0:Int)<=((k0-j:Nat):Int)-1)) ?_
 refine As [0,5,6,7,10,11,12,13,68] ?_
 refine Ao (decide ((0:Int)<=((k0-j:Nat):Int)-1)) (λhx1=>?_) (λhx1=>?_)
 have hx1d:=of_decide_eq_true hx1
 refine qT hx1 ?_
 refine Aw (Al ?_)
 refine Bb (Ab ?_)
 refine Ae 2 ?_
 refine Mw (.lit (Ai (Kd d (j+1)))) (.set 4 (.box 190 [.int 0])) (Je 117 #[.tmp 10,.tmp 71,.tmp 72] #[190,96,96] (by kernel_rfl) (λ_ _=>by kernel_rfl) 4 190 [.int .i64 0] (by kernel_rfl) [.lit (Ai (Kd d j)),.lit (Ai d)] (by kernel_rfl) (by kernel_rfl) (Ai (Kd d (j+1))) (Uo (Kd d j) d ((fd j (by omega)).fit (by omega)) (Iq hd) ((fd (j+1) (by omega)).fit (by omega)))) ?_
 refine Ae 1 ?_
 refine As [0,5,6,7,10,11,12,13] ?_
 refine Ab (Ae 1 ?_)
 refine Bl (.int ((j+1:Nat):Int)) (Dg (.tmp 74) 141 #[141] underlying141 (j+1) (.inr ⟨5,2,by kernel_rfl⟩)) ?_
 refine qw (((j+1:Nat):Int)+1) ((j+1+1:Nat):Int) ?_
 refine Mw (.osl 7 2 (j+1+1)) (.new 7 (.vec 96 2 (j+1+1) (λ_=> .lit (Ai 0)))) (Tm 141 (.tmp 76) (.tmp 76) (by kernel_rfl) underlying141 2 24 (.agg #[.bool false,.string ⟨#[]⟩]) (by kernel_rfl) (by kernel_rfl) (by decide) ((j+1+1:Nat):Int) (j+1+1) (by omega) (by kernel_rfl) (by kernel_rfl) (by omega) (by omega) (by omega) 7 (.lit (Ai 0)) (by kernel_rfl)) ?_
 refine Ae 1 ?_
 refine As [0,5,6,7,10,11,12,13,14] ?_
 refine Al (Ab ?_)
 refine Ae 1 ?_
 refine Bl (.int ((j+1:Nat):Int)) (Dg (.tmp 78) 141 #[141] underlying141 (j+1) (.inr ⟨5,2,by kernel_rfl⟩)) ?_
 refine Ae 1 ?_
 refine As [0,5,6,7,10,12,13,14,78,79,80] ?_
 refine Bb (Ov 7 96 2 (j+1+1) (λ_=> .lit (Ai 0)) (λxi=>WA (Lz a b (cN p (k0+1) a b d j) 0 xi)) (by kernel_rfl) (λx9 hx9=>yU _ _ _ _) ?_)
 refine Cn (λm s=>∃t,t<=j+1/\m=j+1-t/\True/\s=⟨[(0,Bf (k0+1) p),(5,.ptr 0 0),(6,.ptr 1 0),(7,.ptr 2 0),(10,.ptr 4 0),(12,.ptr 6 0),(13,.int (((k0-j:Nat):Int)-1)),(14,.osl 7 2 (j+1+1)),(78,.osl 5 2 (j+1)),(79,.int ((j+1:Nat):Int)),(80,.int (t:Int))],[(0,.box 96 [.bool (decide (a<0)),.lit (.string (Cw (a).natAbs))]),(1,.box 96 [.bool (decide (b<0)),.lit (.string (Cw (b).natAbs))]),(2,.box 96 [.bool (decide (d<0)),.lit (.string (Cw (d).natAbs))]),(3,.vec 96 2 3 (λxi=>WA (c3 a b d xi))),(4,.box 190 [.int 0]),(5,.vec 96 2 (j+1) (λxi=>WA (cN p (k0+1) a b d j xi))),(6,.box 96 [.bool (decide (Kd d (j+1)<0)),.lit (.string (Cw (Kd d (j+1)).natAbs))]),(7,.vec 96 2 (j+1+1) (λxi=>WA (Lz a b (cN p (k0+1) a b d j) t xi)))],8,121⟩) (j+1) ⟨0,Nat.zero_le _,rfl,trivial,(by kernel_rfl)⟩ ?_
 rintro _ _ ⟨t,htn,rfl,hFt,rfl⟩
 refine Ab (qb (decide ((t:Int)<((j+1:Nat):Int))) ?_)
 refine As [0,5,6,7,10,12,13,14,78,79,80,81] ?_
 refine Al ?_
 refine Ao (decide ((t:Int)<((j+1:Nat):Int))) (λhx2=>?_) (λhx2=>?_)
 have hx2d:=of_decide_eq_true hx2
 refine qT hx2 ?_
 refine Aw (Al ?_)
 refine Bb (Ab ?_)
 refine Ae 1 ?_
 refine Bl (.ptr 5 (t*2)) (Hk 141 (.tmp 78) (.tmp 80) (by kernel_rfl) underlying141 5 2 (j+1) t (t:Int) (by kernel_rfl) (by kernel_rfl) sizeOf96 (by omega) (by omega)) ?_
 refine Mw (.lit (Ai (cN p (k0+1) a b d j t))) (.read 5) (Pp 96 (.tmp 83) (by kernel_rfl) isAgg96 2 sizeOf96 5 t (by kernel_rfl) 96 (j+1) (λxi=>WA (cN p (k0+1) a b d j xi)) (by kernel_rfl) (by omega)) ?_
 refine Ae 3 ?_
 refine As [0,5,6,7,10,12,13,14,15,16,78,79,80] ?_
 refine Dk [(4,.ptr 7 (t*2),.none),(5,.lit (Ai (Lz a b (cN p (k0+1) a b d j) t t)),(.read 7)),(8,.lit (Ai (cN p (k0+1) a b d j t*a)),(.set 4 (.box 190 [.int 0]))),(9,.lit (Ai (Lz a b (cN p (k0+1) a b d j) t t+cN p (k0+1) a b d j t*a)),(.set 4 (.box 190 [.int 0]))),(10,.ptr 7 (t*2),.none),(11,.lit Go.undef,(.set 7 (.vec 96 2 (j+1+1) (λxi=>if xi=t then .lit (Ai (Lz a b (cN p (k0+1) a b d j) t t+cN p (k0+1) a b d j t*a)) else (λxi=>WA (Lz a b (cN p (k0+1) a b d j) t xi)) xi))))] [0,5,6,7,10,12,13,14,15,16,78,79,80] 9 ⟨?_,?_,?_,?_,?_,?_,trivial⟩ ?_
 exact Bn (Hk 141 (.tmp 87) (.tmp 88) (by kernel_rfl) underlying141 7 2 (j+1+1) t (t:Int) (by kernel_rfl) (by kernel_rfl) sizeOf96 (by omega) (by omega))
 exact Bn (Pp 96 (.tmp 89) (by kernel_rfl) isAgg96 2 sizeOf96 7 t (by kernel_rfl) 96 (j+1+1) (λxi=>WA (Lz a b (cN p (k0+1) a b d j) t xi)) (by kernel_rfl) (by omega))
 exact Bn (Je 117 #[.tmp 10,.tmp 91,.tmp 92] #[190,96,96] (by kernel_rfl) (λ_ _=>by kernel_rfl) 4 190 [.int .i64 0] (by kernel_rfl) [.lit (Ai (cN p (k0+1) a b d j t)),.lit (Ai a)] (by kernel_rfl) (by kernel_rfl) (Ai (cN p (k0+1) a b d j t*a)) (Uo _ _ (fc j _ (by omega)) (Iq ha) ((fm j _ _ (by omega) ha).fit (by omega))))
 exact Bn (Je 118 #[.tmp 10,.tmp 90,.tmp 93] #[190,96,96] (by kernel_rfl) (λ_ _=>by kernel_rfl) 4 190 [.int .i64 0] (by kernel_rfl) [.lit (Ai (Lz a b (cN p (k0+1) a b d j) t t)),.lit (Ai (cN p (k0+1) a b d j t*a))] (by kernel_rfl) (by kernel_rfl) (Ai (Lz a b (cN p (k0+1) a b d j) t t+cN p (k0+1) a b d j t*a)) (pS _ _ ((fi j _ _ (by omega)).fit (by omega)) ((fm j _ _ (by omega) ha).fit (by omega)) (((fi j _ _ (by omega)).add (fm j _ _ (by omega) ha)).fit (by omega))))
 exact Bn (Hk 141 (.tmp 85) (.tmp 86) (by kernel_rfl) underlying141 7 2 (j+1+1) t (t:Int) (by kernel_rfl) (by kernel_rfl) sizeOf96 (by omega) (by omega))
 exact Bn (Lb 96 (.tmp 95) (.tmp 94) (by kernel_rfl) 2 sizeOf96 7 t (by kernel_rfl) 96 (j+1+1) (λxi=>WA (Lz a b (cN p (k0+1) a b d j) t xi)) (by kernel_rfl) (by omega) (by kernel_rfl) (by kernel_rfl) (by kernel_rfl) (.lit (Ai (Lz a b (cN p (k0+1) a b d j) t t+cN p (k0+1) a b d j t*a))) (by kernel_rfl))
 refine Bi (Ae 2 ?_)
 refine qw ((t:Int)+1) ((t+1:Nat):Int) ?_
 refine Ae 2 ?_
 refine Mw (.lit (Ai (cN p (k0+1) a b d j t*b))) (.set 4 (.box 190 [.int 0])) (Je 117 #[.tmp 10,.tmp 99,.tmp 100] #[190,96,96] (by kernel_rfl) (λ_ _=>by kernel_rfl) 4 190 [.int .i64 0] (by kernel_rfl) [.lit (Ai (cN p (k0+1) a b d j t)),.lit (Ai b)] (by kernel_rfl) (by kernel_rfl) (Ai (cN p (k0+1) a b d j t*b)) (Uo _ _ (fc j _ (by omega)) (Iq hb) ((fm j _ _ (by omega) hb).fit (by omega)))) ?_
 refine Bl (.ptr 7 ((t+1)*2)) (Hk 141 (.tmp 96) (.tmp 98) (by kernel_rfl) underlying141 7 2 (j+1+1) (t+1) ((t+1:Nat):Int) (by kernel_rfl) (by kernel_rfl) sizeOf96 (by omega) (by omega)) ?_
 refine Mw (.lit Go.undef) (.set 7 (.vec 96 2 (j+1+1) (λxi=>if xi=t+1 then .lit (Ai (cN p (k0+1) a b d j t*b)) else (λxi=>if xi=t then .lit (Ai (Lz a b (cN p (k0+1) a b d j) t t+cN p (k0+1) a b d j t*a)) else (λxi=>WA (Lz a b (cN p (k0+1) a b d j) t xi)) xi) xi))) (Lb 96 (.tmp 102) (.tmp 101) (by kernel_rfl) 2 sizeOf96 7 (t+1) (by kernel_rfl) 96 (j+1+1) (λxi=>if xi=t then .lit (Ai (Lz a b (cN p (k0+1) a b d j) t t+cN p (k0+1) a b d j t*a)) else (λxi=>WA (Lz a b (cN p (k0+1) a b d j) t xi)) xi) (by kernel_rfl) (by omega) (by kernel_rfl) (by kernel_rfl) (by kernel_rfl) (.lit (Ai (cN p (k0+1) a b d j t*b))) (by kernel_rfl)) ?_
 refine Bx [0,5,6,7,10,12,13,14,78,79,80] ?_
 refine Ov 7 96 2 (j+1+1) (λxi=>if xi=t+1 then .lit (Ai (cN p (k0+1) a b d j t*b)) else (λxi=>if xi=t then .lit (Ai (Lz a b (cN p (k0+1) a b d j) t t+cN p (k0+1) a b d j t*a)) else (λxi=>WA (Lz a b (cN p (k0+1) a b d j) t xi)) xi) xi) (λxi=>WA (Lz a b (cN p (k0+1) a b d j) (t+1) xi)) (by kernel_rfl) (λx9 hx9=>yT _ _ _ _ _) ?_
 refine Ee [0,5,6,7,10,12,13,14,78,79,80] ⟨[(0,Bf (k0+1) p),(5,.ptr 0 0),(6,.ptr 1 0),(7,.ptr 2 0),(10,.ptr 4 0),(12,.ptr 6 0),(13,.int (((k0-j:Nat):Int)-1)),(14,.osl 7 2 (j+1+1)),(78,.osl 5 2 (j+1)),(79,.int ((j+1:Nat):Int)),(80,.int (t:Int))],[(0,.box 96 [.bool (decide (a<0)),.lit (.string (Cw (a).natAbs))]),(1,.box 96 [.bool (decide (b<0)),.lit (.string (Cw (b).natAbs))]),(2,.box 96 [.bool (decide (d<0)),.lit (.string (Cw (d).natAbs))]),(3,.vec 96 2 3 (λxi=>WA (c3 a b d xi))),(4,.box 190 [.int 0]),(5,.vec 96 2 (j+1) (λxi=>WA (cN p (k0+1) a b d j xi))),(6,.box 96 [.bool (decide (Kd d (j+1)<0)),.lit (.string (Cw (Kd d (j+1)).natAbs))]),(7,.vec 96 2 (j+1+1) (λxi=>WA (Lz a b (cN p (k0+1) a b d j) (t+1) xi))),(8,.box 96 [.bool (decide (cN p (k0+1) a b d j t<0)),.lit (.string (Cw (cN p (k0+1) a b d j t).natAbs))])],9,121⟩ ?_
 refine Hg [(0,0),(1,1),(2,2),(3,3),(4,4),(5,5),(6,6),(7,7)] 8 0 hA0 _ (Av (Av (Av (Ck (λi _ j hj=>match j,hj with|0,_=>rfl|1,_=>rfl|_+2,h=>absurd h (by omega)) (Av (Ck (λi _ j hj=>match j,hj with|0,_=>rfl|1,_=>rfl|_+2,h=>absurd h (by omega)) (Av (Ck (λi _ j hj=>match j,hj with|0,_=>rfl|1,_=>rfl|_+2,h=>absurd h (by omega)) (Av Cx))))))))) ?_
 refine Bi (qw ((t:Int)+1) ((t+1:Nat):Int) ?_)
 refine Ae 1 ?_
 refine Bx [0,5,6,7,10,12,13,14,78,79,80] ?_
 exact⟨_,(by omega:j+1-(t+1)<j+1-t),t+1,(by omega),rfl,trivial,(by kernel_rfl)⟩
 have hx2d:=of_decide_eq_false hx2
 refine qF hx2 ?_
 refine Co ?_
 have hte:t=j+1:=by omega
 subst hte
 refine Dk [(2,.ptr 7 (0*2),.none),(3,.lit (Ai (Lz a b (cN p (k0+1) a b d j) (j+1) 0)),(.read 7)),(6,.elt 2 (λq=>AV.cell (.lit (Ai (p ((((k0-j:Nat):Int)-1).toNat)))) q),.none),(9,.lit (Ai (p ((((k0-j:Nat):Int)-1).toNat)*(Kd d (j+1)))),(.set 4 (.box 190 [.int 0]))),(10,.lit (Ai (Lz a b (cN p (k0+1) a b d j) (j+1) 0+p ((((k0-j:Nat):Int)-1).toNat)*(Kd d (j+1)))),(.set 4 (.box 190 [.int 0]))),(11,.ptr 7 (0*2),.none),(12,.lit Go.undef,(.set 7 (.vec 96 2 (j+1+1) (λxi=>if xi=0 then .lit (Ai (Lz a b (cN p (k0+1) a b d j) (j+1) 0+p ((((k0-j:Nat):Int)-1).toNat)*(Kd d (j+1)))) else (λxi=>WA (Lz a b (cN p (k0+1) a b d j) (j+1) xi)) xi))))] [0,5,6,7,10,12,13,14] 8 ⟨?_,?_,?_,?_,?_,?_,?_,trivial⟩ ?_
 exact Bn (Hk 141 (.tmp 105) (.const (.int .i64 0)) (by kernel_rfl) underlying141 7 2 (j+1+1) 0 0 (by kernel_rfl) (by kernel_rfl) sizeOf96 (by omega) (by omega))
 exact Bn (Pp 96 (.tmp 106) (by kernel_rfl) isAgg96 2 sizeOf96 7 0 (by kernel_rfl) 96 (j+1+1) (λxi=>WA (Lz a b (cN p (k0+1) a b d j) (j+1) xi)) (by kernel_rfl) (by omega))
 exact Bn (Bk 141 (.tmp 108) (.tmp 109) underlying141 2 (k0+1) ((((k0-j:Nat):Int)-1).toNat) (λi0=> .lit (Ai (p i0))) (((k0-j:Nat):Int)-1) sizeOf96)
 exact Bn (Je 117 #[.tmp 10,.tmp 111,.tmp 112] #[190,96,96] (by kernel_rfl) (λ_ _=>by kernel_rfl) 4 190 [.int .i64 0] (by kernel_rfl) [.lit (Ai (p ((((k0-j:Nat):Int)-1).toNat))),.lit (Ai (Kd d (j+1)))] (by kernel_rfl) (by kernel_rfl) (Ai (p ((((k0-j:Nat):Int)-1).toNat)*(Kd d (j+1)))) (Uo _ _ (Iq (hp _)) ((fd _ (by omega)).fit (by omega)) ((fp _ _ (by omega)).fit (by omega))))
 exact Bn (Je 118 #[.tmp 10,.tmp 107,.tmp 113] #[190,96,96] (by kernel_rfl) (λ_ _=>by kernel_rfl) 4 190 [.int .i64 0] (by kernel_rfl) [.lit (Ai (Lz a b (cN p (k0+1) a b d j) (j+1) 0)),.lit (Ai (p ((((k0-j:Nat):Int)-1).toNat)*(Kd d (j+1))))] (by kernel_rfl) (by kernel_rfl) (Ai (Lz a b (cN p (k0+1) a b d j) (j+1) 0+p ((((k0-j:Nat):Int)-1).toNat)*(Kd d (j+1)))) (pS _ _ ((fi j _ _ (by omega)).fit (by omega)) ((fp _ _ (by omega)).fit (by omega)) (((fi j _ _ (by omega)).add (fp _ _ (by omega))).fit (by omega))))
 exact Bn (Hk 141 (.tmp 104) (.const (.int .i64 0)) (by kernel_rfl) underlying141 7 2 (j+1+1) 0 0 (by kernel_rfl) (by kernel_rfl) sizeOf96 (by omega) (by omega))
 exact Bn (Lb 96 (.tmp 115) (.tmp 114) (by kernel_rfl) 2 sizeOf96 7 0 (by kernel_rfl) 96 (j+1+1) (λxi=>WA (Lz a b (cN p (k0+1) a b d j) (j+1) xi)) (by kernel_rfl) (by omega) (by kernel_rfl) (by kernel_rfl) (by kernel_rfl) (.lit (Ai (Lz a b (cN p (k0+1) a b d j) (j+1) 0+p ((((k0-j:Nat):Int)-1).toNat)*(Kd d (j+1))))) (by kernel_rfl))
 refine Bi (Ae 2 ?_)
 refine Bx [0,5,6,7,10,11,12,13] ?_
 refine Ov 7 96 2 (j+1+1) (λxi=>if xi=0 then .lit (Ai (Lz a b (cN p (k0+1) a b d j) (j+1) 0+p ((((k0-j:Nat):Int)-1).toNat)*(Kd d (j+1)))) else (λxi=>WA (Lz a b (cN p (k0+1) a b d j) (j+1) xi)) xi) (λxi=>WA (cN p (k0+1) a b d (j+1) xi)) (by kernel_rfl) (λx9 hx9=>AaS _ _ _ _ _ _ _ (by omega)) ?_
 refine Ee [0,5,6,7,10,11,12,13] ⟨[(0,Bf (k0+1) p),(5,.ptr 0 0),(6,.ptr 1 0),(7,.ptr 2 0),(10,.ptr 4 0),(11,.osl 7 2 (j+1+1)),(12,.ptr 6 0),(13,.int (((k0-j:Nat):Int)-1))],[(0,.box 96 [.bool (decide (a<0)),.lit (.string (Cw (a).natAbs))]),(1,.box 96 [.bool (decide (b<0)),.lit (.string (Cw (b).natAbs))]),(2,.box 96 [.bool (decide (d<0)),.lit (.string (Cw (d).natAbs))]),(3,.vec 96 2 3 (λxi=>WA (c3 a b d xi))),(4,.box 190 [.int 0]),(5,.vec 96 2 (j+1) (λxi=>WA (cN p (k0+1) a b d j xi))),(6,.box 96 [.bool (decide (Kd d (j+1)<0)),.lit (.string (Cw (Kd d (j+1)).natAbs))]),(7,.vec 96 2 (j+1+1) (λxi=>WA (cN p (k0+1) a b d (j+1) xi)))],8,121⟩ ?_
 refine Hg [(0,0),(1,1),(2,2),(3,3),(4,4),(7,5),(6,6)] 7 0 hA0 _ (Av (Av (Av (Ck (λi _ j hj=>match j,hj with|0,_=>rfl|1,_=>rfl|_+2,h=>absurd h (by omega)) (Av (Ck (λi _ j hj=>match j,hj with|0,_=>rfl|1,_=>rfl|_+2,h=>absurd h (by omega)) (Av (Ck (λi _ j hj=>match j,hj with|0,_=>rfl|1,_=>rfl|_+2,h=>absurd h (by omega)) Cx)))))))) ?_
 refine Bi (Ae 1 ?_)
 refine qw (((k0-j:Nat):Int)-1-1) (((k0-(j+1):Nat):Int)-1) ?_
 refine Ae 1 ?_
 refine Bx [0,5,6,7,10,11,12,13] ?_
 exact⟨_,(by omega:k0-(j+1)<k0-j),j+1,(by omega),rfl,trivial,(by kernel_rfl)⟩
 have hx1d:=of_decide_eq_false hx1
 refine qF hx1 ?_
 refine Co ?_
 have hje:j=k0:=by omega
 subst hje
 refine Qq 5 [11] 96 2 (j+1) (λxi=>WA (cN p (j+1) a b d j xi)) (by kernel_rfl) (by kernel_rfl) (λi _ j hj=>match j,hj with|0,_=>rfl|1,_=>rfl|_+2,h=>absurd h (by omega)) ?_
 refine Ee [0,5,6,7,10,11,12,13,68] ⟨[(0,Bf (j+1) p),(5,.ptr 0 0),(6,.ptr 1 0),(7,.ptr 2 0),(10,.ptr 4 0),(11,.slc 2 (j+1) (λxi=>WA (cN p (j+1) a b d j xi))),(12,.ptr 6 0),(13,.int (((j-j:Nat):Int)-1)),(68,.bool false)],[(0,.box 96 [.bool (decide (a<0)),.lit (.string (Cw (a).natAbs))]),(1,.box 96 [.bool (decide (b<0)),.lit (.string (Cw (b).natAbs))]),(2,.box 96 [.bool (decide (d<0)),.lit (.string (Cw (d).natAbs))]),(3,.vec 96 2 3 (λxi=>WA (c3 a b d xi))),(4,.box 190 [.int 0]),(6,.box 96 [.bool (decide (Kd d j<0)),.lit (.string (Cw (Kd d j).natAbs))])],7,121⟩ ?_
 refine Ab (Ae 1 ?_)
 refine Fa 119 [.ptr 4 0,.slc 2 (j+1) (λxi=>WA (cN p (j+1) a b d j xi))] 19 rfl (by kernel_rfl) (Ps 119 #[.tmp 10,.tmp 117] #[190,141] (by kernel_rfl) (λ_ _=>by kernel_rfl) _ (by kernel_rfl)) func119 rfl ntmps119 (by kernel_rfl) λ_ hD3=>?_
 refine Bu 2 [0,1] ?_
 refine Al (Ab ?_)
 refine Ae 5 ?_
 refine qb false ?_
 refine As [0,1,11] ?_
 refine Bq (Aw ?_)
 refine Ab (Ae 1 ?_)
 refine Bl (Bf (Du (cN p (j+1) a b d j) (j+1)) (cN p (j+1) a b d j)) (Br 113 #[.tmp 17] #[141] [.slc 2 (j+1) (λxi=>WA (cN p (j+1) a b d j xi))] (Bf (Du (cN p (j+1) a b d j) (j+1)) (cN p (j+1) a b d j)) (fE (j+1) _ (by omega) (λi _=>fc _ i (by omega)))) ?_
 refine Ae 2 ?_
 refine As [4,5] ?_
 refine Be ?_
 refine⟨.inl rfl,.tup [Bf (Du (cN p (j+1) a b d j) (j+1)) (cN p (j+1) a b d j),.int 0],(Acb results119 (Fn (x:=Bf (Du (cN p (j+1) a b d j) (j+1)) (cN p (j+1) a b d j)) (by kernel_rfl)) (Fn (x:= .int 0) (by kernel_rfl))).castI (by kernel_rfl),?_⟩
 refine Ae 4 ?_
 refine As [8,9] ?_
 refine Be ?_
 exact⟨.inl rfl,(Cv results98 (Ak (x:=Bf (Du (cN p (j+1) a b d j) (j+1)) (cN p (j+1) a b d j)) (by kernel_rfl) (by kernel_rfl)) (Ak (x:= .int 0) (by kernel_rfl) (by kernel_rfl))).cast (by kernel_rfl)⟩
theorem zX {s:Sg} {a d:Int} (hs:Nz s) (ho:Gm s) (ha:Cj a) (hd:Cj d):Bd 390 (Cc s a d).x/\Bd 390 (Cc s a d).y/\Bd 390 (Cc s a d).z/\Bd 390 (Cc s a d).o:=
 ⟨((Uh hs.x ha hd _ ho.2.1.2.1).mono (by have:=ho.2.1.2.1;omega)).div _,((Uh hs.y ha hd _ ho.2.2.1.2.1).mono (by have:=ho.2.2.1.2.1;omega)).div _,((Uh hs.z ha hd _ ho.2.2.2.1.2.1).mono (by have:=ho.2.2.2.1.2.1;omega)).div _,((Ug hs hd).mono (by omega)).div _⟩
abbrev Ql (p:PL):V3:=⟨(p.x+p.x+p.o)/(p.o+p.o),(p.y+p.y+p.o)/(p.o+p.o),(p.z+p.z+p.o)/(p.o+p.o)⟩
theorem fF (z:Int) (h:Cj z):AF Tryz.prog 47 [WA z] (.lit (.tuple #[.int .i64 z,.int .i64 0])):=Jh (vs:=[_]) λw=>mN z w h.1 h.2
theorem AbO (l:List Sg) (hl:Cm l) (ho:Dz l) (t:Int) (ht:(l.getD 0 Sg.none).f<=t/\t<=(l.getD (l.length-1) Sg.none).t) (i0:Nat) (hi0:i0<l.length) (h1:∀j,j<i0->(l.getD j Sg.none).t<t) (h2:∀j,i0<=j->j<l.length->t<=(l.getD j Sg.none).t) (h3:(l.getD i0 Sg.none).f<=t)
  (hO:(Au l t i0).o+(Au l t i0).o≠0) (hx:Cj (Ql (Au l t i0)).x) (hy:Cj (Ql (Au l t i0)).y) (hz:Cj (Ql (Au l t i0)).z):AF Tryz.prog 25 [Bj l,.int t] (.lit (.tuple #[.agg #[.int .i64 (Ql (Au l t i0)).x,.int .i64 (Ql (Au l t i0)).y,.int .i64 (Ql (Au l t i0)).z],.int .i64 0])):=by
 have hs:=(ho.1 i0 hi0).1
 have hh:=hs.1
 unfold Iu at hh
 have h4:=h2 i0 (Nat.le_refl _) hi0
 obtain⟨bx,by_,bz,bo⟩:=zX (s:=l.getD i0 Sg.none) (a:=t-(l.getD i0 Sg.none).f) (d:=(l.getD i0 Sg.none).t-(l.getD i0 Sg.none).f) (hl.2 i0) hs ⟨by omega,by omega⟩ ⟨by omega,by omega⟩
 refine Dl ⟨[(0,Bj l),(1,.int t)],[],0,58⟩ func25 rfl 58 ntmps25 (by kernel_rfl) (by kernel_rfl) λB D0 hA0=>?_
 refine Bu 2 [0,1,4] ?_
 refine Ab (Ae 2 ?_)
 refine Fg (wK l hl ho t ht i0 hi0 h1 h2 h3) ?_
 refine Ae 1 ?_
 refine Bl (.lit (.agg #[.bool (decide ((Au l t i0).x<0)),.string (Cw ((Au l t i0).x).natAbs),.bool (decide ((Au l t i0).y<0)),.string (Cw ((Au l t i0).y).natAbs),.bool (decide ((Au l t i0).z<0)),.string (Cw ((Au l t i0).z).natAbs),.bool (decide ((Au l t i0).o<0)),.string (Cw ((Au l t i0).o).natAbs)])) (Dx (v:= .agg #[.bool (decide ((Au l t i0).x<0)),.string (Cw ((Au l t i0).x).natAbs),.bool (decide ((Au l t i0).y<0)),.string (Cw ((Au l t i0).y).natAbs),.bool (decide ((Au l t i0).z<0)),.string (Cw ((Au l t i0).z).natAbs),.bool (decide ((Au l t i0).o<0)),.string (Cw ((Au l t i0).o).natAbs)]) (v':= .agg #[.bool (decide ((Au l t i0).x<0)),.string (Cw ((Au l t i0).x).natAbs),.bool (decide ((Au l t i0).y<0)),.string (Cw ((Au l t i0).y).natAbs),.bool (decide ((Au l t i0).z<0)),.string (Cw ((Au l t i0).z).natAbs),.bool (decide ((Au l t i0).o<0)),.string (Cw ((Au l t i0).o).natAbs)]) rfl _) ?_
 refine qi 0 ?_
 refine Ae 3 ?_
 refine As [4,6,7] ?_
 refine Al (Ab ?_)
 refine Ae 1 ?_
 refine qb false ?_
 refine As [4,6,7,18] ?_
 refine Bq (Aw ?_)
 refine Bu 1 [4,6,8] ?_
 refine Al (Ab ?_)
 refine Ae 6 ?_
 refine Bl (.lit (.agg #[.bool (decide ((Au l t i0).x<0)),.string (Cw ((Au l t i0).x).natAbs),.bool (decide ((Au l t i0).y<0)),.string (Cw ((Au l t i0).y).natAbs),.bool (decide ((Au l t i0).z<0)),.string (Cw ((Au l t i0).z).natAbs)])) (Pq 102 #[(0,(.tmp 22)),(1,(.tmp 24)),(2,(.tmp 26))] _ zeroValue102 underlying102 2 sizeOf96 [.bool (decide ((Au l t i0).x<0)),.lit (.string (Cw ((Au l t i0).x).natAbs)),.bool (decide ((Au l t i0).y<0)),.lit (.string (Cw ((Au l t i0).y).natAbs)),.bool (decide ((Au l t i0).z<0)),.lit (.string (Cw ((Au l t i0).z).natAbs))]) ?_
 refine Ae 1 ?_
 refine As [4,6,8,27,28] ?_
 refine Bb (Ou 4 ?_)
 refine Ab (qb true ?_)
 refine As [4,6,8,27,28,29] ?_
 refine Al (Ca ?_)
 refine Aw (Al ?_)
 refine Bb (Ab ?_)
 refine Ae 1 ?_
 refine Bl (.lit (Ai ((Au l t i0).x))) (Dx (v:=Ai ((Au l t i0).x)) (v':=Ai ((Au l t i0).x)) rfl _) ?_
 refine Ae 3 ?_
 refine As [4,6,8,9,10,27,28] ?_
 refine Lm [(3,.lit (Ai ((Au l t i0).x+(Au l t i0).x)),.none),(6,.lit (Ai ((Au l t i0).x+(Au l t i0).x+(Au l t i0).o)),.none),(11,.lit (Ai ((Au l t i0).o+(Au l t i0).o)),.none),(12,.lit (Ai ((Ql (Au l t i0)).x)),.none),(13,.lit (.tuple #[.int .i64 ((Ql (Au l t i0)).x),.int .i64 0]),.none),(15,.int ((Ql (Au l t i0)).x),.none),(16,.int 0,.none),(17,.ptr 2 0,.none)] [4,6,8,27,28] 4 ⟨?_,?_,?_,?_,?_,?_,?_,?_,trivial⟩ ?_
 exact Bn (Br 49 #[.tmp 34,.tmp 35] #[96,96] [.lit (Ai ((Au l t i0).x)),.lit (Ai ((Au l t i0).x))] (.lit (Ai ((Au l t i0).x+(Au l t i0).x))) (Jm _ _ (bx.fit (by omega)) (bx.fit (by omega)) ((bx.add bx).fit (by omega))))
 exact Bn (Br 49 #[.tmp 36,.tmp 38] #[96,96] [.lit (Ai ((Au l t i0).x+(Au l t i0).x)),.lit (Ai ((Au l t i0).o))] (.lit (Ai ((Au l t i0).x+(Au l t i0).x+(Au l t i0).o))) (Jm _ _ ((bx.add bx).fit (by omega)) (bo.fit (by omega)) (((bx.add bx).add (bo.mono (by omega))).fit (by omega))))
 exact Bn (Br 49 #[.tmp 41,.tmp 43] #[96,96] [.lit (Ai ((Au l t i0).o)),.lit (Ai ((Au l t i0).o))] (.lit (Ai ((Au l t i0).o+(Au l t i0).o))) (Jm _ _ (bo.fit (by omega)) (bo.fit (by omega)) ((bo.add bo).fit (by omega))))
 exact Bn (Br 48 #[.tmp 39,.tmp 44] #[96,96] [.lit (Ai ((Au l t i0).x+(Au l t i0).x+(Au l t i0).o)),.lit (Ai ((Au l t i0).o+(Au l t i0).o))] (.lit (Ai ((Ql (Au l t i0)).x))) (Ip _ _ (((bx.add bx).add (bo.mono (by omega))).fit (by omega)) ((bo.add bo).fit (by omega)) hO))
 exact Bn (Br 47 #[.tmp 45] #[96] [.lit (Ai ((Ql (Au l t i0)).x))] (.lit (.tuple #[.int .i64 ((Ql (Au l t i0)).x),.int .i64 0])) (fF _ hx))
 exact rW
 exact rW
 exact Bn (Df 101 (.tmp 8) (.tmp 33) underlying101 2 0 1 0 0 sizeOf3)
 refine Bi (qi 1 ?_)
 refine Ae 1 ?_
 refine Bx [4,6,8,27,28] ?_
 refine Ab (qb true ?_)
 refine As [4,6,8,27,28,29] ?_
 refine Al (Ca ?_)
 refine Aw (Al ?_)
 refine Bb (Ab ?_)
 refine Ae 1 ?_
 refine Bl (.lit (Ai ((Au l t i0).y))) (Dx (v:=Ai ((Au l t i0).y)) (v':=Ai ((Au l t i0).y)) rfl _) ?_
 refine Ae 3 ?_
 refine As [4,6,8,9,10,27,28] ?_
 refine Lm [(3,.lit (Ai ((Au l t i0).y+(Au l t i0).y)),.none),(6,.lit (Ai ((Au l t i0).y+(Au l t i0).y+(Au l t i0).o)),.none),(11,.lit (Ai ((Au l t i0).o+(Au l t i0).o)),.none),(12,.lit (Ai ((Ql (Au l t i0)).y)),.none),(13,.lit (.tuple #[.int .i64 ((Ql (Au l t i0)).y),.int .i64 0]),.none),(15,.int ((Ql (Au l t i0)).y),.none),(16,.int 0,.none),(17,.ptr 2 1,.none)] [4,6,8,27,28] 5 ⟨?_,?_,?_,?_,?_,?_,?_,?_,trivial⟩ ?_
 exact Bn (Br 49 #[.tmp 34,.tmp 35] #[96,96] [.lit (Ai ((Au l t i0).y)),.lit (Ai ((Au l t i0).y))] (.lit (Ai ((Au l t i0).y+(Au l t i0).y))) (Jm _ _ (by_.fit (by omega)) (by_.fit (by omega)) ((by_.add by_).fit (by omega))))
 exact Bn (Br 49 #[.tmp 36,.tmp 38] #[96,96] [.lit (Ai ((Au l t i0).y+(Au l t i0).y)),.lit (Ai ((Au l t i0).o))] (.lit (Ai ((Au l t i0).y+(Au l t i0).y+(Au l t i0).o))) (Jm _ _ ((by_.add by_).fit (by omega)) (bo.fit (by omega)) (((by_.add by_).add (bo.mono (by omega))).fit (by omega))))
 exact Bn (Br 49 #[.tmp 41,.tmp 43] #[96,96] [.lit (Ai ((Au l t i0).o)),.lit (Ai ((Au l t i0).o))] (.lit (Ai ((Au l t i0).o+(Au l t i0).o))) (Jm _ _ (bo.fit (by omega)) (bo.fit (by omega)) ((bo.add bo).fit (by omega))))
 exact Bn (Br 48 #[.tmp 39,.tmp 44] #[96,96] [.lit (Ai ((Au l t i0).y+(Au l t i0).y+(Au l t i0).o)),.lit (Ai ((Au l t i0).o+(Au l t i0).o))] (.lit (Ai ((Ql (Au l t i0)).y))) (Ip _ _ (((by_.add by_).add (bo.mono (by omega))).fit (by omega)) ((bo.add bo).fit (by omega)) hO))
 exact Bn (Br 47 #[.tmp 45] #[96] [.lit (Ai ((Ql (Au l t i0)).y))] (.lit (.tuple #[.int .i64 ((Ql (Au l t i0)).y),.int .i64 0])) (fF _ hy))
 exact rW
 exact rW
 exact Bn (Df 101 (.tmp 8) (.tmp 33) underlying101 2 0 1 1 1 sizeOf3)
 refine Bi (qi 2 ?_)
 refine Ae 1 ?_
 refine Bx [4,6,8,27,28] ?_
 refine Ab (qb true ?_)
 refine As [4,6,8,27,28,29] ?_
 refine Al (Ca ?_)
 refine Aw (Al ?_)
 refine Bb (Ab ?_)
 refine Ae 1 ?_
 refine Bl (.lit (Ai ((Au l t i0).z))) (Dx (v:=Ai ((Au l t i0).z)) (v':=Ai ((Au l t i0).z)) rfl _) ?_
 refine Ae 3 ?_
 refine As [4,6,8,9,10,27,28] ?_
 refine Lm [(3,.lit (Ai ((Au l t i0).z+(Au l t i0).z)),.none),(6,.lit (Ai ((Au l t i0).z+(Au l t i0).z+(Au l t i0).o)),.none),(11,.lit (Ai ((Au l t i0).o+(Au l t i0).o)),.none),(12,.lit (Ai ((Ql (Au l t i0)).z)),.none),(13,.lit (.tuple #[.int .i64 ((Ql (Au l t i0)).z),.int .i64 0]),.none),(15,.int ((Ql (Au l t i0)).z),.none),(16,.int 0,.none),(17,.ptr 2 2,.none)] [4,6,8,27,28] 6 ⟨?_,?_,?_,?_,?_,?_,?_,?_,trivial⟩ ?_
 exact Bn (Br 49 #[.tmp 34,.tmp 35] #[96,96] [.lit (Ai ((Au l t i0).z)),.lit (Ai ((Au l t i0).z))] (.lit (Ai ((Au l t i0).z+(Au l t i0).z))) (Jm _ _ (bz.fit (by omega)) (bz.fit (by omega)) ((bz.add bz).fit (by omega))))
 exact Bn (Br 49 #[.tmp 36,.tmp 38] #[96,96] [.lit (Ai ((Au l t i0).z+(Au l t i0).z)),.lit (Ai ((Au l t i0).o))] (.lit (Ai ((Au l t i0).z+(Au l t i0).z+(Au l t i0).o))) (Jm _ _ ((bz.add bz).fit (by omega)) (bo.fit (by omega)) (((bz.add bz).add (bo.mono (by omega))).fit (by omega))))
 exact Bn (Br 49 #[.tmp 41,.tmp 43] #[96,96] [.lit (Ai ((Au l t i0).o)),.lit (Ai ((Au l t i0).o))] (.lit (Ai ((Au l t i0).o+(Au l t i0).o))) (Jm _ _ (bo.fit (by omega)) (bo.fit (by omega)) ((bo.add bo).fit (by omega))))
 exact Bn (Br 48 #[.tmp 39,.tmp 44] #[96,96] [.lit (Ai ((Au l t i0).z+(Au l t i0).z+(Au l t i0).o)),.lit (Ai ((Au l t i0).o+(Au l t i0).o))] (.lit (Ai ((Ql (Au l t i0)).z))) (Ip _ _ (((bz.add bz).add (bo.mono (by omega))).fit (by omega)) ((bo.add bo).fit (by omega)) hO))
 exact Bn (Br 47 #[.tmp 45] #[96] [.lit (Ai ((Ql (Au l t i0)).z))] (.lit (.tuple #[.int .i64 ((Ql (Au l t i0)).z),.int .i64 0])) (fF _ hz))
 exact rW
 exact rW
 exact Bn (Df 101 (.tmp 8) (.tmp 33) underlying101 2 0 1 2 2 sizeOf3)
 refine Bi (qi 3 ?_)
 refine Ae 1 ?_
 refine Bx [4,6,8,27,28] ?_
 refine Ab (qb false ?_)
 refine As [4,6,8,27,28,29] ?_
 refine Al (Bq ?_)
 refine Co (Ab ?_)
 refine Bl (.ptr 2 0) (Df 101 (.tmp 8) (.const (.int .i64 0)) underlying101 2 0 1 0 0 sizeOf3) ?_
 refine Ae 1 ?_
 refine Bl (.ptr 2 1) (Df 101 (.tmp 8) (.const (.int .i64 1)) underlying101 2 0 1 1 1 sizeOf3) ?_
 refine Ae 1 ?_
 refine Bl (.ptr 2 2) (Df 101 (.tmp 8) (.const (.int .i64 2)) underlying101 2 0 1 2 2 sizeOf3) ?_
 refine Ae 1 ?_
 refine Bl (.lit (.agg #[.int .i64 ((Ql (Au l t i0)).x),.int .i64 ((Ql (Au l t i0)).y),.int .i64 ((Ql (Au l t i0)).z)])) (Cd 55 #[(0,(.tmp 52)),(1,(.tmp 54)),(2,(.tmp 56))] _ zeroValue55 underlying55 #[(0,1),(1,1),(2,1)] [.int ((Ql (Au l t i0)).x),.int ((Ql (Au l t i0)).y),.int ((Ql (Au l t i0)).z)]) ?_
 refine Ae 2 ?_
 refine As [4,5] ?_
 refine Be ?_
 exact⟨.inl rfl,(Cv results25 (Gs (x:= .lit (.agg #[.int .i64 ((Ql (Au l t i0)).x),.int .i64 ((Ql (Au l t i0)).y),.int .i64 ((Ql (Au l t i0)).z)])) 0 isAgg55 3 sizeOf55 0 [.int ((Ql (Au l t i0)).x),.int ((Ql (Au l t i0)).y),.int ((Ql (Au l t i0)).z)] (by kernel_rfl) 55 (by kernel_rfl) (Nat.le_of_ble_eq_true (by kernel_rfl)) (by kernel_rfl) (by kernel_rfl)) (Ak (x:= .int 0) (by kernel_rfl) (by kernel_rfl))).cast (by kernel_rfl)⟩
def Ua (a b:V3) (f t k:Int):List Sg×Int:=if Na a b f t=true then ([Lj a b f t k],0) else ([],2)
theorem qS (a b:V3) (f t k:Int):tN a b f t k= .tup [Bj (Ua a b f t k).1,.int (Ua a b f t k).2]:=by unfold tN Ua;split<;>rfl
theorem sO (a b:V3) (f t:Int):AF Tryz.prog 37 [Ew a,Ew b,.int f,.int t] (.tup [Bj (Ua a b f t 2).1,.int (Ua a b f t 2).2]):=by rw[<-qS];exact wQ a b f t
theorem dI (a:V3) (f t:Int):AF Tryz.prog 22 [Ew a,.int f,.int t] (.tup [Bj (Ua a a f t 0).1,.int (Ua a a f t 0).2]):=by rw[<-qS];exact wR a f t
theorem qG {a b:List Sg} (ha:0<a.length) (h:(Fe a b).2=0):0<(Fe a b).1.length:=by
 unfold Fe at*
 split at h
 cases h
 rename_i h1
 split at h
 cases h
 rename_i h2
 split at h
 cases h
 rename_i h3
 rw[if_neg h1,if_neg h2,if_neg h3]
 simp;omega
theorem Lv (a b:List Sg) (ha:Cm a) (hb:Cm b) (h:(Fe a b).2=0):AF Tryz.prog 45 [Bj a,Bj b] (.tup [Bj (Fe a b).1,.int 0]):=by
 have:=dF a b ha hb
 unfold Qp at this
 rwa [if_pos h] at this
theorem Nr (a b:List Sg) (ha:Cm a) (hb:Cm b) (h:¬(Fe a b).2=0):AF Tryz.prog 45 [Bj a,Bj b] (.lit (.tuple #[.slice none 0 0,.int .i64 (Fe a b).2])):=by
 have:=dF a b ha hb
 unfold Qp at this
 rwa [if_neg h] at this
theorem Cm.nil:Cm []:=⟨by decide,λi=>by simp[Sg.none];exact⟨Gw,Gw,Gw,λ_=>by simpa using Gw,λ_=>by simpa using Gw,λ_=>by simpa using Gw⟩⟩
theorem Cm.app {a b:List Sg} (ha:Cm a) (hb:Cm b):Cm (Fe a b).1:=by
 unfold Fe
 split
 exact Cm.nil
 rename_i h1
 split
 exact Cm.nil
 split
 exact Cm.nil
 rename_i h3
 refine⟨by simp;omega,λi=>?_⟩
 show Nz ((a++b).getD i Sg.none)
 rw[Ri]
 split
 exact ha.2 i
 exact hb.2 _
theorem Ol {a b:Int} (ha: -1048576<=a/\a<=1048576) (hb: -1048576<=b/\b<=1048576) {k:Int} (i:Nat):Cj ((Ef a b (Ct k)).getD i 0):=by
 have key:∀x,x∈Ef a b (Ct k)->Cj x:=λx hx=>by
  unfold Ef at hx
  rcases List.mem_cons.1 hx with rfl|hx
  exact⟨by omega,by omega⟩
  split at hx
  cases hx
  obtain⟨y,hy,rfl⟩:=List.mem_map.1 hx
  have hy2: -100<=y/\y<=100:=by
   unfold Ct at hy
   split at hy
   cases hy
   split at hy
   have:y=1:=by simpa using hy
   omega
   simp at hy;omega
  have:=eO y (b-a) hy2 (by omega)
  exact⟨by omega,by omega⟩
 rw[List.getD_eq_getElem?_getD]
 cases h:(Ef a b (Ct k))[i]? with
 |none=>exact Gw
 |some x=>exact key x (List.mem_of_getElem? h)
theorem qU (a b:V3) (f t k:Int):Cm (Ua a b f t k).1:=by
 unfold Ua
 split
 rename_i h
 have h2:Gv a.x a.y a.z b.x b.y b.z f t=true:=h
 unfold Gv at h2
 simp only[Bool.and_eq_true,decide_eq_true_eq] at h2
 obtain⟨⟨⟨⟨p1,p2⟩,p3⟩,p4⟩,p5⟩:=h2
 have q1:=(Kj _ _ _).1 p1
 have q2:=(Kj _ _ _).1 p2
 refine⟨by simp,λi=>?_⟩
 cases i with
 |zero=>exact⟨⟨by show (_:Int)<=f;omega,by show f<=_;omega⟩,⟨by show (_:Int)<=t;omega,by show t<=_;omega⟩,Rk,λi=>Ol q1.1 q2.1 i,λi=>Ol q1.2.1 q2.2.1 i,λi=>Ol q1.2.2 q2.2.2 i⟩
 |succ i=>exact Cm.nil.2 i
 exact Cm.nil
def nU:List Mv:=[⟨⟨0,0,1000⟩,0,1000,0⟩,⟨⟨1000,0,1000⟩,0,1000,0⟩]
def nV:List Mv:=[⟨⟨0,0,1000⟩,0,0,0⟩,⟨⟨1000,0,1000⟩,0,0,0⟩]
def Mz:Pr:=⟨[⟨#[97]⟩,⟨#[98]⟩],[⟨0,0,0⟩,⟨1000,0,0⟩],[⟨⟨#[117,112]⟩,2000,nU⟩,⟨⟨#[115,116,97,121]⟩,2000,nV⟩]⟩
def Xu:De:=⟨[⟨0,0,0⟩,⟨0,300,0⟩],800,1500,0⟩
theorem mZ:AF Tryz.prog 24 [] (.tup [Em Mz,Fy Xu]):=by
 refine Dl ⟨[],[],0,32⟩ func24 rfl 32 ntmps24 (by kernel_rfl) (by kernel_rfl) λB D0 hA0=>?_
 refine Bu 2 [0,1] ?_
 refine Ab (Bl (.lit (.agg #[.int .i64 0,.int .i64 0,.int .i64 0])) (Cd 55 #[] _ zeroValue55 underlying55 #[(0,1),(1,1),(2,1)] [.int 0,.int 0,.int 0]) ?_)
 refine Bl (.lit (.agg #[.int .i64 1000,.int .i64 0,.int .i64 0])) (Cd 55 #[(0,(.const (.int .i64 1000)))] _ zeroValue55 underlying55 #[(0,1),(1,1),(2,1)] [.int 1000,.int 0,.int 0]) ?_
 refine Ae 4 ?_
 refine As [0,1,2,3] ?_
 refine Ab (Bl (.lit (.agg #[.int .i64 0,.int .i64 0,.int .i64 1000])) (Cd 55 #[(2,(.const (.int .i64 1000)))] _ zeroValue55 underlying55 #[(0,1),(1,1),(2,1)] [.int 0,.int 0,.int 1000]) ?_)
 refine Bl (.lit (.agg #[.int .i64 0,.int .i64 0,.int .i64 1000,.int .i64 0,.int .i64 1000,.int .i64 0])) (Cd 57 #[(0,(.tmp 8)),(2,(.const (.int .i64 1000)))] _ zeroValue57 underlying57 #[(0,3),(3,1),(4,1),(5,1)] [.int 0,.int 0,.int 1000,.int 0,.int 1000,.int 0]) ?_
 refine Bl (.lit (.agg #[.int .i64 1000,.int .i64 0,.int .i64 1000])) (Cd 55 #[(0,(.const (.int .i64 1000))),(2,(.const (.int .i64 1000)))] _ zeroValue55 underlying55 #[(0,1),(1,1),(2,1)] [.int 1000,.int 0,.int 1000]) ?_
 refine Bl (.lit (.agg #[.int .i64 1000,.int .i64 0,.int .i64 1000,.int .i64 0,.int .i64 1000,.int .i64 0])) (Cd 57 #[(0,(.tmp 10)),(2,(.const (.int .i64 1000)))] _ zeroValue57 underlying57 #[(0,3),(3,1),(4,1),(5,1)] [.int 1000,.int 0,.int 1000,.int 0,.int 1000,.int 0]) ?_
 refine Mw (.osl 4 6 2) (.new 4 (.vec 57 6 2 (λxi=>Wj (nU.getD xi Mv.none)))) (Cp 58 2 #[(0,(.tmp 9)),(1,(.tmp 11))] underlying58 6 sizeOf57 _ zeroValue57 4 [.int 0,.int 0,.int 1000,.int 0,.int 1000,.int 0,.int 1000,.int 0,.int 1000,.int 0,.int 1000,.int 0] (λxi=>Wj (nU.getD xi Mv.none))) ?_
 refine Ae 1 ?_
 refine As [0,1,2,3,4] ?_
 refine Tt 4 [4] 57 6 2 (λxi=>Wj (nU.getD xi Mv.none)) (by kernel_rfl) (by kernel_rfl) (λi _ j hj=>match j,hj with|0,_=>rfl|1,_=>rfl|2,_=>rfl|3,_=>rfl|4,_=>rfl|5,_=>rfl|_+6,h=>absurd h (by omega)) ?_
 refine Ab (Mw (.osl 5 1 2) (.new 5 (.vec 9 1 2 (λxi=> .lit (.string (Mz.names.getD xi ByteArray.empty))))) (Cp 22 2 #[(0,(.const (.string ⟨#[97]⟩))),(1,(.const (.string ⟨#[98]⟩)))] underlying22 1 sizeOf9 _ zeroValue9 5 [.lit (.string ⟨#[97]⟩),.lit (.string ⟨#[98]⟩)] (λxi=> .lit (.string (Mz.names.getD xi ByteArray.empty)))) ?_)
 refine Ae 2 ?_
 refine Mw (.osl 6 3 2) (.new 6 (.vec 55 3 2 (λxi=>Ew (Mz.homes.getD xi V3.zero)))) (Cp 23 2 #[(0,(.tmp 14)),(1,(.tmp 15))] underlying23 3 sizeOf55 _ zeroValue55 6 [.int 0,.int 0,.int 0,.int 1000,.int 0,.int 0] (λxi=>Ew (Mz.homes.getD xi V3.zero))) ?_
 refine Ae 1 ?_
 refine Bl (.agg [.lit (.string ⟨#[117,112]⟩),.int 2000,.sl 6 2 (λxi=>Wj (nU.getD xi Mv.none))]) (Cd 60 #[(0,(.const (.string ⟨#[117,112]⟩))),(1,(.const (.int .i64 2000))),(2,(.tmp 17))] _ zeroValue60 underlying60 #[(0,1),(1,1),(2,1)] [.lit (.string ⟨#[117,112]⟩),.int 2000,.sl 6 2 (λxi=>Wj (nU.getD xi Mv.none))]) ?_
 refine Bl (.lit (.agg #[.int .i64 0,.int .i64 0,.int .i64 1000])) (Cd 55 #[(2,(.const (.int .i64 1000)))] _ zeroValue55 underlying55 #[(0,1),(1,1),(2,1)] [.int 0,.int 0,.int 1000]) ?_
 refine Bl (.lit (.agg #[.int .i64 0,.int .i64 0,.int .i64 1000,.int .i64 0,.int .i64 0,.int .i64 0])) (Cd 57 #[(0,(.tmp 19))] _ zeroValue57 underlying57 #[(0,3),(3,1),(4,1),(5,1)] [.int 0,.int 0,.int 1000,.int 0,.int 0,.int 0]) ?_
 refine Bl (.lit (.agg #[.int .i64 1000,.int .i64 0,.int .i64 1000])) (Cd 55 #[(0,(.const (.int .i64 1000))),(2,(.const (.int .i64 1000)))] _ zeroValue55 underlying55 #[(0,1),(1,1),(2,1)] [.int 1000,.int 0,.int 1000]) ?_
 refine Bl (.lit (.agg #[.int .i64 1000,.int .i64 0,.int .i64 1000,.int .i64 0,.int .i64 0,.int .i64 0])) (Cd 57 #[(0,(.tmp 21))] _ zeroValue57 underlying57 #[(0,3),(3,1),(4,1),(5,1)] [.int 1000,.int 0,.int 1000,.int 0,.int 0,.int 0]) ?_
 refine Mw (.osl 7 6 2) (.new 7 (.vec 57 6 2 (λxi=>Wj (nV.getD xi Mv.none)))) (Cp 58 2 #[(0,(.tmp 20)),(1,(.tmp 22))] underlying58 6 sizeOf57 _ zeroValue57 7 [.int 0,.int 0,.int 1000,.int 0,.int 0,.int 0,.int 1000,.int 0,.int 1000,.int 0,.int 0,.int 0] (λxi=>Wj (nV.getD xi Mv.none))) ?_
 refine Pa 7 [23] 57 6 2 (λxi=>Wj (nV.getD xi Mv.none)) (by kernel_rfl) (by kernel_rfl) (λi _ j hj=>match j,hj with|0,_=>rfl|1,_=>rfl|2,_=>rfl|3,_=>rfl|4,_=>rfl|5,_=>rfl|_+6,h=>absurd h (by omega)) ?_
 refine Bl (.agg [.lit (.string ⟨#[115,116,97,121]⟩),.int 2000,.sl 6 2 (λxi=>Wj (nV.getD xi Mv.none))]) (Cd 60 #[(0,(.const (.string ⟨#[115,116,97,121]⟩))),(1,(.const (.int .i64 2000))),(2,(.tmp 23))] _ zeroValue60 underlying60 #[(0,1),(1,1),(2,1)] [.lit (.string ⟨#[115,116,97,121]⟩),.int 2000,.sl 6 2 (λxi=>Wj (nV.getD xi Mv.none))]) ?_
 refine Mw (.osl 8 3 2) (.new 8 (.vec 60 3 2 (λxi=>Fq (Mz.acts.getD xi Ac.none)))) (Cp 24 2 #[(0,(.tmp 18)),(1,(.tmp 24))] underlying24 3 sizeOf60 _ zeroValue60 8 [.lit (.string ⟨#[117,112]⟩),.int 2000,.sl 6 2 (λxi=>Wj (nU.getD xi Mv.none)),.lit (.string ⟨#[115,116,97,121]⟩),.int 2000,.sl 6 2 (λxi=>Wj (nV.getD xi Mv.none))] (λxi=>Fq (Mz.acts.getD xi Ac.none))) ?_
 refine Bl (.agg [.osl 5 1 2,.osl 6 3 2,.osl 8 3 2]) (Cd 26 #[(0,(.tmp 13)),(1,(.tmp 16)),(2,(.tmp 25))] _ zeroValue26 underlying26 #[(0,1),(1,1),(2,1)] [.osl 5 1 2,.osl 6 3 2,.osl 8 3 2]) ?_
 refine Ae 2 ?_
 refine As [0,1,5] ?_
 refine Jo 5 9 0 9 1 2 (λxi=> .lit (.string (Mz.names.getD xi ByteArray.empty))) 26 [.osl 5 1 2,.osl 6 3 2,.osl 8 3 2] [.sl 1 2 (λxi=> .lit (.string (Mz.names.getD xi ByteArray.empty))),.osl 6 3 2,.osl 8 3 2] (by kernel_rfl) (by kernel_rfl) (by kernel_rfl) (by kernel_rfl) (by kernel_rfl) (λi _ j hj=>by obtain rfl:j=0:=(by omega);rfl) ?_
 refine Jo 6 9 1 55 3 2 (λxi=>Ew (Mz.homes.getD xi V3.zero)) 26 [.sl 1 2 (λxi=> .lit (.string (Mz.names.getD xi ByteArray.empty))),.osl 6 3 2,.osl 8 3 2] [.sl 1 2 (λxi=> .lit (.string (Mz.names.getD xi ByteArray.empty))),.sl 3 2 (λxi=>Ew (Mz.homes.getD xi V3.zero)),.osl 8 3 2] (by kernel_rfl) (by kernel_rfl) (by kernel_rfl) (by kernel_rfl) (by kernel_rfl) (λi _ j hj=>match j,hj with|0,_=>rfl|1,_=>rfl|2,_=>rfl|_+3,h=>absurd h (by omega)) ?_
 refine Jo 8 9 2 60 3 2 (λxi=>Fq (Mz.acts.getD xi Ac.none)) 26 [.sl 1 2 (λxi=> .lit (.string (Mz.names.getD xi ByteArray.empty))),.sl 3 2 (λxi=>Ew (Mz.homes.getD xi V3.zero)),.osl 8 3 2] [.sl 1 2 (λxi=> .lit (.string (Mz.names.getD xi ByteArray.empty))),.sl 3 2 (λxi=>Ew (Mz.homes.getD xi V3.zero)),.sl 3 2 (λxi=>Fq (Mz.acts.getD xi Ac.none))] (by kernel_rfl) (by kernel_rfl) (by kernel_rfl) (by kernel_rfl) (by kernel_rfl) (λi _ j hj=>match j,hj with|0,_=>rfl|1,_=>rfl|2,_=>rfl|_+3,h=>absurd h (by omega)) ?_
 refine Ab (Ae 1 ?_)
 refine Bl (.lit (.agg #[.int .i64 0,.int .i64 0,.int .i64 0])) (Cd 55 #[] _ zeroValue55 underlying55 #[(0,1),(1,1),(2,1)] [.int 0,.int 0,.int 0]) ?_
 refine Bl (.lit (.agg #[.int .i64 0,.int .i64 300,.int .i64 0])) (Cd 55 #[(1,(.const (.int .i64 300)))] _ zeroValue55 underlying55 #[(0,1),(1,1),(2,1)] [.int 0,.int 300,.int 0]) ?_
 refine Mw (.osl 10 3 2) (.new 10 (.vec 55 3 2 (λxi=>Ew (Xu.sides.getD xi V3.zero)))) (Cp 23 2 #[(0,(.tmp 28)),(1,(.tmp 29))] underlying23 3 sizeOf55 _ zeroValue55 10 [.int 0,.int 0,.int 0,.int 0,.int 300,.int 0] (λxi=>Ew (Xu.sides.getD xi V3.zero))) ?_
 refine Bl (.agg [.osl 10 3 2,.int 800,.int 1500,.int 0]) (Cd 28 #[(0,(.tmp 30)),(1,(.const (.int .i64 800))),(2,(.const (.int .i64 1500)))] _ zeroValue28 underlying28 #[(0,1),(1,1),(2,1),(3,1)] [.osl 10 3 2,.int 800,.int 1500,.int 0]) ?_
 refine Ae 2 ?_
 refine As [0,1] ?_
 refine iY 10 1 0 55 3 2 (λxi=>Ew (Xu.sides.getD xi V3.zero)) 28 [.osl 10 3 2,.int 800,.int 1500,.int 0] [.slc 3 2 (λxi=>Ew (Xu.sides.getD xi V3.zero)),.int 800,.int 1500,.int 0] (by kernel_rfl) (by kernel_rfl) (by kernel_rfl) (by kernel_rfl) (by kernel_rfl) (λi _ j hj=>match j,hj with|0,_=>rfl|1,_=>rfl|2,_=>rfl|_+3,h=>absurd h (by omega)) ?_
 refine Be ?_
 exact⟨.inl rfl,(Cv results24 (Gs (x:= .agg [.sl 1 2 (λxi=> .lit (.string (Mz.names.getD xi ByteArray.empty))),.sl 3 2 (λxi=>Ew (Mz.homes.getD xi V3.zero)),.sl 3 2 (λxi=>Fq (Mz.acts.getD xi Ac.none))]) 0 isAgg26 3 sizeOf26 0 [.sl 1 2 (λxi=> .lit (.string (Mz.names.getD xi ByteArray.empty))),.sl 3 2 (λxi=>Ew (Mz.homes.getD xi V3.zero)),.sl 3 2 (λxi=>Fq (Mz.acts.getD xi Ac.none))] (by kernel_rfl) 26 (by kernel_rfl) (Nat.le_of_ble_eq_true (by kernel_rfl)) (by kernel_rfl) (by kernel_rfl)) (Gs (x:= .agg [.slc 3 2 (λxi=>Ew (Xu.sides.getD xi V3.zero)),.int 800,.int 1500,.int 0]) 1 isAgg28 4 sizeOf28 0 [.slc 3 2 (λxi=>Ew (Xu.sides.getD xi V3.zero)),.int 800,.int 1500,.int 0] (by kernel_rfl) 28 (by kernel_rfl) (Nat.le_of_ble_eq_true (by kernel_rfl)) (by kernel_rfl) (by kernel_rfl))).cast (by kernel_rfl)⟩
theorem Ph:Mx Mz:=⟨by decide,by decide,by decide,by decide,by decide⟩
theorem aH:Wp Xu:=⟨by decide,⟨by decide,by decide⟩,⟨by decide,by decide⟩,⟨by decide,by decide⟩⟩
theorem dY:Da Mz=true:=by kernel_rfl
theorem nT:Hj Xu:=⟨by decide,λi hi=>by
 have:i<2:=hi
 match i,this with
 |0,_=>exact⟨by decide,rfl,λj hj=>absurd hj (Nat.not_lt_zero j)⟩
 |1,_=>exact⟨by decide,rfl,λj hj=>by
  obtain rfl:j=0:=by omega
  decide⟩⟩
theorem yK:aL Mz Xu:=⟨dY,nT⟩
theorem exT:Kt Mz Xu=6300:=by decide
theorem Wy (k:Int) (h:k=0\/k=1):Qu Mz ⟨0,k⟩:=⟨dY,by show (0:Int)<=0;decide,by show (0:Int)<2;decide,by show (0:Int)<=k;omega,by show k<(2:Int);omega⟩
theorem bQ {a b:V3} {f t k:Int} (h:Na a b f t=true):Nz (Lj a b f t k):=by
 have:=(qU a b f t k).2 0
 unfold Ua at this
 rw[if_pos h] at this
 exact this
theorem gS {a b:V3} {f t k:Int} (h:Na a b f t=true):Ua a b f t k=([Lj a b f t k],0):=by unfold Ua;rw[if_pos h]
abbrev Pg:Sg:=Lj ⟨0,0,1000⟩ ⟨0,300,1000⟩ 2000 2800 2
abbrev Te:Sg:=Lj ⟨0,300,1000⟩ ⟨0,300,0⟩ 2800 4300 2
abbrev tL:Sg:=Lj ⟨0,300,0⟩ ⟨0,300,0⟩ 4300 6300 0
abbrev cK:Sg:=Lj ⟨0,0,1000⟩ ⟨0,0,0⟩ 4000 5500 2
abbrev tM:Sg:=Lj ⟨0,0,0⟩ ⟨0,0,0⟩ 5500 6300 0
def Rd:List Sg:=[Pg,Te,tL]
def aG:List Sg:=[cK,tM]
theorem aF:Cm Rd:=⟨by decide,λi=>match i with
 |0=>bQ (by decide)
 |1=>bQ (by decide)
 |2=>bQ (by decide)
 |i+3=>Cm.nil.2 i⟩
theorem ok1:Dz [Pg]:=by decide+kernel
theorem ok2:Dz [Te]:=by decide+kernel
theorem ok3:Dz [tL]:=by decide+kernel
theorem ok4:Dz [cK]:=by decide+kernel
theorem ok5:Dz [tM]:=by decide+kernel
theorem Adm:Dz [Pg,Te]:=by decide+kernel
theorem yJ:Dz Rd:=by decide+kernel
theorem Acv:Jg Pg Te:=by decide+kernel
theorem Acw:Jg Te tL:=by decide+kernel
theorem Acx:Jg cK tM:=by decide+kernel
theorem AbS:Fe [Pg] [Te]=([Pg,Te],0):=fR (Dq ok1) (Dq ok2) (Dq Acv) (by decide)
theorem AcN:Fe [Pg,Te] [tL]=(Rd,0):=fR (Dq Adm) (Dq ok3) (Dq Acw) (by decide)
theorem AcO:Fe [cK] [tM]=(aG,0):=fR (Dq ok4) (Dq ok5) (Dq Acx) (by decide)
theorem AcQ:Yp Mz ⟨0,0⟩=2000/\Yp Mz ⟨0,1⟩=4000:=by decide
theorem AcR:Cm [Pg]:=⟨by decide,λi=>match i with
 |0=>aF.2 0
 |i+1=>Cm.nil.2 i⟩
theorem AcT:Cm [Te]:=⟨by decide,λi=>match i with
 |0=>aF.2 1
 |i+1=>Cm.nil.2 i⟩
theorem Adi:Cm [tL]:=⟨by decide,λi=>match i with
 |0=>aF.2 2
 |i+1=>Cm.nil.2 i⟩
theorem Adj:Cm [cK]:=⟨by decide,λi=>match i with
 |0=>bQ (by decide)
 |i+1=>Cm.nil.2 i⟩
theorem Adk:Cm [tM]:=⟨by decide,λi=>match i with
 |0=>bQ (by decide)
 |i+1=>Cm.nil.2 i⟩
theorem AcS:Cm [Pg,Te]:=by
 have:=Cm.app AcR AcT
 rwa [AbS] at this
theorem Wk {a b c:List Sg} (ha:Cm a) (hb:Cm b) (h:Fe a b=(c,0)):AF Tryz.prog 45 [Bj a,Bj b] (.tup [Bj c,.int 0]):=by
 have h2:=Lv a b ha hb (by rw[h])
 rwa [h] at h2
theorem Qr {a b:V3} {f t:Int} (h:Na a b f t=true):AF Tryz.prog 37 [Ew a,Ew b,.int f,.int t] (.tup [Bj [Lj a b f t 2],.int 0]):=by
 have h2:=sO a b f t
 rwa [gS h] at h2
theorem Xn {a:V3} {f t:Int} (h:Na a a f t=true):AF Tryz.prog 22 [Ew a,.int f,.int t] (.tup [Bj [Lj a a f t 0],.int 0]):=by
 have h2:=dI a f t
 rwa [gS h] at h2
theorem Adn:AF Tryz.prog 14 [Em Mz,Fy Xu,.lit (.agg #[.int .i64 0,.int .i64 0]),.int 1] (.tup [Bj Rd,.int 0]):=by
 have e1:[Pg].length=1:=rfl
 have e2:[Pg,Te].length=2:=rfl
 have e3:Rd.length=3:=rfl
 have e4:[cK].length=1:=rfl
 have e5:aG.length=2:=rfl
 refine Dl ⟨[(0,Em Mz),(1,Fy Xu),(2,.lit (.agg #[.int .i64 0,.int .i64 0])),(3,.int 1)],[],0,158⟩ func14 rfl 158 ntmps14 (by kernel_rfl) (by kernel_rfl) λB D0 hA0=>?_
 refine Bu 5 [3,4,5,6] ?_
 refine Al (Ab ?_)
 refine Ae 2 ?_
 refine Fg (by have h:=Lx Mz ⟨0,0⟩ Ph ⟨Gw,Gw⟩;rwa [Dq (Wy 0 (.inl rfl))] at h) ?_
 refine qb false ?_
 refine Ae 2 ?_
 refine Kk (by have h:=Js Xu aH;rwa [Dq nT] at h) ?_
 refine Ga false ?_
 refine Ae 1 ?_
 refine As [3,4,5,6,29] ?_
 refine Bq (Aw ?_)
 refine Ab (Ae 2 ?_)
 refine Fg (by have h:=Ij Mz Xu Ph aH yK (by decide) (by rw[exT];decide);rw[exT] at h;exact h) ?_
 refine Ae 1 ?_
 refine qi 6300 ?_
 refine qi 0 ?_
 refine Ae 2 ?_
 refine As [3,4,5,6,10,11] ?_
 refine Al (Ab ?_)
 refine Ae 1 ?_
 refine qb false ?_
 refine Ae 2 ?_
 refine Ga false ?_
 refine Ae 5 ?_
 refine Ei (.int 2) .none (Ih (.tmp 45) 23 #[23] underlying23 3 2 (λxi=>Ew (Xu.sides.getD xi V3.zero))) ?_
 refine Ga false ?_
 refine Ae 1 ?_
 refine As [3,4,5,6,10,48] ?_
 refine Bq (Aw ?_)
 refine Ab (Ae 2 ?_)
 refine Fg (by have h:=Zh Mz ⟨0,0⟩ Ph ⟨Gw,Gw⟩ (Wy 0 (.inl rfl));rw[AcQ.1] at h;exact h) ?_
 refine Ae 1 ?_
 refine qi 2000 ?_
 refine qi 0 ?_
 refine Ae 2 ?_
 refine As [3,4,5,6,10,12] ?_
 refine Ab (Ae 2 ?_)
 refine Fg (dH Mz ⟨0,0⟩ Ph ⟨Gw,Gw⟩ (Wy 0 (.inl rfl))) ?_
 refine Ae 1 ?_
 refine Bl (.lit (.agg #[.int .i64 0,.int .i64 0,.int .i64 1000])) (Dx (v:= .agg #[.int .i64 0,.int .i64 0,.int .i64 1000]) (v':= .agg #[.int .i64 0,.int .i64 0,.int .i64 1000]) rfl _) ?_
 refine qi 0 ?_
 refine Ae 3 ?_
 refine As [3,5,10,12,14] ?_
 refine Dk [(5,.elt 3 (λq=>AV.cell (.lit (.agg #[.int .i64 0,.int .i64 300,.int .i64 0])) q),.none),(8,.int 0,.none),(14,.elt 3 (λq=>AV.cell (.lit (.agg #[.int .i64 0,.int .i64 300,.int .i64 0])) q),.none),(17,.int 300,.none),(20,.lit (.agg #[.int .i64 0,.int .i64 300,.int .i64 1000]),.none)] [5,10,12,14,16] 5 ⟨?_,?_,?_,?_,?_,trivial⟩ ?_
 exact Bn (Fb.wk (Bk 23 (.tmp 64) (.tmp 65) underlying23 3 2 1 (λxi=>Ew (Xu.sides.getD xi V3.zero)) 1 sizeOf55))
 exact rW
 exact Bn (Fb.wk (Bk 23 (.tmp 73) (.tmp 74) underlying23 3 2 1 (λxi=>Ew (Xu.sides.getD xi V3.zero)) 1 sizeOf55))
 exact rW
 exact Bn (Cd 55 #[(0,(.tmp 69)),(1,(.tmp 78)),(2,(.tmp 80))] _ zeroValue55 underlying55 #[(0,1),(1,1),(2,1)] [.int 0,.int 300,.int 1000])
 refine Ab (Ae 6 ?_)
 refine Bl (.lit (.agg #[.int .i64 0,.int .i64 300,.int .i64 0])) (Cd 55 #[(0,(.tmp 83)),(1,(.tmp 85)),(2,(.tmp 87))] _ zeroValue55 underlying55 #[(0,1),(1,1),(2,1)] [.int 0,.int 300,.int 0]) ?_
 refine Ae 2 ?_
 refine As [5,10,12,14,16,17] ?_
 refine Al (Ab ?_)
 refine Ae 1 ?_
 refine Fg (Uq ⟨0,300,1000⟩) ?_
 refine qb false ?_
 refine Ae 2 ?_
 refine Kk (Uq ⟨0,300,0⟩) ?_
 refine Ga false ?_
 refine Ae 1 ?_
 refine As [5,10,12,14,16,17,96] ?_
 refine Bq (Aw ?_)
 refine Ab (Fa 36 [] 10 rfl (by kernel_rfl) (Ps 36 #[] #[] (by kernel_rfl) (λ_ _=>by kernel_rfl) _ (by kernel_rfl)) func36 rfl ntmps36 (by kernel_rfl) λ_ hD1=>?_)
 refine Bu 3 [] ?_
 refine Bu 6 [3,4] ?_
 refine Dk [(0,.fn 56 [.ptr 9 0,.ptr 8 0],.none)] [0,1,2] 10 ⟨?_,trivial⟩ ?_
 exact Bn (lT 56 #[.tmp 4,.tmp 3] [.ptr 9 0,.ptr 8 0])
 refine Be ?_
 refine⟨.inl rfl,.tup [.fn 56 [.ptr 9 0,.ptr 8 0],.ptr 6 0,.ptr 7 0],(Aae results36 (Fn (x:= .fn 56 [.ptr 9 0,.ptr 8 0]) (by kernel_rfl)) (Fn (x:= .ptr 6 0) (by kernel_rfl)) (Fn (x:= .ptr 7 0) (by kernel_rfl))).castI (by kernel_rfl),?_⟩
 refine Ae 7 ?_
 refine As [5,10,12,14,16,17,18,19,20] ?_
 refine Al (Ab ?_)
 refine Ae 2 ?_
 refine Bl (.bool true) (La (rQ 55 55 (.tmp 102) (.tmp 103) (by kernel_rfl) _ _ (by kernel_rfl) (by kernel_rfl) (by kernel_rfl) (decide ((0:Int)=0/\(300:Int)=0/\(1000:Int)=1000)) (Ww _ _ _ _ _ _)) (show (!(decide ((0:Int)=0/\(300:Int)=0/\(1000:Int)=1000)):Bool)=true from by decide)) ?_
 refine As [5,10,12,14,16,17,18,19,20,104] ?_
 refine Ca (Ab ?_)
 refine Ae 7 ?_
 refine qi 2800 ?_
 refine Fg (Qr (a:=⟨0,0,1000⟩) (b:=⟨0,300,1000⟩) (f:=2000) (t:=2800) (by decide)) ?_
 refine Ae 2 ?_
 refine Fa 56 [Bj ([Pg]),.int 0,.ptr 9 0,.ptr 8 0] 37 rfl (by kernel_rfl) (Jk (.tmp 105) 56 #[.tmp 114,.tmp 115] #[41,32] (by kernel_rfl) [.ptr 9 0,.ptr 8 0] (by kernel_rfl) (λ_ _=>by kernel_rfl) _ (by kernel_rfl)) func56 rfl ntmps56 (by kernel_rfl) λ_ hD2=>?_
 refine Bb (Ab ?_)
 refine Ae 3 ?_
 refine qb false ?_
 refine Ae 1 ?_
 refine As [0,1,2,3,18] ?_
 refine Bq (Ab ?_)
 refine Ae 1 ?_
 refine qb false ?_
 refine Ae 1 ?_
 refine As [0,1,2,3,23] ?_
 refine Bq (Ab ?_)
 refine Ae 3 ?_
 refine Bl (.bool true) (Za 41 41 (.tmp 32) underlying41) ?_
 refine Ae 1 ?_
 refine As [0,2,3,29] ?_
 refine Ca (Bi ?_)
 refine Ae 4 ?_
 refine Bx [] ?_
 refine⟨.inr rfl,.lit (.tuple #[]),(Fh results56).castI (by kernel_rfl),?_⟩
 refine As [5,10,12,16,17,18,19,20] ?_
 refine Bi (Ae 3 ?_)
 refine qi 2800 ?_
 refine Ae 1 ?_
 refine Bx [5,10,12,16,17,18,19,20] ?_
 refine Ab (Ae 7 ?_)
 refine qi 4300 ?_
 refine Fg (Qr (a:=⟨0,300,1000⟩) (b:=⟨0,300,0⟩) (f:=2800) (t:=4300) (by decide)) ?_
 refine Ae 2 ?_
 refine Fa 56 [Bj ([Te]),.int 0,.ptr 9 0,.ptr 8 0] 37 rfl (by kernel_rfl) (Jk (.tmp 121) 56 #[.tmp 130,.tmp 131] #[41,32] (by kernel_rfl) [.ptr 9 0,.ptr 8 0] (by kernel_rfl) (λ_ _=>by kernel_rfl) _ (by kernel_rfl)) func56 rfl ntmps56 (by kernel_rfl) λ_ hD3=>?_
 refine Bb (Ab ?_)
 refine Ae 3 ?_
 refine qb false ?_
 refine Ae 1 ?_
 refine As [0,1,2,3,18] ?_
 refine Bq (Ab ?_)
 refine Ae 1 ?_
 refine qb false ?_
 refine Ae 1 ?_
 refine As [0,1,2,3,23] ?_
 refine Bq (Ab ?_)
 refine Ae 3 ?_
 refine Bl (.bool false) (bL 41 41 (.tmp 32) underlying41 6 (([Pg]).length) (λi0=>Bs (([Pg]).getD i0 Sg.none))) ?_
 refine Ae 1 ?_
 refine As [0,2,3,29] ?_
 refine Bq ?_
 refine Lm [(6,.tup [Bj ([Pg,Te]),.int 0],.none)] [] 10 ⟨?_,trivial⟩ ?_
 exact Oi (Wk AcR AcT AbS)
 refine⟨.inr rfl,.lit (.tuple #[]),(Fh results56).castI (by kernel_rfl),?_⟩
 refine As [5,10,12,17,18,19,20] ?_
 refine Ab (Ae 3 ?_)
 refine qi 4300 ?_
 refine Ae 1 ?_
 refine As [10,12,17,18,19,20] ?_
 refine Al (Ab ?_)
 refine Ae 2 ?_
 refine qb true ?_
 refine As [10,12,17,18,19,20,139] ?_
 refine Ca (Bi ?_)
 refine Ae 4 ?_
 refine Fg (Xn (a:=⟨0,300,0⟩) (f:=4300) (t:=6300) (by decide)) ?_
 refine Ae 2 ?_
 refine Fa 56 [Bj ([tL]),.int 0,.ptr 9 0,.ptr 8 0] 37 rfl (by kernel_rfl) (Jk (.tmp 140) 56 #[.tmp 145,.tmp 146] #[41,32] (by kernel_rfl) [.ptr 9 0,.ptr 8 0] (by kernel_rfl) (λ_ _=>by kernel_rfl) _ (by kernel_rfl)) func56 rfl ntmps56 (by kernel_rfl) λ_ hD4=>?_
 refine Bb (Ab ?_)
 refine Ae 3 ?_
 refine qb false ?_
 refine Ae 1 ?_
 refine As [0,1,2,3,18] ?_
 refine Bq (Ab ?_)
 refine Ae 1 ?_
 refine qb false ?_
 refine Ae 1 ?_
 refine As [0,1,2,3,23] ?_
 refine Bq (Ab ?_)
 refine Ae 3 ?_
 refine Bl (.bool false) (bL 41 41 (.tmp 32) underlying41 6 (([Pg,Te]).length) (λi0=>Bs (([Pg,Te]).getD i0 Sg.none))) ?_
 refine Ae 1 ?_
 refine As [0,2,3,29] ?_
 refine Bq ?_
 refine Lm [(6,.tup [Bj Rd,.int 0],.none)] [] 10 ⟨?_,trivial⟩ ?_
 exact Oi (Wk AcS Adi AcN)
 refine⟨.inr rfl,.lit (.tuple #[]),(Fh results56).castI (by kernel_rfl),?_⟩
 refine Bx [19,20] ?_
 refine Al (Ab ?_)
 refine Ae 3 ?_
 refine qb false ?_
 refine As [19,20,151] ?_
 refine Bq (Aw ?_)
 refine Bu 5 [8,9] ?_
 refine Be ?_
 exact⟨.inl rfl,(Cv results14 (Ak (x:=Bj Rd) (by kernel_rfl) (by kernel_rfl)) (Ak (x:= .int 0) (by kernel_rfl) (by kernel_rfl))).cast (by kernel_rfl)⟩
theorem Ado:AF Tryz.prog 14 [Em Mz,Fy Xu,.lit (.agg #[.int .i64 0,.int .i64 1]),.int 0] (.tup [Bj aG,.int 0]):=by
 have e1:[Pg].length=1:=rfl
 have e2:[Pg,Te].length=2:=rfl
 have e3:Rd.length=3:=rfl
 have e4:[cK].length=1:=rfl
 have e5:aG.length=2:=rfl
 refine Dl ⟨[(0,Em Mz),(1,Fy Xu),(2,.lit (.agg #[.int .i64 0,.int .i64 1])),(3,.int 0)],[],0,158⟩ func14 rfl 158 ntmps14 (by kernel_rfl) (by kernel_rfl) λB D0 hA0=>?_
 refine Bu 5 [3,4,5,6] ?_
 refine Al (Ab ?_)
 refine Ae 2 ?_
 refine Fg (by have h:=Lx Mz ⟨0,1⟩ Ph ⟨Gw,Rk⟩;rwa [Dq (Wy 1 (.inr rfl))] at h) ?_
 refine qb false ?_
 refine Ae 2 ?_
 refine Kk (by have h:=Js Xu aH;rwa [Dq nT] at h) ?_
 refine Ga false ?_
 refine Ae 1 ?_
 refine As [3,4,5,6,29] ?_
 refine Bq (Aw ?_)
 refine Ab (Ae 2 ?_)
 refine Fg (by have h:=Ij Mz Xu Ph aH yK (by decide) (by rw[exT];decide);rw[exT] at h;exact h) ?_
 refine Ae 1 ?_
 refine qi 6300 ?_
 refine qi 0 ?_
 refine Ae 2 ?_
 refine As [3,4,5,6,10,11] ?_
 refine Al (Ab ?_)
 refine Ae 1 ?_
 refine qb false ?_
 refine Ae 2 ?_
 refine Ga false ?_
 refine Ae 5 ?_
 refine Ei (.int 2) .none (Ih (.tmp 45) 23 #[23] underlying23 3 2 (λxi=>Ew (Xu.sides.getD xi V3.zero))) ?_
 refine Ga false ?_
 refine Ae 1 ?_
 refine As [3,4,5,6,10,48] ?_
 refine Bq (Aw ?_)
 refine Ab (Ae 2 ?_)
 refine Fg (by have h:=Zh Mz ⟨0,1⟩ Ph ⟨Gw,Rk⟩ (Wy 1 (.inr rfl));rw[AcQ.2] at h;exact h) ?_
 refine Ae 1 ?_
 refine qi 4000 ?_
 refine qi 0 ?_
 refine Ae 2 ?_
 refine As [3,4,5,6,10,12] ?_
 refine Ab (Ae 2 ?_)
 refine Fg (dH Mz ⟨0,1⟩ Ph ⟨Gw,Rk⟩ (Wy 1 (.inr rfl))) ?_
 refine Ae 1 ?_
 refine Bl (.lit (.agg #[.int .i64 0,.int .i64 0,.int .i64 1000])) (Dx (v:= .agg #[.int .i64 0,.int .i64 0,.int .i64 1000]) (v':= .agg #[.int .i64 0,.int .i64 0,.int .i64 1000]) rfl _) ?_
 refine qi 0 ?_
 refine Ae 3 ?_
 refine As [3,5,10,12,14] ?_
 refine Dk [(5,.elt 3 (λq=>AV.cell (.lit (.agg #[.int .i64 0,.int .i64 0,.int .i64 0])) q),.none),(8,.int 0,.none),(14,.elt 3 (λq=>AV.cell (.lit (.agg #[.int .i64 0,.int .i64 0,.int .i64 0])) q),.none),(17,.int 0,.none),(20,.lit (.agg #[.int .i64 0,.int .i64 0,.int .i64 1000]),.none)] [5,10,12,14,16] 5 ⟨?_,?_,?_,?_,?_,trivial⟩ ?_
 exact Bn (Fb.wk (Bk 23 (.tmp 64) (.tmp 65) underlying23 3 2 0 (λxi=>Ew (Xu.sides.getD xi V3.zero)) 0 sizeOf55))
 exact rW
 exact Bn (Fb.wk (Bk 23 (.tmp 73) (.tmp 74) underlying23 3 2 0 (λxi=>Ew (Xu.sides.getD xi V3.zero)) 0 sizeOf55))
 exact rW
 exact Bn (Cd 55 #[(0,(.tmp 69)),(1,(.tmp 78)),(2,(.tmp 80))] _ zeroValue55 underlying55 #[(0,1),(1,1),(2,1)] [.int 0,.int 0,.int 1000])
 refine Ab (Ae 6 ?_)
 refine Bl (.lit (.agg #[.int .i64 0,.int .i64 0,.int .i64 0])) (Cd 55 #[(0,(.tmp 83)),(1,(.tmp 85)),(2,(.tmp 87))] _ zeroValue55 underlying55 #[(0,1),(1,1),(2,1)] [.int 0,.int 0,.int 0]) ?_
 refine Ae 2 ?_
 refine As [5,10,12,14,16,17] ?_
 refine Al (Ab ?_)
 refine Ae 1 ?_
 refine Fg (Uq ⟨0,0,1000⟩) ?_
 refine qb false ?_
 refine Ae 2 ?_
 refine Kk (Uq ⟨0,0,0⟩) ?_
 refine Ga false ?_
 refine Ae 1 ?_
 refine As [5,10,12,14,16,17,96] ?_
 refine Bq (Aw ?_)
 refine Ab (Fa 36 [] 10 rfl (by kernel_rfl) (Ps 36 #[] #[] (by kernel_rfl) (λ_ _=>by kernel_rfl) _ (by kernel_rfl)) func36 rfl ntmps36 (by kernel_rfl) λ_ hD1=>?_)
 refine Bu 3 [] ?_
 refine Bu 6 [3,4] ?_
 refine Dk [(0,.fn 56 [.ptr 9 0,.ptr 8 0],.none)] [0,1,2] 10 ⟨?_,trivial⟩ ?_
 exact Bn (lT 56 #[.tmp 4,.tmp 3] [.ptr 9 0,.ptr 8 0])
 refine Be ?_
 refine⟨.inl rfl,.tup [.fn 56 [.ptr 9 0,.ptr 8 0],.ptr 6 0,.ptr 7 0],(Aae results36 (Fn (x:= .fn 56 [.ptr 9 0,.ptr 8 0]) (by kernel_rfl)) (Fn (x:= .ptr 6 0) (by kernel_rfl)) (Fn (x:= .ptr 7 0) (by kernel_rfl))).castI (by kernel_rfl),?_⟩
 refine Ae 7 ?_
 refine As [5,10,12,14,16,17,18,19,20] ?_
 refine Al (Ab ?_)
 refine Ae 2 ?_
 refine Bl (.bool false) (La (rQ 55 55 (.tmp 102) (.tmp 103) (by kernel_rfl) _ _ (by kernel_rfl) (by kernel_rfl) (by kernel_rfl) (decide ((0:Int)=0/\(0:Int)=0/\(1000:Int)=1000)) (Ww _ _ _ _ _ _)) (show (!(decide ((0:Int)=0/\(0:Int)=0/\(1000:Int)=1000)):Bool)=false from by decide)) ?_
 refine As [5,10,12,14,16,17,18,19,20,104] ?_
 refine Bq (Aw ?_)
 refine Ab (Ae 7 ?_)
 refine qi 5500 ?_
 refine Fg (Qr (a:=⟨0,0,1000⟩) (b:=⟨0,0,0⟩) (f:=4000) (t:=5500) (by decide)) ?_
 refine Ae 2 ?_
 refine Fa 56 [Bj ([cK]),.int 0,.ptr 9 0,.ptr 8 0] 37 rfl (by kernel_rfl) (Jk (.tmp 121) 56 #[.tmp 130,.tmp 131] #[41,32] (by kernel_rfl) [.ptr 9 0,.ptr 8 0] (by kernel_rfl) (λ_ _=>by kernel_rfl) _ (by kernel_rfl)) func56 rfl ntmps56 (by kernel_rfl) λ_ hD2=>?_
 refine Bb (Ab ?_)
 refine Ae 3 ?_
 refine qb false ?_
 refine Ae 1 ?_
 refine As [0,1,2,3,18] ?_
 refine Bq (Ab ?_)
 refine Ae 1 ?_
 refine qb false ?_
 refine Ae 1 ?_
 refine As [0,1,2,3,23] ?_
 refine Bq (Ab ?_)
 refine Ae 3 ?_
 refine Bl (.bool true) (Za 41 41 (.tmp 32) underlying41) ?_
 refine Ae 1 ?_
 refine As [0,2,3,29] ?_
 refine Ca (Bi ?_)
 refine Ae 4 ?_
 refine Bx [] ?_
 refine⟨.inr rfl,.lit (.tuple #[]),(Fh results56).castI (by kernel_rfl),?_⟩
 refine As [5,10,12,17,18,19,20] ?_
 refine Ab (Ae 3 ?_)
 refine qi 5500 ?_
 refine Ae 1 ?_
 refine As [10,12,17,18,19,20] ?_
 refine Al (Ab ?_)
 refine Ae 2 ?_
 refine qb true ?_
 refine As [10,12,17,18,19,20,139] ?_
 refine Ca (Bi ?_)
 refine Ae 4 ?_
 refine Fg (Xn (a:=⟨0,0,0⟩) (f:=5500) (t:=6300) (by decide)) ?_
 refine Ae 2 ?_
 refine Fa 56 [Bj ([tM]),.int 0,.ptr 9 0,.ptr 8 0] 37 rfl (by kernel_rfl) (Jk (.tmp 140) 56 #[.tmp 145,.tmp 146] #[41,32] (by kernel_rfl) [.ptr 9 0,.ptr 8 0] (by kernel_rfl) (λ_ _=>by kernel_rfl) _ (by kernel_rfl)) func56 rfl ntmps56 (by kernel_rfl) λ_ hD3=>?_
 refine Bb (Ab ?_)
 refine Ae 3 ?_
 refine qb false ?_
 refine Ae 1 ?_
 refine As [0,1,2,3,18] ?_
 refine Bq (Ab ?_)
 refine Ae 1 ?_
 refine qb false ?_
 refine Ae 1 ?_
 refine As [0,1,2,3,23] ?_
 refine Bq (Ab ?_)
 refine Ae 3 ?_
 refine Bl (.bool false) (bL 41 41 (.tmp 32) underlying41 6 (([cK]).length) (λi0=>Bs (([cK]).getD i0 Sg.none))) ?_
 refine Ae 1 ?_
 refine As [0,2,3,29] ?_
 refine Bq ?_
 refine Lm [(6,.tup [Bj aG,.int 0],.none)] [] 10 ⟨?_,trivial⟩ ?_
 exact Oi (Wk Adj Adk AcO)
 refine⟨.inr rfl,.lit (.tuple #[]),(Fh results56).castI (by kernel_rfl),?_⟩
 refine Bx [19,20] ?_
 refine Al (Ab ?_)
 refine Ae 3 ?_
 refine qb false ?_
 refine As [19,20,151] ?_
 refine Bq (Aw ?_)
 refine Bu 5 [8,9] ?_
 refine Be ?_
 exact⟨.inl rfl,(Cv results14 (Ak (x:=Bj aG) (by kernel_rfl) (by kernel_rfl)) (Ak (x:= .int 0) (by kernel_rfl) (by kernel_rfl))).cast (by kernel_rfl)⟩
theorem at1:AF Tryz.prog 25 [Bj Rd,.int 2800] (.lit (.tuple #[.agg #[.int .i64 0,.int .i64 300,.int .i64 1000],.int .i64 0])):=by
 have e:Ql (Au Rd 2800 0)=⟨0,300,1000⟩:=by decide+kernel
 have h:=AbO Rd aF yJ 2800 ⟨by decide,by decide⟩ 0 (by decide) (λj hj=>absurd hj (Nat.not_lt_zero j)) (λj _ hj=>by
  have:j<3:=hj
  match j,this with
  |0,_=>decide
  |1,_=>decide
  |2,_=>decide) (by decide) (by decide+kernel) (by rw[e];exact⟨by decide,by decide⟩) (by rw[e];exact⟨by decide,by decide⟩) (by rw[e];exact⟨by decide,by decide⟩)
 rw[e] at h
 exact h
theorem at2:AF Tryz.prog 25 [Bj Rd,.int 4300] (.lit (.tuple #[.agg #[.int .i64 0,.int .i64 300,.int .i64 0],.int .i64 0])):=by
 have e:Ql (Au Rd 4300 1)=⟨0,300,0⟩:=by decide+kernel
 have h:=AbO Rd aF yJ 4300 ⟨by decide,by decide⟩ 1 (by decide) (λj hj=>by
  obtain rfl:j=0:=by omega
  decide) (λj hj1 hj=>by
  have:j<3:=hj
  match j,this with
  |0,_=>omega
  |1,_=>decide
  |2,_=>decide) (by decide) (by decide+kernel) (by rw[e];exact⟨by decide,by decide⟩) (by rw[e];exact⟨by decide,by decide⟩) (by rw[e];exact⟨by decide,by decide⟩)
 rw[e] at h
 exact h
theorem Gc:AF Tryz.prog 8 [] (.bool true):=by
 have hAl:Rd.length=3:=rfl
 have hBl:aG.length=2:=rfl
 refine Dl ⟨[],[],0,136⟩ func8 rfl 136 ntmps8 (by kernel_rfl) (by kernel_rfl) λB D0 hA0=>?_
 refine Bu 1 [] ?_
 refine Ab (Fg mZ ?_)
 refine Ae 7 ?_
 refine As [1,2] ?_
 refine Ab (Ae 2 ?_)
 refine Fg (by have h:=Ij Mz Xu Ph aH yK (by decide) (by rw[exT];decide);rw[exT] at h;exact h) ?_
 refine Ae 1 ?_
 refine qi 6300 ?_
 refine qi 0 ?_
 refine Ae 2 ?_
 refine As [1,2,3,4] ?_
 refine Ab (Ae 2 ?_)
 refine Bl (.lit (.agg #[.int .i64 0,.int .i64 0])) (Cd 39 #[] _ zeroValue39 underlying39 #[(0,1),(1,1)] [.int 0,.int 0]) ?_
 refine Fg Adn ?_
 refine Ae 5 ?_
 refine As [1,2,3,4,5,6] ?_
 refine Ab (Ae 2 ?_)
 refine Bl (.lit (.agg #[.int .i64 0,.int .i64 1])) (Cd 39 #[(1,(.const (.int .i64 1)))] _ zeroValue39 underlying39 #[(0,1),(1,1)] [.int 0,.int 1]) ?_
 refine Fg Ado ?_
 refine Ae 5 ?_
 refine As [3,4,5,6,7,8] ?_
 refine Al (Ab ?_)
 refine Ae 1 ?_
 refine qb false ?_
 refine Ae 2 ?_
 refine Ga false ?_
 refine Ae 3 ?_
 refine Ga false ?_
 refine Ae 3 ?_
 refine Ga false ?_
 refine Ae 3 ?_
 refine Ei (.int ((Rd).length:Int)) .none (Dg (.tmp 52) 41 #[41] underlying41 ((Rd).length) (.inl ⟨6,(λi0=>Bs ((Rd).getD i0 Sg.none)),by kernel_rfl⟩)) ?_
 refine Ei (.bool false) .none (Dx (v:= .bool (!decide (((Rd).length:Int)=3))) (v':= .bool false) (congrArg (λb=>Value.bool (!b)) (decide_eq_true (by decide))) _) ?_
 refine Ae 3 ?_
 refine Ei (.int ((aG).length:Int)) .none (Dg (.tmp 57) 41 #[41] underlying41 ((aG).length) (.inl ⟨6,(λi0=>Bs ((aG).getD i0 Sg.none)),by kernel_rfl⟩)) ?_
 refine Ei (.bool false) .none (Dx (v:= .bool (!decide (((aG).length:Int)=2))) (v':= .bool false) (congrArg (λb=>Value.bool (!b)) (decide_eq_true (by decide))) _) ?_
 refine Ae 3 ?_
 refine Ei (.elt 6 (λq=>AV.cell (Bs ((Rd).getD 0 Sg.none)) q)) .none (Bk 41 (.tmp 62) (.const (.int .i64 0)) underlying41 6 ((Rd).length) 0 (λi0=>Bs ((Rd).getD i0 Sg.none)) 0 sizeOf67) ?_
 refine Ae 2 ?_
 refine Ei (.bool false) .none (Dx (v:= .bool (!decide (((Rd).getD 0 Sg.none).f=2000))) (v':= .bool false) (congrArg (λb=>Value.bool (!b)) (decide_eq_true (by decide))) _) ?_
 refine Ae 3 ?_
 refine Ei (.elt 6 (λq=>AV.cell (Bs ((Rd).getD 0 Sg.none)) q)) .none (Bk 41 (.tmp 69) (.const (.int .i64 0)) underlying41 6 ((Rd).length) 0 (λi0=>Bs ((Rd).getD i0 Sg.none)) 0 sizeOf67) ?_
 refine Ae 2 ?_
 refine Ei (.bool false) .none (Dx (v:= .bool (!decide (((Rd).getD 0 Sg.none).t=2800))) (v':= .bool false) (congrArg (λb=>Value.bool (!b)) (decide_eq_true (by decide))) _) ?_
 refine Ae 3 ?_
 refine Ei (.elt 6 (λq=>AV.cell (Bs ((Rd).getD 1 Sg.none)) q)) .none (Bk 41 (.tmp 76) (.const (.int .i64 1)) underlying41 6 ((Rd).length) 1 (λi0=>Bs ((Rd).getD i0 Sg.none)) 1 sizeOf67) ?_
 refine Ae 2 ?_
 refine Ei (.bool false) .none (Dx (v:= .bool (!decide (((Rd).getD 1 Sg.none).t=4300))) (v':= .bool false) (congrArg (λb=>Value.bool (!b)) (decide_eq_true (by decide))) _) ?_
 refine Ae 3 ?_
 refine Ei (.elt 6 (λq=>AV.cell (Bs ((Rd).getD 2 Sg.none)) q)) .none (Bk 41 (.tmp 83) (.const (.int .i64 2)) underlying41 6 ((Rd).length) 2 (λi0=>Bs ((Rd).getD i0 Sg.none)) 2 sizeOf67) ?_
 refine Ae 2 ?_
 refine Ei (.bool false) .none (Dx (v:= .bool (!decide (((Rd).getD 2 Sg.none).t=6300))) (v':= .bool false) (congrArg (λb=>Value.bool (!b)) (decide_eq_true (by decide))) _) ?_
 refine Ae 3 ?_
 refine Ei (.elt 6 (λq=>AV.cell (Bs ((aG).getD 0 Sg.none)) q)) .none (Bk 41 (.tmp 90) (.const (.int .i64 0)) underlying41 6 ((aG).length) 0 (λi0=>Bs ((aG).getD i0 Sg.none)) 0 sizeOf67) ?_
 refine Ae 2 ?_
 refine Ei (.bool false) .none (Dx (v:= .bool (!decide (((aG).getD 0 Sg.none).f=4000))) (v':= .bool false) (congrArg (λb=>Value.bool (!b)) (decide_eq_true (by decide))) _) ?_
 refine Ae 3 ?_
 refine Ei (.elt 6 (λq=>AV.cell (Bs ((aG).getD 0 Sg.none)) q)) .none (Bk 41 (.tmp 97) (.const (.int .i64 0)) underlying41 6 ((aG).length) 0 (λi0=>Bs ((aG).getD i0 Sg.none)) 0 sizeOf67) ?_
 refine Ae 2 ?_
 refine Ei (.bool false) .none (Dx (v:= .bool (!decide (((aG).getD 0 Sg.none).t=5500))) (v':= .bool false) (congrArg (λb=>Value.bool (!b)) (decide_eq_true (by decide))) _) ?_
 refine Ae 3 ?_
 refine Ei (.elt 6 (λq=>AV.cell (Bs ((aG).getD 1 Sg.none)) q)) .none (Bk 41 (.tmp 104) (.const (.int .i64 1)) underlying41 6 ((aG).length) 1 (λi0=>Bs ((aG).getD i0 Sg.none)) 1 sizeOf67) ?_
 refine Ae 2 ?_
 refine Ei (.bool false) .none (Dx (v:= .bool (!decide (((aG).getD 1 Sg.none).t=6300))) (v':= .bool false) (congrArg (λb=>Value.bool (!b)) (decide_eq_true (by decide))) _) ?_
 refine Ae 1 ?_
 refine As [5,109] ?_
 refine Bq (Aw ?_)
 refine Ab (Ae 1 ?_)
 refine Fg at1 ?_
 refine Ae 1 ?_
 refine Bl (.lit (.agg #[.int .i64 0,.int .i64 300,.int .i64 1000])) (Dx (v:= .agg #[.int .i64 0,.int .i64 300,.int .i64 1000]) (v':= .agg #[.int .i64 0,.int .i64 300,.int .i64 1000]) rfl _) ?_
 refine qi 0 ?_
 refine Ae 3 ?_
 refine As [5,9,10] ?_
 refine Ab (Ae 1 ?_)
 refine Fg at2 ?_
 refine Ae 1 ?_
 refine Bl (.lit (.agg #[.int .i64 0,.int .i64 300,.int .i64 0])) (Dx (v:= .agg #[.int .i64 0,.int .i64 300,.int .i64 0]) (v':= .agg #[.int .i64 0,.int .i64 300,.int .i64 0]) rfl _) ?_
 refine qi 0 ?_
 refine Ae 3 ?_
 refine As [9,10,11,12] ?_
 refine Ab (Ae 1 ?_)
 refine qb true ?_
 refine Ae 2 ?_
 refine Ga true ?_
 refine Ae 3 ?_
 refine Ei (.lit (.agg #[.int .i64 0,.int .i64 300,.int .i64 1000])) .none (Cd 55 #[(1,(.const (.int .i64 300))),(2,(.const (.int .i64 1000)))] _ zeroValue55 underlying55 #[(0,1),(1,1),(2,1)] [.int 0,.int 300,.int 1000]) ?_
 refine Ei (.bool true) .none (La (Vr 55 55 (.tmp 127) (.tmp 128) (by kernel_rfl) _ _ (by kernel_rfl) (by kernel_rfl) (by kernel_rfl) (decide ((0:Int)=0/\(300:Int)=300/\(1000:Int)=1000)) (Ww _ _ _ _ _ _)) (show (decide ((0:Int)=0/\(300:Int)=300/\(1000:Int)=1000):Bool)=true from by decide)) ?_
 refine Ae 3 ?_
 refine Ei (.lit (.agg #[.int .i64 0,.int .i64 300,.int .i64 0])) .none (Cd 55 #[(1,(.const (.int .i64 300)))] _ zeroValue55 underlying55 #[(0,1),(1,1),(2,1)] [.int 0,.int 300,.int 0]) ?_
 refine Ei (.bool true) .none (La (Vr 55 55 (.tmp 132) (.tmp 133) (by kernel_rfl) _ _ (by kernel_rfl) (by kernel_rfl) (by kernel_rfl) (decide ((0:Int)=0/\(300:Int)=300/\(0:Int)=0)) (Ww _ _ _ _ _ _)) (show (decide ((0:Int)=0/\(300:Int)=300/\(0:Int)=0):Bool)=true from by decide)) ?_
 refine Ae 2 ?_
 refine As [0] ?_
 refine Be ?_
 exact⟨.inl rfl,(Bv results8 (Ak (x:= .bool true) (by kernel_rfl) (by kernel_rfl))).cast (by kernel_rfl)⟩
end Go.Proofs.YtkcnbaeoahoglaaGreat
namespace Go.Proofs.YtkcnbaeoahoglaaGreat
open Go.RowKit
theorem Fk {p:Pr} {a k:Int} (h:AaI p a k) (ha:a<=1000) (hk:k<=1000) (hl:∀a∈p.acts,Cj a.len):Mx p:=by
 have hm:(1000000:Nat)<=maxLen:=by decide
 refine⟨λs hs=>?_,λx hx=>?_,by have:=h.2.2.1;omega,λx hx=>?_,hl⟩
 obtain⟨i,hi,rfl⟩:=List.getElem_of_mem hs
 have:=h.2.2.2.1 i hi
 rw[List.getD_eq_getElem?_getD,List.getElem?_eq_getElem hi] at this
 simp at this
 omega
 obtain⟨i,hi,rfl⟩:=List.getElem_of_mem hx
 have:=(h.2.2.2.2 i hi).1
 rw[List.getD_eq_getElem?_getD,List.getElem?_eq_getElem hi] at this
 simp at this
 omega
 obtain⟨i,hi,rfl⟩:=List.getElem_of_mem hx
 have:=(h.2.2.2.2 i hi).2
 rw[List.getD_eq_getElem?_getD,List.getElem?_eq_getElem hi] at this
 simp at this
 omega
end Go.Proofs.YtkcnbaeoahoglaaGreat