/- Part 23 of the proof of SV.row_holds, joined by program: no condition beyond the row's own. -/
import Derived.Test.YtldnjomacnjhnaaGreatV22
set_option maxRecDepth 100000
set_option maxHeartbeats 40000000
namespace Go.Proofs.YtldnjomacnjhnaaGreat
open Go.Proofs.Tryz
open Go.RowKit
theorem Aci (l:List Sg) (f t:Int) (hl:Dh l) (hok:Fj l) (hf:0<=f/\f<=3600000) (ht:0<=t/\t<=3600000) (hpos:0<(Hp l f t l.length).length):AF Tryz.prog 87 [Ai l,.int f,.int t] (kG (mI l f t)):=by
 have hln:=hok.2
 refine Ad7 ⟨[(0,Ai l),(1,.int f),(2,.int t)],[],0,23⟩ func87 rfl 23 ntmps87 (by kernel_rfl) (by kernel_rfl) λB D0 hA0=>?_
 refine kA 2 [0,1,2,6,7] ?_
 refine Iw (Ch ?_)
 refine Ii 3 ?_
 refine eA 116 [Ai l,.int f,.int t] 8 rfl (by kernel_rfl) (vE 116 #[.tmp 10,.tmp 11,.tmp 12] #[54,3,3] (by kernel_rfl) (λ_ _=>by kernel_rfl) _ (by kernel_rfl)) func116 rfl ntmps116 (by kernel_rfl) λ_ hD1=>?_
 refine kA 4 [3,4,5] ?_
 refine Ch (Adf (.fn 139 [.ptr 2 0,.ptr 3 0,.ptr 4 0]) (Afb 139 #[.tmp 3,.tmp 4,.tmp 5] [.ptr 2 0,.ptr 3 0,.ptr 4 0]) ?_)
 refine Ii 1 ?_
 refine Oi [6] ?_
 refine Pc ?_
 refine⟨.inl rfl,.fn 139 [.ptr 2 0,.ptr 3 0,.ptr 4 0],(AdI results116 (fR (x:= .fn 139 [.ptr 2 0,.ptr 3 0,.ptr 4 0]) (by kernel_rfl))).castI (by kernel_rfl),?_⟩
 refine Oi [6,7,13] ?_
 refine Jt (zV 139 [.ptr 2 0,.ptr 3 0,.ptr 4 0] 62 (by kernel_rfl) (λ_ _=>by kernel_rfl) func139 rfl ntmps139 (by kernel_rfl) λsp2 sp2p sp2a sp2b _ hD3=>?_)
 refine Ch (Ii 1 ?_)
 refine Adf (.int ((l).length:Int)) (Afx (.tmp 12) 54 #[54] underlying54 ((l).length) (.inl ⟨6,(λi0=>Bn ((l).getD i0 Sg.none)),by kernel_rfl⟩)) ?_
 refine Ii 1 ?_
 refine Oi [0,2,3,12,13,14] ?_
 refine Jt (Xm (λm s=>∃r n,r<=l.length/\m=l.length-r/\(n=(Hp l f t r).length/\Xs l f t r/\n<=r)/\(((n=0)/\s=⟨[(0,.yld 5),(2,.ptr 3 0),(3,.ptr 4 0),(12,Ai l),(13,.int ((l).length:Int)),(14,.int (r:Int))],[(0,.box 54 [.lit (.slice none 0 0)]),(1,.box 37 [.int 0]),(2,.box 54 [Ai l]),(3,.box 3 [.int f]),(4,.box 3 [.int t]),(5,.loop .ready none sp2 [(6,.ptr 0 0),(7,.ptr 1 0),(13,.fn 139 [.ptr 2 0,.ptr 3 0,.ptr 4 0])] 23)],6,62⟩)\/((0<n)/\s=⟨[(0,.yld 5),(2,.ptr 3 0),(3,.ptr 4 0),(12,Ai l),(13,.int ((l).length:Int)),(14,.int (r:Int))],[(0,.box 54 [.osl 50 6 n]),(1,.box 37 [.int 0]),(2,.box 54 [Ai l]),(3,.box 3 [.int f]),(4,.box 3 [.int t]),(5,.loop .ready none sp2 [(6,.ptr 0 0),(7,.ptr 1 0),(13,.fn 139 [.ptr 2 0,.ptr 3 0,.ptr 4 0])] 23),(50,.vec 81 6 n (λxi=>Bn ((Hp l f t r).getD xi Sg.none)))],51,62⟩))) l.length ⟨0,0,Nat.zero_le _,rfl,⟨rfl,λj hj=>absurd hj (Nat.not_lt_zero j),Nat.le_refl _⟩,(.inl ⟨rfl,(by kernel_rfl)⟩)⟩ ?_)
 rintro _ _ ⟨r,n,hrn,rfl,hFr,(⟨hr0,rfl⟩|⟨hr0,rfl⟩)⟩
 refine Ch (qb (decide ((r:Int)<((l).length:Int))) ?_)
 refine Oi [0,2,3,12,13,14,15] ?_
 refine Iw ?_
 refine Ey (decide ((r:Int)<((l).length:Int))) (λhx4=>?_) (λhx4=>?_)
 have hx4d:=of_decide_eq_true hx4
 refine qT hx4 ?_
 refine Li (Iw ?_)
 refine Jt ?_
 have hso:=(hok.1 r (by omega)).1
 have hs:=hl.2 r
 have hh:=hso.1
 unfold Jy at hh
 have hA:pA l f r=max f ((l).getD r Sg.none).f:=rfl
 have hB:pB l t r=min t ((l).getD r Sg.none).t:=rfl
 have hD:pD ((l).getD r Sg.none)=((l).getD r Sg.none).t-((l).getD r Sg.none).f:=rfl
 refine Ch (Adf (.elt 6 (λq=>AV.cell (Bn ((l).getD r Sg.none)) q)) (fQ 54 (.tmp 12) (.tmp 14) underlying54 6 ((l).length) r (λi0=>Bn ((l).getD i0 Sg.none)) (r:Int) sizeOf81) ?_)
 refine Ii 3 ?_
 refine Oi [0,2,3,6,12,13,14] ?_
 refine Xg [(3,.int (max f (((l).getD r Sg.none).f)),.none),(7,.int (min t (((l).getD r Sg.none).t)),.none)] [0,2,3,6,7,8,12,13,14] 7 ⟨?_,?_,trivial⟩ ?_
 exact Av (jP (.tmp 18) (.tmp 20) #[3,3] (by kernel_rfl) f (((l).getD r Sg.none).f) (by kernel_rfl) (by kernel_rfl))
 exact Av (uT (.tmp 22) (.tmp 24) #[3,3] (by kernel_rfl) t (((l).getD r Sg.none).t) (by kernel_rfl) (by kernel_rfl))
 refine Iw (Ch ?_)
 refine Ii 2 ?_
 refine qb (decide (min t (((l).getD r Sg.none).t)<=max f (((l).getD r Sg.none).f))) ?_
 refine Oi [0,2,3,6,7,8,12,13,14,28] ?_
 refine Ey (decide (min t (((l).getD r Sg.none).t)<=max f (((l).getD r Sg.none).f))) (λhx5=>?_) (λhx5=>?_)
 have hx5d:=of_decide_eq_true hx5
 refine qT hx5 ?_
 refine Uj (jY [0,2,3,6,7,8,12,13,14,28] ⟨[(0,.yld 5),(2,.ptr 3 0),(3,.ptr 4 0),(6,.ptr 6 0),(7,.int (max f (((l).getD r Sg.none).f))),(8,.int (min t (((l).getD r Sg.none).t))),(12,Ai l),(13,.int ((l).length:Int)),(14,.int (r:Int)),(28,.bool true)],[(0,.box 54 [.lit (.slice none 0 0)]),(1,.box 37 [.int 0]),(2,.box 54 [Ai l]),(3,.box 3 [.int f]),(4,.box 3 [.int t]),(5,.loop .ready none sp2 [(6,.ptr 0 0),(7,.ptr 1 0),(13,.fn 139 [.ptr 2 0,.ptr 3 0,.ptr 4 0])] 23),(6,.box 81 [.int (((l).getD r Sg.none).f),.int (((l).getD r Sg.none).t),.int (((l).getD r Sg.none).o),Ao (((l).getD r Sg.none).x),Ao (((l).getD r Sg.none).y),Ao (((l).getD r Sg.none).z)])],7,62⟩ ?_)
 refine uX [(0,0),(1,1),(2,2),(3,3),(4,4),(5,5)] 6 6 hD3 _ (Cb (Cb (Cb (Cb (Cb (Po (Cb Sj))))))) ?_
 refine Iu (qw ((r:Int)+1) ((r+1:Nat):Int) ?_)
 refine Ii 1 ?_
 refine Tj [0,2,3,12,13,14] ?_
 exact⟨_,(by omega:l.length-(r+1)<l.length-r),r+1,0,(by omega),rfl,⟨by rw[Oc (by omega)];omega,aK (by omega) hFr.2.1,by omega⟩,(.inl ⟨by omega,(by kernel_rfl)⟩)⟩
 have hx5d:=of_decide_eq_false hx5
 refine qF hx5 ?_
 refine Li ?_
 have hlt:pA l f r<pB l t r:=by omega
 refine Ch (Ii 4 ?_)
 refine qv (((l).getD r Sg.none).t-((l).getD r Sg.none).f) ?_
 refine Ii 1 ?_
 refine Oi [0,2,3,6,7,8,9,12,13,14] ?_
 refine Ey (Vw ((l).getD r Sg.none) (pA l f r) (pB l t r)) (λhx6=>?_) (λhx6=>?_)
 refine Xg [(6,.int (max f (((l).getD r Sg.none).f)-((l).getD r Sg.none).f),.none),(9,.int (min t (((l).getD r Sg.none).t)-max f (((l).getD r Sg.none).f)),.none),(11,.agg [Fa ((l).getD r Sg.none).x (pA l f r-((l).getD r Sg.none).f) (pB l t r-pA l f r) (pD ((l).getD r Sg.none)),Fa ((l).getD r Sg.none).y (pA l f r-((l).getD r Sg.none).f) (pB l t r-pA l f r) (pD ((l).getD r Sg.none)),Fa ((l).getD r Sg.none).z (pA l f r-((l).getD r Sg.none).f) (pB l t r-pA l f r) (pD ((l).getD r Sg.none))],.none),(14,.lit (Aj (((l).getD r Sg.none).o)),.none),(16,.lit (Aj (pD ((l).getD r Sg.none)^5)),.none),(17,.lit (Aj (((l).getD r Sg.none).o*pD ((l).getD r Sg.none)^5)),.none),(18,.lit (.tuple #[.agg #[.int .i64 (pA l f r),.int .i64 (pB l t r),.int .i64 0,.slice none 0 0,.slice none 0 0,.slice none 0 0],.bool false]),.none),(20,.lit (.agg #[.int .i64 (pA l f r),.int .i64 (pB l t r),.int .i64 0,.slice none 0 0,.slice none 0 0,.slice none 0 0]),.none),(21,.bool false,.none)] [0,2,3,10,11,12,13,14] 8 ⟨?_,?_,?_,?_,?_,?_,?_,?_,?_,trivial⟩ ?_
 exact qwD (max f (((l).getD r Sg.none).f)-((l).getD r Sg.none).f)
 exact qwD (min t (((l).getD r Sg.none).t)-max f (((l).getD r Sg.none).f))
 exact Av (Lg 141 #[.tmp 37,.tmp 41,.tmp 44,.tmp 45] #[81,3,3,3] [Bn ((l).getD r Sg.none),.int (max f (((l).getD r Sg.none).f)-((l).getD r Sg.none).f),.int (min t (((l).getD r Sg.none).t)-max f (((l).getD r Sg.none).f)),.int (((l).getD r Sg.none).t-((l).getD r Sg.none).f)] (.agg [Fa ((l).getD r Sg.none).x (pA l f r-((l).getD r Sg.none).f) (pB l t r-pA l f r) (pD ((l).getD r Sg.none)),Fa ((l).getD r Sg.none).y (pA l f r-((l).getD r Sg.none).f) (pB l t r-pA l f r) (pD ((l).getD r Sg.none)),Fa ((l).getD r Sg.none).z (pA l f r-((l).getD r Sg.none).f) (pB l t r-pA l f r) (pD ((l).getD r Sg.none))]) (Lj ((l).getD r Sg.none) _ _ _ hs hso (Bl (by omega)) (Bl (by omega)) (Bl (by omega)) (by omega)))
 exact Av (Lg 95 #[.tmp 48] #[3] [.int (((l).getD r Sg.none).o)] (.lit (Aj (((l).getD r Sg.none).o))) (Gf _ hs.o.1 hs.o.2))
 exact Ade (Fz (pD ((l).getD r Sg.none)) 5 (Bl (by omega)).1 (Bl (by omega)).2 (by omega) (λj hj=>Ei (Bl (by omega)) (by omega)))
 exact Av (Lg 94 #[.tmp 49,.tmp 51] #[70,70] [.lit (Aj (((l).getD r Sg.none).o)),.lit (Aj (pD ((l).getD r Sg.none)^5))] (.lit (Aj (((l).getD r Sg.none).o*pD ((l).getD r Sg.none)^5))) (Ju _ _ (Hn hs.o) (Ei (Bl (by omega)) (by omega)) ((Xe hs (Bl (by omega))).fit (by omega))))
 exact Av (Lg 140 #[.tmp 35,.tmp 36,.tmp 46,.tmp 52] #[3,3,203,70] [.int (max f (((l).getD r Sg.none).f)),.int (min t (((l).getD r Sg.none).t)),.agg [Fa ((l).getD r Sg.none).x (pA l f r-((l).getD r Sg.none).f) (pB l t r-pA l f r) (pD ((l).getD r Sg.none)),Fa ((l).getD r Sg.none).y (pA l f r-((l).getD r Sg.none).f) (pB l t r-pA l f r) (pD ((l).getD r Sg.none)),Fa ((l).getD r Sg.none).z (pA l f r-((l).getD r Sg.none).f) (pB l t r-pA l f r) (pD ((l).getD r Sg.none))],.lit (Aj (((l).getD r Sg.none).o*pD ((l).getD r Sg.none)^5))] (.lit (.tuple #[.agg #[.int .i64 (pA l f r),.int .i64 (pB l t r),.int .i64 0,.slice none 0 0,.slice none 0 0,.slice none 0 0],.bool false])) (Zq ((l).getD r Sg.none) _ _ hs hso (by omega) (by omega) hx6))
 exact Av (Afc (v:= .agg #[.int .i64 (pA l f r),.int .i64 (pB l t r),.int .i64 0,.slice none 0 0,.slice none 0 0,.slice none 0 0]) (v':= .agg #[.int .i64 (pA l f r),.int .i64 (pB l t r),.int .i64 0,.slice none 0 0,.slice none 0 0,.slice none 0 0]) rfl _)
 exact qbD
 refine Ch (Ii 3 ?_)
 refine Ur (.tmp 56) #[.tmp 57,.tmp 58] #[81,4] 5 [(6,.ptr 0 0),(7,.ptr 1 0),(13,.fn 139 [.ptr 2 0,.ptr 3 0,.ptr 4 0])] 23 [.lit (.agg #[.int .i64 (pA l f r),.int .i64 (pB l t r),.int .i64 0,.slice none 0 0,.slice none 0 0,.slice none 0 0]),.bool false] sp2p sp2a sp2b rfl (by kernel_rfl) rfl (by kernel_rfl) (by kernel_rfl) (by kernel_rfl) (by kernel_rfl) ⟨[(15,.bool false),(14,.lit (.agg #[.int .i64 (pA l f r),.int .i64 (pB l t r),.int .i64 0,.slice none 0 0,.slice none 0 0,.slice none 0 0])),(6,.ptr 0 0),(7,.ptr 1 0),(13,.fn 139 [.ptr 2 0,.ptr 3 0,.ptr 4 0])],[(0,.box 54 [.lit (.slice none 0 0)]),(1,.box 37 [.int 0]),(2,.box 54 [Ai l]),(3,.box 3 [.int f]),(4,.box 3 [.int t]),(5,.loop .ready none sp2 [(6,.ptr 0 0),(7,.ptr 1 0),(13,.fn 139 [.ptr 2 0,.ptr 3 0,.ptr 4 0])] 23),(6,.box 81 [.int (((l).getD r Sg.none).f),.int (((l).getD r Sg.none).t),.int (((l).getD r Sg.none).o),Ao (((l).getD r Sg.none).x),Ao (((l).getD r Sg.none).y),Ao (((l).getD r Sg.none).z)]),(7,.box 81 [.int (pA l f r),.int (pB l t r),.int 0,.lit (.slice none 0 0),.lit (.slice none 0 0),.lit (.slice none 0 0)])],8,23⟩ (by kernel_rfl) λ_ _ hD7=>?_
 refine kA 2 [6,7,8,15] ?_
 refine Iu (Ii 1 ?_)
 refine Tj [6,7,8,9] ?_
 refine⟨[(6,.ptr 0 0),(7,.ptr 1 0),(13,.fn 139 [.ptr 2 0,.ptr 3 0,.ptr 4 0])],(by kernel_rfl),?_⟩
 refine Jt (Iw ?_)
 refine Ch (Ii 1 ?_)
 refine qb true ?_
 refine Oi [6,7,8,17] ?_
 refine jZ (kA 2 [6,7] ?_)
 refine Pc ?_
 refine⟨[(6,.ptr 0 0),(7,.ptr 1 0),(13,.fn 139 [.ptr 2 0,.ptr 3 0,.ptr 4 0])],(by kernel_rfl),?_⟩
 refine qb true ?_
 refine Oi [0,2,3,12,13,14,60] ?_
 refine jZ (Pc ?_)
 refine⟨.inl rfl,.lit (.tuple #[]),(Om results139).castI (by kernel_rfl),.done,(some .ret),[(6,.ptr 0 0),(7,.ptr 1 0),(13,.fn 139 [.ptr 2 0,.ptr 3 0,.ptr 4 0])],23,(by kernel_rfl),(λh=>by cases h),?_⟩
 refine Pc ?_
 exact⟨.inl rfl,(kH results87 (Jc (x:= .lit (.slice none 0 0)) 0 isAgg54 0 [.lit (.slice none 0 0)] (by kernel_rfl) 54 (by kernel_rfl) (Nat.le_of_ble_eq_true (by kernel_rfl)) (by kernel_rfl) (by kernel_rfl)) (Jc (x:= .int 7) 1 isAgg37 0 [.int 7] (by kernel_rfl) 37 (by kernel_rfl) (Nat.le_of_ble_eq_true (by kernel_rfl)) (by kernel_rfl) (by kernel_rfl))).cast (Ol (tQ (j:=r) (by omega) hlt hx6) (by decide)).symm⟩
 refine Xg [(6,.int (max f (((l).getD r Sg.none).f)-((l).getD r Sg.none).f),.none),(9,.int (min t (((l).getD r Sg.none).t)-max f (((l).getD r Sg.none).f)),.none),(11,.agg [Fa ((l).getD r Sg.none).x (pA l f r-((l).getD r Sg.none).f) (pB l t r-pA l f r) (pD ((l).getD r Sg.none)),Fa ((l).getD r Sg.none).y (pA l f r-((l).getD r Sg.none).f) (pB l t r-pA l f r) (pD ((l).getD r Sg.none)),Fa ((l).getD r Sg.none).z (pA l f r-((l).getD r Sg.none).f) (pB l t r-pA l f r) (pD ((l).getD r Sg.none))],.none),(14,.lit (Aj (((l).getD r Sg.none).o)),.none),(16,.lit (Aj (pD ((l).getD r Sg.none)^5)),.none),(17,.lit (Aj (((l).getD r Sg.none).o*pD ((l).getD r Sg.none)^5)),.none),(18,.tup [Bn (Bs ((l).getD r Sg.none) (pA l f r) (pB l t r)),.bool true],.none)] [0,2,3,10,11,12,13,14] 8 ⟨?_,?_,?_,?_,?_,?_,?_,trivial⟩ ?_
 exact qwD (max f (((l).getD r Sg.none).f)-((l).getD r Sg.none).f)
 exact qwD (min t (((l).getD r Sg.none).t)-max f (((l).getD r Sg.none).f))
 exact Av (Lg 141 #[.tmp 37,.tmp 41,.tmp 44,.tmp 45] #[81,3,3,3] [Bn ((l).getD r Sg.none),.int (max f (((l).getD r Sg.none).f)-((l).getD r Sg.none).f),.int (min t (((l).getD r Sg.none).t)-max f (((l).getD r Sg.none).f)),.int (((l).getD r Sg.none).t-((l).getD r Sg.none).f)] (.agg [Fa ((l).getD r Sg.none).x (pA l f r-((l).getD r Sg.none).f) (pB l t r-pA l f r) (pD ((l).getD r Sg.none)),Fa ((l).getD r Sg.none).y (pA l f r-((l).getD r Sg.none).f) (pB l t r-pA l f r) (pD ((l).getD r Sg.none)),Fa ((l).getD r Sg.none).z (pA l f r-((l).getD r Sg.none).f) (pB l t r-pA l f r) (pD ((l).getD r Sg.none))]) (Lj ((l).getD r Sg.none) _ _ _ hs hso (Bl (by omega)) (Bl (by omega)) (Bl (by omega)) (by omega)))
 exact Av (Lg 95 #[.tmp 48] #[3] [.int (((l).getD r Sg.none).o)] (.lit (Aj (((l).getD r Sg.none).o))) (Gf _ hs.o.1 hs.o.2))
 exact Ade (Fz (pD ((l).getD r Sg.none)) 5 (Bl (by omega)).1 (Bl (by omega)).2 (by omega) (λj hj=>Ei (Bl (by omega)) (by omega)))
 exact Av (Lg 94 #[.tmp 49,.tmp 51] #[70,70] [.lit (Aj (((l).getD r Sg.none).o)),.lit (Aj (pD ((l).getD r Sg.none)^5))] (.lit (Aj (((l).getD r Sg.none).o*pD ((l).getD r Sg.none)^5))) (Ju _ _ (Hn hs.o) (Ei (Bl (by omega)) (by omega)) ((Xe hs (Bl (by omega))).fit (by omega))))
 exact Av (Lg 140 #[.tmp 35,.tmp 36,.tmp 46,.tmp 52] #[3,3,203,70] [.int (max f (((l).getD r Sg.none).f)),.int (min t (((l).getD r Sg.none).t)),.agg [Fa ((l).getD r Sg.none).x (pA l f r-((l).getD r Sg.none).f) (pB l t r-pA l f r) (pD ((l).getD r Sg.none)),Fa ((l).getD r Sg.none).y (pA l f r-((l).getD r Sg.none).f) (pB l t r-pA l f r) (pD ((l).getD r Sg.none)),Fa ((l).getD r Sg.none).z (pA l f r-((l).getD r Sg.none).f) (pB l t r-pA l f r) (pD ((l).getD r Sg.none))],.lit (Aj (((l).getD r Sg.none).o*pD ((l).getD r Sg.none)^5))] (.tup [Bn (Bs ((l).getD r Sg.none) (pA l f r) (pB l t r)),.bool true]) (Zr ((l).getD r Sg.none) _ _ hs hso (by omega) (by omega) hx6))
 refine Ch (Ii 3 ?_)
 refine Ur (.tmp 56) #[.tmp 57,.tmp 58] #[81,4] 5 [(6,.ptr 0 0),(7,.ptr 1 0),(13,.fn 139 [.ptr 2 0,.ptr 3 0,.ptr 4 0])] 23 [Bn (Bs ((l).getD r Sg.none) (pA l f r) (pB l t r)),.bool true] sp2p sp2a sp2b rfl (by kernel_rfl) rfl (by kernel_rfl) (by kernel_rfl) (by kernel_rfl) (by kernel_rfl) ⟨[(15,.bool true),(14,Bn (Bs ((l).getD r Sg.none) (pA l f r) (pB l t r))),(6,.ptr 0 0),(7,.ptr 1 0),(13,.fn 139 [.ptr 2 0,.ptr 3 0,.ptr 4 0])],[(0,.box 54 [.lit (.slice none 0 0)]),(1,.box 37 [.int 0]),(2,.box 54 [Ai l]),(3,.box 3 [.int f]),(4,.box 3 [.int t]),(5,.loop .ready none sp2 [(6,.ptr 0 0),(7,.ptr 1 0),(13,.fn 139 [.ptr 2 0,.ptr 3 0,.ptr 4 0])] 23),(6,.box 81 [.int (((l).getD r Sg.none).f),.int (((l).getD r Sg.none).t),.int (((l).getD r Sg.none).o),Ao (((l).getD r Sg.none).x),Ao (((l).getD r Sg.none).y),Ao (((l).getD r Sg.none).z)]),(7,.box 81 [.int ((Bs ((l).getD r Sg.none) (pA l f r) (pB l t r)).f),.int ((Bs ((l).getD r Sg.none) (pA l f r) (pB l t r)).t),.int ((Bs ((l).getD r Sg.none) (pA l f r) (pB l t r)).o),Ao ((Bs ((l).getD r Sg.none) (pA l f r) (pB l t r)).x),Ao ((Bs ((l).getD r Sg.none) (pA l f r) (pB l t r)).y),Ao ((Bs ((l).getD r Sg.none) (pA l f r) (pB l t r)).z)])],8,23⟩ (by kernel_rfl) λ_ _ hD8=>?_
 refine kA 2 [6,7,8,15] ?_
 refine Iu (Ii 1 ?_)
 refine Tj [6,7,8,9] ?_
 refine⟨[(6,.ptr 0 0),(7,.ptr 1 0),(13,.fn 139 [.ptr 2 0,.ptr 3 0,.ptr 4 0])],(by kernel_rfl),?_⟩
 refine Jt (Iw ?_)
 refine Ch (Ii 1 ?_)
 refine qb false ?_
 refine Oi [6,7,8,17] ?_
 refine Zf (Li ?_)
 refine Iu (Ii 2 ?_)
 refine qop (.osl 9 6 1) (.new 9 (.vec 81 6 1 (λ_=>Bn (Bs ((l).getD r Sg.none) (pA l f r) (pB l t r))))) (Yg 54 1 #[(0,(.tmp 19))] underlying54 6 sizeOf81 _ zeroValue81 9 [.int ((Bs ((l).getD r Sg.none) (pA l f r) (pB l t r)).f),.int ((Bs ((l).getD r Sg.none) (pA l f r) (pB l t r)).t),.int ((Bs ((l).getD r Sg.none) (pA l f r) (pB l t r)).o),Ao ((Bs ((l).getD r Sg.none) (pA l f r) (pB l t r)).x),Ao ((Bs ((l).getD r Sg.none) (pA l f r) (pB l t r)).y),Ao ((Bs ((l).getD r Sg.none) (pA l f r) (pB l t r)).z)] (λ_=>Bn (Bs ((l).getD r Sg.none) (pA l f r) (pB l t r)))) ?_
 refine qop (.osl 10 6 1) (.newr 9 10 (.vec 81 6 1 (λxi=>Bn ((Hp l f t (r+1)).getD xi Sg.none)))) (Cp (.tmp 18) (.tmp 20) 54 (by kernel_rfl) underlying54 6 96 (.agg #[.int .i64 0,.int .i64 0,.int .i64 0,.slice none 0 0,.slice none 0 0,.slice none 0 0]) (by kernel_rfl) (by kernel_rfl) (by decide) 1 (by omega) (λ_=>Bn (Bs ((l).getD r Sg.none) (pA l f r) (pB l t r))) (λxi=>Bn ((Hp l f t (r+1)).getD xi Sg.none)) 10 (λi hi=>by(obtain rfl:i=0:=(by omega));show Bn _=Bn _;rw[Me hlt,List.eq_nil_of_length_eq_zero (by omega:(Hp l f t r).length=0)];rfl) (λi hi j hj=>match j,hj with|0,_=>rfl|1,_=>rfl|2,_=>rfl|3,_=>rfl|4,_=>rfl|5,_=>rfl|_+6,h=>absurd h (by omega)) (by unfold maxLen;omega) (by omega) (by kernel_rfl) 9 81 (by kernel_rfl) (by kernel_rfl)) ?_
 refine Ii 1 ?_
 refine Tj [] ?_
 refine⟨[(6,.ptr 0 0),(7,.ptr 1 0),(13,.fn 139 [.ptr 2 0,.ptr 3 0,.ptr 4 0])],(by kernel_rfl),?_⟩
 refine qb false ?_
 refine Oi [0,2,3,12,13,14,60] ?_
 refine Zf (Li ?_)
 refine jY [0,2,3,12,13,14,60] ⟨[(0,.yld 5),(2,.ptr 3 0),(3,.ptr 4 0),(12,Ai l),(13,.int ((l).length:Int)),(14,.int (r:Int)),(60,.bool false)],[(0,.box 54 [.osl 10 6 1]),(1,.box 37 [.int 0]),(2,.box 54 [Ai l]),(3,.box 3 [.int f]),(4,.box 3 [.int t]),(5,.loop .ready none sp2 [(6,.ptr 0 0),(7,.ptr 1 0),(13,.fn 139 [.ptr 2 0,.ptr 3 0,.ptr 4 0])] 23),(6,.box 81 [.int (((l).getD r Sg.none).f),.int (((l).getD r Sg.none).t),.int (((l).getD r Sg.none).o),Ao (((l).getD r Sg.none).x),Ao (((l).getD r Sg.none).y),Ao (((l).getD r Sg.none).z)]),(7,.box 81 [.int ((Bs ((l).getD r Sg.none) (pA l f r) (pB l t r)).f),.int ((Bs ((l).getD r Sg.none) (pA l f r) (pB l t r)).t),.int ((Bs ((l).getD r Sg.none) (pA l f r) (pB l t r)).o),Ao ((Bs ((l).getD r Sg.none) (pA l f r) (pB l t r)).x),Ao ((Bs ((l).getD r Sg.none) (pA l f r) (pB l t r)).y),Ao ((Bs ((l).getD r Sg.none) (pA l f r) (pB l t r)).z)]),(8,.box 81 [.int ((Bs ((l).getD r Sg.none) (pA l f r) (pB l t r)).f),.int ((Bs ((l).getD r Sg.none) (pA l f r) (pB l t r)).t),.int ((Bs ((l).getD r Sg.none) (pA l f r) (pB l t r)).o),Ao ((Bs ((l).getD r Sg.none) (pA l f r) (pB l t r)).x),Ao ((Bs ((l).getD r Sg.none) (pA l f r) (pB l t r)).y),Ao ((Bs ((l).getD r Sg.none) (pA l f r) (pB l t r)).z)]),(9,.vec 81 6 1 (λ_=>Bn (Bs ((l).getD r Sg.none) (pA l f r) (pB l t r)))),(10,.vec 81 6 1 (λxi=>Bn ((Hp l f t (r+1)).getD xi Sg.none)))],11,62⟩ ?_
 refine uX [(0,0),(1,1),(2,2),(3,3),(4,4),(5,5),(10,50)] 51 6 hD3 _ (Cb (Cb (Cb (Cb (Cb (Po (Cb (Cb (Cb (Od (λi _ j hj=>match j,hj with|0,_=>rfl|1,_=>rfl|2,_=>rfl|3,_=>rfl|4,_=>rfl|5,_=>rfl|_+6,h=>absurd h (by omega)) (Od (λi _ j hj=>match j,hj with|0,_=>rfl|1,_=>rfl|2,_=>rfl|3,_=>rfl|4,_=>rfl|5,_=>rfl|_+6,h=>absurd h (by omega)) Sj))))))))))) ?_
 refine Iu (qw ((r:Int)+1) ((r+1:Nat):Int) ?_)
 refine Ii 1 ?_
 refine Tj [0,2,3,12,13,14] ?_
 exact⟨_,(by omega:l.length-(r+1)<l.length-r),r+1,1,(by omega),rfl,⟨by rw[Me hlt,List.length_append,List.length_singleton];omega,eI hx6 hFr.2.1,by omega⟩,(.inr ⟨by omega,(by kernel_rfl)⟩)⟩
 have hx4d:=of_decide_eq_false hx4
 refine qF hx4 ?_
 refine Uj ?_
 refine⟨.inr rfl,.lit (.tuple #[]),(Om results139).castI (by kernel_rfl),.ready,none,[(6,.ptr 0 0),(7,.ptr 1 0),(13,.fn 139 [.ptr 2 0,.ptr 3 0,.ptr 4 0])],23,(by kernel_rfl),(λh=>by cases h),?_⟩
 exfalso;have hql:r=l.length:=(by omega);subst hql;omega
 refine Ch (qb (decide ((r:Int)<((l).length:Int))) ?_)
 refine Oi [0,2,3,12,13,14,15] ?_
 refine Iw ?_
 refine Ey (decide ((r:Int)<((l).length:Int))) (λhx9=>?_) (λhx9=>?_)
 have hx9d:=of_decide_eq_true hx9
 refine qT hx9 ?_
 refine Li (Iw ?_)
 refine Jt ?_
 have hso:=(hok.1 r (by omega)).1
 have hs:=hl.2 r
 have hh:=hso.1
 unfold Jy at hh
 have hA:pA l f r=max f ((l).getD r Sg.none).f:=rfl
 have hB:pB l t r=min t ((l).getD r Sg.none).t:=rfl
 have hD:pD ((l).getD r Sg.none)=((l).getD r Sg.none).t-((l).getD r Sg.none).f:=rfl
 refine Ch (Adf (.elt 6 (λq=>AV.cell (Bn ((l).getD r Sg.none)) q)) (fQ 54 (.tmp 12) (.tmp 14) underlying54 6 ((l).length) r (λi0=>Bn ((l).getD i0 Sg.none)) (r:Int) sizeOf81) ?_)
 refine Ii 3 ?_
 refine Oi [0,2,3,6,12,13,14] ?_
 refine Xg [(3,.int (max f (((l).getD r Sg.none).f)),.none),(7,.int (min t (((l).getD r Sg.none).t)),.none)] [0,2,3,6,7,8,12,13,14] 52 ⟨?_,?_,trivial⟩ ?_
 exact Av (jP (.tmp 18) (.tmp 20) #[3,3] (by kernel_rfl) f (((l).getD r Sg.none).f) (by kernel_rfl) (by kernel_rfl))
 exact Av (uT (.tmp 22) (.tmp 24) #[3,3] (by kernel_rfl) t (((l).getD r Sg.none).t) (by kernel_rfl) (by kernel_rfl))
 refine Iw (Ch ?_)
 refine Ii 2 ?_
 refine qb (decide (min t (((l).getD r Sg.none).t)<=max f (((l).getD r Sg.none).f))) ?_
 refine Oi [0,2,3,6,7,8,12,13,14,28] ?_
 refine Ey (decide (min t (((l).getD r Sg.none).t)<=max f (((l).getD r Sg.none).f))) (λhx10=>?_) (λhx10=>?_)
 have hx10d:=of_decide_eq_true hx10
 refine qT hx10 ?_
 refine Uj (Acf 50 81 6 n (λxi=>Bn ((Hp l f t r).getD xi Sg.none)) (λxi=>Bn ((Hp l f t (r+1)).getD xi Sg.none)) (by kernel_rfl) (λx9 hx9=>by rw[Oc (by omega)]) ?_)
 refine jY [0,2,3,6,7,8,12,13,14,28] ⟨[(0,.yld 5),(2,.ptr 3 0),(3,.ptr 4 0),(6,.ptr 51 0),(7,.int (max f (((l).getD r Sg.none).f))),(8,.int (min t (((l).getD r Sg.none).t))),(12,Ai l),(13,.int ((l).length:Int)),(14,.int (r:Int)),(28,.bool true)],[(0,.box 54 [.osl 50 6 n]),(1,.box 37 [.int 0]),(2,.box 54 [Ai l]),(3,.box 3 [.int f]),(4,.box 3 [.int t]),(5,.loop .ready none sp2 [(6,.ptr 0 0),(7,.ptr 1 0),(13,.fn 139 [.ptr 2 0,.ptr 3 0,.ptr 4 0])] 23),(50,.vec 81 6 n (λxi=>Bn ((Hp l f t (r+1)).getD xi Sg.none))),(51,.box 81 [.int (((l).getD r Sg.none).f),.int (((l).getD r Sg.none).t),.int (((l).getD r Sg.none).o),Ao (((l).getD r Sg.none).x),Ao (((l).getD r Sg.none).y),Ao (((l).getD r Sg.none).z)])],52,62⟩ ?_
 refine uX [(0,0),(1,1),(2,2),(3,3),(4,4),(5,5),(50,50)] 51 6 hD3 _ (Cb (Cb (Cb (Cb (Cb (Po (Od (λi _ j hj=>match j,hj with|0,_=>rfl|1,_=>rfl|2,_=>rfl|3,_=>rfl|4,_=>rfl|5,_=>rfl|_+6,h=>absurd h (by omega)) (Cb Sj)))))))) ?_
 refine Iu (qw ((r:Int)+1) ((r+1:Nat):Int) ?_)
 refine Ii 1 ?_
 refine Tj [0,2,3,12,13,14] ?_
 exact⟨_,(by omega:l.length-(r+1)<l.length-r),r+1,n,(by omega),rfl,⟨by rw[Oc (by omega)];omega,aK (by omega) hFr.2.1,by omega⟩,(.inr ⟨by omega,(by kernel_rfl)⟩)⟩
 have hx10d:=of_decide_eq_false hx10
 refine qF hx10 ?_
 refine Li ?_
 have hlt:pA l f r<pB l t r:=by omega
 refine Ch (Ii 4 ?_)
 refine qv (((l).getD r Sg.none).t-((l).getD r Sg.none).f) ?_
 refine Ii 1 ?_
 refine Oi [0,2,3,6,7,8,9,12,13,14] ?_
 refine Ey (Vw ((l).getD r Sg.none) (pA l f r) (pB l t r)) (λhx11=>?_) (λhx11=>?_)
 refine Xg [(6,.int (max f (((l).getD r Sg.none).f)-((l).getD r Sg.none).f),.none),(9,.int (min t (((l).getD r Sg.none).t)-max f (((l).getD r Sg.none).f)),.none),(11,.agg [Fa ((l).getD r Sg.none).x (pA l f r-((l).getD r Sg.none).f) (pB l t r-pA l f r) (pD ((l).getD r Sg.none)),Fa ((l).getD r Sg.none).y (pA l f r-((l).getD r Sg.none).f) (pB l t r-pA l f r) (pD ((l).getD r Sg.none)),Fa ((l).getD r Sg.none).z (pA l f r-((l).getD r Sg.none).f) (pB l t r-pA l f r) (pD ((l).getD r Sg.none))],.none),(14,.lit (Aj (((l).getD r Sg.none).o)),.none),(16,.lit (Aj (pD ((l).getD r Sg.none)^5)),.none),(17,.lit (Aj (((l).getD r Sg.none).o*pD ((l).getD r Sg.none)^5)),.none),(18,.lit (.tuple #[.agg #[.int .i64 (pA l f r),.int .i64 (pB l t r),.int .i64 0,.slice none 0 0,.slice none 0 0,.slice none 0 0],.bool false]),.none),(20,.lit (.agg #[.int .i64 (pA l f r),.int .i64 (pB l t r),.int .i64 0,.slice none 0 0,.slice none 0 0,.slice none 0 0]),.none),(21,.bool false,.none)] [0,2,3,10,11,12,13,14] 53 ⟨?_,?_,?_,?_,?_,?_,?_,?_,?_,trivial⟩ ?_
 exact qwD (max f (((l).getD r Sg.none).f)-((l).getD r Sg.none).f)
 exact qwD (min t (((l).getD r Sg.none).t)-max f (((l).getD r Sg.none).f))
 exact Av (Lg 141 #[.tmp 37,.tmp 41,.tmp 44,.tmp 45] #[81,3,3,3] [Bn ((l).getD r Sg.none),.int (max f (((l).getD r Sg.none).f)-((l).getD r Sg.none).f),.int (min t (((l).getD r Sg.none).t)-max f (((l).getD r Sg.none).f)),.int (((l).getD r Sg.none).t-((l).getD r Sg.none).f)] (.agg [Fa ((l).getD r Sg.none).x (pA l f r-((l).getD r Sg.none).f) (pB l t r-pA l f r) (pD ((l).getD r Sg.none)),Fa ((l).getD r Sg.none).y (pA l f r-((l).getD r Sg.none).f) (pB l t r-pA l f r) (pD ((l).getD r Sg.none)),Fa ((l).getD r Sg.none).z (pA l f r-((l).getD r Sg.none).f) (pB l t r-pA l f r) (pD ((l).getD r Sg.none))]) (Lj ((l).getD r Sg.none) _ _ _ hs hso (Bl (by omega)) (Bl (by omega)) (Bl (by omega)) (by omega)))
 exact Av (Lg 95 #[.tmp 48] #[3] [.int (((l).getD r Sg.none).o)] (.lit (Aj (((l).getD r Sg.none).o))) (Gf _ hs.o.1 hs.o.2))
 exact Ade (Fz (pD ((l).getD r Sg.none)) 5 (Bl (by omega)).1 (Bl (by omega)).2 (by omega) (λj hj=>Ei (Bl (by omega)) (by omega)))
 exact Av (Lg 94 #[.tmp 49,.tmp 51] #[70,70] [.lit (Aj (((l).getD r Sg.none).o)),.lit (Aj (pD ((l).getD r Sg.none)^5))] (.lit (Aj (((l).getD r Sg.none).o*pD ((l).getD r Sg.none)^5))) (Ju _ _ (Hn hs.o) (Ei (Bl (by omega)) (by omega)) ((Xe hs (Bl (by omega))).fit (by omega))))
 exact Av (Lg 140 #[.tmp 35,.tmp 36,.tmp 46,.tmp 52] #[3,3,203,70] [.int (max f (((l).getD r Sg.none).f)),.int (min t (((l).getD r Sg.none).t)),.agg [Fa ((l).getD r Sg.none).x (pA l f r-((l).getD r Sg.none).f) (pB l t r-pA l f r) (pD ((l).getD r Sg.none)),Fa ((l).getD r Sg.none).y (pA l f r-((l).getD r Sg.none).f) (pB l t r-pA l f r) (pD ((l).getD r Sg.none)),Fa ((l).getD r Sg.none).z (pA l f r-((l).getD r Sg.none).f) (pB l t r-pA l f r) (pD ((l).getD r Sg.none))],.lit (Aj (((l).getD r Sg.none).o*pD ((l).getD r Sg.none)^5))] (.lit (.tuple #[.agg #[.int .i64 (pA l f r),.int .i64 (pB l t r),.int .i64 0,.slice none 0 0,.slice none 0 0,.slice none 0 0],.bool false])) (Zq ((l).getD r Sg.none) _ _ hs hso (by omega) (by omega) hx11))
 exact Av (Afc (v:= .agg #[.int .i64 (pA l f r),.int .i64 (pB l t r),.int .i64 0,.slice none 0 0,.slice none 0 0,.slice none 0 0]) (v':= .agg #[.int .i64 (pA l f r),.int .i64 (pB l t r),.int .i64 0,.slice none 0 0,.slice none 0 0,.slice none 0 0]) rfl _)
 exact qbD
 refine Ch (Ii 3 ?_)
 refine Ur (.tmp 56) #[.tmp 57,.tmp 58] #[81,4] 5 [(6,.ptr 0 0),(7,.ptr 1 0),(13,.fn 139 [.ptr 2 0,.ptr 3 0,.ptr 4 0])] 23 [.lit (.agg #[.int .i64 (pA l f r),.int .i64 (pB l t r),.int .i64 0,.slice none 0 0,.slice none 0 0,.slice none 0 0]),.bool false] sp2p sp2a sp2b rfl (by kernel_rfl) rfl (by kernel_rfl) (by kernel_rfl) (by kernel_rfl) (by kernel_rfl) ⟨[(15,.bool false),(14,.lit (.agg #[.int .i64 (pA l f r),.int .i64 (pB l t r),.int .i64 0,.slice none 0 0,.slice none 0 0,.slice none 0 0])),(6,.ptr 0 0),(7,.ptr 1 0),(13,.fn 139 [.ptr 2 0,.ptr 3 0,.ptr 4 0])],[(0,.box 54 [.osl 50 6 n]),(1,.box 37 [.int 0]),(2,.box 54 [Ai l]),(3,.box 3 [.int f]),(4,.box 3 [.int t]),(5,.loop .ready none sp2 [(6,.ptr 0 0),(7,.ptr 1 0),(13,.fn 139 [.ptr 2 0,.ptr 3 0,.ptr 4 0])] 23),(50,.vec 81 6 n (λxi=>Bn ((Hp l f t r).getD xi Sg.none))),(51,.box 81 [.int (((l).getD r Sg.none).f),.int (((l).getD r Sg.none).t),.int (((l).getD r Sg.none).o),Ao (((l).getD r Sg.none).x),Ao (((l).getD r Sg.none).y),Ao (((l).getD r Sg.none).z)]),(52,.box 81 [.int (pA l f r),.int (pB l t r),.int 0,.lit (.slice none 0 0),.lit (.slice none 0 0),.lit (.slice none 0 0)])],53,23⟩ (by kernel_rfl) λ_ _ hD12=>?_
 refine kA 2 [6,7,8,15] ?_
 refine Iu (Ii 1 ?_)
 refine Tj [6,7,8,9] ?_
 refine⟨[(6,.ptr 0 0),(7,.ptr 1 0),(13,.fn 139 [.ptr 2 0,.ptr 3 0,.ptr 4 0])],(by kernel_rfl),?_⟩
 refine Jt (Iw ?_)
 refine Ch (Ii 1 ?_)
 refine qb true ?_
 refine Oi [6,7,8,17] ?_
 refine jZ (kA 2 [6,7] ?_)
 refine Pc ?_
 refine⟨[(6,.ptr 0 0),(7,.ptr 1 0),(13,.fn 139 [.ptr 2 0,.ptr 3 0,.ptr 4 0])],(by kernel_rfl),?_⟩
 refine qb true ?_
 refine Oi [0,2,3,12,13,14,60] ?_
 refine jZ (Pc ?_)
 refine⟨.inl rfl,.lit (.tuple #[]),(Om results139).castI (by kernel_rfl),.done,(some .ret),[(6,.ptr 0 0),(7,.ptr 1 0),(13,.fn 139 [.ptr 2 0,.ptr 3 0,.ptr 4 0])],23,(by kernel_rfl),(λh=>by cases h),?_⟩
 refine Pc ?_
 exact⟨.inl rfl,(kH results87 (Jc (x:= .lit (.slice none 0 0)) 0 isAgg54 0 [.lit (.slice none 0 0)] (by kernel_rfl) 54 (by kernel_rfl) (Nat.le_of_ble_eq_true (by kernel_rfl)) (by kernel_rfl) (by kernel_rfl)) (Jc (x:= .int 7) 1 isAgg37 0 [.int 7] (by kernel_rfl) 37 (by kernel_rfl) (Nat.le_of_ble_eq_true (by kernel_rfl)) (by kernel_rfl) (by kernel_rfl))).cast (Ol (tQ (j:=r) (by omega) hlt hx11) (by decide)).symm⟩
 refine Xg [(6,.int (max f (((l).getD r Sg.none).f)-((l).getD r Sg.none).f),.none),(9,.int (min t (((l).getD r Sg.none).t)-max f (((l).getD r Sg.none).f)),.none),(11,.agg [Fa ((l).getD r Sg.none).x (pA l f r-((l).getD r Sg.none).f) (pB l t r-pA l f r) (pD ((l).getD r Sg.none)),Fa ((l).getD r Sg.none).y (pA l f r-((l).getD r Sg.none).f) (pB l t r-pA l f r) (pD ((l).getD r Sg.none)),Fa ((l).getD r Sg.none).z (pA l f r-((l).getD r Sg.none).f) (pB l t r-pA l f r) (pD ((l).getD r Sg.none))],.none),(14,.lit (Aj (((l).getD r Sg.none).o)),.none),(16,.lit (Aj (pD ((l).getD r Sg.none)^5)),.none),(17,.lit (Aj (((l).getD r Sg.none).o*pD ((l).getD r Sg.none)^5)),.none),(18,.tup [Bn (Bs ((l).getD r Sg.none) (pA l f r) (pB l t r)),.bool true],.none)] [0,2,3,10,11,12,13,14] 53 ⟨?_,?_,?_,?_,?_,?_,?_,trivial⟩ ?_
 exact qwD (max f (((l).getD r Sg.none).f)-((l).getD r Sg.none).f)
 exact qwD (min t (((l).getD r Sg.none).t)-max f (((l).getD r Sg.none).f))
 exact Av (Lg 141 #[.tmp 37,.tmp 41,.tmp 44,.tmp 45] #[81,3,3,3] [Bn ((l).getD r Sg.none),.int (max f (((l).getD r Sg.none).f)-((l).getD r Sg.none).f),.int (min t (((l).getD r Sg.none).t)-max f (((l).getD r Sg.none).f)),.int (((l).getD r Sg.none).t-((l).getD r Sg.none).f)] (.agg [Fa ((l).getD r Sg.none).x (pA l f r-((l).getD r Sg.none).f) (pB l t r-pA l f r) (pD ((l).getD r Sg.none)),Fa ((l).getD r Sg.none).y (pA l f r-((l).getD r Sg.none).f) (pB l t r-pA l f r) (pD ((l).getD r Sg.none)),Fa ((l).getD r Sg.none).z (pA l f r-((l).getD r Sg.none).f) (pB l t r-pA l f r) (pD ((l).getD r Sg.none))]) (Lj ((l).getD r Sg.none) _ _ _ hs hso (Bl (by omega)) (Bl (by omega)) (Bl (by omega)) (by omega)))
 exact Av (Lg 95 #[.tmp 48] #[3] [.int (((l).getD r Sg.none).o)] (.lit (Aj (((l).getD r Sg.none).o))) (Gf _ hs.o.1 hs.o.2))
 exact Ade (Fz (pD ((l).getD r Sg.none)) 5 (Bl (by omega)).1 (Bl (by omega)).2 (by omega) (λj hj=>Ei (Bl (by omega)) (by omega)))
 exact Av (Lg 94 #[.tmp 49,.tmp 51] #[70,70] [.lit (Aj (((l).getD r Sg.none).o)),.lit (Aj (pD ((l).getD r Sg.none)^5))] (.lit (Aj (((l).getD r Sg.none).o*pD ((l).getD r Sg.none)^5))) (Ju _ _ (Hn hs.o) (Ei (Bl (by omega)) (by omega)) ((Xe hs (Bl (by omega))).fit (by omega))))
 exact Av (Lg 140 #[.tmp 35,.tmp 36,.tmp 46,.tmp 52] #[3,3,203,70] [.int (max f (((l).getD r Sg.none).f)),.int (min t (((l).getD r Sg.none).t)),.agg [Fa ((l).getD r Sg.none).x (pA l f r-((l).getD r Sg.none).f) (pB l t r-pA l f r) (pD ((l).getD r Sg.none)),Fa ((l).getD r Sg.none).y (pA l f r-((l).getD r Sg.none).f) (pB l t r-pA l f r) (pD ((l).getD r Sg.none)),Fa ((l).getD r Sg.none).z (pA l f r-((l).getD r Sg.none).f) (pB l t r-pA l f r) (pD ((l).getD r Sg.none))],.lit (Aj (((l).getD r Sg.none).o*pD ((l).getD r Sg.none)^5))] (.tup [Bn (Bs ((l).getD r Sg.none) (pA l f r) (pB l t r)),.bool true]) (Zr ((l).getD r Sg.none) _ _ hs hso (by omega) (by omega) hx11))
 refine Ch (Ii 3 ?_)
 refine Ur (.tmp 56) #[.tmp 57,.tmp 58] #[81,4] 5 [(6,.ptr 0 0),(7,.ptr 1 0),(13,.fn 139 [.ptr 2 0,.ptr 3 0,.ptr 4 0])] 23 [Bn (Bs ((l).getD r Sg.none) (pA l f r) (pB l t r)),.bool true] sp2p sp2a sp2b rfl (by kernel_rfl) rfl (by kernel_rfl) (by kernel_rfl) (by kernel_rfl) (by kernel_rfl) ⟨[(15,.bool true),(14,Bn (Bs ((l).getD r Sg.none) (pA l f r) (pB l t r))),(6,.ptr 0 0),(7,.ptr 1 0),(13,.fn 139 [.ptr 2 0,.ptr 3 0,.ptr 4 0])],[(0,.box 54 [.osl 50 6 n]),(1,.box 37 [.int 0]),(2,.box 54 [Ai l]),(3,.box 3 [.int f]),(4,.box 3 [.int t]),(5,.loop .ready none sp2 [(6,.ptr 0 0),(7,.ptr 1 0),(13,.fn 139 [.ptr 2 0,.ptr 3 0,.ptr 4 0])] 23),(50,.vec 81 6 n (λxi=>Bn ((Hp l f t r).getD xi Sg.none))),(51,.box 81 [.int (((l).getD r Sg.none).f),.int (((l).getD r Sg.none).t),.int (((l).getD r Sg.none).o),Ao (((l).getD r Sg.none).x),Ao (((l).getD r Sg.none).y),Ao (((l).getD r Sg.none).z)]),(52,.box 81 [.int ((Bs ((l).getD r Sg.none) (pA l f r) (pB l t r)).f),.int ((Bs ((l).getD r Sg.none) (pA l f r) (pB l t r)).t),.int ((Bs ((l).getD r Sg.none) (pA l f r) (pB l t r)).o),Ao ((Bs ((l).getD r Sg.none) (pA l f r) (pB l t r)).x),Ao ((Bs ((l).getD r Sg.none) (pA l f r) (pB l t r)).y),Ao ((Bs ((l).getD r Sg.none) (pA l f r) (pB l t r)).z)])],53,23⟩ (by kernel_rfl) λ_ _ hD13=>?_
 refine kA 2 [6,7,8,15] ?_
 refine Iu (Ii 1 ?_)
 refine Tj [6,7,8,9] ?_
 refine⟨[(6,.ptr 0 0),(7,.ptr 1 0),(13,.fn 139 [.ptr 2 0,.ptr 3 0,.ptr 4 0])],(by kernel_rfl),?_⟩
 refine Jt (Iw ?_)
 refine Ch (Ii 1 ?_)
 refine qb false ?_
 refine Oi [6,7,8,17] ?_
 refine Zf (Li ?_)
 refine Iu (Ii 2 ?_)
 refine qop (.osl 54 6 1) (.new 54 (.vec 81 6 1 (λ_=>Bn (Bs ((l).getD r Sg.none) (pA l f r) (pB l t r))))) (Yg 54 1 #[(0,(.tmp 19))] underlying54 6 sizeOf81 _ zeroValue81 54 [.int ((Bs ((l).getD r Sg.none) (pA l f r) (pB l t r)).f),.int ((Bs ((l).getD r Sg.none) (pA l f r) (pB l t r)).t),.int ((Bs ((l).getD r Sg.none) (pA l f r) (pB l t r)).o),Ao ((Bs ((l).getD r Sg.none) (pA l f r) (pB l t r)).x),Ao ((Bs ((l).getD r Sg.none) (pA l f r) (pB l t r)).y),Ao ((Bs ((l).getD r Sg.none) (pA l f r) (pB l t r)).z)] (λ_=>Bn (Bs ((l).getD r Sg.none) (pA l f r) (pB l t r)))) ?_
 refine qop (.osl 55 6 (n+1)) (.grow2 50 54 55 (.vec 81 6 (n+1) (λxi=>Bn ((Hp l f t (r+1)).getD xi Sg.none)))) (Cz (.tmp 18) (.tmp 20) 54 (by kernel_rfl) underlying54 6 96 (.agg #[.int .i64 0,.int .i64 0,.int .i64 0,.slice none 0 0,.slice none 0 0,.slice none 0 0]) (by kernel_rfl) (by kernel_rfl) (by decide) n 1 (by omega) (λxi=>Bn ((Hp l f t r).getD xi Sg.none)) (λ_=>Bn (Bs ((l).getD r Sg.none) (pA l f r) (pB l t r))) (λxi=>Bn ((Hp l f t (r+1)).getD xi Sg.none)) 55 (by omega) (by unfold maxLen;omega) (λi hi=>by show Bn _=Bn _;rw[Me hlt,Kt,if_pos (by omega)]) (λi hi=>by(obtain rfl:i=0:=(by omega));show Bn _=Bn _;rw[Me hlt,Kt,if_neg (by omega),show n+0-(Hp l f t r).length=0 by omega];rfl) (λi hi j hj=>match j,hj with|0,_=>rfl|1,_=>rfl|2,_=>rfl|3,_=>rfl|4,_=>rfl|5,_=>rfl|_+6,h=>absurd h (by omega)) 50 (by kernel_rfl) (by kernel_rfl) 54 81 (by kernel_rfl) (by kernel_rfl)) ?_
 refine Ii 1 ?_
 refine Tj [] ?_
 refine⟨[(6,.ptr 0 0),(7,.ptr 1 0),(13,.fn 139 [.ptr 2 0,.ptr 3 0,.ptr 4 0])],(by kernel_rfl),?_⟩
 refine qb false ?_
 refine Oi [0,2,3,12,13,14,60] ?_
 refine Zf (Li ?_)
 refine jY [0,2,3,12,13,14,60] ⟨[(0,.yld 5),(2,.ptr 3 0),(3,.ptr 4 0),(12,Ai l),(13,.int ((l).length:Int)),(14,.int (r:Int)),(60,.bool false)],[(0,.box 54 [.osl 55 6 (n+1)]),(1,.box 37 [.int 0]),(2,.box 54 [Ai l]),(3,.box 3 [.int f]),(4,.box 3 [.int t]),(5,.loop .ready none sp2 [(6,.ptr 0 0),(7,.ptr 1 0),(13,.fn 139 [.ptr 2 0,.ptr 3 0,.ptr 4 0])] 23),(51,.box 81 [.int (((l).getD r Sg.none).f),.int (((l).getD r Sg.none).t),.int (((l).getD r Sg.none).o),Ao (((l).getD r Sg.none).x),Ao (((l).getD r Sg.none).y),Ao (((l).getD r Sg.none).z)]),(52,.box 81 [.int ((Bs ((l).getD r Sg.none) (pA l f r) (pB l t r)).f),.int ((Bs ((l).getD r Sg.none) (pA l f r) (pB l t r)).t),.int ((Bs ((l).getD r Sg.none) (pA l f r) (pB l t r)).o),Ao ((Bs ((l).getD r Sg.none) (pA l f r) (pB l t r)).x),Ao ((Bs ((l).getD r Sg.none) (pA l f r) (pB l t r)).y),Ao ((Bs ((l).getD r Sg.none) (pA l f r) (pB l t r)).z)]),(53,.box 81 [.int ((Bs ((l).getD r Sg.none) (pA l f r) (pB l t r)).f),.int ((Bs ((l).getD r Sg.none) (pA l f r) (pB l t r)).t),.int ((Bs ((l).getD r Sg.none) (pA l f r) (pB l t r)).o),Ao ((Bs ((l).getD r Sg.none) (pA l f r) (pB l t r)).x),Ao ((Bs ((l).getD r Sg.none) (pA l f r) (pB l t r)).y),Ao ((Bs ((l).getD r Sg.none) (pA l f r) (pB l t r)).z)]),(54,.vec 81 6 1 (λ_=>Bn (Bs ((l).getD r Sg.none) (pA l f r) (pB l t r)))),(55,.vec 81 6 (n+1) (λxi=>Bn ((Hp l f t (r+1)).getD xi Sg.none)))],56,62⟩ ?_
 refine uX [(0,0),(1,1),(2,2),(3,3),(4,4),(5,5),(55,50)] 51 6 hD3 _ (Cb (Cb (Cb (Cb (Cb (Po (Cb (Cb (Cb (Od (λi _ j hj=>match j,hj with|0,_=>rfl|1,_=>rfl|2,_=>rfl|3,_=>rfl|4,_=>rfl|5,_=>rfl|_+6,h=>absurd h (by omega)) (Od (λi _ j hj=>match j,hj with|0,_=>rfl|1,_=>rfl|2,_=>rfl|3,_=>rfl|4,_=>rfl|5,_=>rfl|_+6,h=>absurd h (by omega)) Sj))))))))))) ?_
 refine Iu (qw ((r:Int)+1) ((r+1:Nat):Int) ?_)
 refine Ii 1 ?_
 refine Tj [0,2,3,12,13,14] ?_
 exact⟨_,(by omega:l.length-(r+1)<l.length-r),r+1,n+1,(by omega),rfl,⟨by rw[Me hlt,List.length_append,List.length_singleton];omega,eI hx11 hFr.2.1,by omega⟩,(.inr ⟨by omega,(by kernel_rfl)⟩)⟩
 have hx9d:=of_decide_eq_false hx9
 refine qF hx9 ?_
 refine Uj ?_
 refine⟨.inr rfl,.lit (.tuple #[]),(Om results139).castI (by kernel_rfl),.ready,none,[(6,.ptr 0 0),(7,.ptr 1 0),(13,.fn 139 [.ptr 2 0,.ptr 3 0,.ptr 4 0])],23,(by kernel_rfl),(λh=>by cases h),?_⟩
 refine kA 3 [6,7] ?_
 refine pV 50 0 0 81 6 n (λxi=>Bn ((Hp l f t r).getD xi Sg.none)) 54 [.osl 50 6 n] [.sl 6 n (λxi=>Bn ((Hp l f t r).getD xi Sg.none))] (by kernel_rfl) (by kernel_rfl) (by kernel_rfl) (by kernel_rfl) (by kernel_rfl) (λi _ j hj=>match j,hj with|0,_=>rfl|1,_=>rfl|2,_=>rfl|3,_=>rfl|4,_=>rfl|5,_=>rfl|_+6,h=>absurd h (by omega)) ?_
 refine Pc ?_
 exact⟨.inl rfl,(kH results87 (Jc (x:= .sl 6 n (λxi=>Bn ((Hp l f t r).getD xi Sg.none))) 0 isAgg54 0 [.sl 6 n (λxi=>Bn ((Hp l f t r).getD xi Sg.none))] (by kernel_rfl) 54 (by kernel_rfl) (Nat.le_of_ble_eq_true (by kernel_rfl)) (by kernel_rfl) (by kernel_rfl)) (Jc (x:= .int 0) 1 isAgg37 0 [.int 0] (by kernel_rfl) 37 (by kernel_rfl) (Nat.le_of_ble_eq_true (by kernel_rfl)) (by kernel_rfl) (by kernel_rfl))).cast (by have hql:r=l.length:=(by omega);subst hql;rw[vB (tR hFr.2.1),hFr.1];rfl)⟩
theorem AdP (l:List Sg) (f t:Int) (hl:Dh l) (hok:Fj l) (hf:(l.getD 0 Sg.none).f<=f) (hft:f<t) (ht:t<=(l.getD (l.length-1) Sg.none).t):AF Tryz.prog 87 [Ai l,.int f,.int t] (kG (mI l f t)):=by
 have h0:=(hok.1 0 (by have:=hok.2;omega)).1.1
 have h1:=(hok.1 (l.length-1) (by have:=hok.2;omega)).1.1
 unfold Jy at h0 h1
 exact Aci l f t hl hok (by omega) (by omega) (Ac4 hok hf hft ht)
theorem vV (l:List Sg) (f t:Int) (hl:Dh l) (hok:Fj l) (hf:(l.getD 0 Sg.none).f<=f) (hft:f<t) (ht:t<=(l.getD (l.length-1) Sg.none).t) (h:(mI l f t).2=0):AF Tryz.prog 52 [Ai l,.int f,.int t] (.tup [Ai (mI l f t).1,.int 0]):=by
 refine Cx func52 rfl λB D0 hA0=>?_
 refine Ae 9 ?_
 refine Ds (Ack l hl hok) ?_
 refine Ae 24 ?_
 refine Lh 24 (decide (f<(l.getD 0 Sg.none).f)) false (decide_eq_false (by omega)) ?_
 refine Ae 4 ?_
 refine Lh 28 (decide (t<=f)) false (decide_eq_false (by omega)) ?_
 refine Ae 5 ?_
 refine Lh 33 (decide ((l.getD (l.length-1) Sg.none).t<t)) false (decide_eq_false (by omega)) ?_
 refine Ae 13 ?_
 refine Ds (by have:=AdP l f t hl hok hf hft ht;unfold kG at this;rwa [if_pos h] at this) ?_
 refine Ae 7 ?_
 exact Hq
theorem Acg (a b:V3) (r f t:Int) (hv:Ll a b f t=true) (hq:(t-f)%4=0) (hr: -2097152<=r/\r<=2097152) (h1:(a.up r).pt=true) (h2:(b.up r).pt=true):AF Tryz.prog 50 [Gv a,Gv b,.int r,.int f,.int t] (.tup [Ai (aF a b r f t),.int 0]):=
 gS (vs:=[_,_,_,_,_]) λw=>(tJ a.x a.y a.z b.x b.y b.z r f t w hv hq hr h1 h2).mono λe w' ⟨A,c,he,hp,hb⟩=>⟨_,he,hb,λE' g1 g2=>Ae2 (jS hp g1 λb hb=>g2 b hb.1 hb.2) (.lit _ _)⟩
theorem tX (a b:V3) (f t k:Int):(aR a b f t k).1=Gb a b f t k:=by unfold aR Gb;split<;>rfl
theorem Mg {a b:V3} {f t:Int} (pa:a.pt=true) (pb:b.pt=true) (h0:0<=f) (h1:f<t) (h2:t<=3600000):Ll a b f t=true:=by
 unfold Ll Gp
 simp only[Bool.and_eq_true,decide_eq_true_eq]
 exact⟨⟨⟨⟨pa,pb⟩,h0⟩,h1⟩,h2⟩
theorem AaN {a b:V3} {f t:Int} (k:Int) (h:Ll a b f t=true):(aR a b f t k).2=0:=by unfold aR;rw[if_pos h]
theorem vY {a:V3} {f t:Int} (h:Ll a a f t=true):AF Tryz.prog 62 [Gv a,.int f,.int t] (.tup [Ai (Gb a a f t 0),.int 0]):=by
 have:=vZ a f t
 rwa [tX,AaN 0 h] at this
theorem dX {a b:V3} {f t:Int} (h:Ll a b f t=true):AF Tryz.prog 49 [Gv a,Gv b,.int f,.int t] (.tup [Ai (Gb a b f t 2),.int 0]):=by
 have:=vX a b f t
 rwa [tX,AaN 2 h] at this
theorem Ms {a b:List Sg} (ha:Dh a) (hb:Dh b) (h:Nt a b=(a++b,0)):AF Tryz.prog 88 [Ai a,Ai b] (.tup [Ai (a++b),.int 0]):=by
 have h2:=gL a b ha hb (by rw[h])
 rwa [h] at h2
theorem tU (x y z x' y' z':Int) (w:World):(Op.equal 52 (.agg #[.int .i64 x,.int .i64 y,.int .i64 z]) (.agg #[.int .i64 x',.int .i64 y',.int .i64 z'])).run Tryz.prog w= .ok (decide (x=x'/\y=y'/\z=z')) w:=by
 have h55:=Tryz.runUnderlying52
 have h3:=Tryz.runUnderlying3
 have ha:=isAgg3
 have hin:Tryz.prog.stoodInHeld 52=false:=by kernel_rfl
 unfold Op.equal
 rw[show Op.maxDepth=9998+1+1 from rfl]
 unfold Op.equalIn
 simp[h55,part,ha,hin]
 unfold Op.equalIn
 simp[h3]
 by_cases h1:x=x'<;>by_cases h2:y=y'<;>by_cases h3:z=z'<;>simp[h1,h2,h3]
def Aed (l:List Rl) (x:Rl) (n:Nat):Prop:=∃q,q<n/\(l.getD q Rl.none).spare=x.spare/\(l.getD q Rl.none).wait=x.wait/\(l.getD q Rl.none).rise=x.rise
theorem AaR {l:List Rl} {x:Rl}:Aed l x l.length↔x∈l:=by
 constructor
 rintro⟨q,hq,h1,h2,h3⟩
 have e:l.getD q Rl.none=x:=by
  cases hx:l.getD q Rl.none;cases x;rw[hx] at h1 h2 h3;simp_all
 rw[<-e,List.getD_eq_getElem?_getD,List.getElem?_eq_getElem hq]
 exact List.getElem_mem hq
 intro h
 obtain⟨q,hq,rfl⟩:=List.getElem_of_mem h
 refine⟨q,hq,?_⟩
 simp[List.getD_eq_getElem?_getD,hq]
theorem lM (a:V3) (t:Int):AF Tryz.prog 54 [Gv a,.int t,.int t] (.lit (.slice none 0 0)):=by
 refine Cx func54 rfl λB D0 hA0=>?_
 refine Ae 12 ?_
 refine Lh 11 (decide (t=t)) true (decide_eq_true rfl) ?_
 refine Ae 10 ?_
 exact Hq
theorem Ef (a:V3) (f t:Int) (h:¬f=t) (hb:Ll a a f t=true):AF Tryz.prog 54 [Gv a,.int f,.int t] (Ai (Gb a a f t 0)):=by
 refine Cx func54 rfl λB D0 hA0=>?_
 refine Ae 12 ?_
 refine Lh 11 (decide (f=t)) false (decide_eq_false h) ?_
 refine Ae 10 ?_
 refine Ds (vY hb) ?_
 refine Ae 14 ?_
 exact Hq
theorem kZ (a b:List Sg) (pa:Dh a) (pb:Dh b) (na:0<a.length) (nb:0<b.length) (e1:Nt a b=(a++b,0)):AF Tryz.prog 53 [.sl 1 4 λxi=>[Ai a,Ai b,.lit (.slice none 0 0),.lit (.slice none 0 0)].getD xi .top] (.tup [Ai (a++b),.int 0]):=by
 have ln0:0<(a++b).length:=by simp only[List.length_append];omega
 refine Cx func53 rfl λB D0 hA0=>?_
 refine Ae 20 ?_
 refine zT 4 ?_
 refine Ae 13 ?_
 refine Gt 0 4 ?_
 refine Ae 8 ?_
 refine fZ ((a).length) ?_
 refine Ae 9 ?_
 refine pI (Ae 14 ?_)
 refine No (.int .i64 1) (.int .i64 1) ?_
 refine Ae 16 ?_
 refine Gt 1 4 ?_
 refine Ae 8 ?_
 refine fZ ((b).length) ?_
 refine Ae 9 ?_
 refine fZ ((a).length) ?_
 refine Ae 9 ?_
 refine Ds (Ms pa pb e1) ?_
 refine Ae 24 ?_
 refine No (.int .i64 2) (.int .i64 2) ?_
 refine Ae 16 ?_
 refine Gt 2 4 ?_
 refine Ae 8 ?_
 refine pI (Ae 8 ?_)
 refine No (.int .i64 3) (.int .i64 3) ?_
 refine Ae 16 ?_
 refine Gt 3 4 ?_
 refine Ae 8 ?_
 refine pI (Ae 8 ?_)
 refine No (.int .i64 4) (.int .i64 4) ?_
 refine Ae 23 ?_
 exact Hq
theorem lA (a b d:List Sg) (pa:Dh a) (pb:Dh b) (na:0<a.length) (nb:0<b.length) (e1:Nt a b=(a++b,0)) (pd:Dh d) (nd:0<d.length) (qd:Dh (a++b)) (e3:Nt (a++b) d=(a++b++d,0)):AF Tryz.prog 53 [.sl 1 4 λxi=>[Ai a,Ai b,.lit (.slice none 0 0),Ai d].getD xi .top] (.tup [Ai (a++b++d),.int 0]):=by
 have ln0:0<(a++b).length:=by simp only[List.length_append];omega
 have ln1:0<(a++b++d).length:=by simp only[List.length_append];omega
 refine Cx func53 rfl λB D0 hA0=>?_
 refine Ae 20 ?_
 refine zT 4 ?_
 refine Ae 13 ?_
 refine Gt 0 4 ?_
 refine Ae 8 ?_
 refine fZ ((a).length) ?_
 refine Ae 9 ?_
 refine pI (Ae 14 ?_)
 refine No (.int .i64 1) (.int .i64 1) ?_
 refine Ae 16 ?_
 refine Gt 1 4 ?_
 refine Ae 8 ?_
 refine fZ ((b).length) ?_
 refine Ae 9 ?_
 refine fZ ((a).length) ?_
 refine Ae 9 ?_
 refine Ds (Ms pa pb e1) ?_
 refine Ae 24 ?_
 refine No (.int .i64 2) (.int .i64 2) ?_
 refine Ae 16 ?_
 refine Gt 2 4 ?_
 refine Ae 8 ?_
 refine pI (Ae 8 ?_)
 refine No (.int .i64 3) (.int .i64 3) ?_
 refine Ae 16 ?_
 refine Gt 3 4 ?_
 refine Ae 8 ?_
 refine fZ ((d).length) ?_
 refine Ae 9 ?_
 refine fZ ((a++b).length) ?_
 refine Ae 9 ?_
 refine Ds (Ms qd pd e3) ?_
 refine Ae 24 ?_
 refine No (.int .i64 4) (.int .i64 4) ?_
 refine Ae 23 ?_
 exact Hq
theorem lB (a b c:List Sg) (pa:Dh a) (pb:Dh b) (na:0<a.length) (nb:0<b.length) (e1:Nt a b=(a++b,0)) (pc:Dh c) (nc:0<c.length) (qc:Dh (a++b)) (e2:Nt (a++b) c=(a++b++c,0)):AF Tryz.prog 53 [.sl 1 4 λxi=>[Ai a,Ai b,Ai c,.lit (.slice none 0 0)].getD xi .top] (.tup [Ai (a++b++c),.int 0]):=by
 have ln0:0<(a++b).length:=by simp only[List.length_append];omega
 have ln1:0<(a++b++c).length:=by simp only[List.length_append];omega
 refine Cx func53 rfl λB D0 hA0=>?_
 refine Ae 20 ?_
 refine zT 4 ?_
 refine Ae 13 ?_
 refine Gt 0 4 ?_
 refine Ae 8 ?_
 refine fZ ((a).length) ?_
 refine Ae 9 ?_
 refine pI (Ae 14 ?_)
 refine No (.int .i64 1) (.int .i64 1) ?_
 refine Ae 16 ?_
 refine Gt 1 4 ?_
 refine Ae 8 ?_
 refine fZ ((b).length) ?_
 refine Ae 9 ?_
 refine fZ ((a).length) ?_
 refine Ae 9 ?_
 refine Ds (Ms pa pb e1) ?_
 refine Ae 24 ?_
 refine No (.int .i64 2) (.int .i64 2) ?_
 refine Ae 16 ?_
 refine Gt 2 4 ?_
 refine Ae 8 ?_
 refine fZ ((c).length) ?_
 refine Ae 9 ?_
 refine fZ ((a++b).length) ?_
 refine Ae 9 ?_
 refine Ds (Ms qc pc e2) ?_
 refine Ae 24 ?_
 refine No (.int .i64 3) (.int .i64 3) ?_
 refine Ae 16 ?_
 refine Gt 3 4 ?_
 refine Ae 8 ?_
 refine pI (Ae 8 ?_)
 refine No (.int .i64 4) (.int .i64 4) ?_
 refine Ae 23 ?_
 exact Hq
theorem lC (a b c d:List Sg) (pa:Dh a) (pb:Dh b) (na:0<a.length) (nb:0<b.length) (e1:Nt a b=(a++b,0)) (pc:Dh c) (nc:0<c.length) (qc:Dh (a++b)) (e2:Nt (a++b) c=(a++b++c,0)) (pd:Dh d) (nd:0<d.length) (qd:Dh (a++b++c)) (e3:Nt (a++b++c) d=(a++b++c++d,0)):AF Tryz.prog 53 [.sl 1 4 λxi=>[Ai a,Ai b,Ai c,Ai d].getD xi .top] (.tup [Ai (a++b++c++d),.int 0]):=by
 have ln0:0<(a++b).length:=by simp only[List.length_append];omega
 have ln1:0<(a++b++c).length:=by simp only[List.length_append];omega
 have ln2:0<(a++b++c++d).length:=by simp only[List.length_append];omega
 refine Cx func53 rfl λB D0 hA0=>?_
 refine Ae 20 ?_
 refine zT 4 ?_
 refine Ae 13 ?_
 refine Gt 0 4 ?_
 refine Ae 8 ?_
 refine fZ ((a).length) ?_
 refine Ae 9 ?_
 refine pI (Ae 14 ?_)
 refine No (.int .i64 1) (.int .i64 1) ?_
 refine Ae 16 ?_
 refine Gt 1 4 ?_
 refine Ae 8 ?_
 refine fZ ((b).length) ?_
 refine Ae 9 ?_
 refine fZ ((a).length) ?_
 refine Ae 9 ?_
 refine Ds (Ms pa pb e1) ?_
 refine Ae 24 ?_
 refine No (.int .i64 2) (.int .i64 2) ?_
 refine Ae 16 ?_
 refine Gt 2 4 ?_
 refine Ae 8 ?_
 refine fZ ((c).length) ?_
 refine Ae 9 ?_
 refine fZ ((a++b).length) ?_
 refine Ae 9 ?_
 refine Ds (Ms qc pc e2) ?_
 refine Ae 24 ?_
 refine No (.int .i64 3) (.int .i64 3) ?_
 refine Ae 16 ?_
 refine Gt 3 4 ?_
 refine Ae 8 ?_
 refine fZ ((d).length) ?_
 refine Ae 9 ?_
 refine fZ ((a++b++c).length) ?_
 refine Ae 9 ?_
 refine Ds (Ms qd pd e3) ?_
 refine Ae 24 ?_
 refine No (.int .i64 4) (.int .i64 4) ?_
 refine Ae 23 ?_
 exact Hq
theorem gP (l:List Rl) (x:Rl) (n:Nat) (hn:n<=1000000):AF Tryz.prog 48 [.sl 3 n λi=>Cr (l.getD i Rl.none),Cr x] (.bool (bP (Aed l x n))):=by
 refine Cx func48 rfl λB D0 hA0=>?_
 refine Ae 10 ?_
 refine cS 1 func83 (λ_ hD1=>?_)
 refine Ae 15 ?_
 refine Qf [0,3,7,8] n (λi=>∀q,q<i->¬((l.getD q Rl.none).spare=x.spare/\(l.getD q Rl.none).wait=x.wait/\(l.getD q Rl.none).rise=x.rise)) (λi=>⟨[(0,.sl 3 n (λxi=>Cr ((l).getD xi Rl.none))),(3,.ptr 1 0),(7,.int (n:Int)),(8,.int (i:Int))],[(0,.box 52 [.int x.spare,.int x.wait,.int x.rise]),(1,.box 52 [.int x.spare,.int x.wait,.int x.rise])],2,19⟩) (λq hq=>absurd hq (Nat.not_lt_zero q)) (λi hin hFi J1 hJ1=>?_)
 refine Ae 6 ?_
 refine Gu 9 ((i:Int)<(n:Int)) (λhx2 hx2d=>?_) (λhx2 hx2d=>?_)
 ·
  refine Ae 12 ?_
  refine Kg [(3,Fu (.sl 3 n (λxi=>Cr ((l).getD xi Rl.none))) i,.none),(5,.bool (decide (x.spare=((l).getD i Rl.none).spare/\x.wait=((l).getD i Rl.none).wait/\x.rise=((l).getD i Rl.none).rise)),.none)] [0,3,5,7,8,16] ⟨Pa i n,Av (Zb 52 52 (.tmp 11) (.tmp 15) (by kernel_rfl) _ _ (by kernel_rfl) (by kernel_rfl) (by kernel_rfl) (decide (x.spare=((l).getD i Rl.none).spare/\x.wait=((l).getD i Rl.none).wait/\x.rise=((l).getD i Rl.none).rise)) (tU _ _ _ _ _ _)),trivial⟩ ?_
  refine Ae 1 ?_
  refine Gu 16 (x.spare=((l).getD i Rl.none).spare/\x.wait=((l).getD i Rl.none).wait/\x.rise=((l).getD i Rl.none).rise) (λhx3 hx3d=>?_) (λhx3 hx3d=>?_)
  ·
   refine Ae 13 ?_
   refine zK (Ae 1 ?_)
   refine Lh 8 (decide ((0:Int)<=(i:Int))) true (decide_eq_true (by omega)) ?_
   refine Ae 4 ?_
   exact Ha (.bool true) (congrArg AV.bool (Eo ⟨i,by omega,by omega⟩).symm)
  ·
   refine Ae 5 ?_
   refine Fw ((i:Int)+1) ((i+1:Nat):Int) ?_
   refine Ae 2 ?_
   exact Qm [0,3,7,8] (hJ1 (by omega) (λq hq=>(Nat.lt_or_ge q i).elim (λg=>hFi q g) λg=>by have e:q=i:=(by omega);subst e;omega))
 ·
  refine Ae 12 ?_
  refine zK (Ae 5 ?_)
  exact Ha (.bool false) (congrArg AV.bool (Be λ⟨q,hq,h9⟩=>hFi q (by omega) h9).symm)
theorem Mw.stay0 {p:Pr} {r:Rv} {c:Cs} {x:Rl} (h:Mw p r c x) (e:Ip p r c x=Ht p r c x):Ge p r c x=[]:=by
 have:=h.stay.1
 rw[<-e] at this
 exact this.nil_of
theorem Mw.tail0 {p:Pr} {r:Rv} {c:Cs} {x:Rl} (h:Mw p r c x) (e:¬Ht p r c x<Cj p.acts p.acts.length):Fv p r c x=[]:=by
 have h1:=h.tail.1
 have h2:=h.s0
 rw[show Cj p.acts p.acts.length=Ht p r c x by omega] at h1
 exact h1.nil_of
theorem Fe {l:List Sg} {a b:V3} {f t:Int} (h:Br l a b f t) (hn:l.length<=256):Dh l:=by
 by_cases h0:0<l.length
 exact(h.okP h0 hn).2
 rw[show l=[] from List.eq_nil_of_length_eq_zero (by omega)];exact Dh.nil
theorem dW (p:Pr) (r:Rv) (c:Cs) (x:Rl) (h:Mw p r c x) (hn:p.acts.length<=5) (hs:¬Ip p r c x=Ht p r c x) (ht:Ht p r c x<Cj p.acts p.acts.length):AF Tryz.prog 53 [.sl 1 4 λxi=>[Ai (Ed r p c x),Ai (Ij p r c x),Ai (Ge p r c x),Ai (Fv p r c x)].getD xi .top] (.tup [Ai (relP p r c x),.int 0]):=by
 have h0:=h.s0
 have l1:=h.hov.2
 have l2:=h.go.2
 have l3:=h.stay.2
 have l4:=h.tail.2
 have n3:=h.stay.1.pos (by omega)
 have n4:=h.tail.1.pos ht
 have g1:=h.hov.1.app h.go.1
 have g2:=g1.app h.stay.1
 have m1:(Ed r p c x++Ij p r c x).length<=4:=by rw[List.length_append];omega
 have m2:(Ed r p c x++Ij p r c x++Ge p r c x).length<=5:=by rw[List.length_append];omega
 have m3:0<(Ed r p c x++Ij p r c x).length:=by rw[List.length_append];omega
 have m4:0<(Ed r p c x++Ij p r c x++Ge p r c x).length:=by rw[List.length_append];omega
 exact lC _ _ _ _ (Fe h.hov.1 (by omega)) (Fe h.go.1 (by omega)) (by omega) (by omega) (Jk h.hov.1 h.go.1 (by omega) (by omega) (by omega)) (Fe h.stay.1 (by omega)) n3 (Fe g1 (by omega)) (Jk g1 h.stay.1 m3 n3 (by omega)) (Fe h.tail.1 (by omega)) n4 (Fe g2 (by omega)) (Jk g2 h.tail.1 m4 n4 (by omega))
theorem dU (p:Pr) (r:Rv) (c:Cs) (x:Rl) (h:Mw p r c x) (hn:p.acts.length<=5) (hs:Ip p r c x=Ht p r c x) (ht:Ht p r c x<Cj p.acts p.acts.length):AF Tryz.prog 53 [.sl 1 4 λxi=>[Ai (Ed r p c x),Ai (Ij p r c x),.lit (.slice none 0 0),Ai (Fv p r c x)].getD xi .top] (.tup [Ai (relP p r c x),.int 0]):=by
 have h0:=h.s0
 have l1:=h.hov.2
 have l2:=h.go.2
 have l4:=h.tail.2
 have n4:=h.tail.1.pos ht
 have g1:=h.hov.1.app h.go.1
 have m1:(Ed r p c x++Ij p r c x).length<=4:=by rw[List.length_append];omega
 have m3:0<(Ed r p c x++Ij p r c x).length:=by rw[List.length_append];omega
 have e:relP p r c x=Ed r p c x++Ij p r c x++Fv p r c x:=by rw[relP,h.stay0 hs,List.append_nil]
 have g4:=h.tail.1
 rw[<-hs] at g4
 rw[e]
 exact lA _ _ _ (Fe h.hov.1 (by omega)) (Fe h.go.1 (by omega)) (by omega) (by omega) (Jk h.hov.1 h.go.1 (by omega) (by omega) (by omega)) (Fe h.tail.1 (by omega)) n4 (Fe g1 (by omega)) (Jk g1 g4 m3 n4 (by omega))
theorem dV (p:Pr) (r:Rv) (c:Cs) (x:Rl) (h:Mw p r c x) (hs:¬Ip p r c x=Ht p r c x) (ht:¬Ht p r c x<Cj p.acts p.acts.length):AF Tryz.prog 53 [.sl 1 4 λxi=>[Ai (Ed r p c x),Ai (Ij p r c x),Ai (Ge p r c x),.lit (.slice none 0 0)].getD xi .top] (.tup [Ai (relP p r c x),.int 0]):=by
 have h0:=h.s0
 have l1:=h.hov.2
 have l2:=h.go.2
 have l3:=h.stay.2
 have n3:=h.stay.1.pos (by omega)
 have g1:=h.hov.1.app h.go.1
 have m1:(Ed r p c x++Ij p r c x).length<=4:=by rw[List.length_append];omega
 have m3:0<(Ed r p c x++Ij p r c x).length:=by rw[List.length_append];omega
 have e:relP p r c x=Ed r p c x++Ij p r c x++Ge p r c x:=by rw[relP,h.tail0 ht,List.append_nil]
 rw[e]
 exact lB _ _ _ (Fe h.hov.1 (by omega)) (Fe h.go.1 (by omega)) (by omega) (by omega) (Jk h.hov.1 h.go.1 (by omega) (by omega) (by omega)) (Fe h.stay.1 (by omega)) n3 (Fe g1 (by omega)) (Jk g1 h.stay.1 m3 n3 (by omega))
theorem dT (p:Pr) (r:Rv) (c:Cs) (x:Rl) (h:Mw p r c x) (hs:Ip p r c x=Ht p r c x) (ht:¬Ht p r c x<Cj p.acts p.acts.length):AF Tryz.prog 53 [.sl 1 4 λxi=>[Ai (Ed r p c x),Ai (Ij p r c x),.lit (.slice none 0 0),.lit (.slice none 0 0)].getD xi .top] (.tup [Ai (relP p r c x),.int 0]):=by
 have l1:=h.hov.2
 have l2:=h.go.2
 have e:relP p r c x=Ed r p c x++Ij p r c x:=by rw[relP,h.tail0 ht,h.stay0 hs,List.append_nil,List.append_nil]
 rw[e]
 exact kZ _ _ (Fe h.hov.1 (by omega)) (Fe h.go.1 (by omega)) (by omega) (by omega) (Jk h.hov.1 h.go.1 (by omega) (by omega) (by omega))
theorem Aaa (p:Pr) (r:Rv) (c:Cs) (x:Rl) (h:Mw p r c x) (h0:0<x.rise):AF Tryz.prog 50 [Gv (Gj r x),Gv (atR p r c x),.int x.rise,.int (Eg p c x),.int (Ip p r c x)] (.tup [Ai (Ij p r c x),.int 0]):=by
 have h1:=h.s0
 have h2:=h.rise
 rw[Ij,if_pos h0]
 exact Acg _ _ _ _ _ (Mg h.hp h.ap (by omega) (by omega) (by omega)) h.q4 (by omega) h.hu h.au
theorem pX (p:Pr) (r:Rv) (c:Cs) (x:Rl) (h:Mw p r c x) (h0:¬0<x.rise):AF Tryz.prog 49 [Gv (Gj r x),Gv (atR p r c x),.int (Eg p c x),.int (Ip p r c x)] (.tup [Ai (Ij p r c x),.int 0]):=by
 have h1:=h.s0
 rw[Ij,if_neg h0]
 exact dX (Mg h.hp h.ap (by omega) (by omega) (by omega))
theorem lH (p:Pr) (r:Rv) (c:Cs) (x:Rl) (h:Mw p r c x):AF Tryz.prog 49 [Gv (Gj r x),Gv (atR p r c x),.int (Eg p c x),.int (Ip p r c x)] (.tup [Ai (Gb (Gj r x) (atR p r c x) (Eg p c x) (Ip p r c x) 2),.int 0]):=by
 have h1:=h.s0
 exact dX (Mg h.hp h.ap (by omega) (by omega) (by omega))
theorem Zo (p:Pr) (r:Rv) (c:Cs) (x:Rl) (hc:Ig p c) (h:Mw p r c x) (ht:Ht p r c x<Cj p.acts p.acts.length):AF Tryz.prog 52 [Ai (Ih p p.acts.length c.craft.toNat),.int (Ht p r c x),.int (Cj p.acts p.acts.length)] (.tup [Ai (Fv p r c x),.int 0]):=by
 have h0:=h.s0
 have h1:=hc.2
 have ho:=Aen hc.1 (by omega) (i:=c.craft.toNat) (by omega)
 have hcut:mI (Ih p p.acts.length c.craft.toNat) (Ht p r c x) (Cj p.acts p.acts.length)=(Fv p r c x,0):=by
  rw[h.app];exact Aa7 h.own h.tail.1
 have:=vV (Ih p p.acts.length c.craft.toNat) (Ht p r c x) (Cj p.acts p.acts.length) ho.pin ho.ok (by rw[ho.first];omega) ht (by rw[ho.last];exact Int.le_refl _) (by rw[hcut])
 rwa [hcut] at this
theorem Un (p:Pr) (c:Cs) (hp:Nq p) (hc:Ig p c):AF Tryz.prog 28 [Gw p,.int c.craft] (.tup [Ai (Ih p p.acts.length c.craft.toNat),.int 0]):=by
 have h1:=hc.2
 have:=lK p c.craft.toNat hp hc.1 (by omega) (by omega)
 rwa [show (c.craft.toNat:Int)=c.craft by omega] at this
theorem Mt (a:V3) (f t:Int) (h:f=t):AF Tryz.prog 54 [Gv a,.int f,.int t] (.lit (.slice none 0 0)):=by
 subst h;exact lM a f
theorem dE (p:Pr) (r:Rv) (c:Cs) (x:Rl) (hp:Nq p) (hc:Ig p c) (hcs:Tq c) (hr:Pj r) (h:Mw p r c x):AF Tryz.prog 39 [Gw p,Ie r,Kf c,.int x.wait] (.lit (.tuple #[.int .i64 (Eg p c x),.int .i64 (Ip p r c x),.int .i64 (Ou p r c x:Int),.int .i64 (Ht p r c x),sM (atR p r c x)])):=by
 have:=Nz p r c x.wait hp hc hcs hr h.wait
 unfold dO at this
 rwa [if_pos h.act.2] at this
theorem VR.relP {E:Bk} {v:Value} {l:List Rl} (h:VR E (vC l) v):VR E (.tup [Abz l,.int 0]) v:=by
 unfold vC at h
 split at h
 rename_i h0
 have:=h.lit_inv
 subst this
 rw[List.eq_nil_of_length_eq_zero h0]
 exact .tup _ _ _ rfl λi hi=>by
  match i,hi with
  |0,_=>exact .sl0 _ _ _ _ _
  |1,_=>exact .lit _ _
 exact h
theorem Xn (p:Pr) (r:Rv) (c:Cs) (hp:Nq p) (hr:dF r) (hcs:Tq c) (hg:Td p r c):AF Tryz.prog 18 [Gw p,Ie r,Kf c] (.tup [Abz (Ok p r c),.int 0]):=
 Aaf (lL p r c hp hr hcs hg) rfl (λ_ _ _ _ h=>h) λ_ _ h=>h.relP
theorem oI (r:Rv) (w:Int) (v:V3) (i:Nat):∀q,(dN r w v i q).length<=q
 |0=>Nat.zero_le _
 |q+1=>by
  have:=oI r w v i q
  rw[dN,List.length_append]
  split<;>simp<;>omega
theorem oG (r:Rv) (w:Int) (v:V3) (o:List Nat):∀m,(kE r w v o m).length<=m*r.rises.length
 |0=>Nat.zero_le _
 |m+1=>by
  have h1:=oG r w v o m
  have h2:=oI r w v (o.getD m 0) r.rises.length
  rw[kE,List.length_append,Nat.succ_mul];omega
theorem oK {p:Pr} {r:Rv} (hr:Pj r) (c:Cs):∀k,(Jb p r c k).length<=k*128
 |0=>Nat.zero_le _
 |k+1=>by
  have h1:=oK (p:=p) hr c k
  rw[Jb,List.length_append,Nat.succ_mul]
  split
  have h2:=oG r (r.waits.getD k 0) (Bj p r c k) (Eb r (Bj p r c k)) r.homes.length
  have h3:=Nat.mul_le_mul hr.1.2.1 hr.2.2.2.2.1
  omega
  simp;omega
theorem Ab0 {p:Pr} {r:Rv} (hr:Pj r) (c:Cs):(Ok p r c).length<=2048:=by
 have h1:=oK (p:=p) hr c r.waits.length
 have h2:=hr.2.2.1.2.1
 have:(Ok p r c).length<=r.waits.length*128:=h1
 omega
theorem pY (p:Pr) (r:Rv) (c:Cs) (x:Rl) (hp:Nq p) (hr:dF r) (hcs:Tq c) (hg:Td p r c) (hn:p.acts.length<=5) (hx:x∈Ok p r c):AF Tryz.prog 21 [Gw p,Ie r,Kf c,Cr x] (.tup [Ai (relP p r c x),.int 0]):=by
 have h:=Aep hg.1 hg.2 (Adh hx)
 have h0:=h.s0
 have h1:=h.sp
 have h2:=hg.2.1
 have lo:=h.go.2
 have lt:=h.tail.2
 have rl:=Ab0 (p:=p) hg.2 c
 have lr:=h.rise
 refine Cx func21 rfl λB D0 hA0=>?_
 refine Ae 15 ?_
 refine Ds (Xn p r c hp hr hcs hg) ?_
 refine Ae 22 ?_
 refine Ds (gP (Ok p r c) x (Ok p r c).length (by omega)) ?_
 refine Ae 3 ?_
 refine Lh 36 (!bP (Aed (Ok p r c) x (Ok p r c).length)) false (by rw[(Eo (AaR.2 hx))];rfl) ?_
 refine Ae 10 ?_
 refine Ds (dE p r c x hp hg.1 hcs hg.2 h) ?_
 refine Ae 20 ?_
 refine Afz x.spare (x.spare).toNat r.homes.length ?_
 refine Ae 11 ?_
 refine zL ((0:Int)<x.rise) (λhx1 hx1d=>?_) (λhx1 hx1d=>?_)
 ·
  refine Ds (lH p r c x h) ?_
  refine Ae 15 ?_
  refine Lh 65 (decide ((0:Int)<x.rise)) true hx1 ?_
  refine Ae 8 ?_
  refine Ds (Aaa p r c x h hx1d) ?_
  refine Ae 22 ?_
  refine Ds (Un p c hp hg.1) ?_
  refine Ae 20 ?_
  refine Ds (dY p hp hg.1.1) ?_
  refine Ae 20 ?_
  refine Gu 96 (Ht p r c x<Cj p.acts p.acts.length) (λhx2 hx2d=>?_) (λhx2 hx2d=>?_)
  ·
   refine Ae 6 ?_
   refine Ds (Zo p r c x hg.1 h hx2d) ?_
   refine Ae 17 ?_
   refine zL (Ip p r c x=Ht p r c x) (λhx3 hx3d=>?_) (λhx3 hx3d=>?_)
   ·
    refine Kg [(2,_,.none),(7,_,.none),(9,.osl 6 1 4,(.new 6 (.vec 54 1 4 (λxi=>[Ai (Ed r p c x),Ai (Ij p r c x),.lit (.slice none 0 0),Ai (Fv p r c x)].getD xi .top)))),(10,.tup [Ai (relP p r c x),.int 0],(.drop 6))] [8,9] ⟨Hj (Ef (Gj r x) 0 (Eg p c x) (by omega) (Mg h.hp h.hp (by omega) (by omega) (by omega))),Hj (Mt (atR p r c x) _ _ hx3d),Av (Ak 59 4 #[(0,(.tmp 109)),(1,(.tmp 110)),(2,(.tmp 114)),(3,(.tmp 115))] (by kernel_rfl) underlying59 1 sizeOf54 _ zeroValue54 (by kernel_rfl) (Nat.le_of_ble_eq_true (by kernel_rfl)) (Nat.le_of_ble_eq_true (by kernel_rfl)) (Nat.le_of_ble_eq_true (by kernel_rfl)) 6 [Ai (Ed r p c x),Ai (Ij p r c x),.lit (.slice none 0 0),Ai (Fv p r c x)] (by kernel_rfl) (λxi=>[Ai (Ed r p c x),Ai (Ij p r c x),.lit (.slice none 0 0),Ai (Fv p r c x)].getD xi .top) (by kernel_rfl)),Av (Jo 53 #[.tmp 116] #[59] (by kernel_rfl) (λ_ _=>by kernel_rfl) 6 (.vec 54 1 4 (λxi=>[Ai (Ed r p c x),Ai (Ij p r c x),.lit (.slice none 0 0),Ai (Fv p r c x)].getD xi .top)) (by kernel_rfl) (λ_ _ _ _ h=>by cases h;exact(λi hi j hj=>by obtain rfl:j=0:=(by omega);exact match i,hi with|0,_=>rfl|1,_=>rfl|2,_=>rfl|3,_=>rfl|i+4,h=>absurd h (by omega))) [.osl 6 1 4] (by kernel_rfl) [.sl 1 4 (λxi=>[Ai (Ed r p c x),Ai (Ij p r c x),.lit (.slice none 0 0),Ai (Fv p r c x)].getD xi .top)] (by kernel_rfl) (.tup [Ai (relP p r c x),.int 0]) (dU p r c x h hn hx3d hx2d)),trivial⟩ ?_
    refine Ae 2 ?_
    exact Hq
   ·
    refine Kg [(2,_,.none),(7,_,.none),(9,.osl 6 1 4,(.new 6 (.vec 54 1 4 (λxi=>[Ai (Ed r p c x),Ai (Ij p r c x),Ai (Ge p r c x),Ai (Fv p r c x)].getD xi .top)))),(10,.tup [Ai (relP p r c x),.int 0],(.drop 6))] [8,9] ⟨Hj (Ef (Gj r x) 0 (Eg p c x) (by omega) (Mg h.hp h.hp (by omega) (by omega) (by omega))),Hj (Ef (atR p r c x) (Ip p r c x) (Ht p r c x) hx3d (Mg h.ap h.ap (by omega) (by omega) (by omega))),Av (Ak 59 4 #[(0,(.tmp 109)),(1,(.tmp 110)),(2,(.tmp 114)),(3,(.tmp 115))] (by kernel_rfl) underlying59 1 sizeOf54 _ zeroValue54 (by kernel_rfl) (Nat.le_of_ble_eq_true (by kernel_rfl)) (Nat.le_of_ble_eq_true (by kernel_rfl)) (Nat.le_of_ble_eq_true (by kernel_rfl)) 6 [Ai (Ed r p c x),Ai (Ij p r c x),Ai (Ge p r c x),Ai (Fv p r c x)] (by kernel_rfl) (λxi=>[Ai (Ed r p c x),Ai (Ij p r c x),Ai (Ge p r c x),Ai (Fv p r c x)].getD xi .top) (by kernel_rfl)),Av (Jo 53 #[.tmp 116] #[59] (by kernel_rfl) (λ_ _=>by kernel_rfl) 6 (.vec 54 1 4 (λxi=>[Ai (Ed r p c x),Ai (Ij p r c x),Ai (Ge p r c x),Ai (Fv p r c x)].getD xi .top)) (by kernel_rfl) (λ_ _ _ _ h=>by cases h;exact(λi hi j hj=>by obtain rfl:j=0:=(by omega);exact match i,hi with|0,_=>rfl|1,_=>rfl|2,_=>rfl|3,_=>rfl|i+4,h=>absurd h (by omega))) [.osl 6 1 4] (by kernel_rfl) [.sl 1 4 (λxi=>[Ai (Ed r p c x),Ai (Ij p r c x),Ai (Ge p r c x),Ai (Fv p r c x)].getD xi .top)] (by kernel_rfl) (.tup [Ai (relP p r c x),.int 0]) (dW p r c x h hn hx3d hx2d)),trivial⟩ ?_
    refine Ae 2 ?_
    exact Hq
  ·
   refine Ae 4 ?_
   refine zL (Ip p r c x=Ht p r c x) (λhx4 hx4d=>?_) (λhx4 hx4d=>?_)
   ·
    refine Kg [(2,_,.none),(7,_,.none),(9,.osl 6 1 4,(.new 6 (.vec 54 1 4 (λxi=>[Ai (Ed r p c x),Ai (Ij p r c x),.lit (.slice none 0 0),.lit (.slice none 0 0)].getD xi .top)))),(10,.tup [Ai (relP p r c x),.int 0],(.drop 6))] [8,9] ⟨Hj (Ef (Gj r x) 0 (Eg p c x) (by omega) (Mg h.hp h.hp (by omega) (by omega) (by omega))),Hj (Mt (atR p r c x) _ _ hx4d),Av (Ak 59 4 #[(0,(.tmp 109)),(1,(.tmp 110)),(2,(.tmp 114)),(3,(.tmp 115))] (by kernel_rfl) underlying59 1 sizeOf54 _ zeroValue54 (by kernel_rfl) (Nat.le_of_ble_eq_true (by kernel_rfl)) (Nat.le_of_ble_eq_true (by kernel_rfl)) (Nat.le_of_ble_eq_true (by kernel_rfl)) 6 [Ai (Ed r p c x),Ai (Ij p r c x),.lit (.slice none 0 0),.lit (.slice none 0 0)] (by kernel_rfl) (λxi=>[Ai (Ed r p c x),Ai (Ij p r c x),.lit (.slice none 0 0),.lit (.slice none 0 0)].getD xi .top) (by kernel_rfl)),Av (Jo 53 #[.tmp 116] #[59] (by kernel_rfl) (λ_ _=>by kernel_rfl) 6 (.vec 54 1 4 (λxi=>[Ai (Ed r p c x),Ai (Ij p r c x),.lit (.slice none 0 0),.lit (.slice none 0 0)].getD xi .top)) (by kernel_rfl) (λ_ _ _ _ h=>by cases h;exact(λi hi j hj=>by obtain rfl:j=0:=(by omega);exact match i,hi with|0,_=>rfl|1,_=>rfl|2,_=>rfl|3,_=>rfl|i+4,h=>absurd h (by omega))) [.osl 6 1 4] (by kernel_rfl) [.sl 1 4 (λxi=>[Ai (Ed r p c x),Ai (Ij p r c x),.lit (.slice none 0 0),.lit (.slice none 0 0)].getD xi .top)] (by kernel_rfl) (.tup [Ai (relP p r c x),.int 0]) (dT p r c x h hx4d hx2d)),trivial⟩ ?_
    refine Ae 2 ?_
    exact Hq
   ·
    refine Kg [(2,_,.none),(7,_,.none),(9,.osl 6 1 4,(.new 6 (.vec 54 1 4 (λxi=>[Ai (Ed r p c x),Ai (Ij p r c x),Ai (Ge p r c x),.lit (.slice none 0 0)].getD xi .top)))),(10,.tup [Ai (relP p r c x),.int 0],(.drop 6))] [8,9] ⟨Hj (Ef (Gj r x) 0 (Eg p c x) (by omega) (Mg h.hp h.hp (by omega) (by omega) (by omega))),Hj (Ef (atR p r c x) (Ip p r c x) (Ht p r c x) hx4d (Mg h.ap h.ap (by omega) (by omega) (by omega))),Av (Ak 59 4 #[(0,(.tmp 109)),(1,(.tmp 110)),(2,(.tmp 114)),(3,(.tmp 115))] (by kernel_rfl) underlying59 1 sizeOf54 _ zeroValue54 (by kernel_rfl) (Nat.le_of_ble_eq_true (by kernel_rfl)) (Nat.le_of_ble_eq_true (by kernel_rfl)) (Nat.le_of_ble_eq_true (by kernel_rfl)) 6 [Ai (Ed r p c x),Ai (Ij p r c x),Ai (Ge p r c x),.lit (.slice none 0 0)] (by kernel_rfl) (λxi=>[Ai (Ed r p c x),Ai (Ij p r c x),Ai (Ge p r c x),.lit (.slice none 0 0)].getD xi .top) (by kernel_rfl)),Av (Jo 53 #[.tmp 116] #[59] (by kernel_rfl) (λ_ _=>by kernel_rfl) 6 (.vec 54 1 4 (λxi=>[Ai (Ed r p c x),Ai (Ij p r c x),Ai (Ge p r c x),.lit (.slice none 0 0)].getD xi .top)) (by kernel_rfl) (λ_ _ _ _ h=>by cases h;exact(λi hi j hj=>by obtain rfl:j=0:=(by omega);exact match i,hi with|0,_=>rfl|1,_=>rfl|2,_=>rfl|3,_=>rfl|i+4,h=>absurd h (by omega))) [.osl 6 1 4] (by kernel_rfl) [.sl 1 4 (λxi=>[Ai (Ed r p c x),Ai (Ij p r c x),Ai (Ge p r c x),.lit (.slice none 0 0)].getD xi .top)] (by kernel_rfl) (.tup [Ai (relP p r c x),.int 0]) (dV p r c x h hx4d hx2d)),trivial⟩ ?_
    refine Ae 2 ?_
    exact Hq
 ·
  refine Ds (pX p r c x h hx1d) ?_
  refine Ae 15 ?_
  refine Lh 65 (decide ((0:Int)<x.rise)) false hx1 ?_
  refine Ae 18 ?_
  refine Ds (Un p c hp hg.1) ?_
  refine Ae 20 ?_
  refine Ds (dY p hp hg.1.1) ?_
  refine Ae 20 ?_
  refine Gu 96 (Ht p r c x<Cj p.acts p.acts.length) (λhx5 hx5d=>?_) (λhx5 hx5d=>?_)
  ·
   refine Ae 6 ?_
   refine Ds (Zo p r c x hg.1 h hx5d) ?_
   refine Ae 17 ?_
   refine zL (Ip p r c x=Ht p r c x) (λhx6 hx6d=>?_) (λhx6 hx6d=>?_)
   ·
    refine Kg [(2,_,.none),(7,_,.none),(9,.osl 6 1 4,(.new 6 (.vec 54 1 4 (λxi=>[Ai (Ed r p c x),Ai (Ij p r c x),.lit (.slice none 0 0),Ai (Fv p r c x)].getD xi .top)))),(10,.tup [Ai (relP p r c x),.int 0],(.drop 6))] [8,9] ⟨Hj (Ef (Gj r x) 0 (Eg p c x) (by omega) (Mg h.hp h.hp (by omega) (by omega) (by omega))),Hj (Mt (atR p r c x) _ _ hx6d),Av (Ak 59 4 #[(0,(.tmp 109)),(1,(.tmp 110)),(2,(.tmp 114)),(3,(.tmp 115))] (by kernel_rfl) underlying59 1 sizeOf54 _ zeroValue54 (by kernel_rfl) (Nat.le_of_ble_eq_true (by kernel_rfl)) (Nat.le_of_ble_eq_true (by kernel_rfl)) (Nat.le_of_ble_eq_true (by kernel_rfl)) 6 [Ai (Ed r p c x),Ai (Ij p r c x),.lit (.slice none 0 0),Ai (Fv p r c x)] (by kernel_rfl) (λxi=>[Ai (Ed r p c x),Ai (Ij p r c x),.lit (.slice none 0 0),Ai (Fv p r c x)].getD xi .top) (by kernel_rfl)),Av (Jo 53 #[.tmp 116] #[59] (by kernel_rfl) (λ_ _=>by kernel_rfl) 6 (.vec 54 1 4 (λxi=>[Ai (Ed r p c x),Ai (Ij p r c x),.lit (.slice none 0 0),Ai (Fv p r c x)].getD xi .top)) (by kernel_rfl) (λ_ _ _ _ h=>by cases h;exact(λi hi j hj=>by obtain rfl:j=0:=(by omega);exact match i,hi with|0,_=>rfl|1,_=>rfl|2,_=>rfl|3,_=>rfl|i+4,h=>absurd h (by omega))) [.osl 6 1 4] (by kernel_rfl) [.sl 1 4 (λxi=>[Ai (Ed r p c x),Ai (Ij p r c x),.lit (.slice none 0 0),Ai (Fv p r c x)].getD xi .top)] (by kernel_rfl) (.tup [Ai (relP p r c x),.int 0]) (dU p r c x h hn hx6d hx5d)),trivial⟩ ?_
    refine Ae 2 ?_
    exact Hq
   ·
    refine Kg [(2,_,.none),(7,_,.none),(9,.osl 6 1 4,(.new 6 (.vec 54 1 4 (λxi=>[Ai (Ed r p c x),Ai (Ij p r c x),Ai (Ge p r c x),Ai (Fv p r c x)].getD xi .top)))),(10,.tup [Ai (relP p r c x),.int 0],(.drop 6))] [8,9] ⟨Hj (Ef (Gj r x) 0 (Eg p c x) (by omega) (Mg h.hp h.hp (by omega) (by omega) (by omega))),Hj (Ef (atR p r c x) (Ip p r c x) (Ht p r c x) hx6d (Mg h.ap h.ap (by omega) (by omega) (by omega))),Av (Ak 59 4 #[(0,(.tmp 109)),(1,(.tmp 110)),(2,(.tmp 114)),(3,(.tmp 115))] (by kernel_rfl) underlying59 1 sizeOf54 _ zeroValue54 (by kernel_rfl) (Nat.le_of_ble_eq_true (by kernel_rfl)) (Nat.le_of_ble_eq_true (by kernel_rfl)) (Nat.le_of_ble_eq_true (by kernel_rfl)) 6 [Ai (Ed r p c x),Ai (Ij p r c x),Ai (Ge p r c x),Ai (Fv p r c x)] (by kernel_rfl) (λxi=>[Ai (Ed r p c x),Ai (Ij p r c x),Ai (Ge p r c x),Ai (Fv p r c x)].getD xi .top) (by kernel_rfl)),Av (Jo 53 #[.tmp 116] #[59] (by kernel_rfl) (λ_ _=>by kernel_rfl) 6 (.vec 54 1 4 (λxi=>[Ai (Ed r p c x),Ai (Ij p r c x),Ai (Ge p r c x),Ai (Fv p r c x)].getD xi .top)) (by kernel_rfl) (λ_ _ _ _ h=>by cases h;exact(λi hi j hj=>by obtain rfl:j=0:=(by omega);exact match i,hi with|0,_=>rfl|1,_=>rfl|2,_=>rfl|3,_=>rfl|i+4,h=>absurd h (by omega))) [.osl 6 1 4] (by kernel_rfl) [.sl 1 4 (λxi=>[Ai (Ed r p c x),Ai (Ij p r c x),Ai (Ge p r c x),Ai (Fv p r c x)].getD xi .top)] (by kernel_rfl) (.tup [Ai (relP p r c x),.int 0]) (dW p r c x h hn hx6d hx5d)),trivial⟩ ?_
    refine Ae 2 ?_
    exact Hq
  ·
   refine Ae 4 ?_
   refine zL (Ip p r c x=Ht p r c x) (λhx7 hx7d=>?_) (λhx7 hx7d=>?_)
   ·
    refine Kg [(2,_,.none),(7,_,.none),(9,.osl 6 1 4,(.new 6 (.vec 54 1 4 (λxi=>[Ai (Ed r p c x),Ai (Ij p r c x),.lit (.slice none 0 0),.lit (.slice none 0 0)].getD xi .top)))),(10,.tup [Ai (relP p r c x),.int 0],(.drop 6))] [8,9] ⟨Hj (Ef (Gj r x) 0 (Eg p c x) (by omega) (Mg h.hp h.hp (by omega) (by omega) (by omega))),Hj (Mt (atR p r c x) _ _ hx7d),Av (Ak 59 4 #[(0,(.tmp 109)),(1,(.tmp 110)),(2,(.tmp 114)),(3,(.tmp 115))] (by kernel_rfl) underlying59 1 sizeOf54 _ zeroValue54 (by kernel_rfl) (Nat.le_of_ble_eq_true (by kernel_rfl)) (Nat.le_of_ble_eq_true (by kernel_rfl)) (Nat.le_of_ble_eq_true (by kernel_rfl)) 6 [Ai (Ed r p c x),Ai (Ij p r c x),.lit (.slice none 0 0),.lit (.slice none 0 0)] (by kernel_rfl) (λxi=>[Ai (Ed r p c x),Ai (Ij p r c x),.lit (.slice none 0 0),.lit (.slice none 0 0)].getD xi .top) (by kernel_rfl)),Av (Jo 53 #[.tmp 116] #[59] (by kernel_rfl) (λ_ _=>by kernel_rfl) 6 (.vec 54 1 4 (λxi=>[Ai (Ed r p c x),Ai (Ij p r c x),.lit (.slice none 0 0),.lit (.slice none 0 0)].getD xi .top)) (by kernel_rfl) (λ_ _ _ _ h=>by cases h;exact(λi hi j hj=>by obtain rfl:j=0:=(by omega);exact match i,hi with|0,_=>rfl|1,_=>rfl|2,_=>rfl|3,_=>rfl|i+4,h=>absurd h (by omega))) [.osl 6 1 4] (by kernel_rfl) [.sl 1 4 (λxi=>[Ai (Ed r p c x),Ai (Ij p r c x),.lit (.slice none 0 0),.lit (.slice none 0 0)].getD xi .top)] (by kernel_rfl) (.tup [Ai (relP p r c x),.int 0]) (dT p r c x h hx7d hx5d)),trivial⟩ ?_
    refine Ae 2 ?_
    exact Hq
   ·
    refine Kg [(2,_,.none),(7,_,.none),(9,.osl 6 1 4,(.new 6 (.vec 54 1 4 (λxi=>[Ai (Ed r p c x),Ai (Ij p r c x),Ai (Ge p r c x),.lit (.slice none 0 0)].getD xi .top)))),(10,.tup [Ai (relP p r c x),.int 0],(.drop 6))] [8,9] ⟨Hj (Ef (Gj r x) 0 (Eg p c x) (by omega) (Mg h.hp h.hp (by omega) (by omega) (by omega))),Hj (Ef (atR p r c x) (Ip p r c x) (Ht p r c x) hx7d (Mg h.ap h.ap (by omega) (by omega) (by omega))),Av (Ak 59 4 #[(0,(.tmp 109)),(1,(.tmp 110)),(2,(.tmp 114)),(3,(.tmp 115))] (by kernel_rfl) underlying59 1 sizeOf54 _ zeroValue54 (by kernel_rfl) (Nat.le_of_ble_eq_true (by kernel_rfl)) (Nat.le_of_ble_eq_true (by kernel_rfl)) (Nat.le_of_ble_eq_true (by kernel_rfl)) 6 [Ai (Ed r p c x),Ai (Ij p r c x),Ai (Ge p r c x),.lit (.slice none 0 0)] (by kernel_rfl) (λxi=>[Ai (Ed r p c x),Ai (Ij p r c x),Ai (Ge p r c x),.lit (.slice none 0 0)].getD xi .top) (by kernel_rfl)),Av (Jo 53 #[.tmp 116] #[59] (by kernel_rfl) (λ_ _=>by kernel_rfl) 6 (.vec 54 1 4 (λxi=>[Ai (Ed r p c x),Ai (Ij p r c x),Ai (Ge p r c x),.lit (.slice none 0 0)].getD xi .top)) (by kernel_rfl) (λ_ _ _ _ h=>by cases h;exact(λi hi j hj=>by obtain rfl:j=0:=(by omega);exact match i,hi with|0,_=>rfl|1,_=>rfl|2,_=>rfl|3,_=>rfl|i+4,h=>absurd h (by omega))) [.osl 6 1 4] (by kernel_rfl) [.sl 1 4 (λxi=>[Ai (Ed r p c x),Ai (Ij p r c x),Ai (Ge p r c x),.lit (.slice none 0 0)].getD xi .top)] (by kernel_rfl) (.tup [Ai (relP p r c x),.int 0]) (dV p r c x h hx7d hx5d)),trivial⟩ ?_
    refine Ae 2 ?_
    exact Hq
def qZ (l:List Int) (x:Int):Prop:=∃q,q<l.length/\l.getD q 0=x
def wE (r:Rv):Prop:=r.homes.length<=9/\r.waits.length<=17/\r.rises.length<=17
theorem wE.inn {r:Rv} (h:wE r) (hf:Cy r.flight):dF r:=⟨by have:=h.1;omega,by have:=h.2.1;omega,by have:=h.2.2;omega,hf⟩
def vQ (p:Pr) (r:Rv) (c:Cs) (w:Int):Prop:=qZ r.waits w/\Nx p c (Ky p r c w)<p.acts.length
theorem AaS {r:Rv} {w:Int} (hr:Pj r) (h:qZ r.waits w):0<=w/\w<=3600000:=by
 obtain⟨q,hq,rfl⟩:=h
 have:=hr.2.2.1.2.2 q hq
 exact⟨this.1,this.2.1⟩
theorem lO (p:Pr) (r:Rv) (c:Cs) (w:Int) (hp:Nq p) (hc:Ig p c) (hcs:Tq c) (hr:Pj r) (h:vQ p r c w):AF Tryz.prog 39 [Gw p,Ie r,Kf c,.int w] (.lit (.tuple #[.int .i64 (Bo p c+w),.int .i64 (Bo p c+w+r.flight),.int .i64 (Nx p c (Ky p r c w):Int),.int .i64 (Cj p.acts (Nx p c (Ky p r c w)+1)),sM (sH p c (Nx p c (Ky p r c w)))])):=by
 have:=Nz p r c w hp hc hcs hr (AaS hr h.1)
 unfold dO at this
 rwa [if_pos h.2] at this
theorem lN (p:Pr) (r:Rv) (c:Cs) (w:Int) (hp:Nq p) (hc:Ig p c) (hcs:Tq c) (hr:Pj r) (h1:qZ r.waits w) (h:¬vQ p r c w):AF Tryz.prog 39 [Gw p,Ie r,Kf c,.int w] (.lit (.tuple #[.int .i64 (Bo p c+w),.int .i64 (Bo p c+w+r.flight),.int .i64 (-1),.int .i64 (Cj p.acts p.acts.length),.agg #[.int .i64 0,.int .i64 0,.int .i64 0]])):=by
 have:=Nz p r c w hp hc hcs hr (AaS hr h1)
 unfold dO at this
 rwa [if_neg (λg=>h ⟨h1,g⟩)] at this
theorem Ul (l:List Int) (x:Int) (hn:l.length<=1000000):AF Tryz.prog 38 [Dq l,.int x] (.bool (bP (qZ l x))):=by
 refine Cx func38 rfl λB D0 hA0=>?_
 refine Ae 9 ?_
 refine cS 0 func74 (λ_ hD1=>?_)
 refine Ae 14 ?_
 refine Qf [0,1,7,8] l.length (λi=>∀q,q<i->¬(l.getD q 0=x)) (λi=>⟨[(0,Dq l),(1,.int x),(7,.int (l.length:Int)),(8,.int (i:Int))],[],0,19⟩) (λq hq=>absurd hq (Nat.not_lt_zero q)) (λi hin hFi J1 hJ1=>?_)
 refine Ae 6 ?_
 refine Gu 9 ((i:Int)<(l.length:Int)) (λhx2 hx2d=>?_) (λhx2 hx2d=>?_)
 ·
  refine Ae 16 ?_
  refine Gt i l.length ?_
  refine Ae 4 ?_
  refine Gu 16 (x=(l).getD i 0) (λhx3 hx3d=>?_) (λhx3 hx3d=>?_)
  ·
   refine Ae 13 ?_
   refine zK (Ae 1 ?_)
   refine Lh 8 (decide ((0:Int)<=(i:Int))) true (decide_eq_true (by omega)) ?_
   refine Ae 4 ?_
   exact Ha (.bool true) (congrArg AV.bool (Eo ⟨i,by omega,by omega⟩).symm)
  ·
   refine Ae 5 ?_
   refine Fw ((i:Int)+1) ((i+1:Nat):Int) ?_
   refine Ae 2 ?_
   exact Qm [0,1,7,8] (hJ1 (by omega) (λq hq=>(Nat.lt_or_ge q i).elim (λg=>hFi q g) λg=>by have e:q=i:=(by omega);subst e;omega))
 ·
  refine Ae 12 ?_
  refine zK (Ae 5 ?_)
  exact Ha (.bool false) (congrArg AV.bool (Be λ⟨q,hq,h9⟩=>hFi q (by omega) h9).symm)
theorem zY (r:Rv):AF Tryz.prog 9 [Ie r] (.bool (bP (wE r))):=by
 refine Cx func9 rfl λB D0 hA0=>?_
 refine Ae 13 ?_
 refine Gu 7 ((r.homes.length:Int)<=9) (λhx1 hx1d=>?_) (λhx1 hx1d=>?_)
 ·
  refine Ae 6 ?_
  refine Gu 13 ((r.waits.length:Int)<=17) (λhx2 hx2d=>?_) (λhx2 hx2d=>?_)
  ·
   refine Ae 9 ?_
   exact Ha (.bool (decide ((r.rises.length:Int)<=17))) (congrArg AV.bool (if hz:r.rises.length<=17 then (decide_eq_true (by omega)).trans (Eo ⟨by omega,by omega,hz⟩).symm else (decide_eq_false (by omega)).trans (Be (λg=>hz g.2.2)).symm))
  ·
   refine Ae 9 ?_
   exact Ha (.bool false) (congrArg AV.bool (Be λg=>by have g1:=g.1;have g2:=g.2.1;have g3:=g.2.2;omega).symm)
 ·
  refine Ae 15 ?_
  exact Ha (.bool false) (congrArg AV.bool (Be λg=>by have g1:=g.1;have g2:=g.2.1;have g3:=g.2.2;omega).symm)
theorem gI (p:Pr) (r:Rv) (c:Cs) (w:Int) (hp:Nq p) (hr:dF r) (hcs:Tq c) (hg:Td p r c) (h:¬vQ p r c w):AF Tryz.prog 14 [Gw p,Ie r,Kf c,.int w] (.lit (.tuple #[.int .i64 0,.agg #[.int .i64 0,.int .i64 0,.int .i64 0],.int .i64 9])):=by
 refine Cx func14 rfl λB D0 hA0=>?_
 refine Ae 16 ?_
 refine Ds (gR p r c hp hr hcs) ?_
 refine Ae 3 ?_
 refine Lh 15 (!bP (Td p r c)) false (by rw[(Eo hg)];rfl) ?_
 refine Ae 9 ?_
 refine Ds (Ul _ w hr.w) ?_
 refine Ae 3 ?_
 refine pK 21 (bP (qZ r.waits w)) (λhx1=>?_) (λhx1=>?_)
 ·
  refine Ae 9 ?_
  refine Ds (lN p r c w hp hg.1 hcs hg.2 (My hx1) h) ?_
  refine Ae 28 ?_
  exact Hq
 ·
  refine Ae 11 ?_
  exact Hq
theorem gJ (p:Pr) (r:Rv) (c:Cs) (w:Int) (hp:Nq p) (hr:dF r) (hcs:Tq c) (hg:Td p r c) (h:vQ p r c w):AF Tryz.prog 14 [Gw p,Ie r,Kf c,.int w] (.lit (.tuple #[.int .i64 (Nx p c (Ky p r c w):Int),sM (sH p c (Nx p c (Ky p r c w))),.int .i64 0])):=by
 refine Cx func14 rfl λB D0 hA0=>?_
 refine Ae 16 ?_
 refine Ds (gR p r c hp hr hcs) ?_
 refine Ae 3 ?_
 refine Lh 15 (!bP (Td p r c)) false (by rw[(Eo hg)];rfl) ?_
 refine Ae 9 ?_
 refine Ds (Ul _ w hr.w) ?_
 refine Ae 3 ?_
 refine Lh 21 (!bP (qZ r.waits w)) false (by rw[(Eo h.1)];rfl) ?_
 refine Ae 9 ?_
 refine Ds (lO p r c w hp hg.1 hcs hg.2 h) ?_
 refine Ae 15 ?_
 refine Lh 35 (decide (((Nx p c (Ky p r c w)):Int)<0)) false (decide_eq_false (by omega)) ?_
 refine Ae 6 ?_
 refine Kg [] [8,9,10] trivial ?_
 refine Ae 2 ?_
 exact Hq
end Go.Proofs.YtldnjomacnjhnaaGreat
namespace Go.Proofs.YtldnjomacnjhnaaGreat
open Go.Proofs.Tryz
open Go.RowKit
def AbE:List Mv:=[⟨⟨0,0,1000⟩,0,1000,0⟩,⟨⟨1000,0,1000⟩,0,1000,0⟩]
def AbF:List Mv:=[⟨⟨0,0,1000⟩,0,0,0⟩,⟨⟨1000,0,1000⟩,0,0,0⟩]
def AbG:List Mv:=[⟨⟨0,500,1000⟩,0,1000,0⟩,⟨⟨1000,500,1000⟩,0,1000,0⟩]
def Wm:Pr:=⟨[⟨#[97]⟩,⟨#[98]⟩],[⟨0,0,0⟩,⟨1000,0,0⟩],[⟨⟨#[117,112]⟩,2000,AbE⟩,⟨⟨#[115,116,97,121]⟩,2000,AbF⟩,⟨⟨#[110,111,114,116,104]⟩,2000,AbG⟩]⟩
def Yi:Rv:=⟨[⟨0,-500,0⟩,⟨1000,-500,0⟩],1200,[0,1000],[0,300]⟩
theorem gQ:AF Tryz.prog 32 [] (.tup [Gw Wm,Ie Yi]):=by
 refine Cx func32 rfl λB D0 hA0=>?_
 refine Ae 22 ?_
 refine Ci (.osl 4 6 2) (.new 4 (.vec 91 6 2 (λxi=>xR (AbE.getD xi Mv.none)))) (Ak 85 2 #[(0,(.tmp 10)),(1,(.tmp 12))] (by kernel_rfl) underlying85 6 sizeOf91 _ zeroValue91 (by kernel_rfl) (Nat.le_of_ble_eq_true (by kernel_rfl)) (Nat.le_of_ble_eq_true (by kernel_rfl)) (Nat.le_of_ble_eq_true (by kernel_rfl)) 4 [.int 0,.int 0,.int 1000,.int 0,.int 1000,.int 0,.int 1000,.int 0,.int 1000,.int 0,.int 1000,.int 0] (by kernel_rfl) (λxi=>xR (AbE.getD xi Mv.none)) (by kernel_rfl)) ?_
 refine Ae 9 ?_
 refine Ci (.osl 5 6 2) (.new 5 (.vec 91 6 2 (λxi=>xR (AbG.getD xi Mv.none)))) (Ak 85 2 #[(0,(.tmp 15)),(1,(.tmp 17))] (by kernel_rfl) underlying85 6 sizeOf91 _ zeroValue91 (by kernel_rfl) (Nat.le_of_ble_eq_true (by kernel_rfl)) (Nat.le_of_ble_eq_true (by kernel_rfl)) (Nat.le_of_ble_eq_true (by kernel_rfl)) 5 [.int 0,.int 500,.int 1000,.int 0,.int 1000,.int 0,.int 1000,.int 500,.int 1000,.int 0,.int 1000,.int 0] (by kernel_rfl) (λxi=>xR (AbG.getD xi Mv.none)) (by kernel_rfl)) ?_
 refine Ae 3 ?_
 refine cR 4 [4] 91 6 2 (λxi=>xR (AbE.getD xi Mv.none)) (Hf λ_ _=>rfl) ?_
 refine cR 5 [5] 91 6 2 (λxi=>xR (AbG.getD xi Mv.none)) (Hf λ_ _=>rfl) ?_
 refine Ae 2 ?_
 refine Ci (.osl 6 1 2) (.new 6 (.vec 9 1 2 (λxi=> .lit (.string (Wm.names.getD xi ByteArray.empty))))) (Ak 28 2 #[(0,(.const (.string ⟨#[97]⟩))),(1,(.const (.string ⟨#[98]⟩)))] (by kernel_rfl) underlying28 1 sizeOf9 _ zeroValue9 (by kernel_rfl) (Nat.le_of_ble_eq_true (by kernel_rfl)) (Nat.le_of_ble_eq_true (by kernel_rfl)) (Nat.le_of_ble_eq_true (by kernel_rfl)) 6 [.lit (.string ⟨#[97]⟩),.lit (.string ⟨#[98]⟩)] (by kernel_rfl) (λxi=> .lit (.string (Wm.names.getD xi ByteArray.empty))) (by kernel_rfl)) ?_
 refine Ae 2 ?_
 refine Ci (.osl 7 3 2) (.new 7 (.vec 36 3 2 (λxi=>Gv (Wm.homes.getD xi V3.zero)))) (Ak 22 2 #[(0,(.tmp 20)),(1,(.tmp 21))] (by kernel_rfl) underlying22 3 sizeOf36 _ zeroValue36 (by kernel_rfl) (Nat.le_of_ble_eq_true (by kernel_rfl)) (Nat.le_of_ble_eq_true (by kernel_rfl)) (Nat.le_of_ble_eq_true (by kernel_rfl)) 7 [.int 0,.int 0,.int 0,.int 1000,.int 0,.int 0] (by kernel_rfl) (λxi=>Gv (Wm.homes.getD xi V3.zero)) (by kernel_rfl)) ?_
 refine Ae 6 ?_
 refine Ci (.osl 8 6 2) (.new 8 (.vec 91 6 2 (λxi=>xR (AbF.getD xi Mv.none)))) (Ak 85 2 #[(0,(.tmp 26)),(1,(.tmp 28))] (by kernel_rfl) underlying85 6 sizeOf91 _ zeroValue91 (by kernel_rfl) (Nat.le_of_ble_eq_true (by kernel_rfl)) (Nat.le_of_ble_eq_true (by kernel_rfl)) (Nat.le_of_ble_eq_true (by kernel_rfl)) 8 [.int 0,.int 0,.int 1000,.int 0,.int 0,.int 0,.int 1000,.int 0,.int 1000,.int 0,.int 0,.int 0] (by kernel_rfl) (λxi=>xR (AbF.getD xi Mv.none)) (by kernel_rfl)) ?_
 refine cR 8 [29] 91 6 2 (λxi=>xR (AbF.getD xi Mv.none)) (Hf λ_ _=>rfl) ?_
 refine Ae 3 ?_
 refine Ci (.osl 9 3 3) (.new 9 (.vec 87 3 3 (λxi=>Acv (Wm.acts.getD xi Ac.none)))) (Ak 29 3 #[(0,(.tmp 24)),(1,(.tmp 30)),(2,(.tmp 32))] (by kernel_rfl) underlying29 3 sizeOf87 _ zeroValue87 (by kernel_rfl) (Nat.le_of_ble_eq_true (by kernel_rfl)) (Nat.le_of_ble_eq_true (by kernel_rfl)) (Nat.le_of_ble_eq_true (by kernel_rfl)) 9 [.lit (.string ⟨#[117,112]⟩),.int 2000,.sl 6 2 (λxi=>xR (AbE.getD xi Mv.none)),.lit (.string ⟨#[115,116,97,121]⟩),.int 2000,.sl 6 2 (λxi=>xR (AbF.getD xi Mv.none)),.lit (.string ⟨#[110,111,114,116,104]⟩),.int 2000,.sl 6 2 (λxi=>xR (AbG.getD xi Mv.none))] (by kernel_rfl) (λxi=>Acv (Wm.acts.getD xi Ac.none)) (by kernel_rfl)) ?_
 refine Ae 5 ?_
 refine zI 6 10 0 9 1 2 (λxi=> .lit (.string (Wm.names.getD xi ByteArray.empty))) (Hf λ_ _=>rfl) ?_
 refine zI 7 10 1 36 3 2 (λxi=>Gv (Wm.homes.getD xi V3.zero)) (Hf λ_ _=>rfl) ?_
 refine zI 9 10 2 87 3 3 (λxi=>Acv (Wm.acts.getD xi Ac.none)) (Hf λ_ _=>rfl) ?_
 refine Ae 5 ?_
 refine Ci (.osl 11 3 2) (.new 11 (.vec 36 3 2 (λxi=>Gv (Yi.homes.getD xi V3.zero)))) (Ak 22 2 #[(0,(.tmp 36)),(1,(.tmp 37))] (by kernel_rfl) underlying22 3 sizeOf36 _ zeroValue36 (by kernel_rfl) (Nat.le_of_ble_eq_true (by kernel_rfl)) (Nat.le_of_ble_eq_true (by kernel_rfl)) (Nat.le_of_ble_eq_true (by kernel_rfl)) 11 [.int 0,.int (-500),.int 0,.int 1000,.int (-500),.int 0] (by kernel_rfl) (λxi=>Gv (Yi.homes.getD xi V3.zero)) (by kernel_rfl)) ?_
 refine Ci (.osl 12 1 2) (.new 12 (.vec 3 1 2 (λxi=> .int (Yi.waits.getD xi 0)))) (Ak 23 2 #[(0,(.const (.int .i64 0))),(1,(.const (.int .i64 1000)))] (by kernel_rfl) underlying23 1 sizeOf3 _ zeroValue3 (by kernel_rfl) (Nat.le_of_ble_eq_true (by kernel_rfl)) (Nat.le_of_ble_eq_true (by kernel_rfl)) (Nat.le_of_ble_eq_true (by kernel_rfl)) 12 [.int 0,.int 1000] (by kernel_rfl) (λxi=> .int (Yi.waits.getD xi 0)) (by kernel_rfl)) ?_
 refine Ci (.osl 13 1 2) (.new 13 (.vec 3 1 2 (λxi=> .int (Yi.rises.getD xi 0)))) (Ak 23 2 #[(0,(.const (.int .i64 0))),(1,(.const (.int .i64 300)))] (by kernel_rfl) underlying23 1 sizeOf3 _ zeroValue3 (by kernel_rfl) (Nat.le_of_ble_eq_true (by kernel_rfl)) (Nat.le_of_ble_eq_true (by kernel_rfl)) (Nat.le_of_ble_eq_true (by kernel_rfl)) 13 [.int 0,.int 300] (by kernel_rfl) (λxi=> .int (Yi.rises.getD xi 0)) (by kernel_rfl)) ?_
 refine Ae 5 ?_
 refine AbQ 11 1 0 36 3 2 (λxi=>Gv (Yi.homes.getD xi V3.zero)) (Hf λ_ _=>rfl) ?_
 refine AbQ 12 1 2 3 1 2 (λxi=> .int (Yi.waits.getD xi 0)) (Hf λ_ _=>rfl) ?_
 refine AbQ 13 1 3 3 1 2 (λxi=> .int (Yi.rises.getD xi 0)) (Hf λ_ _=>rfl) ?_
 refine Ae 1 ?_
 exact Hq
theorem kN:Nq Wm:=⟨by decide,by decide,by decide,by decide,by decide⟩
theorem kO:dF Yi:=⟨by decide,by decide,by decide,⟨by decide,by decide⟩⟩
theorem yW:Fb Wm=true:=by kernel_rfl
theorem AdJ {a b m:Int} (h:0<=a/\a<b/\b<=m):Nr [a,b] m:=⟨by simp,by simp,λi hi=>by
 have:i<2:=hi
 match i,this with
 |0,_=>exact⟨h.1,by show a<=m;omega,λh0=>absurd h0 (Nat.lt_irrefl 0)⟩
 |1,_=>exact⟨by show 0<=b;omega,h.2.2,λ_=>h.2.1⟩⟩
theorem Ae1:Pj Yi:=⟨⟨by decide,by decide,by decide,by decide,by decide⟩,λi hi=>by
 have:i<2:=hi
 match i,this with
 |0,_=>exact⟨rfl,λj hj=>absurd hj (Nat.not_lt_zero j)⟩
 |1,_=>exact⟨rfl,λj hj=>by
  obtain rfl:j=0:=by omega
  decide⟩,AdJ (by decide),AdJ (by decide)⟩
theorem Aez (k:Int) (h:k=0\/k=2):Ig Wm ⟨0,k⟩:=⟨yW,by show (0:Int)<=0;decide,by show (0:Int)<2;decide,by show (0:Int)<=k;omega,by show k<(3:Int);omega⟩
theorem kM (k:Int) (h:k=0\/k=2):Td Wm Yi ⟨0,k⟩:=⟨Aez k h,Ae1⟩
theorem Ady (k:Int) (h:k=0\/k=2):Tq ⟨0,k⟩:=by rcases h with rfl|rfl<;>exact⟨Pp,⟨by decide,by decide⟩⟩
def sxL:List Rl:=[⟨0,0,0⟩,⟨0,0,300⟩,⟨1,0,0⟩,⟨1,0,300⟩,⟨0,1000,0⟩,⟨0,1000,300⟩,⟨1,1000,0⟩,⟨1,1000,300⟩]
theorem AbD:Ok Wm Yi ⟨0,0⟩=sxL:=by kernel_rfl
def sG:List Sg:=relP Wm Yi ⟨0,0⟩ Rl.none
theorem Afi:sG.length=5:=by kernel_rfl
theorem AcZ {l:List Sg} {n:Nat} (h:l.length=n):Ai l= .sl 6 n λxi=>Bn (l.getD xi Sg.none):=by subst h;rfl
theorem AdK (w:Int) (i:Nat) (hw:qZ Yi.waits w) (h:Nx Wm ⟨0,0⟩ (Ky Wm Yi ⟨0,0⟩ w)=i) (hi:i<3):AF Tryz.prog 14 [Gw Wm,Ie Yi,Kf ⟨0,0⟩,.int w] (.lit (.tuple #[.int .i64 (i:Int),sM (sH Wm ⟨0,0⟩ i),.int .i64 0])):=by
 subst h
 exact gJ Wm Yi ⟨0,0⟩ w kN kO (Ady 0 (.inl rfl)) (kM 0 (.inl rfl)) ⟨hw,hi⟩
theorem Ae0:AF Tryz.prog 14 [Gw Wm,Ie Yi,Kf ⟨0,2⟩,.int 0] (.lit (.tuple #[.int .i64 0,.agg #[.int .i64 0,.int .i64 0,.int .i64 0],.int .i64 9])):=
 gI Wm Yi ⟨0,2⟩ 0 kN kO (Ady 2 (.inr rfl)) (kM 2 (.inr rfl)) λg=>absurd g.2 (by decide)
theorem Afj:AF Tryz.prog 18 [Gw Wm,Ie Yi,Kf ⟨0,0⟩] (.tup [.sl 3 8 λxi=>Cr (sxL.getD xi Rl.none),.int 0]):=by
 have h:=Xn Wm Yi ⟨0,0⟩ kN kO (Ady 0 (.inl rfl)) (kM 0 (.inl rfl))
 rwa [AbD] at h
theorem Afk:AF Tryz.prog 21 [Gw Wm,Ie Yi,Kf ⟨0,0⟩,Cr Rl.none] (.tup [.sl 6 5 λxi=>Bn (sG.getD xi Sg.none),.int 0]):=by
 have h:=pY Wm Yi ⟨0,0⟩ Rl.none kN kO (Ady 0 (.inl rfl)) (kM 0 (.inl rfl)) (by decide) (by rw[AbD];exact List.mem_cons_self)
 rwa [show relP Wm Yi ⟨0,0⟩ Rl.none=sG from rfl,AcZ Afi] at h
theorem Zp:AF Tryz.prog 10 [] (.bool true):=by
 refine Cx func10 rfl λB D0 hA0=>?_
 refine Ae 7 ?_
 refine Ds gQ ?_
 refine Ae 14 ?_
 refine Ds (AdK 0 1 ⟨0,by decide,rfl⟩ (by decide) (by decide)) ?_
 refine Ae 15 ?_
 refine Ds (AdK 1000 2 ⟨1,by decide,rfl⟩ (by decide) (by decide)) ?_
 refine Ae 15 ?_
 refine Ds Ae0 ?_
 refine Ae 15 ?_
 refine Ds Afj ?_
 refine Ae 15 ?_
 refine Ci (.bool false) .none (Ir (Vs 36 36 (.tmp 56) (.tmp 57) (by kernel_rfl) _ _ (by kernel_rfl) (by kernel_rfl) (by kernel_rfl) (decide ((0:Int)=0/\(0:Int)=0/\(1000:Int)=1000)) (iO _ _ _ _ _ _)) (show (!(decide ((0:Int)=0/\(0:Int)=0/\(1000:Int)=1000)):Bool)=false from by decide)) ?_
 refine Ae 12 ?_
 refine Ci (.bool false) .none (Ir (Vs 36 36 (.tmp 69) (.tmp 70) (by kernel_rfl) _ _ (by kernel_rfl) (by kernel_rfl) (by kernel_rfl) (decide ((0:Int)=0/\(500:Int)=500/\(1000:Int)=1000)) (iO _ _ _ _ _ _)) (show (!(decide ((0:Int)=0/\(500:Int)=500/\(1000:Int)=1000)):Bool)=false from by decide)) ?_
 refine Ae 20 ?_
 refine Gt 0 8 ?_
 refine Ae 2 ?_
 refine Ci (.bool false) .none (Ir (Vs 52 52 (.tmp 93) (.tmp 94) (by kernel_rfl) _ _ (by kernel_rfl) (by kernel_rfl) (by kernel_rfl) (decide ((0:Int)=0/\(0:Int)=0/\(0:Int)=0)) (tU _ _ _ _ _ _)) (show (!(decide ((0:Int)=0/\(0:Int)=0/\(0:Int)=0)):Bool)=false from by decide)) ?_
 refine Ae 3 ?_
 refine Gt 1 8 ?_
 refine Ae 2 ?_
 refine Ci (.bool false) .none (Ir (Vs 52 52 (.tmp 100) (.tmp 101) (by kernel_rfl) _ _ (by kernel_rfl) (by kernel_rfl) (by kernel_rfl) (decide ((0:Int)=0/\(0:Int)=0/\(300:Int)=300)) (tU _ _ _ _ _ _)) (show (!(decide ((0:Int)=0/\(0:Int)=0/\(300:Int)=300)):Bool)=false from by decide)) ?_
 refine Ae 3 ?_
 refine Gt 2 8 ?_
 refine Ae 2 ?_
 refine Ci (.bool false) .none (Ir (Vs 52 52 (.tmp 107) (.tmp 108) (by kernel_rfl) _ _ (by kernel_rfl) (by kernel_rfl) (by kernel_rfl) (decide ((1:Int)=1/\(0:Int)=0/\(0:Int)=0)) (tU _ _ _ _ _ _)) (show (!(decide ((1:Int)=1/\(0:Int)=0/\(0:Int)=0)):Bool)=false from by decide)) ?_
 refine Ae 7 ?_
 refine Kg [(4,Fu (.sl 3 8 (λxi=>Cr (sxL.getD xi Rl.none))) 0,.none),(6,_,.none)] [14,15] ⟨Pa 0 8,Hj Afk,trivial⟩ ?_
 refine Ae 13 ?_
 refine Gt 0 5 ?_
 refine Ae 12 ?_
 refine Ci (.osl 5 1 5) (.new 5 (.vec 3 1 5 (λxi=>[AV.int 2000,AV.int 3200,AV.int 4000,AV.int 5000,AV.int 6000].getD xi .top))) (Ak 23 5 #[(0,(.const (.int .i64 2000))),(1,(.const (.int .i64 3200))),(2,(.const (.int .i64 4000))),(3,(.const (.int .i64 5000))),(4,(.const (.int .i64 6000)))] (by kernel_rfl) underlying23 1 sizeOf3 _ zeroValue3 (by kernel_rfl) (Nat.le_of_ble_eq_true (by kernel_rfl)) (Nat.le_of_ble_eq_true (by kernel_rfl)) (Nat.le_of_ble_eq_true (by kernel_rfl)) 5 [.int 2000,.int 3200,.int 4000,.int 5000,.int 6000] (by kernel_rfl) (λxi=>[AV.int 2000,AV.int 3200,AV.int 4000,AV.int 5000,AV.int 6000].getD xi .top) (by kernel_rfl)) ?_
 refine Ae 5 ?_
 refine zT 5 ?_
 refine Ae 14 ?_
 refine Gt 0 5 ?_
 refine Ci (.int 2000) (.read 5) (Dc 3 (.tmp 140) (by kernel_rfl) isAgg3 5 0 0 1 (by kernel_rfl) 3 5 (λxi=>[AV.int 2000,AV.int 3200,AV.int 4000,AV.int 5000,AV.int 6000].getD xi .top) (by kernel_rfl) (by omega) (by decide)) ?_
 refine Ae 8 ?_
 refine Gt 0 5 ?_
 refine Ae 11 ?_
 refine No (.int .i64 1) (.int .i64 1) ?_
 refine Ae 17 ?_
 refine Gt 1 5 ?_
 refine Ci (.int 3200) (.read 5) (Dc 3 (.tmp 140) (by kernel_rfl) isAgg3 5 1 0 1 (by kernel_rfl) 3 5 (λxi=>[AV.int 2000,AV.int 3200,AV.int 4000,AV.int 5000,AV.int 6000].getD xi .top) (by kernel_rfl) (by omega) (by decide)) ?_
 refine Ae 8 ?_
 refine Gt 1 5 ?_
 refine Ae 11 ?_
 refine No (.int .i64 2) (.int .i64 2) ?_
 refine Ae 17 ?_
 refine Gt 2 5 ?_
 refine Ci (.int 4000) (.read 5) (Dc 3 (.tmp 140) (by kernel_rfl) isAgg3 5 2 0 1 (by kernel_rfl) 3 5 (λxi=>[AV.int 2000,AV.int 3200,AV.int 4000,AV.int 5000,AV.int 6000].getD xi .top) (by kernel_rfl) (by omega) (by decide)) ?_
 refine Ae 8 ?_
 refine Gt 2 5 ?_
 refine Ae 11 ?_
 refine No (.int .i64 3) (.int .i64 3) ?_
 refine Ae 17 ?_
 refine Gt 3 5 ?_
 refine Ci (.int 5000) (.read 5) (Dc 3 (.tmp 140) (by kernel_rfl) isAgg3 5 3 0 1 (by kernel_rfl) 3 5 (λxi=>[AV.int 2000,AV.int 3200,AV.int 4000,AV.int 5000,AV.int 6000].getD xi .top) (by kernel_rfl) (by omega) (by decide)) ?_
 refine Ae 8 ?_
 refine Gt 3 5 ?_
 refine Ae 11 ?_
 refine No (.int .i64 4) (.int .i64 4) ?_
 refine Ae 17 ?_
 refine Gt 4 5 ?_
 refine Ci (.int 6000) (.read 5) (Dc 3 (.tmp 140) (by kernel_rfl) isAgg3 5 4 0 1 (by kernel_rfl) 3 5 (λxi=>[AV.int 2000,AV.int 3200,AV.int 4000,AV.int 5000,AV.int 6000].getD xi .top) (by kernel_rfl) (by omega) (by decide)) ?_
 refine Ae 8 ?_
 refine Gt 4 5 ?_
 refine Ae 11 ?_
 refine No (.int .i64 5) (.int .i64 5) ?_
 refine Ae 21 ?_
 exact Hq
theorem dB (r:Rv) (hf:Cy r.flight):AF Tryz.prog 3 [Ie r] (.bool true):=by
 refine Cx func3 rfl λB D0 hA0=>?_
 refine Ae 10 ?_
 refine Ds (zY r) ?_
 refine Ae 3 ?_
 refine pK 5 (bP (wE r)) (λhx1=>?_) (λhx1=>?_)
 ·
  refine Ae 4 ?_
  refine Kg [(1,_,.none),(3,_,.none),(4,.bool true,.none),(6,_,.none)] [2] ⟨Hj (Sz r (wE.inn (My hx1) hf)),Hj (dC r (wE.inn (My hx1) hf)),Av (Cq (v:= .bool (decide (bP (Pj r)=bP (Pj r)))) (v':= .bool true) _ (by kernel_rfl) rfl (by kernel_rfl) (λw=>by kernel_rfl) (congrArg Value.bool (decide_eq_true rfl))),Hj Zp,trivial⟩ ?_
  refine Ae 2 ?_
  exact Hq
 ·
  refine Ae 3 ?_
  refine Ds Zp ?_
  refine Ae 5 ?_
  exact Hq
end Go.Proofs.YtldnjomacnjhnaaGreat
namespace Go.Proofs.YtldnjomacnjhnaaGreat.Open
open Go.ChangeShapes Go.WideShapes Go.ChangeAt Go.RowKit Go.Deep
section
variable {H:Type} {enc:TypeId×Value->H} {W:World}
theorem AdZ:Tryz.prog.cellsOf 3=1:=by kernel_rfl
theorem fL {a0:Option Addr} {l0 c0 fuel:Nat} {y:DataW H×List MemPlace} (h:DataW.trod enc Tryz.prog W 0 (λ_=>true) true fuel 23 [.slice a0 l0 c0]=some y):∃l:List Int,l.length=l0/\Cc W 0 W.heap.size 1 (.slice a0 l0 c0) l0 (l.flatMap λx=>[.int .i64 x])/\l0<=c0:=by
 have hc:=oA Tryz.underlying23 h
 obtain⟨lh,g1,g2,g3,_⟩:=fM Tryz.underlying23 AdZ (by decide) h
 obtain⟨Hm,H1,H2⟩:=jG (cells:=λv:Int=>[.int .i64 v]) lh (λcs hc=>by obtain⟨hl,n,y,ht⟩:=g2 cs hc;obtain⟨k,e,_⟩:=Rn ht;exact⟨k,e⟩)
 exact⟨Hm,by omega,by rw[<-H2];exact g3,hc⟩
theorem open_resv {v:Value} {d:DataW H} {p:List MemPlace} {base:Nat} (hv:Value.okWide Tryz.prog W .any base 25 v) (h:DataW.Trod enc Tryz.prog W 0 (λ_=>true) true 25 v d p):
  ∃r:Rv,Cy r.flight/\∀E:Bk,E.w=W->(∀b,b<W.heap.size->E.D b)->VR E (Ie r) v:=by
 obtain⟨v0,v1,v2,v3,y0,y1,y2,y3,n,rfl,_,_,h0,h1,h2,h3⟩:=Go.Joins.open_agg4 Tryz.underlying25 (by kernel_rfl) (by kernel_rfl) hv h
 obtain⟨a0,l0,c0,e0⟩:=Go.Joins.slice_form Tryz.underlying22 h0
 obtain rfl:v0= .slice a0 l0 c0:=by simpa using e0
 obtain⟨k1,e1,f1⟩:=Rn h1
 obtain⟨a2,l2,c2,e2⟩:=Go.Joins.slice_form Tryz.underlying23 h2
 obtain rfl:v2= .slice a2 l2 c2:=by simpa using e2
 obtain⟨a3,l3,c3,e3⟩:=Go.Joins.slice_form Tryz.underlying23 h3
 obtain rfl:v3= .slice a3 l3 c3:=by simpa using e3
 have hc:=oA Tryz.underlying22 h0
 obtain⟨lh,g1,g2,g3,_⟩:=fM Tryz.underlying22 AeP (by decide) h0
 obtain⟨Hm,H1,H2⟩:=jG (cells:=λv:V3=>[.int .i64 v.x,.int .i64 v.y,.int .i64 v.z]) lh (λcs hc=>by obtain⟨hl,n,y,ht⟩:=g2 cs hc;exact Abq hl ht)
 have hL:Hm.length=l0:=by omega
 subst hL
 obtain⟨wl,rfl,w1,w2⟩:=fL h2
 obtain⟨rl,rfl,r1,r2⟩:=fL h3
 obtain rfl:v1= .int .i64 k1:=by simpa using e1
 have g3':Cc W 0 W.heap.size 3 (.slice a0 Hm.length c0) Hm.length (Jf Hm):=by unfold Jf;rw[<-H2];exact g3
 have Db:∀{a:Option Addr} {c:Nat} {l:List Int} {E:Bk},Cc W 0 W.heap.size 1 (.slice a l.length c) l.length (l.flatMap λx=>[.int .i64 x])->l.length<=c->E.w=W->(∀b,b<W.heap.size->E.D b)->VR E (Dq l) (.slice a l.length c):=λ {a c l E} hs hc hw hD=> .slc _ _ _ _ _ _ hc (Wd hs hw (λb hb=>hD b hb.2) λi j hi hj=>by
  obtain rfl:j=0:=by omega
  have:=Of (λx:Int=>[Value.int .i64 x]) 1 (λ_=>rfl) l i 0 0 hi (by omega)
  rw[this]
  exact .lit _ _)
 refine⟨⟨Hm,k1,wl,rl⟩,f1,λE hw hD=> .agg _ _ _ rfl λi hi=>?_⟩
 have h3:i<4:=hi
 match i,h3 with
 |0,_=>exact .slc _ _ _ _ _ _ hc (Ad6 g3' hw λb hb=>hD b hb.2)
 |1,_=>exact .lit _ _
 |2,_=>exact Db w1 w2 hw hD
 |3,_=>exact Db r1 r2 hw hD
end
end Go.Proofs.YtldnjomacnjhnaaGreat.Open
namespace Go.Proofs.YtldnjomacnjhnaaGreat.SV
open Go.ChangeShapes Go.WideShapes Go.ChangeAt Go.RowKit Go.Deep
theorem own:ownKnob Tryz.prog.godebug=none:=by kernel_rfl
theorem AcD:laidOutB Tryz.prog=true:=by kernel_rfl
theorem Aef (os:Os) (started:os.Started) (H:Type) (enc:TypeId×Value->H):
  ReturnsInHanded {} Tryz.checked os 3 .any (λw args=>Rows.spareValidSpec.pre enc Tryz.prog Tryz.f3 [] false w args/\sizedMet enc Tryz.prog Tryz.f3 (OpenSpec.ofChange Rows.spareValidSpec) false w args)
   (Rows.spareValidSpec.post enc Tryz.prog Tryz.f3 false true false false):=by
 refine returnsInHanded_of_change (C:=Tryz.checked) own started (by kernel_rfl) Tryz.func3
  (by
   obtain⟨w,tape,i,h1,h2,h3,h4,⟨⟨hp,_⟩,hs⟩,h5⟩:=ChangeSpec.witness_shaped (enc:=enc) (C:=Tryz.checked) (os:=os) (f:=3) (fn:=Tryz.f3) (s:=Rows.spareValidSpec) (conds:=[]) (apart:=false) (X:=λ_ _=>True) false (World.doorLaid Tryz.prog 400 os) #[.agg #[.slice none 0 0,.int .i64 0,.slice none 0 0,.slice none 0 0]] 8 rfl (World.shaped_of_RefB (by kernel_rfl) (by kernel_rfl)) (by kernel_rfl) (by kernel_rfl) (by kernel_rfl) trivial
   exact⟨w,tape,i,h1,h2,h3,h4,⟨hp,hs⟩,h5⟩) ?_
 intro W base args ds gs before hval0 hW _ _
 have hval:∀(j:Nat) t v,Tryz.f3.params[j]?=some t->args[j]?=some v->Value.okWide Tryz.prog W .any base t v:=hval0
 have hW':=hW
 obtain⟨p,q,hA0,hV,rfl,hfz,hnd⟩:=hW
 have hA:DataW.TrodAll enc Tryz.prog W 0 (λ_=>true) true Tryz.f3.params.toList args.toList ds p:=hA0
 rw[Tryz.params3] at hA hval
 obtain⟨v0,vs0,d0,ds0,p0,q0,hargs,rfl,rfl,h0,r0⟩:=trodAll_cons hA
 obtain⟨rfl,rfl,rfl⟩:=trodAll_nil r0
 obtain rfl:args=#[v0]:=by cases args;simp_all
 obtain⟨rfl,rfl⟩:=trodVars_none hV
 have k0:=h0
 have lt0:∀x∈p0,x.block<W.heap.size:=by obtain⟨m,hm⟩:=k0;exact DataW.trod_lt m _ _ _ hm
 obtain⟨r,f0,hr⟩:=Open.open_resv (hval 0 25 v0 rfl rfl) h0
 clear hA0 hval0
 refine((dB r f0).call W #[v0] rfl (λE hw hD i hi=>?_)).mono λe W' ⟨he,bel⟩=>?_
 have h1:i<1:=hi
 match i,h1 with
 |0,_=>exact hr E hw hD
 subst he
 exact⟨_,rfl,_,_,_,[],_,[],hW',trodAll_mk1 (shut_bool Tryz.underlying4 _),trodAll_cons_mk (Below.trod AcD (by kernel_rfl) (of_decide_eq_true (by kernel_rfl)) k0 bel lt0) trodAll_mk0,rfl,bel.frame _,λh=>by cases h⟩
theorem row_holds:Rows.SpareValidSaid:=
 OpenClaim.holds_of_wide 3 Tryz.f3 rfl rfl rfl rfl rfl rfl rfl ⟨rfl,rfl,rfl,rfl,rfl⟩ rfl rfl rfl rfl rfl (by kernel_rfl) Tryz.func3 (by kernel_rfl)
  (of_decide_eq_true (by kernel_rfl)) (by unfold Func.isWrapper;first|(rw[if_pos (by decide+kernel)];kernel_rfl)|(rw[if_neg (by decide+kernel)];exact⟨rfl,rfl⟩))
  (λos started H enc _=>Aef os started H enc)
end Go.Proofs.YtldnjomacnjhnaaGreat.SV