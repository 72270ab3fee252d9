/- Part 22 of the proof of SV.row_holds, joined by program: no condition beyond the row's own. -/
import Derived.Test.YtldnjomacnjhnaaGreatV21
import Derived.Test.YtldnjomacnjhnaaGreatRows
import Derived.LaidMore
import Derived.OpenShut
import Derived.ShutString
import Derived.ChangeOld
import Derived.Lib.LaidTab
import Derived.Stop.Joined
import Derived.HandedShaped
import Derived.Deep.Fields
set_option maxRecDepth 100000
set_option maxHeartbeats 40000000
namespace Go.Proofs.YtldnjomacnjhnaaGreat.Open
open Go.ChangeShapes Go.WideShapes Go.ChangeAt Go.RowKit Go.Deep
section
variable {H:Type} {enc:TypeId×Value->H} {W:World} {n:Nat} {y:DataW H×List MemPlace} {cs:List Value}
theorem oA {a0:Option Addr} {len0 cap0 fuel:Nat} {t e:TypeId} (ht:Tryz.prog.underlying t=some (.slice e)) (h:DataW.trod enc Tryz.prog W 0 (λ_=>true) true fuel t [.slice a0 len0 cap0]=some y):len0<=cap0:=by
 rcases open_slice ht h with⟨hcs,_⟩|⟨x,n,c,m,nn,D,Pl,hcs,_,hl,hm,hmm,_,hi⟩
 simp at hcs
 obtain⟨rfl,rfl,rfl⟩:=hcs
 exact Nat.le_refl _
 simp at hcs
 obtain⟨rfl,rfl,rfl⟩:=hcs
 have hmm':m=cap0:=by simpa using hmm
 omega
end
end Go.Proofs.YtldnjomacnjhnaaGreat.Open
namespace Go.Proofs.YtldnjomacnjhnaaGreat
open Go.Proofs.Tryz
open Go.RowKit
theorem Ad6 {w:World} {D:Nat->Prop} {l:List V3} {v:Value} (h:Dd w D 3 v l.length (Jf l)) {E:Bk} (hw:E.w=w) (hD:∀b,D b->E.D b):VR E (Kc l) v:=
 Wd h hw hD λi j hi hj=>by
  have:=Of (λv:V3=>[Value.int .i64 v.x,.int .i64 v.y,.int .i64 v.z]) 3 (λ_=>rfl) l i j V3.zero hi hj
  unfold Jf
  rw[this]
  match j,hj with
  |0,_=>exact .lit _ _
  |1,_=>exact .lit _ _
  |2,_=>exact .lit _ _
theorem AF.call {P:Program} {f:FuncId} {args:List AV} {v:Value} (h:AF P f args (.lit v)) (W:World) (vs:Array Value) (hn:vs.size=args.length) (hv:∀E:Bk,E.w=W->(∀b,b<W.heap.size->E.D b)->∀i,i<args.length->VR E (args.getD i .top) (vs.getD i undef)):Calls P f vs W λe w'=>e= .returned v/\Below W.heap.size W w':=by
 refine(h { π:=λ_=>0,cap:=λ_=>0,A:=λ_=>False,D:=λb=>b<W.heap.size,w:=W } vs (λb hb=>hb) hn λi hi=>hv _ rfl (λb hb=>hb) i hi).mono ?_
 rintro e w' ⟨u,D',rfl,hr,hb,_⟩
 exact⟨by rw[hr.lit_inv],hb⟩
theorem xH {a b:List Int} (h:a.length=b.length) (hq:∀q,q<a.length->a.getD q 0=b.getD q 0):a=b:=by
 refine List.ext_getElem h λi h1 h2=>?_
 have:=hq i h1
 rwa [List.getD_eq_getElem?_getD,List.getD_eq_getElem?_getD,List.getElem?_eq_getElem h1,List.getElem?_eq_getElem h2] at this
theorem Aeu {s t:Sg} (h1:s.f=t.f) (h2:s.t=t.t) (h3:s.o=t.o) (h4:s.x=t.x) (h5:s.y=t.y) (h6:s.z=t.z):s=t:=by
 cases s;cases t;simp_all
theorem Aaf {f:FuncId} {args args':List AV} {r r':AV} (h:AF Tryz.prog f args r) (hl:args'.length=args.length) (ha:∀i,i<args.length->∀E v,VR E (args'.getD i .top) v->VR E (args.getD i .top) v) (hr:∀E v,VR E r v->VR E r' v):AF Tryz.prog f args' r':=λE vs hD hn hv=>by
 refine Calls.mono (h E vs hD (by omega) λi hi=>ha i hi _ _ (hv i (by omega))) ?_
 rintro e w' ⟨v,D',h1,h2,h3⟩
 exact⟨v,D',h1,hr _ _ h2,h3⟩
theorem gO (l:List V3) (n:Nat) (v:V3) (hn:n<=1000000):AF Tryz.prog 34 [.slc 3 n λi=>Gv (l.getD i V3.zero),Gv v] (.bool (bP (∃q,q<n/\(l.getD q V3.zero).x=v.x/\(l.getD q V3.zero).y=v.y/\(l.getD q V3.zero).z=v.z))):=
 Aaf (lG l n v hn) rfl (λi hi E u h=>by
  match i,hi with
  |0,_=>cases h;assumption
  |1,_=>exact h) λ_ _ h=>h
theorem dZ (l:List Int) (M:Int) (hl:l.length<=1000000):AF Tryz.prog 35 [Dq l,.int 0,.int M] (.bool (bP (Nr l M))):=by
 refine Cx func35 rfl λB D0 hA0=>?_
 refine Ae 12 ?_
 refine Gu 12 ((l.length:Int)<1) (λhx1 hx1d=>?_) (λhx1 hx1d=>?_)
 ·
  refine Ae 31 ?_
  exact Ha (.bool false) (congrArg AV.bool (Be (by rintro⟨g1,g2,g3⟩;first|omega|(have:=(g3 0 (by omega)).1;omega)|(have:=(g3 (l.length-1) (by omega)).2.1;omega)|(have:=(g3 (1+k) (by omega)).2.2 (by omega);rw[Nat.add_sub_cancel_left] at this;omega))).symm)
 ·
  refine Ae 5 ?_
  refine Gu 17 ((16:Int)<(l.length:Int)) (λhx2 hx2d=>?_) (λhx2 hx2d=>?_)
  ·
   refine Ae 26 ?_
   exact Ha (.bool false) (congrArg AV.bool (Be (by rintro⟨g1,g2,g3⟩;first|omega|(have:=(g3 0 (by omega)).1;omega)|(have:=(g3 (l.length-1) (by omega)).2.1;omega)|(have:=(g3 (1+k) (by omega)).2.2 (by omega);rw[Nat.add_sub_cancel_left] at this;omega))).symm)
  ·
   refine Ae 1 ?_
   refine Gt 0 l.length ?_
   refine Ae 5 ?_
   refine Gu 24 ((l).getD 0 0<0) (λhx3 hx3d=>?_) (λhx3 hx3d=>?_)
   ·
    refine Ae 19 ?_
    exact Ha (.bool false) (congrArg AV.bool (Be (by rintro⟨g1,g2,g3⟩;first|omega|(have:=(g3 0 (by omega)).1;omega)|(have:=(g3 (l.length-1) (by omega)).2.1;omega)|(have:=(g3 (1+k) (by omega)).2.2 (by omega);rw[Nat.add_sub_cancel_left] at this;omega))).symm)
   ·
    refine Ae 3 ?_
    refine Fw ((l.length:Int)-1) ((l.length-1:Nat):Int) ?_
    refine Gt (l.length-1) l.length ?_
    refine Ae 6 ?_
    refine Gu 33 (M<(l).getD (l.length-1) 0) (λhx4 hx4d=>?_) (λhx4 hx4d=>?_)
    ·
     refine Ae 8 ?_
     exact Ha (.bool false) (congrArg AV.bool (Be (by rintro⟨g1,g2,g3⟩;first|omega|(have:=(g3 0 (by omega)).1;omega)|(have:=(g3 (l.length-1) (by omega)).2.1;omega)|(have:=(g3 (1+k) (by omega)).2.2 (by omega);rw[Nat.add_sub_cancel_left] at this;omega))).symm)
    ·
     refine Ae 7 ?_
     refine Ci (.sl 1 (l.length-1) (λxi=>(λi0=> .int ((l).getD i0 0)) (1+xi))) .none (jR 23 (.tmp 34) (some (.const (.int .i64 1))) none (by kernel_rfl) underlying23 1 l.length sizeOf3 (λi0=> .int ((l).getD i0 0)) (by kernel_rfl) 1 l.length (.inr ⟨(.const (.int .i64 1)),1,rfl,by kernel_rfl,by omega⟩) (.inl ⟨rfl,rfl⟩) (by omega) (by omega)) ?_
     refine Ae 5 ?_
     refine Qf [0,35,36,37] (l.length-1) (λk=>∀q,q<k->l.getD q 0<l.getD (1+q) 0) (λk=>⟨[(0,Dq l),(35,.sl 1 (l.length-1) (λxi=>(λi0=> .int ((l).getD i0 0)) (1+xi))),(36,.int ((l.length-1:Nat):Int)),(37,.int (k:Int))],[],0,49⟩) (λq hq=>absurd hq (Nat.not_lt_zero q)) (λk hkn hFk J1 hJ1=>?_)
     refine Ae 6 ?_
     refine Gu 38 ((k:Int)<((l.length-1:Nat):Int)) (λhx5 hx5d=>?_) (λhx5 hx5d=>?_)
     ·
      refine Ae 8 ?_
      refine Gt k (l.length-1) ?_
      refine Ae 10 ?_
      refine Gt k l.length ?_
      refine Ae 4 ?_
      refine Gu 47 ((l).getD (1+k) 0<=(l).getD k 0) (λhx6 hx6d=>?_) (λhx6 hx6d=>?_)
      ·
       refine Ae 12 ?_
       exact Ha (.bool false) (congrArg AV.bool (Be (by rintro⟨g1,g2,g3⟩;first|omega|(have:=(g3 0 (by omega)).1;omega)|(have:=(g3 (l.length-1) (by omega)).2.1;omega)|(have:=(g3 (1+k) (by omega)).2.2 (by omega);rw[Nat.add_sub_cancel_left] at this;omega))).symm)
      ·
       refine Ae 5 ?_
       refine Fw ((k:Int)+1) ((k+1:Nat):Int) ?_
       refine Ae 2 ?_
       exact Qm [0,35,36,37] (hJ1 (by omega) (λq hq=>(Nat.lt_or_ge q k).elim (λg=>hFk q g) λg=>by have e:q=k:=(by omega);subst e;omega))
     ·
      refine Ae 12 ?_
      exact Ha (.bool true) (congrArg AV.bool (Eo (Adj (by omega) (by omega) (by omega) (by omega) (λi hi=>hFk i (by omega)))).symm)
theorem Xo (l:List Int) (M:Int) (hl:l.length<=1000000):AF Tryz.prog 36 [Dq l,.int M] (.bool (bP (Nr l M))):=by
 refine Cx func36 rfl λB D0 hA0=>?_
 refine Ae 12 ?_
 refine Qf [0,1,5] l.length (λi=>∀q,q<i->0<=l.getD q 0/\l.getD q 0<=M/\(0<q->l.getD (q-1) 0<l.getD q 0)) (λi=>⟨[(0,Dq l),(1,.int M),(5,.int (i:Int))],[],0,49⟩) (λq hq=>absurd hq (Nat.not_lt_zero q)) (λi hin hFi J1 hJ1=>?_)
 refine Ae 9 ?_
 refine Gu 9 ((i:Int)<(l.length:Int)) (λhx1 hx1d=>?_) (λhx1 hx1d=>?_)
 ·
  refine Ae 6 ?_
  refine zL ((l).getD i 0<0) (λhx2 hx2d=>?_) (λhx2 hx2d=>?_)
  ·
   refine Kg [(2,Fu (Dq l) i,.none),(4,.bool true,.none)] [0,1,5,40] ⟨Pa i l.length,kT hx2,trivial⟩ ?_
   refine Ae 13 ?_
   exact Ha (.bool false) (congrArg AV.bool ((Be (by rintro⟨g1,g2,g3⟩;first|omega|(have:=(g3 i (by omega)).1;omega)|(have:=(g3 i (by omega)).2.1;omega)|(have:=(g3 i (by omega)).2.2 (by omega);omega))).symm))
  ·
   refine zL (M<(l).getD i 0) (λhx3 hx3d=>?_) (λhx3 hx3d=>?_)
   ·
    refine Kg [(2,Fu (Dq l) i,.none),(4,.bool false,.none),(8,Fu (Dq l) i,.none),(11,.bool true,.none)] [0,1,5,40] ⟨Pa i l.length,kT hx2,Pa i l.length,kT hx3,trivial⟩ ?_
    refine Ae 13 ?_
    exact Ha (.bool false) (congrArg AV.bool ((Be (by rintro⟨g1,g2,g3⟩;first|omega|(have:=(g3 i (by omega)).1;omega)|(have:=(g3 i (by omega)).2.1;omega)|(have:=(g3 i (by omega)).2.2 (by omega);omega))).symm))
   ·
    refine zL ((0:Int)<(i:Int)) (λhx4 hx4d=>?_) (λhx4 hx4d=>?_)
    ·
     refine Kg [(2,Fu (Dq l) i,.none),(4,.bool false,.none),(8,Fu (Dq l) i,.none),(11,.bool false,.none),(15,.bool true,.none),(19,Fu (Dq l) i,.none),(23,.int ((i-1:Nat):Int),.none),(24,Fu (Dq l) (i-1),.none)] [0,1,5,40] ⟨Pa i l.length,kT hx2,Pa i l.length,kT hx3,kT hx4,Pa i l.length,Av (Cq (v:= .int .i64 (IntKind.wrap .i64 ((i:Int)-1))) (v':= .int .i64 ((i-1:Nat):Int)) _ (by kernel_rfl) rfl (by kernel_rfl) (λw=>by kernel_rfl) (congrArg (Value.int .i64) ((IntWalk.i64_in _ (by omega)).trans (by omega)))),Pa (i-1) l.length,trivial⟩ ?_
     refine Ae 1 ?_
     refine Gu 40 ((l).getD i 0<=(l).getD (i-1) 0) (λhx5 hx5d=>?_) (λhx5 hx5d=>?_)
     ·
      refine Ae 12 ?_
      exact Ha (.bool false) (congrArg AV.bool ((Be (by rintro⟨g1,g2,g3⟩;first|omega|(have:=(g3 i (by omega)).1;omega)|(have:=(g3 i (by omega)).2.1;omega)|(have:=(g3 i (by omega)).2.2 (by omega);omega))).symm))
     ·
      refine Ae 6 ?_
      refine Fw ((i:Int)+1) ((i+1:Nat):Int) ?_
      refine Ae 2 ?_
      exact Qm [0,1,5] (hJ1 (by omega) (λq hq=>(Nat.lt_or_ge q i).elim (λg=>hFi q g) λg=>by have e:q=i:=(by omega);subst e;exact⟨by omega,by omega,λh0=>by omega⟩))
    ·
     refine Kg [(2,Fu (Dq l) i,.none),(4,.bool false,.none),(8,Fu (Dq l) i,.none),(11,.bool false,.none),(15,.bool false,.none)] [0,1,5,40] ⟨Pa i l.length,kT hx2,Pa i l.length,kT hx3,kT hx4,trivial⟩ ?_
     refine Ae 7 ?_
     refine Fw ((i:Int)+1) ((i+1:Nat):Int) ?_
     refine Ae 2 ?_
     exact Qm [0,1,5] (hJ1 (by omega) (λq hq=>(Nat.lt_or_ge q i).elim (λg=>hFi q g) λg=>by have e:q=i:=(by omega);subst e;exact⟨by omega,by omega,λh0=>by omega⟩))
 ·
  refine Ae 12 ?_
  refine Gu 44 ((1:Int)<=(l.length:Int)) (λhx6 hx6d=>?_) (λhx6 hx6d=>?_)
  ·
   refine Ae 8 ?_
   exact Ha (.bool (decide ((l.length:Int)<=16))) (congrArg AV.bool (if hz:(l.length:Int)<=16 then (decide_eq_true hz).trans (Eo ⟨by omega,by omega,λq hq=>hFi q (by omega)⟩).symm else (decide_eq_false hz).trans ((Be (by rintro⟨g1,g2,g3⟩;first|omega|(have:=(g3 i (by omega)).1;omega)|(have:=(g3 i (by omega)).2.1;omega)|(have:=(g3 i (by omega)).2.2 (by omega);omega))).symm)))
  ·
   refine Ae 8 ?_
   exact Ha (.bool false) (congrArg AV.bool ((Be (by rintro⟨g1,g2,g3⟩;first|omega|(have:=(g3 i (by omega)).1;omega)|(have:=(g3 i (by omega)).2.1;omega)|(have:=(g3 i (by omega)).2.2 (by omega);omega))).symm))
theorem Sz (r:Rv) (hr:dF r):AF Tryz.prog 11 [Ie r] (.bool (bP (Pj r))):=by
 have h1:=hr.n
 have h2:=hr.w
 have h3:=hr.s
 refine Cx func11 rfl λB D0 hA0=>?_
 refine Ae 14 ?_
 refine Gu 9 ((r.homes.length:Int)<1) (λhx1 hx1d=>?_) (λhx1 hx1d=>?_)
 ·
  refine Ae 31 ?_
  exact Ha (.bool false) (congrArg AV.bool (Be (by rintro⟨⟨g5,g6,g7,g8,g9⟩,g2,g3,g4⟩;first|omega|(have:=(g2 i (by omega)).2 j (by omega);omega))).symm)
 ·
  refine Ae 6 ?_
  refine Gu 15 ((8:Int)<(r.homes.length:Int)) (λhx2 hx2d=>?_) (λhx2 hx2d=>?_)
  ·
   refine Ae 25 ?_
   exact Ha (.bool false) (congrArg AV.bool (Be (by rintro⟨⟨g5,g6,g7,g8,g9⟩,g2,g3,g4⟩;first|omega|(have:=(g2 i (by omega)).2 j (by omega);omega))).symm)
  ·
   refine Ae 5 ?_
   refine Gu 20 (r.flight<4) (λhx3 hx3d=>?_) (λhx3 hx3d=>?_)
   ·
    refine Ae 20 ?_
    exact Ha (.bool false) (congrArg AV.bool (Be (by rintro⟨⟨g5,g6,g7,g8,g9⟩,g2,g3,g4⟩;first|omega|(have:=(g2 i (by omega)).2 j (by omega);omega))).symm)
   ·
    refine Ae 5 ?_
    refine Gu 25 ((3600000:Int)<r.flight) (λhx4 hx4d=>?_) (λhx4 hx4d=>?_)
    ·
     refine Ae 15 ?_
     exact Ha (.bool false) (congrArg AV.bool (Be (by rintro⟨⟨g5,g6,g7,g8,g9⟩,g2,g3,g4⟩;first|omega|(have:=(g2 i (by omega)).2 j (by omega);omega))).symm)
    ·
     refine Ae 2 ?_
     refine No (.int .i64 (Int.tmod r.flight 4)) (.int .i64 (tm4 r.flight)) ?_ rfl
     refine Ae 4 ?_
     refine Ae5 30 (tm4 r.flight=0) (λhx5 hx5d=>?_) (λhx5 hx5d=>?_)
     ·
      refine Ae 13 ?_
      refine Qf [1,32,33,34] r.homes.length (λi=>∀q,q<i->Dy 1048576 [(r.homes.getD q V3.zero).x,(r.homes.getD q V3.zero).y,(r.homes.getD q V3.zero).z]=true/\∀j,j<q->¬((r.homes.getD j V3.zero).x=(r.homes.getD q V3.zero).x/\(r.homes.getD j V3.zero).y=(r.homes.getD q V3.zero).y/\(r.homes.getD j V3.zero).z=(r.homes.getD q V3.zero).z)) (λi=>⟨[(1,.ptr 0 0),(32,Ql r.homes),(33,.int (r.homes.length:Int)),(34,.int (i:Int))],[(0,.box 25 [Ql r.homes,.int r.flight,Dq r.waits,Dq r.rises])],1,59⟩) (λq hq=>absurd hq (Nat.not_lt_zero q)) (λi hin hFi J1 hJ1=>?_)
      refine Ae 6 ?_
      refine Gu 35 ((i:Int)<(r.homes.length:Int)) (λhx6 hx6d=>?_) (λhx6 hx6d=>?_)
      ·
       refine Ae 8 ?_
       refine Gt i r.homes.length ?_
       refine Ae 7 ?_
       refine Ey (Dy 1048576 [(r.homes.getD i V3.zero).x,(r.homes.getD i V3.zero).y,(r.homes.getD i V3.zero).z]) (λhx7=>?_) (λhx7=>?_)
       ·
        refine Kg [(1,.bool true,.none),(7,.slc 3 i (λi0=>Gv (r.homes.getD i0 V3.zero)),.none),(9,_,.none)] [1,32,33,34,49] ⟨kbC hx7 (Hj (Um (r.homes.getD i V3.zero))),Av (Tg 22 (.tmp 44) (.tmp 45) (by kernel_rfl) underlying22 3 r.homes.length sizeOf36 (λi0=>Gv (r.homes.getD i0 V3.zero)) (by kernel_rfl) i (i:Int) (by kernel_rfl) (by omega) (by omega)),Hj (gO r.homes i (r.homes.getD i V3.zero) (by omega)),trivial⟩ ?_
        refine Ae 1 ?_
        refine vS 49 (bP (∃q,q<i/\(r.homes.getD q V3.zero).x=(r.homes.getD i V3.zero).x/\(r.homes.getD q V3.zero).y=(r.homes.getD i V3.zero).y/\(r.homes.getD q V3.zero).z=(r.homes.getD i V3.zero).z)) (λhx8=>?_) (λhx8=>?_)
        ·
         refine Ae 12 ?_
         exact Ha (.bool false) (congrArg AV.bool (Be (by rintro⟨⟨g5,g6,g7,g8,g9⟩,g2,g3,g4⟩;first|omega|(obtain⟨q,hq,hc⟩:=My hx8;exact(g2 i (by omega)).2 q hq hc)|(have:=(g2 i (by omega)).2 j (by omega);omega))).symm)
        ·
         refine Ae 5 ?_
         refine Fw ((i:Int)+1) ((i+1:Nat):Int) ?_
         refine Ae 2 ?_
         exact Hl [1,32,33,34] [(0,0)] 1 0 hA0 [] trivial (hJ1 (by omega) (λq hq=>(Nat.lt_or_ge q i).elim (λg=>hFi q g) λg=>by have e:q=i:=(by omega);subst e;exact⟨hx7,λj hj hc=>aH hx8 ⟨j,hj,hc⟩⟩))
       ·
        refine Kg [(1,.bool false,.none)] [1,32,33,34,49] ⟨kbC hx7 (Hj (Um (r.homes.getD i V3.zero))),trivial⟩ ?_
        refine Ae 13 ?_
        exact Ha (.bool false) (congrArg AV.bool (Be (by rintro⟨⟨g5,g6,g7,g8,g9⟩,g2,g3,g4⟩;first|omega|(have g:=(g2 i (by omega)).1;rw[hx7] at g;exact Bool.noConfusion g)|(have:=(g2 i (by omega)).2 j (by omega);omega))).symm)
      ·
       refine Ae 10 ?_
       refine Ds (dZ r.waits 3600000 (by omega)) ?_
       refine Ae 1 ?_
       refine vS 54 (bP (Nr r.waits 3600000)) (λhx9=>?_) (λhx9=>?_)
       ·
        refine Ae 2 ?_
        refine Ds (dZ r.rises 1048576 (by omega)) ?_
        refine Ae 5 ?_
        exact Ha (.bool (bP (Nr r.rises 1048576))) (congrArg AV.bool (Aax ⟨λg=>⟨⟨by omega,by omega,by omega,by omega,by omega⟩,λq hq=>hFi q (by omega),My hx9,g⟩,λg=>g.2.2.2⟩))
       ·
        refine Ae 8 ?_
        exact Ha (.bool false) (congrArg AV.bool (Be (by rintro⟨⟨g5,g6,g7,g8,g9⟩,g2,g3,g4⟩;first|omega|exact aH hx9 g3|(have:=(g2 i (by omega)).2 j (by omega);omega))).symm)
     ·
      refine Ae 8 ?_
      exact Ha (.bool false) (congrArg AV.bool (Be (by rintro⟨⟨g5,g6,g7,g8,g9⟩,g2,g3,g4⟩;first|omega|(have:=(g2 i (by omega)).2 j (by omega);omega))).symm)
theorem dC (r:Rv) (hr:dF r):AF Tryz.prog 12 [Ie r] (.bool (bP (Pj r))):=by
 have h1:=hr.n
 have h2:=hr.w
 have h3:=hr.s
 refine Cx func12 rfl λB D0 hA0=>?_
 refine Ae 13 ?_
 refine Qf [1,3] r.homes.length (λi=>∀q,q<i->Dy 1048576 [(r.homes.getD q V3.zero).x,(r.homes.getD q V3.zero).y,(r.homes.getD q V3.zero).z]=true/\∀j,j<q->¬((r.homes.getD j V3.zero).x=(r.homes.getD q V3.zero).x/\(r.homes.getD j V3.zero).y=(r.homes.getD q V3.zero).y/\(r.homes.getD j V3.zero).z=(r.homes.getD q V3.zero).z)) (λi=>⟨[(1,.ptr 0 0),(3,.int (i:Int))],[(0,.box 25 [Ql r.homes,.int r.flight,Dq r.waits,Dq r.rises])],1,71⟩) (λq hq=>absurd hq (Nat.not_lt_zero q)) (λi hin hFi J1 hJ1=>?_)
 refine Ae 10 ?_
 refine Gu 9 ((i:Int)<(r.homes.length:Int)) (λhx1 hx1d=>?_) (λhx1 hx1d=>?_)
 ·
  refine Ae 11 ?_
  refine Gt i r.homes.length ?_
  refine Ae 1 ?_
  refine Ds (Um (r.homes.getD i V3.zero)) ?_
  refine Ae 3 ?_
  refine pK 18 (Dy 1048576 [(r.homes.getD i V3.zero).x,(r.homes.getD i V3.zero).y,(r.homes.getD i V3.zero).z]) (λhx2=>?_) (λhx2=>?_)
  ·
   refine Ae 9 ?_
   refine Qf [1,3,4] i (λj=>∀u,u<j->¬((r.homes.getD u V3.zero).x=(r.homes.getD i V3.zero).x/\(r.homes.getD u V3.zero).y=(r.homes.getD i V3.zero).y/\(r.homes.getD u V3.zero).z=(r.homes.getD i V3.zero).z)) (λj=>⟨[(1,.ptr 0 0),(3,.int (i:Int)),(4,.int (j:Int))],[(0,.box 25 [Ql r.homes,.int r.flight,Dq r.waits,Dq r.rises])],1,71⟩) (λq hq=>absurd hq (Nat.not_lt_zero q)) (λj hjn hFj J2 hJ2=>?_)
   refine Ae 8 ?_
   refine Gu 21 ((j:Int)<(i:Int)) (λhx3 hx3d=>?_) (λhx3 hx3d=>?_)
   ·
    refine Ae 6 ?_
    refine Kg [(3,Fu (Ql r.homes) j,.none),(8,Fu (Ql r.homes) i,.none),(10,.bool (decide ((r.homes.getD j V3.zero).x=(r.homes.getD i V3.zero).x/\(r.homes.getD j V3.zero).y=(r.homes.getD i V3.zero).y/\(r.homes.getD j V3.zero).z=(r.homes.getD i V3.zero).z)),.none)] [1,3,4,34] ⟨Pa j r.homes.length,Pa i r.homes.length,Av (Zb 36 36 (.tmp 28) (.tmp 33) (by kernel_rfl) _ _ (by kernel_rfl) (by kernel_rfl) (by kernel_rfl) (decide ((r.homes.getD j V3.zero).x=(r.homes.getD i V3.zero).x/\(r.homes.getD j V3.zero).y=(r.homes.getD i V3.zero).y/\(r.homes.getD j V3.zero).z=(r.homes.getD i V3.zero).z)) (iO _ _ _ _ _ _)),trivial⟩ ?_
    refine Ae 1 ?_
    refine Gu 34 ((r.homes.getD j V3.zero).x=(r.homes.getD i V3.zero).x/\(r.homes.getD j V3.zero).y=(r.homes.getD i V3.zero).y/\(r.homes.getD j V3.zero).z=(r.homes.getD i V3.zero).z) (λhx4 hx4d=>?_) (λhx4 hx4d=>?_)
    ·
     refine Ae 16 ?_
     exact Ha (.bool false) (congrArg AV.bool (Be (by rintro⟨⟨g5,g6,g7,g8,g9⟩,g2,g3,g4⟩;first|omega|(have:=(g2 i (by omega)).2 j (by omega);omega))).symm)
    ·
     refine Ae 6 ?_
     refine Fw ((j:Int)+1) ((j+1:Nat):Int) ?_
     refine Ae 2 ?_
     exact Qm [1,3,4] (hJ2 (by omega) (λu hr=>(Nat.lt_or_ge u j).elim (λg=>hFj u g) λg=>by have e:u=j:=(by omega);subst e;omega))
   ·
    refine Ae 9 ?_
    refine Fw ((i:Int)+1) ((i+1:Nat):Int) ?_
    refine Ae 2 ?_
    exact Qm [1,3] (hJ1 (by omega) (λq hq=>(Nat.lt_or_ge q i).elim (λg=>hFi q g) λg=>by have e:q=i:=(by omega);subst e;exact⟨hx2,λj2 hj=>hFj j2 (by omega)⟩))
  ·
   refine Ae 13 ?_
   exact Ha (.bool false) (congrArg AV.bool (Be (by rintro⟨⟨g5,g6,g7,g8,g9⟩,g2,g3,g4⟩;first|omega|(have g:=(g2 i (by omega)).1;rw[hx2] at g;exact Bool.noConfusion g)|(have:=(g2 i (by omega)).2 j (by omega);omega))).symm)
 ·
  refine Ae 13 ?_
  refine Gu 39 ((1:Int)<=(r.homes.length:Int)) (λhx5 hx5d=>?_) (λhx5 hx5d=>?_)
  ·
   refine Ae 6 ?_
   refine Gu 45 ((r.homes.length:Int)<=8) (λhx6 hx6d=>?_) (λhx6 hx6d=>?_)
   ·
    refine Ae 5 ?_
    refine Gu 50 ((4:Int)<=r.flight) (λhx7 hx7d=>?_) (λhx7 hx7d=>?_)
    ·
     refine Ae 5 ?_
     refine Gu 55 (r.flight<=3600000) (λhx8 hx8d=>?_) (λhx8 hx8d=>?_)
     ·
      refine Ae 2 ?_
      refine No (.int .i64 (Int.tmod r.flight 4)) (.int .i64 (tm4 r.flight)) ?_ rfl
      refine Ae 3 ?_
      refine Gu 61 (tm4 r.flight=0) (λhx9 hx9d=>?_) (λhx9 hx9d=>?_)
      ·
       refine Ae 2 ?_
       refine Ds (Xo r.waits 3600000 (by omega)) ?_
       refine Ae 2 ?_
       refine vS 66 (bP (Nr r.waits 3600000)) (λhx10=>?_) (λhx10=>?_)
       ·
        refine Ae 2 ?_
        refine Ds (Xo r.rises 1048576 (by omega)) ?_
        refine Ae 5 ?_
        exact Ha (.bool (bP (Nr r.rises 1048576))) (congrArg AV.bool (Aax ⟨λg=>⟨⟨by omega,by omega,by omega,by omega,by omega⟩,λq hq=>hFi q (by omega),My hx10,g⟩,λg=>g.2.2.2⟩))
       ·
        refine Ae 8 ?_
        exact Ha (.bool false) (congrArg AV.bool (Be (by rintro⟨⟨g5,g6,g7,g8,g9⟩,g2,g3,g4⟩;first|omega|exact aH hx10 g3|(have:=(g2 i (by omega)).2 j (by omega);omega))).symm)
      ·
       refine Ae 13 ?_
       exact Ha (.bool false) (congrArg AV.bool (Be (by rintro⟨⟨g5,g6,g7,g8,g9⟩,g2,g3,g4⟩;first|omega|(have:=(g2 i (by omega)).2 j (by omega);omega))).symm)
     ·
      refine Ae 19 ?_
      exact Ha (.bool false) (congrArg AV.bool (Be (by rintro⟨⟨g5,g6,g7,g8,g9⟩,g2,g3,g4⟩;first|omega|(have:=(g2 i (by omega)).2 j (by omega);omega))).symm)
    ·
     refine Ae 24 ?_
     exact Ha (.bool false) (congrArg AV.bool (Be (by rintro⟨⟨g5,g6,g7,g8,g9⟩,g2,g3,g4⟩;first|omega|(have:=(g2 i (by omega)).2 j (by omega);omega))).symm)
   ·
    refine Ae 29 ?_
    exact Ha (.bool false) (congrArg AV.bool (Be (by rintro⟨⟨g5,g6,g7,g8,g9⟩,g2,g3,g4⟩;first|omega|(have:=(g2 i (by omega)).2 j (by omega);omega))).symm)
  ·
   refine Ae 35 ?_
   exact Ha (.bool false) (congrArg AV.bool (Be (by rintro⟨⟨g5,g6,g7,g8,g9⟩,g2,g3,g4⟩;first|omega|(have:=(g2 i (by omega)).2 j (by omega);omega))).symm)
abbrev sM (v:V3):Value:= .agg #[.int .i64 v.x,.int .i64 v.y,.int .i64 v.z]
def dO (p:Pr) (r:Rv) (c:Cs) (w:Int):AV:=
 if Nx p c (Ky p r c w)<p.acts.length then .lit (.tuple #[.int .i64 (Bo p c+w),.int .i64 (Bo p c+w+r.flight),.int .i64 (Nx p c (Ky p r c w):Int),.int .i64 (Cj p.acts (Nx p c (Ky p r c w)+1)),sM (sH p c (Nx p c (Ky p r c w)))])
 else .lit (.tuple #[.int .i64 (Bo p c+w),.int .i64 (Bo p c+w+r.flight),.int .i64 (-1),.int .i64 (Cj p.acts p.acts.length),.agg #[.int .i64 0,.int .i64 0,.int .i64 0]])
theorem Ab1 {p:Pr} {r:Rv} {c:Cs} {w:Int} {i:Nat} (hi:i<p.acts.length) (h1:c.act.toNat+1<=i) (h3:∀q,c.act.toNat+1<=q->q<i->Cj p.acts (q+1)<Ky p r c w) (h4:Ky p r c w<=Cj p.acts (i+1)):dO p r c w= .lit (.tuple #[.int .i64 (Bo p c+w),.int .i64 (Bo p c+w+r.flight),.int .i64 (i:Int),.int .i64 (Cj p.acts (i+1)),sM (sH p c i)]):=by
 have e:=vP (p:=p) (c:=c) h1 (by omega) h3 (.inr h4)
 rw[dO,e,if_pos hi]
theorem Adi {p:Pr} {r:Rv} {c:Cs} {w:Int} (h1:c.act.toNat+1<=p.acts.length) (h3:∀q,c.act.toNat+1<=q->q<p.acts.length->Cj p.acts (q+1)<Ky p r c w):dO p r c w= .lit (.tuple #[.int .i64 (Bo p c+w),.int .i64 (Bo p c+w+r.flight),.int .i64 (-1),.int .i64 (Cj p.acts p.acts.length),.agg #[.int .i64 0,.int .i64 0,.int .i64 0]]):=by
 have e:=vP (p:=p) (c:=c) h1 (Nat.le_refl _) h3 (.inl rfl)
 rw[dO,e,if_neg (Nat.lt_irrefl _)]
theorem Nz (p:Pr) (r:Rv) (c:Cs) (w:Int) (hp:Nq p) (hc:Ig p c) (hcs:Tq c) (hr:Pj r) (hw:0<=w/\w<=3600000):AF Tryz.prog 39 [Gw p,Ie r,Kf c,.int w] (dO p r c w):=by
 have ho:=Kx hc.1
 have hv1:=hc.2.1
 have hv2:=hc.2.2.1
 have hv3:=hc.2.2.2.1
 have hv4:=hc.2.2.2.2
 have hac:=ho.acts
 have hfl:=hr.1
 have he:=ho.ends (c.act.toNat+1) (by omega)
 have hce:Bo p c=Cj p.acts (c.act.toNat+1):=rfl
 have har:Ky p r c w=Bo p c+w+r.flight:=rfl
 refine Cx func39 rfl λB D0 hA0=>?_
 refine Ae 17 ?_
 refine Ds (pW p c hp hcs hc) ?_
 refine Ae 10 ?_
 refine Fw (Bo p c+w) (Bo p c+w) ?_
 refine Ae 8 ?_
 refine Fw (Bo p c+w+r.flight) (Bo p c+w+r.flight) ?_
 refine Ae 8 ?_
 refine Fw (Bo p c+w-w) (Cj p.acts (c.act.toNat+1)) ?_
 refine Ae 11 ?_
 refine Fw (c.act+1) ((c.act.toNat+1:Nat):Int) ?_
 refine Ae 4 ?_
 refine Qf [4,6,8,9,10,11,12,13] (p.acts.length-(c.act.toNat+1)) (λk=>∀q,c.act.toNat+1<=q->q<c.act.toNat+1+k->Cj p.acts (q+1)<Ky p r c w) (λk=>⟨[(4,.ptr 0 0),(6,.ptr 2 0),(8,.int (Bo p c+w)),(9,.int (Bo p c+w+r.flight)),(10,.int (-1)),(11,.int (Cj p.acts (c.act.toNat+1+k))),(12,.ptr 3 0),(13,.int ((c.act.toNat+1+k:Nat):Int))],[(0,.box 31 [Hk p.names,Kc p.homes,Io p.acts]),(1,.box 25 [Ql r.homes,.int r.flight,Dq r.waits,Dq r.rises]),(2,.box 33 [.int c.craft,.int c.act]),(3,.box 36 [.int 0,.int 0,.int 0])],4,68⟩) (λq h1 h2=>absurd h2 (by omega)) (λk hkn hFk J1 hJ1=>?_)
 refine Ae 10 ?_
 refine Gu 37 (((c.act.toNat+1+k:Nat):Int)<(p.acts.length:Int)) (λhx1 hx1d=>?_) (λhx1 hx1d=>?_)
 ·
  refine Ae 5 ?_
  have he2:=ho.ends (c.act.toNat+1+k) (by omega)
  have hl:=getD_in hp.lens (c.act.toNat+1+k)
  have hmv:=ho.mv (c.act.toNat+1+k) (by omega)
  refine Ae 6 ?_
  refine Gt (c.act.toNat+1+k) p.acts.length ?_
  refine Ae 2 ?_
  refine No (.int .i64 (IntKind.wrap .i64 (Cj p.acts (c.act.toNat+1+k)+(p.acts.getD (c.act.toNat+1+k) Ac.none).len))) (.int .i64 (Cj p.acts (c.act.toNat+1+(k+1)))) ?_ (congrArg (Value.int .i64) ((IntWalk.i64_in _ (by have he3:=ho.ends ((c.act.toNat+1+k)+1) (by omega);rw[Cj] at he3;omega)).trans rfl))
  refine Ae 10 ?_
  refine Gu 50 (Bo p c+w+r.flight<=Cj p.acts (c.act.toNat+1+(k+1))) (λhx2 hx2d=>?_) (λhx2 hx2d=>?_)
  ·
   refine Ae 2 ?_
   refine Kg [(4,Fu (Io p.acts) (c.act.toNat+1+k),.none),(9,Fu (Aek ((p.acts.getD (c.act.toNat+1+k) Ac.none).moves)) (c.craft).toNat,.none)] [8,9,10,11,12] ⟨Pa (c.act.toNat+1+k) p.acts.length,AeV c.craft (c.craft).toNat ((p.acts.getD (c.act.toNat+1+k) Ac.none).moves.length),trivial⟩ ?_
   refine Ae 8 ?_
   refine Kg [] [8,9,10,11,12] trivial ?_
   refine Ae 3 ?_
   exact Ha (.lit (.tuple #[.int .i64 (Bo p c+w),.int .i64 (Bo p c+w+r.flight),.int .i64 ((c.act.toNat+1+k:Nat):Int),.int .i64 (Cj p.acts (c.act.toNat+1+(k+1))),.agg #[.int .i64 (((p.acts.getD (c.act.toNat+1+k) Ac.none).moves.getD ((c.craft).toNat) Mv.none).to.x),.int .i64 (((p.acts.getD (c.act.toNat+1+k) Ac.none).moves.getD ((c.craft).toNat) Mv.none).to.y),.int .i64 (((p.acts.getD (c.act.toNat+1+k) Ac.none).moves.getD ((c.craft).toNat) Mv.none).to.z)]])) (Ab1 (i:=c.act.toNat+1+k) (by omega) (by omega) hFk (by first|omega|(show _<=Cj p.acts (c.act.toNat+1+(k+1));omega))).symm
  ·
   refine Ae 6 ?_
   refine Fw (((c.act.toNat+1+k:Nat):Int)+1) ((c.act.toNat+1+k+1:Nat):Int) ?_
   refine Ae 2 ?_
   exact Qm [4,6,8,9,10,11,12,13] (hJ1 (by omega) (λq h1 h2=>(Nat.lt_or_ge q (c.act.toNat+1+k)).elim (λg=>hFk q h1 g) λg=>by have e:q=c.act.toNat+1+k:=(by omega);subst e;first|omega|(show Cj p.acts (c.act.toNat+1+(k+1))<_;omega)))
 ·
  refine Ae 7 ?_
  refine Kg [] [8,9,10,11,12] trivial ?_
  refine Ae 3 ?_
  exact Ha (.lit (.tuple #[.int .i64 (Bo p c+w),.int .i64 (Bo p c+w+r.flight),.int .i64 (-1),.int .i64 (Cj p.acts (c.act.toNat+1+k)),.agg #[.int .i64 0,.int .i64 0,.int .i64 0]])) ((Adi (by omega) (λq h1 h2=>hFk q h1 (by omega))).trans (congrArg (λq=>AV.lit (.tuple #[.int .i64 (Bo p c+w),.int .i64 (Bo p c+w+r.flight),.int .i64 (-1),.int .i64 (Cj p.acts q),.agg #[.int .i64 0,.int .i64 0,.int .i64 0]])) (show p.acts.length=c.act.toNat+1+k by omega))).symm
abbrev Tt (r:Rv):AV:= .elt 4 λxi=>[Ql r.homes,.int r.flight,Dq r.waits,Dq r.rises].getD (0+xi) .top
abbrev Wv (v:V3):AV:= .elt 3 λxi=>[AV.int v.x,.int v.y,.int v.z].getD (0+xi) .top
abbrev iN (r:Rv) (v:V3):AV:= .elt 1 λxi=>[AV.fn 40 [Tt r,Wv v]].getD (0+xi) .top
def Jz (a b:Int):Int:=if a<b then -1 else if b<a then 1 else 0
def orI (a b:Int):Int:=if a=0 then b else a
theorem AbA {d:Int} (h: -2097152<=d/\d<=2097152):0<=d*d/\d*d<=4398046511104:=by
 rcases Int.le_total 0 d with g|g
 have h1:=Int.mul_nonneg g g
 have h2:=Int.mul_le_mul h.2 h.2 g (by decide)
 omega
 have e:d*d= -d* -d:=(Int.neg_mul_neg d d).symm
 have h1:=Int.mul_nonneg (Int.neg_nonneg.2 g) (Int.neg_nonneg.2 g)
 have h2:=Int.mul_le_mul (show -d<=2097152 by omega) (show -d<=2097152 by omega) (Int.neg_nonneg.2 g) (by decide)
 omega
theorem Yz (r:Rv) (v:V3) (a b:Nat):decide (orI (Jz (Sw r v a) (Sw r v b)) (Jz (a:Int) (b:Int))<0)=cY r v a b:=by
 unfold orI Jz cY
 generalize Sw r v a=x
 generalize Sw r v b=y
 by_cases h1:x<y
 simp[h1]
 by_cases h2:y<x
 simp[h1,h2]
 intro h;omega
 have e:x=y:=by omega
 by_cases h3:a<b
 simp[e,h3]
 by_cases h4:b<a
 simp[e,h3,h4]
 simp[e,h3,h4]
theorem lI (a:Int):AF Tryz.prog 78 [.int a] (.bool false):=by
 refine Cx func78 rfl λB D0 hA0=>?_
 refine Ae 14 ?_
 exact Ha (.bool (!decide (a=a))) (congrArg AV.bool (by simp))
theorem Zn (a b:Int):AF Tryz.prog 44 [.int a,.int b] (.int (Jz a b)):=by
 refine Cx func44 rfl λB D0 hA0=>?_
 refine Ae 8 ?_
 refine Ds (lI a) ?_
 refine Ae 6 ?_
 refine Ds (lI b) ?_
 refine Ae 29 ?_
 refine Gu 16 (a<b) (λhx1 hx1d=>?_) (λhx1 hx1d=>?_)
 ·
  refine Ae 8 ?_
  exact Ha (.int (-1)) (congrArg AV.int (by unfold Jz;(repeat' split)<;>omega))
 ·
  refine Ae 11 ?_
  refine Gu 19 (b<a) (λhx2 hx2d=>?_) (λhx2 hx2d=>?_)
  ·
   refine Ae 8 ?_
   exact Ha (.int 1) (congrArg AV.int (by unfold Jz;(repeat' split)<;>omega))
  ·
   refine Ae 9 ?_
   exact Ha (.int 0) (congrArg AV.int (by unfold Jz;(repeat' split)<;>omega))
theorem AeG (a b:Int):AF Tryz.prog 43 [.sl 1 2 λxi=>[AV.int a,.int b].getD xi .top] (.int (orI a b)):=by
 refine Cx func43 rfl λB D0 hA0=>?_
 refine Ae 19 ?_
 refine zT 2 ?_
 refine Ae 13 ?_
 refine Gt 0 2 ?_
 refine Ae 11 ?_
 refine Ae5 14 (a=0) (λhx1 hx1d=>?_) (λhx1 hx1d=>?_)
 ·
  refine Ae 5 ?_
  refine No (.int .i64 1) (.int .i64 1) ?_
  refine Ae 16 ?_
  refine Gt 1 2 ?_
  refine Ae 11 ?_
  refine Ae5 14 (b=0) (λhx2 hx2d=>?_) (λhx2 hx2d=>?_)
  ·
   refine Ae 5 ?_
   refine No (.int .i64 2) (.int .i64 2) ?_
   refine Ae 22 ?_
   exact Ha (.int 0) (congrArg AV.int (by unfold orI;split<;>omega))
  ·
   refine Ae 13 ?_
   exact Ha (.int b) (congrArg AV.int (by unfold orI;split<;>omega))
 ·
  refine Ae 13 ?_
  exact Ha (.int a) (congrArg AV.int (by unfold orI;split<;>omega))
theorem zX (r:Rv) (v:V3) (i:Nat) (hr:Pj r) (hi:i<r.homes.length) (hv:Dy 1048576 [v.x,v.y,v.z]=true):AF Tryz.prog 40 [.int (i:Int),Tt r,Wv v] (.int (Sw r v i)):=by
 have hb:=in3 (hr.2.1 i hi).1
 have hw:=in3 hv
 have hn:=hr.1
 refine Cx func40 rfl λB D0 hA0=>?_
 refine Ae 6 ?_
 refine Kg [(3,Fu (Ql r.homes) i,.none),(8,.int ((r.homes.getD i V3.zero).x-v.x),.none),(12,Fu (Ql r.homes) i,.none),(17,.int ((r.homes.getD i V3.zero).y-v.y),.none),(21,Fu (Ql r.homes) i,.none),(26,.int ((r.homes.getD i V3.zero).z-v.z),.none)] [5] ⟨Pa i r.homes.length,Av (Cq (v:= .int .i64 (IntKind.wrap .i64 ((r.homes.getD i V3.zero).x-v.x))) (v':= .int .i64 ((r.homes.getD i V3.zero).x-v.x)) _ (by kernel_rfl) rfl (by kernel_rfl) (λw=>by kernel_rfl) (congrArg (Value.int .i64) ((IntWalk.i64_in _ (by omega)).trans (by omega)))),Pa i r.homes.length,Av (Cq (v:= .int .i64 (IntKind.wrap .i64 ((r.homes.getD i V3.zero).y-v.y))) (v':= .int .i64 ((r.homes.getD i V3.zero).y-v.y)) _ (by kernel_rfl) rfl (by kernel_rfl) (λw=>by kernel_rfl) (congrArg (Value.int .i64) ((IntWalk.i64_in _ (by omega)).trans (by omega)))),Pa i r.homes.length,Av (Cq (v:= .int .i64 (IntKind.wrap .i64 ((r.homes.getD i V3.zero).z-v.z))) (v':= .int .i64 ((r.homes.getD i V3.zero).z-v.z)) _ (by kernel_rfl) rfl (by kernel_rfl) (λw=>by kernel_rfl) (congrArg (Value.int .i64) ((IntWalk.i64_in _ (by omega)).trans (by omega)))),trivial⟩ ?_
 refine Ae 1 ?_
 have hqx:=AbA (d:=(r.homes.getD i V3.zero).x-v.x) (by omega)
 have hqy:=AbA (d:=(r.homes.getD i V3.zero).y-v.y) (by omega)
 have hqz:=AbA (d:=(r.homes.getD i V3.zero).z-v.z) (by omega)
 refine Ae 6 ?_
 refine Fw (((r.homes.getD i V3.zero).x-v.x)*((r.homes.getD i V3.zero).x-v.x)) (((r.homes.getD i V3.zero).x-v.x)*((r.homes.getD i V3.zero).x-v.x)) ?_
 refine Ae 4 ?_
 refine Fw (((r.homes.getD i V3.zero).y-v.y)*((r.homes.getD i V3.zero).y-v.y)) (((r.homes.getD i V3.zero).y-v.y)*((r.homes.getD i V3.zero).y-v.y)) ?_
 refine Fw (((r.homes.getD i V3.zero).x-v.x)*((r.homes.getD i V3.zero).x-v.x)+((r.homes.getD i V3.zero).y-v.y)*((r.homes.getD i V3.zero).y-v.y)) (((r.homes.getD i V3.zero).x-v.x)*((r.homes.getD i V3.zero).x-v.x)+((r.homes.getD i V3.zero).y-v.y)*((r.homes.getD i V3.zero).y-v.y)) ?_
 refine Ae 4 ?_
 refine Fw (((r.homes.getD i V3.zero).z-v.z)*((r.homes.getD i V3.zero).z-v.z)) (((r.homes.getD i V3.zero).z-v.z)*((r.homes.getD i V3.zero).z-v.z)) ?_
 refine Fw (((r.homes.getD i V3.zero).x-v.x)*((r.homes.getD i V3.zero).x-v.x)+((r.homes.getD i V3.zero).y-v.y)*((r.homes.getD i V3.zero).y-v.y)+((r.homes.getD i V3.zero).z-v.z)*((r.homes.getD i V3.zero).z-v.z)) (((r.homes.getD i V3.zero).x-v.x)*((r.homes.getD i V3.zero).x-v.x)+((r.homes.getD i V3.zero).y-v.y)*((r.homes.getD i V3.zero).y-v.y)+((r.homes.getD i V3.zero).z-v.z)*((r.homes.getD i V3.zero).z-v.z)) ?_
 refine Ae 4 ?_
 exact Hq
theorem sV (r:Rv) (v:V3) (a b:Nat) (hr:Pj r) (ha:a<r.homes.length) (hb:b<r.homes.length) (hv:Dy 1048576 [v.x,v.y,v.z]=true):AF Tryz.prog 42 [.int (a:Int),.int (b:Int),iN r v] (.int (orI (Jz (Sw r v a) (Sw r v b)) (Jz (a:Int) (b:Int)))):=by
 refine Cx func42 rfl λB D0 hA0=>?_
 refine Ae 6 ?_
 refine Kg [(2,_,.none),(5,_,.none),(6,_,.none),(9,_,.none),(10,.osl 0 1 2,(.new 0 (.vec 3 1 2 (λxi=>[.int (Jz (Sw r v a) (Sw r v b)),.int (Jz (a:Int) (b:Int))].getD xi .top)))),(11,.int (orI (Jz (Sw r v a) (Sw r v b)) (Jz (a:Int) (b:Int))),(.read 0))] [5] ⟨Ac2 (zX r v a hr ha hv),Ac2 (zX r v b hr hb hv),Hj (Zn (Sw r v a) (Sw r v b)),Hj (Zn (a:Int) (b:Int)),Av (Ak 23 2 #[(0,(.tmp 12)),(1,(.tmp 15))] (by kernel_rfl) underlying23 1 sizeOf3 _ zeroValue3 (by kernel_rfl) (Nat.le_of_ble_eq_true (by kernel_rfl)) (Nat.le_of_ble_eq_true (by kernel_rfl)) (Nat.le_of_ble_eq_true (by kernel_rfl)) 0 [.int (Jz (Sw r v a) (Sw r v b)),.int (Jz (a:Int) (b:Int))] (by kernel_rfl) (λxi=>[.int (Jz (Sw r v a) (Sw r v b)),.int (Jz (a:Int) (b:Int))].getD xi .top) (by kernel_rfl)),Av (fI 43 #[.tmp 16] #[23] (by kernel_rfl) (λ_ _=>by kernel_rfl) 0 (.vec 3 1 2 (λxi=>[.int (Jz (Sw r v a) (Sw r v b)),.int (Jz (a:Int) (b:Int))].getD xi .top)) (by kernel_rfl) (λ_ _ _ _ h=>by cases h;exact(λi hi j hj=>by obtain rfl:j=0:=(by omega);exact match i,hi with|0,_=>rfl|1,_=>rfl|i+2,h=>absurd h (by omega))) [.osl 0 1 2] (by kernel_rfl) [.sl 1 2 (λxi=>[.int (Jz (Sw r v a) (Sw r v b)),.int (Jz (a:Int) (b:Int))].getD xi .top)] (by kernel_rfl) (.int .i64 (orI (Jz (Sw r v a) (Sw r v b)) (Jz (a:Int) (b:Int)))) (AeG (Jz (Sw r v a) (Sw r v b)) (Jz (a:Int) (b:Int)))),trivial⟩ ?_
 refine Ae 2 ?_
 exact Hq
theorem Jh (v:V3) (z:Int) (hv:Dy 1048576 [v.x,v.y,v.z]=true) (hz:0<=z/\z<=1048576):AF Tryz.prog 45 [Gv v,.int z] (.bool (Ka v z)):=by
 have hb:=in3 hv
 refine Cx func45 rfl λB D0 hA0=>?_
 refine Ae 11 ?_
 refine Fw (v.z+z) (v.z+z) ?_
 refine Ae 7 ?_
 refine Ds (Um ⟨v.x,v.y,v.z+z⟩) ?_
 refine Ae 4 ?_
 exact Hq
theorem eY {lt:Nat->Nat->Bool} {l:List Nat} {j:Nat} (h0:0<j) (h:lt (l.getD j 0) (l.getD (j-1) 0)=true):Vf lt l j=Vf lt (Ot l (j-1)) (j-1):=by
 obtain⟨j',rfl⟩:∃j',j=j'+1:=⟨j-1,by omega⟩
 rw[Vf]
 simp only[Nat.add_sub_cancel] at h ⊢
 rw[if_pos h]
theorem eZ {lt:Nat->Nat->Bool} {l:List Nat} {j:Nat} (h0:0<j) (h:lt (l.getD j 0) (l.getD (j-1) 0)=false):Vf lt l j=l:=by
 obtain⟨j',rfl⟩:∃j',j=j'+1:=⟨j-1,by omega⟩
 rw[Vf]
 simp only[Nat.add_sub_cancel] at h ⊢
 rw[if_neg (by rw[h];exact Bool.false_ne_true)]
theorem fA {lt:Nat->Nat->Bool} {l:List Nat} {j:Nat} (h0:¬0<j):Vf lt l j=l:=by
 obtain rfl:j=0:=by omega
 rfl
theorem vK (L:List Nat) (j x:Nat) (h0:0<j) (h:j<L.length):(if x=j-1 then AV.int ((L.getD j 0:Nat):Int) else if x=j then AV.int ((L.getD (j-1) 0:Nat):Int) else AV.int ((L.getD x 0:Nat):Int))=AV.int (((Ot L (j-1)).getD x 0:Nat):Int):=by
 rw[cF _ _ _ (by omega),show j-1+1=j by omega]
 by_cases e1:x=j-1
 rw[if_pos e1,if_pos e1]
 rw[if_neg e1,if_neg e1]
 by_cases e2:x=j
 rw[if_pos e2,if_pos e2]
 rw[if_neg e2,if_neg e2]
theorem fV {L:List Nat} {j n:Nat} (h:j+1<L.length) (hm:∀x,x<L.length->L.getD x 0<n):∀x,x<L.length->(Ot L j).getD x 0<n:=λx hx=>by
 rw[cF _ _ _ h]
 split
 exact hm _ h
 split
 exact hm _ (by omega)
 exact hm x hx
theorem uZ {p:Pr} {r:Rv} {c:Cs} {k:Nat} (hc:Ig p c) (h:kD p r c k=true):Dy 1048576 [(Bj p r c k).x,(Bj p r c k).y,(Bj p r c k).z]=true:=by
 have:=(Kx hc.1).to (j:=Nx p c (Ky p r c (r.waits.getD k 0))) (i:=c.craft.toNat) (of_decide_eq_true h) (by have:=hc.2.1;have:=hc.2.2.1;omega)
 exact this
theorem Ta {p:Pr} {r:Rv} {c:Cs} {k:Nat} (hp:Nq p) (hc:Ig p c) (hcs:Tq c) (hr:Pj r) (hk:k<r.waits.length) (h:kD p r c k=true):AF Tryz.prog 39 [Gw p,Ie r,Kf c,.int (r.waits.getD k 0)] (.lit (.tuple #[.int .i64 (Bo p c+r.waits.getD k 0),.int .i64 (Bo p c+r.waits.getD k 0+r.flight),.int .i64 (Nx p c (Ky p r c (r.waits.getD k 0)):Int),.int .i64 (Cj p.acts (Nx p c (Ky p r c (r.waits.getD k 0))+1)),sM (Bj p r c k)])):=by
 have hw:=hr.2.2.1.2.2 k hk
 have:=Nz p r c (r.waits.getD k 0) hp hc hcs hr ⟨hw.1,hw.2.1⟩
 unfold dO at this
 rwa [if_pos (of_decide_eq_true h)] at this
theorem Uo {p:Pr} {r:Rv} {c:Cs} {k:Nat} (hp:Nq p) (hc:Ig p c) (hcs:Tq c) (hr:Pj r) (hk:k<r.waits.length) (h:kD p r c k=false):AF Tryz.prog 39 [Gw p,Ie r,Kf c,.int (r.waits.getD k 0)] (.lit (.tuple #[.int .i64 (Bo p c+r.waits.getD k 0),.int .i64 (Bo p c+r.waits.getD k 0+r.flight),.int .i64 (-1),.int .i64 (Cj p.acts p.acts.length),.agg #[.int .i64 0,.int .i64 0,.int .i64 0]])):=by
 have hw:=hr.2.2.1.2.2 k hk
 have:=Nz p r c (r.waits.getD k 0) hp hc hcs hr ⟨hw.1,hw.2.1⟩
 unfold dO at this
 rwa [if_neg (of_decide_eq_false h)] at this
theorem Sp {l r:List Rl} (i:Nat):(l++r).getD i Rl.none=if i<l.length then l.getD i Rl.none else r.getD (i-l.length) Rl.none:=by
 simp only[List.getD_eq_getElem?_getD,List.getElem?_append]
 split<;>rfl
def vC (l:List Rl):AV:=if l.length=0 then .lit (.tuple #[.slice none 0 0,.int .i64 0]) else .tup [Abz l,.int 0]
def Td (p:Pr) (r:Rv) (c:Cs):Prop:=Ig p c/\Pj r
theorem Aad (n:Nat) (h:n<=1000000):AF Tryz.prog 77 [.lit (.int .u64 (n:Int))] (.int (Lib.bitLen n:Int)):=Ix (vs:=[_]) λw=>by
 have:=Tryz.bits_Len (n:Int) w (by omega) (by omega)
 refine this.mono ?_
 rintro e w' ⟨rfl,rfl⟩
 exact⟨by simp,Below.refl _ _⟩
theorem gR (p:Pr) (r:Rv) (c:Cs) (hp:Nq p) (hr:dF r) (hcs:Tq c):AF Tryz.prog 37 [Gw p,Ie r,Kf c] (.bool (bP (Td p r c))):=by
 refine Cx func37 rfl λB D0 hA0=>?_
 refine Ae 12 ?_
 refine Ds (Up p c hp hcs) ?_
 refine Ae 1 ?_
 refine vS 10 (bP (Ig p c)) (λhx1=>?_) (λhx1=>?_)
 ·
  refine Ae 1 ?_
  refine Ds (Sz r hr) ?_
  refine Ae 5 ?_
  exact Ha (.bool (bP (Pj r))) (congrArg AV.bool (Aax ⟨λg=>⟨My hx1,g⟩,λg=>g.2⟩))
 ·
  refine Ae 7 ?_
  exact Ha (.bool false) (congrArg AV.bool (Be λg=>aH hx1 g.1).symm)
theorem fU (r:Rv) (v:V3) {i:Nat} (h:i<r.homes.length):∀x,x<r.homes.length->(Lr (cY r v) (List.range r.homes.length) i).getD x 0<r.homes.length:=λx hx=>by
 have:=cD (cY r v) (n:=r.homes.length) (List.range r.homes.length) (λx hx=>by
  rw[List.length_range] at hx
  rw[Wa hx];exact hx) i (by rw[List.length_range];exact h) x (by rw[List.length_range];exact hx)
 exact this
theorem lL (p:Pr) (r:Rv) (c:Cs) (hp:Nq p) (hr:dF r) (hcs:Tq c) (hg:Td p r c):AF Tryz.prog 18 [Gw p,Ie r,Kf c] (vC (Ok p r c)):=by
 have hi1:=hr.n
 have hn1:=hg.2.1.1
 have hn2:=hg.2.1.2.1
 have hw1:=hg.2.2.2.1.1
 have hw2:=hg.2.2.2.1.2.1
 have hs1:=hg.2.2.2.2.1
 have hs2:=hg.2.2.2.2.2.1
 refine Cx func18 rfl λB D0 hA0=>?_
 refine Ae 15 ?_
 refine Ds (gR p r c hp hr hcs) ?_
 refine Ae 3 ?_
 refine Lh 27 (!bP (Td p r c)) false (by rw[(Eo hg)];rfl) ?_
 refine Ae 3 ?_
 refine sN 0 ?_
 refine sN 1 ?_
 refine sN 2 ?_
 refine Ae 15 ?_
 refine kU [3,4,5,8,29,30,31] (λm s=>∃k n,k<=r.waits.length/\m=r.waits.length-k/\(n=(Jb p r c k).length/\n<=k*128)/\(((n=0)/\s=⟨[(3,.elt 3 (λxi=>[Hk p.names,Kc p.homes,Io p.acts].getD (0+xi) .top)),(4,Tt r),(5,.elt 2 (λxi=>[.int c.craft,.int c.act].getD (0+xi) .top)),(8,.lit (.slice none 0 0)),(29,Dq r.waits),(30,.int (r.waits.length:Int)),(31,.int (k:Int))],[],3,99⟩)\/((0<n)/\s=⟨[(3,.elt 3 (λxi=>[Hk p.names,Kc p.homes,Io p.acts].getD (0+xi) .top)),(4,Tt r),(5,.elt 2 (λxi=>[.int c.craft,.int c.act].getD (0+xi) .top)),(8,.osl 50 3 n),(29,Dq r.waits),(30,.int (r.waits.length:Int)),(31,.int (k:Int))],[(50,.vec 52 3 n (λxi=>Cr ((Jb p r c k).getD xi Rl.none)))],51,99⟩))) r.waits.length ⟨0,0,Nat.zero_le _,rfl,⟨rfl,Nat.zero_le _⟩,(.inl ⟨rfl,(by kernel_rfl)⟩)⟩ ?_
 rintro _ _ ⟨k,n,hkn,rfl,hFk,(⟨hk0,rfl⟩|⟨hk0,rfl⟩)⟩ J1 hJ1
 ·
  refine Ae 6 ?_
  refine Gu 32 ((k:Int)<(r.waits.length:Int)) (λhx1 hx1d=>?_) (λhx1 hx1d=>?_)
  ·
   refine Ae 7 ?_
   refine Gt k r.waits.length ?_
   refine Ae 10 ?_
   refine Ey (kD p r c k) (λhx2=>?_) (λhx2=>?_)
   ·
    refine Ds (Ta hp hg.1 hcs hg.2 (by omega) hx2) ?_
    refine Ae 19 ?_
    refine Lh 47 (decide ((((Nx p c (Ky p r c (r.waits.getD k 0))):Nat):Int)<0)) false (decide_eq_false (by omega)) ?_
    refine Ae 5 ?_
    have hV:=uZ hg.1 hx2
    refine sN 3 ?_
    refine Ae 7 ?_
    refine sN 4 ?_
    refine Ae 15 ?_
    refine kU [3,4,5,8,10,15,16,17,29,30,31,51,52] (λm s=>∃a,a<=r.homes.length/\m=r.homes.length-a/\True/\((a=0/\s=⟨[(3,.elt 3 (λxi=>[Hk p.names,Kc p.homes,Io p.acts].getD (0+xi) .top)),(4,Tt r),(5,.elt 2 (λxi=>[.int c.craft,.int c.act].getD (0+xi) .top)),(8,.lit (.slice none 0 0)),(10,.int ((r.waits).getD k 0)),(15,Wv (Bj p r c k)),(16,iN r (Bj p r c k)),(17,.lit (.slice none 0 0)),(29,Dq r.waits),(30,.int (r.waits.length:Int)),(31,.int (k:Int)),(51,.int (r.homes.length:Int)),(52,.int ((0:Nat):Int))],[],5,99⟩)\/(0<a/\s=⟨[(3,.elt 3 (λxi=>[Hk p.names,Kc p.homes,Io p.acts].getD (0+xi) .top)),(4,Tt r),(5,.elt 2 (λxi=>[.int c.craft,.int c.act].getD (0+xi) .top)),(8,.lit (.slice none 0 0)),(10,.int ((r.waits).getD k 0)),(15,Wv (Bj p r c k)),(16,iN r (Bj p r c k)),(17,.osl 60 1 a),(29,Dq r.waits),(30,.int (r.waits.length:Int)),(31,.int (k:Int)),(51,.int (r.homes.length:Int)),(52,.int (a:Int))],[(60,.vec 3 1 a (λxi=>AV.int (xi:Int)))],61,99⟩))) r.homes.length ⟨0,Nat.zero_le _,rfl,trivial,.inl ⟨rfl,(by kernel_rfl)⟩⟩ ?_
    rintro _ _ ⟨a,han,rfl,hFa,(⟨ha0,rfl⟩|⟨ha0,rfl⟩)⟩ J2 hJ2
    ·
     subst ha0
     refine Ae 6 ?_
     refine Gu 53 (((0:Nat):Int)<(r.homes.length:Int)) (λhx3 hx3d=>?_) (λhx3 hx3d=>?_)
     ·
      refine Ae 14 ?_
      refine Ci (.osl 5 1 1) (.new 5 (.vec 3 1 1 (λ_=> .int ((0:Nat):Int)))) (Ak 23 1 #[(0,(.tmp 56))] (by kernel_rfl) underlying23 1 sizeOf3 _ zeroValue3 (by kernel_rfl) (Nat.le_of_ble_eq_true (by kernel_rfl)) (Nat.le_of_ble_eq_true (by kernel_rfl)) (Nat.le_of_ble_eq_true (by kernel_rfl)) 5 [.int ((0:Nat):Int)] (by kernel_rfl) (λ_=> .int ((0:Nat):Int)) (by kernel_rfl)) ?_
      refine Ci (.osl 6 1 1) (.newr 5 6 (.vec 3 1 1 (λxi=>AV.int (xi:Int)))) (Cp (.tmp 55) (.tmp 57) 23 (by kernel_rfl) underlying23 1 8 (.int .i64 0) (by kernel_rfl) (by kernel_rfl) (by decide) 1 (by omega) (λ_=> .int ((0:Nat):Int)) (λxi=>AV.int (xi:Int)) 6 (λi hi=>by(obtain rfl:i=0:=(by omega));rfl) (λi hi j hj=>by obtain rfl:j=0:=(by omega);rfl) (by unfold maxLen;omega) (by omega) (by kernel_rfl) 5 3 (by kernel_rfl) (by kernel_rfl)) ?_
      refine Ae 5 ?_
      refine Fw (((0:Nat):Int)+1) ((0+1:Nat):Int) ?_
      refine Ae 2 ?_
      exact Hl [3,4,5,8,10,15,16,17,29,30,31,51,52] [(6,60)] 61 0 hA0 [(3,1,1,(λ_=> .int ((0:Nat):Int))),(3,1,1,(λxi=>AV.int (xi:Int)))] ⟨(Hf λ_ _=>rfl),(Hf λ_ _=>rfl),trivial⟩ (hJ2 _ _ (by omega:r.homes.length-(0+1)<r.homes.length-0) ⟨0+1,(by omega),rfl,trivial,.inr ⟨Nat.succ_pos _,rfl⟩⟩)
     ·
      refine Ae 6 ?_
      exfalso;omega
    ·
     refine Ae 6 ?_
     refine Gu 53 ((a:Int)<(r.homes.length:Int)) (λhx4 hx4d=>?_) (λhx4 hx4d=>?_)
     ·
      refine Ae 14 ?_
      refine Ci (.osl 61 1 1) (.new 61 (.vec 3 1 1 (λ_=> .int (a:Int)))) (Ak 23 1 #[(0,(.tmp 56))] (by kernel_rfl) underlying23 1 sizeOf3 _ zeroValue3 (by kernel_rfl) (Nat.le_of_ble_eq_true (by kernel_rfl)) (Nat.le_of_ble_eq_true (by kernel_rfl)) (Nat.le_of_ble_eq_true (by kernel_rfl)) 61 [.int (a:Int)] (by kernel_rfl) (λ_=> .int (a:Int)) (by kernel_rfl)) ?_
      refine Ci (.osl 62 1 (a+1)) (.grow2 60 61 62 (.vec 3 1 (a+1) (λxi=>AV.int (xi:Int)))) (Cz (.tmp 55) (.tmp 57) 23 (by kernel_rfl) underlying23 1 8 (.int .i64 0) (by kernel_rfl) (by kernel_rfl) (by decide) a 1 (by omega) (λxi=>AV.int (xi:Int)) (λ_=> .int (a:Int)) (λxi=>AV.int (xi:Int)) 62 (by omega) (by unfold maxLen;omega) (λi hi=>rfl) (λi hi=>by(obtain rfl:i=0:=(by omega));rfl) (λi hi j hj=>by obtain rfl:j=0:=(by omega);rfl) 60 (by kernel_rfl) (by kernel_rfl) 61 3 (by kernel_rfl) (by kernel_rfl)) ?_
      refine Ae 5 ?_
      refine Fw ((a:Int)+1) ((a+1:Nat):Int) ?_
      refine Ae 2 ?_
      exact Hl [3,4,5,8,10,15,16,17,29,30,31,51,52] [(62,60)] 61 0 hA0 [(3,1,1,(λ_=> .int (a:Int))),(3,1,a+1,(λxi=>AV.int (xi:Int)))] ⟨(Hf λ_ _=>rfl),(Hf λ_ _=>rfl),trivial⟩ (hJ2 _ _ (by omega:r.homes.length-(a+1)<r.homes.length-a) ⟨a+1,(by omega),rfl,trivial,.inr ⟨Nat.succ_pos _,rfl⟩⟩)
     ·
      refine Ae 6 ?_
      have hae:a=r.homes.length:=by omega
      subst hae
      refine Ae 4 ?_
      refine cS 61 func41 (λ_ hD5=>?_)
      refine Ae 11 ?_
      refine No (.int .u64 (IntKind.wrap .u64 (r.homes.length:Int))) (.int .u64 (r.homes.length:Int)) ?_ (congrArg (Value.int .u64) (IntWalk.u64_in _ (by omega)))
      refine Ds (Aad _ (by omega)) ?_
      refine Ae 1 ?_
      refine cS 61 func76 (λ_ hD6=>?_)
      refine Ae 11 ?_
      refine zT 1 ?_
      refine Ae 5 ?_
      refine Fw ((r.homes.length:Int)-0) ((r.homes.length-0:Nat):Int) ?_
      refine Ae 8 ?_
      refine Lh 25 (decide (((r.homes.length-0:Nat):Int)<=12)) true (decide_eq_true (by omega)) ?_
      refine Ae 9 ?_
      refine cS 61 func104 (λ_ hD7=>?_)
      refine Ae 3 ?_
      refine No (.int .i64 1) (.int .i64 1) ?_
      refine Ae 4 ?_
      refine Xl 60 3 1 r.homes.length (λxi=>AV.int (xi:Int)) (λxi=>AV.int (((Lr (cY r (Bj p r c k)) (List.range r.homes.length) 0).getD xi 0:Nat):Int)) (λx9 hx9=>by show AV.int _=AV.int _;rw[Lr,Wa hx9]) ?_
      refine Qf [0,1,2,3,8] (r.homes.length-1) (λi=>True) (λi=>⟨[(0,.osl 60 1 r.homes.length),(1,.int 0),(2,.int (r.homes.length:Int)),(3,.fn 42 [iN r (Bj p r c k)]),(8,.int ((i+1:Nat):Int))],[(60,.vec 3 1 r.homes.length (λxi=>AV.int (((Lr (cY r (Bj p r c k)) (List.range r.homes.length) i).getD xi 0:Nat):Int)))],61,53⟩) trivial (λi hin hFi J3 hJ3=>?_)
      refine Ae 8 ?_
      refine Gu 14 (((i+1:Nat):Int)<(r.homes.length:Int)) (λhx8 hx8d=>?_) (λhx8 hx8d=>?_)
      ·
       refine Ae 12 ?_
       refine kU [0,1,2,3,8,9] (λm s=>∃j L,m=j+1/\(Vf (cY r (Bj p r c k)) L j=Lr (cY r (Bj p r c k)) (List.range r.homes.length) (i+1)/\j<=i+1/\L.length=r.homes.length/\(∀x,x<r.homes.length->L.getD x 0<r.homes.length))/\s=⟨[(0,.osl 60 1 r.homes.length),(1,.int 0),(2,.int (r.homes.length:Int)),(3,.fn 42 [iN r (Bj p r c k)]),(8,.int ((i+1:Nat):Int)),(9,.int (j:Int))],[(60,.vec 3 1 r.homes.length (λxi=>AV.int (((L).getD xi 0:Nat):Int)))],61,53⟩) ((i+1)+1) ⟨i+1,(Lr (cY r (Bj p r c k)) (List.range r.homes.length) i),rfl,⟨rfl,Nat.le_refl _,by rw[Oo,List.length_range],fU r (Bj p r c k) (by omega)⟩,(by kernel_rfl)⟩ ?_
       rintro _ _ ⟨j,L,rfl,hF,rfl⟩ J4 hJ4
       obtain⟨hF1,hF2,hF3,hF4⟩:=hF
       refine Ae 2 ?_
       refine zL ((0:Int)<(j:Int)) (λhx9 hx9d=>?_) (λhx9 hx9d=>?_)
       ·
        refine Kg [(2,.bool true,.none),(7,Fu (.osl 60 1 r.homes.length) j,.none),(8,.int (((L).getD j 0:Nat):Int),(.read 60)),(11,.int ((j-1:Nat):Int),.none),(12,Fu (.osl 60 1 r.homes.length) (j-1),.none),(13,.int (((L).getD (j-1) 0:Nat):Int),(.read 60)),(14,_,.none)] [0,1,2,3,8,9,34] ⟨kT hx9,Pa j r.homes.length,Av (Dc 3 (.tmp 25) (by kernel_rfl) isAgg3 60 j 0 1 (by kernel_rfl) 3 r.homes.length (λxi=>AV.int (((L).getD xi 0:Nat):Int)) (by kernel_rfl) (by omega) (by decide)),Av (Cq (v:= .int .i64 (IntKind.wrap .i64 ((j:Int)-1))) (v':= .int .i64 ((j-1:Nat):Int)) _ (by kernel_rfl) rfl (by kernel_rfl) (λw=>by kernel_rfl) (congrArg (Value.int .i64) ((IntWalk.i64_in _ (by omega)).trans (by omega)))),Pa (j-1) r.homes.length,Av (Dc 3 (.tmp 30) (by kernel_rfl) isAgg3 60 (j-1) 0 1 (by kernel_rfl) 3 r.homes.length (λxi=>AV.int (((L).getD xi 0:Nat):Int)) (by kernel_rfl) (by omega) (by decide)),Ac2 (sV r (Bj p r c k) (L.getD j 0) (L.getD (j-1) 0) hg.2 (hF4 j (by omega)) (hF4 (j-1) (by omega)) hV),trivial⟩ ?_
        refine Ae 1 ?_
        refine Gu 34 (orI (Jz (Sw r (Bj p r c k) (L.getD j 0)) (Sw r (Bj p r c k) (L.getD (j-1) 0))) (Jz ((L.getD j 0:Nat):Int) ((L.getD (j-1) 0:Nat):Int))<0) (λhx10 hx10d=>?_) (λhx10 hx10d=>?_)
        ·
         refine Ae 5 ?_
         refine Kg [(4,.int ((j-1:Nat):Int),.none),(7,.int ((j-1:Nat):Int),.none),(8,Fu (.osl 60 1 r.homes.length) (j-1),.none),(9,.int (((L).getD (j-1) 0:Nat):Int),(.read 60)),(12,Fu (.osl 60 1 r.homes.length) j,.none),(13,.int (((L).getD j 0:Nat):Int),(.read 60)),(14,Fu (.osl 60 1 r.homes.length) j,.none),(15,.lit Go.undef,(.set 60 (.vec 3 1 r.homes.length (λxi=>if xi=j then .int (((L).getD (j-1) 0:Nat):Int) else (λxi=>AV.int (((L).getD xi 0:Nat):Int)) xi)))),(16,Fu (.osl 60 1 r.homes.length) (j-1),.none),(17,.lit Go.undef,(.set 60 (.vec 3 1 r.homes.length (λxi=>if xi=j-1 then .int (((L).getD j 0:Nat):Int) else (λxi=>if xi=j then .int (((L).getD (j-1) 0:Nat):Int) else (λxi=>AV.int (((L).getD xi 0:Nat):Int)) xi) xi))))] [0,1,2,3,8,9] ⟨Av (Cq (v:= .int .i64 (IntKind.wrap .i64 ((j:Int)-1))) (v':= .int .i64 ((j-1:Nat):Int)) _ (by kernel_rfl) rfl (by kernel_rfl) (λw=>by kernel_rfl) (congrArg (Value.int .i64) ((IntWalk.i64_in _ (by omega)).trans (by omega)))),Av (Cq (v:= .int .i64 (IntKind.wrap .i64 ((j:Int)-1))) (v':= .int .i64 ((j-1:Nat):Int)) _ (by kernel_rfl) rfl (by kernel_rfl) (λw=>by kernel_rfl) (congrArg (Value.int .i64) ((IntWalk.i64_in _ (by omega)).trans (by omega)))),Pa (j-1) r.homes.length,Av (Dc 3 (.tmp 45) (by kernel_rfl) isAgg3 60 (j-1) 0 1 (by kernel_rfl) 3 r.homes.length (λxi=>AV.int (((L).getD xi 0:Nat):Int)) (by kernel_rfl) (by omega) (by decide)),Pa j r.homes.length,Av (Dc 3 (.tmp 49) (by kernel_rfl) isAgg3 60 j 0 1 (by kernel_rfl) 3 r.homes.length (λxi=>AV.int (((L).getD xi 0:Nat):Int)) (by kernel_rfl) (by omega) (by decide)),Pa j r.homes.length,Av (Fm 3 (.tmp 51) (.tmp 46) (by kernel_rfl) 1 sizeOf3 60 j (by kernel_rfl) 3 r.homes.length (λxi=>AV.int (((L).getD xi 0:Nat):Int)) (by kernel_rfl) (by omega) (by kernel_rfl) (by kernel_rfl) (by kernel_rfl) (.int (((L).getD (j-1) 0:Nat):Int)) (by kernel_rfl)),Pa (j-1) r.homes.length,Av (Fm 3 (.tmp 52) (.tmp 50) (by kernel_rfl) 1 sizeOf3 60 (j-1) (by kernel_rfl) 3 r.homes.length (λxi=>if xi=j then .int (((L).getD (j-1) 0:Nat):Int) else (λxi=>AV.int (((L).getD xi 0:Nat):Int)) xi) (by kernel_rfl) (by omega) (by kernel_rfl) (by kernel_rfl) (by kernel_rfl) (.int (((L).getD j 0:Nat):Int)) (by kernel_rfl)),trivial⟩ ?_
         refine Ae 2 ?_
         refine Xl 60 3 1 r.homes.length (λxi=>if xi=j-1 then .int (((L).getD j 0:Nat):Int) else (λxi=>if xi=j then .int (((L).getD (j-1) 0:Nat):Int) else (λxi=>AV.int (((L).getD xi 0:Nat):Int)) xi) xi) (λxi=>AV.int (((Ot L (j-1)).getD xi 0:Nat):Int)) (λx9 hx9=>vK L j x9 (by omega) (by omega)) ?_
         refine Ae 2 ?_
         refine Fw ((j:Int)-1) ((j-1:Nat):Int) ?_
         refine Ae 2 ?_
         exact Qm [0,1,2,3,8,9] (hJ4 _ _ (by omega:(j-1)+1<j+1) ⟨j-1,Ot L (j-1),rfl,⟨(eY (by omega) ((Yz r (Bj p r c k) (L.getD j 0) (L.getD (j-1) 0)).symm.trans hx10)).symm.trans hF1,by omega,by rw[Ma];exact hF3,by rw[<-hF3];exact fV (by omega) (by rw[hF3];exact hF4)⟩,rfl⟩)
        ·
         refine Ae 7 ?_
         have hL:L=Lr (cY r (Bj p r c k)) (List.range r.homes.length) (i+1):=(eZ (by omega) ((Yz r (Bj p r c k) (L.getD j 0) (L.getD (j-1) 0)).symm.trans hx10)).symm.trans hF1
         subst hL
         refine Ae 2 ?_
         refine Fw (((i+1:Nat):Int)+1) ((i+1+1:Nat):Int) ?_
         refine Ae 2 ?_
         exact Qm [0,1,2,3,8] (hJ3 (by omega) trivial)
       ·
        refine Kg [(2,.bool false,.none)] [0,1,2,3,8,9,34] ⟨kT hx9,trivial⟩ ?_
        refine Ae 8 ?_
        have hL:L=Lr (cY r (Bj p r c k)) (List.range r.homes.length) (i+1):=(fA (by omega)).symm.trans hF1
        subst hL
        refine Ae 2 ?_
        refine Fw (((i+1:Nat):Int)+1) ((i+1+1:Nat):Int) ?_
        refine Ae 2 ?_
        exact Qm [0,1,2,3,8] (hJ3 (by omega) trivial)
      ·
       refine Ae 5 ?_
       refine zK (Ae 7 ?_)
       refine zK (Ae 1 ?_)
       refine zK (Ae 2 ?_)
       have hie:i=r.homes.length-1:=by omega
       subst hie
       refine Xl 60 3 1 r.homes.length (λxi=>AV.int (((Lr (cY r (Bj p r c k)) (List.range r.homes.length) (r.homes.length-1)).getD xi 0:Nat):Int)) (λxi=>AV.int (((Eb r (Bj p r c k)).getD xi 0:Nat):Int)) (λx9 hx9=>rfl) ?_
       refine cR 60 [17] 3 1 r.homes.length (λxi=>AV.int (((Eb r (Bj p r c k)).getD xi 0:Nat):Int)) (Hf λ_ _=>rfl) ?_
       refine Ae 8 ?_
       refine kU [3,4,5,8,10,15,29,30,31,63,64,65] (λm s=>∃y n2,y<=r.homes.length/\m=r.homes.length-y/\(n2=(Oj p r c k y).length/\n2<=k*128+y*16)/\(((n2=0)/\s=⟨[(3,.elt 3 (λxi=>[Hk p.names,Kc p.homes,Io p.acts].getD (0+xi) .top)),(4,Tt r),(5,.elt 2 (λxi=>[.int c.craft,.int c.act].getD (0+xi) .top)),(8,.lit (.slice none 0 0)),(10,.int ((r.waits).getD k 0)),(15,Wv (Bj p r c k)),(29,Dq r.waits),(30,.int (r.waits.length:Int)),(31,.int (k:Int)),(63,.sl 1 r.homes.length (λxi=>AV.int (((Eb r (Bj p r c k)).getD xi 0:Nat):Int))),(64,.int (r.homes.length:Int)),(65,.int (y:Int))],[],61,99⟩)\/((0<n2)/\s=⟨[(3,.elt 3 (λxi=>[Hk p.names,Kc p.homes,Io p.acts].getD (0+xi) .top)),(4,Tt r),(5,.elt 2 (λxi=>[.int c.craft,.int c.act].getD (0+xi) .top)),(8,.osl 50 3 n2),(10,.int ((r.waits).getD k 0)),(15,Wv (Bj p r c k)),(29,Dq r.waits),(30,.int (r.waits.length:Int)),(31,.int (k:Int)),(63,.sl 1 r.homes.length (λxi=>AV.int (((Eb r (Bj p r c k)).getD xi 0:Nat):Int))),(64,.int (r.homes.length:Int)),(65,.int (y:Int))],[(50,.vec 52 3 n2 (λxi=>Cr ((Oj p r c k y).getD xi Rl.none)))],61,99⟩))) r.homes.length ⟨0,n,Nat.zero_le _,rfl,⟨by rw[rT];omega,by omega⟩,(.inl ⟨hk0,(by kernel_rfl)⟩)⟩ ?_
       rintro _ _ ⟨y,n2,hyn,rfl,hFy,(⟨hy0,rfl⟩|⟨hy0,rfl⟩)⟩ J5 hJ5
       ·
        refine Ae 6 ?_
        refine Gu 66 ((y:Int)<(r.homes.length:Int)) (λhx11 hx11d=>?_) (λhx11 hx11d=>?_)
        ·
         refine Ae 7 ?_
         refine Gt y r.homes.length ?_
         refine Ae 4 ?_
         have hom:=Vt r (Bj p r c k) (x:=y) (by omega)
         refine Ae 9 ?_
         refine kU [3,4,5,8,10,15,20,29,30,31,63,64,65,70,71,72] (λm s=>∃u n3,u<=r.rises.length/\m=r.rises.length-u/\(n3=(Ev p r c k y u).length/\n3<=k*128+y*16+u)/\(((n3=0)/\s=⟨[(3,.elt 3 (λxi=>[Hk p.names,Kc p.homes,Io p.acts].getD (0+xi) .top)),(4,Tt r),(5,.elt 2 (λxi=>[.int c.craft,.int c.act].getD (0+xi) .top)),(8,.lit (.slice none 0 0)),(10,.int ((r.waits).getD k 0)),(15,Wv (Bj p r c k)),(20,.int (((Eb r (Bj p r c k)).getD y 0:Nat):Int)),(29,Dq r.waits),(30,.int (r.waits.length:Int)),(31,.int (k:Int)),(63,.sl 1 r.homes.length (λxi=>AV.int (((Eb r (Bj p r c k)).getD xi 0:Nat):Int))),(64,.int (r.homes.length:Int)),(65,.int (y:Int)),(70,Dq r.rises),(71,.int (r.rises.length:Int)),(72,.int (u:Int))],[],61,99⟩)\/((0<n3)/\s=⟨[(3,.elt 3 (λxi=>[Hk p.names,Kc p.homes,Io p.acts].getD (0+xi) .top)),(4,Tt r),(5,.elt 2 (λxi=>[.int c.craft,.int c.act].getD (0+xi) .top)),(8,.osl 50 3 n3),(10,.int ((r.waits).getD k 0)),(15,Wv (Bj p r c k)),(20,.int (((Eb r (Bj p r c k)).getD y 0:Nat):Int)),(29,Dq r.waits),(30,.int (r.waits.length:Int)),(31,.int (k:Int)),(63,.sl 1 r.homes.length (λxi=>AV.int (((Eb r (Bj p r c k)).getD xi 0:Nat):Int))),(64,.int (r.homes.length:Int)),(65,.int (y:Int)),(70,Dq r.rises),(71,.int (r.rises.length:Int)),(72,.int (u:Int))],[(50,.vec 52 3 n3 (λxi=>Cr ((Ev p r c k y u).getD xi Rl.none)))],61,99⟩))) r.rises.length ⟨0,n2,Nat.zero_le _,rfl,⟨by rw[bV];omega,by omega⟩,(.inl ⟨hy0,(by kernel_rfl)⟩)⟩ ?_
         rintro _ _ ⟨u,n3,hun,rfl,hFu,(⟨hu0,rfl⟩|⟨hu0,rfl⟩)⟩ J6 hJ6
         ·
          refine Ae 6 ?_
          refine Gu 73 ((u:Int)<(r.rises.length:Int)) (λhx12 hx12d=>?_) (λhx12 hx12d=>?_)
          ·
           refine Ae 5 ?_
           have hris:=hg.2.2.2.2.2.2 u (by omega)
           refine Ae 2 ?_
           refine Gt u r.rises.length ?_
           refine Ae 9 ?_
           refine Gt ((Eb r (Bj p r c k)).getD y 0) r.homes.length ?_
           refine Ae 2 ?_
           refine Ds (Jh (r.homes.getD ((Eb r (Bj p r c k)).getD y 0) V3.zero) (r.rises.getD u 0) (hg.2.2.1 _ hom).1 ⟨hris.1,hris.2.1⟩) ?_
           refine Ae 1 ?_
           refine vS 83 (Ka (r.homes.getD ((Eb r (Bj p r c k)).getD y 0) V3.zero) (r.rises.getD u 0)) (λhx13=>?_) (λhx13=>?_)
           ·
            refine Ae 2 ?_
            refine Ds (Jh (Bj p r c k) (r.rises.getD u 0) hV ⟨hris.1,hris.2.1⟩) ?_
            refine Ae 3 ?_
            refine vS 87 (Ka (Bj p r c k) (r.rises.getD u 0)) (λhx14=>?_) (λhx14=>?_)
            ·
             refine Ae 7 ?_
             refine Ci (.osl 61 3 1) (.new 61 (.vec 52 3 1 (λ_=> .lit (.agg #[.int .i64 (((Eb r (Bj p r c k)).getD y 0:Nat):Int),.int .i64 ((r.waits).getD k 0),.int .i64 ((r.rises).getD u 0)])))) (Ak 45 1 #[(0,(.tmp 92))] (by kernel_rfl) underlying45 3 sizeOf52 _ zeroValue52 (by kernel_rfl) (Nat.le_of_ble_eq_true (by kernel_rfl)) (Nat.le_of_ble_eq_true (by kernel_rfl)) (Nat.le_of_ble_eq_true (by kernel_rfl)) 61 [.int (((Eb r (Bj p r c k)).getD y 0:Nat):Int),.int ((r.waits).getD k 0),.int ((r.rises).getD u 0)] (by kernel_rfl) (λ_=> .lit (.agg #[.int .i64 (((Eb r (Bj p r c k)).getD y 0:Nat):Int),.int .i64 ((r.waits).getD k 0),.int .i64 ((r.rises).getD u 0)])) (by kernel_rfl)) ?_
             refine Ci (.osl 62 3 1) (.newr 61 62 (.vec 52 3 1 (λxi=>Cr ((Ev p r c k y (u+1)).getD xi Rl.none)))) (Cp (.tmp 88) (.tmp 93) 45 (by kernel_rfl) underlying45 3 24 (.agg #[.int .i64 0,.int .i64 0,.int .i64 0]) (by kernel_rfl) (by kernel_rfl) (by decide) 1 (by omega) (λ_=> .lit (.agg #[.int .i64 (((Eb r (Bj p r c k)).getD y 0:Nat):Int),.int .i64 ((r.waits).getD k 0),.int .i64 ((r.rises).getD u 0)])) (λxi=>Cr ((Ev p r c k y (u+1)).getD xi Rl.none)) 62 (λi hi=>by(obtain rfl:i=0:=(by omega));show Cr _=Cr ⟨(((Eb r (Bj p r c k)).getD y 0:Nat):Int),r.waits.getD k 0,r.rises.getD u 0⟩;rw[Hy hx13 hx14,List.eq_nil_of_length_eq_zero (by omega:(Ev p r c k y u).length=0)];rfl) (λi hi j hj=>match j,hj with|0,_=>rfl|1,_=>rfl|2,_=>rfl|_+3,h=>absurd h (by omega)) (by unfold maxLen;omega) (by omega) (by kernel_rfl) 61 52 (by kernel_rfl) (by kernel_rfl)) ?_
             refine Ae 5 ?_
             refine Fw ((u:Int)+1) ((u+1:Nat):Int) ?_
             refine Ae 2 ?_
             exact Hl [3,4,5,8,10,15,20,29,30,31,63,64,65,70,71,72] [(62,50)] 61 0 hA0 [(52,3,1,(λ_=> .lit (.agg #[.int .i64 (((Eb r (Bj p r c k)).getD y 0:Nat):Int),.int .i64 ((r.waits).getD k 0),.int .i64 ((r.rises).getD u 0)]))),(52,3,1,(λxi=>Cr ((Ev p r c k y (u+1)).getD xi Rl.none)))] ⟨(Hf λ_ _=>rfl),(Hf λ_ _=>rfl),trivial⟩ (hJ6 _ _ (by omega:r.rises.length-(u+1)<r.rises.length-u) ⟨u+1,1,(by omega),rfl,⟨by rw[Hy hx13 hx14,List.length_append,List.length_singleton];omega,by omega⟩,(.inr ⟨by omega,rfl⟩)⟩)
            ·
             refine Ae 5 ?_
             refine Fw ((u:Int)+1) ((u+1:Nat):Int) ?_
             refine Ae 2 ?_
             exact Qm [3,4,5,8,10,15,20,29,30,31,63,64,65,70,71,72] (hJ6 _ _ (by omega:r.rises.length-(u+1)<r.rises.length-u) ⟨u+1,0,(by omega),rfl,⟨by rw[Ex (.inr hx14)];omega,by omega⟩,(.inl ⟨by omega,rfl⟩)⟩)
           ·
            refine Ae 11 ?_
            refine Fw ((u:Int)+1) ((u+1:Nat):Int) ?_
            refine Ae 2 ?_
            exact Qm [3,4,5,8,10,15,20,29,30,31,63,64,65,70,71,72] (hJ6 _ _ (by omega:r.rises.length-(u+1)<r.rises.length-u) ⟨u+1,0,(by omega),rfl,⟨by rw[Ex (.inl hx13)];omega,by omega⟩,(.inl ⟨by omega,rfl⟩)⟩)
          ·
           refine Ae 8 ?_
           refine Fw ((y:Int)+1) ((y+1:Nat):Int) ?_
           refine Ae 2 ?_
           exact Qm [3,4,5,8,10,15,29,30,31,63,64,65] (hJ5 _ _ (by omega:r.homes.length-(y+1)<r.homes.length-y) ⟨y+1,0,(by omega),rfl,⟨by rw[<-Ue,show r.rises.length=u by omega];omega,by omega⟩,(.inl ⟨by omega,rfl⟩)⟩)
         ·
          refine Ae 6 ?_
          refine Gu 73 ((u:Int)<(r.rises.length:Int)) (λhx15 hx15d=>?_) (λhx15 hx15d=>?_)
          ·
           refine Ae 5 ?_
           have hris:=hg.2.2.2.2.2.2 u (by omega)
           refine Ae 2 ?_
           refine Gt u r.rises.length ?_
           refine Ae 9 ?_
           refine Gt ((Eb r (Bj p r c k)).getD y 0) r.homes.length ?_
           refine Ae 2 ?_
           refine Ds (Jh (r.homes.getD ((Eb r (Bj p r c k)).getD y 0) V3.zero) (r.rises.getD u 0) (hg.2.2.1 _ hom).1 ⟨hris.1,hris.2.1⟩) ?_
           refine Ae 1 ?_
           refine vS 83 (Ka (r.homes.getD ((Eb r (Bj p r c k)).getD y 0) V3.zero) (r.rises.getD u 0)) (λhx16=>?_) (λhx16=>?_)
           ·
            refine Ae 2 ?_
            refine Ds (Jh (Bj p r c k) (r.rises.getD u 0) hV ⟨hris.1,hris.2.1⟩) ?_
            refine Ae 3 ?_
            refine vS 87 (Ka (Bj p r c k) (r.rises.getD u 0)) (λhx17=>?_) (λhx17=>?_)
            ·
             refine Ae 7 ?_
             refine Ci (.osl 61 3 1) (.new 61 (.vec 52 3 1 (λ_=> .lit (.agg #[.int .i64 (((Eb r (Bj p r c k)).getD y 0:Nat):Int),.int .i64 ((r.waits).getD k 0),.int .i64 ((r.rises).getD u 0)])))) (Ak 45 1 #[(0,(.tmp 92))] (by kernel_rfl) underlying45 3 sizeOf52 _ zeroValue52 (by kernel_rfl) (Nat.le_of_ble_eq_true (by kernel_rfl)) (Nat.le_of_ble_eq_true (by kernel_rfl)) (Nat.le_of_ble_eq_true (by kernel_rfl)) 61 [.int (((Eb r (Bj p r c k)).getD y 0:Nat):Int),.int ((r.waits).getD k 0),.int ((r.rises).getD u 0)] (by kernel_rfl) (λ_=> .lit (.agg #[.int .i64 (((Eb r (Bj p r c k)).getD y 0:Nat):Int),.int .i64 ((r.waits).getD k 0),.int .i64 ((r.rises).getD u 0)])) (by kernel_rfl)) ?_
             refine Ci (.osl 62 3 (n3+1)) (.grow2 50 61 62 (.vec 52 3 (n3+1) (λxi=>Cr ((Ev p r c k y (u+1)).getD xi Rl.none)))) (Cz (.tmp 88) (.tmp 93) 45 (by kernel_rfl) underlying45 3 24 (.agg #[.int .i64 0,.int .i64 0,.int .i64 0]) (by kernel_rfl) (by kernel_rfl) (by decide) n3 1 (by omega) (λxi=>Cr ((Ev p r c k y u).getD xi Rl.none)) (λ_=> .lit (.agg #[.int .i64 (((Eb r (Bj p r c k)).getD y 0:Nat):Int),.int .i64 ((r.waits).getD k 0),.int .i64 ((r.rises).getD u 0)])) (λxi=>Cr ((Ev p r c k y (u+1)).getD xi Rl.none)) 62 (by omega) (by unfold maxLen;omega) (λi hi=>by show Cr _=Cr _;rw[Hy hx16 hx17,Sp,if_pos (by omega)]) (λi hi=>by(obtain rfl:i=0:=(by omega));show Cr _=Cr ⟨(((Eb r (Bj p r c k)).getD y 0:Nat):Int),r.waits.getD k 0,r.rises.getD u 0⟩;rw[Hy hx16 hx17,Sp,if_neg (by omega),show n3+0-(Ev p r c k y u).length=0 by omega];rfl) (λi hi j hj=>match j,hj with|0,_=>rfl|1,_=>rfl|2,_=>rfl|_+3,h=>absurd h (by omega)) 50 (by kernel_rfl) (by kernel_rfl) 61 52 (by kernel_rfl) (by kernel_rfl)) ?_
             refine Ae 5 ?_
             refine Fw ((u:Int)+1) ((u+1:Nat):Int) ?_
             refine Ae 2 ?_
             exact Hl [3,4,5,8,10,15,20,29,30,31,63,64,65,70,71,72] [(62,50)] 61 0 hA0 [(52,3,1,(λ_=> .lit (.agg #[.int .i64 (((Eb r (Bj p r c k)).getD y 0:Nat):Int),.int .i64 ((r.waits).getD k 0),.int .i64 ((r.rises).getD u 0)]))),(52,3,n3+1,(λxi=>Cr ((Ev p r c k y (u+1)).getD xi Rl.none)))] ⟨(Hf λ_ _=>rfl),(Hf λ_ _=>rfl),trivial⟩ (hJ6 _ _ (by omega:r.rises.length-(u+1)<r.rises.length-u) ⟨u+1,n3+1,(by omega),rfl,⟨by rw[Hy hx16 hx17,List.length_append,List.length_singleton];omega,by omega⟩,(.inr ⟨by omega,rfl⟩)⟩)
            ·
             refine Ae 5 ?_
             refine Fw ((u:Int)+1) ((u+1:Nat):Int) ?_
             refine Ae 2 ?_
             refine Xl 50 52 3 n3 (λxi=>Cr ((Ev p r c k y u).getD xi Rl.none)) (λxi=>Cr ((Ev p r c k y (u+1)).getD xi Rl.none)) (λx9 hx9=>by rw[Ex (.inr hx17)]) ?_
             exact Qm [3,4,5,8,10,15,20,29,30,31,63,64,65,70,71,72] (hJ6 _ _ (by omega:r.rises.length-(u+1)<r.rises.length-u) ⟨u+1,n3,(by omega),rfl,⟨by rw[Ex (.inr hx17)];omega,by omega⟩,(.inr ⟨by omega,rfl⟩)⟩)
           ·
            refine Ae 11 ?_
            refine Fw ((u:Int)+1) ((u+1:Nat):Int) ?_
            refine Ae 2 ?_
            refine Xl 50 52 3 n3 (λxi=>Cr ((Ev p r c k y u).getD xi Rl.none)) (λxi=>Cr ((Ev p r c k y (u+1)).getD xi Rl.none)) (λx9 hx9=>by rw[Ex (.inl hx16)]) ?_
            exact Qm [3,4,5,8,10,15,20,29,30,31,63,64,65,70,71,72] (hJ6 _ _ (by omega:r.rises.length-(u+1)<r.rises.length-u) ⟨u+1,n3,(by omega),rfl,⟨by rw[Ex (.inl hx16)];omega,by omega⟩,(.inr ⟨by omega,rfl⟩)⟩)
          ·
           refine Ae 7 ?_
           refine Xl 50 52 3 n3 (λxi=>Cr ((Ev p r c k y u).getD xi Rl.none)) (λxi=>Cr ((Oj p r c k (y+1)).getD xi Rl.none)) (λx9 hx9=>by rw[<-Ue,show r.rises.length=u by omega]) ?_
           refine Ae 1 ?_
           refine Fw ((y:Int)+1) ((y+1:Nat):Int) ?_
           refine Ae 2 ?_
           exact Qm [3,4,5,8,10,15,29,30,31,63,64,65] (hJ5 _ _ (by omega:r.homes.length-(y+1)<r.homes.length-y) ⟨y+1,n3,(by omega),rfl,⟨by rw[<-Ue,show r.rises.length=u by omega];omega,by omega⟩,(.inr ⟨by omega,rfl⟩)⟩)
        ·
         refine Ae 8 ?_
         refine Fw ((k:Int)+1) ((k+1:Nat):Int) ?_
         refine Ae 2 ?_
         exact Hl [3,4,5,8,29,30,31] [] 3 0 hA0 [] trivial (hJ1 _ _ (by omega:r.waits.length-(k+1)<r.waits.length-k) ⟨k+1,0,(by omega),rfl,⟨by rw[<-bW hx2,show r.homes.length=y by omega];omega,by omega⟩,(.inl ⟨by omega,rfl⟩)⟩)
       ·
        refine Ae 6 ?_
        refine Gu 66 ((y:Int)<(r.homes.length:Int)) (λhx18 hx18d=>?_) (λhx18 hx18d=>?_)
        ·
         refine Ae 7 ?_
         refine Gt y r.homes.length ?_
         refine Ae 4 ?_
         have hom:=Vt r (Bj p r c k) (x:=y) (by omega)
         refine Xl 50 52 3 n2 (λxi=>Cr ((Oj p r c k y).getD xi Rl.none)) (λxi=>Cr ((Ev p r c k y 0).getD xi Rl.none)) (λx9 hx9=>by rw[bV]) ?_
         refine Ae 9 ?_
         refine kU [3,4,5,8,10,15,20,29,30,31,63,64,65,70,71,72] (λm s=>∃u n3,u<=r.rises.length/\m=r.rises.length-u/\(n3=(Ev p r c k y u).length/\n3<=k*128+y*16+u)/\((0<n3)/\s=⟨[(3,.elt 3 (λxi=>[Hk p.names,Kc p.homes,Io p.acts].getD (0+xi) .top)),(4,Tt r),(5,.elt 2 (λxi=>[.int c.craft,.int c.act].getD (0+xi) .top)),(8,.osl 50 3 n3),(10,.int ((r.waits).getD k 0)),(15,Wv (Bj p r c k)),(20,.int (((Eb r (Bj p r c k)).getD y 0:Nat):Int)),(29,Dq r.waits),(30,.int (r.waits.length:Int)),(31,.int (k:Int)),(63,.sl 1 r.homes.length (λxi=>AV.int (((Eb r (Bj p r c k)).getD xi 0:Nat):Int))),(64,.int (r.homes.length:Int)),(65,.int (y:Int)),(70,Dq r.rises),(71,.int (r.rises.length:Int)),(72,.int (u:Int))],[(50,.vec 52 3 n3 (λxi=>Cr ((Ev p r c k y u).getD xi Rl.none)))],61,99⟩)) r.rises.length ⟨0,n2,Nat.zero_le _,rfl,⟨by rw[bV];omega,by omega⟩,⟨hy0,(by kernel_rfl)⟩⟩ ?_
         rintro _ _ ⟨u,n3,hun,rfl,hFu,(⟨hu0,rfl⟩)⟩ J7 hJ7
         ·
          refine Ae 6 ?_
          refine Gu 73 ((u:Int)<(r.rises.length:Int)) (λhx19 hx19d=>?_) (λhx19 hx19d=>?_)
          ·
           refine Ae 5 ?_
           have hris:=hg.2.2.2.2.2.2 u (by omega)
           refine Ae 2 ?_
           refine Gt u r.rises.length ?_
           refine Ae 9 ?_
           refine Gt ((Eb r (Bj p r c k)).getD y 0) r.homes.length ?_
           refine Ae 2 ?_
           refine Ds (Jh (r.homes.getD ((Eb r (Bj p r c k)).getD y 0) V3.zero) (r.rises.getD u 0) (hg.2.2.1 _ hom).1 ⟨hris.1,hris.2.1⟩) ?_
           refine Ae 1 ?_
           refine vS 83 (Ka (r.homes.getD ((Eb r (Bj p r c k)).getD y 0) V3.zero) (r.rises.getD u 0)) (λhx20=>?_) (λhx20=>?_)
           ·
            refine Ae 2 ?_
            refine Ds (Jh (Bj p r c k) (r.rises.getD u 0) hV ⟨hris.1,hris.2.1⟩) ?_
            refine Ae 3 ?_
            refine vS 87 (Ka (Bj p r c k) (r.rises.getD u 0)) (λhx21=>?_) (λhx21=>?_)
            ·
             refine Ae 7 ?_
             refine Ci (.osl 61 3 1) (.new 61 (.vec 52 3 1 (λ_=> .lit (.agg #[.int .i64 (((Eb r (Bj p r c k)).getD y 0:Nat):Int),.int .i64 ((r.waits).getD k 0),.int .i64 ((r.rises).getD u 0)])))) (Ak 45 1 #[(0,(.tmp 92))] (by kernel_rfl) underlying45 3 sizeOf52 _ zeroValue52 (by kernel_rfl) (Nat.le_of_ble_eq_true (by kernel_rfl)) (Nat.le_of_ble_eq_true (by kernel_rfl)) (Nat.le_of_ble_eq_true (by kernel_rfl)) 61 [.int (((Eb r (Bj p r c k)).getD y 0:Nat):Int),.int ((r.waits).getD k 0),.int ((r.rises).getD u 0)] (by kernel_rfl) (λ_=> .lit (.agg #[.int .i64 (((Eb r (Bj p r c k)).getD y 0:Nat):Int),.int .i64 ((r.waits).getD k 0),.int .i64 ((r.rises).getD u 0)])) (by kernel_rfl)) ?_
             refine Ci (.osl 62 3 (n3+1)) (.grow2 50 61 62 (.vec 52 3 (n3+1) (λxi=>Cr ((Ev p r c k y (u+1)).getD xi Rl.none)))) (Cz (.tmp 88) (.tmp 93) 45 (by kernel_rfl) underlying45 3 24 (.agg #[.int .i64 0,.int .i64 0,.int .i64 0]) (by kernel_rfl) (by kernel_rfl) (by decide) n3 1 (by omega) (λxi=>Cr ((Ev p r c k y u).getD xi Rl.none)) (λ_=> .lit (.agg #[.int .i64 (((Eb r (Bj p r c k)).getD y 0:Nat):Int),.int .i64 ((r.waits).getD k 0),.int .i64 ((r.rises).getD u 0)])) (λxi=>Cr ((Ev p r c k y (u+1)).getD xi Rl.none)) 62 (by omega) (by unfold maxLen;omega) (λi hi=>by show Cr _=Cr _;rw[Hy hx20 hx21,Sp,if_pos (by omega)]) (λi hi=>by(obtain rfl:i=0:=(by omega));show Cr _=Cr ⟨(((Eb r (Bj p r c k)).getD y 0:Nat):Int),r.waits.getD k 0,r.rises.getD u 0⟩;rw[Hy hx20 hx21,Sp,if_neg (by omega),show n3+0-(Ev p r c k y u).length=0 by omega];rfl) (λi hi j hj=>match j,hj with|0,_=>rfl|1,_=>rfl|2,_=>rfl|_+3,h=>absurd h (by omega)) 50 (by kernel_rfl) (by kernel_rfl) 61 52 (by kernel_rfl) (by kernel_rfl)) ?_
             refine Ae 5 ?_
             refine Fw ((u:Int)+1) ((u+1:Nat):Int) ?_
             refine Ae 2 ?_
             exact Hl [3,4,5,8,10,15,20,29,30,31,63,64,65,70,71,72] [(62,50)] 61 0 hA0 [(52,3,1,(λ_=> .lit (.agg #[.int .i64 (((Eb r (Bj p r c k)).getD y 0:Nat):Int),.int .i64 ((r.waits).getD k 0),.int .i64 ((r.rises).getD u 0)]))),(52,3,n3+1,(λxi=>Cr ((Ev p r c k y (u+1)).getD xi Rl.none)))] ⟨(Hf λ_ _=>rfl),(Hf λ_ _=>rfl),trivial⟩ (hJ7 _ _ (by omega:r.rises.length-(u+1)<r.rises.length-u) ⟨u+1,n3+1,(by omega),rfl,⟨by rw[Hy hx20 hx21,List.length_append,List.length_singleton];omega,by omega⟩,⟨by omega,rfl⟩⟩)
            ·
             refine Ae 5 ?_
             refine Fw ((u:Int)+1) ((u+1:Nat):Int) ?_
             refine Ae 2 ?_
             refine Xl 50 52 3 n3 (λxi=>Cr ((Ev p r c k y u).getD xi Rl.none)) (λxi=>Cr ((Ev p r c k y (u+1)).getD xi Rl.none)) (λx9 hx9=>by rw[Ex (.inr hx21)]) ?_
             exact Qm [3,4,5,8,10,15,20,29,30,31,63,64,65,70,71,72] (hJ7 _ _ (by omega:r.rises.length-(u+1)<r.rises.length-u) ⟨u+1,n3,(by omega),rfl,⟨by rw[Ex (.inr hx21)];omega,by omega⟩,⟨by omega,rfl⟩⟩)
           ·
            refine Ae 11 ?_
            refine Fw ((u:Int)+1) ((u+1:Nat):Int) ?_
            refine Ae 2 ?_
            refine Xl 50 52 3 n3 (λxi=>Cr ((Ev p r c k y u).getD xi Rl.none)) (λxi=>Cr ((Ev p r c k y (u+1)).getD xi Rl.none)) (λx9 hx9=>by rw[Ex (.inl hx20)]) ?_
            exact Qm [3,4,5,8,10,15,20,29,30,31,63,64,65,70,71,72] (hJ7 _ _ (by omega:r.rises.length-(u+1)<r.rises.length-u) ⟨u+1,n3,(by omega),rfl,⟨by rw[Ex (.inl hx20)];omega,by omega⟩,⟨by omega,rfl⟩⟩)
          ·
           refine Ae 7 ?_
           refine Xl 50 52 3 n3 (λxi=>Cr ((Ev p r c k y u).getD xi Rl.none)) (λxi=>Cr ((Oj p r c k (y+1)).getD xi Rl.none)) (λx9 hx9=>by rw[<-Ue,show r.rises.length=u by omega]) ?_
           refine Ae 1 ?_
           refine Fw ((y:Int)+1) ((y+1:Nat):Int) ?_
           refine Ae 2 ?_
           exact Qm [3,4,5,8,10,15,29,30,31,63,64,65] (hJ5 _ _ (by omega:r.homes.length-(y+1)<r.homes.length-y) ⟨y+1,n3,(by omega),rfl,⟨by rw[<-Ue,show r.rises.length=u by omega];omega,by omega⟩,(.inr ⟨by omega,rfl⟩)⟩)
        ·
         refine Ae 7 ?_
         refine Xl 50 52 3 n2 (λxi=>Cr ((Oj p r c k y).getD xi Rl.none)) (λxi=>Cr ((Jb p r c (k+1)).getD xi Rl.none)) (λx9 hx9=>by rw[<-bW hx2,show r.homes.length=y by omega]) ?_
         refine Ae 1 ?_
         refine Fw ((k:Int)+1) ((k+1:Nat):Int) ?_
         refine Ae 2 ?_
         exact Hl [3,4,5,8,29,30,31] [(50,50)] 51 0 hA0 [(52,3,n2,(λxi=>Cr ((Jb p r c (k+1)).getD xi Rl.none)))] ⟨(Hf λ_ _=>rfl),trivial⟩ (hJ1 _ _ (by omega:r.waits.length-(k+1)<r.waits.length-k) ⟨k+1,n2,(by omega),rfl,⟨by rw[<-bW hx2,show r.homes.length=y by omega];omega,by omega⟩,(.inr ⟨by omega,rfl⟩)⟩)
   ·
    refine Ds (Uo hp hg.1 hcs hg.2 (by omega) hx2) ?_
    refine Ae 27 ?_
    refine Fw ((k:Int)+1) ((k+1:Nat):Int) ?_
    refine Ae 2 ?_
    exact Hl [3,4,5,8,29,30,31] [] 3 0 hA0 [] trivial (hJ1 _ _ (by omega:r.waits.length-(k+1)<r.waits.length-k) ⟨k+1,0,(by omega),rfl,⟨by rw[kF hx2];omega,by omega⟩,(.inl ⟨by omega,rfl⟩)⟩)
  ·
   refine Ae 14 ?_
   exact Ha (.lit (.tuple #[.slice none 0 0,.int .i64 0])) (by have hke:k=r.waits.length:=(by omega);subst hke;exact(if_pos (by rw[Ok];omega)).symm)
 ·
  refine Ae 6 ?_
  refine Gu 32 ((k:Int)<(r.waits.length:Int)) (λhx22 hx22d=>?_) (λhx22 hx22d=>?_)
  ·
   refine Ae 7 ?_
   refine Gt k r.waits.length ?_
   refine Ae 10 ?_
   refine Ey (kD p r c k) (λhx23=>?_) (λhx23=>?_)
   ·
    refine Ds (Ta hp hg.1 hcs hg.2 (by omega) hx23) ?_
    refine Ae 19 ?_
    refine Lh 47 (decide ((((Nx p c (Ky p r c (r.waits.getD k 0))):Nat):Int)<0)) false (decide_eq_false (by omega)) ?_
    refine Ae 5 ?_
    have hV:=uZ hg.1 hx23
    refine sN 51 ?_
    refine Ae 7 ?_
    refine sN 52 ?_
    refine Ae 15 ?_
    refine kU [3,4,5,8,10,15,16,17,29,30,31,51,52] (λm s=>∃a,a<=r.homes.length/\m=r.homes.length-a/\True/\((a=0/\s=⟨[(3,.elt 3 (λxi=>[Hk p.names,Kc p.homes,Io p.acts].getD (0+xi) .top)),(4,Tt r),(5,.elt 2 (λxi=>[.int c.craft,.int c.act].getD (0+xi) .top)),(8,.osl 50 3 n),(10,.int ((r.waits).getD k 0)),(15,Wv (Bj p r c k)),(16,iN r (Bj p r c k)),(17,.lit (.slice none 0 0)),(29,Dq r.waits),(30,.int (r.waits.length:Int)),(31,.int (k:Int)),(51,.int (r.homes.length:Int)),(52,.int ((0:Nat):Int))],[(50,.vec 52 3 n (λxi=>Cr ((Jb p r c k).getD xi Rl.none)))],53,99⟩)\/(0<a/\s=⟨[(3,.elt 3 (λxi=>[Hk p.names,Kc p.homes,Io p.acts].getD (0+xi) .top)),(4,Tt r),(5,.elt 2 (λxi=>[.int c.craft,.int c.act].getD (0+xi) .top)),(8,.osl 50 3 n),(10,.int ((r.waits).getD k 0)),(15,Wv (Bj p r c k)),(16,iN r (Bj p r c k)),(17,.osl 60 1 a),(29,Dq r.waits),(30,.int (r.waits.length:Int)),(31,.int (k:Int)),(51,.int (r.homes.length:Int)),(52,.int (a:Int))],[(50,.vec 52 3 n (λxi=>Cr ((Jb p r c k).getD xi Rl.none))),(60,.vec 3 1 a (λxi=>AV.int (xi:Int)))],61,99⟩))) r.homes.length ⟨0,Nat.zero_le _,rfl,trivial,.inl ⟨rfl,(by kernel_rfl)⟩⟩ ?_
    rintro _ _ ⟨a,han,rfl,hFa,(⟨ha0,rfl⟩|⟨ha0,rfl⟩)⟩ J8 hJ8
    ·
     subst ha0
     refine Ae 6 ?_
     refine Gu 53 (((0:Nat):Int)<(r.homes.length:Int)) (λhx24 hx24d=>?_) (λhx24 hx24d=>?_)
     ·
      refine Ae 14 ?_
      refine Ci (.osl 53 1 1) (.new 53 (.vec 3 1 1 (λ_=> .int ((0:Nat):Int)))) (Ak 23 1 #[(0,(.tmp 56))] (by kernel_rfl) underlying23 1 sizeOf3 _ zeroValue3 (by kernel_rfl) (Nat.le_of_ble_eq_true (by kernel_rfl)) (Nat.le_of_ble_eq_true (by kernel_rfl)) (Nat.le_of_ble_eq_true (by kernel_rfl)) 53 [.int ((0:Nat):Int)] (by kernel_rfl) (λ_=> .int ((0:Nat):Int)) (by kernel_rfl)) ?_
      refine Ci (.osl 54 1 1) (.newr 53 54 (.vec 3 1 1 (λxi=>AV.int (xi:Int)))) (Cp (.tmp 55) (.tmp 57) 23 (by kernel_rfl) underlying23 1 8 (.int .i64 0) (by kernel_rfl) (by kernel_rfl) (by decide) 1 (by omega) (λ_=> .int ((0:Nat):Int)) (λxi=>AV.int (xi:Int)) 54 (λi hi=>by(obtain rfl:i=0:=(by omega));rfl) (λi hi j hj=>by obtain rfl:j=0:=(by omega);rfl) (by unfold maxLen;omega) (by omega) (by kernel_rfl) 53 3 (by kernel_rfl) (by kernel_rfl)) ?_
      refine Ae 5 ?_
      refine Fw (((0:Nat):Int)+1) ((0+1:Nat):Int) ?_
      refine Ae 2 ?_
      exact Hl [3,4,5,8,10,15,16,17,29,30,31,51,52] [(50,50),(54,60)] 61 0 hA0 [(52,3,n,(λxi=>Cr ((Jb p r c k).getD xi Rl.none))),(3,1,1,(λ_=> .int ((0:Nat):Int))),(3,1,1,(λxi=>AV.int (xi:Int)))] ⟨(Hf λ_ _=>rfl),(Hf λ_ _=>rfl),(Hf λ_ _=>rfl),trivial⟩ (hJ8 _ _ (by omega:r.homes.length-(0+1)<r.homes.length-0) ⟨0+1,(by omega),rfl,trivial,.inr ⟨Nat.succ_pos _,rfl⟩⟩)
     ·
      refine Ae 6 ?_
      exfalso;omega
    ·
     refine Ae 6 ?_
     refine Gu 53 ((a:Int)<(r.homes.length:Int)) (λhx25 hx25d=>?_) (λhx25 hx25d=>?_)
     ·
      refine Ae 14 ?_
      refine Ci (.osl 61 1 1) (.new 61 (.vec 3 1 1 (λ_=> .int (a:Int)))) (Ak 23 1 #[(0,(.tmp 56))] (by kernel_rfl) underlying23 1 sizeOf3 _ zeroValue3 (by kernel_rfl) (Nat.le_of_ble_eq_true (by kernel_rfl)) (Nat.le_of_ble_eq_true (by kernel_rfl)) (Nat.le_of_ble_eq_true (by kernel_rfl)) 61 [.int (a:Int)] (by kernel_rfl) (λ_=> .int (a:Int)) (by kernel_rfl)) ?_
      refine Ci (.osl 62 1 (a+1)) (.grow2 60 61 62 (.vec 3 1 (a+1) (λxi=>AV.int (xi:Int)))) (Cz (.tmp 55) (.tmp 57) 23 (by kernel_rfl) underlying23 1 8 (.int .i64 0) (by kernel_rfl) (by kernel_rfl) (by decide) a 1 (by omega) (λxi=>AV.int (xi:Int)) (λ_=> .int (a:Int)) (λxi=>AV.int (xi:Int)) 62 (by omega) (by unfold maxLen;omega) (λi hi=>rfl) (λi hi=>by(obtain rfl:i=0:=(by omega));rfl) (λi hi j hj=>by obtain rfl:j=0:=(by omega);rfl) 60 (by kernel_rfl) (by kernel_rfl) 61 3 (by kernel_rfl) (by kernel_rfl)) ?_
      refine Ae 5 ?_
      refine Fw ((a:Int)+1) ((a+1:Nat):Int) ?_
      refine Ae 2 ?_
      exact Hl [3,4,5,8,10,15,16,17,29,30,31,51,52] [(50,50),(62,60)] 61 0 hA0 [(52,3,n,(λxi=>Cr ((Jb p r c k).getD xi Rl.none))),(3,1,1,(λ_=> .int (a:Int))),(3,1,a+1,(λxi=>AV.int (xi:Int)))] ⟨(Hf λ_ _=>rfl),(Hf λ_ _=>rfl),(Hf λ_ _=>rfl),trivial⟩ (hJ8 _ _ (by omega:r.homes.length-(a+1)<r.homes.length-a) ⟨a+1,(by omega),rfl,trivial,.inr ⟨Nat.succ_pos _,rfl⟩⟩)
     ·
      refine Ae 6 ?_
      have hae:a=r.homes.length:=by omega
      subst hae
      refine Ae 4 ?_
      refine cS 61 func41 (λ_ hD26=>?_)
      refine Ae 11 ?_
      refine No (.int .u64 (IntKind.wrap .u64 (r.homes.length:Int))) (.int .u64 (r.homes.length:Int)) ?_ (congrArg (Value.int .u64) (IntWalk.u64_in _ (by omega)))
      refine Ds (Aad _ (by omega)) ?_
      refine Ae 1 ?_
      refine cS 61 func76 (λ_ hD27=>?_)
      refine Ae 11 ?_
      refine zT 1 ?_
      refine Ae 5 ?_
      refine Fw ((r.homes.length:Int)-0) ((r.homes.length-0:Nat):Int) ?_
      refine Ae 8 ?_
      refine Lh 25 (decide (((r.homes.length-0:Nat):Int)<=12)) true (decide_eq_true (by omega)) ?_
      refine Ae 9 ?_
      refine cS 61 func104 (λ_ hD28=>?_)
      refine Ae 3 ?_
      refine No (.int .i64 1) (.int .i64 1) ?_
      refine Ae 4 ?_
      refine Xl 60 3 1 r.homes.length (λxi=>AV.int (xi:Int)) (λxi=>AV.int (((Lr (cY r (Bj p r c k)) (List.range r.homes.length) 0).getD xi 0:Nat):Int)) (λx9 hx9=>by show AV.int _=AV.int _;rw[Lr,Wa hx9]) ?_
      refine Qf [0,1,2,3,8] (r.homes.length-1) (λi=>True) (λi=>⟨[(0,.osl 60 1 r.homes.length),(1,.int 0),(2,.int (r.homes.length:Int)),(3,.fn 42 [iN r (Bj p r c k)]),(8,.int ((i+1:Nat):Int))],[(50,.vec 52 3 n (λxi=>Cr ((Jb p r c k).getD xi Rl.none))),(60,.vec 3 1 r.homes.length (λxi=>AV.int (((Lr (cY r (Bj p r c k)) (List.range r.homes.length) i).getD xi 0:Nat):Int)))],61,53⟩) trivial (λi hin hFi J9 hJ9=>?_)
      refine Ae 8 ?_
      refine Gu 14 (((i+1:Nat):Int)<(r.homes.length:Int)) (λhx29 hx29d=>?_) (λhx29 hx29d=>?_)
      ·
       refine Ae 12 ?_
       refine kU [0,1,2,3,8,9] (λm s=>∃j L,m=j+1/\(Vf (cY r (Bj p r c k)) L j=Lr (cY r (Bj p r c k)) (List.range r.homes.length) (i+1)/\j<=i+1/\L.length=r.homes.length/\(∀x,x<r.homes.length->L.getD x 0<r.homes.length))/\s=⟨[(0,.osl 60 1 r.homes.length),(1,.int 0),(2,.int (r.homes.length:Int)),(3,.fn 42 [iN r (Bj p r c k)]),(8,.int ((i+1:Nat):Int)),(9,.int (j:Int))],[(50,.vec 52 3 n (λxi=>Cr ((Jb p r c k).getD xi Rl.none))),(60,.vec 3 1 r.homes.length (λxi=>AV.int (((L).getD xi 0:Nat):Int)))],61,53⟩) ((i+1)+1) ⟨i+1,(Lr (cY r (Bj p r c k)) (List.range r.homes.length) i),rfl,⟨rfl,Nat.le_refl _,by rw[Oo,List.length_range],fU r (Bj p r c k) (by omega)⟩,(by kernel_rfl)⟩ ?_
       rintro _ _ ⟨j,L,rfl,hF,rfl⟩ J10 hJ10
       obtain⟨hF1,hF2,hF3,hF4⟩:=hF
       refine Ae 2 ?_
       refine zL ((0:Int)<(j:Int)) (λhx30 hx30d=>?_) (λhx30 hx30d=>?_)
       ·
        refine Kg [(2,.bool true,.none),(7,Fu (.osl 60 1 r.homes.length) j,.none),(8,.int (((L).getD j 0:Nat):Int),(.read 60)),(11,.int ((j-1:Nat):Int),.none),(12,Fu (.osl 60 1 r.homes.length) (j-1),.none),(13,.int (((L).getD (j-1) 0:Nat):Int),(.read 60)),(14,_,.none)] [0,1,2,3,8,9,34] ⟨kT hx30,Pa j r.homes.length,Av (Dc 3 (.tmp 25) (by kernel_rfl) isAgg3 60 j 0 1 (by kernel_rfl) 3 r.homes.length (λxi=>AV.int (((L).getD xi 0:Nat):Int)) (by kernel_rfl) (by omega) (by decide)),Av (Cq (v:= .int .i64 (IntKind.wrap .i64 ((j:Int)-1))) (v':= .int .i64 ((j-1:Nat):Int)) _ (by kernel_rfl) rfl (by kernel_rfl) (λw=>by kernel_rfl) (congrArg (Value.int .i64) ((IntWalk.i64_in _ (by omega)).trans (by omega)))),Pa (j-1) r.homes.length,Av (Dc 3 (.tmp 30) (by kernel_rfl) isAgg3 60 (j-1) 0 1 (by kernel_rfl) 3 r.homes.length (λxi=>AV.int (((L).getD xi 0:Nat):Int)) (by kernel_rfl) (by omega) (by decide)),Ac2 (sV r (Bj p r c k) (L.getD j 0) (L.getD (j-1) 0) hg.2 (hF4 j (by omega)) (hF4 (j-1) (by omega)) hV),trivial⟩ ?_
        refine Ae 1 ?_
        refine Gu 34 (orI (Jz (Sw r (Bj p r c k) (L.getD j 0)) (Sw r (Bj p r c k) (L.getD (j-1) 0))) (Jz ((L.getD j 0:Nat):Int) ((L.getD (j-1) 0:Nat):Int))<0) (λhx31 hx31d=>?_) (λhx31 hx31d=>?_)
        ·
         refine Ae 5 ?_
         refine Kg [(4,.int ((j-1:Nat):Int),.none),(7,.int ((j-1:Nat):Int),.none),(8,Fu (.osl 60 1 r.homes.length) (j-1),.none),(9,.int (((L).getD (j-1) 0:Nat):Int),(.read 60)),(12,Fu (.osl 60 1 r.homes.length) j,.none),(13,.int (((L).getD j 0:Nat):Int),(.read 60)),(14,Fu (.osl 60 1 r.homes.length) j,.none),(15,.lit Go.undef,(.set 60 (.vec 3 1 r.homes.length (λxi=>if xi=j then .int (((L).getD (j-1) 0:Nat):Int) else (λxi=>AV.int (((L).getD xi 0:Nat):Int)) xi)))),(16,Fu (.osl 60 1 r.homes.length) (j-1),.none),(17,.lit Go.undef,(.set 60 (.vec 3 1 r.homes.length (λxi=>if xi=j-1 then .int (((L).getD j 0:Nat):Int) else (λxi=>if xi=j then .int (((L).getD (j-1) 0:Nat):Int) else (λxi=>AV.int (((L).getD xi 0:Nat):Int)) xi) xi))))] [0,1,2,3,8,9] ⟨Av (Cq (v:= .int .i64 (IntKind.wrap .i64 ((j:Int)-1))) (v':= .int .i64 ((j-1:Nat):Int)) _ (by kernel_rfl) rfl (by kernel_rfl) (λw=>by kernel_rfl) (congrArg (Value.int .i64) ((IntWalk.i64_in _ (by omega)).trans (by omega)))),Av (Cq (v:= .int .i64 (IntKind.wrap .i64 ((j:Int)-1))) (v':= .int .i64 ((j-1:Nat):Int)) _ (by kernel_rfl) rfl (by kernel_rfl) (λw=>by kernel_rfl) (congrArg (Value.int .i64) ((IntWalk.i64_in _ (by omega)).trans (by omega)))),Pa (j-1) r.homes.length,Av (Dc 3 (.tmp 45) (by kernel_rfl) isAgg3 60 (j-1) 0 1 (by kernel_rfl) 3 r.homes.length (λxi=>AV.int (((L).getD xi 0:Nat):Int)) (by kernel_rfl) (by omega) (by decide)),Pa j r.homes.length,Av (Dc 3 (.tmp 49) (by kernel_rfl) isAgg3 60 j 0 1 (by kernel_rfl) 3 r.homes.length (λxi=>AV.int (((L).getD xi 0:Nat):Int)) (by kernel_rfl) (by omega) (by decide)),Pa j r.homes.length,Av (Fm 3 (.tmp 51) (.tmp 46) (by kernel_rfl) 1 sizeOf3 60 j (by kernel_rfl) 3 r.homes.length (λxi=>AV.int (((L).getD xi 0:Nat):Int)) (by kernel_rfl) (by omega) (by kernel_rfl) (by kernel_rfl) (by kernel_rfl) (.int (((L).getD (j-1) 0:Nat):Int)) (by kernel_rfl)),Pa (j-1) r.homes.length,Av (Fm 3 (.tmp 52) (.tmp 50) (by kernel_rfl) 1 sizeOf3 60 (j-1) (by kernel_rfl) 3 r.homes.length (λxi=>if xi=j then .int (((L).getD (j-1) 0:Nat):Int) else (λxi=>AV.int (((L).getD xi 0:Nat):Int)) xi) (by kernel_rfl) (by omega) (by kernel_rfl) (by kernel_rfl) (by kernel_rfl) (.int (((L).getD j 0:Nat):Int)) (by kernel_rfl)),trivial⟩ ?_
         refine Ae 2 ?_
         refine Xl 60 3 1 r.homes.length (λxi=>if xi=j-1 then .int (((L).getD j 0:Nat):Int) else (λxi=>if xi=j then .int (((L).getD (j-1) 0:Nat):Int) else (λxi=>AV.int (((L).getD xi 0:Nat):Int)) xi) xi) (λxi=>AV.int (((Ot L (j-1)).getD xi 0:Nat):Int)) (λx9 hx9=>vK L j x9 (by omega) (by omega)) ?_
         refine Ae 2 ?_
         refine Fw ((j:Int)-1) ((j-1:Nat):Int) ?_
         refine Ae 2 ?_
         exact Qm [0,1,2,3,8,9] (hJ10 _ _ (by omega:(j-1)+1<j+1) ⟨j-1,Ot L (j-1),rfl,⟨(eY (by omega) ((Yz r (Bj p r c k) (L.getD j 0) (L.getD (j-1) 0)).symm.trans hx31)).symm.trans hF1,by omega,by rw[Ma];exact hF3,by rw[<-hF3];exact fV (by omega) (by rw[hF3];exact hF4)⟩,rfl⟩)
        ·
         refine Ae 7 ?_
         have hL:L=Lr (cY r (Bj p r c k)) (List.range r.homes.length) (i+1):=(eZ (by omega) ((Yz r (Bj p r c k) (L.getD j 0) (L.getD (j-1) 0)).symm.trans hx31)).symm.trans hF1
         subst hL
         refine Ae 2 ?_
         refine Fw (((i+1:Nat):Int)+1) ((i+1+1:Nat):Int) ?_
         refine Ae 2 ?_
         exact Qm [0,1,2,3,8] (hJ9 (by omega) trivial)
       ·
        refine Kg [(2,.bool false,.none)] [0,1,2,3,8,9,34] ⟨kT hx30,trivial⟩ ?_
        refine Ae 8 ?_
        have hL:L=Lr (cY r (Bj p r c k)) (List.range r.homes.length) (i+1):=(fA (by omega)).symm.trans hF1
        subst hL
        refine Ae 2 ?_
        refine Fw (((i+1:Nat):Int)+1) ((i+1+1:Nat):Int) ?_
        refine Ae 2 ?_
        exact Qm [0,1,2,3,8] (hJ9 (by omega) trivial)
      ·
       refine Ae 5 ?_
       refine zK (Ae 7 ?_)
       refine zK (Ae 1 ?_)
       refine zK (Ae 2 ?_)
       have hie:i=r.homes.length-1:=by omega
       subst hie
       refine Xl 60 3 1 r.homes.length (λxi=>AV.int (((Lr (cY r (Bj p r c k)) (List.range r.homes.length) (r.homes.length-1)).getD xi 0:Nat):Int)) (λxi=>AV.int (((Eb r (Bj p r c k)).getD xi 0:Nat):Int)) (λx9 hx9=>rfl) ?_
       refine cR 60 [17] 3 1 r.homes.length (λxi=>AV.int (((Eb r (Bj p r c k)).getD xi 0:Nat):Int)) (Hf λ_ _=>rfl) ?_
       refine Xl 50 52 3 n (λxi=>Cr ((Jb p r c k).getD xi Rl.none)) (λxi=>Cr ((Oj p r c k 0).getD xi Rl.none)) (λx9 hx9=>by rw[rT]) ?_
       refine Ae 8 ?_
       refine kU [3,4,5,8,10,15,29,30,31,63,64,65] (λm s=>∃y n2,y<=r.homes.length/\m=r.homes.length-y/\(n2=(Oj p r c k y).length/\n2<=k*128+y*16)/\((0<n2)/\s=⟨[(3,.elt 3 (λxi=>[Hk p.names,Kc p.homes,Io p.acts].getD (0+xi) .top)),(4,Tt r),(5,.elt 2 (λxi=>[.int c.craft,.int c.act].getD (0+xi) .top)),(8,.osl 50 3 n2),(10,.int ((r.waits).getD k 0)),(15,Wv (Bj p r c k)),(29,Dq r.waits),(30,.int (r.waits.length:Int)),(31,.int (k:Int)),(63,.sl 1 r.homes.length (λxi=>AV.int (((Eb r (Bj p r c k)).getD xi 0:Nat):Int))),(64,.int (r.homes.length:Int)),(65,.int (y:Int))],[(50,.vec 52 3 n2 (λxi=>Cr ((Oj p r c k y).getD xi Rl.none)))],61,99⟩)) r.homes.length ⟨0,n,Nat.zero_le _,rfl,⟨by rw[rT];omega,by omega⟩,⟨hk0,(by kernel_rfl)⟩⟩ ?_
       rintro _ _ ⟨y,n2,hyn,rfl,hFy,(⟨hy0,rfl⟩)⟩ J11 hJ11
       ·
        refine Ae 6 ?_
        refine Gu 66 ((y:Int)<(r.homes.length:Int)) (λhx32 hx32d=>?_) (λhx32 hx32d=>?_)
        ·
         refine Ae 7 ?_
         refine Gt y r.homes.length ?_
         refine Ae 4 ?_
         have hom:=Vt r (Bj p r c k) (x:=y) (by omega)
         refine Xl 50 52 3 n2 (λxi=>Cr ((Oj p r c k y).getD xi Rl.none)) (λxi=>Cr ((Ev p r c k y 0).getD xi Rl.none)) (λx9 hx9=>by rw[bV]) ?_
         refine Ae 9 ?_
         refine kU [3,4,5,8,10,15,20,29,30,31,63,64,65,70,71,72] (λm s=>∃u n3,u<=r.rises.length/\m=r.rises.length-u/\(n3=(Ev p r c k y u).length/\n3<=k*128+y*16+u)/\((0<n3)/\s=⟨[(3,.elt 3 (λxi=>[Hk p.names,Kc p.homes,Io p.acts].getD (0+xi) .top)),(4,Tt r),(5,.elt 2 (λxi=>[.int c.craft,.int c.act].getD (0+xi) .top)),(8,.osl 50 3 n3),(10,.int ((r.waits).getD k 0)),(15,Wv (Bj p r c k)),(20,.int (((Eb r (Bj p r c k)).getD y 0:Nat):Int)),(29,Dq r.waits),(30,.int (r.waits.length:Int)),(31,.int (k:Int)),(63,.sl 1 r.homes.length (λxi=>AV.int (((Eb r (Bj p r c k)).getD xi 0:Nat):Int))),(64,.int (r.homes.length:Int)),(65,.int (y:Int)),(70,Dq r.rises),(71,.int (r.rises.length:Int)),(72,.int (u:Int))],[(50,.vec 52 3 n3 (λxi=>Cr ((Ev p r c k y u).getD xi Rl.none)))],61,99⟩)) r.rises.length ⟨0,n2,Nat.zero_le _,rfl,⟨by rw[bV];omega,by omega⟩,⟨hy0,(by kernel_rfl)⟩⟩ ?_
         rintro _ _ ⟨u,n3,hun,rfl,hFu,(⟨hu0,rfl⟩)⟩ J12 hJ12
         ·
          refine Ae 6 ?_
          refine Gu 73 ((u:Int)<(r.rises.length:Int)) (λhx33 hx33d=>?_) (λhx33 hx33d=>?_)
          ·
           refine Ae 5 ?_
           have hris:=hg.2.2.2.2.2.2 u (by omega)
           refine Ae 2 ?_
           refine Gt u r.rises.length ?_
           refine Ae 9 ?_
           refine Gt ((Eb r (Bj p r c k)).getD y 0) r.homes.length ?_
           refine Ae 2 ?_
           refine Ds (Jh (r.homes.getD ((Eb r (Bj p r c k)).getD y 0) V3.zero) (r.rises.getD u 0) (hg.2.2.1 _ hom).1 ⟨hris.1,hris.2.1⟩) ?_
           refine Ae 1 ?_
           refine vS 83 (Ka (r.homes.getD ((Eb r (Bj p r c k)).getD y 0) V3.zero) (r.rises.getD u 0)) (λhx34=>?_) (λhx34=>?_)
           ·
            refine Ae 2 ?_
            refine Ds (Jh (Bj p r c k) (r.rises.getD u 0) hV ⟨hris.1,hris.2.1⟩) ?_
            refine Ae 3 ?_
            refine vS 87 (Ka (Bj p r c k) (r.rises.getD u 0)) (λhx35=>?_) (λhx35=>?_)
            ·
             refine Ae 7 ?_
             refine Ci (.osl 61 3 1) (.new 61 (.vec 52 3 1 (λ_=> .lit (.agg #[.int .i64 (((Eb r (Bj p r c k)).getD y 0:Nat):Int),.int .i64 ((r.waits).getD k 0),.int .i64 ((r.rises).getD u 0)])))) (Ak 45 1 #[(0,(.tmp 92))] (by kernel_rfl) underlying45 3 sizeOf52 _ zeroValue52 (by kernel_rfl) (Nat.le_of_ble_eq_true (by kernel_rfl)) (Nat.le_of_ble_eq_true (by kernel_rfl)) (Nat.le_of_ble_eq_true (by kernel_rfl)) 61 [.int (((Eb r (Bj p r c k)).getD y 0:Nat):Int),.int ((r.waits).getD k 0),.int ((r.rises).getD u 0)] (by kernel_rfl) (λ_=> .lit (.agg #[.int .i64 (((Eb r (Bj p r c k)).getD y 0:Nat):Int),.int .i64 ((r.waits).getD k 0),.int .i64 ((r.rises).getD u 0)])) (by kernel_rfl)) ?_
             refine Ci (.osl 62 3 (n3+1)) (.grow2 50 61 62 (.vec 52 3 (n3+1) (λxi=>Cr ((Ev p r c k y (u+1)).getD xi Rl.none)))) (Cz (.tmp 88) (.tmp 93) 45 (by kernel_rfl) underlying45 3 24 (.agg #[.int .i64 0,.int .i64 0,.int .i64 0]) (by kernel_rfl) (by kernel_rfl) (by decide) n3 1 (by omega) (λxi=>Cr ((Ev p r c k y u).getD xi Rl.none)) (λ_=> .lit (.agg #[.int .i64 (((Eb r (Bj p r c k)).getD y 0:Nat):Int),.int .i64 ((r.waits).getD k 0),.int .i64 ((r.rises).getD u 0)])) (λxi=>Cr ((Ev p r c k y (u+1)).getD xi Rl.none)) 62 (by omega) (by unfold maxLen;omega) (λi hi=>by show Cr _=Cr _;rw[Hy hx34 hx35,Sp,if_pos (by omega)]) (λi hi=>by(obtain rfl:i=0:=(by omega));show Cr _=Cr ⟨(((Eb r (Bj p r c k)).getD y 0:Nat):Int),r.waits.getD k 0,r.rises.getD u 0⟩;rw[Hy hx34 hx35,Sp,if_neg (by omega),show n3+0-(Ev p r c k y u).length=0 by omega];rfl) (λi hi j hj=>match j,hj with|0,_=>rfl|1,_=>rfl|2,_=>rfl|_+3,h=>absurd h (by omega)) 50 (by kernel_rfl) (by kernel_rfl) 61 52 (by kernel_rfl) (by kernel_rfl)) ?_
             refine Ae 5 ?_
             refine Fw ((u:Int)+1) ((u+1:Nat):Int) ?_
             refine Ae 2 ?_
             exact Hl [3,4,5,8,10,15,20,29,30,31,63,64,65,70,71,72] [(62,50)] 61 0 hA0 [(52,3,1,(λ_=> .lit (.agg #[.int .i64 (((Eb r (Bj p r c k)).getD y 0:Nat):Int),.int .i64 ((r.waits).getD k 0),.int .i64 ((r.rises).getD u 0)]))),(52,3,n3+1,(λxi=>Cr ((Ev p r c k y (u+1)).getD xi Rl.none)))] ⟨(Hf λ_ _=>rfl),(Hf λ_ _=>rfl),trivial⟩ (hJ12 _ _ (by omega:r.rises.length-(u+1)<r.rises.length-u) ⟨u+1,n3+1,(by omega),rfl,⟨by rw[Hy hx34 hx35,List.length_append,List.length_singleton];omega,by omega⟩,⟨by omega,rfl⟩⟩)
            ·
             refine Ae 5 ?_
             refine Fw ((u:Int)+1) ((u+1:Nat):Int) ?_
             refine Ae 2 ?_
             refine Xl 50 52 3 n3 (λxi=>Cr ((Ev p r c k y u).getD xi Rl.none)) (λxi=>Cr ((Ev p r c k y (u+1)).getD xi Rl.none)) (λx9 hx9=>by rw[Ex (.inr hx35)]) ?_
             exact Qm [3,4,5,8,10,15,20,29,30,31,63,64,65,70,71,72] (hJ12 _ _ (by omega:r.rises.length-(u+1)<r.rises.length-u) ⟨u+1,n3,(by omega),rfl,⟨by rw[Ex (.inr hx35)];omega,by omega⟩,⟨by omega,rfl⟩⟩)
           ·
            refine Ae 11 ?_
            refine Fw ((u:Int)+1) ((u+1:Nat):Int) ?_
            refine Ae 2 ?_
            refine Xl 50 52 3 n3 (λxi=>Cr ((Ev p r c k y u).getD xi Rl.none)) (λxi=>Cr ((Ev p r c k y (u+1)).getD xi Rl.none)) (λx9 hx9=>by rw[Ex (.inl hx34)]) ?_
            exact Qm [3,4,5,8,10,15,20,29,30,31,63,64,65,70,71,72] (hJ12 _ _ (by omega:r.rises.length-(u+1)<r.rises.length-u) ⟨u+1,n3,(by omega),rfl,⟨by rw[Ex (.inl hx34)];omega,by omega⟩,⟨by omega,rfl⟩⟩)
          ·
           refine Ae 7 ?_
           refine Xl 50 52 3 n3 (λxi=>Cr ((Ev p r c k y u).getD xi Rl.none)) (λxi=>Cr ((Oj p r c k (y+1)).getD xi Rl.none)) (λx9 hx9=>by rw[<-Ue,show r.rises.length=u by omega]) ?_
           refine Ae 1 ?_
           refine Fw ((y:Int)+1) ((y+1:Nat):Int) ?_
           refine Ae 2 ?_
           exact Qm [3,4,5,8,10,15,29,30,31,63,64,65] (hJ11 _ _ (by omega:r.homes.length-(y+1)<r.homes.length-y) ⟨y+1,n3,(by omega),rfl,⟨by rw[<-Ue,show r.rises.length=u by omega];omega,by omega⟩,⟨by omega,rfl⟩⟩)
        ·
         refine Ae 7 ?_
         refine Xl 50 52 3 n2 (λxi=>Cr ((Oj p r c k y).getD xi Rl.none)) (λxi=>Cr ((Jb p r c (k+1)).getD xi Rl.none)) (λx9 hx9=>by rw[<-bW hx23,show r.homes.length=y by omega]) ?_
         refine Ae 1 ?_
         refine Fw ((k:Int)+1) ((k+1:Nat):Int) ?_
         refine Ae 2 ?_
         exact Hl [3,4,5,8,29,30,31] [(50,50)] 51 0 hA0 [(52,3,n2,(λxi=>Cr ((Jb p r c (k+1)).getD xi Rl.none)))] ⟨(Hf λ_ _=>rfl),trivial⟩ (hJ1 _ _ (by omega:r.waits.length-(k+1)<r.waits.length-k) ⟨k+1,n2,(by omega),rfl,⟨by rw[<-bW hx23,show r.homes.length=y by omega];omega,by omega⟩,(.inr ⟨by omega,rfl⟩)⟩)
   ·
    refine Ds (Uo hp hg.1 hcs hg.2 (by omega) hx23) ?_
    refine Ae 27 ?_
    refine Fw ((k:Int)+1) ((k+1:Nat):Int) ?_
    refine Ae 2 ?_
    refine Xl 50 52 3 n (λxi=>Cr ((Jb p r c k).getD xi Rl.none)) (λxi=>Cr ((Jb p r c (k+1)).getD xi Rl.none)) (λx9 hx9=>by rw[kF hx23]) ?_
    exact Hl [3,4,5,8,29,30,31] [(50,50)] 51 0 hA0 [(52,3,n,(λxi=>Cr ((Jb p r c (k+1)).getD xi Rl.none)))] ⟨(Hf λ_ _=>rfl),trivial⟩ (hJ1 _ _ (by omega:r.waits.length-(k+1)<r.waits.length-k) ⟨k+1,n,(by omega),rfl,⟨by rw[kF hx23];omega,by omega⟩,(.inr ⟨by omega,rfl⟩)⟩)
  ·
   refine Ae 13 ?_
   refine cR 50 [6] 52 3 n (λxi=>Cr ((Jb p r c k).getD xi Rl.none)) (Hf λ_ _=>rfl) ?_
   refine Ae 1 ?_
   exact Ha (.tup [.sl 3 n (λxi=>Cr ((Jb p r c k).getD xi Rl.none)),.int 0]) (by have hke:k=r.waits.length:=(by omega);subst hke;rw[vC,if_neg (by rw[Ok];omega),hFk.1];rfl)
abbrev Aea (p:Nat->Int) (m:Nat) (a b d:Int):Nat->Int:=cN p m a b d (m-1)
theorem lD (p:Nat->Int) (a b d:Int) (ha:Cy a) (hb:Cy b) (hd:Cy d) (hdp:0<d):AF Tryz.prog 158 [Bc 0 p,WA a,WA b,WA d] (.lit (.tuple #[.slice none 0 0,.int .i64 0])):=by
 refine Cx func158 rfl λB D0 hA0=>?_
 refine Ae 13 ?_
 refine Ds (Pd 0 p (by omega) (λi hi=>absurd hi (Nat.not_lt_zero i)) (.inl rfl)) ?_
 refine Ae 3 ?_
 refine Ds (Ji _ (Hn ha)) ?_
 refine Ae 4 ?_
 refine Ds (Ji _ (Hn hb)) ?_
 refine Ae 4 ?_
 refine Ds (Ji _ (Hn hd)) ?_
 refine Ae 11 ?_
 refine Ds (Uq d (Hn hd)) ?_
 refine Ae 3 ?_
 refine Lh 37 (decide (d.sign<=0)) false (decide_eq_false (by rw[Int.sign_eq_one_of_pos hdp];decide)) ?_
 refine Ae 20 ?_
 exact Hq
theorem VR.nil_poly {E:Bk} {v:Value} {c:Nat->Int} {e:Int} (h:VR E (.lit (.tuple #[.slice none 0 0,.int .i64 e])) v):VR E (.tup [Bc 0 c,.int e]) v:=by
 have:=h.lit_inv
 subst this
 refine .tup _ _ _ rfl λi hi=>?_
 match i,hi with
 |0,_=>exact .sl0 _ _ _ _ _
 |1,_=>exact .lit _ _
theorem Tn (m:Nat) (p:Nat->Int) (a b d:Int) (hm:m<=6) (hp:∀i,Cy (p i)) (hl:m=0\/p (m-1)≠0) (ha:Cy a) (hb:Cy b) (hd:Cy d) (hdp:0<d):AF Tryz.prog 158 [Bc m p,WA a,WA b,WA d] (.tup [Bc (Fh (Aea p m a b d) m) (Aea p m a b d),.int 0]):=by
 cases m with
 |zero=>exact Aaf (lD p a b d ha hb hd hdp) rfl (λ_ _ _ _ h=>h) λE v hv=>hv.nil_poly
 |succ k=>exact lE k p a b d (by omega) hp (hl.resolve_left (by omega)) ha hb hd hdp
abbrev cZ (l:List Int):Nat:=Fh (Yt l) l.length
abbrev nV (l:List Int) (a b d:Int):Nat->Int:=Aea (Yt l) (cZ l) a b d
abbrev oc (l:List Int) (a b d:Int) (i:Nat):Int:=nV l a b d i*d^(6-l.length)
abbrev on (l:List Int) (a b d:Int):Nat:=Fh (oc l a b d) (Fh (nV l a b d) (cZ l))
theorem jK {l:List Int} (h:∀i,Cy (l.getD i 0)) (hn:l.length<=6) {a b d:Int} (ha:Cy a) (hb:Cy b) (hd:Cy d) (i:Nat):Bd 500 (nV l a b d i):=by
 have:cZ l<=l.length:=He (Yt l) l.length
 exact(mF h ha hb hd _ i).mono (by omega)
theorem fG {l:List Int} (h:∀i,Cy (l.getD i 0)) (hn:l.length<=6) {a b d:Int} (ha:Cy a) (hb:Cy b) (hd:Cy d) (i:Nat):Bd 1000 (oc l a b d i):=
 ((jK h hn ha hb hd i).mul ((Bd.int hd.1 hd.2).pow (6-l.length))).mono (by omega)
theorem Abo (l:List Int) (a b d:Int) (hn:l.length<=6):on l a b d<=6:=Nat.le_trans (He _ _) (Nat.le_trans (He _ _) (Nat.le_trans (He _ _) hn))
abbrev Fa (l:List Int) (a b d:Int):AV:=Bc (on l a b d) (oc l a b d)
theorem lF (s:Sg) (a b d:Int) (hs:Tr s) (hx0:0<s.x.length) (hx6:s.x.length<=6) (hy0:0<s.y.length) (hy6:s.y.length<=6) (hz0:0<s.z.length) (hz6:s.z.length<=6) (ha:Cy a) (hb:Cy b) (hd:Cy d) (hdp:0<d):AF Tryz.prog 141 [Bn s,.int a,.int b,.int d] (.agg [Fa s.x a b d,Fa s.y a b d,Fa s.z a b d]):=by
 have hlx:cZ s.x<=s.x.length:=He (Yt s.x) s.x.length
 have hly:cZ s.y<=s.y.length:=He (Yt s.y) s.y.length
 have hlz:cZ s.z<=s.z.length:=He (Yt s.z) s.z.length
 refine Cx func141 rfl λB D0 hA0=>?_
 refine Ae 10 ?_
 refine Ds (sU s) ?_
 refine Ae 4 ?_
 refine zT 3 ?_
 refine Ae 14 ?_
 refine Ci (Ao s.x) .none (Dk 147 (.tmp 14) (.tmp 15) (by kernel_rfl) underlying147 1 sizeOf23 0 false isAgg23 [Ao s.x,Ao s.y,Ao s.z] 0 (by kernel_rfl) (by kernel_rfl) (by omega) (by decide) (Nat.le_of_ble_eq_true (by kernel_rfl)) (by decide) (Ao s.x) (by kernel_rfl)) ?_
 refine Ae 7 ?_
 refine Ds (Wn s.x hx0 (by omega) hs.x) ?_
 refine Ae 11 ?_
 refine Ds (Gf a ha.1 ha.2) ?_
 refine Ae 1 ?_
 refine Ds (Gf b hb.1 hb.2) ?_
 refine Ae 1 ?_
 refine Ds (Gf d hd.1 hd.2) ?_
 refine Ds (Tn (cZ s.x) (Yt s.x) a b d (by omega) hs.x (Je _ _) ha hb hd hdp) ?_
 refine Ae 12 ?_
 refine Fw ((6:Int)-(s.x.length:Int)) ((6-s.x.length:Nat):Int) ?_
 refine Ds (Fz d (6-s.x.length) hd.1 hd.2 (by omega) (λj hj=>Ei hd (by omega))) ?_
 refine Ds (Zt (Fh (nV s.x a b d) (cZ s.x)) (nV s.x a b d) (d^(6-s.x.length)) (by have:=He (nV s.x a b d) (cZ s.x);omega) (λi _=>(jK hs.x hx6 ha hb hd i).fit (by omega)) (Je _ _) (Ei hd (by omega)) (λi _=>(fG hs.x hx6 ha hb hd i).fit (by omega))) ?_
 refine Ae 3 ?_
 refine Ci (.ptr 1 0) .none (Bv 203 (.tmp 8) (.tmp 36) (by kernel_rfl) underlying203 1 0 1 0 0 (by kernel_rfl) (by kernel_rfl) sizeOf202 (by decide) (by omega) (by decide)) ?_
 refine Ae 5 ?_
 refine No (.int .i64 1) (.int .i64 1) ?_
 refine Ae 17 ?_
 refine Ci (Ao s.y) .none (Dk 147 (.tmp 14) (.tmp 15) (by kernel_rfl) underlying147 1 sizeOf23 1 false isAgg23 [Ao s.x,Ao s.y,Ao s.z] 1 (by kernel_rfl) (by kernel_rfl) (by omega) (by decide) (Nat.le_of_ble_eq_true (by kernel_rfl)) (by decide) (Ao s.y) (by kernel_rfl)) ?_
 refine Ae 7 ?_
 refine Ds (Wn s.y hy0 (by omega) hs.y) ?_
 refine Ae 11 ?_
 refine Ds (Gf a ha.1 ha.2) ?_
 refine Ae 1 ?_
 refine Ds (Gf b hb.1 hb.2) ?_
 refine Ae 1 ?_
 refine Ds (Gf d hd.1 hd.2) ?_
 refine Ds (Tn (cZ s.y) (Yt s.y) a b d (by omega) hs.y (Je _ _) ha hb hd hdp) ?_
 refine Ae 12 ?_
 refine Fw ((6:Int)-(s.y.length:Int)) ((6-s.y.length:Nat):Int) ?_
 refine Ds (Fz d (6-s.y.length) hd.1 hd.2 (by omega) (λj hj=>Ei hd (by omega))) ?_
 refine Ds (Zt (Fh (nV s.y a b d) (cZ s.y)) (nV s.y a b d) (d^(6-s.y.length)) (by have:=He (nV s.y a b d) (cZ s.y);omega) (λi _=>(jK hs.y hy6 ha hb hd i).fit (by omega)) (Je _ _) (Ei hd (by omega)) (λi _=>(fG hs.y hy6 ha hb hd i).fit (by omega))) ?_
 refine Ae 3 ?_
 refine Ci (.ptr 1 1) .none (Bv 203 (.tmp 8) (.tmp 36) (by kernel_rfl) underlying203 1 0 1 1 1 (by kernel_rfl) (by kernel_rfl) sizeOf202 (by decide) (by omega) (by decide)) ?_
 refine Ae 5 ?_
 refine No (.int .i64 2) (.int .i64 2) ?_
 refine Ae 17 ?_
 refine Ci (Ao s.z) .none (Dk 147 (.tmp 14) (.tmp 15) (by kernel_rfl) underlying147 1 sizeOf23 2 false isAgg23 [Ao s.x,Ao s.y,Ao s.z] 2 (by kernel_rfl) (by kernel_rfl) (by omega) (by decide) (Nat.le_of_ble_eq_true (by kernel_rfl)) (by decide) (Ao s.z) (by kernel_rfl)) ?_
 refine Ae 7 ?_
 refine Ds (Wn s.z hz0 (by omega) hs.z) ?_
 refine Ae 11 ?_
 refine Ds (Gf a ha.1 ha.2) ?_
 refine Ae 1 ?_
 refine Ds (Gf b hb.1 hb.2) ?_
 refine Ae 1 ?_
 refine Ds (Gf d hd.1 hd.2) ?_
 refine Ds (Tn (cZ s.z) (Yt s.z) a b d (by omega) hs.z (Je _ _) ha hb hd hdp) ?_
 refine Ae 12 ?_
 refine Fw ((6:Int)-(s.z.length:Int)) ((6-s.z.length:Nat):Int) ?_
 refine Ds (Fz d (6-s.z.length) hd.1 hd.2 (by omega) (λj hj=>Ei hd (by omega))) ?_
 refine Ds (Zt (Fh (nV s.z a b d) (cZ s.z)) (nV s.z a b d) (d^(6-s.z.length)) (by have:=He (nV s.z a b d) (cZ s.z);omega) (λi _=>(jK hs.z hz6 ha hb hd i).fit (by omega)) (Je _ _) (Ei hd (by omega)) (λi _=>(fG hs.z hz6 ha hb hd i).fit (by omega))) ?_
 refine Ae 3 ?_
 refine Ci (.ptr 1 2) .none (Bv 203 (.tmp 8) (.tmp 36) (by kernel_rfl) underlying203 1 0 1 2 2 (by kernel_rfl) (by kernel_rfl) sizeOf202 (by decide) (by omega) (by decide)) ?_
 refine Ae 5 ?_
 refine No (.int .i64 3) (.int .i64 3) ?_
 refine Ae 22 ?_
 exact Hq
def gF (c:Nat->Int) (g:Int):Nat->Int
 |0=>g
 |k+1=>(Nat.gcd (gF c g k).natAbs (c k).natAbs:Int)
theorem uB {c:Nat->Int} {g:Int} {n:Nat} (hg:Bd 1000 g) (hc:∀i,i<n->Bd 1000 (c i)):∀k,k<=n->Bd 1000 (gF c g k)
 |0,_=>hg
 |k+1,h=>(uB hg hc k (by omega)).gcd (hc k (by omega))
theorem jC {c:Nat->Int} {g:Int} (hg:0<g):∀k,0<gF c g k
 |0=>hg
 |k+1=>by
  have h1:=jC (c:=c) hg k
  have:0<Nat.gcd (gF c g k).natAbs (c k).natAbs:=Nat.gcd_pos_of_pos_left _ (by omega)
  rw[gF];omega
def iR (z:Int):Int:=if -9223372036854775808<=z/\z<=9223372036854775807 then z else 0
def iE (z:Int):Int:=if -9223372036854775808<=z/\z<=9223372036854775807 then 0 else 3
theorem AeU {z:Int} (h:Cy z):iR z=z:=if_pos h
theorem Mc (z:Int) (h:Fd z):AF Tryz.prog 68 [WA z] (.lit (.tuple #[.int .i64 (iR z),.int .i64 (iE z)])):=Ix (vs:=[_]) λw=>by
 unfold iR iE
 by_cases h0: -9223372036854775808<=z/\z<=9223372036854775807
 rw[if_pos h0,if_pos h0];exact AbV z w h0.1 h0.2
 rw[if_neg h0,if_neg h0];exact pM z w h h0
theorem lP (x y:Int) (hx:Fd x) (hy:Fd y):AF Tryz.prog 147 [WA x,WA y] (.int (x-y).sign):=Ix (vs:=[_,_]) λw=>Wk x y w hx hy
def Iz (n:Nat) (c:Nat->Int) (g:Int) (i:Nat):Int:=if i<n then iR (c i/g) else 0
def gM (nx ny nz:Nat) (cx cy cz:Nat->Int) (o:Int):Int:=gF cz (gF cy (gF cx o nx) ny) nz
abbrev sB:Ck:= .box 81 [.int 0,.int 0,.int 0,.lit (.slice none 0 0),.lit (.slice none 0 0),.lit (.slice none 0 0)]
def Xz (f t:Int) (nx ny nz:Nat) (cx cy cz:Nat->Int) (o:Int):AV:=if (0:Int)<(o/gM nx ny nz cx cy cz o-4294967296).sign then .lit (.tuple #[.agg #[.int .i64 f,.int .i64 t,.int .i64 0,.slice none 0 0,.slice none 0 0,.slice none 0 0],.bool false]) else .tup [.agg [.int f,.int t,.int (iR (o/gM nx ny nz cx cy cz o)),.sl 1 (max nx 1) (λxi=> .int (Iz nx cx (gM nx ny nz cx cy cz o) xi)),.sl 1 (max ny 1) (λxi=> .int (Iz ny cy (gM nx ny nz cx cy cz o) xi)),.sl 1 (max nz 1) (λxi=> .int (Iz nz cz (gM nx ny nz cx cy cz o) xi))],.bool true]
theorem Acj (f t:Int) (nx ny nz:Nat) (cx cy cz:Nat->Int) (o:Int) (hnx:nx<=6) (hny:ny<=6) (hnz:nz<=6) (hx:∀i,i<nx->Bd 1000 (cx i)) (hy:∀i,i<ny->Bd 1000 (cy i)) (hz:∀i,i<nz->Bd 1000 (cz i)) (bo:Bd 1000 o) (ho:0<o):AF Tryz.prog 140 [.int f,.int t,.agg [Bc nx cx,Bc ny cy,Bc nz cz],WA o] (Xz f t nx ny nz cx cy cz o):=by
 have b0:=bo
 have bx:=uB b0 hx
 have b1:=bx nx (Nat.le_refl _)
 have bY:=uB b1 hy
 have b2:=bY ny (Nat.le_refl _)
 have bz:=uB b2 hz
 have bG:Bd 1000 (gM nx ny nz cx cy cz o):=bz nz (Nat.le_refl _)
 have pG:0<gM nx ny nz cx cy cz o:=jC (jC (jC ho nx) ny) nz
 have hk:=Gf 4294967296 (by decide) (by decide)
 have h32:Fd 4294967296:=Iv (by decide) (by decide)
 refine Cx func140 rfl λB D0 hA0=>?_
 refine Ae 23 ?_
 refine zT 3 ?_
 refine Ae 13 ?_
 refine Ci (Bc nx cx) .none (Dk 203 (.tmp 24) (.tmp 25) (by kernel_rfl) underlying203 1 sizeOf202 0 false isAgg202 [Bc nx cx,Bc ny cy,Bc nz cz] 0 (by kernel_rfl) (by kernel_rfl) (by omega) (by decide) (Nat.le_of_ble_eq_true (by kernel_rfl)) (by decide) (Bc nx cx) (by kernel_rfl)) ?_
 refine Ae 11 ?_
 refine zJ (keep:=[0,1,6,7,8,10,24,25,28,29,30]) nx (λk=>⟨[(0,.int f),(1,.int t),(6,.ptr 0 0),(7,.ptr 1 0),(8,.ptr 2 0),(10,.ptr 3 0),(24,.agg [Bc nx cx,Bc ny cy,Bc nz cz]),(25,.int 0),(28,Bc nx cx),(29,.int (nx:Int)),(30,.int (k:Int))],[(0,.box 203 [Bc nx cx,Bc ny cy,Bc nz cz]),(1,wB o),(2,sB),(3,wB (gF cx o k))],4,98⟩) (λk hk J1 hJ1=>?_) ?_
 ·
  refine Ae 3 ?_
  refine Lh 31 (decide ((k:Int)<(nx:Int))) true (decide_eq_true (by omega)) ?_
  refine Ae 10 ?_
  refine Gt k nx ?_
  refine Ae 8 ?_
  refine Ds (Sc _ _ ((bx k (by omega)).fit (by omega)) ((hx k (by omega)).fit (by omega))) ?_
  refine Ae 5 ?_
  refine Fw ((k:Int)+1) ((k+1:Nat):Int) ?_
  refine Ae 2 ?_
  exact Hl [0,1,6,7,8,10,24,25,28,29,30] [(0,0),(1,1),(2,2),(3,3)] 4 0 hA0 [] trivial hJ1
 ·
  refine Ae 3 ?_
  refine Lh 31 (decide ((nx:Int)<(nx:Int))) false (decide_eq_false (by omega)) ?_
  refine Ae 11 ?_
  refine No (.int .i64 1) (.int .i64 1) ?_
  refine Ae 16 ?_
  refine Ci (Bc ny cy) .none (Dk 203 (.tmp 24) (.tmp 25) (by kernel_rfl) underlying203 1 sizeOf202 1 false isAgg202 [Bc nx cx,Bc ny cy,Bc nz cz] 1 (by kernel_rfl) (by kernel_rfl) (by omega) (by decide) (Nat.le_of_ble_eq_true (by kernel_rfl)) (by decide) (Bc ny cy) (by kernel_rfl)) ?_
  refine Ae 11 ?_
  refine zJ (keep:=[0,1,6,7,8,10,24,25,28,29,30]) ny (λk=>⟨[(0,.int f),(1,.int t),(6,.ptr 0 0),(7,.ptr 1 0),(8,.ptr 2 0),(10,.ptr 3 0),(24,.agg [Bc nx cx,Bc ny cy,Bc nz cz]),(25,.int 1),(28,Bc ny cy),(29,.int (ny:Int)),(30,.int (k:Int))],[(0,.box 203 [Bc nx cx,Bc ny cy,Bc nz cz]),(1,wB o),(2,sB),(3,wB (gF cy (gF cx o nx) k))],4,98⟩) (λk hk J2 hJ2=>?_) ?_
  ·
   refine Ae 3 ?_
   refine Lh 31 (decide ((k:Int)<(ny:Int))) true (decide_eq_true (by omega)) ?_
   refine Ae 10 ?_
   refine Gt k ny ?_
   refine Ae 8 ?_
   refine Ds (Sc _ _ ((bY k (by omega)).fit (by omega)) ((hy k (by omega)).fit (by omega))) ?_
   refine Ae 5 ?_
   refine Fw ((k:Int)+1) ((k+1:Nat):Int) ?_
   refine Ae 2 ?_
   exact Hl [0,1,6,7,8,10,24,25,28,29,30] [(0,0),(1,1),(2,2),(3,3)] 4 0 hA0 [] trivial hJ2
  ·
   refine Ae 3 ?_
   refine Lh 31 (decide ((ny:Int)<(ny:Int))) false (decide_eq_false (by omega)) ?_
   refine Ae 11 ?_
   refine No (.int .i64 2) (.int .i64 2) ?_
   refine Ae 16 ?_
   refine Ci (Bc nz cz) .none (Dk 203 (.tmp 24) (.tmp 25) (by kernel_rfl) underlying203 1 sizeOf202 2 false isAgg202 [Bc nx cx,Bc ny cy,Bc nz cz] 2 (by kernel_rfl) (by kernel_rfl) (by omega) (by decide) (Nat.le_of_ble_eq_true (by kernel_rfl)) (by decide) (Bc nz cz) (by kernel_rfl)) ?_
   refine Ae 11 ?_
   refine zJ (keep:=[0,1,6,7,8,10,24,25,28,29,30]) nz (λk=>⟨[(0,.int f),(1,.int t),(6,.ptr 0 0),(7,.ptr 1 0),(8,.ptr 2 0),(10,.ptr 3 0),(24,.agg [Bc nx cx,Bc ny cy,Bc nz cz]),(25,.int 2),(28,Bc nz cz),(29,.int (nz:Int)),(30,.int (k:Int))],[(0,.box 203 [Bc nx cx,Bc ny cy,Bc nz cz]),(1,wB o),(2,sB),(3,wB (gF cz (gF cy (gF cx o nx) ny) k))],4,98⟩) (λk hk J3 hJ3=>?_) ?_
   ·
    refine Ae 3 ?_
    refine Lh 31 (decide ((k:Int)<(nz:Int))) true (decide_eq_true (by omega)) ?_
    refine Ae 10 ?_
    refine Gt k nz ?_
    refine Ae 8 ?_
    refine Ds (Sc _ _ ((bz k (by omega)).fit (by omega)) ((hz k (by omega)).fit (by omega))) ?_
    refine Ae 5 ?_
    refine Fw ((k:Int)+1) ((k+1:Nat):Int) ?_
    refine Ae 2 ?_
    exact Hl [0,1,6,7,8,10,24,25,28,29,30] [(0,0),(1,1),(2,2),(3,3)] 4 0 hA0 [] trivial hJ3
   ·
    refine Ae 3 ?_
    refine Lh 31 (decide ((nz:Int)<(nz:Int))) false (decide_eq_false (by omega)) ?_
    refine Ae 11 ?_
    refine No (.int .i64 3) (.int .i64 3) ?_
    refine Ae 28 ?_
    refine Ds (Jv _ _ (bo.fit (by omega)) (bG.fit (by omega)) (by omega)) ?_
    refine Ae 6 ?_
    refine Kg [(1,_,.none),(2,_,.none)] [6,8,10,15,16,48] ⟨Hj hk,Hj (lP (o/(gM nx ny nz cx cy cz o)) 4294967296 ((bo.div _).fit (by omega)) h32),trivial⟩ ?_
    refine Ae 1 ?_
    refine Gu 48 ((0:Int)<(o/gM nx ny nz cx cy cz o-4294967296).sign) (λhx1 hx1d=>?_) (λhx1 hx1d=>?_)
    ·
     refine Ae 10 ?_
     exact Ha (.lit (.tuple #[.agg #[.int .i64 f,.int .i64 t,.int .i64 0,.slice none 0 0,.slice none 0 0,.slice none 0 0],.bool false])) (show (.lit _:AV)=_ by unfold Xz;rw[if_pos hx1d])
    ·
     refine Ae 6 ?_
     refine Ds (Mc (o/(gM nx ny nz cx cy cz o)) ((bo.div _).fit (by omega))) ?_
     refine Ae 18 ?_
     refine zT 3 ?_
     refine Ae 9 ?_
     refine vjn ⟨[(6,.ptr 0 0),(8,.ptr 2 0),(10,.ptr 3 0),(15,.ptr 4 0),(59,.agg [.ptr 4 3,.ptr 4 4,.ptr 4 5]),(60,.int 0)],[(0,.box 203 [Bc nx cx,Bc ny cy,Bc nz cz]),(1,wB o),(2,sB),(3,wB (gM nx ny nz cx cy cz o)),(4,.box 81 [.int f,.int t,.int (iR (o/(gM nx ny nz cx cy cz o))),.sl 1 (max nx 1) (λxi=> .int (Iz nx cx (gM nx ny nz cx cy cz o) xi)),.lit (.slice none 0 0),.lit (.slice none 0 0)]),(5,wB (o/(gM nx ny nz cx cy cz o)))],30,98⟩ ?_ (λJ4 hJ4=>?_)
     ·
      refine Ae 1 ?_
      refine No (.int .i64 1) (.int .i64 1) ?_
      refine Ae 12 ?_
      refine vjn ⟨[(6,.ptr 0 0),(8,.ptr 2 0),(10,.ptr 3 0),(15,.ptr 4 0),(59,.agg [.ptr 4 3,.ptr 4 4,.ptr 4 5]),(60,.int 1)],[(0,.box 203 [Bc nx cx,Bc ny cy,Bc nz cz]),(1,wB o),(2,sB),(3,wB (gM nx ny nz cx cy cz o)),(4,.box 81 [.int f,.int t,.int (iR (o/(gM nx ny nz cx cy cz o))),.sl 1 (max nx 1) (λxi=> .int (Iz nx cx (gM nx ny nz cx cy cz o) xi)),.sl 1 (max ny 1) (λxi=> .int (Iz ny cy (gM nx ny nz cx cy cz o) xi)),.lit (.slice none 0 0)]),(5,wB (o/(gM nx ny nz cx cy cz o)))],32,98⟩ ?_ (λJ5 hJ5=>?_)
      ·
       refine Ae 1 ?_
       refine No (.int .i64 2) (.int .i64 2) ?_
       refine Ae 12 ?_
       refine vjn ⟨[(6,.ptr 0 0),(8,.ptr 2 0),(10,.ptr 3 0),(15,.ptr 4 0),(59,.agg [.ptr 4 3,.ptr 4 4,.ptr 4 5]),(60,.int 2)],[(0,.box 203 [Bc nx cx,Bc ny cy,Bc nz cz]),(1,wB o),(2,sB),(3,wB (gM nx ny nz cx cy cz o)),(4,.box 81 [.int f,.int t,.int (iR (o/(gM nx ny nz cx cy cz o))),.sl 1 (max nx 1) (λxi=> .int (Iz nx cx (gM nx ny nz cx cy cz o) xi)),.sl 1 (max ny 1) (λxi=> .int (Iz ny cy (gM nx ny nz cx cy cz o) xi)),.sl 1 (max nz 1) (λxi=> .int (Iz nz cz (gM nx ny nz cx cy cz o) xi))]),(5,wB (o/(gM nx ny nz cx cy cz o)))],34,98⟩ ?_ (λJ6 hJ6=>?_)
       ·
        refine Ae 1 ?_
        refine No (.int .i64 3) (.int .i64 3) ?_
        refine Ae 23 ?_
        exact Ha (.tup [.agg [.int f,.int t,.int (iR (o/(gM nx ny nz cx cy cz o))),.sl 1 (max nx 1) (λxi=> .int (Iz nx cx (gM nx ny nz cx cy cz o) xi)),.sl 1 (max ny 1) (λxi=> .int (Iz ny cy (gM nx ny nz cx cy cz o) xi)),.sl 1 (max nz 1) (λxi=> .int (Iz nz cz (gM nx ny nz cx cy cz o) xi))],.bool true]) (show (.tup [.agg [_,_,_,_,_,_],_]:AV)=_ by unfold Xz;rw[if_neg hx1d])
       ·
        refine Ae 4 ?_
        refine Ci (.ptr 4 5) .none (Dk 222 (.tmp 59) (.tmp 60) (by kernel_rfl) underlying222 1 sizeOf221 2 false isAgg221 [.ptr 4 3,.ptr 4 4,.ptr 4 5] 2 (by kernel_rfl) (by kernel_rfl) (by omega) (by decide) (Nat.le_of_ble_eq_true (by kernel_rfl)) (by decide) (.ptr 4 5) (by kernel_rfl)) ?_
        refine Ae 8 ?_
        refine Ci (.ptr 0 2) .none (Bv 203 (.tmp 6) (.tmp 64) (by kernel_rfl) underlying203 0 0 1 2 2 (by kernel_rfl) (by kernel_rfl) sizeOf202 (by decide) (by omega) (by decide)) ?_
        refine Ae 6 ?_
        refine kU [6,8,10,15,18,59,60,66,67,68] (λm s=>∃k,k<=nz/\m=nz-k/\True/\((k=0/\s=⟨[(6,.ptr 0 0),(8,.ptr 2 0),(10,.ptr 3 0),(15,.ptr 4 0),(18,.ptr 4 5),(59,.agg [.ptr 4 3,.ptr 4 4,.ptr 4 5]),(60,.int 2),(66,Bc nz cz),(67,.int (nz:Int)),(68,.int ((0:Nat):Int))],[(0,.box 203 [Bc nx cx,Bc ny cy,Bc nz cz]),(1,wB o),(2,sB),(3,wB (gM nx ny nz cx cy cz o)),(4,.box 81 [.int f,.int t,.int (iR (o/(gM nx ny nz cx cy cz o))),.sl 1 (max nx 1) (λxi=> .int (Iz nx cx (gM nx ny nz cx cy cz o) xi)),.sl 1 (max ny 1) (λxi=> .int (Iz ny cy (gM nx ny nz cx cy cz o) xi)),.lit (.slice none 0 0)]),(5,wB (o/(gM nx ny nz cx cy cz o)))],32,98⟩)\/(0<k/\s=⟨[(6,.ptr 0 0),(8,.ptr 2 0),(10,.ptr 3 0),(15,.ptr 4 0),(18,.ptr 4 5),(59,.agg [.ptr 4 3,.ptr 4 4,.ptr 4 5]),(60,.int 2),(66,Bc nz cz),(67,.int (nz:Int)),(68,.int (k:Int))],[(0,.box 203 [Bc nx cx,Bc ny cy,Bc nz cz]),(1,wB o),(2,sB),(3,wB (gM nx ny nz cx cy cz o)),(4,.box 81 [.int f,.int t,.int (iR (o/(gM nx ny nz cx cy cz o))),.sl 1 (max nx 1) (λxi=> .int (Iz nx cx (gM nx ny nz cx cy cz o) xi)),.sl 1 (max ny 1) (λxi=> .int (Iz ny cy (gM nx ny nz cx cy cz o) xi)),.osl 20 1 k]),(5,wB (o/(gM nx ny nz cx cy cz o))),(20,.vec 3 1 k (λxi=> .int (Iz nz cz (gM nx ny nz cx cy cz o) xi)))],21,98⟩))) nz ⟨0,Nat.zero_le _,rfl,trivial,.inl ⟨rfl,(by kernel_rfl)⟩⟩ ?_
        rintro _ _ ⟨k,hkn,rfl,hFk,(⟨hk0,rfl⟩|⟨hk0,rfl⟩)⟩ J7 hJ7
        ·
         subst hk0
         refine Ae 6 ?_
         refine Gu 69 (((0:Nat):Int)<(nz:Int)) (λhx2 hx2d=>?_) (λhx2 hx2d=>?_)
         ·
          refine Ae 7 ?_
          refine Gt 0 nz ?_
          refine Ae 9 ?_
          refine Ds (Jv (cz 0) (gM nx ny nz cx cy cz o) ((hz _ (by omega)).fit (by omega)) (bG.fit (by omega)) (by omega)) ?_
          refine Ds (Mc (cz 0/(gM nx ny nz cx cy cz o)) (((hz _ (by omega)).div _).fit (by omega))) ?_
          refine Ae 13 ?_
          refine Ci (.osl 33 1 1) (.new 33 (.vec 3 1 1 (λ_=> .int (iR (cz 0/(gM nx ny nz cx cy cz o)))))) (Ak 23 1 #[(0,(.tmp 83))] (by kernel_rfl) underlying23 1 sizeOf3 _ zeroValue3 (by kernel_rfl) (Nat.le_of_ble_eq_true (by kernel_rfl)) (Nat.le_of_ble_eq_true (by kernel_rfl)) (Nat.le_of_ble_eq_true (by kernel_rfl)) 33 [.int (iR (cz 0/(gM nx ny nz cx cy cz o)))] (by kernel_rfl) (λ_=> .int (iR (cz 0/(gM nx ny nz cx cy cz o)))) (by kernel_rfl)) ?_
          refine Ci (.osl 34 1 1) (.newr 33 34 (.vec 3 1 1 (λxi=> .int (Iz nz cz (gM nx ny nz cx cy cz o) xi)))) (Cp (.tmp 82) (.tmp 84) 23 (by kernel_rfl) underlying23 1 8 (.int .i64 0) (by kernel_rfl) (by kernel_rfl) (by decide) 1 (by omega) (λ_=> .int (iR (cz 0/(gM nx ny nz cx cy cz o)))) (λxi=> .int (Iz nz cz (gM nx ny nz cx cy cz o) xi)) 34 (λi hi=>by(obtain rfl:i=0:=(by omega));show AV.int (Iz _ _ _ _)=_;rw[Iz,if_pos (by omega)]<;>rfl) (λi hi j hj=>by obtain rfl:j=0:=(by omega);rfl) (by unfold maxLen;omega) (by omega) (by kernel_rfl) 33 3 (by kernel_rfl) (by kernel_rfl)) ?_
          refine Ae 6 ?_
          refine Fw (((0:Nat):Int)+1) ((0+1:Nat):Int) ?_
          refine Ae 2 ?_
          exact Hl [6,8,10,15,18,59,60,66,67,68] [(0,0),(1,1),(2,2),(3,3),(4,4),(5,5),(34,20)] 21 0 hA0 [(3,1,1,(λ_=> .int (iR (cz 0/(gM nx ny nz cx cy cz o))))),(3,1,1,(λxi=> .int (Iz nz cz (gM nx ny nz cx cy cz o) xi)))] ⟨(Hf λ_ _=>rfl),(Hf λ_ _=>rfl),trivial⟩ (hJ7 _ _ (by omega:nz-(0+1)<nz-0) ⟨0+1,(by omega),rfl,trivial,.inr ⟨Nat.succ_pos _,rfl⟩⟩)
         ·
          refine Ae 6 ?_
          refine zM 33 ?_
          refine Ae 12 ?_
          refine Ci (.osl 33 1 1) (.new 33 (.vec 3 1 1 (λ_=> .int 0))) (Ak 23 1 #[(0,(.const (.int .i64 0)))] (by kernel_rfl) underlying23 1 sizeOf3 _ zeroValue3 (by kernel_rfl) (Nat.le_of_ble_eq_true (by kernel_rfl)) (Nat.le_of_ble_eq_true (by kernel_rfl)) (Nat.le_of_ble_eq_true (by kernel_rfl)) 33 [.int 0] (by kernel_rfl) (λ_=> .int 0) (by kernel_rfl)) ?_
          refine cR 33 [94] 3 1 1 (λ_=> .int 0) (Hf λ_ _=>rfl) ?_
          refine Ae 4 ?_
          exact Qm [6,8,10,15,59,60] hJ6 (hs:=(by rw[show nz=0 by omega];kernel_rfl))
        ·
         refine Ae 6 ?_
         refine Gu 69 ((k:Int)<(nz:Int)) (λhx3 hx3d=>?_) (λhx3 hx3d=>?_)
         ·
          refine Ae 7 ?_
          refine Gt k nz ?_
          refine Ae 9 ?_
          refine Ds (Jv (cz k) (gM nx ny nz cx cy cz o) ((hz _ (by omega)).fit (by omega)) (bG.fit (by omega)) (by omega)) ?_
          refine Ds (Mc (cz k/(gM nx ny nz cx cy cz o)) (((hz _ (by omega)).div _).fit (by omega))) ?_
          refine Ae 13 ?_
          refine Ci (.osl 22 1 1) (.new 22 (.vec 3 1 1 (λ_=> .int (iR (cz k/(gM nx ny nz cx cy cz o)))))) (Ak 23 1 #[(0,(.tmp 83))] (by kernel_rfl) underlying23 1 sizeOf3 _ zeroValue3 (by kernel_rfl) (Nat.le_of_ble_eq_true (by kernel_rfl)) (Nat.le_of_ble_eq_true (by kernel_rfl)) (Nat.le_of_ble_eq_true (by kernel_rfl)) 22 [.int (iR (cz k/(gM nx ny nz cx cy cz o)))] (by kernel_rfl) (λ_=> .int (iR (cz k/(gM nx ny nz cx cy cz o)))) (by kernel_rfl)) ?_
          refine Ci (.osl 23 1 (k+1)) (.grow2 20 22 23 (.vec 3 1 (k+1) (λxi=> .int (Iz nz cz (gM nx ny nz cx cy cz o) xi)))) (Cz (.tmp 82) (.tmp 84) 23 (by kernel_rfl) underlying23 1 8 (.int .i64 0) (by kernel_rfl) (by kernel_rfl) (by decide) k 1 (by omega) (λxi=> .int (Iz nz cz (gM nx ny nz cx cy cz o) xi)) (λ_=> .int (iR (cz k/(gM nx ny nz cx cy cz o)))) (λxi=> .int (Iz nz cz (gM nx ny nz cx cy cz o) xi)) 23 (by omega) (by unfold maxLen;omega) (λi hi=>rfl) (λi hi=>by(obtain rfl:i=0:=(by omega));show AV.int (Iz _ _ _ _)=_;rw[Iz,if_pos (by omega)]<;>rfl) (λi hi j hj=>by obtain rfl:j=0:=(by omega);rfl) 20 (by kernel_rfl) (by kernel_rfl) 22 3 (by kernel_rfl) (by kernel_rfl)) ?_
          refine Ae 6 ?_
          refine Fw ((k:Int)+1) ((k+1:Nat):Int) ?_
          refine Ae 2 ?_
          exact Hl [6,8,10,15,18,59,60,66,67,68] [(0,0),(1,1),(2,2),(3,3),(4,4),(5,5),(23,20)] 21 0 hA0 [(3,1,1,(λ_=> .int (iR (cz k/(gM nx ny nz cx cy cz o))))),(3,1,k+1,(λxi=> .int (Iz nz cz (gM nx ny nz cx cy cz o) xi)))] ⟨(Hf λ_ _=>rfl),(Hf λ_ _=>rfl),trivial⟩ (hJ7 _ _ (by omega:nz-(k+1)<nz-k) ⟨k+1,(by omega),rfl,trivial,.inr ⟨Nat.succ_pos _,rfl⟩⟩)
         ·
          refine Ae 6 ?_
          refine zI 20 4 5 3 1 k (λxi=> .int (Iz nz cz (gM nx ny nz cx cy cz o) xi)) (Hf λ_ _=>rfl) ?_
          have hke:k=max nz 1:=by omega
          subst hke
          refine zM 34 ?_
          refine Ae 7 ?_
          refine Lh 92 (decide (((max nz 1:Nat):Int)=0)) false (decide_eq_false (by omega)) ?_
          refine Ae 5 ?_
          exact Qm [6,8,10,15,59,60] hJ6
      ·
       refine Ae 4 ?_
       refine Ci (.ptr 4 4) .none (Dk 222 (.tmp 59) (.tmp 60) (by kernel_rfl) underlying222 1 sizeOf221 1 false isAgg221 [.ptr 4 3,.ptr 4 4,.ptr 4 5] 1 (by kernel_rfl) (by kernel_rfl) (by omega) (by decide) (Nat.le_of_ble_eq_true (by kernel_rfl)) (by decide) (.ptr 4 4) (by kernel_rfl)) ?_
       refine Ae 8 ?_
       refine Ci (.ptr 0 1) .none (Bv 203 (.tmp 6) (.tmp 64) (by kernel_rfl) underlying203 0 0 1 1 1 (by kernel_rfl) (by kernel_rfl) sizeOf202 (by decide) (by omega) (by decide)) ?_
       refine Ae 6 ?_
       refine kU [6,8,10,15,18,59,60,66,67,68] (λm s=>∃k,k<=ny/\m=ny-k/\True/\((k=0/\s=⟨[(6,.ptr 0 0),(8,.ptr 2 0),(10,.ptr 3 0),(15,.ptr 4 0),(18,.ptr 4 4),(59,.agg [.ptr 4 3,.ptr 4 4,.ptr 4 5]),(60,.int 1),(66,Bc ny cy),(67,.int (ny:Int)),(68,.int ((0:Nat):Int))],[(0,.box 203 [Bc nx cx,Bc ny cy,Bc nz cz]),(1,wB o),(2,sB),(3,wB (gM nx ny nz cx cy cz o)),(4,.box 81 [.int f,.int t,.int (iR (o/(gM nx ny nz cx cy cz o))),.sl 1 (max nx 1) (λxi=> .int (Iz nx cx (gM nx ny nz cx cy cz o) xi)),.lit (.slice none 0 0),.lit (.slice none 0 0)]),(5,wB (o/(gM nx ny nz cx cy cz o)))],30,98⟩)\/(0<k/\s=⟨[(6,.ptr 0 0),(8,.ptr 2 0),(10,.ptr 3 0),(15,.ptr 4 0),(18,.ptr 4 4),(59,.agg [.ptr 4 3,.ptr 4 4,.ptr 4 5]),(60,.int 1),(66,Bc ny cy),(67,.int (ny:Int)),(68,.int (k:Int))],[(0,.box 203 [Bc nx cx,Bc ny cy,Bc nz cz]),(1,wB o),(2,sB),(3,wB (gM nx ny nz cx cy cz o)),(4,.box 81 [.int f,.int t,.int (iR (o/(gM nx ny nz cx cy cz o))),.sl 1 (max nx 1) (λxi=> .int (Iz nx cx (gM nx ny nz cx cy cz o) xi)),.osl 20 1 k,.lit (.slice none 0 0)]),(5,wB (o/(gM nx ny nz cx cy cz o))),(20,.vec 3 1 k (λxi=> .int (Iz ny cy (gM nx ny nz cx cy cz o) xi)))],21,98⟩))) ny ⟨0,Nat.zero_le _,rfl,trivial,.inl ⟨rfl,(by kernel_rfl)⟩⟩ ?_
       rintro _ _ ⟨k,hkn,rfl,hFk,(⟨hk0,rfl⟩|⟨hk0,rfl⟩)⟩ J8 hJ8
       ·
        subst hk0
        refine Ae 6 ?_
        refine Gu 69 (((0:Nat):Int)<(ny:Int)) (λhx4 hx4d=>?_) (λhx4 hx4d=>?_)
        ·
         refine Ae 7 ?_
         refine Gt 0 ny ?_
         refine Ae 9 ?_
         refine Ds (Jv (cy 0) (gM nx ny nz cx cy cz o) ((hy _ (by omega)).fit (by omega)) (bG.fit (by omega)) (by omega)) ?_
         refine Ds (Mc (cy 0/(gM nx ny nz cx cy cz o)) (((hy _ (by omega)).div _).fit (by omega))) ?_
         refine Ae 13 ?_
         refine Ci (.osl 31 1 1) (.new 31 (.vec 3 1 1 (λ_=> .int (iR (cy 0/(gM nx ny nz cx cy cz o)))))) (Ak 23 1 #[(0,(.tmp 83))] (by kernel_rfl) underlying23 1 sizeOf3 _ zeroValue3 (by kernel_rfl) (Nat.le_of_ble_eq_true (by kernel_rfl)) (Nat.le_of_ble_eq_true (by kernel_rfl)) (Nat.le_of_ble_eq_true (by kernel_rfl)) 31 [.int (iR (cy 0/(gM nx ny nz cx cy cz o)))] (by kernel_rfl) (λ_=> .int (iR (cy 0/(gM nx ny nz cx cy cz o)))) (by kernel_rfl)) ?_
         refine Ci (.osl 32 1 1) (.newr 31 32 (.vec 3 1 1 (λxi=> .int (Iz ny cy (gM nx ny nz cx cy cz o) xi)))) (Cp (.tmp 82) (.tmp 84) 23 (by kernel_rfl) underlying23 1 8 (.int .i64 0) (by kernel_rfl) (by kernel_rfl) (by decide) 1 (by omega) (λ_=> .int (iR (cy 0/(gM nx ny nz cx cy cz o)))) (λxi=> .int (Iz ny cy (gM nx ny nz cx cy cz o) xi)) 32 (λi hi=>by(obtain rfl:i=0:=(by omega));show AV.int (Iz _ _ _ _)=_;rw[Iz,if_pos (by omega)]<;>rfl) (λi hi j hj=>by obtain rfl:j=0:=(by omega);rfl) (by unfold maxLen;omega) (by omega) (by kernel_rfl) 31 3 (by kernel_rfl) (by kernel_rfl)) ?_
         refine Ae 6 ?_
         refine Fw (((0:Nat):Int)+1) ((0+1:Nat):Int) ?_
         refine Ae 2 ?_
         exact Hl [6,8,10,15,18,59,60,66,67,68] [(0,0),(1,1),(2,2),(3,3),(4,4),(5,5),(32,20)] 21 0 hA0 [(3,1,1,(λ_=> .int (iR (cy 0/(gM nx ny nz cx cy cz o))))),(3,1,1,(λxi=> .int (Iz ny cy (gM nx ny nz cx cy cz o) xi)))] ⟨(Hf λ_ _=>rfl),(Hf λ_ _=>rfl),trivial⟩ (hJ8 _ _ (by omega:ny-(0+1)<ny-0) ⟨0+1,(by omega),rfl,trivial,.inr ⟨Nat.succ_pos _,rfl⟩⟩)
        ·
         refine Ae 6 ?_
         refine zM 31 ?_
         refine Ae 12 ?_
         refine Ci (.osl 31 1 1) (.new 31 (.vec 3 1 1 (λ_=> .int 0))) (Ak 23 1 #[(0,(.const (.int .i64 0)))] (by kernel_rfl) underlying23 1 sizeOf3 _ zeroValue3 (by kernel_rfl) (Nat.le_of_ble_eq_true (by kernel_rfl)) (Nat.le_of_ble_eq_true (by kernel_rfl)) (Nat.le_of_ble_eq_true (by kernel_rfl)) 31 [.int 0] (by kernel_rfl) (λ_=> .int 0) (by kernel_rfl)) ?_
         refine cR 31 [94] 3 1 1 (λ_=> .int 0) (Hf λ_ _=>rfl) ?_
         refine Ae 4 ?_
         exact Qm [6,8,10,15,59,60] hJ5 (hs:=(by rw[show ny=0 by omega];kernel_rfl))
       ·
        refine Ae 6 ?_
        refine Gu 69 ((k:Int)<(ny:Int)) (λhx5 hx5d=>?_) (λhx5 hx5d=>?_)
        ·
         refine Ae 7 ?_
         refine Gt k ny ?_
         refine Ae 9 ?_
         refine Ds (Jv (cy k) (gM nx ny nz cx cy cz o) ((hy _ (by omega)).fit (by omega)) (bG.fit (by omega)) (by omega)) ?_
         refine Ds (Mc (cy k/(gM nx ny nz cx cy cz o)) (((hy _ (by omega)).div _).fit (by omega))) ?_
         refine Ae 13 ?_
         refine Ci (.osl 22 1 1) (.new 22 (.vec 3 1 1 (λ_=> .int (iR (cy k/(gM nx ny nz cx cy cz o)))))) (Ak 23 1 #[(0,(.tmp 83))] (by kernel_rfl) underlying23 1 sizeOf3 _ zeroValue3 (by kernel_rfl) (Nat.le_of_ble_eq_true (by kernel_rfl)) (Nat.le_of_ble_eq_true (by kernel_rfl)) (Nat.le_of_ble_eq_true (by kernel_rfl)) 22 [.int (iR (cy k/(gM nx ny nz cx cy cz o)))] (by kernel_rfl) (λ_=> .int (iR (cy k/(gM nx ny nz cx cy cz o)))) (by kernel_rfl)) ?_
         refine Ci (.osl 23 1 (k+1)) (.grow2 20 22 23 (.vec 3 1 (k+1) (λxi=> .int (Iz ny cy (gM nx ny nz cx cy cz o) xi)))) (Cz (.tmp 82) (.tmp 84) 23 (by kernel_rfl) underlying23 1 8 (.int .i64 0) (by kernel_rfl) (by kernel_rfl) (by decide) k 1 (by omega) (λxi=> .int (Iz ny cy (gM nx ny nz cx cy cz o) xi)) (λ_=> .int (iR (cy k/(gM nx ny nz cx cy cz o)))) (λxi=> .int (Iz ny cy (gM nx ny nz cx cy cz o) xi)) 23 (by omega) (by unfold maxLen;omega) (λi hi=>rfl) (λi hi=>by(obtain rfl:i=0:=(by omega));show AV.int (Iz _ _ _ _)=_;rw[Iz,if_pos (by omega)]<;>rfl) (λi hi j hj=>by obtain rfl:j=0:=(by omega);rfl) 20 (by kernel_rfl) (by kernel_rfl) 22 3 (by kernel_rfl) (by kernel_rfl)) ?_
         refine Ae 6 ?_
         refine Fw ((k:Int)+1) ((k+1:Nat):Int) ?_
         refine Ae 2 ?_
         exact Hl [6,8,10,15,18,59,60,66,67,68] [(0,0),(1,1),(2,2),(3,3),(4,4),(5,5),(23,20)] 21 0 hA0 [(3,1,1,(λ_=> .int (iR (cy k/(gM nx ny nz cx cy cz o))))),(3,1,k+1,(λxi=> .int (Iz ny cy (gM nx ny nz cx cy cz o) xi)))] ⟨(Hf λ_ _=>rfl),(Hf λ_ _=>rfl),trivial⟩ (hJ8 _ _ (by omega:ny-(k+1)<ny-k) ⟨k+1,(by omega),rfl,trivial,.inr ⟨Nat.succ_pos _,rfl⟩⟩)
        ·
         refine Ae 6 ?_
         refine zI 20 4 4 3 1 k (λxi=> .int (Iz ny cy (gM nx ny nz cx cy cz o) xi)) (Hf λ_ _=>rfl) ?_
         have hke:k=max ny 1:=by omega
         subst hke
         refine zM 32 ?_
         refine Ae 7 ?_
         refine Lh 92 (decide (((max ny 1:Nat):Int)=0)) false (decide_eq_false (by omega)) ?_
         refine Ae 5 ?_
         exact Qm [6,8,10,15,59,60] hJ5
     ·
      refine Ae 4 ?_
      refine Ci (.ptr 4 3) .none (Dk 222 (.tmp 59) (.tmp 60) (by kernel_rfl) underlying222 1 sizeOf221 0 false isAgg221 [.ptr 4 3,.ptr 4 4,.ptr 4 5] 0 (by kernel_rfl) (by kernel_rfl) (by omega) (by decide) (Nat.le_of_ble_eq_true (by kernel_rfl)) (by decide) (.ptr 4 3) (by kernel_rfl)) ?_
      refine Ae 8 ?_
      refine Ci (.ptr 0 0) .none (Bv 203 (.tmp 6) (.tmp 64) (by kernel_rfl) underlying203 0 0 1 0 0 (by kernel_rfl) (by kernel_rfl) sizeOf202 (by decide) (by omega) (by decide)) ?_
      refine Ae 6 ?_
      refine kU [6,8,10,15,18,59,60,66,67,68] (λm s=>∃k,k<=nx/\m=nx-k/\True/\((k=0/\s=⟨[(6,.ptr 0 0),(8,.ptr 2 0),(10,.ptr 3 0),(15,.ptr 4 0),(18,.ptr 4 3),(59,.agg [.ptr 4 3,.ptr 4 4,.ptr 4 5]),(60,.int 0),(66,Bc nx cx),(67,.int (nx:Int)),(68,.int ((0:Nat):Int))],[(0,.box 203 [Bc nx cx,Bc ny cy,Bc nz cz]),(1,wB o),(2,sB),(3,wB (gM nx ny nz cx cy cz o)),(4,.box 81 [.int f,.int t,.int (iR (o/(gM nx ny nz cx cy cz o))),.lit (.slice none 0 0),.lit (.slice none 0 0),.lit (.slice none 0 0)]),(5,wB (o/(gM nx ny nz cx cy cz o)))],6,98⟩)\/(0<k/\s=⟨[(6,.ptr 0 0),(8,.ptr 2 0),(10,.ptr 3 0),(15,.ptr 4 0),(18,.ptr 4 3),(59,.agg [.ptr 4 3,.ptr 4 4,.ptr 4 5]),(60,.int 0),(66,Bc nx cx),(67,.int (nx:Int)),(68,.int (k:Int))],[(0,.box 203 [Bc nx cx,Bc ny cy,Bc nz cz]),(1,wB o),(2,sB),(3,wB (gM nx ny nz cx cy cz o)),(4,.box 81 [.int f,.int t,.int (iR (o/(gM nx ny nz cx cy cz o))),.osl 20 1 k,.lit (.slice none 0 0),.lit (.slice none 0 0)]),(5,wB (o/(gM nx ny nz cx cy cz o))),(20,.vec 3 1 k (λxi=> .int (Iz nx cx (gM nx ny nz cx cy cz o) xi)))],21,98⟩))) nx ⟨0,Nat.zero_le _,rfl,trivial,.inl ⟨rfl,(by kernel_rfl)⟩⟩ ?_
      rintro _ _ ⟨k,hkn,rfl,hFk,(⟨hk0,rfl⟩|⟨hk0,rfl⟩)⟩ J9 hJ9
      ·
       subst hk0
       refine Ae 6 ?_
       refine Gu 69 (((0:Nat):Int)<(nx:Int)) (λhx6 hx6d=>?_) (λhx6 hx6d=>?_)
       ·
        refine Ae 7 ?_
        refine Gt 0 nx ?_
        refine Ae 9 ?_
        refine Ds (Jv (cx 0) (gM nx ny nz cx cy cz o) ((hx _ (by omega)).fit (by omega)) (bG.fit (by omega)) (by omega)) ?_
        refine Ds (Mc (cx 0/(gM nx ny nz cx cy cz o)) (((hx _ (by omega)).div _).fit (by omega))) ?_
        refine Ae 13 ?_
        refine Ci (.osl 7 1 1) (.new 7 (.vec 3 1 1 (λ_=> .int (iR (cx 0/(gM nx ny nz cx cy cz o)))))) (Ak 23 1 #[(0,(.tmp 83))] (by kernel_rfl) underlying23 1 sizeOf3 _ zeroValue3 (by kernel_rfl) (Nat.le_of_ble_eq_true (by kernel_rfl)) (Nat.le_of_ble_eq_true (by kernel_rfl)) (Nat.le_of_ble_eq_true (by kernel_rfl)) 7 [.int (iR (cx 0/(gM nx ny nz cx cy cz o)))] (by kernel_rfl) (λ_=> .int (iR (cx 0/(gM nx ny nz cx cy cz o)))) (by kernel_rfl)) ?_
        refine Ci (.osl 8 1 1) (.newr 7 8 (.vec 3 1 1 (λxi=> .int (Iz nx cx (gM nx ny nz cx cy cz o) xi)))) (Cp (.tmp 82) (.tmp 84) 23 (by kernel_rfl) underlying23 1 8 (.int .i64 0) (by kernel_rfl) (by kernel_rfl) (by decide) 1 (by omega) (λ_=> .int (iR (cx 0/(gM nx ny nz cx cy cz o)))) (λxi=> .int (Iz nx cx (gM nx ny nz cx cy cz o) xi)) 8 (λi hi=>by(obtain rfl:i=0:=(by omega));show AV.int (Iz _ _ _ _)=_;rw[Iz,if_pos (by omega)]<;>rfl) (λi hi j hj=>by obtain rfl:j=0:=(by omega);rfl) (by unfold maxLen;omega) (by omega) (by kernel_rfl) 7 3 (by kernel_rfl) (by kernel_rfl)) ?_
        refine Ae 6 ?_
        refine Fw (((0:Nat):Int)+1) ((0+1:Nat):Int) ?_
        refine Ae 2 ?_
        exact Hl [6,8,10,15,18,59,60,66,67,68] [(0,0),(1,1),(2,2),(3,3),(4,4),(5,5),(8,20)] 21 0 hA0 [(3,1,1,(λ_=> .int (iR (cx 0/(gM nx ny nz cx cy cz o))))),(3,1,1,(λxi=> .int (Iz nx cx (gM nx ny nz cx cy cz o) xi)))] ⟨(Hf λ_ _=>rfl),(Hf λ_ _=>rfl),trivial⟩ (hJ9 _ _ (by omega:nx-(0+1)<nx-0) ⟨0+1,(by omega),rfl,trivial,.inr ⟨Nat.succ_pos _,rfl⟩⟩)
       ·
        refine Ae 6 ?_
        refine zM 29 ?_
        refine Ae 12 ?_
        refine Ci (.osl 29 1 1) (.new 29 (.vec 3 1 1 (λ_=> .int 0))) (Ak 23 1 #[(0,(.const (.int .i64 0)))] (by kernel_rfl) underlying23 1 sizeOf3 _ zeroValue3 (by kernel_rfl) (Nat.le_of_ble_eq_true (by kernel_rfl)) (Nat.le_of_ble_eq_true (by kernel_rfl)) (Nat.le_of_ble_eq_true (by kernel_rfl)) 29 [.int 0] (by kernel_rfl) (λ_=> .int 0) (by kernel_rfl)) ?_
        refine cR 29 [94] 3 1 1 (λ_=> .int 0) (Hf λ_ _=>rfl) ?_
        refine Ae 4 ?_
        exact Qm [6,8,10,15,59,60] hJ4 (hs:=(by rw[show nx=0 by omega];kernel_rfl))
      ·
       refine Ae 6 ?_
       refine Gu 69 ((k:Int)<(nx:Int)) (λhx7 hx7d=>?_) (λhx7 hx7d=>?_)
       ·
        refine Ae 7 ?_
        refine Gt k nx ?_
        refine Ae 9 ?_
        refine Ds (Jv (cx k) (gM nx ny nz cx cy cz o) ((hx _ (by omega)).fit (by omega)) (bG.fit (by omega)) (by omega)) ?_
        refine Ds (Mc (cx k/(gM nx ny nz cx cy cz o)) (((hx _ (by omega)).div _).fit (by omega))) ?_
        refine Ae 13 ?_
        refine Ci (.osl 22 1 1) (.new 22 (.vec 3 1 1 (λ_=> .int (iR (cx k/(gM nx ny nz cx cy cz o)))))) (Ak 23 1 #[(0,(.tmp 83))] (by kernel_rfl) underlying23 1 sizeOf3 _ zeroValue3 (by kernel_rfl) (Nat.le_of_ble_eq_true (by kernel_rfl)) (Nat.le_of_ble_eq_true (by kernel_rfl)) (Nat.le_of_ble_eq_true (by kernel_rfl)) 22 [.int (iR (cx k/(gM nx ny nz cx cy cz o)))] (by kernel_rfl) (λ_=> .int (iR (cx k/(gM nx ny nz cx cy cz o)))) (by kernel_rfl)) ?_
        refine Ci (.osl 23 1 (k+1)) (.grow2 20 22 23 (.vec 3 1 (k+1) (λxi=> .int (Iz nx cx (gM nx ny nz cx cy cz o) xi)))) (Cz (.tmp 82) (.tmp 84) 23 (by kernel_rfl) underlying23 1 8 (.int .i64 0) (by kernel_rfl) (by kernel_rfl) (by decide) k 1 (by omega) (λxi=> .int (Iz nx cx (gM nx ny nz cx cy cz o) xi)) (λ_=> .int (iR (cx k/(gM nx ny nz cx cy cz o)))) (λxi=> .int (Iz nx cx (gM nx ny nz cx cy cz o) xi)) 23 (by omega) (by unfold maxLen;omega) (λi hi=>rfl) (λi hi=>by(obtain rfl:i=0:=(by omega));show AV.int (Iz _ _ _ _)=_;rw[Iz,if_pos (by omega)]<;>rfl) (λi hi j hj=>by obtain rfl:j=0:=(by omega);rfl) 20 (by kernel_rfl) (by kernel_rfl) 22 3 (by kernel_rfl) (by kernel_rfl)) ?_
        refine Ae 6 ?_
        refine Fw ((k:Int)+1) ((k+1:Nat):Int) ?_
        refine Ae 2 ?_
        exact Hl [6,8,10,15,18,59,60,66,67,68] [(0,0),(1,1),(2,2),(3,3),(4,4),(5,5),(23,20)] 21 0 hA0 [(3,1,1,(λ_=> .int (iR (cx k/(gM nx ny nz cx cy cz o))))),(3,1,k+1,(λxi=> .int (Iz nx cx (gM nx ny nz cx cy cz o) xi)))] ⟨(Hf λ_ _=>rfl),(Hf λ_ _=>rfl),trivial⟩ (hJ9 _ _ (by omega:nx-(k+1)<nx-k) ⟨k+1,(by omega),rfl,trivial,.inr ⟨Nat.succ_pos _,rfl⟩⟩)
       ·
        refine Ae 6 ?_
        refine zI 20 4 3 3 1 k (λxi=> .int (Iz nx cx (gM nx ny nz cx cy cz o) xi)) (Hf λ_ _=>rfl) ?_
        have hke:k=max nx 1:=by omega
        subst hke
        refine zM 30 ?_
        refine Ae 7 ?_
        refine Lh 92 (decide (((max nx 1:Nat):Int)=0)) false (decide_eq_false (by omega)) ?_
        refine Ae 5 ?_
        exact Qm [6,8,10,15,59,60] hJ4
def Yn (n:Nat) (c:Nat->Int) (g:Int):List Int:=(List.range (max n 1)).map (Iz n c g)
theorem tP (n:Nat) (c:Nat->Int) (g:Int) (i:Nat):(Yn n c g).getD i 0=Iz n c g i:=by
 unfold Yn
 rw[List.getD_eq_getElem?_getD,List.getElem?_map]
 by_cases h:i<max n 1
 rw[List.getElem?_range h];rfl
 rw[List.getElem?_eq_none (by simp;omega)]
 show (0:Int)=_
 unfold Iz
 rw[if_neg (by omega)]
theorem aJ (n:Nat) (c:Nat->Int) (g:Int):(Yn n c g).length=max n 1:=by simp[Yn]
def uM (f t:Int) (nx ny nz:Nat) (cx cy cz:Nat->Int) (o:Int):Sg:=⟨f,t,iR (o/gM nx ny nz cx cy cz o),Yn nx cx (gM nx ny nz cx cy cz o),Yn ny cy (gM nx ny nz cx cy cz o),Yn nz cz (gM nx ny nz cx cy cz o)⟩
def uL (nx ny nz:Nat) (cx cy cz:Nat->Int) (o:Int):Bool:=decide ((0:Int)<(o/gM nx ny nz cx cy cz o-4294967296).sign)
theorem Abi {f t:Int} {nx ny nz:Nat} {cx cy cz:Nat->Int} {o:Int} (h:uL nx ny nz cx cy cz o=false):Xz f t nx ny nz cx cy cz o= .tup [Bn (uM f t nx ny nz cx cy cz o),.bool true]:=by
 unfold Xz uM
 rw[if_neg (of_decide_eq_false h)]
 have key:∀n c,(AV.sl 1 (max n 1) λxi=> .int (Iz n c (gM nx ny nz cx cy cz o) xi))=Ao (Yn n c (gM nx ny nz cx cy cz o)):=λn c=>by
  show _=AV.sl 1 (Yn n c (gM nx ny nz cx cy cz o)).length λxi=> .int ((Yn n c (gM nx ny nz cx cy cz o)).getD xi 0)
  rw[aJ,show (λxi=>AV.int ((Yn n c (gM nx ny nz cx cy cz o)).getD xi 0))=λxi=> .int (Iz n c (gM nx ny nz cx cy cz o) xi) from funext λxi=>by rw[tP]]
 rw[key,key,key]
theorem Abh {f t:Int} {nx ny nz:Nat} {cx cy cz:Nat->Int} {o:Int} (h:uL nx ny nz cx cy cz o=true):Xz f t nx ny nz cx cy cz o= .lit (.tuple #[.agg #[.int .i64 f,.int .i64 t,.int .i64 0,.slice none 0 0,.slice none 0 0,.slice none 0 0],.bool false]):=by
 unfold Xz
 rw[if_pos (of_decide_eq_true h)]
abbrev pD (s:Sg):Int:=s.t-s.f
def Bs (s:Sg) (a b:Int):Sg:=uM a b (on s.x (a-s.f) (b-a) (pD s)) (on s.y (a-s.f) (b-a) (pD s)) (on s.z (a-s.f) (b-a) (pD s)) (oc s.x (a-s.f) (b-a) (pD s)) (oc s.y (a-s.f) (b-a) (pD s)) (oc s.z (a-s.f) (b-a) (pD s)) (s.o*pD s^5)
def Vw (s:Sg) (a b:Int):Bool:=uL (on s.x (a-s.f) (b-a) (pD s)) (on s.y (a-s.f) (b-a) (pD s)) (on s.z (a-s.f) (b-a) (pD s)) (oc s.x (a-s.f) (b-a) (pD s)) (oc s.y (a-s.f) (b-a) (pD s)) (oc s.z (a-s.f) (b-a) (pD s)) (s.o*pD s^5)
theorem Bl {x:Int} (h: -3600000<=x/\x<=3600000):Cy x:=⟨by omega,by omega⟩
theorem sX (s:Sg) (a b:Int) (hs:Tr s) (ho:Gm s) (ha:s.f<=a/\a<=s.t) (hb:a<=b/\b<=s.t):AF Tryz.prog 140 [.int a,.int b,.agg [Fa s.x (a-s.f) (b-a) (pD s),Fa s.y (a-s.f) (b-a) (pD s),Fa s.z (a-s.f) (b-a) (pD s)],WA (s.o*pD s^5)] (Xz a b (on s.x (a-s.f) (b-a) (pD s)) (on s.y (a-s.f) (b-a) (pD s)) (on s.z (a-s.f) (b-a) (pD s)) (oc s.x (a-s.f) (b-a) (pD s)) (oc s.y (a-s.f) (b-a) (pD s)) (oc s.z (a-s.f) (b-a) (pD s)) (s.o*pD s^5)):=by
 have hh:=ho.1
 unfold Jy at hh
 have h1:Cy (a-s.f):=Bl (by omega)
 have h2:Cy (b-a):=Bl (by omega)
 have h3:Cy (pD s):=Bl (by show -3600000<=s.t-s.f/\s.t-s.f<=3600000;omega)
 have hx:=ho.2.1.2.1
 have hy:=ho.2.2.1.2.1
 have hz:=ho.2.2.2.1.2.1
 refine Acj a b _ _ _ _ _ _ _ (Abo _ _ _ _ hx) (Abo _ _ _ _ hy) (Abo _ _ _ _ hz) (λi _=>fG hs.x hx h1 h2 h3 i) (λi _=>fG hs.y hy h1 h2 h3 i) (λi _=>fG hs.z hz h1 h2 h3 i) ((Xe hs h3).mono (by omega)) ?_
 exact Int.mul_pos (by omega) (Int.pow_pos (by show 0<s.t-s.f;omega))
theorem Zr (s:Sg) (a b:Int) (hs:Tr s) (ho:Gm s) (ha:s.f<=a/\a<=s.t) (hb:a<=b/\b<=s.t) (h:Vw s a b=false):AF Tryz.prog 140 [.int a,.int b,.agg [Fa s.x (a-s.f) (b-a) (pD s),Fa s.y (a-s.f) (b-a) (pD s),Fa s.z (a-s.f) (b-a) (pD s)],WA (s.o*pD s^5)] (.tup [Bn (Bs s a b),.bool true]):=by
 have:=sX s a b hs ho ha hb
 rwa [Abi h] at this
theorem Zq (s:Sg) (a b:Int) (hs:Tr s) (ho:Gm s) (ha:s.f<=a/\a<=s.t) (hb:a<=b/\b<=s.t) (h:Vw s a b=true):AF Tryz.prog 140 [.int a,.int b,.agg [Fa s.x (a-s.f) (b-a) (pD s),Fa s.y (a-s.f) (b-a) (pD s),Fa s.z (a-s.f) (b-a) (pD s)],WA (s.o*pD s^5)] (.lit (.tuple #[.agg #[.int .i64 a,.int .i64 b,.int .i64 0,.slice none 0 0,.slice none 0 0,.slice none 0 0],.bool false])):=by
 have:=sX s a b hs ho ha hb
 rwa [Abh h] at this
theorem Lj (s:Sg) (a b d:Int) (hs:Tr s) (ho:Gm s) (ha:Cy a) (hb:Cy b) (hd:Cy d) (hdp:0<d):AF Tryz.prog 141 [Bn s,.int a,.int b,.int d] (.agg [Fa s.x a b d,Fa s.y a b d,Fa s.z a b d]):=
 lF s a b d hs ho.2.1.1 ho.2.1.2.1 ho.2.2.1.1 ho.2.2.1.2.1 ho.2.2.2.1.1 ho.2.2.2.1.2.1 ha hb hd hdp
abbrev pA (l:List Sg) (f:Int) (i:Nat):Int:=max f (l.getD i Sg.none).f
abbrev pB (l:List Sg) (t:Int) (i:Nat):Int:=min t (l.getD i Sg.none).t
def Hp (l:List Sg) (f t:Int):Nat->List Sg
 |0=>[]
 |i+1=>if pA l f i<pB l t i then Hp l f t i++[Bs (l.getD i Sg.none) (pA l f i) (pB l t i)] else Hp l f t i
def Xs (l:List Sg) (f t:Int) (i:Nat):Prop:=∀j,j<i->pA l f j<pB l t j->Vw (l.getD j Sg.none) (pA l f j) (pB l t j)=false
theorem Oc {l:List Sg} {f t:Int} {i:Nat} (h:¬pA l f i<pB l t i):Hp l f t (i+1)=Hp l f t i:=by rw[Hp,if_neg h]
theorem Me {l:List Sg} {f t:Int} {i:Nat} (h:pA l f i<pB l t i):Hp l f t (i+1)=Hp l f t i++[Bs (l.getD i Sg.none) (pA l f i) (pB l t i)]:=by rw[Hp,if_pos h]
theorem aK {l:List Sg} {f t:Int} {i:Nat} (h:¬pA l f i<pB l t i) (hk:Xs l f t i):Xs l f t (i+1):=λj hj h2=>by
 by_cases e:j=i
 subst e;exact absurd h2 h
 exact hk j (by omega) h2
theorem eI {l:List Sg} {f t:Int} {i:Nat} (h:Vw (l.getD i Sg.none) (pA l f i) (pB l t i)=false) (hk:Xs l f t i):Xs l f t (i+1):=λj hj h2=>by
 by_cases e:j=i
 subst e;exact h
 exact hk j (by omega) h2
open Classical in
noncomputable def mI (l:List Sg) (f t:Int):List Sg×Int:=if Xs l f t l.length then (Hp l f t l.length,0) else ([],7)
theorem tR {l:List Sg} {f t:Int} (h:Xs l f t l.length):mI l f t=(Hp l f t l.length,0):=if_pos h
theorem tQ {l:List Sg} {f t:Int} {j:Nat} (hj:j<l.length) (h1:pA l f j<pB l t j) (h2:Vw (l.getD j Sg.none) (pA l f j) (pB l t j)=true):mI l f t=([],7):=if_neg λh=>by
 have:=h j hj h1
 rw[h2] at this;cases this
theorem bD {p:Pr} {k:Nat} {t:Int} {m:List Int}:∀{i:Nat} {l:List Int},i<=m.length->Dz p k t m i=some l->∀j,l.getD j 0=m.getD j 0+if j<i then ((Gk p k t j).length:Int) else 0
 |0,l,_,h,j=>by cases h;rw[if_neg (Nat.not_lt_zero j),Int.add_zero]
 |i+1,l,hi,h,j=>by
  rw[Dz] at h
  cases h1:Dz p k t m i with
  |none=>rw[h1] at h;cases h
  |some l1=>
   rw[h1] at h
   simp only at h
   have ih:=bD (by omega) h1
   have hlen:l1.length=m.length:=by
    clear ih h
    have key:∀{i:Nat} {l1:List Int},Dz p k t m i=some l1->l1.length=m.length:=by
     intro i
     induction i with
     |zero=>intro l1 h;cases h;rfl
     |succ i ih=>
      intro l1 h
      rw[Dz] at h
      cases h2:Dz p k t m i with
      |none=>rw[h2] at h;cases h
      |some l2=>
       rw[h2] at h
       simp only at h
       split at h
       cases h;rw[List.length_set];exact ih h2
       cases h
    exact key h1
   split at h
   cases h
   by_cases e:i=j
   subst e
   rw[if_pos (Nat.lt_succ_self i)]
   have h2:=ih i
   rw[if_neg (Nat.lt_irrefl i),Int.add_zero] at h2
   rw[<-h2]
   simp[List.getD_eq_getElem?_getD,List.getElem?_set,show i<l1.length by omega]
   have h2:=ih j
   have h4:(if j<i then ((Gk p k t j).length:Int) else 0)=if j<i+1 then ((Gk p k t j).length:Int) else 0:=by
    by_cases hj:j<i
    rw[if_pos hj,if_pos (by omega)]
    rw[if_neg hj,if_neg (by omega)]
   rw[<-h4,<-h2]
   simp[List.getD_eq_getElem?_getD,List.getElem?_set_ne e]
   cases h
theorem oY {p:Pr}:∀{k:Nat} {t:Int} {m:List Int},Ke p k=some (t,m)->∀i,i<p.names.length->m.getD i 0=((Ih p k i).length:Int)/\((Ih p k i).length:Int)<=256
 |0,t,m,h,i,hi=>by
  simp only[Ke,Option.some.injEq,Prod.mk.injEq] at h
  obtain⟨_,rfl⟩:=h
  simp[List.getD_eq_getElem?_getD,hi,Ih]
 |k+1,t,m,h,i,hi=>by
  have hfin:=Mo h
  have hm:i<m.length:=by rw[hfin.2.2.1];exact hi
  have hb:m.getD i 0<=256:=by
   have:m.getD i 0=m[i]:=by simp[List.getD_eq_getElem?_getD,hm]
   rw[this];exact(hfin.2.2.2.1 _ (List.getElem_mem hm)).2
  rw[Ke] at h
  cases h1:Ke p k with
  |none=>rw[h1] at h;cases h
  |some tm=>
   obtain⟨t1,m1⟩:=tm
   rw[h1] at h
   simp only at h
   have ih:=oY h1 i hi
   have h1f:=Mo h1
   have ht:=(cP h1).1
   split at h
   cases h2:Dz p k t1 m1 p.names.length with
   |none=>rw[h2] at h;cases h
   |some m2=>
    rw[h2] at h
    simp only[Option.some.injEq,Prod.mk.injEq] at h
    obtain⟨_,rfl⟩:=h
    have h3:=bD (by rw[h1f.2.2.1];exact Nat.le_refl _) h2 i
    rw[if_pos hi,ih.1,ht] at h3
    have h4:m2.getD i 0=((Ih p (k+1) i).length:Int):=by rw[h3,Ih,List.length_append];omega
    exact⟨h4,by omega⟩
   cases h
theorem AcY {p:Pr} (h:Fb p=true) {i:Nat} (hi:i<p.names.length):(Ih p p.acts.length i).length<=256:=by
 unfold Fb at h
 simp only[Bool.and_eq_true] at h
 obtain⟨tm,ht⟩:=Option.isSome_iff_exists.1 h.2
 obtain⟨t,m⟩:=tm
 have:=(oY ht i hi).2
 omega
theorem mM {p:Pr} (ho:Zx p):∀k,k<=p.acts.length->0<k->0<Cj p.acts k
 |0,_,h=>absurd h (Nat.lt_irrefl 0)
 |k+1,hk,_=>by
  have h1:=(ho.ends k (by omega)).1
  have h2:=ho.len k (by omega)
  rw[Cj];omega
structure AeL (p:Pr) (i:Nat) (l:List Sg):Prop where
 ok:Fj l
 pin:Dh l
 first:(l.getD 0 Sg.none).f=0
 last:(l.getD (l.length-1) Sg.none).t=Cj p.acts p.acts.length
 one:∀i,i<l.length->(l.getD i Sg.none).o=1
theorem Aen {p:Pr} (h:Fb p=true) (h0:0<p.acts.length) {i:Nat} (hi:i<p.names.length):AeL p i (Ih p p.acts.length i):=by
 have ho:=Kx h
 have hc:=Xd ho hi p.acts.length (Nat.le_refl _)
 have hp:=hc.pos (mM ho _ (Nat.le_refl _) h0)
 have hf:=AcY h hi
 refine⟨⟨λj hj=>⟨(hc.seg j hj).1,(hc.seg j hj).2.2.2⟩,hp,hf⟩,⟨by omega,λj=>?_⟩,hc.first hp,hc.last hp,λj hj=>(hc.seg j hj).2.2.1⟩
 by_cases hj:j<(Ih p p.acts.length i).length
 exact(hc.seg j hj).2.1
 have e:(Ih p p.acts.length i).getD j Sg.none=Sg.none:=by rw[List.getD_eq_getElem?_getD,List.getElem?_eq_none (by omega)];rfl
 rw[e];exact Dh.nil.2 0
theorem mG (p:Nat->Int) (m:Nat) (d:Int):∀j k,k<=j->j<m->cN p m 0 d d j k=p (m-1-j+k)*d^j
 |0,k,hk,hj=>by
  obtain rfl:k=0:=by omega
  rw[cN,Int.pow_zero,Int.mul_one];rfl
 |j+1,k,hk,hj=>by
  rw[cN]
  by_cases h0:k=0
  subst h0
  rw[if_pos rfl,Ze]
  unfold inn
  rw[if_pos (Nat.succ_pos j),if_pos rfl,Int.mul_zero,Int.zero_add,Int.zero_add,show m-2-j=m-1-(j+1)+0 by omega]
  rw[if_neg h0,Int.add_zero]
  have ih:=mG p m d j (k-1) (by omega) (by omega)
  unfold inn
  by_cases h1:k<j+1
  rw[if_pos h1,if_neg h0,Int.mul_zero,Int.add_zero,ih,Int.pow_succ,Int.mul_assoc,show m-1-j+(k-1)=m-1-(j+1)+k by omega]
  obtain rfl:k=j+1:=by omega
  rw[Nat.add_sub_cancel] at ih
  rw[if_neg h1,if_pos ⟨rfl,Nat.succ_pos j⟩,Nat.add_sub_cancel,ih,Int.pow_succ,Int.mul_assoc,show m-1-j+j=m-1-(j+1)+(j+1) by omega]
theorem zN {l:List Int} {d:Int} (hd:0<d) (h1:1<=l.length) (h6:l.length<=6) (hl:1<l.length->l.getD (l.length-1) 0≠0):
  (on l 0 d d=l.length/\∀i,i<l.length->oc l 0 d d i=l.getD i 0*d^5)\/(l=[0]/\on l 0 d d=0):=by
 by_cases hz:l.getD (l.length-1) 0=0
 right
 have e1:l.length=1:=by
  by_cases h:1<l.length
  exact absurd hz (hl h)
  omega
 obtain⟨a,rfl⟩:=List.length_eq_one_iff.1 e1
 have ha:a=0:=hz
 subst ha
 refine⟨rfl,?_⟩
 have e2:cZ [0]=0:=by decide
 show Fh (oc [0] 0 d d) (Fh (nV [0] 0 d d) (cZ [0]))=0
 rw[e2];rfl
 left
 have e2:cZ l=l.length:=Ss (.inr hz)
 have e3:∀i,i<l.length->nV l 0 d d i=l.getD i 0*d^(l.length-1):=λi hi=>by
  show cN (Yt l) (cZ l) 0 d d (cZ l-1) i=_
  rw[e2,mG _ _ _ _ _ (by omega) (by omega),show l.length-1-(l.length-1)+i=i by omega]
 have hdp:∀k,d^k≠0:=λk=>Int.ne_of_gt (Int.pow_pos hd)
 have e4:∀i,i<l.length->oc l 0 d d i=l.getD i 0*d^5:=λi hi=>by
  show nV l 0 d d i*d^(6-l.length)=_
  rw[e3 i hi,Int.mul_assoc,<-Int.pow_add,show l.length-1+(6-l.length)=5 by omega]
 refine⟨?_,e4⟩
 have e5:Fh (nV l 0 d d) (cZ l)=l.length:=by
  rw[e2]
  refine Ss (.inr ?_)
  rw[e3 _ (by omega)]
  exact Int.mul_ne_zero hz (hdp _)
 show Fh (oc l 0 d d) (Fh (nV l 0 d d) (cZ l))=l.length
 rw[e5]
 refine Ss (.inr ?_)
 rw[e4 _ (by omega)]
 exact Int.mul_ne_zero hz (hdp _)
theorem Vc {c:Nat->Int} {g:Int} (hg:0<g):∀k,(∀i,i<k->∃q,c i=q*g)->gF c g k=g
 |0,_=>rfl
 |k+1,h=>by
  rw[gF,Vc hg k λi hi=>h i (by omega)]
  obtain⟨q,hq⟩:=h k (Nat.lt_succ_self k)
  rw[hq,Int.natAbs_mul,Nat.gcd_eq_left (Nat.dvd_mul_left _ _)]
  omega
theorem Ui {l:List Int} {d:Int} (hd:0<d) (h1:1<=l.length) (h6:l.length<=6) (hl:1<l.length->l.getD (l.length-1) 0≠0) (hin:∀i,Cy (l.getD i 0)):
  Yn (on l 0 d d) (oc l 0 d d) (d^5)=l/\∀i,i<on l 0 d d->∃q,oc l 0 d d i=q*d^5:=by
 have hd5:d^5≠0:=Int.ne_of_gt (Int.pow_pos hd)
 rcases zN hd h1 h6 hl with⟨e1,e2⟩|⟨e1,e2⟩
 refine⟨xH (by rw[aJ,e1];omega) λq hq=>?_,λi hi=>⟨_,e2 i (by omega)⟩⟩
 rw[aJ,e1] at hq
 rw[tP,Iz,e1,if_pos (by omega),e2 q (by omega),Int.mul_ediv_cancel _ hd5,AeU (hin q)]
 refine⟨?_,λi hi=>by omega⟩
 rw[e2,e1]
 rfl
theorem bM {s:Sg} (hs:Tr s) (ho:Gm s) (h1:s.o=1):Bs s s.f s.t=s/\Vw s s.f s.t=false:=by
 have hh:=ho.1
 unfold Jy at hh
 have hd:0<pD s:=by show 0<s.t-s.f;omega
 have hd5:0<pD s^5:=Int.pow_pos hd
 obtain⟨x1,x2⟩:=Ui hd ho.2.1.1 ho.2.1.2.1 ho.2.1.2.2.1 hs.x
 obtain⟨y1,y2⟩:=Ui hd ho.2.2.1.1 ho.2.2.1.2.1 ho.2.2.1.2.2.1 hs.y
 obtain⟨z1,z2⟩:=Ui hd ho.2.2.2.1.1 ho.2.2.2.1.2.1 ho.2.2.2.1.2.2.1 hs.z
 have e0:s.f-s.f=0:=by omega
 have e1:s.t-s.f=pD s:=rfl
 have g:gM (on s.x 0 (pD s) (pD s)) (on s.y 0 (pD s) (pD s)) (on s.z 0 (pD s) (pD s)) (oc s.x 0 (pD s) (pD s)) (oc s.y 0 (pD s) (pD s)) (oc s.z 0 (pD s) (pD s)) (1*pD s^5)=pD s^5:=by
  unfold gM
  rw[Int.one_mul,Vc hd5 _ x2,Vc hd5 _ y2,Vc hd5 _ z2]
 have q1:(1*pD s^5)/pD s^5=1:=by rw[Int.one_mul];exact Int.ediv_self (Int.ne_of_gt hd5)
 constructor
 unfold Bs uM
 rw[e0,e1,h1,g,q1,x1,y1,z1]
 exact Aeu rfl rfl h1.symm rfl rfl rfl
 unfold Vw uL
 rw[e0,e1,h1,g,q1]
 decide
theorem mJ {l:List Sg} {f t:Int}:∀n,Hp l f t n=[]->∀i,i<n->¬pA l f i<pB l t i
 |0,_,i,hi=>absurd hi (Nat.not_lt_zero i)
 |n+1,h,i,hi=>by
  by_cases hlt:pA l f n<pB l t n
  rw[Me hlt] at h;simp at h
  rw[Oc hlt] at h
  by_cases e:i=n
  subst e;exact hlt
  exact mJ n h i (by omega)
theorem Ac4 {l:List Sg} {f t:Int} (hok:Fj l) (hf:(l.getD 0 Sg.none).f<=f) (hft:f<t) (ht:t<=(l.getD (l.length-1) Sg.none).t):0<(Hp l f t l.length).length:=by
 rcases Nat.eq_zero_or_pos (Hp l f t l.length).length with h|h
 exfalso
 have hn:=mJ _ (List.eq_nil_of_length_eq_zero h)
 have key:∀i,i<l.length->(l.getD i Sg.none).t<=f:=by
  intro i
  induction i with
  |zero=>
   intro hi
   have:=hn 0 hi
   have:¬max f (l.getD 0 Sg.none).f<min t (l.getD 0 Sg.none).t:=this
   omega
  |succ i ih=>
   intro hi
   have h1:=ih (by omega)
   have h2:=((hok.1 (i+1) hi).2 (Nat.succ_pos i)).1
   rw[Nat.add_sub_cancel] at h2
   have:¬max f (l.getD (i+1) Sg.none).f<min t (l.getD (i+1) Sg.none).t:=hn (i+1) hi
   omega
 have:=key (l.length-1) (by have:=hok.2.1;omega)
 omega
 exact h
def rQ (p:Pr) (i k:Nat):Nat->List Sg
 |0=>[]
 |m+1=>rQ p i k m++Gk p (k+m) (Cj p.acts (k+m)) i
theorem oC (p:Pr) (i k:Nat):∀m,Ih p (k+m) i=Ih p k i++rQ p i k m
 |0=>(List.append_nil _).symm
 |m+1=>by
  show Ih p (k+m) i++_=_
  rw[oC p i k m,List.append_assoc];rfl
theorem uA (p:Pr) (k i:Nat):(Dx p (k+1)).getD i V3.zero=((p.acts.getD k Ac.none).moves.getD i Mv.none).to:=by
 unfold Dx
 rw[if_neg (Nat.succ_ne_zero k),Nat.add_sub_cancel]
 show ((p.acts.getD k Ac.none).moves.map (·.to)).getD i V3.zero=_
 generalize (p.acts.getD k Ac.none).moves=ms
 rw[List.getD_eq_getElem?_getD,List.getElem?_map,List.getD_eq_getElem?_getD]
 cases ms[i]?<;>rfl
theorem bL {p:Pr} (ho:Zx p) {i:Nat} (hi:i<p.names.length) (k:Nat):∀m,k+m<=p.acts.length->Br (rQ p i k m) ((Dx p k).getD i V3.zero) ((Dx p (k+m)).getD i V3.zero) (Cj p.acts k) (Cj p.acts (k+m))
 |0,_=>⟨rfl,rfl⟩
 |m+1,hk=>by
  refine Br.app (bL ho hi k m (by omega)) ?_
  have h2:=Yc (ho.pe (k+m) i (by omega) hi)
  rw[show k+(m+1)=k+m+1 from rfl,uA]
  exact h2
theorem oD (p:Pr) (i k:Nat):∀m,(rQ p i k m).length<=5*m
 |0=>Nat.zero_le _
 |m+1=>by
  have h1:=oD p i k m
  have h2:=So p (k+m) (Cj p.acts (k+m)) i
  rw[rQ,List.length_append];omega
def Ab3 (p:Pr) (i k:Nat):List Sg:=rQ p i k (p.acts.length-k)
theorem yK {p:Pr} {k:Nat} (i:Nat) (hk:k<=p.acts.length):Ih p p.acts.length i=Ih p k i++Ab3 p i k:=by
 have:=oC p i k (p.acts.length-k)
 rwa [show k+(p.acts.length-k)=p.acts.length by omega] at this
theorem oN {p:Pr} (ho:Zx p) {i:Nat} (hi:i<p.names.length) {k:Nat} (hk:k<=p.acts.length):Br (Ab3 p i k) ((Dx p k).getD i V3.zero) ((Dx p p.acts.length).getD i V3.zero) (Cj p.acts k) (Cj p.acts p.acts.length):=by
 have:=bL ho hi k (p.acts.length-k) (by omega)
 rwa [show k+(p.acts.length-k)=p.acts.length by omega] at this
theorem Br.okP {l:List Sg} {a b:V3} {f t:Int} (h:Br l a b f t) (hp:0<l.length) (hn:l.length<=256):Fj l/\Dh l:=
 ⟨⟨λj hj=>⟨(h.seg j hj).1,(h.seg j hj).2.2.2⟩,hp,hn⟩,by omega,λj=>by
  by_cases hj:j<l.length
  exact(h.seg j hj).2.1
  have e:l.getD j Sg.none=Sg.none:=by rw[List.getD_eq_getElem?_getD,List.getElem?_eq_none (by omega)];rfl
  rw[e];exact Dh.nil.2 0⟩
theorem Br.le:∀{l:List Sg} {a b:V3} {f t:Int},Br l a b f t->f<=t
 |[],_,_,_,_,⟨_,e⟩=>by omega
 |_::_,_,_,_,_,⟨_,_,h,hr⟩=>by have:=h.ft;have:=Br.le hr;omega
theorem Br.nil_of {l:List Sg} {a b:V3} {f:Int} (h:Br l a b f f):l=[]:=by
 match l,h with
 |[],_=>rfl
 |_::_,⟨_,_,h,hr⟩=>have:=h.ft;have:=Br.le hr;omega
theorem Jk {l r:List Sg} {a b c:V3} {f t u:Int} (h1:Br l a b f t) (h2:Br r b c t u) (p1:0<l.length) (p2:0<r.length) (hn:l.length+r.length<=256):Nt l r=(l++r,0):=by
 have h:=(h1.app h2).seg l.length (by rw[List.length_append];omega)
 have hm:=h.2.2.2 p1
 rw[Kt,Kt,if_pos (by omega),if_neg (Nat.lt_irrefl _),Nat.sub_self] at hm
 exact Aat (Eo (h1.okP p1 (by omega)).1) (Eo (h2.okP p2 (by omega)).1) (Eo hm) (by omega)
theorem Br.times:∀{l:List Sg} {a b:V3} {f t:Int},Br l a b f t->∀i,i<l.length->f<=(l.getD i Sg.none).f/\(l.getD i Sg.none).t<=t
 |s::r,_,_,f,t,⟨c,u,h,hr⟩,0,_=>by
  have:=hr.le
  exact⟨by show f<=s.f;rw[h.rows.2.2.2.1];omega,by show s.t<=t;rw[h.rows.2.2.2.2.1];omega⟩
 |s::r,_,_,f,t,⟨c,u,h,hr⟩,i+1,hi=>by
  have h1:=Br.times hr i (by simpa using hi)
  have:=h.ft
  exact⟨by show f<=(r.getD i Sg.none).f;omega,h1.2⟩
theorem Aa7 {l r:List Sg} {a b c:V3} {f t u:Int} (h1:Br l a b f t) (h2:Br r b c t u):mI (l++r) t u=(r,0):=by
 have hl:∀i,i<l.length->¬pA (l++r) t i<pB (l++r) u i:=λi hi=>by
  have:=h1.times i hi
  show ¬max t ((l++r).getD i Sg.none).f<min u ((l++r).getD i Sg.none).t
  rw[Kt,if_pos hi];omega
 have hr:∀i,i<r.length->(l++r).getD (l.length+i) Sg.none=r.getD i Sg.none/\pA (l++r) t (l.length+i)=(r.getD i Sg.none).f/\pB (l++r) u (l.length+i)=(r.getD i Sg.none).t/\(r.getD i Sg.none).f<(r.getD i Sg.none).t:=λi hi=>by
  have h3:=h2.times i hi
  have e:(l++r).getD (l.length+i) Sg.none=r.getD i Sg.none:=by rw[Kt,if_neg (by omega),Nat.add_sub_cancel_left]
  have h4:=((h2.seg i hi).1).1
  unfold Jy at h4
  refine⟨e,?_,?_,by omega⟩
  show max t ((l++r).getD (l.length+i) Sg.none).f=_
  rw[e];omega
  show min u ((l++r).getD (l.length+i) Sg.none).t=_
  rw[e];omega
 have e1:∀n,n<=l.length->Hp (l++r) t u n=[]:=by
  intro n
  induction n with
  |zero=>intro _;rfl
  |succ n ih=>intro hn;rw[Oc (hl n (by omega)),ih (by omega)]
 have e2:∀n,n<=r.length->Hp (l++r) t u (l.length+n)=r.take n:=by
  intro n
  induction n with
  |zero=>intro _;rw[Nat.add_zero,e1 _ (Nat.le_refl _),List.take_zero]
  |succ n ih=>
   intro hn
   obtain⟨g1,g2,g3,g4⟩:=hr n (by omega)
   have h3:=h2.seg n (by omega)
   rw[show l.length+(n+1)=l.length+n+1 from rfl,Me (by rw[g2,g3];exact g4),g1,g2,g3,(bM h3.2.1 h3.1 h3.2.2.1).1,ih (by omega),List.take_succ_eq_append_getElem (by omega)]
   congr 2
   simp[List.getD_eq_getElem?_getD,show n<r.length by omega]
 have hk:Xs (l++r) t u (l++r).length:=λj hj hlt=>by
  by_cases h:j<l.length
  exact absurd hlt (hl j h)
  have hj2:j<l.length+r.length:=by rw[<-List.length_append];exact hj
  obtain⟨m,rfl⟩:∃m,j=l.length+m:=⟨j-l.length,by omega⟩
  obtain⟨g1,g2,g3,g4⟩:=hr m (by omega)
  have h3:=h2.seg m (by omega)
  rw[g1,g2,g3]
  exact(bM h3.2.1 h3.1 h3.2.2.1).2
 rw[tR hk,List.length_append,e2 _ (Nat.le_refl _),List.take_length]
end Go.Proofs.YtldnjomacnjhnaaGreat
namespace Go.Proofs.YtldnjomacnjhnaaGreat
open Go.RowKit
abbrev Gj (r:Rv) (x:Rl):V3:=r.homes.getD x.spare.toNat V3.zero
abbrev Ou (p:Pr) (r:Rv) (c:Cs) (x:Rl):Nat:=Nx p c (Ky p r c x.wait)
abbrev atR (p:Pr) (r:Rv) (c:Cs) (x:Rl):V3:=sH p c (Ou p r c x)
structure AdA (p:Pr) (r:Rv) (c:Cs) (x:Rl):Prop where
 sp:0<=x.spare/\x.spare<r.homes.length
 wait:∃k,k<r.waits.length/\x.wait=r.waits.getD k 0
 act:Ou p r c x<p.acts.length
 rise:∃u,u<r.rises.length/\x.rise=r.rises.getD u 0
 l1:Ka (Gj r x) x.rise=true
 l2:Ka (atR p r c x) x.rise=true
theorem oJ {r:Rv} {w:Int} {v:V3} {i:Nat} {x:Rl}:∀q,x∈dN r w v i q↔∃u,u<q/\x=⟨(i:Int),w,r.rises.getD u 0⟩/\Ka (r.homes.getD i V3.zero) (r.rises.getD u 0)=true/\Ka v (r.rises.getD u 0)=true
 |0=>⟨λh=>(by cases h),λ⟨u,h,_⟩=>absurd h (Nat.not_lt_zero u)⟩
 |q+1=>by
  rw[dN,List.mem_append,oJ q]
  constructor
  rintro(⟨u,h1,h2⟩|h)
  exact⟨u,by omega,h2⟩
  split at h
  rename_i hl
  rw[Bool.and_eq_true] at hl
  exact⟨q,Nat.lt_succ_self q,List.mem_singleton.1 h,hl.1,hl.2⟩
  cases h
  rintro⟨u,h1,h2,h3,h4⟩
  by_cases e:u=q
  subst e
  rw[h3,h4]
  exact .inr (List.mem_singleton.2 h2)
  exact .inl ⟨u,by omega,h2,h3,h4⟩
theorem oH {r:Rv} {w:Int} {v:V3} {o:List Nat} {x:Rl}:∀n,x∈kE r w v o n↔∃m,m<n/\x∈dN r w v (o.getD m 0) r.rises.length
 |0=>⟨λh=>(by cases h),λ⟨u,h,_⟩=>absurd h (Nat.not_lt_zero u)⟩
 |n+1=>by
  rw[kE,List.mem_append,oH n]
  constructor
  rintro(⟨u,h1,h2⟩|h)
  exact⟨u,by omega,h2⟩
  exact⟨n,Nat.lt_succ_self n,h⟩
  rintro⟨u,h1,h2⟩
  by_cases e:u=n
  subst e;exact .inr h2
  exact .inl ⟨u,by omega,h2⟩
theorem oL {p:Pr} {r:Rv} {c:Cs} {x:Rl}:∀n,x∈Jb p r c n↔∃k,k<n/\kD p r c k=true/\x∈kE r (r.waits.getD k 0) (Bj p r c k) (Eb r (Bj p r c k)) r.homes.length
 |0=>⟨λh=>(by cases h),λ⟨u,h,_⟩=>absurd h (Nat.not_lt_zero u)⟩
 |n+1=>by
  rw[Jb,List.mem_append,oL n]
  constructor
  rintro(⟨u,h1,h2⟩|h)
  exact⟨u,by omega,h2⟩
  split at h
  rename_i hl;exact⟨n,Nat.lt_succ_self n,hl,h⟩
  cases h
  rintro⟨u,h1,h2,h3⟩
  by_cases e:u=n
  subst e;rw[if_pos h2];exact .inr h3
  exact .inl ⟨u,by omega,h2,h3⟩
theorem Adh {p:Pr} {r:Rv} {c:Cs} {x:Rl} (h:x∈Ok p r c):AdA p r c x:=by
 obtain⟨k,hk,hb,h⟩:=(oL _).1 h
 obtain⟨m,hm,h⟩:=(oH _).1 h
 obtain⟨u,hu,rfl,h1,h2⟩:=(oJ _).1 h
 have ho:=Vt r (Bj p r c k) hm
 exact⟨⟨Int.natCast_nonneg _,by show ((_:Nat):Int)<_;omega⟩,⟨k,hk,rfl⟩,of_decide_eq_true hb,⟨u,hu,rfl⟩,h1,h2⟩
abbrev Eg (p:Pr) (c:Cs) (x:Rl):Int:=Bo p c+x.wait
abbrev Ip (p:Pr) (r:Rv) (c:Cs) (x:Rl):Int:=Bo p c+x.wait+r.flight
abbrev Ht (p:Pr) (r:Rv) (c:Cs) (x:Rl):Int:=Cj p.acts (Ou p r c x+1)
def Ij (p:Pr) (r:Rv) (c:Cs) (x:Rl):List Sg:=if 0<x.rise then aF (Gj r x) (atR p r c x) x.rise (Eg p c x) (Ip p r c x) else Gb (Gj r x) (atR p r c x) (Eg p c x) (Ip p r c x) 2
def Ed (r:Rv) (p:Pr) (c:Cs) (x:Rl):List Sg:=Gb (Gj r x) (Gj r x) 0 (Eg p c x) 0
def Ge (p:Pr) (r:Rv) (c:Cs) (x:Rl):List Sg:=Gb (atR p r c x) (atR p r c x) (Ip p r c x) (Ht p r c x) 0
abbrev Fv (p:Pr) (r:Rv) (c:Cs) (x:Rl):List Sg:=Ab3 p c.craft.toNat (Ou p r c x+1)
def relP (p:Pr) (r:Rv) (c:Cs) (x:Rl):List Sg:=Ed r p c x++Ij p r c x++Ge p r c x++Fv p r c x
structure Mw (p:Pr) (r:Rv) (c:Cs) (x:Rl):Prop where
 s0:0<Eg p c x/\Eg p c x<Ip p r c x/\Ip p r c x<=Ht p r c x/\Ht p r c x<=Cj p.acts p.acts.length/\Cj p.acts p.acts.length<=3600000
 q4:(Ip p r c x-Eg p c x)%4=0
 sp:0<=x.spare/\x.spare<r.homes.length
 wait:0<=x.wait/\x.wait<=3600000
 rise:0<=x.rise/\x.rise<=1048576
 act:c.act.toNat+1<=Ou p r c x/\Ou p r c x<p.acts.length
 hp:(Gj r x).pt=true
 ap:(atR p r c x).pt=true
 hu:((Gj r x).up x.rise).pt=true
 au:((atR p r c x).up x.rise).pt=true
 hov:Br (Ed r p c x) (Gj r x) (Gj r x) 0 (Eg p c x)/\(Ed r p c x).length=1
 go:Br (Ij p r c x) (Gj r x) (atR p r c x) (Eg p c x) (Ip p r c x)/\1<=(Ij p r c x).length/\(Ij p r c x).length<=3
 stay:Br (Ge p r c x) (atR p r c x) (atR p r c x) (Ip p r c x) (Ht p r c x)/\(Ge p r c x).length<=1
 tail:Br (Fv p r c x) (atR p r c x) ((Dx p p.acts.length).getD c.craft.toNat V3.zero) (Ht p r c x) (Cj p.acts p.acts.length)/\(Fv p r c x).length<=5*p.acts.length
 own:Br (Ih p (Ou p r c x+1) c.craft.toNat) ((Dx p 0).getD c.craft.toNat V3.zero) (atR p r c x) 0 (Ht p r c x)
 app:Ih p p.acts.length c.craft.toNat=Ih p (Ou p r c x+1) c.craft.toNat++Fv p r c x
theorem vN {l:List Ac} {a:Int}:∀k i,Xk l a k i<i+k->a<=Cj l (Xk l a k i+1)
 |0,i,h=>by rw[Xk] at h;omega
 |k+1,i,h=>by
  rw[Xk] at h ⊢
  split
  assumption
  rename_i hn
  rw[if_neg hn] at h
  exact vN k (i+1) (by omega)
theorem eM {p:Pr} (ho:Zx p) {j:Nat}:∀m,j+m<=p.acts.length->Cj p.acts j<=Cj p.acts (j+m)
 |0,_=>Int.le_refl _
 |m+1,h=>by
  have h1:=eM ho (j:=j) m (by omega)
  have h2:=ho.len (j+m) (by omega)
  rw[show j+(m+1)=j+m+1 from rfl,Cj];omega
theorem Aep {p:Pr} {r:Rv} {c:Cs} {x:Rl} (hc:Ig p c) (hr:Pj r) (h:AdA p r c x):Mw p r c x:=by
 have ho:=Kx hc.1
 obtain⟨_,c1,c2,c3,c4⟩:=hc
 obtain⟨⟨n1,n2,f1,f2,f4⟩,hh,hw,hs⟩:=hr
 obtain⟨k,hk,ek⟩:=h.wait
 obtain⟨u,hu,eu⟩:=h.rise
 have wk:=hw.2.2 k hk
 have wu:=hs.2.2 u hu
 have act:=h.act
 have hlo:c.act.toNat+1<=Ou p r c x:=(vO _ _).1
 have hge:Ip p r c x<=Ht p r c x:=vN _ _ (by have:=h.act;show Ou p r c x<_;omega)
 have hcr:c.craft.toNat<p.names.length:=by omega
 have e0:0<Bo p c:=mM ho (c.act.toNat+1) (by omega) (Nat.succ_pos _)
 have e1:=(ho.ends p.acts.length (Nat.le_refl _)).2
 have e2:Ht p r c x<=Cj p.acts p.acts.length:=by
  have:=eM ho (j:=Ou p r c x+1) (p.acts.length-(Ou p r c x+1)) (by omega)
  rwa [show Ou p r c x+1+(p.acts.length-(Ou p r c x+1))=p.acts.length by omega] at this
 have hp:(Gj r x).pt=true:=(hh x.spare.toNat (by have:=h.sp;omega)).1
 have ap:(atR p r c x).pt=true:=ho.to (by omega) hcr
 have q4:(Ip p r c x-Eg p c x)%4=0:=by
  have:Int.tmod r.flight 4=0:=f4
  rw[Int.tmod_eq_emod_of_nonneg (by omega)] at this
  show (Bo p c+x.wait+r.flight-(Bo p c+x.wait))%4=0
  omega
 have s1:0<Eg p c x:=by show 0<Bo p c+x.wait;omega
 have s2:Eg p c x<Ip p r c x:=by show Bo p c+x.wait<Bo p c+x.wait+r.flight;omega
 have ef:(Dx p (Ou p r c x+1)).getD c.craft.toNat V3.zero=atR p r c x:=uA p _ _
 have hov:=Mm (a:=Gj r x) (f:=0) (t:=Eg p c x) hp (Int.le_refl 0) (by omega) (by omega)
 have stay:=Mm (a:=atR p r c x) (f:=Ip p r c x) (t:=Ht p r c x) ap (by omega) hge (by omega)
 have tail:=oN ho hcr (k:=Ou p r c x+1) (by omega)
 rw[ef] at tail
 have own:=Xd ho hcr (Ou p r c x+1) (by omega)
 rw[ef] at own
 have go:Br (Ij p r c x) (Gj r x) (atR p r c x) (Eg p c x) (Ip p r c x)/\(Ij p r c x).length<=3:=by
  unfold Ij
  split
  exact⟨eE hp ap h.l1 h.l2 (by omega) s2 (by omega) q4,by rw[aG];exact Nat.le_refl _⟩
  exact⟨Wy (.inl rfl) hp ap (by omega) s2 (by omega),by have:=Hv (Gj r x) (atR p r c x) (Eg p c x) (Ip p r c x) 2;omega⟩
 refine⟨⟨s1,s2,hge,e2,e1⟩,q4,h.sp,by omega,by omega,⟨hlo,act⟩,hp,ap,h.l1,h.l2,⟨hov,?_⟩,⟨go.1,go.1.pos s2,go.2⟩,⟨stay,Hv _ _ _ _ _⟩,⟨tail,?_⟩,own,yK _ (by omega)⟩
 have h1:=hov.pos s1
 have h2:=Hv (Gj r x) (Gj r x) 0 (Eg p c x) 0
 show (Gb _ _ _ _ _).length=1
 omega
 have:=oD p c.craft.toNat (Ou p r c x+1) (p.acts.length-(Ou p r c x+1))
 show (rQ _ _ _ _).length<=_
 omega
end Go.Proofs.YtldnjomacnjhnaaGreat